-- Written by mkprint.py, a program of this session (the printer with additions of its own)
import Derived.Test.YtnfmpopmigbkoaaPFnKeysReadx0
import Derived.Test.YtnfmpopmigbkoaaPFnKeysReadx2
import Derived.Test.YtnfmpopmigbkoaaPFnKeysReadx3
import Derived.Test.YtnfmpopmigbkoaaPFnKeysReadx10
namespace Go.Proofs.Ytnfmpopmigbkoaa.PFnKeysRead
open Go.RowKit Go.Proofs.YtnfmpopmigbkoaaW.PrintWords Go.Proofs.YtnfmpopmigbkoaaW.PrintLast Go.Proofs.YtnfmpopmigbkoaaW.PrintMore
attribute [local go_sem] max2_int min2_int max_two min_two max_three min_three max_four min_four   -- for this text's walks alone
set_option linter.unusedVariables false
set_option linter.unusedSimpArgs false

/-! ### impl_GetVar: function 104 -/
mutual
def impl_GetVar.j0 : Nat → List Int → Int → Bool → Option (Int × Int × Bool)
  | 0, _, _, _ => none
  | k + 1, x0, x1, x18 => if x18 = true then (some (0, 0, false)) else (if 0 ≤ x1 then (if x1 < (x0.length : Int) then (if (wrap64 ((wrap64 (rd x0 x1)) - 128)) < 0 then (impl_GetVar.j1 k x0 x1 (wrap64 (127 - (wrap64 (rd x0 x1)))) 255) else (impl_GetVar.j1 k x0 x1 (wrap64 ((wrap64 (rd x0 x1)) - 128)) 0)) else (none)) else (none))
def impl_GetVar.j1 : Nat → List Int → Int → Int → Int → Option (Int × Int × Bool)
  | 0, _, _, _, _ => none
  | k + 1, x0, x1, x7, x8 => if x7 > 7 then (some (0, 0, false)) else ((impl_numberAt.f k x0 (wrap64 (x1 + 1)) x7 x8).bind fun bt372 => (if bt372.2 = true then ((impl_bytesOf.f k bt372.1).bind fun t374 => (impl_GetVar.j2 k x1 x7 x8 bt372.1 (t374 != x7))) else (impl_GetVar.j2 k x1 x7 x8 bt372.1 true)))
def impl_GetVar.j2 : Nat → Int → Int → Int → Int → Bool → Option (Int × Int × Bool)
  | 0, _, _, _, _, _ => none
  | k + 1, x1, x7, x8, x9, x51 => if x51 = true then (some (0, 0, false)) else (if x8 = 0 then ((impl_in.f x9 (-1000000000000000) 1000000000000000).bind fun t375 => (if t375 = true then (some (x9, wrap64 ((wrap64 (x1 + 1)) + x7), true)) else (some (0, 0, false)))) else ((impl_in.f (wrap64 ((-1) - x9)) (-1000000000000000) 1000000000000000).bind fun t376 => (if t376 = true then (some (wrap64 ((-1) - x9), wrap64 ((wrap64 (x1 + 1)) + x7), true)) else (some (0, 0, false)))))
end
def impl_GetVar.f (k : Nat) (l0 : List Int) (a1 : Int) : Option (Int × Int × Bool) := if a1 < 0 then (impl_GetVar.j0 k l0 a1 true) else (impl_GetVar.j0 k l0 a1 (decide (a1 ≥ (l0.length : Int))))
set_option maxHeartbeats 8000000 in
set_option maxRecDepth 100000 in
theorem impl_GetVar.calls (k : Nat) (A0 : Option Addr) (c0 : Nat) (l0 : List Int) (a1 : Int) (r1 : Int) (r2 : Int) (r3 : Bool) (w : World) (hr0 : Kd.C (Kd.int .u8) w A0 l0.length l0) (hc0 : l0.length ≤ c0) (h : impl_GetVar.f k l0 a1 = some (r1, r2, r3)) :
  Calls Try.prog 104 #[.slice A0 l0.length c0, .int .i64 a1] w fun e w' => e = .returned (.tuple #[.int .i64 r1, .int .i64 r2, .bool r3]) ∧ Drawn0 w w' := by
 have HR0 := zA hr0
 have HC0 := zA hc0
 clear hr0 hc0
 have H : (if a1 < 0 then (impl_GetVar.j0 k l0 a1 true) else (impl_GetVar.j0 k l0 a1 (decide (a1 ≥ (l0.length : Int))))) = some (r1, r2, r3) := h
 clear h
 have HC3 := zA H
 clear H
 go_enter Try.func104, Try.ntmps104
 go_upto_region 1 with (fail)
 go_cut [18] (fun v18 wc => ∃ (kq : Nat) (x18_2 : Bool), v18 = .bool x18_2 ∧ Aside0 (impl_GetVar.j0 kq l0 a1 x18_2 = some (r1, r2, r3)) ∧ Aside0 (kq ≤ k) ∧ Drawn0 w wc)
 case first =>
  have H := HC3.out
  clear HC3
  by_cases c4 : a1 < 0
  ·rw [if_pos c4] at H
   have c4b0 : decide (a1 < 0) = true := decide_eq_true c4
   clear c4
   (first | rw [c4b0] | (simp only [i64_w, i32_w]; rw [c4b0]) | skip)
   have H' := zA H
   clear H
   go_wp2
   go_meet
   case rel => exact ⟨_, (true), zx, H', ⟨zo⟩, zz21⟩
  ·rw [if_neg c4] at H
   have c4b0 : decide (a1 < 0) = false := decide_eq_false c4
   clear c4
   (first | rw [c4b0] | (simp only [i64_w, i32_w]; rw [c4b0]) | skip)
   have H' := zA H
   clear H
   go_wp2
   go_meet
   case rel => exact ⟨_, (decide (a1 ≥ (l0.length : Int))), zx, H', ⟨zo⟩, zz21⟩
 case rest =>
  clear HC3
  obtain ⟨kq, x18_2, rfl, HA, HJ2, ⟨mc2, rfl⟩⟩ := hcut
  cases kq with
  | zero => exact absurd HA.out (by simp [impl_GetVar.j0])
  | succ kj2 =>
   have H := HA.out
   clear HA
   simp only [impl_GetVar.j0] at H
   by_cases c5 : x18_2 = true
   ·subst c5
    rw [if_pos rfl] at H
    simp only [Option.some.injEq, Prod.mk.injEq] at H
    obtain ⟨rfl, rfl, rfl⟩ := H
    go_wp2
    go_ret3
    exact ⟨zx, zz21⟩
   ·replace c5 := Bool.eq_false_iff.mpr c5
    subst c5
    rw [if_neg (Bool.false_ne_true)] at H
    by_cases c6 : 0 ≤ a1
    ·rw [if_pos c6] at H
     have c6b0 : decide (0 ≤ a1) = true := decide_eq_true c6
     clear c6
     by_cases c7 : a1 < (l0.length : Int)
     ·rw [if_pos c7] at H
      have c7b0 : decide (a1 < (l0.length : Int)) = true := decide_eq_true c7
      clear c7
      have HC8 := zA H
      clear H
      have p370 : 0 ≤ (a1 : Int) := of_decide_eq_true za
      have q370 : a1 < (l0.length : Int) := of_decide_eq_true za
      obtain ⟨ad370, e370, hx370_0⟩ := Kd.at_int HR0.out a1 p370 q370
      cases e370
      replace p370 := eq_true p370
      replace q370 := eq_true q370
      go_upto_if 26 with (fail)
      go_cut [7, 8] (fun v7 v8 wc => ∃ (kq : Nat) (x7_7 : Int) (x8_7 : Int), v7 = .int .i64 x7_7 ∧ v8 = .int .u8 x8_7 ∧ Aside0 (impl_GetVar.j1 kq l0 a1 x7_7 x8_7 = some (r1, r2, r3)) ∧ Aside0 (kq ≤ kj2) ∧ Drawn0 w wc)
      case first =>
       have H := HC8.out
       clear HC8
       by_cases c9 : (wrap64 ((wrap64 (rd l0 a1)) - 128)) < 0
       ·rw [if_pos c9] at H
        have c9b0 : decide ((wrap64 ((wrap64 (rd l0 a1)) - 128)) < 0) = true := decide_eq_true c9
        clear c9
        (first | rw [c9b0] | (simp only [i64_w, i32_w]; rw [c9b0]) | skip)
        have H' := zA H
        clear H
        have p371 : 0 ≤ (a1 : Int) := of_decide_eq_true za
        have q371 : a1 < (l0.length : Int) := of_decide_eq_true za
        obtain ⟨ad371, e371, hx371_0⟩ := Kd.at_int HR0.out a1 p371 q371
        obtain rfl : ad370 = ad371 := (by injection e371)
        replace p371 := eq_true p371
        replace q371 := eq_true q371
        go_wp2
        go_meet
        case rel => exact ⟨_, (wrap64 (127 - (wrap64 (rd l0 a1)))), (255), zx, zx, H', ⟨zz92⟩, zz21⟩
       ·rw [if_neg c9] at H
        have c9b0 : decide ((wrap64 ((wrap64 (rd l0 a1)) - 128)) < 0) = false := decide_eq_false c9
        clear c9
        (first | rw [c9b0] | (simp only [i64_w, i32_w]; rw [c9b0]) | skip)
        have H' := zA H
        clear H
        go_wp2
        go_meet
        case rel => exact ⟨_, (wrap64 ((wrap64 (rd l0 a1)) - 128)), (0), zx, zx, H', ⟨zz92⟩, zz21⟩
      case rest =>
       clear HC8
       try clear c5; try clear c6; try clear c6b0; try clear c7; try clear c7b0; try clear hx370_0; try clear p370; try clear q370
       obtain ⟨kq, x7_7, x8_7, rfl, rfl, HA, HJ7, ⟨mc7, rfl⟩⟩ := hcut
       cases kq with
       | zero => exact absurd HA.out (by simp [impl_GetVar.j1])
       | succ kj7 =>
        have H := HA.out
        clear HA
        simp only [impl_GetVar.j1] at H
        by_cases c10 : x7_7 > 7
        ·rw [if_pos c10] at H
         have c10b0 : decide (7 < x7_7) = true := decide_eq_true c10
         clear c10
         simp only [Option.some.injEq, Prod.mk.injEq] at H
         obtain ⟨rfl, rfl, rfl⟩ := H
         go_wp2
         go_ret3
         exact ⟨zx, zz21⟩
        ·rw [if_neg c10] at H
         have c10b0 : decide (7 < x7_7) = false := decide_eq_false c10
         clear c10
         replace H := zI H
         obtain ⟨⟨t372, t373⟩, A11, H⟩ := H
         try dsimp only at H
         have HC12 := zA H
         clear H
         go_upto_region 9 with (first | ((with_reducible refine zg 120 ?_); refine gL (some 41) Try.func120 #[.slice (some ad370) l0.length c0, .int .i64 (wrap64 (a1 + 1)), .int .i64 x7_7, .int .u8 x8_7] ?_; (with_reducible refine (impl_numberAt.calls kj7 _ _ l0 (wrap64 (a1 + 1)) x7_7 x8_7 t372 t373 _ ?z1 ?z2 A11.out).mono ?_); (case z1 => exact zc HR0.out); (case z2 => exact HC0.out); rintro e w' ⟨rfl, ⟨nd, rfl⟩⟩; refine ⟨_, rfl, ?_⟩))
         (try simp only [Act.put, List.setIfInBounds_toArray, List.set_cons_zero, List.set_cons_succ])
         go_cut [51] (fun v51 wc => ∃ (kq : Nat) (x51_11 : Bool), v51 = .bool x51_11 ∧ Aside0 (impl_GetVar.j2 kq a1 x7_7 x8_7 t372 x51_11 = some (r1, r2, r3)) ∧ Aside0 (kq ≤ kj7) ∧ Drawn0 w wc)
         case first =>
          have H := HC12.out
          clear HC12
          by_cases c13 : t373 = true
          ·subst c13
           rw [if_pos rfl] at H
           replace H := zI H
           obtain ⟨t374, A14, H⟩ := H
           have H' := zA H
           clear H
           go_wp2_with (first | (go_at_call 118; (with_reducible refine (impl_bytesOf.calls kj7 t372 t374 _ A14.out).mono ?_); rintro e w' ⟨rfl, ⟨nd, rfl⟩⟩))
           go_meet
           case rel => exact ⟨_, ((t374 != x7_7)), zx, H', ⟨zz93⟩, zz21⟩
          ·replace c13 := Bool.eq_false_iff.mpr c13
           subst c13
           rw [if_neg (Bool.false_ne_true)] at H
           have H' := zA H
           clear H
           go_wp2
           go_meet
           case rel => exact ⟨_, (true), zx, H', ⟨zz93⟩, zz21⟩
         case rest =>
          clear HC12
          try clear c5; try clear c6; try clear c6b0; try clear c7; try clear c7b0; try clear c10; try clear c10b0; try clear hx370_0; try clear p370; try clear q370
          obtain ⟨kq, x51_11, rfl, HA, HJ11, ⟨mc11, rfl⟩⟩ := hcut
          cases kq with
          | zero => exact absurd HA.out (by simp [impl_GetVar.j2])
          | succ kj11 =>
           have H := HA.out
           clear HA
           simp only [impl_GetVar.j2] at H
           by_cases c15 : x51_11 = true
           ·subst c15
            rw [if_pos rfl] at H
            simp only [Option.some.injEq, Prod.mk.injEq] at H
            obtain ⟨rfl, rfl, rfl⟩ := H
            go_wp2
            go_ret3
            exact ⟨zx, zz21⟩
           ·replace c15 := Bool.eq_false_iff.mpr c15
            subst c15
            rw [if_neg (Bool.false_ne_true)] at H
            by_cases c16 : x8_7 = 0
            ·rw [if_pos c16] at H
             have c16b0 : (x8_7 == 0) = true := beq_iff_eq.mpr c16
             have c16b1 : (x8_7 != 0) = false := bne_eq_false_iff_eq.mpr c16
             clear c16
             replace H := zI H
             obtain ⟨t375, A17, H⟩ := H
             by_cases c18 : t375 = true
             ·subst c18
              rw [if_pos rfl] at H
              simp only [Option.some.injEq, Prod.mk.injEq] at H
              obtain ⟨rfl, rfl, rfl⟩ := H
              go_wp2_with (first | ((with_reducible refine zg 80 ?_); refine gL (some 57) Try.func80 #[.int .i64 t372, .int .i64 (-1000000000000000), .int .i64 1000000000000000] ?_; (with_reducible refine (impl_in.calls t372 (-1000000000000000) 1000000000000000 true _ A17.out).mono ?_); rintro e w' ⟨rfl, ⟨nd, rfl⟩⟩; refine ⟨_, rfl, ?_⟩))
              go_ret3
              exact ⟨zx, zz21⟩
             ·replace c18 := Bool.eq_false_iff.mpr c18
              subst c18
              rw [if_neg (Bool.false_ne_true)] at H
              simp only [Option.some.injEq, Prod.mk.injEq] at H
              obtain ⟨rfl, rfl, rfl⟩ := H
              go_wp2_with (first | ((with_reducible refine zg 80 ?_); refine gL (some 57) Try.func80 #[.int .i64 t372, .int .i64 (-1000000000000000), .int .i64 1000000000000000] ?_; (with_reducible refine (impl_in.calls t372 (-1000000000000000) 1000000000000000 false _ A17.out).mono ?_); rintro e w' ⟨rfl, ⟨nd, rfl⟩⟩; refine ⟨_, rfl, ?_⟩))
              go_ret3
              exact ⟨zx, zz21⟩
            ·rw [if_neg c16] at H
             have c16b0 : (x8_7 == 0) = false := beq_eq_false_iff_ne.mpr c16
             have c16b1 : (x8_7 != 0) = true := bne_iff_ne.mpr c16
             replace H := zI H
             obtain ⟨t376, A19, H⟩ := H
             by_cases c20 : t376 = true
             ·subst c20
              rw [if_pos rfl] at H
              simp only [Option.some.injEq, Prod.mk.injEq] at H
              obtain ⟨rfl, rfl, rfl⟩ := H
              go_wp2_with (first | ((with_reducible refine zg 80 ?_); refine gL (some 57) Try.func80 #[.int .i64 (wrap64 ((-1) - t372)), .int .i64 (-1000000000000000), .int .i64 1000000000000000] ?_; (with_reducible refine (impl_in.calls (wrap64 ((-1) - t372)) (-1000000000000000) 1000000000000000 true _ A19.out).mono ?_); rintro e w' ⟨rfl, ⟨nd, rfl⟩⟩; refine ⟨_, rfl, ?_⟩))
              go_ret3
              exact ⟨zx, zz21⟩
             ·replace c20 := Bool.eq_false_iff.mpr c20
              subst c20
              rw [if_neg (Bool.false_ne_true)] at H
              simp only [Option.some.injEq, Prod.mk.injEq] at H
              obtain ⟨rfl, rfl, rfl⟩ := H
              go_wp2_with (first | ((with_reducible refine zg 80 ?_); refine gL (some 57) Try.func80 #[.int .i64 (wrap64 ((-1) - t372)), .int .i64 (-1000000000000000), .int .i64 1000000000000000] ?_; (with_reducible refine (impl_in.calls (wrap64 ((-1) - t372)) (-1000000000000000) 1000000000000000 false _ A19.out).mono ?_); rintro e w' ⟨rfl, ⟨nd, rfl⟩⟩; refine ⟨_, rfl, ?_⟩))
              go_ret3
              exact ⟨zx, zz21⟩
     ·rw [if_neg c7] at H
      exact absurd H (by simp)
    ·rw [if_neg c6] at H
     exact absurd H (by simp)

/-! ### impl_GetEsc: function 105 -/
mutual
def impl_GetEsc.l0 : Nat → List Int → List Int → Int → Option (ByteArray × Int × Bool)
  | 0, _, _, _ => none
  | k + 1, x0, x7, x8 => if x8 ≥ 0 then (impl_GetEsc.j1 k x0 x7 x8 (decide (x8 < (x0.length : Int)))) else (impl_GetEsc.j1 k x0 x7 x8 false)
def impl_GetEsc.j1 : Nat → List Int → List Int → Int → Bool → Option (ByteArray × Int × Bool)
  | 0, _, _, _, _ => none
  | k + 1, x0, x7, x8, x17 => if x17 = true then (if 0 ≤ x8 then (if x8 < (x0.length : Int) then (if (rd x0 x8) = 0 then (if (wrap64 (x8 + 1)) ≥ (x0.length : Int) then (some ((⟨#[]⟩ : ByteArray), 0, false)) else (if 0 ≤ (wrap64 (x8 + 1)) then (if (wrap64 (x8 + 1)) < (x0.length : Int) then (if (rd x0 (wrap64 (x8 + 1))) = 1 then (some (strOfNums x7, wrap64 ((wrap64 (x8 + 1)) + 1), true)) else (if (rd x0 (wrap64 (x8 + 1))) = 255 then (if x7.length < 140737488355328 then (impl_GetEsc.l0 k x0 (x7 ++ [0]) (wrap64 ((wrap64 (x8 + 1)) + 1))) else (none)) else (some ((⟨#[]⟩ : ByteArray), 0, false)))) else (none)) else (none))) else (if x7.length < 140737488355328 then (impl_GetEsc.l0 k x0 (x7 ++ [rd x0 x8]) (wrap64 (x8 + 1))) else (none))) else (none)) else (none)) else (some ((⟨#[]⟩ : ByteArray), 0, false))
end
def impl_GetEsc.f (k : Nat) (l0 : List Int) (a1 : Int) : Option (ByteArray × Int × Bool) := impl_GetEsc.l0 k l0 ([] : List Int) a1
set_option maxHeartbeats 8000000 in
set_option maxRecDepth 100000 in
theorem impl_GetEsc.calls (k : Nat) (A0 : Option Addr) (c0 : Nat) (l0 : List Int) (a1 : Int) (r1 : ByteArray) (r2 : Int) (r3 : Bool) (w : World) (hr0 : Kd.C (Kd.int .u8) w A0 l0.length l0) (hc0 : l0.length ≤ c0) (h : impl_GetEsc.f k l0 a1 = some (r1, r2, r3)) :
  Calls Try.prog 105 #[.slice A0 l0.length c0, .int .i64 a1] w fun e w' => e = .returned (.tuple #[.string r1, .int .i64 r2, .bool r3]) ∧ Below w.heap.size w w' := by
 have HR0 := zA hr0
 have HC0 := zA hc0
 clear hr0 hc0
 have HB := zA (Below.refl w.heap.size w)
 have H : (impl_GetEsc.l0 k l0 ([] : List Int) a1) = some (r1, r2, r3) := h
 clear h
 have H' := zA H
 clear H
 go_enter Try.func105, Try.ntmps105
 go_wp2
 go_loopg [7, 8] k (fun kq v7 v8 w' => ∃ (x7_1 : List Int) (x8_1 : Int), v8 = .int .i64 x8_1 ∧ Aside0 (impl_GetEsc.l0 kq l0 x7_1 x8_1 = some (r1, r2, r3)) ∧ Aside0 (kq ≤ k) ∧ Aside0 (Kd.R (Kd.int .u8) 5 w' w.heap.size (fun _ => True) v7 x7_1) ∧ Aside0 (Below w.heap.size w w'))
 case atStart => exact ⟨(([] : List Int)), (a1), zx, H', ⟨Nat.le_refl _⟩, ⟨zz52⟩, ⟨zb⟩⟩
 case round =>
  clear H'
  obtain ⟨x7_1, x8_1, rfl, HA, HK1, HO_7, HB⟩ := hrel
  cases gk with
  | zero => exact absurd HA.out (by simp [impl_GetEsc.l0])
  | succ k1 =>
   have H := HA.out
   clear HA
   simp only [impl_GetEsc.l0] at H
   have HC3 := zA H
   clear H
   go_upto_region 3 with (fail)
   go_cut [17] (fun v17 wc => ∃ (kq : Nat) (x17_2 : Bool), v17 = .bool x17_2 ∧ Aside0 (impl_GetEsc.j1 kq l0 x7_1 x8_1 x17_2 = some (r1, r2, r3)) ∧ Aside0 (kq ≤ k1) ∧ Aside0 (Kd.R (Kd.int .u8) 5 wc w.heap.size (fun _ => True) u7 x7_1) ∧ Aside0 (Below w.heap.size w wc))
   case first =>
    have H := HC3.out
    clear HC3
    by_cases c4 : x8_1 ≥ 0
    ·rw [if_pos c4] at H
     have c4b0 : decide (0 ≤ x8_1) = true := decide_eq_true c4
     clear c4
     (first | rw [c4b0] | (simp only [i64_w, i32_w]; rw [c4b0]) | skip)
     have H' := zA H
     clear H
     go_wp2
     go_meet
     case rel => exact ⟨_, (decide (x8_1 < (l0.length : Int))), zx, H', ⟨zz84⟩, ⟨zr HO_7⟩, ⟨zb⟩⟩
    ·rw [if_neg c4] at H
     have c4b0 : decide (0 ≤ x8_1) = false := decide_eq_false c4
     clear c4
     (first | rw [c4b0] | (simp only [i64_w, i32_w]; rw [c4b0]) | skip)
     have H' := zA H
     clear H
     go_wp2
     go_meet
     case rel => exact ⟨_, (false), zx, H', ⟨zz84⟩, ⟨zr HO_7⟩, ⟨zb⟩⟩
   case rest =>
    clear HC3
    obtain ⟨kq, x17_2, rfl, HA, HJ2, HO_7, HB⟩ := hcut
    cases kq with
    | zero => exact absurd HA.out (by simp [impl_GetEsc.j1])
    | succ kj2 =>
     have H := HA.out
     clear HA
     simp only [impl_GetEsc.j1] at H
     by_cases c5 : x17_2 = true
     ·subst c5
      rw [if_pos rfl] at H
      by_cases c6 : 0 ≤ x8_1
      ·rw [if_pos c6] at H
       have c6b0 : decide (0 ≤ x8_1) = true := decide_eq_true c6
       clear c6
       by_cases c7 : x8_1 < (l0.length : Int)
       ·rw [if_pos c7] at H
        have c7b0 : decide (x8_1 < (l0.length : Int)) = true := decide_eq_true c7
        clear c7
        by_cases c8 : (rd l0 x8_1) = 0
        ·rw [if_pos c8] at H
         have c8b0 : ((rd l0 x8_1) == 0) = true := beq_iff_eq.mpr c8
         have c8b1 : ((rd l0 x8_1) != 0) = false := bne_eq_false_iff_eq.mpr c8
         clear c8
         by_cases c9 : (wrap64 (x8_1 + 1)) ≥ (l0.length : Int)
         ·rw [if_pos c9] at H
          have c9b0 : decide ((l0.length : Int) ≤ (wrap64 (x8_1 + 1))) = true := decide_eq_true c9
          clear c9
          simp only [Option.some.injEq, Prod.mk.injEq] at H
          obtain ⟨rfl, rfl, rfl⟩ := H
          have p377 : 0 ≤ (x8_1 : Int) := of_decide_eq_true za
          have q377 : x8_1 < (l0.length : Int) := of_decide_eq_true za
          obtain ⟨ad377, e377, hx377_0⟩ := Kd.at_int HR0.out x8_1 p377 q377
          cases e377
          replace hx377_0 := zj hx377_0
          replace p377 := eq_true p377
          replace q377 := eq_true q377
          go_wp2
          go_ret3
          exact ⟨zw, zb⟩
         ·rw [if_neg c9] at H
          have c9b0 : decide ((l0.length : Int) ≤ (wrap64 (x8_1 + 1))) = false := decide_eq_false c9
          clear c9
          obtain ⟨ji10, hji10⟩ : ∃ j_ : Int, (wrap64 (x8_1 + 1)) = j_ := ⟨_, rfl⟩
          replace H : (if 0 ≤ (ji10) then (if (ji10) < (l0.length : Int) then (if (rd l0 (ji10)) = 1 then (some (strOfNums x7_1, wrap64 ((ji10) + 1), true)) else (if (rd l0 (ji10)) = 255 then (if x7_1.length < 140737488355328 then (impl_GetEsc.l0 kj2 l0 (x7_1 ++ [0]) (wrap64 ((ji10) + 1))) else (none)) else (some ((⟨#[]⟩ : ByteArray), 0, false)))) else (none)) else (none)) = some (r1, r2, r3) := by first | (rw [hji10] at H; exact H) | (simp only [hji10] at H ⊢; exact H)
          (try rw [hji10] at c9b0)
          have hji10w : (IntKind.i64.wrap (x8_1 + 1)) = ji10 := (i64_w _).trans hji10
          by_cases c11 : 0 ≤ (ji10)
          ·rw [if_pos c11] at H
           have c11b0 : decide (0 ≤ (ji10)) = true := decide_eq_true c11
           clear c11
           by_cases c12 : (ji10) < (l0.length : Int)
           ·rw [if_pos c12] at H
            have c12b0 : decide ((ji10) < (l0.length : Int)) = true := decide_eq_true c12
            clear c12
            by_cases c13 : (rd l0 (ji10)) = 1
            ·rw [if_pos c13] at H
             have c13b0 : ((rd l0 (ji10)) == 1) = true := beq_iff_eq.mpr c13
             have c13b1 : ((rd l0 (ji10)) != 1) = false := bne_eq_false_iff_eq.mpr c13
             clear c13
             simp only [Option.some.injEq, Prod.mk.injEq] at H
             obtain ⟨rfl, rfl, rfl⟩ := H
             have p377 : 0 ≤ (x8_1 : Int) := of_decide_eq_true za
             have q377 : x8_1 < (l0.length : Int) := of_decide_eq_true za
             obtain ⟨ad377, e377, hx377_0⟩ := Kd.at_int HR0.out x8_1 p377 q377
             cases e377
             replace hx377_0 := zj hx377_0
             replace p377 := eq_true p377
             replace q377 := eq_true q377
             have p382 : 0 ≤ ((ji10) : Int) := of_decide_eq_true za
             have q382 : (ji10) < (l0.length : Int) := of_decide_eq_true za
             obtain ⟨ad382, e382, hx382_0⟩ := Kd.at_int HR0.out (ji10) p382 q382
             obtain rfl : ad377 = ad382 := (by injection e382)
             replace hx382_0 := zj hx382_0
             replace p382 := eq_true p382
             replace q382 := eq_true q382
             have hcv14 := own_string (P := Try.prog) Try.underlying22 Try.underlying5 Try.underlying9 (Kd.own_of_R HO_7.out)
             go_wp2
             go_ret3
             exact ⟨zz85, zb⟩
            ·rw [if_neg c13] at H
             have c13b0 : ((rd l0 (ji10)) == 1) = false := beq_eq_false_iff_ne.mpr c13
             have c13b1 : ((rd l0 (ji10)) != 1) = true := bne_iff_ne.mpr c13
             by_cases c15 : (rd l0 (ji10)) = 255
             ·rw [if_pos c15] at H
              have c15b0 : ((rd l0 (ji10)) == 255) = true := beq_iff_eq.mpr c15
              have c15b1 : ((rd l0 (ji10)) != 255) = false := bne_eq_false_iff_eq.mpr c15
              clear c15
              by_cases c16 : x7_1.length < 140737488355328
              ·rw [if_pos c16] at H
               have LMc16 := zA c16
               clear c16
               obtain ⟨y383, hy383⟩ : ∃ y_ : List Int, y_ = (x7_1 ++ [0]) := ⟨_, rfl⟩
               replace H : (impl_GetEsc.l0 kj2 l0 y383 (wrap64 ((ji10) + 1))) = some (r1, r2, r3) := zy hy383
               have Ny383 := zA hy383
               clear hy383
               have H' := zA H
               clear H
               have p377 : 0 ≤ (x8_1 : Int) := of_decide_eq_true za
               have q377 : x8_1 < (l0.length : Int) := of_decide_eq_true za
               obtain ⟨ad377, e377, hx377_0⟩ := Kd.at_int HR0.out x8_1 p377 q377
               cases e377
               replace hx377_0 := zj hx377_0
               replace p377 := eq_true p377
               replace q377 := eq_true q377
               have p382 : 0 ≤ ((ji10) : Int) := of_decide_eq_true za
               have q382 : (ji10) < (l0.length : Int) := of_decide_eq_true za
               obtain ⟨ad382, e382, hx382_0⟩ := Kd.at_int HR0.out (ji10) p382 q382
               obtain rfl : ad377 = ad382 := (by injection e382)
               replace hx382_0 := zj hx382_0
               replace p382 := eq_true p382
               replace q382 := eq_true q382
               go_wp2_with (first | ((with_reducible refine gate_builtin (b := .append) (xs := #[.tmp 50, .tmp 51]) rfl ?_); (try (refine gate_guard (by rfl) ?_; dsimp only)); at_builtin; refine Kd.R_append (Kd.int .u8) (w0 := w) w.heap.size rfl (.tmp 50) (.tmp 51) 22 5 (.int .u8 0) 1 rfl Try.underlying22 info5 rfl (by decide) (by omega) u7 x7_1 0 [.int .u8 0] (fun _ => True) (fun _ => False) rfl rfl ?aP (fun _ hk => hk.elim) ?aF ?aO ?aB ?aS ?aL ?_; (case aP => exact rfl); (case aB => exact zb); (case aF => exact (fun _ _ => trivial)); (case aO => exact (zr HO_7)); (case aS => exact (below_size zb)); (case aL => have := LMc16.out; omega); intro v384 w17 ho hb hg hat; rw [← Ny383.out] at ho; replace HB := zA hb; have HO385 := zA ho; clear HO_7 ho hb hg hat))
               go_roundg kj2
               case measure => have := HK1.out; have := HJ2.out; omega
               case rel => exact ⟨(y383), (wrap64 ((ji10) + 1)), zz88, H', ⟨by have := HK1.out; have := HJ2.out; omega⟩, ⟨zr HO385⟩, ⟨zb⟩⟩
              ·rw [if_neg c16] at H
               exact absurd H (by simp)
             ·rw [if_neg c15] at H
              have c15b0 : ((rd l0 (ji10)) == 255) = false := beq_eq_false_iff_ne.mpr c15
              have c15b1 : ((rd l0 (ji10)) != 255) = true := bne_iff_ne.mpr c15
              simp only [Option.some.injEq, Prod.mk.injEq] at H
              obtain ⟨rfl, rfl, rfl⟩ := H
              have p377 : 0 ≤ (x8_1 : Int) := of_decide_eq_true za
              have q377 : x8_1 < (l0.length : Int) := of_decide_eq_true za
              obtain ⟨ad377, e377, hx377_0⟩ := Kd.at_int HR0.out x8_1 p377 q377
              cases e377
              replace hx377_0 := zj hx377_0
              replace p377 := eq_true p377
              replace q377 := eq_true q377
              have p382 : 0 ≤ ((ji10) : Int) := of_decide_eq_true za
              have q382 : (ji10) < (l0.length : Int) := of_decide_eq_true za
              obtain ⟨ad382, e382, hx382_0⟩ := Kd.at_int HR0.out (ji10) p382 q382
              obtain rfl : ad377 = ad382 := (by injection e382)
              replace hx382_0 := zj hx382_0
              replace p382 := eq_true p382
              replace q382 := eq_true q382
              go_wp2
              go_ret3
              exact ⟨zz85, zb⟩
           ·rw [if_neg c12] at H
            exact absurd H (by simp)
          ·rw [if_neg c11] at H
           exact absurd H (by simp)
        ·rw [if_neg c8] at H
         have c8b0 : ((rd l0 x8_1) == 0) = false := beq_eq_false_iff_ne.mpr c8
         have c8b1 : ((rd l0 x8_1) != 0) = true := bne_iff_ne.mpr c8
         by_cases c18 : x7_1.length < 140737488355328
         ·rw [if_pos c18] at H
          have LMc18 := zA c18
          clear c18
          obtain ⟨y379, hy379⟩ : ∃ y_ : List Int, y_ = (x7_1 ++ [rd l0 x8_1]) := ⟨_, rfl⟩
          replace H : (impl_GetEsc.l0 kj2 l0 y379 (wrap64 (x8_1 + 1))) = some (r1, r2, r3) := zy hy379
          have Ny379 := zA hy379
          clear hy379
          have H' := zA H
          clear H
          have p377 : 0 ≤ (x8_1 : Int) := of_decide_eq_true za
          have q377 : x8_1 < (l0.length : Int) := of_decide_eq_true za
          obtain ⟨ad377, e377, hx377_0⟩ := Kd.at_int HR0.out x8_1 p377 q377
          cases e377
          replace hx377_0 := zj hx377_0
          replace p377 := eq_true p377
          replace q377 := eq_true q377
          have p378 : 0 ≤ (x8_1 : Int) := of_decide_eq_true za
          have q378 : x8_1 < (l0.length : Int) := of_decide_eq_true za
          obtain ⟨ad378, e378, hx378_0⟩ := Kd.at_int HR0.out x8_1 p378 q378
          obtain rfl : ad377 = ad378 := (by injection e378)
          replace hx378_0 := zj hx378_0
          replace p378 := eq_true p378
          replace q378 := eq_true q378
          go_wp2_with (first | ((with_reducible refine gate_builtin (b := .append) (xs := #[.tmp 25, .tmp 30]) rfl ?_); (try (refine gate_guard (by rfl) ?_; dsimp only)); at_builtin; refine Kd.R_append (Kd.int .u8) (w0 := w) w.heap.size rfl (.tmp 25) (.tmp 30) 22 5 (.int .u8 0) 1 rfl Try.underlying22 info5 rfl (by decide) (by omega) u7 x7_1 (rd l0 x8_1) [.int .u8 (rd l0 x8_1)] (fun _ => True) (fun _ => False) rfl rfl ?aP (fun _ hk => hk.elim) ?aF ?aO ?aB ?aS ?aL ?_; (case aP => exact rfl); (case aB => exact zb); (case aF => exact (fun _ _ => trivial)); (case aO => exact (zr HO_7)); (case aS => exact (below_size zb)); (case aL => have := LMc18.out; omega); intro v380 w19 ho hb hg hat; rw [← Ny379.out] at ho; replace HB := zA hb; have HO381 := zA ho; clear HO_7 ho hb hg hat))
          go_roundg kj2
          case measure => have := HK1.out; have := HJ2.out; omega
          case rel => exact ⟨(y379), (wrap64 (x8_1 + 1)), zx, H', ⟨by have := HK1.out; have := HJ2.out; omega⟩, ⟨zr HO381⟩, ⟨zb⟩⟩
         ·rw [if_neg c18] at H
          exact absurd H (by simp)
       ·rw [if_neg c7] at H
        exact absurd H (by simp)
      ·rw [if_neg c6] at H
       exact absurd H (by simp)
     ·replace c5 := Bool.eq_false_iff.mpr c5
      subst c5
      rw [if_neg (Bool.false_ne_true)] at H
      simp only [Option.some.injEq, Prod.mk.injEq] at H
      obtain ⟨rfl, rfl, rfl⟩ := H
      go_wp2
      go_ret3
      exact ⟨zw, zb⟩

/-! ### impl_typedAt: function 74 -/
def impl_typedAt.f (k : Nat) (l0 : List Int) (a1 : Int) (a2 : Int) : Option (Int × Int × ByteArray × Int × Bool) := if a1 = 1 then ((impl_GetFix.f k l0 a2).bind fun bt388 => (some (a1, bt388.1, (⟨#[]⟩ : ByteArray), bt388.2.1, bt388.2.2))) else (if a1 = 2 then ((impl_GetVar.f k l0 a2).bind fun bt391 => (some (a1, bt391.1, (⟨#[]⟩ : ByteArray), bt391.2.1, bt391.2.2))) else (if a1 = 3 then ((impl_GetEsc.f k l0 a2).bind fun bt394 => (some (a1, 0, bt394.1, bt394.2.1, bt394.2.2))) else (if a1 = 4 then (if a2 ≥ 0 then (if a2 < (l0.length : Int) then (if 0 ≤ a2 then (some (a1, wrap64 (rd l0 a2), (⟨#[]⟩ : ByteArray), wrap64 (a2 + 1), true)) else (none)) else (some (a1, 0, (⟨#[]⟩ : ByteArray), 0, false))) else (some (a1, 0, (⟨#[]⟩ : ByteArray), 0, false))) else (some (a1, 0, (⟨#[]⟩ : ByteArray), 0, false)))))
set_option maxHeartbeats 8000000 in
set_option maxRecDepth 100000 in
theorem impl_typedAt.calls (k : Nat) (A0 : Option Addr) (c0 : Nat) (l0 : List Int) (a1 : Int) (a2 : Int) (r1 : Int) (r2 : Int) (r3 : ByteArray) (r4 : Int) (r5 : Bool) (w : World) (hr0 : Kd.C (Kd.int .u8) w A0 l0.length l0) (hc0 : l0.length ≤ c0) (h : impl_typedAt.f k l0 a1 a2 = some (r1, r2, r3, r4, r5)) :
  Calls Try.prog 74 #[.slice A0 l0.length c0, .int .i64 a1, .int .i64 a2] w fun e w' => e = .returned (.tuple #[.agg #[.int .i64 r1, .int .i64 r2, .string r3], .int .i64 r4, .bool r5]) ∧ Below w.heap.size w w' := by
 have hu32 := Try.underlying32
 have HR0 := zA hr0
 have HC0 := zA hc0
 clear hr0 hc0
 have HB := zA (Below.refl w.heap.size w)
 have H : (if a1 = 1 then ((impl_GetFix.f k l0 a2).bind fun bt388 => (some (a1, bt388.1, (⟨#[]⟩ : ByteArray), bt388.2.1, bt388.2.2))) else (if a1 = 2 then ((impl_GetVar.f k l0 a2).bind fun bt391 => (some (a1, bt391.1, (⟨#[]⟩ : ByteArray), bt391.2.1, bt391.2.2))) else (if a1 = 3 then ((impl_GetEsc.f k l0 a2).bind fun bt394 => (some (a1, 0, bt394.1, bt394.2.1, bt394.2.2))) else (if a1 = 4 then (if a2 ≥ 0 then (if a2 < (l0.length : Int) then (if 0 ≤ a2 then (some (a1, wrap64 (rd l0 a2), (⟨#[]⟩ : ByteArray), wrap64 (a2 + 1), true)) else (none)) else (some (a1, 0, (⟨#[]⟩ : ByteArray), 0, false))) else (some (a1, 0, (⟨#[]⟩ : ByteArray), 0, false))) else (some (a1, 0, (⟨#[]⟩ : ByteArray), 0, false)))))) = some (r1, r2, r3, r4, r5) := h
 clear h
 by_cases c4 : a1 = 1
 ·rw [if_pos c4] at H
  have c4b0 : (a1 == 1) = true := beq_iff_eq.mpr c4
  have c4b1 : (a1 != 1) = false := bne_eq_false_iff_eq.mpr c4
  clear c4
  replace H := zI H
  obtain ⟨⟨t388, t389, t390⟩, A5, H⟩ := H
  try dsimp only at H
  simp only [Option.some.injEq, Prod.mk.injEq] at H
  obtain ⟨rfl, rfl, rfl, rfl, rfl⟩ := H
  go_enter Try.func74, Try.ntmps74
  go_wp2_with (first | ((with_reducible refine zt 6 ?_); (try (refine gate_guard (by rfl) ?_; dsimp only)); refine zn #[.int .i64 0, .int .i64 0, .string (⟨#[]⟩ : ByteArray)] 32 ?_; intro gb386 hg w6 hbox hb; have BK386 := zA hbox; have GW386 := zG hg; have GE386 := zG hg; replace HB := zS hb; clear hb hbox hg) | ((with_reducible refine zt 9 ?_); (try (refine gate_guard (by rfl) ?_; dsimp only)); refine zn #[.int .i64 0, .int .i64 0, .string (⟨#[]⟩ : ByteArray)] 32 ?_; intro gb387 hg w7 hbox hb; have BK387 := zA hbox; have GW387 := zG hg (zb1 GE386); have GE387 := zG hg (zb1 GE386); replace HB := zS hb (zb1 GE386); have NB386_387 := zX BK386 hg; have NB387_386 := zY BK386 hg; replace BK386 := zB BK386 hb; clear hb hbox hg; have hnb8 := NB387_386.out; have hnc8 := NB386_387.out; obtain ⟨hcz9_0, hcz9_1, hcz9_2, hfz9_0, hfz9_1, hfz9_2⟩ := zh3 BK387) | ((with_reducible refine gate_store (t := 32) (p := 9) rfl ?_); refine store_event (t := 32) (p := 9) (v := ?vo_w10) (w1 := (((w7.setCell ⟨gb387, 0, none⟩ (.int .i64 a1)).setCell ⟨gb387, 1, none⟩ (.int .i64 0)).setCell ⟨gb387, 2, none⟩ (.string (⟨#[]⟩ : ByteArray)))) ?hg ?ho ?hn ?hr ?_; (case ho => rfl); (case hg => rfl); (case hn => rfl); (case hr => exact zz16); intro w10 hw; replace BK386 : Aside0 (w10.heap[gb386]? = some (.cells #[.int .i64 0, .int .i64 0, .string (⟨#[]⟩ : ByteArray)] 32 (0, 0))) := ⟨zz106⟩; replace BK387 : Aside0 (w10.heap[gb387]? = some (.cells #[.int .i64 a1, .int .i64 0, .string (⟨#[]⟩ : ByteArray)] 32 (0, 0))) := ⟨zz107⟩; replace HB : Aside0 (Below w.heap.size w w10) := ⟨zz86⟩; clear hw) | ((with_reducible refine zg 103 ?_); refine gL (some 20) Try.func103 #[.slice A0 l0.length c0, .int .i64 a2] ?_; (with_reducible refine (impl_GetFix.calls k _ _ l0 a2 t388 t389 t390 _ ?z1 ?z2 A5.out).mono ?_); (case z1 => exact zd HR0); (case z2 => exact HC0.out); rintro e w' ⟨rfl, ⟨nd, rfl⟩⟩; refine ⟨_, rfl, ?_⟩; (try (rw [drewN_self w10]; generalize hq_ : World.drewN w10 _ = w10; replace BK386 : Aside0 (w10.heap[gb386]? = some (.cells #[.int .i64 0, .int .i64 0, .string (⟨#[]⟩ : ByteArray)] 32 (0, 0))) := ⟨by rw [← hq_]; exact (zk BK386)⟩; replace BK387 : Aside0 (w10.heap[gb387]? = some (.cells #[.int .i64 a1, .int .i64 0, .string (⟨#[]⟩ : ByteArray)] 32 (0, 0))) := ⟨by rw [← hq_]; exact (zk BK387)⟩; replace HB : Aside0 (Below w.heap.size w w10) := ⟨by rw [← hq_]; exact (zb2 GE386 GE387)⟩; clear hq_)); obtain ⟨hcz11_0, hcz11_1, hcz11_2, hfz11_0, hfz11_1, hfz11_2⟩ := zh3 BK387) | ((with_reducible refine gate_store (t := 3) (p := 24) rfl ?_); refine store_event (t := 3) (p := 24) (v := ?vo_w12) (w1 := (w10.setCell ⟨gb387, 1, none⟩ (.int .i64 t388))) ?hg ?ho ?hn ?hr ?_; (case ho => rfl); (case hg => rfl); (case hn => rfl); (case hr => exact zz16); intro w12 hw; replace BK386 : Aside0 (w12.heap[gb386]? = some (.cells #[.int .i64 0, .int .i64 0, .string (⟨#[]⟩ : ByteArray)] 32 (0, 0))) := ⟨(by rw [hw]; exact zz62)⟩; replace BK387 : Aside0 (w12.heap[gb387]? = some (.cells #[.int .i64 a1, .int .i64 t388, .string (⟨#[]⟩ : ByteArray)] 32 (0, 0))) := ⟨(by rw [hw]; exact zz65)⟩; replace HB : Aside0 (Below w.heap.size w w12) := ⟨zz86⟩; clear hw; obtain ⟨hcz13_0, hcz13_1, hcz13_2, hfz13_0, hfz13_1, hfz13_2⟩ := zh3 BK387; obtain ⟨hcz14_0, hcz14_1, hcz14_2, hfz14_0, hfz14_1, hfz14_2⟩ := zh3 BK386))
  refine bodyPost_ret (results_ctt rfl _ _ gb386 32 #[.int .i64 a1, .int .i64 t388, .string (⟨#[]⟩ : ByteArray)] (0, 0) _ rfl (by (with_reducible repeat (first | refine blk_drewN ?_ _ | refine blk_drew ?_ | refine blk_alloc ?_ _)); refine blk_put (cs := #[.int .i64 a1, .int .i64 t388, .string (⟨#[]⟩ : ByteArray)]) ?_ 2 _ rfl; (with_reducible repeat (first | refine blk_drewN ?_ _ | refine blk_drew ?_ | refine blk_alloc ?_ _)); refine blk_put (cs := #[.int .i64 a1, .int .i64 0, .string (⟨#[]⟩ : ByteArray)]) ?_ 1 _ rfl; (with_reducible repeat (first | refine blk_drewN ?_ _ | refine blk_drew ?_ | refine blk_alloc ?_ _)); refine blk_put (cs := #[.int .i64 0, .int .i64 0, .string (⟨#[]⟩ : ByteArray)]) ?_ 0 _ rfl; (with_reducible repeat (first | refine blk_drewN ?_ _ | refine blk_drew ?_ | refine blk_alloc ?_ _)); exact BK386.out) Try.underlying32 rfl (by kernel_rfl)) rfl ?_
  exact ⟨zw, zb2 GE386 GE387⟩
 ·rw [if_neg c4] at H
  have c4b0 : (a1 == 1) = false := beq_eq_false_iff_ne.mpr c4
  have c4b1 : (a1 != 1) = true := bne_iff_ne.mpr c4
  by_cases c15 : a1 = 2
  ·rw [if_pos c15] at H
   have c15b0 : (a1 == 2) = true := beq_iff_eq.mpr c15
   have c15b1 : (a1 != 2) = false := bne_eq_false_iff_eq.mpr c15
   clear c15
   replace H := zI H
   obtain ⟨⟨t391, t392, t393⟩, A16, H⟩ := H
   try dsimp only at H
   simp only [Option.some.injEq, Prod.mk.injEq] at H
   obtain ⟨rfl, rfl, rfl, rfl, rfl⟩ := H
   go_enter Try.func74, Try.ntmps74
   go_wp2_with (first | ((with_reducible refine zt 6 ?_); (try (refine gate_guard (by rfl) ?_; dsimp only)); refine zn #[.int .i64 0, .int .i64 0, .string (⟨#[]⟩ : ByteArray)] 32 ?_; intro gb386 hg w17 hbox hb; have BK386 := zA hbox; have GW386 := zG hg; have GE386 := zG hg; replace HB := zS hb; clear hb hbox hg) | ((with_reducible refine zt 9 ?_); (try (refine gate_guard (by rfl) ?_; dsimp only)); refine zn #[.int .i64 0, .int .i64 0, .string (⟨#[]⟩ : ByteArray)] 32 ?_; intro gb387 hg w18 hbox hb; have BK387 := zA hbox; have GW387 := zG hg (zb1 GE386); have GE387 := zG hg (zb1 GE386); replace HB := zS hb (zb1 GE386); have NB386_387 := zX BK386 hg; have NB387_386 := zY BK386 hg; replace BK386 := zB BK386 hb; clear hb hbox hg; have hnb19 := NB387_386.out; have hnc19 := NB386_387.out; obtain ⟨hcz20_0, hcz20_1, hcz20_2, hfz20_0, hfz20_1, hfz20_2⟩ := zh3 BK387) | ((with_reducible refine gate_store (t := 32) (p := 9) rfl ?_); refine store_event (t := 32) (p := 9) (v := ?vo_w21) (w1 := (((w18.setCell ⟨gb387, 0, none⟩ (.int .i64 a1)).setCell ⟨gb387, 1, none⟩ (.int .i64 0)).setCell ⟨gb387, 2, none⟩ (.string (⟨#[]⟩ : ByteArray)))) ?hg ?ho ?hn ?hr ?_; (case ho => rfl); (case hg => rfl); (case hn => rfl); (case hr => exact zz16); intro w21 hw; replace BK386 : Aside0 (w21.heap[gb386]? = some (.cells #[.int .i64 0, .int .i64 0, .string (⟨#[]⟩ : ByteArray)] 32 (0, 0))) := ⟨zz106⟩; replace BK387 : Aside0 (w21.heap[gb387]? = some (.cells #[.int .i64 a1, .int .i64 0, .string (⟨#[]⟩ : ByteArray)] 32 (0, 0))) := ⟨zz107⟩; replace HB : Aside0 (Below w.heap.size w w21) := ⟨zz86⟩; clear hw) | ((with_reducible refine zg 104 ?_); refine gL (some 30) Try.func104 #[.slice A0 l0.length c0, .int .i64 a2] ?_; (with_reducible refine (impl_GetVar.calls k _ _ l0 a2 t391 t392 t393 _ ?z1 ?z2 A16.out).mono ?_); (case z1 => exact zd HR0); (case z2 => exact HC0.out); rintro e w' ⟨rfl, ⟨nd, rfl⟩⟩; refine ⟨_, rfl, ?_⟩; (try (rw [drewN_self w21]; generalize hq_ : World.drewN w21 _ = w21; replace BK386 : Aside0 (w21.heap[gb386]? = some (.cells #[.int .i64 0, .int .i64 0, .string (⟨#[]⟩ : ByteArray)] 32 (0, 0))) := ⟨by rw [← hq_]; exact (zk BK386)⟩; replace BK387 : Aside0 (w21.heap[gb387]? = some (.cells #[.int .i64 a1, .int .i64 0, .string (⟨#[]⟩ : ByteArray)] 32 (0, 0))) := ⟨by rw [← hq_]; exact (zk BK387)⟩; replace HB : Aside0 (Below w.heap.size w w21) := ⟨by rw [← hq_]; exact (zb2 GE386 GE387)⟩; clear hq_)); obtain ⟨hcz22_0, hcz22_1, hcz22_2, hfz22_0, hfz22_1, hfz22_2⟩ := zh3 BK387) | ((with_reducible refine gate_store (t := 3) (p := 34) rfl ?_); refine store_event (t := 3) (p := 34) (v := ?vo_w23) (w1 := (w21.setCell ⟨gb387, 1, none⟩ (.int .i64 t391))) ?hg ?ho ?hn ?hr ?_; (case ho => rfl); (case hg => rfl); (case hn => rfl); (case hr => exact zz16); intro w23 hw; replace BK386 : Aside0 (w23.heap[gb386]? = some (.cells #[.int .i64 0, .int .i64 0, .string (⟨#[]⟩ : ByteArray)] 32 (0, 0))) := ⟨(by rw [hw]; exact zz62)⟩; replace BK387 : Aside0 (w23.heap[gb387]? = some (.cells #[.int .i64 a1, .int .i64 t391, .string (⟨#[]⟩ : ByteArray)] 32 (0, 0))) := ⟨(by rw [hw]; exact zz65)⟩; replace HB : Aside0 (Below w.heap.size w w23) := ⟨zz86⟩; clear hw; obtain ⟨hcz24_0, hcz24_1, hcz24_2, hfz24_0, hfz24_1, hfz24_2⟩ := zh3 BK387; obtain ⟨hcz25_0, hcz25_1, hcz25_2, hfz25_0, hfz25_1, hfz25_2⟩ := zh3 BK386))
   refine bodyPost_ret (results_ctt rfl _ _ gb386 32 #[.int .i64 a1, .int .i64 t391, .string (⟨#[]⟩ : ByteArray)] (0, 0) _ rfl (by (with_reducible repeat (first | refine blk_drewN ?_ _ | refine blk_drew ?_ | refine blk_alloc ?_ _)); refine blk_put (cs := #[.int .i64 a1, .int .i64 t391, .string (⟨#[]⟩ : ByteArray)]) ?_ 2 _ rfl; (with_reducible repeat (first | refine blk_drewN ?_ _ | refine blk_drew ?_ | refine blk_alloc ?_ _)); refine blk_put (cs := #[.int .i64 a1, .int .i64 0, .string (⟨#[]⟩ : ByteArray)]) ?_ 1 _ rfl; (with_reducible repeat (first | refine blk_drewN ?_ _ | refine blk_drew ?_ | refine blk_alloc ?_ _)); refine blk_put (cs := #[.int .i64 0, .int .i64 0, .string (⟨#[]⟩ : ByteArray)]) ?_ 0 _ rfl; (with_reducible repeat (first | refine blk_drewN ?_ _ | refine blk_drew ?_ | refine blk_alloc ?_ _)); exact BK386.out) Try.underlying32 rfl (by kernel_rfl)) rfl ?_
   exact ⟨zw, zb2 GE386 GE387⟩
  ·rw [if_neg c15] at H
   have c15b0 : (a1 == 2) = false := beq_eq_false_iff_ne.mpr c15
   have c15b1 : (a1 != 2) = true := bne_iff_ne.mpr c15
   by_cases c26 : a1 = 3
   ·rw [if_pos c26] at H
    have c26b0 : (a1 == 3) = true := beq_iff_eq.mpr c26
    have c26b1 : (a1 != 3) = false := bne_eq_false_iff_eq.mpr c26
    clear c26
    replace H := zI H
    obtain ⟨⟨t394, t395, t396⟩, A27, H⟩ := H
    try dsimp only at H
    simp only [Option.some.injEq, Prod.mk.injEq] at H
    obtain ⟨rfl, rfl, rfl, rfl, rfl⟩ := H
    go_enter Try.func74, Try.ntmps74
    go_wp2_with (first | ((with_reducible refine zt 6 ?_); (try (refine gate_guard (by rfl) ?_; dsimp only)); refine zn #[.int .i64 0, .int .i64 0, .string (⟨#[]⟩ : ByteArray)] 32 ?_; intro gb386 hg w28 hbox hb; have BK386 := zA hbox; have GW386 := zG hg; have GE386 := zG hg; replace HB := zS hb; clear hb hbox hg) | ((with_reducible refine zt 9 ?_); (try (refine gate_guard (by rfl) ?_; dsimp only)); refine zn #[.int .i64 0, .int .i64 0, .string (⟨#[]⟩ : ByteArray)] 32 ?_; intro gb387 hg w29 hbox hb; have BK387 := zA hbox; have GW387 := zG hg (zb1 GE386); have GE387 := zG hg (zb1 GE386); replace HB := zS hb (zb1 GE386); have NB386_387 := zX BK386 hg; have NB387_386 := zY BK386 hg; replace BK386 := zB BK386 hb; clear hb hbox hg; have hnb30 := NB387_386.out; have hnc30 := NB386_387.out; obtain ⟨hcz31_0, hcz31_1, hcz31_2, hfz31_0, hfz31_1, hfz31_2⟩ := zh3 BK387) | ((with_reducible refine zg 105 ?_); refine gL (some 40) Try.func105 #[.slice A0 l0.length c0, .int .i64 a2] ?_; (with_reducible refine (impl_GetEsc.calls k _ _ l0 a2 t394 t395 t396 _ ?z1 ?z2 A27.out).mono ?_); (case z1 => exact Kd.C_below HR0.out (zb2 GE386 GE387)); (case z2 => exact HC0.out); rintro e w32 ⟨rfl, hb⟩; refine ⟨_, rfl, ?_⟩; replace BK386 := zA (blk_below (g := gb386) (o := .cells #[.int .i64 0, .int .i64 0, .string (⟨#[]⟩ : ByteArray)] 32 (0, 0)) zz8 hb); replace BK387 := zA (blk_below (g := gb387) (o := .cells #[.int .i64 a1, .int .i64 0, .string (⟨#[]⟩ : ByteArray)] 32 (0, 0)) zz3 hb); replace HB := zS hb (zb2 GE386 GE387); (try clear hb); obtain ⟨hcz33_0, hcz33_1, hcz33_2, hfz33_0, hfz33_1, hfz33_2⟩ := zh3 BK387) | ((with_reducible refine gate_store (t := 9) (p := 44) rfl ?_); refine store_event (t := 9) (p := 44) (v := ?vo_w34) (w1 := (w32.setCell ⟨gb387, 2, none⟩ (.string t394))) ?hg ?ho ?hn ?hr ?_; (case ho => rfl); (case hg => rfl); (case hn => rfl); (case hr => exact zz16); intro w34 hw; replace BK386 : Aside0 (w34.heap[gb386]? = some (.cells #[.int .i64 0, .int .i64 0, .string (⟨#[]⟩ : ByteArray)] 32 (0, 0))) := ⟨(by rw [hw]; exact zz62)⟩; replace BK387 : Aside0 (w34.heap[gb387]? = some (.cells #[.int .i64 a1, .int .i64 0, .string t394] 32 (0, 0))) := ⟨(by rw [hw]; exact (by (with_reducible repeat (first | refine blk_drewN ?_ _ | refine blk_drew ?_ | refine blk_alloc ?_ _)); refine blk_put (cs := #[.int .i64 a1, .int .i64 0, .string (⟨#[]⟩ : ByteArray)]) ?_ 2 _ rfl; (with_reducible repeat (first | refine blk_drewN ?_ _ | refine blk_drew ?_ | refine blk_alloc ?_ _)); exact BK387.out))⟩; replace HB : Aside0 (Below w.heap.size w w34) := ⟨zz86⟩; clear hw; obtain ⟨hcz35_0, hcz35_1, hcz35_2, hfz35_0, hfz35_1, hfz35_2⟩ := zh3 BK387; obtain ⟨hcz36_0, hcz36_1, hcz36_2, hfz36_0, hfz36_1, hfz36_2⟩ := zh3 BK386))
    refine bodyPost_ret (results_ctt rfl _ _ gb386 32 #[.int .i64 a1, .int .i64 0, .string t394] (0, 0) _ rfl zz19 Try.underlying32 rfl (by kernel_rfl)) rfl ?_
    exact ⟨zw, zb2 GE386 GE387⟩
   ·rw [if_neg c26] at H
    have c26b0 : (a1 == 3) = false := beq_eq_false_iff_ne.mpr c26
    have c26b1 : (a1 != 3) = true := bne_iff_ne.mpr c26
    by_cases c37 : a1 = 4
    ·rw [if_pos c37] at H
     have c37b0 : (a1 == 4) = true := beq_iff_eq.mpr c37
     have c37b1 : (a1 != 4) = false := bne_eq_false_iff_eq.mpr c37
     clear c37
     by_cases c38 : a2 ≥ 0
     ·rw [if_pos c38] at H
      have c38b0 : decide (0 ≤ a2) = true := decide_eq_true c38
      clear c38
      by_cases c39 : a2 < (l0.length : Int)
      ·rw [if_pos c39] at H
       have c39b0 : decide (a2 < (l0.length : Int)) = true := decide_eq_true c39
       clear c39
       by_cases c40 : 0 ≤ a2
       ·rw [if_pos c40] at H
        have c40b0 : decide (0 ≤ a2) = true := decide_eq_true c40
        clear c40
        simp only [Option.some.injEq, Prod.mk.injEq] at H
        obtain ⟨rfl, rfl, rfl, rfl, rfl⟩ := H
        go_enter Try.func74, Try.ntmps74
        go_wp2_with (first | ((with_reducible refine zt 6 ?_); (try (refine gate_guard (by rfl) ?_; dsimp only)); refine zn #[.int .i64 0, .int .i64 0, .string (⟨#[]⟩ : ByteArray)] 32 ?_; intro gb386 hg w41 hbox hb; have BK386 := zA hbox; have GW386 := zG hg; have GE386 := zG hg; replace HB := zS hb; clear hb hbox hg) | ((with_reducible refine zt 9 ?_); (try (refine gate_guard (by rfl) ?_; dsimp only)); refine zn #[.int .i64 0, .int .i64 0, .string (⟨#[]⟩ : ByteArray)] 32 ?_; intro gb387 hg w42 hbox hb; have BK387 := zA hbox; have GW387 := zG hg (zb1 GE386); have GE387 := zG hg (zb1 GE386); replace HB := zS hb (zb1 GE386); have NB386_387 := zX BK386 hg; have NB387_386 := zY BK386 hg; replace BK386 := zB BK386 hb; clear hb hbox hg; have hnb43 := NB387_386.out; have hnc43 := NB386_387.out; obtain ⟨hcz44_0, hcz44_1, hcz44_2, hfz44_0, hfz44_1, hfz44_2⟩ := zh3 BK387) | ((with_reducible refine gate_store (t := 32) (p := 9) rfl ?_); refine store_event (t := 32) (p := 9) (v := ?vo_w45) (w1 := (((w42.setCell ⟨gb387, 0, none⟩ (.int .i64 a1)).setCell ⟨gb387, 1, none⟩ (.int .i64 0)).setCell ⟨gb387, 2, none⟩ (.string (⟨#[]⟩ : ByteArray)))) ?hg ?ho ?hn ?hr ?_; (case ho => rfl); (case hg => rfl); (case hn => rfl); (case hr => exact zz16); intro w45 hw; replace BK386 : Aside0 (w45.heap[gb386]? = some (.cells #[.int .i64 0, .int .i64 0, .string (⟨#[]⟩ : ByteArray)] 32 (0, 0))) := ⟨zz106⟩; replace BK387 : Aside0 (w45.heap[gb387]? = some (.cells #[.int .i64 a1, .int .i64 0, .string (⟨#[]⟩ : ByteArray)] 32 (0, 0))) := ⟨zz107⟩; replace HB : Aside0 (Below w.heap.size w w45) := ⟨zz86⟩; clear hw; have p397 : 0 ≤ (a2 : Int) := of_decide_eq_true za; have q397 : a2 < (l0.length : Int) := of_decide_eq_true za; obtain ⟨ad397, e397, hx397_0⟩ := Kd.at_int HR0.out a2 p397 q397; cases e397; replace hx397_0 := zj hx397_0; replace p397 := eq_true p397; replace q397 := eq_true q397; obtain ⟨hcz46_0, hcz46_1, hcz46_2, hfz46_0, hfz46_1, hfz46_2⟩ := zh3 BK387) | ((with_reducible refine gate_store (t := 3) (p := 62) rfl ?_); refine store_event (t := 3) (p := 62) (v := ?vo_w47) (w1 := (w45.setCell ⟨gb387, 1, none⟩ (.int .i64 (wrap64 (rd l0 a2))))) ?hg ?ho ?hn ?hr ?_; (case ho => rfl); (case hg => rfl); (case hn => rfl); (case hr => exact zz16); intro w47 hw; replace BK386 : Aside0 (w47.heap[gb386]? = some (.cells #[.int .i64 0, .int .i64 0, .string (⟨#[]⟩ : ByteArray)] 32 (0, 0))) := ⟨(by rw [hw]; exact zz62)⟩; replace BK387 : Aside0 (w47.heap[gb387]? = some (.cells #[.int .i64 a1, .int .i64 (wrap64 (rd l0 a2)), .string (⟨#[]⟩ : ByteArray)] 32 (0, 0))) := ⟨(by rw [hw]; exact zz65)⟩; replace HB : Aside0 (Below w.heap.size w w47) := ⟨zz86⟩; clear hw; obtain ⟨hcz48_0, hcz48_1, hcz48_2, hfz48_0, hfz48_1, hfz48_2⟩ := zh3 BK387; obtain ⟨hcz49_0, hcz49_1, hcz49_2, hfz49_0, hfz49_1, hfz49_2⟩ := zh3 BK386))
        refine bodyPost_ret (results_ctt rfl _ _ gb386 32 #[.int .i64 a1, .int .i64 (wrap64 (rd l0 a2)), .string (⟨#[]⟩ : ByteArray)] (0, 0) _ rfl (by (with_reducible repeat (first | refine blk_drewN ?_ _ | refine blk_drew ?_ | refine blk_alloc ?_ _)); refine blk_put (cs := #[.int .i64 a1, .int .i64 (wrap64 (rd l0 a2)), .string (⟨#[]⟩ : ByteArray)]) ?_ 2 _ rfl; (with_reducible repeat (first | refine blk_drewN ?_ _ | refine blk_drew ?_ | refine blk_alloc ?_ _)); refine blk_put (cs := #[.int .i64 a1, .int .i64 0, .string (⟨#[]⟩ : ByteArray)]) ?_ 1 _ rfl; (with_reducible repeat (first | refine blk_drewN ?_ _ | refine blk_drew ?_ | refine blk_alloc ?_ _)); refine blk_put (cs := #[.int .i64 0, .int .i64 0, .string (⟨#[]⟩ : ByteArray)]) ?_ 0 _ rfl; (with_reducible repeat (first | refine blk_drewN ?_ _ | refine blk_drew ?_ | refine blk_alloc ?_ _)); exact BK386.out) Try.underlying32 rfl (by kernel_rfl)) rfl ?_
        exact ⟨zw, zb2 GE386 GE387⟩
       ·rw [if_neg c40] at H
        exact absurd H (by simp)
      ·rw [if_neg c39] at H
       have c39b0 : decide (a2 < (l0.length : Int)) = false := decide_eq_false c39
       clear c39
       simp only [Option.some.injEq, Prod.mk.injEq] at H
       obtain ⟨rfl, rfl, rfl, rfl, rfl⟩ := H
       go_enter Try.func74, Try.ntmps74
       go_wp2_with (first | ((with_reducible refine zt 6 ?_); (try (refine gate_guard (by rfl) ?_; dsimp only)); refine zn #[.int .i64 0, .int .i64 0, .string (⟨#[]⟩ : ByteArray)] 32 ?_; intro gb386 hg w50 hbox hb; have BK386 := zA hbox; have GW386 := zG hg; have GE386 := zG hg; replace HB := zS hb; clear hb hbox hg) | ((with_reducible refine zt 9 ?_); (try (refine gate_guard (by rfl) ?_; dsimp only)); refine zn #[.int .i64 0, .int .i64 0, .string (⟨#[]⟩ : ByteArray)] 32 ?_; intro gb387 hg w51 hbox hb; have BK387 := zA hbox; have GW387 := zG hg (zb1 GE386); have GE387 := zG hg (zb1 GE386); replace HB := zS hb (zb1 GE386); have NB386_387 := zX BK386 hg; have NB387_386 := zY BK386 hg; replace BK386 := zB BK386 hb; clear hb hbox hg; have hnb52 := NB387_386.out; have hnc52 := NB386_387.out; obtain ⟨hcz53_0, hcz53_1, hcz53_2, hfz53_0, hfz53_1, hfz53_2⟩ := zh3 BK387) | ((with_reducible refine gate_store (t := 32) (p := 9) rfl ?_); refine store_event (t := 32) (p := 9) (v := ?vo_w54) (w1 := (((w51.setCell ⟨gb387, 0, none⟩ (.int .i64 a1)).setCell ⟨gb387, 1, none⟩ (.int .i64 0)).setCell ⟨gb387, 2, none⟩ (.string (⟨#[]⟩ : ByteArray)))) ?hg ?ho ?hn ?hr ?_; (case ho => rfl); (case hg => rfl); (case hn => rfl); (case hr => exact zz16); intro w54 hw; replace BK386 : Aside0 (w54.heap[gb386]? = some (.cells #[.int .i64 0, .int .i64 0, .string (⟨#[]⟩ : ByteArray)] 32 (0, 0))) := ⟨zz106⟩; replace BK387 : Aside0 (w54.heap[gb387]? = some (.cells #[.int .i64 a1, .int .i64 0, .string (⟨#[]⟩ : ByteArray)] 32 (0, 0))) := ⟨zz107⟩; replace HB : Aside0 (Below w.heap.size w w54) := ⟨zz86⟩; clear hw; obtain ⟨hcz55_0, hcz55_1, hcz55_2, hfz55_0, hfz55_1, hfz55_2⟩ := zh3 BK387; obtain ⟨hcz56_0, hcz56_1, hcz56_2, hfz56_0, hfz56_1, hfz56_2⟩ := zh3 BK386))
       refine bodyPost_ret (results_ctt rfl _ _ gb386 32 #[.int .i64 a1, .int .i64 0, .string (⟨#[]⟩ : ByteArray)] (0, 0) _ rfl zz19 Try.underlying32 rfl (by kernel_rfl)) rfl ?_
       exact ⟨zw, zb2 GE386 GE387⟩
     ·rw [if_neg c38] at H
      have c38b0 : decide (0 ≤ a2) = false := decide_eq_false c38
      clear c38
      simp only [Option.some.injEq, Prod.mk.injEq] at H
      obtain ⟨rfl, rfl, rfl, rfl, rfl⟩ := H
      go_enter Try.func74, Try.ntmps74
      go_wp2_with (first | ((with_reducible refine zt 6 ?_); (try (refine gate_guard (by rfl) ?_; dsimp only)); refine zn #[.int .i64 0, .int .i64 0, .string (⟨#[]⟩ : ByteArray)] 32 ?_; intro gb386 hg w57 hbox hb; have BK386 := zA hbox; have GW386 := zG hg; have GE386 := zG hg; replace HB := zS hb; clear hb hbox hg) | ((with_reducible refine zt 9 ?_); (try (refine gate_guard (by rfl) ?_; dsimp only)); refine zn #[.int .i64 0, .int .i64 0, .string (⟨#[]⟩ : ByteArray)] 32 ?_; intro gb387 hg w58 hbox hb; have BK387 := zA hbox; have GW387 := zG hg (zb1 GE386); have GE387 := zG hg (zb1 GE386); replace HB := zS hb (zb1 GE386); have NB386_387 := zX BK386 hg; have NB387_386 := zY BK386 hg; replace BK386 := zB BK386 hb; clear hb hbox hg; have hnb59 := NB387_386.out; have hnc59 := NB386_387.out; obtain ⟨hcz60_0, hcz60_1, hcz60_2, hfz60_0, hfz60_1, hfz60_2⟩ := zh3 BK387) | ((with_reducible refine gate_store (t := 32) (p := 9) rfl ?_); refine store_event (t := 32) (p := 9) (v := ?vo_w61) (w1 := (((w58.setCell ⟨gb387, 0, none⟩ (.int .i64 a1)).setCell ⟨gb387, 1, none⟩ (.int .i64 0)).setCell ⟨gb387, 2, none⟩ (.string (⟨#[]⟩ : ByteArray)))) ?hg ?ho ?hn ?hr ?_; (case ho => rfl); (case hg => rfl); (case hn => rfl); (case hr => exact zz16); intro w61 hw; replace BK386 : Aside0 (w61.heap[gb386]? = some (.cells #[.int .i64 0, .int .i64 0, .string (⟨#[]⟩ : ByteArray)] 32 (0, 0))) := ⟨zz106⟩; replace BK387 : Aside0 (w61.heap[gb387]? = some (.cells #[.int .i64 a1, .int .i64 0, .string (⟨#[]⟩ : ByteArray)] 32 (0, 0))) := ⟨zz107⟩; replace HB : Aside0 (Below w.heap.size w w61) := ⟨zz86⟩; clear hw; obtain ⟨hcz62_0, hcz62_1, hcz62_2, hfz62_0, hfz62_1, hfz62_2⟩ := zh3 BK387; obtain ⟨hcz63_0, hcz63_1, hcz63_2, hfz63_0, hfz63_1, hfz63_2⟩ := zh3 BK386))
      refine bodyPost_ret (results_ctt rfl _ _ gb386 32 #[.int .i64 a1, .int .i64 0, .string (⟨#[]⟩ : ByteArray)] (0, 0) _ rfl zz19 Try.underlying32 rfl (by kernel_rfl)) rfl ?_
      exact ⟨zw, zb2 GE386 GE387⟩
    ·rw [if_neg c37] at H
     have c37b0 : (a1 == 4) = false := beq_eq_false_iff_ne.mpr c37
     have c37b1 : (a1 != 4) = true := bne_iff_ne.mpr c37
     simp only [Option.some.injEq, Prod.mk.injEq] at H
     obtain ⟨rfl, rfl, rfl, rfl, rfl⟩ := H
     go_enter Try.func74, Try.ntmps74
     go_wp2_with (first | ((with_reducible refine zt 6 ?_); (try (refine gate_guard (by rfl) ?_; dsimp only)); refine zn #[.int .i64 0, .int .i64 0, .string (⟨#[]⟩ : ByteArray)] 32 ?_; intro gb386 hg w64 hbox hb; have BK386 := zA hbox; have GW386 := zG hg; have GE386 := zG hg; replace HB := zS hb; clear hb hbox hg) | ((with_reducible refine zt 9 ?_); (try (refine gate_guard (by rfl) ?_; dsimp only)); refine zn #[.int .i64 0, .int .i64 0, .string (⟨#[]⟩ : ByteArray)] 32 ?_; intro gb387 hg w65 hbox hb; have BK387 := zA hbox; have GW387 := zG hg (zb1 GE386); have GE387 := zG hg (zb1 GE386); replace HB := zS hb (zb1 GE386); have NB386_387 := zX BK386 hg; have NB387_386 := zY BK386 hg; replace BK386 := zB BK386 hb; clear hb hbox hg; have hnb66 := NB387_386.out; have hnc66 := NB386_387.out; obtain ⟨hcz67_0, hcz67_1, hcz67_2, hfz67_0, hfz67_1, hfz67_2⟩ := zh3 BK387) | ((with_reducible refine gate_store (t := 32) (p := 9) rfl ?_); refine store_event (t := 32) (p := 9) (v := ?vo_w68) (w1 := (((w65.setCell ⟨gb387, 0, none⟩ (.int .i64 a1)).setCell ⟨gb387, 1, none⟩ (.int .i64 0)).setCell ⟨gb387, 2, none⟩ (.string (⟨#[]⟩ : ByteArray)))) ?hg ?ho ?hn ?hr ?_; (case ho => rfl); (case hg => rfl); (case hn => rfl); (case hr => exact zz16); intro w68 hw; replace BK386 : Aside0 (w68.heap[gb386]? = some (.cells #[.int .i64 0, .int .i64 0, .string (⟨#[]⟩ : ByteArray)] 32 (0, 0))) := ⟨zz106⟩; replace BK387 : Aside0 (w68.heap[gb387]? = some (.cells #[.int .i64 a1, .int .i64 0, .string (⟨#[]⟩ : ByteArray)] 32 (0, 0))) := ⟨zz107⟩; replace HB : Aside0 (Below w.heap.size w w68) := ⟨zz86⟩; clear hw; obtain ⟨hcz69_0, hcz69_1, hcz69_2, hfz69_0, hfz69_1, hfz69_2⟩ := zh3 BK387; obtain ⟨hcz70_0, hcz70_1, hcz70_2, hfz70_0, hfz70_1, hfz70_2⟩ := zh3 BK386))
     refine bodyPost_ret (results_ctt rfl _ _ gb386 32 #[.int .i64 a1, .int .i64 0, .string (⟨#[]⟩ : ByteArray)] (0, 0) _ rfl zz19 Try.underlying32 rfl (by kernel_rfl)) rfl ?_
     exact ⟨zw, zb2 GE386 GE387⟩

end Go.Proofs.Ytnfmpopmigbkoaa.PFnKeysRead

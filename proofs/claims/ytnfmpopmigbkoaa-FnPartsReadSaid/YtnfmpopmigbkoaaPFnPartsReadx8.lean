-- Written by mkprint.py, a program of this session (the printer with additions of its own)
import Derived.Test.YtnfmpopmigbkoaaPFnPartsReadx0
import Derived.Test.YtnfmpopmigbkoaaPFnPartsReadx1
namespace Go.Proofs.Ytnfmpopmigbkoaa.PFnPartsRead
open Go.RowKit Go.Proofs.YtnfmpopmigbkoaaW.PrintWords Go.Proofs.YtnfmpopmigbkoaaW.PrintLast Go.Proofs.YtnfmpopmigbkoaaW.PrintMore
attribute [local go_sem] max2_int min2_int max_two min_two max_three min_three max_four min_four   -- for this text's walks alone
set_option linter.unusedVariables false
set_option linter.unusedSimpArgs false

/-! ### impl_numberAt: function 120 -/
mutual
def impl_numberAt.j0 : Nat → List Int → Int → Int → Int → Bool → Option (Int × Bool)
  | 0, _, _, _, _, _ => none
  | k + 1, x0, x1, x2, x3, x22 => if x22 = true then (some (0, false)) else (if 0 ≤ x1 then (if x1 ≤ (wrap64 (x1 + x2)) then (if (wrap64 (x1 + x2)) ≤ (x0.length : Int) then ((some ((x0.take ((wrap64 (x1 + x2)) : Int).toNat).drop (x1 : Int).toNat : List Int)).bind fun y328 => (impl_numberAt.l0 k x3 0 y328 (y328.length : Int) 0)) else (none)) else (none)) else (none))
def impl_numberAt.l0 : Nat → Int → Int → List Int → Int → Int → Option (Int × Bool)
  | 0, _, _, _, _, _ => none
  | k + 1, x3, x10, x28, x29, x30 => if x30 < x29 then (if 0 ≤ x30 then (if x30 < (x28.length : Int) then (impl_numberAt.l0 k x3 (Go.bits .or .i64 (wrap64 (x10 * 256)) (wrap64 (Go.bits .xor .u8 (rd x28 x30) x3))) x28 x29 (wrap64 (x30 + 1))) else (none)) else (none)) else (some (x10, true))
end
def impl_numberAt.f (k : Nat) (l0 : List Int) (a1 : Int) (a2 : Int) (a3 : Int) : Option (Int × Bool) := if a1 < 0 then (impl_numberAt.j0 k l0 a1 a2 a3 true) else (impl_numberAt.j0 k l0 a1 a2 a3 (decide (a1 > (wrap64 ((l0.length : Int) - a2)))))
theorem impl_numberAt.mono_l : ∀ k, (∀ y0 y1 y2 y3 y4, LeO (impl_numberAt.j0 k y0 y1 y2 y3 y4) (impl_numberAt.j0 (k + 1) y0 y1 y2 y3 y4)) ∧ (∀ y0 y1 y2 y3 y4, LeO (impl_numberAt.l0 k y0 y1 y2 y3 y4) (impl_numberAt.l0 (k + 1) y0 y1 y2 y3 y4))
  | 0 => ⟨fun _ _ _ _ _ r h => by simp [impl_numberAt.j0] at h, fun _ _ _ _ _ r h => by simp [impl_numberAt.l0] at h⟩
  | k + 1 => by
    obtain ⟨ih0, ih1⟩ := impl_numberAt.mono_l k
    refine ⟨?_, ?_⟩
    · intro y0 y1 y2 y3 y4
      unfold impl_numberAt.j0
      repeat' first
      | (with_reducible exact ih0 _ _ _ _ _)
      | (with_reducible exact ih1 _ _ _ _ _)
      | (with_reducible exact LeO.refl _)
      | (with_reducible exact LeO.none _)
      | (with_reducible refine LeO.ite ?_ ?_)
      | (with_reducible refine LeO.bind ?_ (fun _ => ?_))
      | exact ih0 _ _ _ _ _
      | exact ih1 _ _ _ _ _
      | exact LeO.none _
      | refine LeO.ite ?_ ?_
      | refine LeO.bind ?_ (fun _ => ?_)
    · intro y0 y1 y2 y3 y4
      unfold impl_numberAt.l0
      repeat' first
      | (with_reducible exact ih0 _ _ _ _ _)
      | (with_reducible exact ih1 _ _ _ _ _)
      | (with_reducible exact LeO.refl _)
      | (with_reducible exact LeO.none _)
      | (with_reducible refine LeO.ite ?_ ?_)
      | (with_reducible refine LeO.bind ?_ (fun _ => ?_))
      | exact ih0 _ _ _ _ _
      | exact ih1 _ _ _ _ _
      | exact LeO.none _
      | refine LeO.ite ?_ ?_
      | refine LeO.bind ?_ (fun _ => ?_)
theorem impl_numberAt.mono : ∀ a0 a1 a2 a3 k, LeO (impl_numberAt.f k a0 a1 a2 a3) (impl_numberAt.f (k + 1) a0 a1 a2 a3) := by
  intro a0 a1 a2 a3 k
  obtain ⟨ih0, ih1⟩ := impl_numberAt.mono_l k
  unfold impl_numberAt.f
  repeat' first
      | (with_reducible exact ih0 _ _ _ _ _)
      | (with_reducible exact ih1 _ _ _ _ _)
      | (with_reducible exact LeO.refl _)
      | (with_reducible exact LeO.none _)
      | (with_reducible refine LeO.ite ?_ ?_)
      | (with_reducible refine LeO.bind ?_ (fun _ => ?_))
      | exact ih0 _ _ _ _ _
      | exact ih1 _ _ _ _ _
      | exact LeO.none _
      | refine LeO.ite ?_ ?_
      | refine LeO.bind ?_ (fun _ => ?_)
set_option maxHeartbeats 8000000 in
set_option maxRecDepth 100000 in
theorem impl_numberAt.calls (k : Nat) (A0 : Option Addr) (c0 : Nat) (l0 : List Int) (a1 : Int) (a2 : Int) (a3 : Int) (r1 : Int) (r2 : Bool) (w : World) (hr0 : Kd.C (Kd.int .u8) w A0 l0.length l0) (hc0 : l0.length ≤ c0) (h : impl_numberAt.f k l0 a1 a2 a3 = some (r1, r2)) :
  Calls Try.prog 120 #[.slice A0 l0.length c0, .int .i64 a1, .int .i64 a2, .int .u8 a3] w fun e w' => e = .returned (.tuple #[.int .i64 r1, .bool r2]) ∧ Drawn0 w w' := by
 have HR0 := zA hr0
 have HC0 := zA hc0
 clear hr0 hc0
 have H : (if a1 < 0 then (impl_numberAt.j0 k l0 a1 a2 a3 true) else (impl_numberAt.j0 k l0 a1 a2 a3 (decide (a1 > (wrap64 ((l0.length : Int) - a2)))))) = some (r1, r2) := h
 clear h
 have HC5 := zA H
 clear H
 go_enter Try.func120, Try.ntmps120
 go_upto_region 1 with (fail)
 go_cut [22] (fun v22 wc => ∃ (kq : Nat) (x22_4 : Bool), v22 = .bool x22_4 ∧ Aside0 (impl_numberAt.j0 kq l0 a1 a2 a3 x22_4 = some (r1, r2)) ∧ Aside0 (kq ≤ k) ∧ Drawn0 w wc)
 case first =>
  have H := HC5.out
  clear HC5
  by_cases c6 : a1 < 0
  ·rw [if_pos c6] at H
   have c6b0 : decide (a1 < 0) = true := decide_eq_true c6
   clear c6
   (first | rw [c6b0] | (simp only [i64_w, i32_w]; rw [c6b0]) | skip)
   have H' := zA H
   clear H
   go_wp2
   go_meet
   case rel => exact ⟨_, (true), zx, H', ⟨zo⟩, zz34⟩
  ·rw [if_neg c6] at H
   have c6b0 : decide (a1 < 0) = false := decide_eq_false c6
   clear c6
   (first | rw [c6b0] | (simp only [i64_w, i32_w]; rw [c6b0]) | skip)
   have H' := zA H
   clear H
   go_wp2
   go_meet
   case rel => exact ⟨_, (decide (a1 > (wrap64 ((l0.length : Int) - a2)))), zx, H', ⟨zo⟩, zz34⟩
 case rest =>
  clear HC5
  obtain ⟨kq, x22_4, rfl, HA, HJ4, ⟨mc4, rfl⟩⟩ := hcut
  cases kq with
  | zero => exact absurd HA.out (by simp [impl_numberAt.j0])
  | succ kj4 =>
   have H := HA.out
   clear HA
   simp only [impl_numberAt.j0] at H
   by_cases c7 : x22_4 = true
   ·subst c7
    rw [if_pos rfl] at H
    simp only [Option.some.injEq, Prod.mk.injEq] at H
    obtain ⟨rfl, rfl⟩ := H
    go_wp2
    go_ret2
    exact ⟨zx, zz34⟩
   ·replace c7 := Bool.eq_false_iff.mpr c7
    subst c7
    rw [if_neg (Bool.false_ne_true)] at H
    by_cases c8 : 0 ≤ a1
    ·rw [if_pos c8] at H
     have c8b0 := eq_true c8
     have c8b1 : decide (0 ≤ a1) = true := decide_eq_true c8
     clear c8
     by_cases c9 : a1 ≤ (wrap64 (a1 + a2))
     ·rw [if_pos c9] at H
      have c9b0 := eq_true c9
      have c9b1 : decide (a1 ≤ (wrap64 (a1 + a2))) = true := decide_eq_true c9
      by_cases c10 : (wrap64 (a1 + a2)) ≤ (l0.length : Int)
      ·rw [if_pos c10] at H
       have c10b0 := eq_true c10
       have c10b1 : decide ((wrap64 (a1 + a2)) ≤ (l0.length : Int)) = true := decide_eq_true c10
       obtain ⟨y328, hy328⟩ : ∃ y_ : List Int, y_ = ((l0.take ((wrap64 (a1 + a2)) : Int).toNat).drop (a1 : Int).toNat) := ⟨_, rfl⟩
       replace H : (impl_numberAt.l0 kj4 a3 0 y328 (y328.length : Int) 0) = some (r1, r2) := by first | (rw [hy328]; with_reducible exact H) | (have H2_ := (Option.bind_some _ _).symm.trans H; rw [hy328]; with_reducible exact H2_) | (have H2_ := (Option.bind_some _ _).symm.trans H; with_reducible exact H2_) | with_reducible exact H | (rw [hy328]; exact H) | exact H
       have Ny328 := zA hy328
       clear hy328
       have H' := zA H
       clear H
       have q11 : ((wrap64 (a1 + a2)) : Int) ≤ ((l0.length : Int) : Int) := of_decide_eq_true za
       obtain ⟨i011, hi011, _, hsz11, _⟩ := info_parts info5
       have hroom11 : l0.length ≤ c0 := HC0.out
       have hC11 : Kd.C (Kd.int .u8) _ A0 l0.length l0 := HR0.out
       have ql11 : (a1 : Int) ≤ ((wrap64 (a1 + a2)) : Int) := of_decide_eq_true za
       have q011 : (0 : Int) ≤ (a1 : Int) := of_decide_eq_true za
       have hcut11 := cut_mid (P := Try.prog) 22 5 .i64 .i64 Try.underlying22 hi011 1 hsz11 A0 l0.length c0 a1 (wrap64 (a1 + a2)) q011 ql11 q11 hroom11
       have hr11 := Kd.C_mid (lo := (a1 : Int).toNat) (hi := ((wrap64 (a1 + a2)) : Int).toNat) (c := c0) hC11 (by omega) (by omega) hroom11
       obtain ⟨A11, hA11⟩ : ∃ A1, A1 = (if c0 = (a1 : Int).toNat then A0 else (A0 : Option Addr).map (·.add ((a1 : Int).toNat * 1))) := ⟨_, rfl⟩
       obtain ⟨c11, hc11⟩ : ∃ c1, c1 = c0 - (a1 : Int).toNat := ⟨_, rfl⟩
       have hy11 : y328.length = ((wrap64 (a1 + a2)) : Int).toNat - (a1 : Int).toNat := (by rw [Ny328.out, List.length_drop, List.length_take] <;> omega)
       rw [show ((l0).take ((wrap64 (a1 + a2)) : Int).toNat).drop (a1 : Int).toNat = y328 from Ny328.out.symm] at hr11
       replace hr11 : Kd.C (Kd.int .u8) _ A11 y328.length y328 := (by rw [hA11]; exact hr11)
       rw [← hy11, ← hA11, ← hc11] at hcut11
       have HR331 := zA hr11
       have HC331 := zA (show y328.length ≤ c11 from by rw [hy11, hc11]; exact Nat.sub_le_sub_right (Nat.le_trans (by omega) hroom11) _)
       clear hr11 hC11 hroom11 hi011 hsz11 hc11
       have KY11 := zA hy11
       have KA11 := zA hA11
       clear hy11 hA11
       replace q11 := eq_true q11
       go_wp2
       go_loopg [10, 30] kj4 (fun kq v10 v30 w' => ∃ (x10_2 : Int) (x30_2 : Int), v10 = .int .i64 x10_2 ∧ v30 = .int .i64 x30_2 ∧ Aside0 (impl_numberAt.l0 kq a3 x10_2 y328 (y328.length : Int) x30_2 = some (r1, r2)) ∧ Aside0 (kq ≤ kj4) ∧ Drawn0 w w')
       case atStart => exact ⟨(0), (0), zx, zx, H', ⟨Nat.le_refl _⟩, zz34⟩
       case round =>
        clear H'
        try clear c1; try clear c7; try clear c8; try clear c8b0; try clear c8b1; try clear c9; try clear c9b0; try clear c9b1; try clear c10; try clear c10b0; try clear c10b1; try clear c11; try clear q11; try clear q011; try clear q11
        obtain ⟨x10_2, x30_2, rfl, rfl, HA, HK2, ⟨m2, rfl⟩⟩ := hrel
        cases gk with
        | zero => exact absurd HA.out (by simp [impl_numberAt.l0])
        | succ k2 =>
         have H := HA.out
         clear HA
         simp only [impl_numberAt.l0] at H
         by_cases c12 : x30_2 < (y328.length : Int)
         ·rw [if_pos c12] at H
          have c12b0 : decide (x30_2 < (y328.length : Int)) = true := decide_eq_true c12
          clear c12
          by_cases c13 : 0 ≤ x30_2
          ·rw [if_pos c13] at H
           have c13b0 : decide (0 ≤ x30_2) = true := decide_eq_true c13
           clear c13
           by_cases c14 : x30_2 < (y328.length : Int)
           ·rw [if_pos c14] at H
            have c14b0 : decide (x30_2 < (y328.length : Int)) = true := decide_eq_true c14
            clear c14
            have H' := zA H
            clear H
            have p332 : 0 ≤ (x30_2 : Int) := of_decide_eq_true za
            have q332 : x30_2 < (y328.length : Int) := of_decide_eq_true za
            obtain ⟨ad332, e332, hx332_0⟩ := Kd.at_int HR331.out x30_2 p332 q332
            cases e332
            replace p332 := eq_true p332
            replace q332 := eq_true q332
            go_wp2
            go_roundg k2
            case measure => have := HJ4.out; have := HK2.out; omega
            case rel => exact ⟨(Go.bits .or .i64 (wrap64 (x10_2 * 256)) (wrap64 (Go.bits .xor .u8 (rd y328 x30_2) a3))), (wrap64 (x30_2 + 1)), zx, zx, H', ⟨zz103⟩, zz34⟩
           ·rw [if_neg c14] at H
            exact absurd H (by simp)
          ·rw [if_neg c13] at H
           exact absurd H (by simp)
         ·rw [if_neg c12] at H
          have c12b0 : decide (x30_2 < (y328.length : Int)) = false := decide_eq_false c12
          clear c12
          simp only [Option.some.injEq, Prod.mk.injEq] at H
          obtain ⟨rfl, rfl⟩ := H
          go_wp2
          go_ret2
          exact ⟨zx, zz34⟩
      ·rw [if_neg c10] at H
       exact absurd H (by simp)
     ·rw [if_neg c9] at H
      exact absurd H (by simp)
    ·rw [if_neg c8] at H
     exact absurd H (by simp)

/-! ### impl_GetFix: function 103 -/
def impl_GetFix.f (k : Nat) (l0 : List Int) (a1 : Int) : Option (Int × Int × Bool) := (impl_numberAt.f k l0 a1 4 0).bind fun bt333 => (if bt333.2 = true then (some (wrap64 (bt333.1 - 2147483648), wrap64 (a1 + 4), true)) else (some (0, 0, false)))
theorem impl_GetFix.mono : ∀ a0 a1 k, LeO (impl_GetFix.f k a0 a1) (impl_GetFix.f (k + 1) a0 a1) := by
  intro a0 a1 k
  unfold impl_GetFix.f
  repeat' first
      | (with_reducible exact impl_numberAt.mono _ _ _ _ _)
      | (with_reducible exact LeO.refl _)
      | (with_reducible exact LeO.none _)
      | (with_reducible refine LeO.ite ?_ ?_)
      | (with_reducible refine LeO.bind ?_ (fun _ => ?_))
      | exact impl_numberAt.mono _ _ _ _ _
      | exact LeO.none _
      | refine LeO.ite ?_ ?_
      | refine LeO.bind ?_ (fun _ => ?_)
set_option maxHeartbeats 8000000 in
set_option maxRecDepth 100000 in
theorem impl_GetFix.calls (k : Nat) (A0 : Option Addr) (c0 : Nat) (l0 : List Int) (a1 : Int) (r1 : Int) (r2 : Int) (r3 : Bool) (w : World) (hr0 : Kd.C (Kd.int .u8) w A0 l0.length l0) (hc0 : l0.length ≤ c0) (h : impl_GetFix.f k l0 a1 = some (r1, r2, r3)) :
  Calls Try.prog 103 #[.slice A0 l0.length c0, .int .i64 a1] w fun e w' => e = .returned (.tuple #[.int .i64 r1, .int .i64 r2, .bool r3]) ∧ Drawn0 w w' := by
 have HR0 := zA hr0
 have HC0 := zA hc0
 clear hr0 hc0
 have H : ((impl_numberAt.f k l0 a1 4 0).bind fun bt333 => (if bt333.2 = true then (some (wrap64 (bt333.1 - 2147483648), wrap64 (a1 + 4), true)) else (some (0, 0, false)))) = some (r1, r2, r3) := h
 clear h
 replace H := zI H
 obtain ⟨⟨t333, t334⟩, A3, H⟩ := H
 try dsimp only at H
 by_cases c4 : t334 = true
 ·subst c4
  rw [if_pos rfl] at H
  simp only [Option.some.injEq, Prod.mk.injEq] at H
  obtain ⟨rfl, rfl, rfl⟩ := H
  go_enter Try.func103, Try.ntmps103
  go_wp2_with (first | ((with_reducible refine zg 120 ?_); refine gL (some 12) Try.func120 #[.slice A0 l0.length c0, .int .i64 a1, .int .i64 4, .int .u8 0] ?_; (with_reducible refine (impl_numberAt.calls k _ _ l0 a1 4 0 t333 true _ ?z1 ?z2 A3.out).mono ?_); (case z1 => exact zc HR0.out); (case z2 => exact HC0.out); rintro e w' ⟨rfl, ⟨nd, rfl⟩⟩; refine ⟨_, rfl, ?_⟩))
  go_ret3
  exact ⟨zx, zz34⟩
 ·replace c4 := Bool.eq_false_iff.mpr c4
  subst c4
  rw [if_neg (Bool.false_ne_true)] at H
  simp only [Option.some.injEq, Prod.mk.injEq] at H
  obtain ⟨rfl, rfl, rfl⟩ := H
  go_enter Try.func103, Try.ntmps103
  go_wp2_with (first | ((with_reducible refine zg 120 ?_); refine gL (some 12) Try.func120 #[.slice A0 l0.length c0, .int .i64 a1, .int .i64 4, .int .u8 0] ?_; (with_reducible refine (impl_numberAt.calls k _ _ l0 a1 4 0 t333 false _ ?z1 ?z2 A3.out).mono ?_); (case z1 => exact zc HR0.out); (case z2 => exact HC0.out); rintro e w' ⟨rfl, ⟨nd, rfl⟩⟩; refine ⟨_, rfl, ?_⟩))
  go_ret3
  exact ⟨zx, zz34⟩

/-! ### impl_GetVar: function 104 -/
mutual
def impl_GetVar.j0 : Nat → List Int → Int → Bool → Option (Int × Int × Bool)
  | 0, _, _, _ => none
  | k + 1, x0, x1, x18 => if x18 = true then (some (0, 0, false)) else (if 0 ≤ x1 then (if x1 < (x0.length : Int) then (if (wrap64 ((wrap64 (rd x0 x1)) - 128)) < 0 then (impl_GetVar.j1 k x0 x1 (wrap64 (127 - (wrap64 (rd x0 x1)))) 255) else (impl_GetVar.j1 k x0 x1 (wrap64 ((wrap64 (rd x0 x1)) - 128)) 0)) else (none)) else (none))
def impl_GetVar.j1 : Nat → List Int → Int → Int → Int → Option (Int × Int × Bool)
  | 0, _, _, _, _ => none
  | k + 1, x0, x1, x7, x8 => if x7 > 7 then (some (0, 0, false)) else ((impl_numberAt.f k x0 (wrap64 (x1 + 1)) x7 x8).bind fun bt337 => (if bt337.2 = true then ((impl_bytesOf.f k bt337.1).bind fun t339 => (impl_GetVar.j2 k x1 x7 x8 bt337.1 (t339 != x7))) else (impl_GetVar.j2 k x1 x7 x8 bt337.1 true)))
def impl_GetVar.j2 : Nat → Int → Int → Int → Int → Bool → Option (Int × Int × Bool)
  | 0, _, _, _, _, _ => none
  | k + 1, x1, x7, x8, x9, x51 => if x51 = true then (some (0, 0, false)) else (if x8 = 0 then ((impl_in.f x9 (-1000000000000000) 1000000000000000).bind fun t340 => (if t340 = true then (some (x9, wrap64 ((wrap64 (x1 + 1)) + x7), true)) else (some (0, 0, false)))) else ((impl_in.f (wrap64 ((-1) - x9)) (-1000000000000000) 1000000000000000).bind fun t341 => (if t341 = true then (some (wrap64 ((-1) - x9), wrap64 ((wrap64 (x1 + 1)) + x7), true)) else (some (0, 0, false)))))
end
def impl_GetVar.f (k : Nat) (l0 : List Int) (a1 : Int) : Option (Int × Int × Bool) := if a1 < 0 then (impl_GetVar.j0 k l0 a1 true) else (impl_GetVar.j0 k l0 a1 (decide (a1 ≥ (l0.length : Int))))
theorem impl_GetVar.mono_l : ∀ k, (∀ y0 y1 y2, LeO (impl_GetVar.j0 k y0 y1 y2) (impl_GetVar.j0 (k + 1) y0 y1 y2)) ∧ (∀ y0 y1 y2 y3, LeO (impl_GetVar.j1 k y0 y1 y2 y3) (impl_GetVar.j1 (k + 1) y0 y1 y2 y3)) ∧ (∀ y0 y1 y2 y3 y4, LeO (impl_GetVar.j2 k y0 y1 y2 y3 y4) (impl_GetVar.j2 (k + 1) y0 y1 y2 y3 y4))
  | 0 => ⟨fun _ _ _ r h => by simp [impl_GetVar.j0] at h, fun _ _ _ _ r h => by simp [impl_GetVar.j1] at h, fun _ _ _ _ _ r h => by simp [impl_GetVar.j2] at h⟩
  | k + 1 => by
    obtain ⟨ih0, ih1, ih2⟩ := impl_GetVar.mono_l k
    refine ⟨?_, ?_, ?_⟩
    · intro y0 y1 y2
      unfold impl_GetVar.j0
      repeat' first
      | (with_reducible exact ih0 _ _ _)
      | (with_reducible exact ih1 _ _ _ _)
      | (with_reducible exact ih2 _ _ _ _ _)
      | (with_reducible exact impl_bytesOf.mono _ _)
      | (with_reducible exact impl_numberAt.mono _ _ _ _ _)
      | (with_reducible exact LeO.refl _)
      | (with_reducible exact LeO.none _)
      | (with_reducible refine LeO.ite ?_ ?_)
      | (with_reducible refine LeO.bind ?_ (fun _ => ?_))
      | exact ih0 _ _ _
      | exact ih1 _ _ _ _
      | exact ih2 _ _ _ _ _
      | exact impl_bytesOf.mono _ _
      | exact impl_numberAt.mono _ _ _ _ _
      | exact LeO.none _
      | refine LeO.ite ?_ ?_
      | refine LeO.bind ?_ (fun _ => ?_)
    · intro y0 y1 y2 y3
      unfold impl_GetVar.j1
      repeat' first
      | (with_reducible exact ih0 _ _ _)
      | (with_reducible exact ih1 _ _ _ _)
      | (with_reducible exact ih2 _ _ _ _ _)
      | (with_reducible exact impl_bytesOf.mono _ _)
      | (with_reducible exact impl_numberAt.mono _ _ _ _ _)
      | (with_reducible exact LeO.refl _)
      | (with_reducible exact LeO.none _)
      | (with_reducible refine LeO.ite ?_ ?_)
      | (with_reducible refine LeO.bind ?_ (fun _ => ?_))
      | exact ih0 _ _ _
      | exact ih1 _ _ _ _
      | exact ih2 _ _ _ _ _
      | exact impl_bytesOf.mono _ _
      | exact impl_numberAt.mono _ _ _ _ _
      | exact LeO.none _
      | refine LeO.ite ?_ ?_
      | refine LeO.bind ?_ (fun _ => ?_)
    · intro y0 y1 y2 y3 y4
      unfold impl_GetVar.j2
      repeat' first
      | (with_reducible exact ih0 _ _ _)
      | (with_reducible exact ih1 _ _ _ _)
      | (with_reducible exact ih2 _ _ _ _ _)
      | (with_reducible exact impl_bytesOf.mono _ _)
      | (with_reducible exact impl_numberAt.mono _ _ _ _ _)
      | (with_reducible exact LeO.refl _)
      | (with_reducible exact LeO.none _)
      | (with_reducible refine LeO.ite ?_ ?_)
      | (with_reducible refine LeO.bind ?_ (fun _ => ?_))
      | exact ih0 _ _ _
      | exact ih1 _ _ _ _
      | exact ih2 _ _ _ _ _
      | exact impl_bytesOf.mono _ _
      | exact impl_numberAt.mono _ _ _ _ _
      | exact LeO.none _
      | refine LeO.ite ?_ ?_
      | refine LeO.bind ?_ (fun _ => ?_)
theorem impl_GetVar.mono : ∀ a0 a1 k, LeO (impl_GetVar.f k a0 a1) (impl_GetVar.f (k + 1) a0 a1) := by
  intro a0 a1 k
  obtain ⟨ih0, ih1, ih2⟩ := impl_GetVar.mono_l k
  unfold impl_GetVar.f
  repeat' first
      | (with_reducible exact ih0 _ _ _)
      | (with_reducible exact ih1 _ _ _ _)
      | (with_reducible exact ih2 _ _ _ _ _)
      | (with_reducible exact impl_bytesOf.mono _ _)
      | (with_reducible exact impl_numberAt.mono _ _ _ _ _)
      | (with_reducible exact LeO.refl _)
      | (with_reducible exact LeO.none _)
      | (with_reducible refine LeO.ite ?_ ?_)
      | (with_reducible refine LeO.bind ?_ (fun _ => ?_))
      | exact ih0 _ _ _
      | exact ih1 _ _ _ _
      | exact ih2 _ _ _ _ _
      | exact impl_bytesOf.mono _ _
      | exact impl_numberAt.mono _ _ _ _ _
      | exact LeO.none _
      | refine LeO.ite ?_ ?_
      | refine LeO.bind ?_ (fun _ => ?_)
set_option maxHeartbeats 8000000 in
set_option maxRecDepth 100000 in
theorem impl_GetVar.calls (k : Nat) (A0 : Option Addr) (c0 : Nat) (l0 : List Int) (a1 : Int) (r1 : Int) (r2 : Int) (r3 : Bool) (w : World) (hr0 : Kd.C (Kd.int .u8) w A0 l0.length l0) (hc0 : l0.length ≤ c0) (h : impl_GetVar.f k l0 a1 = some (r1, r2, r3)) :
  Calls Try.prog 104 #[.slice A0 l0.length c0, .int .i64 a1] w fun e w' => e = .returned (.tuple #[.int .i64 r1, .int .i64 r2, .bool r3]) ∧ Drawn0 w w' := by
 have HR0 := zA hr0
 have HC0 := zA hc0
 clear hr0 hc0
 have H : (if a1 < 0 then (impl_GetVar.j0 k l0 a1 true) else (impl_GetVar.j0 k l0 a1 (decide (a1 ≥ (l0.length : Int))))) = some (r1, r2, r3) := h
 clear h
 have HC3 := zA H
 clear H
 go_enter Try.func104, Try.ntmps104
 go_upto_region 1 with (fail)
 go_cut [18] (fun v18 wc => ∃ (kq : Nat) (x18_2 : Bool), v18 = .bool x18_2 ∧ Aside0 (impl_GetVar.j0 kq l0 a1 x18_2 = some (r1, r2, r3)) ∧ Aside0 (kq ≤ k) ∧ Drawn0 w wc)
 case first =>
  have H := HC3.out
  clear HC3
  by_cases c4 : a1 < 0
  ·rw [if_pos c4] at H
   have c4b0 : decide (a1 < 0) = true := decide_eq_true c4
   clear c4
   (first | rw [c4b0] | (simp only [i64_w, i32_w]; rw [c4b0]) | skip)
   have H' := zA H
   clear H
   go_wp2
   go_meet
   case rel => exact ⟨_, (true), zx, H', ⟨zo⟩, zz34⟩
  ·rw [if_neg c4] at H
   have c4b0 : decide (a1 < 0) = false := decide_eq_false c4
   clear c4
   (first | rw [c4b0] | (simp only [i64_w, i32_w]; rw [c4b0]) | skip)
   have H' := zA H
   clear H
   go_wp2
   go_meet
   case rel => exact ⟨_, (decide (a1 ≥ (l0.length : Int))), zx, H', ⟨zo⟩, zz34⟩
 case rest =>
  clear HC3
  obtain ⟨kq, x18_2, rfl, HA, HJ2, ⟨mc2, rfl⟩⟩ := hcut
  cases kq with
  | zero => exact absurd HA.out (by simp [impl_GetVar.j0])
  | succ kj2 =>
   have H := HA.out
   clear HA
   simp only [impl_GetVar.j0] at H
   by_cases c5 : x18_2 = true
   ·subst c5
    rw [if_pos rfl] at H
    simp only [Option.some.injEq, Prod.mk.injEq] at H
    obtain ⟨rfl, rfl, rfl⟩ := H
    go_wp2
    go_ret3
    exact ⟨zx, zz34⟩
   ·replace c5 := Bool.eq_false_iff.mpr c5
    subst c5
    rw [if_neg (Bool.false_ne_true)] at H
    by_cases c6 : 0 ≤ a1
    ·rw [if_pos c6] at H
     have c6b0 : decide (0 ≤ a1) = true := decide_eq_true c6
     clear c6
     by_cases c7 : a1 < (l0.length : Int)
     ·rw [if_pos c7] at H
      have c7b0 : decide (a1 < (l0.length : Int)) = true := decide_eq_true c7
      clear c7
      have HC8 := zA H
      clear H
      have p335 : 0 ≤ (a1 : Int) := of_decide_eq_true za
      have q335 : a1 < (l0.length : Int) := of_decide_eq_true za
      obtain ⟨ad335, e335, hx335_0⟩ := Kd.at_int HR0.out a1 p335 q335
      cases e335
      replace p335 := eq_true p335
      replace q335 := eq_true q335
      go_upto_if 26 with (fail)
      go_cut [7, 8] (fun v7 v8 wc => ∃ (kq : Nat) (x7_7 : Int) (x8_7 : Int), v7 = .int .i64 x7_7 ∧ v8 = .int .u8 x8_7 ∧ Aside0 (impl_GetVar.j1 kq l0 a1 x7_7 x8_7 = some (r1, r2, r3)) ∧ Aside0 (kq ≤ kj2) ∧ Drawn0 w wc)
      case first =>
       have H := HC8.out
       clear HC8
       by_cases c9 : (wrap64 ((wrap64 (rd l0 a1)) - 128)) < 0
       ·rw [if_pos c9] at H
        have c9b0 : decide ((wrap64 ((wrap64 (rd l0 a1)) - 128)) < 0) = true := decide_eq_true c9
        clear c9
        (first | rw [c9b0] | (simp only [i64_w, i32_w]; rw [c9b0]) | skip)
        have H' := zA H
        clear H
        have p336 : 0 ≤ (a1 : Int) := of_decide_eq_true za
        have q336 : a1 < (l0.length : Int) := of_decide_eq_true za
        obtain ⟨ad336, e336, hx336_0⟩ := Kd.at_int HR0.out a1 p336 q336
        obtain rfl : ad335 = ad336 := (by injection e336)
        replace p336 := eq_true p336
        replace q336 := eq_true q336
        go_wp2
        go_meet
        case rel => exact ⟨_, (wrap64 (127 - (wrap64 (rd l0 a1)))), (255), zx, zx, H', ⟨zz101⟩, zz34⟩
       ·rw [if_neg c9] at H
        have c9b0 : decide ((wrap64 ((wrap64 (rd l0 a1)) - 128)) < 0) = false := decide_eq_false c9
        clear c9
        (first | rw [c9b0] | (simp only [i64_w, i32_w]; rw [c9b0]) | skip)
        have H' := zA H
        clear H
        go_wp2
        go_meet
        case rel => exact ⟨_, (wrap64 ((wrap64 (rd l0 a1)) - 128)), (0), zx, zx, H', ⟨zz101⟩, zz34⟩
      case rest =>
       clear HC8
       try clear c5; try clear c6; try clear c6b0; try clear c7; try clear c7b0; try clear hx335_0; try clear p335; try clear q335
       obtain ⟨kq, x7_7, x8_7, rfl, rfl, HA, HJ7, ⟨mc7, rfl⟩⟩ := hcut
       cases kq with
       | zero => exact absurd HA.out (by simp [impl_GetVar.j1])
       | succ kj7 =>
        have H := HA.out
        clear HA
        simp only [impl_GetVar.j1] at H
        by_cases c10 : x7_7 > 7
        ·rw [if_pos c10] at H
         have c10b0 : decide (7 < x7_7) = true := decide_eq_true c10
         clear c10
         simp only [Option.some.injEq, Prod.mk.injEq] at H
         obtain ⟨rfl, rfl, rfl⟩ := H
         go_wp2
         go_ret3
         exact ⟨zx, zz34⟩
        ·rw [if_neg c10] at H
         have c10b0 : decide (7 < x7_7) = false := decide_eq_false c10
         clear c10
         replace H := zI H
         obtain ⟨⟨t337, t338⟩, A11, H⟩ := H
         try dsimp only at H
         have HC12 := zA H
         clear H
         go_upto_region 9 with (first | ((with_reducible refine zg 120 ?_); refine gL (some 41) Try.func120 #[.slice (some ad335) l0.length c0, .int .i64 (wrap64 (a1 + 1)), .int .i64 x7_7, .int .u8 x8_7] ?_; (with_reducible refine (impl_numberAt.calls kj7 _ _ l0 (wrap64 (a1 + 1)) x7_7 x8_7 t337 t338 _ ?z1 ?z2 A11.out).mono ?_); (case z1 => exact zc HR0.out); (case z2 => exact HC0.out); rintro e w' ⟨rfl, ⟨nd, rfl⟩⟩; refine ⟨_, rfl, ?_⟩))
         (try simp only [Act.put, List.setIfInBounds_toArray, List.set_cons_zero, List.set_cons_succ])
         go_cut [51] (fun v51 wc => ∃ (kq : Nat) (x51_11 : Bool), v51 = .bool x51_11 ∧ Aside0 (impl_GetVar.j2 kq a1 x7_7 x8_7 t337 x51_11 = some (r1, r2, r3)) ∧ Aside0 (kq ≤ kj7) ∧ Drawn0 w wc)
         case first =>
          have H := HC12.out
          clear HC12
          by_cases c13 : t338 = true
          ·subst c13
           rw [if_pos rfl] at H
           replace H := zI H
           obtain ⟨t339, A14, H⟩ := H
           have H' := zA H
           clear H
           go_wp2_with (first | (go_at_call 118; (with_reducible refine (impl_bytesOf.calls kj7 t337 t339 _ A14.out).mono ?_); rintro e w' ⟨rfl, ⟨nd, rfl⟩⟩))
           go_meet
           case rel => exact ⟨_, ((t339 != x7_7)), zx, H', ⟨zz102⟩, zz34⟩
          ·replace c13 := Bool.eq_false_iff.mpr c13
           subst c13
           rw [if_neg (Bool.false_ne_true)] at H
           have H' := zA H
           clear H
           go_wp2
           go_meet
           case rel => exact ⟨_, (true), zx, H', ⟨zz102⟩, zz34⟩
         case rest =>
          clear HC12
          try clear c5; try clear c6; try clear c6b0; try clear c7; try clear c7b0; try clear c10; try clear c10b0; try clear hx335_0; try clear p335; try clear q335
          obtain ⟨kq, x51_11, rfl, HA, HJ11, ⟨mc11, rfl⟩⟩ := hcut
          cases kq with
          | zero => exact absurd HA.out (by simp [impl_GetVar.j2])
          | succ kj11 =>
           have H := HA.out
           clear HA
           simp only [impl_GetVar.j2] at H
           by_cases c15 : x51_11 = true
           ·subst c15
            rw [if_pos rfl] at H
            simp only [Option.some.injEq, Prod.mk.injEq] at H
            obtain ⟨rfl, rfl, rfl⟩ := H
            go_wp2
            go_ret3
            exact ⟨zx, zz34⟩
           ·replace c15 := Bool.eq_false_iff.mpr c15
            subst c15
            rw [if_neg (Bool.false_ne_true)] at H
            by_cases c16 : x8_7 = 0
            ·rw [if_pos c16] at H
             have c16b0 : (x8_7 == 0) = true := beq_iff_eq.mpr c16
             have c16b1 : (x8_7 != 0) = false := bne_eq_false_iff_eq.mpr c16
             clear c16
             replace H := zI H
             obtain ⟨t340, A17, H⟩ := H
             by_cases c18 : t340 = true
             ·subst c18
              rw [if_pos rfl] at H
              simp only [Option.some.injEq, Prod.mk.injEq] at H
              obtain ⟨rfl, rfl, rfl⟩ := H
              go_wp2_with (first | ((with_reducible refine zg 80 ?_); refine gL (some 57) Try.func80 #[.int .i64 t337, .int .i64 (-1000000000000000), .int .i64 1000000000000000] ?_; (with_reducible refine (impl_in.calls t337 (-1000000000000000) 1000000000000000 true _ A17.out).mono ?_); rintro e w' ⟨rfl, ⟨nd, rfl⟩⟩; refine ⟨_, rfl, ?_⟩))
              go_ret3
              exact ⟨zx, zz34⟩
             ·replace c18 := Bool.eq_false_iff.mpr c18
              subst c18
              rw [if_neg (Bool.false_ne_true)] at H
              simp only [Option.some.injEq, Prod.mk.injEq] at H
              obtain ⟨rfl, rfl, rfl⟩ := H
              go_wp2_with (first | ((with_reducible refine zg 80 ?_); refine gL (some 57) Try.func80 #[.int .i64 t337, .int .i64 (-1000000000000000), .int .i64 1000000000000000] ?_; (with_reducible refine (impl_in.calls t337 (-1000000000000000) 1000000000000000 false _ A17.out).mono ?_); rintro e w' ⟨rfl, ⟨nd, rfl⟩⟩; refine ⟨_, rfl, ?_⟩))
              go_ret3
              exact ⟨zx, zz34⟩
            ·rw [if_neg c16] at H
             have c16b0 : (x8_7 == 0) = false := beq_eq_false_iff_ne.mpr c16
             have c16b1 : (x8_7 != 0) = true := bne_iff_ne.mpr c16
             replace H := zI H
             obtain ⟨t341, A19, H⟩ := H
             by_cases c20 : t341 = true
             ·subst c20
              rw [if_pos rfl] at H
              simp only [Option.some.injEq, Prod.mk.injEq] at H
              obtain ⟨rfl, rfl, rfl⟩ := H
              go_wp2_with (first | ((with_reducible refine zg 80 ?_); refine gL (some 57) Try.func80 #[.int .i64 (wrap64 ((-1) - t337)), .int .i64 (-1000000000000000), .int .i64 1000000000000000] ?_; (with_reducible refine (impl_in.calls (wrap64 ((-1) - t337)) (-1000000000000000) 1000000000000000 true _ A19.out).mono ?_); rintro e w' ⟨rfl, ⟨nd, rfl⟩⟩; refine ⟨_, rfl, ?_⟩))
              go_ret3
              exact ⟨zx, zz34⟩
             ·replace c20 := Bool.eq_false_iff.mpr c20
              subst c20
              rw [if_neg (Bool.false_ne_true)] at H
              simp only [Option.some.injEq, Prod.mk.injEq] at H
              obtain ⟨rfl, rfl, rfl⟩ := H
              go_wp2_with (first | ((with_reducible refine zg 80 ?_); refine gL (some 57) Try.func80 #[.int .i64 (wrap64 ((-1) - t337)), .int .i64 (-1000000000000000), .int .i64 1000000000000000] ?_; (with_reducible refine (impl_in.calls (wrap64 ((-1) - t337)) (-1000000000000000) 1000000000000000 false _ A19.out).mono ?_); rintro e w' ⟨rfl, ⟨nd, rfl⟩⟩; refine ⟨_, rfl, ?_⟩))
              go_ret3
              exact ⟨zx, zz34⟩
     ·rw [if_neg c7] at H
      exact absurd H (by simp)
    ·rw [if_neg c6] at H
     exact absurd H (by simp)

end Go.Proofs.Ytnfmpopmigbkoaa.PFnPartsRead

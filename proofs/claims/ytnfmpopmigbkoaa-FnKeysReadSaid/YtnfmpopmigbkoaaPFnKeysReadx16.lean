-- Written by mkprint.py, a program of this session (the printer with additions of its own)
import Derived.Test.YtnfmpopmigbkoaaPFnKeysReadx0
import Derived.Test.YtnfmpopmigbkoaaPFnKeysReadx15
namespace Go.Proofs.Ytnfmpopmigbkoaa.PFnKeysRead
open Go.RowKit Go.Proofs.YtnfmpopmigbkoaaW.PrintWords Go.Proofs.YtnfmpopmigbkoaaW.PrintLast Go.Proofs.YtnfmpopmigbkoaaW.PrintMore
attribute [local go_sem] max2_int min2_int max_two min_two max_three min_three max_four min_four   -- for this text's walks alone
set_option linter.unusedVariables false
set_option linter.unusedSimpArgs false

/-! ### spec_l1Below: function 107 -/
def spec_l1Below.f (s0_0 : List Int) (s0_1 : Int) (s0_2 : Int) (a1 : Int) : Option (Int × Int × Int) := if a1 ≤ 0 then (some (0, s0_1, s0_2)) else (if a1 ≤ 256 then ((spec_l1Byte.f s0_0 s0_1 s0_2).bind fun bt553 => (if a1 = 0 then (none) else (some (Int.tmod bt553.1 a1, bt553.2.1, bt553.2.2)))) else ((spec_l1Byte.f s0_0 s0_1 s0_2).bind fun bt556 => ((spec_l1Byte.f s0_0 bt556.2.1 bt556.2.2).bind fun bt559 => ((spec_l1Byte.f s0_0 bt559.2.1 bt559.2.2).bind fun bt562 => (if a1 = 0 then (none) else (some (Int.tmod (wrap64 ((wrap64 ((wrap64 (bt556.1 * 65536)) + (wrap64 (bt559.1 * 256)))) + bt562.1)) a1, bt562.2.1, bt562.2.2)))))))
set_option maxHeartbeats 8000000 in
set_option maxRecDepth 100000 in
theorem spec_l1Below.calls (g : Nat) (s0_0 : List Int) (s0_1 : Int) (s0_2 : Int) (a1 : Int) (r1 : Int) (r2 : Int) (r3 : Int) (w0 w : World) (hI : IsS102 w0 w g s0_0 s0_1 s0_2) (hB : Below w0.heap.size w0 w) (h : spec_l1Below.f s0_0 s0_1 s0_2 a1 = some (r1, r2, r3)) :
  Calls Try.prog 107 #[.pointer (some ⟨g, 0, none⟩), .int .i64 a1] w fun e w' => e = .returned (.int .i64 r1) ∧ IsS102 w0 w' g s0_0 r2 r3 ∧ Below w0.heap.size w0 w' ∧ KeepBut w w' g none := by
 have HI0 := zA hI
 have HK := zA (KeepBut.refl w g none)
 have HL := zA hB.size
 clear hI
 have HW0 := zA hB.size
 have HB := zA hB
 clear hB
 have H : (if a1 ≤ 0 then (some (0, s0_1, s0_2)) else (if a1 ≤ 256 then ((spec_l1Byte.f s0_0 s0_1 s0_2).bind fun bt553 => (if a1 = 0 then (none) else (some (Int.tmod bt553.1 a1, bt553.2.1, bt553.2.2)))) else ((spec_l1Byte.f s0_0 s0_1 s0_2).bind fun bt556 => ((spec_l1Byte.f s0_0 bt556.2.1 bt556.2.2).bind fun bt559 => ((spec_l1Byte.f s0_0 bt559.2.1 bt559.2.2).bind fun bt562 => (if a1 = 0 then (none) else (some (Int.tmod (wrap64 ((wrap64 ((wrap64 (bt556.1 * 65536)) + (wrap64 (bt559.1 * 256)))) + bt562.1)) a1, bt562.2.1, bt562.2.2)))))))) = some (r1, r2, r3) := h
 clear h
 by_cases c3 : a1 ≤ 0
 ·rw [if_pos c3] at H
  have c3b0 : decide (a1 ≤ 0) = true := decide_eq_true c3
  clear c3
  simp only [Option.some.injEq, Prod.mk.injEq] at H
  obtain ⟨rfl, rfl, rfl⟩ := H
  go_enter Try.func107, Try.ntmps107
  go_wp2
  go_ret
  exact ⟨zw, zz0, zz1, zf⟩
 ·rw [if_neg c3] at H
  have c3b0 : decide (a1 ≤ 0) = false := decide_eq_false c3
  clear c3
  by_cases c4 : a1 ≤ 256
  ·rw [if_pos c4] at H
   have c4b0 : decide (a1 ≤ 256) = true := decide_eq_true c4
   clear c4
   replace H := zI H
   obtain ⟨⟨t553, t554, t555⟩, A5, H⟩ := H
   try dsimp only at H
   by_cases c6 : a1 = 0
   ·rw [if_pos c6] at H
    exact absurd H (by simp)
   ·rw [if_neg c6] at H
    have c6b0 : (a1 == 0) = false := beq_eq_false_iff_ne.mpr c6
    have c6b1 : (a1 != 0) = true := bne_iff_ne.mpr c6
    simp only [Option.some.injEq, Prod.mk.injEq] at H
    obtain ⟨rfl, rfl, rfl⟩ := H
    go_enter Try.func107, Try.ntmps107
    go_wp2_with (first | ((with_reducible refine zg 121 ?_); refine gL (some 13) Try.func121 #[.pointer (some ⟨g, 0, none⟩)] ?_; (with_reducible refine (spec_l1Byte.calls g s0_0 s0_1 s0_2 t553 t554 t555 w0 _ ?z1 ?z2 A5.out).mono ?_); (case z1 => exact zz0); (case z2 => exact zz1); rintro e w7 ⟨rfl, hi, hb, hk⟩; refine ⟨_, rfl, ?_⟩; replace HK := zT hk; replace HB := zA hb; replace HI0 := zA hi; clear hb hk hi))
    go_ret
    exact ⟨zw, zz0, zz1, zf⟩
  ·rw [if_neg c4] at H
   have c4b0 : decide (a1 ≤ 256) = false := decide_eq_false c4
   clear c4
   replace H := zI H
   obtain ⟨⟨t556, t557, t558⟩, A8, H⟩ := H
   try dsimp only at H
   replace H := zI H
   obtain ⟨⟨t559, t560, t561⟩, A9, H⟩ := H
   try dsimp only at H
   replace H := zI H
   obtain ⟨⟨t562, t563, t564⟩, A10, H⟩ := H
   try dsimp only at H
   by_cases c11 : a1 = 0
   ·rw [if_pos c11] at H
    exact absurd H (by simp)
   ·rw [if_neg c11] at H
    have c11b0 : (a1 == 0) = false := beq_eq_false_iff_ne.mpr c11
    have c11b1 : (a1 != 0) = true := bne_iff_ne.mpr c11
    simp only [Option.some.injEq, Prod.mk.injEq] at H
    obtain ⟨rfl, rfl, rfl⟩ := H
    go_enter Try.func107, Try.ntmps107
    go_wp2_with (first | ((with_reducible refine zg 121 ?_); refine gL (some 17) Try.func121 #[.pointer (some ⟨g, 0, none⟩)] ?_; (with_reducible refine (spec_l1Byte.calls g s0_0 s0_1 s0_2 t556 t557 t558 w0 _ ?z1 ?z2 A8.out).mono ?_); (case z1 => exact zz0); (case z2 => exact zz1); rintro e w12 ⟨rfl, hi, hb, hk⟩; refine ⟨_, rfl, ?_⟩; replace HK := zT hk; replace HB := zA hb; replace HI0 := zA hi; clear hb hk hi) | ((with_reducible refine zg 121 ?_); refine gL (some 19) Try.func121 #[.pointer (some ⟨g, 0, none⟩)] ?_; (with_reducible refine (spec_l1Byte.calls g s0_0 t557 t558 t559 t560 t561 w0 _ ?z1 ?z2 A9.out).mono ?_); (case z1 => exact zz0); (case z2 => exact zz1); rintro e w13 ⟨rfl, hi, hb, hk⟩; refine ⟨_, rfl, ?_⟩; replace HK := zT hk; replace HB := zA hb; replace HI0 := zA hi; clear hb hk hi) | ((with_reducible refine zg 121 ?_); refine gL (some 21) Try.func121 #[.pointer (some ⟨g, 0, none⟩)] ?_; (with_reducible refine (spec_l1Byte.calls g s0_0 t560 t561 t562 t563 t564 w0 _ ?z1 ?z2 A10.out).mono ?_); (case z1 => exact zz0); (case z2 => exact zz1); rintro e w14 ⟨rfl, hi, hb, hk⟩; refine ⟨_, rfl, ?_⟩; replace HK := zT hk; replace HB := zA hb; replace HI0 := zA hi; clear hb hk hi))
    go_ret
    exact ⟨zw, zz0, zz1, zf⟩

/-! ### spec_l1Int: function 108 -/
def spec_l1Int.f (s0_0 : List Int) (s0_1 : Int) (s0_2 : Int) (l1 : List Int) : Option (Int × Int × Int) := (spec_l1Below.f s0_0 s0_1 s0_2 (l1.length : Int)).bind fun bt565 => (if 0 ≤ bt565.1 then (if bt565.1 < (l1.length : Int) then (some (rd l1 bt565.1, bt565.2.1, bt565.2.2)) else (none)) else (none))
set_option maxHeartbeats 8000000 in
set_option maxRecDepth 100000 in
theorem spec_l1Int.calls (g : Nat) (s0_0 : List Int) (s0_1 : Int) (s0_2 : Int) (A1 : Option Addr) (c1 : Nat) (l1 : List Int) (r1 : Int) (r2 : Int) (r3 : Int) (w0 w : World) (hI : IsS102 w0 w g s0_0 s0_1 s0_2) (hB : Below w0.heap.size w0 w) (hr1 : Kd.C (Kd.int .i64) w A1 l1.length l1) (hc1 : l1.length ≤ c1) (hf1 : ∀ ad, A1 = some ad → 0 < l1.length → ad.block ≠ g) (h : spec_l1Int.f s0_0 s0_1 s0_2 l1 = some (r1, r2, r3)) :
  Calls Try.prog 108 #[.pointer (some ⟨g, 0, none⟩), .slice A1 l1.length c1] w fun e w' => e = .returned (.int .i64 r1) ∧ IsS102 w0 w' g s0_0 r2 r3 ∧ Below w0.heap.size w0 w' ∧ KeepBut w w' g none := by
 have HR1 := zA hr1
 have HC1 := zA hc1
 clear hr1 hc1
 have HI0 := zA hI
 have HK := zA (KeepBut.refl w g none)
 have HL := zA hB.size
 clear hI
 have HW0 := zA hB.size
 have HB := zA hB
 clear hB
 have H : ((spec_l1Below.f s0_0 s0_1 s0_2 (l1.length : Int)).bind fun bt565 => (if 0 ≤ bt565.1 then (if bt565.1 < (l1.length : Int) then (some (rd l1 bt565.1, bt565.2.1, bt565.2.2)) else (none)) else (none))) = some (r1, r2, r3) := h
 clear h
 replace H := zI H
 obtain ⟨⟨t565, t566, t567⟩, A3, H⟩ := H
 try dsimp only at H
 by_cases c4 : 0 ≤ t565
 ·rw [if_pos c4] at H
  have c4b0 : decide (0 ≤ t565) = true := decide_eq_true c4
  clear c4
  by_cases c5 : t565 < (l1.length : Int)
  ·rw [if_pos c5] at H
   have c5b0 : decide (t565 < (l1.length : Int)) = true := decide_eq_true c5
   clear c5
   simp only [Option.some.injEq, Prod.mk.injEq] at H
   obtain ⟨rfl, rfl, rfl⟩ := H
   go_enter Try.func108, Try.ntmps108
   go_wp2_with (first | ((with_reducible refine zg 107 ?_); refine gL (some 9) Try.func107 #[.pointer (some ⟨g, 0, none⟩), .int .i64 (l1.length : Int)] ?_; (with_reducible refine (spec_l1Below.calls g s0_0 s0_1 s0_2 (l1.length : Int) t565 t566 t567 w0 _ ?z1 ?z2 A3.out).mono ?_); (case z1 => exact zz0); (case z2 => exact zz1); rintro e w6 ⟨rfl, hi, hb, hk⟩; refine ⟨_, rfl, ?_⟩; replace HK := zT hk; replace HB := zA hb; replace HI0 := zA hi; clear hb hk hi; have p568 : 0 ≤ (t565 : Int) := of_decide_eq_true za; have q568 : t565 < (l1.length : Int) := of_decide_eq_true za; obtain ⟨ad568, e568, hx568_0⟩ := Kd.at_int HR1.out t565 p568 q568; cases e568; replace hx568_0 := keep_cell HK.out hx568_0 (by first | (rw [add_block]; exact hf1 _ rfl (by omega)) | exact hf1 _ rfl (by omega) | exact hf1 ad568 rfl (by omega)); replace p568 := eq_true p568; replace q568 := eq_true q568))
   go_ret
   exact ⟨zw, zz0, zz1, zf⟩
  ·rw [if_neg c5] at H
   exact absurd H (by simp)
 ·rw [if_neg c4] at H
  exact absurd H (by simp)

/-! ### spec_l1Bend: function 82 -/
def spec_l1Bend.f (s0_0 : List Int) (s0_1 : Int) (s0_2 : Int) (l1 : List Int) : Option (List Int × Int × Int) := if (l1.length : Int) = 0 then (some (l1, s0_1, s0_2)) else ((spec_l1Below.f s0_0 s0_1 s0_2 5).bind fun bt569 => (if bt569.1 = 0 then ((spec_l1Below.f s0_0 bt569.2.1 bt569.2.2 (l1.length : Int)).bind fun bt572 => ((spec_l1Int.f s0_0 bt572.2.1 bt572.2.2 (([0, 1, 2, 127, 128, 255] : List Int))).bind fun bt578 => (if 0 ≤ bt572.1 then (if bt572.1 < (l1.length : Int) then (some ((l1.set (bt572.1 : Int).toNat ((bt578.1) % 256)), bt578.2.1, bt578.2.2)) else (none)) else (none)))) else (if bt569.1 = 1 then (if l1.length < 140737488355328 then (some ((l1 ++ [3]), bt569.2.1, bt569.2.2)) else (none)) else (if bt569.1 = 2 then ((spec_l1Below.f s0_0 bt569.2.1 bt569.2.2 (l1.length : Int)).bind fun bt585 => (if 0 ≤ bt585.1 then (if bt585.1 ≤ (l1.length : Int) then (some ((l1.take (bt585.1 : Int).toNat), bt585.2.1, bt585.2.2)) else (none)) else (none))) else (some (l1, bt569.2.1, bt569.2.2))))))
set_option maxHeartbeats 8000000 in
set_option maxRecDepth 100000 in
theorem spec_l1Bend.calls (g : Nat) (s0_0 : List Int) (s0_1 : Int) (s0_2 : Int) (P1_ : Nat → Prop) (u9000_ : Value) (l1 : List Int) (r1 : List Int) (r2 : Int) (r3 : Int) (w0 w : World) (hI : IsS102 w0 w g s0_0 s0_1 s0_2) (hB : Below w0.heap.size w0 w) (ho1 : Kd.R (Kd.int .u8) 5 w w0.heap.size P1_ u9000_ l1) (h : spec_l1Bend.f s0_0 s0_1 s0_2 l1 = some (r1, r2, r3)) :
  Calls Try.prog 82 #[.pointer (some ⟨g, 0, none⟩), u9000_] w fun e w' => ∃ v0_ : Value, e = .returned (v0_) ∧ Kd.R (Kd.int .u8) 5 w' w0.heap.size (fun k_ => (P1_ k_ ∨ w.heap.size ≤ k_)) v0_ r1 ∧ IsS102 w0 w' g s0_0 r2 r3 ∧ Below w0.heap.size w0 w' ∧ Kept w w' (fun k_ => (P1_ k_) ∨ k_ = g) := by
 have HO1 := zA (show Kd.R (Kd.int .u8) 5 w w0.heap.size (fun k_ => (P1_ k_ ∨ w.heap.size ≤ k_)) u9000_ l1 from Kd.R_mono ho1 (fun k_ hk => (.inl hk)))
 have HI0 := zA hI
 have HL := zA hB.size
 clear hI
 have HK := zA (Kept.refl w (fun k_ => (P1_ k_) ∨ k_ = g))
 have HW0 := zA hB.size
 have HB := zA hB
 clear hB
 have H : (if (l1.length : Int) = 0 then (some (l1, s0_1, s0_2)) else ((spec_l1Below.f s0_0 s0_1 s0_2 5).bind fun bt569 => (if bt569.1 = 0 then ((spec_l1Below.f s0_0 bt569.2.1 bt569.2.2 (l1.length : Int)).bind fun bt572 => ((spec_l1Int.f s0_0 bt572.2.1 bt572.2.2 (([0, 1, 2, 127, 128, 255] : List Int))).bind fun bt578 => (if 0 ≤ bt572.1 then (if bt572.1 < (l1.length : Int) then (some ((l1.set (bt572.1 : Int).toNat ((bt578.1) % 256)), bt578.2.1, bt578.2.2)) else (none)) else (none)))) else (if bt569.1 = 1 then (if l1.length < 140737488355328 then (some ((l1 ++ [3]), bt569.2.1, bt569.2.2)) else (none)) else (if bt569.1 = 2 then ((spec_l1Below.f s0_0 bt569.2.1 bt569.2.2 (l1.length : Int)).bind fun bt585 => (if 0 ≤ bt585.1 then (if bt585.1 ≤ (l1.length : Int) then (some ((l1.take (bt585.1 : Int).toNat), bt585.2.1, bt585.2.2)) else (none)) else (none))) else (some (l1, bt569.2.1, bt569.2.2))))))) = some (r1, r2, r3) := h
 clear h
 by_cases c3 : (l1.length : Int) = 0
 ·rw [if_pos c3] at H
  have c3b0 : ((l1.length : Int) == 0) = true := beq_iff_eq.mpr c3
  have c3b1 : ((l1.length : Int) != 0) = false := bne_eq_false_iff_eq.mpr c3
  clear c3
  simp only [Option.some.injEq, Prod.mk.injEq] at H
  obtain ⟨rfl, rfl, rfl⟩ := H
  obtain ⟨Ao4, co4, eo4⟩ := Kd.R_slice HO1.out
  subst eo4
  go_enter Try.func82, Try.ntmps82
  go_wp2
  go_ret
  exact ⟨_, zw, zr HO1, zz0, zz1, zz17⟩
 ·rw [if_neg c3] at H
  have c3b0 : ((l1.length : Int) == 0) = false := beq_eq_false_iff_ne.mpr c3
  have c3b1 : ((l1.length : Int) != 0) = true := bne_iff_ne.mpr c3
  have c3b2 : ¬ (l1 = []) := fun h_ => c3 (by rw [h_]; rfl)
  replace H := zI H
  obtain ⟨⟨t569, t570, t571⟩, A5, H⟩ := H
  try dsimp only at H
  by_cases c6 : t569 = 0
  ·rw [if_pos c6] at H
   have c6b0 : (t569 == 0) = true := beq_iff_eq.mpr c6
   have c6b1 : (t569 != 0) = false := bne_eq_false_iff_eq.mpr c6
   clear c6
   replace H := zI H
   obtain ⟨⟨t572, t573, t574⟩, A7, H⟩ := H
   try dsimp only at H
   obtain ⟨y575, hy575⟩ : ∃ y_ : List Int, y_ = (([0, 1, 2, 127, 128, 255] : List Int)) := ⟨_, rfl⟩
   replace H : ((spec_l1Int.f s0_0 t573 t574 y575).bind fun bt578 => (if 0 ≤ t572 then (if t572 < (l1.length : Int) then (some ((l1.set (t572 : Int).toNat ((bt578.1) % 256)), bt578.2.1, bt578.2.2)) else (none)) else (none))) = some (r1, r2, r3) := zy hy575
   have Ny575 := zA hy575
   clear hy575
   replace H := zI H
   obtain ⟨⟨t578, t579, t580⟩, A8, H⟩ := H
   try dsimp only at H
   by_cases c9 : 0 ≤ t572
   ·rw [if_pos c9] at H
    have c9b0 : decide (0 ≤ t572) = true := decide_eq_true c9
    clear c9
    by_cases c10 : t572 < (l1.length : Int)
    ·rw [if_pos c10] at H
     have c10b0 : decide (t572 < (l1.length : Int)) = true := decide_eq_true c10
     clear c10
     obtain ⟨y581, hy581⟩ : ∃ y_ : List Int, y_ = (l1.set (t572 : Int).toNat ((t578) % 256)) := ⟨_, rfl⟩
     replace H : (some (y581, t579, t580)) = some (r1, r2, r3) := zy hy581
     have Ny581 := zA hy581
     clear hy581
     simp only [Option.some.injEq, Prod.mk.injEq] at H
     obtain ⟨rfl, rfl, rfl⟩ := H
     obtain ⟨Ao12, co12, eo12⟩ := Kd.R_slice HO1.out
     subst eo12
     go_enter Try.func82, Try.ntmps82
     go_wp2_with (first | ((with_reducible refine zg 107 ?_); refine gL (some 10) Try.func107 #[.pointer (some ⟨g, 0, none⟩), .int .i64 5] ?_; (with_reducible refine (spec_l1Below.calls g s0_0 s0_1 s0_2 5 t569 t570 t571 w0 _ ?z1 ?z2 A5.out).mono ?_); (case z1 => exact zz0); (case z2 => exact zz1); rintro e w13 ⟨rfl, hi, hb, hk⟩; refine ⟨_, rfl, ?_⟩; replace HO1 := zA (Kd.R_mono (Kd.R_keep (IsS102.apart (show IsS102 w0 _ g s0_0 s0_1 s0_2 from zz0) (zr HO1) (by decide)) hk (fun _ h => h.2)) (fun _ h => h.1)); replace HK := zA (Kept.of_keep (S := (fun k_ => (P1_ k_) ∨ k_ = g)) zz17 hk (.inl (.inr rfl))); replace HB := zA hb; replace HI0 := zA hi; clear hb hk hi) | ((with_reducible refine zg 107 ?_); refine gL (some 17) Try.func107 #[.pointer (some ⟨g, 0, none⟩), .int .i64 (l1.length : Int)] ?_; (with_reducible refine (spec_l1Below.calls g s0_0 t570 t571 (l1.length : Int) t572 t573 t574 w0 _ ?z1 ?z2 A7.out).mono ?_); (case z1 => exact zz0); (case z2 => exact zz1); rintro e w14 ⟨rfl, hi, hb, hk⟩; refine ⟨_, rfl, ?_⟩; replace HO1 := zA (Kd.R_mono (Kd.R_keep (IsS102.apart (show IsS102 w0 _ g s0_0 t570 t571 from zz0) (zr HO1) (by decide)) hk (fun _ h => h.2)) (fun _ h => h.1)); replace HK := zA (Kept.of_keep (S := (fun k_ => (P1_ k_) ∨ k_ = g)) zz17 hk (.inl (.inr rfl))); replace HB := zA hb; replace HI0 := zA hi; clear hb hk hi) | ((with_reducible refine zt 19 ?_); refine Kd.R_lit (Kd.int .i64) _ 3 ?hg (N := 19) ?hd (xs := ([0, 1, 2, 127, 128, 255] : List Int)) (inner := [.int .i64 0, .int .i64 1, .int .i64 2, .int .i64 127, .int .i64 128, .int .i64 255]) (ok := fun _ => True) (okp := fun _ => True) ?hr ?hp (fun _ hk => hk) trivial (Below.refl _ _) (Nat.le_refl _) (by simp) ?_; (case hd => rfl); (case hg => rfl); (case hr => exact zz16); (case hp => exact (Reps.one (show Kd.M (Kd.int .i64) _ _ _ 0 [.int .i64 0] from rfl) (Reps.one (show Kd.M (Kd.int .i64) _ _ _ 1 [.int .i64 1] from rfl) (Reps.one (show Kd.M (Kd.int .i64) _ _ _ 2 [.int .i64 2] from rfl) (Reps.one (show Kd.M (Kd.int .i64) _ _ _ 127 [.int .i64 127] from rfl) (Reps.one (show Kd.M (Kd.int .i64) _ _ _ 128 [.int .i64 128] from rfl) (Reps.one (show Kd.M (Kd.int .i64) _ _ _ 255 [.int .i64 255] from rfl) (Reps.none _ _)))))))); intro v576 w15 ho16 hb hg_ hnew_; clear hg_ hnew_; (first | rw [← Ny575.out] at ho16 | (simp only [Int.reduceToNat] at ho16; rw [← Ny575.out] at ho16)); replace HO1 := zR HO1 hb; have HO577 := zL (Kd.R_newM (M := fun k_ => (P1_ k_ ∨ w.heap.size ≤ k_)) ho16 zz105 (fun k_ h_ => .inr h_)) zz1; replace HK := zA (Kept.below (S := (fun k_ => (P1_ k_) ∨ k_ = g)) zz17 hb); replace HB := zS hb zz1; replace HI0 := zA (IsS102.below zz0 hb); clear hb ho16; obtain ⟨Ao17, co17, eo17⟩ := Kd.R_slice HO577.out; subst eo17) | ((with_reducible refine zg 108 ?_); refine gL (some 20) Try.func108 #[.pointer (some ⟨g, 0, none⟩), .slice Ao17 y575.length co17] ?_; (with_reducible refine (spec_l1Int.calls g s0_0 t573 t574 _ _ y575 t578 t579 t580 w0 _ ?z1 ?z2 ?z3 ?z4 ?z5 A8.out).mono ?_); (case z1 => exact zz0); (case z2 => exact zz1); (case z3 => exact ze HO577); (case z4 => exact zl HO577); (case z5 => exact far_slice (IsS102.own_ne HI0.out HO577.out (by decide))); rintro e w18 ⟨rfl, hi, hb, hk⟩; refine ⟨_, rfl, ?_⟩; replace HO1 := zA (Kd.R_mono (Kd.R_keep (IsS102.apart (show IsS102 w0 _ g s0_0 t573 t574 from zz0) (zr HO1) (by decide)) hk (fun _ h => h.2)) (fun _ h => h.1)); replace HO577 := zA (Kd.R_mono (Kd.R_keep (IsS102.apart (show IsS102 w0 _ g s0_0 t573 t574 from zz0) (zr HO577) (by decide)) hk (fun _ h => h.2)) (fun _ h => h.1)); replace HK := zA (Kept.of_keep (S := (fun k_ => (P1_ k_) ∨ k_ = g)) zz17 hk (.inl (.inr rfl))); replace HB := zA hb; replace HI0 := zA hi; clear hb hk hi; have p11 : 0 ≤ (t572 : Int) := of_decide_eq_true za; have q11 : (t572 : Int) < ((l1.length : Int) : Int) := of_decide_eq_true za; obtain ⟨go11, co11, eo11, gb11, gl11, cl11, HG11⟩ := Kd.R_form HO1.out (by omega); (first | cases eo11 | (injection eo11 with ea_ en_ ec_; (first | subst ea_ | (injection ea_ with ea_; subst ea_)); subst ec_; clear en_)); have GB11 := zA gb11; have GG11 := zA HG11; clear gb11 gl11 HG11; have HMgo11 := zA (show (P1_ go11 ∨ w.heap.size ≤ go11) from (HO1.out.1 _ rfl)); obtain ⟨hx11_0, hf11_0⟩ := Kd.R_celln 0 HO1.out (t572 : Int) p11 q11; replace p11 := eq_true p11; replace q11 := eq_true q11; obtain ⟨hy19_, hz19_⟩ := Kd.R_celln 0 HO1.out (t572 : Int) (of_decide_eq_true za) (of_decide_eq_true za); have HP19 := Kd.R_putg HO1.out (t572 : Int) ((t578) % 256)) | ((with_reducible refine gate_store (t := 5) (p := 22) rfl ?_); refine store_event (t := 5) (p := 22) (v := ?vo_w20) (w1 := (w18.setCell ⟨go11, (t572 : Int).toNat, none⟩ (.int .u8 ((t578) % 256)))) ?hg ?ho ?hn ?hr ?_; (case ho => rfl); (case hg => rfl); (case hn => rfl); (case hr => exact zz16); intro w20 hw; have hg : w18.grownBy w20 (some go11) := (by rw [hw]; exact HP19.2); have hp_ : Kd.R (Kd.int .u8) 5 w20 w0.heap.size (fun k_ => (P1_ k_ ∨ w.heap.size ≤ k_)) (.slice (some ⟨go11, 0, none⟩) l1.length co12) y581 := (by rw [hw, Ny581.out]; exact HP19.1); clear HP19; replace HI0 := zA (IsS102.grown zz0 hg (IsS102.own_ne HI0.out HO1.out (by decide))); replace HO577 := zA (Kd.R_over' (v := (.slice (some ⟨go11, 0, none⟩) l1.length co12)) (zr HO577) (Kd.R_typed HO1.out) (by decide) hg); replace HB := zA ((by rw [hw]; exact below_set (HB.out) GB11.out : Below w0.heap.size w0 w20)); replace HK := zA (Kept.of_grown (S := (fun k_ => (P1_ k_) ∨ k_ = g)) hg zz17 (fun k_ e_ => Or.imp_left Or.inl ((HO1.out.1 k_ e_)))); replace HO1 := zA hp_; clear hg hw hp_))
     go_ret
     exact ⟨_, zw, zr HO1, zz0, zz1, zz17⟩
    ·rw [if_neg c10] at H
     exact absurd H (by simp)
   ·rw [if_neg c9] at H
    exact absurd H (by simp)
  ·rw [if_neg c6] at H
   have c6b0 : (t569 == 0) = false := beq_eq_false_iff_ne.mpr c6
   have c6b1 : (t569 != 0) = true := bne_iff_ne.mpr c6
   by_cases c21 : t569 = 1
   ·rw [if_pos c21] at H
    have c21b0 : (t569 == 1) = true := beq_iff_eq.mpr c21
    have c21b1 : (t569 != 1) = false := bne_eq_false_iff_eq.mpr c21
    clear c21
    by_cases c22 : l1.length < 140737488355328
    ·rw [if_pos c22] at H
     have LMc22 := zA c22
     clear c22
     obtain ⟨y582, hy582⟩ : ∃ y_ : List Int, y_ = (l1 ++ [3]) := ⟨_, rfl⟩
     replace H : (some (y582, t570, t571)) = some (r1, r2, r3) := zy hy582
     have Ny582 := zA hy582
     clear hy582
     simp only [Option.some.injEq, Prod.mk.injEq] at H
     obtain ⟨rfl, rfl, rfl⟩ := H
     obtain ⟨Ao23, co23, eo23⟩ := Kd.R_slice HO1.out
     subst eo23
     go_enter Try.func82, Try.ntmps82
     go_wp2_with (first | ((with_reducible refine zg 107 ?_); refine gL (some 10) Try.func107 #[.pointer (some ⟨g, 0, none⟩), .int .i64 5] ?_; (with_reducible refine (spec_l1Below.calls g s0_0 s0_1 s0_2 5 t569 t570 t571 w0 _ ?z1 ?z2 A5.out).mono ?_); (case z1 => exact zz0); (case z2 => exact zz1); rintro e w24 ⟨rfl, hi, hb, hk⟩; refine ⟨_, rfl, ?_⟩; replace HO1 := zA (Kd.R_mono (Kd.R_keep (IsS102.apart (show IsS102 w0 _ g s0_0 s0_1 s0_2 from zz0) (zr HO1) (by decide)) hk (fun _ h => h.2)) (fun _ h => h.1)); replace HK := zA (Kept.of_keep (S := (fun k_ => (P1_ k_) ∨ k_ = g)) zz17 hk (.inl (.inr rfl))); replace HB := zA hb; replace HI0 := zA hi; clear hb hk hi) | ((with_reducible refine gate_builtin (b := .append) (xs := #[.tmp 25, .tmp 26]) rfl ?_); at_builtin; refine Kd.R_append (Kd.int .u8) (w0 := w0) w0.heap.size rfl (.tmp 25) (.tmp 26) 22 5 (.int .u8 0) 1 rfl Try.underlying22 info5 rfl (by decide) (by omega) (.slice Ao23 l1.length co23) l1 3 [.int .u8 3] (fun k_ => (P1_ k_ ∨ w.heap.size ≤ k_)) (fun _ => False) rfl rfl ?aP (fun _ hk => hk.elim) ?aF ?aO ?aB ?aS ?aL ?_; (case aP => exact rfl); (case aB => exact zz1); (case aF => exact (fun k_ hk => (.inr (Nat.le_trans zz105 hk)))); (case aO => exact (zr HO1)); (case aS => exact (below_size zz1)); (case aL => have := LMc22.out; omega); intro v583 w25 ho hb hg hat; rw [← Ny582.out] at ho; replace HI0 := zA (IsS102.grown zz0 hg (IsS102.own_ne HI0.out HO1.out (by decide))); replace HB := zA hb; replace HK := zA (Kept.of_grown (S := (fun k_ => (P1_ k_) ∨ k_ = g)) hg zz17 (fun k_ e_ => Or.imp_left Or.inl ((HO1.out.1 k_ e_)))); have HO584 := zA ho; clear HO1 ho hb hg hat))
     go_ret
     exact ⟨_, zw, zr HO584, zz0, zz1, zz17⟩
    ·rw [if_neg c22] at H
     exact absurd H (by simp)
   ·rw [if_neg c21] at H
    have c21b0 : (t569 == 1) = false := beq_eq_false_iff_ne.mpr c21
    have c21b1 : (t569 != 1) = true := bne_iff_ne.mpr c21
    by_cases c26 : t569 = 2
    ·rw [if_pos c26] at H
     have c26b0 : (t569 == 2) = true := beq_iff_eq.mpr c26
     have c26b1 : (t569 != 2) = false := bne_eq_false_iff_eq.mpr c26
     clear c26
     replace H := zI H
     obtain ⟨⟨t585, t586, t587⟩, A27, H⟩ := H
     try dsimp only at H
     by_cases c28 : 0 ≤ t585
     ·rw [if_pos c28] at H
      have c28b0 := eq_true c28
      have c28b1 : decide (0 ≤ t585) = true := decide_eq_true c28
      clear c28
      by_cases c29 : t585 ≤ (l1.length : Int)
      ·rw [if_pos c29] at H
       have c29b0 := eq_true c29
       have c29b1 : decide (t585 ≤ (l1.length : Int)) = true := decide_eq_true c29
       clear c29
       obtain ⟨y588, hy588⟩ : ∃ y_ : List Int, y_ = (l1.take (t585 : Int).toNat) := ⟨_, rfl⟩
       replace H : (some (y588, t586, t587)) = some (r1, r2, r3) := zy hy588
       have Ny588 := zA hy588
       clear hy588
       simp only [Option.some.injEq, Prod.mk.injEq] at H
       obtain ⟨rfl, rfl, rfl⟩ := H
       obtain ⟨Ao30, co30, eo30⟩ := Kd.R_slice HO1.out
       subst eo30
       go_enter Try.func82, Try.ntmps82
       go_wp2_with (first | ((with_reducible refine zg 107 ?_); refine gL (some 10) Try.func107 #[.pointer (some ⟨g, 0, none⟩), .int .i64 5] ?_; (with_reducible refine (spec_l1Below.calls g s0_0 s0_1 s0_2 5 t569 t570 t571 w0 _ ?z1 ?z2 A5.out).mono ?_); (case z1 => exact zz0); (case z2 => exact zz1); rintro e w31 ⟨rfl, hi, hb, hk⟩; refine ⟨_, rfl, ?_⟩; replace HO1 := zA (Kd.R_mono (Kd.R_keep (IsS102.apart (show IsS102 w0 _ g s0_0 s0_1 s0_2 from zz0) (zr HO1) (by decide)) hk (fun _ h => h.2)) (fun _ h => h.1)); replace HK := zA (Kept.of_keep (S := (fun k_ => (P1_ k_) ∨ k_ = g)) zz17 hk (.inl (.inr rfl))); replace HB := zA hb; replace HI0 := zA hi; clear hb hk hi) | ((with_reducible refine zg 107 ?_); refine gL (some 34) Try.func107 #[.pointer (some ⟨g, 0, none⟩), .int .i64 (l1.length : Int)] ?_; (with_reducible refine (spec_l1Below.calls g s0_0 t570 t571 (l1.length : Int) t585 t586 t587 w0 _ ?z1 ?z2 A27.out).mono ?_); (case z1 => exact zz0); (case z2 => exact zz1); rintro e w32 ⟨rfl, hi, hb, hk⟩; refine ⟨_, rfl, ?_⟩; replace HO1 := zA (Kd.R_mono (Kd.R_keep (IsS102.apart (show IsS102 w0 _ g s0_0 t570 t571 from zz0) (zr HO1) (by decide)) hk (fun _ h => h.2)) (fun _ h => h.1)); replace HK := zA (Kept.of_keep (S := (fun k_ => (P1_ k_) ∨ k_ = g)) zz17 hk (.inl (.inr rfl))); replace HB := zA hb; replace HI0 := zA hi; clear hb hk hi; have q33 : (t585 : Int) ≤ ((l1.length : Int) : Int) := of_decide_eq_true za; obtain ⟨i033, hi033, _, hsz33, _⟩ := info_parts info5; have hcut33 := cut_to (P := Try.prog) 22 5 .i64 Try.underlying22 hi033 Ao30 l1.length co30 t585 (of_decide_eq_true za) q33 (Kd.R_reads' HO1.out).2.1; have hr33 := Kd.R_take (m := (t585 : Int).toNat) HO1.out (by omega); have hy33 : y588.length = (t585 : Int).toNat := (by rw [Ny588.out, List.length_take]; omega); rw [← Ny588.out] at hr33; rw [← hy33] at hr33 hcut33; clear hy33 hi033 hsz33 HO1; have HO590 := zA hr33; clear hr33; replace q33 := eq_true q33))
       go_ret
       exact ⟨_, zw, zr HO590, zz0, zz1, zz17⟩
      ·rw [if_neg c29] at H
       exact absurd H (by simp)
     ·rw [if_neg c28] at H
      exact absurd H (by simp)
    ·rw [if_neg c26] at H
     have c26b0 : (t569 == 2) = false := beq_eq_false_iff_ne.mpr c26
     have c26b1 : (t569 != 2) = true := bne_iff_ne.mpr c26
     simp only [Option.some.injEq, Prod.mk.injEq] at H
     obtain ⟨rfl, rfl, rfl⟩ := H
     obtain ⟨Ao34, co34, eo34⟩ := Kd.R_slice HO1.out
     subst eo34
     go_enter Try.func82, Try.ntmps82
     go_wp2_with (first | ((with_reducible refine zg 107 ?_); refine gL (some 10) Try.func107 #[.pointer (some ⟨g, 0, none⟩), .int .i64 5] ?_; (with_reducible refine (spec_l1Below.calls g s0_0 s0_1 s0_2 5 t569 t570 t571 w0 _ ?z1 ?z2 A5.out).mono ?_); (case z1 => exact zz0); (case z2 => exact zz1); rintro e w35 ⟨rfl, hi, hb, hk⟩; refine ⟨_, rfl, ?_⟩; replace HO1 := zA (Kd.R_mono (Kd.R_keep (IsS102.apart (show IsS102 w0 _ g s0_0 s0_1 s0_2 from zz0) (zr HO1) (by decide)) hk (fun _ h => h.2)) (fun _ h => h.1)); replace HK := zA (Kept.of_keep (S := (fun k_ => (P1_ k_) ∨ k_ = g)) zz17 hk (.inl (.inr rfl))); replace HB := zA hb; replace HI0 := zA hi; clear hb hk hi))
     go_ret
     exact ⟨_, zw, zr HO1, zz0, zz1, zz17⟩

/-! ### spec_l1Once: function 110 -/
def spec_l1Once.f (s0_0 : List Int) (s0_1 : Int) (s0_2 : Int) (a1 : Int) : Option (Bool × Int × Int) := (spec_l1Below.f s0_0 s0_1 s0_2 a1).bind fun bt591 => (some ((bt591.1 == 0), bt591.2.1, bt591.2.2))
set_option maxHeartbeats 8000000 in
set_option maxRecDepth 100000 in
theorem spec_l1Once.calls (g : Nat) (s0_0 : List Int) (s0_1 : Int) (s0_2 : Int) (a1 : Int) (r1 : Bool) (r2 : Int) (r3 : Int) (w0 w : World) (hI : IsS102 w0 w g s0_0 s0_1 s0_2) (hB : Below w0.heap.size w0 w) (h : spec_l1Once.f s0_0 s0_1 s0_2 a1 = some (r1, r2, r3)) :
  Calls Try.prog 110 #[.pointer (some ⟨g, 0, none⟩), .int .i64 a1] w fun e w' => e = .returned (.bool r1) ∧ IsS102 w0 w' g s0_0 r2 r3 ∧ Below w0.heap.size w0 w' ∧ KeepBut w w' g none := by
 have HI0 := zA hI
 have HK := zA (KeepBut.refl w g none)
 have HL := zA hB.size
 clear hI
 have HW0 := zA hB.size
 have HB := zA hB
 clear hB
 have H : ((spec_l1Below.f s0_0 s0_1 s0_2 a1).bind fun bt591 => (some ((bt591.1 == 0), bt591.2.1, bt591.2.2))) = some (r1, r2, r3) := h
 clear h
 replace H := zI H
 obtain ⟨⟨t591, t592, t593⟩, A3, H⟩ := H
 try dsimp only at H
 simp only [Option.some.injEq, Prod.mk.injEq] at H
 obtain ⟨rfl, rfl, rfl⟩ := H
 go_enter Try.func110, Try.ntmps110
 go_wp2_with (first | ((with_reducible refine zg 107 ?_); refine gL (some 7) Try.func107 #[.pointer (some ⟨g, 0, none⟩), .int .i64 a1] ?_; (with_reducible refine (spec_l1Below.calls g s0_0 s0_1 s0_2 a1 t591 t592 t593 w0 _ ?z1 ?z2 A3.out).mono ?_); (case z1 => exact zz0); (case z2 => exact zz1); rintro e w4 ⟨rfl, hi, hb, hk⟩; refine ⟨_, rfl, ?_⟩; replace HK := zT hk; replace HB := zA hb; replace HI0 := zA hi; clear hb hk hi))
 go_ret
 exact ⟨zw, zz0, zz1, zf⟩

/-! ### spec_l5Draw: function 106 -/
def spec_l5Draw.f (s0_0 : List Int) (s0_1 : Int) (s0_2 : Int) (a1 : Int) : Option (Int × Int × Bool × Bool × Int × Int) := (spec_l1Below.f s0_0 s0_1 s0_2 4).bind fun bt595 => ((spec_l1Once.f s0_0 bt595.2.1 bt595.2.2 2).bind fun bt598 => ((spec_l1Once.f s0_0 bt598.2.1 bt598.2.2 2).bind fun bt601 => (some (a1, wrap64 (1 + bt595.1), bt598.1, bt601.1, bt601.2.1, bt601.2.2))))
set_option maxHeartbeats 8000000 in
set_option maxRecDepth 100000 in
theorem spec_l5Draw.calls (g : Nat) (s0_0 : List Int) (s0_1 : Int) (s0_2 : Int) (a1 : Int) (r1 : Int) (r2 : Int) (r3 : Bool) (r4 : Bool) (r5 : Int) (r6 : Int) (w0 w : World) (hI : IsS102 w0 w g s0_0 s0_1 s0_2) (hB : Below w0.heap.size w0 w) (h : spec_l5Draw.f s0_0 s0_1 s0_2 a1 = some (r1, r2, r3, r4, r5, r6)) :
  Calls Try.prog 106 #[.pointer (some ⟨g, 0, none⟩), .int .i64 a1] w fun e w' => e = .returned (.agg #[.int .i64 r1, .int .i64 r2, .bool r3, .bool r4]) ∧ IsS102 w0 w' g s0_0 r5 r6 ∧ Below w0.heap.size w0 w' ∧ KeepBut w w' g none := by
 have hu30 := Try.underlying30
 have HI0 := zA hI
 have HK := zA (KeepBut.refl w g none)
 have HL := zA hB.size
 clear hI
 have HW0 := zA hB.size
 have HB := zA hB
 clear hB
 have H : ((spec_l1Below.f s0_0 s0_1 s0_2 4).bind fun bt595 => ((spec_l1Once.f s0_0 bt595.2.1 bt595.2.2 2).bind fun bt598 => ((spec_l1Once.f s0_0 bt598.2.1 bt598.2.2 2).bind fun bt601 => (some (a1, wrap64 (1 + bt595.1), bt598.1, bt601.1, bt601.2.1, bt601.2.2))))) = some (r1, r2, r3, r4, r5, r6) := h
 clear h
 replace H := zI H
 obtain ⟨⟨t595, t596, t597⟩, A3, H⟩ := H
 try dsimp only at H
 replace H := zI H
 obtain ⟨⟨t598, t599, t600⟩, A4, H⟩ := H
 try dsimp only at H
 replace H := zI H
 obtain ⟨⟨t601, t602, t603⟩, A5, H⟩ := H
 try dsimp only at H
 simp only [Option.some.injEq, Prod.mk.injEq] at H
 obtain ⟨rfl, rfl, rfl, rfl, rfl, rfl⟩ := H
 go_enter Try.func106, Try.ntmps106
 go_wp2_with (first | ((with_reducible refine zt 4 ?_); refine zn #[.int .i64 0, .int .i64 0, .bool false, .bool false] 30 ?_; intro gb594 hg w6 hbox hb; replace HB := zS hb zz1; have BK594 := zA hbox; have GW594 := zA ((zz46 : w.heap.size ≤ gb594)); have GE594 := zA ((Nat.le_trans HW0.out (zz46 : w.heap.size ≤ gb594) : w0.heap.size ≤ gb594)); replace HK := zT (KeepBut.of_below hb g none); have NB0_594 := zA ((zz95 : g ≠ gb594)); have NB594_0 := zA ((zz96 : gb594 ≠ g)); replace HI0 := zA (IsS102.below zz0 hb); clear hb hbox hg) | ((with_reducible refine zg 107 ?_); refine gL (some 7) Try.func107 #[.pointer (some ⟨g, 0, none⟩), .int .i64 4] ?_; (with_reducible refine (spec_l1Below.calls g s0_0 s0_1 s0_2 4 t595 t596 t597 w0 _ ?z1 ?z2 A3.out).mono ?_); (case z1 => exact zz69); (case z2 => exact zz70); rintro e w7 ⟨rfl, hi, hb, hk⟩; refine ⟨_, rfl, ?_⟩; replace BK594 := zV hk BK594 NB594_0; replace HK := zT hk (zf1 GW594); replace HB := zA hb; replace HI0 := zA hi; clear hb hk hi) | ((with_reducible refine zg 110 ?_); refine gL (some 10) Try.func110 #[.pointer (some ⟨g, 0, none⟩), .int .i64 2] ?_; (with_reducible refine (spec_l1Once.calls g s0_0 t596 t597 2 t598 t599 t600 w0 _ ?z1 ?z2 A4.out).mono ?_); (case z1 => exact zz69); (case z2 => exact zz70); rintro e w8 ⟨rfl, hi, hb, hk⟩; refine ⟨_, rfl, ?_⟩; replace BK594 := zV hk BK594 NB594_0; replace HK := zT hk (zf1 GW594); replace HB := zA hb; replace HI0 := zA hi; clear hb hk hi) | ((with_reducible refine zg 110 ?_); refine gL (some 12) Try.func110 #[.pointer (some ⟨g, 0, none⟩), .int .i64 2] ?_; (with_reducible refine (spec_l1Once.calls g s0_0 t599 t600 2 t601 t602 t603 w0 _ ?z1 ?z2 A5.out).mono ?_); (case z1 => exact zz69); (case z2 => exact zz70); rintro e w9 ⟨rfl, hi, hb, hk⟩; refine ⟨_, rfl, ?_⟩; replace BK594 := zV hk BK594 NB594_0; replace HK := zT hk (zf1 GW594); replace HB := zA hb; replace HI0 := zA hi; clear hb hk hi; have hnb10 := NB594_0.out; have hnc10 := NB0_594.out; obtain ⟨hcz11_0, hcz11_1, hcz11_2, hcz11_3, hfz11_0, hfz11_1, hfz11_2, hfz11_3⟩ := zh4 BK594))
 refine bodyPost_ret (results_cell_row rfl _ _ gb594 30 #[.int .i64 a1, .int .i64 (wrap64 (1 + t595)), .bool t598, .bool t601] (0, 0) _ rfl (by (with_reducible repeat (first | refine blk_drewN ?_ _ | refine blk_drew ?_ | refine blk_alloc ?_ _)); refine blk_put (cs := #[.int .i64 a1, .int .i64 (wrap64 (1 + t595)), .bool t598, .bool false]) ?_ 3 _ rfl; (with_reducible repeat (first | refine blk_drewN ?_ _ | refine blk_drew ?_ | refine blk_alloc ?_ _)); refine blk_put (cs := #[.int .i64 a1, .int .i64 (wrap64 (1 + t595)), .bool false, .bool false]) ?_ 2 _ rfl; (with_reducible repeat (first | refine blk_drewN ?_ _ | refine blk_drew ?_ | refine blk_alloc ?_ _)); refine blk_put (cs := #[.int .i64 a1, .int .i64 0, .bool false, .bool false]) ?_ 1 _ rfl; (with_reducible repeat (first | refine blk_drewN ?_ _ | refine blk_drew ?_ | refine blk_alloc ?_ _)); refine blk_put (cs := #[.int .i64 0, .int .i64 0, .bool false, .bool false]) ?_ 0 _ rfl; (with_reducible repeat (first | refine blk_drewN ?_ _ | refine blk_drew ?_ | refine blk_alloc ?_ _)); exact BK594.out) Try.underlying30 rfl (by kernel_rfl)) rfl ?_
 exact ⟨zw, zz69, zz70, zf1 GW594⟩

/-! ### spec_l5Any: function 76 -/
def spec_l5Any.f (s0_0 : List Int) (s0_1 : Int) (s0_2 : Int) : Option (Int × Int × Bool × Bool × Int × Int) := (spec_l1Below.f s0_0 s0_1 s0_2 3).bind fun bt605 => ((spec_l5Draw.f s0_0 bt605.2.1 bt605.2.2 bt605.1).bind fun bt608 => ((spec_l1Below.f s0_0 bt608.2.2.2.2.1 bt608.2.2.2.2.2 12).bind fun bt615 => (if bt615.1 = 0 then ((spec_l1Int.f s0_0 bt615.2.1 bt615.2.2 (([(-1), 9, 10] : List Int))).bind fun bt621 => (some (bt621.1, bt608.2.1, bt608.2.2.1, bt608.2.2.2.1, bt621.2.1, bt621.2.2))) else (if bt615.1 = 1 then ((spec_l1Below.f s0_0 bt615.2.1 bt615.2.2 6).bind fun bt624 => (some (bt608.1, bt624.1, bt608.2.2.1, bt608.2.2.2.1, bt624.2.1, bt624.2.2))) else (some (bt608.1, bt608.2.1, bt608.2.2.1, bt608.2.2.2.1, bt615.2.1, bt615.2.2))))))
set_option maxHeartbeats 8000000 in
set_option maxRecDepth 100000 in
theorem spec_l5Any.calls (g : Nat) (s0_0 : List Int) (s0_1 : Int) (s0_2 : Int) (r1 : Int) (r2 : Int) (r3 : Bool) (r4 : Bool) (r5 : Int) (r6 : Int) (w0 w : World) (hI : IsS102 w0 w g s0_0 s0_1 s0_2) (hB : Below w0.heap.size w0 w) (h : spec_l5Any.f s0_0 s0_1 s0_2 = some (r1, r2, r3, r4, r5, r6)) :
  Calls Try.prog 76 #[.pointer (some ⟨g, 0, none⟩)] w fun e w' => e = .returned (.agg #[.int .i64 r1, .int .i64 r2, .bool r3, .bool r4]) ∧ IsS102 w0 w' g s0_0 r5 r6 ∧ Below w0.heap.size w0 w' ∧ KeepBut w w' g none := by
 have hu30 := Try.underlying30
 have HI0 := zA hI
 have HK := zA (KeepBut.refl w g none)
 have HL := zA hB.size
 clear hI
 have HW0 := zA hB.size
 have HB := zA hB
 clear hB
 have H : ((spec_l1Below.f s0_0 s0_1 s0_2 3).bind fun bt605 => ((spec_l5Draw.f s0_0 bt605.2.1 bt605.2.2 bt605.1).bind fun bt608 => ((spec_l1Below.f s0_0 bt608.2.2.2.2.1 bt608.2.2.2.2.2 12).bind fun bt615 => (if bt615.1 = 0 then ((spec_l1Int.f s0_0 bt615.2.1 bt615.2.2 (([(-1), 9, 10] : List Int))).bind fun bt621 => (some (bt621.1, bt608.2.1, bt608.2.2.1, bt608.2.2.2.1, bt621.2.1, bt621.2.2))) else (if bt615.1 = 1 then ((spec_l1Below.f s0_0 bt615.2.1 bt615.2.2 6).bind fun bt624 => (some (bt608.1, bt624.1, bt608.2.2.1, bt608.2.2.2.1, bt624.2.1, bt624.2.2))) else (some (bt608.1, bt608.2.1, bt608.2.2.1, bt608.2.2.2.1, bt615.2.1, bt615.2.2))))))) = some (r1, r2, r3, r4, r5, r6) := h
 clear h
 replace H := zI H
 obtain ⟨⟨t605, t606, t607⟩, A2, H⟩ := H
 try dsimp only at H
 replace H := zI H
 obtain ⟨⟨t608, t609, t610, t611, t612, t613⟩, A3, H⟩ := H
 try dsimp only at H
 replace H := zI H
 obtain ⟨⟨t615, t616, t617⟩, A4, H⟩ := H
 try dsimp only at H
 by_cases c5 : t615 = 0
 ·rw [if_pos c5] at H
  have c5b0 : (t615 == 0) = true := beq_iff_eq.mpr c5
  have c5b1 : (t615 != 0) = false := bne_eq_false_iff_eq.mpr c5
  clear c5
  obtain ⟨y618, hy618⟩ : ∃ y_ : List Int, y_ = (([(-1), 9, 10] : List Int)) := ⟨_, rfl⟩
  replace H : ((spec_l1Int.f s0_0 t616 t617 y618).bind fun bt621 => (some (bt621.1, t609, t610, t611, bt621.2.1, bt621.2.2))) = some (r1, r2, r3, r4, r5, r6) := zy hy618
  have Ny618 := zA hy618
  clear hy618
  replace H := zI H
  obtain ⟨⟨t621, t622, t623⟩, A6, H⟩ := H
  try dsimp only at H
  simp only [Option.some.injEq, Prod.mk.injEq] at H
  obtain ⟨rfl, rfl, rfl, rfl, rfl, rfl⟩ := H
  go_enter Try.func76, Try.ntmps76
  go_wp2_with (first | ((with_reducible refine zt 2 ?_); refine zn #[.int .i64 0, .int .i64 0, .bool false, .bool false] 30 ?_; intro gb604 hg w7 hbox hb; replace HB := zS hb zz1; have BK604 := zA hbox; have GW604 := zA ((zz46 : w.heap.size ≤ gb604)); have GE604 := zA ((Nat.le_trans HW0.out (zz46 : w.heap.size ≤ gb604) : w0.heap.size ≤ gb604)); replace HK := zT (KeepBut.of_below hb g none); have NB0_604 := zA ((zz95 : g ≠ gb604)); have NB604_0 := zA ((zz96 : gb604 ≠ g)); replace HI0 := zA (IsS102.below zz0 hb); clear hb hbox hg) | ((with_reducible refine zg 107 ?_); refine gL (some 6) Try.func107 #[.pointer (some ⟨g, 0, none⟩), .int .i64 3] ?_; (with_reducible refine (spec_l1Below.calls g s0_0 s0_1 s0_2 3 t605 t606 t607 w0 _ ?z1 ?z2 A2.out).mono ?_); (case z1 => exact zz14); (case z2 => exact zz33); rintro e w8 ⟨rfl, hi, hb, hk⟩; refine ⟨_, rfl, ?_⟩; replace BK604 := zV hk BK604 NB604_0; replace HK := zT hk (zf1 GW604); replace HB := zA hb; replace HI0 := zA hi; clear hb hk hi) | ((with_reducible refine zg 106 ?_); refine gL (some 7) Try.func106 #[.pointer (some ⟨g, 0, none⟩), .int .i64 t605] ?_; (with_reducible refine (spec_l5Draw.calls g s0_0 t606 t607 t605 t608 t609 t610 t611 t612 t613 w0 _ ?z1 ?z2 A3.out).mono ?_); (case z1 => exact zz14); (case z2 => exact zz33); rintro e w9 ⟨rfl, hi, hb, hk⟩; refine ⟨_, rfl, ?_⟩; replace BK604 := zV hk BK604 NB604_0; replace HK := zT hk (zf1 GW604); replace HB := zA hb; replace HI0 := zA hi; clear hb hk hi) | ((with_reducible refine zt 3 ?_); refine zn #[.int .i64 0, .int .i64 0, .bool false, .bool false] 30 ?_; intro gb614 hg w10 hbox hb; replace HB := zS hb zz33; have BK614 := zA hbox; have GW614 := zA ((zz81 : w.heap.size ≤ gb614)); have GE614 := zA ((Nat.le_trans HW0.out (zz81 : w.heap.size ≤ gb614) : w0.heap.size ≤ gb614)); replace HK := zT (KeepBut.of_below hb g none) (zf1 GW604); have NB604_614 := zX BK604 hg; have NB614_604 := zY BK604 hg; replace BK604 := zB BK604 hb; have NB0_614 := zA ((zz103 : g ≠ gb614)); have NB614_0 := zA ((zz104 : gb614 ≠ g)); replace HI0 := zA (IsS102.below zz14 hb); clear hb hbox hg; have hnb11 := NB614_604.out; have hnc11 := NB604_614.out; have hnb12 := NB614_0.out; have hnc12 := NB0_614.out; obtain ⟨hcz13_0, hcz13_1, hcz13_2, hcz13_3, hfz13_0, hfz13_1, hfz13_2, hfz13_3⟩ := zh4 BK614) | ((with_reducible refine zg 107 ?_); refine gL (some 9) Try.func107 #[.pointer (some ⟨g, 0, none⟩), .int .i64 12] ?_; (with_reducible refine (spec_l1Below.calls g s0_0 t612 t613 12 t615 t616 t617 w0 _ ?z1 ?z2 A4.out).mono ?_); (case z1 => exact zz25); (case z2 => exact zz26); rintro e w14 ⟨rfl, hi, hb, hk⟩; refine ⟨_, rfl, ?_⟩; replace BK604 := zA (KeepBut.blk hk (g' := gb604) (o := .cells #[.int .i64 0, .int .i64 0, .bool false, .bool false] 30 (0, 0)) zz31 NB604_0.out (by simp)); replace BK614 := zA (KeepBut.blk hk (g' := gb614) (o := .cells #[.int .i64 t608, .int .i64 t609, .bool t610, .bool t611] 30 (0, 0)) zz22 NB614_0.out (by simp)); replace HK := zT hk (zf2 GW604 GW614); replace HB := zA hb; replace HI0 := zA hi; clear hb hk hi) | ((with_reducible refine zt 13 ?_); refine Kd.R_lit (Kd.int .i64) _ 3 ?hg (N := 13) ?hd (xs := ([(-1), 9, 10] : List Int)) (inner := [.int .i64 (-1), .int .i64 9, .int .i64 10]) (ok := fun _ => True) (okp := fun _ => True) ?hr ?hp (fun _ hk => hk) trivial (Below.refl _ _) (Nat.le_refl _) (by simp) ?_; (case hd => rfl); (case hg => rfl); (case hr => exact zz16); (case hp => exact (Reps.one (show Kd.M (Kd.int .i64) _ _ _ (-1) [.int .i64 (-1)] from rfl) (Reps.one (show Kd.M (Kd.int .i64) _ _ _ 9 [.int .i64 9] from rfl) (Reps.one (show Kd.M (Kd.int .i64) _ _ _ 10 [.int .i64 10] from rfl) (Reps.none _ _))))); intro v619 w15 ho16 hb hg_ hnew_; clear hg_ hnew_; (first | rw [← Ny618.out] at ho16 | (simp only [Int.reduceToNat] at ho16; rw [← Ny618.out] at ho16)); have HO620 := zA (Kd.R_lower ho16 (keep_size (w := w) (g := g) (row := none) (zf2 GW604 GW614))); replace BK604 := zB BK604 hb; replace BK614 := zB BK614 hb; replace HK := zT (KeepBut.of_below hb g none) (zf2 GW604 GW614); replace HB := zS hb zz26; replace HI0 := zA (IsS102.below zz25 hb); clear hb ho16; obtain ⟨Ao17, co17, eo17⟩ := Kd.R_slice HO620.out; subst eo17) | ((with_reducible refine zg 108 ?_); refine gL (some 14) Try.func108 #[.pointer (some ⟨g, 0, none⟩), .slice Ao17 y618.length co17] ?_; (with_reducible refine (spec_l1Int.calls g s0_0 t616 t617 _ _ y618 t621 t622 t623 w0 _ ?z1 ?z2 ?z3 ?z4 ?z5 A6.out).mono ?_); (case z1 => exact zz25); (case z2 => exact zz26); (case z3 => exact ze HO620); (case z4 => exact zl HO620); (case z5 => exact far_slice (IsS102.own_ne HI0.out HO620.out (by decide))); rintro e w18 ⟨rfl, hi, hb, hk⟩; refine ⟨_, rfl, ?_⟩; replace BK604 := zV hk BK604 NB604_0; replace BK614 := zV hk BK614 NB614_0; replace HO620 := zA (Kd.R_mono (Kd.R_keep (IsS102.apart (show IsS102 w0 _ g s0_0 t616 t617 from zz25) (zr HO620) (by decide)) hk (fun _ h => h.2)) (fun _ h => h.1)); replace HK := zT hk (zf2 GW604 GW614); replace HB := zA hb; replace HI0 := zA hi; clear hb hk hi; obtain ⟨hcz19_0, hcz19_1, hcz19_2, hcz19_3, hfz19_0, hfz19_1, hfz19_2, hfz19_3⟩ := zh4 BK614; have hnb20 := NB604_0.out; have hnc20 := NB0_604.out; obtain ⟨hcz21_0, hcz21_1, hcz21_2, hcz21_3, hfz21_0, hfz21_1, hfz21_2, hfz21_3⟩ := zh4 BK604))
  refine bodyPost_ret (results_cell_row rfl _ _ gb604 30 #[.int .i64 t621, .int .i64 t609, .bool t610, .bool t611] (0, 0) _ rfl (by (with_reducible repeat (first | refine blk_drewN ?_ _ | refine blk_drew ?_ | refine blk_alloc ?_ _)); refine blk_put (cs := #[.int .i64 t621, .int .i64 t609, .bool t610, .bool false]) ?_ 3 _ rfl; (with_reducible repeat (first | refine blk_drewN ?_ _ | refine blk_drew ?_ | refine blk_alloc ?_ _)); refine blk_put (cs := #[.int .i64 t621, .int .i64 t609, .bool false, .bool false]) ?_ 2 _ rfl; (with_reducible repeat (first | refine blk_drewN ?_ _ | refine blk_drew ?_ | refine blk_alloc ?_ _)); refine blk_put (cs := #[.int .i64 t621, .int .i64 0, .bool false, .bool false]) ?_ 1 _ rfl; (with_reducible repeat (first | refine blk_drewN ?_ _ | refine blk_drew ?_ | refine blk_alloc ?_ _)); refine blk_put (cs := #[.int .i64 0, .int .i64 0, .bool false, .bool false]) ?_ 0 _ rfl; (with_reducible repeat (first | refine blk_drewN ?_ _ | refine blk_drew ?_ | refine blk_alloc ?_ _)); refine blk_far ?_ NB604_614.out _; (with_reducible repeat (first | refine blk_drewN ?_ _ | refine blk_drew ?_ | refine blk_alloc ?_ _)); exact BK604.out) Try.underlying30 rfl (by kernel_rfl)) rfl ?_
  exact ⟨zw, zz25, zz26, zf2 GW604 GW614⟩
 ·rw [if_neg c5] at H
  have c5b0 : (t615 == 0) = false := beq_eq_false_iff_ne.mpr c5
  have c5b1 : (t615 != 0) = true := bne_iff_ne.mpr c5
  by_cases c22 : t615 = 1
  ·rw [if_pos c22] at H
   have c22b0 : (t615 == 1) = true := beq_iff_eq.mpr c22
   have c22b1 : (t615 != 1) = false := bne_eq_false_iff_eq.mpr c22
   clear c22
   replace H := zI H
   obtain ⟨⟨t624, t625, t626⟩, A23, H⟩ := H
   try dsimp only at H
   simp only [Option.some.injEq, Prod.mk.injEq] at H
   obtain ⟨rfl, rfl, rfl, rfl, rfl, rfl⟩ := H
   go_enter Try.func76, Try.ntmps76
   go_wp2_with (first | ((with_reducible refine zt 2 ?_); refine zn #[.int .i64 0, .int .i64 0, .bool false, .bool false] 30 ?_; intro gb604 hg w24 hbox hb; replace HB := zS hb zz1; have BK604 := zA hbox; have GW604 := zA ((zz46 : w.heap.size ≤ gb604)); have GE604 := zA ((Nat.le_trans HW0.out (zz46 : w.heap.size ≤ gb604) : w0.heap.size ≤ gb604)); replace HK := zT (KeepBut.of_below hb g none); have NB0_604 := zA ((zz95 : g ≠ gb604)); have NB604_0 := zA ((zz96 : gb604 ≠ g)); replace HI0 := zA (IsS102.below zz0 hb); clear hb hbox hg) | ((with_reducible refine zg 107 ?_); refine gL (some 6) Try.func107 #[.pointer (some ⟨g, 0, none⟩), .int .i64 3] ?_; (with_reducible refine (spec_l1Below.calls g s0_0 s0_1 s0_2 3 t605 t606 t607 w0 _ ?z1 ?z2 A2.out).mono ?_); (case z1 => exact zz14); (case z2 => exact zz33); rintro e w25 ⟨rfl, hi, hb, hk⟩; refine ⟨_, rfl, ?_⟩; replace BK604 := zV hk BK604 NB604_0; replace HK := zT hk (zf1 GW604); replace HB := zA hb; replace HI0 := zA hi; clear hb hk hi) | ((with_reducible refine zg 106 ?_); refine gL (some 7) Try.func106 #[.pointer (some ⟨g, 0, none⟩), .int .i64 t605] ?_; (with_reducible refine (spec_l5Draw.calls g s0_0 t606 t607 t605 t608 t609 t610 t611 t612 t613 w0 _ ?z1 ?z2 A3.out).mono ?_); (case z1 => exact zz14); (case z2 => exact zz33); rintro e w26 ⟨rfl, hi, hb, hk⟩; refine ⟨_, rfl, ?_⟩; replace BK604 := zV hk BK604 NB604_0; replace HK := zT hk (zf1 GW604); replace HB := zA hb; replace HI0 := zA hi; clear hb hk hi) | ((with_reducible refine zt 3 ?_); refine zn #[.int .i64 0, .int .i64 0, .bool false, .bool false] 30 ?_; intro gb614 hg w27 hbox hb; replace HB := zS hb zz33; have BK614 := zA hbox; have GW614 := zA ((zz81 : w.heap.size ≤ gb614)); have GE614 := zA ((Nat.le_trans HW0.out (zz81 : w.heap.size ≤ gb614) : w0.heap.size ≤ gb614)); replace HK := zT (KeepBut.of_below hb g none) (zf1 GW604); have NB604_614 := zX BK604 hg; have NB614_604 := zY BK604 hg; replace BK604 := zB BK604 hb; have NB0_614 := zA ((zz103 : g ≠ gb614)); have NB614_0 := zA ((zz104 : gb614 ≠ g)); replace HI0 := zA (IsS102.below zz14 hb); clear hb hbox hg; have hnb28 := NB614_604.out; have hnc28 := NB604_614.out; have hnb29 := NB614_0.out; have hnc29 := NB0_614.out; obtain ⟨hcz30_0, hcz30_1, hcz30_2, hcz30_3, hfz30_0, hfz30_1, hfz30_2, hfz30_3⟩ := zh4 BK614) | ((with_reducible refine zg 107 ?_); refine gL (some 9) Try.func107 #[.pointer (some ⟨g, 0, none⟩), .int .i64 12] ?_; (with_reducible refine (spec_l1Below.calls g s0_0 t612 t613 12 t615 t616 t617 w0 _ ?z1 ?z2 A4.out).mono ?_); (case z1 => exact zz25); (case z2 => exact zz26); rintro e w31 ⟨rfl, hi, hb, hk⟩; refine ⟨_, rfl, ?_⟩; replace BK604 := zA (KeepBut.blk hk (g' := gb604) (o := .cells #[.int .i64 0, .int .i64 0, .bool false, .bool false] 30 (0, 0)) zz31 NB604_0.out (by simp)); replace BK614 := zA (KeepBut.blk hk (g' := gb614) (o := .cells #[.int .i64 t608, .int .i64 t609, .bool t610, .bool t611] 30 (0, 0)) zz22 NB614_0.out (by simp)); replace HK := zT hk (zf2 GW604 GW614); replace HB := zA hb; replace HI0 := zA hi; clear hb hk hi) | ((with_reducible refine zg 107 ?_); refine gL (some 19) Try.func107 #[.pointer (some ⟨g, 0, none⟩), .int .i64 6] ?_; (with_reducible refine (spec_l1Below.calls g s0_0 t616 t617 6 t624 t625 t626 w0 _ ?z1 ?z2 A23.out).mono ?_); (case z1 => exact zz25); (case z2 => exact zz26); rintro e w32 ⟨rfl, hi, hb, hk⟩; refine ⟨_, rfl, ?_⟩; replace BK604 := zV hk BK604 NB604_0; replace BK614 := zV hk BK614 NB614_0; replace HK := zT hk (zf2 GW604 GW614); replace HB := zA hb; replace HI0 := zA hi; clear hb hk hi; obtain ⟨hcz33_0, hcz33_1, hcz33_2, hcz33_3, hfz33_0, hfz33_1, hfz33_2, hfz33_3⟩ := zh4 BK614; have hnb34 := NB604_0.out; have hnc34 := NB0_604.out; obtain ⟨hcz35_0, hcz35_1, hcz35_2, hcz35_3, hfz35_0, hfz35_1, hfz35_2, hfz35_3⟩ := zh4 BK604))
   refine bodyPost_ret (results_cell_row rfl _ _ gb604 30 #[.int .i64 t608, .int .i64 t624, .bool t610, .bool t611] (0, 0) _ rfl (by (with_reducible repeat (first | refine blk_drewN ?_ _ | refine blk_drew ?_ | refine blk_alloc ?_ _)); refine blk_put (cs := #[.int .i64 t608, .int .i64 t624, .bool t610, .bool false]) ?_ 3 _ rfl; (with_reducible repeat (first | refine blk_drewN ?_ _ | refine blk_drew ?_ | refine blk_alloc ?_ _)); refine blk_put (cs := #[.int .i64 t608, .int .i64 t624, .bool false, .bool false]) ?_ 2 _ rfl; (with_reducible repeat (first | refine blk_drewN ?_ _ | refine blk_drew ?_ | refine blk_alloc ?_ _)); refine blk_put (cs := #[.int .i64 t608, .int .i64 0, .bool false, .bool false]) ?_ 1 _ rfl; (with_reducible repeat (first | refine blk_drewN ?_ _ | refine blk_drew ?_ | refine blk_alloc ?_ _)); refine blk_put (cs := #[.int .i64 0, .int .i64 0, .bool false, .bool false]) ?_ 0 _ rfl; (with_reducible repeat (first | refine blk_drewN ?_ _ | refine blk_drew ?_ | refine blk_alloc ?_ _)); refine blk_far ?_ NB604_614.out _; (with_reducible repeat (first | refine blk_drewN ?_ _ | refine blk_drew ?_ | refine blk_alloc ?_ _)); exact BK604.out) Try.underlying30 rfl (by kernel_rfl)) rfl ?_
   exact ⟨zw, zz25, zz26, zf2 GW604 GW614⟩
  ·rw [if_neg c22] at H
   have c22b0 : (t615 == 1) = false := beq_eq_false_iff_ne.mpr c22
   have c22b1 : (t615 != 1) = true := bne_iff_ne.mpr c22
   simp only [Option.some.injEq, Prod.mk.injEq] at H
   obtain ⟨rfl, rfl, rfl, rfl, rfl, rfl⟩ := H
   go_enter Try.func76, Try.ntmps76
   go_wp2_with (first | ((with_reducible refine zt 2 ?_); refine zn #[.int .i64 0, .int .i64 0, .bool false, .bool false] 30 ?_; intro gb604 hg w36 hbox hb; replace HB := zS hb zz1; have BK604 := zA hbox; have GW604 := zA ((zz46 : w.heap.size ≤ gb604)); have GE604 := zA ((Nat.le_trans HW0.out (zz46 : w.heap.size ≤ gb604) : w0.heap.size ≤ gb604)); replace HK := zT (KeepBut.of_below hb g none); have NB0_604 := zA ((zz95 : g ≠ gb604)); have NB604_0 := zA ((zz96 : gb604 ≠ g)); replace HI0 := zA (IsS102.below zz0 hb); clear hb hbox hg) | ((with_reducible refine zg 107 ?_); refine gL (some 6) Try.func107 #[.pointer (some ⟨g, 0, none⟩), .int .i64 3] ?_; (with_reducible refine (spec_l1Below.calls g s0_0 s0_1 s0_2 3 t605 t606 t607 w0 _ ?z1 ?z2 A2.out).mono ?_); (case z1 => exact zz14); (case z2 => exact zz33); rintro e w37 ⟨rfl, hi, hb, hk⟩; refine ⟨_, rfl, ?_⟩; replace BK604 := zV hk BK604 NB604_0; replace HK := zT hk (zf1 GW604); replace HB := zA hb; replace HI0 := zA hi; clear hb hk hi) | ((with_reducible refine zg 106 ?_); refine gL (some 7) Try.func106 #[.pointer (some ⟨g, 0, none⟩), .int .i64 t605] ?_; (with_reducible refine (spec_l5Draw.calls g s0_0 t606 t607 t605 t608 t609 t610 t611 t612 t613 w0 _ ?z1 ?z2 A3.out).mono ?_); (case z1 => exact zz14); (case z2 => exact zz33); rintro e w38 ⟨rfl, hi, hb, hk⟩; refine ⟨_, rfl, ?_⟩; replace BK604 := zV hk BK604 NB604_0; replace HK := zT hk (zf1 GW604); replace HB := zA hb; replace HI0 := zA hi; clear hb hk hi) | ((with_reducible refine zt 3 ?_); refine zn #[.int .i64 0, .int .i64 0, .bool false, .bool false] 30 ?_; intro gb614 hg w39 hbox hb; replace HB := zS hb zz33; have BK614 := zA hbox; have GW614 := zA ((zz81 : w.heap.size ≤ gb614)); have GE614 := zA ((Nat.le_trans HW0.out (zz81 : w.heap.size ≤ gb614) : w0.heap.size ≤ gb614)); replace HK := zT (KeepBut.of_below hb g none) (zf1 GW604); have NB604_614 := zX BK604 hg; have NB614_604 := zY BK604 hg; replace BK604 := zB BK604 hb; have NB0_614 := zA ((zz103 : g ≠ gb614)); have NB614_0 := zA ((zz104 : gb614 ≠ g)); replace HI0 := zA (IsS102.below zz14 hb); clear hb hbox hg; have hnb40 := NB614_604.out; have hnc40 := NB604_614.out; have hnb41 := NB614_0.out; have hnc41 := NB0_614.out; obtain ⟨hcz42_0, hcz42_1, hcz42_2, hcz42_3, hfz42_0, hfz42_1, hfz42_2, hfz42_3⟩ := zh4 BK614) | ((with_reducible refine zg 107 ?_); refine gL (some 9) Try.func107 #[.pointer (some ⟨g, 0, none⟩), .int .i64 12] ?_; (with_reducible refine (spec_l1Below.calls g s0_0 t612 t613 12 t615 t616 t617 w0 _ ?z1 ?z2 A4.out).mono ?_); (case z1 => exact zz25); (case z2 => exact zz26); rintro e w43 ⟨rfl, hi, hb, hk⟩; refine ⟨_, rfl, ?_⟩; replace BK604 := zA (KeepBut.blk hk (g' := gb604) (o := .cells #[.int .i64 0, .int .i64 0, .bool false, .bool false] 30 (0, 0)) zz31 NB604_0.out (by simp)); replace BK614 := zA (KeepBut.blk hk (g' := gb614) (o := .cells #[.int .i64 t608, .int .i64 t609, .bool t610, .bool t611] 30 (0, 0)) zz22 NB614_0.out (by simp)); replace HK := zT hk (zf2 GW604 GW614); replace HB := zA hb; replace HI0 := zA hi; clear hb hk hi; obtain ⟨hcz44_0, hcz44_1, hcz44_2, hcz44_3, hfz44_0, hfz44_1, hfz44_2, hfz44_3⟩ := zh4 BK614; have hnb45 := NB604_0.out; have hnc45 := NB0_604.out; obtain ⟨hcz46_0, hcz46_1, hcz46_2, hcz46_3, hfz46_0, hfz46_1, hfz46_2, hfz46_3⟩ := zh4 BK604))
   refine bodyPost_ret (results_cell_row rfl _ _ gb604 30 #[.int .i64 t608, .int .i64 t609, .bool t610, .bool t611] (0, 0) _ rfl (by (with_reducible repeat (first | refine blk_drewN ?_ _ | refine blk_drew ?_ | refine blk_alloc ?_ _)); refine blk_put (cs := #[.int .i64 t608, .int .i64 t609, .bool t610, .bool false]) ?_ 3 _ rfl; (with_reducible repeat (first | refine blk_drewN ?_ _ | refine blk_drew ?_ | refine blk_alloc ?_ _)); refine blk_put (cs := #[.int .i64 t608, .int .i64 t609, .bool false, .bool false]) ?_ 2 _ rfl; (with_reducible repeat (first | refine blk_drewN ?_ _ | refine blk_drew ?_ | refine blk_alloc ?_ _)); refine blk_put (cs := #[.int .i64 t608, .int .i64 0, .bool false, .bool false]) ?_ 1 _ rfl; (with_reducible repeat (first | refine blk_drewN ?_ _ | refine blk_drew ?_ | refine blk_alloc ?_ _)); refine blk_put (cs := #[.int .i64 0, .int .i64 0, .bool false, .bool false]) ?_ 0 _ rfl; (with_reducible repeat (first | refine blk_drewN ?_ _ | refine blk_drew ?_ | refine blk_alloc ?_ _)); exact BK604.out) Try.underlying30 rfl (by kernel_rfl)) rfl ?_
   exact ⟨zw, zz25, zz26, zf2 GW604 GW614⟩

/-! ### spec_l6Plan: function 88 -/
def spec_l6Plan.l0 : Nat → List (S30) → Int → List Int → Int → Int → Option ((List (S30)) × Int × Int)
  | 0, _, _, _, _, _ => none
  | k + 1, x3, x4, x1000, x1001, x1002 => if x4 > 0 then ((spec_l1Below.f x1000 x1001 x1002 4).bind fun bt633 => ((spec_l5Draw.f x1000 bt633.2.1 bt633.2.2 bt633.1).bind fun bt636 => (if x3.length < 5864062014805 then (spec_l6Plan.l0 k (x3 ++ [(⟨bt636.1, bt636.2.1, bt636.2.2.1, bt636.2.2.2.1⟩ : S30)]) (wrap64 (x4 - 1)) x1000 bt636.2.2.2.2.1 bt636.2.2.2.2.2) else (none)))) else (some (x3, x1001, x1002))
def spec_l6Plan.f (k : Nat) (s0_0 : List Int) (s0_1 : Int) (s0_2 : Int) : Option ((List (S30)) × Int × Int) := (spec_l1Below.f s0_0 s0_1 s0_2 3).bind fun bt630 => (spec_l6Plan.l0 k (([] : List (S30))) (wrap64 (1 + bt630.1)) s0_0 bt630.2.1 bt630.2.2)
set_option maxHeartbeats 8000000 in
set_option maxRecDepth 100000 in
theorem spec_l6Plan.calls (k : Nat) (g : Nat) (s0_0 : List Int) (s0_1 : Int) (s0_2 : Int) (r1 : List (S30)) (r2 : Int) (r3 : Int) (w0 w : World) (hI : IsS102 w0 w g s0_0 s0_1 s0_2) (hB : Below w0.heap.size w0 w) (h : spec_l6Plan.f k s0_0 s0_1 s0_2 = some (r1, r2, r3)) :
  Calls Try.prog 88 #[.pointer (some ⟨g, 0, none⟩)] w fun e w' => ∃ v0_ : Value, e = .returned (v0_) ∧ Kd.R k30 30 w' w.heap.size (fun _ => True) v0_ r1 ∧ IsS102 w0 w' g s0_0 r2 r3 ∧ Below w0.heap.size w0 w' ∧ KeepBut w w' g none := by
 have HI0 := zA hI
 have HK := zA (KeepBut.refl w g none)
 have HL := zA hB.size
 clear hI
 have HW0 := zA hB.size
 have HB := zA hB
 clear hB
 have H : ((spec_l1Below.f s0_0 s0_1 s0_2 3).bind fun bt630 => (spec_l6Plan.l0 k (([] : List (S30))) (wrap64 (1 + bt630.1)) s0_0 bt630.2.1 bt630.2.2)) = some (r1, r2, r3) := h
 clear h
 obtain ⟨y627, hy627⟩ : ∃ y_ : List (S30), y_ = (([] : List (S30))) := ⟨_, rfl⟩
 replace H : ((spec_l1Below.f s0_0 s0_1 s0_2 3).bind fun bt630 => (spec_l6Plan.l0 k y627 (wrap64 (1 + bt630.1)) s0_0 bt630.2.1 bt630.2.2)) = some (r1, r2, r3) := zy hy627
 have Ny627 := zA hy627
 clear hy627
 replace H := zI H
 obtain ⟨⟨t630, t631, t632⟩, A2, H⟩ := H
 try dsimp only at H
 have H' := zA H
 clear H
 go_enter Try.func88, Try.ntmps88
 go_wp2_with (first | ((with_reducible refine zt 5 ?_); refine Kd.R_lit k30 _ 30 ?hg (N := 5) ?hd (xs := ([] : List (S30))) (inner := []) (ok := fun _ => True) (okp := fun _ => True) ?hr ?hp (fun _ hk => hk) trivial (Below.refl _ _) (Nat.le_refl _) (by simp) ?_; (case hd => rfl); (case hg => rfl); (case hr => exact zz16); (case hp => exact (Reps.none _ _)); intro v628 w3 ho4 hb hg_ hnew_; clear hg_ hnew_; (first | rw [← Ny627.out] at ho4 | (simp only [Int.reduceToNat] at ho4; rw [← Ny627.out] at ho4)); have HO629 := zA (Kd.R_lower ho4 (keep_size (w := w) (g := g) (row := none) zf)); replace HK := zT (KeepBut.of_below hb g none); replace HB := zS hb zz1; replace HI0 := zA (IsS102.below zz0 hb); clear hb ho4) | ((with_reducible refine zg 107 ?_); refine gL (some 7) Try.func107 #[.pointer (some ⟨g, 0, none⟩), .int .i64 3] ?_; (with_reducible refine (spec_l1Below.calls g s0_0 s0_1 s0_2 3 t630 t631 t632 w0 _ ?z1 ?z2 A2.out).mono ?_); (case z1 => exact zz0); (case z2 => exact zz1); rintro e w5 ⟨rfl, hi, hb, hk⟩; refine ⟨_, rfl, ?_⟩; replace HO629 := zA (Kd.R_mono (Kd.R_keep (IsS102.apart (show IsS102 w0 _ g s0_0 s0_1 s0_2 from zz0) (zr HO629) (by decide)) hk (fun _ h => h.2)) (fun _ h => h.1)); replace HK := zT hk; replace HB := zA hb; replace HI0 := zA hi; clear hb hk hi))
 go_loopg [3, 4] k (fun kq v3 v4 w' => ∃ (x3_1 : List (S30)) (x4_1 : Int) (x1001_1 : Int) (x1002_1 : Int), v4 = .int .i64 x4_1 ∧ Aside0 (spec_l6Plan.l0 kq x3_1 x4_1 s0_0 x1001_1 x1002_1 = some (r1, r2, r3)) ∧ Aside0 (kq ≤ k) ∧ Aside0 (Kd.R k30 30 w' w.heap.size (fun _ => True) v3 x3_1) ∧ Aside0 (IsS102 w0 w' g s0_0 x1001_1 x1002_1) ∧ Aside0 (KeepBut w w' g none) ∧ Aside0 (Below w0.heap.size w0 w'))
 case atStart => exact ⟨(y627), (wrap64 (1 + t630)), (t631), (t632), zx, H', ⟨Nat.le_refl _⟩, ⟨zr HO629⟩, ⟨zz0⟩, ⟨zf⟩, ⟨zz1⟩⟩
 case round =>
  clear H'
  obtain ⟨x3_1, x4_1, x1001_1, x1002_1, rfl, HA, HK1, HO_3, HI0, HK, HB⟩ := hrel
  cases gk with
  | zero => exact absurd HA.out (by simp [spec_l6Plan.l0])
  | succ k1 =>
   have H := HA.out
   clear HA
   simp only [spec_l6Plan.l0] at H
   by_cases c6 : x4_1 > 0
   ·rw [if_pos c6] at H
    have c6b0 : decide (0 < x4_1) = true := decide_eq_true c6
    clear c6
    replace H := zI H
    obtain ⟨⟨t633, t634, t635⟩, A7, H⟩ := H
    try dsimp only at H
    replace H := zI H
    obtain ⟨⟨t636, t637, t638, t639, t640, t641⟩, A8, H⟩ := H
    try dsimp only at H
    by_cases c9 : x3_1.length < 5864062014805
    ·rw [if_pos c9] at H
     have LMc9 := zA c9
     clear c9
     obtain ⟨y642, hy642⟩ : ∃ y_ : List (S30), y_ = (x3_1 ++ [(⟨t636, t637, t638, t639⟩ : S30)]) := ⟨_, rfl⟩
     replace H : (spec_l6Plan.l0 k1 y642 (wrap64 (x4_1 - 1)) s0_0 t640 t641) = some (r1, r2, r3) := zy hy642
     have Ny642 := zA hy642
     clear hy642
     have H' := zA H
     clear H
     go_wp2_with (first | ((with_reducible refine zg 107 ?_); refine gL (some 16) Try.func107 #[.pointer (some ⟨g, 0, none⟩), .int .i64 4] ?_; (with_reducible refine (spec_l1Below.calls g s0_0 x1001_1 x1002_1 4 t633 t634 t635 w0 _ ?z1 ?z2 A7.out).mono ?_); (case z1 => exact zz0); (case z2 => exact zz1); rintro e w10 ⟨rfl, hi, hb, hk⟩; refine ⟨_, rfl, ?_⟩; replace HO_3 := zA (Kd.R_mono (Kd.R_keep (IsS102.apart (show IsS102 w0 _ g s0_0 x1001_1 x1002_1 from zz0) (zr HO_3) (by decide)) hk (fun _ h => h.2)) (fun _ h => h.1)); replace HK := zT hk; replace HB := zA hb; replace HI0 := zA hi; clear hb hk hi) | ((with_reducible refine zg 106 ?_); refine gL (some 17) Try.func106 #[.pointer (some ⟨g, 0, none⟩), .int .i64 t633] ?_; (with_reducible refine (spec_l5Draw.calls g s0_0 t634 t635 t633 t636 t637 t638 t639 t640 t641 w0 _ ?z1 ?z2 A8.out).mono ?_); (case z1 => exact zz0); (case z2 => exact zz1); rintro e w11 ⟨rfl, hi, hb, hk⟩; refine ⟨_, rfl, ?_⟩; replace HO_3 := zA (Kd.R_mono (Kd.R_keep (IsS102.apart (show IsS102 w0 _ g s0_0 t634 t635 from zz0) (zr HO_3) (by decide)) hk (fun _ h => h.2)) (fun _ h => h.1)); replace HK := zT hk; replace HB := zA hb; replace HI0 := zA hi; clear hb hk hi) | ((with_reducible refine gate_builtin (b := .append) (xs := #[.tmp 13, .tmp 18]) rfl ?_); at_builtin; refine Kd.R_append k30 w.heap.size rfl (.tmp 13) (.tmp 18) 56 30 (.agg #[(.int .i64 0), (.int .i64 0), (.bool false), (.bool false)]) 24 rfl Try.underlying56 info30 rfl (by decide) (by omega) u3 x3_1 (⟨t636, t637, t638, t639⟩ : S30) [.int .i64 t636, .int .i64 t637, .bool t638, .bool t639] (fun _ => True) (fun _ => False) rfl rfl ?aP (fun _ hk => hk.elim) ?aF ?aO (Below.refl _ _) ?aS ?aL ?_; (case aP => exact k30_mkM _ _ _ (⟨t636, t637, t638, t639⟩ : S30)); (case aF => exact (fun _ _ => trivial)); (case aO => exact (zr HO_3)); (case aS => exact (keep_size (w := w) (g := g) (row := none) zf)); (case aL => have := LMc9.out; omega); intro v643 w12 ho hb hg hat; rw [← Ny642.out] at ho; replace HB := zA (below_weaken zz1 HL.out hb); replace HI0 := zA (IsS102.grown zz0 hg (IsS102.own_ne HI0.out HO_3.out (by decide))); replace HK := zA (KeepBut.trans zf (KeepBut.of_grown hg g) (Kd.R_base2 HO_3.out)); have HO644 := zA ho; clear HO_3 ho hb hg hat))
     go_roundg k1
     case measure => have := HK1.out; omega
     case rel => exact ⟨(y642), (wrap64 (x4_1 - 1)), (t640), (t641), zx, H', ⟨zz79⟩, ⟨zr HO644⟩, ⟨zz0⟩, ⟨zf⟩, ⟨zz1⟩⟩
    ·rw [if_neg c9] at H
     exact absurd H (by simp)
   ·rw [if_neg c6] at H
    have c6b0 : decide (0 < x4_1) = false := decide_eq_false c6
    clear c6
    simp only [Option.some.injEq, Prod.mk.injEq] at H
    obtain ⟨rfl, rfl, rfl⟩ := H
    go_wp2
    go_ret
    exact ⟨_, zw, zr HO_3, zz0, zz1, zf⟩

/-! ### spec_l6Any: function 90 -/
def spec_l6Any.l0 : Nat → List (S30) → List Int → Int → Int → Option ((List (S30)) × Int × Int)
  | 0, _, _, _, _ => none
  | k + 1, x3, x1000, x1001, x1002 => (spec_l1Below.f x1000 x1001 x1002 2).bind fun bt660 => (if (x3.length : Int) < (wrap64 (6 + bt660.1)) then ((spec_l5Draw.f x1000 bt660.2.1 bt660.2.2 0).bind fun bt663 => (if x3.length < 5864062014805 then (spec_l6Any.l0 k (x3 ++ [(⟨bt663.1, bt663.2.1, bt663.2.2.1, bt663.2.2.2.1⟩ : S30)]) x1000 bt663.2.2.2.2.1 bt663.2.2.2.2.2) else (none))) else (some (x3, bt660.2.1, bt660.2.2)))
def spec_l6Any.f (k : Nat) (s0_0 : List Int) (s0_1 : Int) (s0_2 : Int) : Option ((List (S30)) × Int × Int) := (spec_l6Plan.f k s0_0 s0_1 s0_2).bind fun bt645 => ((spec_l1Below.f s0_0 bt645.2.1 bt645.2.2 12).bind fun bt650 => (if bt650.1 = 0 then ((spec_l5Any.f s0_0 bt650.2.1 bt650.2.2).bind fun bt653 => (if 0 < (bt645.1.length : Int) then (some ((bt645.1.set (0 : Int).toNat (⟨bt653.1, bt653.2.1, bt653.2.2.1, bt653.2.2.2.1⟩ : S30)), bt653.2.2.2.2.1, bt653.2.2.2.2.2)) else (none))) else (if bt650.1 = 1 then (spec_l6Any.l0 k bt645.1 s0_0 bt650.2.1 bt650.2.2) else (some (bt645.1, bt650.2.1, bt650.2.2)))))
set_option maxHeartbeats 8000000 in
set_option maxRecDepth 100000 in
theorem spec_l6Any.calls (k : Nat) (g : Nat) (s0_0 : List Int) (s0_1 : Int) (s0_2 : Int) (r1 : List (S30)) (r2 : Int) (r3 : Int) (w0 w : World) (hI : IsS102 w0 w g s0_0 s0_1 s0_2) (hB : Below w0.heap.size w0 w) (h : spec_l6Any.f k s0_0 s0_1 s0_2 = some (r1, r2, r3)) :
  Calls Try.prog 90 #[.pointer (some ⟨g, 0, none⟩)] w fun e w' => ∃ v0_ : Value, e = .returned (v0_) ∧ Kd.R k30 30 w' w.heap.size (fun _ => True) v0_ r1 ∧ IsS102 w0 w' g s0_0 r2 r3 ∧ Below w0.heap.size w0 w' ∧ KeepBut w w' g none := by
 have hu30 := Try.underlying30
 have HI0 := zA hI
 have HK := zA (KeepBut.refl w g none)
 have HL := zA hB.size
 clear hI
 have HW0 := zA hB.size
 have HB := zA hB
 clear hB
 have H : ((spec_l6Plan.f k s0_0 s0_1 s0_2).bind fun bt645 => ((spec_l1Below.f s0_0 bt645.2.1 bt645.2.2 12).bind fun bt650 => (if bt650.1 = 0 then ((spec_l5Any.f s0_0 bt650.2.1 bt650.2.2).bind fun bt653 => (if 0 < (bt645.1.length : Int) then (some ((bt645.1.set (0 : Int).toNat (⟨bt653.1, bt653.2.1, bt653.2.2.1, bt653.2.2.2.1⟩ : S30)), bt653.2.2.2.2.1, bt653.2.2.2.2.2)) else (none))) else (if bt650.1 = 1 then (spec_l6Any.l0 k bt645.1 s0_0 bt650.2.1 bt650.2.2) else (some (bt645.1, bt650.2.1, bt650.2.2)))))) = some (r1, r2, r3) := h
 clear h
 replace H := zI H
 obtain ⟨⟨t645, t648, t649⟩, A2, H⟩ := H
 try dsimp only at H
 replace H := zI H
 obtain ⟨⟨t650, t651, t652⟩, A3, H⟩ := H
 try dsimp only at H
 by_cases c4 : t650 = 0
 ·rw [if_pos c4] at H
  have c4b0 : (t650 == 0) = true := beq_iff_eq.mpr c4
  have c4b1 : (t650 != 0) = false := bne_eq_false_iff_eq.mpr c4
  clear c4
  replace H := zI H
  obtain ⟨⟨t653, t654, t655, t656, t657, t658⟩, A5, H⟩ := H
  try dsimp only at H
  by_cases c6 : 0 < (t645.length : Int)
  ·rw [if_pos c6] at H
   have c6b0 : decide (0 < (t645.length : Int)) = true := decide_eq_true c6
   have c6b1 : decide (0 < t645.length) = true := decide_eq_true (by omega)
   clear c6
   obtain ⟨y659, hy659⟩ : ∃ y_ : List (S30), y_ = (t645.set (0 : Int).toNat (⟨t653, t654, t655, t656⟩ : S30)) := ⟨_, rfl⟩
   replace H : (some (y659, t657, t658)) = some (r1, r2, r3) := zy hy659
   have Ny659 := zA hy659
   clear hy659
   simp only [Option.some.injEq, Prod.mk.injEq] at H
   obtain ⟨rfl, rfl, rfl⟩ := H
   go_enter Try.func90, Try.ntmps90
   go_wp2_with (first | ((with_reducible refine zg 88 ?_); refine gL (some 5) Try.func88 #[.pointer (some ⟨g, 0, none⟩)] ?_; (with_reducible refine (spec_l6Plan.calls k g s0_0 s0_1 s0_2 t645 t648 t649 w0 _ ?z1 ?z2 A2.out).mono ?_); (case z1 => exact zz0); (case z2 => exact zz1); rintro e w8 ⟨v646, rfl, ho0, hi, hb, hk⟩; refine ⟨_, rfl, ?_⟩; have HO647 := zA (Kd.R_lower ho0 (keep_size (w := w) (g := g) (row := none) zf)); replace HK := zT hk; replace HB := zA hb; replace HI0 := zA hi; clear hb hk hi ho0) | ((with_reducible refine zg 107 ?_); refine gL (some 7) Try.func107 #[.pointer (some ⟨g, 0, none⟩), .int .i64 12] ?_; (with_reducible refine (spec_l1Below.calls g s0_0 t648 t649 12 t650 t651 t652 w0 _ ?z1 ?z2 A3.out).mono ?_); (case z1 => exact zz0); (case z2 => exact zz1); rintro e w9 ⟨rfl, hi, hb, hk⟩; refine ⟨_, rfl, ?_⟩; replace HO647 := zA (Kd.R_mono (Kd.R_keep (IsS102.apart (show IsS102 w0 _ g s0_0 t648 t649 from zz0) (zr HO647) (by decide)) hk (fun _ h => h.2)) (fun _ h => h.1)); replace HK := zT hk; replace HB := zA hb; replace HI0 := zA hi; clear hb hk hi) | ((with_reducible refine zg 76 ?_); refine gL (some 12) Try.func76 #[.pointer (some ⟨g, 0, none⟩)] ?_; (with_reducible refine (spec_l5Any.calls g s0_0 t651 t652 t653 t654 t655 t656 t657 t658 w0 _ ?z1 ?z2 A5.out).mono ?_); (case z1 => exact zz0); (case z2 => exact zz1); rintro e w10 ⟨rfl, hi, hb, hk⟩; refine ⟨_, rfl, ?_⟩; replace HO647 := zA (Kd.R_mono (Kd.R_keep (IsS102.apart (show IsS102 w0 _ g s0_0 t651 t652 from zz0) (zr HO647) (by decide)) hk (fun _ h => h.2)) (fun _ h => h.1)); replace HK := zT hk; replace HB := zA hb; replace HI0 := zA hi; clear hb hk hi; have p7 : 0 ≤ (0 : Int) := (by omega); have q7 : (0 : Int) < ((t645.length : Int) : Int) := of_decide_eq_true za; have qi7 : (0 < t645.length) = True := eq_true (by omega); obtain ⟨go7, co7, eo7, gb7, gl7, cl7, HG7⟩ := Kd.R_form HO647.out (by omega); (first | cases eo7 | (injection eo7 with ea_ en_ ec_; (first | subst ea_ | (injection ea_ with ea_; subst ea_)); subst ec_; clear en_)); have GB7 := zA gb7; have GG7 := zA HG7; clear gb7 gl7 HG7; obtain ⟨ce7, hcl7, hM7, hcc7, hfr7⟩ := Kd.R_elem HO647.out z30 (0 : Int) p7 q7; obtain rfl := k30_openM hM7; have hx7_0 : w10.cell? ⟨go7, (0 : Int).toNat * 4, none⟩ = some (.int .i64 ((rd_T30 t645 0).f0)) := hcc7 0 _ rfl; have hx7_1 : w10.cell? ⟨go7, (0 : Int).toNat * 4 + 1, none⟩ = some (.int .i64 ((rd_T30 t645 0).f1)) := hcc7 1 _ rfl; have hx7_2 : w10.cell? ⟨go7, (0 : Int).toNat * 4 + 2, none⟩ = some (.bool ((rd_T30 t645 0).f2)) := hcc7 2 _ rfl; have hx7_3 : w10.cell? ⟨go7, (0 : Int).toNat * 4 + 3, none⟩ = some (.bool ((rd_T30 t645 0).f3)) := hcc7 3 _ rfl; have hf7_0 : w10.frozen? ⟨go7, (0 : Int).toNat * 4, none⟩ = false := hfr7 0; have hf7_1 : w10.frozen? ⟨go7, (0 : Int).toNat * 4 + 1, none⟩ = false := hfr7 1; have hf7_2 : w10.frozen? ⟨go7, (0 : Int).toNat * 4 + 2, none⟩ = false := hfr7 2; have hf7_3 : w10.frozen? ⟨go7, (0 : Int).toNat * 4 + 3, none⟩ = false := hfr7 3; clear hcl7 hcc7 hfr7 hM7; (try rw [show ((0 : Int)).toNat = 0 from rfl] at hx7_0); (try simp only [Nat.reduceMul, Nat.zero_mul, Nat.zero_add, Nat.reduceAdd] at hx7_0); (try rw [show ((0 : Int)).toNat = 0 from rfl] at hf7_0); (try simp only [Nat.reduceMul, Nat.zero_mul, Nat.zero_add, Nat.reduceAdd] at hf7_0); (try rw [show ((0 : Int)).toNat = 0 from rfl] at hx7_1); (try simp only [Nat.reduceMul, Nat.zero_mul, Nat.zero_add, Nat.reduceAdd] at hx7_1); (try rw [show ((0 : Int)).toNat = 0 from rfl] at hf7_1); (try simp only [Nat.reduceMul, Nat.zero_mul, Nat.zero_add, Nat.reduceAdd] at hf7_1); (try rw [show ((0 : Int)).toNat = 0 from rfl] at hx7_2); (try simp only [Nat.reduceMul, Nat.zero_mul, Nat.zero_add, Nat.reduceAdd] at hx7_2); (try rw [show ((0 : Int)).toNat = 0 from rfl] at hf7_2); (try simp only [Nat.reduceMul, Nat.zero_mul, Nat.zero_add, Nat.reduceAdd] at hf7_2); (try rw [show ((0 : Int)).toNat = 0 from rfl] at hx7_3); (try simp only [Nat.reduceMul, Nat.zero_mul, Nat.zero_add, Nat.reduceAdd] at hx7_3); (try rw [show ((0 : Int)).toNat = 0 from rfl] at hf7_3); (try simp only [Nat.reduceMul, Nat.zero_mul, Nat.zero_add, Nat.reduceAdd] at hf7_3); replace p7 := eq_true p7; replace q7 := eq_true q7; have HX11 := zA (show Kd.R k30 30 w10 w.heap.size (fun _ => True) (.slice (some ⟨go7, 0, none⟩) t645.length co7) t645 from (zr HO647)); obtain ⟨ce11, hcl11, hM11, hcc11, hfr11⟩ := Kd.R_elem HX11.out z30 (0 : Int) (by omega) (by have h_ : (0 : Int) < ((t645.length : Int) : Int) := of_decide_eq_true za; first | exact h_ | (have e_ := (Kd.R_reads' HO647.out).1; omega) | simpa using h_); obtain rfl := k30_openM hM11; have HP11 := Kd.R_seg HX11.out (0 : Int) (by omega) (by have h_ : (0 : Int) < ((t645.length : Int) : Int) := of_decide_eq_true za; first | exact h_ | (have e_ := (Kd.R_reads' HO647.out).1; omega) | simpa using h_) (seg := [.int .i64 t653, .int .i64 t654, .bool t655, .bool t656]) (j := 0) hcl11 hcc11 (show 4 ≤ 4 from by decide) (x' := (⟨t653, t654, t655, t656⟩ : S30)) (k30_mkM _ _ _ (⟨t653, t654, t655, t656⟩ : S30) ) (fun _ hk => hk); have hx11_0 := hcc11 0 _ rfl; (try simp only [show (k30).sz = 4 from rfl, Nat.mul_one, Nat.add_zero] at hx11_0); (try rw [show ((0 : Int)).toNat = 0 from rfl] at hx11_0); (try simp only [Nat.reduceMul, Nat.zero_mul, Nat.zero_add, Nat.reduceAdd] at hx11_0); have hf11_0 := hfr11 0; (try simp only [show (k30).sz = 4 from rfl, Nat.mul_one, Nat.add_zero] at hf11_0); (try rw [show ((0 : Int)).toNat = 0 from rfl] at hf11_0); (try simp only [Nat.reduceMul, Nat.zero_mul, Nat.zero_add, Nat.reduceAdd] at hf11_0); have hx11_1 := hcc11 1 _ rfl; (try simp only [show (k30).sz = 4 from rfl, Nat.mul_one, Nat.add_zero] at hx11_1); (try rw [show ((0 : Int)).toNat = 0 from rfl] at hx11_1); (try simp only [Nat.reduceMul, Nat.zero_mul, Nat.zero_add, Nat.reduceAdd] at hx11_1); have hf11_1 := hfr11 1; (try simp only [show (k30).sz = 4 from rfl, Nat.mul_one, Nat.add_zero] at hf11_1); (try rw [show ((0 : Int)).toNat = 0 from rfl] at hf11_1); (try simp only [Nat.reduceMul, Nat.zero_mul, Nat.zero_add, Nat.reduceAdd] at hf11_1); have hx11_2 := hcc11 2 _ rfl; (try simp only [show (k30).sz = 4 from rfl, Nat.mul_one, Nat.add_zero] at hx11_2); (try rw [show ((0 : Int)).toNat = 0 from rfl] at hx11_2); (try simp only [Nat.reduceMul, Nat.zero_mul, Nat.zero_add, Nat.reduceAdd] at hx11_2); have hf11_2 := hfr11 2; (try simp only [show (k30).sz = 4 from rfl, Nat.mul_one, Nat.add_zero] at hf11_2); (try rw [show ((0 : Int)).toNat = 0 from rfl] at hf11_2); (try simp only [Nat.reduceMul, Nat.zero_mul, Nat.zero_add, Nat.reduceAdd] at hf11_2); have hx11_3 := hcc11 3 _ rfl; (try simp only [show (k30).sz = 4 from rfl, Nat.mul_one, Nat.add_zero] at hx11_3); (try rw [show ((0 : Int)).toNat = 0 from rfl] at hx11_3); (try simp only [Nat.reduceMul, Nat.zero_mul, Nat.zero_add, Nat.reduceAdd] at hx11_3); have hf11_3 := hfr11 3; (try simp only [show (k30).sz = 4 from rfl, Nat.mul_one, Nat.add_zero] at hf11_3); (try rw [show ((0 : Int)).toNat = 0 from rfl] at hf11_3); (try simp only [Nat.reduceMul, Nat.zero_mul, Nat.zero_add, Nat.reduceAdd] at hf11_3); clear hcl11 hcc11 hfr11 hM11) | ((with_reducible refine gate_store (t := 30) (p := 13) rfl ?_); refine store_event (t := 30) (p := 13) (v := ?vo_w12) (w1 := ((((w10.setCell ⟨go7, 0, none⟩ (.int .i64 t653)).setCell ⟨go7, 1, none⟩ (.int .i64 t654)).setCell ⟨go7, 2, none⟩ (.bool t655)).setCell ⟨go7, 3, none⟩ (.bool t656))) ?hg ?ho ?hn ?hr ?_; (case ho => rfl); (case hg => rfl); (case hn => rfl); (case hr => exact zz16); intro w12 hw; have hg : w10.grownBy w12 (some go7) := (by rw [hw]; exact HP11.2); have hp_ : Kd.R k30 30 w12 w.heap.size (fun _ => True) (.slice (some ⟨go7, 0, none⟩) t645.length co7) y659 := (by rw [hw, Ny659.out]; exact HP11.1); clear HP11; replace HI0 := zA (IsS102.grown zz0 hg (IsS102.own_ne HI0.out HO647.out (by decide))); replace HB := zA ((by rw [hw]; exact below_set (below_set (below_set (below_set (HB.out) (Nat.le_trans HL.out GB7.out)) (Nat.le_trans HL.out GB7.out)) (Nat.le_trans HL.out GB7.out)) (Nat.le_trans HL.out GB7.out) : Below w0.heap.size w0 w12)); replace HK := zA (KeepBut.trans zf (KeepBut.of_grown hg g) (Kd.R_base2 HO647.out)); replace HO647 := zA hp_; clear hg hw hp_))
   go_ret
   exact ⟨_, zw, zr HO647, zz0, zz1, zf⟩
  ·rw [if_neg c6] at H
   exact absurd H (by simp)
 ·rw [if_neg c4] at H
  have c4b0 : (t650 == 0) = false := beq_eq_false_iff_ne.mpr c4
  have c4b1 : (t650 != 0) = true := bne_iff_ne.mpr c4
  by_cases c13 : t650 = 1
  ·rw [if_pos c13] at H
   have c13b0 : (t650 == 1) = true := beq_iff_eq.mpr c13
   have c13b1 : (t650 != 1) = false := bne_eq_false_iff_eq.mpr c13
   clear c13
   have H' := zA H
   clear H
   go_enter Try.func90, Try.ntmps90
   go_wp2_with (first | ((with_reducible refine zg 88 ?_); refine gL (some 5) Try.func88 #[.pointer (some ⟨g, 0, none⟩)] ?_; (with_reducible refine (spec_l6Plan.calls k g s0_0 s0_1 s0_2 t645 t648 t649 w0 _ ?z1 ?z2 A2.out).mono ?_); (case z1 => exact zz0); (case z2 => exact zz1); rintro e w14 ⟨v646, rfl, ho0, hi, hb, hk⟩; refine ⟨_, rfl, ?_⟩; have HO647 := zA (Kd.R_lower ho0 (keep_size (w := w) (g := g) (row := none) zf)); replace HK := zT hk; replace HB := zA hb; replace HI0 := zA hi; clear hb hk hi ho0) | ((with_reducible refine zg 107 ?_); refine gL (some 7) Try.func107 #[.pointer (some ⟨g, 0, none⟩), .int .i64 12] ?_; (with_reducible refine (spec_l1Below.calls g s0_0 t648 t649 12 t650 t651 t652 w0 _ ?z1 ?z2 A3.out).mono ?_); (case z1 => exact zz0); (case z2 => exact zz1); rintro e w15 ⟨rfl, hi, hb, hk⟩; refine ⟨_, rfl, ?_⟩; replace HO647 := zA (Kd.R_mono (Kd.R_keep (IsS102.apart (show IsS102 w0 _ g s0_0 t648 t649 from zz0) (zr HO647) (by decide)) hk (fun _ h => h.2)) (fun _ h => h.1)); replace HK := zT hk; replace HB := zA hb; replace HI0 := zA hi; clear hb hk hi))
   go_loopg [3] k (fun kq v3 w' => ∃ (x3_1 : List (S30)) (x1001_1 : Int) (x1002_1 : Int), Aside0 (spec_l6Any.l0 kq x3_1 s0_0 x1001_1 x1002_1 = some (r1, r2, r3)) ∧ Aside0 (kq ≤ k) ∧ Aside0 (Kd.R k30 30 w' w.heap.size (fun _ => True) v3 x3_1) ∧ Aside0 (IsS102 w0 w' g s0_0 x1001_1 x1002_1) ∧ Aside0 (KeepBut w w' g none) ∧ Aside0 (Below w0.heap.size w0 w'))
   case atStart => exact ⟨(t645), (t651), (t652), H', ⟨Nat.le_refl _⟩, ⟨zr HO647⟩, ⟨zz0⟩, ⟨zf⟩, ⟨zz1⟩⟩
   case round =>
    clear H'
    try clear c4; try clear c4b0; try clear c4b1; try clear c13; try clear c13b0; try clear c13b1
    obtain ⟨x3_1, x1001_1, x1002_1, HA, HK1, HO_3, HI0, HK, HB⟩ := hrel
    cases gk with
    | zero => exact absurd HA.out (by simp [spec_l6Any.l0])
    | succ k1 =>
     have H := HA.out
     clear HA
     simp only [spec_l6Any.l0] at H
     replace H := zI H
     obtain ⟨⟨t660, t661, t662⟩, A16, H⟩ := H
     try dsimp only at H
     by_cases c17 : (x3_1.length : Int) < (wrap64 (6 + t660))
     ·rw [if_pos c17] at H
      have c17b0 : decide ((x3_1.length : Int) < (wrap64 (6 + t660))) = true := decide_eq_true c17
      clear c17
      replace H := zI H
      obtain ⟨⟨t663, t664, t665, t666, t667, t668⟩, A18, H⟩ := H
      try dsimp only at H
      by_cases c19 : x3_1.length < 5864062014805
      ·rw [if_pos c19] at H
       have LMc19 := zA c19
       clear c19
       obtain ⟨y669, hy669⟩ : ∃ y_ : List (S30), y_ = (x3_1 ++ [(⟨t663, t664, t665, t666⟩ : S30)]) := ⟨_, rfl⟩
       replace H : (spec_l6Any.l0 k1 y669 s0_0 t667 t668) = some (r1, r2, r3) := zy hy669
       have Ny669 := zA hy669
       clear hy669
       have H' := zA H
       clear H
       obtain ⟨Ao20, co20, eo20⟩ := Kd.R_slice HO_3.out
       subst eo20
       go_wp2_with (first | ((with_reducible refine zg 107 ?_); refine gL (some 19) Try.func107 #[.pointer (some ⟨g, 0, none⟩), .int .i64 2] ?_; (with_reducible refine (spec_l1Below.calls g s0_0 x1001_1 x1002_1 2 t660 t661 t662 w0 _ ?z1 ?z2 A16.out).mono ?_); (case z1 => exact zz0); (case z2 => exact zz1); rintro e w21 ⟨rfl, hi, hb, hk⟩; refine ⟨_, rfl, ?_⟩; replace HO_3 := zA (Kd.R_mono (Kd.R_keep (IsS102.apart (show IsS102 w0 _ g s0_0 x1001_1 x1002_1 from zz0) (zr HO_3) (by decide)) hk (fun _ h => h.2)) (fun _ h => h.1)); replace HK := zT hk; replace HB := zA hb; replace HI0 := zA hi; clear hb hk hi) | ((with_reducible refine zg 106 ?_); refine gL (some 24) Try.func106 #[.pointer (some ⟨g, 0, none⟩), .int .i64 0] ?_; (with_reducible refine (spec_l5Draw.calls g s0_0 t661 t662 0 t663 t664 t665 t666 t667 t668 w0 _ ?z1 ?z2 A18.out).mono ?_); (case z1 => exact zz0); (case z2 => exact zz1); rintro e w22 ⟨rfl, hi, hb, hk⟩; refine ⟨_, rfl, ?_⟩; replace HO_3 := zA (Kd.R_mono (Kd.R_keep (IsS102.apart (show IsS102 w0 _ g s0_0 t661 t662 from zz0) (zr HO_3) (by decide)) hk (fun _ h => h.2)) (fun _ h => h.1)); replace HK := zT hk; replace HB := zA hb; replace HI0 := zA hi; clear hb hk hi) | ((with_reducible refine gate_builtin (b := .append) (xs := #[.tmp 22, .tmp 25]) rfl ?_); at_builtin; refine Kd.R_append k30 w.heap.size rfl (.tmp 22) (.tmp 25) 56 30 (.agg #[(.int .i64 0), (.int .i64 0), (.bool false), (.bool false)]) 24 rfl Try.underlying56 info30 rfl (by decide) (by omega) (.slice Ao20 x3_1.length co20) x3_1 (⟨t663, t664, t665, t666⟩ : S30) [.int .i64 t663, .int .i64 t664, .bool t665, .bool t666] (fun _ => True) (fun _ => False) rfl rfl ?aP (fun _ hk => hk.elim) ?aF ?aO (Below.refl _ _) ?aS ?aL ?_; (case aP => exact k30_mkM _ _ _ (⟨t663, t664, t665, t666⟩ : S30)); (case aF => exact (fun _ _ => trivial)); (case aO => exact (zr HO_3)); (case aS => exact (keep_size (w := w) (g := g) (row := none) zf)); (case aL => have := LMc19.out; omega); intro v670 w23 ho hb hg hat; rw [← Ny669.out] at ho; replace HB := zA (below_weaken zz1 HL.out hb); replace HI0 := zA (IsS102.grown zz0 hg (IsS102.own_ne HI0.out HO_3.out (by decide))); replace HK := zA (KeepBut.trans zf (KeepBut.of_grown hg g) (Kd.R_base2 HO_3.out)); have HO671 := zA ho; clear HO_3 ho hb hg hat))
       go_roundg k1
       case measure => have := HK1.out; omega
       case rel => exact ⟨(y669), (t667), (t668), H', ⟨zz79⟩, ⟨zr HO671⟩, ⟨zz0⟩, ⟨zf⟩, ⟨zz1⟩⟩
      ·rw [if_neg c19] at H
       exact absurd H (by simp)
     ·rw [if_neg c17] at H
      have c17b0 : decide ((x3_1.length : Int) < (wrap64 (6 + t660))) = false := decide_eq_false c17
      clear c17
      simp only [Option.some.injEq, Prod.mk.injEq] at H
      obtain ⟨rfl, rfl, rfl⟩ := H
      obtain ⟨Ao24, co24, eo24⟩ := Kd.R_slice HO_3.out
      subst eo24
      go_wp2_with (first | ((with_reducible refine zg 107 ?_); refine gL (some 19) Try.func107 #[.pointer (some ⟨g, 0, none⟩), .int .i64 2] ?_; (with_reducible refine (spec_l1Below.calls g s0_0 x1001_1 x1002_1 2 t660 t661 t662 w0 _ ?z1 ?z2 A16.out).mono ?_); (case z1 => exact zz0); (case z2 => exact zz1); rintro e w25 ⟨rfl, hi, hb, hk⟩; refine ⟨_, rfl, ?_⟩; replace HO_3 := zA (Kd.R_mono (Kd.R_keep (IsS102.apart (show IsS102 w0 _ g s0_0 x1001_1 x1002_1 from zz0) (zr HO_3) (by decide)) hk (fun _ h => h.2)) (fun _ h => h.1)); replace HK := zT hk; replace HB := zA hb; replace HI0 := zA hi; clear hb hk hi))
      go_ret
      exact ⟨_, zw, zr HO_3, zz0, zz1, zf⟩
  ·rw [if_neg c13] at H
   have c13b0 : (t650 == 1) = false := beq_eq_false_iff_ne.mpr c13
   have c13b1 : (t650 != 1) = true := bne_iff_ne.mpr c13
   simp only [Option.some.injEq, Prod.mk.injEq] at H
   obtain ⟨rfl, rfl, rfl⟩ := H
   go_enter Try.func90, Try.ntmps90
   go_wp2_with (first | ((with_reducible refine zg 88 ?_); refine gL (some 5) Try.func88 #[.pointer (some ⟨g, 0, none⟩)] ?_; (with_reducible refine (spec_l6Plan.calls k g s0_0 s0_1 s0_2 t645 t648 t649 w0 _ ?z1 ?z2 A2.out).mono ?_); (case z1 => exact zz0); (case z2 => exact zz1); rintro e w26 ⟨v646, rfl, ho0, hi, hb, hk⟩; refine ⟨_, rfl, ?_⟩; have HO647 := zA (Kd.R_lower ho0 (keep_size (w := w) (g := g) (row := none) zf)); replace HK := zT hk; replace HB := zA hb; replace HI0 := zA hi; clear hb hk hi ho0) | ((with_reducible refine zg 107 ?_); refine gL (some 7) Try.func107 #[.pointer (some ⟨g, 0, none⟩), .int .i64 12] ?_; (with_reducible refine (spec_l1Below.calls g s0_0 t648 t649 12 t650 t651 t652 w0 _ ?z1 ?z2 A3.out).mono ?_); (case z1 => exact zz0); (case z2 => exact zz1); rintro e w27 ⟨rfl, hi, hb, hk⟩; refine ⟨_, rfl, ?_⟩; replace HO647 := zA (Kd.R_mono (Kd.R_keep (IsS102.apart (show IsS102 w0 _ g s0_0 t648 t649 from zz0) (zr HO647) (by decide)) hk (fun _ h => h.2)) (fun _ h => h.1)); replace HK := zT hk; replace HB := zA hb; replace HI0 := zA hi; clear hb hk hi))
   go_ret
   exact ⟨_, zw, zr HO647, zz0, zz1, zf⟩

/-! ### spec_l1Str: function 114 -/
def spec_l1Str.f (s0_0 : List Int) (s0_1 : Int) (s0_2 : Int) (l1 : List ByteArray) : Option (ByteArray × Int × Int) := (spec_l1Below.f s0_0 s0_1 s0_2 (l1.length : Int)).bind fun bt672 => (if 0 ≤ bt672.1 then (if bt672.1 < (l1.length : Int) then (some (rdOf ByteArray.empty l1 bt672.1, bt672.2.1, bt672.2.2)) else (none)) else (none))
set_option maxHeartbeats 8000000 in
set_option maxRecDepth 100000 in
theorem spec_l1Str.calls (g : Nat) (s0_0 : List Int) (s0_1 : Int) (s0_2 : Int) (A1 : Option Addr) (c1 : Nat) (l1 : List ByteArray) (r1 : ByteArray) (r2 : Int) (r3 : Int) (w0 w : World) (hI : IsS102 w0 w g s0_0 s0_1 s0_2) (hB : Below w0.heap.size w0 w) (hr1 : Kd.C Kd.string w A1 l1.length l1) (hc1 : l1.length ≤ c1) (hf1 : ∀ ad, A1 = some ad → 0 < l1.length → ad.block ≠ g) (h : spec_l1Str.f s0_0 s0_1 s0_2 l1 = some (r1, r2, r3)) :
  Calls Try.prog 114 #[.pointer (some ⟨g, 0, none⟩), .slice A1 l1.length c1] w fun e w' => e = .returned (.string r1) ∧ IsS102 w0 w' g s0_0 r2 r3 ∧ Below w0.heap.size w0 w' ∧ KeepBut w w' g none := by
 have HR1 := zA hr1
 have HC1 := zA hc1
 clear hr1 hc1
 have HI0 := zA hI
 have HK := zA (KeepBut.refl w g none)
 have HL := zA hB.size
 clear hI
 have HW0 := zA hB.size
 have HB := zA hB
 clear hB
 have H : ((spec_l1Below.f s0_0 s0_1 s0_2 (l1.length : Int)).bind fun bt672 => (if 0 ≤ bt672.1 then (if bt672.1 < (l1.length : Int) then (some (rdOf ByteArray.empty l1 bt672.1, bt672.2.1, bt672.2.2)) else (none)) else (none))) = some (r1, r2, r3) := h
 clear h
 replace H := zI H
 obtain ⟨⟨t672, t673, t674⟩, A3, H⟩ := H
 try dsimp only at H
 by_cases c4 : 0 ≤ t672
 ·rw [if_pos c4] at H
  have c4b0 : decide (0 ≤ t672) = true := decide_eq_true c4
  clear c4
  by_cases c5 : t672 < (l1.length : Int)
  ·rw [if_pos c5] at H
   have c5b0 : decide (t672 < (l1.length : Int)) = true := decide_eq_true c5
   clear c5
   simp only [Option.some.injEq, Prod.mk.injEq] at H
   obtain ⟨rfl, rfl, rfl⟩ := H
   go_enter Try.func114, Try.ntmps114
   go_wp2_with (first | ((with_reducible refine zg 107 ?_); refine gL (some 9) Try.func107 #[.pointer (some ⟨g, 0, none⟩), .int .i64 (l1.length : Int)] ?_; (with_reducible refine (spec_l1Below.calls g s0_0 s0_1 s0_2 (l1.length : Int) t672 t673 t674 w0 _ ?z1 ?z2 A3.out).mono ?_); (case z1 => exact zz0); (case z2 => exact zz1); rintro e w6 ⟨rfl, hi, hb, hk⟩; refine ⟨_, rfl, ?_⟩; replace HK := zT hk; replace HB := zA hb; replace HI0 := zA hi; clear hb hk hi; have p675 : 0 ≤ (t672 : Int) := of_decide_eq_true za; have q675 : t672 < (l1.length : Int) := of_decide_eq_true za; obtain ⟨ad675, e675, hx675_0⟩ := Kd.at_string HR1.out t672 p675 q675; cases e675; replace hx675_0 := keep_cell HK.out hx675_0 (by first | (rw [add_block]; exact hf1 _ rfl (by omega)) | exact hf1 _ rfl (by omega) | exact hf1 ad675 rfl (by omega)); replace p675 := eq_true p675; replace q675 := eq_true q675))
   go_ret
   exact ⟨zw, zz0, zz1, zf⟩
  ·rw [if_neg c5] at H
   exact absurd H (by simp)
 ·rw [if_neg c4] at H
  exact absurd H (by simp)

/-! ### spec_l2Text: function 122 -/
def spec_l2Text.f (s0_0 : List Int) (s0_1 : Int) (s0_2 : Int) : Option (ByteArray × Int × Int) := (spec_l1Str.f s0_0 s0_1 s0_2 (([(⟨#[]⟩ : ByteArray), (⟨#[97]⟩ : ByteArray), (⟨#[98]⟩ : ByteArray), (⟨#[97, 98]⟩ : ByteArray), (⟨#[0]⟩ : ByteArray), (⟨#[97, 0]⟩ : ByteArray), (⟨#[0, 255]⟩ : ByteArray), (⟨#[255]⟩ : ByteArray), (⟨#[119, 111, 114, 100]⟩ : ByteArray), (⟨#[122]⟩ : ByteArray)] : List ByteArray))).bind fun bt679 => (some (bt679.1, bt679.2.1, bt679.2.2))
set_option maxHeartbeats 8000000 in
set_option maxRecDepth 100000 in
theorem spec_l2Text.calls (g : Nat) (s0_0 : List Int) (s0_1 : Int) (s0_2 : Int) (r1 : ByteArray) (r2 : Int) (r3 : Int) (w0 w : World) (hI : IsS102 w0 w g s0_0 s0_1 s0_2) (hB : Below w0.heap.size w0 w) (h : spec_l2Text.f s0_0 s0_1 s0_2 = some (r1, r2, r3)) :
  Calls Try.prog 122 #[.pointer (some ⟨g, 0, none⟩)] w fun e w' => e = .returned (.string r1) ∧ IsS102 w0 w' g s0_0 r2 r3 ∧ Below w0.heap.size w0 w' ∧ KeepBut w w' g none := by
 have HI0 := zA hI
 have HK := zA (KeepBut.refl w g none)
 have HL := zA hB.size
 clear hI
 have HW0 := zA hB.size
 have HB := zA hB
 clear hB
 have H : ((spec_l1Str.f s0_0 s0_1 s0_2 (([(⟨#[]⟩ : ByteArray), (⟨#[97]⟩ : ByteArray), (⟨#[98]⟩ : ByteArray), (⟨#[97, 98]⟩ : ByteArray), (⟨#[0]⟩ : ByteArray), (⟨#[97, 0]⟩ : ByteArray), (⟨#[0, 255]⟩ : ByteArray), (⟨#[255]⟩ : ByteArray), (⟨#[119, 111, 114, 100]⟩ : ByteArray), (⟨#[122]⟩ : ByteArray)] : List ByteArray))).bind fun bt679 => (some (bt679.1, bt679.2.1, bt679.2.2))) = some (r1, r2, r3) := h
 clear h
 obtain ⟨y676, hy676⟩ : ∃ y_ : List ByteArray, y_ = (([(⟨#[]⟩ : ByteArray), (⟨#[97]⟩ : ByteArray), (⟨#[98]⟩ : ByteArray), (⟨#[97, 98]⟩ : ByteArray), (⟨#[0]⟩ : ByteArray), (⟨#[97, 0]⟩ : ByteArray), (⟨#[0, 255]⟩ : ByteArray), (⟨#[255]⟩ : ByteArray), (⟨#[119, 111, 114, 100]⟩ : ByteArray), (⟨#[122]⟩ : ByteArray)] : List ByteArray)) := ⟨_, rfl⟩
 replace H : ((spec_l1Str.f s0_0 s0_1 s0_2 y676).bind fun bt679 => (some (bt679.1, bt679.2.1, bt679.2.2))) = some (r1, r2, r3) := zy hy676
 have Ny676 := zA hy676
 clear hy676
 replace H := zI H
 obtain ⟨⟨t679, t680, t681⟩, A2, H⟩ := H
 try dsimp only at H
 simp only [Option.some.injEq, Prod.mk.injEq] at H
 obtain ⟨rfl, rfl, rfl⟩ := H
 go_enter Try.func122, Try.ntmps122
 go_wp2_with (first | ((with_reducible refine zt 4 ?_); refine Kd.R_lit Kd.string _ 9 ?hg (N := 4) ?hd (xs := ([(⟨#[]⟩ : ByteArray), (⟨#[97]⟩ : ByteArray), (⟨#[98]⟩ : ByteArray), (⟨#[97, 98]⟩ : ByteArray), (⟨#[0]⟩ : ByteArray), (⟨#[97, 0]⟩ : ByteArray), (⟨#[0, 255]⟩ : ByteArray), (⟨#[255]⟩ : ByteArray), (⟨#[119, 111, 114, 100]⟩ : ByteArray), (⟨#[122]⟩ : ByteArray)] : List ByteArray)) (inner := [.string (⟨#[]⟩ : ByteArray), .string (⟨#[97]⟩ : ByteArray), .string (⟨#[98]⟩ : ByteArray), .string (⟨#[97, 98]⟩ : ByteArray), .string (⟨#[0]⟩ : ByteArray), .string (⟨#[97, 0]⟩ : ByteArray), .string (⟨#[0, 255]⟩ : ByteArray), .string (⟨#[255]⟩ : ByteArray), .string (⟨#[119, 111, 114, 100]⟩ : ByteArray), .string (⟨#[122]⟩ : ByteArray)]) (ok := fun _ => True) (okp := fun _ => True) ?hr ?hp (fun _ hk => hk) trivial (Below.refl _ _) (Nat.le_refl _) (by simp) ?_; (case hd => rfl); (case hg => rfl); (case hr => exact zz16); (case hp => exact (Reps.one (show Kd.M Kd.string _ _ _ (⟨#[]⟩ : ByteArray) [.string (⟨#[]⟩ : ByteArray)] from rfl) (Reps.one (show Kd.M Kd.string _ _ _ (⟨#[97]⟩ : ByteArray) [.string (⟨#[97]⟩ : ByteArray)] from rfl) (Reps.one (show Kd.M Kd.string _ _ _ (⟨#[98]⟩ : ByteArray) [.string (⟨#[98]⟩ : ByteArray)] from rfl) (Reps.one (show Kd.M Kd.string _ _ _ (⟨#[97, 98]⟩ : ByteArray) [.string (⟨#[97, 98]⟩ : ByteArray)] from rfl) (Reps.one (show Kd.M Kd.string _ _ _ (⟨#[0]⟩ : ByteArray) [.string (⟨#[0]⟩ : ByteArray)] from rfl) (Reps.one (show Kd.M Kd.string _ _ _ (⟨#[97, 0]⟩ : ByteArray) [.string (⟨#[97, 0]⟩ : ByteArray)] from rfl) (Reps.one (show Kd.M Kd.string _ _ _ (⟨#[0, 255]⟩ : ByteArray) [.string (⟨#[0, 255]⟩ : ByteArray)] from rfl) (Reps.one (show Kd.M Kd.string _ _ _ (⟨#[255]⟩ : ByteArray) [.string (⟨#[255]⟩ : ByteArray)] from rfl) (Reps.one (show Kd.M Kd.string _ _ _ (⟨#[119, 111, 114, 100]⟩ : ByteArray) [.string (⟨#[119, 111, 114, 100]⟩ : ByteArray)] from rfl) (Reps.one (show Kd.M Kd.string _ _ _ (⟨#[122]⟩ : ByteArray) [.string (⟨#[122]⟩ : ByteArray)] from rfl) (Reps.none _ _)))))))))))); intro v677 w3 ho4 hb hg_ hnew_; clear hg_ hnew_; (first | rw [← Ny676.out] at ho4 | (simp only [Int.reduceToNat] at ho4; rw [← Ny676.out] at ho4)); have HO678 := zA (Kd.R_lower ho4 (keep_size (w := w) (g := g) (row := none) zf)); replace HK := zT (KeepBut.of_below hb g none); replace HB := zS hb zz1; replace HI0 := zA (IsS102.below zz0 hb); clear hb ho4; obtain ⟨Ao5, co5, eo5⟩ := Kd.R_slice HO678.out; subst eo5) | ((with_reducible refine zg 114 ?_); refine gL (some 5) Try.func114 #[.pointer (some ⟨g, 0, none⟩), .slice Ao5 y676.length co5] ?_; (with_reducible refine (spec_l1Str.calls g s0_0 s0_1 s0_2 _ _ y676 t679 t680 t681 w0 _ ?z1 ?z2 ?z3 ?z4 ?z5 A2.out).mono ?_); (case z1 => exact zz0); (case z2 => exact zz1); (case z3 => exact ze HO678); (case z4 => exact zl HO678); (case z5 => exact far_slice (IsS102.own_ne HI0.out HO678.out (by decide))); rintro e w6 ⟨rfl, hi, hb, hk⟩; refine ⟨_, rfl, ?_⟩; replace HO678 := zA (Kd.R_mono (Kd.R_keep (IsS102.apart (show IsS102 w0 _ g s0_0 s0_1 s0_2 from zz0) (zr HO678) (by decide)) hk (fun _ h => h.2)) (fun _ h => h.1)); replace HK := zT hk; replace HB := zA hb; replace HI0 := zA hi; clear hb hk hi))
 go_ret
 exact ⟨zw, zz0, zz1, zf⟩

end Go.Proofs.Ytnfmpopmigbkoaa.PFnKeysRead

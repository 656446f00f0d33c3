-- Written by mkprint.py, a program of this session (the printer with additions of its own)
import Derived.Test.YtnfmpopmigbkoaaPFnLessKeysx0
import Derived.Test.YtnfmpopmigbkoaaPFnLessKeysx10
namespace Go.Proofs.Ytnfmpopmigbkoaa.PFnLessKeys
open Go.RowKit Go.Proofs.YtnfmpopmigbkoaaW.PrintWords Go.Proofs.YtnfmpopmigbkoaaW.PrintLast Go.Proofs.YtnfmpopmigbkoaaW.PrintMore
attribute [local go_sem] max2_int min2_int max_two min_two max_three min_three max_four min_four   -- for this text's walks alone
set_option linter.unusedVariables false
set_option linter.unusedSimpArgs false

/-! ### spec_l1Below: function 107 -/
def spec_l1Below.f (s0_0 : List Int) (s0_1 : Int) (s0_2 : Int) (a1 : Int) : Option (Int × Int × Int) := if a1 ≤ 0 then (some (0, s0_1, s0_2)) else (if a1 ≤ 256 then ((spec_l1Byte.f s0_0 s0_1 s0_2).bind fun bt400 => (if a1 = 0 then (none) else (some (Int.tmod bt400.1 a1, bt400.2.1, bt400.2.2)))) else ((spec_l1Byte.f s0_0 s0_1 s0_2).bind fun bt403 => ((spec_l1Byte.f s0_0 bt403.2.1 bt403.2.2).bind fun bt406 => ((spec_l1Byte.f s0_0 bt406.2.1 bt406.2.2).bind fun bt409 => (if a1 = 0 then (none) else (some (Int.tmod (wrap64 ((wrap64 ((wrap64 (bt403.1 * 65536)) + (wrap64 (bt406.1 * 256)))) + bt409.1)) a1, bt409.2.1, bt409.2.2)))))))
set_option maxHeartbeats 8000000 in
set_option maxRecDepth 100000 in
theorem spec_l1Below.calls (g : Nat) (s0_0 : List Int) (s0_1 : Int) (s0_2 : Int) (a1 : Int) (r1 : Int) (r2 : Int) (r3 : Int) (w0 w : World) (hI : IsS102 w0 w g s0_0 s0_1 s0_2) (hB : Below w0.heap.size w0 w) (h : spec_l1Below.f s0_0 s0_1 s0_2 a1 = some (r1, r2, r3)) :
  Calls Try.prog 107 #[.pointer (some ⟨g, 0, none⟩), .int .i64 a1] w fun e w' => e = .returned (.int .i64 r1) ∧ IsS102 w0 w' g s0_0 r2 r3 ∧ Below w0.heap.size w0 w' ∧ KeepBut w w' g none := by
 have HI0 := zA hI
 have HK := zA (KeepBut.refl w g none)
 have HL := zA hB.size
 clear hI
 have HW0 := zA hB.size
 have HB := zA hB
 clear hB
 have H : (if a1 ≤ 0 then (some (0, s0_1, s0_2)) else (if a1 ≤ 256 then ((spec_l1Byte.f s0_0 s0_1 s0_2).bind fun bt400 => (if a1 = 0 then (none) else (some (Int.tmod bt400.1 a1, bt400.2.1, bt400.2.2)))) else ((spec_l1Byte.f s0_0 s0_1 s0_2).bind fun bt403 => ((spec_l1Byte.f s0_0 bt403.2.1 bt403.2.2).bind fun bt406 => ((spec_l1Byte.f s0_0 bt406.2.1 bt406.2.2).bind fun bt409 => (if a1 = 0 then (none) else (some (Int.tmod (wrap64 ((wrap64 ((wrap64 (bt403.1 * 65536)) + (wrap64 (bt406.1 * 256)))) + bt409.1)) a1, bt409.2.1, bt409.2.2)))))))) = some (r1, r2, r3) := h
 clear h
 by_cases c3 : a1 ≤ 0
 ·rw [if_pos c3] at H
  have c3b0 : decide (a1 ≤ 0) = true := decide_eq_true c3
  clear c3
  simp only [Option.some.injEq, Prod.mk.injEq] at H
  obtain ⟨rfl, rfl, rfl⟩ := H
  go_enter Try.func107, Try.ntmps107
  go_wp2
  go_ret
  exact ⟨zw, zz0, zz1, zf⟩
 ·rw [if_neg c3] at H
  have c3b0 : decide (a1 ≤ 0) = false := decide_eq_false c3
  clear c3
  by_cases c4 : a1 ≤ 256
  ·rw [if_pos c4] at H
   have c4b0 : decide (a1 ≤ 256) = true := decide_eq_true c4
   clear c4
   replace H := zI H
   obtain ⟨⟨t400, t401, t402⟩, A5, H⟩ := H
   try dsimp only at H
   by_cases c6 : a1 = 0
   ·rw [if_pos c6] at H
    exact absurd H (by simp)
   ·rw [if_neg c6] at H
    have c6b0 : (a1 == 0) = false := beq_eq_false_iff_ne.mpr c6
    have c6b1 : (a1 != 0) = true := bne_iff_ne.mpr c6
    simp only [Option.some.injEq, Prod.mk.injEq] at H
    obtain ⟨rfl, rfl, rfl⟩ := H
    go_enter Try.func107, Try.ntmps107
    go_wp2_with (first | ((with_reducible refine zg 121 ?_); refine gL (some 13) Try.func121 #[.pointer (some ⟨g, 0, none⟩)] ?_; (with_reducible refine (spec_l1Byte.calls g s0_0 s0_1 s0_2 t400 t401 t402 w0 _ ?z1 ?z2 A5.out).mono ?_); (case z1 => exact zz0); (case z2 => exact zz1); rintro e w7 ⟨rfl, hi, hb, hk⟩; refine ⟨_, rfl, ?_⟩; replace HK := zT hk; replace HB := zA hb; replace HI0 := zA hi; clear hb hk hi))
    go_ret
    exact ⟨zw, zz0, zz1, zf⟩
  ·rw [if_neg c4] at H
   have c4b0 : decide (a1 ≤ 256) = false := decide_eq_false c4
   clear c4
   replace H := zI H
   obtain ⟨⟨t403, t404, t405⟩, A8, H⟩ := H
   try dsimp only at H
   replace H := zI H
   obtain ⟨⟨t406, t407, t408⟩, A9, H⟩ := H
   try dsimp only at H
   replace H := zI H
   obtain ⟨⟨t409, t410, t411⟩, A10, H⟩ := H
   try dsimp only at H
   by_cases c11 : a1 = 0
   ·rw [if_pos c11] at H
    exact absurd H (by simp)
   ·rw [if_neg c11] at H
    have c11b0 : (a1 == 0) = false := beq_eq_false_iff_ne.mpr c11
    have c11b1 : (a1 != 0) = true := bne_iff_ne.mpr c11
    simp only [Option.some.injEq, Prod.mk.injEq] at H
    obtain ⟨rfl, rfl, rfl⟩ := H
    go_enter Try.func107, Try.ntmps107
    go_wp2_with (first | ((with_reducible refine zg 121 ?_); refine gL (some 17) Try.func121 #[.pointer (some ⟨g, 0, none⟩)] ?_; (with_reducible refine (spec_l1Byte.calls g s0_0 s0_1 s0_2 t403 t404 t405 w0 _ ?z1 ?z2 A8.out).mono ?_); (case z1 => exact zz0); (case z2 => exact zz1); rintro e w12 ⟨rfl, hi, hb, hk⟩; refine ⟨_, rfl, ?_⟩; replace HK := zT hk; replace HB := zA hb; replace HI0 := zA hi; clear hb hk hi) | ((with_reducible refine zg 121 ?_); refine gL (some 19) Try.func121 #[.pointer (some ⟨g, 0, none⟩)] ?_; (with_reducible refine (spec_l1Byte.calls g s0_0 t404 t405 t406 t407 t408 w0 _ ?z1 ?z2 A9.out).mono ?_); (case z1 => exact zz0); (case z2 => exact zz1); rintro e w13 ⟨rfl, hi, hb, hk⟩; refine ⟨_, rfl, ?_⟩; replace HK := zT hk; replace HB := zA hb; replace HI0 := zA hi; clear hb hk hi) | ((with_reducible refine zg 121 ?_); refine gL (some 21) Try.func121 #[.pointer (some ⟨g, 0, none⟩)] ?_; (with_reducible refine (spec_l1Byte.calls g s0_0 t407 t408 t409 t410 t411 w0 _ ?z1 ?z2 A10.out).mono ?_); (case z1 => exact zz0); (case z2 => exact zz1); rintro e w14 ⟨rfl, hi, hb, hk⟩; refine ⟨_, rfl, ?_⟩; replace HK := zT hk; replace HB := zA hb; replace HI0 := zA hi; clear hb hk hi))
    go_ret
    exact ⟨zw, zz0, zz1, zf⟩

/-! ### spec_l1Once: function 110 -/
def spec_l1Once.f (s0_0 : List Int) (s0_1 : Int) (s0_2 : Int) (a1 : Int) : Option (Bool × Int × Int) := (spec_l1Below.f s0_0 s0_1 s0_2 a1).bind fun bt412 => (some ((bt412.1 == 0), bt412.2.1, bt412.2.2))
set_option maxHeartbeats 8000000 in
set_option maxRecDepth 100000 in
theorem spec_l1Once.calls (g : Nat) (s0_0 : List Int) (s0_1 : Int) (s0_2 : Int) (a1 : Int) (r1 : Bool) (r2 : Int) (r3 : Int) (w0 w : World) (hI : IsS102 w0 w g s0_0 s0_1 s0_2) (hB : Below w0.heap.size w0 w) (h : spec_l1Once.f s0_0 s0_1 s0_2 a1 = some (r1, r2, r3)) :
  Calls Try.prog 110 #[.pointer (some ⟨g, 0, none⟩), .int .i64 a1] w fun e w' => e = .returned (.bool r1) ∧ IsS102 w0 w' g s0_0 r2 r3 ∧ Below w0.heap.size w0 w' ∧ KeepBut w w' g none := by
 have HI0 := zA hI
 have HK := zA (KeepBut.refl w g none)
 have HL := zA hB.size
 clear hI
 have HW0 := zA hB.size
 have HB := zA hB
 clear hB
 have H : ((spec_l1Below.f s0_0 s0_1 s0_2 a1).bind fun bt412 => (some ((bt412.1 == 0), bt412.2.1, bt412.2.2))) = some (r1, r2, r3) := h
 clear h
 replace H := zI H
 obtain ⟨⟨t412, t413, t414⟩, A3, H⟩ := H
 try dsimp only at H
 simp only [Option.some.injEq, Prod.mk.injEq] at H
 obtain ⟨rfl, rfl, rfl⟩ := H
 go_enter Try.func110, Try.ntmps110
 go_wp2_with (first | ((with_reducible refine zg 107 ?_); refine gL (some 7) Try.func107 #[.pointer (some ⟨g, 0, none⟩), .int .i64 a1] ?_; (with_reducible refine (spec_l1Below.calls g s0_0 s0_1 s0_2 a1 t412 t413 t414 w0 _ ?z1 ?z2 A3.out).mono ?_); (case z1 => exact zz0); (case z2 => exact zz1); rintro e w4 ⟨rfl, hi, hb, hk⟩; refine ⟨_, rfl, ?_⟩; replace HK := zT hk; replace HB := zA hb; replace HI0 := zA hi; clear hb hk hi))
 go_ret
 exact ⟨zw, zz0, zz1, zf⟩

/-! ### spec_l5Draw: function 106 -/
def spec_l5Draw.f (s0_0 : List Int) (s0_1 : Int) (s0_2 : Int) (a1 : Int) : Option (Int × Int × Bool × Bool × Int × Int) := (spec_l1Below.f s0_0 s0_1 s0_2 4).bind fun bt416 => ((spec_l1Once.f s0_0 bt416.2.1 bt416.2.2 2).bind fun bt419 => ((spec_l1Once.f s0_0 bt419.2.1 bt419.2.2 2).bind fun bt422 => (some (a1, wrap64 (1 + bt416.1), bt419.1, bt422.1, bt422.2.1, bt422.2.2))))
set_option maxHeartbeats 8000000 in
set_option maxRecDepth 100000 in
theorem spec_l5Draw.calls (g : Nat) (s0_0 : List Int) (s0_1 : Int) (s0_2 : Int) (a1 : Int) (r1 : Int) (r2 : Int) (r3 : Bool) (r4 : Bool) (r5 : Int) (r6 : Int) (w0 w : World) (hI : IsS102 w0 w g s0_0 s0_1 s0_2) (hB : Below w0.heap.size w0 w) (h : spec_l5Draw.f s0_0 s0_1 s0_2 a1 = some (r1, r2, r3, r4, r5, r6)) :
  Calls Try.prog 106 #[.pointer (some ⟨g, 0, none⟩), .int .i64 a1] w fun e w' => e = .returned (.agg #[.int .i64 r1, .int .i64 r2, .bool r3, .bool r4]) ∧ IsS102 w0 w' g s0_0 r5 r6 ∧ Below w0.heap.size w0 w' ∧ KeepBut w w' g none := by
 have hu30 := Try.underlying30
 have HI0 := zA hI
 have HK := zA (KeepBut.refl w g none)
 have HL := zA hB.size
 clear hI
 have HW0 := zA hB.size
 have HB := zA hB
 clear hB
 have H : ((spec_l1Below.f s0_0 s0_1 s0_2 4).bind fun bt416 => ((spec_l1Once.f s0_0 bt416.2.1 bt416.2.2 2).bind fun bt419 => ((spec_l1Once.f s0_0 bt419.2.1 bt419.2.2 2).bind fun bt422 => (some (a1, wrap64 (1 + bt416.1), bt419.1, bt422.1, bt422.2.1, bt422.2.2))))) = some (r1, r2, r3, r4, r5, r6) := h
 clear h
 replace H := zI H
 obtain ⟨⟨t416, t417, t418⟩, A3, H⟩ := H
 try dsimp only at H
 replace H := zI H
 obtain ⟨⟨t419, t420, t421⟩, A4, H⟩ := H
 try dsimp only at H
 replace H := zI H
 obtain ⟨⟨t422, t423, t424⟩, A5, H⟩ := H
 try dsimp only at H
 simp only [Option.some.injEq, Prod.mk.injEq] at H
 obtain ⟨rfl, rfl, rfl, rfl, rfl, rfl⟩ := H
 go_enter Try.func106, Try.ntmps106
 go_wp2_with (first | ((with_reducible refine zt 4 ?_); refine zn #[.int .i64 0, .int .i64 0, .bool false, .bool false] 30 ?_; intro gb415 hg w6 hbox hb; replace HB := zS hb zz1; have BK415 := zA hbox; have GW415 := zA ((zz26 : w.heap.size ≤ gb415)); have GE415 := zA ((Nat.le_trans HW0.out (zz26 : w.heap.size ≤ gb415) : w0.heap.size ≤ gb415)); replace HK := zT (KeepBut.of_below hb g none); have NB0_415 := zA ((zz48 : g ≠ gb415)); have NB415_0 := zA ((zz49 : gb415 ≠ g)); replace HI0 := zA (IsS102.below zz0 hb); clear hb hbox hg) | ((with_reducible refine zg 107 ?_); refine gL (some 7) Try.func107 #[.pointer (some ⟨g, 0, none⟩), .int .i64 4] ?_; (with_reducible refine (spec_l1Below.calls g s0_0 s0_1 s0_2 4 t416 t417 t418 w0 _ ?z1 ?z2 A3.out).mono ?_); (case z1 => exact zz32); (case z2 => exact zz33); rintro e w7 ⟨rfl, hi, hb, hk⟩; refine ⟨_, rfl, ?_⟩; replace BK415 := zV hk BK415 NB415_0; replace HK := zT hk (zf1 GW415); replace HB := zA hb; replace HI0 := zA hi; clear hb hk hi) | ((with_reducible refine zg 110 ?_); refine gL (some 10) Try.func110 #[.pointer (some ⟨g, 0, none⟩), .int .i64 2] ?_; (with_reducible refine (spec_l1Once.calls g s0_0 t417 t418 2 t419 t420 t421 w0 _ ?z1 ?z2 A4.out).mono ?_); (case z1 => exact zz32); (case z2 => exact zz33); rintro e w8 ⟨rfl, hi, hb, hk⟩; refine ⟨_, rfl, ?_⟩; replace BK415 := zV hk BK415 NB415_0; replace HK := zT hk (zf1 GW415); replace HB := zA hb; replace HI0 := zA hi; clear hb hk hi) | ((with_reducible refine zg 110 ?_); refine gL (some 12) Try.func110 #[.pointer (some ⟨g, 0, none⟩), .int .i64 2] ?_; (with_reducible refine (spec_l1Once.calls g s0_0 t420 t421 2 t422 t423 t424 w0 _ ?z1 ?z2 A5.out).mono ?_); (case z1 => exact zz32); (case z2 => exact zz33); rintro e w9 ⟨rfl, hi, hb, hk⟩; refine ⟨_, rfl, ?_⟩; replace BK415 := zV hk BK415 NB415_0; replace HK := zT hk (zf1 GW415); replace HB := zA hb; replace HI0 := zA hi; clear hb hk hi; have hnb10 := NB415_0.out; have hnc10 := NB0_415.out; obtain ⟨hcz11_0, hcz11_1, hcz11_2, hcz11_3, hfz11_0, hfz11_1, hfz11_2, hfz11_3⟩ := zh4 BK415))
 refine bodyPost_ret (results_cell_row rfl _ _ gb415 30 #[.int .i64 a1, .int .i64 (wrap64 (1 + t416)), .bool t419, .bool t422] (0, 0) _ rfl (by (with_reducible repeat (first | refine blk_drewN ?_ _ | refine blk_drew ?_ | refine blk_alloc ?_ _)); refine blk_put (cs := #[.int .i64 a1, .int .i64 (wrap64 (1 + t416)), .bool t419, .bool false]) ?_ 3 _ rfl; (with_reducible repeat (first | refine blk_drewN ?_ _ | refine blk_drew ?_ | refine blk_alloc ?_ _)); refine blk_put (cs := #[.int .i64 a1, .int .i64 (wrap64 (1 + t416)), .bool false, .bool false]) ?_ 2 _ rfl; (with_reducible repeat (first | refine blk_drewN ?_ _ | refine blk_drew ?_ | refine blk_alloc ?_ _)); refine blk_put (cs := #[.int .i64 a1, .int .i64 0, .bool false, .bool false]) ?_ 1 _ rfl; (with_reducible repeat (first | refine blk_drewN ?_ _ | refine blk_drew ?_ | refine blk_alloc ?_ _)); refine blk_put (cs := #[.int .i64 0, .int .i64 0, .bool false, .bool false]) ?_ 0 _ rfl; (with_reducible repeat (first | refine blk_drewN ?_ _ | refine blk_drew ?_ | refine blk_alloc ?_ _)); exact BK415.out) Try.underlying30 rfl (by kernel_rfl)) rfl ?_
 exact ⟨zw, zz32, zz33, zf1 GW415⟩

/-! ### spec_l1Int: function 108 -/
def spec_l1Int.f (s0_0 : List Int) (s0_1 : Int) (s0_2 : Int) (l1 : List Int) : Option (Int × Int × Int) := (spec_l1Below.f s0_0 s0_1 s0_2 (l1.length : Int)).bind fun bt425 => (if 0 ≤ bt425.1 then (if bt425.1 < (l1.length : Int) then (some (rd l1 bt425.1, bt425.2.1, bt425.2.2)) else (none)) else (none))
set_option maxHeartbeats 8000000 in
set_option maxRecDepth 100000 in
theorem spec_l1Int.calls (g : Nat) (s0_0 : List Int) (s0_1 : Int) (s0_2 : Int) (A1 : Option Addr) (c1 : Nat) (l1 : List Int) (r1 : Int) (r2 : Int) (r3 : Int) (w0 w : World) (hI : IsS102 w0 w g s0_0 s0_1 s0_2) (hB : Below w0.heap.size w0 w) (hr1 : Kd.C (Kd.int .i64) w A1 l1.length l1) (hc1 : l1.length ≤ c1) (hf1 : ∀ ad, A1 = some ad → 0 < l1.length → ad.block ≠ g) (h : spec_l1Int.f s0_0 s0_1 s0_2 l1 = some (r1, r2, r3)) :
  Calls Try.prog 108 #[.pointer (some ⟨g, 0, none⟩), .slice A1 l1.length c1] w fun e w' => e = .returned (.int .i64 r1) ∧ IsS102 w0 w' g s0_0 r2 r3 ∧ Below w0.heap.size w0 w' ∧ KeepBut w w' g none := by
 have HR1 := zA hr1
 have HC1 := zA hc1
 clear hr1 hc1
 have HI0 := zA hI
 have HK := zA (KeepBut.refl w g none)
 have HL := zA hB.size
 clear hI
 have HW0 := zA hB.size
 have HB := zA hB
 clear hB
 have H : ((spec_l1Below.f s0_0 s0_1 s0_2 (l1.length : Int)).bind fun bt425 => (if 0 ≤ bt425.1 then (if bt425.1 < (l1.length : Int) then (some (rd l1 bt425.1, bt425.2.1, bt425.2.2)) else (none)) else (none))) = some (r1, r2, r3) := h
 clear h
 replace H := zI H
 obtain ⟨⟨t425, t426, t427⟩, A3, H⟩ := H
 try dsimp only at H
 by_cases c4 : 0 ≤ t425
 ·rw [if_pos c4] at H
  have c4b0 : decide (0 ≤ t425) = true := decide_eq_true c4
  clear c4
  by_cases c5 : t425 < (l1.length : Int)
  ·rw [if_pos c5] at H
   have c5b0 : decide (t425 < (l1.length : Int)) = true := decide_eq_true c5
   clear c5
   simp only [Option.some.injEq, Prod.mk.injEq] at H
   obtain ⟨rfl, rfl, rfl⟩ := H
   go_enter Try.func108, Try.ntmps108
   go_wp2_with (first | ((with_reducible refine zg 107 ?_); refine gL (some 9) Try.func107 #[.pointer (some ⟨g, 0, none⟩), .int .i64 (l1.length : Int)] ?_; (with_reducible refine (spec_l1Below.calls g s0_0 s0_1 s0_2 (l1.length : Int) t425 t426 t427 w0 _ ?z1 ?z2 A3.out).mono ?_); (case z1 => exact zz0); (case z2 => exact zz1); rintro e w6 ⟨rfl, hi, hb, hk⟩; refine ⟨_, rfl, ?_⟩; replace HK := zT hk; replace HB := zA hb; replace HI0 := zA hi; clear hb hk hi; have p428 : 0 ≤ (t425 : Int) := of_decide_eq_true za; have q428 : t425 < (l1.length : Int) := of_decide_eq_true za; obtain ⟨ad428, e428, hx428_0⟩ := Kd.at_int HR1.out t425 p428 q428; cases e428; replace hx428_0 := keep_cell HK.out hx428_0 (by first | (rw [add_block]; exact hf1 _ rfl (by omega)) | exact hf1 _ rfl (by omega) | exact hf1 ad428 rfl (by omega)); replace p428 := eq_true p428; replace q428 := eq_true q428))
   go_ret
   exact ⟨zw, zz0, zz1, zf⟩
  ·rw [if_neg c5] at H
   exact absurd H (by simp)
 ·rw [if_neg c4] at H
  exact absurd H (by simp)

/-! ### spec_l5Any: function 76 -/
def spec_l5Any.f (s0_0 : List Int) (s0_1 : Int) (s0_2 : Int) : Option (Int × Int × Bool × Bool × Int × Int) := (spec_l1Below.f s0_0 s0_1 s0_2 3).bind fun bt430 => ((spec_l5Draw.f s0_0 bt430.2.1 bt430.2.2 bt430.1).bind fun bt433 => ((spec_l1Below.f s0_0 bt433.2.2.2.2.1 bt433.2.2.2.2.2 12).bind fun bt440 => (if bt440.1 = 0 then ((spec_l1Int.f s0_0 bt440.2.1 bt440.2.2 (([(-1), 9, 10] : List Int))).bind fun bt446 => (some (bt446.1, bt433.2.1, bt433.2.2.1, bt433.2.2.2.1, bt446.2.1, bt446.2.2))) else (if bt440.1 = 1 then ((spec_l1Below.f s0_0 bt440.2.1 bt440.2.2 6).bind fun bt449 => (some (bt433.1, bt449.1, bt433.2.2.1, bt433.2.2.2.1, bt449.2.1, bt449.2.2))) else (some (bt433.1, bt433.2.1, bt433.2.2.1, bt433.2.2.2.1, bt440.2.1, bt440.2.2))))))
set_option maxHeartbeats 8000000 in
set_option maxRecDepth 100000 in
theorem spec_l5Any.calls (g : Nat) (s0_0 : List Int) (s0_1 : Int) (s0_2 : Int) (r1 : Int) (r2 : Int) (r3 : Bool) (r4 : Bool) (r5 : Int) (r6 : Int) (w0 w : World) (hI : IsS102 w0 w g s0_0 s0_1 s0_2) (hB : Below w0.heap.size w0 w) (h : spec_l5Any.f s0_0 s0_1 s0_2 = some (r1, r2, r3, r4, r5, r6)) :
  Calls Try.prog 76 #[.pointer (some ⟨g, 0, none⟩)] w fun e w' => e = .returned (.agg #[.int .i64 r1, .int .i64 r2, .bool r3, .bool r4]) ∧ IsS102 w0 w' g s0_0 r5 r6 ∧ Below w0.heap.size w0 w' ∧ KeepBut w w' g none := by
 have hu30 := Try.underlying30
 have HI0 := zA hI
 have HK := zA (KeepBut.refl w g none)
 have HL := zA hB.size
 clear hI
 have HW0 := zA hB.size
 have HB := zA hB
 clear hB
 have H : ((spec_l1Below.f s0_0 s0_1 s0_2 3).bind fun bt430 => ((spec_l5Draw.f s0_0 bt430.2.1 bt430.2.2 bt430.1).bind fun bt433 => ((spec_l1Below.f s0_0 bt433.2.2.2.2.1 bt433.2.2.2.2.2 12).bind fun bt440 => (if bt440.1 = 0 then ((spec_l1Int.f s0_0 bt440.2.1 bt440.2.2 (([(-1), 9, 10] : List Int))).bind fun bt446 => (some (bt446.1, bt433.2.1, bt433.2.2.1, bt433.2.2.2.1, bt446.2.1, bt446.2.2))) else (if bt440.1 = 1 then ((spec_l1Below.f s0_0 bt440.2.1 bt440.2.2 6).bind fun bt449 => (some (bt433.1, bt449.1, bt433.2.2.1, bt433.2.2.2.1, bt449.2.1, bt449.2.2))) else (some (bt433.1, bt433.2.1, bt433.2.2.1, bt433.2.2.2.1, bt440.2.1, bt440.2.2))))))) = some (r1, r2, r3, r4, r5, r6) := h
 clear h
 replace H := zI H
 obtain ⟨⟨t430, t431, t432⟩, A2, H⟩ := H
 try dsimp only at H
 replace H := zI H
 obtain ⟨⟨t433, t434, t435, t436, t437, t438⟩, A3, H⟩ := H
 try dsimp only at H
 replace H := zI H
 obtain ⟨⟨t440, t441, t442⟩, A4, H⟩ := H
 try dsimp only at H
 by_cases c5 : t440 = 0
 ·rw [if_pos c5] at H
  have c5b0 : (t440 == 0) = true := beq_iff_eq.mpr c5
  have c5b1 : (t440 != 0) = false := bne_eq_false_iff_eq.mpr c5
  clear c5
  obtain ⟨y443, hy443⟩ : ∃ y_ : List Int, y_ = (([(-1), 9, 10] : List Int)) := ⟨_, rfl⟩
  replace H : ((spec_l1Int.f s0_0 t441 t442 y443).bind fun bt446 => (some (bt446.1, t434, t435, t436, bt446.2.1, bt446.2.2))) = some (r1, r2, r3, r4, r5, r6) := by first | (rw [hy443]; with_reducible exact H) | (have H2_ := (Option.bind_some _ _).symm.trans H; rw [hy443]; with_reducible exact H2_) | (have H2_ := (Option.bind_some _ _).symm.trans H; with_reducible exact H2_) | with_reducible exact H | (rw [hy443]; exact H) | exact H
  have Ny443 := zA hy443
  clear hy443
  replace H := zI H
  obtain ⟨⟨t446, t447, t448⟩, A6, H⟩ := H
  try dsimp only at H
  simp only [Option.some.injEq, Prod.mk.injEq] at H
  obtain ⟨rfl, rfl, rfl, rfl, rfl, rfl⟩ := H
  go_enter Try.func76, Try.ntmps76
  go_wp2_with (first | ((with_reducible refine zt 2 ?_); refine zn #[.int .i64 0, .int .i64 0, .bool false, .bool false] 30 ?_; intro gb429 hg w7 hbox hb; replace HB := zS hb zz1; have BK429 := zA hbox; have GW429 := zA ((zz26 : w.heap.size ≤ gb429)); have GE429 := zA ((Nat.le_trans HW0.out (zz26 : w.heap.size ≤ gb429) : w0.heap.size ≤ gb429)); replace HK := zT (KeepBut.of_below hb g none); have NB0_429 := zA ((zz48 : g ≠ gb429)); have NB429_0 := zA ((zz49 : gb429 ≠ g)); replace HI0 := zA (IsS102.below zz0 hb); clear hb hbox hg) | ((with_reducible refine zg 107 ?_); refine gL (some 6) Try.func107 #[.pointer (some ⟨g, 0, none⟩), .int .i64 3] ?_; (with_reducible refine (spec_l1Below.calls g s0_0 s0_1 s0_2 3 t430 t431 t432 w0 _ ?z1 ?z2 A2.out).mono ?_); (case z1 => exact zz8); (case z2 => exact zz19); rintro e w8 ⟨rfl, hi, hb, hk⟩; refine ⟨_, rfl, ?_⟩; replace BK429 := zV hk BK429 NB429_0; replace HK := zT hk (zf1 GW429); replace HB := zA hb; replace HI0 := zA hi; clear hb hk hi) | ((with_reducible refine zg 106 ?_); refine gL (some 7) Try.func106 #[.pointer (some ⟨g, 0, none⟩), .int .i64 t430] ?_; (with_reducible refine (spec_l5Draw.calls g s0_0 t431 t432 t430 t433 t434 t435 t436 t437 t438 w0 _ ?z1 ?z2 A3.out).mono ?_); (case z1 => exact zz8); (case z2 => exact zz19); rintro e w9 ⟨rfl, hi, hb, hk⟩; refine ⟨_, rfl, ?_⟩; replace BK429 := zV hk BK429 NB429_0; replace HK := zT hk (zf1 GW429); replace HB := zA hb; replace HI0 := zA hi; clear hb hk hi) | ((with_reducible refine zt 3 ?_); refine zn #[.int .i64 0, .int .i64 0, .bool false, .bool false] 30 ?_; intro gb439 hg w10 hbox hb; replace HB := zS hb zz19; have BK439 := zA hbox; have GW439 := zA ((zz40 : w.heap.size ≤ gb439)); have GE439 := zA ((Nat.le_trans HW0.out (zz40 : w.heap.size ≤ gb439) : w0.heap.size ≤ gb439)); replace HK := zT (KeepBut.of_below hb g none) (zf1 GW429); have NB429_439 := zX BK429 hg; have NB439_429 := zY BK429 hg; replace BK429 := zB BK429 hb; have NB0_439 := zA ((zz54 : g ≠ gb439)); have NB439_0 := zA ((zz55 : gb439 ≠ g)); replace HI0 := zA (IsS102.below zz8 hb); clear hb hbox hg; have hnb11 := NB439_429.out; have hnc11 := NB429_439.out; have hnb12 := NB439_0.out; have hnc12 := NB0_439.out; obtain ⟨hcz13_0, hcz13_1, hcz13_2, hcz13_3, hfz13_0, hfz13_1, hfz13_2, hfz13_3⟩ := zh4 BK439) | ((with_reducible refine zg 107 ?_); refine gL (some 9) Try.func107 #[.pointer (some ⟨g, 0, none⟩), .int .i64 12] ?_; (with_reducible refine (spec_l1Below.calls g s0_0 t437 t438 12 t440 t441 t442 w0 _ ?z1 ?z2 A4.out).mono ?_); (case z1 => exact zz13); (case z2 => exact zz14); rintro e w14 ⟨rfl, hi, hb, hk⟩; refine ⟨_, rfl, ?_⟩; replace BK429 := zA (KeepBut.blk hk (g' := gb429) (o := .cells #[.int .i64 0, .int .i64 0, .bool false, .bool false] 30 (0, 0)) zz17 NB429_0.out (by simp)); replace BK439 := zA (KeepBut.blk hk (g' := gb439) (o := .cells #[.int .i64 t433, .int .i64 t434, .bool t435, .bool t436] 30 (0, 0)) zz10 NB439_0.out (by simp)); replace HK := zT hk (zf2 GW429 GW439); replace HB := zA hb; replace HI0 := zA hi; clear hb hk hi) | ((with_reducible refine zt 13 ?_); refine Kd.R_lit (Kd.int .i64) _ 3 ?hg (N := 13) ?hd (xs := ([(-1), 9, 10] : List Int)) (inner := [.int .i64 (-1), .int .i64 9, .int .i64 10]) (ok := fun _ => True) (okp := fun _ => True) ?hr ?hp (fun _ hk => hk) trivial (Below.refl _ _) (Nat.le_refl _) (by simp) ?_; (case hd => rfl); (case hg => rfl); (case hr => exact zz25); (case hp => exact (Reps.one (show Kd.M (Kd.int .i64) _ _ _ (-1) [.int .i64 (-1)] from rfl) (Reps.one (show Kd.M (Kd.int .i64) _ _ _ 9 [.int .i64 9] from rfl) (Reps.one (show Kd.M (Kd.int .i64) _ _ _ 10 [.int .i64 10] from rfl) (Reps.none _ _))))); intro v444 w15 ho16 hb hg_ hnew_; clear hg_ hnew_; (first | rw [← Ny443.out] at ho16 | (simp only [Int.reduceToNat] at ho16; rw [← Ny443.out] at ho16)); have HO445 := zA (Kd.R_lower ho16 (keep_size (w := w) (g := g) (row := none) (zf2 GW429 GW439))); replace BK429 := zB BK429 hb; replace BK439 := zB BK439 hb; replace HK := zT (KeepBut.of_below hb g none) (zf2 GW429 GW439); replace HB := zS hb zz14; replace HI0 := zA (IsS102.below zz13 hb); clear hb ho16; obtain ⟨Ao17, co17, eo17⟩ := Kd.R_slice HO445.out; subst eo17) | ((with_reducible refine zg 108 ?_); refine gL (some 14) Try.func108 #[.pointer (some ⟨g, 0, none⟩), .slice Ao17 y443.length co17] ?_; (with_reducible refine (spec_l1Int.calls g s0_0 t441 t442 _ _ y443 t446 t447 t448 w0 _ ?z1 ?z2 ?z3 ?z4 ?z5 A6.out).mono ?_); (case z1 => exact zz13); (case z2 => exact zz14); (case z3 => exact ze HO445); (case z4 => exact zl HO445); (case z5 => exact far_slice (IsS102.own_ne HI0.out HO445.out (by decide))); rintro e w18 ⟨rfl, hi, hb, hk⟩; refine ⟨_, rfl, ?_⟩; replace BK429 := zV hk BK429 NB429_0; replace BK439 := zV hk BK439 NB439_0; replace HO445 := zA (Kd.R_mono (Kd.R_keep (IsS102.apart (show IsS102 w0 _ g s0_0 t441 t442 from zz13) (zr HO445) (by decide)) hk (fun _ h => h.2)) (fun _ h => h.1)); replace HK := zT hk (zf2 GW429 GW439); replace HB := zA hb; replace HI0 := zA hi; clear hb hk hi; obtain ⟨hcz19_0, hcz19_1, hcz19_2, hcz19_3, hfz19_0, hfz19_1, hfz19_2, hfz19_3⟩ := zh4 BK439; have hnb20 := NB429_0.out; have hnc20 := NB0_429.out; obtain ⟨hcz21_0, hcz21_1, hcz21_2, hcz21_3, hfz21_0, hfz21_1, hfz21_2, hfz21_3⟩ := zh4 BK429))
  refine bodyPost_ret (results_cell_row rfl _ _ gb429 30 #[.int .i64 t446, .int .i64 t434, .bool t435, .bool t436] (0, 0) _ rfl (by (with_reducible repeat (first | refine blk_drewN ?_ _ | refine blk_drew ?_ | refine blk_alloc ?_ _)); refine blk_put (cs := #[.int .i64 t446, .int .i64 t434, .bool t435, .bool false]) ?_ 3 _ rfl; (with_reducible repeat (first | refine blk_drewN ?_ _ | refine blk_drew ?_ | refine blk_alloc ?_ _)); refine blk_put (cs := #[.int .i64 t446, .int .i64 t434, .bool false, .bool false]) ?_ 2 _ rfl; (with_reducible repeat (first | refine blk_drewN ?_ _ | refine blk_drew ?_ | refine blk_alloc ?_ _)); refine blk_put (cs := #[.int .i64 t446, .int .i64 0, .bool false, .bool false]) ?_ 1 _ rfl; (with_reducible repeat (first | refine blk_drewN ?_ _ | refine blk_drew ?_ | refine blk_alloc ?_ _)); refine blk_put (cs := #[.int .i64 0, .int .i64 0, .bool false, .bool false]) ?_ 0 _ rfl; (with_reducible repeat (first | refine blk_drewN ?_ _ | refine blk_drew ?_ | refine blk_alloc ?_ _)); refine blk_far ?_ NB429_439.out _; (with_reducible repeat (first | refine blk_drewN ?_ _ | refine blk_drew ?_ | refine blk_alloc ?_ _)); exact BK429.out) Try.underlying30 rfl (by kernel_rfl)) rfl ?_
  exact ⟨zw, zz13, zz14, zf2 GW429 GW439⟩
 ·rw [if_neg c5] at H
  have c5b0 : (t440 == 0) = false := beq_eq_false_iff_ne.mpr c5
  have c5b1 : (t440 != 0) = true := bne_iff_ne.mpr c5
  by_cases c22 : t440 = 1
  ·rw [if_pos c22] at H
   have c22b0 : (t440 == 1) = true := beq_iff_eq.mpr c22
   have c22b1 : (t440 != 1) = false := bne_eq_false_iff_eq.mpr c22
   clear c22
   replace H := zI H
   obtain ⟨⟨t449, t450, t451⟩, A23, H⟩ := H
   try dsimp only at H
   simp only [Option.some.injEq, Prod.mk.injEq] at H
   obtain ⟨rfl, rfl, rfl, rfl, rfl, rfl⟩ := H
   go_enter Try.func76, Try.ntmps76
   go_wp2_with (first | ((with_reducible refine zt 2 ?_); refine zn #[.int .i64 0, .int .i64 0, .bool false, .bool false] 30 ?_; intro gb429 hg w24 hbox hb; replace HB := zS hb zz1; have BK429 := zA hbox; have GW429 := zA ((zz26 : w.heap.size ≤ gb429)); have GE429 := zA ((Nat.le_trans HW0.out (zz26 : w.heap.size ≤ gb429) : w0.heap.size ≤ gb429)); replace HK := zT (KeepBut.of_below hb g none); have NB0_429 := zA ((zz48 : g ≠ gb429)); have NB429_0 := zA ((zz49 : gb429 ≠ g)); replace HI0 := zA (IsS102.below zz0 hb); clear hb hbox hg) | ((with_reducible refine zg 107 ?_); refine gL (some 6) Try.func107 #[.pointer (some ⟨g, 0, none⟩), .int .i64 3] ?_; (with_reducible refine (spec_l1Below.calls g s0_0 s0_1 s0_2 3 t430 t431 t432 w0 _ ?z1 ?z2 A2.out).mono ?_); (case z1 => exact zz8); (case z2 => exact zz19); rintro e w25 ⟨rfl, hi, hb, hk⟩; refine ⟨_, rfl, ?_⟩; replace BK429 := zV hk BK429 NB429_0; replace HK := zT hk (zf1 GW429); replace HB := zA hb; replace HI0 := zA hi; clear hb hk hi) | ((with_reducible refine zg 106 ?_); refine gL (some 7) Try.func106 #[.pointer (some ⟨g, 0, none⟩), .int .i64 t430] ?_; (with_reducible refine (spec_l5Draw.calls g s0_0 t431 t432 t430 t433 t434 t435 t436 t437 t438 w0 _ ?z1 ?z2 A3.out).mono ?_); (case z1 => exact zz8); (case z2 => exact zz19); rintro e w26 ⟨rfl, hi, hb, hk⟩; refine ⟨_, rfl, ?_⟩; replace BK429 := zV hk BK429 NB429_0; replace HK := zT hk (zf1 GW429); replace HB := zA hb; replace HI0 := zA hi; clear hb hk hi) | ((with_reducible refine zt 3 ?_); refine zn #[.int .i64 0, .int .i64 0, .bool false, .bool false] 30 ?_; intro gb439 hg w27 hbox hb; replace HB := zS hb zz19; have BK439 := zA hbox; have GW439 := zA ((zz40 : w.heap.size ≤ gb439)); have GE439 := zA ((Nat.le_trans HW0.out (zz40 : w.heap.size ≤ gb439) : w0.heap.size ≤ gb439)); replace HK := zT (KeepBut.of_below hb g none) (zf1 GW429); have NB429_439 := zX BK429 hg; have NB439_429 := zY BK429 hg; replace BK429 := zB BK429 hb; have NB0_439 := zA ((zz54 : g ≠ gb439)); have NB439_0 := zA ((zz55 : gb439 ≠ g)); replace HI0 := zA (IsS102.below zz8 hb); clear hb hbox hg; have hnb28 := NB439_429.out; have hnc28 := NB429_439.out; have hnb29 := NB439_0.out; have hnc29 := NB0_439.out; obtain ⟨hcz30_0, hcz30_1, hcz30_2, hcz30_3, hfz30_0, hfz30_1, hfz30_2, hfz30_3⟩ := zh4 BK439) | ((with_reducible refine zg 107 ?_); refine gL (some 9) Try.func107 #[.pointer (some ⟨g, 0, none⟩), .int .i64 12] ?_; (with_reducible refine (spec_l1Below.calls g s0_0 t437 t438 12 t440 t441 t442 w0 _ ?z1 ?z2 A4.out).mono ?_); (case z1 => exact zz13); (case z2 => exact zz14); rintro e w31 ⟨rfl, hi, hb, hk⟩; refine ⟨_, rfl, ?_⟩; replace BK429 := zA (KeepBut.blk hk (g' := gb429) (o := .cells #[.int .i64 0, .int .i64 0, .bool false, .bool false] 30 (0, 0)) zz17 NB429_0.out (by simp)); replace BK439 := zA (KeepBut.blk hk (g' := gb439) (o := .cells #[.int .i64 t433, .int .i64 t434, .bool t435, .bool t436] 30 (0, 0)) zz10 NB439_0.out (by simp)); replace HK := zT hk (zf2 GW429 GW439); replace HB := zA hb; replace HI0 := zA hi; clear hb hk hi) | ((with_reducible refine zg 107 ?_); refine gL (some 19) Try.func107 #[.pointer (some ⟨g, 0, none⟩), .int .i64 6] ?_; (with_reducible refine (spec_l1Below.calls g s0_0 t441 t442 6 t449 t450 t451 w0 _ ?z1 ?z2 A23.out).mono ?_); (case z1 => exact zz13); (case z2 => exact zz14); rintro e w32 ⟨rfl, hi, hb, hk⟩; refine ⟨_, rfl, ?_⟩; replace BK429 := zV hk BK429 NB429_0; replace BK439 := zV hk BK439 NB439_0; replace HK := zT hk (zf2 GW429 GW439); replace HB := zA hb; replace HI0 := zA hi; clear hb hk hi; obtain ⟨hcz33_0, hcz33_1, hcz33_2, hcz33_3, hfz33_0, hfz33_1, hfz33_2, hfz33_3⟩ := zh4 BK439; have hnb34 := NB429_0.out; have hnc34 := NB0_429.out; obtain ⟨hcz35_0, hcz35_1, hcz35_2, hcz35_3, hfz35_0, hfz35_1, hfz35_2, hfz35_3⟩ := zh4 BK429))
   refine bodyPost_ret (results_cell_row rfl _ _ gb429 30 #[.int .i64 t433, .int .i64 t449, .bool t435, .bool t436] (0, 0) _ rfl (by (with_reducible repeat (first | refine blk_drewN ?_ _ | refine blk_drew ?_ | refine blk_alloc ?_ _)); refine blk_put (cs := #[.int .i64 t433, .int .i64 t449, .bool t435, .bool false]) ?_ 3 _ rfl; (with_reducible repeat (first | refine blk_drewN ?_ _ | refine blk_drew ?_ | refine blk_alloc ?_ _)); refine blk_put (cs := #[.int .i64 t433, .int .i64 t449, .bool false, .bool false]) ?_ 2 _ rfl; (with_reducible repeat (first | refine blk_drewN ?_ _ | refine blk_drew ?_ | refine blk_alloc ?_ _)); refine blk_put (cs := #[.int .i64 t433, .int .i64 0, .bool false, .bool false]) ?_ 1 _ rfl; (with_reducible repeat (first | refine blk_drewN ?_ _ | refine blk_drew ?_ | refine blk_alloc ?_ _)); refine blk_put (cs := #[.int .i64 0, .int .i64 0, .bool false, .bool false]) ?_ 0 _ rfl; (with_reducible repeat (first | refine blk_drewN ?_ _ | refine blk_drew ?_ | refine blk_alloc ?_ _)); refine blk_far ?_ NB429_439.out _; (with_reducible repeat (first | refine blk_drewN ?_ _ | refine blk_drew ?_ | refine blk_alloc ?_ _)); exact BK429.out) Try.underlying30 rfl (by kernel_rfl)) rfl ?_
   exact ⟨zw, zz13, zz14, zf2 GW429 GW439⟩
  ·rw [if_neg c22] at H
   have c22b0 : (t440 == 1) = false := beq_eq_false_iff_ne.mpr c22
   have c22b1 : (t440 != 1) = true := bne_iff_ne.mpr c22
   simp only [Option.some.injEq, Prod.mk.injEq] at H
   obtain ⟨rfl, rfl, rfl, rfl, rfl, rfl⟩ := H
   go_enter Try.func76, Try.ntmps76
   go_wp2_with (first | ((with_reducible refine zt 2 ?_); refine zn #[.int .i64 0, .int .i64 0, .bool false, .bool false] 30 ?_; intro gb429 hg w36 hbox hb; replace HB := zS hb zz1; have BK429 := zA hbox; have GW429 := zA ((zz26 : w.heap.size ≤ gb429)); have GE429 := zA ((Nat.le_trans HW0.out (zz26 : w.heap.size ≤ gb429) : w0.heap.size ≤ gb429)); replace HK := zT (KeepBut.of_below hb g none); have NB0_429 := zA ((zz48 : g ≠ gb429)); have NB429_0 := zA ((zz49 : gb429 ≠ g)); replace HI0 := zA (IsS102.below zz0 hb); clear hb hbox hg) | ((with_reducible refine zg 107 ?_); refine gL (some 6) Try.func107 #[.pointer (some ⟨g, 0, none⟩), .int .i64 3] ?_; (with_reducible refine (spec_l1Below.calls g s0_0 s0_1 s0_2 3 t430 t431 t432 w0 _ ?z1 ?z2 A2.out).mono ?_); (case z1 => exact zz8); (case z2 => exact zz19); rintro e w37 ⟨rfl, hi, hb, hk⟩; refine ⟨_, rfl, ?_⟩; replace BK429 := zV hk BK429 NB429_0; replace HK := zT hk (zf1 GW429); replace HB := zA hb; replace HI0 := zA hi; clear hb hk hi) | ((with_reducible refine zg 106 ?_); refine gL (some 7) Try.func106 #[.pointer (some ⟨g, 0, none⟩), .int .i64 t430] ?_; (with_reducible refine (spec_l5Draw.calls g s0_0 t431 t432 t430 t433 t434 t435 t436 t437 t438 w0 _ ?z1 ?z2 A3.out).mono ?_); (case z1 => exact zz8); (case z2 => exact zz19); rintro e w38 ⟨rfl, hi, hb, hk⟩; refine ⟨_, rfl, ?_⟩; replace BK429 := zV hk BK429 NB429_0; replace HK := zT hk (zf1 GW429); replace HB := zA hb; replace HI0 := zA hi; clear hb hk hi) | ((with_reducible refine zt 3 ?_); refine zn #[.int .i64 0, .int .i64 0, .bool false, .bool false] 30 ?_; intro gb439 hg w39 hbox hb; replace HB := zS hb zz19; have BK439 := zA hbox; have GW439 := zA ((zz40 : w.heap.size ≤ gb439)); have GE439 := zA ((Nat.le_trans HW0.out (zz40 : w.heap.size ≤ gb439) : w0.heap.size ≤ gb439)); replace HK := zT (KeepBut.of_below hb g none) (zf1 GW429); have NB429_439 := zX BK429 hg; have NB439_429 := zY BK429 hg; replace BK429 := zB BK429 hb; have NB0_439 := zA ((zz54 : g ≠ gb439)); have NB439_0 := zA ((zz55 : gb439 ≠ g)); replace HI0 := zA (IsS102.below zz8 hb); clear hb hbox hg; have hnb40 := NB439_429.out; have hnc40 := NB429_439.out; have hnb41 := NB439_0.out; have hnc41 := NB0_439.out; obtain ⟨hcz42_0, hcz42_1, hcz42_2, hcz42_3, hfz42_0, hfz42_1, hfz42_2, hfz42_3⟩ := zh4 BK439) | ((with_reducible refine zg 107 ?_); refine gL (some 9) Try.func107 #[.pointer (some ⟨g, 0, none⟩), .int .i64 12] ?_; (with_reducible refine (spec_l1Below.calls g s0_0 t437 t438 12 t440 t441 t442 w0 _ ?z1 ?z2 A4.out).mono ?_); (case z1 => exact zz13); (case z2 => exact zz14); rintro e w43 ⟨rfl, hi, hb, hk⟩; refine ⟨_, rfl, ?_⟩; replace BK429 := zA (KeepBut.blk hk (g' := gb429) (o := .cells #[.int .i64 0, .int .i64 0, .bool false, .bool false] 30 (0, 0)) zz17 NB429_0.out (by simp)); replace BK439 := zA (KeepBut.blk hk (g' := gb439) (o := .cells #[.int .i64 t433, .int .i64 t434, .bool t435, .bool t436] 30 (0, 0)) zz10 NB439_0.out (by simp)); replace HK := zT hk (zf2 GW429 GW439); replace HB := zA hb; replace HI0 := zA hi; clear hb hk hi; obtain ⟨hcz44_0, hcz44_1, hcz44_2, hcz44_3, hfz44_0, hfz44_1, hfz44_2, hfz44_3⟩ := zh4 BK439; have hnb45 := NB429_0.out; have hnc45 := NB0_429.out; obtain ⟨hcz46_0, hcz46_1, hcz46_2, hcz46_3, hfz46_0, hfz46_1, hfz46_2, hfz46_3⟩ := zh4 BK429))
   refine bodyPost_ret (results_cell_row rfl _ _ gb429 30 #[.int .i64 t433, .int .i64 t434, .bool t435, .bool t436] (0, 0) _ rfl (by (with_reducible repeat (first | refine blk_drewN ?_ _ | refine blk_drew ?_ | refine blk_alloc ?_ _)); refine blk_put (cs := #[.int .i64 t433, .int .i64 t434, .bool t435, .bool false]) ?_ 3 _ rfl; (with_reducible repeat (first | refine blk_drewN ?_ _ | refine blk_drew ?_ | refine blk_alloc ?_ _)); refine blk_put (cs := #[.int .i64 t433, .int .i64 t434, .bool false, .bool false]) ?_ 2 _ rfl; (with_reducible repeat (first | refine blk_drewN ?_ _ | refine blk_drew ?_ | refine blk_alloc ?_ _)); refine blk_put (cs := #[.int .i64 t433, .int .i64 0, .bool false, .bool false]) ?_ 1 _ rfl; (with_reducible repeat (first | refine blk_drewN ?_ _ | refine blk_drew ?_ | refine blk_alloc ?_ _)); refine blk_put (cs := #[.int .i64 0, .int .i64 0, .bool false, .bool false]) ?_ 0 _ rfl; (with_reducible repeat (first | refine blk_drewN ?_ _ | refine blk_drew ?_ | refine blk_alloc ?_ _)); exact BK429.out) Try.underlying30 rfl (by kernel_rfl)) rfl ?_
   exact ⟨zw, zz13, zz14, zf2 GW429 GW439⟩

/-! ### spec_l6Plan: function 88 -/
def spec_l6Plan.l0 : Nat → List (S30) → Int → List Int → Int → Int → Option ((List (S30)) × Int × Int)
  | 0, _, _, _, _, _ => none
  | k + 1, x3, x4, x1000, x1001, x1002 => if x4 > 0 then ((spec_l1Below.f x1000 x1001 x1002 4).bind fun bt458 => ((spec_l5Draw.f x1000 bt458.2.1 bt458.2.2 bt458.1).bind fun bt461 => (if x3.length < 5864062014805 then (spec_l6Plan.l0 k (x3 ++ [(⟨bt461.1, bt461.2.1, bt461.2.2.1, bt461.2.2.2.1⟩ : S30)]) (wrap64 (x4 - 1)) x1000 bt461.2.2.2.2.1 bt461.2.2.2.2.2) else (none)))) else (some (x3, x1001, x1002))
def spec_l6Plan.f (k : Nat) (s0_0 : List Int) (s0_1 : Int) (s0_2 : Int) : Option ((List (S30)) × Int × Int) := (spec_l1Below.f s0_0 s0_1 s0_2 3).bind fun bt455 => (spec_l6Plan.l0 k (([] : List (S30))) (wrap64 (1 + bt455.1)) s0_0 bt455.2.1 bt455.2.2)
theorem spec_l6Plan.mono_l : ∀ k, (∀ y0 y1 y2 y3 y4, LeO (spec_l6Plan.l0 k y0 y1 y2 y3 y4) (spec_l6Plan.l0 (k + 1) y0 y1 y2 y3 y4))
  | 0 => fun _ _ _ _ _ r h => by simp [spec_l6Plan.l0] at h
  | k + 1 => by
    have ih0 := spec_l6Plan.mono_l k
    · intro y0 y1 y2 y3 y4
      unfold spec_l6Plan.l0
      repeat' first
      | (with_reducible exact ih0 _ _ _ _ _)
      | (with_reducible exact LeO.refl _)
      | (with_reducible exact LeO.none _)
      | (with_reducible refine LeO.ite ?_ ?_)
      | (with_reducible refine LeO.bind ?_ (fun _ => ?_))
      | exact ih0 _ _ _ _ _
      | exact LeO.none _
      | refine LeO.ite ?_ ?_
      | refine LeO.bind ?_ (fun _ => ?_)
theorem spec_l6Plan.mono : ∀ a0 a1 a2 k, LeO (spec_l6Plan.f k a0 a1 a2) (spec_l6Plan.f (k + 1) a0 a1 a2) := by
  intro a0 a1 a2 k
  have ih0 := spec_l6Plan.mono_l k
  unfold spec_l6Plan.f
  repeat' first
      | (with_reducible exact ih0 _ _ _ _ _)
      | (with_reducible exact LeO.refl _)
      | (with_reducible exact LeO.none _)
      | (with_reducible refine LeO.ite ?_ ?_)
      | (with_reducible refine LeO.bind ?_ (fun _ => ?_))
      | exact ih0 _ _ _ _ _
      | exact LeO.none _
      | refine LeO.ite ?_ ?_
      | refine LeO.bind ?_ (fun _ => ?_)
set_option maxHeartbeats 8000000 in
set_option maxRecDepth 100000 in
theorem spec_l6Plan.calls (k : Nat) (g : Nat) (s0_0 : List Int) (s0_1 : Int) (s0_2 : Int) (r1 : List (S30)) (r2 : Int) (r3 : Int) (w0 w : World) (hI : IsS102 w0 w g s0_0 s0_1 s0_2) (hB : Below w0.heap.size w0 w) (h : spec_l6Plan.f k s0_0 s0_1 s0_2 = some (r1, r2, r3)) :
  Calls Try.prog 88 #[.pointer (some ⟨g, 0, none⟩)] w fun e w' => ∃ v0_ : Value, e = .returned (v0_) ∧ Kd.R k30 30 w' w.heap.size (fun _ => True) v0_ r1 ∧ IsS102 w0 w' g s0_0 r2 r3 ∧ Below w0.heap.size w0 w' ∧ KeepBut w w' g none := by
 have HI0 := zA hI
 have HK := zA (KeepBut.refl w g none)
 have HL := zA hB.size
 clear hI
 have HW0 := zA hB.size
 have HB := zA hB
 clear hB
 have H : ((spec_l1Below.f s0_0 s0_1 s0_2 3).bind fun bt455 => (spec_l6Plan.l0 k (([] : List (S30))) (wrap64 (1 + bt455.1)) s0_0 bt455.2.1 bt455.2.2)) = some (r1, r2, r3) := h
 clear h
 obtain ⟨y452, hy452⟩ : ∃ y_ : List (S30), y_ = (([] : List (S30))) := ⟨_, rfl⟩
 replace H : ((spec_l1Below.f s0_0 s0_1 s0_2 3).bind fun bt455 => (spec_l6Plan.l0 k y452 (wrap64 (1 + bt455.1)) s0_0 bt455.2.1 bt455.2.2)) = some (r1, r2, r3) := by first | (rw [hy452]; with_reducible exact H) | (have H2_ := (Option.bind_some _ _).symm.trans H; rw [hy452]; with_reducible exact H2_) | (have H2_ := (Option.bind_some _ _).symm.trans H; with_reducible exact H2_) | with_reducible exact H | (rw [hy452]; exact H) | exact H
 have Ny452 := zA hy452
 clear hy452
 replace H := zI H
 obtain ⟨⟨t455, t456, t457⟩, A2, H⟩ := H
 try dsimp only at H
 have H' := zA H
 clear H
 go_enter Try.func88, Try.ntmps88
 go_wp2_with (first | ((with_reducible refine zt 5 ?_); refine Kd.R_lit k30 _ 30 ?hg (N := 5) ?hd (xs := ([] : List (S30))) (inner := []) (ok := fun _ => True) (okp := fun _ => True) ?hr ?hp (fun _ hk => hk) trivial (Below.refl _ _) (Nat.le_refl _) (by simp) ?_; (case hd => rfl); (case hg => rfl); (case hr => exact zz25); (case hp => exact (Reps.none _ _)); intro v453 w3 ho4 hb hg_ hnew_; clear hg_ hnew_; (first | rw [← Ny452.out] at ho4 | (simp only [Int.reduceToNat] at ho4; rw [← Ny452.out] at ho4)); have HO454 := zA (Kd.R_lower ho4 (keep_size (w := w) (g := g) (row := none) zf)); replace HK := zT (KeepBut.of_below hb g none); replace HB := zS hb zz1; replace HI0 := zA (IsS102.below zz0 hb); clear hb ho4) | ((with_reducible refine zg 107 ?_); refine gL (some 7) Try.func107 #[.pointer (some ⟨g, 0, none⟩), .int .i64 3] ?_; (with_reducible refine (spec_l1Below.calls g s0_0 s0_1 s0_2 3 t455 t456 t457 w0 _ ?z1 ?z2 A2.out).mono ?_); (case z1 => exact zz0); (case z2 => exact zz1); rintro e w5 ⟨rfl, hi, hb, hk⟩; refine ⟨_, rfl, ?_⟩; replace HO454 := zA (Kd.R_mono (Kd.R_keep (IsS102.apart (show IsS102 w0 _ g s0_0 s0_1 s0_2 from zz0) (zr HO454) (by decide)) hk (fun _ h => h.2)) (fun _ h => h.1)); replace HK := zT hk; replace HB := zA hb; replace HI0 := zA hi; clear hb hk hi))
 go_loopg [3, 4] k (fun kq v3 v4 w' => ∃ (x3_1 : List (S30)) (x4_1 : Int) (x1001_1 : Int) (x1002_1 : Int), v4 = .int .i64 x4_1 ∧ Aside0 (spec_l6Plan.l0 kq x3_1 x4_1 s0_0 x1001_1 x1002_1 = some (r1, r2, r3)) ∧ Aside0 (kq ≤ k) ∧ Aside0 (Kd.R k30 30 w' w.heap.size (fun _ => True) v3 x3_1) ∧ Aside0 (IsS102 w0 w' g s0_0 x1001_1 x1002_1) ∧ Aside0 (KeepBut w w' g none) ∧ Aside0 (Below w0.heap.size w0 w'))
 case atStart => exact ⟨(y452), (wrap64 (1 + t455)), (t456), (t457), zx, H', ⟨Nat.le_refl _⟩, ⟨zr HO454⟩, ⟨zz0⟩, ⟨zf⟩, ⟨zz1⟩⟩
 case round =>
  clear H'
  obtain ⟨x3_1, x4_1, x1001_1, x1002_1, rfl, HA, HK1, HO_3, HI0, HK, HB⟩ := hrel
  cases gk with
  | zero => exact absurd HA.out (by simp [spec_l6Plan.l0])
  | succ k1 =>
   have H := HA.out
   clear HA
   simp only [spec_l6Plan.l0] at H
   by_cases c6 : x4_1 > 0
   ·rw [if_pos c6] at H
    have c6b0 : decide (0 < x4_1) = true := decide_eq_true c6
    clear c6
    replace H := zI H
    obtain ⟨⟨t458, t459, t460⟩, A7, H⟩ := H
    try dsimp only at H
    replace H := zI H
    obtain ⟨⟨t461, t462, t463, t464, t465, t466⟩, A8, H⟩ := H
    try dsimp only at H
    by_cases c9 : x3_1.length < 5864062014805
    ·rw [if_pos c9] at H
     have LMc9 := zA c9
     clear c9
     obtain ⟨y467, hy467⟩ : ∃ y_ : List (S30), y_ = (x3_1 ++ [(⟨t461, t462, t463, t464⟩ : S30)]) := ⟨_, rfl⟩
     replace H : (spec_l6Plan.l0 k1 y467 (wrap64 (x4_1 - 1)) s0_0 t465 t466) = some (r1, r2, r3) := by first | (rw [hy467]; with_reducible exact H) | (have H2_ := (Option.bind_some _ _).symm.trans H; rw [hy467]; with_reducible exact H2_) | (have H2_ := (Option.bind_some _ _).symm.trans H; with_reducible exact H2_) | with_reducible exact H | (rw [hy467]; exact H) | exact H
     have Ny467 := zA hy467
     clear hy467
     have H' := zA H
     clear H
     go_wp2_with (first | ((with_reducible refine zg 107 ?_); refine gL (some 16) Try.func107 #[.pointer (some ⟨g, 0, none⟩), .int .i64 4] ?_; (with_reducible refine (spec_l1Below.calls g s0_0 x1001_1 x1002_1 4 t458 t459 t460 w0 _ ?z1 ?z2 A7.out).mono ?_); (case z1 => exact zz0); (case z2 => exact zz1); rintro e w10 ⟨rfl, hi, hb, hk⟩; refine ⟨_, rfl, ?_⟩; replace HO_3 := zA (Kd.R_mono (Kd.R_keep (IsS102.apart (show IsS102 w0 _ g s0_0 x1001_1 x1002_1 from zz0) (zr HO_3) (by decide)) hk (fun _ h => h.2)) (fun _ h => h.1)); replace HK := zT hk; replace HB := zA hb; replace HI0 := zA hi; clear hb hk hi) | ((with_reducible refine zg 106 ?_); refine gL (some 17) Try.func106 #[.pointer (some ⟨g, 0, none⟩), .int .i64 t458] ?_; (with_reducible refine (spec_l5Draw.calls g s0_0 t459 t460 t458 t461 t462 t463 t464 t465 t466 w0 _ ?z1 ?z2 A8.out).mono ?_); (case z1 => exact zz0); (case z2 => exact zz1); rintro e w11 ⟨rfl, hi, hb, hk⟩; refine ⟨_, rfl, ?_⟩; replace HO_3 := zA (Kd.R_mono (Kd.R_keep (IsS102.apart (show IsS102 w0 _ g s0_0 t459 t460 from zz0) (zr HO_3) (by decide)) hk (fun _ h => h.2)) (fun _ h => h.1)); replace HK := zT hk; replace HB := zA hb; replace HI0 := zA hi; clear hb hk hi) | ((with_reducible refine gate_builtin (b := .append) (xs := #[.tmp 13, .tmp 18]) rfl ?_); at_builtin; refine Kd.R_append k30 w.heap.size rfl (.tmp 13) (.tmp 18) 56 30 (.agg #[(.int .i64 0), (.int .i64 0), (.bool false), (.bool false)]) 24 rfl Try.underlying56 info30 rfl (by decide) (by omega) u3 x3_1 (⟨t461, t462, t463, t464⟩ : S30) [.int .i64 t461, .int .i64 t462, .bool t463, .bool t464] (fun _ => True) (fun _ => False) rfl rfl ?aP (fun _ hk => hk.elim) ?aF ?aO (Below.refl _ _) ?aS ?aL ?_; (case aP => exact k30_mkM _ _ _ (⟨t461, t462, t463, t464⟩ : S30)); (case aF => exact (fun _ _ => trivial)); (case aO => exact (zr HO_3)); (case aS => exact (keep_size (w := w) (g := g) (row := none) zf)); (case aL => have := LMc9.out; omega); intro v468 w12 ho hb hg hat; rw [← Ny467.out] at ho; replace HB := zA (below_weaken zz1 HL.out hb); replace HI0 := zA (IsS102.grown zz0 hg (IsS102.own_ne HI0.out HO_3.out (by decide))); replace HK := zA (KeepBut.trans zf (KeepBut.of_grown hg g) (Kd.R_base2 HO_3.out)); have HO469 := zA ho; clear HO_3 ho hb hg hat))
     go_roundg k1
     case measure => have := HK1.out; omega
     case rel => exact ⟨(y467), (wrap64 (x4_1 - 1)), (t465), (t466), zx, H', ⟨zz41⟩, ⟨zr HO469⟩, ⟨zz0⟩, ⟨zf⟩, ⟨zz1⟩⟩
    ·rw [if_neg c9] at H
     exact absurd H (by simp)
   ·rw [if_neg c6] at H
    have c6b0 : decide (0 < x4_1) = false := decide_eq_false c6
    clear c6
    simp only [Option.some.injEq, Prod.mk.injEq] at H
    obtain ⟨rfl, rfl, rfl⟩ := H
    go_wp2
    go_ret
    exact ⟨_, zw, zr HO_3, zz0, zz1, zf⟩

/-! ### spec_l6Any: function 90 -/
def spec_l6Any.l0 : Nat → List (S30) → List Int → Int → Int → Option ((List (S30)) × Int × Int)
  | 0, _, _, _, _ => none
  | k + 1, x3, x1000, x1001, x1002 => (spec_l1Below.f x1000 x1001 x1002 2).bind fun bt485 => (if (x3.length : Int) < (wrap64 (6 + bt485.1)) then ((spec_l5Draw.f x1000 bt485.2.1 bt485.2.2 0).bind fun bt488 => (if x3.length < 5864062014805 then (spec_l6Any.l0 k (x3 ++ [(⟨bt488.1, bt488.2.1, bt488.2.2.1, bt488.2.2.2.1⟩ : S30)]) x1000 bt488.2.2.2.2.1 bt488.2.2.2.2.2) else (none))) else (some (x3, bt485.2.1, bt485.2.2)))
def spec_l6Any.f (k : Nat) (s0_0 : List Int) (s0_1 : Int) (s0_2 : Int) : Option ((List (S30)) × Int × Int) := (spec_l6Plan.f k s0_0 s0_1 s0_2).bind fun bt470 => ((spec_l1Below.f s0_0 bt470.2.1 bt470.2.2 12).bind fun bt475 => (if bt475.1 = 0 then ((spec_l5Any.f s0_0 bt475.2.1 bt475.2.2).bind fun bt478 => (if 0 < (bt470.1.length : Int) then (some ((bt470.1.set (0 : Int).toNat (⟨bt478.1, bt478.2.1, bt478.2.2.1, bt478.2.2.2.1⟩ : S30)), bt478.2.2.2.2.1, bt478.2.2.2.2.2)) else (none))) else (if bt475.1 = 1 then (spec_l6Any.l0 k bt470.1 s0_0 bt475.2.1 bt475.2.2) else (some (bt470.1, bt475.2.1, bt475.2.2)))))
theorem spec_l6Any.mono_l : ∀ k, (∀ y0 y1 y2 y3, LeO (spec_l6Any.l0 k y0 y1 y2 y3) (spec_l6Any.l0 (k + 1) y0 y1 y2 y3))
  | 0 => fun _ _ _ _ r h => by simp [spec_l6Any.l0] at h
  | k + 1 => by
    have ih0 := spec_l6Any.mono_l k
    · intro y0 y1 y2 y3
      unfold spec_l6Any.l0
      repeat' first
      | (with_reducible exact ih0 _ _ _ _)
      | (with_reducible exact spec_l6Plan.mono _ _ _ _)
      | (with_reducible exact LeO.refl _)
      | (with_reducible exact LeO.none _)
      | (with_reducible refine LeO.ite ?_ ?_)
      | (with_reducible refine LeO.bind ?_ (fun _ => ?_))
      | exact ih0 _ _ _ _
      | exact spec_l6Plan.mono _ _ _ _
      | exact LeO.none _
      | refine LeO.ite ?_ ?_
      | refine LeO.bind ?_ (fun _ => ?_)
theorem spec_l6Any.mono : ∀ a0 a1 a2 k, LeO (spec_l6Any.f k a0 a1 a2) (spec_l6Any.f (k + 1) a0 a1 a2) := by
  intro a0 a1 a2 k
  have ih0 := spec_l6Any.mono_l k
  unfold spec_l6Any.f
  repeat' first
      | (with_reducible exact ih0 _ _ _ _)
      | (with_reducible exact spec_l6Plan.mono _ _ _ _)
      | (with_reducible exact LeO.refl _)
      | (with_reducible exact LeO.none _)
      | (with_reducible refine LeO.ite ?_ ?_)
      | (with_reducible refine LeO.bind ?_ (fun _ => ?_))
      | exact ih0 _ _ _ _
      | exact spec_l6Plan.mono _ _ _ _
      | exact LeO.none _
      | refine LeO.ite ?_ ?_
      | refine LeO.bind ?_ (fun _ => ?_)
set_option maxHeartbeats 8000000 in
set_option maxRecDepth 100000 in
theorem spec_l6Any.calls (k : Nat) (g : Nat) (s0_0 : List Int) (s0_1 : Int) (s0_2 : Int) (r1 : List (S30)) (r2 : Int) (r3 : Int) (w0 w : World) (hI : IsS102 w0 w g s0_0 s0_1 s0_2) (hB : Below w0.heap.size w0 w) (h : spec_l6Any.f k s0_0 s0_1 s0_2 = some (r1, r2, r3)) :
  Calls Try.prog 90 #[.pointer (some ⟨g, 0, none⟩)] w fun e w' => ∃ v0_ : Value, e = .returned (v0_) ∧ Kd.R k30 30 w' w.heap.size (fun _ => True) v0_ r1 ∧ IsS102 w0 w' g s0_0 r2 r3 ∧ Below w0.heap.size w0 w' ∧ KeepBut w w' g none := by
 have hu30 := Try.underlying30
 have HI0 := zA hI
 have HK := zA (KeepBut.refl w g none)
 have HL := zA hB.size
 clear hI
 have HW0 := zA hB.size
 have HB := zA hB
 clear hB
 have H : ((spec_l6Plan.f k s0_0 s0_1 s0_2).bind fun bt470 => ((spec_l1Below.f s0_0 bt470.2.1 bt470.2.2 12).bind fun bt475 => (if bt475.1 = 0 then ((spec_l5Any.f s0_0 bt475.2.1 bt475.2.2).bind fun bt478 => (if 0 < (bt470.1.length : Int) then (some ((bt470.1.set (0 : Int).toNat (⟨bt478.1, bt478.2.1, bt478.2.2.1, bt478.2.2.2.1⟩ : S30)), bt478.2.2.2.2.1, bt478.2.2.2.2.2)) else (none))) else (if bt475.1 = 1 then (spec_l6Any.l0 k bt470.1 s0_0 bt475.2.1 bt475.2.2) else (some (bt470.1, bt475.2.1, bt475.2.2)))))) = some (r1, r2, r3) := h
 clear h
 replace H := zI H
 obtain ⟨⟨t470, t473, t474⟩, A2, H⟩ := H
 try dsimp only at H
 replace H := zI H
 obtain ⟨⟨t475, t476, t477⟩, A3, H⟩ := H
 try dsimp only at H
 by_cases c4 : t475 = 0
 ·rw [if_pos c4] at H
  have c4b0 : (t475 == 0) = true := beq_iff_eq.mpr c4
  have c4b1 : (t475 != 0) = false := bne_eq_false_iff_eq.mpr c4
  clear c4
  replace H := zI H
  obtain ⟨⟨t478, t479, t480, t481, t482, t483⟩, A5, H⟩ := H
  try dsimp only at H
  by_cases c6 : 0 < (t470.length : Int)
  ·rw [if_pos c6] at H
   have c6b0 : decide (0 < (t470.length : Int)) = true := decide_eq_true c6
   have c6b1 : decide (0 < t470.length) = true := decide_eq_true (by omega)
   clear c6
   obtain ⟨y484, hy484⟩ : ∃ y_ : List (S30), y_ = (t470.set (0 : Int).toNat (⟨t478, t479, t480, t481⟩ : S30)) := ⟨_, rfl⟩
   replace H : (some (y484, t482, t483)) = some (r1, r2, r3) := by first | (rw [hy484]; with_reducible exact H) | (have H2_ := (Option.bind_some _ _).symm.trans H; rw [hy484]; with_reducible exact H2_) | (have H2_ := (Option.bind_some _ _).symm.trans H; with_reducible exact H2_) | with_reducible exact H | (rw [hy484]; exact H) | exact H
   have Ny484 := zA hy484
   clear hy484
   simp only [Option.some.injEq, Prod.mk.injEq] at H
   obtain ⟨rfl, rfl, rfl⟩ := H
   go_enter Try.func90, Try.ntmps90
   go_wp2_with (first | ((with_reducible refine zg 88 ?_); refine gL (some 5) Try.func88 #[.pointer (some ⟨g, 0, none⟩)] ?_; (with_reducible refine (spec_l6Plan.calls k g s0_0 s0_1 s0_2 t470 t473 t474 w0 _ ?z1 ?z2 A2.out).mono ?_); (case z1 => exact zz0); (case z2 => exact zz1); rintro e w8 ⟨v471, rfl, ho0, hi, hb, hk⟩; refine ⟨_, rfl, ?_⟩; have HO472 := zA (Kd.R_lower ho0 (keep_size (w := w) (g := g) (row := none) zf)); replace HK := zT hk; replace HB := zA hb; replace HI0 := zA hi; clear hb hk hi ho0) | ((with_reducible refine zg 107 ?_); refine gL (some 7) Try.func107 #[.pointer (some ⟨g, 0, none⟩), .int .i64 12] ?_; (with_reducible refine (spec_l1Below.calls g s0_0 t473 t474 12 t475 t476 t477 w0 _ ?z1 ?z2 A3.out).mono ?_); (case z1 => exact zz0); (case z2 => exact zz1); rintro e w9 ⟨rfl, hi, hb, hk⟩; refine ⟨_, rfl, ?_⟩; replace HO472 := zA (Kd.R_mono (Kd.R_keep (IsS102.apart (show IsS102 w0 _ g s0_0 t473 t474 from zz0) (zr HO472) (by decide)) hk (fun _ h => h.2)) (fun _ h => h.1)); replace HK := zT hk; replace HB := zA hb; replace HI0 := zA hi; clear hb hk hi) | ((with_reducible refine zg 76 ?_); refine gL (some 12) Try.func76 #[.pointer (some ⟨g, 0, none⟩)] ?_; (with_reducible refine (spec_l5Any.calls g s0_0 t476 t477 t478 t479 t480 t481 t482 t483 w0 _ ?z1 ?z2 A5.out).mono ?_); (case z1 => exact zz0); (case z2 => exact zz1); rintro e w10 ⟨rfl, hi, hb, hk⟩; refine ⟨_, rfl, ?_⟩; replace HO472 := zA (Kd.R_mono (Kd.R_keep (IsS102.apart (show IsS102 w0 _ g s0_0 t476 t477 from zz0) (zr HO472) (by decide)) hk (fun _ h => h.2)) (fun _ h => h.1)); replace HK := zT hk; replace HB := zA hb; replace HI0 := zA hi; clear hb hk hi; have p7 : 0 ≤ (0 : Int) := (by omega); have q7 : (0 : Int) < ((t470.length : Int) : Int) := of_decide_eq_true za; have qi7 : (0 < t470.length) = True := eq_true (by omega); obtain ⟨go7, co7, eo7, gb7, gl7, cl7, HG7⟩ := Kd.R_form HO472.out (by omega); (first | cases eo7 | (injection eo7 with ea_ en_ ec_; (first | subst ea_ | (injection ea_ with ea_; subst ea_)); subst ec_; clear en_)); have GB7 := zA gb7; have GG7 := zA HG7; clear gb7 gl7 HG7; obtain ⟨ce7, hcl7, hM7, hcc7, hfr7⟩ := Kd.R_elem HO472.out z30 (0 : Int) p7 q7; obtain rfl := k30_openM hM7; have hx7_0 : w10.cell? ⟨go7, (0 : Int).toNat * 4, none⟩ = some (.int .i64 ((rd_T30 t470 0).f0)) := hcc7 0 _ rfl; have hx7_1 : w10.cell? ⟨go7, (0 : Int).toNat * 4 + 1, none⟩ = some (.int .i64 ((rd_T30 t470 0).f1)) := hcc7 1 _ rfl; have hx7_2 : w10.cell? ⟨go7, (0 : Int).toNat * 4 + 2, none⟩ = some (.bool ((rd_T30 t470 0).f2)) := hcc7 2 _ rfl; have hx7_3 : w10.cell? ⟨go7, (0 : Int).toNat * 4 + 3, none⟩ = some (.bool ((rd_T30 t470 0).f3)) := hcc7 3 _ rfl; have hf7_0 : w10.frozen? ⟨go7, (0 : Int).toNat * 4, none⟩ = false := hfr7 0; have hf7_1 : w10.frozen? ⟨go7, (0 : Int).toNat * 4 + 1, none⟩ = false := hfr7 1; have hf7_2 : w10.frozen? ⟨go7, (0 : Int).toNat * 4 + 2, none⟩ = false := hfr7 2; have hf7_3 : w10.frozen? ⟨go7, (0 : Int).toNat * 4 + 3, none⟩ = false := hfr7 3; clear hcl7 hcc7 hfr7 hM7; (try rw [show ((0 : Int)).toNat = 0 from rfl] at hx7_0); (try simp only [Nat.reduceMul, Nat.zero_mul, Nat.zero_add, Nat.reduceAdd] at hx7_0); (try rw [show ((0 : Int)).toNat = 0 from rfl] at hf7_0); (try simp only [Nat.reduceMul, Nat.zero_mul, Nat.zero_add, Nat.reduceAdd] at hf7_0); (try rw [show ((0 : Int)).toNat = 0 from rfl] at hx7_1); (try simp only [Nat.reduceMul, Nat.zero_mul, Nat.zero_add, Nat.reduceAdd] at hx7_1); (try rw [show ((0 : Int)).toNat = 0 from rfl] at hf7_1); (try simp only [Nat.reduceMul, Nat.zero_mul, Nat.zero_add, Nat.reduceAdd] at hf7_1); (try rw [show ((0 : Int)).toNat = 0 from rfl] at hx7_2); (try simp only [Nat.reduceMul, Nat.zero_mul, Nat.zero_add, Nat.reduceAdd] at hx7_2); (try rw [show ((0 : Int)).toNat = 0 from rfl] at hf7_2); (try simp only [Nat.reduceMul, Nat.zero_mul, Nat.zero_add, Nat.reduceAdd] at hf7_2); (try rw [show ((0 : Int)).toNat = 0 from rfl] at hx7_3); (try simp only [Nat.reduceMul, Nat.zero_mul, Nat.zero_add, Nat.reduceAdd] at hx7_3); (try rw [show ((0 : Int)).toNat = 0 from rfl] at hf7_3); (try simp only [Nat.reduceMul, Nat.zero_mul, Nat.zero_add, Nat.reduceAdd] at hf7_3); replace p7 := eq_true p7; replace q7 := eq_true q7; have HX11 := zA (show Kd.R k30 30 w10 w.heap.size (fun _ => True) (.slice (some ⟨go7, 0, none⟩) t470.length co7) t470 from (zr HO472)); obtain ⟨ce11, hcl11, hM11, hcc11, hfr11⟩ := Kd.R_elem HX11.out z30 (0 : Int) (by omega) (by have h_ : (0 : Int) < ((t470.length : Int) : Int) := of_decide_eq_true za; first | exact h_ | (have e_ := (Kd.R_reads' HO472.out).1; omega) | simpa using h_); obtain rfl := k30_openM hM11; have HP11 := Kd.R_seg HX11.out (0 : Int) (by omega) (by have h_ : (0 : Int) < ((t470.length : Int) : Int) := of_decide_eq_true za; first | exact h_ | (have e_ := (Kd.R_reads' HO472.out).1; omega) | simpa using h_) (seg := [.int .i64 t478, .int .i64 t479, .bool t480, .bool t481]) (j := 0) hcl11 hcc11 (show 4 ≤ 4 from by decide) (x' := (⟨t478, t479, t480, t481⟩ : S30)) (k30_mkM _ _ _ (⟨t478, t479, t480, t481⟩ : S30) ) (fun _ hk => hk); have hx11_0 := hcc11 0 _ rfl; (try simp only [show (k30).sz = 4 from rfl, Nat.mul_one, Nat.add_zero] at hx11_0); (try rw [show ((0 : Int)).toNat = 0 from rfl] at hx11_0); (try simp only [Nat.reduceMul, Nat.zero_mul, Nat.zero_add, Nat.reduceAdd] at hx11_0); have hf11_0 := hfr11 0; (try simp only [show (k30).sz = 4 from rfl, Nat.mul_one, Nat.add_zero] at hf11_0); (try rw [show ((0 : Int)).toNat = 0 from rfl] at hf11_0); (try simp only [Nat.reduceMul, Nat.zero_mul, Nat.zero_add, Nat.reduceAdd] at hf11_0); have hx11_1 := hcc11 1 _ rfl; (try simp only [show (k30).sz = 4 from rfl, Nat.mul_one, Nat.add_zero] at hx11_1); (try rw [show ((0 : Int)).toNat = 0 from rfl] at hx11_1); (try simp only [Nat.reduceMul, Nat.zero_mul, Nat.zero_add, Nat.reduceAdd] at hx11_1); have hf11_1 := hfr11 1; (try simp only [show (k30).sz = 4 from rfl, Nat.mul_one, Nat.add_zero] at hf11_1); (try rw [show ((0 : Int)).toNat = 0 from rfl] at hf11_1); (try simp only [Nat.reduceMul, Nat.zero_mul, Nat.zero_add, Nat.reduceAdd] at hf11_1); have hx11_2 := hcc11 2 _ rfl; (try simp only [show (k30).sz = 4 from rfl, Nat.mul_one, Nat.add_zero] at hx11_2); (try rw [show ((0 : Int)).toNat = 0 from rfl] at hx11_2); (try simp only [Nat.reduceMul, Nat.zero_mul, Nat.zero_add, Nat.reduceAdd] at hx11_2); have hf11_2 := hfr11 2; (try simp only [show (k30).sz = 4 from rfl, Nat.mul_one, Nat.add_zero] at hf11_2); (try rw [show ((0 : Int)).toNat = 0 from rfl] at hf11_2); (try simp only [Nat.reduceMul, Nat.zero_mul, Nat.zero_add, Nat.reduceAdd] at hf11_2); have hx11_3 := hcc11 3 _ rfl; (try simp only [show (k30).sz = 4 from rfl, Nat.mul_one, Nat.add_zero] at hx11_3); (try rw [show ((0 : Int)).toNat = 0 from rfl] at hx11_3); (try simp only [Nat.reduceMul, Nat.zero_mul, Nat.zero_add, Nat.reduceAdd] at hx11_3); have hf11_3 := hfr11 3; (try simp only [show (k30).sz = 4 from rfl, Nat.mul_one, Nat.add_zero] at hf11_3); (try rw [show ((0 : Int)).toNat = 0 from rfl] at hf11_3); (try simp only [Nat.reduceMul, Nat.zero_mul, Nat.zero_add, Nat.reduceAdd] at hf11_3); clear hcl11 hcc11 hfr11 hM11) | ((with_reducible refine gate_store (t := 30) (p := 13) rfl ?_); refine store_event (t := 30) (p := 13) (v := ?vo_w12) (w1 := ((((w10.setCell ⟨go7, 0, none⟩ (.int .i64 t478)).setCell ⟨go7, 1, none⟩ (.int .i64 t479)).setCell ⟨go7, 2, none⟩ (.bool t480)).setCell ⟨go7, 3, none⟩ (.bool t481))) ?hg ?ho ?hn ?hr ?_; (case ho => rfl); (case hg => rfl); (case hn => rfl); (case hr => exact zz25); intro w12 hw; have hg : w10.grownBy w12 (some go7) := (by rw [hw]; exact HP11.2); have hp_ : Kd.R k30 30 w12 w.heap.size (fun _ => True) (.slice (some ⟨go7, 0, none⟩) t470.length co7) y484 := (by rw [hw, Ny484.out]; exact HP11.1); clear HP11; replace HI0 := zA (IsS102.grown zz0 hg (IsS102.own_ne HI0.out HO472.out (by decide))); replace HB := zA ((by rw [hw]; exact below_set (below_set (below_set (below_set (HB.out) (Nat.le_trans HL.out GB7.out)) (Nat.le_trans HL.out GB7.out)) (Nat.le_trans HL.out GB7.out)) (Nat.le_trans HL.out GB7.out) : Below w0.heap.size w0 w12)); replace HK := zA (KeepBut.trans zf (KeepBut.of_grown hg g) (Kd.R_base2 HO472.out)); replace HO472 := zA hp_; clear hg hw hp_))
   go_ret
   exact ⟨_, zw, zr HO472, zz0, zz1, zf⟩
  ·rw [if_neg c6] at H
   exact absurd H (by simp)
 ·rw [if_neg c4] at H
  have c4b0 : (t475 == 0) = false := beq_eq_false_iff_ne.mpr c4
  have c4b1 : (t475 != 0) = true := bne_iff_ne.mpr c4
  by_cases c13 : t475 = 1
  ·rw [if_pos c13] at H
   have c13b0 : (t475 == 1) = true := beq_iff_eq.mpr c13
   have c13b1 : (t475 != 1) = false := bne_eq_false_iff_eq.mpr c13
   clear c13
   have H' := zA H
   clear H
   go_enter Try.func90, Try.ntmps90
   go_wp2_with (first | ((with_reducible refine zg 88 ?_); refine gL (some 5) Try.func88 #[.pointer (some ⟨g, 0, none⟩)] ?_; (with_reducible refine (spec_l6Plan.calls k g s0_0 s0_1 s0_2 t470 t473 t474 w0 _ ?z1 ?z2 A2.out).mono ?_); (case z1 => exact zz0); (case z2 => exact zz1); rintro e w14 ⟨v471, rfl, ho0, hi, hb, hk⟩; refine ⟨_, rfl, ?_⟩; have HO472 := zA (Kd.R_lower ho0 (keep_size (w := w) (g := g) (row := none) zf)); replace HK := zT hk; replace HB := zA hb; replace HI0 := zA hi; clear hb hk hi ho0) | ((with_reducible refine zg 107 ?_); refine gL (some 7) Try.func107 #[.pointer (some ⟨g, 0, none⟩), .int .i64 12] ?_; (with_reducible refine (spec_l1Below.calls g s0_0 t473 t474 12 t475 t476 t477 w0 _ ?z1 ?z2 A3.out).mono ?_); (case z1 => exact zz0); (case z2 => exact zz1); rintro e w15 ⟨rfl, hi, hb, hk⟩; refine ⟨_, rfl, ?_⟩; replace HO472 := zA (Kd.R_mono (Kd.R_keep (IsS102.apart (show IsS102 w0 _ g s0_0 t473 t474 from zz0) (zr HO472) (by decide)) hk (fun _ h => h.2)) (fun _ h => h.1)); replace HK := zT hk; replace HB := zA hb; replace HI0 := zA hi; clear hb hk hi))
   go_loopg [3] k (fun kq v3 w' => ∃ (x3_1 : List (S30)) (x1001_1 : Int) (x1002_1 : Int), Aside0 (spec_l6Any.l0 kq x3_1 s0_0 x1001_1 x1002_1 = some (r1, r2, r3)) ∧ Aside0 (kq ≤ k) ∧ Aside0 (Kd.R k30 30 w' w.heap.size (fun _ => True) v3 x3_1) ∧ Aside0 (IsS102 w0 w' g s0_0 x1001_1 x1002_1) ∧ Aside0 (KeepBut w w' g none) ∧ Aside0 (Below w0.heap.size w0 w'))
   case atStart => exact ⟨(t470), (t476), (t477), H', ⟨Nat.le_refl _⟩, ⟨zr HO472⟩, ⟨zz0⟩, ⟨zf⟩, ⟨zz1⟩⟩
   case round =>
    clear H'
    try clear c4; try clear c4b0; try clear c4b1; try clear c13; try clear c13b0; try clear c13b1
    obtain ⟨x3_1, x1001_1, x1002_1, HA, HK1, HO_3, HI0, HK, HB⟩ := hrel
    cases gk with
    | zero => exact absurd HA.out (by simp [spec_l6Any.l0])
    | succ k1 =>
     have H := HA.out
     clear HA
     simp only [spec_l6Any.l0] at H
     replace H := zI H
     obtain ⟨⟨t485, t486, t487⟩, A16, H⟩ := H
     try dsimp only at H
     by_cases c17 : (x3_1.length : Int) < (wrap64 (6 + t485))
     ·rw [if_pos c17] at H
      have c17b0 : decide ((x3_1.length : Int) < (wrap64 (6 + t485))) = true := decide_eq_true c17
      clear c17
      replace H := zI H
      obtain ⟨⟨t488, t489, t490, t491, t492, t493⟩, A18, H⟩ := H
      try dsimp only at H
      by_cases c19 : x3_1.length < 5864062014805
      ·rw [if_pos c19] at H
       have LMc19 := zA c19
       clear c19
       obtain ⟨y494, hy494⟩ : ∃ y_ : List (S30), y_ = (x3_1 ++ [(⟨t488, t489, t490, t491⟩ : S30)]) := ⟨_, rfl⟩
       replace H : (spec_l6Any.l0 k1 y494 s0_0 t492 t493) = some (r1, r2, r3) := by first | (rw [hy494]; with_reducible exact H) | (have H2_ := (Option.bind_some _ _).symm.trans H; rw [hy494]; with_reducible exact H2_) | (have H2_ := (Option.bind_some _ _).symm.trans H; with_reducible exact H2_) | with_reducible exact H | (rw [hy494]; exact H) | exact H
       have Ny494 := zA hy494
       clear hy494
       have H' := zA H
       clear H
       obtain ⟨Ao20, co20, eo20⟩ := Kd.R_slice HO_3.out
       subst eo20
       go_wp2_with (first | ((with_reducible refine zg 107 ?_); refine gL (some 19) Try.func107 #[.pointer (some ⟨g, 0, none⟩), .int .i64 2] ?_; (with_reducible refine (spec_l1Below.calls g s0_0 x1001_1 x1002_1 2 t485 t486 t487 w0 _ ?z1 ?z2 A16.out).mono ?_); (case z1 => exact zz0); (case z2 => exact zz1); rintro e w21 ⟨rfl, hi, hb, hk⟩; refine ⟨_, rfl, ?_⟩; replace HO_3 := zA (Kd.R_mono (Kd.R_keep (IsS102.apart (show IsS102 w0 _ g s0_0 x1001_1 x1002_1 from zz0) (zr HO_3) (by decide)) hk (fun _ h => h.2)) (fun _ h => h.1)); replace HK := zT hk; replace HB := zA hb; replace HI0 := zA hi; clear hb hk hi) | ((with_reducible refine zg 106 ?_); refine gL (some 24) Try.func106 #[.pointer (some ⟨g, 0, none⟩), .int .i64 0] ?_; (with_reducible refine (spec_l5Draw.calls g s0_0 t486 t487 0 t488 t489 t490 t491 t492 t493 w0 _ ?z1 ?z2 A18.out).mono ?_); (case z1 => exact zz0); (case z2 => exact zz1); rintro e w22 ⟨rfl, hi, hb, hk⟩; refine ⟨_, rfl, ?_⟩; replace HO_3 := zA (Kd.R_mono (Kd.R_keep (IsS102.apart (show IsS102 w0 _ g s0_0 t486 t487 from zz0) (zr HO_3) (by decide)) hk (fun _ h => h.2)) (fun _ h => h.1)); replace HK := zT hk; replace HB := zA hb; replace HI0 := zA hi; clear hb hk hi) | ((with_reducible refine gate_builtin (b := .append) (xs := #[.tmp 22, .tmp 25]) rfl ?_); at_builtin; refine Kd.R_append k30 w.heap.size rfl (.tmp 22) (.tmp 25) 56 30 (.agg #[(.int .i64 0), (.int .i64 0), (.bool false), (.bool false)]) 24 rfl Try.underlying56 info30 rfl (by decide) (by omega) (.slice Ao20 x3_1.length co20) x3_1 (⟨t488, t489, t490, t491⟩ : S30) [.int .i64 t488, .int .i64 t489, .bool t490, .bool t491] (fun _ => True) (fun _ => False) rfl rfl ?aP (fun _ hk => hk.elim) ?aF ?aO (Below.refl _ _) ?aS ?aL ?_; (case aP => exact k30_mkM _ _ _ (⟨t488, t489, t490, t491⟩ : S30)); (case aF => exact (fun _ _ => trivial)); (case aO => exact (zr HO_3)); (case aS => exact (keep_size (w := w) (g := g) (row := none) zf)); (case aL => have := LMc19.out; omega); intro v495 w23 ho hb hg hat; rw [← Ny494.out] at ho; replace HB := zA (below_weaken zz1 HL.out hb); replace HI0 := zA (IsS102.grown zz0 hg (IsS102.own_ne HI0.out HO_3.out (by decide))); replace HK := zA (KeepBut.trans zf (KeepBut.of_grown hg g) (Kd.R_base2 HO_3.out)); have HO496 := zA ho; clear HO_3 ho hb hg hat))
       go_roundg k1
       case measure => have := HK1.out; omega
       case rel => exact ⟨(y494), (t492), (t493), H', ⟨zz41⟩, ⟨zr HO496⟩, ⟨zz0⟩, ⟨zf⟩, ⟨zz1⟩⟩
      ·rw [if_neg c19] at H
       exact absurd H (by simp)
     ·rw [if_neg c17] at H
      have c17b0 : decide ((x3_1.length : Int) < (wrap64 (6 + t485))) = false := decide_eq_false c17
      clear c17
      simp only [Option.some.injEq, Prod.mk.injEq] at H
      obtain ⟨rfl, rfl, rfl⟩ := H
      obtain ⟨Ao24, co24, eo24⟩ := Kd.R_slice HO_3.out
      subst eo24
      go_wp2_with (first | ((with_reducible refine zg 107 ?_); refine gL (some 19) Try.func107 #[.pointer (some ⟨g, 0, none⟩), .int .i64 2] ?_; (with_reducible refine (spec_l1Below.calls g s0_0 x1001_1 x1002_1 2 t485 t486 t487 w0 _ ?z1 ?z2 A16.out).mono ?_); (case z1 => exact zz0); (case z2 => exact zz1); rintro e w25 ⟨rfl, hi, hb, hk⟩; refine ⟨_, rfl, ?_⟩; replace HO_3 := zA (Kd.R_mono (Kd.R_keep (IsS102.apart (show IsS102 w0 _ g s0_0 x1001_1 x1002_1 from zz0) (zr HO_3) (by decide)) hk (fun _ h => h.2)) (fun _ h => h.1)); replace HK := zT hk; replace HB := zA hb; replace HI0 := zA hi; clear hb hk hi))
      go_ret
      exact ⟨_, zw, zr HO_3, zz0, zz1, zf⟩
  ·rw [if_neg c13] at H
   have c13b0 : (t475 == 1) = false := beq_eq_false_iff_ne.mpr c13
   have c13b1 : (t475 != 1) = true := bne_iff_ne.mpr c13
   simp only [Option.some.injEq, Prod.mk.injEq] at H
   obtain ⟨rfl, rfl, rfl⟩ := H
   go_enter Try.func90, Try.ntmps90
   go_wp2_with (first | ((with_reducible refine zg 88 ?_); refine gL (some 5) Try.func88 #[.pointer (some ⟨g, 0, none⟩)] ?_; (with_reducible refine (spec_l6Plan.calls k g s0_0 s0_1 s0_2 t470 t473 t474 w0 _ ?z1 ?z2 A2.out).mono ?_); (case z1 => exact zz0); (case z2 => exact zz1); rintro e w26 ⟨v471, rfl, ho0, hi, hb, hk⟩; refine ⟨_, rfl, ?_⟩; have HO472 := zA (Kd.R_lower ho0 (keep_size (w := w) (g := g) (row := none) zf)); replace HK := zT hk; replace HB := zA hb; replace HI0 := zA hi; clear hb hk hi ho0) | ((with_reducible refine zg 107 ?_); refine gL (some 7) Try.func107 #[.pointer (some ⟨g, 0, none⟩), .int .i64 12] ?_; (with_reducible refine (spec_l1Below.calls g s0_0 t473 t474 12 t475 t476 t477 w0 _ ?z1 ?z2 A3.out).mono ?_); (case z1 => exact zz0); (case z2 => exact zz1); rintro e w27 ⟨rfl, hi, hb, hk⟩; refine ⟨_, rfl, ?_⟩; replace HO472 := zA (Kd.R_mono (Kd.R_keep (IsS102.apart (show IsS102 w0 _ g s0_0 t473 t474 from zz0) (zr HO472) (by decide)) hk (fun _ h => h.2)) (fun _ h => h.1)); replace HK := zT hk; replace HB := zA hb; replace HI0 := zA hi; clear hb hk hi))
   go_ret
   exact ⟨_, zw, zr HO472, zz0, zz1, zf⟩

/-! ### spec_l1Str: function 114 -/
def spec_l1Str.f (s0_0 : List Int) (s0_1 : Int) (s0_2 : Int) (l1 : List ByteArray) : Option (ByteArray × Int × Int) := (spec_l1Below.f s0_0 s0_1 s0_2 (l1.length : Int)).bind fun bt497 => (if 0 ≤ bt497.1 then (if bt497.1 < (l1.length : Int) then (some (rdOf ByteArray.empty l1 bt497.1, bt497.2.1, bt497.2.2)) else (none)) else (none))
set_option maxHeartbeats 8000000 in
set_option maxRecDepth 100000 in
theorem spec_l1Str.calls (g : Nat) (s0_0 : List Int) (s0_1 : Int) (s0_2 : Int) (A1 : Option Addr) (c1 : Nat) (l1 : List ByteArray) (r1 : ByteArray) (r2 : Int) (r3 : Int) (w0 w : World) (hI : IsS102 w0 w g s0_0 s0_1 s0_2) (hB : Below w0.heap.size w0 w) (hr1 : Kd.C Kd.string w A1 l1.length l1) (hc1 : l1.length ≤ c1) (hf1 : ∀ ad, A1 = some ad → 0 < l1.length → ad.block ≠ g) (h : spec_l1Str.f s0_0 s0_1 s0_2 l1 = some (r1, r2, r3)) :
  Calls Try.prog 114 #[.pointer (some ⟨g, 0, none⟩), .slice A1 l1.length c1] w fun e w' => e = .returned (.string r1) ∧ IsS102 w0 w' g s0_0 r2 r3 ∧ Below w0.heap.size w0 w' ∧ KeepBut w w' g none := by
 have HR1 := zA hr1
 have HC1 := zA hc1
 clear hr1 hc1
 have HI0 := zA hI
 have HK := zA (KeepBut.refl w g none)
 have HL := zA hB.size
 clear hI
 have HW0 := zA hB.size
 have HB := zA hB
 clear hB
 have H : ((spec_l1Below.f s0_0 s0_1 s0_2 (l1.length : Int)).bind fun bt497 => (if 0 ≤ bt497.1 then (if bt497.1 < (l1.length : Int) then (some (rdOf ByteArray.empty l1 bt497.1, bt497.2.1, bt497.2.2)) else (none)) else (none))) = some (r1, r2, r3) := h
 clear h
 replace H := zI H
 obtain ⟨⟨t497, t498, t499⟩, A3, H⟩ := H
 try dsimp only at H
 by_cases c4 : 0 ≤ t497
 ·rw [if_pos c4] at H
  have c4b0 : decide (0 ≤ t497) = true := decide_eq_true c4
  clear c4
  by_cases c5 : t497 < (l1.length : Int)
  ·rw [if_pos c5] at H
   have c5b0 : decide (t497 < (l1.length : Int)) = true := decide_eq_true c5
   clear c5
   simp only [Option.some.injEq, Prod.mk.injEq] at H
   obtain ⟨rfl, rfl, rfl⟩ := H
   go_enter Try.func114, Try.ntmps114
   go_wp2_with (first | ((with_reducible refine zg 107 ?_); refine gL (some 9) Try.func107 #[.pointer (some ⟨g, 0, none⟩), .int .i64 (l1.length : Int)] ?_; (with_reducible refine (spec_l1Below.calls g s0_0 s0_1 s0_2 (l1.length : Int) t497 t498 t499 w0 _ ?z1 ?z2 A3.out).mono ?_); (case z1 => exact zz0); (case z2 => exact zz1); rintro e w6 ⟨rfl, hi, hb, hk⟩; refine ⟨_, rfl, ?_⟩; replace HK := zT hk; replace HB := zA hb; replace HI0 := zA hi; clear hb hk hi; have p500 : 0 ≤ (t497 : Int) := of_decide_eq_true za; have q500 : t497 < (l1.length : Int) := of_decide_eq_true za; obtain ⟨ad500, e500, hx500_0⟩ := Kd.at_string HR1.out t497 p500 q500; cases e500; replace hx500_0 := keep_cell HK.out hx500_0 (by first | (rw [add_block]; exact hf1 _ rfl (by omega)) | exact hf1 _ rfl (by omega) | exact hf1 ad500 rfl (by omega)); replace p500 := eq_true p500; replace q500 := eq_true q500))
   go_ret
   exact ⟨zw, zz0, zz1, zf⟩
  ·rw [if_neg c5] at H
   exact absurd H (by simp)
 ·rw [if_neg c4] at H
  exact absurd H (by simp)

/-! ### spec_l2Text: function 122 -/
def spec_l2Text.f (s0_0 : List Int) (s0_1 : Int) (s0_2 : Int) : Option (ByteArray × Int × Int) := (spec_l1Str.f s0_0 s0_1 s0_2 (([(⟨#[]⟩ : ByteArray), (⟨#[97]⟩ : ByteArray), (⟨#[98]⟩ : ByteArray), (⟨#[97, 98]⟩ : ByteArray), (⟨#[0]⟩ : ByteArray), (⟨#[97, 0]⟩ : ByteArray), (⟨#[0, 255]⟩ : ByteArray), (⟨#[255]⟩ : ByteArray), (⟨#[119, 111, 114, 100]⟩ : ByteArray), (⟨#[122]⟩ : ByteArray)] : List ByteArray))).bind fun bt504 => (some (bt504.1, bt504.2.1, bt504.2.2))
set_option maxHeartbeats 8000000 in
set_option maxRecDepth 100000 in
theorem spec_l2Text.calls (g : Nat) (s0_0 : List Int) (s0_1 : Int) (s0_2 : Int) (r1 : ByteArray) (r2 : Int) (r3 : Int) (w0 w : World) (hI : IsS102 w0 w g s0_0 s0_1 s0_2) (hB : Below w0.heap.size w0 w) (h : spec_l2Text.f s0_0 s0_1 s0_2 = some (r1, r2, r3)) :
  Calls Try.prog 122 #[.pointer (some ⟨g, 0, none⟩)] w fun e w' => e = .returned (.string r1) ∧ IsS102 w0 w' g s0_0 r2 r3 ∧ Below w0.heap.size w0 w' ∧ KeepBut w w' g none := by
 have HI0 := zA hI
 have HK := zA (KeepBut.refl w g none)
 have HL := zA hB.size
 clear hI
 have HW0 := zA hB.size
 have HB := zA hB
 clear hB
 have H : ((spec_l1Str.f s0_0 s0_1 s0_2 (([(⟨#[]⟩ : ByteArray), (⟨#[97]⟩ : ByteArray), (⟨#[98]⟩ : ByteArray), (⟨#[97, 98]⟩ : ByteArray), (⟨#[0]⟩ : ByteArray), (⟨#[97, 0]⟩ : ByteArray), (⟨#[0, 255]⟩ : ByteArray), (⟨#[255]⟩ : ByteArray), (⟨#[119, 111, 114, 100]⟩ : ByteArray), (⟨#[122]⟩ : ByteArray)] : List ByteArray))).bind fun bt504 => (some (bt504.1, bt504.2.1, bt504.2.2))) = some (r1, r2, r3) := h
 clear h
 obtain ⟨y501, hy501⟩ : ∃ y_ : List ByteArray, y_ = (([(⟨#[]⟩ : ByteArray), (⟨#[97]⟩ : ByteArray), (⟨#[98]⟩ : ByteArray), (⟨#[97, 98]⟩ : ByteArray), (⟨#[0]⟩ : ByteArray), (⟨#[97, 0]⟩ : ByteArray), (⟨#[0, 255]⟩ : ByteArray), (⟨#[255]⟩ : ByteArray), (⟨#[119, 111, 114, 100]⟩ : ByteArray), (⟨#[122]⟩ : ByteArray)] : List ByteArray)) := ⟨_, rfl⟩
 replace H : ((spec_l1Str.f s0_0 s0_1 s0_2 y501).bind fun bt504 => (some (bt504.1, bt504.2.1, bt504.2.2))) = some (r1, r2, r3) := by first | (rw [hy501]; with_reducible exact H) | (have H2_ := (Option.bind_some _ _).symm.trans H; rw [hy501]; with_reducible exact H2_) | (have H2_ := (Option.bind_some _ _).symm.trans H; with_reducible exact H2_) | with_reducible exact H | (rw [hy501]; exact H) | exact H
 have Ny501 := zA hy501
 clear hy501
 replace H := zI H
 obtain ⟨⟨t504, t505, t506⟩, A2, H⟩ := H
 try dsimp only at H
 simp only [Option.some.injEq, Prod.mk.injEq] at H
 obtain ⟨rfl, rfl, rfl⟩ := H
 go_enter Try.func122, Try.ntmps122
 go_wp2_with (first | ((with_reducible refine zt 4 ?_); refine Kd.R_lit Kd.string _ 9 ?hg (N := 4) ?hd (xs := ([(⟨#[]⟩ : ByteArray), (⟨#[97]⟩ : ByteArray), (⟨#[98]⟩ : ByteArray), (⟨#[97, 98]⟩ : ByteArray), (⟨#[0]⟩ : ByteArray), (⟨#[97, 0]⟩ : ByteArray), (⟨#[0, 255]⟩ : ByteArray), (⟨#[255]⟩ : ByteArray), (⟨#[119, 111, 114, 100]⟩ : ByteArray), (⟨#[122]⟩ : ByteArray)] : List ByteArray)) (inner := [.string (⟨#[]⟩ : ByteArray), .string (⟨#[97]⟩ : ByteArray), .string (⟨#[98]⟩ : ByteArray), .string (⟨#[97, 98]⟩ : ByteArray), .string (⟨#[0]⟩ : ByteArray), .string (⟨#[97, 0]⟩ : ByteArray), .string (⟨#[0, 255]⟩ : ByteArray), .string (⟨#[255]⟩ : ByteArray), .string (⟨#[119, 111, 114, 100]⟩ : ByteArray), .string (⟨#[122]⟩ : ByteArray)]) (ok := fun _ => True) (okp := fun _ => True) ?hr ?hp (fun _ hk => hk) trivial (Below.refl _ _) (Nat.le_refl _) (by simp) ?_; (case hd => rfl); (case hg => rfl); (case hr => exact zz25); (case hp => exact (Reps.one (show Kd.M Kd.string _ _ _ (⟨#[]⟩ : ByteArray) [.string (⟨#[]⟩ : ByteArray)] from rfl) (Reps.one (show Kd.M Kd.string _ _ _ (⟨#[97]⟩ : ByteArray) [.string (⟨#[97]⟩ : ByteArray)] from rfl) (Reps.one (show Kd.M Kd.string _ _ _ (⟨#[98]⟩ : ByteArray) [.string (⟨#[98]⟩ : ByteArray)] from rfl) (Reps.one (show Kd.M Kd.string _ _ _ (⟨#[97, 98]⟩ : ByteArray) [.string (⟨#[97, 98]⟩ : ByteArray)] from rfl) (Reps.one (show Kd.M Kd.string _ _ _ (⟨#[0]⟩ : ByteArray) [.string (⟨#[0]⟩ : ByteArray)] from rfl) (Reps.one (show Kd.M Kd.string _ _ _ (⟨#[97, 0]⟩ : ByteArray) [.string (⟨#[97, 0]⟩ : ByteArray)] from rfl) (Reps.one (show Kd.M Kd.string _ _ _ (⟨#[0, 255]⟩ : ByteArray) [.string (⟨#[0, 255]⟩ : ByteArray)] from rfl) (Reps.one (show Kd.M Kd.string _ _ _ (⟨#[255]⟩ : ByteArray) [.string (⟨#[255]⟩ : ByteArray)] from rfl) (Reps.one (show Kd.M Kd.string _ _ _ (⟨#[119, 111, 114, 100]⟩ : ByteArray) [.string (⟨#[119, 111, 114, 100]⟩ : ByteArray)] from rfl) (Reps.one (show Kd.M Kd.string _ _ _ (⟨#[122]⟩ : ByteArray) [.string (⟨#[122]⟩ : ByteArray)] from rfl) (Reps.none _ _)))))))))))); intro v502 w3 ho4 hb hg_ hnew_; clear hg_ hnew_; (first | rw [← Ny501.out] at ho4 | (simp only [Int.reduceToNat] at ho4; rw [← Ny501.out] at ho4)); have HO503 := zA (Kd.R_lower ho4 (keep_size (w := w) (g := g) (row := none) zf)); replace HK := zT (KeepBut.of_below hb g none); replace HB := zS hb zz1; replace HI0 := zA (IsS102.below zz0 hb); clear hb ho4; obtain ⟨Ao5, co5, eo5⟩ := Kd.R_slice HO503.out; subst eo5) | ((with_reducible refine zg 114 ?_); refine gL (some 5) Try.func114 #[.pointer (some ⟨g, 0, none⟩), .slice Ao5 y501.length co5] ?_; (with_reducible refine (spec_l1Str.calls g s0_0 s0_1 s0_2 _ _ y501 t504 t505 t506 w0 _ ?z1 ?z2 ?z3 ?z4 ?z5 A2.out).mono ?_); (case z1 => exact zz0); (case z2 => exact zz1); (case z3 => exact ze HO503); (case z4 => exact zl HO503); (case z5 => exact far_slice (IsS102.own_ne HI0.out HO503.out (by decide))); rintro e w6 ⟨rfl, hi, hb, hk⟩; refine ⟨_, rfl, ?_⟩; replace HO503 := zA (Kd.R_mono (Kd.R_keep (IsS102.apart (show IsS102 w0 _ g s0_0 s0_1 s0_2 from zz0) (zr HO503) (by decide)) hk (fun _ h => h.2)) (fun _ h => h.1)); replace HK := zT hk; replace HB := zA hb; replace HI0 := zA hi; clear hb hk hi))
 go_ret
 exact ⟨zw, zz0, zz1, zf⟩

/-! ### spec_l2Of: function 112 -/
def spec_l2Of.j0 : Nat → Int → Bool → List Int → Int → Int → Option (Int × Int × ByteArray × Int × Int)
  | 0, _, _, _, _, _ => none
  | k + 1, x1, x12, x1000, x1001, x1002 => if x12 = true then (some (0, 0, (⟨#[]⟩ : ByteArray), x1001, x1002)) else (if x1 = 1 then ((spec_l1Int.f x1000 x1001 x1002 (([0, 1, 2, 3, (-1), 255, 256, 2147483647, (-2147483648)] : List Int))).bind fun bt515 => (some (x1, bt515.1, (⟨#[]⟩ : ByteArray), bt515.2.1, bt515.2.2))) else (if x1 = 2 then ((spec_l1Below.f x1000 x1001 x1002 100000).bind fun bt518 => ((spec_l1Int.f x1000 bt518.2.1 bt518.2.2 (([0, 1, (-1), 255, 256, (-256), (-257), 65535, 1000000000000000, (-1000000000000000), wrap64 (-bt518.1)] : List Int))).bind fun bt524 => (some (x1, bt524.1, (⟨#[]⟩ : ByteArray), bt524.2.1, bt524.2.2)))) else (if x1 = 3 then ((spec_l2Text.f x1000 x1001 x1002).bind fun bt527 => (some (x1, 0, bt527.1, bt527.2.1, bt527.2.2))) else ((spec_l1Below.f x1000 x1001 x1002 2).bind fun bt530 => (some (x1, bt530.1, (⟨#[]⟩ : ByteArray), bt530.2.1, bt530.2.2))))))
def spec_l2Of.f (k : Nat) (s0_0 : List Int) (s0_1 : Int) (s0_2 : Int) (a1 : Int) (a2 : Bool) : Option (Int × Int × ByteArray × Int × Int) := if a2 = true then ((spec_l1Once.f s0_0 s0_1 s0_2 4).bind fun bt508 => (spec_l2Of.j0 k a1 bt508.1 s0_0 bt508.2.1 bt508.2.2)) else (spec_l2Of.j0 k a1 false s0_0 s0_1 s0_2)
theorem spec_l2Of.mono_l : ∀ k, (∀ y0 y1 y2 y3 y4, LeO (spec_l2Of.j0 k y0 y1 y2 y3 y4) (spec_l2Of.j0 (k + 1) y0 y1 y2 y3 y4))
  | 0 => fun _ _ _ _ _ r h => by simp [spec_l2Of.j0] at h
  | k + 1 => by
    have ih0 := spec_l2Of.mono_l k
    · intro y0 y1 y2 y3 y4
      unfold spec_l2Of.j0
      repeat' first
      | (with_reducible exact ih0 _ _ _ _ _)
      | (with_reducible exact LeO.refl _)
      | (with_reducible exact LeO.none _)
      | (with_reducible refine LeO.ite ?_ ?_)
      | (with_reducible refine LeO.bind ?_ (fun _ => ?_))
      | exact ih0 _ _ _ _ _
      | exact LeO.none _
      | refine LeO.ite ?_ ?_
      | refine LeO.bind ?_ (fun _ => ?_)
theorem spec_l2Of.mono : ∀ a0 a1 a2 a3 a4 k, LeO (spec_l2Of.f k a0 a1 a2 a3 a4) (spec_l2Of.f (k + 1) a0 a1 a2 a3 a4) := by
  intro a0 a1 a2 a3 a4 k
  have ih0 := spec_l2Of.mono_l k
  unfold spec_l2Of.f
  repeat' first
      | (with_reducible exact ih0 _ _ _ _ _)
      | (with_reducible exact LeO.refl _)
      | (with_reducible exact LeO.none _)
      | (with_reducible refine LeO.ite ?_ ?_)
      | (with_reducible refine LeO.bind ?_ (fun _ => ?_))
      | exact ih0 _ _ _ _ _
      | exact LeO.none _
      | refine LeO.ite ?_ ?_
      | refine LeO.bind ?_ (fun _ => ?_)
set_option maxHeartbeats 8000000 in
set_option maxRecDepth 100000 in
theorem spec_l2Of.calls (k : Nat) (g : Nat) (s0_0 : List Int) (s0_1 : Int) (s0_2 : Int) (a1 : Int) (a2 : Bool) (r1 : Int) (r2 : Int) (r3 : ByteArray) (r4 : Int) (r5 : Int) (w0 w : World) (hI : IsS102 w0 w g s0_0 s0_1 s0_2) (hB : Below w0.heap.size w0 w) (h : spec_l2Of.f k s0_0 s0_1 s0_2 a1 a2 = some (r1, r2, r3, r4, r5)) :
  Calls Try.prog 112 #[.pointer (some ⟨g, 0, none⟩), .int .i64 a1, .bool a2] w fun e w' => e = .returned (.agg #[.int .i64 r1, .int .i64 r2, .string r3]) ∧ IsS102 w0 w' g s0_0 r4 r5 ∧ Below w0.heap.size w0 w' ∧ KeepBut w w' g none := by
 have hu32 := Try.underlying32
 have HI0 := zA hI
 have HK := zA (KeepBut.refl w g none)
 have HL := zA hB.size
 clear hI
 have HW0 := zA hB.size
 have HB := zA hB
 clear hB
 have H : (if a2 = true then ((spec_l1Once.f s0_0 s0_1 s0_2 4).bind fun bt508 => (spec_l2Of.j0 k a1 bt508.1 s0_0 bt508.2.1 bt508.2.2)) else (spec_l2Of.j0 k a1 false s0_0 s0_1 s0_2)) = some (r1, r2, r3, r4, r5) := h
 clear h
 have HC4 := zA H
 clear H
 go_enter Try.func112, Try.ntmps112
 go_upto_region 1 with (first | ((with_reducible refine zt 6 ?_); refine zn #[.int .i64 0, .int .i64 0, .string (⟨#[]⟩ : ByteArray)] 32 ?_; intro gb507 hg w5 hbox hb; replace HB := zS hb zz1; have BK507 := zA hbox; have GW507 := zA ((zz26 : w.heap.size ≤ gb507)); have GE507 := zA ((Nat.le_trans HW0.out (zz26 : w.heap.size ≤ gb507) : w0.heap.size ≤ gb507)); replace HK := zT (KeepBut.of_below hb g none); have NB0_507 := zA ((zz48 : g ≠ gb507)); have NB507_0 := zA ((zz49 : gb507 ≠ g)); replace HI0 := zA (IsS102.below zz0 hb); clear hb hbox hg))
 (try simp only [Act.put, List.setIfInBounds_toArray, List.set_cons_zero, List.set_cons_succ])
 go_cut [12] (fun v12 wc => ∃ (kq : Nat) (x12_3 : Bool) (x1001_3 : Int) (x1002_3 : Int), v12 = .bool x12_3 ∧ Aside0 (spec_l2Of.j0 kq a1 x12_3 s0_0 x1001_3 x1002_3 = some (r1, r2, r3, r4, r5)) ∧ Aside0 (kq ≤ k) ∧ Aside0 (wc.heap[gb507]? = some (.cells #[.int .i64 0, .int .i64 0, .string (⟨#[]⟩ : ByteArray)] 32 (0, 0))) ∧ Aside0 (IsS102 w0 wc g s0_0 x1001_3 x1002_3) ∧ Aside0 (KeepBut w wc g none) ∧ Aside0 (Below w0.heap.size w0 wc))
 case first =>
  have H := HC4.out
  clear HC4
  by_cases c6 : a2 = true
  ·subst c6
   rw [if_pos rfl] at H
   replace H := zI H
   obtain ⟨⟨t508, t509, t510⟩, A7, H⟩ := H
   try dsimp only at H
   have H' := zA H
   clear H
   go_wp2_with (first | (go_at_call 110; (with_reducible refine (spec_l1Once.calls g s0_0 s0_1 s0_2 4 t508 t509 t510 w0 _ ?z1 ?z2 A7.out).mono ?_); (case z1 => exact zz6); (case z2 => exact zz22); rintro e w8 ⟨rfl, hi, hb, hk⟩; replace BK507 := zV hk BK507 NB507_0; replace HK := zT hk (zf1 GW507); replace HB := zA hb; replace HI0 := zA hi; clear hb hk hi))
   go_meet
   case rel => exact ⟨_, (t508), (t509), (t510), zx, H', ⟨zo⟩, ⟨zk BK507⟩, ⟨zz6⟩, ⟨zf1 GW507⟩, ⟨zz22⟩⟩
  ·replace c6 := Bool.eq_false_iff.mpr c6
   subst c6
   rw [if_neg (Bool.false_ne_true)] at H
   have H' := zA H
   clear H
   go_wp2
   go_meet
   case rel => exact ⟨_, (false), (s0_1), (s0_2), zx, H', ⟨zo⟩, ⟨zk BK507⟩, ⟨zz6⟩, ⟨zf1 GW507⟩, ⟨zz22⟩⟩
 case rest =>
  clear HC4
  obtain ⟨kq, x12_3, x1001_3, x1002_3, rfl, HA, HJ3, BK507, HI0, HK, HB⟩ := hcut
  cases kq with
  | zero => exact absurd HA.out (by simp [spec_l2Of.j0])
  | succ kj3 =>
   have H := HA.out
   clear HA
   simp only [spec_l2Of.j0] at H
   by_cases c9 : x12_3 = true
   ·subst c9
    rw [if_pos rfl] at H
    simp only [Option.some.injEq, Prod.mk.injEq] at H
    obtain ⟨rfl, rfl, rfl, rfl, rfl⟩ := H
    have hnb10 := NB507_0.out
    have hnc10 := NB0_507.out
    obtain ⟨hcz11_0, hcz11_1, hcz11_2, hfz11_0, hfz11_1, hfz11_2⟩ := zh3 BK507
    go_wp2
    refine bodyPost_ret (results_cell_row rfl _ _ gb507 32 #[.int .i64 0, .int .i64 0, .string (⟨#[]⟩ : ByteArray)] (0, 0) _ rfl (by (with_reducible repeat (first | refine blk_drewN ?_ _ | refine blk_drew ?_ | refine blk_alloc ?_ _)); refine blk_put (cs := #[.int .i64 0, .int .i64 0, .string (⟨#[]⟩ : ByteArray)]) ?_ 2 _ rfl; (with_reducible repeat (first | refine blk_drewN ?_ _ | refine blk_drew ?_ | refine blk_alloc ?_ _)); refine blk_put (cs := #[.int .i64 0, .int .i64 0, .string (⟨#[]⟩ : ByteArray)]) ?_ 1 _ rfl; (with_reducible repeat (first | refine blk_drewN ?_ _ | refine blk_drew ?_ | refine blk_alloc ?_ _)); refine blk_put (cs := #[.int .i64 0, .int .i64 0, .string (⟨#[]⟩ : ByteArray)]) ?_ 0 _ rfl; (with_reducible repeat (first | refine blk_drewN ?_ _ | refine blk_drew ?_ | refine blk_alloc ?_ _)); exact BK507.out) Try.underlying32 rfl (by kernel_rfl)) rfl ?_
    exact ⟨zw, zz6, zz22, zf1 GW507⟩
   ·replace c9 := Bool.eq_false_iff.mpr c9
    subst c9
    rw [if_neg (Bool.false_ne_true)] at H
    by_cases c12 : a1 = 1
    ·rw [if_pos c12] at H
     have c12b0 : (a1 == 1) = true := beq_iff_eq.mpr c12
     have c12b1 : (a1 != 1) = false := bne_eq_false_iff_eq.mpr c12
     clear c12
     obtain ⟨y512, hy512⟩ : ∃ y_ : List Int, y_ = (([0, 1, 2, 3, (-1), 255, 256, 2147483647, (-2147483648)] : List Int)) := ⟨_, rfl⟩
     replace H : ((spec_l1Int.f s0_0 x1001_3 x1002_3 y512).bind fun bt515 => (some (a1, bt515.1, (⟨#[]⟩ : ByteArray), bt515.2.1, bt515.2.2))) = some (r1, r2, r3, r4, r5) := by first | (rw [hy512]; with_reducible exact H) | (have H2_ := (Option.bind_some _ _).symm.trans H; rw [hy512]; with_reducible exact H2_) | (have H2_ := (Option.bind_some _ _).symm.trans H; with_reducible exact H2_) | with_reducible exact H | (rw [hy512]; exact H) | exact H
     have Ny512 := zA hy512
     clear hy512
     replace H := zI H
     obtain ⟨⟨t515, t516, t517⟩, A13, H⟩ := H
     try dsimp only at H
     simp only [Option.some.injEq, Prod.mk.injEq] at H
     obtain ⟨rfl, rfl, rfl, rfl, rfl⟩ := H
     go_wp2_with (first | ((with_reducible refine zt 7 ?_); refine zn #[.int .i64 0, .int .i64 0, .string (⟨#[]⟩ : ByteArray)] 32 ?_; intro gb511 hg w14 hbox hb; replace HB := zS hb zz22; have BK511 := zA hbox; have GW511 := zA ((zz39 : w.heap.size ≤ gb511)); have GE511 := zA ((Nat.le_trans HW0.out (zz39 : w.heap.size ≤ gb511) : w0.heap.size ≤ gb511)); replace HK := zT (KeepBut.of_below hb g none) (zf1 GW507); have NB507_511 := zX BK507 hg; have NB511_507 := zY BK507 hg; replace BK507 := zB BK507 hb; have NB0_511 := zA ((zz52 : g ≠ gb511)); have NB511_0 := zA ((zz53 : gb511 ≠ g)); replace HI0 := zA (IsS102.below zz6 hb); clear hb hbox hg; have hnb15 := NB511_507.out; have hnc15 := NB507_511.out; have hnb16 := NB511_0.out; have hnc16 := NB0_511.out; obtain ⟨hcz17_0, hcz17_1, hcz17_2, hfz17_0, hfz17_1, hfz17_2⟩ := zh3 BK511) | ((with_reducible refine zt 23 ?_); refine Kd.R_lit (Kd.int .i64) _ 3 ?hg (N := 23) ?hd (xs := ([0, 1, 2, 3, (-1), 255, 256, 2147483647, (-2147483648)] : List Int)) (inner := [.int .i64 0, .int .i64 1, .int .i64 2, .int .i64 3, .int .i64 (-1), .int .i64 255, .int .i64 256, .int .i64 2147483647, .int .i64 (-2147483648)]) (ok := fun _ => True) (okp := fun _ => True) ?hr ?hp (fun _ hk => hk) trivial (Below.refl _ _) (Nat.le_refl _) (by simp) ?_; (case hd => rfl); (case hg => rfl); (case hr => exact zz25); (case hp => exact (Reps.one (show Kd.M (Kd.int .i64) _ _ _ 0 [.int .i64 0] from rfl) (Reps.one (show Kd.M (Kd.int .i64) _ _ _ 1 [.int .i64 1] from rfl) (Reps.one (show Kd.M (Kd.int .i64) _ _ _ 2 [.int .i64 2] from rfl) (Reps.one (show Kd.M (Kd.int .i64) _ _ _ 3 [.int .i64 3] from rfl) (Reps.one (show Kd.M (Kd.int .i64) _ _ _ (-1) [.int .i64 (-1)] from rfl) (Reps.one (show Kd.M (Kd.int .i64) _ _ _ 255 [.int .i64 255] from rfl) (Reps.one (show Kd.M (Kd.int .i64) _ _ _ 256 [.int .i64 256] from rfl) (Reps.one (show Kd.M (Kd.int .i64) _ _ _ 2147483647 [.int .i64 2147483647] from rfl) (Reps.one (show Kd.M (Kd.int .i64) _ _ _ (-2147483648) [.int .i64 (-2147483648)] from rfl) (Reps.none _ _))))))))))); intro v513 w18 ho19 hb hg_ hnew_; clear hg_ hnew_; (first | rw [← Ny512.out] at ho19 | (simp only [Int.reduceToNat] at ho19; rw [← Ny512.out] at ho19)); have HO514 := zA (Kd.R_lower ho19 (keep_size (w := w) (g := g) (row := none) (zf2 GW507 GW511))); replace BK507 := zA (blk_below (g := gb507) (o := .cells #[.int .i64 0, .int .i64 0, .string (⟨#[]⟩ : ByteArray)] 32 (0, 0)) zz15 hb); replace BK511 := zA (blk_below (g := gb511) (o := .cells #[.int .i64 a1, .int .i64 0, .string (⟨#[]⟩ : ByteArray)] 32 (0, 0)) zz9 hb); replace HK := zT (KeepBut.of_below hb g none) (zf2 GW507 GW511); replace HB := zS hb zz12; replace HI0 := zA (IsS102.below (show IsS102 w0 (((w14.setCell ⟨gb511, 0, none⟩ (.int .i64 a1)).setCell ⟨gb511, 1, none⟩ (.int .i64 0)).setCell ⟨gb511, 2, none⟩ (.string (⟨#[]⟩ : ByteArray))) g s0_0 x1001_3 x1002_3 from zz7) hb); clear hb ho19; obtain ⟨Ao20, co20, eo20⟩ := Kd.R_slice HO514.out; subst eo20) | ((with_reducible refine zg 108 ?_); refine gL (some 24) Try.func108 #[.pointer (some ⟨g, 0, none⟩), .slice Ao20 y512.length co20] ?_; (with_reducible refine (spec_l1Int.calls g s0_0 x1001_3 x1002_3 _ _ y512 t515 t516 t517 w0 _ ?z1 ?z2 ?z3 ?z4 ?z5 A13.out).mono ?_); (case z1 => exact zz7); (case z2 => exact zz12); (case z3 => exact ze HO514); (case z4 => exact zl HO514); (case z5 => exact far_slice (IsS102.own_ne HI0.out HO514.out (by decide))); rintro e w21 ⟨rfl, hi, hb, hk⟩; refine ⟨_, rfl, ?_⟩; replace BK507 := zV hk BK507 NB507_0; replace BK511 := zV hk BK511 NB511_0; replace HO514 := zA (Kd.R_mono (Kd.R_keep (IsS102.apart (show IsS102 w0 _ g s0_0 x1001_3 x1002_3 from zz7) (zr HO514) (by decide)) hk (fun _ h => h.2)) (fun _ h => h.1)); replace HK := zT hk (zf2 GW507 GW511); replace HB := zA hb; replace HI0 := zA hi; clear hb hk hi; obtain ⟨hcz22_0, hcz22_1, hcz22_2, hfz22_0, hfz22_1, hfz22_2⟩ := zh3 BK511; have hnb23 := NB507_0.out; have hnc23 := NB0_507.out; obtain ⟨hcz24_0, hcz24_1, hcz24_2, hfz24_0, hfz24_1, hfz24_2⟩ := zh3 BK507))
     refine bodyPost_ret (results_cell_row rfl _ _ gb507 32 #[.int .i64 a1, .int .i64 t515, .string (⟨#[]⟩ : ByteArray)] (0, 0) _ rfl (by (with_reducible repeat (first | refine blk_drewN ?_ _ | refine blk_drew ?_ | refine blk_alloc ?_ _)); refine blk_put (cs := #[.int .i64 a1, .int .i64 t515, .string (⟨#[]⟩ : ByteArray)]) ?_ 2 _ rfl; (with_reducible repeat (first | refine blk_drewN ?_ _ | refine blk_drew ?_ | refine blk_alloc ?_ _)); refine blk_put (cs := #[.int .i64 a1, .int .i64 0, .string (⟨#[]⟩ : ByteArray)]) ?_ 1 _ rfl; (with_reducible repeat (first | refine blk_drewN ?_ _ | refine blk_drew ?_ | refine blk_alloc ?_ _)); refine blk_put (cs := #[.int .i64 0, .int .i64 0, .string (⟨#[]⟩ : ByteArray)]) ?_ 0 _ rfl; (with_reducible repeat (first | refine blk_drewN ?_ _ | refine blk_drew ?_ | refine blk_alloc ?_ _)); refine blk_far ?_ NB507_511.out _; (with_reducible repeat (first | refine blk_drewN ?_ _ | refine blk_drew ?_ | refine blk_alloc ?_ _)); exact BK507.out) Try.underlying32 rfl (by kernel_rfl)) rfl ?_
     exact ⟨zw, zz7, zz12, zf2 GW507 GW511⟩
    ·rw [if_neg c12] at H
     have c12b0 : (a1 == 1) = false := beq_eq_false_iff_ne.mpr c12
     have c12b1 : (a1 != 1) = true := bne_iff_ne.mpr c12
     by_cases c25 : a1 = 2
     ·rw [if_pos c25] at H
      have c25b0 : (a1 == 2) = true := beq_iff_eq.mpr c25
      have c25b1 : (a1 != 2) = false := bne_eq_false_iff_eq.mpr c25
      clear c25
      replace H := zI H
      obtain ⟨⟨t518, t519, t520⟩, A26, H⟩ := H
      try dsimp only at H
      obtain ⟨y521, hy521⟩ : ∃ y_ : List Int, y_ = (([0, 1, (-1), 255, 256, (-256), (-257), 65535, 1000000000000000, (-1000000000000000), wrap64 (-t518)] : List Int)) := ⟨_, rfl⟩
      replace H : ((spec_l1Int.f s0_0 t519 t520 y521).bind fun bt524 => (some (a1, bt524.1, (⟨#[]⟩ : ByteArray), bt524.2.1, bt524.2.2))) = some (r1, r2, r3, r4, r5) := by first | (rw [hy521]; with_reducible exact H) | (have H2_ := (Option.bind_some _ _).symm.trans H; rw [hy521]; with_reducible exact H2_) | (have H2_ := (Option.bind_some _ _).symm.trans H; with_reducible exact H2_) | with_reducible exact H | (rw [hy521]; exact H) | exact H
      have Ny521 := zA hy521
      clear hy521
      replace H := zI H
      obtain ⟨⟨t524, t525, t526⟩, A27, H⟩ := H
      try dsimp only at H
      simp only [Option.some.injEq, Prod.mk.injEq] at H
      obtain ⟨rfl, rfl, rfl, rfl, rfl⟩ := H
      go_wp2_with (first | ((with_reducible refine zt 7 ?_); refine zn #[.int .i64 0, .int .i64 0, .string (⟨#[]⟩ : ByteArray)] 32 ?_; intro gb511 hg w28 hbox hb; replace HB := zS hb zz22; have BK511 := zA hbox; have GW511 := zA ((zz39 : w.heap.size ≤ gb511)); have GE511 := zA ((Nat.le_trans HW0.out (zz39 : w.heap.size ≤ gb511) : w0.heap.size ≤ gb511)); replace HK := zT (KeepBut.of_below hb g none) (zf1 GW507); have NB507_511 := zX BK507 hg; have NB511_507 := zY BK507 hg; replace BK507 := zB BK507 hb; have NB0_511 := zA ((zz52 : g ≠ gb511)); have NB511_0 := zA ((zz53 : gb511 ≠ g)); replace HI0 := zA (IsS102.below zz6 hb); clear hb hbox hg; have hnb29 := NB511_507.out; have hnc29 := NB507_511.out; have hnb30 := NB511_0.out; have hnc30 := NB0_511.out; obtain ⟨hcz31_0, hcz31_1, hcz31_2, hfz31_0, hfz31_1, hfz31_2⟩ := zh3 BK511) | ((with_reducible refine zg 107 ?_); refine gL (some 30) Try.func107 #[.pointer (some ⟨g, 0, none⟩), .int .i64 100000] ?_; (with_reducible refine (spec_l1Below.calls g s0_0 x1001_3 x1002_3 100000 t518 t519 t520 w0 _ ?z1 ?z2 A26.out).mono ?_); (case z1 => exact zz7); (case z2 => exact zz12); rintro e w32 ⟨rfl, hi, hb, hk⟩; refine ⟨_, rfl, ?_⟩; replace BK507 := zA (KeepBut.blk hk (g' := gb507) (o := .cells #[.int .i64 0, .int .i64 0, .string (⟨#[]⟩ : ByteArray)] 32 (0, 0)) zz15 NB507_0.out (by simp)); replace BK511 := zA (KeepBut.blk hk (g' := gb511) (o := .cells #[.int .i64 a1, .int .i64 0, .string (⟨#[]⟩ : ByteArray)] 32 (0, 0)) zz9 NB511_0.out (by simp)); replace HK := zT hk (zf2 GW507 GW511); replace HB := zA hb; replace HI0 := zA hi; clear hb hk hi) | ((with_reducible refine zt 32 ?_); refine Kd.R_lit (Kd.int .i64) _ 3 ?hg (N := 32) ?hd (xs := ([0, 1, (-1), 255, 256, (-256), (-257), 65535, 1000000000000000, (-1000000000000000), wrap64 (-t518)] : List Int)) (inner := [.int .i64 0, .int .i64 1, .int .i64 (-1), .int .i64 255, .int .i64 256, .int .i64 (-256), .int .i64 (-257), .int .i64 65535, .int .i64 1000000000000000, .int .i64 (-1000000000000000), .int .i64 (wrap64 (-t518))]) (ok := fun _ => True) (okp := fun _ => True) ?hr ?hp (fun _ hk => hk) trivial (Below.refl _ _) (Nat.le_refl _) (by simp) ?_; (case hd => rfl); (case hg => rfl); (case hr => exact zz25); (case hp => exact (Reps.one (show Kd.M (Kd.int .i64) _ _ _ 0 [.int .i64 0] from rfl) (Reps.one (show Kd.M (Kd.int .i64) _ _ _ 1 [.int .i64 1] from rfl) (Reps.one (show Kd.M (Kd.int .i64) _ _ _ (-1) [.int .i64 (-1)] from rfl) (Reps.one (show Kd.M (Kd.int .i64) _ _ _ 255 [.int .i64 255] from rfl) (Reps.one (show Kd.M (Kd.int .i64) _ _ _ 256 [.int .i64 256] from rfl) (Reps.one (show Kd.M (Kd.int .i64) _ _ _ (-256) [.int .i64 (-256)] from rfl) (Reps.one (show Kd.M (Kd.int .i64) _ _ _ (-257) [.int .i64 (-257)] from rfl) (Reps.one (show Kd.M (Kd.int .i64) _ _ _ 65535 [.int .i64 65535] from rfl) (Reps.one (show Kd.M (Kd.int .i64) _ _ _ 1000000000000000 [.int .i64 1000000000000000] from rfl) (Reps.one (show Kd.M (Kd.int .i64) _ _ _ (-1000000000000000) [.int .i64 (-1000000000000000)] from rfl) (Reps.one (show Kd.M (Kd.int .i64) _ _ _ (wrap64 (-t518)) [.int .i64 (wrap64 (-t518))] from rfl) (Reps.none _ _))))))))))))); intro v522 w33 ho34 hb hg_ hnew_; clear hg_ hnew_; (first | rw [← Ny521.out] at ho34 | (simp only [Int.reduceToNat] at ho34; rw [← Ny521.out] at ho34)); have HO523 := zA (Kd.R_lower ho34 (keep_size (w := w) (g := g) (row := none) (zf2 GW507 GW511))); replace BK507 := zB BK507 hb; replace BK511 := zB BK511 hb; replace HK := zT (KeepBut.of_below hb g none) (zf2 GW507 GW511); replace HB := zS hb zz12; replace HI0 := zA (IsS102.below zz7 hb); clear hb ho34; obtain ⟨Ao35, co35, eo35⟩ := Kd.R_slice HO523.out; subst eo35) | ((with_reducible refine zg 108 ?_); refine gL (some 33) Try.func108 #[.pointer (some ⟨g, 0, none⟩), .slice Ao35 y521.length co35] ?_; (with_reducible refine (spec_l1Int.calls g s0_0 t519 t520 _ _ y521 t524 t525 t526 w0 _ ?z1 ?z2 ?z3 ?z4 ?z5 A27.out).mono ?_); (case z1 => exact zz7); (case z2 => exact zz12); (case z3 => exact ze HO523); (case z4 => exact zl HO523); (case z5 => exact far_slice (IsS102.own_ne HI0.out HO523.out (by decide))); rintro e w36 ⟨rfl, hi, hb, hk⟩; refine ⟨_, rfl, ?_⟩; replace BK507 := zV hk BK507 NB507_0; replace BK511 := zV hk BK511 NB511_0; replace HO523 := zA (Kd.R_mono (Kd.R_keep (IsS102.apart (show IsS102 w0 _ g s0_0 t519 t520 from zz7) (zr HO523) (by decide)) hk (fun _ h => h.2)) (fun _ h => h.1)); replace HK := zT hk (zf2 GW507 GW511); replace HB := zA hb; replace HI0 := zA hi; clear hb hk hi; obtain ⟨hcz37_0, hcz37_1, hcz37_2, hfz37_0, hfz37_1, hfz37_2⟩ := zh3 BK511; have hnb38 := NB507_0.out; have hnc38 := NB0_507.out; obtain ⟨hcz39_0, hcz39_1, hcz39_2, hfz39_0, hfz39_1, hfz39_2⟩ := zh3 BK507))
      refine bodyPost_ret (results_cell_row rfl _ _ gb507 32 #[.int .i64 a1, .int .i64 t524, .string (⟨#[]⟩ : ByteArray)] (0, 0) _ rfl (by (with_reducible repeat (first | refine blk_drewN ?_ _ | refine blk_drew ?_ | refine blk_alloc ?_ _)); refine blk_put (cs := #[.int .i64 a1, .int .i64 t524, .string (⟨#[]⟩ : ByteArray)]) ?_ 2 _ rfl; (with_reducible repeat (first | refine blk_drewN ?_ _ | refine blk_drew ?_ | refine blk_alloc ?_ _)); refine blk_put (cs := #[.int .i64 a1, .int .i64 0, .string (⟨#[]⟩ : ByteArray)]) ?_ 1 _ rfl; (with_reducible repeat (first | refine blk_drewN ?_ _ | refine blk_drew ?_ | refine blk_alloc ?_ _)); refine blk_put (cs := #[.int .i64 0, .int .i64 0, .string (⟨#[]⟩ : ByteArray)]) ?_ 0 _ rfl; (with_reducible repeat (first | refine blk_drewN ?_ _ | refine blk_drew ?_ | refine blk_alloc ?_ _)); refine blk_far ?_ NB507_511.out _; (with_reducible repeat (first | refine blk_drewN ?_ _ | refine blk_drew ?_ | refine blk_alloc ?_ _)); exact BK507.out) Try.underlying32 rfl (by kernel_rfl)) rfl ?_
      exact ⟨zw, zz7, zz12, zf2 GW507 GW511⟩
     ·rw [if_neg c25] at H
      have c25b0 : (a1 == 2) = false := beq_eq_false_iff_ne.mpr c25
      have c25b1 : (a1 != 2) = true := bne_iff_ne.mpr c25
      by_cases c40 : a1 = 3
      ·rw [if_pos c40] at H
       have c40b0 : (a1 == 3) = true := beq_iff_eq.mpr c40
       have c40b1 : (a1 != 3) = false := bne_eq_false_iff_eq.mpr c40
       clear c40
       replace H := zI H
       obtain ⟨⟨t527, t528, t529⟩, A41, H⟩ := H
       try dsimp only at H
       simp only [Option.some.injEq, Prod.mk.injEq] at H
       obtain ⟨rfl, rfl, rfl, rfl, rfl⟩ := H
       go_wp2_with (first | ((with_reducible refine zt 7 ?_); refine zn #[.int .i64 0, .int .i64 0, .string (⟨#[]⟩ : ByteArray)] 32 ?_; intro gb511 hg w42 hbox hb; replace HB := zS hb zz22; have BK511 := zA hbox; have GW511 := zA ((zz39 : w.heap.size ≤ gb511)); have GE511 := zA ((Nat.le_trans HW0.out (zz39 : w.heap.size ≤ gb511) : w0.heap.size ≤ gb511)); replace HK := zT (KeepBut.of_below hb g none) (zf1 GW507); have NB507_511 := zX BK507 hg; have NB511_507 := zY BK507 hg; replace BK507 := zB BK507 hb; have NB0_511 := zA ((zz52 : g ≠ gb511)); have NB511_0 := zA ((zz53 : gb511 ≠ g)); replace HI0 := zA (IsS102.below zz6 hb); clear hb hbox hg; have hnb43 := NB511_507.out; have hnc43 := NB507_511.out; have hnb44 := NB511_0.out; have hnc44 := NB0_511.out; obtain ⟨hcz45_0, hcz45_1, hcz45_2, hfz45_0, hfz45_1, hfz45_2⟩ := zh3 BK511) | ((with_reducible refine zg 122 ?_); refine gL (some 38) Try.func122 #[.pointer (some ⟨g, 0, none⟩)] ?_; (with_reducible refine (spec_l2Text.calls g s0_0 x1001_3 x1002_3 t527 t528 t529 w0 _ ?z1 ?z2 A41.out).mono ?_); (case z1 => exact zz7); (case z2 => exact zz12); rintro e w46 ⟨rfl, hi, hb, hk⟩; refine ⟨_, rfl, ?_⟩; replace BK507 := zA (KeepBut.blk hk (g' := gb507) (o := .cells #[.int .i64 0, .int .i64 0, .string (⟨#[]⟩ : ByteArray)] 32 (0, 0)) zz15 NB507_0.out (by simp)); replace BK511 := zA (KeepBut.blk hk (g' := gb511) (o := .cells #[.int .i64 a1, .int .i64 0, .string (⟨#[]⟩ : ByteArray)] 32 (0, 0)) zz9 NB511_0.out (by simp)); replace HK := zT hk (zf2 GW507 GW511); replace HB := zA hb; replace HI0 := zA hi; clear hb hk hi; obtain ⟨hcz47_0, hcz47_1, hcz47_2, hfz47_0, hfz47_1, hfz47_2⟩ := zh3 BK511; have hnb48 := NB507_0.out; have hnc48 := NB0_507.out; obtain ⟨hcz49_0, hcz49_1, hcz49_2, hfz49_0, hfz49_1, hfz49_2⟩ := zh3 BK507))
       refine bodyPost_ret (results_cell_row rfl _ _ gb507 32 #[.int .i64 a1, .int .i64 0, .string t527] (0, 0) _ rfl (by (with_reducible repeat (first | refine blk_drewN ?_ _ | refine blk_drew ?_ | refine blk_alloc ?_ _)); refine blk_put (cs := #[.int .i64 a1, .int .i64 0, .string (⟨#[]⟩ : ByteArray)]) ?_ 2 _ rfl; (with_reducible repeat (first | refine blk_drewN ?_ _ | refine blk_drew ?_ | refine blk_alloc ?_ _)); refine blk_put (cs := #[.int .i64 a1, .int .i64 0, .string (⟨#[]⟩ : ByteArray)]) ?_ 1 _ rfl; (with_reducible repeat (first | refine blk_drewN ?_ _ | refine blk_drew ?_ | refine blk_alloc ?_ _)); refine blk_put (cs := #[.int .i64 0, .int .i64 0, .string (⟨#[]⟩ : ByteArray)]) ?_ 0 _ rfl; (with_reducible repeat (first | refine blk_drewN ?_ _ | refine blk_drew ?_ | refine blk_alloc ?_ _)); refine blk_far ?_ NB507_511.out _; (with_reducible repeat (first | refine blk_drewN ?_ _ | refine blk_drew ?_ | refine blk_alloc ?_ _)); exact BK507.out) Try.underlying32 rfl (by kernel_rfl)) rfl ?_
       exact ⟨zw, zz7, zz12, zf2 GW507 GW511⟩
      ·rw [if_neg c40] at H
       have c40b0 : (a1 == 3) = false := beq_eq_false_iff_ne.mpr c40
       have c40b1 : (a1 != 3) = true := bne_iff_ne.mpr c40
       replace H := zI H
       obtain ⟨⟨t530, t531, t532⟩, A50, H⟩ := H
       try dsimp only at H
       simp only [Option.some.injEq, Prod.mk.injEq] at H
       obtain ⟨rfl, rfl, rfl, rfl, rfl⟩ := H
       go_wp2_with (first | ((with_reducible refine zt 7 ?_); refine zn #[.int .i64 0, .int .i64 0, .string (⟨#[]⟩ : ByteArray)] 32 ?_; intro gb511 hg w51 hbox hb; replace HB := zS hb zz22; have BK511 := zA hbox; have GW511 := zA ((zz39 : w.heap.size ≤ gb511)); have GE511 := zA ((Nat.le_trans HW0.out (zz39 : w.heap.size ≤ gb511) : w0.heap.size ≤ gb511)); replace HK := zT (KeepBut.of_below hb g none) (zf1 GW507); have NB507_511 := zX BK507 hg; have NB511_507 := zY BK507 hg; replace BK507 := zB BK507 hb; have NB0_511 := zA ((zz52 : g ≠ gb511)); have NB511_0 := zA ((zz53 : gb511 ≠ g)); replace HI0 := zA (IsS102.below zz6 hb); clear hb hbox hg; have hnb52 := NB511_507.out; have hnc52 := NB507_511.out; have hnb53 := NB511_0.out; have hnc53 := NB0_511.out; obtain ⟨hcz54_0, hcz54_1, hcz54_2, hfz54_0, hfz54_1, hfz54_2⟩ := zh3 BK511) | ((with_reducible refine zg 107 ?_); refine gL (some 18) Try.func107 #[.pointer (some ⟨g, 0, none⟩), .int .i64 2] ?_; (with_reducible refine (spec_l1Below.calls g s0_0 x1001_3 x1002_3 2 t530 t531 t532 w0 _ ?z1 ?z2 A50.out).mono ?_); (case z1 => exact zz7); (case z2 => exact zz12); rintro e w55 ⟨rfl, hi, hb, hk⟩; refine ⟨_, rfl, ?_⟩; replace BK507 := zA (KeepBut.blk hk (g' := gb507) (o := .cells #[.int .i64 0, .int .i64 0, .string (⟨#[]⟩ : ByteArray)] 32 (0, 0)) zz15 NB507_0.out (by simp)); replace BK511 := zA (KeepBut.blk hk (g' := gb511) (o := .cells #[.int .i64 a1, .int .i64 0, .string (⟨#[]⟩ : ByteArray)] 32 (0, 0)) zz9 NB511_0.out (by simp)); replace HK := zT hk (zf2 GW507 GW511); replace HB := zA hb; replace HI0 := zA hi; clear hb hk hi; obtain ⟨hcz56_0, hcz56_1, hcz56_2, hfz56_0, hfz56_1, hfz56_2⟩ := zh3 BK511; have hnb57 := NB507_0.out; have hnc57 := NB0_507.out; obtain ⟨hcz58_0, hcz58_1, hcz58_2, hfz58_0, hfz58_1, hfz58_2⟩ := zh3 BK507))
       refine bodyPost_ret (results_cell_row rfl _ _ gb507 32 #[.int .i64 a1, .int .i64 t530, .string (⟨#[]⟩ : ByteArray)] (0, 0) _ rfl (by (with_reducible repeat (first | refine blk_drewN ?_ _ | refine blk_drew ?_ | refine blk_alloc ?_ _)); refine blk_put (cs := #[.int .i64 a1, .int .i64 t530, .string (⟨#[]⟩ : ByteArray)]) ?_ 2 _ rfl; (with_reducible repeat (first | refine blk_drewN ?_ _ | refine blk_drew ?_ | refine blk_alloc ?_ _)); refine blk_put (cs := #[.int .i64 a1, .int .i64 0, .string (⟨#[]⟩ : ByteArray)]) ?_ 1 _ rfl; (with_reducible repeat (first | refine blk_drewN ?_ _ | refine blk_drew ?_ | refine blk_alloc ?_ _)); refine blk_put (cs := #[.int .i64 0, .int .i64 0, .string (⟨#[]⟩ : ByteArray)]) ?_ 0 _ rfl; (with_reducible repeat (first | refine blk_drewN ?_ _ | refine blk_drew ?_ | refine blk_alloc ?_ _)); refine blk_far ?_ NB507_511.out _; (with_reducible repeat (first | refine blk_drewN ?_ _ | refine blk_drew ?_ | refine blk_alloc ?_ _)); exact BK507.out) Try.underlying32 rfl (by kernel_rfl)) rfl ?_
       exact ⟨zw, zz7, zz12, zf2 GW507 GW511⟩

end Go.Proofs.Ytnfmpopmigbkoaa.PFnLessKeys

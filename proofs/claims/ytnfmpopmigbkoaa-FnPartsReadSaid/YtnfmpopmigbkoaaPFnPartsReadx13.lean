-- Written by mkprint.py, a program of this session (the printer with additions of its own)
import Derived.Test.YtnfmpopmigbkoaaPFnPartsReadx0
import Derived.Test.YtnfmpopmigbkoaaPFnPartsReadx12
namespace Go.Proofs.Ytnfmpopmigbkoaa.PFnPartsRead
open Go.RowKit Go.Proofs.YtnfmpopmigbkoaaW.PrintWords Go.Proofs.YtnfmpopmigbkoaaW.PrintLast Go.Proofs.YtnfmpopmigbkoaaW.PrintMore
attribute [local go_sem] max2_int min2_int max_two min_two max_three min_three max_four min_four   -- for this text's walks alone
set_option linter.unusedVariables false
set_option linter.unusedSimpArgs false

/-! ### spec_l1Int: function 108 -/
def spec_l1Int.f (s0_0 : List Int) (s0_1 : Int) (s0_2 : Int) (l1 : List Int) : Option (Int × Int × Int) := (spec_l1Below.f s0_0 s0_1 s0_2 (l1.length : Int)).bind fun bt520 => (if 0 ≤ bt520.1 then (if bt520.1 < (l1.length : Int) then (some (rd l1 bt520.1, bt520.2.1, bt520.2.2)) else (none)) else (none))
set_option maxHeartbeats 8000000 in
set_option maxRecDepth 100000 in
theorem spec_l1Int.calls (g : Nat) (s0_0 : List Int) (s0_1 : Int) (s0_2 : Int) (A1 : Option Addr) (c1 : Nat) (l1 : List Int) (r1 : Int) (r2 : Int) (r3 : Int) (w0 w : World) (hI : IsS102 w0 w g s0_0 s0_1 s0_2) (hB : Below w0.heap.size w0 w) (hr1 : Kd.C (Kd.int .i64) w A1 l1.length l1) (hc1 : l1.length ≤ c1) (hf1 : ∀ ad, A1 = some ad → 0 < l1.length → ad.block ≠ g) (h : spec_l1Int.f s0_0 s0_1 s0_2 l1 = some (r1, r2, r3)) :
  Calls Try.prog 108 #[.pointer (some ⟨g, 0, none⟩), .slice A1 l1.length c1] w fun e w' => e = .returned (.int .i64 r1) ∧ IsS102 w0 w' g s0_0 r2 r3 ∧ Below w0.heap.size w0 w' ∧ KeepBut w w' g none := by
 have HR1 := zA hr1
 have HC1 := zA hc1
 clear hr1 hc1
 have HI0 := zA hI
 have HK := zA (KeepBut.refl w g none)
 have HL := zA hB.size
 clear hI
 have HW0 := zA hB.size
 have HB := zA hB
 clear hB
 have H : ((spec_l1Below.f s0_0 s0_1 s0_2 (l1.length : Int)).bind fun bt520 => (if 0 ≤ bt520.1 then (if bt520.1 < (l1.length : Int) then (some (rd l1 bt520.1, bt520.2.1, bt520.2.2)) else (none)) else (none))) = some (r1, r2, r3) := h
 clear h
 replace H := zI H
 obtain ⟨⟨t520, t521, t522⟩, A3, H⟩ := H
 try dsimp only at H
 by_cases c4 : 0 ≤ t520
 ·rw [if_pos c4] at H
  have c4b0 : decide (0 ≤ t520) = true := decide_eq_true c4
  clear c4
  by_cases c5 : t520 < (l1.length : Int)
  ·rw [if_pos c5] at H
   have c5b0 : decide (t520 < (l1.length : Int)) = true := decide_eq_true c5
   clear c5
   simp only [Option.some.injEq, Prod.mk.injEq] at H
   obtain ⟨rfl, rfl, rfl⟩ := H
   go_enter Try.func108, Try.ntmps108
   go_wp2_with (first | ((with_reducible refine zg 107 ?_); refine gL (some 9) Try.func107 #[.pointer (some ⟨g, 0, none⟩), .int .i64 (l1.length : Int)] ?_; (with_reducible refine (spec_l1Below.calls g s0_0 s0_1 s0_2 (l1.length : Int) t520 t521 t522 w0 _ ?z1 ?z2 A3.out).mono ?_); (case z1 => exact zz0); (case z2 => exact zz1); rintro e w6 ⟨rfl, hi, hb, hk⟩; refine ⟨_, rfl, ?_⟩; replace HK := zT hk; replace HB := zA hb; replace HI0 := zA hi; clear hb hk hi; have p523 : 0 ≤ (t520 : Int) := of_decide_eq_true za; have q523 : t520 < (l1.length : Int) := of_decide_eq_true za; obtain ⟨ad523, e523, hx523_0⟩ := Kd.at_int HR1.out t520 p523 q523; cases e523; replace hx523_0 := keep_cell HK.out hx523_0 (by first | (rw [add_block]; exact hf1 _ rfl (by omega)) | exact hf1 _ rfl (by omega) | exact hf1 ad523 rfl (by omega)); replace p523 := eq_true p523; replace q523 := eq_true q523))
   go_ret
   exact ⟨zw, zz0, zz1, zf⟩
  ·rw [if_neg c5] at H
   exact absurd H (by simp)
 ·rw [if_neg c4] at H
  exact absurd H (by simp)

/-! ### spec_l5Any: function 76 -/
def spec_l5Any.f (s0_0 : List Int) (s0_1 : Int) (s0_2 : Int) : Option (Int × Int × Bool × Bool × Int × Int) := (spec_l1Below.f s0_0 s0_1 s0_2 3).bind fun bt525 => ((spec_l5Draw.f s0_0 bt525.2.1 bt525.2.2 bt525.1).bind fun bt528 => ((spec_l1Below.f s0_0 bt528.2.2.2.2.1 bt528.2.2.2.2.2 12).bind fun bt535 => (if bt535.1 = 0 then ((spec_l1Int.f s0_0 bt535.2.1 bt535.2.2 (([(-1), 9, 10] : List Int))).bind fun bt541 => (some (bt541.1, bt528.2.1, bt528.2.2.1, bt528.2.2.2.1, bt541.2.1, bt541.2.2))) else (if bt535.1 = 1 then ((spec_l1Below.f s0_0 bt535.2.1 bt535.2.2 6).bind fun bt544 => (some (bt528.1, bt544.1, bt528.2.2.1, bt528.2.2.2.1, bt544.2.1, bt544.2.2))) else (some (bt528.1, bt528.2.1, bt528.2.2.1, bt528.2.2.2.1, bt535.2.1, bt535.2.2))))))
set_option maxHeartbeats 8000000 in
set_option maxRecDepth 100000 in
theorem spec_l5Any.calls (g : Nat) (s0_0 : List Int) (s0_1 : Int) (s0_2 : Int) (r1 : Int) (r2 : Int) (r3 : Bool) (r4 : Bool) (r5 : Int) (r6 : Int) (w0 w : World) (hI : IsS102 w0 w g s0_0 s0_1 s0_2) (hB : Below w0.heap.size w0 w) (h : spec_l5Any.f s0_0 s0_1 s0_2 = some (r1, r2, r3, r4, r5, r6)) :
  Calls Try.prog 76 #[.pointer (some ⟨g, 0, none⟩)] w fun e w' => e = .returned (.agg #[.int .i64 r1, .int .i64 r2, .bool r3, .bool r4]) ∧ IsS102 w0 w' g s0_0 r5 r6 ∧ Below w0.heap.size w0 w' ∧ KeepBut w w' g none := by
 have hu30 := Try.underlying30
 have HI0 := zA hI
 have HK := zA (KeepBut.refl w g none)
 have HL := zA hB.size
 clear hI
 have HW0 := zA hB.size
 have HB := zA hB
 clear hB
 have H : ((spec_l1Below.f s0_0 s0_1 s0_2 3).bind fun bt525 => ((spec_l5Draw.f s0_0 bt525.2.1 bt525.2.2 bt525.1).bind fun bt528 => ((spec_l1Below.f s0_0 bt528.2.2.2.2.1 bt528.2.2.2.2.2 12).bind fun bt535 => (if bt535.1 = 0 then ((spec_l1Int.f s0_0 bt535.2.1 bt535.2.2 (([(-1), 9, 10] : List Int))).bind fun bt541 => (some (bt541.1, bt528.2.1, bt528.2.2.1, bt528.2.2.2.1, bt541.2.1, bt541.2.2))) else (if bt535.1 = 1 then ((spec_l1Below.f s0_0 bt535.2.1 bt535.2.2 6).bind fun bt544 => (some (bt528.1, bt544.1, bt528.2.2.1, bt528.2.2.2.1, bt544.2.1, bt544.2.2))) else (some (bt528.1, bt528.2.1, bt528.2.2.1, bt528.2.2.2.1, bt535.2.1, bt535.2.2))))))) = some (r1, r2, r3, r4, r5, r6) := h
 clear h
 replace H := zI H
 obtain ⟨⟨t525, t526, t527⟩, A2, H⟩ := H
 try dsimp only at H
 replace H := zI H
 obtain ⟨⟨t528, t529, t530, t531, t532, t533⟩, A3, H⟩ := H
 try dsimp only at H
 replace H := zI H
 obtain ⟨⟨t535, t536, t537⟩, A4, H⟩ := H
 try dsimp only at H
 by_cases c5 : t535 = 0
 ·rw [if_pos c5] at H
  have c5b0 : (t535 == 0) = true := beq_iff_eq.mpr c5
  have c5b1 : (t535 != 0) = false := bne_eq_false_iff_eq.mpr c5
  clear c5
  obtain ⟨y538, hy538⟩ : ∃ y_ : List Int, y_ = (([(-1), 9, 10] : List Int)) := ⟨_, rfl⟩
  replace H : ((spec_l1Int.f s0_0 t536 t537 y538).bind fun bt541 => (some (bt541.1, t529, t530, t531, bt541.2.1, bt541.2.2))) = some (r1, r2, r3, r4, r5, r6) := by first | (rw [hy538]; with_reducible exact H) | (have H2_ := (Option.bind_some _ _).symm.trans H; rw [hy538]; with_reducible exact H2_) | (have H2_ := (Option.bind_some _ _).symm.trans H; with_reducible exact H2_) | with_reducible exact H | (rw [hy538]; exact H) | exact H
  have Ny538 := zA hy538
  clear hy538
  replace H := zI H
  obtain ⟨⟨t541, t542, t543⟩, A6, H⟩ := H
  try dsimp only at H
  simp only [Option.some.injEq, Prod.mk.injEq] at H
  obtain ⟨rfl, rfl, rfl, rfl, rfl, rfl⟩ := H
  go_enter Try.func76, Try.ntmps76
  go_wp2_with (first | ((with_reducible refine zt 2 ?_); refine zn #[.int .i64 0, .int .i64 0, .bool false, .bool false] 30 ?_; intro gb524 hg w7 hbox hb; replace HB := zS hb zz1; have BK524 := zA hbox; have GW524 := zA ((zz43 : w.heap.size ≤ gb524)); have GE524 := zA ((Nat.le_trans HW0.out (zz43 : w.heap.size ≤ gb524) : w0.heap.size ≤ gb524)); replace HK := zT (KeepBut.of_below hb g none); have NB0_524 := zA ((zz104 : g ≠ gb524)); have NB524_0 := zA ((zz105 : gb524 ≠ g)); replace HI0 := zA (IsS102.below zz0 hb); clear hb hbox hg) | ((with_reducible refine zg 107 ?_); refine gL (some 6) Try.func107 #[.pointer (some ⟨g, 0, none⟩), .int .i64 3] ?_; (with_reducible refine (spec_l1Below.calls g s0_0 s0_1 s0_2 3 t525 t526 t527 w0 _ ?z1 ?z2 A2.out).mono ?_); (case z1 => exact zz22); (case z2 => exact zz42); rintro e w8 ⟨rfl, hi, hb, hk⟩; refine ⟨_, rfl, ?_⟩; replace BK524 := zV hk BK524 NB524_0; replace HK := zT hk (zf1 GW524); replace HB := zA hb; replace HI0 := zA hi; clear hb hk hi) | ((with_reducible refine zg 106 ?_); refine gL (some 7) Try.func106 #[.pointer (some ⟨g, 0, none⟩), .int .i64 t525] ?_; (with_reducible refine (spec_l5Draw.calls g s0_0 t526 t527 t525 t528 t529 t530 t531 t532 t533 w0 _ ?z1 ?z2 A3.out).mono ?_); (case z1 => exact zz22); (case z2 => exact zz42); rintro e w9 ⟨rfl, hi, hb, hk⟩; refine ⟨_, rfl, ?_⟩; replace BK524 := zV hk BK524 NB524_0; replace HK := zT hk (zf1 GW524); replace HB := zA hb; replace HI0 := zA hi; clear hb hk hi) | ((with_reducible refine zt 3 ?_); refine zn #[.int .i64 0, .int .i64 0, .bool false, .bool false] 30 ?_; intro gb534 hg w10 hbox hb; replace HB := zS hb zz42; have BK534 := zA hbox; have GW534 := zA ((zz90 : w.heap.size ≤ gb534)); have GE534 := zA ((Nat.le_trans HW0.out (zz90 : w.heap.size ≤ gb534) : w0.heap.size ≤ gb534)); replace HK := zT (KeepBut.of_below hb g none) (zf1 GW524); have NB524_534 := zX BK524 hg; have NB534_524 := zY BK524 hg; replace BK524 := zB BK524 hb; have NB0_534 := zA ((zz110 : g ≠ gb534)); have NB534_0 := zA ((zz111 : gb534 ≠ g)); replace HI0 := zA (IsS102.below zz22 hb); clear hb hbox hg; have hnb11 := NB534_524.out; have hnc11 := NB524_534.out; have hnb12 := NB534_0.out; have hnc12 := NB0_534.out; obtain ⟨hcz13_0, hcz13_1, hcz13_2, hcz13_3, hfz13_0, hfz13_1, hfz13_2, hfz13_3⟩ := zh4 BK534) | ((with_reducible refine zg 107 ?_); refine gL (some 9) Try.func107 #[.pointer (some ⟨g, 0, none⟩), .int .i64 12] ?_; (with_reducible refine (spec_l1Below.calls g s0_0 t532 t533 12 t535 t536 t537 w0 _ ?z1 ?z2 A4.out).mono ?_); (case z1 => exact zz33); (case z2 => exact zz36); rintro e w14 ⟨rfl, hi, hb, hk⟩; refine ⟨_, rfl, ?_⟩; replace BK524 := zA (KeepBut.blk hk (g' := gb524) (o := .cells #[.int .i64 0, .int .i64 0, .bool false, .bool false] 30 (0, 0)) zz40 NB524_0.out (by simp)); replace BK534 := zA (KeepBut.blk hk (g' := gb534) (o := .cells #[.int .i64 t528, .int .i64 t529, .bool t530, .bool t531] 30 (0, 0)) zz29 NB534_0.out (by simp)); replace HK := zT hk (zf2 GW524 GW534); replace HB := zA hb; replace HI0 := zA hi; clear hb hk hi) | ((with_reducible refine zt 13 ?_); refine Kd.R_lit (Kd.int .i64) _ 3 ?hg (N := 13) ?hd (xs := ([(-1), 9, 10] : List Int)) (inner := [.int .i64 (-1), .int .i64 9, .int .i64 10]) (ok := fun _ => True) (okp := fun _ => True) ?hr ?hp (fun _ hk => hk) trivial (Below.refl _ _) (Nat.le_refl _) (by simp) ?_; (case hd => rfl); (case hg => rfl); (case hr => exact zz35); (case hp => exact (Reps.one (show Kd.M (Kd.int .i64) _ _ _ (-1) [.int .i64 (-1)] from rfl) (Reps.one (show Kd.M (Kd.int .i64) _ _ _ 9 [.int .i64 9] from rfl) (Reps.one (show Kd.M (Kd.int .i64) _ _ _ 10 [.int .i64 10] from rfl) (Reps.none _ _))))); intro v539 w15 ho16 hb hg_ hnew_; clear hg_ hnew_; (first | rw [← Ny538.out] at ho16 | (simp only [Int.reduceToNat] at ho16; rw [← Ny538.out] at ho16)); have HO540 := zA (Kd.R_lower ho16 (keep_size (w := w) (g := g) (row := none) (zf2 GW524 GW534))); replace BK524 := zB BK524 hb; replace BK534 := zB BK534 hb; replace HK := zT (KeepBut.of_below hb g none) (zf2 GW524 GW534); replace HB := zS hb zz36; replace HI0 := zA (IsS102.below zz33 hb); clear hb ho16; obtain ⟨Ao17, co17, eo17⟩ := Kd.R_slice HO540.out; subst eo17) | ((with_reducible refine zg 108 ?_); refine gL (some 14) Try.func108 #[.pointer (some ⟨g, 0, none⟩), .slice Ao17 y538.length co17] ?_; (with_reducible refine (spec_l1Int.calls g s0_0 t536 t537 _ _ y538 t541 t542 t543 w0 _ ?z1 ?z2 ?z3 ?z4 ?z5 A6.out).mono ?_); (case z1 => exact zz33); (case z2 => exact zz36); (case z3 => exact ze HO540); (case z4 => exact zl HO540); (case z5 => exact far_slice (IsS102.own_ne HI0.out HO540.out (by decide))); rintro e w18 ⟨rfl, hi, hb, hk⟩; refine ⟨_, rfl, ?_⟩; replace BK524 := zV hk BK524 NB524_0; replace BK534 := zV hk BK534 NB534_0; replace HO540 := zA (Kd.R_mono (Kd.R_keep (IsS102.apart (show IsS102 w0 _ g s0_0 t536 t537 from zz33) (zr HO540) (by decide)) hk (fun _ h => h.2)) (fun _ h => h.1)); replace HK := zT hk (zf2 GW524 GW534); replace HB := zA hb; replace HI0 := zA hi; clear hb hk hi; obtain ⟨hcz19_0, hcz19_1, hcz19_2, hcz19_3, hfz19_0, hfz19_1, hfz19_2, hfz19_3⟩ := zh4 BK534; have hnb20 := NB524_0.out; have hnc20 := NB0_524.out; obtain ⟨hcz21_0, hcz21_1, hcz21_2, hcz21_3, hfz21_0, hfz21_1, hfz21_2, hfz21_3⟩ := zh4 BK524))
  refine bodyPost_ret (results_cell_row rfl _ _ gb524 30 #[.int .i64 t541, .int .i64 t529, .bool t530, .bool t531] (0, 0) _ rfl (by (with_reducible repeat (first | refine blk_drewN ?_ _ | refine blk_drew ?_ | refine blk_alloc ?_ _)); refine blk_put (cs := #[.int .i64 t541, .int .i64 t529, .bool t530, .bool false]) ?_ 3 _ rfl; (with_reducible repeat (first | refine blk_drewN ?_ _ | refine blk_drew ?_ | refine blk_alloc ?_ _)); refine blk_put (cs := #[.int .i64 t541, .int .i64 t529, .bool false, .bool false]) ?_ 2 _ rfl; (with_reducible repeat (first | refine blk_drewN ?_ _ | refine blk_drew ?_ | refine blk_alloc ?_ _)); refine blk_put (cs := #[.int .i64 t541, .int .i64 0, .bool false, .bool false]) ?_ 1 _ rfl; (with_reducible repeat (first | refine blk_drewN ?_ _ | refine blk_drew ?_ | refine blk_alloc ?_ _)); refine blk_put (cs := #[.int .i64 0, .int .i64 0, .bool false, .bool false]) ?_ 0 _ rfl; (with_reducible repeat (first | refine blk_drewN ?_ _ | refine blk_drew ?_ | refine blk_alloc ?_ _)); refine blk_far ?_ NB524_534.out _; (with_reducible repeat (first | refine blk_drewN ?_ _ | refine blk_drew ?_ | refine blk_alloc ?_ _)); exact BK524.out) Try.underlying30 rfl (by kernel_rfl)) rfl ?_
  exact ⟨zw, zz33, zz36, zf2 GW524 GW534⟩
 ·rw [if_neg c5] at H
  have c5b0 : (t535 == 0) = false := beq_eq_false_iff_ne.mpr c5
  have c5b1 : (t535 != 0) = true := bne_iff_ne.mpr c5
  by_cases c22 : t535 = 1
  ·rw [if_pos c22] at H
   have c22b0 : (t535 == 1) = true := beq_iff_eq.mpr c22
   have c22b1 : (t535 != 1) = false := bne_eq_false_iff_eq.mpr c22
   clear c22
   replace H := zI H
   obtain ⟨⟨t544, t545, t546⟩, A23, H⟩ := H
   try dsimp only at H
   simp only [Option.some.injEq, Prod.mk.injEq] at H
   obtain ⟨rfl, rfl, rfl, rfl, rfl, rfl⟩ := H
   go_enter Try.func76, Try.ntmps76
   go_wp2_with (first | ((with_reducible refine zt 2 ?_); refine zn #[.int .i64 0, .int .i64 0, .bool false, .bool false] 30 ?_; intro gb524 hg w24 hbox hb; replace HB := zS hb zz1; have BK524 := zA hbox; have GW524 := zA ((zz43 : w.heap.size ≤ gb524)); have GE524 := zA ((Nat.le_trans HW0.out (zz43 : w.heap.size ≤ gb524) : w0.heap.size ≤ gb524)); replace HK := zT (KeepBut.of_below hb g none); have NB0_524 := zA ((zz104 : g ≠ gb524)); have NB524_0 := zA ((zz105 : gb524 ≠ g)); replace HI0 := zA (IsS102.below zz0 hb); clear hb hbox hg) | ((with_reducible refine zg 107 ?_); refine gL (some 6) Try.func107 #[.pointer (some ⟨g, 0, none⟩), .int .i64 3] ?_; (with_reducible refine (spec_l1Below.calls g s0_0 s0_1 s0_2 3 t525 t526 t527 w0 _ ?z1 ?z2 A2.out).mono ?_); (case z1 => exact zz22); (case z2 => exact zz42); rintro e w25 ⟨rfl, hi, hb, hk⟩; refine ⟨_, rfl, ?_⟩; replace BK524 := zV hk BK524 NB524_0; replace HK := zT hk (zf1 GW524); replace HB := zA hb; replace HI0 := zA hi; clear hb hk hi) | ((with_reducible refine zg 106 ?_); refine gL (some 7) Try.func106 #[.pointer (some ⟨g, 0, none⟩), .int .i64 t525] ?_; (with_reducible refine (spec_l5Draw.calls g s0_0 t526 t527 t525 t528 t529 t530 t531 t532 t533 w0 _ ?z1 ?z2 A3.out).mono ?_); (case z1 => exact zz22); (case z2 => exact zz42); rintro e w26 ⟨rfl, hi, hb, hk⟩; refine ⟨_, rfl, ?_⟩; replace BK524 := zV hk BK524 NB524_0; replace HK := zT hk (zf1 GW524); replace HB := zA hb; replace HI0 := zA hi; clear hb hk hi) | ((with_reducible refine zt 3 ?_); refine zn #[.int .i64 0, .int .i64 0, .bool false, .bool false] 30 ?_; intro gb534 hg w27 hbox hb; replace HB := zS hb zz42; have BK534 := zA hbox; have GW534 := zA ((zz90 : w.heap.size ≤ gb534)); have GE534 := zA ((Nat.le_trans HW0.out (zz90 : w.heap.size ≤ gb534) : w0.heap.size ≤ gb534)); replace HK := zT (KeepBut.of_below hb g none) (zf1 GW524); have NB524_534 := zX BK524 hg; have NB534_524 := zY BK524 hg; replace BK524 := zB BK524 hb; have NB0_534 := zA ((zz110 : g ≠ gb534)); have NB534_0 := zA ((zz111 : gb534 ≠ g)); replace HI0 := zA (IsS102.below zz22 hb); clear hb hbox hg; have hnb28 := NB534_524.out; have hnc28 := NB524_534.out; have hnb29 := NB534_0.out; have hnc29 := NB0_534.out; obtain ⟨hcz30_0, hcz30_1, hcz30_2, hcz30_3, hfz30_0, hfz30_1, hfz30_2, hfz30_3⟩ := zh4 BK534) | ((with_reducible refine zg 107 ?_); refine gL (some 9) Try.func107 #[.pointer (some ⟨g, 0, none⟩), .int .i64 12] ?_; (with_reducible refine (spec_l1Below.calls g s0_0 t532 t533 12 t535 t536 t537 w0 _ ?z1 ?z2 A4.out).mono ?_); (case z1 => exact zz33); (case z2 => exact zz36); rintro e w31 ⟨rfl, hi, hb, hk⟩; refine ⟨_, rfl, ?_⟩; replace BK524 := zA (KeepBut.blk hk (g' := gb524) (o := .cells #[.int .i64 0, .int .i64 0, .bool false, .bool false] 30 (0, 0)) zz40 NB524_0.out (by simp)); replace BK534 := zA (KeepBut.blk hk (g' := gb534) (o := .cells #[.int .i64 t528, .int .i64 t529, .bool t530, .bool t531] 30 (0, 0)) zz29 NB534_0.out (by simp)); replace HK := zT hk (zf2 GW524 GW534); replace HB := zA hb; replace HI0 := zA hi; clear hb hk hi) | ((with_reducible refine zg 107 ?_); refine gL (some 19) Try.func107 #[.pointer (some ⟨g, 0, none⟩), .int .i64 6] ?_; (with_reducible refine (spec_l1Below.calls g s0_0 t536 t537 6 t544 t545 t546 w0 _ ?z1 ?z2 A23.out).mono ?_); (case z1 => exact zz33); (case z2 => exact zz36); rintro e w32 ⟨rfl, hi, hb, hk⟩; refine ⟨_, rfl, ?_⟩; replace BK524 := zV hk BK524 NB524_0; replace BK534 := zV hk BK534 NB534_0; replace HK := zT hk (zf2 GW524 GW534); replace HB := zA hb; replace HI0 := zA hi; clear hb hk hi; obtain ⟨hcz33_0, hcz33_1, hcz33_2, hcz33_3, hfz33_0, hfz33_1, hfz33_2, hfz33_3⟩ := zh4 BK534; have hnb34 := NB524_0.out; have hnc34 := NB0_524.out; obtain ⟨hcz35_0, hcz35_1, hcz35_2, hcz35_3, hfz35_0, hfz35_1, hfz35_2, hfz35_3⟩ := zh4 BK524))
   refine bodyPost_ret (results_cell_row rfl _ _ gb524 30 #[.int .i64 t528, .int .i64 t544, .bool t530, .bool t531] (0, 0) _ rfl (by (with_reducible repeat (first | refine blk_drewN ?_ _ | refine blk_drew ?_ | refine blk_alloc ?_ _)); refine blk_put (cs := #[.int .i64 t528, .int .i64 t544, .bool t530, .bool false]) ?_ 3 _ rfl; (with_reducible repeat (first | refine blk_drewN ?_ _ | refine blk_drew ?_ | refine blk_alloc ?_ _)); refine blk_put (cs := #[.int .i64 t528, .int .i64 t544, .bool false, .bool false]) ?_ 2 _ rfl; (with_reducible repeat (first | refine blk_drewN ?_ _ | refine blk_drew ?_ | refine blk_alloc ?_ _)); refine blk_put (cs := #[.int .i64 t528, .int .i64 0, .bool false, .bool false]) ?_ 1 _ rfl; (with_reducible repeat (first | refine blk_drewN ?_ _ | refine blk_drew ?_ | refine blk_alloc ?_ _)); refine blk_put (cs := #[.int .i64 0, .int .i64 0, .bool false, .bool false]) ?_ 0 _ rfl; (with_reducible repeat (first | refine blk_drewN ?_ _ | refine blk_drew ?_ | refine blk_alloc ?_ _)); refine blk_far ?_ NB524_534.out _; (with_reducible repeat (first | refine blk_drewN ?_ _ | refine blk_drew ?_ | refine blk_alloc ?_ _)); exact BK524.out) Try.underlying30 rfl (by kernel_rfl)) rfl ?_
   exact ⟨zw, zz33, zz36, zf2 GW524 GW534⟩
  ·rw [if_neg c22] at H
   have c22b0 : (t535 == 1) = false := beq_eq_false_iff_ne.mpr c22
   have c22b1 : (t535 != 1) = true := bne_iff_ne.mpr c22
   simp only [Option.some.injEq, Prod.mk.injEq] at H
   obtain ⟨rfl, rfl, rfl, rfl, rfl, rfl⟩ := H
   go_enter Try.func76, Try.ntmps76
   go_wp2_with (first | ((with_reducible refine zt 2 ?_); refine zn #[.int .i64 0, .int .i64 0, .bool false, .bool false] 30 ?_; intro gb524 hg w36 hbox hb; replace HB := zS hb zz1; have BK524 := zA hbox; have GW524 := zA ((zz43 : w.heap.size ≤ gb524)); have GE524 := zA ((Nat.le_trans HW0.out (zz43 : w.heap.size ≤ gb524) : w0.heap.size ≤ gb524)); replace HK := zT (KeepBut.of_below hb g none); have NB0_524 := zA ((zz104 : g ≠ gb524)); have NB524_0 := zA ((zz105 : gb524 ≠ g)); replace HI0 := zA (IsS102.below zz0 hb); clear hb hbox hg) | ((with_reducible refine zg 107 ?_); refine gL (some 6) Try.func107 #[.pointer (some ⟨g, 0, none⟩), .int .i64 3] ?_; (with_reducible refine (spec_l1Below.calls g s0_0 s0_1 s0_2 3 t525 t526 t527 w0 _ ?z1 ?z2 A2.out).mono ?_); (case z1 => exact zz22); (case z2 => exact zz42); rintro e w37 ⟨rfl, hi, hb, hk⟩; refine ⟨_, rfl, ?_⟩; replace BK524 := zV hk BK524 NB524_0; replace HK := zT hk (zf1 GW524); replace HB := zA hb; replace HI0 := zA hi; clear hb hk hi) | ((with_reducible refine zg 106 ?_); refine gL (some 7) Try.func106 #[.pointer (some ⟨g, 0, none⟩), .int .i64 t525] ?_; (with_reducible refine (spec_l5Draw.calls g s0_0 t526 t527 t525 t528 t529 t530 t531 t532 t533 w0 _ ?z1 ?z2 A3.out).mono ?_); (case z1 => exact zz22); (case z2 => exact zz42); rintro e w38 ⟨rfl, hi, hb, hk⟩; refine ⟨_, rfl, ?_⟩; replace BK524 := zV hk BK524 NB524_0; replace HK := zT hk (zf1 GW524); replace HB := zA hb; replace HI0 := zA hi; clear hb hk hi) | ((with_reducible refine zt 3 ?_); refine zn #[.int .i64 0, .int .i64 0, .bool false, .bool false] 30 ?_; intro gb534 hg w39 hbox hb; replace HB := zS hb zz42; have BK534 := zA hbox; have GW534 := zA ((zz90 : w.heap.size ≤ gb534)); have GE534 := zA ((Nat.le_trans HW0.out (zz90 : w.heap.size ≤ gb534) : w0.heap.size ≤ gb534)); replace HK := zT (KeepBut.of_below hb g none) (zf1 GW524); have NB524_534 := zX BK524 hg; have NB534_524 := zY BK524 hg; replace BK524 := zB BK524 hb; have NB0_534 := zA ((zz110 : g ≠ gb534)); have NB534_0 := zA ((zz111 : gb534 ≠ g)); replace HI0 := zA (IsS102.below zz22 hb); clear hb hbox hg; have hnb40 := NB534_524.out; have hnc40 := NB524_534.out; have hnb41 := NB534_0.out; have hnc41 := NB0_534.out; obtain ⟨hcz42_0, hcz42_1, hcz42_2, hcz42_3, hfz42_0, hfz42_1, hfz42_2, hfz42_3⟩ := zh4 BK534) | ((with_reducible refine zg 107 ?_); refine gL (some 9) Try.func107 #[.pointer (some ⟨g, 0, none⟩), .int .i64 12] ?_; (with_reducible refine (spec_l1Below.calls g s0_0 t532 t533 12 t535 t536 t537 w0 _ ?z1 ?z2 A4.out).mono ?_); (case z1 => exact zz33); (case z2 => exact zz36); rintro e w43 ⟨rfl, hi, hb, hk⟩; refine ⟨_, rfl, ?_⟩; replace BK524 := zA (KeepBut.blk hk (g' := gb524) (o := .cells #[.int .i64 0, .int .i64 0, .bool false, .bool false] 30 (0, 0)) zz40 NB524_0.out (by simp)); replace BK534 := zA (KeepBut.blk hk (g' := gb534) (o := .cells #[.int .i64 t528, .int .i64 t529, .bool t530, .bool t531] 30 (0, 0)) zz29 NB534_0.out (by simp)); replace HK := zT hk (zf2 GW524 GW534); replace HB := zA hb; replace HI0 := zA hi; clear hb hk hi; obtain ⟨hcz44_0, hcz44_1, hcz44_2, hcz44_3, hfz44_0, hfz44_1, hfz44_2, hfz44_3⟩ := zh4 BK534; have hnb45 := NB524_0.out; have hnc45 := NB0_524.out; obtain ⟨hcz46_0, hcz46_1, hcz46_2, hcz46_3, hfz46_0, hfz46_1, hfz46_2, hfz46_3⟩ := zh4 BK524))
   refine bodyPost_ret (results_cell_row rfl _ _ gb524 30 #[.int .i64 t528, .int .i64 t529, .bool t530, .bool t531] (0, 0) _ rfl (by (with_reducible repeat (first | refine blk_drewN ?_ _ | refine blk_drew ?_ | refine blk_alloc ?_ _)); refine blk_put (cs := #[.int .i64 t528, .int .i64 t529, .bool t530, .bool false]) ?_ 3 _ rfl; (with_reducible repeat (first | refine blk_drewN ?_ _ | refine blk_drew ?_ | refine blk_alloc ?_ _)); refine blk_put (cs := #[.int .i64 t528, .int .i64 t529, .bool false, .bool false]) ?_ 2 _ rfl; (with_reducible repeat (first | refine blk_drewN ?_ _ | refine blk_drew ?_ | refine blk_alloc ?_ _)); refine blk_put (cs := #[.int .i64 t528, .int .i64 0, .bool false, .bool false]) ?_ 1 _ rfl; (with_reducible repeat (first | refine blk_drewN ?_ _ | refine blk_drew ?_ | refine blk_alloc ?_ _)); refine blk_put (cs := #[.int .i64 0, .int .i64 0, .bool false, .bool false]) ?_ 0 _ rfl; (with_reducible repeat (first | refine blk_drewN ?_ _ | refine blk_drew ?_ | refine blk_alloc ?_ _)); exact BK524.out) Try.underlying30 rfl (by kernel_rfl)) rfl ?_
   exact ⟨zw, zz33, zz36, zf2 GW524 GW534⟩

/-! ### spec_l1Str: function 114 -/
def spec_l1Str.f (s0_0 : List Int) (s0_1 : Int) (s0_2 : Int) (l1 : List ByteArray) : Option (ByteArray × Int × Int) := (spec_l1Below.f s0_0 s0_1 s0_2 (l1.length : Int)).bind fun bt547 => (if 0 ≤ bt547.1 then (if bt547.1 < (l1.length : Int) then (some (rdOf ByteArray.empty l1 bt547.1, bt547.2.1, bt547.2.2)) else (none)) else (none))
set_option maxHeartbeats 8000000 in
set_option maxRecDepth 100000 in
theorem spec_l1Str.calls (g : Nat) (s0_0 : List Int) (s0_1 : Int) (s0_2 : Int) (A1 : Option Addr) (c1 : Nat) (l1 : List ByteArray) (r1 : ByteArray) (r2 : Int) (r3 : Int) (w0 w : World) (hI : IsS102 w0 w g s0_0 s0_1 s0_2) (hB : Below w0.heap.size w0 w) (hr1 : Kd.C Kd.string w A1 l1.length l1) (hc1 : l1.length ≤ c1) (hf1 : ∀ ad, A1 = some ad → 0 < l1.length → ad.block ≠ g) (h : spec_l1Str.f s0_0 s0_1 s0_2 l1 = some (r1, r2, r3)) :
  Calls Try.prog 114 #[.pointer (some ⟨g, 0, none⟩), .slice A1 l1.length c1] w fun e w' => e = .returned (.string r1) ∧ IsS102 w0 w' g s0_0 r2 r3 ∧ Below w0.heap.size w0 w' ∧ KeepBut w w' g none := by
 have HR1 := zA hr1
 have HC1 := zA hc1
 clear hr1 hc1
 have HI0 := zA hI
 have HK := zA (KeepBut.refl w g none)
 have HL := zA hB.size
 clear hI
 have HW0 := zA hB.size
 have HB := zA hB
 clear hB
 have H : ((spec_l1Below.f s0_0 s0_1 s0_2 (l1.length : Int)).bind fun bt547 => (if 0 ≤ bt547.1 then (if bt547.1 < (l1.length : Int) then (some (rdOf ByteArray.empty l1 bt547.1, bt547.2.1, bt547.2.2)) else (none)) else (none))) = some (r1, r2, r3) := h
 clear h
 replace H := zI H
 obtain ⟨⟨t547, t548, t549⟩, A3, H⟩ := H
 try dsimp only at H
 by_cases c4 : 0 ≤ t547
 ·rw [if_pos c4] at H
  have c4b0 : decide (0 ≤ t547) = true := decide_eq_true c4
  clear c4
  by_cases c5 : t547 < (l1.length : Int)
  ·rw [if_pos c5] at H
   have c5b0 : decide (t547 < (l1.length : Int)) = true := decide_eq_true c5
   clear c5
   simp only [Option.some.injEq, Prod.mk.injEq] at H
   obtain ⟨rfl, rfl, rfl⟩ := H
   go_enter Try.func114, Try.ntmps114
   go_wp2_with (first | ((with_reducible refine zg 107 ?_); refine gL (some 9) Try.func107 #[.pointer (some ⟨g, 0, none⟩), .int .i64 (l1.length : Int)] ?_; (with_reducible refine (spec_l1Below.calls g s0_0 s0_1 s0_2 (l1.length : Int) t547 t548 t549 w0 _ ?z1 ?z2 A3.out).mono ?_); (case z1 => exact zz0); (case z2 => exact zz1); rintro e w6 ⟨rfl, hi, hb, hk⟩; refine ⟨_, rfl, ?_⟩; replace HK := zT hk; replace HB := zA hb; replace HI0 := zA hi; clear hb hk hi; have p550 : 0 ≤ (t547 : Int) := of_decide_eq_true za; have q550 : t547 < (l1.length : Int) := of_decide_eq_true za; obtain ⟨ad550, e550, hx550_0⟩ := Kd.at_string HR1.out t547 p550 q550; cases e550; replace hx550_0 := keep_cell HK.out hx550_0 (by first | (rw [add_block]; exact hf1 _ rfl (by omega)) | exact hf1 _ rfl (by omega) | exact hf1 ad550 rfl (by omega)); replace p550 := eq_true p550; replace q550 := eq_true q550))
   go_ret
   exact ⟨zw, zz0, zz1, zf⟩
  ·rw [if_neg c5] at H
   exact absurd H (by simp)
 ·rw [if_neg c4] at H
  exact absurd H (by simp)

/-! ### spec_l2Text: function 122 -/
def spec_l2Text.f (s0_0 : List Int) (s0_1 : Int) (s0_2 : Int) : Option (ByteArray × Int × Int) := (spec_l1Str.f s0_0 s0_1 s0_2 (([(⟨#[]⟩ : ByteArray), (⟨#[97]⟩ : ByteArray), (⟨#[98]⟩ : ByteArray), (⟨#[97, 98]⟩ : ByteArray), (⟨#[0]⟩ : ByteArray), (⟨#[97, 0]⟩ : ByteArray), (⟨#[0, 255]⟩ : ByteArray), (⟨#[255]⟩ : ByteArray), (⟨#[119, 111, 114, 100]⟩ : ByteArray), (⟨#[122]⟩ : ByteArray)] : List ByteArray))).bind fun bt554 => (some (bt554.1, bt554.2.1, bt554.2.2))
set_option maxHeartbeats 8000000 in
set_option maxRecDepth 100000 in
theorem spec_l2Text.calls (g : Nat) (s0_0 : List Int) (s0_1 : Int) (s0_2 : Int) (r1 : ByteArray) (r2 : Int) (r3 : Int) (w0 w : World) (hI : IsS102 w0 w g s0_0 s0_1 s0_2) (hB : Below w0.heap.size w0 w) (h : spec_l2Text.f s0_0 s0_1 s0_2 = some (r1, r2, r3)) :
  Calls Try.prog 122 #[.pointer (some ⟨g, 0, none⟩)] w fun e w' => e = .returned (.string r1) ∧ IsS102 w0 w' g s0_0 r2 r3 ∧ Below w0.heap.size w0 w' ∧ KeepBut w w' g none := by
 have HI0 := zA hI
 have HK := zA (KeepBut.refl w g none)
 have HL := zA hB.size
 clear hI
 have HW0 := zA hB.size
 have HB := zA hB
 clear hB
 have H : ((spec_l1Str.f s0_0 s0_1 s0_2 (([(⟨#[]⟩ : ByteArray), (⟨#[97]⟩ : ByteArray), (⟨#[98]⟩ : ByteArray), (⟨#[97, 98]⟩ : ByteArray), (⟨#[0]⟩ : ByteArray), (⟨#[97, 0]⟩ : ByteArray), (⟨#[0, 255]⟩ : ByteArray), (⟨#[255]⟩ : ByteArray), (⟨#[119, 111, 114, 100]⟩ : ByteArray), (⟨#[122]⟩ : ByteArray)] : List ByteArray))).bind fun bt554 => (some (bt554.1, bt554.2.1, bt554.2.2))) = some (r1, r2, r3) := h
 clear h
 obtain ⟨y551, hy551⟩ : ∃ y_ : List ByteArray, y_ = (([(⟨#[]⟩ : ByteArray), (⟨#[97]⟩ : ByteArray), (⟨#[98]⟩ : ByteArray), (⟨#[97, 98]⟩ : ByteArray), (⟨#[0]⟩ : ByteArray), (⟨#[97, 0]⟩ : ByteArray), (⟨#[0, 255]⟩ : ByteArray), (⟨#[255]⟩ : ByteArray), (⟨#[119, 111, 114, 100]⟩ : ByteArray), (⟨#[122]⟩ : ByteArray)] : List ByteArray)) := ⟨_, rfl⟩
 replace H : ((spec_l1Str.f s0_0 s0_1 s0_2 y551).bind fun bt554 => (some (bt554.1, bt554.2.1, bt554.2.2))) = some (r1, r2, r3) := by first | (rw [hy551]; with_reducible exact H) | (have H2_ := (Option.bind_some _ _).symm.trans H; rw [hy551]; with_reducible exact H2_) | (have H2_ := (Option.bind_some _ _).symm.trans H; with_reducible exact H2_) | with_reducible exact H | (rw [hy551]; exact H) | exact H
 have Ny551 := zA hy551
 clear hy551
 replace H := zI H
 obtain ⟨⟨t554, t555, t556⟩, A2, H⟩ := H
 try dsimp only at H
 simp only [Option.some.injEq, Prod.mk.injEq] at H
 obtain ⟨rfl, rfl, rfl⟩ := H
 go_enter Try.func122, Try.ntmps122
 go_wp2_with (first | ((with_reducible refine zt 4 ?_); refine Kd.R_lit Kd.string _ 9 ?hg (N := 4) ?hd (xs := ([(⟨#[]⟩ : ByteArray), (⟨#[97]⟩ : ByteArray), (⟨#[98]⟩ : ByteArray), (⟨#[97, 98]⟩ : ByteArray), (⟨#[0]⟩ : ByteArray), (⟨#[97, 0]⟩ : ByteArray), (⟨#[0, 255]⟩ : ByteArray), (⟨#[255]⟩ : ByteArray), (⟨#[119, 111, 114, 100]⟩ : ByteArray), (⟨#[122]⟩ : ByteArray)] : List ByteArray)) (inner := [.string (⟨#[]⟩ : ByteArray), .string (⟨#[97]⟩ : ByteArray), .string (⟨#[98]⟩ : ByteArray), .string (⟨#[97, 98]⟩ : ByteArray), .string (⟨#[0]⟩ : ByteArray), .string (⟨#[97, 0]⟩ : ByteArray), .string (⟨#[0, 255]⟩ : ByteArray), .string (⟨#[255]⟩ : ByteArray), .string (⟨#[119, 111, 114, 100]⟩ : ByteArray), .string (⟨#[122]⟩ : ByteArray)]) (ok := fun _ => True) (okp := fun _ => True) ?hr ?hp (fun _ hk => hk) trivial (Below.refl _ _) (Nat.le_refl _) (by simp) ?_; (case hd => rfl); (case hg => rfl); (case hr => exact zz35); (case hp => exact (Reps.one (show Kd.M Kd.string _ _ _ (⟨#[]⟩ : ByteArray) [.string (⟨#[]⟩ : ByteArray)] from rfl) (Reps.one (show Kd.M Kd.string _ _ _ (⟨#[97]⟩ : ByteArray) [.string (⟨#[97]⟩ : ByteArray)] from rfl) (Reps.one (show Kd.M Kd.string _ _ _ (⟨#[98]⟩ : ByteArray) [.string (⟨#[98]⟩ : ByteArray)] from rfl) (Reps.one (show Kd.M Kd.string _ _ _ (⟨#[97, 98]⟩ : ByteArray) [.string (⟨#[97, 98]⟩ : ByteArray)] from rfl) (Reps.one (show Kd.M Kd.string _ _ _ (⟨#[0]⟩ : ByteArray) [.string (⟨#[0]⟩ : ByteArray)] from rfl) (Reps.one (show Kd.M Kd.string _ _ _ (⟨#[97, 0]⟩ : ByteArray) [.string (⟨#[97, 0]⟩ : ByteArray)] from rfl) (Reps.one (show Kd.M Kd.string _ _ _ (⟨#[0, 255]⟩ : ByteArray) [.string (⟨#[0, 255]⟩ : ByteArray)] from rfl) (Reps.one (show Kd.M Kd.string _ _ _ (⟨#[255]⟩ : ByteArray) [.string (⟨#[255]⟩ : ByteArray)] from rfl) (Reps.one (show Kd.M Kd.string _ _ _ (⟨#[119, 111, 114, 100]⟩ : ByteArray) [.string (⟨#[119, 111, 114, 100]⟩ : ByteArray)] from rfl) (Reps.one (show Kd.M Kd.string _ _ _ (⟨#[122]⟩ : ByteArray) [.string (⟨#[122]⟩ : ByteArray)] from rfl) (Reps.none _ _)))))))))))); intro v552 w3 ho4 hb hg_ hnew_; clear hg_ hnew_; (first | rw [← Ny551.out] at ho4 | (simp only [Int.reduceToNat] at ho4; rw [← Ny551.out] at ho4)); have HO553 := zA (Kd.R_lower ho4 (keep_size (w := w) (g := g) (row := none) zf)); replace HK := zT (KeepBut.of_below hb g none); replace HB := zS hb zz1; replace HI0 := zA (IsS102.below zz0 hb); clear hb ho4; obtain ⟨Ao5, co5, eo5⟩ := Kd.R_slice HO553.out; subst eo5) | ((with_reducible refine zg 114 ?_); refine gL (some 5) Try.func114 #[.pointer (some ⟨g, 0, none⟩), .slice Ao5 y551.length co5] ?_; (with_reducible refine (spec_l1Str.calls g s0_0 s0_1 s0_2 _ _ y551 t554 t555 t556 w0 _ ?z1 ?z2 ?z3 ?z4 ?z5 A2.out).mono ?_); (case z1 => exact zz0); (case z2 => exact zz1); (case z3 => exact ze HO553); (case z4 => exact zl HO553); (case z5 => exact far_slice (IsS102.own_ne HI0.out HO553.out (by decide))); rintro e w6 ⟨rfl, hi, hb, hk⟩; refine ⟨_, rfl, ?_⟩; replace HO553 := zA (Kd.R_mono (Kd.R_keep (IsS102.apart (show IsS102 w0 _ g s0_0 s0_1 s0_2 from zz0) (zr HO553) (by decide)) hk (fun _ h => h.2)) (fun _ h => h.1)); replace HK := zT hk; replace HB := zA hb; replace HI0 := zA hi; clear hb hk hi))
 go_ret
 exact ⟨zw, zz0, zz1, zf⟩

/-! ### spec_l2Of: function 112 -/
def spec_l2Of.j0 : Nat → Int → Bool → List Int → Int → Int → Option (Int × Int × ByteArray × Int × Int)
  | 0, _, _, _, _, _ => none
  | k + 1, x1, x12, x1000, x1001, x1002 => if x12 = true then (some (0, 0, (⟨#[]⟩ : ByteArray), x1001, x1002)) else (if x1 = 1 then ((spec_l1Int.f x1000 x1001 x1002 (([0, 1, 2, 3, (-1), 255, 256, 2147483647, (-2147483648)] : List Int))).bind fun bt565 => (some (x1, bt565.1, (⟨#[]⟩ : ByteArray), bt565.2.1, bt565.2.2))) else (if x1 = 2 then ((spec_l1Below.f x1000 x1001 x1002 100000).bind fun bt568 => ((spec_l1Int.f x1000 bt568.2.1 bt568.2.2 (([0, 1, (-1), 255, 256, (-256), (-257), 65535, 1000000000000000, (-1000000000000000), wrap64 (-bt568.1)] : List Int))).bind fun bt574 => (some (x1, bt574.1, (⟨#[]⟩ : ByteArray), bt574.2.1, bt574.2.2)))) else (if x1 = 3 then ((spec_l2Text.f x1000 x1001 x1002).bind fun bt577 => (some (x1, 0, bt577.1, bt577.2.1, bt577.2.2))) else ((spec_l1Below.f x1000 x1001 x1002 2).bind fun bt580 => (some (x1, bt580.1, (⟨#[]⟩ : ByteArray), bt580.2.1, bt580.2.2))))))
def spec_l2Of.f (k : Nat) (s0_0 : List Int) (s0_1 : Int) (s0_2 : Int) (a1 : Int) (a2 : Bool) : Option (Int × Int × ByteArray × Int × Int) := if a2 = true then ((spec_l1Once.f s0_0 s0_1 s0_2 4).bind fun bt558 => (spec_l2Of.j0 k a1 bt558.1 s0_0 bt558.2.1 bt558.2.2)) else (spec_l2Of.j0 k a1 false s0_0 s0_1 s0_2)
theorem spec_l2Of.mono_l : ∀ k, (∀ y0 y1 y2 y3 y4, LeO (spec_l2Of.j0 k y0 y1 y2 y3 y4) (spec_l2Of.j0 (k + 1) y0 y1 y2 y3 y4))
  | 0 => fun _ _ _ _ _ r h => by simp [spec_l2Of.j0] at h
  | k + 1 => by
    have ih0 := spec_l2Of.mono_l k
    · intro y0 y1 y2 y3 y4
      unfold spec_l2Of.j0
      repeat' first
      | (with_reducible exact ih0 _ _ _ _ _)
      | (with_reducible exact LeO.refl _)
      | (with_reducible exact LeO.none _)
      | (with_reducible refine LeO.ite ?_ ?_)
      | (with_reducible refine LeO.bind ?_ (fun _ => ?_))
      | exact ih0 _ _ _ _ _
      | exact LeO.none _
      | refine LeO.ite ?_ ?_
      | refine LeO.bind ?_ (fun _ => ?_)
theorem spec_l2Of.mono : ∀ a0 a1 a2 a3 a4 k, LeO (spec_l2Of.f k a0 a1 a2 a3 a4) (spec_l2Of.f (k + 1) a0 a1 a2 a3 a4) := by
  intro a0 a1 a2 a3 a4 k
  have ih0 := spec_l2Of.mono_l k
  unfold spec_l2Of.f
  repeat' first
      | (with_reducible exact ih0 _ _ _ _ _)
      | (with_reducible exact LeO.refl _)
      | (with_reducible exact LeO.none _)
      | (with_reducible refine LeO.ite ?_ ?_)
      | (with_reducible refine LeO.bind ?_ (fun _ => ?_))
      | exact ih0 _ _ _ _ _
      | exact LeO.none _
      | refine LeO.ite ?_ ?_
      | refine LeO.bind ?_ (fun _ => ?_)
set_option maxHeartbeats 8000000 in
set_option maxRecDepth 100000 in
theorem spec_l2Of.calls (k : Nat) (g : Nat) (s0_0 : List Int) (s0_1 : Int) (s0_2 : Int) (a1 : Int) (a2 : Bool) (r1 : Int) (r2 : Int) (r3 : ByteArray) (r4 : Int) (r5 : Int) (w0 w : World) (hI : IsS102 w0 w g s0_0 s0_1 s0_2) (hB : Below w0.heap.size w0 w) (h : spec_l2Of.f k s0_0 s0_1 s0_2 a1 a2 = some (r1, r2, r3, r4, r5)) :
  Calls Try.prog 112 #[.pointer (some ⟨g, 0, none⟩), .int .i64 a1, .bool a2] w fun e w' => e = .returned (.agg #[.int .i64 r1, .int .i64 r2, .string r3]) ∧ IsS102 w0 w' g s0_0 r4 r5 ∧ Below w0.heap.size w0 w' ∧ KeepBut w w' g none := by
 have hu32 := Try.underlying32
 have HI0 := zA hI
 have HK := zA (KeepBut.refl w g none)
 have HL := zA hB.size
 clear hI
 have HW0 := zA hB.size
 have HB := zA hB
 clear hB
 have H : (if a2 = true then ((spec_l1Once.f s0_0 s0_1 s0_2 4).bind fun bt558 => (spec_l2Of.j0 k a1 bt558.1 s0_0 bt558.2.1 bt558.2.2)) else (spec_l2Of.j0 k a1 false s0_0 s0_1 s0_2)) = some (r1, r2, r3, r4, r5) := h
 clear h
 have HC4 := zA H
 clear H
 go_enter Try.func112, Try.ntmps112
 go_upto_region 1 with (first | ((with_reducible refine zt 6 ?_); refine zn #[.int .i64 0, .int .i64 0, .string (⟨#[]⟩ : ByteArray)] 32 ?_; intro gb557 hg w5 hbox hb; replace HB := zS hb zz1; have BK557 := zA hbox; have GW557 := zA ((zz43 : w.heap.size ≤ gb557)); have GE557 := zA ((Nat.le_trans HW0.out (zz43 : w.heap.size ≤ gb557) : w0.heap.size ≤ gb557)); replace HK := zT (KeepBut.of_below hb g none); have NB0_557 := zA ((zz104 : g ≠ gb557)); have NB557_0 := zA ((zz105 : gb557 ≠ g)); replace HI0 := zA (IsS102.below zz0 hb); clear hb hbox hg))
 (try simp only [Act.put, List.setIfInBounds_toArray, List.set_cons_zero, List.set_cons_succ])
 go_cut [12] (fun v12 wc => ∃ (kq : Nat) (x12_3 : Bool) (x1001_3 : Int) (x1002_3 : Int), v12 = .bool x12_3 ∧ Aside0 (spec_l2Of.j0 kq a1 x12_3 s0_0 x1001_3 x1002_3 = some (r1, r2, r3, r4, r5)) ∧ Aside0 (kq ≤ k) ∧ Aside0 (wc.heap[gb557]? = some (.cells #[.int .i64 0, .int .i64 0, .string (⟨#[]⟩ : ByteArray)] 32 (0, 0))) ∧ Aside0 (IsS102 w0 wc g s0_0 x1001_3 x1002_3) ∧ Aside0 (KeepBut w wc g none) ∧ Aside0 (Below w0.heap.size w0 wc))
 case first =>
  have H := HC4.out
  clear HC4
  by_cases c6 : a2 = true
  ·subst c6
   rw [if_pos rfl] at H
   replace H := zI H
   obtain ⟨⟨t558, t559, t560⟩, A7, H⟩ := H
   try dsimp only at H
   have H' := zA H
   clear H
   go_wp2_with (first | (go_at_call 110; (with_reducible refine (spec_l1Once.calls g s0_0 s0_1 s0_2 4 t558 t559 t560 w0 _ ?z1 ?z2 A7.out).mono ?_); (case z1 => exact zz18); (case z2 => exact zz45); rintro e w8 ⟨rfl, hi, hb, hk⟩; replace BK557 := zV hk BK557 NB557_0; replace HK := zT hk (zf1 GW557); replace HB := zA hb; replace HI0 := zA hi; clear hb hk hi))
   go_meet
   case rel => exact ⟨_, (t558), (t559), (t560), zx, H', ⟨zo⟩, ⟨zk BK557⟩, ⟨zz18⟩, ⟨zf1 GW557⟩, ⟨zz45⟩⟩
  ·replace c6 := Bool.eq_false_iff.mpr c6
   subst c6
   rw [if_neg (Bool.false_ne_true)] at H
   have H' := zA H
   clear H
   go_wp2
   go_meet
   case rel => exact ⟨_, (false), (s0_1), (s0_2), zx, H', ⟨zo⟩, ⟨zk BK557⟩, ⟨zz18⟩, ⟨zf1 GW557⟩, ⟨zz45⟩⟩
 case rest =>
  clear HC4
  obtain ⟨kq, x12_3, x1001_3, x1002_3, rfl, HA, HJ3, BK557, HI0, HK, HB⟩ := hcut
  cases kq with
  | zero => exact absurd HA.out (by simp [spec_l2Of.j0])
  | succ kj3 =>
   have H := HA.out
   clear HA
   simp only [spec_l2Of.j0] at H
   by_cases c9 : x12_3 = true
   ·subst c9
    rw [if_pos rfl] at H
    simp only [Option.some.injEq, Prod.mk.injEq] at H
    obtain ⟨rfl, rfl, rfl, rfl, rfl⟩ := H
    have hnb10 := NB557_0.out
    have hnc10 := NB0_557.out
    obtain ⟨hcz11_0, hcz11_1, hcz11_2, hfz11_0, hfz11_1, hfz11_2⟩ := zh3 BK557
    go_wp2
    refine bodyPost_ret (results_cell_row rfl _ _ gb557 32 #[.int .i64 0, .int .i64 0, .string (⟨#[]⟩ : ByteArray)] (0, 0) _ rfl (by (with_reducible repeat (first | refine blk_drewN ?_ _ | refine blk_drew ?_ | refine blk_alloc ?_ _)); refine blk_put (cs := #[.int .i64 0, .int .i64 0, .string (⟨#[]⟩ : ByteArray)]) ?_ 2 _ rfl; (with_reducible repeat (first | refine blk_drewN ?_ _ | refine blk_drew ?_ | refine blk_alloc ?_ _)); refine blk_put (cs := #[.int .i64 0, .int .i64 0, .string (⟨#[]⟩ : ByteArray)]) ?_ 1 _ rfl; (with_reducible repeat (first | refine blk_drewN ?_ _ | refine blk_drew ?_ | refine blk_alloc ?_ _)); refine blk_put (cs := #[.int .i64 0, .int .i64 0, .string (⟨#[]⟩ : ByteArray)]) ?_ 0 _ rfl; (with_reducible repeat (first | refine blk_drewN ?_ _ | refine blk_drew ?_ | refine blk_alloc ?_ _)); exact BK557.out) Try.underlying32 rfl (by kernel_rfl)) rfl ?_
    exact ⟨zw, zz18, zz45, zf1 GW557⟩
   ·replace c9 := Bool.eq_false_iff.mpr c9
    subst c9
    rw [if_neg (Bool.false_ne_true)] at H
    by_cases c12 : a1 = 1
    ·rw [if_pos c12] at H
     have c12b0 : (a1 == 1) = true := beq_iff_eq.mpr c12
     have c12b1 : (a1 != 1) = false := bne_eq_false_iff_eq.mpr c12
     clear c12
     obtain ⟨y562, hy562⟩ : ∃ y_ : List Int, y_ = (([0, 1, 2, 3, (-1), 255, 256, 2147483647, (-2147483648)] : List Int)) := ⟨_, rfl⟩
     replace H : ((spec_l1Int.f s0_0 x1001_3 x1002_3 y562).bind fun bt565 => (some (a1, bt565.1, (⟨#[]⟩ : ByteArray), bt565.2.1, bt565.2.2))) = some (r1, r2, r3, r4, r5) := by first | (rw [hy562]; with_reducible exact H) | (have H2_ := (Option.bind_some _ _).symm.trans H; rw [hy562]; with_reducible exact H2_) | (have H2_ := (Option.bind_some _ _).symm.trans H; with_reducible exact H2_) | with_reducible exact H | (rw [hy562]; exact H) | exact H
     have Ny562 := zA hy562
     clear hy562
     replace H := zI H
     obtain ⟨⟨t565, t566, t567⟩, A13, H⟩ := H
     try dsimp only at H
     simp only [Option.some.injEq, Prod.mk.injEq] at H
     obtain ⟨rfl, rfl, rfl, rfl, rfl⟩ := H
     go_wp2_with (first | ((with_reducible refine zt 7 ?_); refine zn #[.int .i64 0, .int .i64 0, .string (⟨#[]⟩ : ByteArray)] 32 ?_; intro gb561 hg w14 hbox hb; replace HB := zS hb zz45; have BK561 := zA hbox; have GW561 := zA ((zz88 : w.heap.size ≤ gb561)); have GE561 := zA ((Nat.le_trans HW0.out (zz88 : w.heap.size ≤ gb561) : w0.heap.size ≤ gb561)); replace HK := zT (KeepBut.of_below hb g none) (zf1 GW557); have NB557_561 := zX BK557 hg; have NB561_557 := zY BK557 hg; replace BK557 := zB BK557 hb; have NB0_561 := zA ((zz108 : g ≠ gb561)); have NB561_0 := zA ((zz109 : gb561 ≠ g)); replace HI0 := zA (IsS102.below zz18 hb); clear hb hbox hg; have hnb15 := NB561_557.out; have hnc15 := NB557_561.out; have hnb16 := NB561_0.out; have hnc16 := NB0_561.out; obtain ⟨hcz17_0, hcz17_1, hcz17_2, hfz17_0, hfz17_1, hfz17_2⟩ := zh3 BK561) | ((with_reducible refine zt 23 ?_); refine Kd.R_lit (Kd.int .i64) _ 3 ?hg (N := 23) ?hd (xs := ([0, 1, 2, 3, (-1), 255, 256, 2147483647, (-2147483648)] : List Int)) (inner := [.int .i64 0, .int .i64 1, .int .i64 2, .int .i64 3, .int .i64 (-1), .int .i64 255, .int .i64 256, .int .i64 2147483647, .int .i64 (-2147483648)]) (ok := fun _ => True) (okp := fun _ => True) ?hr ?hp (fun _ hk => hk) trivial (Below.refl _ _) (Nat.le_refl _) (by simp) ?_; (case hd => rfl); (case hg => rfl); (case hr => exact zz35); (case hp => exact (Reps.one (show Kd.M (Kd.int .i64) _ _ _ 0 [.int .i64 0] from rfl) (Reps.one (show Kd.M (Kd.int .i64) _ _ _ 1 [.int .i64 1] from rfl) (Reps.one (show Kd.M (Kd.int .i64) _ _ _ 2 [.int .i64 2] from rfl) (Reps.one (show Kd.M (Kd.int .i64) _ _ _ 3 [.int .i64 3] from rfl) (Reps.one (show Kd.M (Kd.int .i64) _ _ _ (-1) [.int .i64 (-1)] from rfl) (Reps.one (show Kd.M (Kd.int .i64) _ _ _ 255 [.int .i64 255] from rfl) (Reps.one (show Kd.M (Kd.int .i64) _ _ _ 256 [.int .i64 256] from rfl) (Reps.one (show Kd.M (Kd.int .i64) _ _ _ 2147483647 [.int .i64 2147483647] from rfl) (Reps.one (show Kd.M (Kd.int .i64) _ _ _ (-2147483648) [.int .i64 (-2147483648)] from rfl) (Reps.none _ _))))))))))); intro v563 w18 ho19 hb hg_ hnew_; clear hg_ hnew_; (first | rw [← Ny562.out] at ho19 | (simp only [Int.reduceToNat] at ho19; rw [← Ny562.out] at ho19)); have HO564 := zA (Kd.R_lower ho19 (keep_size (w := w) (g := g) (row := none) (zf2 GW557 GW561))); replace BK557 := zA (blk_below (g := gb557) (o := .cells #[.int .i64 0, .int .i64 0, .string (⟨#[]⟩ : ByteArray)] 32 (0, 0)) zz37 hb); replace BK561 := zA (blk_below (g := gb561) (o := .cells #[.int .i64 a1, .int .i64 0, .string (⟨#[]⟩ : ByteArray)] 32 (0, 0)) zz26 hb); replace HK := zT (KeepBut.of_below hb g none) (zf2 GW557 GW561); replace HB := zS hb zz31; replace HI0 := zA (IsS102.below (show IsS102 w0 (((w14.setCell ⟨gb561, 0, none⟩ (.int .i64 a1)).setCell ⟨gb561, 1, none⟩ (.int .i64 0)).setCell ⟨gb561, 2, none⟩ (.string (⟨#[]⟩ : ByteArray))) g s0_0 x1001_3 x1002_3 from zz21) hb); clear hb ho19; obtain ⟨Ao20, co20, eo20⟩ := Kd.R_slice HO564.out; subst eo20) | ((with_reducible refine zg 108 ?_); refine gL (some 24) Try.func108 #[.pointer (some ⟨g, 0, none⟩), .slice Ao20 y562.length co20] ?_; (with_reducible refine (spec_l1Int.calls g s0_0 x1001_3 x1002_3 _ _ y562 t565 t566 t567 w0 _ ?z1 ?z2 ?z3 ?z4 ?z5 A13.out).mono ?_); (case z1 => exact zz21); (case z2 => exact zz31); (case z3 => exact ze HO564); (case z4 => exact zl HO564); (case z5 => exact far_slice (IsS102.own_ne HI0.out HO564.out (by decide))); rintro e w21 ⟨rfl, hi, hb, hk⟩; refine ⟨_, rfl, ?_⟩; replace BK557 := zV hk BK557 NB557_0; replace BK561 := zV hk BK561 NB561_0; replace HO564 := zA (Kd.R_mono (Kd.R_keep (IsS102.apart (show IsS102 w0 _ g s0_0 x1001_3 x1002_3 from zz21) (zr HO564) (by decide)) hk (fun _ h => h.2)) (fun _ h => h.1)); replace HK := zT hk (zf2 GW557 GW561); replace HB := zA hb; replace HI0 := zA hi; clear hb hk hi; obtain ⟨hcz22_0, hcz22_1, hcz22_2, hfz22_0, hfz22_1, hfz22_2⟩ := zh3 BK561; have hnb23 := NB557_0.out; have hnc23 := NB0_557.out; obtain ⟨hcz24_0, hcz24_1, hcz24_2, hfz24_0, hfz24_1, hfz24_2⟩ := zh3 BK557))
     refine bodyPost_ret (results_cell_row rfl _ _ gb557 32 #[.int .i64 a1, .int .i64 t565, .string (⟨#[]⟩ : ByteArray)] (0, 0) _ rfl (by (with_reducible repeat (first | refine blk_drewN ?_ _ | refine blk_drew ?_ | refine blk_alloc ?_ _)); refine blk_put (cs := #[.int .i64 a1, .int .i64 t565, .string (⟨#[]⟩ : ByteArray)]) ?_ 2 _ rfl; (with_reducible repeat (first | refine blk_drewN ?_ _ | refine blk_drew ?_ | refine blk_alloc ?_ _)); refine blk_put (cs := #[.int .i64 a1, .int .i64 0, .string (⟨#[]⟩ : ByteArray)]) ?_ 1 _ rfl; (with_reducible repeat (first | refine blk_drewN ?_ _ | refine blk_drew ?_ | refine blk_alloc ?_ _)); refine blk_put (cs := #[.int .i64 0, .int .i64 0, .string (⟨#[]⟩ : ByteArray)]) ?_ 0 _ rfl; (with_reducible repeat (first | refine blk_drewN ?_ _ | refine blk_drew ?_ | refine blk_alloc ?_ _)); refine blk_far ?_ NB557_561.out _; (with_reducible repeat (first | refine blk_drewN ?_ _ | refine blk_drew ?_ | refine blk_alloc ?_ _)); exact BK557.out) Try.underlying32 rfl (by kernel_rfl)) rfl ?_
     exact ⟨zw, zz21, zz31, zf2 GW557 GW561⟩
    ·rw [if_neg c12] at H
     have c12b0 : (a1 == 1) = false := beq_eq_false_iff_ne.mpr c12
     have c12b1 : (a1 != 1) = true := bne_iff_ne.mpr c12
     by_cases c25 : a1 = 2
     ·rw [if_pos c25] at H
      have c25b0 : (a1 == 2) = true := beq_iff_eq.mpr c25
      have c25b1 : (a1 != 2) = false := bne_eq_false_iff_eq.mpr c25
      clear c25
      replace H := zI H
      obtain ⟨⟨t568, t569, t570⟩, A26, H⟩ := H
      try dsimp only at H
      obtain ⟨y571, hy571⟩ : ∃ y_ : List Int, y_ = (([0, 1, (-1), 255, 256, (-256), (-257), 65535, 1000000000000000, (-1000000000000000), wrap64 (-t568)] : List Int)) := ⟨_, rfl⟩
      replace H : ((spec_l1Int.f s0_0 t569 t570 y571).bind fun bt574 => (some (a1, bt574.1, (⟨#[]⟩ : ByteArray), bt574.2.1, bt574.2.2))) = some (r1, r2, r3, r4, r5) := by first | (rw [hy571]; with_reducible exact H) | (have H2_ := (Option.bind_some _ _).symm.trans H; rw [hy571]; with_reducible exact H2_) | (have H2_ := (Option.bind_some _ _).symm.trans H; with_reducible exact H2_) | with_reducible exact H | (rw [hy571]; exact H) | exact H
      have Ny571 := zA hy571
      clear hy571
      replace H := zI H
      obtain ⟨⟨t574, t575, t576⟩, A27, H⟩ := H
      try dsimp only at H
      simp only [Option.some.injEq, Prod.mk.injEq] at H
      obtain ⟨rfl, rfl, rfl, rfl, rfl⟩ := H
      go_wp2_with (first | ((with_reducible refine zt 7 ?_); refine zn #[.int .i64 0, .int .i64 0, .string (⟨#[]⟩ : ByteArray)] 32 ?_; intro gb561 hg w28 hbox hb; replace HB := zS hb zz45; have BK561 := zA hbox; have GW561 := zA ((zz88 : w.heap.size ≤ gb561)); have GE561 := zA ((Nat.le_trans HW0.out (zz88 : w.heap.size ≤ gb561) : w0.heap.size ≤ gb561)); replace HK := zT (KeepBut.of_below hb g none) (zf1 GW557); have NB557_561 := zX BK557 hg; have NB561_557 := zY BK557 hg; replace BK557 := zB BK557 hb; have NB0_561 := zA ((zz108 : g ≠ gb561)); have NB561_0 := zA ((zz109 : gb561 ≠ g)); replace HI0 := zA (IsS102.below zz18 hb); clear hb hbox hg; have hnb29 := NB561_557.out; have hnc29 := NB557_561.out; have hnb30 := NB561_0.out; have hnc30 := NB0_561.out; obtain ⟨hcz31_0, hcz31_1, hcz31_2, hfz31_0, hfz31_1, hfz31_2⟩ := zh3 BK561) | ((with_reducible refine zg 107 ?_); refine gL (some 30) Try.func107 #[.pointer (some ⟨g, 0, none⟩), .int .i64 100000] ?_; (with_reducible refine (spec_l1Below.calls g s0_0 x1001_3 x1002_3 100000 t568 t569 t570 w0 _ ?z1 ?z2 A26.out).mono ?_); (case z1 => exact zz21); (case z2 => exact zz31); rintro e w32 ⟨rfl, hi, hb, hk⟩; refine ⟨_, rfl, ?_⟩; replace BK557 := zA (KeepBut.blk hk (g' := gb557) (o := .cells #[.int .i64 0, .int .i64 0, .string (⟨#[]⟩ : ByteArray)] 32 (0, 0)) zz37 NB557_0.out (by simp)); replace BK561 := zA (KeepBut.blk hk (g' := gb561) (o := .cells #[.int .i64 a1, .int .i64 0, .string (⟨#[]⟩ : ByteArray)] 32 (0, 0)) zz26 NB561_0.out (by simp)); replace HK := zT hk (zf2 GW557 GW561); replace HB := zA hb; replace HI0 := zA hi; clear hb hk hi) | ((with_reducible refine zt 32 ?_); refine Kd.R_lit (Kd.int .i64) _ 3 ?hg (N := 32) ?hd (xs := ([0, 1, (-1), 255, 256, (-256), (-257), 65535, 1000000000000000, (-1000000000000000), wrap64 (-t568)] : List Int)) (inner := [.int .i64 0, .int .i64 1, .int .i64 (-1), .int .i64 255, .int .i64 256, .int .i64 (-256), .int .i64 (-257), .int .i64 65535, .int .i64 1000000000000000, .int .i64 (-1000000000000000), .int .i64 (wrap64 (-t568))]) (ok := fun _ => True) (okp := fun _ => True) ?hr ?hp (fun _ hk => hk) trivial (Below.refl _ _) (Nat.le_refl _) (by simp) ?_; (case hd => rfl); (case hg => rfl); (case hr => exact zz35); (case hp => exact (Reps.one (show Kd.M (Kd.int .i64) _ _ _ 0 [.int .i64 0] from rfl) (Reps.one (show Kd.M (Kd.int .i64) _ _ _ 1 [.int .i64 1] from rfl) (Reps.one (show Kd.M (Kd.int .i64) _ _ _ (-1) [.int .i64 (-1)] from rfl) (Reps.one (show Kd.M (Kd.int .i64) _ _ _ 255 [.int .i64 255] from rfl) (Reps.one (show Kd.M (Kd.int .i64) _ _ _ 256 [.int .i64 256] from rfl) (Reps.one (show Kd.M (Kd.int .i64) _ _ _ (-256) [.int .i64 (-256)] from rfl) (Reps.one (show Kd.M (Kd.int .i64) _ _ _ (-257) [.int .i64 (-257)] from rfl) (Reps.one (show Kd.M (Kd.int .i64) _ _ _ 65535 [.int .i64 65535] from rfl) (Reps.one (show Kd.M (Kd.int .i64) _ _ _ 1000000000000000 [.int .i64 1000000000000000] from rfl) (Reps.one (show Kd.M (Kd.int .i64) _ _ _ (-1000000000000000) [.int .i64 (-1000000000000000)] from rfl) (Reps.one (show Kd.M (Kd.int .i64) _ _ _ (wrap64 (-t568)) [.int .i64 (wrap64 (-t568))] from rfl) (Reps.none _ _))))))))))))); intro v572 w33 ho34 hb hg_ hnew_; clear hg_ hnew_; (first | rw [← Ny571.out] at ho34 | (simp only [Int.reduceToNat] at ho34; rw [← Ny571.out] at ho34)); have HO573 := zA (Kd.R_lower ho34 (keep_size (w := w) (g := g) (row := none) (zf2 GW557 GW561))); replace BK557 := zB BK557 hb; replace BK561 := zB BK561 hb; replace HK := zT (KeepBut.of_below hb g none) (zf2 GW557 GW561); replace HB := zS hb zz31; replace HI0 := zA (IsS102.below zz21 hb); clear hb ho34; obtain ⟨Ao35, co35, eo35⟩ := Kd.R_slice HO573.out; subst eo35) | ((with_reducible refine zg 108 ?_); refine gL (some 33) Try.func108 #[.pointer (some ⟨g, 0, none⟩), .slice Ao35 y571.length co35] ?_; (with_reducible refine (spec_l1Int.calls g s0_0 t569 t570 _ _ y571 t574 t575 t576 w0 _ ?z1 ?z2 ?z3 ?z4 ?z5 A27.out).mono ?_); (case z1 => exact zz21); (case z2 => exact zz31); (case z3 => exact ze HO573); (case z4 => exact zl HO573); (case z5 => exact far_slice (IsS102.own_ne HI0.out HO573.out (by decide))); rintro e w36 ⟨rfl, hi, hb, hk⟩; refine ⟨_, rfl, ?_⟩; replace BK557 := zV hk BK557 NB557_0; replace BK561 := zV hk BK561 NB561_0; replace HO573 := zA (Kd.R_mono (Kd.R_keep (IsS102.apart (show IsS102 w0 _ g s0_0 t569 t570 from zz21) (zr HO573) (by decide)) hk (fun _ h => h.2)) (fun _ h => h.1)); replace HK := zT hk (zf2 GW557 GW561); replace HB := zA hb; replace HI0 := zA hi; clear hb hk hi; obtain ⟨hcz37_0, hcz37_1, hcz37_2, hfz37_0, hfz37_1, hfz37_2⟩ := zh3 BK561; have hnb38 := NB557_0.out; have hnc38 := NB0_557.out; obtain ⟨hcz39_0, hcz39_1, hcz39_2, hfz39_0, hfz39_1, hfz39_2⟩ := zh3 BK557))
      refine bodyPost_ret (results_cell_row rfl _ _ gb557 32 #[.int .i64 a1, .int .i64 t574, .string (⟨#[]⟩ : ByteArray)] (0, 0) _ rfl (by (with_reducible repeat (first | refine blk_drewN ?_ _ | refine blk_drew ?_ | refine blk_alloc ?_ _)); refine blk_put (cs := #[.int .i64 a1, .int .i64 t574, .string (⟨#[]⟩ : ByteArray)]) ?_ 2 _ rfl; (with_reducible repeat (first | refine blk_drewN ?_ _ | refine blk_drew ?_ | refine blk_alloc ?_ _)); refine blk_put (cs := #[.int .i64 a1, .int .i64 0, .string (⟨#[]⟩ : ByteArray)]) ?_ 1 _ rfl; (with_reducible repeat (first | refine blk_drewN ?_ _ | refine blk_drew ?_ | refine blk_alloc ?_ _)); refine blk_put (cs := #[.int .i64 0, .int .i64 0, .string (⟨#[]⟩ : ByteArray)]) ?_ 0 _ rfl; (with_reducible repeat (first | refine blk_drewN ?_ _ | refine blk_drew ?_ | refine blk_alloc ?_ _)); refine blk_far ?_ NB557_561.out _; (with_reducible repeat (first | refine blk_drewN ?_ _ | refine blk_drew ?_ | refine blk_alloc ?_ _)); exact BK557.out) Try.underlying32 rfl (by kernel_rfl)) rfl ?_
      exact ⟨zw, zz21, zz31, zf2 GW557 GW561⟩
     ·rw [if_neg c25] at H
      have c25b0 : (a1 == 2) = false := beq_eq_false_iff_ne.mpr c25
      have c25b1 : (a1 != 2) = true := bne_iff_ne.mpr c25
      by_cases c40 : a1 = 3
      ·rw [if_pos c40] at H
       have c40b0 : (a1 == 3) = true := beq_iff_eq.mpr c40
       have c40b1 : (a1 != 3) = false := bne_eq_false_iff_eq.mpr c40
       clear c40
       replace H := zI H
       obtain ⟨⟨t577, t578, t579⟩, A41, H⟩ := H
       try dsimp only at H
       simp only [Option.some.injEq, Prod.mk.injEq] at H
       obtain ⟨rfl, rfl, rfl, rfl, rfl⟩ := H
       go_wp2_with (first | ((with_reducible refine zt 7 ?_); refine zn #[.int .i64 0, .int .i64 0, .string (⟨#[]⟩ : ByteArray)] 32 ?_; intro gb561 hg w42 hbox hb; replace HB := zS hb zz45; have BK561 := zA hbox; have GW561 := zA ((zz88 : w.heap.size ≤ gb561)); have GE561 := zA ((Nat.le_trans HW0.out (zz88 : w.heap.size ≤ gb561) : w0.heap.size ≤ gb561)); replace HK := zT (KeepBut.of_below hb g none) (zf1 GW557); have NB557_561 := zX BK557 hg; have NB561_557 := zY BK557 hg; replace BK557 := zB BK557 hb; have NB0_561 := zA ((zz108 : g ≠ gb561)); have NB561_0 := zA ((zz109 : gb561 ≠ g)); replace HI0 := zA (IsS102.below zz18 hb); clear hb hbox hg; have hnb43 := NB561_557.out; have hnc43 := NB557_561.out; have hnb44 := NB561_0.out; have hnc44 := NB0_561.out; obtain ⟨hcz45_0, hcz45_1, hcz45_2, hfz45_0, hfz45_1, hfz45_2⟩ := zh3 BK561) | ((with_reducible refine zg 122 ?_); refine gL (some 38) Try.func122 #[.pointer (some ⟨g, 0, none⟩)] ?_; (with_reducible refine (spec_l2Text.calls g s0_0 x1001_3 x1002_3 t577 t578 t579 w0 _ ?z1 ?z2 A41.out).mono ?_); (case z1 => exact zz21); (case z2 => exact zz31); rintro e w46 ⟨rfl, hi, hb, hk⟩; refine ⟨_, rfl, ?_⟩; replace BK557 := zA (KeepBut.blk hk (g' := gb557) (o := .cells #[.int .i64 0, .int .i64 0, .string (⟨#[]⟩ : ByteArray)] 32 (0, 0)) zz37 NB557_0.out (by simp)); replace BK561 := zA (KeepBut.blk hk (g' := gb561) (o := .cells #[.int .i64 a1, .int .i64 0, .string (⟨#[]⟩ : ByteArray)] 32 (0, 0)) zz26 NB561_0.out (by simp)); replace HK := zT hk (zf2 GW557 GW561); replace HB := zA hb; replace HI0 := zA hi; clear hb hk hi; obtain ⟨hcz47_0, hcz47_1, hcz47_2, hfz47_0, hfz47_1, hfz47_2⟩ := zh3 BK561; have hnb48 := NB557_0.out; have hnc48 := NB0_557.out; obtain ⟨hcz49_0, hcz49_1, hcz49_2, hfz49_0, hfz49_1, hfz49_2⟩ := zh3 BK557))
       refine bodyPost_ret (results_cell_row rfl _ _ gb557 32 #[.int .i64 a1, .int .i64 0, .string t577] (0, 0) _ rfl (by (with_reducible repeat (first | refine blk_drewN ?_ _ | refine blk_drew ?_ | refine blk_alloc ?_ _)); refine blk_put (cs := #[.int .i64 a1, .int .i64 0, .string (⟨#[]⟩ : ByteArray)]) ?_ 2 _ rfl; (with_reducible repeat (first | refine blk_drewN ?_ _ | refine blk_drew ?_ | refine blk_alloc ?_ _)); refine blk_put (cs := #[.int .i64 a1, .int .i64 0, .string (⟨#[]⟩ : ByteArray)]) ?_ 1 _ rfl; (with_reducible repeat (first | refine blk_drewN ?_ _ | refine blk_drew ?_ | refine blk_alloc ?_ _)); refine blk_put (cs := #[.int .i64 0, .int .i64 0, .string (⟨#[]⟩ : ByteArray)]) ?_ 0 _ rfl; (with_reducible repeat (first | refine blk_drewN ?_ _ | refine blk_drew ?_ | refine blk_alloc ?_ _)); refine blk_far ?_ NB557_561.out _; (with_reducible repeat (first | refine blk_drewN ?_ _ | refine blk_drew ?_ | refine blk_alloc ?_ _)); exact BK557.out) Try.underlying32 rfl (by kernel_rfl)) rfl ?_
       exact ⟨zw, zz21, zz31, zf2 GW557 GW561⟩
      ·rw [if_neg c40] at H
       have c40b0 : (a1 == 3) = false := beq_eq_false_iff_ne.mpr c40
       have c40b1 : (a1 != 3) = true := bne_iff_ne.mpr c40
       replace H := zI H
       obtain ⟨⟨t580, t581, t582⟩, A50, H⟩ := H
       try dsimp only at H
       simp only [Option.some.injEq, Prod.mk.injEq] at H
       obtain ⟨rfl, rfl, rfl, rfl, rfl⟩ := H
       go_wp2_with (first | ((with_reducible refine zt 7 ?_); refine zn #[.int .i64 0, .int .i64 0, .string (⟨#[]⟩ : ByteArray)] 32 ?_; intro gb561 hg w51 hbox hb; replace HB := zS hb zz45; have BK561 := zA hbox; have GW561 := zA ((zz88 : w.heap.size ≤ gb561)); have GE561 := zA ((Nat.le_trans HW0.out (zz88 : w.heap.size ≤ gb561) : w0.heap.size ≤ gb561)); replace HK := zT (KeepBut.of_below hb g none) (zf1 GW557); have NB557_561 := zX BK557 hg; have NB561_557 := zY BK557 hg; replace BK557 := zB BK557 hb; have NB0_561 := zA ((zz108 : g ≠ gb561)); have NB561_0 := zA ((zz109 : gb561 ≠ g)); replace HI0 := zA (IsS102.below zz18 hb); clear hb hbox hg; have hnb52 := NB561_557.out; have hnc52 := NB557_561.out; have hnb53 := NB561_0.out; have hnc53 := NB0_561.out; obtain ⟨hcz54_0, hcz54_1, hcz54_2, hfz54_0, hfz54_1, hfz54_2⟩ := zh3 BK561) | ((with_reducible refine zg 107 ?_); refine gL (some 18) Try.func107 #[.pointer (some ⟨g, 0, none⟩), .int .i64 2] ?_; (with_reducible refine (spec_l1Below.calls g s0_0 x1001_3 x1002_3 2 t580 t581 t582 w0 _ ?z1 ?z2 A50.out).mono ?_); (case z1 => exact zz21); (case z2 => exact zz31); rintro e w55 ⟨rfl, hi, hb, hk⟩; refine ⟨_, rfl, ?_⟩; replace BK557 := zA (KeepBut.blk hk (g' := gb557) (o := .cells #[.int .i64 0, .int .i64 0, .string (⟨#[]⟩ : ByteArray)] 32 (0, 0)) zz37 NB557_0.out (by simp)); replace BK561 := zA (KeepBut.blk hk (g' := gb561) (o := .cells #[.int .i64 a1, .int .i64 0, .string (⟨#[]⟩ : ByteArray)] 32 (0, 0)) zz26 NB561_0.out (by simp)); replace HK := zT hk (zf2 GW557 GW561); replace HB := zA hb; replace HI0 := zA hi; clear hb hk hi; obtain ⟨hcz56_0, hcz56_1, hcz56_2, hfz56_0, hfz56_1, hfz56_2⟩ := zh3 BK561; have hnb57 := NB557_0.out; have hnc57 := NB0_557.out; obtain ⟨hcz58_0, hcz58_1, hcz58_2, hfz58_0, hfz58_1, hfz58_2⟩ := zh3 BK557))
       refine bodyPost_ret (results_cell_row rfl _ _ gb557 32 #[.int .i64 a1, .int .i64 t580, .string (⟨#[]⟩ : ByteArray)] (0, 0) _ rfl (by (with_reducible repeat (first | refine blk_drewN ?_ _ | refine blk_drew ?_ | refine blk_alloc ?_ _)); refine blk_put (cs := #[.int .i64 a1, .int .i64 t580, .string (⟨#[]⟩ : ByteArray)]) ?_ 2 _ rfl; (with_reducible repeat (first | refine blk_drewN ?_ _ | refine blk_drew ?_ | refine blk_alloc ?_ _)); refine blk_put (cs := #[.int .i64 a1, .int .i64 0, .string (⟨#[]⟩ : ByteArray)]) ?_ 1 _ rfl; (with_reducible repeat (first | refine blk_drewN ?_ _ | refine blk_drew ?_ | refine blk_alloc ?_ _)); refine blk_put (cs := #[.int .i64 0, .int .i64 0, .string (⟨#[]⟩ : ByteArray)]) ?_ 0 _ rfl; (with_reducible repeat (first | refine blk_drewN ?_ _ | refine blk_drew ?_ | refine blk_alloc ?_ _)); refine blk_far ?_ NB557_561.out _; (with_reducible repeat (first | refine blk_drewN ?_ _ | refine blk_drew ?_ | refine blk_alloc ?_ _)); exact BK557.out) Try.underlying32 rfl (by kernel_rfl)) rfl ?_
       exact ⟨zw, zz21, zz31, zf2 GW557 GW561⟩

/-! ### spec_l2Draw: function 111 -/
def spec_l2Draw.f (k : Nat) (s0_0 : List Int) (s0_1 : Int) (s0_2 : Int) : Option (Int × Int × ByteArray × Int × Int) := (spec_l1Below.f s0_0 s0_1 s0_2 4).bind fun bt584 => ((spec_l2Of.f k s0_0 bt584.2.1 bt584.2.2 (wrap64 (1 + bt584.1)) true).bind fun bt587 => (some (bt587.1, bt587.2.1, bt587.2.2.1, bt587.2.2.2.1, bt587.2.2.2.2)))
theorem spec_l2Draw.mono : ∀ a0 a1 a2 k, LeO (spec_l2Draw.f k a0 a1 a2) (spec_l2Draw.f (k + 1) a0 a1 a2) := by
  intro a0 a1 a2 k
  unfold spec_l2Draw.f
  repeat' first
      | (with_reducible exact spec_l2Of.mono _ _ _ _ _ _)
      | (with_reducible exact LeO.refl _)
      | (with_reducible exact LeO.none _)
      | (with_reducible refine LeO.ite ?_ ?_)
      | (with_reducible refine LeO.bind ?_ (fun _ => ?_))
      | exact spec_l2Of.mono _ _ _ _ _ _
      | exact LeO.none _
      | refine LeO.ite ?_ ?_
      | refine LeO.bind ?_ (fun _ => ?_)
set_option maxHeartbeats 8000000 in
set_option maxRecDepth 100000 in
theorem spec_l2Draw.calls (k : Nat) (g : Nat) (s0_0 : List Int) (s0_1 : Int) (s0_2 : Int) (r1 : Int) (r2 : Int) (r3 : ByteArray) (r4 : Int) (r5 : Int) (w0 w : World) (hI : IsS102 w0 w g s0_0 s0_1 s0_2) (hB : Below w0.heap.size w0 w) (h : spec_l2Draw.f k s0_0 s0_1 s0_2 = some (r1, r2, r3, r4, r5)) :
  Calls Try.prog 111 #[.pointer (some ⟨g, 0, none⟩)] w fun e w' => e = .returned (.agg #[.int .i64 r1, .int .i64 r2, .string r3]) ∧ IsS102 w0 w' g s0_0 r4 r5 ∧ Below w0.heap.size w0 w' ∧ KeepBut w w' g none := by
 have hu32 := Try.underlying32
 have HI0 := zA hI
 have HK := zA (KeepBut.refl w g none)
 have HL := zA hB.size
 clear hI
 have HW0 := zA hB.size
 have HB := zA hB
 clear hB
 have H : ((spec_l1Below.f s0_0 s0_1 s0_2 4).bind fun bt584 => ((spec_l2Of.f k s0_0 bt584.2.1 bt584.2.2 (wrap64 (1 + bt584.1)) true).bind fun bt587 => (some (bt587.1, bt587.2.1, bt587.2.2.1, bt587.2.2.2.1, bt587.2.2.2.2)))) = some (r1, r2, r3, r4, r5) := h
 clear h
 replace H := zI H
 obtain ⟨⟨t584, t585, t586⟩, A2, H⟩ := H
 try dsimp only at H
 replace H := zI H
 obtain ⟨⟨t587, t588, t589, t590, t591⟩, A3, H⟩ := H
 try dsimp only at H
 simp only [Option.some.injEq, Prod.mk.injEq] at H
 obtain ⟨rfl, rfl, rfl, rfl, rfl⟩ := H
 go_enter Try.func111, Try.ntmps111
 go_wp2_with (first | ((with_reducible refine zt 2 ?_); refine zn #[.int .i64 0, .int .i64 0, .string (⟨#[]⟩ : ByteArray)] 32 ?_; intro gb583 hg w4 hbox hb; replace HB := zS hb zz1; have BK583 := zA hbox; have GW583 := zA ((zz43 : w.heap.size ≤ gb583)); have GE583 := zA ((Nat.le_trans HW0.out (zz43 : w.heap.size ≤ gb583) : w0.heap.size ≤ gb583)); replace HK := zT (KeepBut.of_below hb g none); have NB0_583 := zA ((zz104 : g ≠ gb583)); have NB583_0 := zA ((zz105 : gb583 ≠ g)); replace HI0 := zA (IsS102.below zz0 hb); clear hb hbox hg) | ((with_reducible refine zg 107 ?_); refine gL (some 5) Try.func107 #[.pointer (some ⟨g, 0, none⟩), .int .i64 4] ?_; (with_reducible refine (spec_l1Below.calls g s0_0 s0_1 s0_2 4 t584 t585 t586 w0 _ ?z1 ?z2 A2.out).mono ?_); (case z1 => exact zz83); (case z2 => exact zz85); rintro e w5 ⟨rfl, hi, hb, hk⟩; refine ⟨_, rfl, ?_⟩; replace BK583 := zV hk BK583 NB583_0; replace HK := zT hk (zf1 GW583); replace HB := zA hb; replace HI0 := zA hi; clear hb hk hi) | ((with_reducible refine zg 112 ?_); refine gL (some 7) Try.func112 #[.pointer (some ⟨g, 0, none⟩), .int .i64 (wrap64 (1 + t584)), .bool true] ?_; (with_reducible refine (spec_l2Of.calls k g s0_0 t585 t586 (wrap64 (1 + t584)) true t587 t588 t589 t590 t591 w0 _ ?z1 ?z2 A3.out).mono ?_); (case z1 => exact zz83); (case z2 => exact zz85); rintro e w6 ⟨rfl, hi, hb, hk⟩; refine ⟨_, rfl, ?_⟩; replace BK583 := zV hk BK583 NB583_0; replace HK := zT hk (zf1 GW583); replace HB := zA hb; replace HI0 := zA hi; clear hb hk hi; have hnb7 := NB583_0.out; have hnc7 := NB0_583.out; obtain ⟨hcz8_0, hcz8_1, hcz8_2, hfz8_0, hfz8_1, hfz8_2⟩ := zh3 BK583))
 refine bodyPost_ret (results_cell_row rfl _ _ gb583 32 #[.int .i64 t587, .int .i64 t588, .string t589] (0, 0) _ rfl (by (with_reducible repeat (first | refine blk_drewN ?_ _ | refine blk_drew ?_ | refine blk_alloc ?_ _)); refine blk_put (cs := #[.int .i64 t587, .int .i64 t588, .string (⟨#[]⟩ : ByteArray)]) ?_ 2 _ rfl; (with_reducible repeat (first | refine blk_drewN ?_ _ | refine blk_drew ?_ | refine blk_alloc ?_ _)); refine blk_put (cs := #[.int .i64 t587, .int .i64 0, .string (⟨#[]⟩ : ByteArray)]) ?_ 1 _ rfl; (with_reducible repeat (first | refine blk_drewN ?_ _ | refine blk_drew ?_ | refine blk_alloc ?_ _)); refine blk_put (cs := #[.int .i64 0, .int .i64 0, .string (⟨#[]⟩ : ByteArray)]) ?_ 0 _ rfl; (with_reducible repeat (first | refine blk_drewN ?_ _ | refine blk_drew ?_ | refine blk_alloc ?_ _)); exact BK583.out) Try.underlying32 rfl (by kernel_rfl)) rfl ?_
 exact ⟨zw, zz83, zz85, zf1 GW583⟩

/-! ### spec_l1Num: function 113 -/
def spec_l1Num.f (s0_0 : List Int) (s0_1 : Int) (s0_2 : Int) : Option (Int × Int × Int) := (spec_l1Below.f s0_0 s0_1 s0_2 100000).bind fun bt592 => ((spec_l1Below.f s0_0 bt592.2.1 bt592.2.2 100000).bind fun bt595 => ((spec_l1Int.f s0_0 bt595.2.1 bt595.2.2 (([0, 1, (-1), 63, 127, 128, 255, 256, 65535, 65536, 2147483647, (-2147483648), 2147483648, (-2147483649), 1000000000000000, (-1000000000000000), 1000000000000001, 9223372036854775807, (-9223372036854775808), bt592.1, wrap64 (-bt595.1)] : List Int))).bind fun bt601 => (some (bt601.1, bt601.2.1, bt601.2.2))))
set_option maxHeartbeats 8000000 in
set_option maxRecDepth 100000 in
theorem spec_l1Num.calls (g : Nat) (s0_0 : List Int) (s0_1 : Int) (s0_2 : Int) (r1 : Int) (r2 : Int) (r3 : Int) (w0 w : World) (hI : IsS102 w0 w g s0_0 s0_1 s0_2) (hB : Below w0.heap.size w0 w) (h : spec_l1Num.f s0_0 s0_1 s0_2 = some (r1, r2, r3)) :
  Calls Try.prog 113 #[.pointer (some ⟨g, 0, none⟩)] w fun e w' => e = .returned (.int .i64 r1) ∧ IsS102 w0 w' g s0_0 r2 r3 ∧ Below w0.heap.size w0 w' ∧ KeepBut w w' g none := by
 have HI0 := zA hI
 have HK := zA (KeepBut.refl w g none)
 have HL := zA hB.size
 clear hI
 have HW0 := zA hB.size
 have HB := zA hB
 clear hB
 have H : ((spec_l1Below.f s0_0 s0_1 s0_2 100000).bind fun bt592 => ((spec_l1Below.f s0_0 bt592.2.1 bt592.2.2 100000).bind fun bt595 => ((spec_l1Int.f s0_0 bt595.2.1 bt595.2.2 (([0, 1, (-1), 63, 127, 128, 255, 256, 65535, 65536, 2147483647, (-2147483648), 2147483648, (-2147483649), 1000000000000000, (-1000000000000000), 1000000000000001, 9223372036854775807, (-9223372036854775808), bt592.1, wrap64 (-bt595.1)] : List Int))).bind fun bt601 => (some (bt601.1, bt601.2.1, bt601.2.2))))) = some (r1, r2, r3) := h
 clear h
 replace H := zI H
 obtain ⟨⟨t592, t593, t594⟩, A2, H⟩ := H
 try dsimp only at H
 replace H := zI H
 obtain ⟨⟨t595, t596, t597⟩, A3, H⟩ := H
 try dsimp only at H
 obtain ⟨y598, hy598⟩ : ∃ y_ : List Int, y_ = (([0, 1, (-1), 63, 127, 128, 255, 256, 65535, 65536, 2147483647, (-2147483648), 2147483648, (-2147483649), 1000000000000000, (-1000000000000000), 1000000000000001, 9223372036854775807, (-9223372036854775808), t592, wrap64 (-t595)] : List Int)) := ⟨_, rfl⟩
 replace H : ((spec_l1Int.f s0_0 t596 t597 y598).bind fun bt601 => (some (bt601.1, bt601.2.1, bt601.2.2))) = some (r1, r2, r3) := by first | (rw [hy598]; with_reducible exact H) | (have H2_ := (Option.bind_some _ _).symm.trans H; rw [hy598]; with_reducible exact H2_) | (have H2_ := (Option.bind_some _ _).symm.trans H; with_reducible exact H2_) | with_reducible exact H | (rw [hy598]; exact H) | exact H
 have Ny598 := zA hy598
 clear hy598
 replace H := zI H
 obtain ⟨⟨t601, t602, t603⟩, A4, H⟩ := H
 try dsimp only at H
 simp only [Option.some.injEq, Prod.mk.injEq] at H
 obtain ⟨rfl, rfl, rfl⟩ := H
 go_enter Try.func113, Try.ntmps113
 go_wp2_with (first | ((with_reducible refine zg 107 ?_); refine gL (some 5) Try.func107 #[.pointer (some ⟨g, 0, none⟩), .int .i64 100000] ?_; (with_reducible refine (spec_l1Below.calls g s0_0 s0_1 s0_2 100000 t592 t593 t594 w0 _ ?z1 ?z2 A2.out).mono ?_); (case z1 => exact zz0); (case z2 => exact zz1); rintro e w5 ⟨rfl, hi, hb, hk⟩; refine ⟨_, rfl, ?_⟩; replace HK := zT hk; replace HB := zA hb; replace HI0 := zA hi; clear hb hk hi) | ((with_reducible refine zg 107 ?_); refine gL (some 7) Try.func107 #[.pointer (some ⟨g, 0, none⟩), .int .i64 100000] ?_; (with_reducible refine (spec_l1Below.calls g s0_0 t593 t594 100000 t595 t596 t597 w0 _ ?z1 ?z2 A3.out).mono ?_); (case z1 => exact zz0); (case z2 => exact zz1); rintro e w6 ⟨rfl, hi, hb, hk⟩; refine ⟨_, rfl, ?_⟩; replace HK := zT hk; replace HB := zA hb; replace HI0 := zA hi; clear hb hk hi) | ((with_reducible refine zt 9 ?_); refine Kd.R_lit (Kd.int .i64) _ 3 ?hg (N := 9) ?hd (xs := ([0, 1, (-1), 63, 127, 128, 255, 256, 65535, 65536, 2147483647, (-2147483648), 2147483648, (-2147483649), 1000000000000000, (-1000000000000000), 1000000000000001, 9223372036854775807, (-9223372036854775808), t592, wrap64 (-t595)] : List Int)) (inner := [.int .i64 0, .int .i64 1, .int .i64 (-1), .int .i64 63, .int .i64 127, .int .i64 128, .int .i64 255, .int .i64 256, .int .i64 65535, .int .i64 65536, .int .i64 2147483647, .int .i64 (-2147483648), .int .i64 2147483648, .int .i64 (-2147483649), .int .i64 1000000000000000, .int .i64 (-1000000000000000), .int .i64 1000000000000001, .int .i64 9223372036854775807, .int .i64 (-9223372036854775808), .int .i64 t592, .int .i64 (wrap64 (-t595))]) (ok := fun _ => True) (okp := fun _ => True) ?hr ?hp (fun _ hk => hk) trivial (Below.refl _ _) (Nat.le_refl _) (by simp) ?_; (case hd => rfl); (case hg => rfl); (case hr => exact zz35); (case hp => exact (Reps.one (show Kd.M (Kd.int .i64) _ _ _ 0 [.int .i64 0] from rfl) (Reps.one (show Kd.M (Kd.int .i64) _ _ _ 1 [.int .i64 1] from rfl) (Reps.one (show Kd.M (Kd.int .i64) _ _ _ (-1) [.int .i64 (-1)] from rfl) (Reps.one (show Kd.M (Kd.int .i64) _ _ _ 63 [.int .i64 63] from rfl) (Reps.one (show Kd.M (Kd.int .i64) _ _ _ 127 [.int .i64 127] from rfl) (Reps.one (show Kd.M (Kd.int .i64) _ _ _ 128 [.int .i64 128] from rfl) (Reps.one (show Kd.M (Kd.int .i64) _ _ _ 255 [.int .i64 255] from rfl) (Reps.one (show Kd.M (Kd.int .i64) _ _ _ 256 [.int .i64 256] from rfl) (Reps.one (show Kd.M (Kd.int .i64) _ _ _ 65535 [.int .i64 65535] from rfl) (Reps.one (show Kd.M (Kd.int .i64) _ _ _ 65536 [.int .i64 65536] from rfl) (Reps.one (show Kd.M (Kd.int .i64) _ _ _ 2147483647 [.int .i64 2147483647] from rfl) (Reps.one (show Kd.M (Kd.int .i64) _ _ _ (-2147483648) [.int .i64 (-2147483648)] from rfl) (Reps.one (show Kd.M (Kd.int .i64) _ _ _ 2147483648 [.int .i64 2147483648] from rfl) (Reps.one (show Kd.M (Kd.int .i64) _ _ _ (-2147483649) [.int .i64 (-2147483649)] from rfl) (Reps.one (show Kd.M (Kd.int .i64) _ _ _ 1000000000000000 [.int .i64 1000000000000000] from rfl) (Reps.one (show Kd.M (Kd.int .i64) _ _ _ (-1000000000000000) [.int .i64 (-1000000000000000)] from rfl) (Reps.one (show Kd.M (Kd.int .i64) _ _ _ 1000000000000001 [.int .i64 1000000000000001] from rfl) (Reps.one (show Kd.M (Kd.int .i64) _ _ _ 9223372036854775807 [.int .i64 9223372036854775807] from rfl) (Reps.one (show Kd.M (Kd.int .i64) _ _ _ (-9223372036854775808) [.int .i64 (-9223372036854775808)] from rfl) (Reps.one (show Kd.M (Kd.int .i64) _ _ _ t592 [.int .i64 t592] from rfl) (Reps.one (show Kd.M (Kd.int .i64) _ _ _ (wrap64 (-t595)) [.int .i64 (wrap64 (-t595))] from rfl) (Reps.none _ _))))))))))))))))))))))); intro v599 w7 ho8 hb hg_ hnew_; clear hg_ hnew_; (first | rw [← Ny598.out] at ho8 | (simp only [Int.reduceToNat] at ho8; rw [← Ny598.out] at ho8)); have HO600 := zA (Kd.R_lower ho8 (keep_size (w := w) (g := g) (row := none) zf)); replace HK := zT (KeepBut.of_below hb g none); replace HB := zS hb zz1; replace HI0 := zA (IsS102.below zz0 hb); clear hb ho8; obtain ⟨Ao9, co9, eo9⟩ := Kd.R_slice HO600.out; subst eo9) | ((with_reducible refine zg 108 ?_); refine gL (some 10) Try.func108 #[.pointer (some ⟨g, 0, none⟩), .slice Ao9 y598.length co9] ?_; (with_reducible refine (spec_l1Int.calls g s0_0 t596 t597 _ _ y598 t601 t602 t603 w0 _ ?z1 ?z2 ?z3 ?z4 ?z5 A4.out).mono ?_); (case z1 => exact zz0); (case z2 => exact zz1); (case z3 => exact ze HO600); (case z4 => exact zl HO600); (case z5 => exact far_slice (IsS102.own_ne HI0.out HO600.out (by decide))); rintro e w10 ⟨rfl, hi, hb, hk⟩; refine ⟨_, rfl, ?_⟩; replace HO600 := zA (Kd.R_mono (Kd.R_keep (IsS102.apart (show IsS102 w0 _ g s0_0 t596 t597 from zz0) (zr HO600) (by decide)) hk (fun _ h => h.2)) (fun _ h => h.1)); replace HK := zT hk; replace HB := zA hb; replace HI0 := zA hi; clear hb hk hi))
 go_ret
 exact ⟨zw, zz0, zz1, zf⟩

/-! ### spec_l2Any: function 93 -/
def spec_l2Any.f (k : Nat) (s0_0 : List Int) (s0_1 : Int) (s0_2 : Int) : Option (Int × Int × ByteArray × Int × Int) := (spec_l2Draw.f k s0_0 s0_1 s0_2).bind fun bt605 => ((spec_l1Below.f s0_0 bt605.2.2.2.1 bt605.2.2.2.2 10).bind fun bt611 => (if bt611.1 = 0 then ((spec_l1Below.f s0_0 bt611.2.1 bt611.2.2 6).bind fun bt614 => (some (bt614.1, bt605.2.1, bt605.2.2.1, bt614.2.1, bt614.2.2))) else (if bt611.1 = 1 then ((spec_l1Num.f s0_0 bt611.2.1 bt611.2.2).bind fun bt617 => (some (bt605.1, bt617.1, bt605.2.2.1, bt617.2.1, bt617.2.2))) else (if bt611.1 = 2 then ((spec_l1Below.f s0_0 bt611.2.1 bt611.2.2 2).bind fun bt620 => (if 0 ≤ (wrap64 (30 + bt620.1)) then (if (wrap64 (30 + bt620.1) : Int).toNat ≤ 281474976710656 then (some (bt605.1, bt605.2.1, strOfNums (List.replicate (wrap64 (30 + bt620.1) : Int).toNat 0), bt620.2.1, bt620.2.2)) else (none)) else (none))) else (if bt611.1 = 3 then ((spec_l1Str.f s0_0 bt611.2.1 bt611.2.2 (([(⟨#[105, 116, 39, 115]⟩ : ByteArray), (⟨#[97, 32, 98]⟩ : ByteArray), (⟨#[126]⟩ : ByteArray), (⟨#[127]⟩ : ByteArray)] : List ByteArray))).bind fun bt629 => (some (bt605.1, bt605.2.1, bt629.1, bt629.2.1, bt629.2.2))) else (some (bt605.1, bt605.2.1, bt605.2.2.1, bt611.2.1, bt611.2.2)))))))
theorem spec_l2Any.mono : ∀ a0 a1 a2 k, LeO (spec_l2Any.f k a0 a1 a2) (spec_l2Any.f (k + 1) a0 a1 a2) := by
  intro a0 a1 a2 k
  unfold spec_l2Any.f
  repeat' first
      | (with_reducible exact spec_l2Draw.mono _ _ _ _)
      | (with_reducible exact LeO.refl _)
      | (with_reducible exact LeO.none _)
      | (with_reducible refine LeO.ite ?_ ?_)
      | (with_reducible refine LeO.bind ?_ (fun _ => ?_))
      | exact spec_l2Draw.mono _ _ _ _
      | exact LeO.none _
      | refine LeO.ite ?_ ?_
      | refine LeO.bind ?_ (fun _ => ?_)
set_option maxHeartbeats 8000000 in
set_option maxRecDepth 100000 in
theorem spec_l2Any.calls (k : Nat) (g : Nat) (s0_0 : List Int) (s0_1 : Int) (s0_2 : Int) (r1 : Int) (r2 : Int) (r3 : ByteArray) (r4 : Int) (r5 : Int) (w0 w : World) (hI : IsS102 w0 w g s0_0 s0_1 s0_2) (hB : Below w0.heap.size w0 w) (h : spec_l2Any.f k s0_0 s0_1 s0_2 = some (r1, r2, r3, r4, r5)) :
  Calls Try.prog 93 #[.pointer (some ⟨g, 0, none⟩)] w fun e w' => e = .returned (.agg #[.int .i64 r1, .int .i64 r2, .string r3]) ∧ IsS102 w0 w' g s0_0 r4 r5 ∧ Below w0.heap.size w0 w' ∧ KeepBut w w' g none := by
 have hu32 := Try.underlying32
 have HI0 := zA hI
 have HK := zA (KeepBut.refl w g none)
 have HL := zA hB.size
 clear hI
 have HW0 := zA hB.size
 have HB := zA hB
 clear hB
 have H : ((spec_l2Draw.f k s0_0 s0_1 s0_2).bind fun bt605 => ((spec_l1Below.f s0_0 bt605.2.2.2.1 bt605.2.2.2.2 10).bind fun bt611 => (if bt611.1 = 0 then ((spec_l1Below.f s0_0 bt611.2.1 bt611.2.2 6).bind fun bt614 => (some (bt614.1, bt605.2.1, bt605.2.2.1, bt614.2.1, bt614.2.2))) else (if bt611.1 = 1 then ((spec_l1Num.f s0_0 bt611.2.1 bt611.2.2).bind fun bt617 => (some (bt605.1, bt617.1, bt605.2.2.1, bt617.2.1, bt617.2.2))) else (if bt611.1 = 2 then ((spec_l1Below.f s0_0 bt611.2.1 bt611.2.2 2).bind fun bt620 => (if 0 ≤ (wrap64 (30 + bt620.1)) then (if (wrap64 (30 + bt620.1) : Int).toNat ≤ 281474976710656 then (some (bt605.1, bt605.2.1, strOfNums (List.replicate (wrap64 (30 + bt620.1) : Int).toNat 0), bt620.2.1, bt620.2.2)) else (none)) else (none))) else (if bt611.1 = 3 then ((spec_l1Str.f s0_0 bt611.2.1 bt611.2.2 (([(⟨#[105, 116, 39, 115]⟩ : ByteArray), (⟨#[97, 32, 98]⟩ : ByteArray), (⟨#[126]⟩ : ByteArray), (⟨#[127]⟩ : ByteArray)] : List ByteArray))).bind fun bt629 => (some (bt605.1, bt605.2.1, bt629.1, bt629.2.1, bt629.2.2))) else (some (bt605.1, bt605.2.1, bt605.2.2.1, bt611.2.1, bt611.2.2)))))))) = some (r1, r2, r3, r4, r5) := h
 clear h
 replace H := zI H
 obtain ⟨⟨t605, t606, t607, t608, t609⟩, A2, H⟩ := H
 try dsimp only at H
 replace H := zI H
 obtain ⟨⟨t611, t612, t613⟩, A3, H⟩ := H
 try dsimp only at H
 by_cases c4 : t611 = 0
 ·rw [if_pos c4] at H
  have c4b0 : (t611 == 0) = true := beq_iff_eq.mpr c4
  have c4b1 : (t611 != 0) = false := bne_eq_false_iff_eq.mpr c4
  clear c4
  replace H := zI H
  obtain ⟨⟨t614, t615, t616⟩, A5, H⟩ := H
  try dsimp only at H
  simp only [Option.some.injEq, Prod.mk.injEq] at H
  obtain ⟨rfl, rfl, rfl, rfl, rfl⟩ := H
  go_enter Try.func93, Try.ntmps93
  go_wp2_with (first | ((with_reducible refine zt 2 ?_); refine zn #[.int .i64 0, .int .i64 0, .string (⟨#[]⟩ : ByteArray)] 32 ?_; intro gb604 hg w6 hbox hb; replace HB := zS hb zz1; have BK604 := zA hbox; have GW604 := zA ((zz43 : w.heap.size ≤ gb604)); have GE604 := zA ((Nat.le_trans HW0.out (zz43 : w.heap.size ≤ gb604) : w0.heap.size ≤ gb604)); replace HK := zT (KeepBut.of_below hb g none); have NB0_604 := zA ((zz104 : g ≠ gb604)); have NB604_0 := zA ((zz105 : gb604 ≠ g)); replace HI0 := zA (IsS102.below zz0 hb); clear hb hbox hg) | ((with_reducible refine zg 111 ?_); refine gL (some 5) Try.func111 #[.pointer (some ⟨g, 0, none⟩)] ?_; (with_reducible refine (spec_l2Draw.calls k g s0_0 s0_1 s0_2 t605 t606 t607 t608 t609 w0 _ ?z1 ?z2 A2.out).mono ?_); (case z1 => exact zz10); (case z2 => exact zz39); rintro e w7 ⟨rfl, hi, hb, hk⟩; refine ⟨_, rfl, ?_⟩; replace BK604 := zV hk BK604 NB604_0; replace HK := zT hk (zf1 GW604); replace HB := zA hb; replace HI0 := zA hi; clear hb hk hi) | ((with_reducible refine zt 3 ?_); refine zn #[.int .i64 0, .int .i64 0, .string (⟨#[]⟩ : ByteArray)] 32 ?_; intro gb610 hg w8 hbox hb; replace HB := zS hb zz39; have BK610 := zA hbox; have GW610 := zA ((zz82 : w.heap.size ≤ gb610)); have GE610 := zA ((Nat.le_trans HW0.out (zz82 : w.heap.size ≤ gb610) : w0.heap.size ≤ gb610)); replace HK := zT (KeepBut.of_below hb g none) (zf1 GW604); have NB604_610 := zX BK604 hg; have NB610_604 := zY BK604 hg; replace BK604 := zB BK604 hb; have NB0_610 := zA ((zz106 : g ≠ gb610)); have NB610_0 := zA ((zz107 : gb610 ≠ g)); replace HI0 := zA (IsS102.below zz10 hb); clear hb hbox hg; have hnb9 := NB610_604.out; have hnc9 := NB604_610.out; have hnb10 := NB610_0.out; have hnc10 := NB0_610.out; obtain ⟨hcz11_0, hcz11_1, hcz11_2, hfz11_0, hfz11_1, hfz11_2⟩ := zh3 BK610) | ((with_reducible refine zg 107 ?_); refine gL (some 7) Try.func107 #[.pointer (some ⟨g, 0, none⟩), .int .i64 10] ?_; (with_reducible refine (spec_l1Below.calls g s0_0 t608 t609 10 t611 t612 t613 w0 _ ?z1 ?z2 A3.out).mono ?_); (case z1 => exact zz11); (case z2 => exact zz13); rintro e w12 ⟨rfl, hi, hb, hk⟩; refine ⟨_, rfl, ?_⟩; replace BK604 := zA (KeepBut.blk hk (g' := gb604) (o := .cells #[.int .i64 0, .int .i64 0, .string (⟨#[]⟩ : ByteArray)] 32 (0, 0)) zz30 NB604_0.out (by simp)); replace BK610 := zA (KeepBut.blk hk (g' := gb610) (o := .cells #[.int .i64 t605, .int .i64 t606, .string t607] 32 (0, 0)) zz15 NB610_0.out (by simp)); replace HK := zT hk (zf2 GW604 GW610); replace HB := zA hb; replace HI0 := zA hi; clear hb hk hi) | ((with_reducible refine zg 107 ?_); refine gL (some 11) Try.func107 #[.pointer (some ⟨g, 0, none⟩), .int .i64 6] ?_; (with_reducible refine (spec_l1Below.calls g s0_0 t612 t613 6 t614 t615 t616 w0 _ ?z1 ?z2 A5.out).mono ?_); (case z1 => exact zz11); (case z2 => exact zz13); rintro e w13 ⟨rfl, hi, hb, hk⟩; refine ⟨_, rfl, ?_⟩; replace BK604 := zV hk BK604 NB604_0; replace BK610 := zV hk BK610 NB610_0; replace HK := zT hk (zf2 GW604 GW610); replace HB := zA hb; replace HI0 := zA hi; clear hb hk hi; obtain ⟨hcz14_0, hcz14_1, hcz14_2, hfz14_0, hfz14_1, hfz14_2⟩ := zh3 BK610; have hnb15 := NB604_0.out; have hnc15 := NB0_604.out; obtain ⟨hcz16_0, hcz16_1, hcz16_2, hfz16_0, hfz16_1, hfz16_2⟩ := zh3 BK604))
  refine bodyPost_ret (results_cell_row rfl _ _ gb604 32 #[.int .i64 t614, .int .i64 t606, .string t607] (0, 0) _ rfl (by (with_reducible repeat (first | refine blk_drewN ?_ _ | refine blk_drew ?_ | refine blk_alloc ?_ _)); refine blk_put (cs := #[.int .i64 t614, .int .i64 t606, .string (⟨#[]⟩ : ByteArray)]) ?_ 2 _ rfl; (with_reducible repeat (first | refine blk_drewN ?_ _ | refine blk_drew ?_ | refine blk_alloc ?_ _)); refine blk_put (cs := #[.int .i64 t614, .int .i64 0, .string (⟨#[]⟩ : ByteArray)]) ?_ 1 _ rfl; (with_reducible repeat (first | refine blk_drewN ?_ _ | refine blk_drew ?_ | refine blk_alloc ?_ _)); refine blk_put (cs := #[.int .i64 0, .int .i64 0, .string (⟨#[]⟩ : ByteArray)]) ?_ 0 _ rfl; (with_reducible repeat (first | refine blk_drewN ?_ _ | refine blk_drew ?_ | refine blk_alloc ?_ _)); refine blk_far ?_ NB604_610.out _; (with_reducible repeat (first | refine blk_drewN ?_ _ | refine blk_drew ?_ | refine blk_alloc ?_ _)); exact BK604.out) Try.underlying32 rfl (by kernel_rfl)) rfl ?_
  exact ⟨zw, zz11, zz13, zf2 GW604 GW610⟩
 ·rw [if_neg c4] at H
  have c4b0 : (t611 == 0) = false := beq_eq_false_iff_ne.mpr c4
  have c4b1 : (t611 != 0) = true := bne_iff_ne.mpr c4
  by_cases c17 : t611 = 1
  ·rw [if_pos c17] at H
   have c17b0 : (t611 == 1) = true := beq_iff_eq.mpr c17
   have c17b1 : (t611 != 1) = false := bne_eq_false_iff_eq.mpr c17
   clear c17
   replace H := zI H
   obtain ⟨⟨t617, t618, t619⟩, A18, H⟩ := H
   try dsimp only at H
   simp only [Option.some.injEq, Prod.mk.injEq] at H
   obtain ⟨rfl, rfl, rfl, rfl, rfl⟩ := H
   go_enter Try.func93, Try.ntmps93
   go_wp2_with (first | ((with_reducible refine zt 2 ?_); refine zn #[.int .i64 0, .int .i64 0, .string (⟨#[]⟩ : ByteArray)] 32 ?_; intro gb604 hg w19 hbox hb; replace HB := zS hb zz1; have BK604 := zA hbox; have GW604 := zA ((zz43 : w.heap.size ≤ gb604)); have GE604 := zA ((Nat.le_trans HW0.out (zz43 : w.heap.size ≤ gb604) : w0.heap.size ≤ gb604)); replace HK := zT (KeepBut.of_below hb g none); have NB0_604 := zA ((zz104 : g ≠ gb604)); have NB604_0 := zA ((zz105 : gb604 ≠ g)); replace HI0 := zA (IsS102.below zz0 hb); clear hb hbox hg) | ((with_reducible refine zg 111 ?_); refine gL (some 5) Try.func111 #[.pointer (some ⟨g, 0, none⟩)] ?_; (with_reducible refine (spec_l2Draw.calls k g s0_0 s0_1 s0_2 t605 t606 t607 t608 t609 w0 _ ?z1 ?z2 A2.out).mono ?_); (case z1 => exact zz10); (case z2 => exact zz39); rintro e w20 ⟨rfl, hi, hb, hk⟩; refine ⟨_, rfl, ?_⟩; replace BK604 := zV hk BK604 NB604_0; replace HK := zT hk (zf1 GW604); replace HB := zA hb; replace HI0 := zA hi; clear hb hk hi) | ((with_reducible refine zt 3 ?_); refine zn #[.int .i64 0, .int .i64 0, .string (⟨#[]⟩ : ByteArray)] 32 ?_; intro gb610 hg w21 hbox hb; replace HB := zS hb zz39; have BK610 := zA hbox; have GW610 := zA ((zz82 : w.heap.size ≤ gb610)); have GE610 := zA ((Nat.le_trans HW0.out (zz82 : w.heap.size ≤ gb610) : w0.heap.size ≤ gb610)); replace HK := zT (KeepBut.of_below hb g none) (zf1 GW604); have NB604_610 := zX BK604 hg; have NB610_604 := zY BK604 hg; replace BK604 := zB BK604 hb; have NB0_610 := zA ((zz106 : g ≠ gb610)); have NB610_0 := zA ((zz107 : gb610 ≠ g)); replace HI0 := zA (IsS102.below zz10 hb); clear hb hbox hg; have hnb22 := NB610_604.out; have hnc22 := NB604_610.out; have hnb23 := NB610_0.out; have hnc23 := NB0_610.out; obtain ⟨hcz24_0, hcz24_1, hcz24_2, hfz24_0, hfz24_1, hfz24_2⟩ := zh3 BK610) | ((with_reducible refine zg 107 ?_); refine gL (some 7) Try.func107 #[.pointer (some ⟨g, 0, none⟩), .int .i64 10] ?_; (with_reducible refine (spec_l1Below.calls g s0_0 t608 t609 10 t611 t612 t613 w0 _ ?z1 ?z2 A3.out).mono ?_); (case z1 => exact zz11); (case z2 => exact zz13); rintro e w25 ⟨rfl, hi, hb, hk⟩; refine ⟨_, rfl, ?_⟩; replace BK604 := zA (KeepBut.blk hk (g' := gb604) (o := .cells #[.int .i64 0, .int .i64 0, .string (⟨#[]⟩ : ByteArray)] 32 (0, 0)) zz30 NB604_0.out (by simp)); replace BK610 := zA (KeepBut.blk hk (g' := gb610) (o := .cells #[.int .i64 t605, .int .i64 t606, .string t607] 32 (0, 0)) zz15 NB610_0.out (by simp)); replace HK := zT hk (zf2 GW604 GW610); replace HB := zA hb; replace HI0 := zA hi; clear hb hk hi) | ((with_reducible refine zg 113 ?_); refine gL (some 16) Try.func113 #[.pointer (some ⟨g, 0, none⟩)] ?_; (with_reducible refine (spec_l1Num.calls g s0_0 t612 t613 t617 t618 t619 w0 _ ?z1 ?z2 A18.out).mono ?_); (case z1 => exact zz11); (case z2 => exact zz13); rintro e w26 ⟨rfl, hi, hb, hk⟩; refine ⟨_, rfl, ?_⟩; replace BK604 := zV hk BK604 NB604_0; replace BK610 := zV hk BK610 NB610_0; replace HK := zT hk (zf2 GW604 GW610); replace HB := zA hb; replace HI0 := zA hi; clear hb hk hi; obtain ⟨hcz27_0, hcz27_1, hcz27_2, hfz27_0, hfz27_1, hfz27_2⟩ := zh3 BK610; have hnb28 := NB604_0.out; have hnc28 := NB0_604.out; obtain ⟨hcz29_0, hcz29_1, hcz29_2, hfz29_0, hfz29_1, hfz29_2⟩ := zh3 BK604))
   refine bodyPost_ret (results_cell_row rfl _ _ gb604 32 #[.int .i64 t605, .int .i64 t617, .string t607] (0, 0) _ rfl (by (with_reducible repeat (first | refine blk_drewN ?_ _ | refine blk_drew ?_ | refine blk_alloc ?_ _)); refine blk_put (cs := #[.int .i64 t605, .int .i64 t617, .string (⟨#[]⟩ : ByteArray)]) ?_ 2 _ rfl; (with_reducible repeat (first | refine blk_drewN ?_ _ | refine blk_drew ?_ | refine blk_alloc ?_ _)); refine blk_put (cs := #[.int .i64 t605, .int .i64 0, .string (⟨#[]⟩ : ByteArray)]) ?_ 1 _ rfl; (with_reducible repeat (first | refine blk_drewN ?_ _ | refine blk_drew ?_ | refine blk_alloc ?_ _)); refine blk_put (cs := #[.int .i64 0, .int .i64 0, .string (⟨#[]⟩ : ByteArray)]) ?_ 0 _ rfl; (with_reducible repeat (first | refine blk_drewN ?_ _ | refine blk_drew ?_ | refine blk_alloc ?_ _)); refine blk_far ?_ NB604_610.out _; (with_reducible repeat (first | refine blk_drewN ?_ _ | refine blk_drew ?_ | refine blk_alloc ?_ _)); exact BK604.out) Try.underlying32 rfl (by kernel_rfl)) rfl ?_
   exact ⟨zw, zz11, zz13, zf2 GW604 GW610⟩
  ·rw [if_neg c17] at H
   have c17b0 : (t611 == 1) = false := beq_eq_false_iff_ne.mpr c17
   have c17b1 : (t611 != 1) = true := bne_iff_ne.mpr c17
   by_cases c30 : t611 = 2
   ·rw [if_pos c30] at H
    have c30b0 : (t611 == 2) = true := beq_iff_eq.mpr c30
    have c30b1 : (t611 != 2) = false := bne_eq_false_iff_eq.mpr c30
    clear c30
    replace H := zI H
    obtain ⟨⟨t620, t621, t622⟩, A31, H⟩ := H
    try dsimp only at H
    obtain ⟨ji32, hji32⟩ : ∃ j_ : Int, (wrap64 (30 + t620)) = j_ := ⟨_, rfl⟩
    replace H : (if 0 ≤ (ji32) then (if (ji32 : Int).toNat ≤ 281474976710656 then (some (t605, t606, strOfNums (List.replicate (ji32 : Int).toNat 0), t621, t622)) else (none)) else (none)) = some (r1, r2, r3, r4, r5) := by first | (rw [hji32] at H; exact H) | (simp only [hji32] at H ⊢; exact H)
    (try rw [hji32] at A2)
    (try rw [hji32] at A3)
    (try rw [hji32] at A31)
    have hji32w : (IntKind.i64.wrap (30 + t620)) = ji32 := (i64_w _).trans hji32
    by_cases c33 : 0 ≤ (ji32)
    ·rw [if_pos c33] at H
     have c33b0 := eq_true c33
     have c33b1 : decide (0 ≤ (ji32)) = true := decide_eq_true c33
     clear c33
     by_cases c34 : (ji32 : Int).toNat ≤ 281474976710656
     ·rw [if_pos c34] at H
      have c34b0 := eq_true c34
      have c34b1 : decide ((ji32 : Int).toNat ≤ 281474976710656) = true := decide_eq_true c34
      clear c34
      obtain ⟨y623, hy623⟩ : ∃ y_ : List Int, y_ = (List.replicate (ji32 : Int).toNat 0) := ⟨_, rfl⟩
      replace H : (some (t605, t606, strOfNums y623, t621, t622)) = some (r1, r2, r3, r4, r5) := by first | (rw [hy623]; with_reducible exact H) | (have H2_ := (Option.bind_some _ _).symm.trans H; rw [hy623]; with_reducible exact H2_) | (have H2_ := (Option.bind_some _ _).symm.trans H; with_reducible exact H2_) | with_reducible exact H | (rw [hy623]; exact H) | exact H
      have Ny623 := zA hy623
      clear hy623
      simp only [Option.some.injEq, Prod.mk.injEq] at H
      obtain ⟨rfl, rfl, rfl, rfl, rfl⟩ := H
      go_enter Try.func93, Try.ntmps93
      go_wp2_with (first | ((with_reducible refine zt 2 ?_); refine zn #[.int .i64 0, .int .i64 0, .string (⟨#[]⟩ : ByteArray)] 32 ?_; intro gb604 hg w35 hbox hb; replace HB := zS hb zz1; have BK604 := zA hbox; have GW604 := zA ((zz43 : w.heap.size ≤ gb604)); have GE604 := zA ((Nat.le_trans HW0.out (zz43 : w.heap.size ≤ gb604) : w0.heap.size ≤ gb604)); replace HK := zT (KeepBut.of_below hb g none); have NB0_604 := zA ((zz104 : g ≠ gb604)); have NB604_0 := zA ((zz105 : gb604 ≠ g)); replace HI0 := zA (IsS102.below zz0 hb); clear hb hbox hg) | ((with_reducible refine zg 111 ?_); refine gL (some 5) Try.func111 #[.pointer (some ⟨g, 0, none⟩)] ?_; (with_reducible refine (spec_l2Draw.calls k g s0_0 s0_1 s0_2 t605 t606 t607 t608 t609 w0 _ ?z1 ?z2 A2.out).mono ?_); (case z1 => exact zz10); (case z2 => exact zz39); rintro e w36 ⟨rfl, hi, hb, hk⟩; refine ⟨_, rfl, ?_⟩; replace BK604 := zV hk BK604 NB604_0; replace HK := zT hk (zf1 GW604); replace HB := zA hb; replace HI0 := zA hi; clear hb hk hi) | ((with_reducible refine zt 3 ?_); refine zn #[.int .i64 0, .int .i64 0, .string (⟨#[]⟩ : ByteArray)] 32 ?_; intro gb610 hg w37 hbox hb; replace HB := zS hb zz39; have BK610 := zA hbox; have GW610 := zA ((zz82 : w.heap.size ≤ gb610)); have GE610 := zA ((Nat.le_trans HW0.out (zz82 : w.heap.size ≤ gb610) : w0.heap.size ≤ gb610)); replace HK := zT (KeepBut.of_below hb g none) (zf1 GW604); have NB604_610 := zX BK604 hg; have NB610_604 := zY BK604 hg; replace BK604 := zB BK604 hb; have NB0_610 := zA ((zz106 : g ≠ gb610)); have NB610_0 := zA ((zz107 : gb610 ≠ g)); replace HI0 := zA (IsS102.below zz10 hb); clear hb hbox hg; have hnb38 := NB610_604.out; have hnc38 := NB604_610.out; have hnb39 := NB610_0.out; have hnc39 := NB0_610.out; obtain ⟨hcz40_0, hcz40_1, hcz40_2, hfz40_0, hfz40_1, hfz40_2⟩ := zh3 BK610) | ((with_reducible refine zg 107 ?_); refine gL (some 7) Try.func107 #[.pointer (some ⟨g, 0, none⟩), .int .i64 10] ?_; (with_reducible refine (spec_l1Below.calls g s0_0 t608 t609 10 t611 t612 t613 w0 _ ?z1 ?z2 A3.out).mono ?_); (case z1 => exact zz11); (case z2 => exact zz13); rintro e w41 ⟨rfl, hi, hb, hk⟩; refine ⟨_, rfl, ?_⟩; replace BK604 := zA (KeepBut.blk hk (g' := gb604) (o := .cells #[.int .i64 0, .int .i64 0, .string (⟨#[]⟩ : ByteArray)] 32 (0, 0)) zz30 NB604_0.out (by simp)); replace BK610 := zA (KeepBut.blk hk (g' := gb610) (o := .cells #[.int .i64 t605, .int .i64 t606, .string t607] 32 (0, 0)) zz15 NB610_0.out (by simp)); replace HK := zT hk (zf2 GW604 GW610); replace HB := zA hb; replace HI0 := zA hi; clear hb hk hi) | ((with_reducible refine zg 107 ?_); refine gL (some 21) Try.func107 #[.pointer (some ⟨g, 0, none⟩), .int .i64 2] ?_; (with_reducible refine (spec_l1Below.calls g s0_0 t612 t613 2 t620 t621 t622 w0 _ ?z1 ?z2 A31.out).mono ?_); (case z1 => exact zz11); (case z2 => exact zz13); rintro e w42 ⟨rfl, hi, hb, hk⟩; refine ⟨_, rfl, ?_⟩; replace BK604 := zV hk BK604 NB604_0; replace BK610 := zV hk BK610 NB610_0; replace HK := zT hk (zf2 GW604 GW610); replace HB := zA hb; replace HI0 := zA hi; clear hb hk hi) | ((with_reducible refine zt 23 ?_); refine Kd.R_make (Kd.int .u8) _ 5 rfl (N := 23) rfl 22 _ _ rfl ji32 rfl rfl Try.underlying22 (.int .u8 0) 1 info5 rfl (by decide) (by omega) 0 (ok := fun _ => True) (okp := fun _ => True) rfl (fun _ hk => hk) trivial (of_decide_eq_true za) (Nat.le_trans (Nat.mul_le_mul_right _ (of_decide_eq_true za : ji32.toNat ≤ 281474976710656)) (by omega)) (Below.refl _ _) (Nat.le_refl _) ?_; intro v624 w43 ho44 hb hg_ hnew_; clear hg_ hnew_; (first | rw [← Ny623.out] at ho44 | (simp only [Int.reduceToNat] at ho44; rw [← Ny623.out] at ho44)); have HO625 := zA (Kd.R_lower ho44 (keep_size (w := w) (g := g) (row := none) (zf2 GW604 GW610))); replace BK604 := zB BK604 hb; replace BK610 := zB BK610 hb; replace HK := zT (KeepBut.of_below hb g none) (zf2 GW604 GW610); replace HB := zS hb zz13; replace HI0 := zA (IsS102.below zz11 hb); clear hb ho44; have hcv45 := own_string (P := Try.prog) Try.underlying22 Try.underlying5 Try.underlying9 (Kd.own_of_R HO625.out); obtain ⟨hcz46_0, hcz46_1, hcz46_2, hfz46_0, hfz46_1, hfz46_2⟩ := zh3 BK610; have hnb47 := NB604_0.out; have hnc47 := NB0_604.out; obtain ⟨hcz48_0, hcz48_1, hcz48_2, hfz48_0, hfz48_1, hfz48_2⟩ := zh3 BK604))
      refine bodyPost_ret (results_cell_row rfl _ _ gb604 32 #[.int .i64 t605, .int .i64 t606, .string (strOfNums y623)] (0, 0) _ rfl zz44 Try.underlying32 rfl (by kernel_rfl)) rfl ?_
      exact ⟨by first | rfl | (simp [errW_none, errW_some] <;> rfl) | (simp only [← hji32]; first | rfl | (simp [errW_none, errW_some] <;> rfl)) | (simp [*, errW_none, errW_some] <;> rfl), zz11, zz13, zf2 GW604 GW610⟩
     ·rw [if_neg c34] at H
      exact absurd H (by simp)
    ·rw [if_neg c33] at H
     exact absurd H (by simp)
   ·rw [if_neg c30] at H
    have c30b0 : (t611 == 2) = false := beq_eq_false_iff_ne.mpr c30
    have c30b1 : (t611 != 2) = true := bne_iff_ne.mpr c30
    by_cases c49 : t611 = 3
    ·rw [if_pos c49] at H
     have c49b0 : (t611 == 3) = true := beq_iff_eq.mpr c49
     have c49b1 : (t611 != 3) = false := bne_eq_false_iff_eq.mpr c49
     clear c49
     obtain ⟨y626, hy626⟩ : ∃ y_ : List ByteArray, y_ = (([(⟨#[105, 116, 39, 115]⟩ : ByteArray), (⟨#[97, 32, 98]⟩ : ByteArray), (⟨#[126]⟩ : ByteArray), (⟨#[127]⟩ : ByteArray)] : List ByteArray)) := ⟨_, rfl⟩
     replace H : ((spec_l1Str.f s0_0 t612 t613 y626).bind fun bt629 => (some (t605, t606, bt629.1, bt629.2.1, bt629.2.2))) = some (r1, r2, r3, r4, r5) := by first | (rw [hy626]; with_reducible exact H) | (have H2_ := (Option.bind_some _ _).symm.trans H; rw [hy626]; with_reducible exact H2_) | (have H2_ := (Option.bind_some _ _).symm.trans H; with_reducible exact H2_) | with_reducible exact H | (rw [hy626]; exact H) | exact H
     have Ny626 := zA hy626
     clear hy626
     replace H := zI H
     obtain ⟨⟨t629, t630, t631⟩, A50, H⟩ := H
     try dsimp only at H
     simp only [Option.some.injEq, Prod.mk.injEq] at H
     obtain ⟨rfl, rfl, rfl, rfl, rfl⟩ := H
     go_enter Try.func93, Try.ntmps93
     go_wp2_with (first | ((with_reducible refine zt 2 ?_); refine zn #[.int .i64 0, .int .i64 0, .string (⟨#[]⟩ : ByteArray)] 32 ?_; intro gb604 hg w51 hbox hb; replace HB := zS hb zz1; have BK604 := zA hbox; have GW604 := zA ((zz43 : w.heap.size ≤ gb604)); have GE604 := zA ((Nat.le_trans HW0.out (zz43 : w.heap.size ≤ gb604) : w0.heap.size ≤ gb604)); replace HK := zT (KeepBut.of_below hb g none); have NB0_604 := zA ((zz104 : g ≠ gb604)); have NB604_0 := zA ((zz105 : gb604 ≠ g)); replace HI0 := zA (IsS102.below zz0 hb); clear hb hbox hg) | ((with_reducible refine zg 111 ?_); refine gL (some 5) Try.func111 #[.pointer (some ⟨g, 0, none⟩)] ?_; (with_reducible refine (spec_l2Draw.calls k g s0_0 s0_1 s0_2 t605 t606 t607 t608 t609 w0 _ ?z1 ?z2 A2.out).mono ?_); (case z1 => exact zz10); (case z2 => exact zz39); rintro e w52 ⟨rfl, hi, hb, hk⟩; refine ⟨_, rfl, ?_⟩; replace BK604 := zV hk BK604 NB604_0; replace HK := zT hk (zf1 GW604); replace HB := zA hb; replace HI0 := zA hi; clear hb hk hi) | ((with_reducible refine zt 3 ?_); refine zn #[.int .i64 0, .int .i64 0, .string (⟨#[]⟩ : ByteArray)] 32 ?_; intro gb610 hg w53 hbox hb; replace HB := zS hb zz39; have BK610 := zA hbox; have GW610 := zA ((zz82 : w.heap.size ≤ gb610)); have GE610 := zA ((Nat.le_trans HW0.out (zz82 : w.heap.size ≤ gb610) : w0.heap.size ≤ gb610)); replace HK := zT (KeepBut.of_below hb g none) (zf1 GW604); have NB604_610 := zX BK604 hg; have NB610_604 := zY BK604 hg; replace BK604 := zB BK604 hb; have NB0_610 := zA ((zz106 : g ≠ gb610)); have NB610_0 := zA ((zz107 : gb610 ≠ g)); replace HI0 := zA (IsS102.below zz10 hb); clear hb hbox hg; have hnb54 := NB610_604.out; have hnc54 := NB604_610.out; have hnb55 := NB610_0.out; have hnc55 := NB0_610.out; obtain ⟨hcz56_0, hcz56_1, hcz56_2, hfz56_0, hfz56_1, hfz56_2⟩ := zh3 BK610) | ((with_reducible refine zg 107 ?_); refine gL (some 7) Try.func107 #[.pointer (some ⟨g, 0, none⟩), .int .i64 10] ?_; (with_reducible refine (spec_l1Below.calls g s0_0 t608 t609 10 t611 t612 t613 w0 _ ?z1 ?z2 A3.out).mono ?_); (case z1 => exact zz11); (case z2 => exact zz13); rintro e w57 ⟨rfl, hi, hb, hk⟩; refine ⟨_, rfl, ?_⟩; replace BK604 := zA (KeepBut.blk hk (g' := gb604) (o := .cells #[.int .i64 0, .int .i64 0, .string (⟨#[]⟩ : ByteArray)] 32 (0, 0)) zz30 NB604_0.out (by simp)); replace BK610 := zA (KeepBut.blk hk (g' := gb610) (o := .cells #[.int .i64 t605, .int .i64 t606, .string t607] 32 (0, 0)) zz15 NB610_0.out (by simp)); replace HK := zT hk (zf2 GW604 GW610); replace HB := zA hb; replace HI0 := zA hi; clear hb hk hi) | ((with_reducible refine zt 29 ?_); refine Kd.R_lit Kd.string _ 9 ?hg (N := 29) ?hd (xs := ([(⟨#[105, 116, 39, 115]⟩ : ByteArray), (⟨#[97, 32, 98]⟩ : ByteArray), (⟨#[126]⟩ : ByteArray), (⟨#[127]⟩ : ByteArray)] : List ByteArray)) (inner := [.string (⟨#[105, 116, 39, 115]⟩ : ByteArray), .string (⟨#[97, 32, 98]⟩ : ByteArray), .string (⟨#[126]⟩ : ByteArray), .string (⟨#[127]⟩ : ByteArray)]) (ok := fun _ => True) (okp := fun _ => True) ?hr ?hp (fun _ hk => hk) trivial (Below.refl _ _) (Nat.le_refl _) (by simp) ?_; (case hd => rfl); (case hg => rfl); (case hr => exact zz35); (case hp => exact (Reps.one (show Kd.M Kd.string _ _ _ (⟨#[105, 116, 39, 115]⟩ : ByteArray) [.string (⟨#[105, 116, 39, 115]⟩ : ByteArray)] from rfl) (Reps.one (show Kd.M Kd.string _ _ _ (⟨#[97, 32, 98]⟩ : ByteArray) [.string (⟨#[97, 32, 98]⟩ : ByteArray)] from rfl) (Reps.one (show Kd.M Kd.string _ _ _ (⟨#[126]⟩ : ByteArray) [.string (⟨#[126]⟩ : ByteArray)] from rfl) (Reps.one (show Kd.M Kd.string _ _ _ (⟨#[127]⟩ : ByteArray) [.string (⟨#[127]⟩ : ByteArray)] from rfl) (Reps.none _ _)))))); intro v627 w58 ho59 hb hg_ hnew_; clear hg_ hnew_; (first | rw [← Ny626.out] at ho59 | (simp only [Int.reduceToNat] at ho59; rw [← Ny626.out] at ho59)); have HO628 := zA (Kd.R_lower ho59 (keep_size (w := w) (g := g) (row := none) (zf2 GW604 GW610))); replace BK604 := zB BK604 hb; replace BK610 := zB BK610 hb; replace HK := zT (KeepBut.of_below hb g none) (zf2 GW604 GW610); replace HB := zS hb zz13; replace HI0 := zA (IsS102.below zz11 hb); clear hb ho59; obtain ⟨Ao60, co60, eo60⟩ := Kd.R_slice HO628.out; subst eo60) | ((with_reducible refine zg 114 ?_); refine gL (some 30) Try.func114 #[.pointer (some ⟨g, 0, none⟩), .slice Ao60 y626.length co60] ?_; (with_reducible refine (spec_l1Str.calls g s0_0 t612 t613 _ _ y626 t629 t630 t631 w0 _ ?z1 ?z2 ?z3 ?z4 ?z5 A50.out).mono ?_); (case z1 => exact zz11); (case z2 => exact zz13); (case z3 => exact ze HO628); (case z4 => exact zl HO628); (case z5 => exact far_slice (IsS102.own_ne HI0.out HO628.out (by decide))); rintro e w61 ⟨rfl, hi, hb, hk⟩; refine ⟨_, rfl, ?_⟩; replace BK604 := zV hk BK604 NB604_0; replace BK610 := zV hk BK610 NB610_0; replace HO628 := zA (Kd.R_mono (Kd.R_keep (IsS102.apart (show IsS102 w0 _ g s0_0 t612 t613 from zz11) (zr HO628) (by decide)) hk (fun _ h => h.2)) (fun _ h => h.1)); replace HK := zT hk (zf2 GW604 GW610); replace HB := zA hb; replace HI0 := zA hi; clear hb hk hi; obtain ⟨hcz62_0, hcz62_1, hcz62_2, hfz62_0, hfz62_1, hfz62_2⟩ := zh3 BK610; have hnb63 := NB604_0.out; have hnc63 := NB0_604.out; obtain ⟨hcz64_0, hcz64_1, hcz64_2, hfz64_0, hfz64_1, hfz64_2⟩ := zh3 BK604))
     refine bodyPost_ret (results_cell_row rfl _ _ gb604 32 #[.int .i64 t605, .int .i64 t606, .string t629] (0, 0) _ rfl zz44 Try.underlying32 rfl (by kernel_rfl)) rfl ?_
     exact ⟨zw, zz11, zz13, zf2 GW604 GW610⟩
    ·rw [if_neg c49] at H
     have c49b0 : (t611 == 3) = false := beq_eq_false_iff_ne.mpr c49
     have c49b1 : (t611 != 3) = true := bne_iff_ne.mpr c49
     simp only [Option.some.injEq, Prod.mk.injEq] at H
     obtain ⟨rfl, rfl, rfl, rfl, rfl⟩ := H
     go_enter Try.func93, Try.ntmps93
     go_wp2_with (first | ((with_reducible refine zt 2 ?_); refine zn #[.int .i64 0, .int .i64 0, .string (⟨#[]⟩ : ByteArray)] 32 ?_; intro gb604 hg w65 hbox hb; replace HB := zS hb zz1; have BK604 := zA hbox; have GW604 := zA ((zz43 : w.heap.size ≤ gb604)); have GE604 := zA ((Nat.le_trans HW0.out (zz43 : w.heap.size ≤ gb604) : w0.heap.size ≤ gb604)); replace HK := zT (KeepBut.of_below hb g none); have NB0_604 := zA ((zz104 : g ≠ gb604)); have NB604_0 := zA ((zz105 : gb604 ≠ g)); replace HI0 := zA (IsS102.below zz0 hb); clear hb hbox hg) | ((with_reducible refine zg 111 ?_); refine gL (some 5) Try.func111 #[.pointer (some ⟨g, 0, none⟩)] ?_; (with_reducible refine (spec_l2Draw.calls k g s0_0 s0_1 s0_2 t605 t606 t607 t608 t609 w0 _ ?z1 ?z2 A2.out).mono ?_); (case z1 => exact zz10); (case z2 => exact zz39); rintro e w66 ⟨rfl, hi, hb, hk⟩; refine ⟨_, rfl, ?_⟩; replace BK604 := zV hk BK604 NB604_0; replace HK := zT hk (zf1 GW604); replace HB := zA hb; replace HI0 := zA hi; clear hb hk hi) | ((with_reducible refine zt 3 ?_); refine zn #[.int .i64 0, .int .i64 0, .string (⟨#[]⟩ : ByteArray)] 32 ?_; intro gb610 hg w67 hbox hb; replace HB := zS hb zz39; have BK610 := zA hbox; have GW610 := zA ((zz82 : w.heap.size ≤ gb610)); have GE610 := zA ((Nat.le_trans HW0.out (zz82 : w.heap.size ≤ gb610) : w0.heap.size ≤ gb610)); replace HK := zT (KeepBut.of_below hb g none) (zf1 GW604); have NB604_610 := zX BK604 hg; have NB610_604 := zY BK604 hg; replace BK604 := zB BK604 hb; have NB0_610 := zA ((zz106 : g ≠ gb610)); have NB610_0 := zA ((zz107 : gb610 ≠ g)); replace HI0 := zA (IsS102.below zz10 hb); clear hb hbox hg; have hnb68 := NB610_604.out; have hnc68 := NB604_610.out; have hnb69 := NB610_0.out; have hnc69 := NB0_610.out; obtain ⟨hcz70_0, hcz70_1, hcz70_2, hfz70_0, hfz70_1, hfz70_2⟩ := zh3 BK610) | ((with_reducible refine zg 107 ?_); refine gL (some 7) Try.func107 #[.pointer (some ⟨g, 0, none⟩), .int .i64 10] ?_; (with_reducible refine (spec_l1Below.calls g s0_0 t608 t609 10 t611 t612 t613 w0 _ ?z1 ?z2 A3.out).mono ?_); (case z1 => exact zz11); (case z2 => exact zz13); rintro e w71 ⟨rfl, hi, hb, hk⟩; refine ⟨_, rfl, ?_⟩; replace BK604 := zA (KeepBut.blk hk (g' := gb604) (o := .cells #[.int .i64 0, .int .i64 0, .string (⟨#[]⟩ : ByteArray)] 32 (0, 0)) zz30 NB604_0.out (by simp)); replace BK610 := zA (KeepBut.blk hk (g' := gb610) (o := .cells #[.int .i64 t605, .int .i64 t606, .string t607] 32 (0, 0)) zz15 NB610_0.out (by simp)); replace HK := zT hk (zf2 GW604 GW610); replace HB := zA hb; replace HI0 := zA hi; clear hb hk hi; obtain ⟨hcz72_0, hcz72_1, hcz72_2, hfz72_0, hfz72_1, hfz72_2⟩ := zh3 BK610; have hnb73 := NB604_0.out; have hnc73 := NB0_604.out; obtain ⟨hcz74_0, hcz74_1, hcz74_2, hfz74_0, hfz74_1, hfz74_2⟩ := zh3 BK604))
     refine bodyPost_ret (results_cell_row rfl _ _ gb604 32 #[.int .i64 t605, .int .i64 t606, .string t607] (0, 0) _ rfl (by (with_reducible repeat (first | refine blk_drewN ?_ _ | refine blk_drew ?_ | refine blk_alloc ?_ _)); refine blk_put (cs := #[.int .i64 t605, .int .i64 t606, .string (⟨#[]⟩ : ByteArray)]) ?_ 2 _ rfl; (with_reducible repeat (first | refine blk_drewN ?_ _ | refine blk_drew ?_ | refine blk_alloc ?_ _)); refine blk_put (cs := #[.int .i64 t605, .int .i64 0, .string (⟨#[]⟩ : ByteArray)]) ?_ 1 _ rfl; (with_reducible repeat (first | refine blk_drewN ?_ _ | refine blk_drew ?_ | refine blk_alloc ?_ _)); refine blk_put (cs := #[.int .i64 0, .int .i64 0, .string (⟨#[]⟩ : ByteArray)]) ?_ 0 _ rfl; (with_reducible repeat (first | refine blk_drewN ?_ _ | refine blk_drew ?_ | refine blk_alloc ?_ _)); exact BK604.out) Try.underlying32 rfl (by kernel_rfl)) rfl ?_
     exact ⟨zw, zz11, zz13, zf2 GW604 GW610⟩

end Go.Proofs.Ytnfmpopmigbkoaa.PFnPartsRead

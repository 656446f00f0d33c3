-- Written by mkprint.py, a program of this session (the printer with additions of its own)
import Derived.Test.YtnfmpopmigbkoaaPFnPartsReadx0
import Derived.Test.YtnfmpopmigbkoaaPFnPartsReadx4
import Derived.Test.YtnfmpopmigbkoaaPFnPartsReadx12
import Derived.Test.YtnfmpopmigbkoaaPFnPartsReadx13
namespace Go.Proofs.Ytnfmpopmigbkoaa.PFnPartsRead
open Go.RowKit Go.Proofs.YtnfmpopmigbkoaaW.PrintWords Go.Proofs.YtnfmpopmigbkoaaW.PrintLast Go.Proofs.YtnfmpopmigbkoaaW.PrintMore
attribute [local go_sem] max2_int min2_int max_two min_two max_three min_three max_four min_four   -- for this text's walks alone
set_option linter.unusedVariables false
set_option linter.unusedSimpArgs false

/-! ### spec_l5Val: function 78 -/
def spec_l5Val.f (k : Nat) (s0_0 : List Int) (s0_1 : Int) (s0_2 : Int) (a1_0 : Int) (a1_1 : Int) (a1_2 : Bool) (a1_3 : Bool) : Option (Int × Int × ByteArray × Int × Int) := (spec_l1Once.f s0_0 s0_1 s0_2 8).bind fun bt634 => (if bt634.1 = true then ((spec_l2Any.f k s0_0 bt634.2.1 bt634.2.2).bind fun bt637 => (some (bt637.1, bt637.2.1, bt637.2.2.1, bt637.2.2.2.1, bt637.2.2.2.2))) else ((spec_PartOk.f a1_0 a1_1 a1_2 a1_3).bind fun t642 => (if t642 = true then ((spec_l2Of.f k s0_0 bt634.2.1 bt634.2.2 a1_1 a1_2).bind fun bt643 => (some (bt643.1, bt643.2.1, bt643.2.2.1, bt643.2.2.2.1, bt643.2.2.2.2))) else ((spec_l2Draw.f k s0_0 bt634.2.1 bt634.2.2).bind fun bt648 => (some (bt648.1, bt648.2.1, bt648.2.2.1, bt648.2.2.2.1, bt648.2.2.2.2))))))
theorem spec_l5Val.mono : ∀ a0 a1 a2 a3 a4 a5 a6 k, LeO (spec_l5Val.f k a0 a1 a2 a3 a4 a5 a6) (spec_l5Val.f (k + 1) a0 a1 a2 a3 a4 a5 a6) := by
  intro a0 a1 a2 a3 a4 a5 a6 k
  unfold spec_l5Val.f
  repeat' first
      | (with_reducible exact spec_l2Any.mono _ _ _ _)
      | (with_reducible exact spec_l2Draw.mono _ _ _ _)
      | (with_reducible exact spec_l2Of.mono _ _ _ _ _ _)
      | (with_reducible exact LeO.refl _)
      | (with_reducible exact LeO.none _)
      | (with_reducible refine LeO.ite ?_ ?_)
      | (with_reducible refine LeO.bind ?_ (fun _ => ?_))
      | exact spec_l2Any.mono _ _ _ _
      | exact spec_l2Draw.mono _ _ _ _
      | exact spec_l2Of.mono _ _ _ _ _ _
      | exact LeO.none _
      | refine LeO.ite ?_ ?_
      | refine LeO.bind ?_ (fun _ => ?_)
set_option maxHeartbeats 8000000 in
set_option maxRecDepth 100000 in
theorem spec_l5Val.calls (k : Nat) (g : Nat) (s0_0 : List Int) (s0_1 : Int) (s0_2 : Int) (a1_0 : Int) (a1_1 : Int) (a1_2 : Bool) (a1_3 : Bool) (r1 : Int) (r2 : Int) (r3 : ByteArray) (r4 : Int) (r5 : Int) (w0 w : World) (hI : IsS102 w0 w g s0_0 s0_1 s0_2) (hB : Below w0.heap.size w0 w) (h : spec_l5Val.f k s0_0 s0_1 s0_2 a1_0 a1_1 a1_2 a1_3 = some (r1, r2, r3, r4, r5)) :
  Calls Try.prog 78 #[.pointer (some ⟨g, 0, none⟩), .agg #[.int .i64 a1_0, .int .i64 a1_1, .bool a1_2, .bool a1_3]] w fun e w' => e = .returned (.agg #[.int .i64 r1, .int .i64 r2, .string r3]) ∧ IsS102 w0 w' g s0_0 r4 r5 ∧ Below w0.heap.size w0 w' ∧ KeepBut w w' g none := by
 have hu30 := Try.underlying30
 have hu32 := Try.underlying32
 have HI0 := zA hI
 have HK := zA (KeepBut.refl w g none)
 have HL := zA hB.size
 clear hI
 have HW0 := zA hB.size
 have HB := zA hB
 clear hB
 have H : ((spec_l1Once.f s0_0 s0_1 s0_2 8).bind fun bt634 => (if bt634.1 = true then ((spec_l2Any.f k s0_0 bt634.2.1 bt634.2.2).bind fun bt637 => (some (bt637.1, bt637.2.1, bt637.2.2.1, bt637.2.2.2.1, bt637.2.2.2.2))) else ((spec_PartOk.f a1_0 a1_1 a1_2 a1_3).bind fun t642 => (if t642 = true then ((spec_l2Of.f k s0_0 bt634.2.1 bt634.2.2 a1_1 a1_2).bind fun bt643 => (some (bt643.1, bt643.2.1, bt643.2.2.1, bt643.2.2.2.1, bt643.2.2.2.2))) else ((spec_l2Draw.f k s0_0 bt634.2.1 bt634.2.2).bind fun bt648 => (some (bt648.1, bt648.2.1, bt648.2.2.1, bt648.2.2.2.1, bt648.2.2.2.2))))))) = some (r1, r2, r3, r4, r5) := h
 clear h
 replace H := zI H
 obtain ⟨⟨t634, t635, t636⟩, A3, H⟩ := H
 try dsimp only at H
 by_cases c4 : t634 = true
 ·subst c4
  rw [if_pos rfl] at H
  replace H := zI H
  obtain ⟨⟨t637, t638, t639, t640, t641⟩, A5, H⟩ := H
  try dsimp only at H
  simp only [Option.some.injEq, Prod.mk.injEq] at H
  obtain ⟨rfl, rfl, rfl, rfl, rfl⟩ := H
  go_enter Try.func78, Try.ntmps78
  go_wp2_with (first | ((with_reducible refine zt 3 ?_); refine zn #[.int .i64 a1_0, .int .i64 a1_1, .bool a1_2, .bool a1_3] 30 ?_; intro gb632 hg w6 hbox hb; replace HB := zS hb zz1; have BK632 := zA hbox; have GW632 := zA ((zz43 : w.heap.size ≤ gb632)); have GE632 := zA ((Nat.le_trans HW0.out (zz43 : w.heap.size ≤ gb632) : w0.heap.size ≤ gb632)); replace HK := zT (KeepBut.of_below hb g none); have NB0_632 := zA ((zz104 : g ≠ gb632)); have NB632_0 := zA ((zz105 : gb632 ≠ g)); replace HI0 := zA (IsS102.below zz0 hb); clear hb hbox hg) | ((with_reducible refine zt 4 ?_); refine zn #[.int .i64 0, .int .i64 0, .string (⟨#[]⟩ : ByteArray)] 32 ?_; intro gb633 hg w7 hbox hb; replace HB := zS hb zz86; have BK633 := zA hbox; have GW633 := zA ((zz91 : w.heap.size ≤ gb633)); have GE633 := zA ((Nat.le_trans HW0.out (zz91 : w.heap.size ≤ gb633) : w0.heap.size ≤ gb633)); replace HK := zT (KeepBut.of_below hb g none) (zf1 GW632); have NB632_633 := zX BK632 hg; have NB633_632 := zY BK632 hg; replace BK632 := zB BK632 hb; have NB0_633 := zA ((zz112 : g ≠ gb633)); have NB633_0 := zA ((zz113 : gb633 ≠ g)); replace HI0 := zA (IsS102.below zz41 hb); clear hb hbox hg) | ((with_reducible refine zg 110 ?_); refine gL (some 6) Try.func110 #[.pointer (some ⟨g, 0, none⟩), .int .i64 8] ?_; (with_reducible refine (spec_l1Once.calls g s0_0 s0_1 s0_2 8 true t635 t636 w0 _ ?z1 ?z2 A3.out).mono ?_); (case z1 => exact zz28); (case z2 => exact zz32); rintro e w8 ⟨rfl, hi, hb, hk⟩; refine ⟨_, rfl, ?_⟩; replace BK632 := zV hk BK632 NB632_0; replace BK633 := zV hk BK633 NB633_0; replace HK := zT hk (zf2 GW632 GW633); replace HB := zA hb; replace HI0 := zA hi; clear hb hk hi) | ((with_reducible refine zg 93 ?_); refine gL (some 8) Try.func93 #[.pointer (some ⟨g, 0, none⟩)] ?_; (with_reducible refine (spec_l2Any.calls k g s0_0 t635 t636 t637 t638 t639 t640 t641 w0 _ ?z1 ?z2 A5.out).mono ?_); (case z1 => exact zz28); (case z2 => exact zz32); rintro e w9 ⟨rfl, hi, hb, hk⟩; refine ⟨_, rfl, ?_⟩; replace BK632 := zV hk BK632 NB632_0; replace BK633 := zV hk BK633 NB633_0; replace HK := zT hk (zf2 GW632 GW633); replace HB := zA hb; replace HI0 := zA hi; clear hb hk hi; have hnb10 := NB633_632.out; have hnc10 := NB632_633.out; have hnb11 := NB633_0.out; have hnc11 := NB0_633.out; obtain ⟨hcz12_0, hcz12_1, hcz12_2, hfz12_0, hfz12_1, hfz12_2⟩ := zh3 BK633))
  refine bodyPost_ret (results_cell_row rfl _ _ gb633 32 #[.int .i64 t637, .int .i64 t638, .string t639] (0, 0) _ rfl (by (with_reducible repeat (first | refine blk_drewN ?_ _ | refine blk_drew ?_ | refine blk_alloc ?_ _)); refine blk_put (cs := #[.int .i64 t637, .int .i64 t638, .string (⟨#[]⟩ : ByteArray)]) ?_ 2 _ rfl; (with_reducible repeat (first | refine blk_drewN ?_ _ | refine blk_drew ?_ | refine blk_alloc ?_ _)); refine blk_put (cs := #[.int .i64 t637, .int .i64 0, .string (⟨#[]⟩ : ByteArray)]) ?_ 1 _ rfl; (with_reducible repeat (first | refine blk_drewN ?_ _ | refine blk_drew ?_ | refine blk_alloc ?_ _)); refine blk_put (cs := #[.int .i64 0, .int .i64 0, .string (⟨#[]⟩ : ByteArray)]) ?_ 0 _ rfl; (with_reducible repeat (first | refine blk_drewN ?_ _ | refine blk_drew ?_ | refine blk_alloc ?_ _)); exact BK633.out) Try.underlying32 rfl (by kernel_rfl)) rfl ?_
  exact ⟨zw, zz28, zz32, zf2 GW632 GW633⟩
 ·replace c4 := Bool.eq_false_iff.mpr c4
  subst c4
  rw [if_neg (Bool.false_ne_true)] at H
  replace H := zI H
  obtain ⟨t642, A13, H⟩ := H
  by_cases c14 : t642 = true
  ·subst c14
   rw [if_pos rfl] at H
   replace H := zI H
   obtain ⟨⟨t643, t644, t645, t646, t647⟩, A15, H⟩ := H
   try dsimp only at H
   simp only [Option.some.injEq, Prod.mk.injEq] at H
   obtain ⟨rfl, rfl, rfl, rfl, rfl⟩ := H
   go_enter Try.func78, Try.ntmps78
   go_wp2_with (first | ((with_reducible refine zt 3 ?_); refine zn #[.int .i64 a1_0, .int .i64 a1_1, .bool a1_2, .bool a1_3] 30 ?_; intro gb632 hg w16 hbox hb; replace HB := zS hb zz1; have BK632 := zA hbox; have GW632 := zA ((zz43 : w.heap.size ≤ gb632)); have GE632 := zA ((Nat.le_trans HW0.out (zz43 : w.heap.size ≤ gb632) : w0.heap.size ≤ gb632)); replace HK := zT (KeepBut.of_below hb g none); have NB0_632 := zA ((zz104 : g ≠ gb632)); have NB632_0 := zA ((zz105 : gb632 ≠ g)); replace HI0 := zA (IsS102.below zz0 hb); clear hb hbox hg) | ((with_reducible refine zt 4 ?_); refine zn #[.int .i64 0, .int .i64 0, .string (⟨#[]⟩ : ByteArray)] 32 ?_; intro gb633 hg w17 hbox hb; replace HB := zS hb zz86; have BK633 := zA hbox; have GW633 := zA ((zz91 : w.heap.size ≤ gb633)); have GE633 := zA ((Nat.le_trans HW0.out (zz91 : w.heap.size ≤ gb633) : w0.heap.size ≤ gb633)); replace HK := zT (KeepBut.of_below hb g none) (zf1 GW632); have NB632_633 := zX BK632 hg; have NB633_632 := zY BK632 hg; replace BK632 := zB BK632 hb; have NB0_633 := zA ((zz112 : g ≠ gb633)); have NB633_0 := zA ((zz113 : gb633 ≠ g)); replace HI0 := zA (IsS102.below zz41 hb); clear hb hbox hg) | ((with_reducible refine zg 110 ?_); refine gL (some 6) Try.func110 #[.pointer (some ⟨g, 0, none⟩), .int .i64 8] ?_; (with_reducible refine (spec_l1Once.calls g s0_0 s0_1 s0_2 8 false t635 t636 w0 _ ?z1 ?z2 A3.out).mono ?_); (case z1 => exact zz28); (case z2 => exact zz32); rintro e w18 ⟨rfl, hi, hb, hk⟩; refine ⟨_, rfl, ?_⟩; replace BK632 := zV hk BK632 NB632_0; replace BK633 := zV hk BK633 NB633_0; replace HK := zT hk (zf2 GW632 GW633); replace HB := zA hb; replace HI0 := zA hi; clear hb hk hi; have hnb19 := NB632_633.out; have hnc19 := NB633_632.out; have hnb20 := NB632_0.out; have hnc20 := NB0_632.out; obtain ⟨hcz21_0, hcz21_1, hcz21_2, hcz21_3, hfz21_0, hfz21_1, hfz21_2, hfz21_3⟩ := zh4 BK632) | ((with_reducible refine zg 27 ?_); refine gL (some 10) Try.func27 #[.agg #[.int .i64 a1_0, .int .i64 a1_1, .bool a1_2, .bool a1_3]] ?_; (with_reducible refine (spec_PartOk.calls a1_0 a1_1 a1_2 a1_3 true _ A13.out).mono ?_); rintro e w22 ⟨rfl, hb⟩; refine ⟨_, rfl, ?_⟩; replace BK632 := zB BK632 hb; replace BK633 := zB BK633 hb; replace HK := zT (KeepBut.of_below hb g none) (zf2 GW632 GW633); replace HB := zS hb zz32; replace HI0 := zA (IsS102.below zz28 hb); (try clear hb); obtain ⟨hcz23_0, hcz23_1, hcz23_2, hcz23_3, hfz23_0, hfz23_1, hfz23_2, hfz23_3⟩ := zh4 BK632) | ((with_reducible refine zg 112 ?_); refine gL (some 19) Try.func112 #[.pointer (some ⟨g, 0, none⟩), .int .i64 a1_1, .bool a1_2] ?_; (with_reducible refine (spec_l2Of.calls k g s0_0 t635 t636 a1_1 a1_2 t643 t644 t645 t646 t647 w0 _ ?z1 ?z2 A15.out).mono ?_); (case z1 => exact zz28); (case z2 => exact zz32); rintro e w24 ⟨rfl, hi, hb, hk⟩; refine ⟨_, rfl, ?_⟩; replace BK632 := zV hk BK632 NB632_0; replace BK633 := zV hk BK633 NB633_0; replace HK := zT hk (zf2 GW632 GW633); replace HB := zA hb; replace HI0 := zA hi; clear hb hk hi; have hnb25 := NB633_0.out; have hnc25 := NB0_633.out; obtain ⟨hcz26_0, hcz26_1, hcz26_2, hfz26_0, hfz26_1, hfz26_2⟩ := zh3 BK633))
   refine bodyPost_ret (results_cell_row rfl _ _ gb633 32 #[.int .i64 t643, .int .i64 t644, .string t645] (0, 0) _ rfl (by (with_reducible repeat (first | refine blk_drewN ?_ _ | refine blk_drew ?_ | refine blk_alloc ?_ _)); refine blk_put (cs := #[.int .i64 t643, .int .i64 t644, .string (⟨#[]⟩ : ByteArray)]) ?_ 2 _ rfl; (with_reducible repeat (first | refine blk_drewN ?_ _ | refine blk_drew ?_ | refine blk_alloc ?_ _)); refine blk_put (cs := #[.int .i64 t643, .int .i64 0, .string (⟨#[]⟩ : ByteArray)]) ?_ 1 _ rfl; (with_reducible repeat (first | refine blk_drewN ?_ _ | refine blk_drew ?_ | refine blk_alloc ?_ _)); refine blk_put (cs := #[.int .i64 0, .int .i64 0, .string (⟨#[]⟩ : ByteArray)]) ?_ 0 _ rfl; (with_reducible repeat (first | refine blk_drewN ?_ _ | refine blk_drew ?_ | refine blk_alloc ?_ _)); exact BK633.out) Try.underlying32 rfl (by kernel_rfl)) rfl ?_
   exact ⟨zw, zz28, zz32, zf2 GW632 GW633⟩
  ·replace c14 := Bool.eq_false_iff.mpr c14
   subst c14
   rw [if_neg (Bool.false_ne_true)] at H
   replace H := zI H
   obtain ⟨⟨t648, t649, t650, t651, t652⟩, A27, H⟩ := H
   try dsimp only at H
   simp only [Option.some.injEq, Prod.mk.injEq] at H
   obtain ⟨rfl, rfl, rfl, rfl, rfl⟩ := H
   go_enter Try.func78, Try.ntmps78
   go_wp2_with (first | ((with_reducible refine zt 3 ?_); refine zn #[.int .i64 a1_0, .int .i64 a1_1, .bool a1_2, .bool a1_3] 30 ?_; intro gb632 hg w28 hbox hb; replace HB := zS hb zz1; have BK632 := zA hbox; have GW632 := zA ((zz43 : w.heap.size ≤ gb632)); have GE632 := zA ((Nat.le_trans HW0.out (zz43 : w.heap.size ≤ gb632) : w0.heap.size ≤ gb632)); replace HK := zT (KeepBut.of_below hb g none); have NB0_632 := zA ((zz104 : g ≠ gb632)); have NB632_0 := zA ((zz105 : gb632 ≠ g)); replace HI0 := zA (IsS102.below zz0 hb); clear hb hbox hg) | ((with_reducible refine zt 4 ?_); refine zn #[.int .i64 0, .int .i64 0, .string (⟨#[]⟩ : ByteArray)] 32 ?_; intro gb633 hg w29 hbox hb; replace HB := zS hb zz86; have BK633 := zA hbox; have GW633 := zA ((zz91 : w.heap.size ≤ gb633)); have GE633 := zA ((Nat.le_trans HW0.out (zz91 : w.heap.size ≤ gb633) : w0.heap.size ≤ gb633)); replace HK := zT (KeepBut.of_below hb g none) (zf1 GW632); have NB632_633 := zX BK632 hg; have NB633_632 := zY BK632 hg; replace BK632 := zB BK632 hb; have NB0_633 := zA ((zz112 : g ≠ gb633)); have NB633_0 := zA ((zz113 : gb633 ≠ g)); replace HI0 := zA (IsS102.below zz41 hb); clear hb hbox hg) | ((with_reducible refine zg 110 ?_); refine gL (some 6) Try.func110 #[.pointer (some ⟨g, 0, none⟩), .int .i64 8] ?_; (with_reducible refine (spec_l1Once.calls g s0_0 s0_1 s0_2 8 false t635 t636 w0 _ ?z1 ?z2 A3.out).mono ?_); (case z1 => exact zz28); (case z2 => exact zz32); rintro e w30 ⟨rfl, hi, hb, hk⟩; refine ⟨_, rfl, ?_⟩; replace BK632 := zV hk BK632 NB632_0; replace BK633 := zV hk BK633 NB633_0; replace HK := zT hk (zf2 GW632 GW633); replace HB := zA hb; replace HI0 := zA hi; clear hb hk hi; have hnb31 := NB632_633.out; have hnc31 := NB633_632.out; have hnb32 := NB632_0.out; have hnc32 := NB0_632.out; obtain ⟨hcz33_0, hcz33_1, hcz33_2, hcz33_3, hfz33_0, hfz33_1, hfz33_2, hfz33_3⟩ := zh4 BK632) | ((with_reducible refine zg 27 ?_); refine gL (some 10) Try.func27 #[.agg #[.int .i64 a1_0, .int .i64 a1_1, .bool a1_2, .bool a1_3]] ?_; (with_reducible refine (spec_PartOk.calls a1_0 a1_1 a1_2 a1_3 false _ A13.out).mono ?_); rintro e w34 ⟨rfl, hb⟩; refine ⟨_, rfl, ?_⟩; replace BK632 := zB BK632 hb; replace BK633 := zB BK633 hb; replace HK := zT (KeepBut.of_below hb g none) (zf2 GW632 GW633); replace HB := zS hb zz32; replace HI0 := zA (IsS102.below zz28 hb); (try clear hb)) | ((with_reducible refine zg 111 ?_); refine gL (some 13) Try.func111 #[.pointer (some ⟨g, 0, none⟩)] ?_; (with_reducible refine (spec_l2Draw.calls k g s0_0 t635 t636 t648 t649 t650 t651 t652 w0 _ ?z1 ?z2 A27.out).mono ?_); (case z1 => exact zz28); (case z2 => exact zz32); rintro e w35 ⟨rfl, hi, hb, hk⟩; refine ⟨_, rfl, ?_⟩; replace BK632 := zV hk BK632 NB632_0; replace BK633 := zV hk BK633 NB633_0; replace HK := zT hk (zf2 GW632 GW633); replace HB := zA hb; replace HI0 := zA hi; clear hb hk hi; have hnb36 := NB633_0.out; have hnc36 := NB0_633.out; obtain ⟨hcz37_0, hcz37_1, hcz37_2, hfz37_0, hfz37_1, hfz37_2⟩ := zh3 BK633))
   refine bodyPost_ret (results_cell_row rfl _ _ gb633 32 #[.int .i64 t648, .int .i64 t649, .string t650] (0, 0) _ rfl (by (with_reducible repeat (first | refine blk_drewN ?_ _ | refine blk_drew ?_ | refine blk_alloc ?_ _)); refine blk_put (cs := #[.int .i64 t648, .int .i64 t649, .string (⟨#[]⟩ : ByteArray)]) ?_ 2 _ rfl; (with_reducible repeat (first | refine blk_drewN ?_ _ | refine blk_drew ?_ | refine blk_alloc ?_ _)); refine blk_put (cs := #[.int .i64 t648, .int .i64 0, .string (⟨#[]⟩ : ByteArray)]) ?_ 1 _ rfl; (with_reducible repeat (first | refine blk_drewN ?_ _ | refine blk_drew ?_ | refine blk_alloc ?_ _)); refine blk_put (cs := #[.int .i64 0, .int .i64 0, .string (⟨#[]⟩ : ByteArray)]) ?_ 0 _ rfl; (with_reducible repeat (first | refine blk_drewN ?_ _ | refine blk_drew ?_ | refine blk_alloc ?_ _)); exact BK633.out) Try.underlying32 rfl (by kernel_rfl)) rfl ?_
   exact ⟨zw, zz28, zz32, zf2 GW632 GW633⟩

/-! ### spec_l1Bend: function 82 -/
def spec_l1Bend.f (s0_0 : List Int) (s0_1 : Int) (s0_2 : Int) (l1 : List Int) : Option (List Int × Int × Int) := if (l1.length : Int) = 0 then (some (l1, s0_1, s0_2)) else ((spec_l1Below.f s0_0 s0_1 s0_2 5).bind fun bt653 => (if bt653.1 = 0 then ((spec_l1Below.f s0_0 bt653.2.1 bt653.2.2 (l1.length : Int)).bind fun bt656 => ((spec_l1Int.f s0_0 bt656.2.1 bt656.2.2 (([0, 1, 2, 127, 128, 255] : List Int))).bind fun bt662 => (if 0 ≤ bt656.1 then (if bt656.1 < (l1.length : Int) then (some ((l1.set (bt656.1 : Int).toNat ((bt662.1) % 256)), bt662.2.1, bt662.2.2)) else (none)) else (none)))) else (if bt653.1 = 1 then (if l1.length < 140737488355328 then (some ((l1 ++ [3]), bt653.2.1, bt653.2.2)) else (none)) else (if bt653.1 = 2 then ((spec_l1Below.f s0_0 bt653.2.1 bt653.2.2 (l1.length : Int)).bind fun bt669 => (if 0 ≤ bt669.1 then (if bt669.1 ≤ (l1.length : Int) then (some ((l1.take (bt669.1 : Int).toNat), bt669.2.1, bt669.2.2)) else (none)) else (none))) else (some (l1, bt653.2.1, bt653.2.2))))))
set_option maxHeartbeats 8000000 in
set_option maxRecDepth 100000 in
theorem spec_l1Bend.calls (g : Nat) (s0_0 : List Int) (s0_1 : Int) (s0_2 : Int) (P1_ : Nat → Prop) (u9000_ : Value) (l1 : List Int) (r1 : List Int) (r2 : Int) (r3 : Int) (w0 w : World) (hI : IsS102 w0 w g s0_0 s0_1 s0_2) (hB : Below w0.heap.size w0 w) (ho1 : Kd.R (Kd.int .u8) 5 w w0.heap.size P1_ u9000_ l1) (h : spec_l1Bend.f s0_0 s0_1 s0_2 l1 = some (r1, r2, r3)) :
  Calls Try.prog 82 #[.pointer (some ⟨g, 0, none⟩), u9000_] w fun e w' => ∃ v0_ : Value, e = .returned (v0_) ∧ Kd.R (Kd.int .u8) 5 w' w0.heap.size (fun k_ => (P1_ k_ ∨ w.heap.size ≤ k_)) v0_ r1 ∧ IsS102 w0 w' g s0_0 r2 r3 ∧ Below w0.heap.size w0 w' ∧ Kept w w' (fun k_ => (P1_ k_) ∨ k_ = g) := by
 have HO1 := zA (show Kd.R (Kd.int .u8) 5 w w0.heap.size (fun k_ => (P1_ k_ ∨ w.heap.size ≤ k_)) u9000_ l1 from Kd.R_mono ho1 (fun k_ hk => (.inl hk)))
 have HI0 := zA hI
 have HL := zA hB.size
 clear hI
 have HK := zA (Kept.refl w (fun k_ => (P1_ k_) ∨ k_ = g))
 have HW0 := zA hB.size
 have HB := zA hB
 clear hB
 have H : (if (l1.length : Int) = 0 then (some (l1, s0_1, s0_2)) else ((spec_l1Below.f s0_0 s0_1 s0_2 5).bind fun bt653 => (if bt653.1 = 0 then ((spec_l1Below.f s0_0 bt653.2.1 bt653.2.2 (l1.length : Int)).bind fun bt656 => ((spec_l1Int.f s0_0 bt656.2.1 bt656.2.2 (([0, 1, 2, 127, 128, 255] : List Int))).bind fun bt662 => (if 0 ≤ bt656.1 then (if bt656.1 < (l1.length : Int) then (some ((l1.set (bt656.1 : Int).toNat ((bt662.1) % 256)), bt662.2.1, bt662.2.2)) else (none)) else (none)))) else (if bt653.1 = 1 then (if l1.length < 140737488355328 then (some ((l1 ++ [3]), bt653.2.1, bt653.2.2)) else (none)) else (if bt653.1 = 2 then ((spec_l1Below.f s0_0 bt653.2.1 bt653.2.2 (l1.length : Int)).bind fun bt669 => (if 0 ≤ bt669.1 then (if bt669.1 ≤ (l1.length : Int) then (some ((l1.take (bt669.1 : Int).toNat), bt669.2.1, bt669.2.2)) else (none)) else (none))) else (some (l1, bt653.2.1, bt653.2.2))))))) = some (r1, r2, r3) := h
 clear h
 by_cases c3 : (l1.length : Int) = 0
 ·rw [if_pos c3] at H
  have c3b0 : ((l1.length : Int) == 0) = true := beq_iff_eq.mpr c3
  have c3b1 : ((l1.length : Int) != 0) = false := bne_eq_false_iff_eq.mpr c3
  clear c3
  simp only [Option.some.injEq, Prod.mk.injEq] at H
  obtain ⟨rfl, rfl, rfl⟩ := H
  obtain ⟨Ao4, co4, eo4⟩ := Kd.R_slice HO1.out
  subst eo4
  go_enter Try.func82, Try.ntmps82
  go_wp2
  go_ret
  exact ⟨_, zw, zr HO1, zz0, zz1, zz25⟩
 ·rw [if_neg c3] at H
  have c3b0 : ((l1.length : Int) == 0) = false := beq_eq_false_iff_ne.mpr c3
  have c3b1 : ((l1.length : Int) != 0) = true := bne_iff_ne.mpr c3
  have c3b2 : ¬ (l1 = []) := fun h_ => c3 (by rw [h_]; rfl)
  replace H := zI H
  obtain ⟨⟨t653, t654, t655⟩, A5, H⟩ := H
  try dsimp only at H
  by_cases c6 : t653 = 0
  ·rw [if_pos c6] at H
   have c6b0 : (t653 == 0) = true := beq_iff_eq.mpr c6
   have c6b1 : (t653 != 0) = false := bne_eq_false_iff_eq.mpr c6
   clear c6
   replace H := zI H
   obtain ⟨⟨t656, t657, t658⟩, A7, H⟩ := H
   try dsimp only at H
   obtain ⟨y659, hy659⟩ : ∃ y_ : List Int, y_ = (([0, 1, 2, 127, 128, 255] : List Int)) := ⟨_, rfl⟩
   replace H : ((spec_l1Int.f s0_0 t657 t658 y659).bind fun bt662 => (if 0 ≤ t656 then (if t656 < (l1.length : Int) then (some ((l1.set (t656 : Int).toNat ((bt662.1) % 256)), bt662.2.1, bt662.2.2)) else (none)) else (none))) = some (r1, r2, r3) := by first | (rw [hy659]; with_reducible exact H) | (have H2_ := (Option.bind_some _ _).symm.trans H; rw [hy659]; with_reducible exact H2_) | (have H2_ := (Option.bind_some _ _).symm.trans H; with_reducible exact H2_) | with_reducible exact H | (rw [hy659]; exact H) | exact H
   have Ny659 := zA hy659
   clear hy659
   replace H := zI H
   obtain ⟨⟨t662, t663, t664⟩, A8, H⟩ := H
   try dsimp only at H
   by_cases c9 : 0 ≤ t656
   ·rw [if_pos c9] at H
    have c9b0 : decide (0 ≤ t656) = true := decide_eq_true c9
    clear c9
    by_cases c10 : t656 < (l1.length : Int)
    ·rw [if_pos c10] at H
     have c10b0 : decide (t656 < (l1.length : Int)) = true := decide_eq_true c10
     clear c10
     obtain ⟨y665, hy665⟩ : ∃ y_ : List Int, y_ = (l1.set (t656 : Int).toNat ((t662) % 256)) := ⟨_, rfl⟩
     replace H : (some (y665, t663, t664)) = some (r1, r2, r3) := by first | (rw [hy665]; with_reducible exact H) | (have H2_ := (Option.bind_some _ _).symm.trans H; rw [hy665]; with_reducible exact H2_) | (have H2_ := (Option.bind_some _ _).symm.trans H; with_reducible exact H2_) | with_reducible exact H | (rw [hy665]; exact H) | exact H
     have Ny665 := zA hy665
     clear hy665
     simp only [Option.some.injEq, Prod.mk.injEq] at H
     obtain ⟨rfl, rfl, rfl⟩ := H
     obtain ⟨Ao12, co12, eo12⟩ := Kd.R_slice HO1.out
     subst eo12
     go_enter Try.func82, Try.ntmps82
     go_wp2_with (first | ((with_reducible refine zg 107 ?_); refine gL (some 10) Try.func107 #[.pointer (some ⟨g, 0, none⟩), .int .i64 5] ?_; (with_reducible refine (spec_l1Below.calls g s0_0 s0_1 s0_2 5 t653 t654 t655 w0 _ ?z1 ?z2 A5.out).mono ?_); (case z1 => exact zz0); (case z2 => exact zz1); rintro e w13 ⟨rfl, hi, hb, hk⟩; refine ⟨_, rfl, ?_⟩; replace HO1 := zA (Kd.R_mono (Kd.R_keep (IsS102.apart (show IsS102 w0 _ g s0_0 s0_1 s0_2 from zz0) (zr HO1) (by decide)) hk (fun _ h => h.2)) (fun _ h => h.1)); replace HK := zA (Kept.of_keep (S := (fun k_ => (P1_ k_) ∨ k_ = g)) zz25 hk (.inl (.inr rfl))); replace HB := zA hb; replace HI0 := zA hi; clear hb hk hi) | ((with_reducible refine zg 107 ?_); refine gL (some 17) Try.func107 #[.pointer (some ⟨g, 0, none⟩), .int .i64 (l1.length : Int)] ?_; (with_reducible refine (spec_l1Below.calls g s0_0 t654 t655 (l1.length : Int) t656 t657 t658 w0 _ ?z1 ?z2 A7.out).mono ?_); (case z1 => exact zz0); (case z2 => exact zz1); rintro e w14 ⟨rfl, hi, hb, hk⟩; refine ⟨_, rfl, ?_⟩; replace HO1 := zA (Kd.R_mono (Kd.R_keep (IsS102.apart (show IsS102 w0 _ g s0_0 t654 t655 from zz0) (zr HO1) (by decide)) hk (fun _ h => h.2)) (fun _ h => h.1)); replace HK := zA (Kept.of_keep (S := (fun k_ => (P1_ k_) ∨ k_ = g)) zz25 hk (.inl (.inr rfl))); replace HB := zA hb; replace HI0 := zA hi; clear hb hk hi) | ((with_reducible refine zt 19 ?_); refine Kd.R_lit (Kd.int .i64) _ 3 ?hg (N := 19) ?hd (xs := ([0, 1, 2, 127, 128, 255] : List Int)) (inner := [.int .i64 0, .int .i64 1, .int .i64 2, .int .i64 127, .int .i64 128, .int .i64 255]) (ok := fun _ => True) (okp := fun _ => True) ?hr ?hp (fun _ hk => hk) trivial (Below.refl _ _) (Nat.le_refl _) (by simp) ?_; (case hd => rfl); (case hg => rfl); (case hr => exact zz35); (case hp => exact (Reps.one (show Kd.M (Kd.int .i64) _ _ _ 0 [.int .i64 0] from rfl) (Reps.one (show Kd.M (Kd.int .i64) _ _ _ 1 [.int .i64 1] from rfl) (Reps.one (show Kd.M (Kd.int .i64) _ _ _ 2 [.int .i64 2] from rfl) (Reps.one (show Kd.M (Kd.int .i64) _ _ _ 127 [.int .i64 127] from rfl) (Reps.one (show Kd.M (Kd.int .i64) _ _ _ 128 [.int .i64 128] from rfl) (Reps.one (show Kd.M (Kd.int .i64) _ _ _ 255 [.int .i64 255] from rfl) (Reps.none _ _)))))))); intro v660 w15 ho16 hb hg_ hnew_; clear hg_ hnew_; (first | rw [← Ny659.out] at ho16 | (simp only [Int.reduceToNat] at ho16; rw [← Ny659.out] at ho16)); replace HO1 := zR HO1 hb; have HO661 := zL (Kd.R_newM (M := fun k_ => (P1_ k_ ∨ w.heap.size ≤ k_)) ho16 zz114 (fun k_ h_ => .inr h_)) zz1; replace HK := zA (Kept.below (S := (fun k_ => (P1_ k_) ∨ k_ = g)) zz25 hb); replace HB := zS hb zz1; replace HI0 := zA (IsS102.below zz0 hb); clear hb ho16; obtain ⟨Ao17, co17, eo17⟩ := Kd.R_slice HO661.out; subst eo17) | ((with_reducible refine zg 108 ?_); refine gL (some 20) Try.func108 #[.pointer (some ⟨g, 0, none⟩), .slice Ao17 y659.length co17] ?_; (with_reducible refine (spec_l1Int.calls g s0_0 t657 t658 _ _ y659 t662 t663 t664 w0 _ ?z1 ?z2 ?z3 ?z4 ?z5 A8.out).mono ?_); (case z1 => exact zz0); (case z2 => exact zz1); (case z3 => exact ze HO661); (case z4 => exact zl HO661); (case z5 => exact far_slice (IsS102.own_ne HI0.out HO661.out (by decide))); rintro e w18 ⟨rfl, hi, hb, hk⟩; refine ⟨_, rfl, ?_⟩; replace HO1 := zA (Kd.R_mono (Kd.R_keep (IsS102.apart (show IsS102 w0 _ g s0_0 t657 t658 from zz0) (zr HO1) (by decide)) hk (fun _ h => h.2)) (fun _ h => h.1)); replace HO661 := zA (Kd.R_mono (Kd.R_keep (IsS102.apart (show IsS102 w0 _ g s0_0 t657 t658 from zz0) (zr HO661) (by decide)) hk (fun _ h => h.2)) (fun _ h => h.1)); replace HK := zA (Kept.of_keep (S := (fun k_ => (P1_ k_) ∨ k_ = g)) zz25 hk (.inl (.inr rfl))); replace HB := zA hb; replace HI0 := zA hi; clear hb hk hi; have p11 : 0 ≤ (t656 : Int) := of_decide_eq_true za; have q11 : (t656 : Int) < ((l1.length : Int) : Int) := of_decide_eq_true za; obtain ⟨go11, co11, eo11, gb11, gl11, cl11, HG11⟩ := Kd.R_form HO1.out (by omega); (first | cases eo11 | (injection eo11 with ea_ en_ ec_; (first | subst ea_ | (injection ea_ with ea_; subst ea_)); subst ec_; clear en_)); have GB11 := zA gb11; have GG11 := zA HG11; clear gb11 gl11 HG11; have HMgo11 := zA (show (P1_ go11 ∨ w.heap.size ≤ go11) from (HO1.out.1 _ rfl)); obtain ⟨hx11_0, hf11_0⟩ := Kd.R_celln 0 HO1.out (t656 : Int) p11 q11; replace p11 := eq_true p11; replace q11 := eq_true q11; obtain ⟨hy19_, hz19_⟩ := Kd.R_celln 0 HO1.out (t656 : Int) (of_decide_eq_true za) (of_decide_eq_true za); have HP19 := Kd.R_putg HO1.out (t656 : Int) ((t662) % 256)) | ((with_reducible refine gate_store (t := 5) (p := 22) rfl ?_); refine store_event (t := 5) (p := 22) (v := ?vo_w20) (w1 := (w18.setCell ⟨go11, (t656 : Int).toNat, none⟩ (.int .u8 ((t662) % 256)))) ?hg ?ho ?hn ?hr ?_; (case ho => rfl); (case hg => rfl); (case hn => rfl); (case hr => exact zz35); intro w20 hw; have hg : w18.grownBy w20 (some go11) := (by rw [hw]; exact HP19.2); have hp_ : Kd.R (Kd.int .u8) 5 w20 w0.heap.size (fun k_ => (P1_ k_ ∨ w.heap.size ≤ k_)) (.slice (some ⟨go11, 0, none⟩) l1.length co12) y665 := (by rw [hw, Ny665.out]; exact HP19.1); clear HP19; replace HI0 := zA (IsS102.grown zz0 hg (IsS102.own_ne HI0.out HO1.out (by decide))); replace HO661 := zA (Kd.R_over' (v := (.slice (some ⟨go11, 0, none⟩) l1.length co12)) (zr HO661) (Kd.R_typed HO1.out) (by decide) hg); replace HB := zA ((by rw [hw]; exact below_set (HB.out) GB11.out : Below w0.heap.size w0 w20)); replace HK := zA (Kept.of_grown (S := (fun k_ => (P1_ k_) ∨ k_ = g)) hg zz25 (fun k_ e_ => Or.imp_left Or.inl ((HO1.out.1 k_ e_)))); replace HO1 := zA hp_; clear hg hw hp_))
     go_ret
     exact ⟨_, zw, zr HO1, zz0, zz1, zz25⟩
    ·rw [if_neg c10] at H
     exact absurd H (by simp)
   ·rw [if_neg c9] at H
    exact absurd H (by simp)
  ·rw [if_neg c6] at H
   have c6b0 : (t653 == 0) = false := beq_eq_false_iff_ne.mpr c6
   have c6b1 : (t653 != 0) = true := bne_iff_ne.mpr c6
   by_cases c21 : t653 = 1
   ·rw [if_pos c21] at H
    have c21b0 : (t653 == 1) = true := beq_iff_eq.mpr c21
    have c21b1 : (t653 != 1) = false := bne_eq_false_iff_eq.mpr c21
    clear c21
    by_cases c22 : l1.length < 140737488355328
    ·rw [if_pos c22] at H
     have LMc22 := zA c22
     clear c22
     obtain ⟨y666, hy666⟩ : ∃ y_ : List Int, y_ = (l1 ++ [3]) := ⟨_, rfl⟩
     replace H : (some (y666, t654, t655)) = some (r1, r2, r3) := by first | (rw [hy666]; with_reducible exact H) | (have H2_ := (Option.bind_some _ _).symm.trans H; rw [hy666]; with_reducible exact H2_) | (have H2_ := (Option.bind_some _ _).symm.trans H; with_reducible exact H2_) | with_reducible exact H | (rw [hy666]; exact H) | exact H
     have Ny666 := zA hy666
     clear hy666
     simp only [Option.some.injEq, Prod.mk.injEq] at H
     obtain ⟨rfl, rfl, rfl⟩ := H
     obtain ⟨Ao23, co23, eo23⟩ := Kd.R_slice HO1.out
     subst eo23
     go_enter Try.func82, Try.ntmps82
     go_wp2_with (first | ((with_reducible refine zg 107 ?_); refine gL (some 10) Try.func107 #[.pointer (some ⟨g, 0, none⟩), .int .i64 5] ?_; (with_reducible refine (spec_l1Below.calls g s0_0 s0_1 s0_2 5 t653 t654 t655 w0 _ ?z1 ?z2 A5.out).mono ?_); (case z1 => exact zz0); (case z2 => exact zz1); rintro e w24 ⟨rfl, hi, hb, hk⟩; refine ⟨_, rfl, ?_⟩; replace HO1 := zA (Kd.R_mono (Kd.R_keep (IsS102.apart (show IsS102 w0 _ g s0_0 s0_1 s0_2 from zz0) (zr HO1) (by decide)) hk (fun _ h => h.2)) (fun _ h => h.1)); replace HK := zA (Kept.of_keep (S := (fun k_ => (P1_ k_) ∨ k_ = g)) zz25 hk (.inl (.inr rfl))); replace HB := zA hb; replace HI0 := zA hi; clear hb hk hi) | ((with_reducible refine gate_builtin (b := .append) (xs := #[.tmp 25, .tmp 26]) rfl ?_); at_builtin; refine Kd.R_append (Kd.int .u8) (w0 := w0) w0.heap.size rfl (.tmp 25) (.tmp 26) 22 5 (.int .u8 0) 1 rfl Try.underlying22 info5 rfl (by decide) (by omega) (.slice Ao23 l1.length co23) l1 3 [.int .u8 3] (fun k_ => (P1_ k_ ∨ w.heap.size ≤ k_)) (fun _ => False) rfl rfl ?aP (fun _ hk => hk.elim) ?aF ?aO ?aB ?aS ?aL ?_; (case aP => exact rfl); (case aB => exact zz1); (case aF => exact (fun k_ hk => (.inr (Nat.le_trans zz114 hk)))); (case aO => exact (zr HO1)); (case aS => exact (below_size zz1)); (case aL => have := LMc22.out; omega); intro v667 w25 ho hb hg hat; rw [← Ny666.out] at ho; replace HI0 := zA (IsS102.grown zz0 hg (IsS102.own_ne HI0.out HO1.out (by decide))); replace HB := zA hb; replace HK := zA (Kept.of_grown (S := (fun k_ => (P1_ k_) ∨ k_ = g)) hg zz25 (fun k_ e_ => Or.imp_left Or.inl ((HO1.out.1 k_ e_)))); have HO668 := zA ho; clear HO1 ho hb hg hat))
     go_ret
     exact ⟨_, zw, zr HO668, zz0, zz1, zz25⟩
    ·rw [if_neg c22] at H
     exact absurd H (by simp)
   ·rw [if_neg c21] at H
    have c21b0 : (t653 == 1) = false := beq_eq_false_iff_ne.mpr c21
    have c21b1 : (t653 != 1) = true := bne_iff_ne.mpr c21
    by_cases c26 : t653 = 2
    ·rw [if_pos c26] at H
     have c26b0 : (t653 == 2) = true := beq_iff_eq.mpr c26
     have c26b1 : (t653 != 2) = false := bne_eq_false_iff_eq.mpr c26
     clear c26
     replace H := zI H
     obtain ⟨⟨t669, t670, t671⟩, A27, H⟩ := H
     try dsimp only at H
     by_cases c28 : 0 ≤ t669
     ·rw [if_pos c28] at H
      have c28b0 := eq_true c28
      have c28b1 : decide (0 ≤ t669) = true := decide_eq_true c28
      clear c28
      by_cases c29 : t669 ≤ (l1.length : Int)
      ·rw [if_pos c29] at H
       have c29b0 := eq_true c29
       have c29b1 : decide (t669 ≤ (l1.length : Int)) = true := decide_eq_true c29
       clear c29
       obtain ⟨y672, hy672⟩ : ∃ y_ : List Int, y_ = (l1.take (t669 : Int).toNat) := ⟨_, rfl⟩
       replace H : (some (y672, t670, t671)) = some (r1, r2, r3) := by first | (rw [hy672]; with_reducible exact H) | (have H2_ := (Option.bind_some _ _).symm.trans H; rw [hy672]; with_reducible exact H2_) | (have H2_ := (Option.bind_some _ _).symm.trans H; with_reducible exact H2_) | with_reducible exact H | (rw [hy672]; exact H) | exact H
       have Ny672 := zA hy672
       clear hy672
       simp only [Option.some.injEq, Prod.mk.injEq] at H
       obtain ⟨rfl, rfl, rfl⟩ := H
       obtain ⟨Ao30, co30, eo30⟩ := Kd.R_slice HO1.out
       subst eo30
       go_enter Try.func82, Try.ntmps82
       go_wp2_with (first | ((with_reducible refine zg 107 ?_); refine gL (some 10) Try.func107 #[.pointer (some ⟨g, 0, none⟩), .int .i64 5] ?_; (with_reducible refine (spec_l1Below.calls g s0_0 s0_1 s0_2 5 t653 t654 t655 w0 _ ?z1 ?z2 A5.out).mono ?_); (case z1 => exact zz0); (case z2 => exact zz1); rintro e w31 ⟨rfl, hi, hb, hk⟩; refine ⟨_, rfl, ?_⟩; replace HO1 := zA (Kd.R_mono (Kd.R_keep (IsS102.apart (show IsS102 w0 _ g s0_0 s0_1 s0_2 from zz0) (zr HO1) (by decide)) hk (fun _ h => h.2)) (fun _ h => h.1)); replace HK := zA (Kept.of_keep (S := (fun k_ => (P1_ k_) ∨ k_ = g)) zz25 hk (.inl (.inr rfl))); replace HB := zA hb; replace HI0 := zA hi; clear hb hk hi) | ((with_reducible refine zg 107 ?_); refine gL (some 34) Try.func107 #[.pointer (some ⟨g, 0, none⟩), .int .i64 (l1.length : Int)] ?_; (with_reducible refine (spec_l1Below.calls g s0_0 t654 t655 (l1.length : Int) t669 t670 t671 w0 _ ?z1 ?z2 A27.out).mono ?_); (case z1 => exact zz0); (case z2 => exact zz1); rintro e w32 ⟨rfl, hi, hb, hk⟩; refine ⟨_, rfl, ?_⟩; replace HO1 := zA (Kd.R_mono (Kd.R_keep (IsS102.apart (show IsS102 w0 _ g s0_0 t654 t655 from zz0) (zr HO1) (by decide)) hk (fun _ h => h.2)) (fun _ h => h.1)); replace HK := zA (Kept.of_keep (S := (fun k_ => (P1_ k_) ∨ k_ = g)) zz25 hk (.inl (.inr rfl))); replace HB := zA hb; replace HI0 := zA hi; clear hb hk hi; have q33 : (t669 : Int) ≤ ((l1.length : Int) : Int) := of_decide_eq_true za; obtain ⟨i033, hi033, _, hsz33, _⟩ := info_parts info5; have hcut33 := cut_to (P := Try.prog) 22 5 .i64 Try.underlying22 hi033 Ao30 l1.length co30 t669 (of_decide_eq_true za) q33 (Kd.R_reads' HO1.out).2.1; have hr33 := Kd.R_take (m := (t669 : Int).toNat) HO1.out (by omega); have hy33 : y672.length = (t669 : Int).toNat := (by rw [Ny672.out, List.length_take]; omega); rw [← Ny672.out] at hr33; rw [← hy33] at hr33 hcut33; clear hy33 hi033 hsz33 HO1; have HO674 := zA hr33; clear hr33; replace q33 := eq_true q33))
       go_ret
       exact ⟨_, zw, zr HO674, zz0, zz1, zz25⟩
      ·rw [if_neg c29] at H
       exact absurd H (by simp)
     ·rw [if_neg c28] at H
      exact absurd H (by simp)
    ·rw [if_neg c26] at H
     have c26b0 : (t653 == 2) = false := beq_eq_false_iff_ne.mpr c26
     have c26b1 : (t653 != 2) = true := bne_iff_ne.mpr c26
     simp only [Option.some.injEq, Prod.mk.injEq] at H
     obtain ⟨rfl, rfl, rfl⟩ := H
     obtain ⟨Ao34, co34, eo34⟩ := Kd.R_slice HO1.out
     subst eo34
     go_enter Try.func82, Try.ntmps82
     go_wp2_with (first | ((with_reducible refine zg 107 ?_); refine gL (some 10) Try.func107 #[.pointer (some ⟨g, 0, none⟩), .int .i64 5] ?_; (with_reducible refine (spec_l1Below.calls g s0_0 s0_1 s0_2 5 t653 t654 t655 w0 _ ?z1 ?z2 A5.out).mono ?_); (case z1 => exact zz0); (case z2 => exact zz1); rintro e w35 ⟨rfl, hi, hb, hk⟩; refine ⟨_, rfl, ?_⟩; replace HO1 := zA (Kd.R_mono (Kd.R_keep (IsS102.apart (show IsS102 w0 _ g s0_0 s0_1 s0_2 from zz0) (zr HO1) (by decide)) hk (fun _ h => h.2)) (fun _ h => h.1)); replace HK := zA (Kept.of_keep (S := (fun k_ => (P1_ k_) ∨ k_ = g)) zz25 hk (.inl (.inr rfl))); replace HB := zA hb; replace HI0 := zA hi; clear hb hk hi))
     go_ret
     exact ⟨_, zw, zr HO1, zz0, zz1, zz25⟩

/-! ### spec_l1At: function 83 -/
def spec_l1At.f (s0_0 : List Int) (s0_1 : Int) (s0_2 : Int) (l1 : List Int) : Option (Int × Int × Int) := (spec_l1Below.f s0_0 s0_1 s0_2 (wrap64 ((l1.length : Int) + 1))).bind fun bt675 => ((spec_l1Int.f s0_0 bt675.2.1 bt675.2.2 (([0, 0, 0, (l1.length : Int), bt675.1, (-1), 9223372036854775807] : List Int))).bind fun bt681 => (some (bt681.1, bt681.2.1, bt681.2.2)))
set_option maxHeartbeats 8000000 in
set_option maxRecDepth 100000 in
theorem spec_l1At.calls (g : Nat) (s0_0 : List Int) (s0_1 : Int) (s0_2 : Int) (A1 : Option Addr) (c1 : Nat) (l1 : List Int) (r1 : Int) (r2 : Int) (r3 : Int) (w0 w : World) (hI : IsS102 w0 w g s0_0 s0_1 s0_2) (hB : Below w0.heap.size w0 w) (hr1 : Kd.C (Kd.int .u8) w A1 l1.length l1) (hc1 : l1.length ≤ c1) (hf1 : ∀ ad, A1 = some ad → 0 < l1.length → ad.block ≠ g) (h : spec_l1At.f s0_0 s0_1 s0_2 l1 = some (r1, r2, r3)) :
  Calls Try.prog 83 #[.pointer (some ⟨g, 0, none⟩), .slice A1 l1.length c1] w fun e w' => e = .returned (.int .i64 r1) ∧ IsS102 w0 w' g s0_0 r2 r3 ∧ Below w0.heap.size w0 w' ∧ KeepBut w w' g none := by
 have HR1 := zA hr1
 have HC1 := zA hc1
 clear hr1 hc1
 have HI0 := zA hI
 have HK := zA (KeepBut.refl w g none)
 have HL := zA hB.size
 clear hI
 have HW0 := zA hB.size
 have HB := zA hB
 clear hB
 have H : ((spec_l1Below.f s0_0 s0_1 s0_2 (wrap64 ((l1.length : Int) + 1))).bind fun bt675 => ((spec_l1Int.f s0_0 bt675.2.1 bt675.2.2 (([0, 0, 0, (l1.length : Int), bt675.1, (-1), 9223372036854775807] : List Int))).bind fun bt681 => (some (bt681.1, bt681.2.1, bt681.2.2)))) = some (r1, r2, r3) := h
 clear h
 replace H := zI H
 obtain ⟨⟨t675, t676, t677⟩, A3, H⟩ := H
 try dsimp only at H
 obtain ⟨y678, hy678⟩ : ∃ y_ : List Int, y_ = (([0, 0, 0, (l1.length : Int), t675, (-1), 9223372036854775807] : List Int)) := ⟨_, rfl⟩
 replace H : ((spec_l1Int.f s0_0 t676 t677 y678).bind fun bt681 => (some (bt681.1, bt681.2.1, bt681.2.2))) = some (r1, r2, r3) := by first | (rw [hy678]; with_reducible exact H) | (have H2_ := (Option.bind_some _ _).symm.trans H; rw [hy678]; with_reducible exact H2_) | (have H2_ := (Option.bind_some _ _).symm.trans H; with_reducible exact H2_) | with_reducible exact H | (rw [hy678]; exact H) | exact H
 have Ny678 := zA hy678
 clear hy678
 replace H := zI H
 obtain ⟨⟨t681, t682, t683⟩, A4, H⟩ := H
 try dsimp only at H
 simp only [Option.some.injEq, Prod.mk.injEq] at H
 obtain ⟨rfl, rfl, rfl⟩ := H
 go_enter Try.func83, Try.ntmps83
 go_wp2_with (first | ((with_reducible refine zg 107 ?_); refine gL (some 12) Try.func107 #[.pointer (some ⟨g, 0, none⟩), .int .i64 (wrap64 ((l1.length : Int) + 1))] ?_; (with_reducible refine (spec_l1Below.calls g s0_0 s0_1 s0_2 (wrap64 ((l1.length : Int) + 1)) t675 t676 t677 w0 _ ?z1 ?z2 A3.out).mono ?_); (case z1 => exact zz0); (case z2 => exact zz1); rintro e w5 ⟨rfl, hi, hb, hk⟩; refine ⟨_, rfl, ?_⟩; replace HK := zT hk; replace HB := zA hb; replace HI0 := zA hi; clear hb hk hi) | ((with_reducible refine zt 13 ?_); refine Kd.R_lit (Kd.int .i64) _ 3 ?hg (N := 13) ?hd (xs := ([0, 0, 0, (l1.length : Int), t675, (-1), 9223372036854775807] : List Int)) (inner := [.int .i64 0, .int .i64 0, .int .i64 0, .int .i64 (l1.length : Int), .int .i64 t675, .int .i64 (-1), .int .i64 9223372036854775807]) (ok := fun _ => True) (okp := fun _ => True) ?hr ?hp (fun _ hk => hk) trivial (Below.refl _ _) (Nat.le_refl _) (by simp) ?_; (case hd => rfl); (case hg => rfl); (case hr => exact zz35); (case hp => exact (Reps.one (show Kd.M (Kd.int .i64) _ _ _ 0 [.int .i64 0] from rfl) (Reps.one (show Kd.M (Kd.int .i64) _ _ _ 0 [.int .i64 0] from rfl) (Reps.one (show Kd.M (Kd.int .i64) _ _ _ 0 [.int .i64 0] from rfl) (Reps.one (show Kd.M (Kd.int .i64) _ _ _ (l1.length : Int) [.int .i64 (l1.length : Int)] from rfl) (Reps.one (show Kd.M (Kd.int .i64) _ _ _ t675 [.int .i64 t675] from rfl) (Reps.one (show Kd.M (Kd.int .i64) _ _ _ (-1) [.int .i64 (-1)] from rfl) (Reps.one (show Kd.M (Kd.int .i64) _ _ _ 9223372036854775807 [.int .i64 9223372036854775807] from rfl) (Reps.none _ _))))))))); intro v679 w6 ho7 hb hg_ hnew_; clear hg_ hnew_; (first | rw [← Ny678.out] at ho7 | (simp only [Int.reduceToNat] at ho7; rw [← Ny678.out] at ho7)); have HO680 := zA (Kd.R_lower ho7 (keep_size (w := w) (g := g) (row := none) zf)); replace HK := zT (KeepBut.of_below hb g none); replace HB := zS hb zz1; replace HI0 := zA (IsS102.below zz0 hb); clear hb ho7; obtain ⟨Ao8, co8, eo8⟩ := Kd.R_slice HO680.out; subst eo8) | ((with_reducible refine zg 108 ?_); refine gL (some 14) Try.func108 #[.pointer (some ⟨g, 0, none⟩), .slice Ao8 y678.length co8] ?_; (with_reducible refine (spec_l1Int.calls g s0_0 t676 t677 _ _ y678 t681 t682 t683 w0 _ ?z1 ?z2 ?z3 ?z4 ?z5 A4.out).mono ?_); (case z1 => exact zz0); (case z2 => exact zz1); (case z3 => exact ze HO680); (case z4 => exact zl HO680); (case z5 => exact far_slice (IsS102.own_ne HI0.out HO680.out (by decide))); rintro e w9 ⟨rfl, hi, hb, hk⟩; refine ⟨_, rfl, ?_⟩; replace HO680 := zA (Kd.R_mono (Kd.R_keep (IsS102.apart (show IsS102 w0 _ g s0_0 t676 t677 from zz0) (zr HO680) (by decide)) hk (fun _ h => h.2)) (fun _ h => h.1)); replace HK := zT hk; replace HB := zA hb; replace HI0 := zA hi; clear hb hk hi))
 go_ret
 exact ⟨zw, zz0, zz1, zf⟩

/-! ### spec_DrawGetPart: function 32 -/
def spec_DrawGetPart.f (k : Nat) (l0 : List Int) : Option (List Int × Int × Int × Bool × Bool × Int) := (spec_l1New.f k l0).bind fun bt685 => ((spec_l5Any.f bt685.1 bt685.2.1 bt685.2.2).bind fun bt689 => ((spec_l5Val.f k bt685.1 bt689.2.2.2.2.1 bt689.2.2.2.2.2 bt689.1 bt689.2.1 bt689.2.2.1 bt689.2.2.2.1).bind fun bt699 => ((spec_PutPart.f k (([] : List Int)) bt689.1 bt689.2.1 bt689.2.2.1 bt689.2.2.2.1 bt699.1 bt699.2.1 bt699.2.2.1).bind fun t704 => ((spec_l1Bend.f bt685.1 bt699.2.2.2.1 bt699.2.2.2.2 t704).bind fun bt707 => ((spec_l1At.f bt685.1 bt707.2.1 bt707.2.2 bt707.1).bind fun bt712 => (some (bt707.1, bt689.1, bt689.2.1, bt689.2.2.1, bt689.2.2.2.1, bt712.1)))))))
theorem spec_DrawGetPart.mono : ∀ a0 k, LeO (spec_DrawGetPart.f k a0) (spec_DrawGetPart.f (k + 1) a0) := by
  intro a0 k
  unfold spec_DrawGetPart.f
  repeat' first
      | (with_reducible exact spec_PutPart.mono _ _ _ _ _ _ _ _ _)
      | (with_reducible exact spec_l1New.mono _ _)
      | (with_reducible exact spec_l5Val.mono _ _ _ _ _ _ _ _)
      | (with_reducible exact LeO.refl _)
      | (with_reducible exact LeO.none _)
      | (with_reducible refine LeO.ite ?_ ?_)
      | (with_reducible refine LeO.bind ?_ (fun _ => ?_))
      | exact spec_PutPart.mono _ _ _ _ _ _ _ _ _
      | exact spec_l1New.mono _ _
      | exact spec_l5Val.mono _ _ _ _ _ _ _ _
      | exact LeO.none _
      | refine LeO.ite ?_ ?_
      | refine LeO.bind ?_ (fun _ => ?_)
def spec_DrawGetPart.T3 : Bool × List (List Nat × List Nat) := (true, [([], []), ([], []), ([], []), ([], []), ([], []), ([3, 4], [3, 4]), ([1, 2, 5, 5], [1, 2, 5]), ([0, 6, 6], [0, 6]), ([7, 7, 0, 1, 2, 3, 4, 5, 6, 7], [7])])
def spec_DrawGetPart.B3 : List Nat := [0, 0, 0, 0, 0, 24, 62, 127, 255]
theorem spec_DrawGetPart.tab3 : rtab .any (opsOf Try.f32 3) = spec_DrawGetPart.T3 := by kernel_rfl
theorem spec_DrawGetPart.bits3 : waitsOk spec_DrawGetPart.T3.2 spec_DrawGetPart.B3 = true := by kernel_rfl
def spec_DrawGetPart.T4 : Bool × List (List Nat × List Nat) := (true, [([], []), ([], []), ([], []), ([], []), ([2, 3], [2, 3]), ([0, 4, 0], [0]), ([1, 5, 0, 1, 5], [1]), ([4, 6, 0, 1, 2, 3, 4, 5, 6], [4])])
def spec_DrawGetPart.B4 : List Nat := [0, 0, 0, 0, 12, 29, 63, 127]
theorem spec_DrawGetPart.tab4 : rtab .any (opsOf Try.f32 4) = spec_DrawGetPart.T4 := by kernel_rfl
theorem spec_DrawGetPart.bits4 : waitsOk spec_DrawGetPart.T4.2 spec_DrawGetPart.B4 = true := by kernel_rfl
set_option maxHeartbeats 8000000 in
set_option maxRecDepth 100000 in
theorem spec_DrawGetPart.calls (k : Nat) (A0 : Option Addr) (c0 : Nat) (l0 : List Int) (r1 : List Int) (r2 : Int) (r3 : Int) (r4 : Bool) (r5 : Bool) (r6 : Int) (w : World) (hr0 : Kd.C (Kd.int .u8) w A0 l0.length l0) (hc0 : l0.length ≤ c0) (h : spec_DrawGetPart.f k l0 = some (r1, r2, r3, r4, r5, r6)) :
  Calls Try.prog 32 #[.slice A0 l0.length c0] w fun e w' => ∃ v0_ : Value, e = .returned (.tuple #[v0_, .agg #[.int .i64 r2, .int .i64 r3, .bool r4, .bool r5], .int .i64 r6]) ∧ Kd.R (Kd.int .u8) 5 w' w.heap.size (fun _ => True) v0_ r1 ∧ Below w.heap.size w w' := by
 have hu30 := Try.underlying30
 have HR0 := zA hr0
 have HC0 := zA hc0
 clear hr0 hc0
 have HB := zA (Below.refl w.heap.size w)
 have H : ((spec_l1New.f k l0).bind fun bt685 => ((spec_l5Any.f bt685.1 bt685.2.1 bt685.2.2).bind fun bt689 => ((spec_l5Val.f k bt685.1 bt689.2.2.2.2.1 bt689.2.2.2.2.2 bt689.1 bt689.2.1 bt689.2.2.1 bt689.2.2.2.1).bind fun bt699 => ((spec_PutPart.f k (([] : List Int)) bt689.1 bt689.2.1 bt689.2.2.1 bt689.2.2.2.1 bt699.1 bt699.2.1 bt699.2.2.1).bind fun t704 => ((spec_l1Bend.f bt685.1 bt699.2.2.2.1 bt699.2.2.2.2 t704).bind fun bt707 => ((spec_l1At.f bt685.1 bt707.2.1 bt707.2.2 bt707.1).bind fun bt712 => (some (bt707.1, bt689.1, bt689.2.1, bt689.2.2.1, bt689.2.2.2.1, bt712.1)))))))) = some (r1, r2, r3, r4, r5, r6) := h
 clear h
 replace H := zI H
 obtain ⟨⟨t685, t686, t687⟩, A2, H⟩ := H
 try dsimp only at H
 replace H := zI H
 obtain ⟨⟨t689, t690, t691, t692, t693, t694⟩, A3, H⟩ := H
 try dsimp only at H
 obtain ⟨y696, hy696⟩ : ∃ y_ : List Int, y_ = (([] : List Int)) := ⟨_, rfl⟩
 replace H : ((spec_l5Val.f k t685 t693 t694 t689 t690 t691 t692).bind fun bt699 => ((spec_PutPart.f k y696 t689 t690 t691 t692 bt699.1 bt699.2.1 bt699.2.2.1).bind fun t704 => ((spec_l1Bend.f t685 bt699.2.2.2.1 bt699.2.2.2.2 t704).bind fun bt707 => ((spec_l1At.f t685 bt707.2.1 bt707.2.2 bt707.1).bind fun bt712 => (some (bt707.1, t689, t690, t691, t692, bt712.1)))))) = some (r1, r2, r3, r4, r5, r6) := by first | (rw [hy696]; with_reducible exact H) | (have H2_ := (Option.bind_some _ _).symm.trans H; rw [hy696]; with_reducible exact H2_) | (have H2_ := (Option.bind_some _ _).symm.trans H; with_reducible exact H2_) | with_reducible exact H | (rw [hy696]; exact H) | exact H
 have Ny696 := zA hy696
 clear hy696
 replace H := zI H
 obtain ⟨⟨t699, t700, t701, t702, t703⟩, A4, H⟩ := H
 try dsimp only at H
 replace H := zI H
 obtain ⟨t704, A5, H⟩ := H
 replace H := zI H
 obtain ⟨⟨t707, t710, t711⟩, A6, H⟩ := H
 try dsimp only at H
 replace H := zI H
 obtain ⟨⟨t712, t713, t714⟩, A7, H⟩ := H
 try dsimp only at H
 simp only [Option.some.injEq, Prod.mk.injEq] at H
 obtain ⟨rfl, rfl, rfl, rfl, rfl, rfl⟩ := H
 go_enter Try.func32, Try.ntmps32
 try go_wp2_with (first | ((with_reducible refine zt 3 ?_); refine zn #[.int .i64 0, .int .i64 0, .bool false, .bool false] 30 ?_; intro gb684 hg w8 hbox hb; have BK684 := zA hbox; have GW684 := zG hg; have GE684 := zG hg; replace HB := zS hb; clear hb hbox hg) | ((with_reducible refine zg 75 ?_); refine gL (some 9) Try.func75 #[.slice A0 l0.length c0] ?_; (with_reducible refine (spec_l1New.calls k _ _ l0 t685 t686 t687 w _ ?z1 ?z2 ?z3 A2.out).mono ?_); (case z1 => exact zb1 GE684); (case z2 => exact HR0.out); (case z3 => exact HC0.out); rintro e w9 ⟨g688, rfl, hi, hb, hb2⟩; refine ⟨_, rfl, ?_⟩; replace HB := zA hb; have HI688 := zA hi; have NB688_684 := zA (IsS102.ne_blk hi (blk_below (g := gb684) (o := .cells #[.int .i64 0, .int .i64 0, .bool false, .bool false] 30 (0, 0)) (zk BK684) hb2) (by decide)); have NB684_688 := zA (Ne.symm (IsS102.ne_blk hi (blk_below (g := gb684) (o := .cells #[.int .i64 0, .int .i64 0, .bool false, .bool false] 30 (0, 0)) (zk BK684) hb2) (by decide))); replace BK684 := zB BK684 hb2; clear hb hb2 hi) | ((with_reducible refine zg 76 ?_); refine gL (some 11) Try.func76 #[.pointer (some ⟨g688, 0, none⟩)] ?_; (with_reducible refine (spec_l5Any.calls g688 t685 t686 t687 t689 t690 t691 t692 t693 t694 w _ ?z1 ?z2 A3.out).mono ?_); (case z1 => exact zz76); (case z2 => exact zz78); rintro e w10 ⟨rfl, hi, hb, hk⟩; refine ⟨_, rfl, ?_⟩; replace BK684 := zV hk BK684 NB684_688; replace HB := zA hb; replace HI688 := zA hi; clear hb hk hi) | ((with_reducible refine zt 6 ?_); refine zn #[.int .i64 0, .int .i64 0, .bool false, .bool false] 30 ?_; intro gb695 hg w11 hbox hb; have BK695 := zA hbox; have GW695 := zG hg zz78; have GE695 := zG hg zz78; replace HB := zS hb zz78; have NB684_695 := zX BK684 hg; have NB695_684 := zY BK684 hg; replace BK684 := zB BK684 hb; have NB688_695 := zA ((by rw [hg]; exact Nat.ne_of_lt (IsS102.lt (show IsS102 w _ g688 t685 t693 t694 from zz76)) : g688 ≠ gb695)); have NB695_688 := zA ((by rw [hg]; exact Nat.ne_of_gt (IsS102.lt (show IsS102 w _ g688 t685 t693 t694 from zz76)) : gb695 ≠ g688)); replace HI688 := zA (IsS102.below zz76 hb); clear hb hbox hg; have hnb12 := NB695_684.out; have hnc12 := NB684_695.out; have hnb13 := NB695_688.out; have hnc13 := NB688_695.out; obtain ⟨hcz14_0, hcz14_1, hcz14_2, hcz14_3, hfz14_0, hfz14_1, hfz14_2, hfz14_3⟩ := zh4 BK695))
 have n0_ : Aside0 (((((w11.setCell ⟨gb695, 0, none⟩ (.int .i64 t689)).setCell ⟨gb695, 1, none⟩ (.int .i64 t690)).setCell ⟨gb695, 2, none⟩ (.bool t691)).setCell ⟨gb695, 3, none⟩ (.bool t692)).heap[gb684]? = some (.cells #[.int .i64 0, .int .i64 0, .bool false, .bool false] 30 (0, 0))) := ⟨by (with_reducible repeat (first | refine blk_drewN ?_ _ | refine blk_drew ?_ | refine blk_alloc ?_ _)); refine blk_far ?_ NB684_695.out _; (with_reducible repeat (first | refine blk_drewN ?_ _ | refine blk_drew ?_ | refine blk_alloc ?_ _)); refine blk_far ?_ NB684_695.out _; (with_reducible repeat (first | refine blk_drewN ?_ _ | refine blk_drew ?_ | refine blk_alloc ?_ _)); refine blk_far ?_ NB684_695.out _; (with_reducible repeat (first | refine blk_drewN ?_ _ | refine blk_drew ?_ | refine blk_alloc ?_ _)); refine blk_far ?_ NB684_695.out _; (with_reducible repeat (first | refine blk_drewN ?_ _ | refine blk_drew ?_ | refine blk_alloc ?_ _)); exact BK684.out⟩
 have n1_ : Aside0 (((((w11.setCell ⟨gb695, 0, none⟩ (.int .i64 t689)).setCell ⟨gb695, 1, none⟩ (.int .i64 t690)).setCell ⟨gb695, 2, none⟩ (.bool t691)).setCell ⟨gb695, 3, none⟩ (.bool t692)).heap[gb695]? = some (.cells #[.int .i64 t689, .int .i64 t690, .bool t691, .bool t692] 30 (0, 0))) := ⟨by (with_reducible repeat (first | refine blk_drewN ?_ _ | refine blk_drew ?_ | refine blk_alloc ?_ _)); refine blk_put (cs := #[.int .i64 t689, .int .i64 t690, .bool t691, .bool false]) ?_ 3 _ rfl; (with_reducible repeat (first | refine blk_drewN ?_ _ | refine blk_drew ?_ | refine blk_alloc ?_ _)); refine blk_put (cs := #[.int .i64 t689, .int .i64 t690, .bool false, .bool false]) ?_ 2 _ rfl; (with_reducible repeat (first | refine blk_drewN ?_ _ | refine blk_drew ?_ | refine blk_alloc ?_ _)); refine blk_put (cs := #[.int .i64 t689, .int .i64 0, .bool false, .bool false]) ?_ 1 _ rfl; (with_reducible repeat (first | refine blk_drewN ?_ _ | refine blk_drew ?_ | refine blk_alloc ?_ _)); refine blk_put (cs := #[.int .i64 0, .int .i64 0, .bool false, .bool false]) ?_ 0 _ rfl; (with_reducible repeat (first | refine blk_drewN ?_ _ | refine blk_drew ?_ | refine blk_alloc ?_ _)); exact BK695.out⟩
 have n2_ : Aside0 (IsS102 w ((((w11.setCell ⟨gb695, 0, none⟩ (.int .i64 t689)).setCell ⟨gb695, 1, none⟩ (.int .i64 t690)).setCell ⟨gb695, 2, none⟩ (.bool t691)).setCell ⟨gb695, 3, none⟩ (.bool t692)) g688 t685 t693 t694) := ⟨zz20⟩
 have n3_ : Aside0 (Below w.heap.size w ((((w11.setCell ⟨gb695, 0, none⟩ (.int .i64 t689)).setCell ⟨gb695, 1, none⟩ (.int .i64 t690)).setCell ⟨gb695, 2, none⟩ (.bool t691)).setCell ⟨gb695, 3, none⟩ (.bool t692))) := ⟨zz19⟩
 (try clear BK684)
 (try clear BK695)
 (try clear HI688)
 (try clear HB)
 generalize ((((w11.setCell ⟨gb695, 0, none⟩ (.int .i64 t689)).setCell ⟨gb695, 1, none⟩ (.int .i64 t690)).setCell ⟨gb695, 2, none⟩ (.bool t691)).setCell ⟨gb695, 3, none⟩ (.bool t692)) = w15 at n0_ n1_ n2_ n3_ ⊢
 have BK684 := n0_; have BK695 := n1_; have HI688 := n2_; have HB := n3_
 clear n0_ n1_ n2_ n3_
 have n0_ := zA (blk_drew BK684.out)
 have n1_ := zA (blk_drew BK695.out)
 have n2_ := zA (IsS102.drew HI688.out)
 have n3_ := zA (below_drew1 HB.out)
 clear BK684 BK695 HI688 HB
 have BK684 := n0_; have BK695 := n1_; have HI688 := n2_; have HB := n3_
 clear n0_ n1_ n2_ n3_
 refine start_ (n := 9) (S := fun w' => w'.cell? ⟨gb695, 0, none⟩ = some (.int .i64 t689) ∧ w'.cell? ⟨gb695, 1, none⟩ = some (.int .i64 t690) ∧ w'.cell? ⟨gb695, 2, none⟩ = some (.bool t691) ∧ w'.cell? ⟨gb695, 3, none⟩ = some (.bool t692)) (ds := []) #[false, false, false, false, false, false, false, false, false] (by kernel_rfl) rfl rfl ⟨(blk_cell BK695.out 0).trans rfl, (blk_cell BK695.out 1).trans rfl, (blk_cell BK695.out 2).trans rfl, (blk_cell BK695.out 3).trans rfl⟩ (fun hHeld => ?_); refine with_tabW spec_DrawGetPart.tab3 spec_DrawGetPart.bits3 (fun HT_ HW_ => ?_)
 generalize w15.drew = w16 at BK684 BK695 HI688 HB hHeld ⊢
 refine pure_ (i := 0) (N := some 12) (v := ?_) (a' := ?_) #[true, false, false, false, false, false, false, false, false] rfl rfl (any_of HT_.out (by kernel_rfl)) (fun _ _ _ h => h) (Or.inl ⟨by rfl, ?_⟩) ?_ ?_; rotate_left
 ·intro w'; go_simp; with_reducible rfl
 rotate_left
 ·simp only [Act.put, List.setIfInBounds_toArray, List.set_cons_zero, List.set_cons_succ, i64_w, i32_w]; rfl
 refine pure_ (i := 3) (N := some 15) (v := ?_) (a' := ?_) #[true, false, false, true, false, false, false, false, false] rfl rfl (any_of HT_.out (by kernel_rfl)) (fun _ _ _ h => h) (Or.inl ⟨by rfl, ?_⟩) ?_ ?_; rotate_left
 ·intro w'; go_simp; with_reducible rfl
 rotate_left
 ·simp only [Act.put, List.setIfInBounds_toArray, List.set_cons_zero, List.set_cons_succ, i64_w, i32_w]; rfl
 refine take_ (i := 2) (N := some 14) (v := ?_) (a' := ?_) #[true, false, true, true, false, false, false, false, false] rfl rfl (take_ofW HT_.out HW_.out (by kernel_rfl)) (fun _ _ _ h => h) (Or.inl ⟨by rfl, ?_⟩) hHeld ?_ ?_; rotate_left
 ·rintro w' ⟨s0, s1, s2, s3⟩
  go_simp
  with_reducible rfl
 rotate_left
 ·simp only [Act.put, List.setIfInBounds_toArray, List.set_cons_zero, List.set_cons_succ, i64_w, i32_w]; rfl
 refine take_ (i := 4) (N := some 16) (v := ?_) (a' := ?_) #[true, false, true, true, true, false, false, false, false] rfl rfl (take_ofW HT_.out HW_.out (by kernel_rfl)) (fun _ _ _ h => h) (Or.inl ⟨by rfl, ?_⟩) hHeld ?_ ?_; rotate_left
 ·rintro w' ⟨s0, s1, s2, s3⟩
  go_simp
  with_reducible rfl
 rotate_left
 ·simp only [Act.put, List.setIfInBounds_toArray, List.set_cons_zero, List.set_cons_succ, i64_w, i32_w]; rfl
 refine join_ (σ := Value) 3 #[true, true, true, true, true, true, false, false, false] (fun s_ => [(13, s_), (17, .agg #[.int .i64 t699, .int .i64 t700, .string t701])]) (fun s_ w' => (w'.cell? ⟨gb695, 0, none⟩ = some (.int .i64 t689) ∧ w'.cell? ⟨gb695, 1, none⟩ = some (.int .i64 t690) ∧ w'.cell? ⟨gb695, 2, none⟩ = some (.bool t691) ∧ w'.cell? ⟨gb695, 3, none⟩ = some (.bool t692)) ∧ (Kd.R (Kd.int .u8) 5 w' w.heap.size (fun _ => True) s_ y696) ∧ (w'.heap[gb684]? = some (.cells #[.int .i64 0, .int .i64 0, .bool false, .bool false] 30 (0, 0))) ∧ (w'.heap[gb695]? = some (.cells #[.int .i64 t689, .int .i64 t690, .bool t691, .bool t692] 30 (0, 0))) ∧ (IsS102 w w' g688 t685 t702 t703) ∧ (Below w.heap.size w w')) ?_ ?_
 rotate_left
 ·intro hCont
  refine two_ (i := 1) (j := 5) (Ni := some 13) (Nj := some 17) #[true, true, true, true, true, false, false, false, false] #[true, false, true, true, true, true, false, false, false] rfl rfl rfl rfl (two_of HT_.out (by kernel_rfl)) (by decide) (by decide) (fun K hK => ?_) (fun K hK => ?_)
  ·skip
   refine Kd.R_lit_step (Kd.int .u8) _ 5 ?hg (N := 13) ?hd (xs := ([] : List Int)) (inner := []) (ok := fun _ => True) (okp := fun _ => True) ?hr ?hp (fun _ hk => hk) trivial (Below.refl _ _) (Nat.le_refl _) (by simp) ?_; (case hd => rfl); (case hg => rfl); (case hr => exact zz35); (case hp => exact (Reps.none _ _))
   intro v697 w17 ho18 hb hg_ hnew_
   clear hg_ hnew_
   (first | rw [← Ny696.out] at ho18 | (simp only [Int.reduceToNat] at ho18; rw [← Ny696.out] at ho18))
   have n0_ := zL ho18 zz19
   have n1_ := zB BK684 hb
   have n2_ := zA (IsS102.below zz20 hb)
   have n3_ := zB BK695 hb
   have n4_ := zS hb zz19
   clear BK684 HI688 BK695 HB
   have HO698 := n0_; have BK684 := n1_; have HI688 := n2_; have BK695 := n3_; have HB := n4_
   clear n0_ n1_ n2_ n3_ n4_ hb ho18
   refine hK.out _ _ ⟨(blk_cell BK695.out 0).trans rfl, (blk_cell BK695.out 1).trans rfl, (blk_cell BK695.out 2).trans rfl, (blk_cell BK695.out 3).trans rfl⟩ (fun hHeld => ?_)
   clear hK K
   refine norm_ (a' := ?_) ?_ ?_; rotate_left
   ·show Act.put _ (some 13) _ = _
    simp only [Act.put, List.setIfInBounds_toArray, List.set_cons_zero, List.set_cons_succ, i64_w, i32_w]
    rfl
   refine one_ (i := 5) (N := some 17) #[true, true, true, true, true, true, false, false, false] rfl rfl (one_of HT_.out (by kernel_rfl)) (by decide) (fun K hK => ?_)
   refine goes_ Try.func78 (by kernel_rfl) rfl #[.pointer (some ⟨g688, 0, none⟩), .agg #[.int .i64 t689, .int .i64 t690, .bool t691, .bool t692]] (by rfl) rfl rfl zz24 ?_
   with_reducible refine (spec_l5Val.calls k g688 t685 t693 t694 t689 t690 t691 t692 t699 t700 t701 t702 t703 w _ ?z1 ?z2 A4.out).mono ?_
   (case z1 => exact zz20)
   (case z2 => exact zz19)
   rintro e w19 ⟨rfl, hi, hb, hk⟩
   refine ⟨_, rfl, ?_⟩
   have n0_ := zV hk BK684 NB684_688
   have n1_ := zV hk BK695 NB695_688
   have n2_ := zA (Kd.R_mono (Kd.R_keep (IsS102.apart (show IsS102 w _ g688 t685 t693 t694 from zz20) (zr HO698) (by decide)) hk (fun _ h => h.2)) (fun _ h => h.1))
   have n3_ := zA hb
   have n4_ := zA hi
   clear BK684 BK695 HO698 HB HI688
   have BK684 := n0_; have BK695 := n1_; have HO698 := n2_; have HB := n3_; have HI688 := n4_
   clear n0_ n1_ n2_ n3_ n4_
   (try clear hb)
   (try clear hb2)
   (try clear hk)
   (try clear hi)
   refine hK.out _ _ ⟨(blk_cell BK695.out 0).trans rfl, (blk_cell BK695.out 1).trans rfl, (blk_cell BK695.out 2).trans rfl, (blk_cell BK695.out 3).trans rfl⟩ (fun hHeld => ?_)
   clear hK K
   refine norm_ (a' := ?_) ?_ ?_; rotate_left
   ·show Act.put _ (some 17) _ = _
    simp only [Act.put, List.setIfInBounds_toArray, List.set_cons_zero, List.set_cons_succ, i64_w, i32_w]
    rfl
   exact norm_ zz89 (hCont (v697) _ ⟨hHeld, (zr HO698), (zk BK684), (zk BK695), zz20, zz19⟩)
  ·skip
   refine goes_ Try.func78 (by kernel_rfl) rfl #[.pointer (some ⟨g688, 0, none⟩), .agg #[.int .i64 t689, .int .i64 t690, .bool t691, .bool t692]] (by rfl) rfl rfl zz24 ?_
   with_reducible refine (spec_l5Val.calls k g688 t685 t693 t694 t689 t690 t691 t692 t699 t700 t701 t702 t703 w _ ?z1 ?z2 A4.out).mono ?_
   (case z1 => exact zz20)
   (case z2 => exact zz19)
   rintro e w17 ⟨rfl, hi, hb, hk⟩
   refine ⟨_, rfl, ?_⟩
   have n0_ := zV hk BK684 NB684_688
   have n1_ := zV hk BK695 NB695_688
   have n2_ := zA hb
   have n3_ := zA hi
   clear BK684 BK695 HB HI688
   have BK684 := n0_; have BK695 := n1_; have HB := n2_; have HI688 := n3_
   clear n0_ n1_ n2_ n3_
   (try clear hb)
   (try clear hb2)
   (try clear hk)
   (try clear hi)
   refine hK.out _ _ ⟨(blk_cell BK695.out 0).trans rfl, (blk_cell BK695.out 1).trans rfl, (blk_cell BK695.out 2).trans rfl, (blk_cell BK695.out 3).trans rfl⟩ (fun hHeld => ?_)
   clear hK K
   refine norm_ (a' := ?_) ?_ ?_; rotate_left
   ·show Act.put _ (some 17) _ = _
    simp only [Act.put, List.setIfInBounds_toArray, List.set_cons_zero, List.set_cons_succ, i64_w, i32_w]
    rfl
   refine one_ (i := 1) (N := some 13) #[true, true, true, true, true, true, false, false, false] rfl rfl (one_of HT_.out (by kernel_rfl)) (by decide) (fun K hK => ?_)
   refine Kd.R_lit_step (Kd.int .u8) _ 5 ?hg (N := 13) ?hd (xs := ([] : List Int)) (inner := []) (ok := fun _ => True) (okp := fun _ => True) ?hr ?hp (fun _ hk => hk) trivial (Below.refl _ _) (Nat.le_refl _) (by simp) ?_; (case hd => rfl); (case hg => rfl); (case hr => exact zz35); (case hp => exact (Reps.none _ _))
   intro v697 w18 ho19 hb hg_ hnew_
   clear hg_ hnew_
   (first | rw [← Ny696.out] at ho19 | (simp only [Int.reduceToNat] at ho19; rw [← Ny696.out] at ho19))
   have n0_ := zL ho19 zz19
   have n1_ := zB BK684 hb
   have n2_ := zA (IsS102.below zz20 hb)
   have n3_ := zB BK695 hb
   have n4_ := zS hb zz19
   clear BK684 HI688 BK695 HB
   have HO698 := n0_; have BK684 := n1_; have HI688 := n2_; have BK695 := n3_; have HB := n4_
   clear n0_ n1_ n2_ n3_ n4_ hb ho19
   refine hK.out _ _ ⟨(blk_cell BK695.out 0).trans rfl, (blk_cell BK695.out 1).trans rfl, (blk_cell BK695.out 2).trans rfl, (blk_cell BK695.out 3).trans rfl⟩ (fun hHeld => ?_)
   clear hK K
   refine norm_ (a' := ?_) ?_ ?_; rotate_left
   ·show Act.put _ (some 13) _ = _
    simp only [Act.put, List.setIfInBounds_toArray, List.set_cons_zero, List.set_cons_succ, i64_w, i32_w]
    rfl
   exact norm_ zz89 (hCont (v697) _ ⟨hHeld, (zr HO698), (zk BK684), (zk BK695), zz20, zz19⟩)
 rintro v697 w20 ⟨hS_, h0_, h1_, h2_, h3_, h4_⟩
 have n0_ : Aside0 (Kd.R (Kd.int .u8) 5 w20 w.heap.size (fun _ => True) v697 y696) := ⟨h0_⟩
 have n1_ : Aside0 (w20.heap[gb684]? = some (.cells #[.int .i64 0, .int .i64 0, .bool false, .bool false] 30 (0, 0))) := ⟨h1_⟩
 have n2_ : Aside0 (w20.heap[gb695]? = some (.cells #[.int .i64 t689, .int .i64 t690, .bool t691, .bool t692] 30 (0, 0))) := ⟨h2_⟩
 have n3_ : Aside0 (IsS102 w w20 g688 t685 t702 t703) := ⟨h3_⟩
 have n4_ : Aside0 (Below w.heap.size w w20) := ⟨h4_⟩
 clear BK684 BK695 HI688 HB h0_ h1_ h2_ h3_ h4_
 have HO698 := n0_; have BK684 := n1_; have BK695 := n2_; have HI688 := n3_; have HB := n4_
 clear n0_ n1_ n2_ n3_ n4_
 have hHeld : w20.cell? ⟨gb695, 0, none⟩ = some (.int .i64 t689) ∧ w20.cell? ⟨gb695, 1, none⟩ = some (.int .i64 t690) ∧ w20.cell? ⟨gb695, 2, none⟩ = some (.bool t691) ∧ w20.cell? ⟨gb695, 3, none⟩ = some (.bool t692) := hS_
 obtain ⟨Ao21, co21, eo21⟩ := Kd.R_slice HO698.out
 (first | subst eo21 | (injection eo21 with f1_ f2_ f3_; have f4_ := f1_.symm; have f5_ := f3_.symm; clear f1_ f2_ f3_; subst f4_; subst f5_))
 refine norm_ (a' := ?_) ?_ ?_; rotate_left
 ·simp only [putAll, Act.put, List.setIfInBounds_toArray, List.set_cons_zero, List.set_cons_succ]
  rfl
 refine one_ (i := 6) (N := some 18) #[true, true, true, true, true, true, true, false, false] rfl rfl (one_of HT_.out (by kernel_rfl)) (by decide) (fun K hK => ?_)
 refine goes_ Try.func14 (by kernel_rfl) rfl #[.slice Ao21 y696.length co21, .agg #[.int .i64 t689, .int .i64 t690, .bool t691, .bool t692], .agg #[.int .i64 t699, .int .i64 t700, .string t701]] (by rfl) rfl rfl zz24 ?_
 with_reducible refine (spec_PutPart.calls k _ _ y696 t689 t690 t691 t692 t699 t700 t701 t704 _ ?z1 ?z2 A5.out).mono ?_
 (case z1 => exact ze HO698)
 (case z2 => exact zl HO698)
 rintro e w22 ⟨v705, rfl, ho0, hb⟩
 refine ⟨_, rfl, ?_⟩
 have n0_ := zE HO698 ho0 hb
 have n1_ := zL (zN ho0 HO698) zz19
 have n2_ := zB BK684 hb
 have n3_ := zA (IsS102.below zz20 hb)
 have n4_ := zB BK695 hb
 have n5_ := zS hb zz19
 clear HO698 BK684 HI688 BK695 HB
 have HO698 := n0_; have HO706 := n1_; have BK684 := n2_; have HI688 := n3_; have BK695 := n4_; have HB := n5_
 clear n0_ n1_ n2_ n3_ n4_ n5_
 (try clear hb)
 (try clear hb2)
 (try clear hk)
 (try clear hi)
 (try clear ho0)
 obtain ⟨Ao23, co23, eo23⟩ := Kd.R_slice HO706.out
 (first | subst eo23 | (injection eo23 with f1_ f2_ f3_; have f4_ := f1_.symm; have f5_ := f3_.symm; clear f1_ f2_ f3_; subst f4_; subst f5_))
 refine hK.out _ _ ⟨(blk_cell BK695.out 0).trans rfl, (blk_cell BK695.out 1).trans rfl, (blk_cell BK695.out 2).trans rfl, (blk_cell BK695.out 3).trans rfl⟩ (fun hHeld => ?_)
 clear hK K
 refine norm_ (a' := ?_) ?_ ?_; rotate_left
 ·show Act.put _ (some 18) _ = _
  simp only [Act.put, List.setIfInBounds_toArray, List.set_cons_zero, List.set_cons_succ, i64_w, i32_w]
  rfl
 refine one_ (i := 7) (N := some 19) #[true, true, true, true, true, true, true, true, false] rfl rfl (one_of HT_.out (by kernel_rfl)) (by decide) (fun K hK => ?_)
 refine goes_ Try.func82 (by kernel_rfl) rfl #[.pointer (some ⟨g688, 0, none⟩), .slice Ao23 t704.length co23] (by rfl) rfl rfl zz24 ?_
 with_reducible refine (spec_l1Bend.calls g688 t685 t702 t703 (fun k_ => some k_ = (.slice Ao23 t704.length co23 : Value).ownBlock) (.slice Ao23 t704.length co23) t704 t707 t710 t711 w _ ?z1 ?z2 ?z3 A6.out).mono ?_
 (case z1 => exact zz20)
 (case z2 => exact zz19)
 (case z3 => exact Kd.R_tight rfl HO706.out)
 rintro e w24 ⟨v708, rfl, ho0, hi, hb, hkp⟩
 refine ⟨_, rfl, ?_⟩
 have n0_ := zA (blk_kept (zk BK684) hkp (fun hs_ => Or.elim hs_ (fun hs_ => (fun e_ => (Kd.R_ne HO706.out BK684.out (by decide)) e_) hs_) (fun e_ => NB684_688.out e_)))
 have n1_ := zA hi
 have n2_ := zA (blk_kept (zk BK695) hkp (fun hs_ => Or.elim hs_ (fun hs_ => (fun e_ => (Kd.R_ne HO706.out BK695.out (by decide)) e_) hs_) (fun e_ => NB695_688.out e_)))
 have n3_ := zA (Kd.R_mono (ok' := fun k_ => some k_ ≠ (v708 : Value).ownBlock) (Kd.R_keptB ((IsS102.apart HI688.out HO698.out (by decide))) hkp (fun k_ hk_ hs_ => Or.elim hs_ (fun hs_ => (hk_.1.2) hs_) (fun e_ => (hk_.2) e_))) (fun k_ hk_ => fun e_ => Or.elim (ho0.1 k_ e_.symm) (fun hs_ => hk_.2.1 (by first | exact hs_ | exact Or.inl hs_ | exact Or.inr hs_)) (fun hn_ => Nat.not_le.2 hk_.2.2 hn_)))
 have n4_ := zA (Kd.R_mono (ok' := fun k_ => some k_ ≠ (.slice Ao21 y696.length co21 : Value).ownBlock) ho0 (fun k_ hk_ => Or.elim hk_ (fun hs_ => fun e_ => ((((IsS102.apart HI688.out HO698.out (by decide))).1 k_ e_.symm).1.2) hs_) (fun hn_ => (Kd.fresh' (Kd.R_lt (zr HO698)) k_ hn_))))
 have n5_ := zA hb
 clear BK684 HI688 BK695 HO698 HB HO706
 have BK684 := n0_; have HI688 := n1_; have BK695 := n2_; have HO698 := n3_; have HO709 := n4_; have HB := n5_
 clear n0_ n1_ n2_ n3_ n4_ n5_
 (try clear hb)
 (try clear hkp)
 (try clear ho0)
 refine hK.out _ _ ⟨(blk_cell BK695.out 0).trans rfl, (blk_cell BK695.out 1).trans rfl, (blk_cell BK695.out 2).trans rfl, (blk_cell BK695.out 3).trans rfl⟩ (fun hHeld => ?_)
 clear hK K
 refine norm_ (a' := ?_) ?_ ?_; rotate_left
 ·show Act.put _ (some 19) _ = _
  simp only [Act.put, List.setIfInBounds_toArray, List.set_cons_zero, List.set_cons_succ, i64_w, i32_w]
  rfl
 refine pure_ (i := 8) (N := some 7) (v := ?_) (a' := ?_) #[true, true, true, true, true, true, true, true, true] rfl rfl (any_of HT_.out (by kernel_rfl)) (fun _ _ _ h => h) (Or.inl ⟨by rfl, ?_⟩) ?_ ?_; rotate_left
 ·intro w'; go_simp; with_reducible rfl
 rotate_left
 ·simp only [Act.put, List.setIfInBounds_toArray, List.set_cons_zero, List.set_cons_succ, i64_w, i32_w]; rfl
 refine done_ (done_of HT_.out (by kernel_rfl)) ?_
 try go_wp2
 have n0_ := zA (Kd.R_drew HO698.out)
 have n1_ := zA (Kd.R_drew HO709.out)
 have n2_ := zA (blk_drew BK684.out)
 have n3_ := zA (blk_drew BK695.out)
 have n4_ := zA (IsS102.drew HI688.out)
 have n5_ := zA (below_drew1 HB.out)
 clear HO698 HO709 BK684 BK695 HI688 HB
 have HO698 := n0_; have HO709 := n1_; have BK684 := n2_; have BK695 := n3_; have HI688 := n4_; have HB := n5_
 clear n0_ n1_ n2_ n3_ n4_ n5_
 obtain ⟨Ao26, co26, eo26⟩ := Kd.R_slice HO709.out
 (first | subst eo26 | (injection eo26 with f1_ f2_ f3_; have f4_ := f1_.symm; have f5_ := f3_.symm; clear f1_ f2_ f3_; subst f4_; subst f5_))
 refine start_ (n := 8) (S := fun w' => w'.cell? ⟨gb695, 0, none⟩ = some (.int .i64 t689) ∧ w'.cell? ⟨gb695, 1, none⟩ = some (.int .i64 t690) ∧ w'.cell? ⟨gb695, 2, none⟩ = some (.bool t691) ∧ w'.cell? ⟨gb695, 3, none⟩ = some (.bool t692)) (ds := []) #[false, false, false, false, false, false, false, false] (by kernel_rfl) rfl rfl ⟨(blk_cell BK695.out 0).trans rfl, (blk_cell BK695.out 1).trans rfl, (blk_cell BK695.out 2).trans rfl, (blk_cell BK695.out 3).trans rfl⟩ (fun hHeld => ?_); refine with_tabW spec_DrawGetPart.tab4 spec_DrawGetPart.bits4 (fun HT_ HW_ => ?_)
 generalize w24.drew = w25 at HO698 HO709 BK684 BK695 HI688 HB hHeld ⊢
 refine pure_ (i := 0) (N := some 20) (v := ?_) (a' := ?_) #[true, false, false, false, false, false, false, false] rfl rfl (any_of HT_.out (by kernel_rfl)) (fun _ _ _ h => h) (Or.inl ⟨by rfl, ?_⟩) ?_ ?_; rotate_left
 ·intro w'; go_simp; with_reducible rfl
 rotate_left
 ·simp only [Act.put, List.setIfInBounds_toArray, List.set_cons_zero, List.set_cons_succ, i64_w, i32_w]; rfl
 refine pure_ (i := 2) (N := some 22) (v := ?_) (a' := ?_) #[true, false, true, false, false, false, false, false] rfl rfl (any_of HT_.out (by kernel_rfl)) (fun _ _ _ h => h) (Or.inl ⟨by rfl, ?_⟩) ?_ ?_; rotate_left
 ·intro w'; go_simp; with_reducible rfl
 rotate_left
 ·simp only [Act.put, List.setIfInBounds_toArray, List.set_cons_zero, List.set_cons_succ, i64_w, i32_w]; rfl
 refine pure_ (i := 3) (N := some 23) (v := ?_) (a' := ?_) #[true, false, true, true, false, false, false, false] rfl rfl (any_of HT_.out (by kernel_rfl)) (fun _ _ _ h => h) (Or.inl ⟨by rfl, ?_⟩) ?_ ?_; rotate_left
 ·intro w'; go_simp; with_reducible rfl
 rotate_left
 ·simp only [Act.put, List.setIfInBounds_toArray, List.set_cons_zero, List.set_cons_succ, i64_w, i32_w]; rfl
 refine take_ (i := 1) (N := some 21) (v := ?_) (a' := ?_) #[true, true, true, true, false, false, false, false] rfl rfl (take_ofW HT_.out HW_.out (by kernel_rfl)) (fun _ _ _ h => h) (Or.inl ⟨by rfl, ?_⟩) hHeld ?_ ?_; rotate_left
 ·rintro w' ⟨s0, s1, s2, s3⟩
  go_simp
  with_reducible rfl
 rotate_left
 ·simp only [Act.put, List.setIfInBounds_toArray, List.set_cons_zero, List.set_cons_succ, i64_w, i32_w]; rfl
 refine one_ (i := 4) (N := some 24) #[true, true, true, true, true, false, false, false] rfl rfl (one_of HT_.out (by kernel_rfl)) (by decide) (fun K hK => ?_)
 refine goes_ Try.func83 (by kernel_rfl) rfl #[.pointer (some ⟨g688, 0, none⟩), .slice Ao26 t707.length co26] (by rfl) rfl rfl zz24 ?_
 with_reducible refine (spec_l1At.calls g688 t685 t710 t711 _ _ t707 t712 t713 t714 w _ ?z1 ?z2 ?z3 ?z4 ?z5 A7.out).mono ?_
 (case z1 => exact zz20)
 (case z2 => exact zz19)
 (case z3 => exact ze HO709)
 (case z4 => exact zl HO709)
 (case z5 => exact far_slice (IsS102.own_ne HI688.out HO709.out (by decide)))
 rintro e w27 ⟨rfl, hi, hb, hk⟩
 refine ⟨_, rfl, ?_⟩
 have n0_ := zV hk BK684 NB684_688
 have n1_ := zV hk BK695 NB695_688
 have n2_ := zA (Kd.R_mono (Kd.R_keep (IsS102.apart (show IsS102 w _ g688 t685 t710 t711 from zz20) (zr HO698) (by decide)) hk (fun _ h => h.2)) (fun _ h => h.1))
 have n3_ := zA (Kd.R_mono (Kd.R_keep (IsS102.apart (show IsS102 w _ g688 t685 t710 t711 from zz20) (zr HO709) (by decide)) hk (fun _ h => h.2)) (fun _ h => h.1))
 have n4_ := zA hb
 have n5_ := zA hi
 clear BK684 BK695 HO698 HO709 HB HI688
 have BK684 := n0_; have BK695 := n1_; have HO698 := n2_; have HO709 := n3_; have HB := n4_; have HI688 := n5_
 clear n0_ n1_ n2_ n3_ n4_ n5_
 (try clear hb)
 (try clear hb2)
 (try clear hk)
 (try clear hi)
 refine hK.out _ _ ⟨(blk_cell BK695.out 0).trans rfl, (blk_cell BK695.out 1).trans rfl, (blk_cell BK695.out 2).trans rfl, (blk_cell BK695.out 3).trans rfl⟩ (fun hHeld => ?_)
 clear hK K
 refine norm_ (a' := ?_) ?_ ?_; rotate_left
 ·show Act.put _ (some 24) _ = _
  simp only [Act.put, List.setIfInBounds_toArray, List.set_cons_zero, List.set_cons_succ, i64_w, i32_w]
  rfl
 refine pure_ (i := 5) (N := some 2) (v := ?_) (a' := ?_) #[true, true, true, true, true, true, false, false] rfl rfl (any_of HT_.out (by kernel_rfl)) (fun _ _ _ h => h) (Or.inl ⟨by rfl, ?_⟩) ?_ ?_; rotate_left
 ·intro w'; go_simp; with_reducible rfl
 rotate_left
 ·simp only [Act.put, List.setIfInBounds_toArray, List.set_cons_zero, List.set_cons_succ, i64_w, i32_w]; rfl
 refine one_ (i := 6) (N := none) #[true, true, true, true, true, true, true, false] rfl rfl (one_of HT_.out (by kernel_rfl)) (by decide) (fun K hK => ?_)
 have hs28 : w27.cell? ⟨gb684, 0, none⟩ = some (.int .i64 0) := (blk_cell BK684.out 0).trans rfl
 have hfs28 := blk_frozen BK684.out 0
 have hns28_1 := NB695_684.out
 have hms28_1 := NB684_695.out
 have hs29 : w27.cell? ⟨gb684, 1, none⟩ = some (.int .i64 0) := (blk_cell BK684.out 1).trans rfl
 have hfs29 := blk_frozen BK684.out 1
 have hns29_1 := NB695_684.out
 have hms29_1 := NB684_695.out
 have hs30 : w27.cell? ⟨gb684, 2, none⟩ = some (.bool false) := (blk_cell BK684.out 2).trans rfl
 have hfs30 := blk_frozen BK684.out 2
 have hns30_1 := NB695_684.out
 have hms30_1 := NB684_695.out
 have hs31 : w27.cell? ⟨gb684, 3, none⟩ = some (.bool false) := (blk_cell BK684.out 3).trans rfl
 have hfs31 := blk_frozen BK684.out 3
 have hns31_1 := NB695_684.out
 have hms31_1 := NB684_695.out
 refine skip_ (w1 := ?_) (by rfl) rfl ?_ ?_; rotate_left
 ·go_simp
  rfl
 refine hK.out _ _ ⟨((cell_far (p := ⟨gb684, _, none⟩) NB695_684.out _).trans (((cell_far (p := ⟨gb684, _, none⟩) NB695_684.out _).trans (((cell_far (p := ⟨gb684, _, none⟩) NB695_684.out _).trans (((cell_far (p := ⟨gb684, _, none⟩) NB695_684.out _).trans (hHeld.1)))))))), ((cell_far (p := ⟨gb684, _, none⟩) NB695_684.out _).trans (((cell_far (p := ⟨gb684, _, none⟩) NB695_684.out _).trans (((cell_far (p := ⟨gb684, _, none⟩) NB695_684.out _).trans (((cell_far (p := ⟨gb684, _, none⟩) NB695_684.out _).trans (hHeld.2.1)))))))), ((cell_far (p := ⟨gb684, _, none⟩) NB695_684.out _).trans (((cell_far (p := ⟨gb684, _, none⟩) NB695_684.out _).trans (((cell_far (p := ⟨gb684, _, none⟩) NB695_684.out _).trans (((cell_far (p := ⟨gb684, _, none⟩) NB695_684.out _).trans (hHeld.2.2.1)))))))), ((cell_far (p := ⟨gb684, _, none⟩) NB695_684.out _).trans (((cell_far (p := ⟨gb684, _, none⟩) NB695_684.out _).trans (((cell_far (p := ⟨gb684, _, none⟩) NB695_684.out _).trans (((cell_far (p := ⟨gb684, _, none⟩) NB695_684.out _).trans (hHeld.2.2.2))))))))⟩ (fun hHeld => ?_)
 clear hK K
 refine pure_ (i := 7) (N := some 4) (v := ?_) (a' := ?_) #[true, true, true, true, true, true, true, true] rfl rfl (any_of HT_.out (by kernel_rfl)) (fun _ _ _ h => h) (Or.inl ⟨by rfl, ?_⟩) ?_ ?_; rotate_left
 ·intro w'; go_simp; with_reducible rfl
 rotate_left
 ·simp only [Act.put, List.setIfInBounds_toArray, List.set_cons_zero, List.set_cons_succ, i64_w, i32_w]; rfl
 refine done_ (done_of HT_.out (by kernel_rfl)) ?_
 try go_wp2
 refine bodyPost_ret (results_list (rs := [.tmp 2, .cell 3 30, .tmp 4]) rfl (by simp) (.tmp (.cell gb684 30 #[.int .i64 t689, .int .i64 t690, .bool t691, .bool t692] (0, 0) _ rfl (by (with_reducible repeat (first | refine blk_drewN ?_ _ | refine blk_drew ?_ | refine blk_alloc ?_ _)); refine blk_put (cs := #[.int .i64 t689, .int .i64 t690, .bool t691, .bool false]) ?_ 3 _ rfl; (with_reducible repeat (first | refine blk_drewN ?_ _ | refine blk_drew ?_ | refine blk_alloc ?_ _)); refine blk_put (cs := #[.int .i64 t689, .int .i64 t690, .bool false, .bool false]) ?_ 2 _ rfl; (with_reducible repeat (first | refine blk_drewN ?_ _ | refine blk_drew ?_ | refine blk_alloc ?_ _)); refine blk_put (cs := #[.int .i64 t689, .int .i64 0, .bool false, .bool false]) ?_ 1 _ rfl; (with_reducible repeat (first | refine blk_drewN ?_ _ | refine blk_drew ?_ | refine blk_alloc ?_ _)); refine blk_put (cs := #[.int .i64 0, .int .i64 0, .bool false, .bool false]) ?_ 0 _ rfl; (with_reducible repeat (first | refine blk_drewN ?_ _ | refine blk_drew ?_ | refine blk_alloc ?_ _)); exact BK684.out) Try.underlying30 rfl (by kernel_rfl) (.tmp .nil)))) rfl ?_
 exact ⟨_, zw, by (with_reducible repeat (first | apply Kd.R_alloc | apply Kd.R_drewN | apply Kd.R_drew)); exact Kd.R_mono (Kd.R_far (p := ⟨gb684, 3, none⟩) (Kd.R_far (p := ⟨gb684, 2, none⟩) (Kd.R_far (p := ⟨gb684, 1, none⟩) (Kd.R_far (p := ⟨gb684, 0, none⟩) (Kd.R_types HO709.out BK684.out (by decide)) (fun _ hk => hk.2) (.int .i64 t689)) (fun _ hk => hk.2) (.int .i64 t690)) (fun _ hk => hk.2) (.bool t691)) (fun _ hk => hk.2) (.bool t692)) (fun _ hk => trivial), zz19⟩

end Go.Proofs.Ytnfmpopmigbkoaa.PFnPartsRead

-- Written by mkprint.py, a program of this session (the printer with additions of its own)
import Derived.Test.YtnfmpopmigbkoaaPFnPartsReadx0
import Derived.Test.YtnfmpopmigbkoaaPFnPartsReadx1
import Derived.Test.YtnfmpopmigbkoaaPFnPartsReadx4
import Derived.Test.YtnfmpopmigbkoaaPFnPartsReadx7
import Derived.Test.YtnfmpopmigbkoaaPFnPartsReadx10
import Derived.Test.YtnfmpopmigbkoaaPFnPartsReadx11
import Derived.Test.YtnfmpopmigbkoaaPFnPartsReadx14
import Derived.Test.YtnfmpopmigbkoaaPFnPartsReadx15
namespace Go.Proofs.Ytnfmpopmigbkoaa.PFnPartsRead
open Go.RowKit Go.Proofs.YtnfmpopmigbkoaaW.PrintWords Go.Proofs.YtnfmpopmigbkoaaW.PrintLast Go.Proofs.YtnfmpopmigbkoaaW.PrintMore
attribute [local go_sem] max2_int min2_int max_two min_two max_three min_three max_four min_four   -- for this text's walks alone
set_option linter.unusedVariables false
set_option linter.unusedSimpArgs false

/-! ### laws_FnPartsRead: function 6 -/
def laws_FnPartsRead.j0 : Nat → List Int → Int → Int → Bool → Bool → Bool → Int → Int → Bool → Bool → Int → Int → ByteArray → Option (Bool)
  | 0, _, _, _, _, _, _, _, _, _, _, _, _, _ => none
  | k + 1, x3, x5, x7, x8, x11, x65, x763000, x763001, x763002, x763003, x769000, x769001, x769002 => if x65 = true then (some false) else (if (x8 == x11) = true then (if x8 = true then ((impl_Fits.f x763000 x763001 x763002 x763003 x769000 x769001 x769002).bind fun t792 => (if t792 = true then ((impl_PutPart.f k (([] : List Int)) x763000 x763001 x763002 x763003 x769000 x769001 x769002).bind fun t796 => (if 0 ≤ x5 then (if x5 ≤ x7 then (if x7 ≤ (x3.length : Int) then ((laws_sameBytes.f k t796 ((x3.take (x7 : Int).toNat).drop (x5 : Int).toNat)).bind fun t803 => (some t803)) else (none)) else (none)) else (none))) else (some false))) else (some true)) else (some false))
def laws_FnPartsRead.f (k : Nat) (l0 : List Int) : Option (Bool) := (laws_big.f l0).bind fun t753 => (if t753 = true then (some true) else ((spec_DrawGetPart.f k l0).bind fun bt754 => ((impl_GetPart.f k bt754.1 bt754.2.1 bt754.2.2.1 bt754.2.2.2.1 bt754.2.2.2.2.1 bt754.2.2.2.2.2).bind fun bt763 => ((spec_GetPart.f k bt754.1 bt754.2.1 bt754.2.2.1 bt754.2.2.2.1 bt754.2.2.2.2.1 bt754.2.2.2.2.2).bind fun bt769 => ((spec_DrawLessPart.f k l0).bind fun bt775 => ((impl_LessPart.f bt775.1 bt775.2.1 bt775.2.2.1 bt775.2.2.2.1 bt775.2.2.2.2.1 bt775.2.2.2.2.2.1 bt775.2.2.2.2.2.2.1 bt775.2.2.2.2.2.2.2.1 bt775.2.2.2.2.2.2.2.2.1 bt775.2.2.2.2.2.2.2.2.2).bind fun t788 => ((spec_LessPart.f bt775.1 bt775.2.1 bt775.2.2.1 bt775.2.2.2.1 bt775.2.2.2.2.1 bt775.2.2.2.2.2.1 bt775.2.2.2.2.2.2.1 bt775.2.2.2.2.2.2.2.1 bt775.2.2.2.2.2.2.2.2.1 bt775.2.2.2.2.2.2.2.2.2).bind fun t789 => (if (t788 != t789) = true then (laws_FnPartsRead.j0 k bt754.1 bt754.2.2.2.2.2 bt763.2.2.2.1 bt763.2.2.2.2 bt769.2.2.2.2 true bt754.2.1 bt754.2.2.1 bt754.2.2.2.1 bt754.2.2.2.2.1 bt763.1 bt763.2.1 bt763.2.2.1) else ((impl_LessPart.f bt775.1 bt775.2.1 bt775.2.2.1 bt775.2.2.2.1 bt775.2.2.2.2.1 bt775.2.2.2.2.2.1 bt775.2.2.2.2.2.2.1 bt775.2.2.2.2.2.2.2.1 bt775.2.2.2.2.2.2.2.2.1 bt775.2.2.2.2.2.2.2.2.2).bind fun t790 => (if t790 = true then ((impl_LessPart.f bt775.1 bt775.2.1 bt775.2.2.1 bt775.2.2.2.1 bt775.2.2.2.2.2.2.2.1 bt775.2.2.2.2.2.2.2.2.1 bt775.2.2.2.2.2.2.2.2.2 bt775.2.2.2.2.1 bt775.2.2.2.2.2.1 bt775.2.2.2.2.2.2.1).bind fun t791 => (laws_FnPartsRead.j0 k bt754.1 bt754.2.2.2.2.2 bt763.2.2.2.1 bt763.2.2.2.2 bt769.2.2.2.2 t791 bt754.2.1 bt754.2.2.1 bt754.2.2.2.1 bt754.2.2.2.2.1 bt763.1 bt763.2.1 bt763.2.2.1)) else (laws_FnPartsRead.j0 k bt754.1 bt754.2.2.2.2.2 bt763.2.2.2.1 bt763.2.2.2.2 bt769.2.2.2.2 false bt754.2.1 bt754.2.2.1 bt754.2.2.2.1 bt754.2.2.2.2.1 bt763.1 bt763.2.1 bt763.2.2.1)))))))))))
theorem laws_FnPartsRead.mono_l : ∀ k, (∀ y0 y1 y2 y3 y4 y5 y6 y7 y8 y9 y10 y11 y12, LeO (laws_FnPartsRead.j0 k y0 y1 y2 y3 y4 y5 y6 y7 y8 y9 y10 y11 y12) (laws_FnPartsRead.j0 (k + 1) y0 y1 y2 y3 y4 y5 y6 y7 y8 y9 y10 y11 y12))
  | 0 => fun _ _ _ _ _ _ _ _ _ _ _ _ _ r h => by simp [laws_FnPartsRead.j0] at h
  | k + 1 => by
    have ih0 := laws_FnPartsRead.mono_l k
    · intro y0 y1 y2 y3 y4 y5 y6 y7 y8 y9 y10 y11 y12
      unfold laws_FnPartsRead.j0
      repeat' first
      | (with_reducible exact ih0 _ _ _ _ _ _ _ _ _ _ _ _ _)
      | (with_reducible exact impl_GetPart.mono _ _ _ _ _ _ _)
      | (with_reducible exact impl_PutPart.mono _ _ _ _ _ _ _ _ _)
      | (with_reducible exact laws_sameBytes.mono _ _ _)
      | (with_reducible exact spec_DrawGetPart.mono _ _)
      | (with_reducible exact spec_DrawLessPart.mono _ _)
      | (with_reducible exact spec_GetPart.mono _ _ _ _ _ _ _)
      | (with_reducible exact LeO.refl _)
      | (with_reducible exact LeO.none _)
      | (with_reducible refine LeO.ite ?_ ?_)
      | (with_reducible refine LeO.bind ?_ (fun _ => ?_))
      | exact ih0 _ _ _ _ _ _ _ _ _ _ _ _ _
      | exact impl_GetPart.mono _ _ _ _ _ _ _
      | exact impl_PutPart.mono _ _ _ _ _ _ _ _ _
      | exact laws_sameBytes.mono _ _ _
      | exact spec_DrawGetPart.mono _ _
      | exact spec_DrawLessPart.mono _ _
      | exact spec_GetPart.mono _ _ _ _ _ _ _
      | exact LeO.none _
      | refine LeO.ite ?_ ?_
      | refine LeO.bind ?_ (fun _ => ?_)
theorem laws_FnPartsRead.mono : ∀ a0 k, LeO (laws_FnPartsRead.f k a0) (laws_FnPartsRead.f (k + 1) a0) := by
  intro a0 k
  have ih0 := laws_FnPartsRead.mono_l k
  unfold laws_FnPartsRead.f
  repeat' first
      | (with_reducible exact ih0 _ _ _ _ _ _ _ _ _ _ _ _ _)
      | (with_reducible exact impl_GetPart.mono _ _ _ _ _ _ _)
      | (with_reducible exact impl_PutPart.mono _ _ _ _ _ _ _ _ _)
      | (with_reducible exact laws_sameBytes.mono _ _ _)
      | (with_reducible exact spec_DrawGetPart.mono _ _)
      | (with_reducible exact spec_DrawLessPart.mono _ _)
      | (with_reducible exact spec_GetPart.mono _ _ _ _ _ _ _)
      | (with_reducible exact LeO.refl _)
      | (with_reducible exact LeO.none _)
      | (with_reducible refine LeO.ite ?_ ?_)
      | (with_reducible refine LeO.bind ?_ (fun _ => ?_))
      | exact ih0 _ _ _ _ _ _ _ _ _ _ _ _ _
      | exact impl_GetPart.mono _ _ _ _ _ _ _
      | exact impl_PutPart.mono _ _ _ _ _ _ _ _ _
      | exact laws_sameBytes.mono _ _ _
      | exact spec_DrawGetPart.mono _ _
      | exact spec_DrawLessPart.mono _ _
      | exact spec_GetPart.mono _ _ _ _ _ _ _
      | exact LeO.none _
      | refine LeO.ite ?_ ?_
      | refine LeO.bind ?_ (fun _ => ?_)
def laws_FnPartsRead.T7 : Bool × List (List Nat × List Nat) := (true, [([], []), ([], []), ([], []), ([0, 1, 2], [0, 1, 2]), ([], []), ([], []), ([], []), ([4, 5, 6, 3], [4, 5, 6]), ([3, 7], [3, 7]), ([8, 7], [8]), ([9], [9]), ([9], [9]), ([9], [9]), ([10, 11, 12, 9, 9], [9, 10, 11, 12]), ([13, 13, 9], [9, 13]), ([14], [14]), ([14], [14]), ([14], [14]), ([15, 16, 17, 14, 14], [14, 15, 16, 17]), ([14, 18, 9], [9, 14, 18]), ([9, 19], [9, 19])])
def laws_FnPartsRead.B7 : List Nat := [0, 0, 0, 7, 0, 0, 0, 127, 255, 511, 1023, 1023, 1023, 8191, 16383, 32767, 32767, 32767, 262143, 524287, 1048575]
theorem laws_FnPartsRead.tab7 : rtab .any (opsOf Try.f6 7) = laws_FnPartsRead.T7 := by kernel_rfl
theorem laws_FnPartsRead.bits7 : waitsOk laws_FnPartsRead.T7.2 laws_FnPartsRead.B7 = true := by kernel_rfl
def laws_FnPartsRead.T9 : Bool × List (List Nat × List Nat) := (true, [([], []), ([], []), ([0, 1], [0, 1]), ([2], [2]), ([3], [3]), ([4, 3], [3, 4]), ([5, 3, 3], [3, 5]), ([6], [6]), ([6], [6]), ([7, 8, 6, 6], [6, 7, 8]), ([9, 9, 6], [6, 9]), ([10], [10]), ([10], [10]), ([10], [10]), ([11, 12, 13, 10, 10], [10, 11, 12, 13]), ([10], [10]), ([10], [10]), ([10], [10]), ([15, 16, 17, 10], [10, 15, 16, 17]), ([14, 18, 14, 10], [10, 14, 18]), ([10, 19, 6], [6, 10, 19]), ([6, 20, 3], [3, 6, 20]), ([3, 21], [3, 21]), ([22, 19, 0, 1, 2, 3, 4, 5, 6, 7, 8, 9, 10, 11, 12, 13, 14, 15, 16, 17, 18, 19, 20, 21, 22], [22])])
def laws_FnPartsRead.B9 : List Nat := [0, 0, 3, 7, 15, 31, 63, 127, 127, 511, 1023, 2047, 2047, 2047, 16383, 2047, 2047, 2047, 231423, 524287, 1048575, 2097151, 4194303, 8388607]
theorem laws_FnPartsRead.tab9 : rtab .any (opsOf Try.f6 9) = laws_FnPartsRead.T9 := by kernel_rfl
theorem laws_FnPartsRead.bits9 : waitsOk laws_FnPartsRead.T9.2 laws_FnPartsRead.B9 = true := by kernel_rfl
set_option maxHeartbeats 8000000 in
set_option maxRecDepth 100000 in
theorem laws_FnPartsRead.calls (k : Nat) (A0 : Option Addr) (c0 : Nat) (l0 : List Int) (r : Bool) (w : World) (hr0 : Kd.C (Kd.int .u8) w A0 l0.length l0) (hc0 : l0.length ≤ c0) (h : laws_FnPartsRead.f k l0 = some r) :
  Calls Try.prog 6 #[.slice A0 l0.length c0] w fun e w' => e = .returned (.bool r) ∧ Below w.heap.size w w' := by
 have hu30 := Try.underlying30
 have hu32 := Try.underlying32
 have HR0 := zA hr0
 have HC0 := zA hc0
 clear hr0 hc0
 have HB := zA (Below.refl w.heap.size w)
 have H : ((laws_big.f l0).bind fun t753 => (if t753 = true then (some true) else ((spec_DrawGetPart.f k l0).bind fun bt754 => ((impl_GetPart.f k bt754.1 bt754.2.1 bt754.2.2.1 bt754.2.2.2.1 bt754.2.2.2.2.1 bt754.2.2.2.2.2).bind fun bt763 => ((spec_GetPart.f k bt754.1 bt754.2.1 bt754.2.2.1 bt754.2.2.2.1 bt754.2.2.2.2.1 bt754.2.2.2.2.2).bind fun bt769 => ((spec_DrawLessPart.f k l0).bind fun bt775 => ((impl_LessPart.f bt775.1 bt775.2.1 bt775.2.2.1 bt775.2.2.2.1 bt775.2.2.2.2.1 bt775.2.2.2.2.2.1 bt775.2.2.2.2.2.2.1 bt775.2.2.2.2.2.2.2.1 bt775.2.2.2.2.2.2.2.2.1 bt775.2.2.2.2.2.2.2.2.2).bind fun t788 => ((spec_LessPart.f bt775.1 bt775.2.1 bt775.2.2.1 bt775.2.2.2.1 bt775.2.2.2.2.1 bt775.2.2.2.2.2.1 bt775.2.2.2.2.2.2.1 bt775.2.2.2.2.2.2.2.1 bt775.2.2.2.2.2.2.2.2.1 bt775.2.2.2.2.2.2.2.2.2).bind fun t789 => (if (t788 != t789) = true then (laws_FnPartsRead.j0 k bt754.1 bt754.2.2.2.2.2 bt763.2.2.2.1 bt763.2.2.2.2 bt769.2.2.2.2 true bt754.2.1 bt754.2.2.1 bt754.2.2.2.1 bt754.2.2.2.2.1 bt763.1 bt763.2.1 bt763.2.2.1) else ((impl_LessPart.f bt775.1 bt775.2.1 bt775.2.2.1 bt775.2.2.2.1 bt775.2.2.2.2.1 bt775.2.2.2.2.2.1 bt775.2.2.2.2.2.2.1 bt775.2.2.2.2.2.2.2.1 bt775.2.2.2.2.2.2.2.2.1 bt775.2.2.2.2.2.2.2.2.2).bind fun t790 => (if t790 = true then ((impl_LessPart.f bt775.1 bt775.2.1 bt775.2.2.1 bt775.2.2.2.1 bt775.2.2.2.2.2.2.2.1 bt775.2.2.2.2.2.2.2.2.1 bt775.2.2.2.2.2.2.2.2.2 bt775.2.2.2.2.1 bt775.2.2.2.2.2.1 bt775.2.2.2.2.2.2.1).bind fun t791 => (laws_FnPartsRead.j0 k bt754.1 bt754.2.2.2.2.2 bt763.2.2.2.1 bt763.2.2.2.2 bt769.2.2.2.2 t791 bt754.2.1 bt754.2.2.1 bt754.2.2.2.1 bt754.2.2.2.2.1 bt763.1 bt763.2.1 bt763.2.2.1)) else (laws_FnPartsRead.j0 k bt754.1 bt754.2.2.2.2.2 bt763.2.2.2.1 bt763.2.2.2.2 bt769.2.2.2.2 false bt754.2.1 bt754.2.2.1 bt754.2.2.2.1 bt754.2.2.2.2.1 bt763.1 bt763.2.1 bt763.2.2.1)))))))))))) = some r := h
 clear h
 replace H := zI H
 obtain ⟨t753, A2, H⟩ := H
 by_cases c3 : t753 = true
 ·subst c3
  rw [if_pos rfl] at H
  obtain rfl := Option.some.inj H
  go_enter Try.func6, Try.ntmps6
  go_wp2_with (first | ((with_reducible refine zg 25 ?_); refine gL (some 16) Try.func25 #[.slice A0 l0.length c0] ?_; (with_reducible refine (laws_big.calls _ _ l0 true _ ?z1 ?z2 A2.out).mono ?_); (case z1 => exact zc HR0.out); (case z2 => exact HC0.out); rintro e w' ⟨rfl, ⟨nd, rfl⟩⟩; refine ⟨_, rfl, ?_⟩))
  go_ret
  exact ⟨zw, zb⟩
 ·replace c3 := Bool.eq_false_iff.mpr c3
  subst c3
  rw [if_neg (Bool.false_ne_true)] at H
  replace H := zI H
  obtain ⟨⟨t754, t757, t758, t759, t760, t761⟩, A4, H⟩ := H
  try dsimp only at H
  replace H := zI H
  obtain ⟨⟨t763, t764, t765, t766, t767⟩, A5, H⟩ := H
  try dsimp only at H
  replace H := zI H
  obtain ⟨⟨t769, t770, t771, t772, t773⟩, A6, H⟩ := H
  try dsimp only at H
  replace H := zI H
  obtain ⟨⟨t775, t776, t777, t778, t779, t780, t781, t782, t783, t784⟩, A7, H⟩ := H
  try dsimp only at H
  have HC8 := zA H
  clear H
  go_enter Try.func6, Try.ntmps6
  go_upto_region 7 with (first | ((with_reducible refine zg 25 ?_); refine gL (some 16) Try.func25 #[.slice A0 l0.length c0] ?_; (with_reducible refine (laws_big.calls _ _ l0 false _ ?z1 ?z2 A2.out).mono ?_); (case z1 => exact zc HR0.out); (case z2 => exact HC0.out); rintro e w' ⟨rfl, ⟨nd, rfl⟩⟩; refine ⟨_, rfl, ?_⟩) | ((with_reducible refine zg 32 ?_); refine gL (some 19) Try.func32 #[.slice A0 l0.length c0] ?_; (with_reducible refine (spec_DrawGetPart.calls k _ _ l0 t754 t757 t758 t759 t760 t761 _ ?z1 ?z2 A4.out).mono ?_); (case z1 => exact zc HR0.out); (case z2 => exact HC0.out); rintro e w9 ⟨v755, rfl, ho0, hb⟩; refine ⟨_, rfl, ?_⟩; have HO756 := zL ho0; replace HB := zS hb; clear hb ho0) | ((with_reducible refine zt 4 ?_); (try (refine gate_guard (by rfl) ?_; dsimp only)); refine zn #[.int .i64 0, .int .i64 0, .bool false, .bool false] 30 ?_; intro gb762 hg w10 hbox hb; replace HO756 := zR HO756 hb; have BK762 := zA hbox; have GW762 := zG hg; have GE762 := zG hg; replace HB := zS hb; clear hb hbox hg; obtain ⟨hcz11_0, hcz11_1, hcz11_2, hcz11_3, hfz11_0, hfz11_1, hfz11_2, hfz11_3⟩ := zh4 BK762; obtain ⟨Ao12, co12, eo12⟩ := Kd.R_slice HO756.out; subst eo12) | ((with_reducible refine zg 23 ?_); refine gL (some 27) Try.func23 #[.slice Ao12 t754.length co12, .agg #[.int .i64 t757, .int .i64 t758, .bool t759, .bool t760], .int .i64 t761] ?_; (with_reducible refine (impl_GetPart.calls k _ _ t754 t757 t758 t759 t760 t761 t763 t764 t765 t766 t767 _ ?z1 ?z2 A5.out).mono ?_); (case z1 => refine (Kd.R_reads' (e := 5) (base := w.heap.size) (ok := fun k_ => True) (n := t754.length) (c := co12) ?_).2.2; exact (by (with_reducible repeat (first | apply Kd.R_alloc | apply Kd.R_drewN | apply Kd.R_drew)); exact (Kd.R_mono (Kd.R_far (p := ⟨gb762, 3, none⟩) (Kd.R_far (p := ⟨gb762, 2, none⟩) (Kd.R_far (p := ⟨gb762, 1, none⟩) (Kd.R_far (p := ⟨gb762, 0, none⟩) (Kd.R_types HO756.out BK762.out (by decide)) (fun _ hk => hk.2) (.int .i64 t757)) (fun _ hk => hk.2) (.int .i64 t758)) (fun _ hk => hk.2) (.bool t759)) (fun _ hk => hk.2) (.bool t760)) (fun _ h_ => h_.1)))); (case z2 => exact zl HO756); rintro e w13 ⟨rfl, hb⟩; refine ⟨_, rfl, ?_⟩; replace HO756 := zA (Kd.R_below (by (with_reducible repeat (first | apply Kd.R_alloc | apply Kd.R_drewN | apply Kd.R_drew)); exact (Kd.R_mono (Kd.R_far (p := ⟨gb762, 3, none⟩) (Kd.R_far (p := ⟨gb762, 2, none⟩) (Kd.R_far (p := ⟨gb762, 1, none⟩) (Kd.R_far (p := ⟨gb762, 0, none⟩) (Kd.R_types HO756.out BK762.out (by decide)) (fun _ hk => hk.2) (.int .i64 t757)) (fun _ hk => hk.2) (.int .i64 t758)) (fun _ hk => hk.2) (.bool t759)) (fun _ hk => hk.2) (.bool t760)) (fun _ h_ => h_.1))) hb); replace BK762 := zA (blk_below (g := gb762) (o := .cells #[.int .i64 t757, .int .i64 t758, .bool t759, .bool t760] 30 (0, 0)) (by (with_reducible repeat (first | refine blk_drewN ?_ _ | refine blk_drew ?_ | refine blk_alloc ?_ _)); refine blk_put (cs := #[.int .i64 t757, .int .i64 t758, .bool t759, .bool false]) ?_ 3 _ rfl; (with_reducible repeat (first | refine blk_drewN ?_ _ | refine blk_drew ?_ | refine blk_alloc ?_ _)); refine blk_put (cs := #[.int .i64 t757, .int .i64 t758, .bool false, .bool false]) ?_ 2 _ rfl; (with_reducible repeat (first | refine blk_drewN ?_ _ | refine blk_drew ?_ | refine blk_alloc ?_ _)); refine blk_put (cs := #[.int .i64 t757, .int .i64 0, .bool false, .bool false]) ?_ 1 _ rfl; (with_reducible repeat (first | refine blk_drewN ?_ _ | refine blk_drew ?_ | refine blk_alloc ?_ _)); refine blk_put (cs := #[.int .i64 0, .int .i64 0, .bool false, .bool false]) ?_ 0 _ rfl; (with_reducible repeat (first | refine blk_drewN ?_ _ | refine blk_drew ?_ | refine blk_alloc ?_ _)); exact BK762.out) hb); replace HB := zS hb (zb1 GE762); (try clear hb)) | ((with_reducible refine zt 6 ?_); (try (refine gate_guard (by rfl) ?_; dsimp only)); refine zn #[.int .i64 0, .int .i64 0, .string (⟨#[]⟩ : ByteArray)] 32 ?_; intro gb768 hg w14 hbox hb; replace HO756 := zR HO756 hb; have BK768 := zA hbox; have GW768 := zG hg (zb1 GE762); have GE768 := zG hg (zb1 GE762); replace HB := zS hb (zb1 GE762); have NB762_768 := zX BK762 hg; have NB768_762 := zY BK762 hg; replace BK762 := zB BK762 hb; clear hb hbox hg; have hnb15 := NB768_762.out; have hnc15 := NB762_768.out; obtain ⟨hcz16_0, hcz16_1, hcz16_2, hfz16_0, hfz16_1, hfz16_2⟩ := zh3 BK768; obtain ⟨hcz17_0, hcz17_1, hcz17_2, hcz17_3, hfz17_0, hfz17_1, hfz17_2, hfz17_3⟩ := zh4 BK762) | ((with_reducible refine zg 22 ?_); refine gL (some 35) Try.func22 #[.slice Ao12 t754.length co12, .agg #[.int .i64 t757, .int .i64 t758, .bool t759, .bool t760], .int .i64 t761] ?_; (with_reducible refine (spec_GetPart.calls k _ _ t754 t757 t758 t759 t760 t761 t769 t770 t771 t772 t773 _ ?z1 ?z2 A6.out).mono ?_); (case z1 => refine (Kd.R_reads' (e := 5) (base := w.heap.size) (ok := fun k_ => True) (n := t754.length) (c := co12) ?_).2.2; exact (by (with_reducible repeat (first | apply Kd.R_alloc | apply Kd.R_drewN | apply Kd.R_drew)); exact (Kd.R_mono (Kd.R_far (p := ⟨gb768, 2, none⟩) (Kd.R_far (p := ⟨gb768, 1, none⟩) (Kd.R_far (p := ⟨gb768, 0, none⟩) (Kd.R_types HO756.out BK768.out (by decide)) (fun _ hk => hk.2) (.int .i64 t763)) (fun _ hk => hk.2) (.int .i64 t764)) (fun _ hk => hk.2) (.string t765)) (fun _ h_ => h_.1)))); (case z2 => exact zl HO756); rintro e w18 ⟨rfl, hb⟩; refine ⟨_, rfl, ?_⟩; replace HO756 := zA (Kd.R_below (by (with_reducible repeat (first | apply Kd.R_alloc | apply Kd.R_drewN | apply Kd.R_drew)); exact (Kd.R_mono (Kd.R_far (p := ⟨gb768, 2, none⟩) (Kd.R_far (p := ⟨gb768, 1, none⟩) (Kd.R_far (p := ⟨gb768, 0, none⟩) (Kd.R_types HO756.out BK768.out (by decide)) (fun _ hk => hk.2) (.int .i64 t763)) (fun _ hk => hk.2) (.int .i64 t764)) (fun _ hk => hk.2) (.string t765)) (fun _ h_ => h_.1))) hb); replace BK762 := zA (blk_below (g := gb762) (o := .cells #[.int .i64 t757, .int .i64 t758, .bool t759, .bool t760] 30 (0, 0)) (by (with_reducible repeat (first | refine blk_drewN ?_ _ | refine blk_drew ?_ | refine blk_alloc ?_ _)); refine blk_far ?_ NB762_768.out _; (with_reducible repeat (first | refine blk_drewN ?_ _ | refine blk_drew ?_ | refine blk_alloc ?_ _)); refine blk_far ?_ NB762_768.out _; (with_reducible repeat (first | refine blk_drewN ?_ _ | refine blk_drew ?_ | refine blk_alloc ?_ _)); refine blk_far ?_ NB762_768.out _; (with_reducible repeat (first | refine blk_drewN ?_ _ | refine blk_drew ?_ | refine blk_alloc ?_ _)); exact BK762.out) hb); replace BK768 := zA (blk_below (g := gb768) (o := .cells #[.int .i64 t763, .int .i64 t764, .string t765] 32 (0, 0)) (by (with_reducible repeat (first | refine blk_drewN ?_ _ | refine blk_drew ?_ | refine blk_alloc ?_ _)); refine blk_put (cs := #[.int .i64 t763, .int .i64 t764, .string (⟨#[]⟩ : ByteArray)]) ?_ 2 _ rfl; (with_reducible repeat (first | refine blk_drewN ?_ _ | refine blk_drew ?_ | refine blk_alloc ?_ _)); refine blk_put (cs := #[.int .i64 t763, .int .i64 0, .string (⟨#[]⟩ : ByteArray)]) ?_ 1 _ rfl; (with_reducible repeat (first | refine blk_drewN ?_ _ | refine blk_drew ?_ | refine blk_alloc ?_ _)); refine blk_put (cs := #[.int .i64 0, .int .i64 0, .string (⟨#[]⟩ : ByteArray)]) ?_ 0 _ rfl; (with_reducible repeat (first | refine blk_drewN ?_ _ | refine blk_drew ?_ | refine blk_alloc ?_ _)); exact BK768.out) hb); replace HB := zS hb (zb2 GE762 GE768); (try clear hb)) | ((with_reducible refine zt 9 ?_); (try (refine gate_guard (by rfl) ?_; dsimp only)); refine zn #[.int .i64 0, .int .i64 0, .string (⟨#[]⟩ : ByteArray)] 32 ?_; intro gb774 hg w19 hbox hb; replace HO756 := zR HO756 hb; have BK774 := zA hbox; have GW774 := zG hg (zb2 GE762 GE768); have GE774 := zG hg (zb2 GE762 GE768); replace HB := zS hb (zb2 GE762 GE768); have NB762_774 := zX BK762 hg; have NB774_762 := zY BK762 hg; replace BK762 := zB BK762 hb; have NB768_774 := zX BK768 hg; have NB774_768 := zY BK768 hg; replace BK768 := zB BK768 hb; clear hb hbox hg; have hnb20 := NB774_762.out; have hnc20 := NB762_774.out; have hnb21 := NB774_768.out; have hnc21 := NB768_774.out; obtain ⟨hcz22_0, hcz22_1, hcz22_2, hfz22_0, hfz22_1, hfz22_2⟩ := zh3 BK774) | ((with_reducible refine zg 33 ?_); refine gL (some 41) Try.func33 #[.slice A0 l0.length c0] ?_; (with_reducible refine (spec_DrawLessPart.calls k _ _ l0 t775 t776 t777 t778 t779 t780 t781 t782 t783 t784 _ ?z1 ?z2 A7.out).mono ?_); (case z1 => exact Kd.C_below HR0.out zz55); (case z2 => exact HC0.out); rintro e w23 ⟨rfl, hb⟩; refine ⟨_, rfl, ?_⟩; replace HO756 := zA (Kd.R_below (by (with_reducible repeat (first | apply Kd.R_alloc | apply Kd.R_drewN | apply Kd.R_drew)); exact (Kd.R_mono (Kd.R_far (p := ⟨gb774, 2, none⟩) (Kd.R_far (p := ⟨gb774, 1, none⟩) (Kd.R_far (p := ⟨gb774, 0, none⟩) (Kd.R_types HO756.out BK774.out (by decide)) (fun _ hk => hk.2) (.int .i64 t769)) (fun _ hk => hk.2) (.int .i64 t770)) (fun _ hk => hk.2) (.string t771)) (fun _ h_ => h_.1))) hb); replace BK762 := zA (blk_below (g := gb762) (o := .cells #[.int .i64 t757, .int .i64 t758, .bool t759, .bool t760] 30 (0, 0)) (by (with_reducible repeat (first | refine blk_drewN ?_ _ | refine blk_drew ?_ | refine blk_alloc ?_ _)); refine blk_far ?_ NB762_774.out _; (with_reducible repeat (first | refine blk_drewN ?_ _ | refine blk_drew ?_ | refine blk_alloc ?_ _)); refine blk_far ?_ NB762_774.out _; (with_reducible repeat (first | refine blk_drewN ?_ _ | refine blk_drew ?_ | refine blk_alloc ?_ _)); refine blk_far ?_ NB762_774.out _; (with_reducible repeat (first | refine blk_drewN ?_ _ | refine blk_drew ?_ | refine blk_alloc ?_ _)); exact BK762.out) hb); replace BK768 := zA (blk_below (g := gb768) (o := .cells #[.int .i64 t763, .int .i64 t764, .string t765] 32 (0, 0)) (by (with_reducible repeat (first | refine blk_drewN ?_ _ | refine blk_drew ?_ | refine blk_alloc ?_ _)); refine blk_far ?_ NB768_774.out _; (with_reducible repeat (first | refine blk_drewN ?_ _ | refine blk_drew ?_ | refine blk_alloc ?_ _)); refine blk_far ?_ NB768_774.out _; (with_reducible repeat (first | refine blk_drewN ?_ _ | refine blk_drew ?_ | refine blk_alloc ?_ _)); refine blk_far ?_ NB768_774.out _; (with_reducible repeat (first | refine blk_drewN ?_ _ | refine blk_drew ?_ | refine blk_alloc ?_ _)); exact BK768.out) hb); replace BK774 := zA (blk_below (g := gb774) (o := .cells #[.int .i64 t769, .int .i64 t770, .string t771] 32 (0, 0)) (by (with_reducible repeat (first | refine blk_drewN ?_ _ | refine blk_drew ?_ | refine blk_alloc ?_ _)); refine blk_put (cs := #[.int .i64 t769, .int .i64 t770, .string (⟨#[]⟩ : ByteArray)]) ?_ 2 _ rfl; (with_reducible repeat (first | refine blk_drewN ?_ _ | refine blk_drew ?_ | refine blk_alloc ?_ _)); refine blk_put (cs := #[.int .i64 t769, .int .i64 0, .string (⟨#[]⟩ : ByteArray)]) ?_ 1 _ rfl; (with_reducible repeat (first | refine blk_drewN ?_ _ | refine blk_drew ?_ | refine blk_alloc ?_ _)); refine blk_put (cs := #[.int .i64 0, .int .i64 0, .string (⟨#[]⟩ : ByteArray)]) ?_ 0 _ rfl; (with_reducible repeat (first | refine blk_drewN ?_ _ | refine blk_drew ?_ | refine blk_alloc ?_ _)); exact BK774.out) hb); replace HB := zS hb zz55; (try clear hb)) | ((with_reducible refine zt 12 ?_); (try (refine gate_guard (by rfl) ?_; dsimp only)); refine zn #[.int .i64 0, .int .i64 0, .bool false, .bool false] 30 ?_; intro gb785 hg w24 hbox hb; replace HO756 := zR HO756 hb; have BK785 := zA hbox; have GW785 := zG hg zz55; have GE785 := zG hg zz55; replace HB := zS hb zz55; have NB762_785 := zX BK762 hg; have NB785_762 := zY BK762 hg; replace BK762 := zB BK762 hb; have NB768_785 := zX BK768 hg; have NB785_768 := zY BK768 hg; replace BK768 := zB BK768 hb; have NB774_785 := zX BK774 hg; have NB785_774 := zY BK774 hg; replace BK774 := zB BK774 hb; clear hb hbox hg) | ((with_reducible refine zt 13 ?_); (try (refine gate_guard (by rfl) ?_; dsimp only)); refine zn #[.int .i64 0, .int .i64 0, .string (⟨#[]⟩ : ByteArray)] 32 ?_; intro gb786 hg w25 hbox hb; replace HO756 := zR HO756 hb; have BK786 := zA hbox; have GW786 := zG hg zz81; have GE786 := zG hg zz81; replace HB := zS hb zz81; have NB762_786 := zX BK762 hg; have NB786_762 := zY BK762 hg; replace BK762 := zB BK762 hb; have NB768_786 := zX BK768 hg; have NB786_768 := zY BK768 hg; replace BK768 := zB BK768 hb; have NB774_786 := zX BK774 hg; have NB786_774 := zY BK774 hg; replace BK774 := zB BK774 hb; have NB785_786 := zX BK785 hg; have NB786_785 := zY BK785 hg; replace BK785 := zB BK785 hb; clear hb hbox hg) | ((with_reducible refine zt 14 ?_); (try (refine gate_guard (by rfl) ?_; dsimp only)); refine zn #[.int .i64 0, .int .i64 0, .string (⟨#[]⟩ : ByteArray)] 32 ?_; intro gb787 hg w26 hbox hb; replace HO756 := zR HO756 hb; have BK787 := zA hbox; have GW787 := zG hg zz75; have GE787 := zG hg zz75; replace HB := zS hb zz75; have NB762_787 := zX BK762 hg; have NB787_762 := zY BK762 hg; replace BK762 := zB BK762 hb; have NB768_787 := zX BK768 hg; have NB787_768 := zY BK768 hg; replace BK768 := zB BK768 hb; have NB774_787 := zX BK774 hg; have NB787_774 := zY BK774 hg; replace BK774 := zB BK774 hb; have NB785_787 := zX BK785 hg; have NB787_785 := zY BK785 hg; replace BK785 := zB BK785 hb; have NB786_787 := zX BK786 hg; have NB787_786 := zY BK786 hg; replace BK786 := zB BK786 hb; clear hb hbox hg; have hnb27 := NB785_762.out; have hnc27 := NB762_785.out; have hnb28 := NB785_768.out; have hnc28 := NB768_785.out; have hnb29 := NB785_774.out; have hnc29 := NB774_785.out; have hnb30 := NB785_786.out; have hnc30 := NB786_785.out; have hnb31 := NB785_787.out; have hnc31 := NB787_785.out; obtain ⟨hcz32_0, hcz32_1, hcz32_2, hcz32_3, hfz32_0, hfz32_1, hfz32_2, hfz32_3⟩ := zh4 BK785; have hnb33 := NB786_762.out; have hnc33 := NB762_786.out; have hnb34 := NB786_768.out; have hnc34 := NB768_786.out; have hnb35 := NB786_774.out; have hnc35 := NB774_786.out; have hnb36 := NB786_787.out; have hnc36 := NB787_786.out; obtain ⟨hcz37_0, hcz37_1, hcz37_2, hfz37_0, hfz37_1, hfz37_2⟩ := zh3 BK786; have hnb38 := NB787_762.out; have hnc38 := NB762_787.out; have hnb39 := NB787_768.out; have hnc39 := NB768_787.out; have hnb40 := NB787_774.out; have hnc40 := NB774_787.out; obtain ⟨hcz41_0, hcz41_1, hcz41_2, hfz41_0, hfz41_1, hfz41_2⟩ := zh3 BK787))
  (try simp only [Act.put, List.setIfInBounds_toArray, List.set_cons_zero, List.set_cons_succ])
  go_cut [65] (fun v65 wc => ∃ (kq : Nat) (x65_7 : Bool), v65 = .bool x65_7 ∧ Aside0 (laws_FnPartsRead.j0 kq t754 t761 t766 t767 t773 x65_7 t757 t758 t759 t760 t763 t764 t765 = some r) ∧ Aside0 (kq ≤ k) ∧ Aside0 (Kd.R (Kd.int .u8) 5 wc w.heap.size (fun _ => True) (.slice Ao12 t754.length co12) t754) ∧ Aside0 (wc.heap[gb762]? = some (.cells #[.int .i64 t757, .int .i64 t758, .bool t759, .bool t760] 30 (0, 0))) ∧ Aside0 (wc.heap[gb768]? = some (.cells #[.int .i64 t763, .int .i64 t764, .string t765] 32 (0, 0))) ∧ Aside0 (wc.heap[gb774]? = some (.cells #[.int .i64 t769, .int .i64 t770, .string t771] 32 (0, 0))) ∧ Aside0 (wc.heap[gb785]? = some (.cells #[.int .i64 t775, .int .i64 t776, .bool t777, .bool t778] 30 (0, 0))) ∧ Aside0 (wc.heap[gb786]? = some (.cells #[.int .i64 t779, .int .i64 t780, .string t781] 32 (0, 0))) ∧ Aside0 (wc.heap[gb787]? = some (.cells #[.int .i64 t782, .int .i64 t783, .string t784] 32 (0, 0))) ∧ Aside0 (Below w.heap.size w wc))
  case first =>
   have H := HC8.out
   clear HC8
   replace H := zI H
   obtain ⟨t788, A42, H⟩ := H
   replace H := zI H
   obtain ⟨t789, A43, H⟩ := H
   by_cases c44 : (t788 != t789) = true
   ·rw [if_pos c44] at H
    have c44b0 : (t788 != t789) = true := c44
    (try (have c44b1 : decide (t788 = t789) = false := by simpa using c44))
    (try (have c44b2 : (t788 == t789) = false := by simpa using c44))
    (try (have c44b3 : ¬ (t788 = t789) := by simpa using c44))
    clear c44
    (first | rw [c44b0] | (simp only [i64_w, i32_w]; rw [c44b0]) | skip)
    have H' := zA H
    clear H
    try go_wp2
    have n0_ : Aside0 (Kd.R (Kd.int .u8) 5 ((((((((((w26.setCell ⟨gb785, 0, none⟩ (.int .i64 t775)).setCell ⟨gb785, 1, none⟩ (.int .i64 t776)).setCell ⟨gb785, 2, none⟩ (.bool t777)).setCell ⟨gb785, 3, none⟩ (.bool t778)).setCell ⟨gb786, 0, none⟩ (.int .i64 t779)).setCell ⟨gb786, 1, none⟩ (.int .i64 t780)).setCell ⟨gb786, 2, none⟩ (.string t781)).setCell ⟨gb787, 0, none⟩ (.int .i64 t782)).setCell ⟨gb787, 1, none⟩ (.int .i64 t783)).setCell ⟨gb787, 2, none⟩ (.string t784)) w.heap.size (fun _ => True) (.slice Ao12 t754.length co12) t754) := ⟨by (with_reducible repeat (first | apply Kd.R_alloc | apply Kd.R_drewN | apply Kd.R_drew)); exact Kd.R_mono (Kd.R_far (p := ⟨gb787, 2, none⟩) (Kd.R_far (p := ⟨gb787, 1, none⟩) (Kd.R_far (p := ⟨gb787, 0, none⟩) (Kd.R_far (p := ⟨gb786, 2, none⟩) (Kd.R_far (p := ⟨gb786, 1, none⟩) (Kd.R_far (p := ⟨gb786, 0, none⟩) (Kd.R_far (p := ⟨gb785, 3, none⟩) (Kd.R_far (p := ⟨gb785, 2, none⟩) (Kd.R_far (p := ⟨gb785, 1, none⟩) (Kd.R_far (p := ⟨gb785, 0, none⟩) (Kd.R_types (Kd.R_types (Kd.R_types HO756.out BK785.out (by decide)) BK786.out (by decide)) BK787.out (by decide)) (fun _ hk => hk.1.1.2) (.int .i64 t775)) (fun _ hk => hk.1.1.2) (.int .i64 t776)) (fun _ hk => hk.1.1.2) (.bool t777)) (fun _ hk => hk.1.1.2) (.bool t778)) (fun _ hk => hk.1.2) (.int .i64 t779)) (fun _ hk => hk.1.2) (.int .i64 t780)) (fun _ hk => hk.1.2) (.string t781)) (fun _ hk => hk.2) (.int .i64 t782)) (fun _ hk => hk.2) (.int .i64 t783)) (fun _ hk => hk.2) (.string t784)) (fun _ hk => trivial)⟩
    have n1_ : Aside0 (((((((((((w26.setCell ⟨gb785, 0, none⟩ (.int .i64 t775)).setCell ⟨gb785, 1, none⟩ (.int .i64 t776)).setCell ⟨gb785, 2, none⟩ (.bool t777)).setCell ⟨gb785, 3, none⟩ (.bool t778)).setCell ⟨gb786, 0, none⟩ (.int .i64 t779)).setCell ⟨gb786, 1, none⟩ (.int .i64 t780)).setCell ⟨gb786, 2, none⟩ (.string t781)).setCell ⟨gb787, 0, none⟩ (.int .i64 t782)).setCell ⟨gb787, 1, none⟩ (.int .i64 t783)).setCell ⟨gb787, 2, none⟩ (.string t784)).heap[gb762]? = some (.cells #[.int .i64 t757, .int .i64 t758, .bool t759, .bool t760] 30 (0, 0))) := ⟨zz7⟩
    have n2_ : Aside0 (((((((((((w26.setCell ⟨gb785, 0, none⟩ (.int .i64 t775)).setCell ⟨gb785, 1, none⟩ (.int .i64 t776)).setCell ⟨gb785, 2, none⟩ (.bool t777)).setCell ⟨gb785, 3, none⟩ (.bool t778)).setCell ⟨gb786, 0, none⟩ (.int .i64 t779)).setCell ⟨gb786, 1, none⟩ (.int .i64 t780)).setCell ⟨gb786, 2, none⟩ (.string t781)).setCell ⟨gb787, 0, none⟩ (.int .i64 t782)).setCell ⟨gb787, 1, none⟩ (.int .i64 t783)).setCell ⟨gb787, 2, none⟩ (.string t784)).heap[gb768]? = some (.cells #[.int .i64 t763, .int .i64 t764, .string t765] 32 (0, 0))) := ⟨zz8⟩
    have n3_ : Aside0 (((((((((((w26.setCell ⟨gb785, 0, none⟩ (.int .i64 t775)).setCell ⟨gb785, 1, none⟩ (.int .i64 t776)).setCell ⟨gb785, 2, none⟩ (.bool t777)).setCell ⟨gb785, 3, none⟩ (.bool t778)).setCell ⟨gb786, 0, none⟩ (.int .i64 t779)).setCell ⟨gb786, 1, none⟩ (.int .i64 t780)).setCell ⟨gb786, 2, none⟩ (.string t781)).setCell ⟨gb787, 0, none⟩ (.int .i64 t782)).setCell ⟨gb787, 1, none⟩ (.int .i64 t783)).setCell ⟨gb787, 2, none⟩ (.string t784)).heap[gb774]? = some (.cells #[.int .i64 t769, .int .i64 t770, .string t771] 32 (0, 0))) := ⟨zz9⟩
    have n4_ : Aside0 (((((((((((w26.setCell ⟨gb785, 0, none⟩ (.int .i64 t775)).setCell ⟨gb785, 1, none⟩ (.int .i64 t776)).setCell ⟨gb785, 2, none⟩ (.bool t777)).setCell ⟨gb785, 3, none⟩ (.bool t778)).setCell ⟨gb786, 0, none⟩ (.int .i64 t779)).setCell ⟨gb786, 1, none⟩ (.int .i64 t780)).setCell ⟨gb786, 2, none⟩ (.string t781)).setCell ⟨gb787, 0, none⟩ (.int .i64 t782)).setCell ⟨gb787, 1, none⟩ (.int .i64 t783)).setCell ⟨gb787, 2, none⟩ (.string t784)).heap[gb785]? = some (.cells #[.int .i64 t775, .int .i64 t776, .bool t777, .bool t778] 30 (0, 0))) := ⟨zz3⟩
    have n5_ : Aside0 (((((((((((w26.setCell ⟨gb785, 0, none⟩ (.int .i64 t775)).setCell ⟨gb785, 1, none⟩ (.int .i64 t776)).setCell ⟨gb785, 2, none⟩ (.bool t777)).setCell ⟨gb785, 3, none⟩ (.bool t778)).setCell ⟨gb786, 0, none⟩ (.int .i64 t779)).setCell ⟨gb786, 1, none⟩ (.int .i64 t780)).setCell ⟨gb786, 2, none⟩ (.string t781)).setCell ⟨gb787, 0, none⟩ (.int .i64 t782)).setCell ⟨gb787, 1, none⟩ (.int .i64 t783)).setCell ⟨gb787, 2, none⟩ (.string t784)).heap[gb786]? = some (.cells #[.int .i64 t779, .int .i64 t780, .string t781] 32 (0, 0))) := ⟨zz4⟩
    have n6_ : Aside0 (((((((((((w26.setCell ⟨gb785, 0, none⟩ (.int .i64 t775)).setCell ⟨gb785, 1, none⟩ (.int .i64 t776)).setCell ⟨gb785, 2, none⟩ (.bool t777)).setCell ⟨gb785, 3, none⟩ (.bool t778)).setCell ⟨gb786, 0, none⟩ (.int .i64 t779)).setCell ⟨gb786, 1, none⟩ (.int .i64 t780)).setCell ⟨gb786, 2, none⟩ (.string t781)).setCell ⟨gb787, 0, none⟩ (.int .i64 t782)).setCell ⟨gb787, 1, none⟩ (.int .i64 t783)).setCell ⟨gb787, 2, none⟩ (.string t784)).heap[gb787]? = some (.cells #[.int .i64 t782, .int .i64 t783, .string t784] 32 (0, 0))) := ⟨zz5⟩
    have n7_ : Aside0 (Below w.heap.size w ((((((((((w26.setCell ⟨gb785, 0, none⟩ (.int .i64 t775)).setCell ⟨gb785, 1, none⟩ (.int .i64 t776)).setCell ⟨gb785, 2, none⟩ (.bool t777)).setCell ⟨gb785, 3, none⟩ (.bool t778)).setCell ⟨gb786, 0, none⟩ (.int .i64 t779)).setCell ⟨gb786, 1, none⟩ (.int .i64 t780)).setCell ⟨gb786, 2, none⟩ (.string t781)).setCell ⟨gb787, 0, none⟩ (.int .i64 t782)).setCell ⟨gb787, 1, none⟩ (.int .i64 t783)).setCell ⟨gb787, 2, none⟩ (.string t784))) := ⟨zz2⟩
    (try clear HO756)
    (try clear BK762)
    (try clear BK768)
    (try clear BK774)
    (try clear BK785)
    (try clear BK786)
    (try clear BK787)
    (try clear HB)
    generalize ((((((((((w26.setCell ⟨gb785, 0, none⟩ (.int .i64 t775)).setCell ⟨gb785, 1, none⟩ (.int .i64 t776)).setCell ⟨gb785, 2, none⟩ (.bool t777)).setCell ⟨gb785, 3, none⟩ (.bool t778)).setCell ⟨gb786, 0, none⟩ (.int .i64 t779)).setCell ⟨gb786, 1, none⟩ (.int .i64 t780)).setCell ⟨gb786, 2, none⟩ (.string t781)).setCell ⟨gb787, 0, none⟩ (.int .i64 t782)).setCell ⟨gb787, 1, none⟩ (.int .i64 t783)).setCell ⟨gb787, 2, none⟩ (.string t784)) = w45 at n0_ n1_ n2_ n3_ n4_ n5_ n6_ n7_ ⊢
    have HO756 := n0_; have BK762 := n1_; have BK768 := n2_; have BK774 := n3_; have BK785 := n4_; have BK786 := n5_; have BK787 := n6_; have HB := n7_
    clear n0_ n1_ n2_ n3_ n4_ n5_ n6_ n7_
    have n0_ := zA (Kd.R_drew HO756.out)
    have n1_ := zA (blk_drew BK762.out)
    have n2_ := zA (blk_drew BK768.out)
    have n3_ := zA (blk_drew BK774.out)
    have n4_ := zA (blk_drew BK785.out)
    have n5_ := zA (blk_drew BK786.out)
    have n6_ := zA (blk_drew BK787.out)
    have n7_ := zA (below_drew1 HB.out)
    clear HO756 BK762 BK768 BK774 BK785 BK786 BK787 HB
    have HO756 := n0_; have BK762 := n1_; have BK768 := n2_; have BK774 := n3_; have BK785 := n4_; have BK786 := n5_; have BK787 := n6_; have HB := n7_
    clear n0_ n1_ n2_ n3_ n4_ n5_ n6_ n7_
    refine start_ (n := 21) (S := fun w' => w'.cell? ⟨gb785, 0, none⟩ = some (.int .i64 t775) ∧ w'.cell? ⟨gb785, 1, none⟩ = some (.int .i64 t776) ∧ w'.cell? ⟨gb785, 2, none⟩ = some (.bool t777) ∧ w'.cell? ⟨gb785, 3, none⟩ = some (.bool t778) ∧ w'.cell? ⟨gb786, 0, none⟩ = some (.int .i64 t779) ∧ w'.cell? ⟨gb786, 1, none⟩ = some (.int .i64 t780) ∧ w'.cell? ⟨gb786, 2, none⟩ = some (.string t781) ∧ w'.cell? ⟨gb787, 0, none⟩ = some (.int .i64 t782) ∧ w'.cell? ⟨gb787, 1, none⟩ = some (.int .i64 t783) ∧ w'.cell? ⟨gb787, 2, none⟩ = some (.string t784)) (ds := []) #[false, false, false, false, false, false, false, false, false, false, false, false, false, false, false, false, false, false, false, false, false] (by kernel_rfl) rfl rfl ⟨(blk_cell BK785.out 0).trans rfl, (blk_cell BK785.out 1).trans rfl, (blk_cell BK785.out 2).trans rfl, (blk_cell BK785.out 3).trans rfl, (blk_cell BK786.out 0).trans rfl, (blk_cell BK786.out 1).trans rfl, (blk_cell BK786.out 2).trans rfl, (blk_cell BK787.out 0).trans rfl, (blk_cell BK787.out 1).trans rfl, (blk_cell BK787.out 2).trans rfl⟩ (fun hHeld => ?_); refine with_tabW laws_FnPartsRead.tab7 laws_FnPartsRead.bits7 (fun HT_ HW_ => ?_)
    generalize w45.drew = w46 at HO756 BK762 BK768 BK774 BK785 BK786 BK787 HB hHeld ⊢
    refine take_ (i := 0) (N := some 45) (v := ?_) (a' := ?_) #[true, false, false, false, false, false, false, false, false, false, false, false, false, false, false, false, false, false, false, false, false] rfl rfl (take_ofW HT_.out HW_.out (by kernel_rfl)) (fun _ _ _ h => h) (Or.inl ⟨by rfl, ?_⟩) hHeld ?_ ?_; rotate_left
    ·rintro w' ⟨s0, s1, s2, s3, s4, s5, s6, s7, s8, s9⟩
     go_simp
     with_reducible rfl
    rotate_left
    ·simp only [Act.put, List.setIfInBounds_toArray, List.set_cons_zero, List.set_cons_succ, i64_w, i32_w]; rfl
    refine take_ (i := 1) (N := some 46) (v := ?_) (a' := ?_) #[true, true, false, false, false, false, false, false, false, false, false, false, false, false, false, false, false, false, false, false, false] rfl rfl (take_ofW HT_.out HW_.out (by kernel_rfl)) (fun _ _ _ h => h) (Or.inl ⟨by rfl, ?_⟩) hHeld ?_ ?_; rotate_left
    ·rintro w' ⟨s0, s1, s2, s3, s4, s5, s6, s7, s8, s9⟩
     go_simp
     with_reducible rfl
    rotate_left
    ·simp only [Act.put, List.setIfInBounds_toArray, List.set_cons_zero, List.set_cons_succ, i64_w, i32_w]; rfl
    refine take_ (i := 2) (N := some 47) (v := ?_) (a' := ?_) #[true, true, true, false, false, false, false, false, false, false, false, false, false, false, false, false, false, false, false, false, false] rfl rfl (take_ofW HT_.out HW_.out (by kernel_rfl)) (fun _ _ _ h => h) (Or.inl ⟨by rfl, ?_⟩) hHeld ?_ ?_; rotate_left
    ·rintro w' ⟨s0, s1, s2, s3, s4, s5, s6, s7, s8, s9⟩
     go_simp
     with_reducible rfl
    rotate_left
    ·simp only [Act.put, List.setIfInBounds_toArray, List.set_cons_zero, List.set_cons_succ, i64_w, i32_w]; rfl
    refine take_ (i := 4) (N := some 49) (v := ?_) (a' := ?_) #[true, true, true, false, true, false, false, false, false, false, false, false, false, false, false, false, false, false, false, false, false] rfl rfl (take_ofW HT_.out HW_.out (by kernel_rfl)) (fun _ _ _ h => h) (Or.inl ⟨by rfl, ?_⟩) hHeld ?_ ?_; rotate_left
    ·rintro w' ⟨s0, s1, s2, s3, s4, s5, s6, s7, s8, s9⟩
     go_simp
     with_reducible rfl
    rotate_left
    ·simp only [Act.put, List.setIfInBounds_toArray, List.set_cons_zero, List.set_cons_succ, i64_w, i32_w]; rfl
    refine take_ (i := 5) (N := some 50) (v := ?_) (a' := ?_) #[true, true, true, false, true, true, false, false, false, false, false, false, false, false, false, false, false, false, false, false, false] rfl rfl (take_ofW HT_.out HW_.out (by kernel_rfl)) (fun _ _ _ h => h) (Or.inl ⟨by rfl, ?_⟩) hHeld ?_ ?_; rotate_left
    ·rintro w' ⟨s0, s1, s2, s3, s4, s5, s6, s7, s8, s9⟩
     go_simp
     with_reducible rfl
    rotate_left
    ·simp only [Act.put, List.setIfInBounds_toArray, List.set_cons_zero, List.set_cons_succ, i64_w, i32_w]; rfl
    refine take_ (i := 6) (N := some 51) (v := ?_) (a' := ?_) #[true, true, true, false, true, true, true, false, false, false, false, false, false, false, false, false, false, false, false, false, false] rfl rfl (take_ofW HT_.out HW_.out (by kernel_rfl)) (fun _ _ _ h => h) (Or.inl ⟨by rfl, ?_⟩) hHeld ?_ ?_; rotate_left
    ·rintro w' ⟨s0, s1, s2, s3, s4, s5, s6, s7, s8, s9⟩
     go_simp
     with_reducible rfl
    rotate_left
    ·simp only [Act.put, List.setIfInBounds_toArray, List.set_cons_zero, List.set_cons_succ, i64_w, i32_w]; rfl
    refine one_ (i := 3) (N := some 48) #[true, true, true, true, true, true, true, false, false, false, false, false, false, false, false, false, false, false, false, false, false] rfl rfl (one_of HT_.out (by kernel_rfl)) (by decide) (fun K hK => ?_)
    refine goes_ Try.func34 (by kernel_rfl) rfl #[.agg #[.int .i64 t775, .int .i64 t776, .bool t777, .bool t778], .agg #[.int .i64 t779, .int .i64 t780, .string t781], .agg #[.int .i64 t782, .int .i64 t783, .string t784]] (by rfl) rfl rfl zz24 ?_
    with_reducible refine (impl_LessPart.calls t775 t776 t777 t778 t779 t780 t781 t782 t783 t784 t788 _ A42.out).mono ?_
    rintro e w47 ⟨rfl, hb⟩
    refine ⟨_, rfl, ?_⟩
    have n0_ := zR HO756 hb
    have n1_ := zB BK762 hb
    have n2_ := zB BK768 hb
    have n3_ := zB BK774 hb
    have n4_ := zB BK785 hb
    have n5_ := zB BK786 hb
    have n6_ := zB BK787 hb
    have n7_ := zS hb zz2
    clear HO756 BK762 BK768 BK774 BK785 BK786 BK787 HB
    have HO756 := n0_; have BK762 := n1_; have BK768 := n2_; have BK774 := n3_; have BK785 := n4_; have BK786 := n5_; have BK787 := n6_; have HB := n7_
    clear n0_ n1_ n2_ n3_ n4_ n5_ n6_ n7_
    (try clear hb)
    (try clear hb2)
    (try clear hk)
    (try clear hi)
    refine hK.out _ _ ⟨(blk_cell BK785.out 0).trans rfl, (blk_cell BK785.out 1).trans rfl, (blk_cell BK785.out 2).trans rfl, (blk_cell BK785.out 3).trans rfl, (blk_cell BK786.out 0).trans rfl, (blk_cell BK786.out 1).trans rfl, (blk_cell BK786.out 2).trans rfl, (blk_cell BK787.out 0).trans rfl, (blk_cell BK787.out 1).trans rfl, (blk_cell BK787.out 2).trans rfl⟩ (fun hHeld => ?_)
    clear hK K
    refine norm_ (a' := ?_) ?_ ?_; rotate_left
    ·show Act.put _ (some 48) _ = _
     simp only [Act.put, List.setIfInBounds_toArray, List.set_cons_zero, List.set_cons_succ, i64_w, i32_w]
     rfl
    refine one_ (i := 7) (N := some 52) #[true, true, true, true, true, true, true, true, false, false, false, false, false, false, false, false, false, false, false, false, false] rfl rfl (one_of HT_.out (by kernel_rfl)) (by decide) (fun K hK => ?_)
    refine goes_ Try.func35 (by kernel_rfl) rfl #[.agg #[.int .i64 t775, .int .i64 t776, .bool t777, .bool t778], .agg #[.int .i64 t779, .int .i64 t780, .string t781], .agg #[.int .i64 t782, .int .i64 t783, .string t784]] (by rfl) rfl rfl zz24 ?_
    with_reducible refine (spec_LessPart.calls t775 t776 t777 t778 t779 t780 t781 t782 t783 t784 t789 _ A43.out).mono ?_
    rintro e w48 ⟨rfl, hb⟩
    refine ⟨_, rfl, ?_⟩
    have n0_ := zR HO756 hb
    have n1_ := zB BK762 hb
    have n2_ := zB BK768 hb
    have n3_ := zB BK774 hb
    have n4_ := zB BK785 hb
    have n5_ := zB BK786 hb
    have n6_ := zB BK787 hb
    have n7_ := zS hb zz2
    clear HO756 BK762 BK768 BK774 BK785 BK786 BK787 HB
    have HO756 := n0_; have BK762 := n1_; have BK768 := n2_; have BK774 := n3_; have BK785 := n4_; have BK786 := n5_; have BK787 := n6_; have HB := n7_
    clear n0_ n1_ n2_ n3_ n4_ n5_ n6_ n7_
    (try clear hb)
    (try clear hb2)
    (try clear hk)
    (try clear hi)
    refine hK.out _ _ ⟨(blk_cell BK785.out 0).trans rfl, (blk_cell BK785.out 1).trans rfl, (blk_cell BK785.out 2).trans rfl, (blk_cell BK785.out 3).trans rfl, (blk_cell BK786.out 0).trans rfl, (blk_cell BK786.out 1).trans rfl, (blk_cell BK786.out 2).trans rfl, (blk_cell BK787.out 0).trans rfl, (blk_cell BK787.out 1).trans rfl, (blk_cell BK787.out 2).trans rfl⟩ (fun hHeld => ?_)
    clear hK K
    refine norm_ (a' := ?_) ?_ ?_; rotate_left
    ·show Act.put _ (some 52) _ = _
     simp only [Act.put, List.setIfInBounds_toArray, List.set_cons_zero, List.set_cons_succ, i64_w, i32_w]
     rfl
    refine pure_ (i := 8) (N := some 53) (v := ?_) (a' := ?_) #[true, true, true, true, true, true, true, true, true, false, false, false, false, false, false, false, false, false, false, false, false] rfl rfl (any_of HT_.out (by kernel_rfl)) (fun _ _ _ h => h) (Or.inl ⟨by rfl, ?_⟩) ?_ ?_; rotate_left
    ·intro w'; go_simp; with_reducible rfl
    rotate_left
    ·simp only [Act.put, List.setIfInBounds_toArray, List.set_cons_zero, List.set_cons_succ, i64_w, i32_w]; rfl
    refine pure_ (i := 9) (N := some 54) (v := ?_) (a' := ?_) #[true, true, true, true, true, true, true, true, true, true, false, false, false, false, false, false, false, false, false, false, false] rfl rfl (any_of HT_.out (by kernel_rfl)) (fun _ _ _ h => h) (Or.inl ⟨by rfl, ?_⟩) ?_ ?_; rotate_left
    ·intro w'; go_simp; with_reducible rfl
    rotate_left
    ·simp only [Act.put, List.setIfInBounds_toArray, List.set_cons_zero, List.set_cons_succ, i64_w, i32_w]; rfl
    refine pure_ (i := 10) (N := some 55) (v := undef) (a' := ?_) #[true, true, true, true, true, true, true, true, true, true, true, false, false, false, false, false, false, false, false, false, false] rfl rfl (any_of HT_.out (by kernel_rfl)) (fun _ _ _ h => h) (Or.inr ⟨by rfl, rfl⟩) ?_ ?_; rotate_left
    ·simp only [Act.put, List.setIfInBounds_toArray, List.set_cons_zero, List.set_cons_succ, i64_w, i32_w]; rfl
    refine pure_ (i := 11) (N := some 56) (v := undef) (a' := ?_) #[true, true, true, true, true, true, true, true, true, true, true, true, false, false, false, false, false, false, false, false, false] rfl rfl (any_of HT_.out (by kernel_rfl)) (fun _ _ _ h => h) (Or.inr ⟨by rfl, rfl⟩) ?_ ?_; rotate_left
    ·simp only [Act.put, List.setIfInBounds_toArray, List.set_cons_zero, List.set_cons_succ, i64_w, i32_w]; rfl
    refine pure_ (i := 12) (N := some 57) (v := undef) (a' := ?_) #[true, true, true, true, true, true, true, true, true, true, true, true, true, false, false, false, false, false, false, false, false] rfl rfl (any_of HT_.out (by kernel_rfl)) (fun _ _ _ h => h) (Or.inr ⟨by rfl, rfl⟩) ?_ ?_; rotate_left
    ·simp only [Act.put, List.setIfInBounds_toArray, List.set_cons_zero, List.set_cons_succ, i64_w, i32_w]; rfl
    refine pure_ (i := 13) (N := some 58) (v := undef) (a' := ?_) #[true, true, true, true, true, true, true, true, true, true, true, true, true, true, false, false, false, false, false, false, false] rfl rfl (any_of HT_.out (by kernel_rfl)) (fun _ _ _ h => h) (Or.inr ⟨by rfl, rfl⟩) ?_ ?_; rotate_left
    ·simp only [Act.put, List.setIfInBounds_toArray, List.set_cons_zero, List.set_cons_succ, i64_w, i32_w]; rfl
    refine pure_ (i := 14) (N := some 59) (v := undef) (a' := ?_) #[true, true, true, true, true, true, true, true, true, true, true, true, true, true, true, false, false, false, false, false, false] rfl rfl (any_of HT_.out (by kernel_rfl)) (fun _ _ _ h => h) (Or.inr ⟨by rfl, rfl⟩) ?_ ?_; rotate_left
    ·simp only [Act.put, List.setIfInBounds_toArray, List.set_cons_zero, List.set_cons_succ, i64_w, i32_w]; rfl
    refine pure_ (i := 15) (N := some 60) (v := undef) (a' := ?_) #[true, true, true, true, true, true, true, true, true, true, true, true, true, true, true, true, false, false, false, false, false] rfl rfl (any_of HT_.out (by kernel_rfl)) (fun _ _ _ h => h) (Or.inr ⟨by rfl, rfl⟩) ?_ ?_; rotate_left
    ·simp only [Act.put, List.setIfInBounds_toArray, List.set_cons_zero, List.set_cons_succ, i64_w, i32_w]; rfl
    refine pure_ (i := 16) (N := some 61) (v := undef) (a' := ?_) #[true, true, true, true, true, true, true, true, true, true, true, true, true, true, true, true, true, false, false, false, false] rfl rfl (any_of HT_.out (by kernel_rfl)) (fun _ _ _ h => h) (Or.inr ⟨by rfl, rfl⟩) ?_ ?_; rotate_left
    ·simp only [Act.put, List.setIfInBounds_toArray, List.set_cons_zero, List.set_cons_succ, i64_w, i32_w]; rfl
    refine pure_ (i := 17) (N := some 62) (v := undef) (a' := ?_) #[true, true, true, true, true, true, true, true, true, true, true, true, true, true, true, true, true, true, false, false, false] rfl rfl (any_of HT_.out (by kernel_rfl)) (fun _ _ _ h => h) (Or.inr ⟨by rfl, rfl⟩) ?_ ?_; rotate_left
    ·simp only [Act.put, List.setIfInBounds_toArray, List.set_cons_zero, List.set_cons_succ, i64_w, i32_w]; rfl
    refine pure_ (i := 18) (N := some 63) (v := undef) (a' := ?_) #[true, true, true, true, true, true, true, true, true, true, true, true, true, true, true, true, true, true, true, false, false] rfl rfl (any_of HT_.out (by kernel_rfl)) (fun _ _ _ h => h) (Or.inr ⟨by rfl, rfl⟩) ?_ ?_; rotate_left
    ·simp only [Act.put, List.setIfInBounds_toArray, List.set_cons_zero, List.set_cons_succ, i64_w, i32_w]; rfl
    refine pure_ (i := 19) (N := some 64) (v := undef) (a' := ?_) #[true, true, true, true, true, true, true, true, true, true, true, true, true, true, true, true, true, true, true, true, false] rfl rfl (any_of HT_.out (by kernel_rfl)) (fun _ _ _ h => h) (Or.inr ⟨by rfl, rfl⟩) ?_ ?_; rotate_left
    ·simp only [Act.put, List.setIfInBounds_toArray, List.set_cons_zero, List.set_cons_succ, i64_w, i32_w]; rfl
    refine pure_ (i := 20) (N := some 65) (v := ?_) (a' := ?_) #[true, true, true, true, true, true, true, true, true, true, true, true, true, true, true, true, true, true, true, true, true] rfl rfl (any_of HT_.out (by kernel_rfl)) (fun _ _ _ h => h) (Or.inl ⟨by rfl, ?_⟩) ?_ ?_; rotate_left
    ·intro w'; go_simp; with_reducible rfl
    rotate_left
    ·simp only [Act.put, List.setIfInBounds_toArray, List.set_cons_zero, List.set_cons_succ, i64_w, i32_w]; rfl
    refine done_ (done_of HT_.out (by kernel_rfl)) ?_
    try go_wp2
    go_meet
    case rel => exact ⟨_, (true), zx, H', ⟨zo⟩, ⟨zr HO756⟩, ⟨zk BK762⟩, ⟨zk BK768⟩, ⟨zk BK774⟩, ⟨zk BK785⟩, ⟨zk BK786⟩, ⟨zk BK787⟩, ⟨zz2⟩⟩
   ·rw [if_neg c44] at H
    have c44b0 : (t788 != t789) = false := by simpa using c44
    (try (have c44b1 : decide (t788 = t789) = true := by simpa using c44))
    (try (have c44b2 : (t788 == t789) = true := by simpa using c44))
    clear c44
    (first | rw [c44b0] | (simp only [i64_w, i32_w]; rw [c44b0]) | skip)
    replace H := zI H
    obtain ⟨t790, A49, H⟩ := H
    by_cases c50 : t790 = true
    ·subst c50
     rw [if_pos rfl] at H
     replace H := zI H
     obtain ⟨t791, A51, H⟩ := H
     have H' := zA H
     clear H
     try go_wp2
     have n0_ : Aside0 (Kd.R (Kd.int .u8) 5 ((((((((((w26.setCell ⟨gb785, 0, none⟩ (.int .i64 t775)).setCell ⟨gb785, 1, none⟩ (.int .i64 t776)).setCell ⟨gb785, 2, none⟩ (.bool t777)).setCell ⟨gb785, 3, none⟩ (.bool t778)).setCell ⟨gb786, 0, none⟩ (.int .i64 t779)).setCell ⟨gb786, 1, none⟩ (.int .i64 t780)).setCell ⟨gb786, 2, none⟩ (.string t781)).setCell ⟨gb787, 0, none⟩ (.int .i64 t782)).setCell ⟨gb787, 1, none⟩ (.int .i64 t783)).setCell ⟨gb787, 2, none⟩ (.string t784)) w.heap.size (fun _ => True) (.slice Ao12 t754.length co12) t754) := ⟨by (with_reducible repeat (first | apply Kd.R_alloc | apply Kd.R_drewN | apply Kd.R_drew)); exact Kd.R_mono (Kd.R_far (p := ⟨gb787, 2, none⟩) (Kd.R_far (p := ⟨gb787, 1, none⟩) (Kd.R_far (p := ⟨gb787, 0, none⟩) (Kd.R_far (p := ⟨gb786, 2, none⟩) (Kd.R_far (p := ⟨gb786, 1, none⟩) (Kd.R_far (p := ⟨gb786, 0, none⟩) (Kd.R_far (p := ⟨gb785, 3, none⟩) (Kd.R_far (p := ⟨gb785, 2, none⟩) (Kd.R_far (p := ⟨gb785, 1, none⟩) (Kd.R_far (p := ⟨gb785, 0, none⟩) (Kd.R_types (Kd.R_types (Kd.R_types HO756.out BK785.out (by decide)) BK786.out (by decide)) BK787.out (by decide)) (fun _ hk => hk.1.1.2) (.int .i64 t775)) (fun _ hk => hk.1.1.2) (.int .i64 t776)) (fun _ hk => hk.1.1.2) (.bool t777)) (fun _ hk => hk.1.1.2) (.bool t778)) (fun _ hk => hk.1.2) (.int .i64 t779)) (fun _ hk => hk.1.2) (.int .i64 t780)) (fun _ hk => hk.1.2) (.string t781)) (fun _ hk => hk.2) (.int .i64 t782)) (fun _ hk => hk.2) (.int .i64 t783)) (fun _ hk => hk.2) (.string t784)) (fun _ hk => trivial)⟩
     have n1_ : Aside0 (((((((((((w26.setCell ⟨gb785, 0, none⟩ (.int .i64 t775)).setCell ⟨gb785, 1, none⟩ (.int .i64 t776)).setCell ⟨gb785, 2, none⟩ (.bool t777)).setCell ⟨gb785, 3, none⟩ (.bool t778)).setCell ⟨gb786, 0, none⟩ (.int .i64 t779)).setCell ⟨gb786, 1, none⟩ (.int .i64 t780)).setCell ⟨gb786, 2, none⟩ (.string t781)).setCell ⟨gb787, 0, none⟩ (.int .i64 t782)).setCell ⟨gb787, 1, none⟩ (.int .i64 t783)).setCell ⟨gb787, 2, none⟩ (.string t784)).heap[gb762]? = some (.cells #[.int .i64 t757, .int .i64 t758, .bool t759, .bool t760] 30 (0, 0))) := ⟨zz7⟩
     have n2_ : Aside0 (((((((((((w26.setCell ⟨gb785, 0, none⟩ (.int .i64 t775)).setCell ⟨gb785, 1, none⟩ (.int .i64 t776)).setCell ⟨gb785, 2, none⟩ (.bool t777)).setCell ⟨gb785, 3, none⟩ (.bool t778)).setCell ⟨gb786, 0, none⟩ (.int .i64 t779)).setCell ⟨gb786, 1, none⟩ (.int .i64 t780)).setCell ⟨gb786, 2, none⟩ (.string t781)).setCell ⟨gb787, 0, none⟩ (.int .i64 t782)).setCell ⟨gb787, 1, none⟩ (.int .i64 t783)).setCell ⟨gb787, 2, none⟩ (.string t784)).heap[gb768]? = some (.cells #[.int .i64 t763, .int .i64 t764, .string t765] 32 (0, 0))) := ⟨zz8⟩
     have n3_ : Aside0 (((((((((((w26.setCell ⟨gb785, 0, none⟩ (.int .i64 t775)).setCell ⟨gb785, 1, none⟩ (.int .i64 t776)).setCell ⟨gb785, 2, none⟩ (.bool t777)).setCell ⟨gb785, 3, none⟩ (.bool t778)).setCell ⟨gb786, 0, none⟩ (.int .i64 t779)).setCell ⟨gb786, 1, none⟩ (.int .i64 t780)).setCell ⟨gb786, 2, none⟩ (.string t781)).setCell ⟨gb787, 0, none⟩ (.int .i64 t782)).setCell ⟨gb787, 1, none⟩ (.int .i64 t783)).setCell ⟨gb787, 2, none⟩ (.string t784)).heap[gb774]? = some (.cells #[.int .i64 t769, .int .i64 t770, .string t771] 32 (0, 0))) := ⟨zz9⟩
     have n4_ : Aside0 (((((((((((w26.setCell ⟨gb785, 0, none⟩ (.int .i64 t775)).setCell ⟨gb785, 1, none⟩ (.int .i64 t776)).setCell ⟨gb785, 2, none⟩ (.bool t777)).setCell ⟨gb785, 3, none⟩ (.bool t778)).setCell ⟨gb786, 0, none⟩ (.int .i64 t779)).setCell ⟨gb786, 1, none⟩ (.int .i64 t780)).setCell ⟨gb786, 2, none⟩ (.string t781)).setCell ⟨gb787, 0, none⟩ (.int .i64 t782)).setCell ⟨gb787, 1, none⟩ (.int .i64 t783)).setCell ⟨gb787, 2, none⟩ (.string t784)).heap[gb785]? = some (.cells #[.int .i64 t775, .int .i64 t776, .bool t777, .bool t778] 30 (0, 0))) := ⟨zz3⟩
     have n5_ : Aside0 (((((((((((w26.setCell ⟨gb785, 0, none⟩ (.int .i64 t775)).setCell ⟨gb785, 1, none⟩ (.int .i64 t776)).setCell ⟨gb785, 2, none⟩ (.bool t777)).setCell ⟨gb785, 3, none⟩ (.bool t778)).setCell ⟨gb786, 0, none⟩ (.int .i64 t779)).setCell ⟨gb786, 1, none⟩ (.int .i64 t780)).setCell ⟨gb786, 2, none⟩ (.string t781)).setCell ⟨gb787, 0, none⟩ (.int .i64 t782)).setCell ⟨gb787, 1, none⟩ (.int .i64 t783)).setCell ⟨gb787, 2, none⟩ (.string t784)).heap[gb786]? = some (.cells #[.int .i64 t779, .int .i64 t780, .string t781] 32 (0, 0))) := ⟨zz4⟩
     have n6_ : Aside0 (((((((((((w26.setCell ⟨gb785, 0, none⟩ (.int .i64 t775)).setCell ⟨gb785, 1, none⟩ (.int .i64 t776)).setCell ⟨gb785, 2, none⟩ (.bool t777)).setCell ⟨gb785, 3, none⟩ (.bool t778)).setCell ⟨gb786, 0, none⟩ (.int .i64 t779)).setCell ⟨gb786, 1, none⟩ (.int .i64 t780)).setCell ⟨gb786, 2, none⟩ (.string t781)).setCell ⟨gb787, 0, none⟩ (.int .i64 t782)).setCell ⟨gb787, 1, none⟩ (.int .i64 t783)).setCell ⟨gb787, 2, none⟩ (.string t784)).heap[gb787]? = some (.cells #[.int .i64 t782, .int .i64 t783, .string t784] 32 (0, 0))) := ⟨zz5⟩
     have n7_ : Aside0 (Below w.heap.size w ((((((((((w26.setCell ⟨gb785, 0, none⟩ (.int .i64 t775)).setCell ⟨gb785, 1, none⟩ (.int .i64 t776)).setCell ⟨gb785, 2, none⟩ (.bool t777)).setCell ⟨gb785, 3, none⟩ (.bool t778)).setCell ⟨gb786, 0, none⟩ (.int .i64 t779)).setCell ⟨gb786, 1, none⟩ (.int .i64 t780)).setCell ⟨gb786, 2, none⟩ (.string t781)).setCell ⟨gb787, 0, none⟩ (.int .i64 t782)).setCell ⟨gb787, 1, none⟩ (.int .i64 t783)).setCell ⟨gb787, 2, none⟩ (.string t784))) := ⟨zz2⟩
     (try clear HO756)
     (try clear BK762)
     (try clear BK768)
     (try clear BK774)
     (try clear BK785)
     (try clear BK786)
     (try clear BK787)
     (try clear HB)
     generalize ((((((((((w26.setCell ⟨gb785, 0, none⟩ (.int .i64 t775)).setCell ⟨gb785, 1, none⟩ (.int .i64 t776)).setCell ⟨gb785, 2, none⟩ (.bool t777)).setCell ⟨gb785, 3, none⟩ (.bool t778)).setCell ⟨gb786, 0, none⟩ (.int .i64 t779)).setCell ⟨gb786, 1, none⟩ (.int .i64 t780)).setCell ⟨gb786, 2, none⟩ (.string t781)).setCell ⟨gb787, 0, none⟩ (.int .i64 t782)).setCell ⟨gb787, 1, none⟩ (.int .i64 t783)).setCell ⟨gb787, 2, none⟩ (.string t784)) = w52 at n0_ n1_ n2_ n3_ n4_ n5_ n6_ n7_ ⊢
     have HO756 := n0_; have BK762 := n1_; have BK768 := n2_; have BK774 := n3_; have BK785 := n4_; have BK786 := n5_; have BK787 := n6_; have HB := n7_
     clear n0_ n1_ n2_ n3_ n4_ n5_ n6_ n7_
     have n0_ := zA (Kd.R_drew HO756.out)
     have n1_ := zA (blk_drew BK762.out)
     have n2_ := zA (blk_drew BK768.out)
     have n3_ := zA (blk_drew BK774.out)
     have n4_ := zA (blk_drew BK785.out)
     have n5_ := zA (blk_drew BK786.out)
     have n6_ := zA (blk_drew BK787.out)
     have n7_ := zA (below_drew1 HB.out)
     clear HO756 BK762 BK768 BK774 BK785 BK786 BK787 HB
     have HO756 := n0_; have BK762 := n1_; have BK768 := n2_; have BK774 := n3_; have BK785 := n4_; have BK786 := n5_; have BK787 := n6_; have HB := n7_
     clear n0_ n1_ n2_ n3_ n4_ n5_ n6_ n7_
     refine start_ (n := 21) (S := fun w' => w'.cell? ⟨gb785, 0, none⟩ = some (.int .i64 t775) ∧ w'.cell? ⟨gb785, 1, none⟩ = some (.int .i64 t776) ∧ w'.cell? ⟨gb785, 2, none⟩ = some (.bool t777) ∧ w'.cell? ⟨gb785, 3, none⟩ = some (.bool t778) ∧ w'.cell? ⟨gb786, 0, none⟩ = some (.int .i64 t779) ∧ w'.cell? ⟨gb786, 1, none⟩ = some (.int .i64 t780) ∧ w'.cell? ⟨gb786, 2, none⟩ = some (.string t781) ∧ w'.cell? ⟨gb787, 0, none⟩ = some (.int .i64 t782) ∧ w'.cell? ⟨gb787, 1, none⟩ = some (.int .i64 t783) ∧ w'.cell? ⟨gb787, 2, none⟩ = some (.string t784)) (ds := []) #[false, false, false, false, false, false, false, false, false, false, false, false, false, false, false, false, false, false, false, false, false] (by kernel_rfl) rfl rfl ⟨(blk_cell BK785.out 0).trans rfl, (blk_cell BK785.out 1).trans rfl, (blk_cell BK785.out 2).trans rfl, (blk_cell BK785.out 3).trans rfl, (blk_cell BK786.out 0).trans rfl, (blk_cell BK786.out 1).trans rfl, (blk_cell BK786.out 2).trans rfl, (blk_cell BK787.out 0).trans rfl, (blk_cell BK787.out 1).trans rfl, (blk_cell BK787.out 2).trans rfl⟩ (fun hHeld => ?_); refine with_tabW laws_FnPartsRead.tab7 laws_FnPartsRead.bits7 (fun HT_ HW_ => ?_)
     generalize w52.drew = w53 at HO756 BK762 BK768 BK774 BK785 BK786 BK787 HB hHeld ⊢
     refine take_ (i := 0) (N := some 45) (v := ?_) (a' := ?_) #[true, false, false, false, false, false, false, false, false, false, false, false, false, false, false, false, false, false, false, false, false] rfl rfl (take_ofW HT_.out HW_.out (by kernel_rfl)) (fun _ _ _ h => h) (Or.inl ⟨by rfl, ?_⟩) hHeld ?_ ?_; rotate_left
     ·rintro w' ⟨s0, s1, s2, s3, s4, s5, s6, s7, s8, s9⟩
      go_simp
      with_reducible rfl
     rotate_left
     ·simp only [Act.put, List.setIfInBounds_toArray, List.set_cons_zero, List.set_cons_succ, i64_w, i32_w]; rfl
     refine take_ (i := 1) (N := some 46) (v := ?_) (a' := ?_) #[true, true, false, false, false, false, false, false, false, false, false, false, false, false, false, false, false, false, false, false, false] rfl rfl (take_ofW HT_.out HW_.out (by kernel_rfl)) (fun _ _ _ h => h) (Or.inl ⟨by rfl, ?_⟩) hHeld ?_ ?_; rotate_left
     ·rintro w' ⟨s0, s1, s2, s3, s4, s5, s6, s7, s8, s9⟩
      go_simp
      with_reducible rfl
     rotate_left
     ·simp only [Act.put, List.setIfInBounds_toArray, List.set_cons_zero, List.set_cons_succ, i64_w, i32_w]; rfl
     refine take_ (i := 2) (N := some 47) (v := ?_) (a' := ?_) #[true, true, true, false, false, false, false, false, false, false, false, false, false, false, false, false, false, false, false, false, false] rfl rfl (take_ofW HT_.out HW_.out (by kernel_rfl)) (fun _ _ _ h => h) (Or.inl ⟨by rfl, ?_⟩) hHeld ?_ ?_; rotate_left
     ·rintro w' ⟨s0, s1, s2, s3, s4, s5, s6, s7, s8, s9⟩
      go_simp
      with_reducible rfl
     rotate_left
     ·simp only [Act.put, List.setIfInBounds_toArray, List.set_cons_zero, List.set_cons_succ, i64_w, i32_w]; rfl
     refine take_ (i := 4) (N := some 49) (v := ?_) (a' := ?_) #[true, true, true, false, true, false, false, false, false, false, false, false, false, false, false, false, false, false, false, false, false] rfl rfl (take_ofW HT_.out HW_.out (by kernel_rfl)) (fun _ _ _ h => h) (Or.inl ⟨by rfl, ?_⟩) hHeld ?_ ?_; rotate_left
     ·rintro w' ⟨s0, s1, s2, s3, s4, s5, s6, s7, s8, s9⟩
      go_simp
      with_reducible rfl
     rotate_left
     ·simp only [Act.put, List.setIfInBounds_toArray, List.set_cons_zero, List.set_cons_succ, i64_w, i32_w]; rfl
     refine take_ (i := 5) (N := some 50) (v := ?_) (a' := ?_) #[true, true, true, false, true, true, false, false, false, false, false, false, false, false, false, false, false, false, false, false, false] rfl rfl (take_ofW HT_.out HW_.out (by kernel_rfl)) (fun _ _ _ h => h) (Or.inl ⟨by rfl, ?_⟩) hHeld ?_ ?_; rotate_left
     ·rintro w' ⟨s0, s1, s2, s3, s4, s5, s6, s7, s8, s9⟩
      go_simp
      with_reducible rfl
     rotate_left
     ·simp only [Act.put, List.setIfInBounds_toArray, List.set_cons_zero, List.set_cons_succ, i64_w, i32_w]; rfl
     refine take_ (i := 6) (N := some 51) (v := ?_) (a' := ?_) #[true, true, true, false, true, true, true, false, false, false, false, false, false, false, false, false, false, false, false, false, false] rfl rfl (take_ofW HT_.out HW_.out (by kernel_rfl)) (fun _ _ _ h => h) (Or.inl ⟨by rfl, ?_⟩) hHeld ?_ ?_; rotate_left
     ·rintro w' ⟨s0, s1, s2, s3, s4, s5, s6, s7, s8, s9⟩
      go_simp
      with_reducible rfl
     rotate_left
     ·simp only [Act.put, List.setIfInBounds_toArray, List.set_cons_zero, List.set_cons_succ, i64_w, i32_w]; rfl
     refine one_ (i := 3) (N := some 48) #[true, true, true, true, true, true, true, false, false, false, false, false, false, false, false, false, false, false, false, false, false] rfl rfl (one_of HT_.out (by kernel_rfl)) (by decide) (fun K hK => ?_)
     refine goes_ Try.func34 (by kernel_rfl) rfl #[.agg #[.int .i64 t775, .int .i64 t776, .bool t777, .bool t778], .agg #[.int .i64 t779, .int .i64 t780, .string t781], .agg #[.int .i64 t782, .int .i64 t783, .string t784]] (by rfl) rfl rfl zz24 ?_
     with_reducible refine (impl_LessPart.calls t775 t776 t777 t778 t779 t780 t781 t782 t783 t784 t788 _ A42.out).mono ?_
     rintro e w54 ⟨rfl, hb⟩
     refine ⟨_, rfl, ?_⟩
     have n0_ := zR HO756 hb
     have n1_ := zB BK762 hb
     have n2_ := zB BK768 hb
     have n3_ := zB BK774 hb
     have n4_ := zB BK785 hb
     have n5_ := zB BK786 hb
     have n6_ := zB BK787 hb
     have n7_ := zS hb zz2
     clear HO756 BK762 BK768 BK774 BK785 BK786 BK787 HB
     have HO756 := n0_; have BK762 := n1_; have BK768 := n2_; have BK774 := n3_; have BK785 := n4_; have BK786 := n5_; have BK787 := n6_; have HB := n7_
     clear n0_ n1_ n2_ n3_ n4_ n5_ n6_ n7_
     (try clear hb)
     (try clear hb2)
     (try clear hk)
     (try clear hi)
     refine hK.out _ _ ⟨(blk_cell BK785.out 0).trans rfl, (blk_cell BK785.out 1).trans rfl, (blk_cell BK785.out 2).trans rfl, (blk_cell BK785.out 3).trans rfl, (blk_cell BK786.out 0).trans rfl, (blk_cell BK786.out 1).trans rfl, (blk_cell BK786.out 2).trans rfl, (blk_cell BK787.out 0).trans rfl, (blk_cell BK787.out 1).trans rfl, (blk_cell BK787.out 2).trans rfl⟩ (fun hHeld => ?_)
     clear hK K
     refine norm_ (a' := ?_) ?_ ?_; rotate_left
     ·show Act.put _ (some 48) _ = _
      simp only [Act.put, List.setIfInBounds_toArray, List.set_cons_zero, List.set_cons_succ, i64_w, i32_w]
      rfl
     refine one_ (i := 7) (N := some 52) #[true, true, true, true, true, true, true, true, false, false, false, false, false, false, false, false, false, false, false, false, false] rfl rfl (one_of HT_.out (by kernel_rfl)) (by decide) (fun K hK => ?_)
     refine goes_ Try.func35 (by kernel_rfl) rfl #[.agg #[.int .i64 t775, .int .i64 t776, .bool t777, .bool t778], .agg #[.int .i64 t779, .int .i64 t780, .string t781], .agg #[.int .i64 t782, .int .i64 t783, .string t784]] (by rfl) rfl rfl zz24 ?_
     with_reducible refine (spec_LessPart.calls t775 t776 t777 t778 t779 t780 t781 t782 t783 t784 t789 _ A43.out).mono ?_
     rintro e w55 ⟨rfl, hb⟩
     refine ⟨_, rfl, ?_⟩
     have n0_ := zR HO756 hb
     have n1_ := zB BK762 hb
     have n2_ := zB BK768 hb
     have n3_ := zB BK774 hb
     have n4_ := zB BK785 hb
     have n5_ := zB BK786 hb
     have n6_ := zB BK787 hb
     have n7_ := zS hb zz2
     clear HO756 BK762 BK768 BK774 BK785 BK786 BK787 HB
     have HO756 := n0_; have BK762 := n1_; have BK768 := n2_; have BK774 := n3_; have BK785 := n4_; have BK786 := n5_; have BK787 := n6_; have HB := n7_
     clear n0_ n1_ n2_ n3_ n4_ n5_ n6_ n7_
     (try clear hb)
     (try clear hb2)
     (try clear hk)
     (try clear hi)
     refine hK.out _ _ ⟨(blk_cell BK785.out 0).trans rfl, (blk_cell BK785.out 1).trans rfl, (blk_cell BK785.out 2).trans rfl, (blk_cell BK785.out 3).trans rfl, (blk_cell BK786.out 0).trans rfl, (blk_cell BK786.out 1).trans rfl, (blk_cell BK786.out 2).trans rfl, (blk_cell BK787.out 0).trans rfl, (blk_cell BK787.out 1).trans rfl, (blk_cell BK787.out 2).trans rfl⟩ (fun hHeld => ?_)
     clear hK K
     refine norm_ (a' := ?_) ?_ ?_; rotate_left
     ·show Act.put _ (some 52) _ = _
      simp only [Act.put, List.setIfInBounds_toArray, List.set_cons_zero, List.set_cons_succ, i64_w, i32_w]
      rfl
     refine pure_ (i := 8) (N := some 53) (v := ?_) (a' := ?_) #[true, true, true, true, true, true, true, true, true, false, false, false, false, false, false, false, false, false, false, false, false] rfl rfl (any_of HT_.out (by kernel_rfl)) (fun _ _ _ h => h) (Or.inl ⟨by rfl, ?_⟩) ?_ ?_; rotate_left
     ·intro w'; go_simp; with_reducible rfl
     rotate_left
     ·simp only [Act.put, List.setIfInBounds_toArray, List.set_cons_zero, List.set_cons_succ, i64_w, i32_w]; rfl
     refine pure_ (i := 9) (N := some 54) (v := ?_) (a' := ?_) #[true, true, true, true, true, true, true, true, true, true, false, false, false, false, false, false, false, false, false, false, false] rfl rfl (any_of HT_.out (by kernel_rfl)) (fun _ _ _ h => h) (Or.inl ⟨by rfl, ?_⟩) ?_ ?_; rotate_left
     ·intro w'; go_simp; with_reducible rfl
     rotate_left
     ·simp only [Act.put, List.setIfInBounds_toArray, List.set_cons_zero, List.set_cons_succ, i64_w, i32_w]; rfl
     refine take_ (i := 10) (N := some 55) (v := ?_) (a' := ?_) #[true, true, true, true, true, true, true, true, true, true, true, false, false, false, false, false, false, false, false, false, false] rfl rfl (take_ofW HT_.out HW_.out (by kernel_rfl)) (fun _ _ _ h => h) (Or.inl ⟨by rfl, ?_⟩) hHeld ?_ ?_; rotate_left
     ·rintro w' ⟨s0, s1, s2, s3, s4, s5, s6, s7, s8, s9⟩
      go_simp
      with_reducible rfl
     rotate_left
     ·simp only [Act.put, List.setIfInBounds_toArray, List.set_cons_zero, List.set_cons_succ, i64_w, i32_w]; rfl
     refine take_ (i := 11) (N := some 56) (v := ?_) (a' := ?_) #[true, true, true, true, true, true, true, true, true, true, true, true, false, false, false, false, false, false, false, false, false] rfl rfl (take_ofW HT_.out HW_.out (by kernel_rfl)) (fun _ _ _ h => h) (Or.inl ⟨by rfl, ?_⟩) hHeld ?_ ?_; rotate_left
     ·rintro w' ⟨s0, s1, s2, s3, s4, s5, s6, s7, s8, s9⟩
      go_simp
      with_reducible rfl
     rotate_left
     ·simp only [Act.put, List.setIfInBounds_toArray, List.set_cons_zero, List.set_cons_succ, i64_w, i32_w]; rfl
     refine take_ (i := 12) (N := some 57) (v := ?_) (a' := ?_) #[true, true, true, true, true, true, true, true, true, true, true, true, true, false, false, false, false, false, false, false, false] rfl rfl (take_ofW HT_.out HW_.out (by kernel_rfl)) (fun _ _ _ h => h) (Or.inl ⟨by rfl, ?_⟩) hHeld ?_ ?_; rotate_left
     ·rintro w' ⟨s0, s1, s2, s3, s4, s5, s6, s7, s8, s9⟩
      go_simp
      with_reducible rfl
     rotate_left
     ·simp only [Act.put, List.setIfInBounds_toArray, List.set_cons_zero, List.set_cons_succ, i64_w, i32_w]; rfl
     refine one_ (i := 13) (N := some 58) #[true, true, true, true, true, true, true, true, true, true, true, true, true, true, false, false, false, false, false, false, false] rfl rfl (one_of HT_.out (by kernel_rfl)) (by decide) (fun K hK => ?_)
     refine goes_ Try.func34 (by kernel_rfl) rfl #[.agg #[.int .i64 t775, .int .i64 t776, .bool t777, .bool t778], .agg #[.int .i64 t779, .int .i64 t780, .string t781], .agg #[.int .i64 t782, .int .i64 t783, .string t784]] (by rfl) rfl rfl zz24 ?_
     with_reducible refine (impl_LessPart.calls t775 t776 t777 t778 t779 t780 t781 t782 t783 t784 true _ A49.out).mono ?_
     rintro e w56 ⟨rfl, hb⟩
     refine ⟨_, rfl, ?_⟩
     have n0_ := zR HO756 hb
     have n1_ := zB BK762 hb
     have n2_ := zB BK768 hb
     have n3_ := zB BK774 hb
     have n4_ := zB BK785 hb
     have n5_ := zB BK786 hb
     have n6_ := zB BK787 hb
     have n7_ := zS hb zz2
     clear HO756 BK762 BK768 BK774 BK785 BK786 BK787 HB
     have HO756 := n0_; have BK762 := n1_; have BK768 := n2_; have BK774 := n3_; have BK785 := n4_; have BK786 := n5_; have BK787 := n6_; have HB := n7_
     clear n0_ n1_ n2_ n3_ n4_ n5_ n6_ n7_
     (try clear hb)
     (try clear hb2)
     (try clear hk)
     (try clear hi)
     refine hK.out _ _ ⟨(blk_cell BK785.out 0).trans rfl, (blk_cell BK785.out 1).trans rfl, (blk_cell BK785.out 2).trans rfl, (blk_cell BK785.out 3).trans rfl, (blk_cell BK786.out 0).trans rfl, (blk_cell BK786.out 1).trans rfl, (blk_cell BK786.out 2).trans rfl, (blk_cell BK787.out 0).trans rfl, (blk_cell BK787.out 1).trans rfl, (blk_cell BK787.out 2).trans rfl⟩ (fun hHeld => ?_)
     clear hK K
     refine norm_ (a' := ?_) ?_ ?_; rotate_left
     ·show Act.put _ (some 58) _ = _
      simp only [Act.put, List.setIfInBounds_toArray, List.set_cons_zero, List.set_cons_succ, i64_w, i32_w]
      rfl
     refine pure_ (i := 14) (N := some 59) (v := ?_) (a' := ?_) #[true, true, true, true, true, true, true, true, true, true, true, true, true, true, true, false, false, false, false, false, false] rfl rfl (any_of HT_.out (by kernel_rfl)) (fun _ _ _ h => h) (Or.inl ⟨by rfl, ?_⟩) ?_ ?_; rotate_left
     ·intro w'; go_simp; with_reducible rfl
     rotate_left
     ·simp only [Act.put, List.setIfInBounds_toArray, List.set_cons_zero, List.set_cons_succ, i64_w, i32_w]; rfl
     refine take_ (i := 15) (N := some 60) (v := ?_) (a' := ?_) #[true, true, true, true, true, true, true, true, true, true, true, true, true, true, true, true, false, false, false, false, false] rfl rfl (take_ofW HT_.out HW_.out (by kernel_rfl)) (fun _ _ _ h => h) (Or.inl ⟨by rfl, ?_⟩) hHeld ?_ ?_; rotate_left
     ·rintro w' ⟨s0, s1, s2, s3, s4, s5, s6, s7, s8, s9⟩
      go_simp
      with_reducible rfl
     rotate_left
     ·simp only [Act.put, List.setIfInBounds_toArray, List.set_cons_zero, List.set_cons_succ, i64_w, i32_w]; rfl
     refine take_ (i := 16) (N := some 61) (v := ?_) (a' := ?_) #[true, true, true, true, true, true, true, true, true, true, true, true, true, true, true, true, true, false, false, false, false] rfl rfl (take_ofW HT_.out HW_.out (by kernel_rfl)) (fun _ _ _ h => h) (Or.inl ⟨by rfl, ?_⟩) hHeld ?_ ?_; rotate_left
     ·rintro w' ⟨s0, s1, s2, s3, s4, s5, s6, s7, s8, s9⟩
      go_simp
      with_reducible rfl
     rotate_left
     ·simp only [Act.put, List.setIfInBounds_toArray, List.set_cons_zero, List.set_cons_succ, i64_w, i32_w]; rfl
     refine take_ (i := 17) (N := some 62) (v := ?_) (a' := ?_) #[true, true, true, true, true, true, true, true, true, true, true, true, true, true, true, true, true, true, false, false, false] rfl rfl (take_ofW HT_.out HW_.out (by kernel_rfl)) (fun _ _ _ h => h) (Or.inl ⟨by rfl, ?_⟩) hHeld ?_ ?_; rotate_left
     ·rintro w' ⟨s0, s1, s2, s3, s4, s5, s6, s7, s8, s9⟩
      go_simp
      with_reducible rfl
     rotate_left
     ·simp only [Act.put, List.setIfInBounds_toArray, List.set_cons_zero, List.set_cons_succ, i64_w, i32_w]; rfl
     refine one_ (i := 18) (N := some 63) #[true, true, true, true, true, true, true, true, true, true, true, true, true, true, true, true, true, true, true, false, false] rfl rfl (one_of HT_.out (by kernel_rfl)) (by decide) (fun K hK => ?_)
     refine goes_ Try.func34 (by kernel_rfl) rfl #[.agg #[.int .i64 t775, .int .i64 t776, .bool t777, .bool t778], .agg #[.int .i64 t782, .int .i64 t783, .string t784], .agg #[.int .i64 t779, .int .i64 t780, .string t781]] (by rfl) rfl rfl zz24 ?_
     with_reducible refine (impl_LessPart.calls t775 t776 t777 t778 t782 t783 t784 t779 t780 t781 t791 _ A51.out).mono ?_
     rintro e w57 ⟨rfl, hb⟩
     refine ⟨_, rfl, ?_⟩
     have n0_ := zR HO756 hb
     have n1_ := zB BK762 hb
     have n2_ := zB BK768 hb
     have n3_ := zB BK774 hb
     have n4_ := zB BK785 hb
     have n5_ := zB BK786 hb
     have n6_ := zB BK787 hb
     have n7_ := zS hb zz2
     clear HO756 BK762 BK768 BK774 BK785 BK786 BK787 HB
     have HO756 := n0_; have BK762 := n1_; have BK768 := n2_; have BK774 := n3_; have BK785 := n4_; have BK786 := n5_; have BK787 := n6_; have HB := n7_
     clear n0_ n1_ n2_ n3_ n4_ n5_ n6_ n7_
     (try clear hb)
     (try clear hb2)
     (try clear hk)
     (try clear hi)
     refine hK.out _ _ ⟨(blk_cell BK785.out 0).trans rfl, (blk_cell BK785.out 1).trans rfl, (blk_cell BK785.out 2).trans rfl, (blk_cell BK785.out 3).trans rfl, (blk_cell BK786.out 0).trans rfl, (blk_cell BK786.out 1).trans rfl, (blk_cell BK786.out 2).trans rfl, (blk_cell BK787.out 0).trans rfl, (blk_cell BK787.out 1).trans rfl, (blk_cell BK787.out 2).trans rfl⟩ (fun hHeld => ?_)
     clear hK K
     refine norm_ (a' := ?_) ?_ ?_; rotate_left
     ·show Act.put _ (some 63) _ = _
      simp only [Act.put, List.setIfInBounds_toArray, List.set_cons_zero, List.set_cons_succ, i64_w, i32_w]
      rfl
     refine pure_ (i := 19) (N := some 64) (v := ?_) (a' := ?_) #[true, true, true, true, true, true, true, true, true, true, true, true, true, true, true, true, true, true, true, true, false] rfl rfl (any_of HT_.out (by kernel_rfl)) (fun _ _ _ h => h) (Or.inl ⟨by rfl, ?_⟩) ?_ ?_; rotate_left
     ·intro w'; go_simp; with_reducible rfl
     rotate_left
     ·simp only [Act.put, List.setIfInBounds_toArray, List.set_cons_zero, List.set_cons_succ, i64_w, i32_w]; rfl
     refine pure_ (i := 20) (N := some 65) (v := ?_) (a' := ?_) #[true, true, true, true, true, true, true, true, true, true, true, true, true, true, true, true, true, true, true, true, true] rfl rfl (any_of HT_.out (by kernel_rfl)) (fun _ _ _ h => h) (Or.inl ⟨by rfl, ?_⟩) ?_ ?_; rotate_left
     ·intro w'; go_simp; with_reducible rfl
     rotate_left
     ·simp only [Act.put, List.setIfInBounds_toArray, List.set_cons_zero, List.set_cons_succ, i64_w, i32_w]; rfl
     refine done_ (done_of HT_.out (by kernel_rfl)) ?_
     try go_wp2
     go_meet
     case rel => exact ⟨_, (t791), zx, H', ⟨zo⟩, ⟨zr HO756⟩, ⟨zk BK762⟩, ⟨zk BK768⟩, ⟨zk BK774⟩, ⟨zk BK785⟩, ⟨zk BK786⟩, ⟨zk BK787⟩, ⟨zz2⟩⟩
    ·replace c50 := Bool.eq_false_iff.mpr c50
     subst c50
     rw [if_neg (Bool.false_ne_true)] at H
     have H' := zA H
     clear H
     try go_wp2
     have n0_ : Aside0 (Kd.R (Kd.int .u8) 5 ((((((((((w26.setCell ⟨gb785, 0, none⟩ (.int .i64 t775)).setCell ⟨gb785, 1, none⟩ (.int .i64 t776)).setCell ⟨gb785, 2, none⟩ (.bool t777)).setCell ⟨gb785, 3, none⟩ (.bool t778)).setCell ⟨gb786, 0, none⟩ (.int .i64 t779)).setCell ⟨gb786, 1, none⟩ (.int .i64 t780)).setCell ⟨gb786, 2, none⟩ (.string t781)).setCell ⟨gb787, 0, none⟩ (.int .i64 t782)).setCell ⟨gb787, 1, none⟩ (.int .i64 t783)).setCell ⟨gb787, 2, none⟩ (.string t784)) w.heap.size (fun _ => True) (.slice Ao12 t754.length co12) t754) := ⟨by (with_reducible repeat (first | apply Kd.R_alloc | apply Kd.R_drewN | apply Kd.R_drew)); exact Kd.R_mono (Kd.R_far (p := ⟨gb787, 2, none⟩) (Kd.R_far (p := ⟨gb787, 1, none⟩) (Kd.R_far (p := ⟨gb787, 0, none⟩) (Kd.R_far (p := ⟨gb786, 2, none⟩) (Kd.R_far (p := ⟨gb786, 1, none⟩) (Kd.R_far (p := ⟨gb786, 0, none⟩) (Kd.R_far (p := ⟨gb785, 3, none⟩) (Kd.R_far (p := ⟨gb785, 2, none⟩) (Kd.R_far (p := ⟨gb785, 1, none⟩) (Kd.R_far (p := ⟨gb785, 0, none⟩) (Kd.R_types (Kd.R_types (Kd.R_types HO756.out BK785.out (by decide)) BK786.out (by decide)) BK787.out (by decide)) (fun _ hk => hk.1.1.2) (.int .i64 t775)) (fun _ hk => hk.1.1.2) (.int .i64 t776)) (fun _ hk => hk.1.1.2) (.bool t777)) (fun _ hk => hk.1.1.2) (.bool t778)) (fun _ hk => hk.1.2) (.int .i64 t779)) (fun _ hk => hk.1.2) (.int .i64 t780)) (fun _ hk => hk.1.2) (.string t781)) (fun _ hk => hk.2) (.int .i64 t782)) (fun _ hk => hk.2) (.int .i64 t783)) (fun _ hk => hk.2) (.string t784)) (fun _ hk => trivial)⟩
     have n1_ : Aside0 (((((((((((w26.setCell ⟨gb785, 0, none⟩ (.int .i64 t775)).setCell ⟨gb785, 1, none⟩ (.int .i64 t776)).setCell ⟨gb785, 2, none⟩ (.bool t777)).setCell ⟨gb785, 3, none⟩ (.bool t778)).setCell ⟨gb786, 0, none⟩ (.int .i64 t779)).setCell ⟨gb786, 1, none⟩ (.int .i64 t780)).setCell ⟨gb786, 2, none⟩ (.string t781)).setCell ⟨gb787, 0, none⟩ (.int .i64 t782)).setCell ⟨gb787, 1, none⟩ (.int .i64 t783)).setCell ⟨gb787, 2, none⟩ (.string t784)).heap[gb762]? = some (.cells #[.int .i64 t757, .int .i64 t758, .bool t759, .bool t760] 30 (0, 0))) := ⟨zz7⟩
     have n2_ : Aside0 (((((((((((w26.setCell ⟨gb785, 0, none⟩ (.int .i64 t775)).setCell ⟨gb785, 1, none⟩ (.int .i64 t776)).setCell ⟨gb785, 2, none⟩ (.bool t777)).setCell ⟨gb785, 3, none⟩ (.bool t778)).setCell ⟨gb786, 0, none⟩ (.int .i64 t779)).setCell ⟨gb786, 1, none⟩ (.int .i64 t780)).setCell ⟨gb786, 2, none⟩ (.string t781)).setCell ⟨gb787, 0, none⟩ (.int .i64 t782)).setCell ⟨gb787, 1, none⟩ (.int .i64 t783)).setCell ⟨gb787, 2, none⟩ (.string t784)).heap[gb768]? = some (.cells #[.int .i64 t763, .int .i64 t764, .string t765] 32 (0, 0))) := ⟨zz8⟩
     have n3_ : Aside0 (((((((((((w26.setCell ⟨gb785, 0, none⟩ (.int .i64 t775)).setCell ⟨gb785, 1, none⟩ (.int .i64 t776)).setCell ⟨gb785, 2, none⟩ (.bool t777)).setCell ⟨gb785, 3, none⟩ (.bool t778)).setCell ⟨gb786, 0, none⟩ (.int .i64 t779)).setCell ⟨gb786, 1, none⟩ (.int .i64 t780)).setCell ⟨gb786, 2, none⟩ (.string t781)).setCell ⟨gb787, 0, none⟩ (.int .i64 t782)).setCell ⟨gb787, 1, none⟩ (.int .i64 t783)).setCell ⟨gb787, 2, none⟩ (.string t784)).heap[gb774]? = some (.cells #[.int .i64 t769, .int .i64 t770, .string t771] 32 (0, 0))) := ⟨zz9⟩
     have n4_ : Aside0 (((((((((((w26.setCell ⟨gb785, 0, none⟩ (.int .i64 t775)).setCell ⟨gb785, 1, none⟩ (.int .i64 t776)).setCell ⟨gb785, 2, none⟩ (.bool t777)).setCell ⟨gb785, 3, none⟩ (.bool t778)).setCell ⟨gb786, 0, none⟩ (.int .i64 t779)).setCell ⟨gb786, 1, none⟩ (.int .i64 t780)).setCell ⟨gb786, 2, none⟩ (.string t781)).setCell ⟨gb787, 0, none⟩ (.int .i64 t782)).setCell ⟨gb787, 1, none⟩ (.int .i64 t783)).setCell ⟨gb787, 2, none⟩ (.string t784)).heap[gb785]? = some (.cells #[.int .i64 t775, .int .i64 t776, .bool t777, .bool t778] 30 (0, 0))) := ⟨zz3⟩
     have n5_ : Aside0 (((((((((((w26.setCell ⟨gb785, 0, none⟩ (.int .i64 t775)).setCell ⟨gb785, 1, none⟩ (.int .i64 t776)).setCell ⟨gb785, 2, none⟩ (.bool t777)).setCell ⟨gb785, 3, none⟩ (.bool t778)).setCell ⟨gb786, 0, none⟩ (.int .i64 t779)).setCell ⟨gb786, 1, none⟩ (.int .i64 t780)).setCell ⟨gb786, 2, none⟩ (.string t781)).setCell ⟨gb787, 0, none⟩ (.int .i64 t782)).setCell ⟨gb787, 1, none⟩ (.int .i64 t783)).setCell ⟨gb787, 2, none⟩ (.string t784)).heap[gb786]? = some (.cells #[.int .i64 t779, .int .i64 t780, .string t781] 32 (0, 0))) := ⟨zz4⟩
     have n6_ : Aside0 (((((((((((w26.setCell ⟨gb785, 0, none⟩ (.int .i64 t775)).setCell ⟨gb785, 1, none⟩ (.int .i64 t776)).setCell ⟨gb785, 2, none⟩ (.bool t777)).setCell ⟨gb785, 3, none⟩ (.bool t778)).setCell ⟨gb786, 0, none⟩ (.int .i64 t779)).setCell ⟨gb786, 1, none⟩ (.int .i64 t780)).setCell ⟨gb786, 2, none⟩ (.string t781)).setCell ⟨gb787, 0, none⟩ (.int .i64 t782)).setCell ⟨gb787, 1, none⟩ (.int .i64 t783)).setCell ⟨gb787, 2, none⟩ (.string t784)).heap[gb787]? = some (.cells #[.int .i64 t782, .int .i64 t783, .string t784] 32 (0, 0))) := ⟨zz5⟩
     have n7_ : Aside0 (Below w.heap.size w ((((((((((w26.setCell ⟨gb785, 0, none⟩ (.int .i64 t775)).setCell ⟨gb785, 1, none⟩ (.int .i64 t776)).setCell ⟨gb785, 2, none⟩ (.bool t777)).setCell ⟨gb785, 3, none⟩ (.bool t778)).setCell ⟨gb786, 0, none⟩ (.int .i64 t779)).setCell ⟨gb786, 1, none⟩ (.int .i64 t780)).setCell ⟨gb786, 2, none⟩ (.string t781)).setCell ⟨gb787, 0, none⟩ (.int .i64 t782)).setCell ⟨gb787, 1, none⟩ (.int .i64 t783)).setCell ⟨gb787, 2, none⟩ (.string t784))) := ⟨zz2⟩
     (try clear HO756)
     (try clear BK762)
     (try clear BK768)
     (try clear BK774)
     (try clear BK785)
     (try clear BK786)
     (try clear BK787)
     (try clear HB)
     generalize ((((((((((w26.setCell ⟨gb785, 0, none⟩ (.int .i64 t775)).setCell ⟨gb785, 1, none⟩ (.int .i64 t776)).setCell ⟨gb785, 2, none⟩ (.bool t777)).setCell ⟨gb785, 3, none⟩ (.bool t778)).setCell ⟨gb786, 0, none⟩ (.int .i64 t779)).setCell ⟨gb786, 1, none⟩ (.int .i64 t780)).setCell ⟨gb786, 2, none⟩ (.string t781)).setCell ⟨gb787, 0, none⟩ (.int .i64 t782)).setCell ⟨gb787, 1, none⟩ (.int .i64 t783)).setCell ⟨gb787, 2, none⟩ (.string t784)) = w58 at n0_ n1_ n2_ n3_ n4_ n5_ n6_ n7_ ⊢
     have HO756 := n0_; have BK762 := n1_; have BK768 := n2_; have BK774 := n3_; have BK785 := n4_; have BK786 := n5_; have BK787 := n6_; have HB := n7_
     clear n0_ n1_ n2_ n3_ n4_ n5_ n6_ n7_
     have n0_ := zA (Kd.R_drew HO756.out)
     have n1_ := zA (blk_drew BK762.out)
     have n2_ := zA (blk_drew BK768.out)
     have n3_ := zA (blk_drew BK774.out)
     have n4_ := zA (blk_drew BK785.out)
     have n5_ := zA (blk_drew BK786.out)
     have n6_ := zA (blk_drew BK787.out)
     have n7_ := zA (below_drew1 HB.out)
     clear HO756 BK762 BK768 BK774 BK785 BK786 BK787 HB
     have HO756 := n0_; have BK762 := n1_; have BK768 := n2_; have BK774 := n3_; have BK785 := n4_; have BK786 := n5_; have BK787 := n6_; have HB := n7_
     clear n0_ n1_ n2_ n3_ n4_ n5_ n6_ n7_
     refine start_ (n := 21) (S := fun w' => w'.cell? ⟨gb785, 0, none⟩ = some (.int .i64 t775) ∧ w'.cell? ⟨gb785, 1, none⟩ = some (.int .i64 t776) ∧ w'.cell? ⟨gb785, 2, none⟩ = some (.bool t777) ∧ w'.cell? ⟨gb785, 3, none⟩ = some (.bool t778) ∧ w'.cell? ⟨gb786, 0, none⟩ = some (.int .i64 t779) ∧ w'.cell? ⟨gb786, 1, none⟩ = some (.int .i64 t780) ∧ w'.cell? ⟨gb786, 2, none⟩ = some (.string t781) ∧ w'.cell? ⟨gb787, 0, none⟩ = some (.int .i64 t782) ∧ w'.cell? ⟨gb787, 1, none⟩ = some (.int .i64 t783) ∧ w'.cell? ⟨gb787, 2, none⟩ = some (.string t784)) (ds := []) #[false, false, false, false, false, false, false, false, false, false, false, false, false, false, false, false, false, false, false, false, false] (by kernel_rfl) rfl rfl ⟨(blk_cell BK785.out 0).trans rfl, (blk_cell BK785.out 1).trans rfl, (blk_cell BK785.out 2).trans rfl, (blk_cell BK785.out 3).trans rfl, (blk_cell BK786.out 0).trans rfl, (blk_cell BK786.out 1).trans rfl, (blk_cell BK786.out 2).trans rfl, (blk_cell BK787.out 0).trans rfl, (blk_cell BK787.out 1).trans rfl, (blk_cell BK787.out 2).trans rfl⟩ (fun hHeld => ?_); refine with_tabW laws_FnPartsRead.tab7 laws_FnPartsRead.bits7 (fun HT_ HW_ => ?_)
     generalize w58.drew = w59 at HO756 BK762 BK768 BK774 BK785 BK786 BK787 HB hHeld ⊢
     refine take_ (i := 0) (N := some 45) (v := ?_) (a' := ?_) #[true, false, false, false, false, false, false, false, false, false, false, false, false, false, false, false, false, false, false, false, false] rfl rfl (take_ofW HT_.out HW_.out (by kernel_rfl)) (fun _ _ _ h => h) (Or.inl ⟨by rfl, ?_⟩) hHeld ?_ ?_; rotate_left
     ·rintro w' ⟨s0, s1, s2, s3, s4, s5, s6, s7, s8, s9⟩
      go_simp
      with_reducible rfl
     rotate_left
     ·simp only [Act.put, List.setIfInBounds_toArray, List.set_cons_zero, List.set_cons_succ, i64_w, i32_w]; rfl
     refine take_ (i := 1) (N := some 46) (v := ?_) (a' := ?_) #[true, true, false, false, false, false, false, false, false, false, false, false, false, false, false, false, false, false, false, false, false] rfl rfl (take_ofW HT_.out HW_.out (by kernel_rfl)) (fun _ _ _ h => h) (Or.inl ⟨by rfl, ?_⟩) hHeld ?_ ?_; rotate_left
     ·rintro w' ⟨s0, s1, s2, s3, s4, s5, s6, s7, s8, s9⟩
      go_simp
      with_reducible rfl
     rotate_left
     ·simp only [Act.put, List.setIfInBounds_toArray, List.set_cons_zero, List.set_cons_succ, i64_w, i32_w]; rfl
     refine take_ (i := 2) (N := some 47) (v := ?_) (a' := ?_) #[true, true, true, false, false, false, false, false, false, false, false, false, false, false, false, false, false, false, false, false, false] rfl rfl (take_ofW HT_.out HW_.out (by kernel_rfl)) (fun _ _ _ h => h) (Or.inl ⟨by rfl, ?_⟩) hHeld ?_ ?_; rotate_left
     ·rintro w' ⟨s0, s1, s2, s3, s4, s5, s6, s7, s8, s9⟩
      go_simp
      with_reducible rfl
     rotate_left
     ·simp only [Act.put, List.setIfInBounds_toArray, List.set_cons_zero, List.set_cons_succ, i64_w, i32_w]; rfl
     refine take_ (i := 4) (N := some 49) (v := ?_) (a' := ?_) #[true, true, true, false, true, false, false, false, false, false, false, false, false, false, false, false, false, false, false, false, false] rfl rfl (take_ofW HT_.out HW_.out (by kernel_rfl)) (fun _ _ _ h => h) (Or.inl ⟨by rfl, ?_⟩) hHeld ?_ ?_; rotate_left
     ·rintro w' ⟨s0, s1, s2, s3, s4, s5, s6, s7, s8, s9⟩
      go_simp
      with_reducible rfl
     rotate_left
     ·simp only [Act.put, List.setIfInBounds_toArray, List.set_cons_zero, List.set_cons_succ, i64_w, i32_w]; rfl
     refine take_ (i := 5) (N := some 50) (v := ?_) (a' := ?_) #[true, true, true, false, true, true, false, false, false, false, false, false, false, false, false, false, false, false, false, false, false] rfl rfl (take_ofW HT_.out HW_.out (by kernel_rfl)) (fun _ _ _ h => h) (Or.inl ⟨by rfl, ?_⟩) hHeld ?_ ?_; rotate_left
     ·rintro w' ⟨s0, s1, s2, s3, s4, s5, s6, s7, s8, s9⟩
      go_simp
      with_reducible rfl
     rotate_left
     ·simp only [Act.put, List.setIfInBounds_toArray, List.set_cons_zero, List.set_cons_succ, i64_w, i32_w]; rfl
     refine take_ (i := 6) (N := some 51) (v := ?_) (a' := ?_) #[true, true, true, false, true, true, true, false, false, false, false, false, false, false, false, false, false, false, false, false, false] rfl rfl (take_ofW HT_.out HW_.out (by kernel_rfl)) (fun _ _ _ h => h) (Or.inl ⟨by rfl, ?_⟩) hHeld ?_ ?_; rotate_left
     ·rintro w' ⟨s0, s1, s2, s3, s4, s5, s6, s7, s8, s9⟩
      go_simp
      with_reducible rfl
     rotate_left
     ·simp only [Act.put, List.setIfInBounds_toArray, List.set_cons_zero, List.set_cons_succ, i64_w, i32_w]; rfl
     refine one_ (i := 3) (N := some 48) #[true, true, true, true, true, true, true, false, false, false, false, false, false, false, false, false, false, false, false, false, false] rfl rfl (one_of HT_.out (by kernel_rfl)) (by decide) (fun K hK => ?_)
     refine goes_ Try.func34 (by kernel_rfl) rfl #[.agg #[.int .i64 t775, .int .i64 t776, .bool t777, .bool t778], .agg #[.int .i64 t779, .int .i64 t780, .string t781], .agg #[.int .i64 t782, .int .i64 t783, .string t784]] (by rfl) rfl rfl zz24 ?_
     with_reducible refine (impl_LessPart.calls t775 t776 t777 t778 t779 t780 t781 t782 t783 t784 t788 _ A42.out).mono ?_
     rintro e w60 ⟨rfl, hb⟩
     refine ⟨_, rfl, ?_⟩
     have n0_ := zR HO756 hb
     have n1_ := zB BK762 hb
     have n2_ := zB BK768 hb
     have n3_ := zB BK774 hb
     have n4_ := zB BK785 hb
     have n5_ := zB BK786 hb
     have n6_ := zB BK787 hb
     have n7_ := zS hb zz2
     clear HO756 BK762 BK768 BK774 BK785 BK786 BK787 HB
     have HO756 := n0_; have BK762 := n1_; have BK768 := n2_; have BK774 := n3_; have BK785 := n4_; have BK786 := n5_; have BK787 := n6_; have HB := n7_
     clear n0_ n1_ n2_ n3_ n4_ n5_ n6_ n7_
     (try clear hb)
     (try clear hb2)
     (try clear hk)
     (try clear hi)
     refine hK.out _ _ ⟨(blk_cell BK785.out 0).trans rfl, (blk_cell BK785.out 1).trans rfl, (blk_cell BK785.out 2).trans rfl, (blk_cell BK785.out 3).trans rfl, (blk_cell BK786.out 0).trans rfl, (blk_cell BK786.out 1).trans rfl, (blk_cell BK786.out 2).trans rfl, (blk_cell BK787.out 0).trans rfl, (blk_cell BK787.out 1).trans rfl, (blk_cell BK787.out 2).trans rfl⟩ (fun hHeld => ?_)
     clear hK K
     refine norm_ (a' := ?_) ?_ ?_; rotate_left
     ·show Act.put _ (some 48) _ = _
      simp only [Act.put, List.setIfInBounds_toArray, List.set_cons_zero, List.set_cons_succ, i64_w, i32_w]
      rfl
     refine one_ (i := 7) (N := some 52) #[true, true, true, true, true, true, true, true, false, false, false, false, false, false, false, false, false, false, false, false, false] rfl rfl (one_of HT_.out (by kernel_rfl)) (by decide) (fun K hK => ?_)
     refine goes_ Try.func35 (by kernel_rfl) rfl #[.agg #[.int .i64 t775, .int .i64 t776, .bool t777, .bool t778], .agg #[.int .i64 t779, .int .i64 t780, .string t781], .agg #[.int .i64 t782, .int .i64 t783, .string t784]] (by rfl) rfl rfl zz24 ?_
     with_reducible refine (spec_LessPart.calls t775 t776 t777 t778 t779 t780 t781 t782 t783 t784 t789 _ A43.out).mono ?_
     rintro e w61 ⟨rfl, hb⟩
     refine ⟨_, rfl, ?_⟩
     have n0_ := zR HO756 hb
     have n1_ := zB BK762 hb
     have n2_ := zB BK768 hb
     have n3_ := zB BK774 hb
     have n4_ := zB BK785 hb
     have n5_ := zB BK786 hb
     have n6_ := zB BK787 hb
     have n7_ := zS hb zz2
     clear HO756 BK762 BK768 BK774 BK785 BK786 BK787 HB
     have HO756 := n0_; have BK762 := n1_; have BK768 := n2_; have BK774 := n3_; have BK785 := n4_; have BK786 := n5_; have BK787 := n6_; have HB := n7_
     clear n0_ n1_ n2_ n3_ n4_ n5_ n6_ n7_
     (try clear hb)
     (try clear hb2)
     (try clear hk)
     (try clear hi)
     refine hK.out _ _ ⟨(blk_cell BK785.out 0).trans rfl, (blk_cell BK785.out 1).trans rfl, (blk_cell BK785.out 2).trans rfl, (blk_cell BK785.out 3).trans rfl, (blk_cell BK786.out 0).trans rfl, (blk_cell BK786.out 1).trans rfl, (blk_cell BK786.out 2).trans rfl, (blk_cell BK787.out 0).trans rfl, (blk_cell BK787.out 1).trans rfl, (blk_cell BK787.out 2).trans rfl⟩ (fun hHeld => ?_)
     clear hK K
     refine norm_ (a' := ?_) ?_ ?_; rotate_left
     ·show Act.put _ (some 52) _ = _
      simp only [Act.put, List.setIfInBounds_toArray, List.set_cons_zero, List.set_cons_succ, i64_w, i32_w]
      rfl
     refine pure_ (i := 8) (N := some 53) (v := ?_) (a' := ?_) #[true, true, true, true, true, true, true, true, true, false, false, false, false, false, false, false, false, false, false, false, false] rfl rfl (any_of HT_.out (by kernel_rfl)) (fun _ _ _ h => h) (Or.inl ⟨by rfl, ?_⟩) ?_ ?_; rotate_left
     ·intro w'; go_simp; with_reducible rfl
     rotate_left
     ·simp only [Act.put, List.setIfInBounds_toArray, List.set_cons_zero, List.set_cons_succ, i64_w, i32_w]; rfl
     refine pure_ (i := 9) (N := some 54) (v := ?_) (a' := ?_) #[true, true, true, true, true, true, true, true, true, true, false, false, false, false, false, false, false, false, false, false, false] rfl rfl (any_of HT_.out (by kernel_rfl)) (fun _ _ _ h => h) (Or.inl ⟨by rfl, ?_⟩) ?_ ?_; rotate_left
     ·intro w'; go_simp; with_reducible rfl
     rotate_left
     ·simp only [Act.put, List.setIfInBounds_toArray, List.set_cons_zero, List.set_cons_succ, i64_w, i32_w]; rfl
     refine take_ (i := 10) (N := some 55) (v := ?_) (a' := ?_) #[true, true, true, true, true, true, true, true, true, true, true, false, false, false, false, false, false, false, false, false, false] rfl rfl (take_ofW HT_.out HW_.out (by kernel_rfl)) (fun _ _ _ h => h) (Or.inl ⟨by rfl, ?_⟩) hHeld ?_ ?_; rotate_left
     ·rintro w' ⟨s0, s1, s2, s3, s4, s5, s6, s7, s8, s9⟩
      go_simp
      with_reducible rfl
     rotate_left
     ·simp only [Act.put, List.setIfInBounds_toArray, List.set_cons_zero, List.set_cons_succ, i64_w, i32_w]; rfl
     refine take_ (i := 11) (N := some 56) (v := ?_) (a' := ?_) #[true, true, true, true, true, true, true, true, true, true, true, true, false, false, false, false, false, false, false, false, false] rfl rfl (take_ofW HT_.out HW_.out (by kernel_rfl)) (fun _ _ _ h => h) (Or.inl ⟨by rfl, ?_⟩) hHeld ?_ ?_; rotate_left
     ·rintro w' ⟨s0, s1, s2, s3, s4, s5, s6, s7, s8, s9⟩
      go_simp
      with_reducible rfl
     rotate_left
     ·simp only [Act.put, List.setIfInBounds_toArray, List.set_cons_zero, List.set_cons_succ, i64_w, i32_w]; rfl
     refine take_ (i := 12) (N := some 57) (v := ?_) (a' := ?_) #[true, true, true, true, true, true, true, true, true, true, true, true, true, false, false, false, false, false, false, false, false] rfl rfl (take_ofW HT_.out HW_.out (by kernel_rfl)) (fun _ _ _ h => h) (Or.inl ⟨by rfl, ?_⟩) hHeld ?_ ?_; rotate_left
     ·rintro w' ⟨s0, s1, s2, s3, s4, s5, s6, s7, s8, s9⟩
      go_simp
      with_reducible rfl
     rotate_left
     ·simp only [Act.put, List.setIfInBounds_toArray, List.set_cons_zero, List.set_cons_succ, i64_w, i32_w]; rfl
     refine one_ (i := 13) (N := some 58) #[true, true, true, true, true, true, true, true, true, true, true, true, true, true, false, false, false, false, false, false, false] rfl rfl (one_of HT_.out (by kernel_rfl)) (by decide) (fun K hK => ?_)
     refine goes_ Try.func34 (by kernel_rfl) rfl #[.agg #[.int .i64 t775, .int .i64 t776, .bool t777, .bool t778], .agg #[.int .i64 t779, .int .i64 t780, .string t781], .agg #[.int .i64 t782, .int .i64 t783, .string t784]] (by rfl) rfl rfl zz24 ?_
     with_reducible refine (impl_LessPart.calls t775 t776 t777 t778 t779 t780 t781 t782 t783 t784 false _ A49.out).mono ?_
     rintro e w62 ⟨rfl, hb⟩
     refine ⟨_, rfl, ?_⟩
     have n0_ := zR HO756 hb
     have n1_ := zB BK762 hb
     have n2_ := zB BK768 hb
     have n3_ := zB BK774 hb
     have n4_ := zB BK785 hb
     have n5_ := zB BK786 hb
     have n6_ := zB BK787 hb
     have n7_ := zS hb zz2
     clear HO756 BK762 BK768 BK774 BK785 BK786 BK787 HB
     have HO756 := n0_; have BK762 := n1_; have BK768 := n2_; have BK774 := n3_; have BK785 := n4_; have BK786 := n5_; have BK787 := n6_; have HB := n7_
     clear n0_ n1_ n2_ n3_ n4_ n5_ n6_ n7_
     (try clear hb)
     (try clear hb2)
     (try clear hk)
     (try clear hi)
     refine hK.out _ _ ⟨(blk_cell BK785.out 0).trans rfl, (blk_cell BK785.out 1).trans rfl, (blk_cell BK785.out 2).trans rfl, (blk_cell BK785.out 3).trans rfl, (blk_cell BK786.out 0).trans rfl, (blk_cell BK786.out 1).trans rfl, (blk_cell BK786.out 2).trans rfl, (blk_cell BK787.out 0).trans rfl, (blk_cell BK787.out 1).trans rfl, (blk_cell BK787.out 2).trans rfl⟩ (fun hHeld => ?_)
     clear hK K
     refine norm_ (a' := ?_) ?_ ?_; rotate_left
     ·show Act.put _ (some 58) _ = _
      simp only [Act.put, List.setIfInBounds_toArray, List.set_cons_zero, List.set_cons_succ, i64_w, i32_w]
      rfl
     refine pure_ (i := 14) (N := some 59) (v := ?_) (a' := ?_) #[true, true, true, true, true, true, true, true, true, true, true, true, true, true, true, false, false, false, false, false, false] rfl rfl (any_of HT_.out (by kernel_rfl)) (fun _ _ _ h => h) (Or.inl ⟨by rfl, ?_⟩) ?_ ?_; rotate_left
     ·intro w'; go_simp; with_reducible rfl
     rotate_left
     ·simp only [Act.put, List.setIfInBounds_toArray, List.set_cons_zero, List.set_cons_succ, i64_w, i32_w]; rfl
     refine pure_ (i := 15) (N := some 60) (v := undef) (a' := ?_) #[true, true, true, true, true, true, true, true, true, true, true, true, true, true, true, true, false, false, false, false, false] rfl rfl (any_of HT_.out (by kernel_rfl)) (fun _ _ _ h => h) (Or.inr ⟨by rfl, rfl⟩) ?_ ?_; rotate_left
     ·simp only [Act.put, List.setIfInBounds_toArray, List.set_cons_zero, List.set_cons_succ, i64_w, i32_w]; rfl
     refine pure_ (i := 16) (N := some 61) (v := undef) (a' := ?_) #[true, true, true, true, true, true, true, true, true, true, true, true, true, true, true, true, true, false, false, false, false] rfl rfl (any_of HT_.out (by kernel_rfl)) (fun _ _ _ h => h) (Or.inr ⟨by rfl, rfl⟩) ?_ ?_; rotate_left
     ·simp only [Act.put, List.setIfInBounds_toArray, List.set_cons_zero, List.set_cons_succ, i64_w, i32_w]; rfl
     refine pure_ (i := 17) (N := some 62) (v := undef) (a' := ?_) #[true, true, true, true, true, true, true, true, true, true, true, true, true, true, true, true, true, true, false, false, false] rfl rfl (any_of HT_.out (by kernel_rfl)) (fun _ _ _ h => h) (Or.inr ⟨by rfl, rfl⟩) ?_ ?_; rotate_left
     ·simp only [Act.put, List.setIfInBounds_toArray, List.set_cons_zero, List.set_cons_succ, i64_w, i32_w]; rfl
     refine pure_ (i := 18) (N := some 63) (v := undef) (a' := ?_) #[true, true, true, true, true, true, true, true, true, true, true, true, true, true, true, true, true, true, true, false, false] rfl rfl (any_of HT_.out (by kernel_rfl)) (fun _ _ _ h => h) (Or.inr ⟨by rfl, rfl⟩) ?_ ?_; rotate_left
     ·simp only [Act.put, List.setIfInBounds_toArray, List.set_cons_zero, List.set_cons_succ, i64_w, i32_w]; rfl
     refine pure_ (i := 19) (N := some 64) (v := ?_) (a' := ?_) #[true, true, true, true, true, true, true, true, true, true, true, true, true, true, true, true, true, true, true, true, false] rfl rfl (any_of HT_.out (by kernel_rfl)) (fun _ _ _ h => h) (Or.inl ⟨by rfl, ?_⟩) ?_ ?_; rotate_left
     ·intro w'; go_simp; with_reducible rfl
     rotate_left
     ·simp only [Act.put, List.setIfInBounds_toArray, List.set_cons_zero, List.set_cons_succ, i64_w, i32_w]; rfl
     refine pure_ (i := 20) (N := some 65) (v := ?_) (a' := ?_) #[true, true, true, true, true, true, true, true, true, true, true, true, true, true, true, true, true, true, true, true, true] rfl rfl (any_of HT_.out (by kernel_rfl)) (fun _ _ _ h => h) (Or.inl ⟨by rfl, ?_⟩) ?_ ?_; rotate_left
     ·intro w'; go_simp; with_reducible rfl
     rotate_left
     ·simp only [Act.put, List.setIfInBounds_toArray, List.set_cons_zero, List.set_cons_succ, i64_w, i32_w]; rfl
     refine done_ (done_of HT_.out (by kernel_rfl)) ?_
     try go_wp2
     go_meet
     case rel => exact ⟨_, (false), zx, H', ⟨zo⟩, ⟨zr HO756⟩, ⟨zk BK762⟩, ⟨zk BK768⟩, ⟨zk BK774⟩, ⟨zk BK785⟩, ⟨zk BK786⟩, ⟨zk BK787⟩, ⟨zz2⟩⟩
  case rest =>
   clear HC8
   try clear c3
   obtain ⟨kq, x65_7, rfl, HA, HJ7, HO_3, BK762, BK768, BK774, BK785, BK786, BK787, HB⟩ := hcut
   cases kq with
   | zero => exact absurd HA.out (by simp [laws_FnPartsRead.j0])
   | succ kj7 =>
    have H := HA.out
    clear HA
    simp only [laws_FnPartsRead.j0] at H
    by_cases c63 : x65_7 = true
    ·subst c63
     rw [if_pos rfl] at H
     obtain rfl := Option.some.inj H
     go_wp2
     go_ret
     exact ⟨zw, zz2⟩
    ·replace c63 := Bool.eq_false_iff.mpr c63
     subst c63
     rw [if_neg (Bool.false_ne_true)] at H
     by_cases c64 : (t767 == t773) = true
     ·rw [if_pos c64] at H
      have c64b0 : (t767 == t773) = true := c64
      (try (have c64b1 : decide (t767 = t773) = true := by simpa using c64))
      (try (have c64b2 : (t767 == t773) = true := by simpa using c64))
      clear c64
      by_cases c65 : t767 = true
      ·subst c65
       rw [if_pos rfl] at H
       replace H := zI H
       obtain ⟨t792, A66, H⟩ := H
       by_cases c67 : t792 = true
       ·subst c67
        rw [if_pos rfl] at H
        obtain ⟨y793, hy793⟩ : ∃ y_ : List Int, y_ = (([] : List Int)) := ⟨_, rfl⟩
        replace H : ((impl_PutPart.f kj7 y793 t757 t758 t759 t760 t763 t764 t765).bind fun t796 => (if 0 ≤ t761 then (if t761 ≤ t766 then (if t766 ≤ (t754.length : Int) then ((laws_sameBytes.f kj7 t796 ((t754.take (t766 : Int).toNat).drop (t761 : Int).toNat)).bind fun t803 => (some t803)) else (none)) else (none)) else (none))) = some r := by first | (rw [hy793]; with_reducible exact H) | (have H2_ := (Option.bind_some _ _).symm.trans H; rw [hy793]; with_reducible exact H2_) | (have H2_ := (Option.bind_some _ _).symm.trans H; with_reducible exact H2_) | with_reducible exact H | (rw [hy793]; exact H) | exact H
        have Ny793 := zA hy793
        clear hy793
        replace H := zI H
        obtain ⟨t796, A68, H⟩ := H
        by_cases c69 : 0 ≤ t761
        ·rw [if_pos c69] at H
         have c69b0 := eq_true c69
         have c69b1 : decide (0 ≤ t761) = true := decide_eq_true c69
         clear c69
         by_cases c70 : t761 ≤ t766
         ·rw [if_pos c70] at H
          have c70b0 := eq_true c70
          have c70b1 : decide (t761 ≤ t766) = true := decide_eq_true c70
          clear c70
          by_cases c71 : t766 ≤ (t754.length : Int)
          ·rw [if_pos c71] at H
           have c71b0 := eq_true c71
           have c71b1 : decide (t766 ≤ (t754.length : Int)) = true := decide_eq_true c71
           clear c71
           obtain ⟨y799, hy799⟩ : ∃ y_ : List Int, y_ = ((t754.take (t766 : Int).toNat).drop (t761 : Int).toNat) := ⟨_, rfl⟩
           replace H : ((laws_sameBytes.f kj7 t796 y799).bind fun t803 => (some t803)) = some r := by first | (rw [hy799]; with_reducible exact H) | (have H2_ := (Option.bind_some _ _).symm.trans H; rw [hy799]; with_reducible exact H2_) | (have H2_ := (Option.bind_some _ _).symm.trans H; with_reducible exact H2_) | with_reducible exact H | (rw [hy799]; exact H) | exact H
           have Ny799 := zA hy799
           clear hy799
           replace H := zI H
           obtain ⟨t803, A72, H⟩ := H
           obtain rfl := Option.some.inj H
           try go_wp2
           have n0_ := zA (Kd.R_drew HO_3.out)
           have n1_ := zA (blk_drew BK762.out)
           have n2_ := zA (blk_drew BK768.out)
           have n3_ := zA (blk_drew BK774.out)
           have n4_ := zA (blk_drew BK785.out)
           have n5_ := zA (blk_drew BK786.out)
           have n6_ := zA (blk_drew BK787.out)
           have n7_ := zA (below_drew1 HB.out)
           clear HO_3 BK762 BK768 BK774 BK785 BK786 BK787 HB
           have HO_3 := n0_; have BK762 := n1_; have BK768 := n2_; have BK774 := n3_; have BK785 := n4_; have BK786 := n5_; have BK787 := n6_; have HB := n7_
           clear n0_ n1_ n2_ n3_ n4_ n5_ n6_ n7_
           refine start_ (n := 24) (S := fun w' => w'.cell? ⟨gb762, 0, none⟩ = some (.int .i64 t757) ∧ w'.cell? ⟨gb762, 1, none⟩ = some (.int .i64 t758) ∧ w'.cell? ⟨gb762, 2, none⟩ = some (.bool t759) ∧ w'.cell? ⟨gb762, 3, none⟩ = some (.bool t760) ∧ w'.cell? ⟨gb768, 0, none⟩ = some (.int .i64 t763) ∧ w'.cell? ⟨gb768, 1, none⟩ = some (.int .i64 t764) ∧ w'.cell? ⟨gb768, 2, none⟩ = some (.string t765)) (ds := []) #[false, false, false, false, false, false, false, false, false, false, false, false, false, false, false, false, false, false, false, false, false, false, false, false] (by kernel_rfl) rfl rfl ⟨(blk_cell BK762.out 0).trans rfl, (blk_cell BK762.out 1).trans rfl, (blk_cell BK762.out 2).trans rfl, (blk_cell BK762.out 3).trans rfl, (blk_cell BK768.out 0).trans rfl, (blk_cell BK768.out 1).trans rfl, (blk_cell BK768.out 2).trans rfl⟩ (fun hHeld => ?_); refine with_tabW laws_FnPartsRead.tab9 laws_FnPartsRead.bits9 (fun HT_ HW_ => ?_)
           generalize wc.drew = w73 at HO_3 BK762 BK768 BK774 BK785 BK786 BK787 HB hHeld ⊢
           refine pure_ (i := 0) (N := some 66) (v := ?_) (a' := ?_) #[true, false, false, false, false, false, false, false, false, false, false, false, false, false, false, false, false, false, false, false, false, false, false, false] rfl rfl (any_of HT_.out (by kernel_rfl)) (fun _ _ _ h => h) (Or.inl ⟨by rfl, ?_⟩) ?_ ?_; rotate_left
           ·intro w'; go_simp; with_reducible rfl
           rotate_left
           ·simp only [Act.put, List.setIfInBounds_toArray, List.set_cons_zero, List.set_cons_succ, i64_w, i32_w]; rfl
           refine pure_ (i := 1) (N := some 67) (v := ?_) (a' := ?_) #[true, true, false, false, false, false, false, false, false, false, false, false, false, false, false, false, false, false, false, false, false, false, false, false] rfl rfl (any_of HT_.out (by kernel_rfl)) (fun _ _ _ h => h) (Or.inl ⟨by rfl, ?_⟩) ?_ ?_; rotate_left
           ·intro w'; go_simp; with_reducible rfl
           rotate_left
           ·simp only [Act.put, List.setIfInBounds_toArray, List.set_cons_zero, List.set_cons_succ, i64_w, i32_w]; rfl
           refine pure_ (i := 2) (N := some 68) (v := ?_) (a' := ?_) #[true, true, true, false, false, false, false, false, false, false, false, false, false, false, false, false, false, false, false, false, false, false, false, false] rfl rfl (any_of HT_.out (by kernel_rfl)) (fun _ _ _ h => h) (Or.inl ⟨by rfl, ?_⟩) ?_ ?_; rotate_left
           ·intro w'; go_simp; with_reducible rfl
           rotate_left
           ·simp only [Act.put, List.setIfInBounds_toArray, List.set_cons_zero, List.set_cons_succ, i64_w, i32_w]; rfl
           refine pure_ (i := 3) (N := some 69) (v := ?_) (a' := ?_) #[true, true, true, true, false, false, false, false, false, false, false, false, false, false, false, false, false, false, false, false, false, false, false, false] rfl rfl (any_of HT_.out (by kernel_rfl)) (fun _ _ _ h => h) (Or.inl ⟨by rfl, ?_⟩) ?_ ?_; rotate_left
           ·intro w'; go_simp; with_reducible rfl
           rotate_left
           ·simp only [Act.put, List.setIfInBounds_toArray, List.set_cons_zero, List.set_cons_succ, i64_w, i32_w]; rfl
           refine pure_ (i := 4) (N := some 70) (v := ?_) (a' := ?_) #[true, true, true, true, true, false, false, false, false, false, false, false, false, false, false, false, false, false, false, false, false, false, false, false] rfl rfl (any_of HT_.out (by kernel_rfl)) (fun _ _ _ h => h) (Or.inl ⟨by rfl, ?_⟩) ?_ ?_; rotate_left
           ·intro w'; go_simp; with_reducible rfl
           rotate_left
           ·simp only [Act.put, List.setIfInBounds_toArray, List.set_cons_zero, List.set_cons_succ, i64_w, i32_w]; rfl
           refine pure_ (i := 5) (N := some 71) (v := ?_) (a' := ?_) #[true, true, true, true, true, true, false, false, false, false, false, false, false, false, false, false, false, false, false, false, false, false, false, false] rfl rfl (any_of HT_.out (by kernel_rfl)) (fun _ _ _ h => h) (Or.inl ⟨by rfl, ?_⟩) ?_ ?_; rotate_left
           ·intro w'; go_simp; with_reducible rfl
           rotate_left
           ·simp only [Act.put, List.setIfInBounds_toArray, List.set_cons_zero, List.set_cons_succ, i64_w, i32_w]; rfl
           refine pure_ (i := 6) (N := some 72) (v := ?_) (a' := ?_) #[true, true, true, true, true, true, true, false, false, false, false, false, false, false, false, false, false, false, false, false, false, false, false, false] rfl rfl (any_of HT_.out (by kernel_rfl)) (fun _ _ _ h => h) (Or.inl ⟨by rfl, ?_⟩) ?_ ?_; rotate_left
           ·intro w'; go_simp; with_reducible rfl
           rotate_left
           ·simp only [Act.put, List.setIfInBounds_toArray, List.set_cons_zero, List.set_cons_succ, i64_w, i32_w]; rfl
           refine take_ (i := 7) (N := some 73) (v := ?_) (a' := ?_) #[true, true, true, true, true, true, true, true, false, false, false, false, false, false, false, false, false, false, false, false, false, false, false, false] rfl rfl (take_ofW HT_.out HW_.out (by kernel_rfl)) (fun _ _ _ h => h) (Or.inl ⟨by rfl, ?_⟩) hHeld ?_ ?_; rotate_left
           ·rintro w' ⟨s0, s1, s2, s3, s4, s5, s6⟩
            go_simp
            with_reducible rfl
           rotate_left
           ·simp only [Act.put, List.setIfInBounds_toArray, List.set_cons_zero, List.set_cons_succ, i64_w, i32_w]; rfl
           refine take_ (i := 8) (N := some 74) (v := ?_) (a' := ?_) #[true, true, true, true, true, true, true, true, true, false, false, false, false, false, false, false, false, false, false, false, false, false, false, false] rfl rfl (take_ofW HT_.out HW_.out (by kernel_rfl)) (fun _ _ _ h => h) (Or.inl ⟨by rfl, ?_⟩) hHeld ?_ ?_; rotate_left
           ·rintro w' ⟨s0, s1, s2, s3, s4, s5, s6⟩
            go_simp
            with_reducible rfl
           rotate_left
           ·simp only [Act.put, List.setIfInBounds_toArray, List.set_cons_zero, List.set_cons_succ, i64_w, i32_w]; rfl
           refine one_ (i := 9) (N := some 75) #[true, true, true, true, true, true, true, true, true, true, false, false, false, false, false, false, false, false, false, false, false, false, false, false] rfl rfl (one_of HT_.out (by kernel_rfl)) (by decide) (fun K hK => ?_)
           refine goes_ Try.func31 (by kernel_rfl) rfl #[.agg #[.int .i64 t757, .int .i64 t758, .bool t759, .bool t760], .agg #[.int .i64 t763, .int .i64 t764, .string t765]] (by rfl) rfl rfl zz24 ?_
           with_reducible refine (impl_Fits.calls t757 t758 t759 t760 t763 t764 t765 true _ A66.out).mono ?_
           rintro e w74 ⟨rfl, hb⟩
           refine ⟨_, rfl, ?_⟩
           have n0_ := zR HO_3 hb
           have n1_ := zB BK762 hb
           have n2_ := zB BK768 hb
           have n3_ := zB BK774 hb
           have n4_ := zB BK785 hb
           have n5_ := zB BK786 hb
           have n6_ := zB BK787 hb
           have n7_ := zS hb zz2
           clear HO_3 BK762 BK768 BK774 BK785 BK786 BK787 HB
           have HO_3 := n0_; have BK762 := n1_; have BK768 := n2_; have BK774 := n3_; have BK785 := n4_; have BK786 := n5_; have BK787 := n6_; have HB := n7_
           clear n0_ n1_ n2_ n3_ n4_ n5_ n6_ n7_
           (try clear hb)
           (try clear hb2)
           (try clear hk)
           (try clear hi)
           have q75 : (t766 : Int) ≤ ((t754.length : Int) : Int) := of_decide_eq_true za
           obtain ⟨i075, hi075, _, hsz75, _⟩ := info_parts info5
           have hroom75 : t754.length ≤ co12 := (Kd.R_reads' HO_3.out).2.1
           have hC75 : Kd.C (Kd.int .u8) _ Ao12 t754.length t754 := (Kd.R_reads' HO_3.out).2.2
           have ql75 : (t761 : Int) ≤ (t766 : Int) := of_decide_eq_true za
           have q075 : (0 : Int) ≤ (t761 : Int) := of_decide_eq_true za
           have hcut75 := cut_mid (P := Try.prog) 22 5 .i64 .i64 Try.underlying22 hi075 1 hsz75 Ao12 t754.length co12 t761 t766 q075 ql75 q75 hroom75
           have hr75 := Kd.C_mid (lo := (t761 : Int).toNat) (hi := (t766 : Int).toNat) (c := co12) hC75 (by omega) (by omega) hroom75
           obtain ⟨A75, hA75⟩ : ∃ A1, A1 = (if co12 = (t761 : Int).toNat then Ao12 else (Ao12 : Option Addr).map (·.add ((t761 : Int).toNat * 1))) := ⟨_, rfl⟩
           obtain ⟨c75, hc75⟩ : ∃ c1, c1 = co12 - (t761 : Int).toNat := ⟨_, rfl⟩
           have hy75 : y799.length = (t766 : Int).toNat - (t761 : Int).toNat := (by rw [Ny799.out, List.length_drop, List.length_take] <;> omega)
           rw [show ((t754).take (t766 : Int).toNat).drop (t761 : Int).toNat = y799 from Ny799.out.symm] at hr75
           replace hr75 : Kd.C (Kd.int .u8) _ A75 y799.length y799 := (by rw [hA75]; exact hr75)
           rw [← hy75, ← hA75, ← hc75] at hcut75
           have HR802 := zA hr75
           have HC802 := zA (show y799.length ≤ c75 from by rw [hy75, hc75]; exact Nat.sub_le_sub_right (Nat.le_trans (by omega) hroom75) _)
           clear hr75 hC75 hroom75 hi075 hsz75 hc75
           have KY75 := zA hy75
           have KA75 := zA hA75
           clear hy75 hA75
           have KL75 := zA (show (t766 : Int).toNat ≤ t754.length from by omega)
           have KM75 := zA (show (t761 : Int).toNat ≤ (t766 : Int).toNat from by omega)
           replace q75 := eq_true q75
           refine hK.out _ _ ⟨(blk_cell BK762.out 0).trans rfl, (blk_cell BK762.out 1).trans rfl, (blk_cell BK762.out 2).trans rfl, (blk_cell BK762.out 3).trans rfl, (blk_cell BK768.out 0).trans rfl, (blk_cell BK768.out 1).trans rfl, (blk_cell BK768.out 2).trans rfl⟩ (fun hHeld => ?_)
           clear hK K
           refine norm_ (a' := ?_) ?_ ?_; rotate_left
           ·show Act.put _ (some 75) _ = _
            simp only [Act.put, List.setIfInBounds_toArray, List.set_cons_zero, List.set_cons_succ, i64_w, i32_w]
            rfl
           refine pure_ (i := 10) (N := some 76) (v := ?_) (a' := ?_) #[true, true, true, true, true, true, true, true, true, true, true, false, false, false, false, false, false, false, false, false, false, false, false, false] rfl rfl (any_of HT_.out (by kernel_rfl)) (fun _ _ _ h => h) (Or.inl ⟨by rfl, ?_⟩) ?_ ?_; rotate_left
           ·intro w'; go_simp; with_reducible rfl
           rotate_left
           ·simp only [Act.put, List.setIfInBounds_toArray, List.set_cons_zero, List.set_cons_succ, i64_w, i32_w]; rfl
           refine pure_ (i := 15) (N := some 81) (v := ?_) (a' := ?_) #[true, true, true, true, true, true, true, true, true, true, true, false, false, false, false, true, false, false, false, false, false, false, false, false] rfl rfl (any_of HT_.out (by kernel_rfl)) (fun _ _ _ h => h) (Or.inl ⟨by rfl, ?_⟩) ?_ ?_; rotate_left
           ·intro w'; go_simp; with_reducible rfl
           rotate_left
           ·simp only [Act.put, List.setIfInBounds_toArray, List.set_cons_zero, List.set_cons_succ, i64_w, i32_w]; rfl
           refine pure_ (i := 16) (N := some 82) (v := ?_) (a' := ?_) #[true, true, true, true, true, true, true, true, true, true, true, false, false, false, false, true, true, false, false, false, false, false, false, false] rfl rfl (any_of HT_.out (by kernel_rfl)) (fun _ _ _ h => h) (Or.inl ⟨by rfl, ?_⟩) ?_ ?_; rotate_left
           ·intro w'; go_simp; with_reducible rfl
           rotate_left
           ·simp only [Act.put, List.setIfInBounds_toArray, List.set_cons_zero, List.set_cons_succ, i64_w, i32_w]; rfl
           refine pure_ (i := 17) (N := some 83) (v := ?_) (a' := ?_) #[true, true, true, true, true, true, true, true, true, true, true, false, false, false, false, true, true, true, false, false, false, false, false, false] rfl rfl (any_of HT_.out (by kernel_rfl)) (fun _ _ _ h => h) (Or.inl ⟨by rfl, ?_⟩) ?_ ?_; rotate_left
           ·intro w'; go_simp; with_reducible rfl
           rotate_left
           ·simp only [Act.put, List.setIfInBounds_toArray, List.set_cons_zero, List.set_cons_succ, i64_w, i32_w]; rfl
           refine pure_ (i := 18) (N := some 84) (v := ?_) (a' := ?_) #[true, true, true, true, true, true, true, true, true, true, true, false, false, false, false, true, true, true, true, false, false, false, false, false] rfl rfl (any_of HT_.out (by kernel_rfl)) (fun _ _ _ h => h) (Or.inl ⟨by rfl, ?_⟩) ?_ ?_; rotate_left
           ·intro w'; go_simp; with_reducible rfl
           rotate_left
           ·simp only [Act.put, List.setIfInBounds_toArray, List.set_cons_zero, List.set_cons_succ, i64_w, i32_w]; rfl
           refine take_ (i := 12) (N := some 78) (v := ?_) (a' := ?_) #[true, true, true, true, true, true, true, true, true, true, true, false, true, false, false, true, true, true, true, false, false, false, false, false] rfl rfl (take_ofW HT_.out HW_.out (by kernel_rfl)) (fun _ _ _ h => h) (Or.inl ⟨by rfl, ?_⟩) hHeld ?_ ?_; rotate_left
           ·rintro w' ⟨s0, s1, s2, s3, s4, s5, s6⟩
            go_simp
            with_reducible rfl
           rotate_left
           ·simp only [Act.put, List.setIfInBounds_toArray, List.set_cons_zero, List.set_cons_succ, i64_w, i32_w]; rfl
           refine take_ (i := 13) (N := some 79) (v := ?_) (a' := ?_) #[true, true, true, true, true, true, true, true, true, true, true, false, true, true, false, true, true, true, true, false, false, false, false, false] rfl rfl (take_ofW HT_.out HW_.out (by kernel_rfl)) (fun _ _ _ h => h) (Or.inl ⟨by rfl, ?_⟩) hHeld ?_ ?_; rotate_left
           ·rintro w' ⟨s0, s1, s2, s3, s4, s5, s6⟩
            go_simp
            with_reducible rfl
           rotate_left
           ·simp only [Act.put, List.setIfInBounds_toArray, List.set_cons_zero, List.set_cons_succ, i64_w, i32_w]; rfl
           refine one_ (i := 11) (N := some 77) #[true, true, true, true, true, true, true, true, true, true, true, true, true, true, false, true, true, true, true, false, false, false, false, false] rfl rfl (one_of HT_.out (by kernel_rfl)) (by decide) (fun K hK => ?_)
           refine Kd.R_lit_step (Kd.int .u8) _ 5 ?hg (N := 77) ?hd (xs := ([] : List Int)) (inner := []) (ok := fun _ => True) (okp := fun _ => True) ?hr ?hp (fun _ hk => hk) trivial (Below.refl _ _) (Nat.le_refl _) (by simp) ?_; (case hd => rfl); (case hg => rfl); (case hr => exact zz35); (case hp => exact (Reps.none _ _))
           intro v794 w76 ho77 hb hg_ hnew_
           clear hg_ hnew_
           (first | rw [← Ny793.out] at ho77 | (simp only [Int.reduceToNat] at ho77; rw [← Ny793.out] at ho77))
           have n0_ := zE HO_3 ho77 hb
           have n1_ := zL (zN ho77 HO_3) zz2
           have n2_ := zB BK762 hb
           have n3_ := zB BK768 hb
           have n4_ := zB BK774 hb
           have n5_ := zB BK785 hb
           have n6_ := zB BK786 hb
           have n7_ := zB BK787 hb
           have n8_ := zA (Kd.C_below zz87 hb)
           have n9_ := zS hb zz2
           clear HO_3 BK762 BK768 BK774 BK785 BK786 BK787 HR802 HB
           have HO_3 := n0_; have HO795 := n1_; have BK762 := n2_; have BK768 := n3_; have BK774 := n4_; have BK785 := n5_; have BK786 := n6_; have BK787 := n7_; have HR802 := n8_; have HB := n9_
           clear n0_ n1_ n2_ n3_ n4_ n5_ n6_ n7_ n8_ n9_ hb ho77
           obtain ⟨Ao78, co78, eo78⟩ := Kd.R_slice HO795.out
           (first | subst eo78 | (injection eo78 with f1_ f2_ f3_; have f4_ := f1_.symm; have f5_ := f3_.symm; clear f1_ f2_ f3_; subst f4_; subst f5_))
           refine hK.out _ _ ⟨(blk_cell BK762.out 0).trans rfl, (blk_cell BK762.out 1).trans rfl, (blk_cell BK762.out 2).trans rfl, (blk_cell BK762.out 3).trans rfl, (blk_cell BK768.out 0).trans rfl, (blk_cell BK768.out 1).trans rfl, (blk_cell BK768.out 2).trans rfl⟩ (fun hHeld => ?_)
           clear hK K
           refine norm_ (a' := ?_) ?_ ?_; rotate_left
           ·show Act.put _ (some 77) _ = _
            simp only [Act.put, List.setIfInBounds_toArray, List.set_cons_zero, List.set_cons_succ, i64_w, i32_w]
            rfl
           refine one_ (i := 14) (N := some 80) #[true, true, true, true, true, true, true, true, true, true, true, true, true, true, true, true, true, true, true, false, false, false, false, false] rfl rfl (one_of HT_.out (by kernel_rfl)) (by decide) (fun K hK => ?_)
           refine goes_ Try.func18 (by kernel_rfl) rfl #[.slice Ao78 y793.length co78, .agg #[.int .i64 t757, .int .i64 t758, .bool t759, .bool t760], .agg #[.int .i64 t763, .int .i64 t764, .string t765]] (by rfl) rfl rfl zz24 ?_
           with_reducible refine (impl_PutPart.calls kj7 _ _ y793 t757 t758 t759 t760 t763 t764 t765 t796 _ ?z1 ?z2 A68.out).mono ?_
           (case z1 => exact ze HO795)
           (case z2 => exact zl HO795)
           rintro e w79 ⟨v797, rfl, ho0, hb⟩
           refine ⟨_, rfl, ?_⟩
           have n0_ := zE HO_3 ho0 hb
           have n1_ := zE HO795 ho0 hb
           have n2_ := zL (zN (zN ho0 HO_3) HO795) zz2
           have n3_ := zB BK762 hb
           have n4_ := zB BK768 hb
           have n5_ := zB BK774 hb
           have n6_ := zB BK785 hb
           have n7_ := zB BK786 hb
           have n8_ := zB BK787 hb
           have n9_ := zA (Kd.C_below zz87 hb)
           have n10_ := zS hb zz2
           clear HO_3 HO795 BK762 BK768 BK774 BK785 BK786 BK787 HR802 HB
           have HO_3 := n0_; have HO795 := n1_; have HO798 := n2_; have BK762 := n3_; have BK768 := n4_; have BK774 := n5_; have BK785 := n6_; have BK786 := n7_; have BK787 := n8_; have HR802 := n9_; have HB := n10_
           clear n0_ n1_ n2_ n3_ n4_ n5_ n6_ n7_ n8_ n9_ n10_
           (try clear hb)
           (try clear hb2)
           (try clear hk)
           (try clear hi)
           (try clear ho0)
           obtain ⟨Ao80, co80, eo80⟩ := Kd.R_slice HO798.out
           (first | subst eo80 | (injection eo80 with f1_ f2_ f3_; have f4_ := f1_.symm; have f5_ := f3_.symm; clear f1_ f2_ f3_; subst f4_; subst f5_))
           refine hK.out _ _ ⟨(blk_cell BK762.out 0).trans rfl, (blk_cell BK762.out 1).trans rfl, (blk_cell BK762.out 2).trans rfl, (blk_cell BK762.out 3).trans rfl, (blk_cell BK768.out 0).trans rfl, (blk_cell BK768.out 1).trans rfl, (blk_cell BK768.out 2).trans rfl⟩ (fun hHeld => ?_)
           clear hK K
           refine norm_ (a' := ?_) ?_ ?_; rotate_left
           ·show Act.put _ (some 80) _ = _
            simp only [Act.put, List.setIfInBounds_toArray, List.set_cons_zero, List.set_cons_succ, i64_w, i32_w]
            rfl
           refine one_ (i := 19) (N := some 85) #[true, true, true, true, true, true, true, true, true, true, true, true, true, true, true, true, true, true, true, true, false, false, false, false] rfl rfl (one_of HT_.out (by kernel_rfl)) (by decide) (fun K hK => ?_)
           refine goes_ Try.func29 (by kernel_rfl) rfl #[.slice Ao80 t796.length co80, .slice A75 y799.length c75] (by rfl) rfl rfl zz24 ?_
           with_reducible refine (laws_sameBytes.calls kj7 _ _ t796 _ _ y799 t803 _ ?z1 ?z2 ?z3 ?z4 A72.out).mono ?_
           (case z1 => exact ze HO798)
           (case z2 => exact zl HO798)
           (case z3 => exact zc zz87)
           (case z4 => exact HC802.out)
           rintro e w' ⟨rfl, ⟨nd, rfl⟩⟩
           refine ⟨_, rfl, ?_⟩
           refine hK.out _ _ ⟨(blk_cell BK762.out 0).trans rfl, (blk_cell BK762.out 1).trans rfl, (blk_cell BK762.out 2).trans rfl, (blk_cell BK762.out 3).trans rfl, (blk_cell BK768.out 0).trans rfl, (blk_cell BK768.out 1).trans rfl, (blk_cell BK768.out 2).trans rfl⟩ (fun hHeld => ?_)
           clear hK K
           refine norm_ (a' := ?_) ?_ ?_; rotate_left
           ·show Act.put _ (some 85) _ = _
            simp only [Act.put, List.setIfInBounds_toArray, List.set_cons_zero, List.set_cons_succ, i64_w, i32_w]
            rfl
           refine pure_ (i := 20) (N := some 86) (v := ?_) (a' := ?_) #[true, true, true, true, true, true, true, true, true, true, true, true, true, true, true, true, true, true, true, true, true, false, false, false] rfl rfl (any_of HT_.out (by kernel_rfl)) (fun _ _ _ h => h) (Or.inl ⟨by rfl, ?_⟩) ?_ ?_; rotate_left
           ·intro w'; go_simp; with_reducible rfl
           rotate_left
           ·simp only [Act.put, List.setIfInBounds_toArray, List.set_cons_zero, List.set_cons_succ, i64_w, i32_w]; rfl
           refine pure_ (i := 21) (N := some 87) (v := ?_) (a' := ?_) #[true, true, true, true, true, true, true, true, true, true, true, true, true, true, true, true, true, true, true, true, true, true, false, false] rfl rfl (any_of HT_.out (by kernel_rfl)) (fun _ _ _ h => h) (Or.inl ⟨by rfl, ?_⟩) ?_ ?_; rotate_left
           ·intro w'; go_simp; with_reducible rfl
           rotate_left
           ·simp only [Act.put, List.setIfInBounds_toArray, List.set_cons_zero, List.set_cons_succ, i64_w, i32_w]; rfl
           refine pure_ (i := 22) (N := some 88) (v := ?_) (a' := ?_) #[true, true, true, true, true, true, true, true, true, true, true, true, true, true, true, true, true, true, true, true, true, true, true, false] rfl rfl (any_of HT_.out (by kernel_rfl)) (fun _ _ _ h => h) (Or.inl ⟨by rfl, ?_⟩) ?_ ?_; rotate_left
           ·intro w'; go_simp; with_reducible rfl
           rotate_left
           ·simp only [Act.put, List.setIfInBounds_toArray, List.set_cons_zero, List.set_cons_succ, i64_w, i32_w]; rfl
           refine pure_ (i := 23) (N := some 2) (v := ?_) (a' := ?_) #[true, true, true, true, true, true, true, true, true, true, true, true, true, true, true, true, true, true, true, true, true, true, true, true] rfl rfl (any_of HT_.out (by kernel_rfl)) (fun _ _ _ h => h) (Or.inl ⟨by rfl, ?_⟩) ?_ ?_; rotate_left
           ·intro w'; go_simp; with_reducible rfl
           rotate_left
           ·simp only [Act.put, List.setIfInBounds_toArray, List.set_cons_zero, List.set_cons_succ, i64_w, i32_w]; rfl
           refine done_ (done_of HT_.out (by kernel_rfl)) ?_
           try go_wp2
           go_ret
           exact ⟨zw, zz2⟩
          ·rw [if_neg c71] at H
           exact absurd H (by simp)
         ·rw [if_neg c70] at H
          exact absurd H (by simp)
        ·rw [if_neg c69] at H
         exact absurd H (by simp)
       ·replace c67 := Bool.eq_false_iff.mpr c67
        subst c67
        rw [if_neg (Bool.false_ne_true)] at H
        obtain rfl := Option.some.inj H
        try go_wp2
        have n0_ := zA (Kd.R_drew HO_3.out)
        have n1_ := zA (blk_drew BK762.out)
        have n2_ := zA (blk_drew BK768.out)
        have n3_ := zA (blk_drew BK774.out)
        have n4_ := zA (blk_drew BK785.out)
        have n5_ := zA (blk_drew BK786.out)
        have n6_ := zA (blk_drew BK787.out)
        have n7_ := zA (below_drew1 HB.out)
        clear HO_3 BK762 BK768 BK774 BK785 BK786 BK787 HB
        have HO_3 := n0_; have BK762 := n1_; have BK768 := n2_; have BK774 := n3_; have BK785 := n4_; have BK786 := n5_; have BK787 := n6_; have HB := n7_
        clear n0_ n1_ n2_ n3_ n4_ n5_ n6_ n7_
        refine start_ (n := 24) (S := fun w' => w'.cell? ⟨gb762, 0, none⟩ = some (.int .i64 t757) ∧ w'.cell? ⟨gb762, 1, none⟩ = some (.int .i64 t758) ∧ w'.cell? ⟨gb762, 2, none⟩ = some (.bool t759) ∧ w'.cell? ⟨gb762, 3, none⟩ = some (.bool t760) ∧ w'.cell? ⟨gb768, 0, none⟩ = some (.int .i64 t763) ∧ w'.cell? ⟨gb768, 1, none⟩ = some (.int .i64 t764) ∧ w'.cell? ⟨gb768, 2, none⟩ = some (.string t765)) (ds := []) #[false, false, false, false, false, false, false, false, false, false, false, false, false, false, false, false, false, false, false, false, false, false, false, false] (by kernel_rfl) rfl rfl ⟨(blk_cell BK762.out 0).trans rfl, (blk_cell BK762.out 1).trans rfl, (blk_cell BK762.out 2).trans rfl, (blk_cell BK762.out 3).trans rfl, (blk_cell BK768.out 0).trans rfl, (blk_cell BK768.out 1).trans rfl, (blk_cell BK768.out 2).trans rfl⟩ (fun hHeld => ?_); refine with_tabW laws_FnPartsRead.tab9 laws_FnPartsRead.bits9 (fun HT_ HW_ => ?_)
        generalize wc.drew = w81 at HO_3 BK762 BK768 BK774 BK785 BK786 BK787 HB hHeld ⊢
        refine pure_ (i := 0) (N := some 66) (v := ?_) (a' := ?_) #[true, false, false, false, false, false, false, false, false, false, false, false, false, false, false, false, false, false, false, false, false, false, false, false] rfl rfl (any_of HT_.out (by kernel_rfl)) (fun _ _ _ h => h) (Or.inl ⟨by rfl, ?_⟩) ?_ ?_; rotate_left
        ·intro w'; go_simp; with_reducible rfl
        rotate_left
        ·simp only [Act.put, List.setIfInBounds_toArray, List.set_cons_zero, List.set_cons_succ, i64_w, i32_w]; rfl
        refine pure_ (i := 1) (N := some 67) (v := ?_) (a' := ?_) #[true, true, false, false, false, false, false, false, false, false, false, false, false, false, false, false, false, false, false, false, false, false, false, false] rfl rfl (any_of HT_.out (by kernel_rfl)) (fun _ _ _ h => h) (Or.inl ⟨by rfl, ?_⟩) ?_ ?_; rotate_left
        ·intro w'; go_simp; with_reducible rfl
        rotate_left
        ·simp only [Act.put, List.setIfInBounds_toArray, List.set_cons_zero, List.set_cons_succ, i64_w, i32_w]; rfl
        refine pure_ (i := 2) (N := some 68) (v := ?_) (a' := ?_) #[true, true, true, false, false, false, false, false, false, false, false, false, false, false, false, false, false, false, false, false, false, false, false, false] rfl rfl (any_of HT_.out (by kernel_rfl)) (fun _ _ _ h => h) (Or.inl ⟨by rfl, ?_⟩) ?_ ?_; rotate_left
        ·intro w'; go_simp; with_reducible rfl
        rotate_left
        ·simp only [Act.put, List.setIfInBounds_toArray, List.set_cons_zero, List.set_cons_succ, i64_w, i32_w]; rfl
        refine pure_ (i := 3) (N := some 69) (v := ?_) (a' := ?_) #[true, true, true, true, false, false, false, false, false, false, false, false, false, false, false, false, false, false, false, false, false, false, false, false] rfl rfl (any_of HT_.out (by kernel_rfl)) (fun _ _ _ h => h) (Or.inl ⟨by rfl, ?_⟩) ?_ ?_; rotate_left
        ·intro w'; go_simp; with_reducible rfl
        rotate_left
        ·simp only [Act.put, List.setIfInBounds_toArray, List.set_cons_zero, List.set_cons_succ, i64_w, i32_w]; rfl
        refine pure_ (i := 4) (N := some 70) (v := ?_) (a' := ?_) #[true, true, true, true, true, false, false, false, false, false, false, false, false, false, false, false, false, false, false, false, false, false, false, false] rfl rfl (any_of HT_.out (by kernel_rfl)) (fun _ _ _ h => h) (Or.inl ⟨by rfl, ?_⟩) ?_ ?_; rotate_left
        ·intro w'; go_simp; with_reducible rfl
        rotate_left
        ·simp only [Act.put, List.setIfInBounds_toArray, List.set_cons_zero, List.set_cons_succ, i64_w, i32_w]; rfl
        refine pure_ (i := 5) (N := some 71) (v := ?_) (a' := ?_) #[true, true, true, true, true, true, false, false, false, false, false, false, false, false, false, false, false, false, false, false, false, false, false, false] rfl rfl (any_of HT_.out (by kernel_rfl)) (fun _ _ _ h => h) (Or.inl ⟨by rfl, ?_⟩) ?_ ?_; rotate_left
        ·intro w'; go_simp; with_reducible rfl
        rotate_left
        ·simp only [Act.put, List.setIfInBounds_toArray, List.set_cons_zero, List.set_cons_succ, i64_w, i32_w]; rfl
        refine pure_ (i := 6) (N := some 72) (v := ?_) (a' := ?_) #[true, true, true, true, true, true, true, false, false, false, false, false, false, false, false, false, false, false, false, false, false, false, false, false] rfl rfl (any_of HT_.out (by kernel_rfl)) (fun _ _ _ h => h) (Or.inl ⟨by rfl, ?_⟩) ?_ ?_; rotate_left
        ·intro w'; go_simp; with_reducible rfl
        rotate_left
        ·simp only [Act.put, List.setIfInBounds_toArray, List.set_cons_zero, List.set_cons_succ, i64_w, i32_w]; rfl
        refine take_ (i := 7) (N := some 73) (v := ?_) (a' := ?_) #[true, true, true, true, true, true, true, true, false, false, false, false, false, false, false, false, false, false, false, false, false, false, false, false] rfl rfl (take_ofW HT_.out HW_.out (by kernel_rfl)) (fun _ _ _ h => h) (Or.inl ⟨by rfl, ?_⟩) hHeld ?_ ?_; rotate_left
        ·rintro w' ⟨s0, s1, s2, s3, s4, s5, s6⟩
         go_simp
         with_reducible rfl
        rotate_left
        ·simp only [Act.put, List.setIfInBounds_toArray, List.set_cons_zero, List.set_cons_succ, i64_w, i32_w]; rfl
        refine take_ (i := 8) (N := some 74) (v := ?_) (a' := ?_) #[true, true, true, true, true, true, true, true, true, false, false, false, false, false, false, false, false, false, false, false, false, false, false, false] rfl rfl (take_ofW HT_.out HW_.out (by kernel_rfl)) (fun _ _ _ h => h) (Or.inl ⟨by rfl, ?_⟩) hHeld ?_ ?_; rotate_left
        ·rintro w' ⟨s0, s1, s2, s3, s4, s5, s6⟩
         go_simp
         with_reducible rfl
        rotate_left
        ·simp only [Act.put, List.setIfInBounds_toArray, List.set_cons_zero, List.set_cons_succ, i64_w, i32_w]; rfl
        refine one_ (i := 9) (N := some 75) #[true, true, true, true, true, true, true, true, true, true, false, false, false, false, false, false, false, false, false, false, false, false, false, false] rfl rfl (one_of HT_.out (by kernel_rfl)) (by decide) (fun K hK => ?_)
        refine goes_ Try.func31 (by kernel_rfl) rfl #[.agg #[.int .i64 t757, .int .i64 t758, .bool t759, .bool t760], .agg #[.int .i64 t763, .int .i64 t764, .string t765]] (by rfl) rfl rfl zz24 ?_
        with_reducible refine (impl_Fits.calls t757 t758 t759 t760 t763 t764 t765 false _ A66.out).mono ?_
        rintro e w82 ⟨rfl, hb⟩
        refine ⟨_, rfl, ?_⟩
        have n0_ := zR HO_3 hb
        have n1_ := zB BK762 hb
        have n2_ := zB BK768 hb
        have n3_ := zB BK774 hb
        have n4_ := zB BK785 hb
        have n5_ := zB BK786 hb
        have n6_ := zB BK787 hb
        have n7_ := zS hb zz2
        clear HO_3 BK762 BK768 BK774 BK785 BK786 BK787 HB
        have HO_3 := n0_; have BK762 := n1_; have BK768 := n2_; have BK774 := n3_; have BK785 := n4_; have BK786 := n5_; have BK787 := n6_; have HB := n7_
        clear n0_ n1_ n2_ n3_ n4_ n5_ n6_ n7_
        (try clear hb)
        (try clear hb2)
        (try clear hk)
        (try clear hi)
        refine hK.out _ _ ⟨(blk_cell BK762.out 0).trans rfl, (blk_cell BK762.out 1).trans rfl, (blk_cell BK762.out 2).trans rfl, (blk_cell BK762.out 3).trans rfl, (blk_cell BK768.out 0).trans rfl, (blk_cell BK768.out 1).trans rfl, (blk_cell BK768.out 2).trans rfl⟩ (fun hHeld => ?_)
        clear hK K
        refine norm_ (a' := ?_) ?_ ?_; rotate_left
        ·show Act.put _ (some 75) _ = _
         simp only [Act.put, List.setIfInBounds_toArray, List.set_cons_zero, List.set_cons_succ, i64_w, i32_w]
         rfl
        refine pure_ (i := 10) (N := some 76) (v := ?_) (a' := ?_) #[true, true, true, true, true, true, true, true, true, true, true, false, false, false, false, false, false, false, false, false, false, false, false, false] rfl rfl (any_of HT_.out (by kernel_rfl)) (fun _ _ _ h => h) (Or.inl ⟨by rfl, ?_⟩) ?_ ?_; rotate_left
        ·intro w'; go_simp; with_reducible rfl
        rotate_left
        ·simp only [Act.put, List.setIfInBounds_toArray, List.set_cons_zero, List.set_cons_succ, i64_w, i32_w]; rfl
        refine pure_ (i := 11) (N := some 77) (v := undef) (a' := ?_) #[true, true, true, true, true, true, true, true, true, true, true, true, false, false, false, false, false, false, false, false, false, false, false, false] rfl rfl (any_of HT_.out (by kernel_rfl)) (fun _ _ _ h => h) (Or.inr ⟨by rfl, rfl⟩) ?_ ?_; rotate_left
        ·simp only [Act.put, List.setIfInBounds_toArray, List.set_cons_zero, List.set_cons_succ, i64_w, i32_w]; rfl
        refine pure_ (i := 12) (N := some 78) (v := undef) (a' := ?_) #[true, true, true, true, true, true, true, true, true, true, true, true, true, false, false, false, false, false, false, false, false, false, false, false] rfl rfl (any_of HT_.out (by kernel_rfl)) (fun _ _ _ h => h) (Or.inr ⟨by rfl, rfl⟩) ?_ ?_; rotate_left
        ·simp only [Act.put, List.setIfInBounds_toArray, List.set_cons_zero, List.set_cons_succ, i64_w, i32_w]; rfl
        refine pure_ (i := 13) (N := some 79) (v := undef) (a' := ?_) #[true, true, true, true, true, true, true, true, true, true, true, true, true, true, false, false, false, false, false, false, false, false, false, false] rfl rfl (any_of HT_.out (by kernel_rfl)) (fun _ _ _ h => h) (Or.inr ⟨by rfl, rfl⟩) ?_ ?_; rotate_left
        ·simp only [Act.put, List.setIfInBounds_toArray, List.set_cons_zero, List.set_cons_succ, i64_w, i32_w]; rfl
        refine pure_ (i := 14) (N := some 80) (v := undef) (a' := ?_) #[true, true, true, true, true, true, true, true, true, true, true, true, true, true, true, false, false, false, false, false, false, false, false, false] rfl rfl (any_of HT_.out (by kernel_rfl)) (fun _ _ _ h => h) (Or.inr ⟨by rfl, rfl⟩) ?_ ?_; rotate_left
        ·simp only [Act.put, List.setIfInBounds_toArray, List.set_cons_zero, List.set_cons_succ, i64_w, i32_w]; rfl
        refine pure_ (i := 15) (N := some 81) (v := undef) (a' := ?_) #[true, true, true, true, true, true, true, true, true, true, true, true, true, true, true, true, false, false, false, false, false, false, false, false] rfl rfl (any_of HT_.out (by kernel_rfl)) (fun _ _ _ h => h) (Or.inr ⟨by rfl, rfl⟩) ?_ ?_; rotate_left
        ·simp only [Act.put, List.setIfInBounds_toArray, List.set_cons_zero, List.set_cons_succ, i64_w, i32_w]; rfl
        refine pure_ (i := 16) (N := some 82) (v := undef) (a' := ?_) #[true, true, true, true, true, true, true, true, true, true, true, true, true, true, true, true, true, false, false, false, false, false, false, false] rfl rfl (any_of HT_.out (by kernel_rfl)) (fun _ _ _ h => h) (Or.inr ⟨by rfl, rfl⟩) ?_ ?_; rotate_left
        ·simp only [Act.put, List.setIfInBounds_toArray, List.set_cons_zero, List.set_cons_succ, i64_w, i32_w]; rfl
        refine pure_ (i := 17) (N := some 83) (v := undef) (a' := ?_) #[true, true, true, true, true, true, true, true, true, true, true, true, true, true, true, true, true, true, false, false, false, false, false, false] rfl rfl (any_of HT_.out (by kernel_rfl)) (fun _ _ _ h => h) (Or.inr ⟨by rfl, rfl⟩) ?_ ?_; rotate_left
        ·simp only [Act.put, List.setIfInBounds_toArray, List.set_cons_zero, List.set_cons_succ, i64_w, i32_w]; rfl
        refine pure_ (i := 18) (N := some 84) (v := undef) (a' := ?_) #[true, true, true, true, true, true, true, true, true, true, true, true, true, true, true, true, true, true, true, false, false, false, false, false] rfl rfl (any_of HT_.out (by kernel_rfl)) (fun _ _ _ h => h) (Or.inr ⟨by rfl, rfl⟩) ?_ ?_; rotate_left
        ·simp only [Act.put, List.setIfInBounds_toArray, List.set_cons_zero, List.set_cons_succ, i64_w, i32_w]; rfl
        refine pure_ (i := 19) (N := some 85) (v := undef) (a' := ?_) #[true, true, true, true, true, true, true, true, true, true, true, true, true, true, true, true, true, true, true, true, false, false, false, false] rfl rfl (any_of HT_.out (by kernel_rfl)) (fun _ _ _ h => h) (Or.inr ⟨by rfl, rfl⟩) ?_ ?_; rotate_left
        ·simp only [Act.put, List.setIfInBounds_toArray, List.set_cons_zero, List.set_cons_succ, i64_w, i32_w]; rfl
        refine pure_ (i := 20) (N := some 86) (v := ?_) (a' := ?_) #[true, true, true, true, true, true, true, true, true, true, true, true, true, true, true, true, true, true, true, true, true, false, false, false] rfl rfl (any_of HT_.out (by kernel_rfl)) (fun _ _ _ h => h) (Or.inl ⟨by rfl, ?_⟩) ?_ ?_; rotate_left
        ·intro w'; go_simp; with_reducible rfl
        rotate_left
        ·simp only [Act.put, List.setIfInBounds_toArray, List.set_cons_zero, List.set_cons_succ, i64_w, i32_w]; rfl
        refine pure_ (i := 21) (N := some 87) (v := ?_) (a' := ?_) #[true, true, true, true, true, true, true, true, true, true, true, true, true, true, true, true, true, true, true, true, true, true, false, false] rfl rfl (any_of HT_.out (by kernel_rfl)) (fun _ _ _ h => h) (Or.inl ⟨by rfl, ?_⟩) ?_ ?_; rotate_left
        ·intro w'; go_simp; with_reducible rfl
        rotate_left
        ·simp only [Act.put, List.setIfInBounds_toArray, List.set_cons_zero, List.set_cons_succ, i64_w, i32_w]; rfl
        refine pure_ (i := 22) (N := some 88) (v := ?_) (a' := ?_) #[true, true, true, true, true, true, true, true, true, true, true, true, true, true, true, true, true, true, true, true, true, true, true, false] rfl rfl (any_of HT_.out (by kernel_rfl)) (fun _ _ _ h => h) (Or.inl ⟨by rfl, ?_⟩) ?_ ?_; rotate_left
        ·intro w'; go_simp; with_reducible rfl
        rotate_left
        ·simp only [Act.put, List.setIfInBounds_toArray, List.set_cons_zero, List.set_cons_succ, i64_w, i32_w]; rfl
        refine pure_ (i := 23) (N := some 2) (v := ?_) (a' := ?_) #[true, true, true, true, true, true, true, true, true, true, true, true, true, true, true, true, true, true, true, true, true, true, true, true] rfl rfl (any_of HT_.out (by kernel_rfl)) (fun _ _ _ h => h) (Or.inl ⟨by rfl, ?_⟩) ?_ ?_; rotate_left
        ·intro w'; go_simp; with_reducible rfl
        rotate_left
        ·simp only [Act.put, List.setIfInBounds_toArray, List.set_cons_zero, List.set_cons_succ, i64_w, i32_w]; rfl
        refine done_ (done_of HT_.out (by kernel_rfl)) ?_
        try go_wp2
        go_ret
        exact ⟨zw, zz2⟩
      ·replace c65 := Bool.eq_false_iff.mpr c65
       subst c65
       rw [if_neg (Bool.false_ne_true)] at H
       obtain rfl := Option.some.inj H
       try go_wp2
       have n0_ := zA (Kd.R_drew HO_3.out)
       have n1_ := zA (blk_drew BK762.out)
       have n2_ := zA (blk_drew BK768.out)
       have n3_ := zA (blk_drew BK774.out)
       have n4_ := zA (blk_drew BK785.out)
       have n5_ := zA (blk_drew BK786.out)
       have n6_ := zA (blk_drew BK787.out)
       have n7_ := zA (below_drew1 HB.out)
       clear HO_3 BK762 BK768 BK774 BK785 BK786 BK787 HB
       have HO_3 := n0_; have BK762 := n1_; have BK768 := n2_; have BK774 := n3_; have BK785 := n4_; have BK786 := n5_; have BK787 := n6_; have HB := n7_
       clear n0_ n1_ n2_ n3_ n4_ n5_ n6_ n7_
       refine start_ (n := 24) (S := fun w' => True) (ds := []) #[false, false, false, false, false, false, false, false, false, false, false, false, false, false, false, false, false, false, false, false, false, false, false, false] (by kernel_rfl) rfl rfl trivial (fun hHeld => ?_); refine with_tabW laws_FnPartsRead.tab9 laws_FnPartsRead.bits9 (fun HT_ HW_ => ?_)
       generalize wc.drew = w83 at HO_3 BK762 BK768 BK774 BK785 BK786 BK787 HB hHeld ⊢
       refine pure_ (i := 0) (N := some 66) (v := ?_) (a' := ?_) #[true, false, false, false, false, false, false, false, false, false, false, false, false, false, false, false, false, false, false, false, false, false, false, false] rfl rfl (any_of HT_.out (by kernel_rfl)) (fun _ _ _ h => h) (Or.inl ⟨by rfl, ?_⟩) ?_ ?_; rotate_left
       ·intro w'; go_simp; with_reducible rfl
       rotate_left
       ·simp only [Act.put, List.setIfInBounds_toArray, List.set_cons_zero, List.set_cons_succ, i64_w, i32_w]; rfl
       refine pure_ (i := 1) (N := some 67) (v := ?_) (a' := ?_) #[true, true, false, false, false, false, false, false, false, false, false, false, false, false, false, false, false, false, false, false, false, false, false, false] rfl rfl (any_of HT_.out (by kernel_rfl)) (fun _ _ _ h => h) (Or.inl ⟨by rfl, ?_⟩) ?_ ?_; rotate_left
       ·intro w'; go_simp; with_reducible rfl
       rotate_left
       ·simp only [Act.put, List.setIfInBounds_toArray, List.set_cons_zero, List.set_cons_succ, i64_w, i32_w]; rfl
       refine pure_ (i := 2) (N := some 68) (v := ?_) (a' := ?_) #[true, true, true, false, false, false, false, false, false, false, false, false, false, false, false, false, false, false, false, false, false, false, false, false] rfl rfl (any_of HT_.out (by kernel_rfl)) (fun _ _ _ h => h) (Or.inl ⟨by rfl, ?_⟩) ?_ ?_; rotate_left
       ·intro w'; go_simp; with_reducible rfl
       rotate_left
       ·simp only [Act.put, List.setIfInBounds_toArray, List.set_cons_zero, List.set_cons_succ, i64_w, i32_w]; rfl
       refine pure_ (i := 3) (N := some 69) (v := ?_) (a' := ?_) #[true, true, true, true, false, false, false, false, false, false, false, false, false, false, false, false, false, false, false, false, false, false, false, false] rfl rfl (any_of HT_.out (by kernel_rfl)) (fun _ _ _ h => h) (Or.inl ⟨by rfl, ?_⟩) ?_ ?_; rotate_left
       ·intro w'; go_simp; with_reducible rfl
       rotate_left
       ·simp only [Act.put, List.setIfInBounds_toArray, List.set_cons_zero, List.set_cons_succ, i64_w, i32_w]; rfl
       refine pure_ (i := 4) (N := some 70) (v := ?_) (a' := ?_) #[true, true, true, true, true, false, false, false, false, false, false, false, false, false, false, false, false, false, false, false, false, false, false, false] rfl rfl (any_of HT_.out (by kernel_rfl)) (fun _ _ _ h => h) (Or.inl ⟨by rfl, ?_⟩) ?_ ?_; rotate_left
       ·intro w'; go_simp; with_reducible rfl
       rotate_left
       ·simp only [Act.put, List.setIfInBounds_toArray, List.set_cons_zero, List.set_cons_succ, i64_w, i32_w]; rfl
       refine pure_ (i := 5) (N := some 71) (v := ?_) (a' := ?_) #[true, true, true, true, true, true, false, false, false, false, false, false, false, false, false, false, false, false, false, false, false, false, false, false] rfl rfl (any_of HT_.out (by kernel_rfl)) (fun _ _ _ h => h) (Or.inl ⟨by rfl, ?_⟩) ?_ ?_; rotate_left
       ·intro w'; go_simp; with_reducible rfl
       rotate_left
       ·simp only [Act.put, List.setIfInBounds_toArray, List.set_cons_zero, List.set_cons_succ, i64_w, i32_w]; rfl
       refine pure_ (i := 6) (N := some 72) (v := ?_) (a' := ?_) #[true, true, true, true, true, true, true, false, false, false, false, false, false, false, false, false, false, false, false, false, false, false, false, false] rfl rfl (any_of HT_.out (by kernel_rfl)) (fun _ _ _ h => h) (Or.inl ⟨by rfl, ?_⟩) ?_ ?_; rotate_left
       ·intro w'; go_simp; with_reducible rfl
       rotate_left
       ·simp only [Act.put, List.setIfInBounds_toArray, List.set_cons_zero, List.set_cons_succ, i64_w, i32_w]; rfl
       refine pure_ (i := 7) (N := some 73) (v := undef) (a' := ?_) #[true, true, true, true, true, true, true, true, false, false, false, false, false, false, false, false, false, false, false, false, false, false, false, false] rfl rfl (any_of HT_.out (by kernel_rfl)) (fun _ _ _ h => h) (Or.inr ⟨by rfl, rfl⟩) ?_ ?_; rotate_left
       ·simp only [Act.put, List.setIfInBounds_toArray, List.set_cons_zero, List.set_cons_succ, i64_w, i32_w]; rfl
       refine pure_ (i := 8) (N := some 74) (v := undef) (a' := ?_) #[true, true, true, true, true, true, true, true, true, false, false, false, false, false, false, false, false, false, false, false, false, false, false, false] rfl rfl (any_of HT_.out (by kernel_rfl)) (fun _ _ _ h => h) (Or.inr ⟨by rfl, rfl⟩) ?_ ?_; rotate_left
       ·simp only [Act.put, List.setIfInBounds_toArray, List.set_cons_zero, List.set_cons_succ, i64_w, i32_w]; rfl
       refine pure_ (i := 9) (N := some 75) (v := undef) (a' := ?_) #[true, true, true, true, true, true, true, true, true, true, false, false, false, false, false, false, false, false, false, false, false, false, false, false] rfl rfl (any_of HT_.out (by kernel_rfl)) (fun _ _ _ h => h) (Or.inr ⟨by rfl, rfl⟩) ?_ ?_; rotate_left
       ·simp only [Act.put, List.setIfInBounds_toArray, List.set_cons_zero, List.set_cons_succ, i64_w, i32_w]; rfl
       refine pure_ (i := 10) (N := some 76) (v := undef) (a' := ?_) #[true, true, true, true, true, true, true, true, true, true, true, false, false, false, false, false, false, false, false, false, false, false, false, false] rfl rfl (any_of HT_.out (by kernel_rfl)) (fun _ _ _ h => h) (Or.inr ⟨by rfl, rfl⟩) ?_ ?_; rotate_left
       ·simp only [Act.put, List.setIfInBounds_toArray, List.set_cons_zero, List.set_cons_succ, i64_w, i32_w]; rfl
       refine pure_ (i := 11) (N := some 77) (v := undef) (a' := ?_) #[true, true, true, true, true, true, true, true, true, true, true, true, false, false, false, false, false, false, false, false, false, false, false, false] rfl rfl (any_of HT_.out (by kernel_rfl)) (fun _ _ _ h => h) (Or.inr ⟨by rfl, rfl⟩) ?_ ?_; rotate_left
       ·simp only [Act.put, List.setIfInBounds_toArray, List.set_cons_zero, List.set_cons_succ, i64_w, i32_w]; rfl
       refine pure_ (i := 12) (N := some 78) (v := undef) (a' := ?_) #[true, true, true, true, true, true, true, true, true, true, true, true, true, false, false, false, false, false, false, false, false, false, false, false] rfl rfl (any_of HT_.out (by kernel_rfl)) (fun _ _ _ h => h) (Or.inr ⟨by rfl, rfl⟩) ?_ ?_; rotate_left
       ·simp only [Act.put, List.setIfInBounds_toArray, List.set_cons_zero, List.set_cons_succ, i64_w, i32_w]; rfl
       refine pure_ (i := 13) (N := some 79) (v := undef) (a' := ?_) #[true, true, true, true, true, true, true, true, true, true, true, true, true, true, false, false, false, false, false, false, false, false, false, false] rfl rfl (any_of HT_.out (by kernel_rfl)) (fun _ _ _ h => h) (Or.inr ⟨by rfl, rfl⟩) ?_ ?_; rotate_left
       ·simp only [Act.put, List.setIfInBounds_toArray, List.set_cons_zero, List.set_cons_succ, i64_w, i32_w]; rfl
       refine pure_ (i := 14) (N := some 80) (v := undef) (a' := ?_) #[true, true, true, true, true, true, true, true, true, true, true, true, true, true, true, false, false, false, false, false, false, false, false, false] rfl rfl (any_of HT_.out (by kernel_rfl)) (fun _ _ _ h => h) (Or.inr ⟨by rfl, rfl⟩) ?_ ?_; rotate_left
       ·simp only [Act.put, List.setIfInBounds_toArray, List.set_cons_zero, List.set_cons_succ, i64_w, i32_w]; rfl
       refine pure_ (i := 15) (N := some 81) (v := undef) (a' := ?_) #[true, true, true, true, true, true, true, true, true, true, true, true, true, true, true, true, false, false, false, false, false, false, false, false] rfl rfl (any_of HT_.out (by kernel_rfl)) (fun _ _ _ h => h) (Or.inr ⟨by rfl, rfl⟩) ?_ ?_; rotate_left
       ·simp only [Act.put, List.setIfInBounds_toArray, List.set_cons_zero, List.set_cons_succ, i64_w, i32_w]; rfl
       refine pure_ (i := 16) (N := some 82) (v := undef) (a' := ?_) #[true, true, true, true, true, true, true, true, true, true, true, true, true, true, true, true, true, false, false, false, false, false, false, false] rfl rfl (any_of HT_.out (by kernel_rfl)) (fun _ _ _ h => h) (Or.inr ⟨by rfl, rfl⟩) ?_ ?_; rotate_left
       ·simp only [Act.put, List.setIfInBounds_toArray, List.set_cons_zero, List.set_cons_succ, i64_w, i32_w]; rfl
       refine pure_ (i := 17) (N := some 83) (v := undef) (a' := ?_) #[true, true, true, true, true, true, true, true, true, true, true, true, true, true, true, true, true, true, false, false, false, false, false, false] rfl rfl (any_of HT_.out (by kernel_rfl)) (fun _ _ _ h => h) (Or.inr ⟨by rfl, rfl⟩) ?_ ?_; rotate_left
       ·simp only [Act.put, List.setIfInBounds_toArray, List.set_cons_zero, List.set_cons_succ, i64_w, i32_w]; rfl
       refine pure_ (i := 18) (N := some 84) (v := undef) (a' := ?_) #[true, true, true, true, true, true, true, true, true, true, true, true, true, true, true, true, true, true, true, false, false, false, false, false] rfl rfl (any_of HT_.out (by kernel_rfl)) (fun _ _ _ h => h) (Or.inr ⟨by rfl, rfl⟩) ?_ ?_; rotate_left
       ·simp only [Act.put, List.setIfInBounds_toArray, List.set_cons_zero, List.set_cons_succ, i64_w, i32_w]; rfl
       refine pure_ (i := 19) (N := some 85) (v := undef) (a' := ?_) #[true, true, true, true, true, true, true, true, true, true, true, true, true, true, true, true, true, true, true, true, false, false, false, false] rfl rfl (any_of HT_.out (by kernel_rfl)) (fun _ _ _ h => h) (Or.inr ⟨by rfl, rfl⟩) ?_ ?_; rotate_left
       ·simp only [Act.put, List.setIfInBounds_toArray, List.set_cons_zero, List.set_cons_succ, i64_w, i32_w]; rfl
       refine pure_ (i := 20) (N := some 86) (v := undef) (a' := ?_) #[true, true, true, true, true, true, true, true, true, true, true, true, true, true, true, true, true, true, true, true, true, false, false, false] rfl rfl (any_of HT_.out (by kernel_rfl)) (fun _ _ _ h => h) (Or.inr ⟨by rfl, rfl⟩) ?_ ?_; rotate_left
       ·simp only [Act.put, List.setIfInBounds_toArray, List.set_cons_zero, List.set_cons_succ, i64_w, i32_w]; rfl
       refine pure_ (i := 21) (N := some 87) (v := ?_) (a' := ?_) #[true, true, true, true, true, true, true, true, true, true, true, true, true, true, true, true, true, true, true, true, true, true, false, false] rfl rfl (any_of HT_.out (by kernel_rfl)) (fun _ _ _ h => h) (Or.inl ⟨by rfl, ?_⟩) ?_ ?_; rotate_left
       ·intro w'; go_simp; with_reducible rfl
       rotate_left
       ·simp only [Act.put, List.setIfInBounds_toArray, List.set_cons_zero, List.set_cons_succ, i64_w, i32_w]; rfl
       refine pure_ (i := 22) (N := some 88) (v := ?_) (a' := ?_) #[true, true, true, true, true, true, true, true, true, true, true, true, true, true, true, true, true, true, true, true, true, true, true, false] rfl rfl (any_of HT_.out (by kernel_rfl)) (fun _ _ _ h => h) (Or.inl ⟨by rfl, ?_⟩) ?_ ?_; rotate_left
       ·intro w'; go_simp; with_reducible rfl
       rotate_left
       ·simp only [Act.put, List.setIfInBounds_toArray, List.set_cons_zero, List.set_cons_succ, i64_w, i32_w]; rfl
       refine pure_ (i := 23) (N := some 2) (v := ?_) (a' := ?_) #[true, true, true, true, true, true, true, true, true, true, true, true, true, true, true, true, true, true, true, true, true, true, true, true] rfl rfl (any_of HT_.out (by kernel_rfl)) (fun _ _ _ h => h) (Or.inl ⟨by rfl, ?_⟩) ?_ ?_; rotate_left
       ·intro w'; go_simp; with_reducible rfl
       rotate_left
       ·simp only [Act.put, List.setIfInBounds_toArray, List.set_cons_zero, List.set_cons_succ, i64_w, i32_w]; rfl
       refine done_ (done_of HT_.out (by kernel_rfl)) ?_
       try go_wp2
       go_ret
       exact ⟨zw, zz2⟩
     ·rw [if_neg c64] at H
      have c64b0 : (t767 == t773) = false := by simpa using c64
      (try (have c64b1 : decide (t767 = t773) = false := by simpa using c64))
      (try (have c64b2 : (t767 == t773) = false := by simpa using c64))
      (try (have c64b3 : ¬ (t767 = t773) := by simpa using c64))
      clear c64
      obtain rfl := Option.some.inj H
      try go_wp2
      have n0_ := zA (Kd.R_drew HO_3.out)
      have n1_ := zA (blk_drew BK762.out)
      have n2_ := zA (blk_drew BK768.out)
      have n3_ := zA (blk_drew BK774.out)
      have n4_ := zA (blk_drew BK785.out)
      have n5_ := zA (blk_drew BK786.out)
      have n6_ := zA (blk_drew BK787.out)
      have n7_ := zA (below_drew1 HB.out)
      clear HO_3 BK762 BK768 BK774 BK785 BK786 BK787 HB
      have HO_3 := n0_; have BK762 := n1_; have BK768 := n2_; have BK774 := n3_; have BK785 := n4_; have BK786 := n5_; have BK787 := n6_; have HB := n7_
      clear n0_ n1_ n2_ n3_ n4_ n5_ n6_ n7_
      refine start_ (n := 24) (S := fun w' => True) (ds := []) #[false, false, false, false, false, false, false, false, false, false, false, false, false, false, false, false, false, false, false, false, false, false, false, false] (by kernel_rfl) rfl rfl trivial (fun hHeld => ?_); refine with_tabW laws_FnPartsRead.tab9 laws_FnPartsRead.bits9 (fun HT_ HW_ => ?_)
      generalize wc.drew = w84 at HO_3 BK762 BK768 BK774 BK785 BK786 BK787 HB hHeld ⊢
      refine pure_ (i := 0) (N := some 66) (v := ?_) (a' := ?_) #[true, false, false, false, false, false, false, false, false, false, false, false, false, false, false, false, false, false, false, false, false, false, false, false] rfl rfl (any_of HT_.out (by kernel_rfl)) (fun _ _ _ h => h) (Or.inl ⟨by rfl, ?_⟩) ?_ ?_; rotate_left
      ·intro w'; go_simp; with_reducible rfl
      rotate_left
      ·simp only [Act.put, List.setIfInBounds_toArray, List.set_cons_zero, List.set_cons_succ, i64_w, i32_w]; rfl
      refine pure_ (i := 1) (N := some 67) (v := ?_) (a' := ?_) #[true, true, false, false, false, false, false, false, false, false, false, false, false, false, false, false, false, false, false, false, false, false, false, false] rfl rfl (any_of HT_.out (by kernel_rfl)) (fun _ _ _ h => h) (Or.inl ⟨by rfl, ?_⟩) ?_ ?_; rotate_left
      ·intro w'; go_simp; with_reducible rfl
      rotate_left
      ·simp only [Act.put, List.setIfInBounds_toArray, List.set_cons_zero, List.set_cons_succ, i64_w, i32_w]; rfl
      refine pure_ (i := 2) (N := some 68) (v := ?_) (a' := ?_) #[true, true, true, false, false, false, false, false, false, false, false, false, false, false, false, false, false, false, false, false, false, false, false, false] rfl rfl (any_of HT_.out (by kernel_rfl)) (fun _ _ _ h => h) (Or.inl ⟨by rfl, ?_⟩) ?_ ?_; rotate_left
      ·intro w'; go_simp; with_reducible rfl
      rotate_left
      ·simp only [Act.put, List.setIfInBounds_toArray, List.set_cons_zero, List.set_cons_succ, i64_w, i32_w]; rfl
      refine pure_ (i := 3) (N := some 69) (v := ?_) (a' := ?_) #[true, true, true, true, false, false, false, false, false, false, false, false, false, false, false, false, false, false, false, false, false, false, false, false] rfl rfl (any_of HT_.out (by kernel_rfl)) (fun _ _ _ h => h) (Or.inl ⟨by rfl, ?_⟩) ?_ ?_; rotate_left
      ·intro w'; go_simp; with_reducible rfl
      rotate_left
      ·simp only [Act.put, List.setIfInBounds_toArray, List.set_cons_zero, List.set_cons_succ, i64_w, i32_w]; rfl
      refine pure_ (i := 4) (N := some 70) (v := undef) (a' := ?_) #[true, true, true, true, true, false, false, false, false, false, false, false, false, false, false, false, false, false, false, false, false, false, false, false] rfl rfl (any_of HT_.out (by kernel_rfl)) (fun _ _ _ h => h) (Or.inr ⟨by rfl, rfl⟩) ?_ ?_; rotate_left
      ·simp only [Act.put, List.setIfInBounds_toArray, List.set_cons_zero, List.set_cons_succ, i64_w, i32_w]; rfl
      refine pure_ (i := 5) (N := some 71) (v := undef) (a' := ?_) #[true, true, true, true, true, true, false, false, false, false, false, false, false, false, false, false, false, false, false, false, false, false, false, false] rfl rfl (any_of HT_.out (by kernel_rfl)) (fun _ _ _ h => h) (Or.inr ⟨by rfl, rfl⟩) ?_ ?_; rotate_left
      ·simp only [Act.put, List.setIfInBounds_toArray, List.set_cons_zero, List.set_cons_succ, i64_w, i32_w]; rfl
      refine pure_ (i := 6) (N := some 72) (v := undef) (a' := ?_) #[true, true, true, true, true, true, true, false, false, false, false, false, false, false, false, false, false, false, false, false, false, false, false, false] rfl rfl (any_of HT_.out (by kernel_rfl)) (fun _ _ _ h => h) (Or.inr ⟨by rfl, rfl⟩) ?_ ?_; rotate_left
      ·simp only [Act.put, List.setIfInBounds_toArray, List.set_cons_zero, List.set_cons_succ, i64_w, i32_w]; rfl
      refine pure_ (i := 7) (N := some 73) (v := undef) (a' := ?_) #[true, true, true, true, true, true, true, true, false, false, false, false, false, false, false, false, false, false, false, false, false, false, false, false] rfl rfl (any_of HT_.out (by kernel_rfl)) (fun _ _ _ h => h) (Or.inr ⟨by rfl, rfl⟩) ?_ ?_; rotate_left
      ·simp only [Act.put, List.setIfInBounds_toArray, List.set_cons_zero, List.set_cons_succ, i64_w, i32_w]; rfl
      refine pure_ (i := 8) (N := some 74) (v := undef) (a' := ?_) #[true, true, true, true, true, true, true, true, true, false, false, false, false, false, false, false, false, false, false, false, false, false, false, false] rfl rfl (any_of HT_.out (by kernel_rfl)) (fun _ _ _ h => h) (Or.inr ⟨by rfl, rfl⟩) ?_ ?_; rotate_left
      ·simp only [Act.put, List.setIfInBounds_toArray, List.set_cons_zero, List.set_cons_succ, i64_w, i32_w]; rfl
      refine pure_ (i := 9) (N := some 75) (v := undef) (a' := ?_) #[true, true, true, true, true, true, true, true, true, true, false, false, false, false, false, false, false, false, false, false, false, false, false, false] rfl rfl (any_of HT_.out (by kernel_rfl)) (fun _ _ _ h => h) (Or.inr ⟨by rfl, rfl⟩) ?_ ?_; rotate_left
      ·simp only [Act.put, List.setIfInBounds_toArray, List.set_cons_zero, List.set_cons_succ, i64_w, i32_w]; rfl
      refine pure_ (i := 10) (N := some 76) (v := undef) (a' := ?_) #[true, true, true, true, true, true, true, true, true, true, true, false, false, false, false, false, false, false, false, false, false, false, false, false] rfl rfl (any_of HT_.out (by kernel_rfl)) (fun _ _ _ h => h) (Or.inr ⟨by rfl, rfl⟩) ?_ ?_; rotate_left
      ·simp only [Act.put, List.setIfInBounds_toArray, List.set_cons_zero, List.set_cons_succ, i64_w, i32_w]; rfl
      refine pure_ (i := 11) (N := some 77) (v := undef) (a' := ?_) #[true, true, true, true, true, true, true, true, true, true, true, true, false, false, false, false, false, false, false, false, false, false, false, false] rfl rfl (any_of HT_.out (by kernel_rfl)) (fun _ _ _ h => h) (Or.inr ⟨by rfl, rfl⟩) ?_ ?_; rotate_left
      ·simp only [Act.put, List.setIfInBounds_toArray, List.set_cons_zero, List.set_cons_succ, i64_w, i32_w]; rfl
      refine pure_ (i := 12) (N := some 78) (v := undef) (a' := ?_) #[true, true, true, true, true, true, true, true, true, true, true, true, true, false, false, false, false, false, false, false, false, false, false, false] rfl rfl (any_of HT_.out (by kernel_rfl)) (fun _ _ _ h => h) (Or.inr ⟨by rfl, rfl⟩) ?_ ?_; rotate_left
      ·simp only [Act.put, List.setIfInBounds_toArray, List.set_cons_zero, List.set_cons_succ, i64_w, i32_w]; rfl
      refine pure_ (i := 13) (N := some 79) (v := undef) (a' := ?_) #[true, true, true, true, true, true, true, true, true, true, true, true, true, true, false, false, false, false, false, false, false, false, false, false] rfl rfl (any_of HT_.out (by kernel_rfl)) (fun _ _ _ h => h) (Or.inr ⟨by rfl, rfl⟩) ?_ ?_; rotate_left
      ·simp only [Act.put, List.setIfInBounds_toArray, List.set_cons_zero, List.set_cons_succ, i64_w, i32_w]; rfl
      refine pure_ (i := 14) (N := some 80) (v := undef) (a' := ?_) #[true, true, true, true, true, true, true, true, true, true, true, true, true, true, true, false, false, false, false, false, false, false, false, false] rfl rfl (any_of HT_.out (by kernel_rfl)) (fun _ _ _ h => h) (Or.inr ⟨by rfl, rfl⟩) ?_ ?_; rotate_left
      ·simp only [Act.put, List.setIfInBounds_toArray, List.set_cons_zero, List.set_cons_succ, i64_w, i32_w]; rfl
      refine pure_ (i := 15) (N := some 81) (v := undef) (a' := ?_) #[true, true, true, true, true, true, true, true, true, true, true, true, true, true, true, true, false, false, false, false, false, false, false, false] rfl rfl (any_of HT_.out (by kernel_rfl)) (fun _ _ _ h => h) (Or.inr ⟨by rfl, rfl⟩) ?_ ?_; rotate_left
      ·simp only [Act.put, List.setIfInBounds_toArray, List.set_cons_zero, List.set_cons_succ, i64_w, i32_w]; rfl
      refine pure_ (i := 16) (N := some 82) (v := undef) (a' := ?_) #[true, true, true, true, true, true, true, true, true, true, true, true, true, true, true, true, true, false, false, false, false, false, false, false] rfl rfl (any_of HT_.out (by kernel_rfl)) (fun _ _ _ h => h) (Or.inr ⟨by rfl, rfl⟩) ?_ ?_; rotate_left
      ·simp only [Act.put, List.setIfInBounds_toArray, List.set_cons_zero, List.set_cons_succ, i64_w, i32_w]; rfl
      refine pure_ (i := 17) (N := some 83) (v := undef) (a' := ?_) #[true, true, true, true, true, true, true, true, true, true, true, true, true, true, true, true, true, true, false, false, false, false, false, false] rfl rfl (any_of HT_.out (by kernel_rfl)) (fun _ _ _ h => h) (Or.inr ⟨by rfl, rfl⟩) ?_ ?_; rotate_left
      ·simp only [Act.put, List.setIfInBounds_toArray, List.set_cons_zero, List.set_cons_succ, i64_w, i32_w]; rfl
      refine pure_ (i := 18) (N := some 84) (v := undef) (a' := ?_) #[true, true, true, true, true, true, true, true, true, true, true, true, true, true, true, true, true, true, true, false, false, false, false, false] rfl rfl (any_of HT_.out (by kernel_rfl)) (fun _ _ _ h => h) (Or.inr ⟨by rfl, rfl⟩) ?_ ?_; rotate_left
      ·simp only [Act.put, List.setIfInBounds_toArray, List.set_cons_zero, List.set_cons_succ, i64_w, i32_w]; rfl
      refine pure_ (i := 19) (N := some 85) (v := undef) (a' := ?_) #[true, true, true, true, true, true, true, true, true, true, true, true, true, true, true, true, true, true, true, true, false, false, false, false] rfl rfl (any_of HT_.out (by kernel_rfl)) (fun _ _ _ h => h) (Or.inr ⟨by rfl, rfl⟩) ?_ ?_; rotate_left
      ·simp only [Act.put, List.setIfInBounds_toArray, List.set_cons_zero, List.set_cons_succ, i64_w, i32_w]; rfl
      refine pure_ (i := 20) (N := some 86) (v := undef) (a' := ?_) #[true, true, true, true, true, true, true, true, true, true, true, true, true, true, true, true, true, true, true, true, true, false, false, false] rfl rfl (any_of HT_.out (by kernel_rfl)) (fun _ _ _ h => h) (Or.inr ⟨by rfl, rfl⟩) ?_ ?_; rotate_left
      ·simp only [Act.put, List.setIfInBounds_toArray, List.set_cons_zero, List.set_cons_succ, i64_w, i32_w]; rfl
      refine pure_ (i := 21) (N := some 87) (v := undef) (a' := ?_) #[true, true, true, true, true, true, true, true, true, true, true, true, true, true, true, true, true, true, true, true, true, true, false, false] rfl rfl (any_of HT_.out (by kernel_rfl)) (fun _ _ _ h => h) (Or.inr ⟨by rfl, rfl⟩) ?_ ?_; rotate_left
      ·simp only [Act.put, List.setIfInBounds_toArray, List.set_cons_zero, List.set_cons_succ, i64_w, i32_w]; rfl
      refine pure_ (i := 22) (N := some 88) (v := ?_) (a' := ?_) #[true, true, true, true, true, true, true, true, true, true, true, true, true, true, true, true, true, true, true, true, true, true, true, false] rfl rfl (any_of HT_.out (by kernel_rfl)) (fun _ _ _ h => h) (Or.inl ⟨by rfl, ?_⟩) ?_ ?_; rotate_left
      ·intro w'; go_simp; with_reducible rfl
      rotate_left
      ·simp only [Act.put, List.setIfInBounds_toArray, List.set_cons_zero, List.set_cons_succ, i64_w, i32_w]; rfl
      refine pure_ (i := 23) (N := some 2) (v := ?_) (a' := ?_) #[true, true, true, true, true, true, true, true, true, true, true, true, true, true, true, true, true, true, true, true, true, true, true, true] rfl rfl (any_of HT_.out (by kernel_rfl)) (fun _ _ _ h => h) (Or.inl ⟨by rfl, ?_⟩) ?_ ?_; rotate_left
      ·intro w'; go_simp; with_reducible rfl
      rotate_left
      ·simp only [Act.put, List.setIfInBounds_toArray, List.set_cons_zero, List.set_cons_succ, i64_w, i32_w]; rfl
      refine done_ (done_of HT_.out (by kernel_rfl)) ?_
      try go_wp2
      go_ret
      exact ⟨zw, zz2⟩

/-- THE ONE PURE STATEMENT of laws_FnPartsRead: yours. -/
def laws_FnPartsRead.Pure : Prop := ∀ (l0 : List Int), l0.length ≤ maxLen → l0.length * 1 ≤ 140737488351232 → (∀ x ∈ l0, (Lit.int .u8 x).wf = true) → ∃ k, laws_FnPartsRead.f k l0 = some true
theorem laws_FnPartsRead.walk (P : laws_FnPartsRead.Pure) (a0 : Option Addr) (len0 cap0 : Nat) (z0 : List Int) (w : World) (w0 : (a0 = none ∧ len0 = 0 ∧ cap0 = 0 ∧ z0 = []) ∨ ∃ x, a0 = some x ∧ len0 ≤ cap0 ∧ cap0 ≤ maxLen ∧ z0.length = cap0 ∧ (∀ i, i < z0.length → w.cell? (x.add i) = some (.int .u8 (z0.getD i 0))) ∧ ∀ n ∈ z0, (Lit.int .u8 n).wf = true) (y0 : len0 * 1 ≤ 140737488351232) :
  Calls Try.prog 6 #[.slice a0 len0 cap0] w fun e w' => e = .returned (.bool true) ∧ Below w.heap.size w w' := by
 obtain ⟨l0, rfl, hr0, hm0, hw0, hc0⟩ := ReadsInt.ofRowC w0
 obtain ⟨k, h⟩ := P l0 hm0 y0 hw0
 refine (laws_FnPartsRead.calls k _ _ l0 true w (Kd.C_of_reads (d := (0 : Int)) (h1 := fun _ => rfl) hr0) hc0 h).mono ?_
 rintro e w' ⟨rfl, hd⟩
 exact ⟨rfl, hd⟩

end Go.Proofs.Ytnfmpopmigbkoaa.PFnPartsRead

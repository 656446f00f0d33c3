-- Written by mkprint.py, a program of this session (the printer with additions of its own)
import Derived.Test.YtnfmpopmigbkoaaPFnLessKeysx0
import Derived.Test.YtnfmpopmigbkoaaPFnLessKeysx2
import Derived.Test.YtnfmpopmigbkoaaPFnLessKeysx5
import Derived.Test.YtnfmpopmigbkoaaPFnLessKeysx9
import Derived.Test.YtnfmpopmigbkoaaPFnLessKeysx10
import Derived.Test.YtnfmpopmigbkoaaPFnLessKeysx12
import Derived.Test.YtnfmpopmigbkoaaPFnLessKeysx13
namespace Go.Proofs.Ytnfmpopmigbkoaa.PFnLessKeys
open Go.RowKit Go.Proofs.YtnfmpopmigbkoaaW.PrintWords Go.Proofs.YtnfmpopmigbkoaaW.PrintLast Go.Proofs.YtnfmpopmigbkoaaW.PrintMore
attribute [local go_sem] max2_int min2_int max_two min_two max_three min_three max_four min_four   -- for this text's walks alone
set_option linter.unusedVariables false
set_option linter.unusedSimpArgs false

/-! ### laws_FnLessKeys: function 11 -/
def laws_FnLessKeys.f (k : Nat) (l0 : List Int) : Option (Bool) := (laws_big.f l0).bind fun t669 => (if t669 = true then (some true) else ((spec_DrawLessKey.f k l0).bind fun bt670 => ((impl_LessKey.f k bt670.1 bt670.2.1 bt670.2.2).bind fun t679 => ((impl_LessKey.f k bt670.1 bt670.2.2 bt670.2.1).bind fun t680 => ((spec_LessKey.f k bt670.1 bt670.2.1 bt670.2.2).bind fun t681 => (if (t679 == t681) = true then (if t679 = true then (if t680 = true then (some false) else ((impl_LessKey.f k bt670.1 bt670.2.1 bt670.2.1).bind fun t682 => (if t682 = true then (some false) else ((impl_EncodeKey.f k bt670.1 bt670.2.1).bind fun t683 => ((spec_EncodeKey.f k bt670.1 bt670.2.1).bind fun t686 => ((laws_sameBytes.f k t683 t686).bind fun t689 => (some t689))))))) else ((impl_LessKey.f k bt670.1 bt670.2.1 bt670.2.1).bind fun t690 => (if t690 = true then (some false) else ((impl_EncodeKey.f k bt670.1 bt670.2.1).bind fun t691 => ((spec_EncodeKey.f k bt670.1 bt670.2.1).bind fun t694 => ((laws_sameBytes.f k t691 t694).bind fun t697 => (some t697))))))) else (some false)))))))
theorem laws_FnLessKeys.mono : ∀ a0 k, LeO (laws_FnLessKeys.f k a0) (laws_FnLessKeys.f (k + 1) a0) := by
  intro a0 k
  unfold laws_FnLessKeys.f
  repeat' first
      | (with_reducible exact impl_EncodeKey.mono _ _ _)
      | (with_reducible exact impl_LessKey.mono _ _ _ _)
      | (with_reducible exact laws_sameBytes.mono _ _ _)
      | (with_reducible exact spec_DrawLessKey.mono _ _)
      | (with_reducible exact spec_EncodeKey.mono _ _ _)
      | (with_reducible exact spec_LessKey.mono _ _ _ _)
      | (with_reducible exact LeO.refl _)
      | (with_reducible exact LeO.none _)
      | (with_reducible refine LeO.ite ?_ ?_)
      | (with_reducible refine LeO.bind ?_ (fun _ => ?_))
      | exact impl_EncodeKey.mono _ _ _
      | exact impl_LessKey.mono _ _ _ _
      | exact laws_sameBytes.mono _ _ _
      | exact spec_DrawLessKey.mono _ _
      | exact spec_EncodeKey.mono _ _ _
      | exact spec_LessKey.mono _ _ _ _
      | exact LeO.none _
      | refine LeO.ite ?_ ?_
      | refine LeO.bind ?_ (fun _ => ?_)
set_option maxHeartbeats 8000000 in
set_option maxRecDepth 100000 in
theorem laws_FnLessKeys.calls (k : Nat) (A0 : Option Addr) (c0 : Nat) (l0 : List Int) (r : Bool) (w : World) (hr0 : Kd.C (Kd.int .u8) w A0 l0.length l0) (hc0 : l0.length ≤ c0) (h : laws_FnLessKeys.f k l0 = some r) :
  Calls Try.prog 11 #[.slice A0 l0.length c0] w fun e w' => e = .returned (.bool r) ∧ Below w.heap.size w w' := by
 have HR0 := zA hr0
 have HC0 := zA hc0
 clear hr0 hc0
 have HB := zA (Below.refl w.heap.size w)
 have H : ((laws_big.f l0).bind fun t669 => (if t669 = true then (some true) else ((spec_DrawLessKey.f k l0).bind fun bt670 => ((impl_LessKey.f k bt670.1 bt670.2.1 bt670.2.2).bind fun t679 => ((impl_LessKey.f k bt670.1 bt670.2.2 bt670.2.1).bind fun t680 => ((spec_LessKey.f k bt670.1 bt670.2.1 bt670.2.2).bind fun t681 => (if (t679 == t681) = true then (if t679 = true then (if t680 = true then (some false) else ((impl_LessKey.f k bt670.1 bt670.2.1 bt670.2.1).bind fun t682 => (if t682 = true then (some false) else ((impl_EncodeKey.f k bt670.1 bt670.2.1).bind fun t683 => ((spec_EncodeKey.f k bt670.1 bt670.2.1).bind fun t686 => ((laws_sameBytes.f k t683 t686).bind fun t689 => (some t689))))))) else ((impl_LessKey.f k bt670.1 bt670.2.1 bt670.2.1).bind fun t690 => (if t690 = true then (some false) else ((impl_EncodeKey.f k bt670.1 bt670.2.1).bind fun t691 => ((spec_EncodeKey.f k bt670.1 bt670.2.1).bind fun t694 => ((laws_sameBytes.f k t691 t694).bind fun t697 => (some t697))))))) else (some false)))))))) = some r := h
 clear h
 replace H := zI H
 obtain ⟨t669, A2, H⟩ := H
 by_cases c3 : t669 = true
 ·subst c3
  rw [if_pos rfl] at H
  obtain rfl := Option.some.inj H
  go_enter Try.func11, Try.ntmps11
  go_wp2_with (first | ((with_reducible refine zg 25 ?_); refine gL (some 9) Try.func25 #[.slice A0 l0.length c0] ?_; (with_reducible refine (laws_big.calls _ _ l0 true _ ?z1 ?z2 A2.out).mono ?_); (case z1 => exact zc HR0.out); (case z2 => exact HC0.out); rintro e w' ⟨rfl, ⟨nd, rfl⟩⟩; refine ⟨_, rfl, ?_⟩))
  go_ret
  exact ⟨zw, zb⟩
 ·replace c3 := Bool.eq_false_iff.mpr c3
  subst c3
  rw [if_neg (Bool.false_ne_true)] at H
  replace H := zI H
  obtain ⟨⟨t670, t671, t672⟩, A4, H⟩ := H
  try dsimp only at H
  replace H := zI H
  obtain ⟨t679, A5, H⟩ := H
  replace H := zI H
  obtain ⟨t680, A6, H⟩ := H
  replace H := zI H
  obtain ⟨t681, A7, H⟩ := H
  by_cases c8 : (t679 == t681) = true
  ·rw [if_pos c8] at H
   have c8b0 : (t679 == t681) = true := c8
   (try (have c8b1 : decide (t679 = t681) = true := by simpa using c8))
   (try (have c8b2 : (t679 == t681) = true := by simpa using c8))
   clear c8
   by_cases c9 : t679 = true
   ·subst c9
    rw [if_pos rfl] at H
    by_cases c10 : t680 = true
    ·subst c10
     rw [if_pos rfl] at H
     obtain rfl := Option.some.inj H
     go_enter Try.func11, Try.ntmps11
     go_wp2_with (first | ((with_reducible refine zg 25 ?_); refine gL (some 9) Try.func25 #[.slice A0 l0.length c0] ?_; (with_reducible refine (laws_big.calls _ _ l0 false _ ?z1 ?z2 A2.out).mono ?_); (case z1 => exact zc HR0.out); (case z2 => exact HC0.out); rintro e w' ⟨rfl, ⟨nd, rfl⟩⟩; refine ⟨_, rfl, ?_⟩) | ((with_reducible refine zg 57 ?_); refine gL (some 12) Try.func57 #[.slice A0 l0.length c0] ?_; (with_reducible refine (spec_DrawLessKey.calls k _ _ l0 t670 t671 t672 _ ?z1 ?z2 A4.out).mono ?_); (case z1 => exact zc HR0.out); (case z2 => exact HC0.out); rintro e w11 ⟨v673, v675, v677, rfl, ho0, ho1, ho2, hb⟩; refine ⟨_, rfl, ?_⟩; have HO674 := zL ho0; have HO676 := zL ho1; have HO678 := zL ho2; replace HB := zS hb; clear hb ho0 ho1 ho2; obtain ⟨Ao12, co12, eo12⟩ := Kd.R_slice HO674.out; subst eo12; obtain ⟨Ao13, co13, eo13⟩ := Kd.R_slice HO676.out; subst eo13; obtain ⟨Ao14, co14, eo14⟩ := Kd.R_slice HO678.out; subst eo14) | ((with_reducible refine zg 54 ?_); refine gL (some 19) Try.func54 #[.slice Ao12 t670.length co12, .slice Ao13 t671.length co13, .slice Ao14 t672.length co14] ?_; (with_reducible refine (impl_LessKey.calls k _ _ t670 _ _ t671 _ _ t672 true _ ?z1 ?z2 ?z3 ?z4 ?z5 ?z6 A5.out).mono ?_); (case z1 => exact ze HO674); (case z2 => exact zl HO674); (case z3 => exact ze HO676); (case z4 => exact zl HO676); (case z5 => exact ze HO678); (case z6 => exact zl HO678); rintro e w15 ⟨rfl, hb⟩; refine ⟨_, rfl, ?_⟩; replace HO674 := zR HO674 hb; replace HO676 := zR HO676 hb; replace HO678 := zR HO678 hb; replace HB := zS hb; (try clear hb)) | ((with_reducible refine zg 54 ?_); refine gL (some 23) Try.func54 #[.slice Ao12 t670.length co12, .slice Ao14 t672.length co14, .slice Ao13 t671.length co13] ?_; (with_reducible refine (impl_LessKey.calls k _ _ t670 _ _ t672 _ _ t671 true _ ?z1 ?z2 ?z3 ?z4 ?z5 ?z6 A6.out).mono ?_); (case z1 => exact ze HO674); (case z2 => exact zl HO674); (case z3 => exact ze HO678); (case z4 => exact zl HO678); (case z5 => exact ze HO676); (case z6 => exact zl HO676); rintro e w16 ⟨rfl, hb⟩; refine ⟨_, rfl, ?_⟩; replace HO674 := zR HO674 hb; replace HO676 := zR HO676 hb; replace HO678 := zR HO678 hb; replace HB := zS hb; (try clear hb)) | ((with_reducible refine zg 58 ?_); refine gL (some 28) Try.func58 #[.slice Ao12 t670.length co12, .slice Ao13 t671.length co13, .slice Ao14 t672.length co14] ?_; (with_reducible refine (spec_LessKey.calls k _ _ t670 _ _ t671 _ _ t672 t681 _ ?z1 ?z2 ?z3 ?z4 ?z5 ?z6 A7.out).mono ?_); (case z1 => exact ze HO674); (case z2 => exact zl HO674); (case z3 => exact ze HO676); (case z4 => exact zl HO676); (case z5 => exact ze HO678); (case z6 => exact zl HO678); rintro e w17 ⟨rfl, hb⟩; refine ⟨_, rfl, ?_⟩; replace HO674 := zR HO674 hb; replace HO676 := zR HO676 hb; replace HO678 := zR HO678 hb; replace HB := zS hb; (try clear hb)))
     go_ret
     exact ⟨zw, zb⟩
    ·replace c10 := Bool.eq_false_iff.mpr c10
     subst c10
     rw [if_neg (Bool.false_ne_true)] at H
     replace H := zI H
     obtain ⟨t682, A18, H⟩ := H
     by_cases c19 : t682 = true
     ·subst c19
      rw [if_pos rfl] at H
      obtain rfl := Option.some.inj H
      go_enter Try.func11, Try.ntmps11
      go_wp2_with (first | ((with_reducible refine zg 25 ?_); refine gL (some 9) Try.func25 #[.slice A0 l0.length c0] ?_; (with_reducible refine (laws_big.calls _ _ l0 false _ ?z1 ?z2 A2.out).mono ?_); (case z1 => exact zc HR0.out); (case z2 => exact HC0.out); rintro e w' ⟨rfl, ⟨nd, rfl⟩⟩; refine ⟨_, rfl, ?_⟩) | ((with_reducible refine zg 57 ?_); refine gL (some 12) Try.func57 #[.slice A0 l0.length c0] ?_; (with_reducible refine (spec_DrawLessKey.calls k _ _ l0 t670 t671 t672 _ ?z1 ?z2 A4.out).mono ?_); (case z1 => exact zc HR0.out); (case z2 => exact HC0.out); rintro e w20 ⟨v673, v675, v677, rfl, ho0, ho1, ho2, hb⟩; refine ⟨_, rfl, ?_⟩; have HO674 := zL ho0; have HO676 := zL ho1; have HO678 := zL ho2; replace HB := zS hb; clear hb ho0 ho1 ho2; obtain ⟨Ao21, co21, eo21⟩ := Kd.R_slice HO674.out; subst eo21; obtain ⟨Ao22, co22, eo22⟩ := Kd.R_slice HO676.out; subst eo22; obtain ⟨Ao23, co23, eo23⟩ := Kd.R_slice HO678.out; subst eo23) | ((with_reducible refine zg 54 ?_); refine gL (some 19) Try.func54 #[.slice Ao21 t670.length co21, .slice Ao22 t671.length co22, .slice Ao23 t672.length co23] ?_; (with_reducible refine (impl_LessKey.calls k _ _ t670 _ _ t671 _ _ t672 true _ ?z1 ?z2 ?z3 ?z4 ?z5 ?z6 A5.out).mono ?_); (case z1 => exact ze HO674); (case z2 => exact zl HO674); (case z3 => exact ze HO676); (case z4 => exact zl HO676); (case z5 => exact ze HO678); (case z6 => exact zl HO678); rintro e w24 ⟨rfl, hb⟩; refine ⟨_, rfl, ?_⟩; replace HO674 := zR HO674 hb; replace HO676 := zR HO676 hb; replace HO678 := zR HO678 hb; replace HB := zS hb; (try clear hb)) | ((with_reducible refine zg 54 ?_); refine gL (some 23) Try.func54 #[.slice Ao21 t670.length co21, .slice Ao23 t672.length co23, .slice Ao22 t671.length co22] ?_; (with_reducible refine (impl_LessKey.calls k _ _ t670 _ _ t672 _ _ t671 false _ ?z1 ?z2 ?z3 ?z4 ?z5 ?z6 A6.out).mono ?_); (case z1 => exact ze HO674); (case z2 => exact zl HO674); (case z3 => exact ze HO678); (case z4 => exact zl HO678); (case z5 => exact ze HO676); (case z6 => exact zl HO676); rintro e w25 ⟨rfl, hb⟩; refine ⟨_, rfl, ?_⟩; replace HO674 := zR HO674 hb; replace HO676 := zR HO676 hb; replace HO678 := zR HO678 hb; replace HB := zS hb; (try clear hb)) | ((with_reducible refine zg 58 ?_); refine gL (some 28) Try.func58 #[.slice Ao21 t670.length co21, .slice Ao22 t671.length co22, .slice Ao23 t672.length co23] ?_; (with_reducible refine (spec_LessKey.calls k _ _ t670 _ _ t671 _ _ t672 t681 _ ?z1 ?z2 ?z3 ?z4 ?z5 ?z6 A7.out).mono ?_); (case z1 => exact ze HO674); (case z2 => exact zl HO674); (case z3 => exact ze HO676); (case z4 => exact zl HO676); (case z5 => exact ze HO678); (case z6 => exact zl HO678); rintro e w26 ⟨rfl, hb⟩; refine ⟨_, rfl, ?_⟩; replace HO674 := zR HO674 hb; replace HO676 := zR HO676 hb; replace HO678 := zR HO678 hb; replace HB := zS hb; (try clear hb)) | (go_at_call 54; (with_reducible refine (impl_LessKey.calls k _ _ t670 _ _ t671 _ _ t671 true _ ?z1 ?z2 ?z3 ?z4 ?z5 ?z6 A18.out).mono ?_); (case z1 => exact ze HO674); (case z2 => exact zl HO674); (case z3 => exact ze HO676); (case z4 => exact zl HO676); (case z5 => exact ze HO676); (case z6 => exact zl HO676); rintro e w27 ⟨rfl, hb⟩; replace HO674 := zR HO674 hb; replace HO676 := zR HO676 hb; replace HO678 := zR HO678 hb; replace HB := zS hb; (try clear hb)))
      go_ret
      exact ⟨zw, zb⟩
     ·replace c19 := Bool.eq_false_iff.mpr c19
      subst c19
      rw [if_neg (Bool.false_ne_true)] at H
      replace H := zI H
      obtain ⟨t683, A28, H⟩ := H
      replace H := zI H
      obtain ⟨t686, A29, H⟩ := H
      replace H := zI H
      obtain ⟨t689, A30, H⟩ := H
      obtain rfl := Option.some.inj H
      go_enter Try.func11, Try.ntmps11
      go_wp2_with (first | ((with_reducible refine zg 25 ?_); refine gL (some 9) Try.func25 #[.slice A0 l0.length c0] ?_; (with_reducible refine (laws_big.calls _ _ l0 false _ ?z1 ?z2 A2.out).mono ?_); (case z1 => exact zc HR0.out); (case z2 => exact HC0.out); rintro e w' ⟨rfl, ⟨nd, rfl⟩⟩; refine ⟨_, rfl, ?_⟩) | ((with_reducible refine zg 57 ?_); refine gL (some 12) Try.func57 #[.slice A0 l0.length c0] ?_; (with_reducible refine (spec_DrawLessKey.calls k _ _ l0 t670 t671 t672 _ ?z1 ?z2 A4.out).mono ?_); (case z1 => exact zc HR0.out); (case z2 => exact HC0.out); rintro e w31 ⟨v673, v675, v677, rfl, ho0, ho1, ho2, hb⟩; refine ⟨_, rfl, ?_⟩; have HO674 := zL ho0; have HO676 := zL ho1; have HO678 := zL ho2; replace HB := zS hb; clear hb ho0 ho1 ho2; obtain ⟨Ao32, co32, eo32⟩ := Kd.R_slice HO674.out; subst eo32; obtain ⟨Ao33, co33, eo33⟩ := Kd.R_slice HO676.out; subst eo33; obtain ⟨Ao34, co34, eo34⟩ := Kd.R_slice HO678.out; subst eo34) | ((with_reducible refine zg 54 ?_); refine gL (some 19) Try.func54 #[.slice Ao32 t670.length co32, .slice Ao33 t671.length co33, .slice Ao34 t672.length co34] ?_; (with_reducible refine (impl_LessKey.calls k _ _ t670 _ _ t671 _ _ t672 true _ ?z1 ?z2 ?z3 ?z4 ?z5 ?z6 A5.out).mono ?_); (case z1 => exact ze HO674); (case z2 => exact zl HO674); (case z3 => exact ze HO676); (case z4 => exact zl HO676); (case z5 => exact ze HO678); (case z6 => exact zl HO678); rintro e w35 ⟨rfl, hb⟩; refine ⟨_, rfl, ?_⟩; replace HO674 := zR HO674 hb; replace HO676 := zR HO676 hb; replace HO678 := zR HO678 hb; replace HB := zS hb; (try clear hb)) | ((with_reducible refine zg 54 ?_); refine gL (some 23) Try.func54 #[.slice Ao32 t670.length co32, .slice Ao34 t672.length co34, .slice Ao33 t671.length co33] ?_; (with_reducible refine (impl_LessKey.calls k _ _ t670 _ _ t672 _ _ t671 false _ ?z1 ?z2 ?z3 ?z4 ?z5 ?z6 A6.out).mono ?_); (case z1 => exact ze HO674); (case z2 => exact zl HO674); (case z3 => exact ze HO678); (case z4 => exact zl HO678); (case z5 => exact ze HO676); (case z6 => exact zl HO676); rintro e w36 ⟨rfl, hb⟩; refine ⟨_, rfl, ?_⟩; replace HO674 := zR HO674 hb; replace HO676 := zR HO676 hb; replace HO678 := zR HO678 hb; replace HB := zS hb; (try clear hb)) | ((with_reducible refine zg 58 ?_); refine gL (some 28) Try.func58 #[.slice Ao32 t670.length co32, .slice Ao33 t671.length co33, .slice Ao34 t672.length co34] ?_; (with_reducible refine (spec_LessKey.calls k _ _ t670 _ _ t671 _ _ t672 t681 _ ?z1 ?z2 ?z3 ?z4 ?z5 ?z6 A7.out).mono ?_); (case z1 => exact ze HO674); (case z2 => exact zl HO674); (case z3 => exact ze HO676); (case z4 => exact zl HO676); (case z5 => exact ze HO678); (case z6 => exact zl HO678); rintro e w37 ⟨rfl, hb⟩; refine ⟨_, rfl, ?_⟩; replace HO674 := zR HO674 hb; replace HO676 := zR HO676 hb; replace HO678 := zR HO678 hb; replace HB := zS hb; (try clear hb)) | (go_at_call 54; (with_reducible refine (impl_LessKey.calls k _ _ t670 _ _ t671 _ _ t671 false _ ?z1 ?z2 ?z3 ?z4 ?z5 ?z6 A18.out).mono ?_); (case z1 => exact ze HO674); (case z2 => exact zl HO674); (case z3 => exact ze HO676); (case z4 => exact zl HO676); (case z5 => exact ze HO676); (case z6 => exact zl HO676); rintro e w38 ⟨rfl, hb⟩; replace HO674 := zR HO674 hb; replace HO676 := zR HO676 hb; replace HO678 := zR HO678 hb; replace HB := zS hb; (try clear hb)) | (go_at_call 41; (with_reducible refine (impl_EncodeKey.calls k _ _ t670 _ _ t671 t683 _ ?z1 ?z2 ?z3 ?z4 A28.out).mono ?_); (case z1 => exact ze HO674); (case z2 => exact zl HO674); (case z3 => exact ze HO676); (case z4 => exact zl HO676); rintro e w39 ⟨v684, rfl, ho0, hb⟩; replace HO674 := zR HO674 hb; replace HO676 := zR HO676 hb; replace HO678 := zR HO678 hb; have HO685 := zL ho0; replace HB := zS hb; clear hb ho0) | (go_at_call 38; (with_reducible refine (spec_EncodeKey.calls k _ _ t670 _ _ t671 t686 _ ?z1 ?z2 ?z3 ?z4 A29.out).mono ?_); (case z1 => exact ze HO674); (case z2 => exact zl HO674); (case z3 => exact ze HO676); (case z4 => exact zl HO676); rintro e w40 ⟨v687, rfl, ho0, hb⟩; replace HO674 := zR HO674 hb; replace HO676 := zR HO676 hb; replace HO678 := zR HO678 hb; have HO688 := zL (zN ho0 HO685); replace HO685 := zE HO685 ho0 hb; replace HB := zS hb; clear hb ho0; obtain ⟨Ao41, co41, eo41⟩ := Kd.R_slice HO685.out; subst eo41; obtain ⟨Ao42, co42, eo42⟩ := Kd.R_slice HO688.out; subst eo42) | (go_at_call 29; (with_reducible refine (laws_sameBytes.calls k _ _ t683 _ _ t686 t689 _ ?z1 ?z2 ?z3 ?z4 A30.out).mono ?_); (case z1 => exact ze HO685); (case z2 => exact zl HO685); (case z3 => exact ze HO688); (case z4 => exact zl HO688); rintro e w' ⟨rfl, ⟨nd, rfl⟩⟩))
      go_ret
      exact ⟨zw, zb⟩
   ·replace c9 := Bool.eq_false_iff.mpr c9
    subst c9
    rw [if_neg (Bool.false_ne_true)] at H
    replace H := zI H
    obtain ⟨t690, A43, H⟩ := H
    by_cases c44 : t690 = true
    ·subst c44
     rw [if_pos rfl] at H
     obtain rfl := Option.some.inj H
     go_enter Try.func11, Try.ntmps11
     go_wp2_with (first | ((with_reducible refine zg 25 ?_); refine gL (some 9) Try.func25 #[.slice A0 l0.length c0] ?_; (with_reducible refine (laws_big.calls _ _ l0 false _ ?z1 ?z2 A2.out).mono ?_); (case z1 => exact zc HR0.out); (case z2 => exact HC0.out); rintro e w' ⟨rfl, ⟨nd, rfl⟩⟩; refine ⟨_, rfl, ?_⟩) | ((with_reducible refine zg 57 ?_); refine gL (some 12) Try.func57 #[.slice A0 l0.length c0] ?_; (with_reducible refine (spec_DrawLessKey.calls k _ _ l0 t670 t671 t672 _ ?z1 ?z2 A4.out).mono ?_); (case z1 => exact zc HR0.out); (case z2 => exact HC0.out); rintro e w45 ⟨v673, v675, v677, rfl, ho0, ho1, ho2, hb⟩; refine ⟨_, rfl, ?_⟩; have HO674 := zL ho0; have HO676 := zL ho1; have HO678 := zL ho2; replace HB := zS hb; clear hb ho0 ho1 ho2; obtain ⟨Ao46, co46, eo46⟩ := Kd.R_slice HO674.out; subst eo46; obtain ⟨Ao47, co47, eo47⟩ := Kd.R_slice HO676.out; subst eo47; obtain ⟨Ao48, co48, eo48⟩ := Kd.R_slice HO678.out; subst eo48) | ((with_reducible refine zg 54 ?_); refine gL (some 19) Try.func54 #[.slice Ao46 t670.length co46, .slice Ao47 t671.length co47, .slice Ao48 t672.length co48] ?_; (with_reducible refine (impl_LessKey.calls k _ _ t670 _ _ t671 _ _ t672 false _ ?z1 ?z2 ?z3 ?z4 ?z5 ?z6 A5.out).mono ?_); (case z1 => exact ze HO674); (case z2 => exact zl HO674); (case z3 => exact ze HO676); (case z4 => exact zl HO676); (case z5 => exact ze HO678); (case z6 => exact zl HO678); rintro e w49 ⟨rfl, hb⟩; refine ⟨_, rfl, ?_⟩; replace HO674 := zR HO674 hb; replace HO676 := zR HO676 hb; replace HO678 := zR HO678 hb; replace HB := zS hb; (try clear hb)) | ((with_reducible refine zg 54 ?_); refine gL (some 23) Try.func54 #[.slice Ao46 t670.length co46, .slice Ao48 t672.length co48, .slice Ao47 t671.length co47] ?_; (with_reducible refine (impl_LessKey.calls k _ _ t670 _ _ t672 _ _ t671 t680 _ ?z1 ?z2 ?z3 ?z4 ?z5 ?z6 A6.out).mono ?_); (case z1 => exact ze HO674); (case z2 => exact zl HO674); (case z3 => exact ze HO678); (case z4 => exact zl HO678); (case z5 => exact ze HO676); (case z6 => exact zl HO676); rintro e w50 ⟨rfl, hb⟩; refine ⟨_, rfl, ?_⟩; replace HO674 := zR HO674 hb; replace HO676 := zR HO676 hb; replace HO678 := zR HO678 hb; replace HB := zS hb; (try clear hb)) | ((with_reducible refine zg 58 ?_); refine gL (some 28) Try.func58 #[.slice Ao46 t670.length co46, .slice Ao47 t671.length co47, .slice Ao48 t672.length co48] ?_; (with_reducible refine (spec_LessKey.calls k _ _ t670 _ _ t671 _ _ t672 t681 _ ?z1 ?z2 ?z3 ?z4 ?z5 ?z6 A7.out).mono ?_); (case z1 => exact ze HO674); (case z2 => exact zl HO674); (case z3 => exact ze HO676); (case z4 => exact zl HO676); (case z5 => exact ze HO678); (case z6 => exact zl HO678); rintro e w51 ⟨rfl, hb⟩; refine ⟨_, rfl, ?_⟩; replace HO674 := zR HO674 hb; replace HO676 := zR HO676 hb; replace HO678 := zR HO678 hb; replace HB := zS hb; (try clear hb)) | (go_at_call 54; (with_reducible refine (impl_LessKey.calls k _ _ t670 _ _ t671 _ _ t671 true _ ?z1 ?z2 ?z3 ?z4 ?z5 ?z6 A43.out).mono ?_); (case z1 => exact ze HO674); (case z2 => exact zl HO674); (case z3 => exact ze HO676); (case z4 => exact zl HO676); (case z5 => exact ze HO676); (case z6 => exact zl HO676); rintro e w52 ⟨rfl, hb⟩; replace HO674 := zR HO674 hb; replace HO676 := zR HO676 hb; replace HO678 := zR HO678 hb; replace HB := zS hb; (try clear hb)))
     go_ret
     exact ⟨zw, zb⟩
    ·replace c44 := Bool.eq_false_iff.mpr c44
     subst c44
     rw [if_neg (Bool.false_ne_true)] at H
     replace H := zI H
     obtain ⟨t691, A53, H⟩ := H
     replace H := zI H
     obtain ⟨t694, A54, H⟩ := H
     replace H := zI H
     obtain ⟨t697, A55, H⟩ := H
     obtain rfl := Option.some.inj H
     go_enter Try.func11, Try.ntmps11
     go_wp2_with (first | ((with_reducible refine zg 25 ?_); refine gL (some 9) Try.func25 #[.slice A0 l0.length c0] ?_; (with_reducible refine (laws_big.calls _ _ l0 false _ ?z1 ?z2 A2.out).mono ?_); (case z1 => exact zc HR0.out); (case z2 => exact HC0.out); rintro e w' ⟨rfl, ⟨nd, rfl⟩⟩; refine ⟨_, rfl, ?_⟩) | ((with_reducible refine zg 57 ?_); refine gL (some 12) Try.func57 #[.slice A0 l0.length c0] ?_; (with_reducible refine (spec_DrawLessKey.calls k _ _ l0 t670 t671 t672 _ ?z1 ?z2 A4.out).mono ?_); (case z1 => exact zc HR0.out); (case z2 => exact HC0.out); rintro e w56 ⟨v673, v675, v677, rfl, ho0, ho1, ho2, hb⟩; refine ⟨_, rfl, ?_⟩; have HO674 := zL ho0; have HO676 := zL ho1; have HO678 := zL ho2; replace HB := zS hb; clear hb ho0 ho1 ho2; obtain ⟨Ao57, co57, eo57⟩ := Kd.R_slice HO674.out; subst eo57; obtain ⟨Ao58, co58, eo58⟩ := Kd.R_slice HO676.out; subst eo58; obtain ⟨Ao59, co59, eo59⟩ := Kd.R_slice HO678.out; subst eo59) | ((with_reducible refine zg 54 ?_); refine gL (some 19) Try.func54 #[.slice Ao57 t670.length co57, .slice Ao58 t671.length co58, .slice Ao59 t672.length co59] ?_; (with_reducible refine (impl_LessKey.calls k _ _ t670 _ _ t671 _ _ t672 false _ ?z1 ?z2 ?z3 ?z4 ?z5 ?z6 A5.out).mono ?_); (case z1 => exact ze HO674); (case z2 => exact zl HO674); (case z3 => exact ze HO676); (case z4 => exact zl HO676); (case z5 => exact ze HO678); (case z6 => exact zl HO678); rintro e w60 ⟨rfl, hb⟩; refine ⟨_, rfl, ?_⟩; replace HO674 := zR HO674 hb; replace HO676 := zR HO676 hb; replace HO678 := zR HO678 hb; replace HB := zS hb; (try clear hb)) | ((with_reducible refine zg 54 ?_); refine gL (some 23) Try.func54 #[.slice Ao57 t670.length co57, .slice Ao59 t672.length co59, .slice Ao58 t671.length co58] ?_; (with_reducible refine (impl_LessKey.calls k _ _ t670 _ _ t672 _ _ t671 t680 _ ?z1 ?z2 ?z3 ?z4 ?z5 ?z6 A6.out).mono ?_); (case z1 => exact ze HO674); (case z2 => exact zl HO674); (case z3 => exact ze HO678); (case z4 => exact zl HO678); (case z5 => exact ze HO676); (case z6 => exact zl HO676); rintro e w61 ⟨rfl, hb⟩; refine ⟨_, rfl, ?_⟩; replace HO674 := zR HO674 hb; replace HO676 := zR HO676 hb; replace HO678 := zR HO678 hb; replace HB := zS hb; (try clear hb)) | ((with_reducible refine zg 58 ?_); refine gL (some 28) Try.func58 #[.slice Ao57 t670.length co57, .slice Ao58 t671.length co58, .slice Ao59 t672.length co59] ?_; (with_reducible refine (spec_LessKey.calls k _ _ t670 _ _ t671 _ _ t672 t681 _ ?z1 ?z2 ?z3 ?z4 ?z5 ?z6 A7.out).mono ?_); (case z1 => exact ze HO674); (case z2 => exact zl HO674); (case z3 => exact ze HO676); (case z4 => exact zl HO676); (case z5 => exact ze HO678); (case z6 => exact zl HO678); rintro e w62 ⟨rfl, hb⟩; refine ⟨_, rfl, ?_⟩; replace HO674 := zR HO674 hb; replace HO676 := zR HO676 hb; replace HO678 := zR HO678 hb; replace HB := zS hb; (try clear hb)) | (go_at_call 54; (with_reducible refine (impl_LessKey.calls k _ _ t670 _ _ t671 _ _ t671 false _ ?z1 ?z2 ?z3 ?z4 ?z5 ?z6 A43.out).mono ?_); (case z1 => exact ze HO674); (case z2 => exact zl HO674); (case z3 => exact ze HO676); (case z4 => exact zl HO676); (case z5 => exact ze HO676); (case z6 => exact zl HO676); rintro e w63 ⟨rfl, hb⟩; replace HO674 := zR HO674 hb; replace HO676 := zR HO676 hb; replace HO678 := zR HO678 hb; replace HB := zS hb; (try clear hb)) | (go_at_call 41; (with_reducible refine (impl_EncodeKey.calls k _ _ t670 _ _ t671 t691 _ ?z1 ?z2 ?z3 ?z4 A53.out).mono ?_); (case z1 => exact ze HO674); (case z2 => exact zl HO674); (case z3 => exact ze HO676); (case z4 => exact zl HO676); rintro e w64 ⟨v692, rfl, ho0, hb⟩; replace HO674 := zR HO674 hb; replace HO676 := zR HO676 hb; replace HO678 := zR HO678 hb; have HO693 := zL ho0; replace HB := zS hb; clear hb ho0) | (go_at_call 38; (with_reducible refine (spec_EncodeKey.calls k _ _ t670 _ _ t671 t694 _ ?z1 ?z2 ?z3 ?z4 A54.out).mono ?_); (case z1 => exact ze HO674); (case z2 => exact zl HO674); (case z3 => exact ze HO676); (case z4 => exact zl HO676); rintro e w65 ⟨v695, rfl, ho0, hb⟩; replace HO674 := zR HO674 hb; replace HO676 := zR HO676 hb; replace HO678 := zR HO678 hb; have HO696 := zL (zN ho0 HO693); replace HO693 := zE HO693 ho0 hb; replace HB := zS hb; clear hb ho0; obtain ⟨Ao66, co66, eo66⟩ := Kd.R_slice HO693.out; subst eo66; obtain ⟨Ao67, co67, eo67⟩ := Kd.R_slice HO696.out; subst eo67) | (go_at_call 29; (with_reducible refine (laws_sameBytes.calls k _ _ t691 _ _ t694 t697 _ ?z1 ?z2 ?z3 ?z4 A55.out).mono ?_); (case z1 => exact ze HO693); (case z2 => exact zl HO693); (case z3 => exact ze HO696); (case z4 => exact zl HO696); rintro e w' ⟨rfl, ⟨nd, rfl⟩⟩))
     go_ret
     exact ⟨zw, zb⟩
  ·rw [if_neg c8] at H
   have c8b0 : (t679 == t681) = false := by simpa using c8
   (try (have c8b1 : decide (t679 = t681) = false := by simpa using c8))
   (try (have c8b2 : (t679 == t681) = false := by simpa using c8))
   (try (have c8b3 : ¬ (t679 = t681) := by simpa using c8))
   clear c8
   obtain rfl := Option.some.inj H
   go_enter Try.func11, Try.ntmps11
   go_wp2_with (first | ((with_reducible refine zg 25 ?_); refine gL (some 9) Try.func25 #[.slice A0 l0.length c0] ?_; (with_reducible refine (laws_big.calls _ _ l0 false _ ?z1 ?z2 A2.out).mono ?_); (case z1 => exact zc HR0.out); (case z2 => exact HC0.out); rintro e w' ⟨rfl, ⟨nd, rfl⟩⟩; refine ⟨_, rfl, ?_⟩) | ((with_reducible refine zg 57 ?_); refine gL (some 12) Try.func57 #[.slice A0 l0.length c0] ?_; (with_reducible refine (spec_DrawLessKey.calls k _ _ l0 t670 t671 t672 _ ?z1 ?z2 A4.out).mono ?_); (case z1 => exact zc HR0.out); (case z2 => exact HC0.out); rintro e w68 ⟨v673, v675, v677, rfl, ho0, ho1, ho2, hb⟩; refine ⟨_, rfl, ?_⟩; have HO674 := zL ho0; have HO676 := zL ho1; have HO678 := zL ho2; replace HB := zS hb; clear hb ho0 ho1 ho2; obtain ⟨Ao69, co69, eo69⟩ := Kd.R_slice HO674.out; subst eo69; obtain ⟨Ao70, co70, eo70⟩ := Kd.R_slice HO676.out; subst eo70; obtain ⟨Ao71, co71, eo71⟩ := Kd.R_slice HO678.out; subst eo71) | ((with_reducible refine zg 54 ?_); refine gL (some 19) Try.func54 #[.slice Ao69 t670.length co69, .slice Ao70 t671.length co70, .slice Ao71 t672.length co71] ?_; (with_reducible refine (impl_LessKey.calls k _ _ t670 _ _ t671 _ _ t672 t679 _ ?z1 ?z2 ?z3 ?z4 ?z5 ?z6 A5.out).mono ?_); (case z1 => exact ze HO674); (case z2 => exact zl HO674); (case z3 => exact ze HO676); (case z4 => exact zl HO676); (case z5 => exact ze HO678); (case z6 => exact zl HO678); rintro e w72 ⟨rfl, hb⟩; refine ⟨_, rfl, ?_⟩; replace HO674 := zR HO674 hb; replace HO676 := zR HO676 hb; replace HO678 := zR HO678 hb; replace HB := zS hb; (try clear hb)) | ((with_reducible refine zg 54 ?_); refine gL (some 23) Try.func54 #[.slice Ao69 t670.length co69, .slice Ao71 t672.length co71, .slice Ao70 t671.length co70] ?_; (with_reducible refine (impl_LessKey.calls k _ _ t670 _ _ t672 _ _ t671 t680 _ ?z1 ?z2 ?z3 ?z4 ?z5 ?z6 A6.out).mono ?_); (case z1 => exact ze HO674); (case z2 => exact zl HO674); (case z3 => exact ze HO678); (case z4 => exact zl HO678); (case z5 => exact ze HO676); (case z6 => exact zl HO676); rintro e w73 ⟨rfl, hb⟩; refine ⟨_, rfl, ?_⟩; replace HO674 := zR HO674 hb; replace HO676 := zR HO676 hb; replace HO678 := zR HO678 hb; replace HB := zS hb; (try clear hb)) | ((with_reducible refine zg 58 ?_); refine gL (some 28) Try.func58 #[.slice Ao69 t670.length co69, .slice Ao70 t671.length co70, .slice Ao71 t672.length co71] ?_; (with_reducible refine (spec_LessKey.calls k _ _ t670 _ _ t671 _ _ t672 t681 _ ?z1 ?z2 ?z3 ?z4 ?z5 ?z6 A7.out).mono ?_); (case z1 => exact ze HO674); (case z2 => exact zl HO674); (case z3 => exact ze HO676); (case z4 => exact zl HO676); (case z5 => exact ze HO678); (case z6 => exact zl HO678); rintro e w74 ⟨rfl, hb⟩; refine ⟨_, rfl, ?_⟩; replace HO674 := zR HO674 hb; replace HO676 := zR HO676 hb; replace HO678 := zR HO678 hb; replace HB := zS hb; (try clear hb)))
   go_ret
   exact ⟨zw, zb⟩

/-- THE ONE PURE STATEMENT of laws_FnLessKeys: yours. -/
def laws_FnLessKeys.Pure : Prop := ∀ (l0 : List Int), l0.length ≤ maxLen → l0.length * 1 ≤ 140737488351232 → (∀ x ∈ l0, (Lit.int .u8 x).wf = true) → ∃ k, laws_FnLessKeys.f k l0 = some true
theorem laws_FnLessKeys.walk (P : laws_FnLessKeys.Pure) (a0 : Option Addr) (len0 cap0 : Nat) (z0 : List Int) (w : World) (w0 : (a0 = none ∧ len0 = 0 ∧ cap0 = 0 ∧ z0 = []) ∨ ∃ x, a0 = some x ∧ len0 ≤ cap0 ∧ cap0 ≤ maxLen ∧ z0.length = cap0 ∧ (∀ i, i < z0.length → w.cell? (x.add i) = some (.int .u8 (z0.getD i 0))) ∧ ∀ n ∈ z0, (Lit.int .u8 n).wf = true) (y0 : len0 * 1 ≤ 140737488351232) :
  Calls Try.prog 11 #[.slice a0 len0 cap0] w fun e w' => e = .returned (.bool true) ∧ Below w.heap.size w w' := by
 obtain ⟨l0, rfl, hr0, hm0, hw0, hc0⟩ := ReadsInt.ofRowC w0
 obtain ⟨k, h⟩ := P l0 hm0 y0 hw0
 refine (laws_FnLessKeys.calls k _ _ l0 true w (Kd.C_of_reads (d := (0 : Int)) (h1 := fun _ => rfl) hr0) hc0 h).mono ?_
 rintro e w' ⟨rfl, hd⟩
 exact ⟨rfl, hd⟩

end Go.Proofs.Ytnfmpopmigbkoaa.PFnLessKeys

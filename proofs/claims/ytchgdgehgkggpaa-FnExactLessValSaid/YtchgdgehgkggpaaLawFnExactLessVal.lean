/- The row of FnExactLessVal over its printed contract: for every input the law returns true. No condition. -/
import Derived.Test.YtchgdgehgkggpaaRows
import Derived.Test.YtchgdgehgkggpaaPFnExactLessValx1
import Derived.Test.YtchgdgehgkggpaaPureFnExactLessVal
import Derived.WalkKit
import Derived.ProofKit
import Derived.OpenShut
import Derived.ShutString
import Derived.ChangeOld
import Derived.Below
import Derived.SizedLaws
import Derived.Deep.Slices
import Derived.Deep.Fields
import Derived.ChangeSame
import Derived.Lib.SmallJoins
import Derived.Test.YtchgdgehgkggpaaWSized
import Derived.Test.YtchgdgehgkggpaaOpen
namespace Go.Proofs.Ytchgdgehgkggpaa.fnExactLessVal
open Go.ChangeShapes Go.WideShapes Go.ChangeAt Go.RowKit Go.Joins Go.Deep
open Go.ChangeMaps (open_string shut_string)
open Go.Proofs.Ytchgdgehgkggpaa.PFnExactLessVal Go.Proofs.YtchgdgehgkggpaaW.PrintWords Go.Proofs.Ytchgdgehgkggpaa.Opened
set_option linter.unusedVariables false
set_option linter.unusedSimpArgs false
theorem own : ownKnob Try.prog.godebug = none := by kernel_rfl
theorem laidOut : laidOutB Try.prog = true := by kernel_rfl
set_option maxRecDepth 100000 in
theorem lifted (os : Os) (started : os.Started) (H : Type) (enc : TypeId × Value → H) :
    ReturnsInHanded {} Try.checked os 7 .any (Rows.fnExactLessValSpec.pre6 enc Try.prog Try.f7 Rows.fnExactLessValRow.domain false) (Rows.fnExactLessValSpec.post enc Try.prog Try.f7 false true false false) := by
  refine returnsInHanded_of_change_sized (C := Try.checked) own started (by kernel_rfl) Try.func7
    (ChangeSpec.witness6 (enc := enc) (C := Try.checked) false ⟨#[], #[.agg #[.int .i64 0, .int .i64 0, .string ⟨#[]⟩], .agg #[.int .i64 0, .int .i64 0, .string ⟨#[]⟩]], []⟩ 8 (by kernel_rfl) (by kernel_rfl) (by kernel_rfl) (by kernel_rfl)) ?_
  intro W base args ds gs before hval0 hW hcnd hsz0 _
  have hval : ∀ (j : Nat) t v, Try.f7.params[j]? = some t → args[j]? = some v → Value.okWide Try.prog W .any base t v := hval0
  have hW' := hW
  obtain ⟨p, q, hA0, hV, rfl, hfz, hnd⟩ := hW
  have hA : DataW.TrodAll enc Try.prog W 0 (fun _ => true) true Try.f7.params.toList args.toList ds p := hA0
  rw [Try.params7] at hA hval
  obtain ⟨v0, vs0, d0, ds0, p0, q0, hargs, rfl, rfl, h0, r0⟩ := trodAll_cons hA
  obtain ⟨v1, vs1, d1, ds1, p1, q1, rfl, rfl, rfl, h1, r1⟩ := trodAll_cons r0
  obtain ⟨rfl, rfl, rfl⟩ := trodAll_nil r1
  obtain rfl : args = #[v0, v1] := by cases args; simp_all
  obtain ⟨rfl, rfl⟩ := trodVars_none hV
  have k0 := h0
  have lt0 : ∀ x ∈ p0, x.block < W.heap.size := by obtain ⟨m, hm⟩ := k0; exact DataW.trod_lt m _ _ _ hm
  obtain ⟨u00, u01, u02, y00, y01, y02, n0, rfl, _, _, t00, t01, t02⟩ := open_agg3 Try.underlying30 (by kernel_rfl) (by kernel_rfl) (hval 0 30 v0 rfl rfl) h0
  obtain ⟨x00, e00, _, w00⟩ := DataW.trod_int Try.underlying3 t00
  obtain ⟨x01, e01, _, w01⟩ := DataW.trod_int Try.underlying3 t01
  obtain ⟨x02, e02, _, w02⟩ := DataW.trod_string Try.underlying9 t02
  simp only [List.cons.injEq, and_true] at e00 e01 e02
  subst e00 e01 e02
  have k1 := h1
  have lt1 : ∀ x ∈ p1, x.block < W.heap.size := by obtain ⟨m, hm⟩ := k1; exact DataW.trod_lt m _ _ _ hm
  obtain ⟨u10, u11, u12, y10, y11, y12, n1, rfl, _, _, t10, t11, t12⟩ := open_agg3 Try.underlying30 (by kernel_rfl) (by kernel_rfl) (hval 1 30 v1 rfl rfl) h1
  obtain ⟨x10, e10, _, w10⟩ := DataW.trod_int Try.underlying3 t10
  obtain ⟨x11, e11, _, w11⟩ := DataW.trod_int Try.underlying3 t11
  obtain ⟨x12, e12, _, w12⟩ := DataW.trod_string Try.underlying9 t12
  simp only [List.cons.injEq, and_true] at e10 e11 e12
  subst e10 e11 e12
  clear hA0 hval0 hsz0
  obtain h := Pure.FnExactLessVal x00 x01 x02 x10 x11 x12 w00 w01 w02 w10 w11 w12
  refine (laws_FnExactLessVal.calls x00 x01 x02 x10 x11 x12 true W  h).mono fun e W' ⟨he, bel0⟩ => ?_
  have bel : Below W.heap.size W W' := by first | exact bel0 | exact bel0.below
  subst he
  exact ⟨_, rfl, _, _, _, [], _, [], hW', trodAll_mk1 (shut_bool Try.underlying4 _), (trodAll_cons_mk (Below.trod laidOut (by kernel_rfl) (of_decide_eq_true (by kernel_rfl)) k0 bel lt0) (trodAll_cons_mk (Below.trod laidOut (by kernel_rfl) (of_decide_eq_true (by kernel_rfl)) k1 bel lt1) trodAll_mk0)), rfl, bel.frame _, fun h => by cases h⟩
theorem over : Rows.fnExactLessValRow.holds Try.pinned (OpenSpec.ofChange Rows.fnExactLessValSpec) :=
  OpenClaim.holds_of_wide 7 Try.f7 rfl rfl rfl rfl rfl rfl rfl ⟨rfl, rfl, rfl, rfl, rfl⟩ rfl rfl rfl rfl rfl (by kernel_rfl) Try.func7 (by kernel_rfl)
    (of_decide_eq_true (by kernel_rfl)) (by unfold Func.isWrapper; first | (rw [if_pos (by decide +kernel)]; kernel_rfl) | (rw [if_neg (by decide +kernel)]; exact ⟨rfl, rfl⟩))
    (fun os started H enc _ => lifted os started H enc)
theorem proved : Rows.FnExactLessValSaid := over
#print axioms proved
end Go.Proofs.Ytchgdgehgkggpaa.fnExactLessVal
namespace Go.Proofs.Ytchgdgehgkggpaa
/-- The row, under a short name, for the claim. -/
theorem fnExactLessVal_holds : Rows.FnExactLessValSaid := fnExactLessVal.proved
end Go.Proofs.Ytchgdgehgkggpaa

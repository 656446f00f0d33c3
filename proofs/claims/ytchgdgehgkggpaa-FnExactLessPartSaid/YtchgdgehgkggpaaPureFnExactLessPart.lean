/- LessPart answers as the reference does, whatever the part and the two values. No condition. -/
import Derived.Test.YtchgdgehgkggpaaPFnExactLessPartx2
import Derived.Test.YtchgdgehgkggpaaM
namespace Go.Proofs.Ytchgdgehgkggpaa.Pure
open Go.RowKit Go.Proofs.Ytchgdgehgkggpaa.PFnExactLessPart Go.Proofs.YtchgdgehgkggpaaW.PrintWords Go.Proofs.YtchgdgehgkggpaaW.PrintLast Go.Proofs.YtchgdgehgkggpaaW.PrintMore Go.Proofs.YtchgdgehgkggpaaM
set_option linter.unusedVariables false
set_option linter.unusedSimpArgs false

theorem laws_toPart_eq (a b : Int) (c d : Bool) : laws_toPart.f a b c d = some (a, b, c, d) := rfl

theorem laws_szVal_eq (a b : Int) (s : ByteArray) (left : Int) (hs : s.size ≤ maxLen) (h0 : 0 ≤ left) (h1 : left ≤ 1048576) :
    ∃ r : Int, laws_szVal.f a b s left = some r ∧ r ≤ left ∧ (0 ≤ r → r = left - s.size) := by
  unfold laws_szVal.f
  unfold maxLen at hs
  rw [w64 (by omega) (by omega)]
  split
  · exact ⟨-1, rfl, by omega, by omega⟩
  · exact ⟨_, rfl, by omega, fun _ => rfl⟩

theorem laws_toVal_eq (a b : Int) (s : ByteArray) : laws_toVal.f a b s = some (a, b, s) := rfl

theorem spec_LessVal_eq (k n : Int) (s : ByteArray) (k' n' : Int) (s' : ByteArray) : spec_LessVal.f k n s k' n' s' = some (lessVB k n s k' n' s') := by
  unfold spec_LessVal.f lessVB
  split
  · split <;> rfl
  · rfl

theorem spec_LessPart_eq (a0 a1 : Int) (a2 a3 : Bool) (k n : Int) (s : ByteArray) (k' n' : Int) (s' : ByteArray) : spec_LessPart.f a0 a1 a2 a3 k n s k' n' s' = some (lessPB a3 k n s k' n' s') := by
  unfold spec_LessPart.f lessPB
  simp only [spec_LessVal_eq, Option.bind_some]
  split <;> rfl

theorem impl_LessVal_eq (k n : Int) (s : ByteArray) (k' n' : Int) (s' : ByteArray) : impl_LessVal.f k n s k' n' s' = some (lessVB k n s k' n' s') := by
  unfold impl_LessVal.f lessVB
  split
  · split <;> rfl
  · rfl

theorem impl_LessPart_eq (a0 a1 : Int) (a2 a3 : Bool) (k n : Int) (s : ByteArray) (k' n' : Int) (s' : ByteArray) : impl_LessPart.f a0 a1 a2 a3 k n s k' n' s' = some (lessPB a3 k n s k' n' s') := by
  unfold impl_LessPart.f lessPB
  simp only [impl_LessVal_eq, Option.bind_some]
  split <;> rfl

theorem FnExactLessPart (a0 a1 : Int) (a2 a3 : Bool) (k n : Int) (s : ByteArray) (k' n' : Int) (s' : ByteArray) (g0 : (Lit.int .i64 a0).wf = true) (g1 : (Lit.int .i64 a1).wf = true)
    (h0 : (Lit.int .i64 k).wf = true) (h1 : (Lit.int .i64 n).wf = true) (h2 : s.size ≤ maxLen)
    (h3 : (Lit.int .i64 k').wf = true) (h4 : (Lit.int .i64 n').wf = true) (h5 : s'.size ≤ maxLen) : laws_FnExactLessPart.f a0 a1 a2 a3 k n s k' n' s' = some true := by
  unfold laws_FnExactLessPart.f
  obtain ⟨r, hr, hr1, hr2⟩ := laws_szVal_eq k n s 1048576 h2 (by omega) (by omega)
  rw [hr]; simp only [Option.bind_some]
  split
  · rfl
  obtain ⟨q, hq, hq1, hq2⟩ := laws_szVal_eq k' n' s' r h5 (by omega) (by omega)
  rw [hq]; simp only [Option.bind_some]
  split
  · rfl
  simp [laws_toVal_eq, laws_toPart_eq, spec_LessPart_eq, impl_LessPart_eq]

end Go.Proofs.Ytchgdgehgkggpaa.Pure

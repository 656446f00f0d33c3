/- LessVal answers as the reference does, whatever the two values. No condition. -/
import Derived.Test.YtchgdgehgkggpaaPFnExactLessValx1
import Derived.Test.YtchgdgehgkggpaaM
namespace Go.Proofs.Ytchgdgehgkggpaa.Pure
open Go.RowKit Go.Proofs.Ytchgdgehgkggpaa.PFnExactLessVal Go.Proofs.YtchgdgehgkggpaaW.PrintWords Go.Proofs.YtchgdgehgkggpaaW.PrintLast Go.Proofs.YtchgdgehgkggpaaW.PrintMore Go.Proofs.YtchgdgehgkggpaaM
set_option linter.unusedVariables false
set_option linter.unusedSimpArgs false

theorem laws_szVal_eq (a b : Int) (s : ByteArray) (left : Int) (hs : s.size ≤ maxLen) (h0 : 0 ≤ left) (h1 : left ≤ 1048576) :
    ∃ r : Int, laws_szVal.f a b s left = some r ∧ r ≤ left ∧ (0 ≤ r → r = left - s.size) := by
  unfold laws_szVal.f
  unfold maxLen at hs
  rw [w64 (by omega) (by omega)]
  split
  · exact ⟨-1, rfl, by omega, by omega⟩
  · exact ⟨_, rfl, by omega, fun _ => rfl⟩

theorem laws_toVal_eq (a b : Int) (s : ByteArray) : laws_toVal.f a b s = some (a, b, s) := rfl

theorem spec_LessVal_eq (k n : Int) (s : ByteArray) (k' n' : Int) (s' : ByteArray) : spec_LessVal.f k n s k' n' s' = some (lessVB k n s k' n' s') := by
  unfold spec_LessVal.f lessVB
  split
  · split <;> rfl
  · rfl

theorem impl_LessVal_eq (k n : Int) (s : ByteArray) (k' n' : Int) (s' : ByteArray) : impl_LessVal.f k n s k' n' s' = some (lessVB k n s k' n' s') := by
  unfold impl_LessVal.f lessVB
  split
  · split <;> rfl
  · rfl

theorem FnExactLessVal (k n : Int) (s : ByteArray) (k' n' : Int) (s' : ByteArray) (h0 : (Lit.int .i64 k).wf = true) (h1 : (Lit.int .i64 n).wf = true) (h2 : s.size ≤ maxLen)
    (h3 : (Lit.int .i64 k').wf = true) (h4 : (Lit.int .i64 n').wf = true) (h5 : s'.size ≤ maxLen) : laws_FnExactLessVal.f k n s k' n' s' = some true := by
  unfold laws_FnExactLessVal.f
  obtain ⟨r, hr, hr1, hr2⟩ := laws_szVal_eq k n s 1048576 h2 (by omega) (by omega)
  rw [hr]; simp only [Option.bind_some]
  split
  · rfl
  obtain ⟨q, hq, hq1, hq2⟩ := laws_szVal_eq k' n' s' r h5 (by omega) (by omega)
  rw [hq]; simp only [Option.bind_some]
  split
  · rfl
  simp [laws_toVal_eq, spec_LessVal_eq, impl_LessVal_eq]

end Go.Proofs.Ytchgdgehgkggpaa.Pure

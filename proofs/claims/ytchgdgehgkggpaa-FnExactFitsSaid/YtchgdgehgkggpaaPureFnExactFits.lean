/- Fits answers as the reference does, whatever the part and the value. No condition. -/
import Derived.Test.YtchgdgehgkggpaaPFnExactFitsx2
import Derived.Test.YtchgdgehgkggpaaM
namespace Go.Proofs.Ytchgdgehgkggpaa.Pure
open Go.RowKit Go.Proofs.Ytchgdgehgkggpaa.PFnExactFits Go.Proofs.YtchgdgehgkggpaaW.PrintWords Go.Proofs.YtchgdgehgkggpaaW.PrintLast Go.Proofs.YtchgdgehgkggpaaW.PrintMore Go.Proofs.YtchgdgehgkggpaaM
set_option linter.unusedVariables false
set_option linter.unusedSimpArgs false

theorem laws_toPart_eq (a b : Int) (c d : Bool) : laws_toPart.f a b c d = some (a, b, c, d) := rfl

theorem laws_szVal_eq (a b : Int) (s : ByteArray) (left : Int) (hs : s.size ≤ maxLen) (h0 : 0 ≤ left) (h1 : left ≤ 1048576) :
    ∃ r : Int, laws_szVal.f a b s left = some r ∧ r ≤ left ∧ (0 ≤ r → r = left - s.size) := by
  unfold laws_szVal.f
  unfold maxLen at hs
  rw [w64 (by omega) (by omega)]
  split
  · exact ⟨-1, rfl, by omega, by omega⟩
  · exact ⟨_, rfl, by omega, fun _ => rfl⟩

theorem laws_toVal_eq (a b : Int) (s : ByteArray) : laws_toVal.f a b s = some (a, b, s) := rfl

theorem spec_l1In_eq (a b c : Int) : spec_l1In.f a b c = some (inB a b c) := in_ite a b c

theorem spec_ValOk_eq (k n : Int) (s : ByteArray) : spec_ValOk.f k n s = some (valOkB k n s) := by
  unfold spec_ValOk.f valOkB isE
  simp only [spec_l1In_eq, Option.bind_some]
  by_cases h0 : k = 0
  · simp only [h0, if_true]; by_cases hn : n = 0 <;> simp [hn]
  simp only [h0, if_false]
  by_cases h1 : k = 1
  · simp only [h1, if_true]; cases inB n (-2147483648) 2147483647 <;> simp
  simp only [h1, if_false]
  by_cases h2 : k = 2
  · simp only [h2, if_true]; cases inB n (-1000000000000000) 1000000000000000 <;> simp
  simp only [h2, if_false]
  by_cases h3 : k = 3
  · simp only [h3, if_true]; by_cases hn : n = 0 <;> by_cases hs : (s.size : Int) ≤ 30 <;> simp [hn, hs]
  simp only [h3, if_false]
  by_cases h4 : k = 4
  · simp only [h4, if_true]; cases inB n 0 1 <;> simp
  simp only [h4, if_false]

theorem spec_Fits_eq (a0 t : Int) (null a3 : Bool) (k n : Int) (s : ByteArray) : spec_Fits.f a0 t null a3 k n s = some (fitsB t null k n s) := by
  unfold spec_Fits.f fitsB
  simp only [spec_ValOk_eq, Option.bind_some]
  cases valOkB k n s
  · simp
  · simp only [if_true, Bool.true_and]
    by_cases h1 : k = t
    · rw [if_pos h1]
      by_cases h0 : k = 0
      · rw [if_pos h0, if_pos h0]
      · rw [if_neg h0, if_neg h0]; simp [h1]
    · rw [if_neg h1]
      by_cases h0 : k = 0
      · rw [if_pos h0, if_pos h0]
      · rw [if_neg h0, if_neg h0]; simp [h1]

theorem impl_in_eq (a b c : Int) : impl_in.f a b c = some (inB a b c) := in_ite a b c

theorem impl_ValOk_eq (k n : Int) (s : ByteArray) : impl_ValOk.f k n s = some (valOkB k n s) := by
  unfold impl_ValOk.f valOkB isE
  simp only [impl_in_eq, Option.bind_some]
  by_cases h0 : k = 0
  · simp only [h0, if_true]; by_cases hn : n = 0 <;> simp [hn]
  simp only [h0, if_false]
  by_cases h1 : k = 1
  · simp only [h1, if_true]; cases inB n (-2147483648) 2147483647 <;> simp
  simp only [h1, if_false]
  by_cases h2 : k = 2
  · simp only [h2, if_true]; cases inB n (-1000000000000000) 1000000000000000 <;> simp
  simp only [h2, if_false]
  by_cases h3 : k = 3
  · simp only [h3, if_true]; by_cases hn : n = 0 <;> by_cases hs : (s.size : Int) ≤ 30 <;> simp [hn, hs]
  simp only [h3, if_false]
  by_cases h4 : k = 4
  · simp only [h4, if_true]; cases inB n 0 1 <;> simp
  simp only [h4, if_false]

theorem impl_Fits_eq (a0 t : Int) (null a3 : Bool) (k n : Int) (s : ByteArray) : impl_Fits.f a0 t null a3 k n s = some (fitsB t null k n s) := by
  unfold impl_Fits.f fitsB
  simp only [impl_ValOk_eq, Option.bind_some]
  cases valOkB k n s
  · simp
  · simp only [if_true, Bool.true_and]
    by_cases h1 : k = t
    · rw [if_pos h1]
      by_cases h0 : k = 0
      · rw [if_pos h0, if_pos h0]
      · rw [if_neg h0, if_neg h0]; simp [h1]
    · rw [if_neg h1]
      by_cases h0 : k = 0
      · rw [if_pos h0, if_pos h0]
      · rw [if_neg h0, if_neg h0]; simp [h1]

theorem FnExactFits (a0 a1 : Int) (a2 a3 : Bool) (k n : Int) (s : ByteArray) (g0 : (Lit.int .i64 a0).wf = true) (g1 : (Lit.int .i64 a1).wf = true) (h0 : (Lit.int .i64 k).wf = true) (h1 : (Lit.int .i64 n).wf = true) (h2 : s.size ≤ maxLen) : laws_FnExactFits.f a0 a1 a2 a3 k n s = some true := by
  unfold laws_FnExactFits.f
  obtain ⟨r, hr, hr1, hr2⟩ := laws_szVal_eq k n s 1048576 h2 (by omega) (by omega)
  rw [hr]; simp only [Option.bind_some]
  split
  · rfl
  simp [laws_toVal_eq, laws_toPart_eq, spec_Fits_eq, impl_Fits_eq]

end Go.Proofs.Ytchgdgehgkggpaa.Pure

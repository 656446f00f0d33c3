/- FitsAll answers as the reference does, whatever the lists; they stay as they are. No condition. -/
import Derived.Test.YtchgdgehgkggpaaPFnExactFitsAllx4
import Derived.Test.YtchgdgehgkggpaaM
namespace Go.Proofs.Ytchgdgehgkggpaa.Pure
open Go.RowKit Go.Proofs.Ytchgdgehgkggpaa.PFnExactFitsAll Go.Proofs.YtchgdgehgkggpaaW.PrintWords Go.Proofs.YtchgdgehgkggpaaW.PrintLast Go.Proofs.YtchgdgehgkggpaaW.PrintMore Go.Proofs.YtchgdgehgkggpaaM
set_option linter.unusedVariables false
set_option linter.unusedSimpArgs false

theorem rd_T24_nat (xs : List S24) (i : Nat) (h : i < xs.length) : rd_T24 xs (i : Int) = xs[i] := by
  unfold rd_T24; simp [List.getD_eq_getElem?_getD, h]

theorem rd_T26_nat (xs : List S26) (i : Nat) (h : i < xs.length) : rd_T26 xs (i : Int) = xs[i] := by
  unfold rd_T26; simp [List.getD_eq_getElem?_getD, h]

theorem rd_T30_nat (xs : List S30) (i : Nat) (h : i < xs.length) : rd_T30 xs (i : Int) = xs[i] := by
  unfold rd_T30; simp [List.getD_eq_getElem?_getD, h]

theorem rd_T33_nat (xs : List S33) (i : Nat) (h : i < xs.length) : rd_T33 xs (i : Int) = xs[i] := by
  unfold rd_T33; simp [List.getD_eq_getElem?_getD, h]
def sameV (a b : S33) : Bool := sameVB a.f0 a.f1 a.f2 b.f0 b.f1 b.f2
theorem sameV_not (a b : S33) : (!(a.f0 == b.f0) || (!(a.f1 == b.f1) || (!(a.f2.toList == b.f2.toList)))) = !sameV a b := by
  unfold sameV sameVB; cases a.f0 == b.f0 <;> cases a.f1 == b.f1 <;> cases a.f2.toList == b.f2.toList <;> rfl
def sameRowB (a b : List S33) : Bool := decide (a.length = b.length) && (a.zip b).all fun q => sameV q.1 q.2

def fitsV (p : S26) (v : S33) : Bool := fitsB p.f1 p.f2 v.f0 v.f1 v.f2
def fitsAllB (l : List S26) (v : List S33) : Bool := decide (v.length ≤ l.length) && (l.zip v).all fun q => fitsV q.1 q.2
def lessAt (l : List S26) (a b : S33) : Bool := match l with
  | [] => false
  | p :: _ => lessPB p.f3 a.f0 a.f1 a.f2 b.f0 b.f1 b.f2
def lessKeyB : List S26 → List S33 → List S33 → Bool
  | l, a :: a2, b :: b2 => if sameVB a.f0 a.f1 a.f2 b.f0 b.f1 b.f2 = true then lessKeyB l.tail a2 b2 else lessAt l a b
  | _, [], b2 => decide (0 < b2.length)
  | _, _ :: _, [] => false

theorem laws_szPartS_eq (l : List S24) (left : Int) (hl : l.length ≤ maxLen) (h0 : 0 ≤ left) (h1 : left ≤ 1048576) :
    ∃ r : Int, laws_szPartS.f l left = some r ∧ r ≤ left ∧ (0 ≤ r → r = left - l.length) := by
  unfold laws_szPartS.f
  unfold maxLen at hl
  rw [w64 (by omega) (by omega)]
  split
  · exact ⟨-1, rfl, by omega, by omega⟩
  · exact ⟨_, rfl, by omega, fun _ => rfl⟩

theorem laws_toPart_eq (a b : Int) (c d : Bool) : laws_toPart.f a b c d = some (a, b, c, d) := rfl

def cvP (p : S24) : S26 := ⟨p.f0, p.f1, p.f2, p.f3⟩
theorem laws_toPartS_l0 (l : List S24) (h : l.length ≤ 1048576) : ∀ i, i ≤ l.length → ∀ xs : List S26, xs.length = l.length →
    Ev (fun k => laws_toPartS.l0 k l xs (i : Int)) (xs.take i ++ (l.drop i).map cvP) := by
  refine up_ind l.length (fun i => ∀ xs : List S26, xs.length = l.length → Ev (fun k => laws_toPartS.l0 k l xs (i : Int)) (xs.take i ++ (l.drop i).map cvP)) ?_ ?_
  · intro xs hx
    refine ev_succ ?_
    have h1 : ¬ ((l.length : Int) < (l.length : Int)) := by omega
    simp only [laws_toPartS.l0.eq_2, h1, if_false]
    rw [List.take_of_length_le (by omega), List.drop_eq_nil_of_le (by omega)]
    simpa using ev_some xs
  · intro i hi ih xs hx
    refine ev_succ ?_
    have h1 : (i : Int) < (l.length : Int) := by omega
    have h2 : (0 : Int) ≤ (i : Int) := by omega
    have h3 : (i : Int) < (xs.length : Int) := by omega
    simp only [laws_toPartS.l0.eq_2, h1, h2, h3, if_true, laws_toPart_eq, Option.bind_some, rd_T24_nat l i hi, Int.toNat_natCast, wsucc (show i < 9223372036854775807 by omega)]
    have := ih (xs.set i (cvP l[i])) (by simp [hx])
    rw [take_set_succ _ _ _ (by omega)] at this
    rw [List.append_assoc] at this
    rw [List.drop_eq_getElem_cons hi]
    exact this
theorem laws_toPartS_ev (l : List S24) (h : l.length ≤ 1048576) : Ev (fun k => laws_toPartS.f k l) (l.map cvP) := by
  unfold laws_toPartS.f
  have h1 : (0 : Int) ≤ (l.length : Int) := by omega
  have h2 : l.length ≤ 11728124029610 := by omega
  simp only [h1, h2, if_true, Int.toNat_natCast]
  simpa using laws_toPartS_l0 l h 0 (by omega) (List.replicate l.length z26) (by simp)

theorem laws_eqPart_refl (a b : Int) (c d : Bool) : laws_eqPart.f a b c d a b c d = some true := by unfold laws_eqPart.f; simp

theorem laws_eqPartS_l0 (l : List S26) (h : l.length ≤ 9223372036854775807) : ∀ i, i ≤ l.length → Ev (fun k => laws_eqPartS.l0 k l l (i : Int)) true := by
  refine up_ind l.length (fun i => Ev (fun k => laws_eqPartS.l0 k l l (i : Int)) true) ?_ ?_
  · refine ev_succ ?_
    have h1 : ¬ ((l.length : Int) < (l.length : Int)) := by omega
    simp only [laws_eqPartS.l0.eq_2, h1, if_false]
    exact ev_some _
  · intro i hi ih
    refine ev_succ ?_
    have h1 : (i : Int) < (l.length : Int) := by omega
    have h2 : (0 : Int) ≤ (i : Int) := by omega
    simp only [laws_eqPartS.l0.eq_2, h1, h2, if_true, laws_eqPart_refl, Option.bind_some, wsucc (show i < 9223372036854775807 by omega)]
    exact ih
theorem laws_eqPartS_ev (l : List S26) (h : l.length ≤ 9223372036854775807) : Ev (fun k => laws_eqPartS.f k l l) true := by
  unfold laws_eqPartS.f
  simp only [if_true]
  exact laws_eqPartS_l0 l h 0 (by omega)

theorem laws_szVal_eq (a b : Int) (s : ByteArray) (left : Int) (hs : s.size ≤ maxLen) (h0 : 0 ≤ left) (h1 : left ≤ 1048576) :
    ∃ r : Int, laws_szVal.f a b s left = some r ∧ r ≤ left ∧ (0 ≤ r → r = left - s.size) := by
  unfold laws_szVal.f
  unfold maxLen at hs
  rw [w64 (by omega) (by omega)]
  split
  · exact ⟨-1, rfl, by omega, by omega⟩
  · exact ⟨_, rfl, by omega, fun _ => rfl⟩

theorem laws_szValS_l0 (l : List S30) (hl : l.length ≤ 1048576) (hs : ∀ v ∈ l, v.f2.size ≤ maxLen) : ∀ i, i ≤ l.length → ∀ left : Int, 0 ≤ left → left ≤ 1048576 →
    ∃ r : Int, Ev (fun k => laws_szValS.l0 k l left (i : Int)) r ∧ r ≤ left := by
  refine up_ind l.length (fun i => ∀ left : Int, 0 ≤ left → left ≤ 1048576 → ∃ r : Int, Ev (fun k => laws_szValS.l0 k l left (i : Int)) r ∧ r ≤ left) ?_ ?_
  · intro left h0 h1
    refine ⟨left, ev_succ ?_, by omega⟩
    have h1 : ¬ ((l.length : Int) < (l.length : Int)) := by omega
    simp only [laws_szValS.l0.eq_2, h1, if_false]
    exact ev_some _
  · intro i hi ih left h0 h1
    obtain ⟨r, hr, hr1, hr2⟩ := laws_szVal_eq l[i].f0 l[i].f1 l[i].f2 left (hs _ (List.getElem_mem hi)) h0 h1
    have h3 : (i : Int) < (l.length : Int) := by omega
    have h4 : (0 : Int) ≤ (i : Int) := by omega
    by_cases hn : r < 0
    · refine ⟨-1, ev_succ ?_, by omega⟩
      simp only [laws_szValS.l0.eq_2, h3, h4, if_true, rd_T30_nat l i hi, hr, Option.bind_some, hn]
      exact ev_some _
    · obtain ⟨q, hq, hq1⟩ := ih r (by omega) (by omega)
      refine ⟨q, ev_succ ?_, by omega⟩
      simp only [laws_szValS.l0.eq_2, h3, h4, if_true, rd_T30_nat l i hi, hr, Option.bind_some, hn, if_false, wsucc (show i < 9223372036854775807 by omega)]
      exact hq
theorem laws_szValS_ev (l : List S30) (left : Int) (hl : l.length ≤ maxLen) (hs : ∀ v ∈ l, v.f2.size ≤ maxLen) (h0 : 0 ≤ left) (h1 : left ≤ 1048576) :
    ∃ r : Int, Ev (fun k => laws_szValS.f k l left) r ∧ r ≤ left ∧ (0 ≤ r → l.length ≤ 1048576) := by
  unfold laws_szValS.f
  unfold maxLen at hl
  rw [w64 (by omega) (by omega)]
  by_cases hn : left - (l.length : Int) < 0
  · refine ⟨-1, ?_, by omega, by omega⟩
    simp only [hn, if_true]
    exact ev_some _
  · obtain ⟨r, hr, hr1⟩ := laws_szValS_l0 l (by omega) hs 0 (by omega) (left - (l.length : Int)) (by omega) (by omega)
    refine ⟨r, ?_, by omega, by omega⟩
    simp only [hn, if_false]
    exact hr

theorem spec_l1In_eq (a b c : Int) : spec_l1In.f a b c = some (inB a b c) := in_ite a b c

theorem spec_ValOk_eq (k n : Int) (s : ByteArray) : spec_ValOk.f k n s = some (valOkB k n s) := by
  unfold spec_ValOk.f valOkB isE
  simp only [spec_l1In_eq, Option.bind_some]
  by_cases h0 : k = 0
  · simp only [h0, if_true]; by_cases hn : n = 0 <;> simp [hn]
  simp only [h0, if_false]
  by_cases h1 : k = 1
  · simp only [h1, if_true]; cases inB n (-2147483648) 2147483647 <;> simp
  simp only [h1, if_false]
  by_cases h2 : k = 2
  · simp only [h2, if_true]; cases inB n (-1000000000000000) 1000000000000000 <;> simp
  simp only [h2, if_false]
  by_cases h3 : k = 3
  · simp only [h3, if_true]; by_cases hn : n = 0 <;> by_cases hs : (s.size : Int) ≤ 30 <;> simp [hn, hs]
  simp only [h3, if_false]
  by_cases h4 : k = 4
  · simp only [h4, if_true]; cases inB n 0 1 <;> simp
  simp only [h4, if_false]

theorem spec_Fits_eq (a0 t : Int) (null a3 : Bool) (k n : Int) (s : ByteArray) : spec_Fits.f a0 t null a3 k n s = some (fitsB t null k n s) := by
  unfold spec_Fits.f fitsB
  simp only [spec_ValOk_eq, Option.bind_some]
  cases valOkB k n s
  · simp
  · simp only [if_true, Bool.true_and]
    by_cases h1 : k = t
    · rw [if_pos h1]
      by_cases h0 : k = 0
      · rw [if_pos h0, if_pos h0]
      · rw [if_neg h0, if_neg h0]; simp [h1]
    · rw [if_neg h1]
      by_cases h0 : k = 0
      · rw [if_pos h0, if_pos h0]
      · rw [if_neg h0, if_neg h0]; simp [h1]

theorem spec_FitsAll_l0 (l : List S26) (v : List S33) (h : v.length ≤ l.length) (hl : v.length ≤ 9223372036854775807) : ∀ i, i ≤ v.length → Ev (fun k => spec_FitsAll.l0 k l v (i : Int)) (((l.drop i).zip (v.drop i)).all fun q => fitsV q.1 q.2) := by
  refine up_ind v.length (fun i => Ev (fun k => spec_FitsAll.l0 k l v (i : Int)) (((l.drop i).zip (v.drop i)).all fun q => fitsV q.1 q.2)) ?_ ?_
  · refine ev_succ ?_
    have h1 : ¬ ((v.length : Int) < (v.length : Int)) := by omega
    simp only [spec_FitsAll.l0.eq_2, h1, if_false]
    rw [List.drop_eq_nil_of_le (show v.length ≤ _ by omega)]
    simpa using ev_some _
  · intro i hi ih
    refine ev_succ ?_
    have h1 : (i : Int) < (v.length : Int) := by omega
    have h2 : (0 : Int) ≤ (i : Int) := by omega
    have h3 : (i : Int) < (l.length : Int) := by omega
    have hil : i < l.length := by omega
    simp only [spec_FitsAll.l0.eq_2, h1, h2, h3, if_true, rd_T26_nat l i hil, rd_T33_nat v i hi, spec_Fits_eq, Option.bind_some, wsucc (show i < 9223372036854775807 by omega)]
    rw [List.drop_eq_getElem_cons hi, List.drop_eq_getElem_cons hil, List.zip_cons_cons, List.all_cons]
    cases hp : fitsB l[i].f1 l[i].f2 v[i].f0 v[i].f1 v[i].f2
    · simpa [fitsV, hp] using ev_some _
    · simpa [fitsV, hp] using ih
theorem spec_FitsAll_ev (l : List S26) (v : List S33) (hl : v.length ≤ 9223372036854775807) : Ev (fun k => spec_FitsAll.f k l v) (fitsAllB l v) := by
  unfold spec_FitsAll.f fitsAllB
  by_cases h : v.length ≤ l.length
  · have h1 : ¬ ((v.length : Int) > (l.length : Int)) := by omega
    simp only [h1, if_false, decide_eq_true h, Bool.true_and]
    simpa using spec_FitsAll_l0 l v h hl 0 (by omega)
  · have h1 : (v.length : Int) > (l.length : Int) := by omega
    simp only [h1, if_true, decide_eq_false h, Bool.false_and]
    exact ev_some _

theorem laws_toVal_eq (a b : Int) (s : ByteArray) : laws_toVal.f a b s = some (a, b, s) := rfl

def cvV (p : S30) : S33 := ⟨p.f0, p.f1, p.f2⟩
theorem laws_toValS_l0 (l : List S30) (h : l.length ≤ 1048576) : ∀ i, i ≤ l.length → ∀ xs : List S33, xs.length = l.length →
    Ev (fun k => laws_toValS.l0 k l xs (i : Int)) (xs.take i ++ (l.drop i).map cvV) := by
  refine up_ind l.length (fun i => ∀ xs : List S33, xs.length = l.length → Ev (fun k => laws_toValS.l0 k l xs (i : Int)) (xs.take i ++ (l.drop i).map cvV)) ?_ ?_
  · intro xs hx
    refine ev_succ ?_
    have h1 : ¬ ((l.length : Int) < (l.length : Int)) := by omega
    simp only [laws_toValS.l0.eq_2, h1, if_false]
    rw [List.take_of_length_le (by omega), List.drop_eq_nil_of_le (by omega)]
    simpa using ev_some xs
  · intro i hi ih xs hx
    refine ev_succ ?_
    have h1 : (i : Int) < (l.length : Int) := by omega
    have h2 : (0 : Int) ≤ (i : Int) := by omega
    have h3 : (i : Int) < (xs.length : Int) := by omega
    simp only [laws_toValS.l0.eq_2, h1, h2, h3, if_true, laws_toVal_eq, Option.bind_some, rd_T30_nat l i hi, Int.toNat_natCast, wsucc (show i < 9223372036854775807 by omega)]
    have := ih (xs.set i (cvV l[i])) (by simp [hx])
    rw [take_set_succ _ _ _ (by omega)] at this
    rw [List.append_assoc] at this
    rw [List.drop_eq_getElem_cons hi]
    exact this
theorem laws_toValS_ev (l : List S30) (h : l.length ≤ 1048576) : Ev (fun k => laws_toValS.f k l) (l.map cvV) := by
  unfold laws_toValS.f
  have h1 : (0 : Int) ≤ (l.length : Int) := by omega
  have h2 : l.length ≤ 8796093022208 := by omega
  simp only [h1, h2, if_true, Int.toNat_natCast]
  simpa using laws_toValS_l0 l h 0 (by omega) (List.replicate l.length z33) (by simp)

theorem impl_in_eq (a b c : Int) : impl_in.f a b c = some (inB a b c) := in_ite a b c

theorem impl_ValOk_eq (k n : Int) (s : ByteArray) : impl_ValOk.f k n s = some (valOkB k n s) := by
  unfold impl_ValOk.f valOkB isE
  simp only [impl_in_eq, Option.bind_some]
  by_cases h0 : k = 0
  · simp only [h0, if_true]; by_cases hn : n = 0 <;> simp [hn]
  simp only [h0, if_false]
  by_cases h1 : k = 1
  · simp only [h1, if_true]; cases inB n (-2147483648) 2147483647 <;> simp
  simp only [h1, if_false]
  by_cases h2 : k = 2
  · simp only [h2, if_true]; cases inB n (-1000000000000000) 1000000000000000 <;> simp
  simp only [h2, if_false]
  by_cases h3 : k = 3
  · simp only [h3, if_true]; by_cases hn : n = 0 <;> by_cases hs : (s.size : Int) ≤ 30 <;> simp [hn, hs]
  simp only [h3, if_false]
  by_cases h4 : k = 4
  · simp only [h4, if_true]; cases inB n 0 1 <;> simp
  simp only [h4, if_false]

theorem impl_Fits_eq (a0 t : Int) (null a3 : Bool) (k n : Int) (s : ByteArray) : impl_Fits.f a0 t null a3 k n s = some (fitsB t null k n s) := by
  unfold impl_Fits.f fitsB
  simp only [impl_ValOk_eq, Option.bind_some]
  cases valOkB k n s
  · simp
  · simp only [if_true, Bool.true_and]
    by_cases h1 : k = t
    · rw [if_pos h1]
      by_cases h0 : k = 0
      · rw [if_pos h0, if_pos h0]
      · rw [if_neg h0, if_neg h0]; simp [h1]
    · rw [if_neg h1]
      by_cases h0 : k = 0
      · rw [if_pos h0, if_pos h0]
      · rw [if_neg h0, if_neg h0]; simp [h1]

theorem impl_FitsAll_l0 (l : List S26) (v : List S33) (h : v.length ≤ l.length) (hl : v.length ≤ 9223372036854775807) : ∀ i, i ≤ v.length → Ev (fun k => impl_FitsAll.l0 k l v (v.length : Int) (i : Int)) (((l.drop i).zip (v.drop i)).all fun q => fitsV q.1 q.2) := by
  refine up_ind v.length (fun i => Ev (fun k => impl_FitsAll.l0 k l v (v.length : Int) (i : Int)) (((l.drop i).zip (v.drop i)).all fun q => fitsV q.1 q.2)) ?_ ?_
  · refine ev_succ ?_
    have h1 : ¬ ((v.length : Int) < (v.length : Int)) := by omega
    simp only [impl_FitsAll.l0.eq_2, h1, if_false]
    rw [List.drop_eq_nil_of_le (show v.length ≤ _ by omega)]
    simpa using ev_some _
  · intro i hi ih
    refine ev_succ ?_
    have h1 : (i : Int) < (v.length : Int) := by omega
    have h2 : (0 : Int) ≤ (i : Int) := by omega
    have h3 : (i : Int) < (l.length : Int) := by omega
    have hil : i < l.length := by omega
    simp only [impl_FitsAll.l0.eq_2, h1, h2, h3, if_true, rd_T26_nat l i hil, rd_T33_nat v i hi, impl_Fits_eq, Option.bind_some, wsucc (show i < 9223372036854775807 by omega)]
    rw [List.drop_eq_getElem_cons hi, List.drop_eq_getElem_cons hil, List.zip_cons_cons, List.all_cons]
    cases hp : fitsB l[i].f1 l[i].f2 v[i].f0 v[i].f1 v[i].f2
    · simpa [fitsV, hp] using ev_some _
    · simpa [fitsV, hp] using ih
theorem impl_FitsAll_ev (l : List S26) (v : List S33) (hl : v.length ≤ 9223372036854775807) : Ev (fun k => impl_FitsAll.f k l v) (fitsAllB l v) := by
  unfold impl_FitsAll.f fitsAllB
  by_cases h : v.length ≤ l.length
  · have h1 : ¬ ((v.length : Int) > (l.length : Int)) := by omega
    simp only [h1, if_false, decide_eq_true h, Bool.true_and]
    simpa using impl_FitsAll_l0 l v h hl 0 (by omega)
  · have h1 : (v.length : Int) > (l.length : Int) := by omega
    simp only [h1, if_true, decide_eq_false h, Bool.false_and]
    exact ev_some _

theorem laws_eqVal_refl (a b : Int) (s : ByteArray) : laws_eqVal.f a b s a b s = some true := by unfold laws_eqVal.f; simp

theorem laws_eqValS_l0 (l : List S33) (h : l.length ≤ 9223372036854775807) : ∀ i, i ≤ l.length → Ev (fun k => laws_eqValS.l0 k l l (i : Int)) true := by
  refine up_ind l.length (fun i => Ev (fun k => laws_eqValS.l0 k l l (i : Int)) true) ?_ ?_
  · refine ev_succ ?_
    have h1 : ¬ ((l.length : Int) < (l.length : Int)) := by omega
    simp only [laws_eqValS.l0.eq_2, h1, if_false]
    exact ev_some _
  · intro i hi ih
    refine ev_succ ?_
    have h1 : (i : Int) < (l.length : Int) := by omega
    have h2 : (0 : Int) ≤ (i : Int) := by omega
    simp only [laws_eqValS.l0.eq_2, h1, h2, if_true, laws_eqVal_refl, Option.bind_some, wsucc (show i < 9223372036854775807 by omega)]
    exact ih
theorem laws_eqValS_ev (l : List S33) (h : l.length ≤ 9223372036854775807) : Ev (fun k => laws_eqValS.f k l l) true := by
  unfold laws_eqValS.f
  simp only [if_true]
  exact laws_eqValS_l0 l h 0 (by omega)

theorem FnExactFitsAll (l0 : List S24) (l1 : List S30)
    (hm0 : l0.length ≤ maxLen) (hw0 : ∀ p ∈ l0, (Lit.int .i64 p.f0).wf = true ∧ (Lit.int .i64 p.f1).wf = true) (hm1 : l1.length ≤ maxLen) (hw1 : ∀ p ∈ l1, (Lit.int .i64 p.f0).wf = true ∧ (Lit.int .i64 p.f1).wf = true ∧ p.f2.size ≤ maxLen) : ∃ k, laws_FnExactFitsAll.f k l0 l1 = some true := by
  refine Ev.rounds ?_
  unfold laws_FnExactFitsAll.f
  obtain ⟨r0, hr0, hq0, hz0⟩ := laws_szPartS_eq l0 1048576 hm0 (by omega) (by omega)
  simp only [hr0, Option.bind_some]
  by_cases hn0 : r0 < 0
  · simp only [hn0, if_true]; exact ev_some _
  simp only [hn0, if_false]
  have hl0 : l0.length ≤ 1048576 := by have := hz0 (by omega); omega
  obtain ⟨r1, hr1, hq1, hz1⟩ := laws_szValS_ev l1 r0 hm1 (fun v hv => (hw1 v hv).2.2) (by omega) (by omega)
  refine Ev.bind hr1 ?_
  by_cases hn1 : r1 < 0
  · simp only [hn1, if_true]; exact ev_some _
  simp only [hn1, if_false]
  have hl1 : l1.length ≤ 1048576 := hz1 (by omega)
  refine Ev.bind (laws_toPartS_ev l0 hl0) ?_
  refine Ev.bind (laws_toValS_ev l1 hl1) ?_
  refine Ev.bind (spec_FitsAll_ev (l0.map cvP) (l1.map cvV) (by simp; omega)) ?_
  refine Ev.bind (laws_toPartS_ev l0 hl0) ?_
  refine Ev.bind (laws_toValS_ev l1 hl1) ?_
  refine Ev.bind (impl_FitsAll_ev (l0.map cvP) (l1.map cvV) (by simp; omega)) ?_
  simp only [bne_self_eq_false, Bool.false_eq_true, if_false]
  refine Ev.bind (laws_toPartS_ev l0 hl0) ?_
  refine Ev.bind (laws_eqPartS_ev _ (by simp; omega)) ?_
  simp only [if_true]
  refine Ev.bind (laws_toValS_ev l1 hl1) ?_
  refine Ev.bind (laws_eqValS_ev _ (by simp; omega)) ?_
  simp only [if_true]
  exact ev_some _

end Go.Proofs.Ytchgdgehgkggpaa.Pure

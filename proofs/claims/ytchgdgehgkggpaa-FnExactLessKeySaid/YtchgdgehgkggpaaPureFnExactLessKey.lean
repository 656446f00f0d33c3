/- LessKey answers as the reference does, whatever the lists; they stay as they are. No condition. -/
import Derived.Test.YtchgdgehgkggpaaPFnExactLessKeyx7
import Derived.Test.YtchgdgehgkggpaaM
namespace Go.Proofs.Ytchgdgehgkggpaa.Pure
open Go.RowKit Go.Proofs.Ytchgdgehgkggpaa.PFnExactLessKey Go.Proofs.YtchgdgehgkggpaaW.PrintWords Go.Proofs.YtchgdgehgkggpaaW.PrintLast Go.Proofs.YtchgdgehgkggpaaW.PrintMore Go.Proofs.YtchgdgehgkggpaaM
set_option linter.unusedVariables false
set_option linter.unusedSimpArgs false

theorem rd_T24_nat (xs : List S24) (i : Nat) (h : i < xs.length) : rd_T24 xs (i : Int) = xs[i] := by
  unfold rd_T24; simp [List.getD_eq_getElem?_getD, h]

theorem rd_T26_nat (xs : List S26) (i : Nat) (h : i < xs.length) : rd_T26 xs (i : Int) = xs[i] := by
  unfold rd_T26; simp [List.getD_eq_getElem?_getD, h]

theorem rd_T30_nat (xs : List S30) (i : Nat) (h : i < xs.length) : rd_T30 xs (i : Int) = xs[i] := by
  unfold rd_T30; simp [List.getD_eq_getElem?_getD, h]

theorem rd_T33_nat (xs : List S33) (i : Nat) (h : i < xs.length) : rd_T33 xs (i : Int) = xs[i] := by
  unfold rd_T33; simp [List.getD_eq_getElem?_getD, h]
def sameV (a b : S33) : Bool := sameVB a.f0 a.f1 a.f2 b.f0 b.f1 b.f2
theorem sameV_not (a b : S33) : (!(a.f0 == b.f0) || (!(a.f1 == b.f1) || (!(a.f2.toList == b.f2.toList)))) = !sameV a b := by
  unfold sameV sameVB; cases a.f0 == b.f0 <;> cases a.f1 == b.f1 <;> cases a.f2.toList == b.f2.toList <;> rfl
def sameRowB (a b : List S33) : Bool := decide (a.length = b.length) && (a.zip b).all fun q => sameV q.1 q.2

def fitsV (p : S26) (v : S33) : Bool := fitsB p.f1 p.f2 v.f0 v.f1 v.f2
def fitsAllB (l : List S26) (v : List S33) : Bool := decide (v.length ≤ l.length) && (l.zip v).all fun q => fitsV q.1 q.2
def lessAt (l : List S26) (a b : S33) : Bool := match l with
  | [] => false
  | p :: _ => lessPB p.f3 a.f0 a.f1 a.f2 b.f0 b.f1 b.f2
def lessKeyB : List S26 → List S33 → List S33 → Bool
  | l, a :: a2, b :: b2 => if sameVB a.f0 a.f1 a.f2 b.f0 b.f1 b.f2 = true then lessKeyB l.tail a2 b2 else lessAt l a b
  | _, [], b2 => decide (0 < b2.length)
  | _, _ :: _, [] => false

theorem laws_szPartS_eq (l : List S24) (left : Int) (hl : l.length ≤ maxLen) (h0 : 0 ≤ left) (h1 : left ≤ 1048576) :
    ∃ r : Int, laws_szPartS.f l left = some r ∧ r ≤ left ∧ (0 ≤ r → r = left - l.length) := by
  unfold laws_szPartS.f
  unfold maxLen at hl
  rw [w64 (by omega) (by omega)]
  split
  · exact ⟨-1, rfl, by omega, by omega⟩
  · exact ⟨_, rfl, by omega, fun _ => rfl⟩

theorem laws_toPart_eq (a b : Int) (c d : Bool) : laws_toPart.f a b c d = some (a, b, c, d) := rfl

def cvP (p : S24) : S26 := ⟨p.f0, p.f1, p.f2, p.f3⟩
theorem laws_toPartS_l0 (l : List S24) (h : l.length ≤ 1048576) : ∀ i, i ≤ l.length → ∀ xs : List S26, xs.length = l.length →
    Ev (fun k => laws_toPartS.l0 k l xs (i : Int)) (xs.take i ++ (l.drop i).map cvP) := by
  refine up_ind l.length (fun i => ∀ xs : List S26, xs.length = l.length → Ev (fun k => laws_toPartS.l0 k l xs (i : Int)) (xs.take i ++ (l.drop i).map cvP)) ?_ ?_
  · intro xs hx
    refine ev_succ ?_
    have h1 : ¬ ((l.length : Int) < (l.length : Int)) := by omega
    simp only [laws_toPartS.l0.eq_2, h1, if_false]
    rw [List.take_of_length_le (by omega), List.drop_eq_nil_of_le (by omega)]
    simpa using ev_some xs
  · intro i hi ih xs hx
    refine ev_succ ?_
    have h1 : (i : Int) < (l.length : Int) := by omega
    have h2 : (0 : Int) ≤ (i : Int) := by omega
    have h3 : (i : Int) < (xs.length : Int) := by omega
    simp only [laws_toPartS.l0.eq_2, h1, h2, h3, if_true, laws_toPart_eq, Option.bind_some, rd_T24_nat l i hi, Int.toNat_natCast, wsucc (show i < 9223372036854775807 by omega)]
    have := ih (xs.set i (cvP l[i])) (by simp [hx])
    rw [take_set_succ _ _ _ (by omega)] at this
    rw [List.append_assoc] at this
    rw [List.drop_eq_getElem_cons hi]
    exact this
theorem laws_toPartS_ev (l : List S24) (h : l.length ≤ 1048576) : Ev (fun k => laws_toPartS.f k l) (l.map cvP) := by
  unfold laws_toPartS.f
  have h1 : (0 : Int) ≤ (l.length : Int) := by omega
  have h2 : l.length ≤ 11728124029610 := by omega
  simp only [h1, h2, if_true, Int.toNat_natCast]
  simpa using laws_toPartS_l0 l h 0 (by omega) (List.replicate l.length z26) (by simp)

theorem laws_eqPart_refl (a b : Int) (c d : Bool) : laws_eqPart.f a b c d a b c d = some true := by unfold laws_eqPart.f; simp

theorem laws_eqPartS_l0 (l : List S26) (h : l.length ≤ 9223372036854775807) : ∀ i, i ≤ l.length → Ev (fun k => laws_eqPartS.l0 k l l (i : Int)) true := by
  refine up_ind l.length (fun i => Ev (fun k => laws_eqPartS.l0 k l l (i : Int)) true) ?_ ?_
  · refine ev_succ ?_
    have h1 : ¬ ((l.length : Int) < (l.length : Int)) := by omega
    simp only [laws_eqPartS.l0.eq_2, h1, if_false]
    exact ev_some _
  · intro i hi ih
    refine ev_succ ?_
    have h1 : (i : Int) < (l.length : Int) := by omega
    have h2 : (0 : Int) ≤ (i : Int) := by omega
    simp only [laws_eqPartS.l0.eq_2, h1, h2, if_true, laws_eqPart_refl, Option.bind_some, wsucc (show i < 9223372036854775807 by omega)]
    exact ih
theorem laws_eqPartS_ev (l : List S26) (h : l.length ≤ 9223372036854775807) : Ev (fun k => laws_eqPartS.f k l l) true := by
  unfold laws_eqPartS.f
  simp only [if_true]
  exact laws_eqPartS_l0 l h 0 (by omega)

theorem laws_szVal_eq (a b : Int) (s : ByteArray) (left : Int) (hs : s.size ≤ maxLen) (h0 : 0 ≤ left) (h1 : left ≤ 1048576) :
    ∃ r : Int, laws_szVal.f a b s left = some r ∧ r ≤ left ∧ (0 ≤ r → r = left - s.size) := by
  unfold laws_szVal.f
  unfold maxLen at hs
  rw [w64 (by omega) (by omega)]
  split
  · exact ⟨-1, rfl, by omega, by omega⟩
  · exact ⟨_, rfl, by omega, fun _ => rfl⟩

theorem laws_szValS_l0 (l : List S30) (hl : l.length ≤ 1048576) (hs : ∀ v ∈ l, v.f2.size ≤ maxLen) : ∀ i, i ≤ l.length → ∀ left : Int, 0 ≤ left → left ≤ 1048576 →
    ∃ r : Int, Ev (fun k => laws_szValS.l0 k l left (i : Int)) r ∧ r ≤ left := by
  refine up_ind l.length (fun i => ∀ left : Int, 0 ≤ left → left ≤ 1048576 → ∃ r : Int, Ev (fun k => laws_szValS.l0 k l left (i : Int)) r ∧ r ≤ left) ?_ ?_
  · intro left h0 h1
    refine ⟨left, ev_succ ?_, by omega⟩
    have h1 : ¬ ((l.length : Int) < (l.length : Int)) := by omega
    simp only [laws_szValS.l0.eq_2, h1, if_false]
    exact ev_some _
  · intro i hi ih left h0 h1
    obtain ⟨r, hr, hr1, hr2⟩ := laws_szVal_eq l[i].f0 l[i].f1 l[i].f2 left (hs _ (List.getElem_mem hi)) h0 h1
    have h3 : (i : Int) < (l.length : Int) := by omega
    have h4 : (0 : Int) ≤ (i : Int) := by omega
    by_cases hn : r < 0
    · refine ⟨-1, ev_succ ?_, by omega⟩
      simp only [laws_szValS.l0.eq_2, h3, h4, if_true, rd_T30_nat l i hi, hr, Option.bind_some, hn]
      exact ev_some _
    · obtain ⟨q, hq, hq1⟩ := ih r (by omega) (by omega)
      refine ⟨q, ev_succ ?_, by omega⟩
      simp only [laws_szValS.l0.eq_2, h3, h4, if_true, rd_T30_nat l i hi, hr, Option.bind_some, hn, if_false, wsucc (show i < 9223372036854775807 by omega)]
      exact hq
theorem laws_szValS_ev (l : List S30) (left : Int) (hl : l.length ≤ maxLen) (hs : ∀ v ∈ l, v.f2.size ≤ maxLen) (h0 : 0 ≤ left) (h1 : left ≤ 1048576) :
    ∃ r : Int, Ev (fun k => laws_szValS.f k l left) r ∧ r ≤ left ∧ (0 ≤ r → l.length ≤ 1048576) := by
  unfold laws_szValS.f
  unfold maxLen at hl
  rw [w64 (by omega) (by omega)]
  by_cases hn : left - (l.length : Int) < 0
  · refine ⟨-1, ?_, by omega, by omega⟩
    simp only [hn, if_true]
    exact ev_some _
  · obtain ⟨r, hr, hr1⟩ := laws_szValS_l0 l (by omega) hs 0 (by omega) (left - (l.length : Int)) (by omega) (by omega)
    refine ⟨r, ?_, by omega, by omega⟩
    simp only [hn, if_false]
    exact hr

theorem laws_toVal_eq (a b : Int) (s : ByteArray) : laws_toVal.f a b s = some (a, b, s) := rfl

def cvV (p : S30) : S33 := ⟨p.f0, p.f1, p.f2⟩
theorem laws_toValS_l0 (l : List S30) (h : l.length ≤ 1048576) : ∀ i, i ≤ l.length → ∀ xs : List S33, xs.length = l.length →
    Ev (fun k => laws_toValS.l0 k l xs (i : Int)) (xs.take i ++ (l.drop i).map cvV) := by
  refine up_ind l.length (fun i => ∀ xs : List S33, xs.length = l.length → Ev (fun k => laws_toValS.l0 k l xs (i : Int)) (xs.take i ++ (l.drop i).map cvV)) ?_ ?_
  · intro xs hx
    refine ev_succ ?_
    have h1 : ¬ ((l.length : Int) < (l.length : Int)) := by omega
    simp only [laws_toValS.l0.eq_2, h1, if_false]
    rw [List.take_of_length_le (by omega), List.drop_eq_nil_of_le (by omega)]
    simpa using ev_some xs
  · intro i hi ih xs hx
    refine ev_succ ?_
    have h1 : (i : Int) < (l.length : Int) := by omega
    have h2 : (0 : Int) ≤ (i : Int) := by omega
    have h3 : (i : Int) < (xs.length : Int) := by omega
    simp only [laws_toValS.l0.eq_2, h1, h2, h3, if_true, laws_toVal_eq, Option.bind_some, rd_T30_nat l i hi, Int.toNat_natCast, wsucc (show i < 9223372036854775807 by omega)]
    have := ih (xs.set i (cvV l[i])) (by simp [hx])
    rw [take_set_succ _ _ _ (by omega)] at this
    rw [List.append_assoc] at this
    rw [List.drop_eq_getElem_cons hi]
    exact this
theorem laws_toValS_ev (l : List S30) (h : l.length ≤ 1048576) : Ev (fun k => laws_toValS.f k l) (l.map cvV) := by
  unfold laws_toValS.f
  have h1 : (0 : Int) ≤ (l.length : Int) := by omega
  have h2 : l.length ≤ 8796093022208 := by omega
  simp only [h1, h2, if_true, Int.toNat_natCast]
  simpa using laws_toValS_l0 l h 0 (by omega) (List.replicate l.length z33) (by simp)

theorem laws_eqVal_refl (a b : Int) (s : ByteArray) : laws_eqVal.f a b s a b s = some true := by unfold laws_eqVal.f; simp

theorem laws_eqValS_l0 (l : List S33) (h : l.length ≤ 9223372036854775807) : ∀ i, i ≤ l.length → Ev (fun k => laws_eqValS.l0 k l l (i : Int)) true := by
  refine up_ind l.length (fun i => Ev (fun k => laws_eqValS.l0 k l l (i : Int)) true) ?_ ?_
  · refine ev_succ ?_
    have h1 : ¬ ((l.length : Int) < (l.length : Int)) := by omega
    simp only [laws_eqValS.l0.eq_2, h1, if_false]
    exact ev_some _
  · intro i hi ih
    refine ev_succ ?_
    have h1 : (i : Int) < (l.length : Int) := by omega
    have h2 : (0 : Int) ≤ (i : Int) := by omega
    simp only [laws_eqValS.l0.eq_2, h1, h2, if_true, laws_eqVal_refl, Option.bind_some, wsucc (show i < 9223372036854775807 by omega)]
    exact ih
theorem laws_eqValS_ev (l : List S33) (h : l.length ≤ 9223372036854775807) : Ev (fun k => laws_eqValS.f k l l) true := by
  unfold laws_eqValS.f
  simp only [if_true]
  exact laws_eqValS_l0 l h 0 (by omega)

theorem spec_SameVal_eq (k n : Int) (s : ByteArray) (k' n' : Int) (s' : ByteArray) : spec_SameVal.f k n s k' n' s' = some (sameVB k n s k' n' s') := rfl

theorem spec_LessVal_eq (k n : Int) (s : ByteArray) (k' n' : Int) (s' : ByteArray) : spec_LessVal.f k n s k' n' s' = some (lessVB k n s k' n' s') := by
  unfold spec_LessVal.f lessVB
  split
  · split <;> rfl
  · rfl

theorem spec_LessPart_eq (a0 a1 : Int) (a2 a3 : Bool) (k n : Int) (s : ByteArray) (k' n' : Int) (s' : ByteArray) : spec_LessPart.f a0 a1 a2 a3 k n s k' n' s' = some (lessPB a3 k n s k' n' s') := by
  unfold spec_LessPart.f lessPB
  simp only [spec_LessVal_eq, Option.bind_some]
  split <;> rfl

theorem spec_LessKey_l0 (l : List S26) (a b : List S33) (ha : a.length ≤ 9223372036854775807) : ∀ i, i ≤ a.length → (i ≤ b.length → Ev (fun k => spec_LessKey.l0 k l a b (i : Int)) (lessKeyB (l.drop i) (a.drop i) (b.drop i))) := by
  refine up_ind a.length (fun i => (i ≤ b.length → Ev (fun k => spec_LessKey.l0 k l a b (i : Int)) (lessKeyB (l.drop i) (a.drop i) (b.drop i)))) ?_ ?_
  · intro hb
    refine ev_succ (ev_succ ?_)
    have h1 : ¬ ((a.length : Int) < (a.length : Int)) := by omega
    simp only [spec_LessKey.l0.eq_2, spec_LessKey.j1.eq_2, h1, if_false, Bool.false_eq_true]
    rw [List.drop_eq_nil_of_le (show a.length ≤ _ by omega)]
    have : lessKeyB (l.drop a.length) [] (b.drop a.length) = decide ((a.length : Int) < (b.length : Int)) := by
      unfold lessKeyB
      rw [List.length_drop]
      apply decide_eq_decide.2
      omega
    rw [this]
    exact ev_some _
  · intro i hi ih hb
    refine ev_succ (ev_succ ?_)
    have h1 : (i : Int) < (a.length : Int) := by omega
    have h2 : (0 : Int) ≤ (i : Int) := by omega
    by_cases hib : i < b.length
    · have h3 : (i : Int) < (b.length : Int) := by omega
      simp only [spec_LessKey.l0.eq_2, spec_LessKey.j1.eq_2, h1, h2, h3, if_true, decide_true, rd_T33_nat a i hi, rd_T33_nat b i hib, spec_SameVal_eq, Option.bind_some, wsucc (show i < 9223372036854775807 by omega)]
      rw [List.drop_eq_getElem_cons hi, List.drop_eq_getElem_cons hib]
      have hk : lessKeyB (l.drop i) (a[i] :: a.drop (i + 1)) (b[i] :: b.drop (i + 1)) = if sameV a[i] b[i] = true then lessKeyB (l.drop (i + 1)) (a.drop (i + 1)) (b.drop (i + 1)) else lessAt (l.drop i) a[i] b[i] := by
        rw [lessKeyB, List.tail_drop]
        rfl
      rw [hk]
      cases hp : sameV a[i] b[i]
      · simp only [show sameVB a[i].f0 a[i].f1 a[i].f2 b[i].f0 b[i].f1 b[i].f2 = sameV a[i] b[i] from rfl, hp, Bool.not_false, Bool.false_eq_true, if_true, if_false]
        by_cases hil : i < l.length
        · have h4 : (i : Int) < (l.length : Int) := by omega
          simp only [h4, if_true, rd_T26_nat l i hil, spec_LessPart_eq, Option.bind_some]
          rw [List.drop_eq_getElem_cons hil]
          exact ev_some _
        · have h4 : ¬ ((i : Int) < (l.length : Int)) := by omega
          simp only [h4, if_false]
          rw [List.drop_eq_nil_of_le (show l.length ≤ _ by omega)]
          exact ev_some _
      · simp only [show sameVB a[i].f0 a[i].f1 a[i].f2 b[i].f0 b[i].f1 b[i].f2 = sameV a[i] b[i] from rfl, hp, Bool.not_true, Bool.false_eq_true, if_true, if_false]
        exact ih (by omega)
    · have h3 : ¬ ((i : Int) < (b.length : Int)) := by omega
      simp only [spec_LessKey.l0.eq_2, spec_LessKey.j1.eq_2, h1, h3, if_true, if_false, decide_false, Bool.false_eq_true]
      rw [List.drop_eq_getElem_cons hi, List.drop_eq_nil_of_le (show b.length ≤ _ by omega)]
      have h4 : decide ((a.length : Int) < (b.length : Int)) = false := by apply decide_eq_false; omega
      rw [h4]
      simpa [lessKeyB] using ev_some false
theorem spec_LessKey_ev (l : List S26) (a b : List S33) (ha : a.length ≤ 9223372036854775807) : Ev (fun k => spec_LessKey.f k l a b) (lessKeyB l a b) := by
  unfold spec_LessKey.f
  simpa using spec_LessKey_l0 l a b ha 0 (by omega) (by omega)

theorem impl_LessVal_eq (k n : Int) (s : ByteArray) (k' n' : Int) (s' : ByteArray) : impl_LessVal.f k n s k' n' s' = some (lessVB k n s k' n' s') := by
  unfold impl_LessVal.f lessVB
  split
  · split <;> rfl
  · rfl

theorem impl_LessPart_eq (a0 a1 : Int) (a2 a3 : Bool) (k n : Int) (s : ByteArray) (k' n' : Int) (s' : ByteArray) : impl_LessPart.f a0 a1 a2 a3 k n s k' n' s' = some (lessPB a3 k n s k' n' s') := by
  unfold impl_LessPart.f lessPB
  simp only [impl_LessVal_eq, Option.bind_some]
  split <;> rfl

theorem impl_LessKey_l0 (l : List S26) (a b : List S33) (ha : a.length ≤ 9223372036854775807) : ∀ i, i ≤ a.length → (i ≤ b.length → Ev (fun k => impl_LessKey.l0 k l a b (i : Int)) (lessKeyB (l.drop i) (a.drop i) (b.drop i))) := by
  refine up_ind a.length (fun i => (i ≤ b.length → Ev (fun k => impl_LessKey.l0 k l a b (i : Int)) (lessKeyB (l.drop i) (a.drop i) (b.drop i)))) ?_ ?_
  · intro hb
    refine ev_succ (ev_succ ?_)
    have h1 : ¬ ((a.length : Int) < (a.length : Int)) := by omega
    simp only [impl_LessKey.l0.eq_2, impl_LessKey.j1.eq_2, h1, if_false, Bool.false_eq_true]
    rw [List.drop_eq_nil_of_le (show a.length ≤ _ by omega)]
    have : lessKeyB (l.drop a.length) [] (b.drop a.length) = decide ((a.length : Int) < (b.length : Int)) := by
      unfold lessKeyB
      rw [List.length_drop]
      apply decide_eq_decide.2
      omega
    rw [this]
    exact ev_some _
  · intro i hi ih hb
    refine ev_succ (ev_succ ?_)
    have h1 : (i : Int) < (a.length : Int) := by omega
    have h2 : (0 : Int) ≤ (i : Int) := by omega
    by_cases hib : i < b.length
    · have h3 : (i : Int) < (b.length : Int) := by omega
      simp only [impl_LessKey.l0.eq_2, impl_LessKey.j1.eq_2, h1, h2, h3, if_true, decide_true, rd_T33_nat a i hi, rd_T33_nat b i hib, sameV_not, wsucc (show i < 9223372036854775807 by omega)]
      rw [List.drop_eq_getElem_cons hi, List.drop_eq_getElem_cons hib]
      have hk : lessKeyB (l.drop i) (a[i] :: a.drop (i + 1)) (b[i] :: b.drop (i + 1)) = if sameV a[i] b[i] = true then lessKeyB (l.drop (i + 1)) (a.drop (i + 1)) (b.drop (i + 1)) else lessAt (l.drop i) a[i] b[i] := by
        rw [lessKeyB, List.tail_drop]
        rfl
      rw [hk]
      cases hp : sameV a[i] b[i]
      · simp only [hp, Bool.not_false, Bool.false_eq_true, if_true, if_false]
        by_cases hil : i < l.length
        · have h4 : (i : Int) < (l.length : Int) := by omega
          simp only [h4, if_true, rd_T26_nat l i hil, impl_LessPart_eq, Option.bind_some]
          rw [List.drop_eq_getElem_cons hil]
          exact ev_some _
        · have h4 : ¬ ((i : Int) < (l.length : Int)) := by omega
          simp only [h4, if_false]
          rw [List.drop_eq_nil_of_le (show l.length ≤ _ by omega)]
          exact ev_some _
      · simp only [hp, Bool.not_true, Bool.false_eq_true, if_true, if_false]
        exact ih (by omega)
    · have h3 : ¬ ((i : Int) < (b.length : Int)) := by omega
      simp only [impl_LessKey.l0.eq_2, impl_LessKey.j1.eq_2, h1, h3, if_true, if_false, decide_false, Bool.false_eq_true]
      rw [List.drop_eq_getElem_cons hi, List.drop_eq_nil_of_le (show b.length ≤ _ by omega)]
      have h4 : decide ((a.length : Int) < (b.length : Int)) = false := by apply decide_eq_false; omega
      rw [h4]
      simpa [lessKeyB] using ev_some false
theorem impl_LessKey_ev (l : List S26) (a b : List S33) (ha : a.length ≤ 9223372036854775807) : Ev (fun k => impl_LessKey.f k l a b) (lessKeyB l a b) := by
  unfold impl_LessKey.f
  simpa using impl_LessKey_l0 l a b ha 0 (by omega) (by omega)

theorem FnExactLessKey (l0 : List S24) (l1 : List S30) (l2 : List S30)
    (hm0 : l0.length ≤ maxLen) (hw0 : ∀ p ∈ l0, (Lit.int .i64 p.f0).wf = true ∧ (Lit.int .i64 p.f1).wf = true) (hm1 : l1.length ≤ maxLen) (hw1 : ∀ p ∈ l1, (Lit.int .i64 p.f0).wf = true ∧ (Lit.int .i64 p.f1).wf = true ∧ p.f2.size ≤ maxLen) (hm2 : l2.length ≤ maxLen) (hw2 : ∀ p ∈ l2, (Lit.int .i64 p.f0).wf = true ∧ (Lit.int .i64 p.f1).wf = true ∧ p.f2.size ≤ maxLen) : ∃ k, laws_FnExactLessKey.f k l0 l1 l2 = some true := by
  refine Ev.rounds ?_
  unfold laws_FnExactLessKey.f
  obtain ⟨r0, hr0, hq0, hz0⟩ := laws_szPartS_eq l0 1048576 hm0 (by omega) (by omega)
  simp only [hr0, Option.bind_some]
  by_cases hn0 : r0 < 0
  · simp only [hn0, if_true]; exact ev_some _
  simp only [hn0, if_false]
  have hl0 : l0.length ≤ 1048576 := by have := hz0 (by omega); omega
  obtain ⟨r1, hr1, hq1, hz1⟩ := laws_szValS_ev l1 r0 hm1 (fun v hv => (hw1 v hv).2.2) (by omega) (by omega)
  refine Ev.bind hr1 ?_
  by_cases hn1 : r1 < 0
  · simp only [hn1, if_true]; exact ev_some _
  simp only [hn1, if_false]
  have hl1 : l1.length ≤ 1048576 := hz1 (by omega)
  obtain ⟨r2, hr2, hq2, hz2⟩ := laws_szValS_ev l2 r1 hm2 (fun v hv => (hw2 v hv).2.2) (by omega) (by omega)
  refine Ev.bind hr2 ?_
  by_cases hn2 : r2 < 0
  · simp only [hn2, if_true]; exact ev_some _
  simp only [hn2, if_false]
  have hl2 : l2.length ≤ 1048576 := hz2 (by omega)
  refine Ev.bind (laws_toPartS_ev l0 hl0) ?_
  refine Ev.bind (laws_toValS_ev l1 hl1) ?_
  refine Ev.bind (laws_toValS_ev l2 hl2) ?_
  refine Ev.bind (spec_LessKey_ev (l0.map cvP) (l1.map cvV) (l2.map cvV) (by simp; omega)) ?_
  refine Ev.bind (laws_toPartS_ev l0 hl0) ?_
  refine Ev.bind (laws_toValS_ev l1 hl1) ?_
  refine Ev.bind (laws_toValS_ev l2 hl2) ?_
  refine Ev.bind (impl_LessKey_ev (l0.map cvP) (l1.map cvV) (l2.map cvV) (by simp; omega)) ?_
  simp only [bne_self_eq_false, Bool.false_eq_true, if_false]
  refine Ev.bind (laws_toPartS_ev l0 hl0) ?_
  refine Ev.bind (laws_eqPartS_ev _ (by simp; omega)) ?_
  simp only [if_true]
  refine Ev.bind (laws_toValS_ev l1 hl1) ?_
  refine Ev.bind (laws_eqValS_ev _ (by simp; omega)) ?_
  simp only [if_true]
  refine Ev.bind (laws_toValS_ev l2 hl2) ?_
  refine Ev.bind (laws_eqValS_ev _ (by simp; omega)) ?_
  simp only [if_true]
  exact ev_some _

end Go.Proofs.Ytchgdgehgkggpaa.Pure

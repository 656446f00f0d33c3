/- Pick answers as the reference does, whatever the lists; its answer is new memory, and the lists stay as they are. No condition. -/
import Derived.Test.YteeokieokbibbaaPFnExactPickx4
import Derived.Test.YteeokieokbibbaaM
import Derived.Test.YteeokieokbibbaaB
namespace Go.Proofs.Yteeokieokbibbaa.Pure
open Go.RowKit Go.Proofs.Yteeokieokbibbaa.PFnExactPick Go.Proofs.YteeokieokbibbaaW.PrintWords Go.Proofs.YteeokieokbibbaaW.PrintLast Go.Proofs.YteeokieokbibbaaW.PrintMore Go.Proofs.YteeokieokbibbaaM
set_option linter.unusedVariables false
set_option linter.unusedSimpArgs false

theorem rd_T79_nat (xs : List S79) (i : Nat) (h : i < xs.length) : rd_T79 xs (i : Int) = xs[i] := by
  unfold rd_T79; simp [List.getD_eq_getElem?_getD, h]

theorem rd_T77_nat (xs : List S77) (i : Nat) (h : i < xs.length) : rd_T77 xs (i : Int) = xs[i] := by
  unfold rd_T77; simp [List.getD_eq_getElem?_getD, h]
def planOkB (l : List S77) : Bool := decide (l.length ≤ 6) && l.all fun p => partOkB p.f0 p.f1

theorem rd_T74_nat (xs : List S74) (i : Nat) (h : i < xs.length) : rd_T74 xs (i : Int) = xs[i] := by
  unfold rd_T74; simp [List.getD_eq_getElem?_getD, h]

theorem rd_T44_nat (xs : List S44) (i : Nat) (h : i < xs.length) : rd_T44 xs (i : Int) = xs[i] := by
  unfold rd_T44; simp [List.getD_eq_getElem?_getD, h]
def sameV (a b : S44) : Bool := sameVB a.f0 a.f1 a.f2 b.f0 b.f1 b.f2
theorem sameV_not (a b : S44) : (!(a.f0 == b.f0) || (!(a.f1 == b.f1) || (!(a.f2.toList == b.f2.toList)))) = !sameV a b := by
  unfold sameV sameVB; cases a.f0 == b.f0 <;> cases a.f1 == b.f1 <;> cases a.f2.toList == b.f2.toList <;> rfl
def sameRowB (a b : List S44) : Bool := decide (a.length = b.length) && (a.zip b).all fun q => sameV q.1 q.2

def fitsV (p : S77) (v : S44) : Bool := fitsB p.f1 p.f2 v.f0 v.f1 v.f2
def fitsAllB (l : List S77) (v : List S44) : Bool := decide (v.length ≤ l.length) && (l.zip v).all fun q => fitsV q.1 q.2
def lessAt (l : List S77) (a b : S44) : Bool := match l with
  | [] => false
  | p :: _ => lessPB p.f3 a.f0 a.f1 a.f2 b.f0 b.f1 b.f2
def lessKeyB : List S77 → List S44 → List S44 → Bool
  | l, a :: a2, b :: b2 => if sameVB a.f0 a.f1 a.f2 b.f0 b.f1 b.f2 = true then lessKeyB l.tail a2 b2 else lessAt l a b
  | _, [], b2 => decide (0 < b2.length)
  | _, _ :: _, [] => false
def pickV (row : List S44) (p : S77) : S44 := if inB p.f0 0 ((row.length : Int) - 1) = true then ⟨(rd_T44 row p.f0).f0, (rd_T44 row p.f0).f1, (rd_T44 row p.f0).f2⟩ else ⟨0, 0, ⟨#[]⟩⟩
def pickB (l : List S77) (row : List S44) : List S44 := l.map (pickV row)


theorem laws_szPartS_eq (l : List S79) (left : Int) (hl : l.length ≤ maxLen) (h0 : 0 ≤ left) (h1 : left ≤ 1048576) :
    ∃ r : Int, laws_szPartS.f l left = some r ∧ r ≤ left ∧ (0 ≤ r → r = left - l.length) := by
  unfold laws_szPartS.f
  unfold maxLen at hl
  rw [w64 (by omega) (by omega)]
  split
  · exact ⟨-1, rfl, by omega, by omega⟩
  · exact ⟨_, rfl, by omega, fun _ => rfl⟩
attribute [local irreducible] laws_szPartS.f

theorem laws_szVal_eq (a b : Int) (s : ByteArray) (left : Int) (hs : s.size ≤ maxLen) (h0 : 0 ≤ left) (h1 : left ≤ 1048576) :
    ∃ r : Int, laws_szVal.f a b s left = some r ∧ r ≤ left ∧ (0 ≤ r → r = left - s.size) := by
  unfold laws_szVal.f
  unfold maxLen at hs
  rw [w64 (by omega) (by omega)]
  split
  · exact ⟨-1, rfl, by omega, by omega⟩
  · exact ⟨_, rfl, by omega, fun _ => rfl⟩
attribute [local irreducible] laws_szVal.f

theorem laws_szValS_l0 (l : List S74) (hl : l.length ≤ 1048576) (hs : ∀ v ∈ l, v.f2.size ≤ maxLen) : ∀ i, i ≤ l.length → ∀ left : Int, 0 ≤ left → left ≤ 1048576 →
    ∃ r : Int, Ev (fun k => laws_szValS.l0 k l left (i : Int)) r ∧ r ≤ left := by
  refine up_ind l.length (fun i => ∀ left : Int, 0 ≤ left → left ≤ 1048576 → ∃ r : Int, Ev (fun k => laws_szValS.l0 k l left (i : Int)) r ∧ r ≤ left) ?_ ?_
  · intro left h0 h1
    refine ⟨left, ev_succ ?_, by omega⟩
    have h1 : ¬ ((l.length : Int) < (l.length : Int)) := by omega
    simp only [laws_szValS.l0.eq_2, h1, if_false]
    exact ev_some _
  · intro i hi ih left h0 h1
    obtain ⟨r, hr, hr1, hr2⟩ := laws_szVal_eq l[i].f0 l[i].f1 l[i].f2 left (hs _ (List.getElem_mem hi)) h0 h1
    have h3 : (i : Int) < (l.length : Int) := by omega
    have h4 : (0 : Int) ≤ (i : Int) := by omega
    by_cases hn : r < 0
    · refine ⟨-1, ev_succ ?_, by omega⟩
      simp only [laws_szValS.l0.eq_2, h3, h4, if_true, rd_T74_nat l i hi, hr, Option.bind_some, hn]
      exact ev_some _
    · obtain ⟨q, hq, hq1⟩ := ih r (by omega) (by omega)
      refine ⟨q, ev_succ ?_, by omega⟩
      simp only [laws_szValS.l0.eq_2, h3, h4, if_true, rd_T74_nat l i hi, hr, Option.bind_some, hn, if_false, wsucc (show i < 9223372036854775807 by omega)]
      exact hq
theorem laws_szValS_ev (l : List S74) (left : Int) (hl : l.length ≤ maxLen) (hs : ∀ v ∈ l, v.f2.size ≤ maxLen) (h0 : 0 ≤ left) (h1 : left ≤ 1048576) :
    ∃ r : Int, Ev (fun k => laws_szValS.f k l left) r ∧ r ≤ left ∧ (0 ≤ r → l.length ≤ 1048576) := by
  unfold laws_szValS.f
  unfold maxLen at hl
  rw [w64 (by omega) (by omega)]
  by_cases hn : left - (l.length : Int) < 0
  · refine ⟨-1, ?_, by omega, by omega⟩
    simp only [hn, if_true]
    exact ev_some _
  · obtain ⟨r, hr, hr1⟩ := laws_szValS_l0 l (by omega) hs 0 (by omega) (left - (l.length : Int)) (by omega) (by omega)
    refine ⟨r, ?_, by omega, by omega⟩
    simp only [hn, if_false]
    exact hr
attribute [local irreducible] laws_szValS.f

theorem spec_l1In_eq (a b c : Int) : spec_l1In.f a b c = some (inB a b c) := in_ite a b c
attribute [local irreducible] spec_l1In.f

theorem spec_Pick_l0 (l : List S77) (row : List S44) (hl : l.length ≤ 1000000000) (hr : row.length ≤ 1000000000) : ∀ i : Nat, i ≤ l.length → ∀ out : List S44, out.length + (l.length - i) ≤ 1000000000 →
    Ev (fun k => spec_Pick.l0 k l row out (i : Int)) (out ++ (l.drop i).map (pickV row)) := by
  refine up_ind l.length (fun i : Nat => ∀ out : List S44, out.length + (l.length - i) ≤ 1000000000 → Ev (fun k => spec_Pick.l0 k l row out (i : Int)) (out ++ (l.drop i).map (pickV row))) ?_ ?_
  · intro out ho
    refine ev_succ ?_
    have h1 : ¬ ((l.length : Int) < (l.length : Int)) := by omega
    simp only [spec_Pick.l0.eq_2, h1, if_false]
    rw [List.drop_eq_nil_of_le (Nat.le_refl _), List.map_nil, List.append_nil]
    exact ev_some _
  · intro i hi ih out ho
    refine ev_succ ?_
    have h1 : (i : Int) < (l.length : Int) := by omega
    have h2 : (0 : Int) ≤ (i : Int) := by omega
    have h3 : out.length < 4398046511104 := by omega
    have w1 : wrap64 ((row.length : Int) - 1) = (row.length : Int) - 1 := w64 (by omega) (by omega)
    simp only [spec_Pick.l0.eq_2, h1, h2, h3, if_true, rd_T77_nat l i hi, spec_l1In_eq, Option.bind_some, w1, wsucc (show i < 9223372036854775807 by omega)]
    rw [List.drop_eq_getElem_cons hi, List.map_cons]
    cases hin : inB l[i].f0 0 ((row.length : Int) - 1) with
    | true =>
      have hin' := of_decide_eq_true hin
      have q1 : 0 ≤ l[i].f0 := hin'.1
      have q2 : l[i].f0 < (row.length : Int) := by omega
      have := ih (out ++ [pickV row l[i]]) (by rw [List.length_append]; simp only [List.length_cons, List.length_nil]; omega)
      rw [List.append_assoc, List.singleton_append] at this
      simp only [if_true, q1, q2]
      have e : pickV row l[i] = ⟨(rd_T44 row l[i].f0).f0, (rd_T44 row l[i].f0).f1, (rd_T44 row l[i].f0).f2⟩ := by unfold pickV; rw [if_pos hin]
      rw [← e]
      exact this
    | false =>
      have := ih (out ++ [pickV row l[i]]) (by rw [List.length_append]; simp only [List.length_cons, List.length_nil]; omega)
      rw [List.append_assoc, List.singleton_append] at this
      simp only [Bool.false_eq_true, if_false]
      have e : pickV row l[i] = ⟨0, 0, ⟨#[]⟩⟩ := by unfold pickV; rw [if_neg (by rw [hin]; decide)]
      rw [← e]
      exact this
theorem spec_Pick_ev (l : List S77) (row : List S44) (hl : l.length ≤ 1000000000) (hr : row.length ≤ 1000000000) : Ev (fun k => spec_Pick.f k l row) (pickB l row) := by
  unfold spec_Pick.f pickB
  simpa using spec_Pick_l0 l row hl hr 0 (by omega) [] (by simp only [List.length_nil]; omega)
attribute [local irreducible] spec_Pick.f

theorem laws_toPart_eq (a b : Int) (c d : Bool) : laws_toPart.f a b c d = some (a, b, c, d) := rfl
attribute [local irreducible] laws_toPart.f

def cvP (p : S79) : S77 := ⟨p.f0, p.f1, p.f2, p.f3⟩
theorem laws_toPartS_l0 (l : List S79) (h : l.length ≤ 1048576) : ∀ i, i ≤ l.length → ∀ xs : List S77, xs.length = l.length →
    Ev (fun k => laws_toPartS.l0 k l xs (i : Int)) (xs.take i ++ (l.drop i).map cvP) := by
  refine up_ind l.length (fun i => ∀ xs : List S77, xs.length = l.length → Ev (fun k => laws_toPartS.l0 k l xs (i : Int)) (xs.take i ++ (l.drop i).map cvP)) ?_ ?_
  · intro xs hx
    refine ev_succ ?_
    have h1 : ¬ ((l.length : Int) < (l.length : Int)) := by omega
    simp only [laws_toPartS.l0.eq_2, h1, if_false]
    rw [List.take_of_length_le (by omega), List.drop_eq_nil_of_le (by omega)]
    simpa using ev_some xs
  · intro i hi ih xs hx
    refine ev_succ ?_
    have h1 : (i : Int) < (l.length : Int) := by omega
    have h2 : (0 : Int) ≤ (i : Int) := by omega
    have h3 : (i : Int) < (xs.length : Int) := by omega
    simp only [laws_toPartS.l0.eq_2, h1, h2, h3, if_true, laws_toPart_eq, Option.bind_some, rd_T79_nat l i hi, Int.toNat_natCast, wsucc (show i < 9223372036854775807 by omega)]
    have := ih (xs.set i (cvP l[i])) (by simp [hx])
    rw [take_set_succ _ _ _ (by omega)] at this
    rw [List.append_assoc] at this
    rw [List.drop_eq_getElem_cons hi]
    exact this
theorem laws_toPartS_ev (l : List S79) (h : l.length ≤ 1048576) : Ev (fun k => laws_toPartS.f k l) (l.map cvP) := by
  unfold laws_toPartS.f
  have h1 : (0 : Int) ≤ (l.length : Int) := by omega
  have h2 : l.length ≤ 11728124029610 := by omega
  simp only [h1, h2, if_true, Int.toNat_natCast]
  simpa using laws_toPartS_l0 l h 0 (by omega) (List.replicate l.length z77) (by simp)
attribute [local irreducible] laws_toPartS.f

theorem laws_toVal_eq (a b : Int) (s : ByteArray) : laws_toVal.f a b s = some (a, b, s) := rfl
attribute [local irreducible] laws_toVal.f

def cvV (p : S74) : S44 := ⟨p.f0, p.f1, p.f2⟩
theorem laws_toValS_l0 (l : List S74) (h : l.length ≤ 1048576) : ∀ i, i ≤ l.length → ∀ xs : List S44, xs.length = l.length →
    Ev (fun k => laws_toValS.l0 k l xs (i : Int)) (xs.take i ++ (l.drop i).map cvV) := by
  refine up_ind l.length (fun i => ∀ xs : List S44, xs.length = l.length → Ev (fun k => laws_toValS.l0 k l xs (i : Int)) (xs.take i ++ (l.drop i).map cvV)) ?_ ?_
  · intro xs hx
    refine ev_succ ?_
    have h1 : ¬ ((l.length : Int) < (l.length : Int)) := by omega
    simp only [laws_toValS.l0.eq_2, h1, if_false]
    rw [List.take_of_length_le (by omega), List.drop_eq_nil_of_le (by omega)]
    simpa using ev_some xs
  · intro i hi ih xs hx
    refine ev_succ ?_
    have h1 : (i : Int) < (l.length : Int) := by omega
    have h2 : (0 : Int) ≤ (i : Int) := by omega
    have h3 : (i : Int) < (xs.length : Int) := by omega
    simp only [laws_toValS.l0.eq_2, h1, h2, h3, if_true, laws_toVal_eq, Option.bind_some, rd_T74_nat l i hi, Int.toNat_natCast, wsucc (show i < 9223372036854775807 by omega)]
    have := ih (xs.set i (cvV l[i])) (by simp [hx])
    rw [take_set_succ _ _ _ (by omega)] at this
    rw [List.append_assoc] at this
    rw [List.drop_eq_getElem_cons hi]
    exact this
theorem laws_toValS_ev (l : List S74) (h : l.length ≤ 1048576) : Ev (fun k => laws_toValS.f k l) (l.map cvV) := by
  unfold laws_toValS.f
  have h1 : (0 : Int) ≤ (l.length : Int) := by omega
  have h2 : l.length ≤ 8796093022208 := by omega
  simp only [h1, h2, if_true, Int.toNat_natCast]
  simpa using laws_toValS_l0 l h 0 (by omega) (List.replicate l.length z44) (by simp)
attribute [local irreducible] laws_toValS.f

theorem impl_in_eq (a b c : Int) : impl_in.f a b c = some (inB a b c) := in_ite a b c
attribute [local irreducible] impl_in.f

theorem impl_Pick_l0 (l : List S77) (row : List S44) (hl : l.length ≤ 1000000000) (hr : row.length ≤ 1000000000) : ∀ i : Nat, i ≤ l.length → ∀ out : List S44, out.length + (l.length - i) ≤ 1000000000 →
    Ev (fun k => impl_Pick.l0 k row out l (l.length : Int) (i : Int)) (out ++ (l.drop i).map (pickV row)) := by
  refine up_ind l.length (fun i : Nat => ∀ out : List S44, out.length + (l.length - i) ≤ 1000000000 → Ev (fun k => impl_Pick.l0 k row out l (l.length : Int) (i : Int)) (out ++ (l.drop i).map (pickV row))) ?_ ?_
  · intro out ho
    refine ev_succ ?_
    have h1 : ¬ ((l.length : Int) < (l.length : Int)) := by omega
    simp only [impl_Pick.l0.eq_2, h1, if_false]
    rw [List.drop_eq_nil_of_le (Nat.le_refl _), List.map_nil, List.append_nil]
    exact ev_some _
  · intro i hi ih out ho
    refine ev_succ ?_
    have h1 : (i : Int) < (l.length : Int) := by omega
    have h2 : (0 : Int) ≤ (i : Int) := by omega
    have h3 : out.length < 4398046511104 := by omega
    have w1 : wrap64 ((row.length : Int) - 1) = (row.length : Int) - 1 := w64 (by omega) (by omega)
    simp only [impl_Pick.l0.eq_2, h1, h2, h3, if_true, rd_T77_nat l i hi, impl_in_eq, Option.bind_some, w1, wsucc (show i < 9223372036854775807 by omega)]
    rw [List.drop_eq_getElem_cons hi, List.map_cons]
    cases hin : inB l[i].f0 0 ((row.length : Int) - 1) with
    | true =>
      have hin' := of_decide_eq_true hin
      have q1 : 0 ≤ l[i].f0 := hin'.1
      have q2 : l[i].f0 < (row.length : Int) := by omega
      have := ih (out ++ [pickV row l[i]]) (by rw [List.length_append]; simp only [List.length_cons, List.length_nil]; omega)
      rw [List.append_assoc, List.singleton_append] at this
      simp only [if_true, q1, q2]
      have e : pickV row l[i] = ⟨(rd_T44 row l[i].f0).f0, (rd_T44 row l[i].f0).f1, (rd_T44 row l[i].f0).f2⟩ := by unfold pickV; rw [if_pos hin]
      rw [← e]
      exact this
    | false =>
      have := ih (out ++ [pickV row l[i]]) (by rw [List.length_append]; simp only [List.length_cons, List.length_nil]; omega)
      rw [List.append_assoc, List.singleton_append] at this
      simp only [Bool.false_eq_true, if_false]
      have e : pickV row l[i] = ⟨0, 0, ⟨#[]⟩⟩ := by unfold pickV; rw [if_neg (by rw [hin]; decide)]
      rw [← e]
      exact this
theorem impl_Pick_ev (l : List S77) (row : List S44) (hl : l.length ≤ 1000000000) (hr : row.length ≤ 1000000000) : Ev (fun k => impl_Pick.f k l row) (pickB l row) := by
  unfold impl_Pick.f pickB
  simpa using impl_Pick_l0 l row hl hr 0 (by omega) [] (by simp only [List.length_nil]; omega)
attribute [local irreducible] impl_Pick.f

theorem laws_eqVal_refl (a b : Int) (s : ByteArray) : laws_eqVal.f a b s a b s = some true := by unfold laws_eqVal.f; simp
attribute [local irreducible] laws_eqVal.f

theorem laws_eqValS_l0 (l : List S44) (h : l.length ≤ 9223372036854775807) : ∀ i, i ≤ l.length → Ev (fun k => laws_eqValS.l0 k l l (i : Int)) true := by
  refine up_ind l.length (fun i => Ev (fun k => laws_eqValS.l0 k l l (i : Int)) true) ?_ ?_
  · refine ev_succ ?_
    have h1 : ¬ ((l.length : Int) < (l.length : Int)) := by omega
    simp only [laws_eqValS.l0.eq_2, h1, if_false]
    exact ev_some _
  · intro i hi ih
    refine ev_succ ?_
    have h1 : (i : Int) < (l.length : Int) := by omega
    have h2 : (0 : Int) ≤ (i : Int) := by omega
    simp only [laws_eqValS.l0.eq_2, h1, h2, if_true, laws_eqVal_refl, Option.bind_some, wsucc (show i < 9223372036854775807 by omega)]
    exact ih
theorem laws_eqValS_ev (l : List S44) (h : l.length ≤ 9223372036854775807) : Ev (fun k => laws_eqValS.f k l l) true := by
  unfold laws_eqValS.f
  simp only [if_true]
  exact laws_eqValS_l0 l h 0 (by omega)
attribute [local irreducible] laws_eqValS.f

theorem laws_eqPart_refl (a b : Int) (c d : Bool) : laws_eqPart.f a b c d a b c d = some true := by unfold laws_eqPart.f; simp
attribute [local irreducible] laws_eqPart.f

theorem laws_eqPartS_l0 (l : List S77) (h : l.length ≤ 9223372036854775807) : ∀ i, i ≤ l.length → Ev (fun k => laws_eqPartS.l0 k l l (i : Int)) true := by
  refine up_ind l.length (fun i => Ev (fun k => laws_eqPartS.l0 k l l (i : Int)) true) ?_ ?_
  · refine ev_succ ?_
    have h1 : ¬ ((l.length : Int) < (l.length : Int)) := by omega
    simp only [laws_eqPartS.l0.eq_2, h1, if_false]
    exact ev_some _
  · intro i hi ih
    refine ev_succ ?_
    have h1 : (i : Int) < (l.length : Int) := by omega
    have h2 : (0 : Int) ≤ (i : Int) := by omega
    simp only [laws_eqPartS.l0.eq_2, h1, h2, if_true, laws_eqPart_refl, Option.bind_some, wsucc (show i < 9223372036854775807 by omega)]
    exact ih
theorem laws_eqPartS_ev (l : List S77) (h : l.length ≤ 9223372036854775807) : Ev (fun k => laws_eqPartS.f k l l) true := by
  unfold laws_eqPartS.f
  simp only [if_true]
  exact laws_eqPartS_l0 l h 0 (by omega)
attribute [local irreducible] laws_eqPartS.f

theorem laws_markPartS_l0 (n : Nat) (hn : n ≤ 4294967296) (a : Int) (ha : 0 ≤ a ∧ a ≤ 4294967296) : ∀ i, i ≤ n → ∀ xs : List S77, xs.length = n →
    ∃ l' : List S77, Ev (fun k => laws_markPartS.l0 k xs (a + 4 * (i : Int)) (i : Int)) (a + 4 * (n : Int), l') := by
  refine up_ind n (fun i => ∀ xs : List S77, xs.length = n → ∃ l' : List S77, Ev (fun k => laws_markPartS.l0 k xs (a + 4 * (i : Int)) (i : Int)) (a + 4 * (n : Int), l')) ?_ ?_
  · intro xs hx
    refine ⟨xs, ev_succ ?_⟩
    have h1 : ¬ ((n : Int) < (xs.length : Int)) := by omega
    simp only [laws_markPartS.l0.eq_2, h1, if_false]
    exact ev_some _
  · intro i hi ih xs hx
    have h1 : (i : Int) < (xs.length : Int) := by omega
    have h2 : (0 : Int) ≤ (i : Int) := by omega
    have w1 : wrap64 (a + 4 * (i : Int) + 1) = a + 4 * (i : Int) + 1 := w64 (by omega) (by omega)
    have w2 : wrap64 (a + 4 * (i : Int) + 1 + 1) = a + 4 * (i : Int) + 2 := by rw [w64 (by omega) (by omega)]; omega
    have w3 : wrap64 (a + 4 * (i : Int) + 2 + 1) = a + 4 * (i : Int) + 3 := by rw [w64 (by omega) (by omega)]; omega
    have w4 : wrap64 (a + 4 * (i : Int) + 3 + 1) = a + 4 * ((i + 1 : Nat) : Int) := by rw [w64 (by omega) (by omega)]; omega
    have key : ∀ y : List S77, y.length = n → ∃ l' : List S77, Ev (fun k => laws_markPartS.l0 k y (a + 4 * ((i + 1 : Nat) : Int)) ((i + 1 : Nat) : Int)) (a + 4 * (n : Int), l') := ih
    suffices h : ∃ y : List S77, y.length = n ∧ ∀ r, Ev (fun k => laws_markPartS.l0 k y (a + 4 * ((i + 1 : Nat) : Int)) ((i + 1 : Nat) : Int)) r → Ev (fun k => laws_markPartS.l0 k xs (a + 4 * (i : Int)) (i : Int)) r by
      obtain ⟨y, hy, hr⟩ := h
      obtain ⟨l', hl⟩ := key y hy
      exact ⟨l', hr _ hl⟩
    apply Exists.intro
    apply And.intro
    rotate_left
    · intro r hr
      refine ev_succ ?_
      simp only [laws_markPartS.l0.eq_2, h1, h2, if_true, Option.bind_some, Int.toNat_natCast, w1, w2, w3, w4, wsucc (show i < 9223372036854775807 by omega)]
      exact hr
    · simp only [List.length_set]; exact hx
theorem laws_markPartS_ev (l : List S77) (a : Int) (ha : 0 ≤ a ∧ a ≤ 4294967296) (h : l.length ≤ 4294967296) : ∃ l' : List S77, Ev (fun k => laws_markPartS.f k l a) (a + 4 * (l.length : Int), l') := by
  unfold laws_markPartS.f
  simpa using laws_markPartS_l0 l.length h a ha 0 (by omega) l rfl
attribute [local irreducible] laws_markPartS.f

/-- the text by which a value is marked -/
def mt (x : Nat) (acc : ByteArray) : ByteArray := if h : x = 0 then (⟨#[109]⟩ : ByteArray) ++ acc else mt (x / 10) (strOfNums [(wrap64 (48 + (Int.tmod (x : Int) 10))) % 256] ++ acc)
termination_by x
decreasing_by omega
def mtext (a : Int) : ByteArray := if a ≤ 0 then (⟨#[109, 48]⟩ : ByteArray) else mt a.toNat ⟨#[]⟩
theorem laws_markText_l0 : ∀ (d x : Nat), x ≤ d → ∀ acc : ByteArray, x ≤ 1000000000000000 → acc.size + x ≤ 1000000000000000000 → Ev (fun k => laws_markText.l0 k (x : Int) acc) (mt x acc) := by
  intro d
  induction d with
  | zero =>
    intro x hx acc h1 h2
    have h0 : x = 0 := by omega
    subst h0
    refine ev_succ ?_
    have q : 1 + acc.size ≤ 9223372036854775807 := by omega
    simp only [laws_markText.l0.eq_2, show ¬ (((0 : Nat) : Int) > 0) by decide, if_false, q, if_true]
    rw [mt, dif_pos rfl]
    exact ev_some _
  | succ d ih =>
    intro x hx acc h1 h2
    by_cases h0 : x = 0
    · exact ih x (by omega) acc h1 h2
    · refine ev_succ ?_
      have q1 : (x : Int) > 0 := by omega
      have e : wrap64 (Int.tdiv (x : Int) 10) = ((x / 10 : Nat) : Int) := by
        rw [Int.tdiv_eq_ediv_of_nonneg (by omega)]
        rw [w64 (by omega) (by omega)]; omega
      simp only [laws_markText.l0.eq_2, q1, if_true, Option.bind_some, e]
      have hsz : (strOfNums [(wrap64 (48 + (Int.tmod (x : Int) 10))) % 256]).size = 1 := by rw [strOfNums_size]; rfl
      have q2 : (strOfNums [(wrap64 (48 + (Int.tmod (x : Int) 10))) % 256]).size + acc.size ≤ 9223372036854775807 := by rw [hsz]; omega
      simp only [q2, if_true]
      rw [mt, dif_neg h0]
      refine ih (x / 10) (by omega) _ (by omega) ?_
      rw [ByteArray.size_append, hsz]
      omega
theorem laws_markText_ev (a : Int) (h : a ≤ 1000000000000000) : Ev (fun k => laws_markText.f k a) (mtext a) := by
  unfold laws_markText.f mtext
  by_cases h0 : a ≤ 0
  · simp only [h0, if_true]; exact ev_some _
  · simp only [h0, if_false]
    have := laws_markText_l0 a.toNat a.toNat (Nat.le_refl _) ⟨#[]⟩ (by omega) (by simp only [show (⟨#[]⟩ : ByteArray).size = 0 from rfl]; omega)
    rw [show ((a.toNat : Nat) : Int) = a by omega] at this
    exact this
attribute [local irreducible] laws_markText.f

theorem rd_set_T44 (xs : List S44) (i : Nat) (h : i < xs.length) (v : S44) : rd_T44 (xs.set i v) (i : Int) = v := by
  rw [rd_T44_nat _ _ (by rw [List.length_set]; exact h), List.getElem_set_self]
def markVs (a : Int) (n : Nat) : List S44 := (List.range n).map fun i : Nat => ⟨a + 3 * (i : Int), a + 3 * (i : Int) + 1, mtext (a + 3 * (i : Int) + 2)⟩
theorem markVs_len (a : Int) (n : Nat) : (markVs a n).length = n := by simp [markVs]
theorem markVs_get (a : Int) (n i : Nat) (h : i < (markVs a n).length) : (markVs a n)[i] = ⟨a + 3 * (i : Int), a + 3 * (i : Int) + 1, mtext (a + 3 * (i : Int) + 2)⟩ := by simp [markVs]
theorem laws_markValS_l0 (n : Nat) (hn : n ≤ 4294967296) (a : Int) (ha : 0 ≤ a ∧ a ≤ 17179869184) : ∀ i, i ≤ n → ∀ xs : List S44, xs.length = n →
    Ev (fun k => laws_markValS.l0 k xs (a + 3 * (i : Int)) (i : Int)) (a + 3 * (n : Int), xs.take i ++ (markVs a n).drop i) := by
  refine up_ind n (fun i => ∀ xs : List S44, xs.length = n → Ev (fun k => laws_markValS.l0 k xs (a + 3 * (i : Int)) (i : Int)) (a + 3 * (n : Int), xs.take i ++ (markVs a n).drop i)) ?_ ?_
  · intro xs hx
    refine ev_succ ?_
    have h1 : ¬ ((n : Int) < (xs.length : Int)) := by omega
    simp only [laws_markValS.l0.eq_2, h1, if_false]
    rw [List.take_of_length_le (by omega), List.drop_eq_nil_of_le (by rw [markVs_len]; omega), List.append_nil]
    exact ev_some _
  · intro i hi ih xs hx
    refine ev_succ ?_
    have hix : i < xs.length := by omega
    have h1 : (i : Int) < (xs.length : Int) := by omega
    have h2 : (0 : Int) ≤ (i : Int) := by omega
    have w1 : wrap64 (a + 3 * (i : Int) + 1) = a + 3 * (i : Int) + 1 := w64 (by omega) (by omega)
    have w2 : wrap64 (a + 3 * (i : Int) + 1 + 1) = a + 3 * (i : Int) + 2 := by rw [w64 (by omega) (by omega)]; omega
    have w3 : wrap64 (a + 3 * (i : Int) + 2 + 1) = a + 3 * ((i + 1 : Nat) : Int) := by rw [w64 (by omega) (by omega)]; omega
    simp only [laws_markValS.l0.eq_2, h1, h2, if_true, Option.bind_some, Int.toNat_natCast, w1, w2, w3, wsucc (show i < 9223372036854775807 by omega), rd_set_T44, List.length_set, hix, List.set_set]
    refine Ev.bind (laws_markText_ev _ (by omega)) ?_
    have := ih (xs.set i ⟨a + 3 * (i : Int), a + 3 * (i : Int) + 1, mtext (a + 3 * (i : Int) + 2)⟩) (by simp [hx])
    rw [take_set_succ _ _ _ (by omega), List.append_assoc] at this
    rw [List.drop_eq_getElem_cons (by rw [markVs_len]; exact hi), markVs_get]
    exact this
theorem laws_markValS_ev (l : List S44) (a : Int) (ha : 0 ≤ a ∧ a ≤ 17179869184) (h : l.length ≤ 4294967296) : Ev (fun k => laws_markValS.f k l a) (a + 3 * (l.length : Int), markVs a l.length) := by
  unfold laws_markValS.f
  simpa using laws_markValS_l0 l.length h a ha 0 (by omega) l rfl
attribute [local irreducible] laws_markValS.f

theorem laws_heldValS_l0 (n : Nat) (hn : n ≤ 4294967296) (a : Int) (ha : 0 ≤ a ∧ a ≤ 17179869184) : ∀ i, i ≤ n →
    Ev (fun k => laws_heldValS.l0 k (markVs a n) (a + 3 * (i : Int)) (i : Int)) (a + 3 * (n : Int)) := by
  refine up_ind n (fun i => Ev (fun k => laws_heldValS.l0 k (markVs a n) (a + 3 * (i : Int)) (i : Int)) (a + 3 * (n : Int))) ?_ ?_
  · refine ev_succ ?_
    have h1 : ¬ ((n : Int) < ((markVs a n).length : Int)) := by rw [markVs_len]; omega
    simp only [laws_heldValS.l0.eq_2, h1, if_false]
    exact ev_some _
  · intro i hi ih
    refine ev_succ ?_
    have hix : i < (markVs a n).length := by rw [markVs_len]; exact hi
    have h1 : (i : Int) < ((markVs a n).length : Int) := by omega
    have h2 : (0 : Int) ≤ (i : Int) := by omega
    have w1 : wrap64 (a + 3 * (i : Int) + 1) = a + 3 * (i : Int) + 1 := w64 (by omega) (by omega)
    have w2 : wrap64 (a + 3 * (i : Int) + 1 + 1) = a + 3 * (i : Int) + 2 := by rw [w64 (by omega) (by omega)]; omega
    have w3 : wrap64 (a + 3 * (i : Int) + 2 + 1) = a + 3 * ((i + 1 : Nat) : Int) := by rw [w64 (by omega) (by omega)]; omega
    simp only [laws_heldValS.l0.eq_2, h1, h2, if_true, rd_T44_nat _ i hix, markVs_get, w1, w2, w3, wsucc (show i < 9223372036854775807 by omega)]
    refine Ev.bind (laws_markText_ev _ (by omega)) ?_
    simp only [if_true]
    exact ih
theorem laws_heldValS_ev (n : Nat) (a : Int) (ha : 0 ≤ a ∧ a ≤ 17179869184) (h : n ≤ 4294967296) : Ev (fun k => laws_heldValS.f k (markVs a n) a) (a + 3 * (n : Int)) := by
  unfold laws_heldValS.f
  simpa using laws_heldValS_l0 n h a ha 0 (by omega)
attribute [local irreducible] laws_heldValS.f

--import B
theorem FnExactPick (l0 : List S79) (l1 : List S74)
    (hm0 : l0.length ≤ maxLen) (hw0 : ∀ p ∈ l0, (Lit.int .i64 p.f0).wf = true ∧ (Lit.int .i64 p.f1).wf = true) (hm1 : l1.length ≤ maxLen) (hw1 : ∀ p ∈ l1, (Lit.int .i64 p.f0).wf = true ∧ (Lit.int .i64 p.f1).wf = true ∧ p.f2.size ≤ maxLen) : ∃ k, laws_FnExactPick.f k l0 l1 = some true := by
  refine Ev.rounds ?_
  unfold laws_FnExactPick.f
  obtain ⟨r0, hr0, hq0, hz0⟩ := laws_szPartS_eq l0 1048576 hm0 (by omega) (by omega)
  simp only [hr0, Option.bind_some]
  by_cases hn0 : r0 < 0
  · simp only [hn0, if_true]; exact ev_some _
  simp only [hn0, if_false]
  have hl0 : l0.length ≤ 1048576 := by have := hz0 (by omega); omega
  obtain ⟨r1, hr1, hq1, hz1⟩ := laws_szValS_ev l1 r0 hm1 (fun v hv => (hw1 v hv).2.2) (by omega) (by omega)
  refine Ev.bind hr1 ?_
  by_cases hn1 : r1 < 0
  · simp only [hn1, if_true]; exact ev_some _
  simp only [hn1, if_false]
  have hl1 : l1.length ≤ 1048576 := hz1 (by omega)
  have hp : (l0.map cvP).length ≤ 1048576 := by rw [List.length_map]; exact hl0
  have hv : (l1.map cvV).length ≤ 1048576 := by rw [List.length_map]; exact hl1
  have eP := laws_toPartS_ev l0 hl0
  have eV := laws_toValS_ev l1 hl1
  generalize l0.map cvP = p at hp eP
  generalize l1.map cvV = v at hv eV
  have hR : (pickB p v).length ≤ 1048576 := by unfold pickB; rw [List.length_map]; exact hp
  have ePick := impl_Pick_ev p v (by omega) (by omega)
  refine Ev.bind eP (Ev.bind eV (Ev.bind (spec_Pick_ev p v (by omega) (by omega)) (Ev.bind eP (Ev.bind eV (Ev.bind ePick ?_)))))
  refine Ev.bind (laws_eqValS_ev _ (by omega)) ?_
  simp only [if_true]
  refine Ev.bind eP (Ev.bind (laws_eqPartS_ev _ (by omega)) ?_)
  simp only [if_true]
  refine Ev.bind eV (Ev.bind (laws_eqValS_ev _ (by omega)) ?_)
  simp only [if_true]
  obtain ⟨p', hmp⟩ := laws_markPartS_ev p 1 (by omega) (by omega)
  refine Ev.bind hmp ?_
  refine Ev.bind (laws_markValS_ev v (1 + 4 * (p.length : Int)) (by omega) (by omega)) ?_
  have m1 : ¬ ((1 : Int) + 4 * (p.length : Int) + 3 * (v.length : Int) < 0) := by omega
  simp only [m1, if_false]
  refine Ev.bind (laws_eqValS_ev _ (by omega)) ?_
  refine ev_succ ?_
  simp only [laws_FnExactPick.j0.eq_2, Bool.not_true, Bool.false_eq_true, if_false]
  refine Ev.bind (laws_markValS_ev _ 1 (by omega) (by omega)) ?_
  refine Ev.bind (laws_heldValS_ev _ 1 (by omega) (by omega)) ?_
  have m2 : ¬ ((1 : Int) + 3 * ((pickB p v).length : Int) < 0) := by omega
  simp only [m2, if_false, if_true]
  refine Ev.bind eP (Ev.bind eV (Ev.bind ePick (Ev.bind (laws_eqValS_ev _ (by omega)) ?_)))
  simp only [if_true]
  refine Ev.bind (laws_heldValS_ev _ 1 (by omega) (by omega)) ?_
  simp only [m2, if_false, if_true]
  exact ev_some _

end Go.Proofs.Yteeokieokbibbaa.Pure

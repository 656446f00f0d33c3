/- PlanOk answers as the reference does, whatever the lists; they stay as they are. No condition. -/
import Derived.Test.YtchgdgehgkggpaaPFnExactPlanOkx2
import Derived.Test.YtchgdgehgkggpaaM
namespace Go.Proofs.Ytchgdgehgkggpaa.Pure
open Go.RowKit Go.Proofs.Ytchgdgehgkggpaa.PFnExactPlanOk Go.Proofs.YtchgdgehgkggpaaW.PrintWords Go.Proofs.YtchgdgehgkggpaaW.PrintLast Go.Proofs.YtchgdgehgkggpaaW.PrintMore Go.Proofs.YtchgdgehgkggpaaM
set_option linter.unusedVariables false
set_option linter.unusedSimpArgs false

theorem rd_T24_nat (xs : List S24) (i : Nat) (h : i < xs.length) : rd_T24 xs (i : Int) = xs[i] := by
  unfold rd_T24; simp [List.getD_eq_getElem?_getD, h]

theorem rd_T26_nat (xs : List S26) (i : Nat) (h : i < xs.length) : rd_T26 xs (i : Int) = xs[i] := by
  unfold rd_T26; simp [List.getD_eq_getElem?_getD, h]

theorem laws_szPartS_eq (l : List S24) (left : Int) (hl : l.length ≤ maxLen) (h0 : 0 ≤ left) (h1 : left ≤ 1048576) :
    ∃ r : Int, laws_szPartS.f l left = some r ∧ r ≤ left ∧ (0 ≤ r → r = left - l.length) := by
  unfold laws_szPartS.f
  unfold maxLen at hl
  rw [w64 (by omega) (by omega)]
  split
  · exact ⟨-1, rfl, by omega, by omega⟩
  · exact ⟨_, rfl, by omega, fun _ => rfl⟩

theorem spec_l1In_eq (a b c : Int) : spec_l1In.f a b c = some (inB a b c) := in_ite a b c

theorem spec_PartOk_eq (a0 a1 : Int) (a2 a3 : Bool) : spec_PartOk.f a0 a1 a2 a3 = some (partOkB a0 a1) := by
  unfold spec_PartOk.f partOkB
  simp only [spec_l1In_eq, Option.bind_some]
  cases inB a0 0 9 <;> simp

def planOkB (l : List S26) : Bool := decide (l.length ≤ 6) && l.all fun p => partOkB p.f0 p.f1
theorem spec_PlanOk_l0 (l : List S26) (h : l.length ≤ 9223372036854775807) : ∀ i, i ≤ l.length → Ev (fun k => spec_PlanOk.l0 k l (i : Int)) (decide (l.length ≤ 6) && (l.drop i).all fun p => partOkB p.f0 p.f1) := by
  refine up_ind l.length (fun i => Ev (fun k => spec_PlanOk.l0 k l (i : Int)) (decide (l.length ≤ 6) && (l.drop i).all fun p => partOkB p.f0 p.f1)) ?_ ?_
  · refine ev_succ ?_
    have h1 : ¬ ((l.length : Int) < (l.length : Int)) := by omega
    simp only [spec_PlanOk.l0.eq_2, h1, if_false]
    rw [List.drop_eq_nil_of_le (by omega), show decide ((l.length : Int) ≤ 6) = decide (l.length ≤ 6) by apply decide_eq_decide.2; omega]
    simpa using ev_some _
  · intro i hi ih
    refine ev_succ ?_
    have h1 : (i : Int) < (l.length : Int) := by omega
    have h2 : (0 : Int) ≤ (i : Int) := by omega
    simp only [spec_PlanOk.l0.eq_2, h1, h2, if_true, rd_T26_nat l i hi, spec_PartOk_eq, Option.bind_some, wsucc (show i < 9223372036854775807 by omega)]
    rw [List.drop_eq_getElem_cons hi, List.all_cons]
    cases hp : partOkB l[i].f0 l[i].f1
    · simpa using ev_some _
    · simpa using ih
theorem spec_PlanOk_ev (l : List S26) (h : l.length ≤ 9223372036854775807) : Ev (fun k => spec_PlanOk.f k l) (planOkB l) := by
  unfold spec_PlanOk.f planOkB
  simpa using spec_PlanOk_l0 l h 0 (by omega)

theorem laws_toPart_eq (a b : Int) (c d : Bool) : laws_toPart.f a b c d = some (a, b, c, d) := rfl

def cvP (p : S24) : S26 := ⟨p.f0, p.f1, p.f2, p.f3⟩
theorem laws_toPartS_l0 (l : List S24) (h : l.length ≤ 1048576) : ∀ i, i ≤ l.length → ∀ xs : List S26, xs.length = l.length →
    Ev (fun k => laws_toPartS.l0 k l xs (i : Int)) (xs.take i ++ (l.drop i).map cvP) := by
  refine up_ind l.length (fun i => ∀ xs : List S26, xs.length = l.length → Ev (fun k => laws_toPartS.l0 k l xs (i : Int)) (xs.take i ++ (l.drop i).map cvP)) ?_ ?_
  · intro xs hx
    refine ev_succ ?_
    have h1 : ¬ ((l.length : Int) < (l.length : Int)) := by omega
    simp only [laws_toPartS.l0.eq_2, h1, if_false]
    rw [List.take_of_length_le (by omega), List.drop_eq_nil_of_le (by omega)]
    simpa using ev_some xs
  · intro i hi ih xs hx
    refine ev_succ ?_
    have h1 : (i : Int) < (l.length : Int) := by omega
    have h2 : (0 : Int) ≤ (i : Int) := by omega
    have h3 : (i : Int) < (xs.length : Int) := by omega
    simp only [laws_toPartS.l0.eq_2, h1, h2, h3, if_true, laws_toPart_eq, Option.bind_some, rd_T24_nat l i hi, Int.toNat_natCast, wsucc (show i < 9223372036854775807 by omega)]
    have := ih (xs.set i (cvP l[i])) (by simp [hx])
    rw [take_set_succ _ _ _ (by omega)] at this
    rw [List.append_assoc] at this
    rw [List.drop_eq_getElem_cons hi]
    exact this
theorem laws_toPartS_ev (l : List S24) (h : l.length ≤ 1048576) : Ev (fun k => laws_toPartS.f k l) (l.map cvP) := by
  unfold laws_toPartS.f
  have h1 : (0 : Int) ≤ (l.length : Int) := by omega
  have h2 : l.length ≤ 11728124029610 := by omega
  simp only [h1, h2, if_true, Int.toNat_natCast]
  simpa using laws_toPartS_l0 l h 0 (by omega) (List.replicate l.length z26) (by simp)

theorem impl_in_eq (a b c : Int) : impl_in.f a b c = some (inB a b c) := in_ite a b c

theorem impl_PartOk_eq (a0 a1 : Int) (a2 a3 : Bool) : impl_PartOk.f a0 a1 a2 a3 = some (partOkB a0 a1) := by
  unfold impl_PartOk.f partOkB
  simp only [impl_in_eq, Option.bind_some]
  cases inB a0 0 9 <;> simp

theorem impl_PlanOk_l0 (l : List S26) (h : l.length ≤ 9223372036854775807) : ∀ i, i ≤ l.length → (i ≤ 6 → Ev (fun k => impl_PlanOk.l0 k l (l.length : Int) (i : Int)) (decide (l.length ≤ 6) && (l.drop i).all fun p => partOkB p.f0 p.f1)) := by
  refine up_ind l.length (fun i => (i ≤ 6 → Ev (fun k => impl_PlanOk.l0 k l (l.length : Int) (i : Int)) (decide (l.length ≤ 6) && (l.drop i).all fun p => partOkB p.f0 p.f1))) ?_ ?_
  · intro h6
    refine ev_succ ?_
    have h1 : ¬ ((l.length : Int) < (l.length : Int)) := by omega
    simp only [impl_PlanOk.l0.eq_2, h1, if_false]
    rw [List.drop_eq_nil_of_le (by omega), decide_eq_true h6]
    simpa using ev_some _
  · intro i hi ih h6
    refine ev_succ ?_
    have h1 : (i : Int) < (l.length : Int) := by omega
    have h2 : (0 : Int) ≤ (i : Int) := by omega
    by_cases h7 : i = 6
    · have h8 : (i : Int) ≥ 6 := by omega
      simp only [impl_PlanOk.l0.eq_2, h1, h2, h8, if_true]
      rw [show decide (l.length ≤ 6) = false by apply decide_eq_false; omega]
      simpa using ev_some _
    · have h8 : ¬ ((i : Int) ≥ 6) := by omega
      simp only [impl_PlanOk.l0.eq_2, h1, h2, h8, if_true, if_false, rd_T26_nat l i hi, impl_PartOk_eq, Option.bind_some, wsucc (show i < 9223372036854775807 by omega)]
      rw [List.drop_eq_getElem_cons hi, List.all_cons]
      cases hp : partOkB l[i].f0 l[i].f1
      · simpa using ev_some _
      · simpa using ih (by omega)
theorem impl_PlanOk_ev (l : List S26) (h : l.length ≤ 9223372036854775807) : Ev (fun k => impl_PlanOk.f k l) (planOkB l) := by
  unfold impl_PlanOk.f planOkB
  simpa using impl_PlanOk_l0 l h 0 (by omega) (by omega)

theorem laws_eqPart_refl (a b : Int) (c d : Bool) : laws_eqPart.f a b c d a b c d = some true := by unfold laws_eqPart.f; simp

theorem laws_eqPartS_l0 (l : List S26) (h : l.length ≤ 9223372036854775807) : ∀ i, i ≤ l.length → Ev (fun k => laws_eqPartS.l0 k l l (i : Int)) true := by
  refine up_ind l.length (fun i => Ev (fun k => laws_eqPartS.l0 k l l (i : Int)) true) ?_ ?_
  · refine ev_succ ?_
    have h1 : ¬ ((l.length : Int) < (l.length : Int)) := by omega
    simp only [laws_eqPartS.l0.eq_2, h1, if_false]
    exact ev_some _
  · intro i hi ih
    refine ev_succ ?_
    have h1 : (i : Int) < (l.length : Int) := by omega
    have h2 : (0 : Int) ≤ (i : Int) := by omega
    simp only [laws_eqPartS.l0.eq_2, h1, h2, if_true, laws_eqPart_refl, Option.bind_some, wsucc (show i < 9223372036854775807 by omega)]
    exact ih
theorem laws_eqPartS_ev (l : List S26) (h : l.length ≤ 9223372036854775807) : Ev (fun k => laws_eqPartS.f k l l) true := by
  unfold laws_eqPartS.f
  simp only [if_true]
  exact laws_eqPartS_l0 l h 0 (by omega)

theorem FnExactPlanOk (l0 : List S24)
    (hm0 : l0.length ≤ maxLen) (hw0 : ∀ p ∈ l0, (Lit.int .i64 p.f0).wf = true ∧ (Lit.int .i64 p.f1).wf = true) : ∃ k, laws_FnExactPlanOk.f k l0 = some true := by
  refine Ev.rounds ?_
  unfold laws_FnExactPlanOk.f
  obtain ⟨r0, hr0, hq0, hz0⟩ := laws_szPartS_eq l0 1048576 hm0 (by omega) (by omega)
  simp only [hr0, Option.bind_some]
  by_cases hn0 : r0 < 0
  · simp only [hn0, if_true]; exact ev_some _
  simp only [hn0, if_false]
  have hl0 : l0.length ≤ 1048576 := by have := hz0 (by omega); omega
  refine Ev.bind (laws_toPartS_ev l0 hl0) ?_
  refine Ev.bind (spec_PlanOk_ev (l0.map cvP) (by simp; omega)) ?_
  refine Ev.bind (laws_toPartS_ev l0 hl0) ?_
  refine Ev.bind (impl_PlanOk_ev (l0.map cvP) (by simp; omega)) ?_
  simp only [bne_self_eq_false, Bool.false_eq_true, if_false]
  refine Ev.bind (laws_toPartS_ev l0 hl0) ?_
  refine Ev.bind (laws_eqPartS_ev _ (by simp; omega)) ?_
  simp only [if_true]
  exact ev_some _

end Go.Proofs.Ytchgdgehgkggpaa.Pure

/- GetEsc answers as the reference does, whatever the bytes and the place; the bytes stay as they are. No condition. -/
import Derived.Test.YtefaalelkbbnkaaPFnExactGetEscx2
import Derived.Test.YtefaalelkbbnkaaM
import Derived.Test.YtefaalelkbbnkaaB
namespace Go.Proofs.Ytefaalelkbbnkaa.Pure
open Go.RowKit Go.Proofs.Ytefaalelkbbnkaa.PFnExactGetEsc Go.Proofs.YtefaalelkbbnkaaW.PrintWords Go.Proofs.YtefaalelkbbnkaaW.PrintLast Go.Proofs.YtefaalelkbbnkaaW.PrintMore Go.Proofs.YtefaalelkbbnkaaM
set_option linter.unusedVariables false
set_option linter.unusedSimpArgs false

theorem laws_toByteS_l0 (l : List Int) (h : l.length ≤ 1048576) : ∀ i, i ≤ l.length → ∀ xs : List Int, xs.length = l.length →
    Ev (fun k => laws_toByteS.l0 k l xs (i : Int)) (xs.take i ++ l.drop i) := by
  refine up_ind l.length (fun i => ∀ xs : List Int, xs.length = l.length → Ev (fun k => laws_toByteS.l0 k l xs (i : Int)) (xs.take i ++ l.drop i)) ?_ ?_
  · intro xs hx
    refine ev_succ ?_
    have h1 : ¬ ((l.length : Int) < (l.length : Int)) := by omega
    simp only [laws_toByteS.l0.eq_2, h1, if_false]
    rw [List.take_of_length_le (by omega), List.drop_eq_nil_of_le (by omega)]
    simpa using ev_some xs
  · intro i hi ih xs hx
    refine ev_succ ?_
    have h1 : (i : Int) < (l.length : Int) := by omega
    have h2 : (0 : Int) ≤ (i : Int) := by omega
    have h3 : (i : Int) < (xs.length : Int) := by omega
    simp only [laws_toByteS.l0.eq_2, h1, h2, h3, if_true, rd_nat l i hi, Int.toNat_natCast, wsucc (show i < 9223372036854775807 by omega)]
    have := ih (xs.set i l[i]) (by simp [hx])
    rw [take_set_succ _ _ _ (by omega)] at this
    rw [List.drop_eq_getElem_cons hi]
    simpa using this
theorem laws_toByteS_ev (l : List Int) (h : l.length ≤ 1048576) : Ev (fun k => laws_toByteS.f k l) l := by
  unfold laws_toByteS.f
  have h1 : (0 : Int) ≤ (l.length : Int) := by omega
  have h2 : l.length ≤ 281474976710656 := by omega
  simp only [h1, h2, if_true, Int.toNat_natCast]
  simpa using laws_toByteS_l0 l h 0 (by omega) (List.replicate l.length 0) (by simp)

theorem laws_eqByteS_l0 (l : List Int) (h : l.length ≤ 9223372036854775807) : ∀ i, i ≤ l.length → Ev (fun k => laws_eqByteS.l0 k l l (i : Int)) true := by
  refine up_ind l.length (fun i => Ev (fun k => laws_eqByteS.l0 k l l (i : Int)) true) ?_ ?_
  · refine ev_succ ?_
    have h1 : ¬ ((l.length : Int) < (l.length : Int)) := by omega
    simp only [laws_eqByteS.l0.eq_2, h1, if_false]
    exact ev_some _
  · intro i hi ih
    refine ev_succ ?_
    have h1 : (i : Int) < (l.length : Int) := by omega
    have h2 : (0 : Int) ≤ (i : Int) := by omega
    simp only [laws_eqByteS.l0.eq_2, h1, h2, if_true, wsucc (show i < 9223372036854775807 by omega)]
    exact ih
theorem laws_eqByteS_ev (l : List Int) (h : l.length ≤ 9223372036854775807) : Ev (fun k => laws_eqByteS.f k l l) true := by
  unfold laws_eqByteS.f
  simp only [if_true]
  exact laws_eqByteS_l0 l h 0 (by omega)

theorem spec_GetEsc_l0 (l : List Int) (hl : l.length ≤ 140737488355327) (d : Nat) : ∀ (p : Nat) (o : List Int), l.length - p = d → (p : Int) ≤ 9223372036854775807 → o.length + (l.length - p) ≤ 140737488355327 →
    Ev (fun k => spec_GetEsc.l0 k l (p : Int) o) (getER (getEB o p (l.drop p))) := by
  induction d using Nat.strongRecOn with
  | _ d ih =>
    intro p o hd hp63 ho
    refine ev_succ ?_
    have a1 : (0 : Int) ≤ (p : Int) := by omega
    by_cases hp : p < l.length
    · have b1 : (p : Int) < (l.length : Int) := by omega
      have b2 : o.length < 140737488355328 := by omega
      have b3 : wrap64 ((p : Int) + 1) = ((p + 1 : Nat) : Int) := wsucc (by omega)
      simp only [spec_GetEsc.l0.eq_2, a1, b1, b2, b3, if_true, rd_nat l p hp]
      rw [List.drop_eq_getElem_cons hp]
      by_cases hz : l[p] = 0
      · by_cases hp1 : p + 1 < l.length
        · have c1 : ¬ (((p + 1 : Nat) : Int) = (l.length : Int)) := by omega
          have c2 : (0 : Int) ≤ ((p + 1 : Nat) : Int) := by omega
          have c3 : ((p + 1 : Nat) : Int) < (l.length : Int) := by omega
          have c4 : wrap64 ((p : Int) + 2) = ((p + 2 : Nat) : Int) := by rw [w64 (by omega) (by omega)]; omega
          simp only [hz, if_true, c1, if_false, c2, c3, rd_nat l (p + 1) hp1]
          rw [List.drop_eq_getElem_cons hp1, getEB_cons]
          by_cases h1 : l[p + 1] = 1
          · simp only [h1, if_true]
            refine ev_succ ?_
            simp only [spec_GetEsc.j1.eq_2, Bool.false_eq_true, if_false, b3, c2, c3, if_true, rd_nat l (p + 1) hp1, h1, c4]
            exact ev_some _
          · simp only [h1, if_false]
            by_cases h255 : l[p + 1] = 255
            · refine ev_succ ?_
              simp only [spec_GetEsc.j1.eq_2, h255, bne_self_eq_false, Bool.false_eq_true, if_false, b3, c2, c3, if_true, rd_nat l (p + 1) hp1, b2, c4, show ¬ ((255 : Int) = 1) by decide]
              exact ih (l.length - (p + 2)) (by omega) (p + 2) (o ++ [0]) rfl (by omega) (by simp only [List.length_append, List.length_cons, List.length_nil]; omega)
            · have hne : (l[p + 1] != 255) = true := by simpa using h255
              refine ev_succ ?_
              simp only [spec_GetEsc.j1.eq_2, hne, if_true, h255, if_false]
              exact ev_some _
        · have c1 : ((p + 1 : Nat) : Int) = (l.length : Int) := by omega
          simp only [hz, if_true, c1]
          rw [List.drop_eq_nil_of_le (by omega), getEB_one]
          refine ev_succ ?_
          simp only [spec_GetEsc.j1.eq_2, if_true]
          exact ev_some _
      · simp only [hz, if_false]
        have := ih (l.length - (p + 1)) (by omega) (p + 1) (o ++ [l[p]]) rfl (by omega) (by simp only [List.length_append, List.length_cons, List.length_nil]; omega)
        rw [getEB_ne _ _ _ _ hz]
        exact this
    · have b1 : ¬ ((p : Int) < (l.length : Int)) := by omega
      simp only [spec_GetEsc.l0.eq_2, b1, if_false]
      rw [List.drop_eq_nil_of_le (by omega), getEB_nil]
      exact ev_some _
theorem spec_GetEsc_ev (l : List Int) (hl : l.length ≤ 140737480000000) (hb : IsB l) (p : Int) (hp : -9223372036854775808 ≤ p ∧ p ≤ 9223372036854775807) : Ev (fun k => spec_GetEsc.f k l p) (getEsc l p) := by
  unfold spec_GetEsc.f getEsc
  by_cases h0 : 0 ≤ p
  · obtain ⟨q, rfl⟩ := Int.eq_ofNat_of_zero_le h0
    have a1 : ¬ ((q : Int) < 0) := by omega
    simp only [a1, if_false]
    rw [if_pos h0]
    exact spec_GetEsc_l0 l (by omega) _ q [] rfl (by omega) (by simp only [List.length_nil]; omega)
  · have a1 : p < 0 := by omega
    simp only [a1, if_true]
    rw [if_neg h0]
    exact ev_some _

theorem impl_GetEsc_l0 (l : List Int) (hl : l.length ≤ 140737488355327) (d : Nat) : ∀ (p : Nat) (o : List Int), l.length - p = d → (p : Int) ≤ 9223372036854775807 → o.length + (l.length - p) ≤ 140737488355327 →
    Ev (fun k => impl_GetEsc.l0 k l o (p : Int)) (getER (getEB o p (l.drop p))) := by
  induction d using Nat.strongRecOn with
  | _ d ih =>
    intro p o hd hp63 ho
    refine ev_succ (ev_succ ?_)
    have a1 : (p : Int) ≥ 0 := by omega
    by_cases hp : p < l.length
    · have b1 : (p : Int) < (l.length : Int) := by omega
      have b2 : o.length < 140737488355328 := by omega
      simp only [impl_GetEsc.l0.eq_2, impl_GetEsc.j1.eq_2, a1, b1, b2, decide_true, if_true, rd_nat l p hp, wsucc (show p < 9223372036854775807 by omega)]
      rw [List.drop_eq_getElem_cons hp]
      by_cases hz : l[p] = 0
      · by_cases hp1 : p + 1 < l.length
        · have c1 : ¬ (((p + 1 : Nat) : Int) ≥ (l.length : Int)) := by omega
          have c2 : (0 : Int) ≤ ((p + 1 : Nat) : Int) := by omega
          have c3 : ((p + 1 : Nat) : Int) < (l.length : Int) := by omega
          simp only [hz, if_true, c1, if_false, c2, c3, rd_nat l (p + 1) hp1, wsucc (show p + 1 < 9223372036854775807 by omega)]
          rw [List.drop_eq_getElem_cons hp1, getEB_cons]
          by_cases h1 : l[p + 1] = 1
          · simp only [h1, if_true]; exact ev_some _
          · by_cases h255 : l[p + 1] = 255
            · simp only [h255, if_true, show ¬ ((255 : Int) = 1) by decide, if_false]
              exact ih (l.length - (p + 1 + 1)) (by omega) (p + 1 + 1) (o ++ [0]) rfl (by omega) (by simp only [List.length_append, List.length_cons, List.length_nil]; omega)
            · simp only [h1, h255, if_true, if_false]; exact ev_some _
        · have c1 : ((p + 1 : Nat) : Int) ≥ (l.length : Int) := by omega
          simp only [hz, if_true, c1]
          rw [List.drop_eq_nil_of_le (by omega), getEB_one]
          exact ev_some _
      · simp only [hz, if_false]
        have := ih (l.length - (p + 1)) (by omega) (p + 1) (o ++ [l[p]]) rfl (by omega) (by simp only [List.length_append, List.length_cons, List.length_nil]; omega)
        rw [getEB_ne _ _ _ _ hz]
        exact this
    · have b1 : ¬ ((p : Int) < (l.length : Int)) := by omega
      simp only [impl_GetEsc.l0.eq_2, impl_GetEsc.j1.eq_2, a1, b1, decide_false, Bool.false_eq_true, if_true, if_false]
      rw [List.drop_eq_nil_of_le (by omega), getEB_nil]
      exact ev_some _
theorem impl_GetEsc_ev (l : List Int) (hl : l.length ≤ 140737480000000) (hb : IsB l) (p : Int) (hp : -9223372036854775808 ≤ p ∧ p ≤ 9223372036854775807) : Ev (fun k => impl_GetEsc.f k l p) (getEsc l p) := by
  unfold impl_GetEsc.f getEsc
  by_cases h0 : 0 ≤ p
  · obtain ⟨q, rfl⟩ := Int.eq_ofNat_of_zero_le h0
    rw [if_pos h0]
    exact impl_GetEsc_l0 l (by omega) _ q [] rfl (by omega) (by simp only [List.length_nil]; omega)
  · rw [if_neg h0]
    refine ev_succ (ev_succ ?_)
    have a1 : ¬ (p ≥ 0) := by omega
    simp only [impl_GetEsc.l0.eq_2, impl_GetEsc.j1.eq_2, a1, if_false, Bool.false_eq_true]
    exact ev_some _

--import B
theorem FnExactGetEsc : laws_FnExactGetEsc.Pure := by
  intro l0 a1 hm0 hb0 hw0 hi
  refine Ev.rounds ?_
  unfold laws_FnExactGetEsc.f
  by_cases hn0 : (l0.length : Int) > 1048576
  · simp only [hn0, if_true]; exact ev_some _
  simp only [hn0, if_false]
  have hb := isB_wf hw0
  have hl : l0.length ≤ 1048576 := by omega
  refine Ev.bind (laws_toByteS_ev l0 hl) ?_
  refine Ev.bind (spec_GetEsc_ev l0 (by omega) hb a1 (wf_i64 hi)) ?_
  refine Ev.bind (laws_toByteS_ev l0 hl) ?_
  refine Ev.bind (impl_GetEsc_ev l0 (by omega) hb a1 (wf_i64 hi)) ?_
  simp only [if_true, bne_self_eq_false]
  refine ev_succ ?_
  simp only [laws_FnExactGetEsc.j0.eq_2, Bool.false_eq_true, if_false]
  refine Ev.bind (laws_toByteS_ev l0 hl) ?_
  refine Ev.bind (laws_eqByteS_ev _ (by omega)) ?_
  simp only [if_true]
  exact ev_some _

end Go.Proofs.Ytefaalelkbbnkaa.Pure

/- PutEsc answers as the reference does, whatever comes in; its answer is new memory, and what came in stays as it is. No condition. -/
import Derived.Test.YtefaalelkbbnkaaPFnExactPutEscx2
import Derived.Test.YtefaalelkbbnkaaM
import Derived.Test.YtefaalelkbbnkaaB
namespace Go.Proofs.Ytefaalelkbbnkaa.Pure
open Go.RowKit Go.Proofs.Ytefaalelkbbnkaa.PFnExactPutEsc Go.Proofs.YtefaalelkbbnkaaW.PrintWords Go.Proofs.YtefaalelkbbnkaaW.PrintLast Go.Proofs.YtefaalelkbbnkaaW.PrintMore Go.Proofs.YtefaalelkbbnkaaM
set_option linter.unusedVariables false
set_option linter.unusedSimpArgs false

theorem spec_PutEsc_l0 (s : ByteArray) (hs : s.size ≤ 1048576) : ∀ i : Nat, i ≤ s.size → ∀ o : List Int, o.length + 2 * (s.size - i) + 2 < 140737488355328 →
    Ev (fun k => spec_PutEsc.l0 k s o (i : Int)) (o ++ escB ((bytesOf s).drop i)) := by
  refine up_ind s.size (fun i : Nat => ∀ o : List Int, o.length + 2 * (s.size - i) + 2 < 140737488355328 → Ev (fun k => spec_PutEsc.l0 k s o (i : Int)) (o ++ escB ((bytesOf s).drop i))) ?_ ?_
  · intro o ho
    refine ev_succ ?_
    have h1 : ¬ ((s.size : Int) < (s.size : Int)) := by omega
    have h2 : o.length + ([0, 1] : List Int).length < 140737488355328 := by simp only [List.length_cons, List.length_nil]; omega
    simp only [spec_PutEsc.l0.eq_2, h1, if_false, Option.bind_some, h2, if_true]
    rw [List.drop_eq_nil_of_le (by rw [bytesOf_len]; omega)]
    exact ev_some _
  · intro i hi ih o ho
    refine ev_succ ?_
    have hib : i < (bytesOf s).length := by rw [bytesOf_len]; exact hi
    have h1 : (i : Int) < (s.size : Int) := by omega
    have h2 : (0 : Int) ≤ (i : Int) := by omega
    have h3 : o.length < 140737488355328 := by omega
    have h4 : (o ++ [(bytesOf s)[i]]).length < 140737488355328 := by simp only [List.length_append, List.length_cons, List.length_nil]; omega
    simp only [spec_PutEsc.l0.eq_2, h1, h2, h3, h4, if_true, Option.bind_some, bt_get s i hi, wsucc (show i < 9223372036854775807 by omega)]
    rw [List.drop_eq_getElem_cons hib]
    by_cases hz : (bytesOf s)[i] = 0
    · have := ih (o ++ [(bytesOf s)[i]] ++ [255]) (by simp only [List.length_append, List.length_cons, List.length_nil]; omega)
      rw [escB, if_pos hz]
      rw [List.append_assoc, List.append_assoc] at this
      simp only [hz, if_true]
      rw [hz] at this
      simpa using this
    · have := ih (o ++ [(bytesOf s)[i]]) (by simp only [List.length_append, List.length_cons, List.length_nil]; omega)
      rw [escB, if_neg hz]
      rw [List.append_assoc] at this
      simp only [hz, if_false]
      exact this
theorem spec_PutEsc_ev (l : List Int) (s : ByteArray) (h : l.length ≤ 140737480000000) (hs : s.size ≤ 1048576) : Ev (fun k => spec_PutEsc.f k l s) (l ++ escB (bytesOf s)) := by
  unfold spec_PutEsc.f
  have h1 : ([] : List Int).length + l.length < 140737488355328 := by simp only [List.length_nil]; omega
  simp only [Option.bind_some, h1, if_true, List.nil_append]
  simpa using spec_PutEsc_l0 s hs 0 (by omega) l (by omega)

theorem laws_toByteS_l0 (l : List Int) (h : l.length ≤ 1048576) : ∀ i, i ≤ l.length → ∀ xs : List Int, xs.length = l.length →
    Ev (fun k => laws_toByteS.l0 k l xs (i : Int)) (xs.take i ++ l.drop i) := by
  refine up_ind l.length (fun i => ∀ xs : List Int, xs.length = l.length → Ev (fun k => laws_toByteS.l0 k l xs (i : Int)) (xs.take i ++ l.drop i)) ?_ ?_
  · intro xs hx
    refine ev_succ ?_
    have h1 : ¬ ((l.length : Int) < (l.length : Int)) := by omega
    simp only [laws_toByteS.l0.eq_2, h1, if_false]
    rw [List.take_of_length_le (by omega), List.drop_eq_nil_of_le (by omega)]
    simpa using ev_some xs
  · intro i hi ih xs hx
    refine ev_succ ?_
    have h1 : (i : Int) < (l.length : Int) := by omega
    have h2 : (0 : Int) ≤ (i : Int) := by omega
    have h3 : (i : Int) < (xs.length : Int) := by omega
    simp only [laws_toByteS.l0.eq_2, h1, h2, h3, if_true, rd_nat l i hi, Int.toNat_natCast, wsucc (show i < 9223372036854775807 by omega)]
    have := ih (xs.set i l[i]) (by simp [hx])
    rw [take_set_succ _ _ _ (by omega)] at this
    rw [List.drop_eq_getElem_cons hi]
    simpa using this
theorem laws_toByteS_ev (l : List Int) (h : l.length ≤ 1048576) : Ev (fun k => laws_toByteS.f k l) l := by
  unfold laws_toByteS.f
  have h1 : (0 : Int) ≤ (l.length : Int) := by omega
  have h2 : l.length ≤ 281474976710656 := by omega
  simp only [h1, h2, if_true, Int.toNat_natCast]
  simpa using laws_toByteS_l0 l h 0 (by omega) (List.replicate l.length 0) (by simp)

theorem impl_addEsc_l0 (s : ByteArray) (hs : s.size ≤ 1048576) : ∀ i : Nat, i ≤ s.size → ∀ o : List Int, o.length + 2 * (s.size - i) + 2 < 140737488355328 →
    Ev (fun k => impl_addEsc.l0 k o s (i : Int)) (o ++ escB ((bytesOf s).drop i)) := by
  refine up_ind s.size (fun i : Nat => ∀ o : List Int, o.length + 2 * (s.size - i) + 2 < 140737488355328 → Ev (fun k => impl_addEsc.l0 k o s (i : Int)) (o ++ escB ((bytesOf s).drop i))) ?_ ?_
  · intro o ho
    refine ev_succ ?_
    have h1 : ¬ ((s.size : Int) < (s.size : Int)) := by omega
    have h2 : o.length + ([0, 1] : List Int).length < 140737488355328 := by simp only [List.length_cons, List.length_nil]; omega
    simp only [impl_addEsc.l0.eq_2, h1, if_false, Option.bind_some, h2, if_true]
    rw [List.drop_eq_nil_of_le (by rw [bytesOf_len]; omega)]
    exact ev_some _
  · intro i hi ih o ho
    refine ev_succ ?_
    have hib : i < (bytesOf s).length := by rw [bytesOf_len]; exact hi
    have h1 : (i : Int) < (s.size : Int) := by omega
    have h2 : (0 : Int) ≤ (i : Int) := by omega
    have h3 : o.length < 140737488355328 := by omega
    have h4 : (o ++ [(bytesOf s)[i]]).length < 140737488355328 := by simp only [List.length_append, List.length_cons, List.length_nil]; omega
    simp only [impl_addEsc.l0.eq_2, h1, h2, h3, h4, if_true, Option.bind_some, bt_get s i hi, wsucc (show i < 9223372036854775807 by omega)]
    rw [List.drop_eq_getElem_cons hib]
    by_cases hz : (bytesOf s)[i] = 0
    · have := ih (o ++ [(bytesOf s)[i]] ++ [255]) (by simp only [List.length_append, List.length_cons, List.length_nil]; omega)
      rw [escB, if_pos hz]
      rw [List.append_assoc, List.append_assoc] at this
      simp only [hz, if_true]
      rw [hz] at this
      simpa using this
    · have := ih (o ++ [(bytesOf s)[i]]) (by simp only [List.length_append, List.length_cons, List.length_nil]; omega)
      rw [escB, if_neg hz]
      rw [List.append_assoc] at this
      simp only [hz, if_false]
      exact this
theorem impl_addEsc_ev (l : List Int) (s : ByteArray) (h : l.length ≤ 140737480000000) (hs : s.size ≤ 1048576) : Ev (fun k => impl_addEsc.f k l s) (l ++ escB (bytesOf s)) := by
  unfold impl_addEsc.f
  simpa using impl_addEsc_l0 s hs 0 (by omega) l (by omega)

theorem impl_copyBytes_eq (l : List Int) (h : l.length < 140737488355328) : impl_copyBytes.f l = some l := by
  unfold impl_copyBytes.f
  simp only [List.length_nil, Nat.zero_add, List.nil_append]
  rw [if_pos h]

theorem impl_PutEsc_ev (l : List Int) (s : ByteArray) (h : l.length ≤ 140737480000000) (hs : s.size ≤ 1048576) : Ev (fun k => impl_PutEsc.f k l s) (l ++ escB (bytesOf s)) := by
  unfold impl_PutEsc.f
  simp only [impl_copyBytes_eq l (by omega), Option.bind_some]
  exact Ev.bind (impl_addEsc_ev l s h hs) (ev_some _)

theorem laws_eqByteS_l0 (l : List Int) (h : l.length ≤ 9223372036854775807) : ∀ i, i ≤ l.length → Ev (fun k => laws_eqByteS.l0 k l l (i : Int)) true := by
  refine up_ind l.length (fun i => Ev (fun k => laws_eqByteS.l0 k l l (i : Int)) true) ?_ ?_
  · refine ev_succ ?_
    have h1 : ¬ ((l.length : Int) < (l.length : Int)) := by omega
    simp only [laws_eqByteS.l0.eq_2, h1, if_false]
    exact ev_some _
  · intro i hi ih
    refine ev_succ ?_
    have h1 : (i : Int) < (l.length : Int) := by omega
    have h2 : (0 : Int) ≤ (i : Int) := by omega
    simp only [laws_eqByteS.l0.eq_2, h1, h2, if_true, wsucc (show i < 9223372036854775807 by omega)]
    exact ih
theorem laws_eqByteS_ev (l : List Int) (h : l.length ≤ 9223372036854775807) : Ev (fun k => laws_eqByteS.f k l l) true := by
  unfold laws_eqByteS.f
  simp only [if_true]
  exact laws_eqByteS_l0 l h 0 (by omega)

theorem laws_markByteS_l0 (n : Nat) (hn : n ≤ 4294967296) (a : Int) (ha : 0 ≤ a ∧ a ≤ 4294967296) : ∀ i, i ≤ n → ∀ xs : List Int, xs.length = n →
    Ev (fun k => laws_markByteS.l0 k xs (a + i) (i : Int)) (a + n, xs.take i ++ (marks a n).drop i) := by
  refine up_ind n (fun i => ∀ xs : List Int, xs.length = n → Ev (fun k => laws_markByteS.l0 k xs (a + i) (i : Int)) (a + n, xs.take i ++ (marks a n).drop i)) ?_ ?_
  · intro xs hx
    refine ev_succ ?_
    have h1 : ¬ ((n : Int) < (xs.length : Int)) := by omega
    simp only [laws_markByteS.l0.eq_2, h1, if_false]
    rw [List.take_of_length_le (by omega), List.drop_eq_nil_of_le (by rw [marks_len]; omega), List.append_nil]
    exact ev_some _
  · intro i hi ih xs hx
    refine ev_succ ?_
    have h1 : (i : Int) < (xs.length : Int) := by omega
    have h2 : (0 : Int) ≤ (i : Int) := by omega
    have h3 : wrap64 (a + (i : Int) + 1) = a + ((i + 1 : Nat) : Int) := by rw [w64 (by omega) (by omega)]; omega
    simp only [laws_markByteS.l0.eq_2, h1, h2, h3, if_true, Int.toNat_natCast, wsucc (show i < 9223372036854775807 by omega)]
    have := ih (xs.set i ((a + (i : Int)) % 256)) (by simp [hx])
    rw [take_set_succ _ _ _ (by omega), List.append_assoc] at this
    rw [List.drop_eq_getElem_cons (by rw [marks_len]; exact hi), marks_get]
    exact this
theorem laws_markByteS_ev (l : List Int) (a : Int) (ha : 0 ≤ a ∧ a ≤ 4294967296) (h : l.length ≤ 4294967296) : Ev (fun k => laws_markByteS.f k l a) (a + l.length, marks a l.length) := by
  unfold laws_markByteS.f
  simpa using laws_markByteS_l0 l.length h a ha 0 (by omega) l rfl

theorem laws_heldByteS_l0 (n : Nat) (hn : n ≤ 4294967296) (a : Int) (ha : 0 ≤ a ∧ a ≤ 4294967296) : ∀ i, i ≤ n → Ev (fun k => laws_heldByteS.l0 k (marks a n) (a + i) (i : Int)) (a + n) := by
  refine up_ind n (fun i => Ev (fun k => laws_heldByteS.l0 k (marks a n) (a + i) (i : Int)) (a + n)) ?_ ?_
  · refine ev_succ ?_
    have h1 : ¬ ((n : Int) < ((marks a n).length : Int)) := by rw [marks_len]; omega
    simp only [laws_heldByteS.l0.eq_2, h1, if_false]
    exact ev_some _
  · intro i hi ih
    refine ev_succ ?_
    have h0 : i < (marks a n).length := by rw [marks_len]; exact hi
    have h1 : (i : Int) < ((marks a n).length : Int) := by omega
    have h2 : (0 : Int) ≤ (i : Int) := by omega
    have h3 : wrap64 (a + (i : Int) + 1) = a + ((i + 1 : Nat) : Int) := by rw [w64 (by omega) (by omega)]; omega
    simp only [laws_heldByteS.l0.eq_2, h1, h2, h3, if_true, rd_nat _ i h0, marks_get, wsucc (show i < 9223372036854775807 by omega)]
    exact ih
theorem laws_heldByteS_ev (n : Nat) (a : Int) (ha : 0 ≤ a ∧ a ≤ 4294967296) (h : n ≤ 4294967296) : Ev (fun k => laws_heldByteS.f k (marks a n) a) (a + n) := by
  unfold laws_heldByteS.f
  simpa using laws_heldByteS_l0 n h a ha 0 (by omega)

--import B
theorem FnExactPutEsc : laws_FnExactPutEsc.Pure := by
  intro l0 a1 hm0 hb0 hw0 hs
  refine Ev.rounds ?_
  unfold laws_FnExactPutEsc.f
  by_cases hn0 : (l0.length : Int) > 1048576
  · simp only [hn0, if_true]; exact ev_some _
  simp only [hn0, if_false]
  by_cases hn1 : (a1.size : Int) > 1048576
  · simp only [hn1, if_true]; exact ev_some _
  simp only [hn1, if_false]
  have hb := isB_wf hw0
  have hl : l0.length ≤ 1048576 := by omega
  have hR : (l0 ++ escB (bytesOf a1)).length ≤ 4294967296 := by have := escB_len (bytesOf a1); rw [bytesOf_len] at this; simp only [List.length_append]; omega
  refine Ev.bind (laws_toByteS_ev l0 hl) ?_
  refine Ev.bind (spec_PutEsc_ev l0 a1 (by omega) (by omega)) ?_
  refine Ev.bind (laws_toByteS_ev l0 hl) ?_
  refine Ev.bind (impl_PutEsc_ev l0 a1 (by omega) (by omega)) ?_
  refine Ev.bind (laws_eqByteS_ev _ (by omega)) ?_
  simp only [if_true]
  refine Ev.bind (laws_toByteS_ev l0 hl) ?_
  refine Ev.bind (laws_eqByteS_ev _ (by omega)) ?_
  simp only [if_true]
  refine Ev.bind (laws_markByteS_ev l0 1 (by omega) (by omega)) ?_
  have m1 : ¬ ((1 : Int) + (l0.length : Int) < 0) := by omega
  simp only [m1, if_false]
  refine Ev.bind (laws_eqByteS_ev _ (by omega)) ?_
  refine ev_succ ?_
  simp only [laws_FnExactPutEsc.j0.eq_2, Bool.not_true, Bool.false_eq_true, if_false]
  refine Ev.bind (laws_markByteS_ev _ 1 (by omega) hR) ?_
  refine Ev.bind (laws_heldByteS_ev _ 1 (by omega) hR) ?_
  have m2 : ¬ ((1 : Int) + ((l0 ++ escB (bytesOf a1)).length : Int) < 0) := by omega
  simp only [m2, if_false, if_true]
  refine Ev.bind (laws_toByteS_ev l0 hl) ?_
  refine Ev.bind (impl_PutEsc_ev l0 a1 (by omega) (by omega)) ?_
  refine Ev.bind (laws_eqByteS_ev _ (by omega)) ?_
  simp only [if_true]
  refine Ev.bind (laws_heldByteS_ev _ 1 (by omega) hR) ?_
  simp only [m2, if_false, if_true]
  exact ev_some _

end Go.Proofs.Ytefaalelkbbnkaa.Pure

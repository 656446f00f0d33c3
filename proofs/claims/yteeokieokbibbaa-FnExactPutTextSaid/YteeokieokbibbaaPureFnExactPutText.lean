/- PutText answers as the reference does, whatever comes in; its answer is new memory, and what came in stays as it is. No condition. -/
import Derived.Test.YteeokieokbibbaaPFnExactPutTextx2
import Derived.Test.YteeokieokbibbaaM
import Derived.Test.YteeokieokbibbaaB
namespace Go.Proofs.Yteeokieokbibbaa.Pure
open Go.RowKit Go.Proofs.Yteeokieokbibbaa.PFnExactPutText Go.Proofs.YteeokieokbibbaaW.PrintWords Go.Proofs.YteeokieokbibbaaW.PrintLast Go.Proofs.YteeokieokbibbaaW.PrintMore Go.Proofs.YteeokieokbibbaaM
set_option linter.unusedVariables false
set_option linter.unusedSimpArgs false

theorem laws_toByteS_l0 (l : List Int) (h : l.length ≤ 1048576) : ∀ i, i ≤ l.length → ∀ xs : List Int, xs.length = l.length →
    Ev (fun k => laws_toByteS.l0 k l xs (i : Int)) (xs.take i ++ l.drop i) := by
  refine up_ind l.length (fun i => ∀ xs : List Int, xs.length = l.length → Ev (fun k => laws_toByteS.l0 k l xs (i : Int)) (xs.take i ++ l.drop i)) ?_ ?_
  · intro xs hx
    refine ev_succ ?_
    have h1 : ¬ ((l.length : Int) < (l.length : Int)) := by omega
    simp only [laws_toByteS.l0.eq_2, h1, if_false]
    rw [List.take_of_length_le (by omega), List.drop_eq_nil_of_le (by omega)]
    simpa using ev_some xs
  · intro i hi ih xs hx
    refine ev_succ ?_
    have h1 : (i : Int) < (l.length : Int) := by omega
    have h2 : (0 : Int) ≤ (i : Int) := by omega
    have h3 : (i : Int) < (xs.length : Int) := by omega
    simp only [laws_toByteS.l0.eq_2, h1, h2, h3, if_true, rd_nat l i hi, Int.toNat_natCast, wsucc (show i < 9223372036854775807 by omega)]
    have := ih (xs.set i l[i]) (by simp [hx])
    rw [take_set_succ _ _ _ (by omega)] at this
    rw [List.drop_eq_getElem_cons hi]
    simpa using this
theorem laws_toByteS_ev (l : List Int) (h : l.length ≤ 1048576) : Ev (fun k => laws_toByteS.f k l) l := by
  unfold laws_toByteS.f
  have h1 : (0 : Int) ≤ (l.length : Int) := by omega
  have h2 : l.length ≤ 281474976710656 := by omega
  simp only [h1, h2, if_true, Int.toNat_natCast]
  simpa using laws_toByteS_l0 l h 0 (by omega) (List.replicate l.length 0) (by simp)

theorem laws_eqByteS_l0 (l : List Int) (h : l.length ≤ 9223372036854775807) : ∀ i, i ≤ l.length → Ev (fun k => laws_eqByteS.l0 k l l (i : Int)) true := by
  refine up_ind l.length (fun i => Ev (fun k => laws_eqByteS.l0 k l l (i : Int)) true) ?_ ?_
  · refine ev_succ ?_
    have h1 : ¬ ((l.length : Int) < (l.length : Int)) := by omega
    simp only [laws_eqByteS.l0.eq_2, h1, if_false]
    exact ev_some _
  · intro i hi ih
    refine ev_succ ?_
    have h1 : (i : Int) < (l.length : Int) := by omega
    have h2 : (0 : Int) ≤ (i : Int) := by omega
    simp only [laws_eqByteS.l0.eq_2, h1, h2, if_true, wsucc (show i < 9223372036854775807 by omega)]
    exact ih
theorem laws_eqByteS_ev (l : List Int) (h : l.length ≤ 9223372036854775807) : Ev (fun k => laws_eqByteS.f k l l) true := by
  unfold laws_eqByteS.f
  simp only [if_true]
  exact laws_eqByteS_l0 l h 0 (by omega)

theorem laws_markByteS_l0 (n : Nat) (hn : n ≤ 4294967296) (a : Int) (ha : 0 ≤ a ∧ a ≤ 4294967296) : ∀ i, i ≤ n → ∀ xs : List Int, xs.length = n →
    Ev (fun k => laws_markByteS.l0 k xs (a + i) (i : Int)) (a + n, xs.take i ++ (marks a n).drop i) := by
  refine up_ind n (fun i => ∀ xs : List Int, xs.length = n → Ev (fun k => laws_markByteS.l0 k xs (a + i) (i : Int)) (a + n, xs.take i ++ (marks a n).drop i)) ?_ ?_
  · intro xs hx
    refine ev_succ ?_
    have h1 : ¬ ((n : Int) < (xs.length : Int)) := by omega
    simp only [laws_markByteS.l0.eq_2, h1, if_false]
    rw [List.take_of_length_le (by omega), List.drop_eq_nil_of_le (by rw [marks_len]; omega), List.append_nil]
    exact ev_some _
  · intro i hi ih xs hx
    refine ev_succ ?_
    have h1 : (i : Int) < (xs.length : Int) := by omega
    have h2 : (0 : Int) ≤ (i : Int) := by omega
    have h3 : wrap64 (a + (i : Int) + 1) = a + ((i + 1 : Nat) : Int) := by rw [w64 (by omega) (by omega)]; omega
    simp only [laws_markByteS.l0.eq_2, h1, h2, h3, if_true, Int.toNat_natCast, wsucc (show i < 9223372036854775807 by omega)]
    have := ih (xs.set i ((a + (i : Int)) % 256)) (by simp [hx])
    rw [take_set_succ _ _ _ (by omega), List.append_assoc] at this
    rw [List.drop_eq_getElem_cons (by rw [marks_len]; exact hi), marks_get]
    exact this
theorem laws_markByteS_ev (l : List Int) (a : Int) (ha : 0 ≤ a ∧ a ≤ 4294967296) (h : l.length ≤ 4294967296) : Ev (fun k => laws_markByteS.f k l a) (a + l.length, marks a l.length) := by
  unfold laws_markByteS.f
  simpa using laws_markByteS_l0 l.length h a ha 0 (by omega) l rfl

theorem laws_heldByteS_l0 (n : Nat) (hn : n ≤ 4294967296) (a : Int) (ha : 0 ≤ a ∧ a ≤ 4294967296) : ∀ i, i ≤ n → Ev (fun k => laws_heldByteS.l0 k (marks a n) (a + i) (i : Int)) (a + n) := by
  refine up_ind n (fun i => Ev (fun k => laws_heldByteS.l0 k (marks a n) (a + i) (i : Int)) (a + n)) ?_ ?_
  · refine ev_succ ?_
    have h1 : ¬ ((n : Int) < ((marks a n).length : Int)) := by rw [marks_len]; omega
    simp only [laws_heldByteS.l0.eq_2, h1, if_false]
    exact ev_some _
  · intro i hi ih
    refine ev_succ ?_
    have h0 : i < (marks a n).length := by rw [marks_len]; exact hi
    have h1 : (i : Int) < ((marks a n).length : Int) := by omega
    have h2 : (0 : Int) ≤ (i : Int) := by omega
    have h3 : wrap64 (a + (i : Int) + 1) = a + ((i + 1 : Nat) : Int) := by rw [w64 (by omega) (by omega)]; omega
    simp only [laws_heldByteS.l0.eq_2, h1, h2, h3, if_true, rd_nat _ i h0, marks_get, wsucc (show i < 9223372036854775807 by omega)]
    exact ih
theorem laws_heldByteS_ev (n : Nat) (a : Int) (ha : 0 ≤ a ∧ a ≤ 4294967296) (h : n ≤ 4294967296) : Ev (fun k => laws_heldByteS.f k (marks a n) a) (a + n) := by
  unfold laws_heldByteS.f
  simpa using laws_heldByteS_l0 n h a ha 0 (by omega)

theorem spec_PutU_l0 (x : Nat) : ∀ l : List Int, l.length + x < 140737488355328 → Ev (fun k => spec_PutU.l0 k (x : Int) l) (l ++ putU x) := by
  induction x using Nat.strongRecOn with
  | _ x ih =>
    intro l hl
    refine ev_succ ?_
    have h2 : l.length < 140737488355328 := by omega
    by_cases h : x ≤ 127
    · have h1 : ¬ ((x : Int) > 127) := by omega
      have e : (x : Int) % 256 = (x : Int) := by omega
      simp only [spec_PutU.l0.eq_2, h1, h2, if_true, if_false, e, putU_small h]
      exact ev_some _
    · have h1 : (x : Int) > 127 := by omega
      have e1 : (Go.bits .or .i64 (Go.bits .and .i64 (x : Int) 127) 128) % 256 = ((x % 128 + 128 : Nat) : Int) := by
        rw [i64_and127, or128 _ (by omega) (by omega)]; omega
      have e2 : (x : Int) / 128 = ((x / 128 : Nat) : Int) := by omega
      simp only [spec_PutU.l0.eq_2, h1, h2, if_true, e1, e2, putU_big h]
      have := ih (x / 128) (by omega) (l ++ [((x % 128 + 128 : Nat) : Int)]) (by simp only [List.length_append, List.length_cons, List.length_nil]; omega)
      rw [List.append_assoc] at this
      exact this
theorem spec_PutU_j0 (n : Int) (hn : n ≤ 1000000) (l : List Int) (h : l.length ≤ 140737480000000) : Ev (fun k => spec_PutU.j0 k n l) (l ++ putU (clampU n)) := by
  have hc := clampN_spec n 0 1000000 (by omega)
  have hcc := clampU_cast n
  refine ev_succ ?_
  by_cases h0 : n < 0
  · simp only [spec_PutU.j0.eq_2, h0, if_true]
    refine ev_succ ?_
    simp only [spec_PutU.j1.eq_2]
    rw [show (0 : Int) = ((clampU n : Nat) : Int) by omega]
    exact spec_PutU_l0 _ _ (by have := clampU_le n; omega)
  · simp only [spec_PutU.j0.eq_2, h0, if_false]
    refine ev_succ ?_
    simp only [spec_PutU.j1.eq_2]
    have e : n = ((clampU n : Nat) : Int) := by omega
    have := spec_PutU_l0 (clampU n) l (by have := clampU_le n; omega)
    rw [← e] at this
    exact this
theorem spec_PutU_ev (l : List Int) (n : Int) (h : l.length ≤ 140737480000000) : Ev (fun k => spec_PutU.f k l n) (l ++ putU (clampU n)) := by
  unfold spec_PutU.f
  have h1 : ([] : List Int).length + l.length < 140737488355328 := by simp only [List.length_nil]; omega
  simp only [Option.bind_some, h1, if_true, List.nil_append]
  by_cases hn : n > 1000000
  · simp only [hn, if_true]
    have e : clampU n = clampU 1000000 := by
      have h1 := clampN_spec n 0 1000000 (by omega)
      have h2 := clampN_spec 1000000 0 1000000 (by omega)
      have h3 := clampU_cast n
      have h4 := clampU_cast 1000000
      omega
    rw [e]
    exact spec_PutU_j0 _ (by omega) l h
  · simp only [hn, if_false]
    exact spec_PutU_j0 _ (by omega) l h

theorem spec_PutText_ev (l : List Int) (s : ByteArray) (h : l.length ≤ 140737470000000) (hs : s.size ≤ 1048576) : Ev (fun k => spec_PutText.f k l s) (l ++ putU (clampU (s.size : Int)) ++ bytesOf s) := by
  unfold spec_PutText.f
  refine Ev.bind (spec_PutU_ev l (s.size : Int) (by omega)) ?_
  have h2 := putU_len (clampU (s.size : Int))
  have h3 := clampU_le (s.size : Int)
  have h1 : (l ++ putU (clampU (s.size : Int))).length + s.size < 140737488355328 := by simp only [List.length_append]; omega
  simp only [h1, if_true]
  exact ev_some _

theorem impl_copyBytes_eq (l : List Int) (h : l.length < 140737488355328) : impl_copyBytes.f l = some l := by
  unfold impl_copyBytes.f
  simp only [List.length_nil, Nat.zero_add, List.nil_append]
  rw [if_pos h]

theorem impl_clamp_eq (n lo hi : Int) : impl_clamp.f n lo hi = some (clampN n lo hi) := rfl

theorem impl_addU_l0 (x : Nat) : ∀ l : List Int, l.length + x < 140737488355328 → Ev (fun k => impl_addU.l0 k l (x : Int)) (l ++ putU x) := by
  induction x using Nat.strongRecOn with
  | _ x ih =>
    intro l hl
    refine ev_succ ?_
    have h2 : l.length < 140737488355328 := by omega
    by_cases h : x ≤ 127
    · have h1 : ¬ ((x : Int) > 127) := by omega
      have e : (x : Int) % 256 = (x : Int) := by omega
      simp only [impl_addU.l0.eq_2, h1, h2, if_true, if_false, e, putU_small h]
      exact ev_some _
    · have h1 : (x : Int) > 127 := by omega
      have e1 : (wrap64 (Int.tmod (x : Int) 128 + 128)) % 256 = ((x % 128 + 128 : Nat) : Int) := by
        rw [Int.tmod_eq_emod_of_nonneg (by omega), w64 (by omega) (by omega)]; omega
      have e2 : wrap64 (Int.tdiv (x : Int) 128) = ((x / 128 : Nat) : Int) := by
        rw [Int.tdiv_eq_ediv_of_nonneg (by omega), w64 (by omega) (by omega)]; omega
      simp only [impl_addU.l0.eq_2, h1, h2, if_true, e1, e2, putU_big h]
      have := ih (x / 128) (by omega) (l ++ [((x % 128 + 128 : Nat) : Int)]) (by simp only [List.length_append, List.length_cons, List.length_nil]; omega)
      rw [List.append_assoc] at this
      exact this
theorem impl_addU_ev (l : List Int) (n : Int) (h : l.length ≤ 140737480000000) : Ev (fun k => impl_addU.f k l n) (l ++ putU (clampU n)) := by
  unfold impl_addU.f
  simp only [impl_clamp_eq, Option.bind_some, ← clampU_cast]
  exact impl_addU_l0 _ _ (by have := clampU_le n; omega)

theorem impl_addText_ev (l : List Int) (s : ByteArray) (h : l.length ≤ 140737470000000) (hs : s.size ≤ 1048576) : Ev (fun k => impl_addText.f k l s) (l ++ putU (clampU (s.size : Int)) ++ bytesOf s) := by
  unfold impl_addText.f
  refine Ev.bind (impl_addU_ev l (s.size : Int) (by omega)) ?_
  have h2 := putU_len (clampU (s.size : Int))
  have h3 := clampU_le (s.size : Int)
  have h1 : (l ++ putU (clampU (s.size : Int))).length + s.size < 140737488355328 := by simp only [List.length_append]; omega
  simp only [h1, if_true]
  exact ev_some _

theorem impl_PutText_ev (l : List Int) (s : ByteArray) (h : l.length ≤ 140737470000000) (hs : s.size ≤ 1048576) : Ev (fun k => impl_PutText.f k l s) (l ++ putU (clampU (s.size : Int)) ++ bytesOf s) := by
  unfold impl_PutText.f
  simp only [impl_copyBytes_eq l (by omega), Option.bind_some]
  exact Ev.bind (impl_addText_ev l s h hs) (ev_some _)

--import B
theorem FnExactPutText : laws_FnExactPutText.Pure := by
  intro l0 a1 hm0 hb0 hw0 hs
  refine Ev.rounds ?_
  unfold laws_FnExactPutText.f
  by_cases hn0 : (l0.length : Int) > 1048576
  · simp only [hn0, if_true]; exact ev_some _
  simp only [hn0, if_false]
  by_cases hn1 : (a1.size : Int) > 1048576
  · simp only [hn1, if_true]; exact ev_some _
  simp only [hn1, if_false]
  have hb := isB_wf hw0
  have hl : l0.length ≤ 1048576 := by omega
  have hR : (l0 ++ putU (clampU (a1.size : Int)) ++ bytesOf a1).length ≤ 4294967296 := by have := putU_len (clampU (a1.size : Int)); have := clampU_le (a1.size : Int); simp only [List.length_append, bytesOf_len]; omega
  refine Ev.bind (laws_toByteS_ev l0 hl) ?_
  refine Ev.bind (spec_PutText_ev l0 a1 (by omega) (by omega)) ?_
  refine Ev.bind (laws_toByteS_ev l0 hl) ?_
  refine Ev.bind (impl_PutText_ev l0 a1 (by omega) (by omega)) ?_
  refine Ev.bind (laws_eqByteS_ev _ (by omega)) ?_
  simp only [if_true]
  refine Ev.bind (laws_toByteS_ev l0 hl) ?_
  refine Ev.bind (laws_eqByteS_ev _ (by omega)) ?_
  simp only [if_true]
  refine Ev.bind (laws_markByteS_ev l0 1 (by omega) (by omega)) ?_
  have m1 : ¬ ((1 : Int) + (l0.length : Int) < 0) := by omega
  simp only [m1, if_false]
  refine Ev.bind (laws_eqByteS_ev _ (by omega)) ?_
  refine ev_succ ?_
  simp only [laws_FnExactPutText.j0.eq_2, Bool.not_true, Bool.false_eq_true, if_false]
  refine Ev.bind (laws_markByteS_ev _ 1 (by omega) hR) ?_
  refine Ev.bind (laws_heldByteS_ev _ 1 (by omega) hR) ?_
  have m2 : ¬ ((1 : Int) + ((l0 ++ putU (clampU (a1.size : Int)) ++ bytesOf a1).length : Int) < 0) := by omega
  simp only [m2, if_false, if_true]
  refine Ev.bind (laws_toByteS_ev l0 hl) ?_
  refine Ev.bind (impl_PutText_ev l0 a1 (by omega) (by omega)) ?_
  refine Ev.bind (laws_eqByteS_ev _ (by omega)) ?_
  simp only [if_true]
  refine Ev.bind (laws_heldByteS_ev _ 1 (by omega) hR) ?_
  simp only [m2, if_false, if_true]
  exact ev_some _

end Go.Proofs.Yteeokieokbibbaa.Pure

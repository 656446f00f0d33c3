/- PutFix answers as the reference does, whatever comes in; its answer is new memory, and what came in stays as it is. No condition. -/
import Derived.Test.YtefaalelkbbnkaaPFnExactPutFixx2
import Derived.Test.YtefaalelkbbnkaaM
import Derived.Test.YtefaalelkbbnkaaB
namespace Go.Proofs.Ytefaalelkbbnkaa.Pure
open Go.RowKit Go.Proofs.Ytefaalelkbbnkaa.PFnExactPutFix Go.Proofs.YtefaalelkbbnkaaW.PrintWords Go.Proofs.YtefaalelkbbnkaaW.PrintLast Go.Proofs.YtefaalelkbbnkaaW.PrintMore Go.Proofs.YtefaalelkbbnkaaM
set_option linter.unusedVariables false
set_option linter.unusedSimpArgs false

theorem laws_toByteS_l0 (l : List Int) (h : l.length ≤ 1048576) : ∀ i, i ≤ l.length → ∀ xs : List Int, xs.length = l.length →
    Ev (fun k => laws_toByteS.l0 k l xs (i : Int)) (xs.take i ++ l.drop i) := by
  refine up_ind l.length (fun i => ∀ xs : List Int, xs.length = l.length → Ev (fun k => laws_toByteS.l0 k l xs (i : Int)) (xs.take i ++ l.drop i)) ?_ ?_
  · intro xs hx
    refine ev_succ ?_
    have h1 : ¬ ((l.length : Int) < (l.length : Int)) := by omega
    simp only [laws_toByteS.l0.eq_2, h1, if_false]
    rw [List.take_of_length_le (by omega), List.drop_eq_nil_of_le (by omega)]
    simpa using ev_some xs
  · intro i hi ih xs hx
    refine ev_succ ?_
    have h1 : (i : Int) < (l.length : Int) := by omega
    have h2 : (0 : Int) ≤ (i : Int) := by omega
    have h3 : (i : Int) < (xs.length : Int) := by omega
    simp only [laws_toByteS.l0.eq_2, h1, h2, h3, if_true, rd_nat l i hi, Int.toNat_natCast, wsucc (show i < 9223372036854775807 by omega)]
    have := ih (xs.set i l[i]) (by simp [hx])
    rw [take_set_succ _ _ _ (by omega)] at this
    rw [List.drop_eq_getElem_cons hi]
    simpa using this
theorem laws_toByteS_ev (l : List Int) (h : l.length ≤ 1048576) : Ev (fun k => laws_toByteS.f k l) l := by
  unfold laws_toByteS.f
  have h1 : (0 : Int) ≤ (l.length : Int) := by omega
  have h2 : l.length ≤ 281474976710656 := by omega
  simp only [h1, h2, if_true, Int.toNat_natCast]
  simpa using laws_toByteS_l0 l h 0 (by omega) (List.replicate l.length 0) (by simp)

theorem laws_eqByteS_l0 (l : List Int) (h : l.length ≤ 9223372036854775807) : ∀ i, i ≤ l.length → Ev (fun k => laws_eqByteS.l0 k l l (i : Int)) true := by
  refine up_ind l.length (fun i => Ev (fun k => laws_eqByteS.l0 k l l (i : Int)) true) ?_ ?_
  · refine ev_succ ?_
    have h1 : ¬ ((l.length : Int) < (l.length : Int)) := by omega
    simp only [laws_eqByteS.l0.eq_2, h1, if_false]
    exact ev_some _
  · intro i hi ih
    refine ev_succ ?_
    have h1 : (i : Int) < (l.length : Int) := by omega
    have h2 : (0 : Int) ≤ (i : Int) := by omega
    simp only [laws_eqByteS.l0.eq_2, h1, h2, if_true, wsucc (show i < 9223372036854775807 by omega)]
    exact ih
theorem laws_eqByteS_ev (l : List Int) (h : l.length ≤ 9223372036854775807) : Ev (fun k => laws_eqByteS.f k l l) true := by
  unfold laws_eqByteS.f
  simp only [if_true]
  exact laws_eqByteS_l0 l h 0 (by omega)

theorem laws_markByteS_l0 (n : Nat) (hn : n ≤ 4294967296) (a : Int) (ha : 0 ≤ a ∧ a ≤ 4294967296) : ∀ i, i ≤ n → ∀ xs : List Int, xs.length = n →
    Ev (fun k => laws_markByteS.l0 k xs (a + i) (i : Int)) (a + n, xs.take i ++ (marks a n).drop i) := by
  refine up_ind n (fun i => ∀ xs : List Int, xs.length = n → Ev (fun k => laws_markByteS.l0 k xs (a + i) (i : Int)) (a + n, xs.take i ++ (marks a n).drop i)) ?_ ?_
  · intro xs hx
    refine ev_succ ?_
    have h1 : ¬ ((n : Int) < (xs.length : Int)) := by omega
    simp only [laws_markByteS.l0.eq_2, h1, if_false]
    rw [List.take_of_length_le (by omega), List.drop_eq_nil_of_le (by rw [marks_len]; omega), List.append_nil]
    exact ev_some _
  · intro i hi ih xs hx
    refine ev_succ ?_
    have h1 : (i : Int) < (xs.length : Int) := by omega
    have h2 : (0 : Int) ≤ (i : Int) := by omega
    have h3 : wrap64 (a + (i : Int) + 1) = a + ((i + 1 : Nat) : Int) := by rw [w64 (by omega) (by omega)]; omega
    simp only [laws_markByteS.l0.eq_2, h1, h2, h3, if_true, Int.toNat_natCast, wsucc (show i < 9223372036854775807 by omega)]
    have := ih (xs.set i ((a + (i : Int)) % 256)) (by simp [hx])
    rw [take_set_succ _ _ _ (by omega), List.append_assoc] at this
    rw [List.drop_eq_getElem_cons (by rw [marks_len]; exact hi), marks_get]
    exact this
theorem laws_markByteS_ev (l : List Int) (a : Int) (ha : 0 ≤ a ∧ a ≤ 4294967296) (h : l.length ≤ 4294967296) : Ev (fun k => laws_markByteS.f k l a) (a + l.length, marks a l.length) := by
  unfold laws_markByteS.f
  simpa using laws_markByteS_l0 l.length h a ha 0 (by omega) l rfl

theorem laws_heldByteS_l0 (n : Nat) (hn : n ≤ 4294967296) (a : Int) (ha : 0 ≤ a ∧ a ≤ 4294967296) : ∀ i, i ≤ n → Ev (fun k => laws_heldByteS.l0 k (marks a n) (a + i) (i : Int)) (a + n) := by
  refine up_ind n (fun i => Ev (fun k => laws_heldByteS.l0 k (marks a n) (a + i) (i : Int)) (a + n)) ?_ ?_
  · refine ev_succ ?_
    have h1 : ¬ ((n : Int) < ((marks a n).length : Int)) := by rw [marks_len]; omega
    simp only [laws_heldByteS.l0.eq_2, h1, if_false]
    exact ev_some _
  · intro i hi ih
    refine ev_succ ?_
    have h0 : i < (marks a n).length := by rw [marks_len]; exact hi
    have h1 : (i : Int) < ((marks a n).length : Int) := by omega
    have h2 : (0 : Int) ≤ (i : Int) := by omega
    have h3 : wrap64 (a + (i : Int) + 1) = a + ((i + 1 : Nat) : Int) := by rw [w64 (by omega) (by omega)]; omega
    simp only [laws_heldByteS.l0.eq_2, h1, h2, h3, if_true, rd_nat _ i h0, marks_get, wsucc (show i < 9223372036854775807 by omega)]
    exact ih
theorem laws_heldByteS_ev (n : Nat) (a : Int) (ha : 0 ≤ a ∧ a ≤ 4294967296) (h : n ≤ 4294967296) : Ev (fun k => laws_heldByteS.f k (marks a n) a) (a + n) := by
  unfold laws_heldByteS.f
  simpa using laws_heldByteS_l0 n h a ha 0 (by omega)

theorem spec_PutFix_eq (l : List Int) (n : Int) (h : l.length ≤ 140737480000000) (hn : -9223372036854775808 ≤ n ∧ n ≤ 9223372036854775807) : spec_PutFix.f l n = some (l ++ fixB n) := by
  unfold spec_PutFix.f
  have hc := clampN_spec n (-2147483648) 2147483647 (by omega)
  have h0 : l.length < 140737488355328 := by omega
  have h4 : l.length + (0 + 1 + 1 + 1 + 1) < 140737488355328 := by omega
  by_cases h1 : n > 2147483647
  · have e : clampN n (-2147483648) 2147483647 = 2147483647 := by omega
    simp only [h1, if_true, Option.bind_some, List.length_nil, Nat.zero_add, List.nil_append, h0, List.length_cons, fixB, e]
    rw [if_pos (by omega)]
    congr 2
  · by_cases h2 : n < -2147483648
    · have e : clampN n (-2147483648) 2147483647 = -2147483648 := by omega
      simp only [h1, h2, if_true, if_false, Option.bind_some, List.length_nil, Nat.zero_add, List.nil_append, h0, List.length_cons, fixB, e]
      rw [if_pos (by omega)]
      rfl
    · have e : clampN n (-2147483648) 2147483647 = n := by omega
      have e2 : wrap64 (n + 2147483648) = n + 2147483648 := w64 (by omega) (by omega)
      simp only [h1, h2, if_true, if_false, Option.bind_some, List.length_nil, Nat.zero_add, List.nil_append, h0, List.length_cons, fixB, e, e2]
      rw [if_pos (by omega)]

theorem impl_copyBytes_eq (l : List Int) (h : l.length < 140737488355328) : impl_copyBytes.f l = some l := by
  unfold impl_copyBytes.f
  simp only [List.length_nil, Nat.zero_add, List.nil_append]
  rw [if_pos h]

theorem impl_addBytes_l0 (n : Nat) (t : Bool) (c : Nat) : ∀ o : List Int, c ≤ 7 → o.length + c < 140737488355328 →
    Ev (fun k => impl_addBytes.l0 k o (n : Int) (if t = true then 255 else 0) ((c : Int) - 1)) (o ++ (beB n c).map fun x => if t = true then 255 - x else x) := by
  induction c with
  | zero =>
    intro o _ _
    refine ev_succ ?_
    have h1 : ¬ (((0 : Nat) : Int) - 1 ≥ 0) := by decide
    simp only [impl_addBytes.l0.eq_2, h1, if_false, beB, List.map_nil, List.append_nil]
    exact ev_some _
  | succ c ih =>
    intro o hc ho
    refine ev_succ ?_
    have e1 : ((c + 1 : Nat) : Int) - 1 = (c : Int) := by omega
    have h1 : (c : Int) ≥ 0 := by omega
    have h2 : wrap64 (8 * (c : Int)) = ((8 * c : Nat) : Int) := by rw [w64 (by omega) (by omega)]; omega
    have h3 : (0 : Int) ≤ ((8 * c : Nat) : Int) := by omega
    have h4 : o.length < 140737488355328 := by omega
    have h5 : wrap64 ((c : Int) - 1) = (c : Int) - 1 := w64 (by omega) (by omega)
    have h6 : shr .i64 (n : Int) ((8 * c : Nat) : Int) % 256 = ((n / 256 ^ c % 256 : Nat) : Int) := by
      unfold shr
      rw [Int.toNat_natCast, show min (8 * c) IntKind.i64.bits = 8 * c from Nat.min_eq_left (by simp [IntKind.bits]; omega), Nat.pow_mul' 2 8 c |> fun e => show (2 : Int) ^ (8 * c) = ((256 ^ c : Nat) : Int) by rw [Int.pow_mul]; simp]
      omega
    have h7 : bits .xor .u8 ((n / 256 ^ c % 256 : Nat) : Int) (if t = true then 255 else 0) = if t = true then 255 - ((n / 256 ^ c % 256 : Nat) : Int) else ((n / 256 ^ c % 256 : Nat) : Int) := by
      cases t with
      | true => simp only [if_true]; exact xor_255 _ (by omega) (by omega)
      | false => simp only [Bool.false_eq_true, if_false]; exact xor0 _ (by omega) (by omega)
    simp only [impl_addBytes.l0.eq_2, e1, h1, h2, h3, h4, h5, h6, h7, if_true]
    have := ih (o ++ [if t = true then 255 - ((n / 256 ^ c % 256 : Nat) : Int) else ((n / 256 ^ c % 256 : Nat) : Int)]) (by omega) (by simp only [List.length_append, List.length_cons, List.length_nil]; omega)
    rw [List.append_assoc] at this
    exact this
theorem impl_addBytes_ev (o : List Int) (n : Nat) (c : Nat) (t : Bool) (τ : Int) (hτ : τ = if t = true then 255 else 0) (hc : c ≤ 7) (ho : o.length ≤ 140737480000000) :
    Ev (fun k => impl_addBytes.f k o (n : Int) (c : Int) τ) (o ++ (beB n c).map fun x => if t = true then 255 - x else x) := by
  subst hτ
  unfold impl_addBytes.f
  rw [w64 (by omega) (by omega)]
  exact impl_addBytes_l0 n t c o hc (by omega)

theorem impl_clamp_eq (n lo hi : Int) : impl_clamp.f n lo hi = some (clampN n lo hi) := rfl

theorem impl_addFix_ev (l : List Int) (n : Int) (h : l.length ≤ 140737480000000) : Ev (fun k => impl_addFix.f k l n) (l ++ fixB n) := by
  unfold impl_addFix.f
  have hc := clampN_spec n (-2147483648) 2147483647 (by omega)
  simp only [impl_clamp_eq, Option.bind_some]
  have e : wrap64 (clampN n (-2147483648) 2147483647 + 2147483648) = (((clampN n (-2147483648) 2147483647 + 2147483648).toNat : Nat) : Int) := by rw [w64 (by omega) (by omega)]; omega
  rw [e]
  have := impl_addBytes_ev l (clampN n (-2147483648) 2147483647 + 2147483648).toNat 4 false 0 rfl (by omega) h
  have e2 : (beB (clampN n (-2147483648) 2147483647 + 2147483648).toNat 4).map (fun x : Int => if false = true then 255 - x else x) = fixB n := by
    unfold fixB
    simp only [beB, List.map_cons, List.map_nil, Bool.false_eq_true, if_false, List.cons.injEq, and_true, Nat.pow_zero, Nat.pow_one]
    omega
  rw [e2] at this
  exact Ev.bind this (ev_some _)

theorem impl_PutFix_ev (l : List Int) (n : Int) (h : l.length ≤ 140737480000000) : Ev (fun k => impl_PutFix.f k l n) (l ++ fixB n) := by
  unfold impl_PutFix.f
  simp only [impl_copyBytes_eq l (by omega), Option.bind_some]
  exact Ev.bind (impl_addFix_ev l n h) (ev_some _)

--import B
theorem FnExactPutFix : laws_FnExactPutFix.Pure := by
  intro l0 a1 hm0 hb0 hw0 hi
  refine Ev.rounds ?_
  unfold laws_FnExactPutFix.f
  by_cases hn0 : (l0.length : Int) > 1048576
  · simp only [hn0, if_true]; exact ev_some _
  simp only [hn0, if_false]
  have hb := isB_wf hw0
  have hl : l0.length ≤ 1048576 := by omega
  have hR : (l0 ++ fixB a1).length ≤ 4294967296 := by simp only [List.length_append, fixB_len]; omega
  refine Ev.bind (laws_toByteS_ev l0 hl) ?_
  simp only [spec_PutFix_eq l0 a1 (by omega) (wf_i64 hi), Option.bind_some]
  refine Ev.bind (laws_toByteS_ev l0 hl) ?_
  refine Ev.bind (impl_PutFix_ev l0 a1 (by omega)) ?_
  refine Ev.bind (laws_eqByteS_ev _ (by omega)) ?_
  simp only [if_true]
  refine Ev.bind (laws_toByteS_ev l0 hl) ?_
  refine Ev.bind (laws_eqByteS_ev _ (by omega)) ?_
  simp only [if_true]
  refine Ev.bind (laws_markByteS_ev l0 1 (by omega) (by omega)) ?_
  have m1 : ¬ ((1 : Int) + (l0.length : Int) < 0) := by omega
  simp only [m1, if_false]
  refine Ev.bind (laws_eqByteS_ev _ (by omega)) ?_
  refine ev_succ ?_
  simp only [laws_FnExactPutFix.j0.eq_2, Bool.not_true, Bool.false_eq_true, if_false]
  refine Ev.bind (laws_markByteS_ev _ 1 (by omega) hR) ?_
  refine Ev.bind (laws_heldByteS_ev _ 1 (by omega) hR) ?_
  have m2 : ¬ ((1 : Int) + ((l0 ++ fixB a1).length : Int) < 0) := by omega
  simp only [m2, if_false, if_true]
  refine Ev.bind (laws_toByteS_ev l0 hl) ?_
  refine Ev.bind (impl_PutFix_ev l0 a1 (by omega)) ?_
  refine Ev.bind (laws_eqByteS_ev _ (by omega)) ?_
  simp only [if_true]
  refine Ev.bind (laws_heldByteS_ev _ 1 (by omega) hR) ?_
  simp only [m2, if_false, if_true]
  exact ev_some _

end Go.Proofs.Ytefaalelkbbnkaa.Pure

/- Flip answers as the reference does, whatever comes in; its answer is new memory, and what came in stays as it is. No condition. -/
import Derived.Test.YteeokieokbibbaaPFnExactFlipx2
import Derived.Test.YteeokieokbibbaaM
import Derived.Test.YteeokieokbibbaaB
namespace Go.Proofs.Yteeokieokbibbaa.Pure
open Go.RowKit Go.Proofs.Yteeokieokbibbaa.PFnExactFlip Go.Proofs.YteeokieokbibbaaW.PrintWords Go.Proofs.YteeokieokbibbaaW.PrintLast Go.Proofs.YteeokieokbibbaaW.PrintMore Go.Proofs.YteeokieokbibbaaM
set_option linter.unusedVariables false
set_option linter.unusedSimpArgs false

theorem laws_toByteS_l0 (l : List Int) (h : l.length ≤ 1048576) : ∀ i, i ≤ l.length → ∀ xs : List Int, xs.length = l.length →
    Ev (fun k => laws_toByteS.l0 k l xs (i : Int)) (xs.take i ++ l.drop i) := by
  refine up_ind l.length (fun i => ∀ xs : List Int, xs.length = l.length → Ev (fun k => laws_toByteS.l0 k l xs (i : Int)) (xs.take i ++ l.drop i)) ?_ ?_
  · intro xs hx
    refine ev_succ ?_
    have h1 : ¬ ((l.length : Int) < (l.length : Int)) := by omega
    simp only [laws_toByteS.l0.eq_2, h1, if_false]
    rw [List.take_of_length_le (by omega), List.drop_eq_nil_of_le (by omega)]
    simpa using ev_some xs
  · intro i hi ih xs hx
    refine ev_succ ?_
    have h1 : (i : Int) < (l.length : Int) := by omega
    have h2 : (0 : Int) ≤ (i : Int) := by omega
    have h3 : (i : Int) < (xs.length : Int) := by omega
    simp only [laws_toByteS.l0.eq_2, h1, h2, h3, if_true, rd_nat l i hi, Int.toNat_natCast, wsucc (show i < 9223372036854775807 by omega)]
    have := ih (xs.set i l[i]) (by simp [hx])
    rw [take_set_succ _ _ _ (by omega)] at this
    rw [List.drop_eq_getElem_cons hi]
    simpa using this
theorem laws_toByteS_ev (l : List Int) (h : l.length ≤ 1048576) : Ev (fun k => laws_toByteS.f k l) l := by
  unfold laws_toByteS.f
  have h1 : (0 : Int) ≤ (l.length : Int) := by omega
  have h2 : l.length ≤ 281474976710656 := by omega
  simp only [h1, h2, if_true, Int.toNat_natCast]
  simpa using laws_toByteS_l0 l h 0 (by omega) (List.replicate l.length 0) (by simp)

theorem laws_eqByteS_l0 (l : List Int) (h : l.length ≤ 9223372036854775807) : ∀ i, i ≤ l.length → Ev (fun k => laws_eqByteS.l0 k l l (i : Int)) true := by
  refine up_ind l.length (fun i => Ev (fun k => laws_eqByteS.l0 k l l (i : Int)) true) ?_ ?_
  · refine ev_succ ?_
    have h1 : ¬ ((l.length : Int) < (l.length : Int)) := by omega
    simp only [laws_eqByteS.l0.eq_2, h1, if_false]
    exact ev_some _
  · intro i hi ih
    refine ev_succ ?_
    have h1 : (i : Int) < (l.length : Int) := by omega
    have h2 : (0 : Int) ≤ (i : Int) := by omega
    simp only [laws_eqByteS.l0.eq_2, h1, h2, if_true, wsucc (show i < 9223372036854775807 by omega)]
    exact ih
theorem laws_eqByteS_ev (l : List Int) (h : l.length ≤ 9223372036854775807) : Ev (fun k => laws_eqByteS.f k l l) true := by
  unfold laws_eqByteS.f
  simp only [if_true]
  exact laws_eqByteS_l0 l h 0 (by omega)

theorem laws_markByteS_l0 (n : Nat) (hn : n ≤ 4294967296) (a : Int) (ha : 0 ≤ a ∧ a ≤ 4294967296) : ∀ i, i ≤ n → ∀ xs : List Int, xs.length = n →
    Ev (fun k => laws_markByteS.l0 k xs (a + i) (i : Int)) (a + n, xs.take i ++ (marks a n).drop i) := by
  refine up_ind n (fun i => ∀ xs : List Int, xs.length = n → Ev (fun k => laws_markByteS.l0 k xs (a + i) (i : Int)) (a + n, xs.take i ++ (marks a n).drop i)) ?_ ?_
  · intro xs hx
    refine ev_succ ?_
    have h1 : ¬ ((n : Int) < (xs.length : Int)) := by omega
    simp only [laws_markByteS.l0.eq_2, h1, if_false]
    rw [List.take_of_length_le (by omega), List.drop_eq_nil_of_le (by rw [marks_len]; omega), List.append_nil]
    exact ev_some _
  · intro i hi ih xs hx
    refine ev_succ ?_
    have h1 : (i : Int) < (xs.length : Int) := by omega
    have h2 : (0 : Int) ≤ (i : Int) := by omega
    have h3 : wrap64 (a + (i : Int) + 1) = a + ((i + 1 : Nat) : Int) := by rw [w64 (by omega) (by omega)]; omega
    simp only [laws_markByteS.l0.eq_2, h1, h2, h3, if_true, Int.toNat_natCast, wsucc (show i < 9223372036854775807 by omega)]
    have := ih (xs.set i ((a + (i : Int)) % 256)) (by simp [hx])
    rw [take_set_succ _ _ _ (by omega), List.append_assoc] at this
    rw [List.drop_eq_getElem_cons (by rw [marks_len]; exact hi), marks_get]
    exact this
theorem laws_markByteS_ev (l : List Int) (a : Int) (ha : 0 ≤ a ∧ a ≤ 4294967296) (h : l.length ≤ 4294967296) : Ev (fun k => laws_markByteS.f k l a) (a + l.length, marks a l.length) := by
  unfold laws_markByteS.f
  simpa using laws_markByteS_l0 l.length h a ha 0 (by omega) l rfl

theorem laws_heldByteS_l0 (n : Nat) (hn : n ≤ 4294967296) (a : Int) (ha : 0 ≤ a ∧ a ≤ 4294967296) : ∀ i, i ≤ n → Ev (fun k => laws_heldByteS.l0 k (marks a n) (a + i) (i : Int)) (a + n) := by
  refine up_ind n (fun i => Ev (fun k => laws_heldByteS.l0 k (marks a n) (a + i) (i : Int)) (a + n)) ?_ ?_
  · refine ev_succ ?_
    have h1 : ¬ ((n : Int) < ((marks a n).length : Int)) := by rw [marks_len]; omega
    simp only [laws_heldByteS.l0.eq_2, h1, if_false]
    exact ev_some _
  · intro i hi ih
    refine ev_succ ?_
    have h0 : i < (marks a n).length := by rw [marks_len]; exact hi
    have h1 : (i : Int) < ((marks a n).length : Int) := by omega
    have h2 : (0 : Int) ≤ (i : Int) := by omega
    have h3 : wrap64 (a + (i : Int) + 1) = a + ((i + 1 : Nat) : Int) := by rw [w64 (by omega) (by omega)]; omega
    simp only [laws_heldByteS.l0.eq_2, h1, h2, h3, if_true, rd_nat _ i h0, marks_get, wsucc (show i < 9223372036854775807 by omega)]
    exact ih
theorem laws_heldByteS_ev (n : Nat) (a : Int) (ha : 0 ≤ a ∧ a ≤ 4294967296) (h : n ≤ 4294967296) : Ev (fun k => laws_heldByteS.f k (marks a n) a) (a + n) := by
  unfold laws_heldByteS.f
  simpa using laws_heldByteS_l0 n h a ha 0 (by omega)

theorem spec_Flip_l0 (l : List Int) (hl : l.length ≤ 140737480000000) (hb : IsB l) (p : Int) : ∀ i : Nat, i ≤ l.length → ∀ xs : List Int, xs.length = l.length → xs.drop i = l.drop i →
    Ev (fun k => spec_Flip.l0 k p xs (i : Int)) (xs.take i ++ flipB (l.drop i) (p - i)) := by
  refine up_ind l.length (fun i : Nat => ∀ xs : List Int, xs.length = l.length → xs.drop i = l.drop i → Ev (fun k => spec_Flip.l0 k p xs (i : Int)) (xs.take i ++ flipB (l.drop i) (p - i))) ?_ ?_
  · intro xs hx _
    refine ev_succ ?_
    have h1 : ¬ ((l.length : Int) < (xs.length : Int)) := by omega
    simp only [spec_Flip.l0.eq_2, h1, if_false]
    rw [List.take_of_length_le (by omega), List.drop_eq_nil_of_le (by omega)]
    simp only [flipB, List.take_nil, List.drop_nil, List.map_nil, List.append_nil]
    exact ev_some _
  · intro i hi ih xs hx he
    refine ev_succ ?_
    have hxi : i < xs.length := by omega
    have h1 : (i : Int) < (xs.length : Int) := by omega
    have h2 : (0 : Int) ≤ (i : Int) := by omega
    have h3 : xs[i] = l[i] := by
      have := congrArg (fun l => l[0]?) he
      simp only [List.getElem?_drop, Nat.add_zero] at this
      rw [List.getElem?_eq_getElem hxi, List.getElem?_eq_getElem hi] at this
      exact Option.some.inj this
    have he' : xs.drop (i + 1) = l.drop (i + 1) := by
      have := congrArg (List.drop 1) he
      simpa [List.drop_drop, Nat.add_comm] using this
    obtain ⟨g0, g1⟩ := hb.get i hi
    by_cases hp : (i : Int) ≥ p
    · simp only [spec_Flip.l0.eq_2, h1, h2, hp, if_true, Int.toNat_natCast, rd_nat xs i hxi, h3, xor255 l[i] g0 g1, wsucc (show i < 9223372036854775807 by omega)]
      have := ih (xs.set i (255 - l[i])) (by simp [hx]) (by rw [List.drop_set_of_lt (by omega)]; exact he')
      rw [take_set_succ _ _ _ hxi, List.append_assoc] at this
      rw [List.drop_eq_getElem_cons hi]
      have e : flipB (l[i] :: l.drop (i + 1)) (p - (i : Int)) = (255 - l[i]) :: flipB (l.drop (i + 1)) (p - ((i + 1 : Nat) : Int)) := by
        unfold flipB
        rw [show (p - (i : Int)).toNat = 0 by omega, show (p - ((i + 1 : Nat) : Int)).toNat = 0 by omega]
        rfl
      rw [e]
      exact this
    · simp only [spec_Flip.l0.eq_2, h1, hp, if_true, if_false, wsucc (show i < 9223372036854775807 by omega)]
      have := ih xs hx he'
      have e1 : xs.take (i + 1) = xs.take i ++ [l[i]] := by rw [List.take_succ_eq_append_getElem hxi, h3]
      rw [e1, List.append_assoc] at this
      rw [List.drop_eq_getElem_cons hi]
      have e : flipB (l[i] :: l.drop (i + 1)) (p - (i : Int)) = l[i] :: flipB (l.drop (i + 1)) (p - ((i + 1 : Nat) : Int)) := by
        unfold flipB
        rw [show (p - (i : Int)).toNat = (p - ((i + 1 : Nat) : Int)).toNat + 1 by omega]
        rfl
      rw [e]
      exact this
theorem spec_Flip_ev (l : List Int) (p : Int) (hl : l.length ≤ 140737480000000) (hb : IsB l) : Ev (fun k => spec_Flip.f k l p) (flipB l p) := by
  unfold spec_Flip.f
  have h1 : ([] : List Int).length + l.length < 140737488355328 := by simp only [List.length_nil]; omega
  simp only [Option.bind_some, h1, if_true, List.nil_append]
  have := spec_Flip_l0 l hl hb p 0 (by omega) l rfl rfl
  simpa using this

theorem impl_copyBytes_eq (l : List Int) (h : l.length < 140737488355328) : impl_copyBytes.f l = some l := by
  unfold impl_copyBytes.f
  simp only [List.length_nil, Nat.zero_add, List.nil_append]
  rw [if_pos h]

theorem impl_Flip_l0 (l : List Int) (hl : l.length ≤ 140737480000000) (hb : IsB l) (p : Nat) : ∀ i : Nat, i ≤ l.length → p ≤ i → ∀ xs : List Int, xs.length = l.length → xs.drop i = l.drop i →
    Ev (fun k => impl_Flip.l0 k xs (i : Int)) (xs.take i ++ (l.drop i).map fun x => 255 - x) := by
  refine up_ind l.length (fun i : Nat => p ≤ i → ∀ xs : List Int, xs.length = l.length → xs.drop i = l.drop i → Ev (fun k => impl_Flip.l0 k xs (i : Int)) (xs.take i ++ (l.drop i).map fun x => 255 - x)) ?_ ?_
  · intro _ xs hx _
    refine ev_succ ?_
    have h1 : ¬ ((l.length : Int) < (xs.length : Int)) := by omega
    simp only [impl_Flip.l0.eq_2, h1, if_false]
    rw [List.take_of_length_le (by omega), List.drop_eq_nil_of_le (by omega), List.map_nil, List.append_nil]
    exact ev_some _
  · intro i hi ih hp xs hx he
    refine ev_succ ?_
    have hxi : i < xs.length := by omega
    have h1 : (i : Int) < (xs.length : Int) := by omega
    have h2 : (0 : Int) ≤ (i : Int) := by omega
    have h3 : xs[i] = l[i] := by
      have := congrArg (fun l => l[0]?) he
      simp only [List.getElem?_drop, Nat.add_zero] at this
      rw [List.getElem?_eq_getElem hxi, List.getElem?_eq_getElem hi] at this
      exact Option.some.inj this
    obtain ⟨g0, g1⟩ := hb.get i hi
    simp only [impl_Flip.l0.eq_2, h1, h2, if_true, Int.toNat_natCast, rd_nat xs i hxi, h3, xor255 l[i] g0 g1, wsucc (show i < 9223372036854775807 by omega)]
    have := ih (by omega) (xs.set i (255 - l[i])) (by simp [hx]) (by
      rw [List.drop_set_of_lt (by omega)]
      have := congrArg (List.drop 1) he
      simpa [List.drop_drop, Nat.add_comm] using this)
    rw [take_set_succ _ _ _ hxi, List.append_assoc] at this
    rw [List.drop_eq_getElem_cons hi]
    exact this
theorem impl_Flip_ev (l : List Int) (p : Int) (hl : l.length ≤ 140737480000000) (hb : IsB l) : Ev (fun k => impl_Flip.f k l p) (flipB l p) := by
  unfold impl_Flip.f
  simp only [impl_copyBytes_eq l (by omega), Option.bind_some]
  have e : mx p 0 = ((p.toNat : Nat) : Int) := by unfold mx; split <;> omega
  rw [e]
  by_cases hp : p.toNat ≤ l.length
  · exact impl_Flip_l0 l hl hb p.toNat p.toNat hp (Nat.le_refl _) l rfl rfl
  · refine ev_succ ?_
    have h1 : ¬ (((p.toNat : Nat) : Int) < (l.length : Int)) := by omega
    simp only [impl_Flip.l0.eq_2, h1, if_false]
    unfold flipB
    rw [List.take_of_length_le (by omega), List.drop_eq_nil_of_le (by omega), List.map_nil, List.append_nil]
    exact ev_some _

--import B
theorem FnExactFlip : laws_FnExactFlip.Pure := by
  intro l0 a1 hm0 hb0 hw0 hi
  refine Ev.rounds ?_
  unfold laws_FnExactFlip.f
  by_cases hn0 : (l0.length : Int) > 1048576
  · simp only [hn0, if_true]; exact ev_some _
  simp only [hn0, if_false]
  have hb := isB_wf hw0
  have hl : l0.length ≤ 1048576 := by omega
  have hR : (flipB l0 a1).length ≤ 4294967296 := by rw [flipB_len]; omega
  refine Ev.bind (laws_toByteS_ev l0 hl) ?_
  refine Ev.bind (spec_Flip_ev l0 a1 (by omega) hb) ?_
  refine Ev.bind (laws_toByteS_ev l0 hl) ?_
  refine Ev.bind (impl_Flip_ev l0 a1 (by omega) hb) ?_
  refine Ev.bind (laws_eqByteS_ev _ (by omega)) ?_
  simp only [if_true]
  refine Ev.bind (laws_toByteS_ev l0 hl) ?_
  refine Ev.bind (laws_eqByteS_ev _ (by omega)) ?_
  simp only [if_true]
  refine Ev.bind (laws_markByteS_ev l0 1 (by omega) (by omega)) ?_
  have m1 : ¬ ((1 : Int) + (l0.length : Int) < 0) := by omega
  simp only [m1, if_false]
  refine Ev.bind (laws_eqByteS_ev _ (by omega)) ?_
  refine ev_succ ?_
  simp only [laws_FnExactFlip.j0.eq_2, Bool.not_true, Bool.false_eq_true, if_false]
  refine Ev.bind (laws_markByteS_ev _ 1 (by omega) hR) ?_
  refine Ev.bind (laws_heldByteS_ev _ 1 (by omega) hR) ?_
  have m2 : ¬ ((1 : Int) + ((flipB l0 a1).length : Int) < 0) := by omega
  simp only [m2, if_false, if_true]
  refine Ev.bind (laws_toByteS_ev l0 hl) ?_
  refine Ev.bind (impl_Flip_ev l0 a1 (by omega) hb) ?_
  refine Ev.bind (laws_eqByteS_ev _ (by omega)) ?_
  simp only [if_true]
  refine Ev.bind (laws_heldByteS_ev _ 1 (by omega) hR) ?_
  simp only [m2, if_false, if_true]
  exact ev_some _

end Go.Proofs.Yteeokieokbibbaa.Pure

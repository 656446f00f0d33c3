/- GetText answers as the reference does, whatever the bytes and the place; the bytes stay as they are. No condition. -/
import Derived.Test.YteeokieokbibbaaPFnExactGetTextx2
import Derived.Test.YteeokieokbibbaaM
import Derived.Test.YteeokieokbibbaaB
namespace Go.Proofs.Yteeokieokbibbaa.Pure
open Go.RowKit Go.Proofs.Yteeokieokbibbaa.PFnExactGetText Go.Proofs.YteeokieokbibbaaW.PrintWords Go.Proofs.YteeokieokbibbaaW.PrintLast Go.Proofs.YteeokieokbibbaaW.PrintMore Go.Proofs.YteeokieokbibbaaM
set_option linter.unusedVariables false
set_option linter.unusedSimpArgs false

theorem laws_toByteS_l0 (l : List Int) (h : l.length ≤ 1048576) : ∀ i, i ≤ l.length → ∀ xs : List Int, xs.length = l.length →
    Ev (fun k => laws_toByteS.l0 k l xs (i : Int)) (xs.take i ++ l.drop i) := by
  refine up_ind l.length (fun i => ∀ xs : List Int, xs.length = l.length → Ev (fun k => laws_toByteS.l0 k l xs (i : Int)) (xs.take i ++ l.drop i)) ?_ ?_
  · intro xs hx
    refine ev_succ ?_
    have h1 : ¬ ((l.length : Int) < (l.length : Int)) := by omega
    simp only [laws_toByteS.l0.eq_2, h1, if_false]
    rw [List.take_of_length_le (by omega), List.drop_eq_nil_of_le (by omega)]
    simpa using ev_some xs
  · intro i hi ih xs hx
    refine ev_succ ?_
    have h1 : (i : Int) < (l.length : Int) := by omega
    have h2 : (0 : Int) ≤ (i : Int) := by omega
    have h3 : (i : Int) < (xs.length : Int) := by omega
    simp only [laws_toByteS.l0.eq_2, h1, h2, h3, if_true, rd_nat l i hi, Int.toNat_natCast, wsucc (show i < 9223372036854775807 by omega)]
    have := ih (xs.set i l[i]) (by simp [hx])
    rw [take_set_succ _ _ _ (by omega)] at this
    rw [List.drop_eq_getElem_cons hi]
    simpa using this
theorem laws_toByteS_ev (l : List Int) (h : l.length ≤ 1048576) : Ev (fun k => laws_toByteS.f k l) l := by
  unfold laws_toByteS.f
  have h1 : (0 : Int) ≤ (l.length : Int) := by omega
  have h2 : l.length ≤ 281474976710656 := by omega
  simp only [h1, h2, if_true, Int.toNat_natCast]
  simpa using laws_toByteS_l0 l h 0 (by omega) (List.replicate l.length 0) (by simp)

theorem laws_eqByteS_l0 (l : List Int) (h : l.length ≤ 9223372036854775807) : ∀ i, i ≤ l.length → Ev (fun k => laws_eqByteS.l0 k l l (i : Int)) true := by
  refine up_ind l.length (fun i => Ev (fun k => laws_eqByteS.l0 k l l (i : Int)) true) ?_ ?_
  · refine ev_succ ?_
    have h1 : ¬ ((l.length : Int) < (l.length : Int)) := by omega
    simp only [laws_eqByteS.l0.eq_2, h1, if_false]
    exact ev_some _
  · intro i hi ih
    refine ev_succ ?_
    have h1 : (i : Int) < (l.length : Int) := by omega
    have h2 : (0 : Int) ≤ (i : Int) := by omega
    simp only [laws_eqByteS.l0.eq_2, h1, h2, if_true, wsucc (show i < 9223372036854775807 by omega)]
    exact ih
theorem laws_eqByteS_ev (l : List Int) (h : l.length ≤ 9223372036854775807) : Ev (fun k => laws_eqByteS.f k l l) true := by
  unfold laws_eqByteS.f
  simp only [if_true]
  exact laws_eqByteS_l0 l h 0 (by omega)

theorem wrap_u64 {x : Int} (h0 : 0 ≤ x) (h1 : x < 18446744073709551616) : IntKind.u64.wrap x = x := by
  simp [IntKind.wrap, IntKind.bits, IntKind.signed]; omega
theorem or_grp (x n : Int) (j : Nat) (hj : j < 3) (h0 : 0 ≤ n) (h1 : n < 128 ^ j) (hx0 : 0 ≤ x) (hx1 : x ≤ 127) : bits .or .i64 n (x * 128 ^ j) = n + x * 128 ^ j := by
  have : j = 0 ∨ j = 1 ∨ j = 2 := by omega
  rw [or_comm']
  rcases this with rfl | rfl | rfl
  · rw [bits_join .i64 63 (by decide) wraps_i64 0 (x * 128 ^ 0) n (by simp only [Int.pow_zero]; omega) (by simp only [Int.pow_zero]; omega) (by simp only [Int.pow_zero]; omega) h0 (by simp only [Int.pow_zero] at *; omega) (by simp only [Int.pow_zero] at *; omega)]
    omega
  · rw [bits_join .i64 63 (by decide) wraps_i64 7 (x * 128 ^ 1) n (by omega) (by omega) (by omega) h0 (by omega) (by omega)]
    omega
  · rw [bits_join .i64 63 (by decide) wraps_i64 14 (x * 128 ^ 2) n (by omega) (by omega) (by omega) h0 (by omega) (by omega)]
    omega
theorem spec_GetU_l0 (l : List Int) (hl : l.length ≤ 140737488355328) (hb : IsB l) (p : Nat) : ∀ j : Nat, j ≤ 3 → ∀ n : Int, 0 ≤ n → n < 128 ^ j →
    Ev (fun k => spec_GetU.l0 k l (p : Int) n (j : Int)) (getUR (p : Int) (getUB (3 - j) j n (l.drop (p + j)))) := by
  refine up_ind 3 (fun j : Nat => ∀ n : Int, 0 ≤ n → n < 128 ^ j → Ev (fun k => spec_GetU.l0 k l (p : Int) n (j : Int)) (getUR (p : Int) (getUB (3 - j) j n (l.drop (p + j))))) ?_ ?_
  · intro n h0 h1
    refine ev_succ (ev_succ ?_)
    simp only [spec_GetU.l0.eq_2, spec_GetU.j1.eq_2, show ¬ (((3 : Nat) : Int) < 3) by decide, if_false, Bool.false_eq_true]
    exact ev_some _
  · intro j hj ih n h0 h1
    have e3 : 3 - j = (3 - (j + 1)) + 1 := by omega
    refine ev_succ (ev_succ ?_)
    have a1 : (j : Int) < 3 := by omega
    have a2 : (p : Int) ≥ 0 := by omega
    simp only [spec_GetU.l0.eq_2, spec_GetU.j1.eq_2, a1, a2, if_true]
    by_cases hp : p + j < l.length
    · have b1 : (p : Int) < (l.length : Int) := by omega
      have b11 : wrap64 (((p + j : Nat) : Int) + 1) = (p : Int) + ((j + 1 : Nat) : Int) := by rw [w64 (by omega) (by omega)]; omega
      have b10 : wrap64 ((j : Int) + 1) = ((j + 1 : Nat) : Int) := wsucc (by omega)
      have b2 : wrap64 ((p : Int) + (j : Int)) = ((p + j : Nat) : Int) := by rw [w64 (by omega) (by omega)]; omega
      have b3 : (0 : Int) ≤ ((p + j : Nat) : Int) := by omega
      have b4 : ((p + j : Nat) : Int) < (l.length : Int) := by omega
      have b5 : IntKind.u64.wrap (wrap64 (7 * (j : Int))) = 7 * (j : Int) := by rw [w64 (by omega) (by omega), wrap_u64 (by omega) (by omega)]
      have b6 : (0 : Int) ≤ 7 * (j : Int) := by omega
      obtain ⟨x0, x1⟩ := hb.get (p + j) hp
      have b7 : wrap64 l[p + j] = l[p + j] := w64 (by omega) (by omega)
      have G := Aside0.mk (grp_bounds l[p + j] n j hj h0 h1 x0 x1)
      have b12 := shl7 (l[p + j] % 128) j hj (by omega) (by omega)
      have b9 := or_grp (l[p + j] % 128) n j hj h0 h1 (by omega) (by omega)
      have b8 : bits .and .i64 l[p + j] 127 = l[p + j] % 128 := i64_and127 _
      simp only [b1, decide_true, b2, b3, b4, b5, b6, if_true, rd_nat l (p + j) hp, b7, b8, b12, b9, b10, b11]
      rw [List.drop_eq_getElem_cons hp, e3, getUB_cons]
      by_cases hx : l[p + j] ≥ 128
      · have hx' : l[p + j] > 127 := by omega
        simp only [hx, hx', if_true]
        have := ih (n + l[p + j] % 128 * 128 ^ j) (by have := G.out.1; omega) G.out.2.1
        rw [show p + (j + 1) = p + j + 1 by omega] at this
        exact this
      · have hx' : ¬ (l[p + j] > 127) := by omega
        simp only [hx, hx', if_false]
        by_cases hj0 : 0 < j
        · have c1 : (j : Int) > 0 := Int.ofNat_lt.2 hj0
          simp only [c1, if_true, hj0, and_true]
          by_cases hz : l[p + j] = 0
          · simp only [hz, if_true, true_or]
            exact ev_some _
          · simp only [hz, if_false, false_or]
            by_cases hm : n + l[p + j] % 128 * 128 ^ j > 1000000
            · simp only [hm, if_true]; exact ev_some _
            · simp only [hm, if_false]; exact ev_some _
        · have c1 : ¬ ((j : Int) > 0) := fun h => hj0 (Int.ofNat_lt.1 h)
          simp only [c1, if_false, hj0, and_false, false_or]
          by_cases hm : n + l[p + j] % 128 * 128 ^ j > 1000000
          · simp only [hm, if_true]; exact ev_some _
          · simp only [hm, if_false]; exact ev_some _
    · rw [List.drop_eq_nil_of_le (by omega), e3]
      by_cases hpl : p < l.length
      · have b1 : (p : Int) < (l.length : Int) := by omega
        have b2 : wrap64 ((p : Int) + (j : Int)) = ((p + j : Nat) : Int) := by rw [w64 (by omega) (by omega)]; omega
        have b4 : ¬ (((p + j : Nat) : Int) < (l.length : Int)) := by omega
        simp only [b1, b2, b4, decide_false, Bool.false_eq_true, if_true, if_false]
        exact ev_some _
      · have b1 : ¬ ((p : Int) < (l.length : Int)) := by omega
        simp only [b1, Bool.false_eq_true, if_false]
        exact ev_some _
theorem spec_GetU_ev (l : List Int) (hl : l.length ≤ 140737488355328) (hb : IsB l) (p : Int) : Ev (fun k => spec_GetU.f k l p) (getU l p) := by
  unfold spec_GetU.f getU
  by_cases hp : 0 ≤ p
  · obtain ⟨q, rfl⟩ := Int.eq_ofNat_of_zero_le hp
    rw [if_pos hp]
    have := spec_GetU_l0 l hl hb q 0 (by omega) 0 (by omega) (by decide)
    simpa using this
  · rw [if_neg hp]
    refine ev_succ (ev_succ ?_)
    have a2 : ¬ (p ≥ 0) := by omega
    simp only [spec_GetU.l0.eq_2, spec_GetU.j1.eq_2, show (0 : Int) < 3 by decide, a2, if_true, if_false, Bool.false_eq_true]
    exact ev_some _

theorem spec_GetText_ev (l : List Int) (hl : l.length ≤ 140737488355328) (hb : IsB l) (p : Int) : Ev (fun k => spec_GetText.f k l p) (getText l p) := by
  unfold spec_GetText.f
  refine Ev.bind (spec_GetU_ev l hl hb p) ?_
  have hB : (getU l p).2.2 = true → 0 ≤ (getU l p).1 ∧ (getU l p).1 ≤ 1000000 ∧ 0 ≤ (getU l p).2.1 ∧ (getU l p).2.1 ≤ l.length := by
    intro h
    by_cases hp : 0 ≤ p
    · obtain ⟨g0, g1, g2, g3⟩ := getU_bounds l p hb hp
      exact ⟨g0, g1, g2, g3 h⟩
    · unfold getU at h; rw [if_neg hp] at h; cases h
  unfold getText
  generalize getU l p = g at hB
  obtain ⟨n, q, ok⟩ := g
  cases ok with
  | false => simp only [getTextR, Bool.false_eq_true, if_false]; exact ev_some _
  | true =>
    obtain ⟨g0, g1, g2, g4⟩ := hB rfl
    simp only at g0 g1 g2 g4
    have a1 : wrap64 ((l.length : Int) - q) = (l.length : Int) - q := w64 (by omega) (by omega)
    have a2 : wrap64 (q + n) = q + n := w64 (by omega) (by omega)
    simp only [getTextR, if_true, a1, a2]
    by_cases hn : n > (l.length : Int) - q
    · simp only [hn, if_true]; exact ev_some _
    · have a3 : q ≤ q + n := by omega
      have a4 : q + n ≤ (l.length : Int) := by omega
      simp only [hn, if_false, g2, a3, a4, if_true]; exact ev_some _

theorem impl_GetU_l0 (l : List Int) (hl : l.length ≤ 140737488355328) (hb : IsB l) (p : Nat) : ∀ j : Nat, j ≤ 3 → ∀ n : Int, 0 ≤ n → n < 128 ^ j →
    Ev (fun k => impl_GetU.l0 k l (p : Int) n (j : Int)) (getUR (p : Int) (getUB (3 - j) j n (l.drop (p + j)))) := by
  refine up_ind 3 (fun j : Nat => ∀ n : Int, 0 ≤ n → n < 128 ^ j → Ev (fun k => impl_GetU.l0 k l (p : Int) n (j : Int)) (getUR (p : Int) (getUB (3 - j) j n (l.drop (p + j))))) ?_ ?_
  · intro n h0 h1
    refine ev_succ (ev_succ ?_)
    simp only [impl_GetU.l0.eq_2, impl_GetU.j1.eq_2, show ¬ (((3 : Nat) : Int) < 3) by decide, if_false, Bool.false_eq_true]
    exact ev_some _
  · intro j hj ih n h0 h1
    have e3 : 3 - j = (3 - (j + 1)) + 1 := by omega
    refine ev_succ (ev_succ ?_)
    have a1 : (j : Int) < 3 := by omega
    have a2 : (p : Int) ≥ 0 := by omega
    have a3 : wrap64 ((l.length : Int) - (j : Int)) = (l.length : Int) - (j : Int) := w64 (by omega) (by omega)
    simp only [impl_GetU.l0.eq_2, impl_GetU.j1.eq_2, a1, a2, a3, if_true]
    clear a3
    by_cases hp : p + j < l.length
    · have b1 : (p : Int) < (l.length : Int) - (j : Int) := by omega
      have b11 : wrap64 (((p + j : Nat) : Int) + 1) = (p : Int) + ((j + 1 : Nat) : Int) := by rw [w64 (by omega) (by omega)]; omega
      have b10 : wrap64 ((j : Int) + 1) = ((j + 1 : Nat) : Int) := wsucc (by omega)
      have b2 : wrap64 ((p : Int) + (j : Int)) = ((p + j : Nat) : Int) := by rw [w64 (by omega) (by omega)]; omega
      have b3 : (0 : Int) ≤ ((p + j : Nat) : Int) := by omega
      have b4 : ((p + j : Nat) : Int) < (l.length : Int) := by omega
      have b5 : wrap64 (7 * (j : Int)) = 7 * (j : Int) := w64 (by omega) (by omega)
      have b6 : (0 : Int) ≤ 7 * (j : Int) := by omega
      obtain ⟨x0, x1⟩ := hb.get (p + j) hp
      have b7 : wrap64 l[p + j] = l[p + j] := w64 (by omega) (by omega)
      have G := Aside0.mk (grp_bounds l[p + j] n j hj h0 h1 x0 x1)
      have b12 := shl7 (l[p + j] % 128) j hj (by omega) (by omega)
      have b9 := grp_w l[p + j] n j hj h0 h1 x0 x1
      have b8 : Int.tmod l[p + j] 128 = l[p + j] % 128 := Int.tmod_eq_emod_of_nonneg x0
      simp only [b1, decide_true, b2, b3, b4, b5, b6, if_true, rd_nat l (p + j) hp, b7, b8, b12, b9, b10, b11]
      rw [List.drop_eq_getElem_cons hp, e3, getUB_cons]
      by_cases hx : l[p + j] ≥ 128
      · simp only [hx, if_true]
        have := ih (n + l[p + j] % 128 * 128 ^ j) (by have := G.out.1; omega) G.out.2.1
        rw [show p + (j + 1) = p + j + 1 by omega] at this
        exact this
      · simp only [hx, if_false]
        by_cases hz : l[p + j] = 0
        · by_cases hj0 : 0 < j
          · have c1 : (j : Int) > 0 := Int.ofNat_lt.2 hj0
            simp only [hz, c1, if_true, hj0, and_self, true_or]
            exact ev_some _
          · have c1 : ¬ ((j : Int) > 0) := fun h => hj0 (Int.ofNat_lt.1 h)
            simp only [hz, c1, if_true, if_false, hj0, and_false, false_or]
            by_cases hm : n + 0 % 128 * 128 ^ j > 1000000
            · simp only [hm, if_true]; exact ev_some _
            · simp only [hm, if_false]; exact ev_some _
        · simp only [hz, if_false, false_and, false_or]
          by_cases hm : n + l[p + j] % 128 * 128 ^ j > 1000000
          · simp only [hm, if_true]; exact ev_some _
          · simp only [hm, if_false]; exact ev_some _
    · have b1 : ¬ ((p : Int) < (l.length : Int) - (j : Int)) := by omega
      simp only [b1, decide_false, Bool.false_eq_true, if_false]
      rw [List.drop_eq_nil_of_le (by omega), e3]
      exact ev_some _
theorem impl_GetU_ev (l : List Int) (hl : l.length ≤ 140737488355328) (hb : IsB l) (p : Int) : Ev (fun k => impl_GetU.f k l p) (getU l p) := by
  unfold impl_GetU.f getU
  by_cases hp : 0 ≤ p
  · obtain ⟨q, rfl⟩ := Int.eq_ofNat_of_zero_le hp
    rw [if_pos hp]
    have := impl_GetU_l0 l hl hb q 0 (by omega) 0 (by omega) (by decide)
    simpa using this
  · rw [if_neg hp]
    refine ev_succ (ev_succ ?_)
    have a2 : ¬ (p ≥ 0) := by omega
    simp only [impl_GetU.l0.eq_2, impl_GetU.j1.eq_2, show (0 : Int) < 3 by decide, a2, if_true, if_false, Bool.false_eq_true]
    exact ev_some _

theorem impl_GetText_ev (l : List Int) (hl : l.length ≤ 140737488355328) (hb : IsB l) (p : Int) : Ev (fun k => impl_GetText.f k l p) (getText l p) := by
  unfold impl_GetText.f
  refine Ev.bind (impl_GetU_ev l hl hb p) ?_
  have hB : (getU l p).2.2 = true → 0 ≤ (getU l p).1 ∧ (getU l p).1 ≤ 1000000 ∧ 0 ≤ (getU l p).2.1 ∧ (getU l p).2.1 ≤ l.length := by
    intro h
    by_cases hp : 0 ≤ p
    · obtain ⟨g0, g1, g2, g3⟩ := getU_bounds l p hb hp
      exact ⟨g0, g1, g2, g3 h⟩
    · unfold getU at h; rw [if_neg hp] at h; cases h
  unfold getText
  generalize getU l p = g at hB
  obtain ⟨n, q, ok⟩ := g
  cases ok with
  | false => simp only [getTextR, Bool.false_eq_true, if_false]; exact ev_some _
  | true =>
    obtain ⟨g0, g1, g2, g4⟩ := hB rfl
    simp only at g0 g1 g2 g4
    have a1 : wrap64 ((l.length : Int) - q) = (l.length : Int) - q := w64 (by omega) (by omega)
    have a2 : wrap64 (q + n) = q + n := w64 (by omega) (by omega)
    simp only [getTextR, if_true, a1, a2]
    by_cases hn : n > (l.length : Int) - q
    · simp only [hn, if_true]; exact ev_some _
    · have a3 : q ≤ q + n := by omega
      have a4 : q + n ≤ (l.length : Int) := by omega
      simp only [hn, if_false, g2, a3, a4, if_true]; exact ev_some _

--import B
theorem FnExactGetText : laws_FnExactGetText.Pure := by
  intro l0 a1 hm0 hb0 hw0 hi
  refine Ev.rounds ?_
  unfold laws_FnExactGetText.f
  by_cases hn0 : (l0.length : Int) > 1048576
  · simp only [hn0, if_true]; exact ev_some _
  simp only [hn0, if_false]
  have hb := isB_wf hw0
  have hl : l0.length ≤ 1048576 := by omega
  refine Ev.bind (laws_toByteS_ev l0 hl) ?_
  refine Ev.bind (spec_GetText_ev l0 (by omega) hb a1) ?_
  refine Ev.bind (laws_toByteS_ev l0 hl) ?_
  refine Ev.bind (impl_GetText_ev l0 (by omega) hb a1) ?_
  simp only [if_true, bne_self_eq_false]
  refine ev_succ ?_
  simp only [laws_FnExactGetText.j0.eq_2, Bool.false_eq_true, if_false]
  refine Ev.bind (laws_toByteS_ev l0 hl) ?_
  refine Ev.bind (laws_eqByteS_ev _ (by omega)) ?_
  simp only [if_true]
  exact ev_some _

end Go.Proofs.Yteeokieokbibbaa.Pure

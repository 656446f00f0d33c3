/- A number, or the nearest that is kept, comes back of its bytes, and not of all but the last; a text does, too. No condition. -/
import Derived.Test.YteeokieokbibbaaPFnNumsx3
import Derived.Test.YteeokieokbibbaaM
import Derived.Test.YteeokieokbibbaaB
import Derived.Test.YteeokieokbibbaaO
namespace Go.Proofs.Yteeokieokbibbaa.Pure
open Go.RowKit Go.Proofs.Yteeokieokbibbaa.PFnNums Go.Proofs.YteeokieokbibbaaW.PrintWords Go.Proofs.YteeokieokbibbaaW.PrintLast Go.Proofs.YteeokieokbibbaaW.PrintMore Go.Proofs.YteeokieokbibbaaM
set_option linter.unusedVariables false
set_option linter.unusedSimpArgs false

theorem impl_GetU_l0 (l : List Int) (hl : l.length ≤ 140737488355328) (hb : IsB l) (p : Nat) : ∀ j : Nat, j ≤ 3 → ∀ n : Int, 0 ≤ n → n < 128 ^ j →
    Ev (fun k => impl_GetU.l0 k l (p : Int) n (j : Int)) (getUR (p : Int) (getUB (3 - j) j n (l.drop (p + j)))) := by
  refine up_ind 3 (fun j : Nat => ∀ n : Int, 0 ≤ n → n < 128 ^ j → Ev (fun k => impl_GetU.l0 k l (p : Int) n (j : Int)) (getUR (p : Int) (getUB (3 - j) j n (l.drop (p + j))))) ?_ ?_
  · intro n h0 h1
    refine ev_succ (ev_succ ?_)
    simp only [impl_GetU.l0.eq_2, impl_GetU.j1.eq_2, show ¬ (((3 : Nat) : Int) < 3) by decide, if_false, Bool.false_eq_true]
    exact ev_some _
  · intro j hj ih n h0 h1
    have e3 : 3 - j = (3 - (j + 1)) + 1 := by omega
    refine ev_succ (ev_succ ?_)
    have a1 : (j : Int) < 3 := by omega
    have a2 : (p : Int) ≥ 0 := by omega
    have a3 : wrap64 ((l.length : Int) - (j : Int)) = (l.length : Int) - (j : Int) := w64 (by omega) (by omega)
    simp only [impl_GetU.l0.eq_2, impl_GetU.j1.eq_2, a1, a2, a3, if_true]
    clear a3
    by_cases hp : p + j < l.length
    · have b1 : (p : Int) < (l.length : Int) - (j : Int) := by omega
      have b11 : wrap64 (((p + j : Nat) : Int) + 1) = (p : Int) + ((j + 1 : Nat) : Int) := by rw [w64 (by omega) (by omega)]; omega
      have b10 : wrap64 ((j : Int) + 1) = ((j + 1 : Nat) : Int) := wsucc (by omega)
      have b2 : wrap64 ((p : Int) + (j : Int)) = ((p + j : Nat) : Int) := by rw [w64 (by omega) (by omega)]; omega
      have b3 : (0 : Int) ≤ ((p + j : Nat) : Int) := by omega
      have b4 : ((p + j : Nat) : Int) < (l.length : Int) := by omega
      have b5 : wrap64 (7 * (j : Int)) = 7 * (j : Int) := w64 (by omega) (by omega)
      have b6 : (0 : Int) ≤ 7 * (j : Int) := by omega
      obtain ⟨x0, x1⟩ := hb.get (p + j) hp
      have b7 : wrap64 l[p + j] = l[p + j] := w64 (by omega) (by omega)
      have G := Aside0.mk (grp_bounds l[p + j] n j hj h0 h1 x0 x1)
      have b12 := shl7 (l[p + j] % 128) j hj (by omega) (by omega)
      have b9 := grp_w l[p + j] n j hj h0 h1 x0 x1
      have b8 : Int.tmod l[p + j] 128 = l[p + j] % 128 := Int.tmod_eq_emod_of_nonneg x0
      simp only [b1, decide_true, b2, b3, b4, b5, b6, if_true, rd_nat l (p + j) hp, b7, b8, b12, b9, b10, b11]
      rw [List.drop_eq_getElem_cons hp, e3, getUB_cons]
      by_cases hx : l[p + j] ≥ 128
      · simp only [hx, if_true]
        have := ih (n + l[p + j] % 128 * 128 ^ j) (by have := G.out.1; omega) G.out.2.1
        rw [show p + (j + 1) = p + j + 1 by omega] at this
        exact this
      · simp only [hx, if_false]
        by_cases hz : l[p + j] = 0
        · by_cases hj0 : 0 < j
          · have c1 : (j : Int) > 0 := Int.ofNat_lt.2 hj0
            simp only [hz, c1, if_true, hj0, and_self, true_or]
            exact ev_some _
          · have c1 : ¬ ((j : Int) > 0) := fun h => hj0 (Int.ofNat_lt.1 h)
            simp only [hz, c1, if_true, if_false, hj0, and_false, false_or]
            by_cases hm : n + 0 % 128 * 128 ^ j > 1000000
            · simp only [hm, if_true]; exact ev_some _
            · simp only [hm, if_false]; exact ev_some _
        · simp only [hz, if_false, false_and, false_or]
          by_cases hm : n + l[p + j] % 128 * 128 ^ j > 1000000
          · simp only [hm, if_true]; exact ev_some _
          · simp only [hm, if_false]; exact ev_some _
    · have b1 : ¬ ((p : Int) < (l.length : Int) - (j : Int)) := by omega
      simp only [b1, decide_false, Bool.false_eq_true, if_false]
      rw [List.drop_eq_nil_of_le (by omega), e3]
      exact ev_some _
theorem impl_GetU_ev (l : List Int) (hl : l.length ≤ 140737488355328) (hb : IsB l) (p : Int) : Ev (fun k => impl_GetU.f k l p) (getU l p) := by
  unfold impl_GetU.f getU
  by_cases hp : 0 ≤ p
  · obtain ⟨q, rfl⟩ := Int.eq_ofNat_of_zero_le hp
    rw [if_pos hp]
    have := impl_GetU_l0 l hl hb q 0 (by omega) 0 (by omega) (by decide)
    simpa using this
  · rw [if_neg hp]
    refine ev_succ (ev_succ ?_)
    have a2 : ¬ (p ≥ 0) := by omega
    simp only [impl_GetU.l0.eq_2, impl_GetU.j1.eq_2, show (0 : Int) < 3 by decide, a2, if_true, if_false, Bool.false_eq_true]
    exact ev_some _

theorem impl_clamp_eq (n lo hi : Int) : impl_clamp.f n lo hi = some (clampN n lo hi) := rfl

theorem impl_addU_l0 (x : Nat) : ∀ l : List Int, l.length + x < 140737488355328 → Ev (fun k => impl_addU.l0 k l (x : Int)) (l ++ putU x) := by
  induction x using Nat.strongRecOn with
  | _ x ih =>
    intro l hl
    refine ev_succ ?_
    have h2 : l.length < 140737488355328 := by omega
    by_cases h : x ≤ 127
    · have h1 : ¬ ((x : Int) > 127) := by omega
      have e : (x : Int) % 256 = (x : Int) := by omega
      simp only [impl_addU.l0.eq_2, h1, h2, if_true, if_false, e, putU_small h]
      exact ev_some _
    · have h1 : (x : Int) > 127 := by omega
      have e1 : (wrap64 (Int.tmod (x : Int) 128 + 128)) % 256 = ((x % 128 + 128 : Nat) : Int) := by
        rw [Int.tmod_eq_emod_of_nonneg (by omega), w64 (by omega) (by omega)]; omega
      have e2 : wrap64 (Int.tdiv (x : Int) 128) = ((x / 128 : Nat) : Int) := by
        rw [Int.tdiv_eq_ediv_of_nonneg (by omega), w64 (by omega) (by omega)]; omega
      simp only [impl_addU.l0.eq_2, h1, h2, if_true, e1, e2, putU_big h]
      have := ih (x / 128) (by omega) (l ++ [((x % 128 + 128 : Nat) : Int)]) (by simp only [List.length_append, List.length_cons, List.length_nil]; omega)
      rw [List.append_assoc] at this
      exact this
theorem impl_addU_ev (l : List Int) (n : Int) (h : l.length ≤ 140737480000000) : Ev (fun k => impl_addU.f k l n) (l ++ putU (clampU n)) := by
  unfold impl_addU.f
  simp only [impl_clamp_eq, Option.bind_some, ← clampU_cast]
  exact impl_addU_l0 _ _ (by have := clampU_le n; omega)

theorem impl_copyBytes_eq (l : List Int) (h : l.length < 140737488355328) : impl_copyBytes.f l = some l := by
  unfold impl_copyBytes.f
  simp only [List.length_nil, Nat.zero_add, List.nil_append]
  rw [if_pos h]

theorem impl_PutU_ev (l : List Int) (n : Int) (h : l.length ≤ 140737480000000) : Ev (fun k => impl_PutU.f k l n) (l ++ putU (clampU n)) := by
  unfold impl_PutU.f
  simp only [impl_copyBytes_eq l (by omega), Option.bind_some]
  exact Ev.bind (impl_addU_ev l n h) (ev_some _)

theorem impl_addText_ev (l : List Int) (s : ByteArray) (h : l.length ≤ 140737470000000) (hs : s.size ≤ 1048576) : Ev (fun k => impl_addText.f k l s) (l ++ putU (clampU (s.size : Int)) ++ bytesOf s) := by
  unfold impl_addText.f
  refine Ev.bind (impl_addU_ev l (s.size : Int) (by omega)) ?_
  have h2 := putU_len (clampU (s.size : Int))
  have h3 := clampU_le (s.size : Int)
  have h1 : (l ++ putU (clampU (s.size : Int))).length + s.size < 140737488355328 := by simp only [List.length_append]; omega
  simp only [h1, if_true]
  exact ev_some _

theorem impl_PutText_ev (l : List Int) (s : ByteArray) (h : l.length ≤ 140737470000000) (hs : s.size ≤ 1048576) : Ev (fun k => impl_PutText.f k l s) (l ++ putU (clampU (s.size : Int)) ++ bytesOf s) := by
  unfold impl_PutText.f
  simp only [impl_copyBytes_eq l (by omega), Option.bind_some]
  exact Ev.bind (impl_addText_ev l s h hs) (ev_some _)

theorem impl_GetText_ev (l : List Int) (hl : l.length ≤ 140737488355328) (hb : IsB l) (p : Int) : Ev (fun k => impl_GetText.f k l p) (getText l p) := by
  unfold impl_GetText.f
  refine Ev.bind (impl_GetU_ev l hl hb p) ?_
  have hB : (getU l p).2.2 = true → 0 ≤ (getU l p).1 ∧ (getU l p).1 ≤ 1000000 ∧ 0 ≤ (getU l p).2.1 ∧ (getU l p).2.1 ≤ l.length := by
    intro h
    by_cases hp : 0 ≤ p
    · obtain ⟨g0, g1, g2, g3⟩ := getU_bounds l p hb hp
      exact ⟨g0, g1, g2, g3 h⟩
    · unfold getU at h; rw [if_neg hp] at h; cases h
  unfold getText
  generalize getU l p = g at hB
  obtain ⟨n, q, ok⟩ := g
  cases ok with
  | false => simp only [getTextR, Bool.false_eq_true, if_false]; exact ev_some _
  | true =>
    obtain ⟨g0, g1, g2, g4⟩ := hB rfl
    simp only at g0 g1 g2 g4
    have a1 : wrap64 ((l.length : Int) - q) = (l.length : Int) - q := w64 (by omega) (by omega)
    have a2 : wrap64 (q + n) = q + n := w64 (by omega) (by omega)
    simp only [getTextR, if_true, a1, a2]
    by_cases hn : n > (l.length : Int) - q
    · simp only [hn, if_true]; exact ev_some _
    · have a3 : q ≤ q + n := by omega
      have a4 : q + n ≤ (l.length : Int) := by omega
      simp only [hn, if_false, g2, a3, a4, if_true]; exact ev_some _

theorem laws_big_eq (l : List Int) : laws_big.f l = some (decide ((l.length : Int) > 1048576)) := rfl

theorem spec_l1New_l0 (l : List Int) (hl : l.length ≤ 1048576) : ∀ i : Nat, i ≤ l.length → ∀ h : Int, ∃ r : Int, Ev (fun k => spec_l1New.l0 k l h (i : Int)) (l, 0, r) := by
  refine up_ind l.length (fun i : Nat => ∀ h : Int, ∃ r : Int, Ev (fun k => spec_l1New.l0 k l h (i : Int)) (l, 0, r)) ?_ ?_
  · intro h
    refine ⟨h, ev_succ ?_⟩
    have h1 : ¬ ((l.length : Int) < (l.length : Int)) := by omega
    simp only [spec_l1New.l0.eq_2, h1, if_false]
    exact ev_some _
  · intro i hi ih h
    have h1 : (i : Int) < (l.length : Int) := by omega
    have h2 : (0 : Int) ≤ (i : Int) := by omega
    by_cases h4 : (i : Int) < 4000
    · obtain ⟨r, hr⟩ := ih (Go.bits .and .i64 (wrap64 ((wrap64 ((wrap64 (h * 137)) + (wrap64 (rd l (i : Int))))) + 11)) 1073741823)
      refine ⟨r, ev_succ ?_⟩
      simp only [spec_l1New.l0.eq_2, h1, h2, h4, if_true, wsucc (show i < 9223372036854775807 by omega)]
      exact hr
    · refine ⟨h, ev_succ ?_⟩
      simp only [spec_l1New.l0.eq_2, h1, h4, if_true, if_false]
      exact ev_some _
theorem spec_l1New_ev (l : List Int) (hl : l.length ≤ 1048576) : ∃ r : Int, Ev (fun k => spec_l1New.f k l) (l, 0, r) := by
  unfold spec_l1New.f
  exact spec_l1New_l0 l hl 0 (by omega) _
/-- Where a reader of draws stands. -/
def Cur (l : List Int) (i : Int) : Prop := 0 ≤ i ∧ i ≤ l.length
theorem Cur.start (l : List Int) : Cur l 0 := ⟨by omega, by omega⟩

theorem spec_l1Byte_ok (l : List Int) (hl : l.length ≤ 1048576) (i h : Int) (hc : Cur l i) : ∃ x i' h' : Int, spec_l1Byte.f l i h = some (x, i', h') ∧ 0 ≤ x ∧ x ≤ 255 ∧ Cur l i' := by
  unfold spec_l1Byte.f
  obtain ⟨c0, c1⟩ := hc
  by_cases h1 : i < (l.length : Int)
  · rw [if_pos h1, if_pos c0, w64 (x := i + 1) (by omega) (by omega)]
    refine ⟨_, _, _, rfl, ?_, ?_, ?_, ?_⟩
    · rw [and255]; omega
    · rw [and255]; omega
    · omega
    · omega
  · rw [if_neg h1]
    refine ⟨_, _, _, rfl, ?_, ?_, ?_, ?_⟩
    · rw [and255]; omega
    · rw [and255]; omega
    · omega
    · omega

theorem spec_l1Below_ok (l : List Int) (hl : l.length ≤ 1048576) (i h : Int) (hc : Cur l i) (n : Int) : ∃ x i' h' : Int, spec_l1Below.f l i h n = some (x, i', h') ∧ 0 ≤ x ∧ (0 < n → x < n) ∧ (n ≤ 0 → x = 0) ∧ Cur l i' := by
  unfold spec_l1Below.f
  by_cases h0 : n ≤ 0
  · rw [if_pos h0]
    exact ⟨0, i, h, rfl, by omega, by omega, fun _ => rfl, hc⟩
  · rw [if_neg h0]
    have hn : ¬ (n = 0) := by omega
    obtain ⟨x, i1, h1, e1, x0, x1, c1⟩ := spec_l1Byte_ok l hl i h hc
    by_cases h256 : n ≤ 256
    · rw [if_pos h256, e1]
      simp only [Option.bind_some, hn, if_false]
      refine ⟨_, _, _, rfl, ?_, ?_, by omega, c1⟩
      · exact Int.tmod_nonneg _ x0
      · intro hp; exact Int.tmod_lt_of_pos _ hp
    · obtain ⟨y, i2, h2, e2, y0, y1, c2⟩ := spec_l1Byte_ok l hl i1 h1 c1
      obtain ⟨z, i3, h3, e3, z0, z1, c3⟩ := spec_l1Byte_ok l hl i2 h2 c2
      rw [if_neg h256, e1]
      simp only [Option.bind_some, e2, e3, hn, if_false]
      have w1 : wrap64 (x * 65536) = x * 65536 := w64 (by omega) (by omega)
      have w2 : wrap64 (y * 256) = y * 256 := w64 (by omega) (by omega)
      rw [w1, w2]
      clear w1 w2
      have w3 : wrap64 (x * 65536 + y * 256) = x * 65536 + y * 256 := w64 (by omega) (by omega)
      rw [w3]
      clear w3
      have w4 : wrap64 (x * 65536 + y * 256 + z) = x * 65536 + y * 256 + z := w64 (by omega) (by omega)
      rw [w4]
      clear w4
      refine ⟨_, _, _, rfl, ?_, ?_, by omega, c3⟩
      · exact Int.tmod_nonneg _ (by omega)
      · intro hp; exact Int.tmod_lt_of_pos _ hp

theorem spec_l1Int_ok (l : List Int) (hl : l.length ≤ 1048576) (i h : Int) (hc : Cur l i) (xs : List Int) (hx : 0 < xs.length) : ∃ x i' h' : Int, spec_l1Int.f l i h xs = some (x, i', h') ∧ x ∈ xs ∧ Cur l i' := by
  unfold spec_l1Int.f
  obtain ⟨x, i1, h1, e1, x0, x1, _, c1⟩ := spec_l1Below_ok l hl i h hc (xs.length : Int)
  have hlt := x1 (by omega)
  rw [e1]
  simp only [Option.bind_some, x0, hlt, if_true]
  obtain ⟨j, rfl⟩ := Int.eq_ofNat_of_zero_le x0
  have hj : j < xs.length := by omega
  exact ⟨_, _, _, rfl, by rw [rd_nat xs j hj]; exact List.getElem_mem hj, c1⟩

theorem spec_l1Bytes_l0 (l : List Int) (hl : l.length ≤ 1048576) (n : Nat) (hn : n ≤ 1048576) : ∀ j : Nat, j ≤ n → ∀ (o : List Int) (i h : Int), o.length = j → IsB o → Cur l i →
    ∃ (o' : List Int) (i' h' : Int), Ev (fun k => spec_l1Bytes.l0 k (n : Int) o (j : Int) l i h) (o', i', h') ∧ o'.length = n ∧ IsB o' ∧ Cur l i' := by
  refine up_ind n (fun j : Nat => ∀ (o : List Int) (i h : Int), o.length = j → IsB o → Cur l i → ∃ (o' : List Int) (i' h' : Int), Ev (fun k => spec_l1Bytes.l0 k (n : Int) o (j : Int) l i h) (o', i', h') ∧ o'.length = n ∧ IsB o' ∧ Cur l i') ?_ ?_
  · intro o i h ho hb hc
    refine ⟨o, i, h, ev_succ ?_, ho, hb, hc⟩
    have h1 : ¬ ((n : Int) < (n : Int)) := by omega
    simp only [spec_l1Bytes.l0.eq_2, h1, if_false]
    exact ev_some _
  · intro j hj ih o i h ho hb hc
    obtain ⟨x, i1, h1, e1, x0, x1, c1⟩ := spec_l1Byte_ok l hl i h hc
    have ex : x % 256 = x := by omega
    obtain ⟨o', i', h', hE, hlen, hb', hc'⟩ := ih (o ++ [x]) i1 h1 (by simp [ho]) (hb.append (IsB.cons x0 x1 IsB.nil)) c1
    refine ⟨o', i', h', ev_succ ?_, hlen, hb', hc'⟩
    have a1 : (j : Int) < (n : Int) := by omega
    have a2 : o.length < 140737488355328 := by omega
    simp only [spec_l1Bytes.l0.eq_2, a1, a2, if_true, e1, Option.bind_some, ex, wsucc (show j < 9223372036854775807 by omega)]
    exact hE
theorem spec_l1Bytes_ev (l : List Int) (hl : l.length ≤ 1048576) (i h : Int) (hc : Cur l i) (n : Int) (h0 : 0 ≤ n) (hn : n ≤ 1048576) : ∃ (o : List Int) (i' h' : Int), Ev (fun k => spec_l1Bytes.f k l i h n) (o, i', h') ∧ (o.length : Int) = n ∧ IsB o ∧ Cur l i' := by
  unfold spec_l1Bytes.f
  obtain ⟨m, rfl⟩ := Int.eq_ofNat_of_zero_le h0
  obtain ⟨o, i', h', hE, hlen, hb, hc'⟩ := spec_l1Bytes_l0 l hl m (by omega) 0 (by omega) [] i h rfl IsB.nil hc
  exact ⟨o, i', h', hE, by omega, hb, hc'⟩

theorem spec_l1Some_ev (l : List Int) (hl : l.length ≤ 1048576) (i h : Int) (hc : Cur l i) : ∃ (o : List Int) (i' h' : Int), Ev (fun k => spec_l1Some.f k l i h) (o, i', h') ∧ o.length ≤ 9 ∧ IsB o ∧ Cur l i' := by
  unfold spec_l1Some.f
  obtain ⟨n, i1, h1, e1, hm, c1⟩ := spec_l1Int_ok l hl i h hc [0, 1, 2, 5, 9] (by decide)
  have hn : 0 ≤ n ∧ n ≤ 9 := by
    simp only [List.mem_cons, List.not_mem_nil, or_false] at hm
    omega
  simp only [e1, Option.bind_some]
  obtain ⟨o, i2, h2, hE, hlen, hb, c2⟩ := spec_l1Bytes_ev l hl i1 h1 c1 n hn.1 (by omega)
  exact ⟨o, i2, h2, Ev.bind hE (ev_some _), by omega, hb, c2⟩

theorem spec_DrawPutU_ev (l : List Int) (hl : l.length ≤ 1048576) : ∃ (b : List Int) (n : Int), Ev (fun k => spec_DrawPutU.f k l) (b, n) ∧ b.length ≤ 9 ∧ IsB b ∧ (-9223372036854775808 ≤ n ∧ n ≤ 9223372036854775807) ∧ (-1 ≤ n) := by
  unfold spec_DrawPutU.f
  obtain ⟨r, hr⟩ := spec_l1New_ev l hl
  obtain ⟨b, i1, h1, hE, hlen, hb, c1⟩ := spec_l1Some_ev l hl 0 r (Cur.start l)
  obtain ⟨a, i2, h2, e2, a0, a1, _, c2⟩ := spec_l1Below_ok l hl i1 h1 c1 100000
  have a2 := a1 (by omega)
  obtain ⟨n, i3, h3, e3, hm, c3⟩ := spec_l1Int_ok l hl i2 h2 c2 [0, 1, 127, 128, 16383, 16384, 1000000, 1000001, -1, 9223372036854775807, a] (by simp)
  refine ⟨b, n, Ev.bind hr (Ev.bind hE ?_), hlen, hb, ?_, ?_⟩
  · simp only [e2, Option.bind_some, e3]
    exact ev_some _
  · simp only [List.mem_cons, List.not_mem_nil, or_false] at hm
    omega
  · simp only [List.mem_cons, List.not_mem_nil, or_false] at hm
    omega

theorem spec_DrawPutText_ev (l : List Int) (hl : l.length ≤ 1048576) : ∃ (b : List Int) (s : List Int), Ev (fun k => spec_DrawPutText.f k l) (b, strOfNums s) ∧ b.length ≤ 9 ∧ IsB b ∧ s.length ≤ 9 ∧ IsB s := by
  unfold spec_DrawPutText.f
  obtain ⟨r, hr⟩ := spec_l1New_ev l hl
  obtain ⟨b, i1, h1, hE, hlen, hb, c1⟩ := spec_l1Some_ev l hl 0 r (Cur.start l)
  obtain ⟨s, i2, h2, hE2, hlen2, hb2, c2⟩ := spec_l1Some_ev l hl i1 h1 c1
  exact ⟨b, s, Ev.bind hr (Ev.bind hE (Ev.bind hE2 (ev_some _))), hlen, hb, hlen2, hb2⟩

--import B
--import O
theorem getU_putU (b r : List Int) (n : Nat) (hn : n ≤ 1000000) : getU (b ++ putU n ++ r) (b.length : Int) = ((n : Int), ((b ++ putU n).length : Int), true) := by
  unfold getU
  rw [if_pos (by omega), Int.toNat_natCast, List.append_assoc, List.drop_left, getUB_putU n hn]
  simp only [getUR, List.length_append, Int.natCast_add]
theorem getU_cut (b : List Int) (n : Nat) (hn : n ≤ 1000000) : getU ((b ++ putU n).take ((b ++ putU n).length - 1)) (b.length : Int) = (0, 0, false) := by
  have hl := putU_len n
  have e : (b ++ putU n).take ((b ++ putU n).length - 1) = b ++ (putU n).dropLast := by
    rw [← List.dropLast_eq_take, List.dropLast_append_of_ne_nil (by intro h; rw [h] at hl; simp at hl)]
  unfold getU
  rw [if_pos (by omega), Int.toNat_natCast, e, List.drop_left, getUB_cut n hn]
  rfl
theorem FnNums : laws_FnNums.Pure := by
  intro l0 hm0 hb0 hw0
  refine Ev.rounds ?_
  unfold laws_FnNums.f
  simp only [laws_big_eq, Option.bind_some]
  by_cases hn0 : (l0.length : Int) > 1048576
  · simp only [hn0, decide_true, if_true]; exact ev_some _
  simp only [hn0, decide_false, Bool.false_eq_true, if_false]
  have hl : l0.length ≤ 1048576 := by omega
  obtain ⟨b, n, hE1, hlb, hbb, hn, _⟩ := spec_DrawPutU_ev l0 hl
  obtain ⟨c, t, hE2, hlc, hcb, ht, htb⟩ := spec_DrawPutText_ev l0 hl
  have hts : (strOfNums t).size = t.length := strOfNums_size t
  have hcu := clampU_le n
  have hcc := clampU_cast n
  have hcs := clampN_spec n 0 1000000 (by omega)
  have hpl := putU_len (clampU n)
  have hct : clampU (t.length : Int) = t.length := by
    have h1 := clampU_cast (t.length : Int)
    have h2 := (clampN_spec (t.length : Int) 0 1000000 (by omega)).2.2.1 (by omega) (by omega)
    omega
  have htl := putU_len t.length
  refine Ev.bind hE1 ?_
  simp only
  refine Ev.bind (impl_PutU_ev b n (by omega)) ?_
  have hpb : IsB (b ++ putU (clampU n)) := hbb.append (putU_isB _)
  have hplen : (b ++ putU (clampU n)).length ≤ 2000000 := by simp only [List.length_append]; omega
  have hp1 : 1 ≤ (b ++ putU (clampU n)).length := by simp only [List.length_append]; omega
  have g1 := impl_GetU_ev (b ++ putU (clampU n)) (by omega) hpb (b.length : Int)
  have e1 := getU_putU b [] (clampU n) hcu
  rw [List.append_nil] at e1
  rw [e1] at g1
  refine Ev.bind g1 ?_
  simp only
  have tail : Ev (fun k => laws_FnNums.j1 k l0 b ((clampU n : Nat) : Int) (b ++ putU (clampU n)) ((clampU n : Nat) : Int) ((b ++ putU (clampU n)).length : Int) true) true := by
    refine ev_succ ?_
    have e2 : wrap64 (((b ++ putU (clampU n)).length : Int) - 1) = (((b ++ putU (clampU n)).length - 1 : Nat) : Int) := by rw [w64 (by omega) (by omega)]; omega
    have a1 : (0 : Int) ≤ (((b ++ putU (clampU n)).length - 1 : Nat) : Int) := by omega
    have a2 : (((b ++ putU (clampU n)).length - 1 : Nat) : Int) ≤ ((b ++ putU (clampU n)).length : Int) := by omega
    simp only [laws_FnNums.j1.eq_2, e2, a1, a2, if_true, Int.toNat_natCast]
    have g2 := impl_GetU_ev ((b ++ putU (clampU n)).take ((b ++ putU (clampU n)).length - 1)) (by rw [List.length_take]; omega) (hpb.take _) (b.length : Int)
    rw [getU_cut b _ hcu] at g2
    refine Ev.bind g2 (Ev.bind hE2 ?_)
    simp only
    refine Ev.bind (impl_PutText_ev c (strOfNums t) (by omega) (by omega)) ?_
    rw [hts, hct, bytesOf_strOfNums htb]
    have hqb : IsB (c ++ putU t.length ++ t) := (hcb.append (putU_isB _)).append htb
    have hql : (c ++ putU t.length ++ t).length = c.length + (putU t.length).length + t.length := by simp only [List.length_append]
    have g3 := impl_GetText_ev (c ++ putU t.length ++ t) (by omega) hqb (c.length : Int)
    have e3 : getText (c ++ putU t.length ++ t) (c.length : Int) = (strOfNums t, ((c ++ putU t.length ++ t).length : Int), true) := by
      unfold getText
      rw [getU_putU c t t.length (by omega)]
      have h1 : ¬ ((t.length : Int) > ((c ++ putU t.length ++ t).length : Int) - ((c ++ putU t.length).length : Int)) := by simp only [List.length_append]; omega
      simp only [getTextR, h1, if_false]
      rw [show (((c ++ putU t.length).length : Int) + (t.length : Int)).toNat = (c ++ putU t.length ++ t).length by simp only [List.length_append]; omega, List.take_length, Int.toNat_natCast, List.drop_left]
      simp only [Prod.mk.injEq, true_and, and_true, List.length_append]
      omega
    rw [e3] at g3
    refine Ev.bind g3 ?_
    simp only [if_true, Bool.false_eq_true, if_false, BEq.rfl]
    exact ev_some _
  by_cases h1 : n > 1000000
  · simp only [h1, if_true]
    refine ev_succ ?_
    have e5 : (1000000 : Int) = ((clampU n : Nat) : Int) := by omega
    simp only [laws_FnNums.j0.eq_2, show ¬ ((1000000 : Int) < 0) by decide, if_false]
    rw [e5]
    exact tail
  · simp only [h1, if_false]
    refine ev_succ ?_
    by_cases h2 : n < 0
    · have e5 : (0 : Int) = ((clampU n : Nat) : Int) := by omega
      simp only [laws_FnNums.j0.eq_2, h2, if_true]
      have := tail
      rw [← e5] at this ⊢
      exact this
    · have e5 : n = ((clampU n : Nat) : Int) := by omega
      simp only [laws_FnNums.j0.eq_2, h2, if_false]
      have := tail
      rw [← e5] at this ⊢
      exact this

end Go.Proofs.Yteeokieokbibbaa.Pure

/- Texts come back of their bytes; the bytes stand in the texts' order; of unlike texts neither's bytes are the beginning of the other's. No condition. -/
import Derived.Test.YtefaalelkbbnkaaPFnEscsx3
import Derived.Test.YtefaalelkbbnkaaM
import Derived.Test.YtefaalelkbbnkaaB
import Derived.Test.YtefaalelkbbnkaaO
namespace Go.Proofs.Ytefaalelkbbnkaa.Pure
open Go.RowKit Go.Proofs.Ytefaalelkbbnkaa.PFnEscs Go.Proofs.YtefaalelkbbnkaaW.PrintWords Go.Proofs.YtefaalelkbbnkaaW.PrintLast Go.Proofs.YtefaalelkbbnkaaW.PrintMore Go.Proofs.YtefaalelkbbnkaaM
set_option linter.unusedVariables false
set_option linter.unusedSimpArgs false

theorem impl_addEsc_l0 (s : ByteArray) (hs : s.size ≤ 1048576) : ∀ i : Nat, i ≤ s.size → ∀ o : List Int, o.length + 2 * (s.size - i) + 2 < 140737488355328 →
    Ev (fun k => impl_addEsc.l0 k o s (i : Int)) (o ++ escB ((bytesOf s).drop i)) := by
  refine up_ind s.size (fun i : Nat => ∀ o : List Int, o.length + 2 * (s.size - i) + 2 < 140737488355328 → Ev (fun k => impl_addEsc.l0 k o s (i : Int)) (o ++ escB ((bytesOf s).drop i))) ?_ ?_
  · intro o ho
    refine ev_succ ?_
    have h1 : ¬ ((s.size : Int) < (s.size : Int)) := by omega
    have h2 : o.length + ([0, 1] : List Int).length < 140737488355328 := by simp only [List.length_cons, List.length_nil]; omega
    simp only [impl_addEsc.l0.eq_2, h1, if_false, Option.bind_some, h2, if_true]
    rw [List.drop_eq_nil_of_le (by rw [bytesOf_len]; omega)]
    exact ev_some _
  · intro i hi ih o ho
    refine ev_succ ?_
    have hib : i < (bytesOf s).length := by rw [bytesOf_len]; exact hi
    have h1 : (i : Int) < (s.size : Int) := by omega
    have h2 : (0 : Int) ≤ (i : Int) := by omega
    have h3 : o.length < 140737488355328 := by omega
    have h4 : (o ++ [(bytesOf s)[i]]).length < 140737488355328 := by simp only [List.length_append, List.length_cons, List.length_nil]; omega
    simp only [impl_addEsc.l0.eq_2, h1, h2, h3, h4, if_true, Option.bind_some, bt_get s i hi, wsucc (show i < 9223372036854775807 by omega)]
    rw [List.drop_eq_getElem_cons hib]
    by_cases hz : (bytesOf s)[i] = 0
    · have := ih (o ++ [(bytesOf s)[i]] ++ [255]) (by simp only [List.length_append, List.length_cons, List.length_nil]; omega)
      rw [escB, if_pos hz]
      rw [List.append_assoc, List.append_assoc] at this
      simp only [hz, if_true]
      rw [hz] at this
      simpa using this
    · have := ih (o ++ [(bytesOf s)[i]]) (by simp only [List.length_append, List.length_cons, List.length_nil]; omega)
      rw [escB, if_neg hz]
      rw [List.append_assoc] at this
      simp only [hz, if_false]
      exact this
theorem impl_addEsc_ev (l : List Int) (s : ByteArray) (h : l.length ≤ 140737480000000) (hs : s.size ≤ 1048576) : Ev (fun k => impl_addEsc.f k l s) (l ++ escB (bytesOf s)) := by
  unfold impl_addEsc.f
  simpa using impl_addEsc_l0 s hs 0 (by omega) l (by omega)

theorem impl_copyBytes_eq (l : List Int) (h : l.length < 140737488355328) : impl_copyBytes.f l = some l := by
  unfold impl_copyBytes.f
  simp only [List.length_nil, Nat.zero_add, List.nil_append]
  rw [if_pos h]

theorem impl_PutEsc_ev (l : List Int) (s : ByteArray) (h : l.length ≤ 140737480000000) (hs : s.size ≤ 1048576) : Ev (fun k => impl_PutEsc.f k l s) (l ++ escB (bytesOf s)) := by
  unfold impl_PutEsc.f
  simp only [impl_copyBytes_eq l (by omega), Option.bind_some]
  exact Ev.bind (impl_addEsc_ev l s h hs) (ev_some _)

theorem impl_GetEsc_l0 (l : List Int) (hl : l.length ≤ 140737488355327) (d : Nat) : ∀ (p : Nat) (o : List Int), l.length - p = d → (p : Int) ≤ 9223372036854775807 → o.length + (l.length - p) ≤ 140737488355327 →
    Ev (fun k => impl_GetEsc.l0 k l o (p : Int)) (getER (getEB o p (l.drop p))) := by
  induction d using Nat.strongRecOn with
  | _ d ih =>
    intro p o hd hp63 ho
    refine ev_succ (ev_succ ?_)
    have a1 : (p : Int) ≥ 0 := by omega
    by_cases hp : p < l.length
    · have b1 : (p : Int) < (l.length : Int) := by omega
      have b2 : o.length < 140737488355328 := by omega
      simp only [impl_GetEsc.l0.eq_2, impl_GetEsc.j1.eq_2, a1, b1, b2, decide_true, if_true, rd_nat l p hp, wsucc (show p < 9223372036854775807 by omega)]
      rw [List.drop_eq_getElem_cons hp]
      by_cases hz : l[p] = 0
      · by_cases hp1 : p + 1 < l.length
        · have c1 : ¬ (((p + 1 : Nat) : Int) ≥ (l.length : Int)) := by omega
          have c2 : (0 : Int) ≤ ((p + 1 : Nat) : Int) := by omega
          have c3 : ((p + 1 : Nat) : Int) < (l.length : Int) := by omega
          simp only [hz, if_true, c1, if_false, c2, c3, rd_nat l (p + 1) hp1, wsucc (show p + 1 < 9223372036854775807 by omega)]
          rw [List.drop_eq_getElem_cons hp1, getEB_cons]
          by_cases h1 : l[p + 1] = 1
          · simp only [h1, if_true]; exact ev_some _
          · by_cases h255 : l[p + 1] = 255
            · simp only [h255, if_true, show ¬ ((255 : Int) = 1) by decide, if_false]
              exact ih (l.length - (p + 1 + 1)) (by omega) (p + 1 + 1) (o ++ [0]) rfl (by omega) (by simp only [List.length_append, List.length_cons, List.length_nil]; omega)
            · simp only [h1, h255, if_true, if_false]; exact ev_some _
        · have c1 : ((p + 1 : Nat) : Int) ≥ (l.length : Int) := by omega
          simp only [hz, if_true, c1]
          rw [List.drop_eq_nil_of_le (by omega), getEB_one]
          exact ev_some _
      · simp only [hz, if_false]
        have := ih (l.length - (p + 1)) (by omega) (p + 1) (o ++ [l[p]]) rfl (by omega) (by simp only [List.length_append, List.length_cons, List.length_nil]; omega)
        rw [getEB_ne _ _ _ _ hz]
        exact this
    · have b1 : ¬ ((p : Int) < (l.length : Int)) := by omega
      simp only [impl_GetEsc.l0.eq_2, impl_GetEsc.j1.eq_2, a1, b1, decide_false, Bool.false_eq_true, if_true, if_false]
      rw [List.drop_eq_nil_of_le (by omega), getEB_nil]
      exact ev_some _
theorem impl_GetEsc_ev (l : List Int) (hl : l.length ≤ 140737480000000) (hb : IsB l) (p : Int) (hp : -9223372036854775808 ≤ p ∧ p ≤ 9223372036854775807) : Ev (fun k => impl_GetEsc.f k l p) (getEsc l p) := by
  unfold impl_GetEsc.f getEsc
  by_cases h0 : 0 ≤ p
  · obtain ⟨q, rfl⟩ := Int.eq_ofNat_of_zero_le h0
    rw [if_pos h0]
    exact impl_GetEsc_l0 l (by omega) _ q [] rfl (by omega) (by simp only [List.length_nil]; omega)
  · rw [if_neg h0]
    refine ev_succ (ev_succ ?_)
    have a1 : ¬ (p ≥ 0) := by omega
    simp only [impl_GetEsc.l0.eq_2, impl_GetEsc.j1.eq_2, a1, if_false, Bool.false_eq_true]
    exact ev_some _

theorem laws_big_eq (l : List Int) : laws_big.f l = some (decide ((l.length : Int) > 1048576)) := rfl

theorem impl_Before_eq (a b : List Int) (ha : IsB a) (hb : IsB b) : impl_Before.f a b = some (ltB a b) := by
  unfold impl_Before.f
  rw [bytesLess_str ha hb]

theorem spec_l1New_l0 (l : List Int) (hl : l.length ≤ 1048576) : ∀ i : Nat, i ≤ l.length → ∀ h : Int, ∃ r : Int, Ev (fun k => spec_l1New.l0 k l h (i : Int)) (l, 0, r) := by
  refine up_ind l.length (fun i : Nat => ∀ h : Int, ∃ r : Int, Ev (fun k => spec_l1New.l0 k l h (i : Int)) (l, 0, r)) ?_ ?_
  · intro h
    refine ⟨h, ev_succ ?_⟩
    have h1 : ¬ ((l.length : Int) < (l.length : Int)) := by omega
    simp only [spec_l1New.l0.eq_2, h1, if_false]
    exact ev_some _
  · intro i hi ih h
    have h1 : (i : Int) < (l.length : Int) := by omega
    have h2 : (0 : Int) ≤ (i : Int) := by omega
    by_cases h4 : (i : Int) < 4000
    · obtain ⟨r, hr⟩ := ih (Go.bits .and .i64 (wrap64 ((wrap64 ((wrap64 (h * 137)) + (wrap64 (rd l (i : Int))))) + 11)) 1073741823)
      refine ⟨r, ev_succ ?_⟩
      simp only [spec_l1New.l0.eq_2, h1, h2, h4, if_true, wsucc (show i < 9223372036854775807 by omega)]
      exact hr
    · refine ⟨h, ev_succ ?_⟩
      simp only [spec_l1New.l0.eq_2, h1, h4, if_true, if_false]
      exact ev_some _
theorem spec_l1New_ev (l : List Int) (hl : l.length ≤ 1048576) : ∃ r : Int, Ev (fun k => spec_l1New.f k l) (l, 0, r) := by
  unfold spec_l1New.f
  exact spec_l1New_l0 l hl 0 (by omega) _
/-- Where a reader of draws stands. -/
def Cur (l : List Int) (i : Int) : Prop := 0 ≤ i ∧ i ≤ l.length
theorem Cur.start (l : List Int) : Cur l 0 := ⟨by omega, by omega⟩

theorem spec_l1Byte_ok (l : List Int) (hl : l.length ≤ 1048576) (i h : Int) (hc : Cur l i) : ∃ x i' h' : Int, spec_l1Byte.f l i h = some (x, i', h') ∧ 0 ≤ x ∧ x ≤ 255 ∧ Cur l i' := by
  unfold spec_l1Byte.f
  obtain ⟨c0, c1⟩ := hc
  by_cases h1 : i < (l.length : Int)
  · rw [if_pos h1, if_pos c0, w64 (x := i + 1) (by omega) (by omega)]
    refine ⟨_, _, _, rfl, ?_, ?_, ?_, ?_⟩
    · rw [and255]; omega
    · rw [and255]; omega
    · omega
    · omega
  · rw [if_neg h1]
    refine ⟨_, _, _, rfl, ?_, ?_, ?_, ?_⟩
    · rw [and255]; omega
    · rw [and255]; omega
    · omega
    · omega

theorem spec_l1Below_ok (l : List Int) (hl : l.length ≤ 1048576) (i h : Int) (hc : Cur l i) (n : Int) : ∃ x i' h' : Int, spec_l1Below.f l i h n = some (x, i', h') ∧ 0 ≤ x ∧ (0 < n → x < n) ∧ (n ≤ 0 → x = 0) ∧ Cur l i' := by
  unfold spec_l1Below.f
  by_cases h0 : n ≤ 0
  · rw [if_pos h0]
    exact ⟨0, i, h, rfl, by omega, by omega, fun _ => rfl, hc⟩
  · rw [if_neg h0]
    have hn : ¬ (n = 0) := by omega
    obtain ⟨x, i1, h1, e1, x0, x1, c1⟩ := spec_l1Byte_ok l hl i h hc
    by_cases h256 : n ≤ 256
    · rw [if_pos h256, e1]
      simp only [Option.bind_some, hn, if_false]
      refine ⟨_, _, _, rfl, ?_, ?_, by omega, c1⟩
      · exact Int.tmod_nonneg _ x0
      · intro hp; exact Int.tmod_lt_of_pos _ hp
    · obtain ⟨y, i2, h2, e2, y0, y1, c2⟩ := spec_l1Byte_ok l hl i1 h1 c1
      obtain ⟨z, i3, h3, e3, z0, z1, c3⟩ := spec_l1Byte_ok l hl i2 h2 c2
      rw [if_neg h256, e1]
      simp only [Option.bind_some, e2, e3, hn, if_false]
      have w1 : wrap64 (x * 65536) = x * 65536 := w64 (by omega) (by omega)
      have w2 : wrap64 (y * 256) = y * 256 := w64 (by omega) (by omega)
      rw [w1, w2]
      clear w1 w2
      have w3 : wrap64 (x * 65536 + y * 256) = x * 65536 + y * 256 := w64 (by omega) (by omega)
      rw [w3]
      clear w3
      have w4 : wrap64 (x * 65536 + y * 256 + z) = x * 65536 + y * 256 + z := w64 (by omega) (by omega)
      rw [w4]
      clear w4
      refine ⟨_, _, _, rfl, ?_, ?_, by omega, c3⟩
      · exact Int.tmod_nonneg _ (by omega)
      · intro hp; exact Int.tmod_lt_of_pos _ hp

theorem spec_l1Int_ok (l : List Int) (hl : l.length ≤ 1048576) (i h : Int) (hc : Cur l i) (xs : List Int) (hx : 0 < xs.length) : ∃ x i' h' : Int, spec_l1Int.f l i h xs = some (x, i', h') ∧ x ∈ xs ∧ Cur l i' := by
  unfold spec_l1Int.f
  obtain ⟨x, i1, h1, e1, x0, x1, _, c1⟩ := spec_l1Below_ok l hl i h hc (xs.length : Int)
  have hlt := x1 (by omega)
  rw [e1]
  simp only [Option.bind_some, x0, hlt, if_true]
  obtain ⟨j, rfl⟩ := Int.eq_ofNat_of_zero_le x0
  have hj : j < xs.length := by omega
  exact ⟨_, _, _, rfl, by rw [rd_nat xs j hj]; exact List.getElem_mem hj, c1⟩

theorem spec_l1Bytes_l0 (l : List Int) (hl : l.length ≤ 1048576) (n : Nat) (hn : n ≤ 1048576) : ∀ j : Nat, j ≤ n → ∀ (o : List Int) (i h : Int), o.length = j → IsB o → Cur l i →
    ∃ (o' : List Int) (i' h' : Int), Ev (fun k => spec_l1Bytes.l0 k (n : Int) o (j : Int) l i h) (o', i', h') ∧ o'.length = n ∧ IsB o' ∧ Cur l i' := by
  refine up_ind n (fun j : Nat => ∀ (o : List Int) (i h : Int), o.length = j → IsB o → Cur l i → ∃ (o' : List Int) (i' h' : Int), Ev (fun k => spec_l1Bytes.l0 k (n : Int) o (j : Int) l i h) (o', i', h') ∧ o'.length = n ∧ IsB o' ∧ Cur l i') ?_ ?_
  · intro o i h ho hb hc
    refine ⟨o, i, h, ev_succ ?_, ho, hb, hc⟩
    have h1 : ¬ ((n : Int) < (n : Int)) := by omega
    simp only [spec_l1Bytes.l0.eq_2, h1, if_false]
    exact ev_some _
  · intro j hj ih o i h ho hb hc
    obtain ⟨x, i1, h1, e1, x0, x1, c1⟩ := spec_l1Byte_ok l hl i h hc
    have ex : x % 256 = x := by omega
    obtain ⟨o', i', h', hE, hlen, hb', hc'⟩ := ih (o ++ [x]) i1 h1 (by simp [ho]) (hb.append (IsB.cons x0 x1 IsB.nil)) c1
    refine ⟨o', i', h', ev_succ ?_, hlen, hb', hc'⟩
    have a1 : (j : Int) < (n : Int) := by omega
    have a2 : o.length < 140737488355328 := by omega
    simp only [spec_l1Bytes.l0.eq_2, a1, a2, if_true, e1, Option.bind_some, ex, wsucc (show j < 9223372036854775807 by omega)]
    exact hE
theorem spec_l1Bytes_ev (l : List Int) (hl : l.length ≤ 1048576) (i h : Int) (hc : Cur l i) (n : Int) (h0 : 0 ≤ n) (hn : n ≤ 1048576) : ∃ (o : List Int) (i' h' : Int), Ev (fun k => spec_l1Bytes.f k l i h n) (o, i', h') ∧ (o.length : Int) = n ∧ IsB o ∧ Cur l i' := by
  unfold spec_l1Bytes.f
  obtain ⟨m, rfl⟩ := Int.eq_ofNat_of_zero_le h0
  obtain ⟨o, i', h', hE, hlen, hb, hc'⟩ := spec_l1Bytes_l0 l hl m (by omega) 0 (by omega) [] i h rfl IsB.nil hc
  exact ⟨o, i', h', hE, by omega, hb, hc'⟩

theorem spec_l1Some_ev (l : List Int) (hl : l.length ≤ 1048576) (i h : Int) (hc : Cur l i) : ∃ (o : List Int) (i' h' : Int), Ev (fun k => spec_l1Some.f k l i h) (o, i', h') ∧ o.length ≤ 9 ∧ IsB o ∧ Cur l i' := by
  unfold spec_l1Some.f
  obtain ⟨n, i1, h1, e1, hm, c1⟩ := spec_l1Int_ok l hl i h hc [0, 1, 2, 5, 9] (by decide)
  have hn : 0 ≤ n ∧ n ≤ 9 := by
    simp only [List.mem_cons, List.not_mem_nil, or_false] at hm
    omega
  simp only [e1, Option.bind_some]
  obtain ⟨o, i2, h2, hE, hlen, hb, c2⟩ := spec_l1Bytes_ev l hl i1 h1 c1 n hn.1 (by omega)
  exact ⟨o, i2, h2, Ev.bind hE (ev_some _), by omega, hb, c2⟩

theorem spec_l1Str_ok (l : List Int) (hl : l.length ≤ 1048576) (i h : Int) (hc : Cur l i) (xs : List ByteArray) (hx : 0 < xs.length) : ∃ (x : ByteArray) (i' h' : Int), spec_l1Str.f l i h xs = some (x, i', h') ∧ x ∈ xs ∧ Cur l i' := by
  unfold spec_l1Str.f
  obtain ⟨x, i1, h1, e1, x0, x1, _, c1⟩ := spec_l1Below_ok l hl i h hc (xs.length : Int)
  have hlt := x1 (by omega)
  rw [e1]
  simp only [Option.bind_some, x0, hlt, if_true]
  obtain ⟨j, rfl⟩ := Int.eq_ofNat_of_zero_le x0
  have hj : j < xs.length := by omega
  refine ⟨_, _, _, rfl, ?_, c1⟩
  unfold rdOf
  simp [List.getD_eq_getElem?_getD, hj]

theorem spec_l2Text_ok (l : List Int) (hl : l.length ≤ 1048576) (i h : Int) (hc : Cur l i) : ∃ (s : ByteArray) (i' h' : Int), spec_l2Text.f l i h = some (s, i', h') ∧ s.size ≤ 4 ∧ Cur l i' := by
  unfold spec_l2Text.f
  obtain ⟨s, i1, h1, e1, hm, c1⟩ := spec_l1Str_ok l hl i h hc [⟨#[]⟩, ⟨#[97]⟩, ⟨#[98]⟩, ⟨#[97, 98]⟩, ⟨#[0]⟩, ⟨#[97, 0]⟩, ⟨#[0, 255]⟩, ⟨#[255]⟩, ⟨#[119, 111, 114, 100]⟩, ⟨#[122]⟩] (by decide)
  rw [e1]
  refine ⟨s, i1, h1, rfl, ?_, c1⟩
  simp only [List.mem_cons, List.not_mem_nil, or_false] at hm
  rcases hm with h | h | h | h | h | h | h | h | h | h <;> subst h <;> decide

theorem spec_DrawPutEsc_ev (l : List Int) (hl : l.length ≤ 1048576) : ∃ (b : List Int) (s : ByteArray), Ev (fun k => spec_DrawPutEsc.f k l) (b, s) ∧ b.length ≤ 9 ∧ IsB b ∧ s.size ≤ 4 := by
  unfold spec_DrawPutEsc.f
  obtain ⟨r, hr⟩ := spec_l1New_ev l hl
  obtain ⟨b, i1, h1, hE, hlen, hb, c1⟩ := spec_l1Some_ev l hl 0 r (Cur.start l)
  obtain ⟨s, i2, h2, e2, hs, c2⟩ := spec_l2Text_ok l hl i1 h1 c1
  refine ⟨b, s, Ev.bind hr (Ev.bind hE ?_), hlen, hb, hs⟩
  simp only [e2, Option.bind_some]
  exact ev_some _

theorem spec_DrawPutText_ev (l : List Int) (hl : l.length ≤ 1048576) : ∃ (b : List Int) (s : List Int), Ev (fun k => spec_DrawPutText.f k l) (b, strOfNums s) ∧ b.length ≤ 9 ∧ IsB b ∧ s.length ≤ 9 ∧ IsB s := by
  unfold spec_DrawPutText.f
  obtain ⟨r, hr⟩ := spec_l1New_ev l hl
  obtain ⟨b, i1, h1, hE, hlen, hb, c1⟩ := spec_l1Some_ev l hl 0 r (Cur.start l)
  obtain ⟨s, i2, h2, hE2, hlen2, hb2, c2⟩ := spec_l1Some_ev l hl i1 h1 c1
  exact ⟨b, s, Ev.bind hr (Ev.bind hE (Ev.bind hE2 (ev_some _))), hlen, hb, hlen2, hb2⟩

theorem laws_sameBytes_l0 (a b : List Int) (he : a.length = b.length) (h : a.length ≤ 9223372036854775806) : ∀ i : Nat, i ≤ a.length → Ev (fun k => laws_sameBytes.l0 k a b (i : Int)) (decide (a.drop i = b.drop i)) := by
  refine up_ind a.length (fun i : Nat => Ev (fun k => laws_sameBytes.l0 k a b (i : Int)) (decide (a.drop i = b.drop i))) ?_ ?_
  · refine ev_succ ?_
    have h1 : ¬ ((a.length : Int) < (a.length : Int)) := by omega
    simp only [laws_sameBytes.l0.eq_2, h1, if_false]
    rw [decide_eq_true (by rw [List.drop_eq_nil_of_le (Nat.le_refl _), List.drop_eq_nil_of_le (by omega)])]
    exact ev_some _
  · intro i hi ih
    refine ev_succ ?_
    have hib : i < b.length := by omega
    have h1 : (i : Int) < (a.length : Int) := by omega
    have h2 : (0 : Int) ≤ (i : Int) := by omega
    have h3 : (i : Int) < (b.length : Int) := by omega
    simp only [laws_sameBytes.l0.eq_2, h1, h2, h3, if_true, rd_nat a i hi, rd_nat b i hib, wsucc (show i < 9223372036854775807 by omega)]
    rw [List.drop_eq_getElem_cons hi, List.drop_eq_getElem_cons hib]
    by_cases hv : a[i] = b[i]
    · simp only [hv, if_true, List.cons.injEq, true_and]
      exact ih
    · simp only [hv, if_false, List.cons.injEq, false_and, decide_false]
      exact ev_some _
theorem laws_sameBytes_ev (a b : List Int) (h : a.length ≤ 9223372036854775806) : Ev (fun k => laws_sameBytes.f k a b) (decide (a = b)) := by
  unfold laws_sameBytes.f
  by_cases he : a.length = b.length
  · have h1 : (a.length : Int) = (b.length : Int) := by omega
    simp only [h1, if_true]
    simpa using laws_sameBytes_l0 a b he h 0 (by omega)
  · have h1 : ¬ ((a.length : Int) = (b.length : Int)) := by omega
    simp only [h1, if_false]
    rw [decide_eq_false (fun e => he (by rw [e]))]
    exact ev_some _

theorem laws_begins_ev (a b : List Int) (h : a.length ≤ 9223372036854775806) : Ev (fun k => laws_begins.f k a b) (decide (a.take b.length = b)) := by
  unfold laws_begins.f
  by_cases he : b.length ≤ a.length
  · have h1 : (a.length : Int) ≥ (b.length : Int) := by omega
    have h2 : (0 : Int) ≤ (b.length : Int) := by omega
    have h3 : (b.length : Int) ≤ (a.length : Int) := by omega
    simp only [h1, h2, h3, if_true, Int.toNat_natCast]
    exact Ev.bind (laws_sameBytes_ev _ b (by rw [List.length_take]; omega)) (ev_some _)
  · have h1 : ¬ ((a.length : Int) ≥ (b.length : Int)) := by omega
    simp only [h1, if_false]
    rw [decide_eq_false (fun e => he (by rw [← e, List.length_take]; omega))]
    exact ev_some _

--import B
--import O
theorem getEB_escB (s r : List Int) : ∀ (o : List Int) (p : Nat), getEB o p (escB s ++ r) = some (o ++ s, p + (escB s).length) := by
  induction s with
  | nil =>
    intro o p
    rw [escB, List.cons_append, List.cons_append, getEB_cons, if_pos rfl, if_pos rfl, List.append_nil]
    rfl
  | cons x s ih =>
    intro o p
    rw [escB]
    by_cases h : x = 0
    · rw [if_pos h, List.cons_append, List.cons_append, getEB_cons, if_pos rfl, if_neg (by decide), if_pos rfl, ih, h]
      simp only [List.append_assoc, List.cons_append, List.nil_append, List.length_cons, Option.some.injEq, Prod.mk.injEq, true_and]
      omega
    · rw [if_neg h, List.cons_append, getEB_ne _ _ _ _ h, ih]
      simp only [List.append_assoc, List.cons_append, List.nil_append, List.length_cons, Option.some.injEq, Prod.mk.injEq, true_and]
      omega
theorem getEsc_escB (b s r : List Int) : getEsc (b ++ escB s ++ r) (b.length : Int) = (strOfNums s, ((b ++ escB s).length : Int), true) := by
  unfold getEsc
  rw [if_pos (by omega), Int.toNat_natCast, List.append_assoc, List.drop_left, getEB_escB]
  simp only [getER, List.nil_append, List.length_append]
theorem FnEscs : laws_FnEscs.Pure := by
  intro l0 hm0 hb0 hw0
  refine Ev.rounds ?_
  unfold laws_FnEscs.f
  simp only [laws_big_eq, Option.bind_some]
  by_cases hn0 : (l0.length : Int) > 1048576
  · simp only [hn0, decide_true, if_true]; exact ev_some _
  simp only [hn0, decide_false, Bool.false_eq_true, if_false]
  have hl : l0.length ≤ 1048576 := by omega
  obtain ⟨b, s, hE1, hlb, hbb, hs⟩ := spec_DrawPutEsc_ev l0 hl
  obtain ⟨b2, t, hE2, _, _, ht, htb⟩ := spec_DrawPutText_ev l0 hl
  have hts : (strOfNums t).size ≤ 9 := by rw [strOfNums_size]; exact ht
  refine Ev.bind hE1 (Ev.bind hE2 ?_)
  simp only
  refine Ev.bind (impl_PutEsc_ev b s (by omega) (by omega)) ?_
  have hsB := bytesOf_isB s
  have hle := escB_len (bytesOf s)
  have hlt := escB_len t
  have hsl := bytesOf_len s
  have g1 := impl_GetEsc_ev (b ++ escB (bytesOf s)) (by simp only [List.length_append]; omega) (hbb.append (escB_isB hsB)) (b.length : Int) (by omega)
  have e1 := getEsc_escB b (bytesOf s) []
  rw [List.append_nil] at e1
  rw [e1] at g1
  refine Ev.bind g1 ?_
  simp only
  refine Ev.bind (impl_PutEsc_ev [] s (by simp only [List.length_nil]; omega) (by omega)) ?_
  refine Ev.bind (impl_PutEsc_ev [] (strOfNums t) (by simp only [List.length_nil]; omega) (by omega)) ?_
  simp only [List.nil_append, bytesOf_strOfNums htb, strOfNums_bytesOf, if_true, bne_self_eq_false]
  refine ev_succ ?_
  simp only [laws_FnEscs.j0.eq_2, Bool.false_eq_true, if_false, impl_Before_eq _ _ (escB_isB hsB) (escB_isB htb), Option.bind_some]
  have e2 : Op.bytesLess s.toList (strOfNums t).toList = ltB (bytesOf s) t := by rw [bytesLess_bytesOf, bytesOf_strOfNums htb]
  have e3 : (s.toList = (strOfNums t).toList) ↔ bytesOf s = t := by rw [str_eq_iff, bytesOf_strOfNums htb]
  simp only [e2, e3]
  by_cases hst : bytesOf s = t
  · simp only [hst, ltB_self, BEq.rfl, if_true]
    exact ev_some _
  · have key : ltB (escB (bytesOf s)) (escB t) = ltB (bytesOf s) t ∧ ¬ ((escB (bytesOf s)).take (escB t).length = escB t) ∧ ¬ ((escB t).take (escB (bytesOf s)).length = escB (bytesOf s)) := by
      rcases ltB_total _ _ hst with h | h
      · have hL := escB_lt hsB htb h
        exact ⟨by rw [h, hL.ltB], hL.no_prefix.1, hL.no_prefix.2⟩
      · have hL := escB_lt htb hsB h
        exact ⟨by rw [ltB_asymm _ _ h, hL.ltB'], hL.no_prefix.2, hL.no_prefix.1⟩
    simp only [key.1, BEq.rfl, if_true, hst, if_false]
    have b1 := laws_begins_ev (escB (bytesOf s)) (escB t) (by omega)
    have b2 := laws_begins_ev (escB t) (escB (bytesOf s)) (by omega)
    rw [decide_eq_false key.2.1] at b1
    rw [decide_eq_false key.2.2] at b2
    refine Ev.bind b1 ?_
    simp only [Bool.false_eq_true, if_false]
    refine Ev.bind b2 ?_
    simp only [Bool.not_false]
    exact ev_some _

end Go.Proofs.Ytefaalelkbbnkaa.Pure

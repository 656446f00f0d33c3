/- What has its sum comes back; with one bit of it turned it does not; the sum is a number of 32 bits. No condition. -/
import Derived.Test.YteeokieokbibbaaPFnSumsx3
import Derived.Test.YteeokieokbibbaaM
import Derived.Test.YteeokieokbibbaaB
namespace Go.Proofs.Yteeokieokbibbaa.Pure
open Go.RowKit Go.Proofs.Yteeokieokbibbaa.PFnSums Go.Proofs.YteeokieokbibbaaW.PrintWords Go.Proofs.YteeokieokbibbaaW.PrintLast Go.Proofs.YteeokieokbibbaaW.PrintMore Go.Proofs.YteeokieokbibbaaM
set_option linter.unusedVariables false
set_option linter.unusedSimpArgs false

theorem xor_u32 (a b : Nat) (ha : a < 4294967296) (hb : b < 4294967296) : bits .xor .u32 (a : Int) (b : Int) = ((a ^^^ b : Nat) : Int) := u32_xor_nat a b ha hb
theorem impl_Crc_l1 (l : List Int) (n i : Int) (r : Int) : ∀ j : Nat, j ≤ 8 → ∀ x : Nat, x < 4294967296 → Ev (fun k => impl_Crc.l0 k ((crcN (8 - j) x : Nat) : Int) l n (wrap64 (i + 1))) r →
    Ev (fun k => impl_Crc.l1 k (x : Int) l n i (j : Int)) r := by
  refine up_ind 8 (fun j : Nat => ∀ x : Nat, x < 4294967296 → Ev (fun k => impl_Crc.l0 k ((crcN (8 - j) x : Nat) : Int) l n (wrap64 (i + 1))) r → Ev (fun k => impl_Crc.l1 k (x : Int) l n i (j : Int)) r) ?_ ?_
  · intro x hx h
    refine ev_succ ?_
    simp only [impl_Crc.l1.eq_2, show ¬ (((8 : Nat) : Int) < 8) by decide, if_false]
    exact h
  · intro j hj ih x hx h
    refine ev_succ ?_
    have h1 : (j : Int) < 8 := by omega
    have h2 : wrap64 ((j : Int) + 1) = ((j + 1 : Nat) : Int) := wsucc (by omega)
    have h3 : bits .and .u32 (x : Int) 1 = ((x % 2 : Nat) : Int) := by
      have := u32_and_nat x 1 hx (by omega)
      rw [Nat.and_one_is_mod] at this
      exact this
    have h4 : (x : Int) / 2 = ((x / 2 : Nat) : Int) := by omega
    have hs := crcStep_lt hx
    rw [show 8 - j = (8 - (j + 1)) + 1 by omega, crcN] at h
    by_cases ho : x % 2 = 1
    · have h5 : ((x % 2 : Nat) : Int) = 1 := by omega
      have h6 : bits .xor .u32 ((x / 2 : Nat) : Int) 2197175160 = ((crcStep x : Nat) : Int) := by
        have := xor_u32 (x / 2) 2197175160 (by omega) (by omega)
        unfold crcStep; rw [if_pos ho]; exact this
      simp only [impl_Crc.l1.eq_2, h1, h2, h3, h4, h5, h6, if_true]
      exact ih _ hs h
    · have h5 : ¬ (((x % 2 : Nat) : Int) = 1) := by omega
      have h6 : ((x / 2 : Nat) : Int) = ((crcStep x : Nat) : Int) := by unfold crcStep; rw [if_neg ho]
      simp only [impl_Crc.l1.eq_2, h1, h2, h3, h4, h5, h6, if_true, if_false]
      exact ih _ hs h
theorem impl_Crc_l0 (l : List Int) (hl : l.length ≤ 140737488355328) (hb : IsB l) : ∀ i : Nat, i ≤ l.length → ∀ x : Nat, x < 4294967296 →
    Ev (fun k => impl_Crc.l0 k (x : Int) l (l.length : Int) (i : Int)) (((crcL x (l.drop i) ^^^ 4294967295 : Nat) : Int)) := by
  refine up_ind l.length (fun i : Nat => ∀ x : Nat, x < 4294967296 → Ev (fun k => impl_Crc.l0 k (x : Int) l (l.length : Int) (i : Int)) (((crcL x (l.drop i) ^^^ 4294967295 : Nat) : Int))) ?_ ?_
  · intro x hx
    refine ev_succ ?_
    have h1 : ¬ ((l.length : Int) < (l.length : Int)) := by omega
    have h2 : bits .xor .u32 4294967295 (x : Int) = ((x ^^^ 4294967295 : Nat) : Int) := by
      rw [Nat.xor_comm]; exact xor_u32 4294967295 x (by omega) hx
    have hlt : x ^^^ 4294967295 < 4294967296 := Nat.xor_lt_two_pow (n := 32) (by omega) (by omega)
    simp only [impl_Crc.l0.eq_2, h1, if_false, h2]
    rw [w64 (by omega) (by omega), List.drop_eq_nil_of_le (by omega)]
    exact ev_some _
  · intro i hi ih x hx
    refine ev_succ ?_
    have h1 : (i : Int) < (l.length : Int) := by omega
    have h2 : (0 : Int) ≤ (i : Int) := by omega
    obtain ⟨g0, g1⟩ := hb.get i hi
    have h3 : bits .xor .u32 (x : Int) (l[i] % 4294967296) = ((x ^^^ l[i].toNat : Nat) : Int) := by
      rw [show l[i] % 4294967296 = ((l[i].toNat : Nat) : Int) by omega]
      exact xor_u32 _ _ hx (by omega)
    have hlt : x ^^^ l[i].toNat < 4294967296 := Nat.xor_lt_two_pow (n := 32) (by omega) (by omega)
    simp only [impl_Crc.l0.eq_2, h1, h2, if_true, rd_nat l i hi, h3]
    rw [List.drop_eq_getElem_cons hi, crcL_cons]
    refine impl_Crc_l1 l _ _ _ 0 (by omega) _ hlt ?_
    rw [wsucc (by omega)]
    have := ih (crcByte x l[i].toNat) (crcByte_lt hx (by omega))
    rw [crcByte_eq] at this ⊢
    exact this
theorem impl_Crc_ev (l : List Int) (hl : l.length ≤ 140737488355328) (hb : IsB l) : Ev (fun k => impl_Crc.f k l) ((crc l : Nat) : Int) := by
  unfold impl_Crc.f crc
  exact impl_Crc_l0 l hl hb 0 (by omega) 4294967295 (by omega)
attribute [local irreducible] impl_Crc.f

theorem impl_copyBytes_eq (l : List Int) (h : l.length < 140737488355328) : impl_copyBytes.f l = some l := by
  unfold impl_copyBytes.f
  simp only [List.length_nil, Nat.zero_add, List.nil_append]
  rw [if_pos h]
attribute [local irreducible] impl_copyBytes.f

theorem impl_addSum_ev (l : List Int) (hl : l.length ≤ 140737480000000) (hb : IsB l) : Ev (fun k => impl_addSum.f k l) (putSum l) := by
  unfold impl_addSum.f
  refine Ev.bind (impl_Crc_ev l (by omega) hb) ?_
  have h1 : l.length + [(crc l : Int) / 16777216 % 256, (crc l : Int) / 65536 % 256, (crc l : Int) / 256 % 256, (crc l : Int) % 256].length < 140737488355328 := by simp; omega
  simp only [Option.bind_some, h1, if_true]
  exact ev_some _
attribute [local irreducible] impl_addSum.f

theorem impl_PutSum_ev (l : List Int) (hl : l.length ≤ 140737480000000) (hb : IsB l) : Ev (fun k => impl_PutSum.f k l) (putSum l) := by
  unfold impl_PutSum.f
  simp only [impl_copyBytes_eq l (by omega), Option.bind_some]
  exact Ev.bind (impl_addSum_ev l hl hb) (ev_some _)
attribute [local irreducible] impl_PutSum.f

theorem impl_GetSum_ev (l : List Int) (hl : l.length ≤ 140737480000000) (hb : IsB l) : Ev (fun k => impl_GetSum.f k l) (getSum l) := by
  unfold impl_GetSum.f getSum
  by_cases h4 : l.length < 4
  · have h : (l.length : Int) < 4 := by omega
    simp only [h, h4, if_true]; exact ev_some _
  · have h : ¬ ((l.length : Int) < 4) := by omega
    have e : wrap64 ((l.length : Int) - 4) = ((l.length - 4 : Nat) : Int) := by rw [w64 (by omega) (by omega)]; omega
    have h1 : (0 : Int) ≤ ((l.length - 4 : Nat) : Int) := by omega
    have h2 : ((l.length - 4 : Nat) : Int) ≤ (l.length : Int) := by omega
    have h3 : (l.take (l.length - 4)).length ≤ 140737480000000 := by rw [List.length_take]; omega
    simp only [h, h4, e, h1, h2, if_true, if_false, Int.toNat_natCast, impl_copyBytes_eq (l.take (l.length - 4)) (by omega), Option.bind_some]
    refine Ev.bind (impl_PutSum_ev _ h3 (hb.take _)) ?_
    simp only [strOfNums_inj (putSum_isB (hb.take _)) hb]
    by_cases hs : putSum (l.take (l.length - 4)) = l
    · simp only [hs, if_true]; exact ev_some _
    · simp only [hs, if_false]; exact ev_some _
attribute [local irreducible] impl_GetSum.f

theorem laws_big_eq (l : List Int) : laws_big.f l = some (decide ((l.length : Int) > 1048576)) := rfl
attribute [local irreducible] laws_big.f

theorem spec_l1New_l0 (l : List Int) (hl : l.length ≤ 1048576) : ∀ i : Nat, i ≤ l.length → ∀ h : Int, ∃ r : Int, Ev (fun k => spec_l1New.l0 k l h (i : Int)) (l, 0, r) := by
  refine up_ind l.length (fun i : Nat => ∀ h : Int, ∃ r : Int, Ev (fun k => spec_l1New.l0 k l h (i : Int)) (l, 0, r)) ?_ ?_
  · intro h
    refine ⟨h, ev_succ ?_⟩
    have h1 : ¬ ((l.length : Int) < (l.length : Int)) := by omega
    simp only [spec_l1New.l0.eq_2, h1, if_false]
    exact ev_some _
  · intro i hi ih h
    have h1 : (i : Int) < (l.length : Int) := by omega
    have h2 : (0 : Int) ≤ (i : Int) := by omega
    by_cases h4 : (i : Int) < 4000
    · obtain ⟨r, hr⟩ := ih (Go.bits .and .i64 (wrap64 ((wrap64 ((wrap64 (h * 137)) + (wrap64 (rd l (i : Int))))) + 11)) 1073741823)
      refine ⟨r, ev_succ ?_⟩
      simp only [spec_l1New.l0.eq_2, h1, h2, h4, if_true, wsucc (show i < 9223372036854775807 by omega)]
      exact hr
    · refine ⟨h, ev_succ ?_⟩
      simp only [spec_l1New.l0.eq_2, h1, h4, if_true, if_false]
      exact ev_some _
theorem spec_l1New_ev (l : List Int) (hl : l.length ≤ 1048576) : ∃ r : Int, Ev (fun k => spec_l1New.f k l) (l, 0, r) := by
  unfold spec_l1New.f
  exact spec_l1New_l0 l hl 0 (by omega) _
/-- Where a reader of draws stands. -/
def Cur (l : List Int) (i : Int) : Prop := 0 ≤ i ∧ i ≤ l.length
theorem Cur.start (l : List Int) : Cur l 0 := ⟨by omega, by omega⟩
attribute [local irreducible] spec_l1New.f

theorem spec_l1Byte_ok (l : List Int) (hl : l.length ≤ 1048576) (i h : Int) (hc : Cur l i) : ∃ x i' h' : Int, spec_l1Byte.f l i h = some (x, i', h') ∧ 0 ≤ x ∧ x ≤ 255 ∧ Cur l i' := by
  unfold spec_l1Byte.f
  obtain ⟨c0, c1⟩ := hc
  by_cases h1 : i < (l.length : Int)
  · rw [if_pos h1, if_pos c0, w64 (x := i + 1) (by omega) (by omega)]
    refine ⟨_, _, _, rfl, ?_, ?_, ?_, ?_⟩
    · rw [and255]; omega
    · rw [and255]; omega
    · omega
    · omega
  · rw [if_neg h1]
    refine ⟨_, _, _, rfl, ?_, ?_, ?_, ?_⟩
    · rw [and255]; omega
    · rw [and255]; omega
    · omega
    · omega
attribute [local irreducible] spec_l1Byte.f

theorem spec_l1Below_ok (l : List Int) (hl : l.length ≤ 1048576) (i h : Int) (hc : Cur l i) (n : Int) : ∃ x i' h' : Int, spec_l1Below.f l i h n = some (x, i', h') ∧ 0 ≤ x ∧ (0 < n → x < n) ∧ (n ≤ 0 → x = 0) ∧ Cur l i' := by
  unfold spec_l1Below.f
  by_cases h0 : n ≤ 0
  · rw [if_pos h0]
    exact ⟨0, i, h, rfl, by omega, by omega, fun _ => rfl, hc⟩
  · rw [if_neg h0]
    have hn : ¬ (n = 0) := by omega
    obtain ⟨x, i1, h1, e1, x0, x1, c1⟩ := spec_l1Byte_ok l hl i h hc
    by_cases h256 : n ≤ 256
    · rw [if_pos h256, e1]
      simp only [Option.bind_some, hn, if_false]
      refine ⟨_, _, _, rfl, ?_, ?_, by omega, c1⟩
      · exact Int.tmod_nonneg _ x0
      · intro hp; exact Int.tmod_lt_of_pos _ hp
    · obtain ⟨y, i2, h2, e2, y0, y1, c2⟩ := spec_l1Byte_ok l hl i1 h1 c1
      obtain ⟨z, i3, h3, e3, z0, z1, c3⟩ := spec_l1Byte_ok l hl i2 h2 c2
      rw [if_neg h256, e1]
      simp only [Option.bind_some, e2, e3, hn, if_false]
      have w1 : wrap64 (x * 65536) = x * 65536 := w64 (by omega) (by omega)
      have w2 : wrap64 (y * 256) = y * 256 := w64 (by omega) (by omega)
      rw [w1, w2]
      clear w1 w2
      have w3 : wrap64 (x * 65536 + y * 256) = x * 65536 + y * 256 := w64 (by omega) (by omega)
      rw [w3]
      clear w3
      have w4 : wrap64 (x * 65536 + y * 256 + z) = x * 65536 + y * 256 + z := w64 (by omega) (by omega)
      rw [w4]
      clear w4
      refine ⟨_, _, _, rfl, ?_, ?_, by omega, c3⟩
      · exact Int.tmod_nonneg _ (by omega)
      · intro hp; exact Int.tmod_lt_of_pos _ hp
attribute [local irreducible] spec_l1Below.f

theorem spec_l1Int_ok (l : List Int) (hl : l.length ≤ 1048576) (i h : Int) (hc : Cur l i) (xs : List Int) (hx : 0 < xs.length) : ∃ x i' h' : Int, spec_l1Int.f l i h xs = some (x, i', h') ∧ x ∈ xs ∧ Cur l i' := by
  unfold spec_l1Int.f
  obtain ⟨x, i1, h1, e1, x0, x1, _, c1⟩ := spec_l1Below_ok l hl i h hc (xs.length : Int)
  have hlt := x1 (by omega)
  rw [e1]
  simp only [Option.bind_some, x0, hlt, if_true]
  obtain ⟨j, rfl⟩ := Int.eq_ofNat_of_zero_le x0
  have hj : j < xs.length := by omega
  exact ⟨_, _, _, rfl, by rw [rd_nat xs j hj]; exact List.getElem_mem hj, c1⟩
attribute [local irreducible] spec_l1Int.f

theorem spec_l1Bytes_l0 (l : List Int) (hl : l.length ≤ 1048576) (n : Nat) (hn : n ≤ 1048576) : ∀ j : Nat, j ≤ n → ∀ (o : List Int) (i h : Int), o.length = j → IsB o → Cur l i →
    ∃ (o' : List Int) (i' h' : Int), Ev (fun k => spec_l1Bytes.l0 k (n : Int) o (j : Int) l i h) (o', i', h') ∧ o'.length = n ∧ IsB o' ∧ Cur l i' := by
  refine up_ind n (fun j : Nat => ∀ (o : List Int) (i h : Int), o.length = j → IsB o → Cur l i → ∃ (o' : List Int) (i' h' : Int), Ev (fun k => spec_l1Bytes.l0 k (n : Int) o (j : Int) l i h) (o', i', h') ∧ o'.length = n ∧ IsB o' ∧ Cur l i') ?_ ?_
  · intro o i h ho hb hc
    refine ⟨o, i, h, ev_succ ?_, ho, hb, hc⟩
    have h1 : ¬ ((n : Int) < (n : Int)) := by omega
    simp only [spec_l1Bytes.l0.eq_2, h1, if_false]
    exact ev_some _
  · intro j hj ih o i h ho hb hc
    obtain ⟨x, i1, h1, e1, x0, x1, c1⟩ := spec_l1Byte_ok l hl i h hc
    have ex : x % 256 = x := by omega
    obtain ⟨o', i', h', hE, hlen, hb', hc'⟩ := ih (o ++ [x]) i1 h1 (by simp [ho]) (hb.append (IsB.cons x0 x1 IsB.nil)) c1
    refine ⟨o', i', h', ev_succ ?_, hlen, hb', hc'⟩
    have a1 : (j : Int) < (n : Int) := by omega
    have a2 : o.length < 140737488355328 := by omega
    simp only [spec_l1Bytes.l0.eq_2, a1, a2, if_true, e1, Option.bind_some, ex, wsucc (show j < 9223372036854775807 by omega)]
    exact hE
theorem spec_l1Bytes_ev (l : List Int) (hl : l.length ≤ 1048576) (i h : Int) (hc : Cur l i) (n : Int) (h0 : 0 ≤ n) (hn : n ≤ 1048576) : ∃ (o : List Int) (i' h' : Int), Ev (fun k => spec_l1Bytes.f k l i h n) (o, i', h') ∧ (o.length : Int) = n ∧ IsB o ∧ Cur l i' := by
  unfold spec_l1Bytes.f
  obtain ⟨m, rfl⟩ := Int.eq_ofNat_of_zero_le h0
  obtain ⟨o, i', h', hE, hlen, hb, hc'⟩ := spec_l1Bytes_l0 l hl m (by omega) 0 (by omega) [] i h rfl IsB.nil hc
  exact ⟨o, i', h', hE, by omega, hb, hc'⟩
attribute [local irreducible] spec_l1Bytes.f

theorem spec_l1Some_ev (l : List Int) (hl : l.length ≤ 1048576) (i h : Int) (hc : Cur l i) : ∃ (o : List Int) (i' h' : Int), Ev (fun k => spec_l1Some.f k l i h) (o, i', h') ∧ o.length ≤ 9 ∧ IsB o ∧ Cur l i' := by
  unfold spec_l1Some.f
  obtain ⟨n, i1, h1, e1, hm, c1⟩ := spec_l1Int_ok l hl i h hc [0, 1, 2, 5, 9] (by decide)
  have hn : 0 ≤ n ∧ n ≤ 9 := by
    simp only [List.mem_cons, List.not_mem_nil, or_false] at hm
    omega
  simp only [e1, Option.bind_some]
  obtain ⟨o, i2, h2, hE, hlen, hb, c2⟩ := spec_l1Bytes_ev l hl i1 h1 c1 n hn.1 (by omega)
  exact ⟨o, i2, h2, Ev.bind hE (ev_some _), by omega, hb, c2⟩
attribute [local irreducible] spec_l1Some.f

theorem spec_DrawPutSum_ev (l : List Int) (hl : l.length ≤ 1048576) : ∃ b : List Int, Ev (fun k => spec_DrawPutSum.f k l) b ∧ b.length ≤ 9 ∧ IsB b := by
  unfold spec_DrawPutSum.f
  obtain ⟨r, hr⟩ := spec_l1New_ev l hl
  obtain ⟨b, i1, h1, hE, hlen, hb, c1⟩ := spec_l1Some_ev l hl 0 r (Cur.start l)
  exact ⟨b, Ev.bind hr (Ev.bind hE (ev_some _)), hlen, hb⟩
attribute [local irreducible] spec_DrawPutSum.f

theorem laws_at_ok (l : List Int) (hl : l.length ≤ 1048576) (hb : IsB l) (i : Int) (h0 : 0 ≤ i) (h1 : i ≤ 1000) : ∃ x : Int, laws_at.f l i = some x ∧ 0 ≤ x ∧ x ≤ 255 := by
  unfold laws_at.f
  by_cases h : i < (l.length : Int)
  · rw [if_pos h, if_pos h0]
    obtain ⟨g0, g1⟩ := rd_isB hb i
    exact ⟨_, rfl, by rw [w64 (by omega) (by omega)]; omega, by rw [w64 (by omega) (by omega)]; omega⟩
  · rw [if_neg h]
    have w1 : wrap64 (i * 31) = i * 31 := w64 (by omega) (by omega)
    have w2 : wrap64 ((l.length : Int) * 7) = (l.length : Int) * 7 := w64 (by omega) (by omega)
    rw [w1, w2]
    clear w1 w2
    rw [w64 (by omega) (by omega), Int.tmod_eq_emod_of_nonneg (by omega)]
    exact ⟨_, rfl, by omega, by omega⟩
attribute [local irreducible] laws_at.f

theorem laws_sameBytes_l0 (a b : List Int) (he : a.length = b.length) (h : a.length ≤ 9223372036854775806) : ∀ i : Nat, i ≤ a.length → Ev (fun k => laws_sameBytes.l0 k a b (i : Int)) (decide (a.drop i = b.drop i)) := by
  refine up_ind a.length (fun i : Nat => Ev (fun k => laws_sameBytes.l0 k a b (i : Int)) (decide (a.drop i = b.drop i))) ?_ ?_
  · refine ev_succ ?_
    have h1 : ¬ ((a.length : Int) < (a.length : Int)) := by omega
    simp only [laws_sameBytes.l0.eq_2, h1, if_false]
    rw [decide_eq_true (by rw [List.drop_eq_nil_of_le (Nat.le_refl _), List.drop_eq_nil_of_le (by omega)])]
    exact ev_some _
  · intro i hi ih
    refine ev_succ ?_
    have hib : i < b.length := by omega
    have h1 : (i : Int) < (a.length : Int) := by omega
    have h2 : (0 : Int) ≤ (i : Int) := by omega
    have h3 : (i : Int) < (b.length : Int) := by omega
    simp only [laws_sameBytes.l0.eq_2, h1, h2, h3, if_true, rd_nat a i hi, rd_nat b i hib, wsucc (show i < 9223372036854775807 by omega)]
    rw [List.drop_eq_getElem_cons hi, List.drop_eq_getElem_cons hib]
    by_cases hv : a[i] = b[i]
    · simp only [hv, if_true, List.cons.injEq, true_and]
      exact ih
    · simp only [hv, if_false, List.cons.injEq, false_and, decide_false]
      exact ev_some _
theorem laws_sameBytes_ev (a b : List Int) (h : a.length ≤ 9223372036854775806) : Ev (fun k => laws_sameBytes.f k a b) (decide (a = b)) := by
  unfold laws_sameBytes.f
  by_cases he : a.length = b.length
  · have h1 : (a.length : Int) = (b.length : Int) := by omega
    simp only [h1, if_true]
    simpa using laws_sameBytes_l0 a b he h 0 (by omega)
  · have h1 : ¬ ((a.length : Int) = (b.length : Int)) := by omega
    simp only [h1, if_false]
    rw [decide_eq_false (fun e => he (by rw [e]))]
    exact ev_some _
attribute [local irreducible] laws_sameBytes.f

--import B
theorem nxor_pow : ∀ n : Fin 256, ∀ j : Fin 8, n.val ^^^ 2 ^ j.val ≠ n.val ∧ n.val ^^^ 2 ^ j.val < 256 := by decide +kernel
theorem shl_one : ∀ j : Fin 8, shl .u8 1 ((j.val : Nat) : Int) = ((2 ^ j.val : Nat) : Int) := by decide +kernel
theorem turn_bit (x : Int) (hx : 0 ≤ x ∧ x ≤ 255) (j : Nat) (hj : j < 8) : bits .xor .u8 x (shl .u8 1 (j : Int)) ≠ x ∧ 0 ≤ bits .xor .u8 x (shl .u8 1 (j : Int)) ∧ bits .xor .u8 x (shl .u8 1 (j : Int)) ≤ 255 := by
  have h1 := shl_one ⟨j, hj⟩
  simp only at h1
  rw [h1]
  obtain ⟨n, rfl⟩ := Int.eq_ofNat_of_zero_le hx.1
  have h2 := nxor_pow ⟨n, by omega⟩ ⟨j, hj⟩
  simp only at h2
  have h3 : 2 ^ j ≤ 128 := by
    have : 2 ^ j ≤ 2 ^ 7 := Nat.pow_le_pow_right (by omega) (by omega)
    omega
  generalize 2 ^ j = p at h2 h3 ⊢
  rw [u8_xor _ _ (by omega) (by omega) (by omega) (by omega)]
  simp only [Int.toNat_natCast]
  generalize n ^^^ p = q at h2 ⊢
  omega
theorem getSum_putSum (b : List Int) : getSum (putSum b) = (b, true) := by
  have hl := putSum_len b
  have e : (putSum b).take ((putSum b).length - 4) = b := by
    rw [hl, show b.length + 4 - 4 = b.length by omega]
    unfold putSum
    rw [List.take_left]
  unfold getSum
  rw [if_neg (by omega), e, if_pos rfl]
theorem getSum_turned (b : List Int) (hb : IsB b) (i : Nat) (hi : i < (putSum b).length) (v : Int) (hv : 0 ≤ v ∧ v ≤ 255) (hne : v ≠ (putSum b)[i]) : (getSum ((putSum b).set i v)).2 = false := by
  have hl := putSum_len b
  unfold getSum
  rw [List.length_set, if_neg (by omega), hl, show b.length + 4 - 4 = b.length by omega]
  by_cases hin : i < b.length
  · have e : ((putSum b).set i v).take b.length = b.set i v := by
      unfold putSum
      rw [List.set_append_left _ _ hin, List.take_left' (by rw [List.length_set])]
    have hne2 : v ≠ b[i] := by
      have : (putSum b)[i] = b[i] := by unfold putSum; exact List.getElem_append_left hin
      rw [this] at hne; exact hne
    have h1 := crc_set_ne b i hin v hb hv hne2
    have hb2 : IsB (b.set i v) := fun x hx => by
      rcases List.mem_or_eq_of_mem_set hx with h | h
      · exact hb x h
      · subst h; exact hv
    rw [e, if_neg]
    intro h
    have h2 : (putSum b).set i v = b.set i v ++ sum4 (crc b) := by unfold putSum; rw [List.set_append_left _ _ hin]
    rw [h2] at h
    unfold putSum at h
    exact h1 (sum4_inj (crc_lt _ hb2) (crc_lt _ hb) (List.append_cancel_left h))
  · have e : ((putSum b).set i v).take b.length = b := by
      unfold putSum
      rw [List.set_append_right _ _ (by omega), List.take_left]
    rw [e, if_neg]
    intro h
    have h2 : (putSum b)[i] = ((putSum b).set i v)[i]'(by rw [List.length_set]; exact hi) := by simp only [← h]
    rw [List.getElem_set_self] at h2
    exact hne h2.symm
theorem FnSums : laws_FnSums.Pure := by
  intro l0 hm0 hb0 hw0
  refine Ev.rounds ?_
  unfold laws_FnSums.f
  simp only [laws_big_eq, Option.bind_some]
  by_cases hn0 : (l0.length : Int) > 1048576
  · simp only [hn0, decide_true, if_true]; exact ev_some _
  simp only [hn0, decide_false, Bool.false_eq_true, if_false]
  have hl : l0.length ≤ 1048576 := by omega
  have hb0' := isB_wf hw0
  obtain ⟨b, hE1, hlb, hbb⟩ := spec_DrawPutSum_ev l0 hl
  obtain ⟨x2, e2, x20, x21⟩ := laws_at_ok l0 hl hb0' 2 (by omega) (by omega)
  obtain ⟨x3, e3, x30, x31⟩ := laws_at_ok l0 hl hb0' 3 (by omega) (by omega)
  have hpb := putSum_isB hbb
  have hpl := putSum_len b
  have hclt := crc_lt b hbb
  refine Ev.bind hE1 (Ev.bind (impl_PutSum_ev b (by omega) hbb) (Ev.bind (impl_GetSum_ev _ (by omega) hpb) ?_))
  have q1 : ((putSum b).length : Int) = wrap64 ((b.length : Int) + 4) := by rw [w64 (by omega) (by omega)]; omega
  have q2 : ¬ (((putSum b).length : Int) = 0) := by omega
  have hmod : ∃ i : Nat, Int.tmod x2 ((putSum b).length : Int) = (i : Int) ∧ i < (putSum b).length := by
    rw [Int.tmod_eq_emod_of_nonneg x20]
    have h1 := Int.emod_nonneg x2 q2
    have h2 := Int.emod_lt_of_pos x2 (show (0 : Int) < ((putSum b).length : Int) by omega)
    exact ⟨(x2 % ((putSum b).length : Int)).toNat, by omega, by omega⟩
  have hmod8 : ∃ j : Nat, IntKind.u64.wrap (Int.tmod x3 8) = (j : Int) ∧ j < 8 := by
    rw [Int.tmod_eq_emod_of_nonneg x30]
    refine ⟨(x3 % 8).toNat, ?_, by omega⟩
    rw [IntKind.wrap_u64]
    omega
  obtain ⟨i, hi, hil⟩ := hmod
  obtain ⟨j, hj, hj8⟩ := hmod8
  have q3 : (0 : Int) ≤ (i : Int) := by omega
  have q4 : (i : Int) < ((putSum b).length : Int) := by omega
  have q5 : (0 : Int) ≤ (j : Int) := by omega
  obtain ⟨t1, t2, t3⟩ := turn_bit ((putSum b)[i]) (hpb.get i hil) j hj8
  simp only [if_pos q1, e2, e3, Option.bind_some, hi, hj, q2, if_false, q3, q4, q5, if_true, rd_nat _ i hil, Int.toNat_natCast]
  have hset : IsB ((putSum b).set i (bits .xor .u8 (putSum b)[i] (shl .u8 1 (j : Int)))) := fun x hx => by
    rcases List.mem_or_eq_of_mem_set hx with h | h
    · exact hpb x h
    · subst h; exact ⟨t2, t3⟩
  refine Ev.bind (impl_GetSum_ev _ (by rw [List.length_set]; omega) hset) ?_
  refine Ev.bind (impl_Crc_ev b (by omega) hbb) ?_
  simp only [getSum_putSum, if_true, getSum_turned b hbb i hil _ ⟨t2, t3⟩ t1]
  refine Ev.bind (laws_sameBytes_ev b b (by omega)) ?_
  have q6 : ((crc b : Nat) : Int) ≥ 0 := by omega
  have q7 : ((crc b : Nat) : Int) ≤ 4294967295 := by omega
  simp only [decide_true, if_true, Bool.false_eq_true, if_false, q6, q7]
  exact ev_some _

end Go.Proofs.Yteeokieokbibbaa.Pure

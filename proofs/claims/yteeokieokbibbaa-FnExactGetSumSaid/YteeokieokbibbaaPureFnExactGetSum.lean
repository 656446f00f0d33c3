/- GetSum answers as the reference does, whatever the bytes; its answer is new memory, and the bytes stay as they are. No condition. -/
import Derived.Test.YteeokieokbibbaaPFnExactGetSumx3
import Derived.Test.YteeokieokbibbaaM
import Derived.Test.YteeokieokbibbaaB
namespace Go.Proofs.Yteeokieokbibbaa.Pure
open Go.RowKit Go.Proofs.Yteeokieokbibbaa.PFnExactGetSum Go.Proofs.YteeokieokbibbaaW.PrintWords Go.Proofs.YteeokieokbibbaaW.PrintLast Go.Proofs.YteeokieokbibbaaW.PrintMore Go.Proofs.YteeokieokbibbaaM
set_option linter.unusedVariables false
set_option linter.unusedSimpArgs false

theorem laws_toByteS_l0 (l : List Int) (h : l.length ≤ 1048576) : ∀ i, i ≤ l.length → ∀ xs : List Int, xs.length = l.length →
    Ev (fun k => laws_toByteS.l0 k l xs (i : Int)) (xs.take i ++ l.drop i) := by
  refine up_ind l.length (fun i => ∀ xs : List Int, xs.length = l.length → Ev (fun k => laws_toByteS.l0 k l xs (i : Int)) (xs.take i ++ l.drop i)) ?_ ?_
  · intro xs hx
    refine ev_succ ?_
    have h1 : ¬ ((l.length : Int) < (l.length : Int)) := by omega
    simp only [laws_toByteS.l0.eq_2, h1, if_false]
    rw [List.take_of_length_le (by omega), List.drop_eq_nil_of_le (by omega)]
    simpa using ev_some xs
  · intro i hi ih xs hx
    refine ev_succ ?_
    have h1 : (i : Int) < (l.length : Int) := by omega
    have h2 : (0 : Int) ≤ (i : Int) := by omega
    have h3 : (i : Int) < (xs.length : Int) := by omega
    simp only [laws_toByteS.l0.eq_2, h1, h2, h3, if_true, rd_nat l i hi, Int.toNat_natCast, wsucc (show i < 9223372036854775807 by omega)]
    have := ih (xs.set i l[i]) (by simp [hx])
    rw [take_set_succ _ _ _ (by omega)] at this
    rw [List.drop_eq_getElem_cons hi]
    simpa using this
theorem laws_toByteS_ev (l : List Int) (h : l.length ≤ 1048576) : Ev (fun k => laws_toByteS.f k l) l := by
  unfold laws_toByteS.f
  have h1 : (0 : Int) ≤ (l.length : Int) := by omega
  have h2 : l.length ≤ 281474976710656 := by omega
  simp only [h1, h2, if_true, Int.toNat_natCast]
  simpa using laws_toByteS_l0 l h 0 (by omega) (List.replicate l.length 0) (by simp)
attribute [local irreducible] laws_toByteS.f

theorem laws_eqByteS_l0 (l : List Int) (h : l.length ≤ 9223372036854775807) : ∀ i, i ≤ l.length → Ev (fun k => laws_eqByteS.l0 k l l (i : Int)) true := by
  refine up_ind l.length (fun i => Ev (fun k => laws_eqByteS.l0 k l l (i : Int)) true) ?_ ?_
  · refine ev_succ ?_
    have h1 : ¬ ((l.length : Int) < (l.length : Int)) := by omega
    simp only [laws_eqByteS.l0.eq_2, h1, if_false]
    exact ev_some _
  · intro i hi ih
    refine ev_succ ?_
    have h1 : (i : Int) < (l.length : Int) := by omega
    have h2 : (0 : Int) ≤ (i : Int) := by omega
    simp only [laws_eqByteS.l0.eq_2, h1, h2, if_true, wsucc (show i < 9223372036854775807 by omega)]
    exact ih
theorem laws_eqByteS_ev (l : List Int) (h : l.length ≤ 9223372036854775807) : Ev (fun k => laws_eqByteS.f k l l) true := by
  unfold laws_eqByteS.f
  simp only [if_true]
  exact laws_eqByteS_l0 l h 0 (by omega)
attribute [local irreducible] laws_eqByteS.f

theorem laws_markByteS_l0 (n : Nat) (hn : n ≤ 4294967296) (a : Int) (ha : 0 ≤ a ∧ a ≤ 4294967296) : ∀ i, i ≤ n → ∀ xs : List Int, xs.length = n →
    Ev (fun k => laws_markByteS.l0 k xs (a + i) (i : Int)) (a + n, xs.take i ++ (marks a n).drop i) := by
  refine up_ind n (fun i => ∀ xs : List Int, xs.length = n → Ev (fun k => laws_markByteS.l0 k xs (a + i) (i : Int)) (a + n, xs.take i ++ (marks a n).drop i)) ?_ ?_
  · intro xs hx
    refine ev_succ ?_
    have h1 : ¬ ((n : Int) < (xs.length : Int)) := by omega
    simp only [laws_markByteS.l0.eq_2, h1, if_false]
    rw [List.take_of_length_le (by omega), List.drop_eq_nil_of_le (by rw [marks_len]; omega), List.append_nil]
    exact ev_some _
  · intro i hi ih xs hx
    refine ev_succ ?_
    have h1 : (i : Int) < (xs.length : Int) := by omega
    have h2 : (0 : Int) ≤ (i : Int) := by omega
    have h3 : wrap64 (a + (i : Int) + 1) = a + ((i + 1 : Nat) : Int) := by rw [w64 (by omega) (by omega)]; omega
    simp only [laws_markByteS.l0.eq_2, h1, h2, h3, if_true, Int.toNat_natCast, wsucc (show i < 9223372036854775807 by omega)]
    have := ih (xs.set i ((a + (i : Int)) % 256)) (by simp [hx])
    rw [take_set_succ _ _ _ (by omega), List.append_assoc] at this
    rw [List.drop_eq_getElem_cons (by rw [marks_len]; exact hi), marks_get]
    exact this
theorem laws_markByteS_ev (l : List Int) (a : Int) (ha : 0 ≤ a ∧ a ≤ 4294967296) (h : l.length ≤ 4294967296) : Ev (fun k => laws_markByteS.f k l a) (a + l.length, marks a l.length) := by
  unfold laws_markByteS.f
  simpa using laws_markByteS_l0 l.length h a ha 0 (by omega) l rfl
attribute [local irreducible] laws_markByteS.f

theorem laws_heldByteS_l0 (n : Nat) (hn : n ≤ 4294967296) (a : Int) (ha : 0 ≤ a ∧ a ≤ 4294967296) : ∀ i, i ≤ n → Ev (fun k => laws_heldByteS.l0 k (marks a n) (a + i) (i : Int)) (a + n) := by
  refine up_ind n (fun i => Ev (fun k => laws_heldByteS.l0 k (marks a n) (a + i) (i : Int)) (a + n)) ?_ ?_
  · refine ev_succ ?_
    have h1 : ¬ ((n : Int) < ((marks a n).length : Int)) := by rw [marks_len]; omega
    simp only [laws_heldByteS.l0.eq_2, h1, if_false]
    exact ev_some _
  · intro i hi ih
    refine ev_succ ?_
    have h0 : i < (marks a n).length := by rw [marks_len]; exact hi
    have h1 : (i : Int) < ((marks a n).length : Int) := by omega
    have h2 : (0 : Int) ≤ (i : Int) := by omega
    have h3 : wrap64 (a + (i : Int) + 1) = a + ((i + 1 : Nat) : Int) := by rw [w64 (by omega) (by omega)]; omega
    simp only [laws_heldByteS.l0.eq_2, h1, h2, h3, if_true, rd_nat _ i h0, marks_get, wsucc (show i < 9223372036854775807 by omega)]
    exact ih
theorem laws_heldByteS_ev (n : Nat) (a : Int) (ha : 0 ≤ a ∧ a ≤ 4294967296) (h : n ≤ 4294967296) : Ev (fun k => laws_heldByteS.f k (marks a n) a) (a + n) := by
  unfold laws_heldByteS.f
  simpa using laws_heldByteS_l0 n h a ha 0 (by omega)
attribute [local irreducible] laws_heldByteS.f

theorem xor_i64 (a b : Nat) (ha : a < 4294967296) (hb : b < 4294967296) : bits .xor .i64 (a : Int) (b : Int) = ((a ^^^ b : Nat) : Int) := by
  have hx : a ^^^ b < 2 ^ 32 := Nat.xor_lt_two_pow (by omega) (by omega)
  have e : ∀ n : Nat, n < 4294967296 → (BitVec.ofInt 64 (n : Int)).toNat = n := by
    intro n hn
    rw [BitVec.ofInt_natCast, BitVec.toNat_ofNat]; exact Nat.mod_eq_of_lt (by omega)
  show IntKind.i64.wrap ((BitVec.ofInt 64 (a : Int) ^^^ BitVec.ofInt 64 (b : Int)).toNat : Int) = _
  rw [BitVec.toNat_xor, e a ha, e b hb, IntKind.wrap_i64]
  omega
theorem spec_Crc_l1 (l : List Int) (i : Int) (r : Int) : ∀ j : Nat, j ≤ 8 → ∀ x : Nat, x < 4294967296 → Ev (fun k => spec_Crc.l0 k l ((crcN (8 - j) x : Nat) : Int) (wrap64 (i + 1))) r →
    Ev (fun k => spec_Crc.l1 k l (x : Int) i (j : Int)) r := by
  refine up_ind 8 (fun j : Nat => ∀ x : Nat, x < 4294967296 → Ev (fun k => spec_Crc.l0 k l ((crcN (8 - j) x : Nat) : Int) (wrap64 (i + 1))) r → Ev (fun k => spec_Crc.l1 k l (x : Int) i (j : Int)) r) ?_ ?_
  · intro x hx h
    refine ev_succ ?_
    simp only [spec_Crc.l1.eq_2, show ¬ (((8 : Nat) : Int) < 8) by decide, if_false]
    exact h
  · intro j hj ih x hx h
    refine ev_succ ?_
    have h1 : (j : Int) < 8 := by omega
    have h2 : wrap64 ((j : Int) + 1) = ((j + 1 : Nat) : Int) := wsucc (by omega)
    have h3 : bits .and .i64 (x : Int) 1 = ((x % 2 : Nat) : Int) := by rw [and1]; omega
    have h4 : (x : Int) / 2 = ((x / 2 : Nat) : Int) := by omega
    have hs := crcStep_lt hx
    rw [show 8 - j = (8 - (j + 1)) + 1 by omega, crcN] at h
    by_cases ho : x % 2 = 1
    · have h5 : ((x % 2 : Nat) : Int) = 1 := by omega
      have h6 : bits .xor .i64 ((x / 2 : Nat) : Int) 2197175160 = ((crcStep x : Nat) : Int) := by
        have := xor_i64 (x / 2) 2197175160 (by omega) (by omega)
        unfold crcStep; rw [if_pos ho]; exact this
      simp only [spec_Crc.l1.eq_2, h1, h2, h3, h4, h5, h6, if_true]
      exact ih _ hs h
    · have h5 : ¬ (((x % 2 : Nat) : Int) = 1) := by omega
      have h6 : ((x / 2 : Nat) : Int) = ((crcStep x : Nat) : Int) := by unfold crcStep; rw [if_neg ho]
      simp only [spec_Crc.l1.eq_2, h1, h2, h3, h4, h5, h6, if_true, if_false]
      exact ih _ hs h
theorem spec_Crc_l0 (l : List Int) (hl : l.length ≤ 140737488355328) (hb : IsB l) : ∀ i : Nat, i ≤ l.length → ∀ x : Nat, x < 4294967296 →
    Ev (fun k => spec_Crc.l0 k l (x : Int) (i : Int)) (((crcL x (l.drop i) ^^^ 4294967295 : Nat) : Int)) := by
  refine up_ind l.length (fun i : Nat => ∀ x : Nat, x < 4294967296 → Ev (fun k => spec_Crc.l0 k l (x : Int) (i : Int)) (((crcL x (l.drop i) ^^^ 4294967295 : Nat) : Int))) ?_ ?_
  · intro x hx
    refine ev_succ ?_
    have h1 : ¬ ((l.length : Int) < (l.length : Int)) := by omega
    have h2 : bits .xor .i64 (x : Int) 4294967295 = ((x ^^^ 4294967295 : Nat) : Int) := xor_i64 x 4294967295 hx (by omega)
    have hlt : x ^^^ 4294967295 < 4294967296 := Nat.xor_lt_two_pow (n := 32) (by omega) (by omega)
    simp only [spec_Crc.l0.eq_2, h1, if_false, h2]
    rw [List.drop_eq_nil_of_le (by omega)]
    exact ev_some _
  · intro i hi ih x hx
    refine ev_succ ?_
    have h1 : (i : Int) < (l.length : Int) := by omega
    have h2 : (0 : Int) ≤ (i : Int) := by omega
    obtain ⟨g0, g1⟩ := hb.get i hi
    have h3 : bits .xor .i64 (x : Int) (wrap64 l[i]) = ((x ^^^ l[i].toNat : Nat) : Int) := by
      rw [w64 (by omega) (by omega), show l[i] = ((l[i].toNat : Nat) : Int) by omega]
      exact xor_i64 _ _ hx (by omega)
    have hlt : x ^^^ l[i].toNat < 4294967296 := Nat.xor_lt_two_pow (n := 32) (by omega) (by omega)
    simp only [spec_Crc.l0.eq_2, h1, h2, if_true, rd_nat l i hi, h3]
    rw [List.drop_eq_getElem_cons hi, crcL_cons]
    refine spec_Crc_l1 l _ _ 0 (by omega) _ hlt ?_
    rw [wsucc (by omega)]
    have := ih (crcByte x l[i].toNat) (crcByte_lt hx (by omega))
    rw [crcByte_eq] at this ⊢
    exact this
theorem spec_Crc_ev (l : List Int) (hl : l.length ≤ 140737488355328) (hb : IsB l) : Ev (fun k => spec_Crc.f k l) ((crc l : Nat) : Int) := by
  unfold spec_Crc.f crc
  exact spec_Crc_l0 l hl hb 0 (by omega) 4294967295 (by omega)
attribute [local irreducible] spec_Crc.f

theorem spec_GetSum_l0 (l : List Int) (hl : 4 ≤ l.length) (hl2 : l.length ≤ 140737480000000) (hb : IsB l) :
    Ev (fun k => spec_GetSum.l0 k l ((l.length - 4 : Nat) : Int) 0 ((l.length - 4 : Nat) : Int)) (getSum l) := by
  obtain ⟨a, b, c, d, hd⟩ : ∃ a b c d, l.drop (l.length - 4) = [a, b, c, d] := by
    have : (l.drop (l.length - 4)).length = 4 := by rw [List.length_drop]; omega
    match h : l.drop (l.length - 4), this with
    | [a, b, c, d], _ => exact ⟨a, b, c, d, rfl⟩
  have hg : ∀ j, j < 4 → l[l.length - 4 + j]? = [a, b, c, d][j]? := by
    intro j hj; rw [← hd, List.getElem?_drop]
  have hat : ∀ (j : Nat) (v : Int), j < 4 → [a, b, c, d][j]? = some v → rd l ((l.length - 4 + j : Nat) : Int) = v ∧ 0 ≤ v ∧ v ≤ 255 := by
    intro j v hj hv
    have h1 := hg j hj
    rw [hv] at h1
    have h2 : l.length - 4 + j < l.length := by omega
    rw [List.getElem?_eq_getElem h2] at h1
    have h3 := Option.some.inj h1
    rw [rd_nat l _ h2, h3]
    have := hb.get _ h2
    rw [h3] at this
    exact ⟨rfl, this⟩
  obtain ⟨ra, a0, a1⟩ := hat 0 a (by omega) rfl
  obtain ⟨rb, b0, b1⟩ := hat 1 b (by omega) rfl
  obtain ⟨rc, c0, c1⟩ := hat 2 c (by omega) rfl
  obtain ⟨rdd, d0, d1⟩ := hat 3 d (by omega) rfl
  have step : ∀ (j : Nat) (x v : Int) (r : List Int × Bool), j < 4 → rd l ((l.length - 4 + j : Nat) : Int) = v → 0 ≤ v → v ≤ 255 → 0 ≤ x → x < 16777216 →
      Ev (fun k => spec_GetSum.l0 k l ((l.length - 4 : Nat) : Int) (x * 256 + v) ((l.length - 4 + (j + 1) : Nat) : Int)) r →
      Ev (fun k => spec_GetSum.l0 k l ((l.length - 4 : Nat) : Int) x ((l.length - 4 + j : Nat) : Int)) r := by
    intro j x v r hj hr v0 v1 x0 x1 h
    refine ev_succ ?_
    have h1 : ((l.length - 4 + j : Nat) : Int) < (l.length : Int) := by omega
    have h2 : (0 : Int) ≤ ((l.length - 4 + j : Nat) : Int) := by omega
    have h3 : wrap64 (x * 256) = x * 256 := w64 (by omega) (by omega)
    have h4 : wrap64 v = v := w64 (by omega) (by omega)
    simp only [spec_GetSum.l0.eq_2, h1, h2, if_true, hr, h3, h4, or_hi_lo x v x0 (by omega) v0 v1, wsucc (show l.length - 4 + j < 9223372036854775807 by omega)]
    exact h
  refine step 0 0 a _ (by omega) ra a0 a1 (by omega) (by omega) ?_
  refine step 1 _ b _ (by omega) rb b0 b1 (by omega) (by omega) ?_
  refine step 2 _ c _ (by omega) rc c0 c1 (by omega) (by omega) ?_
  refine step 3 _ d _ (by omega) rdd d0 d1 (by omega) (by omega) ?_
  refine ev_succ ?_
  have h1 : ¬ (((l.length - 4 + (3 + 1) : Nat) : Int) < (l.length : Int)) := by omega
  have h2 : (0 : Int) ≤ ((l.length - 4 : Nat) : Int) := by omega
  have h3 : ((l.length - 4 : Nat) : Int) ≤ (l.length : Int) := by omega
  have h4 : (l.take (l.length - 4)).length ≤ 140737480000000 := by rw [List.length_take]; omega
  simp only [spec_GetSum.l0.eq_2, h1, h2, h3, if_true, if_false, Int.toNat_natCast]
  refine Ev.bind (spec_Crc_ev _ (by omega) (hb.take _)) ?_
  have hlt := crc_lt _ (hb.take (l.length - 4))
  have h5 : ([] : List Int).length + (l.take (l.length - 4)).length < 140737488355328 := by simp only [List.length_nil]; omega
  have key : (((((0 : Int) * 256 + a) * 256 + b) * 256 + c) * 256 + d = ((crc (l.take (l.length - 4)) : Nat) : Int)) ↔ putSum (l.take (l.length - 4)) = l := by
    unfold putSum
    have hl' : l = l.take (l.length - 4) ++ [a, b, c, d] := by rw [← hd, List.take_append_drop]
    have : (l.take (l.length - 4) ++ sum4 (crc (l.take (l.length - 4))) = l) ↔ sum4 (crc (l.take (l.length - 4))) = [a, b, c, d] := by
      constructor
      · intro h
        have h6 := h.trans hl'
        exact List.append_cancel_left h6
      · intro h; rw [h]; exact hl'.symm
    rw [this]
    unfold sum4
    simp only [List.cons.injEq, and_true]
    omega
  have g1 : ¬ (l.length < 4) := by omega
  unfold getSum
  rw [if_neg g1]
  by_cases hs : putSum (l.take (l.length - 4)) = l
  · rw [if_pos hs, if_pos (key.2 hs)]
    simp only [Option.bind_some, h5, if_true, List.nil_append]; exact ev_some _
  · rw [if_neg hs, if_neg (fun h => hs (key.1 h))]
    exact ev_some _
theorem spec_GetSum_ev (l : List Int) (hl : l.length ≤ 140737480000000) (hb : IsB l) : Ev (fun k => spec_GetSum.f k l) (getSum l) := by
  unfold spec_GetSum.f
  by_cases h4 : l.length < 4
  · have h : wrap64 ((l.length : Int) - 4) < 0 := by rw [w64 (by omega) (by omega)]; omega
    simp only [h, if_true]; unfold getSum; rw [if_pos h4]; exact ev_some _
  · have e : wrap64 ((l.length : Int) - 4) = ((l.length - 4 : Nat) : Int) := by rw [w64 (by omega) (by omega)]; omega
    have h : ¬ (((l.length - 4 : Nat) : Int) < 0) := by omega
    simp only [e, h, if_false]
    exact spec_GetSum_l0 l (by omega) hl hb
attribute [local irreducible] spec_GetSum.f

theorem impl_copyBytes_eq (l : List Int) (h : l.length < 140737488355328) : impl_copyBytes.f l = some l := by
  unfold impl_copyBytes.f
  simp only [List.length_nil, Nat.zero_add, List.nil_append]
  rw [if_pos h]
attribute [local irreducible] impl_copyBytes.f

theorem xor_u32 (a b : Nat) (ha : a < 4294967296) (hb : b < 4294967296) : bits .xor .u32 (a : Int) (b : Int) = ((a ^^^ b : Nat) : Int) := u32_xor_nat a b ha hb
theorem impl_Crc_l1 (l : List Int) (n i : Int) (r : Int) : ∀ j : Nat, j ≤ 8 → ∀ x : Nat, x < 4294967296 → Ev (fun k => impl_Crc.l0 k ((crcN (8 - j) x : Nat) : Int) l n (wrap64 (i + 1))) r →
    Ev (fun k => impl_Crc.l1 k (x : Int) l n i (j : Int)) r := by
  refine up_ind 8 (fun j : Nat => ∀ x : Nat, x < 4294967296 → Ev (fun k => impl_Crc.l0 k ((crcN (8 - j) x : Nat) : Int) l n (wrap64 (i + 1))) r → Ev (fun k => impl_Crc.l1 k (x : Int) l n i (j : Int)) r) ?_ ?_
  · intro x hx h
    refine ev_succ ?_
    simp only [impl_Crc.l1.eq_2, show ¬ (((8 : Nat) : Int) < 8) by decide, if_false]
    exact h
  · intro j hj ih x hx h
    refine ev_succ ?_
    have h1 : (j : Int) < 8 := by omega
    have h2 : wrap64 ((j : Int) + 1) = ((j + 1 : Nat) : Int) := wsucc (by omega)
    have h3 : bits .and .u32 (x : Int) 1 = ((x % 2 : Nat) : Int) := by
      have := u32_and_nat x 1 hx (by omega)
      rw [Nat.and_one_is_mod] at this
      exact this
    have h4 : (x : Int) / 2 = ((x / 2 : Nat) : Int) := by omega
    have hs := crcStep_lt hx
    rw [show 8 - j = (8 - (j + 1)) + 1 by omega, crcN] at h
    by_cases ho : x % 2 = 1
    · have h5 : ((x % 2 : Nat) : Int) = 1 := by omega
      have h6 : bits .xor .u32 ((x / 2 : Nat) : Int) 2197175160 = ((crcStep x : Nat) : Int) := by
        have := xor_u32 (x / 2) 2197175160 (by omega) (by omega)
        unfold crcStep; rw [if_pos ho]; exact this
      simp only [impl_Crc.l1.eq_2, h1, h2, h3, h4, h5, h6, if_true]
      exact ih _ hs h
    · have h5 : ¬ (((x % 2 : Nat) : Int) = 1) := by omega
      have h6 : ((x / 2 : Nat) : Int) = ((crcStep x : Nat) : Int) := by unfold crcStep; rw [if_neg ho]
      simp only [impl_Crc.l1.eq_2, h1, h2, h3, h4, h5, h6, if_true, if_false]
      exact ih _ hs h
theorem impl_Crc_l0 (l : List Int) (hl : l.length ≤ 140737488355328) (hb : IsB l) : ∀ i : Nat, i ≤ l.length → ∀ x : Nat, x < 4294967296 →
    Ev (fun k => impl_Crc.l0 k (x : Int) l (l.length : Int) (i : Int)) (((crcL x (l.drop i) ^^^ 4294967295 : Nat) : Int)) := by
  refine up_ind l.length (fun i : Nat => ∀ x : Nat, x < 4294967296 → Ev (fun k => impl_Crc.l0 k (x : Int) l (l.length : Int) (i : Int)) (((crcL x (l.drop i) ^^^ 4294967295 : Nat) : Int))) ?_ ?_
  · intro x hx
    refine ev_succ ?_
    have h1 : ¬ ((l.length : Int) < (l.length : Int)) := by omega
    have h2 : bits .xor .u32 4294967295 (x : Int) = ((x ^^^ 4294967295 : Nat) : Int) := by
      rw [Nat.xor_comm]; exact xor_u32 4294967295 x (by omega) hx
    have hlt : x ^^^ 4294967295 < 4294967296 := Nat.xor_lt_two_pow (n := 32) (by omega) (by omega)
    simp only [impl_Crc.l0.eq_2, h1, if_false, h2]
    rw [w64 (by omega) (by omega), List.drop_eq_nil_of_le (by omega)]
    exact ev_some _
  · intro i hi ih x hx
    refine ev_succ ?_
    have h1 : (i : Int) < (l.length : Int) := by omega
    have h2 : (0 : Int) ≤ (i : Int) := by omega
    obtain ⟨g0, g1⟩ := hb.get i hi
    have h3 : bits .xor .u32 (x : Int) (l[i] % 4294967296) = ((x ^^^ l[i].toNat : Nat) : Int) := by
      rw [show l[i] % 4294967296 = ((l[i].toNat : Nat) : Int) by omega]
      exact xor_u32 _ _ hx (by omega)
    have hlt : x ^^^ l[i].toNat < 4294967296 := Nat.xor_lt_two_pow (n := 32) (by omega) (by omega)
    simp only [impl_Crc.l0.eq_2, h1, h2, if_true, rd_nat l i hi, h3]
    rw [List.drop_eq_getElem_cons hi, crcL_cons]
    refine impl_Crc_l1 l _ _ _ 0 (by omega) _ hlt ?_
    rw [wsucc (by omega)]
    have := ih (crcByte x l[i].toNat) (crcByte_lt hx (by omega))
    rw [crcByte_eq] at this ⊢
    exact this
theorem impl_Crc_ev (l : List Int) (hl : l.length ≤ 140737488355328) (hb : IsB l) : Ev (fun k => impl_Crc.f k l) ((crc l : Nat) : Int) := by
  unfold impl_Crc.f crc
  exact impl_Crc_l0 l hl hb 0 (by omega) 4294967295 (by omega)
attribute [local irreducible] impl_Crc.f

theorem impl_addSum_ev (l : List Int) (hl : l.length ≤ 140737480000000) (hb : IsB l) : Ev (fun k => impl_addSum.f k l) (putSum l) := by
  unfold impl_addSum.f
  refine Ev.bind (impl_Crc_ev l (by omega) hb) ?_
  have h1 : l.length + [(crc l : Int) / 16777216 % 256, (crc l : Int) / 65536 % 256, (crc l : Int) / 256 % 256, (crc l : Int) % 256].length < 140737488355328 := by simp; omega
  simp only [Option.bind_some, h1, if_true]
  exact ev_some _
attribute [local irreducible] impl_addSum.f

theorem impl_PutSum_ev (l : List Int) (hl : l.length ≤ 140737480000000) (hb : IsB l) : Ev (fun k => impl_PutSum.f k l) (putSum l) := by
  unfold impl_PutSum.f
  simp only [impl_copyBytes_eq l (by omega), Option.bind_some]
  exact Ev.bind (impl_addSum_ev l hl hb) (ev_some _)
attribute [local irreducible] impl_PutSum.f

theorem impl_GetSum_ev (l : List Int) (hl : l.length ≤ 140737480000000) (hb : IsB l) : Ev (fun k => impl_GetSum.f k l) (getSum l) := by
  unfold impl_GetSum.f getSum
  by_cases h4 : l.length < 4
  · have h : (l.length : Int) < 4 := by omega
    simp only [h, h4, if_true]; exact ev_some _
  · have h : ¬ ((l.length : Int) < 4) := by omega
    have e : wrap64 ((l.length : Int) - 4) = ((l.length - 4 : Nat) : Int) := by rw [w64 (by omega) (by omega)]; omega
    have h1 : (0 : Int) ≤ ((l.length - 4 : Nat) : Int) := by omega
    have h2 : ((l.length - 4 : Nat) : Int) ≤ (l.length : Int) := by omega
    have h3 : (l.take (l.length - 4)).length ≤ 140737480000000 := by rw [List.length_take]; omega
    simp only [h, h4, e, h1, h2, if_true, if_false, Int.toNat_natCast, impl_copyBytes_eq (l.take (l.length - 4)) (by omega), Option.bind_some]
    refine Ev.bind (impl_PutSum_ev _ h3 (hb.take _)) ?_
    simp only [strOfNums_inj (putSum_isB (hb.take _)) hb]
    by_cases hs : putSum (l.take (l.length - 4)) = l
    · simp only [hs, if_true]; exact ev_some _
    · simp only [hs, if_false]; exact ev_some _
attribute [local irreducible] impl_GetSum.f

--import B
theorem getSum_len (l : List Int) : (getSum l).1.length ≤ l.length := by
  unfold getSum; split
  · simp
  · split
    · simp only [List.length_take]; omega
    · simp
theorem FnExactGetSum : laws_FnExactGetSum.Pure := by
  intro l0 hm0 hb0 hw0
  refine Ev.rounds ?_
  unfold laws_FnExactGetSum.f
  by_cases hn0 : (l0.length : Int) > 1048576
  · simp only [hn0, if_true]; exact ev_some _
  simp only [hn0, if_false]
  have hb := isB_wf hw0
  have hl : l0.length ≤ 1048576 := by omega
  have hR : (getSum l0).1.length ≤ 4294967296 := by have := getSum_len l0; omega
  refine Ev.bind (laws_toByteS_ev l0 hl) ?_
  refine Ev.bind (spec_GetSum_ev l0 (by omega) hb) ?_
  refine Ev.bind (laws_toByteS_ev l0 hl) ?_
  refine Ev.bind (impl_GetSum_ev l0 (by omega) hb) ?_
  refine Ev.bind (laws_eqByteS_ev _ (by omega)) ?_
  simp only [if_true, bne_self_eq_false]
  refine ev_succ ?_
  simp only [laws_FnExactGetSum.j0.eq_2, Bool.false_eq_true, if_false]
  refine Ev.bind (laws_toByteS_ev l0 hl) ?_
  refine Ev.bind (laws_eqByteS_ev _ (by omega)) ?_
  simp only [if_true]
  refine Ev.bind (laws_markByteS_ev l0 1 (by omega) (by omega)) ?_
  have m1 : ¬ ((1 : Int) + (l0.length : Int) < 0) := by omega
  simp only [m1, if_false]
  refine Ev.bind (laws_eqByteS_ev _ (by omega)) ?_
  simp only [if_true, bne_self_eq_false]
  refine ev_succ ?_
  simp only [laws_FnExactGetSum.j1.eq_2, Bool.false_eq_true, if_false]
  refine Ev.bind (laws_markByteS_ev _ 1 (by omega) hR) ?_
  refine Ev.bind (laws_heldByteS_ev _ 1 (by omega) hR) ?_
  have m2 : ¬ ((1 : Int) + ((getSum l0).1.length : Int) < 0) := by omega
  simp only [m2, if_false, if_true]
  refine Ev.bind (laws_toByteS_ev l0 hl) ?_
  refine Ev.bind (impl_GetSum_ev l0 (by omega) hb) ?_
  refine Ev.bind (laws_eqByteS_ev _ (by omega)) ?_
  simp only [if_true, bne_self_eq_false]
  refine ev_succ ?_
  simp only [laws_FnExactGetSum.j2.eq_2, Bool.false_eq_true, if_false]
  refine Ev.bind (laws_heldByteS_ev _ 1 (by omega) hR) ?_
  simp only [m2, if_false, if_true]
  exact ev_some _

end Go.Proofs.Yteeokieokbibbaa.Pure

/- Numbers of four bytes come back of their bytes, the nearest where they are none; their bytes stand in their order. No condition. -/
import Derived.Test.YtefaalelkbbnkaaPFnFixesx2
import Derived.Test.YtefaalelkbbnkaaM
import Derived.Test.YtefaalelkbbnkaaB
import Derived.Test.YtefaalelkbbnkaaO
namespace Go.Proofs.Ytefaalelkbbnkaa.Pure
open Go.RowKit Go.Proofs.Ytefaalelkbbnkaa.PFnFixes Go.Proofs.YtefaalelkbbnkaaW.PrintWords Go.Proofs.YtefaalelkbbnkaaW.PrintLast Go.Proofs.YtefaalelkbbnkaaW.PrintMore Go.Proofs.YtefaalelkbbnkaaM
set_option linter.unusedVariables false
set_option linter.unusedSimpArgs false

theorem impl_copyBytes_eq (l : List Int) (h : l.length < 140737488355328) : impl_copyBytes.f l = some l := by
  unfold impl_copyBytes.f
  simp only [List.length_nil, Nat.zero_add, List.nil_append]
  rw [if_pos h]

theorem impl_addBytes_l0 (n : Nat) (t : Bool) (c : Nat) : ∀ o : List Int, c ≤ 7 → o.length + c < 140737488355328 →
    Ev (fun k => impl_addBytes.l0 k o (n : Int) (if t = true then 255 else 0) ((c : Int) - 1)) (o ++ (beB n c).map fun x => if t = true then 255 - x else x) := by
  induction c with
  | zero =>
    intro o _ _
    refine ev_succ ?_
    have h1 : ¬ (((0 : Nat) : Int) - 1 ≥ 0) := by decide
    simp only [impl_addBytes.l0.eq_2, h1, if_false, beB, List.map_nil, List.append_nil]
    exact ev_some _
  | succ c ih =>
    intro o hc ho
    refine ev_succ ?_
    have e1 : ((c + 1 : Nat) : Int) - 1 = (c : Int) := by omega
    have h1 : (c : Int) ≥ 0 := by omega
    have h2 : wrap64 (8 * (c : Int)) = ((8 * c : Nat) : Int) := by rw [w64 (by omega) (by omega)]; omega
    have h3 : (0 : Int) ≤ ((8 * c : Nat) : Int) := by omega
    have h4 : o.length < 140737488355328 := by omega
    have h5 : wrap64 ((c : Int) - 1) = (c : Int) - 1 := w64 (by omega) (by omega)
    have h6 : shr .i64 (n : Int) ((8 * c : Nat) : Int) % 256 = ((n / 256 ^ c % 256 : Nat) : Int) := by
      unfold shr
      rw [Int.toNat_natCast, show min (8 * c) IntKind.i64.bits = 8 * c from Nat.min_eq_left (by simp [IntKind.bits]; omega), Nat.pow_mul' 2 8 c |> fun e => show (2 : Int) ^ (8 * c) = ((256 ^ c : Nat) : Int) by rw [Int.pow_mul]; simp]
      omega
    have h7 : bits .xor .u8 ((n / 256 ^ c % 256 : Nat) : Int) (if t = true then 255 else 0) = if t = true then 255 - ((n / 256 ^ c % 256 : Nat) : Int) else ((n / 256 ^ c % 256 : Nat) : Int) := by
      cases t with
      | true => simp only [if_true]; exact xor_255 _ (by omega) (by omega)
      | false => simp only [Bool.false_eq_true, if_false]; exact xor0 _ (by omega) (by omega)
    simp only [impl_addBytes.l0.eq_2, e1, h1, h2, h3, h4, h5, h6, h7, if_true]
    have := ih (o ++ [if t = true then 255 - ((n / 256 ^ c % 256 : Nat) : Int) else ((n / 256 ^ c % 256 : Nat) : Int)]) (by omega) (by simp only [List.length_append, List.length_cons, List.length_nil]; omega)
    rw [List.append_assoc] at this
    exact this
theorem impl_addBytes_ev (o : List Int) (n : Nat) (c : Nat) (t : Bool) (τ : Int) (hτ : τ = if t = true then 255 else 0) (hc : c ≤ 7) (ho : o.length ≤ 140737480000000) :
    Ev (fun k => impl_addBytes.f k o (n : Int) (c : Int) τ) (o ++ (beB n c).map fun x => if t = true then 255 - x else x) := by
  subst hτ
  unfold impl_addBytes.f
  rw [w64 (by omega) (by omega)]
  exact impl_addBytes_l0 n t c o hc (by omega)

theorem impl_clamp_eq (n lo hi : Int) : impl_clamp.f n lo hi = some (clampN n lo hi) := rfl

theorem impl_addFix_ev (l : List Int) (n : Int) (h : l.length ≤ 140737480000000) : Ev (fun k => impl_addFix.f k l n) (l ++ fixB n) := by
  unfold impl_addFix.f
  have hc := clampN_spec n (-2147483648) 2147483647 (by omega)
  simp only [impl_clamp_eq, Option.bind_some]
  have e : wrap64 (clampN n (-2147483648) 2147483647 + 2147483648) = (((clampN n (-2147483648) 2147483647 + 2147483648).toNat : Nat) : Int) := by rw [w64 (by omega) (by omega)]; omega
  rw [e]
  have := impl_addBytes_ev l (clampN n (-2147483648) 2147483647 + 2147483648).toNat 4 false 0 rfl (by omega) h
  have e2 : (beB (clampN n (-2147483648) 2147483647 + 2147483648).toNat 4).map (fun x : Int => if false = true then 255 - x else x) = fixB n := by
    unfold fixB
    simp only [beB, List.map_cons, List.map_nil, Bool.false_eq_true, if_false, List.cons.injEq, and_true, Nat.pow_zero, Nat.pow_one]
    omega
  rw [e2] at this
  exact Ev.bind this (ev_some _)

theorem impl_PutFix_ev (l : List Int) (n : Int) (h : l.length ≤ 140737480000000) : Ev (fun k => impl_PutFix.f k l n) (l ++ fixB n) := by
  unfold impl_PutFix.f
  simp only [impl_copyBytes_eq l (by omega), Option.bind_some]
  exact Ev.bind (impl_addFix_ev l n h) (ev_some _)

theorem impl_numberAt_l0 (xs : List Int) (hl : xs.length ≤ 7) (hb : IsB xs) (t : Bool) : ∀ i : Nat, i ≤ xs.length → ∀ x : Nat, x < 256 ^ i →
    Ev (fun k => impl_numberAt.l0 k (if t = true then 255 else 0) (x : Int) xs (xs.length : Int) (i : Int)) (((beN x ((xs.drop i).map fun y => if t = true then 255 - y else y) : Nat) : Int), true) := by
  refine up_ind xs.length (fun i : Nat => ∀ x : Nat, x < 256 ^ i → Ev (fun k => impl_numberAt.l0 k (if t = true then 255 else 0) (x : Int) xs (xs.length : Int) (i : Int)) (((beN x ((xs.drop i).map fun y => if t = true then 255 - y else y) : Nat) : Int), true)) ?_ ?_
  · intro x _
    refine ev_succ ?_
    have h1 : ¬ ((xs.length : Int) < (xs.length : Int)) := by omega
    simp only [impl_numberAt.l0.eq_2, h1, if_false]
    rw [List.drop_eq_nil_of_le (by omega)]
    exact ev_some _
  · intro i hi ih x hx
    refine ev_succ ?_
    have h1 : (i : Int) < (xs.length : Int) := by omega
    have h2 : (0 : Int) ≤ (i : Int) := by omega
    have hx7 : x < 281474976710656 := Nat.lt_of_lt_of_le hx (by have := Nat.pow_le_pow_right (show 0 < 256 by omega) (show i ≤ 6 by omega); simpa using this)
    obtain ⟨g0, g1⟩ := hb.get i hi
    have h3 : wrap64 ((x : Int) * 256) = (x : Int) * 256 := w64 (by omega) (by omega)
    have h4 : bits .xor .u8 xs[i] (if t = true then 255 else 0) = if t = true then 255 - xs[i] else xs[i] := by
      cases t with
      | true => simp only [if_true]; exact xor_255 _ g0 g1
      | false => simp only [Bool.false_eq_true, if_false]; exact xor0 _ g0 g1
    have hv : 0 ≤ (if t = true then 255 - xs[i] else xs[i]) ∧ (if t = true then 255 - xs[i] else xs[i]) ≤ 255 := by cases t <;> simp only [if_true, Bool.false_eq_true, if_false] <;> omega
    have h8 : wrap64 ((i : Int) + 1) = ((i + 1 : Nat) : Int) := wsucc (by omega)
    simp only [impl_numberAt.l0.eq_2, h1, h2, if_true, rd_nat xs i hi, h3, h4, h8]
    rw [List.drop_eq_getElem_cons hi, List.map_cons, beN]
    clear h3 h4 h8
    generalize (if t = true then 255 - xs[i] else xs[i]) = v at hv ⊢
    obtain ⟨v, rfl⟩ := Int.eq_ofNat_of_zero_le hv.1
    rw [w64 (by omega) (by omega), or_hi_lo (x : Int) (v : Int) (by omega) (by omega) (by omega) (by omega)]
    have := ih (x * 256 + v) (by rw [Nat.pow_succ]; omega)
    rw [show (x : Int) * 256 + (v : Int) = ((x * 256 + v : Nat) : Int) by omega]
    simpa using this
theorem impl_numberAt_ev (l : List Int) (hl : l.length ≤ 140737488355328) (hb : IsB l) (p : Int) (c : Nat) (hc : c ≤ 7) (t : Bool) (τ : Int) (hτ : τ = if t = true then 255 else 0) (hp : -9223372036854775808 ≤ p ∧ p ≤ 9223372036854775807) :
    Ev (fun k => impl_numberAt.f k l p (c : Int) τ) (readR (readB l p c t)) := by
  subst hτ
  unfold impl_numberAt.f
  by_cases h0 : p < 0
  · simp only [h0, if_true]
    refine ev_succ ?_
    simp only [impl_numberAt.j0.eq_2, if_true]
    rw [readB_neg (by omega)]
    exact ev_some _
  · simp only [h0, if_false]
    have e1 : wrap64 ((l.length : Int) - (c : Int)) = (l.length : Int) - (c : Int) := w64 (by omega) (by omega)
    rw [e1]
    refine ev_succ ?_
    by_cases h1 : p > (l.length : Int) - (c : Int)
    · simp only [impl_numberAt.j0.eq_2, h1, decide_true, if_true]
      rw [readB_neg (by omega)]
      exact ev_some _
    · have e2 : wrap64 (p + (c : Int)) = p + (c : Int) := w64 (by omega) (by omega)
      have a1 : (0 : Int) ≤ p := by omega
      have a2 : p ≤ p + (c : Int) := by omega
      have a3 : p + (c : Int) ≤ (l.length : Int) := by omega
      simp only [impl_numberAt.j0.eq_2, h1, decide_false, Bool.false_eq_true, if_false, e2, a1, a2, a3, if_true, Option.bind_some]
      have e3 : (l.take (p + (c : Int)).toNat).drop p.toNat = (l.drop p.toNat).take c := by
        rw [List.drop_take]; congr 1; omega
      rw [e3]
      have hlen : ((l.drop p.toNat).take c).length = c := by rw [List.length_take, List.length_drop]; omega
      have := impl_numberAt_l0 ((l.drop p.toNat).take c) (by omega) ((hb.drop _).take _) t 0 (by omega) 0 (by decide)
      rw [readB_pos a1 a3]
      exact this

theorem impl_GetFix_ev (l : List Int) (hl : l.length ≤ 140737480000000) (hb : IsB l) (p : Int) (hp : -9223372036854775808 ≤ p ∧ p ≤ 9223372036854775807) : Ev (fun k => impl_GetFix.f k l p) (getFix l p) := by
  unfold impl_GetFix.f getFix
  refine Ev.bind (impl_numberAt_ev l (by omega) hb p 4 (by omega) false 0 rfl hp) ?_
  cases h : readB l p 4 false with
  | none => simp only [readR, Bool.false_eq_true, if_false]; exact ev_some _
  | some n =>
    obtain ⟨h0, h1, hn⟩ := readB_some hb h
    have e1 : wrap64 ((n : Int) - 2147483648) = (n : Int) - 2147483648 := w64 (by omega) (by omega)
    have e2 : wrap64 (p + 4) = p + 4 := w64 (by omega) (by omega)
    simp only [readR, if_true, e1, e2]; exact ev_some _

theorem laws_big_eq (l : List Int) : laws_big.f l = some (decide ((l.length : Int) > 1048576)) := rfl

theorem spec_l1New_l0 (l : List Int) (hl : l.length ≤ 1048576) : ∀ i : Nat, i ≤ l.length → ∀ h : Int, ∃ r : Int, Ev (fun k => spec_l1New.l0 k l h (i : Int)) (l, 0, r) := by
  refine up_ind l.length (fun i : Nat => ∀ h : Int, ∃ r : Int, Ev (fun k => spec_l1New.l0 k l h (i : Int)) (l, 0, r)) ?_ ?_
  · intro h
    refine ⟨h, ev_succ ?_⟩
    have h1 : ¬ ((l.length : Int) < (l.length : Int)) := by omega
    simp only [spec_l1New.l0.eq_2, h1, if_false]
    exact ev_some _
  · intro i hi ih h
    have h1 : (i : Int) < (l.length : Int) := by omega
    have h2 : (0 : Int) ≤ (i : Int) := by omega
    by_cases h4 : (i : Int) < 4000
    · obtain ⟨r, hr⟩ := ih (Go.bits .and .i64 (wrap64 ((wrap64 ((wrap64 (h * 137)) + (wrap64 (rd l (i : Int))))) + 11)) 1073741823)
      refine ⟨r, ev_succ ?_⟩
      simp only [spec_l1New.l0.eq_2, h1, h2, h4, if_true, wsucc (show i < 9223372036854775807 by omega)]
      exact hr
    · refine ⟨h, ev_succ ?_⟩
      simp only [spec_l1New.l0.eq_2, h1, h4, if_true, if_false]
      exact ev_some _
theorem spec_l1New_ev (l : List Int) (hl : l.length ≤ 1048576) : ∃ r : Int, Ev (fun k => spec_l1New.f k l) (l, 0, r) := by
  unfold spec_l1New.f
  exact spec_l1New_l0 l hl 0 (by omega) _
/-- Where a reader of draws stands. -/
def Cur (l : List Int) (i : Int) : Prop := 0 ≤ i ∧ i ≤ l.length
theorem Cur.start (l : List Int) : Cur l 0 := ⟨by omega, by omega⟩

theorem spec_l1Byte_ok (l : List Int) (hl : l.length ≤ 1048576) (i h : Int) (hc : Cur l i) : ∃ x i' h' : Int, spec_l1Byte.f l i h = some (x, i', h') ∧ 0 ≤ x ∧ x ≤ 255 ∧ Cur l i' := by
  unfold spec_l1Byte.f
  obtain ⟨c0, c1⟩ := hc
  by_cases h1 : i < (l.length : Int)
  · rw [if_pos h1, if_pos c0, w64 (x := i + 1) (by omega) (by omega)]
    refine ⟨_, _, _, rfl, ?_, ?_, ?_, ?_⟩
    · rw [and255]; omega
    · rw [and255]; omega
    · omega
    · omega
  · rw [if_neg h1]
    refine ⟨_, _, _, rfl, ?_, ?_, ?_, ?_⟩
    · rw [and255]; omega
    · rw [and255]; omega
    · omega
    · omega

theorem spec_l1Below_ok (l : List Int) (hl : l.length ≤ 1048576) (i h : Int) (hc : Cur l i) (n : Int) : ∃ x i' h' : Int, spec_l1Below.f l i h n = some (x, i', h') ∧ 0 ≤ x ∧ (0 < n → x < n) ∧ (n ≤ 0 → x = 0) ∧ Cur l i' := by
  unfold spec_l1Below.f
  by_cases h0 : n ≤ 0
  · rw [if_pos h0]
    exact ⟨0, i, h, rfl, by omega, by omega, fun _ => rfl, hc⟩
  · rw [if_neg h0]
    have hn : ¬ (n = 0) := by omega
    obtain ⟨x, i1, h1, e1, x0, x1, c1⟩ := spec_l1Byte_ok l hl i h hc
    by_cases h256 : n ≤ 256
    · rw [if_pos h256, e1]
      simp only [Option.bind_some, hn, if_false]
      refine ⟨_, _, _, rfl, ?_, ?_, by omega, c1⟩
      · exact Int.tmod_nonneg _ x0
      · intro hp; exact Int.tmod_lt_of_pos _ hp
    · obtain ⟨y, i2, h2, e2, y0, y1, c2⟩ := spec_l1Byte_ok l hl i1 h1 c1
      obtain ⟨z, i3, h3, e3, z0, z1, c3⟩ := spec_l1Byte_ok l hl i2 h2 c2
      rw [if_neg h256, e1]
      simp only [Option.bind_some, e2, e3, hn, if_false]
      have w1 : wrap64 (x * 65536) = x * 65536 := w64 (by omega) (by omega)
      have w2 : wrap64 (y * 256) = y * 256 := w64 (by omega) (by omega)
      rw [w1, w2]
      clear w1 w2
      have w3 : wrap64 (x * 65536 + y * 256) = x * 65536 + y * 256 := w64 (by omega) (by omega)
      rw [w3]
      clear w3
      have w4 : wrap64 (x * 65536 + y * 256 + z) = x * 65536 + y * 256 + z := w64 (by omega) (by omega)
      rw [w4]
      clear w4
      refine ⟨_, _, _, rfl, ?_, ?_, by omega, c3⟩
      · exact Int.tmod_nonneg _ (by omega)
      · intro hp; exact Int.tmod_lt_of_pos _ hp

theorem spec_l1Int_ok (l : List Int) (hl : l.length ≤ 1048576) (i h : Int) (hc : Cur l i) (xs : List Int) (hx : 0 < xs.length) : ∃ x i' h' : Int, spec_l1Int.f l i h xs = some (x, i', h') ∧ x ∈ xs ∧ Cur l i' := by
  unfold spec_l1Int.f
  obtain ⟨x, i1, h1, e1, x0, x1, _, c1⟩ := spec_l1Below_ok l hl i h hc (xs.length : Int)
  have hlt := x1 (by omega)
  rw [e1]
  simp only [Option.bind_some, x0, hlt, if_true]
  obtain ⟨j, rfl⟩ := Int.eq_ofNat_of_zero_le x0
  have hj : j < xs.length := by omega
  exact ⟨_, _, _, rfl, by rw [rd_nat xs j hj]; exact List.getElem_mem hj, c1⟩

theorem spec_l1Bytes_l0 (l : List Int) (hl : l.length ≤ 1048576) (n : Nat) (hn : n ≤ 1048576) : ∀ j : Nat, j ≤ n → ∀ (o : List Int) (i h : Int), o.length = j → IsB o → Cur l i →
    ∃ (o' : List Int) (i' h' : Int), Ev (fun k => spec_l1Bytes.l0 k (n : Int) o (j : Int) l i h) (o', i', h') ∧ o'.length = n ∧ IsB o' ∧ Cur l i' := by
  refine up_ind n (fun j : Nat => ∀ (o : List Int) (i h : Int), o.length = j → IsB o → Cur l i → ∃ (o' : List Int) (i' h' : Int), Ev (fun k => spec_l1Bytes.l0 k (n : Int) o (j : Int) l i h) (o', i', h') ∧ o'.length = n ∧ IsB o' ∧ Cur l i') ?_ ?_
  · intro o i h ho hb hc
    refine ⟨o, i, h, ev_succ ?_, ho, hb, hc⟩
    have h1 : ¬ ((n : Int) < (n : Int)) := by omega
    simp only [spec_l1Bytes.l0.eq_2, h1, if_false]
    exact ev_some _
  · intro j hj ih o i h ho hb hc
    obtain ⟨x, i1, h1, e1, x0, x1, c1⟩ := spec_l1Byte_ok l hl i h hc
    have ex : x % 256 = x := by omega
    obtain ⟨o', i', h', hE, hlen, hb', hc'⟩ := ih (o ++ [x]) i1 h1 (by simp [ho]) (hb.append (IsB.cons x0 x1 IsB.nil)) c1
    refine ⟨o', i', h', ev_succ ?_, hlen, hb', hc'⟩
    have a1 : (j : Int) < (n : Int) := by omega
    have a2 : o.length < 140737488355328 := by omega
    simp only [spec_l1Bytes.l0.eq_2, a1, a2, if_true, e1, Option.bind_some, ex, wsucc (show j < 9223372036854775807 by omega)]
    exact hE
theorem spec_l1Bytes_ev (l : List Int) (hl : l.length ≤ 1048576) (i h : Int) (hc : Cur l i) (n : Int) (h0 : 0 ≤ n) (hn : n ≤ 1048576) : ∃ (o : List Int) (i' h' : Int), Ev (fun k => spec_l1Bytes.f k l i h n) (o, i', h') ∧ (o.length : Int) = n ∧ IsB o ∧ Cur l i' := by
  unfold spec_l1Bytes.f
  obtain ⟨m, rfl⟩ := Int.eq_ofNat_of_zero_le h0
  obtain ⟨o, i', h', hE, hlen, hb, hc'⟩ := spec_l1Bytes_l0 l hl m (by omega) 0 (by omega) [] i h rfl IsB.nil hc
  exact ⟨o, i', h', hE, by omega, hb, hc'⟩

theorem spec_l1Some_ev (l : List Int) (hl : l.length ≤ 1048576) (i h : Int) (hc : Cur l i) : ∃ (o : List Int) (i' h' : Int), Ev (fun k => spec_l1Some.f k l i h) (o, i', h') ∧ o.length ≤ 9 ∧ IsB o ∧ Cur l i' := by
  unfold spec_l1Some.f
  obtain ⟨n, i1, h1, e1, hm, c1⟩ := spec_l1Int_ok l hl i h hc [0, 1, 2, 5, 9] (by decide)
  have hn : 0 ≤ n ∧ n ≤ 9 := by
    simp only [List.mem_cons, List.not_mem_nil, or_false] at hm
    omega
  simp only [e1, Option.bind_some]
  obtain ⟨o, i2, h2, hE, hlen, hb, c2⟩ := spec_l1Bytes_ev l hl i1 h1 c1 n hn.1 (by omega)
  exact ⟨o, i2, h2, Ev.bind hE (ev_some _), by omega, hb, c2⟩

theorem spec_l1Num_ok (l : List Int) (hl : l.length ≤ 1048576) (i h : Int) (hc : Cur l i) : ∃ n i' h' : Int, spec_l1Num.f l i h = some (n, i', h') ∧ (-9223372036854775808 ≤ n ∧ n ≤ 9223372036854775807) ∧ Cur l i' := by
  unfold spec_l1Num.f
  obtain ⟨a, i1, h1, e1, a0, a1, _, c1⟩ := spec_l1Below_ok l hl i h hc 100000
  obtain ⟨b, i2, h2, e2, b0, b1, _, c2⟩ := spec_l1Below_ok l hl i1 h1 c1 100000
  have a2 := a1 (by omega)
  have b2 := b1 (by omega)
  simp only [e1, e2, Option.bind_some]
  rw [w64 (x := -b) (by omega) (by omega)]
  obtain ⟨n, i3, h3, e3, hm, c3⟩ := spec_l1Int_ok l hl i2 h2 c2 [0, 1, -1, 63, 127, 128, 255, 256, 65535, 65536, 2147483647, -2147483648, 2147483648, -2147483649, 1000000000000000, -1000000000000000, 1000000000000001, 9223372036854775807, -9223372036854775808, a, -b] (by simp)
  rw [e3]
  refine ⟨n, i3, h3, rfl, ?_, c3⟩
  simp only [List.mem_cons, List.not_mem_nil, or_false] at hm
  omega

theorem spec_DrawPutFix_ev (l : List Int) (hl : l.length ≤ 1048576) : ∃ (b : List Int) (n : Int), Ev (fun k => spec_DrawPutFix.f k l) (b, n) ∧ b.length ≤ 9 ∧ IsB b ∧ (-9223372036854775808 ≤ n ∧ n ≤ 9223372036854775807) := by
  unfold spec_DrawPutFix.f
  obtain ⟨r, hr⟩ := spec_l1New_ev l hl
  obtain ⟨b, i1, h1, hE, hlen, hb, c1⟩ := spec_l1Some_ev l hl 0 r (Cur.start l)
  obtain ⟨n, i2, h2, e2, hn, c2⟩ := spec_l1Num_ok l hl i1 h1 c1
  refine ⟨b, n, Ev.bind hr (Ev.bind hE ?_), hlen, hb, hn⟩
  simp only [e2, Option.bind_some]
  exact ev_some _

theorem spec_DrawPutU_ev (l : List Int) (hl : l.length ≤ 1048576) : ∃ (b : List Int) (n : Int), Ev (fun k => spec_DrawPutU.f k l) (b, n) ∧ b.length ≤ 9 ∧ IsB b ∧ (-9223372036854775808 ≤ n ∧ n ≤ 9223372036854775807) ∧ (-1 ≤ n) := by
  unfold spec_DrawPutU.f
  obtain ⟨r, hr⟩ := spec_l1New_ev l hl
  obtain ⟨b, i1, h1, hE, hlen, hb, c1⟩ := spec_l1Some_ev l hl 0 r (Cur.start l)
  obtain ⟨a, i2, h2, e2, a0, a1, _, c2⟩ := spec_l1Below_ok l hl i1 h1 c1 100000
  have a2 := a1 (by omega)
  obtain ⟨n, i3, h3, e3, hm, c3⟩ := spec_l1Int_ok l hl i2 h2 c2 [0, 1, 127, 128, 16383, 16384, 1000000, 1000001, -1, 9223372036854775807, a] (by simp)
  refine ⟨b, n, Ev.bind hr (Ev.bind hE ?_), hlen, hb, ?_, ?_⟩
  · simp only [e2, Option.bind_some, e3]
    exact ev_some _
  · simp only [List.mem_cons, List.not_mem_nil, or_false] at hm
    omega
  · simp only [List.mem_cons, List.not_mem_nil, or_false] at hm
    omega

theorem impl_Before_eq (a b : List Int) (ha : IsB a) (hb : IsB b) : impl_Before.f a b = some (ltB a b) := by
  unfold impl_Before.f
  rw [bytesLess_str ha hb]

--import B
--import O
theorem getFix_fixB (b r : List Int) (n : Int) (hb : IsB b) (hr : IsB r) : getFix (b ++ fixB n ++ r) (b.length : Int) = (clampN n (-2147483648) 2147483647, (b.length : Int) + 4, true) := by
  have hc := clampN_spec n (-2147483648) 2147483647 (by omega)
  have h1 : (b.length : Int) + (4 : Nat) ≤ (b ++ fixB n ++ r).length := by simp only [List.length_append, fixB_len]; omega
  have e : ((b ++ fixB n ++ r).drop (b.length : Int).toNat).take 4 = fixB n := by
    rw [Int.toNat_natCast, List.append_assoc, List.drop_left]
    exact List.take_left' (by rw [fixB_len])
  unfold getFix
  rw [readB_pos (by omega) h1, e]
  simp only [Bool.false_eq_true, if_false, List.map_id']
  rw [fixB_beB, beN_beB]
  simp only [Prod.mk.injEq, and_true]
  rw [Nat.mod_eq_of_lt (by omega)]
  omega
theorem fixB_clamp (n : Int) : fixB (clampN n (-2147483648) 2147483647) = fixB n := by
  have hc := clampN_spec n (-2147483648) 2147483647 (by omega)
  have hc2 := (clampN_spec (clampN n (-2147483648) 2147483647) (-2147483648) 2147483647 (by omega)).2.2.1 hc.1 hc.2.1
  unfold fixB
  rw [hc2]
theorem FnFixes : laws_FnFixes.Pure := by
  intro l0 hm0 hb0 hw0
  refine Ev.rounds ?_
  unfold laws_FnFixes.f
  simp only [laws_big_eq, Option.bind_some]
  by_cases hn0 : (l0.length : Int) > 1048576
  · simp only [hn0, decide_true, if_true]; exact ev_some _
  simp only [hn0, decide_false, Bool.false_eq_true, if_false]
  have hl : l0.length ≤ 1048576 := by omega
  obtain ⟨b, n, hE1, hlb, hbb, hn⟩ := spec_DrawPutFix_ev l0 hl
  obtain ⟨b2, m, hE2, _, _, hm, _⟩ := spec_DrawPutU_ev l0 hl
  refine Ev.bind hE1 (Ev.bind hE2 ?_)
  simp only
  refine Ev.bind (impl_PutFix_ev b n (by omega)) ?_
  have hx := clampN_spec n (-2147483648) 2147483647 (by omega)
  have hy := clampN_spec m (-2147483648) 2147483647 (by omega)
  have g1 := impl_GetFix_ev (b ++ fixB n) (by simp only [List.length_append, fixB_len]; omega) (hbb.append (fixB_isB n)) (b.length : Int) (by omega)
  have e1 := getFix_fixB b [] n hbb IsB.nil
  rw [List.append_nil] at e1
  rw [e1] at g1
  refine Ev.bind g1 ?_
  simp only
  refine Ev.bind (impl_PutFix_ev [] _ (by simp only [List.length_nil]; omega)) ?_
  refine Ev.bind (impl_PutFix_ev [] m (by simp only [List.length_nil]; omega)) ?_
  simp only [List.nil_append, fixB_clamp]
  have g2 := impl_GetFix_ev (fixB m) (by rw [fixB_len]; omega) (fixB_isB m) 0 (by omega)
  have e2 := getFix_fixB [] [] m IsB.nil IsB.nil
  simp only [List.append_nil, List.nil_append, List.length_nil] at e2
  rw [show ((0 : Nat) : Int) = 0 from rfl] at e2
  rw [e2] at g2
  refine Ev.bind g2 ?_
  have a1 : (b.length : Int) + 4 = ((b ++ fixB n).length : Int) := by simp only [List.length_append, fixB_len]; omega
  have a2 : ((fixB n).length : Int) = 4 := by rw [fixB_len]; rfl
  have a3 : clampN n (-2147483648) 2147483647 ≥ -2147483648 := hx.1
  have a4 : clampN n (-2147483648) 2147483647 ≤ 2147483647 := hx.2.1
  have hord : ltB (fixB n) (fixB m) = decide (clampN n (-2147483648) 2147483647 < clampN m (-2147483648) 2147483647) := by
    by_cases h1 : clampN n (-2147483648) 2147483647 < clampN m (-2147483648) 2147483647
    · rw [(fixB_lt h1).ltB, decide_eq_true h1]
    · rw [decide_eq_false h1]
      by_cases h2 : clampN m (-2147483648) 2147483647 < clampN n (-2147483648) 2147483647
      · exact (fixB_lt h2).ltB'
      · have : fixB n = fixB m := by rw [← fixB_clamp n, ← fixB_clamp m, show clampN n (-2147483648) 2147483647 = clampN m (-2147483648) 2147483647 by omega]
        rw [this, ltB_self]
  simp only [if_true, a1, a2, a3, a4, impl_Before_eq _ _ (fixB_isB n) (fixB_isB m), Option.bind_some, hord, BEq.rfl]
  by_cases h1 : n > 2147483647
  · have : (n != clampN n (-2147483648) 2147483647) = true := by simp; omega
    simp only [h1, if_true, this, BEq.rfl]
    exact ev_some _
  · have : (n != clampN n (-2147483648) 2147483647) = decide (n < -2147483648) := by
      by_cases h2 : n < -2147483648
      · rw [decide_eq_true h2]; simp; omega
      · rw [decide_eq_false h2]; simp; omega
    simp only [h1, if_false, this, BEq.rfl, if_true]
    exact ev_some _

end Go.Proofs.Ytefaalelkbbnkaa.Pure

/- What is read of bytes as a number has these bytes, and is read where the reference reads it; numbers of four bytes likewise. No condition. -/
import Derived.Test.YtefaalelkbbnkaaPFnVarsReadx6
import Derived.Test.YtefaalelkbbnkaaM
import Derived.Test.YtefaalelkbbnkaaB
import Derived.Test.YtefaalelkbbnkaaO
import Derived.Test.YtefaalelkbbnkaaK
namespace Go.Proofs.Ytefaalelkbbnkaa.Pure
open Go.RowKit Go.Proofs.Ytefaalelkbbnkaa.PFnVarsRead Go.Proofs.YtefaalelkbbnkaaW.PrintWords Go.Proofs.YtefaalelkbbnkaaW.PrintLast Go.Proofs.YtefaalelkbbnkaaW.PrintMore Go.Proofs.YtefaalelkbbnkaaM
set_option linter.unusedVariables false
set_option linter.unusedSimpArgs false

theorem impl_copyBytes_eq (l : List Int) (h : l.length < 140737488355328) : impl_copyBytes.f l = some l := by
  unfold impl_copyBytes.f
  simp only [List.length_nil, Nat.zero_add, List.nil_append]
  rw [if_pos h]
attribute [local irreducible] impl_copyBytes.f

theorem impl_addBytes_l0 (n : Nat) (t : Bool) (c : Nat) : ∀ o : List Int, c ≤ 7 → o.length + c < 140737488355328 →
    Ev (fun k => impl_addBytes.l0 k o (n : Int) (if t = true then 255 else 0) ((c : Int) - 1)) (o ++ (beB n c).map fun x => if t = true then 255 - x else x) := by
  induction c with
  | zero =>
    intro o _ _
    refine ev_succ ?_
    have h1 : ¬ (((0 : Nat) : Int) - 1 ≥ 0) := by decide
    simp only [impl_addBytes.l0.eq_2, h1, if_false, beB, List.map_nil, List.append_nil]
    exact ev_some _
  | succ c ih =>
    intro o hc ho
    refine ev_succ ?_
    have e1 : ((c + 1 : Nat) : Int) - 1 = (c : Int) := by omega
    have h1 : (c : Int) ≥ 0 := by omega
    have h2 : wrap64 (8 * (c : Int)) = ((8 * c : Nat) : Int) := by rw [w64 (by omega) (by omega)]; omega
    have h3 : (0 : Int) ≤ ((8 * c : Nat) : Int) := by omega
    have h4 : o.length < 140737488355328 := by omega
    have h5 : wrap64 ((c : Int) - 1) = (c : Int) - 1 := w64 (by omega) (by omega)
    have h6 : shr .i64 (n : Int) ((8 * c : Nat) : Int) % 256 = ((n / 256 ^ c % 256 : Nat) : Int) := by
      unfold shr
      rw [Int.toNat_natCast, show min (8 * c) IntKind.i64.bits = 8 * c from Nat.min_eq_left (by simp [IntKind.bits]; omega), Nat.pow_mul' 2 8 c |> fun e => show (2 : Int) ^ (8 * c) = ((256 ^ c : Nat) : Int) by rw [Int.pow_mul]; simp]
      omega
    have h7 : bits .xor .u8 ((n / 256 ^ c % 256 : Nat) : Int) (if t = true then 255 else 0) = if t = true then 255 - ((n / 256 ^ c % 256 : Nat) : Int) else ((n / 256 ^ c % 256 : Nat) : Int) := by
      cases t with
      | true => simp only [if_true]; exact xor_255 _ (by omega) (by omega)
      | false => simp only [Bool.false_eq_true, if_false]; exact xor0 _ (by omega) (by omega)
    simp only [impl_addBytes.l0.eq_2, e1, h1, h2, h3, h4, h5, h6, h7, if_true]
    have := ih (o ++ [if t = true then 255 - ((n / 256 ^ c % 256 : Nat) : Int) else ((n / 256 ^ c % 256 : Nat) : Int)]) (by omega) (by simp only [List.length_append, List.length_cons, List.length_nil]; omega)
    rw [List.append_assoc] at this
    exact this
theorem impl_addBytes_ev (o : List Int) (n : Nat) (c : Nat) (t : Bool) (τ : Int) (hτ : τ = if t = true then 255 else 0) (hc : c ≤ 7) (ho : o.length ≤ 140737480000000) :
    Ev (fun k => impl_addBytes.f k o (n : Int) (c : Int) τ) (o ++ (beB n c).map fun x => if t = true then 255 - x else x) := by
  subst hτ
  unfold impl_addBytes.f
  rw [w64 (by omega) (by omega)]
  exact impl_addBytes_l0 n t c o hc (by omega)
attribute [local irreducible] impl_addBytes.f

theorem impl_clamp_eq (n lo hi : Int) : impl_clamp.f n lo hi = some (clampN n lo hi) := rfl
attribute [local irreducible] impl_clamp.f

theorem impl_addFix_ev (l : List Int) (n : Int) (h : l.length ≤ 140737480000000) : Ev (fun k => impl_addFix.f k l n) (l ++ fixB n) := by
  unfold impl_addFix.f
  have hc := clampN_spec n (-2147483648) 2147483647 (by omega)
  simp only [impl_clamp_eq, Option.bind_some]
  have e : wrap64 (clampN n (-2147483648) 2147483647 + 2147483648) = (((clampN n (-2147483648) 2147483647 + 2147483648).toNat : Nat) : Int) := by rw [w64 (by omega) (by omega)]; omega
  rw [e]
  have := impl_addBytes_ev l (clampN n (-2147483648) 2147483647 + 2147483648).toNat 4 false 0 rfl (by omega) h
  have e2 : (beB (clampN n (-2147483648) 2147483647 + 2147483648).toNat 4).map (fun x : Int => if false = true then 255 - x else x) = fixB n := by
    unfold fixB
    simp only [beB, List.map_cons, List.map_nil, Bool.false_eq_true, if_false, List.cons.injEq, and_true, Nat.pow_zero, Nat.pow_one]
    omega
  rw [e2] at this
  exact Ev.bind this (ev_some _)
attribute [local irreducible] impl_addFix.f

theorem impl_PutFix_ev (l : List Int) (n : Int) (h : l.length ≤ 140737480000000) : Ev (fun k => impl_PutFix.f k l n) (l ++ fixB n) := by
  unfold impl_PutFix.f
  simp only [impl_copyBytes_eq l (by omega), Option.bind_some]
  exact Ev.bind (impl_addFix_ev l n h) (ev_some _)
attribute [local irreducible] impl_PutFix.f

theorem spec_l4Read_l0 (l : List Int) (hl : l.length ≤ 140737488355328) (hb : IsB l) (p c : Nat) (hc : c ≤ 7) (hpc : p + c ≤ l.length) (t : Bool) : ∀ i : Nat, i ≤ c → ∀ x : Nat, x < 256 ^ i →
    Ev (fun k => spec_l4Read.l0 k l (p : Int) (c : Int) t (x : Int) (i : Int)) (((beN x ((((l.drop p).take c).drop i).map fun y => if t = true then 255 - y else y) : Nat) : Int), true) := by
  have hlen : ((l.drop p).take c).length = c := by rw [List.length_take, List.length_drop]; omega
  refine up_ind c (fun i : Nat => ∀ x : Nat, x < 256 ^ i → Ev (fun k => spec_l4Read.l0 k l (p : Int) (c : Int) t (x : Int) (i : Int)) (((beN x ((((l.drop p).take c).drop i).map fun y => if t = true then 255 - y else y) : Nat) : Int), true)) ?_ ?_
  · intro x _
    refine ev_succ ?_
    have h1 : ¬ ((c : Int) < (c : Int)) := by omega
    simp only [spec_l4Read.l0.eq_2, h1, if_false]
    rw [List.drop_eq_nil_of_le (by omega)]
    exact ev_some _
  · intro i hi ih x hx
    refine ev_succ ?_
    have h1 : (i : Int) < (c : Int) := by omega
    have hpi : p + i < l.length := by omega
    have h2 : wrap64 ((p : Int) + (i : Int)) = ((p + i : Nat) : Int) := by rw [w64 (by omega) (by omega)]; omega
    have h3 : (0 : Int) ≤ ((p + i : Nat) : Int) := by omega
    have h4 : ((p + i : Nat) : Int) < (l.length : Int) := by omega
    have hx7 : x < 281474976710656 := Nat.lt_of_lt_of_le hx (by have := Nat.pow_le_pow_right (show 0 < 256 by omega) (show i ≤ 6 by omega); simpa using this)
    obtain ⟨g0, g1⟩ := hb.get (p + i) hpi
    have h8 : wrap64 ((i : Int) + 1) = ((i + 1 : Nat) : Int) := wsucc (by omega)
    have hii : i < ((l.drop p).take c).length := by omega
    have hget : ((l.drop p).take c)[i] = l[p + i] := by rw [List.getElem_take, List.getElem_drop]
    have h5 : wrap64 ((x : Int) * 256) = (x : Int) * 256 := w64 (by omega) (by omega)
    have hw : ∀ v : Int, 0 ≤ v → v ≤ 255 → wrap64 v = v := fun v h h' => w64 (by omega) (by omega)
    have key : ∀ v : Nat, v ≤ 255 → (v : Int) = (if t = true then 255 - l[p + i] else l[p + i]) →
        Ev (fun k => spec_l4Read.l0 k l (p : Int) (c : Int) t ((x : Int) * 256 + (v : Int)) ((i + 1 : Nat) : Int)) (((beN x ((((l.drop p).take c).drop i).map fun y => if t = true then 255 - y else y) : Nat) : Int), true) := by
      intro v hv hve
      rw [List.drop_eq_getElem_cons hii, List.map_cons, beN, hget, ← hve]
      have := ih (x * 256 + v) (by rw [Nat.pow_succ]; omega)
      rw [show (x : Int) * 256 + (v : Int) = ((x * 256 + v : Nat) : Int) by omega]
      simpa using this
    cases t with
    | true =>
      simp only [spec_l4Read.l0.eq_2, h1, h2, h3, h4, h5, h8, if_true, rd_nat l (p + i) hpi, xor255 _ g0 g1, hw (255 - l[p + i]) (by omega) (by omega)]
      rw [or_hi_lo (x : Int) (255 - l[p + i]) (by omega) (by omega) (by omega) (by omega)]
      have := key (255 - l[p + i]).toNat (by omega) (by simp only [if_true]; omega)
      rw [show (((255 - l[p + i]).toNat : Nat) : Int) = 255 - l[p + i] by omega] at this
      exact this
    | false =>
      simp only [spec_l4Read.l0.eq_2, h1, h2, h3, h4, h5, h8, if_true, Bool.false_eq_true, if_false, rd_nat l (p + i) hpi, hw l[p + i] g0 g1]
      rw [or_hi_lo (x : Int) l[p + i] (by omega) (by omega) (by omega) (by omega)]
      have := key l[p + i].toNat (by omega) (by simp only [Bool.false_eq_true, if_false]; omega)
      rw [show ((l[p + i].toNat : Nat) : Int) = l[p + i] by omega] at this
      exact this
theorem spec_l4Read_ev (l : List Int) (hl : l.length ≤ 140737488355328) (hb : IsB l) (p : Int) (c : Nat) (hc : c ≤ 7) (t : Bool) (hp : -9223372036854775808 ≤ p ∧ p ≤ 9223372036854775807) :
    Ev (fun k => spec_l4Read.f k l p (c : Int) t) (readR (readB l p c t)) := by
  unfold spec_l4Read.f
  by_cases h0 : p < 0
  · simp only [h0, if_true]
    refine ev_succ ?_
    simp only [spec_l4Read.j0.eq_2, if_true]
    rw [readB_neg (by omega)]
    exact ev_some _
  · by_cases h1 : p > (l.length : Int)
    · simp only [h0, h1, if_true, if_false]
      refine ev_succ ?_
      simp only [spec_l4Read.j0.eq_2, if_true]
      rw [readB_neg (by omega)]
      exact ev_some _
    · have e1 : wrap64 ((l.length : Int) - p) = (l.length : Int) - p := w64 (by omega) (by omega)
      simp only [h0, h1, if_false, e1]
      refine ev_succ ?_
      by_cases h2 : (c : Int) > (l.length : Int) - p
      · simp only [spec_l4Read.j0.eq_2, h2, decide_true, if_true]
        rw [readB_neg (by omega)]
        exact ev_some _
      · simp only [spec_l4Read.j0.eq_2, h2, decide_false, Bool.false_eq_true, if_false]
        obtain ⟨q, rfl⟩ := Int.eq_ofNat_of_zero_le (show 0 ≤ p by omega)
        have := spec_l4Read_l0 l hl hb q c hc (by omega) t 0 (by omega) 0 (by decide)
        rw [readB_pos (by omega) (by omega)]
        exact this
attribute [local irreducible] spec_l4Read.f

theorem spec_GetFix_ev (l : List Int) (hl : l.length ≤ 140737480000000) (hb : IsB l) (p : Int) (hp : -9223372036854775808 ≤ p ∧ p ≤ 9223372036854775807) : Ev (fun k => spec_GetFix.f k l p) (getFix l p) := by
  unfold spec_GetFix.f getFix
  refine Ev.bind (spec_l4Read_ev l (by omega) hb p 4 (by omega) false hp) ?_
  cases h : readB l p 4 false with
  | none => simp only [readR, Bool.false_eq_true, if_false]; exact ev_some _
  | some n =>
    obtain ⟨h0, h1, hn⟩ := readB_some hb h
    have e1 : wrap64 ((n : Int) - 2147483648) = (n : Int) - 2147483648 := w64 (by omega) (by omega)
    have e2 : wrap64 (p + 4) = p + 4 := w64 (by omega) (by omega)
    simp only [readR, if_true, e1, e2]; exact ev_some _
attribute [local irreducible] spec_GetFix.f

theorem impl_numberAt_l0 (xs : List Int) (hl : xs.length ≤ 7) (hb : IsB xs) (t : Bool) : ∀ i : Nat, i ≤ xs.length → ∀ x : Nat, x < 256 ^ i →
    Ev (fun k => impl_numberAt.l0 k (if t = true then 255 else 0) (x : Int) xs (xs.length : Int) (i : Int)) (((beN x ((xs.drop i).map fun y => if t = true then 255 - y else y) : Nat) : Int), true) := by
  refine up_ind xs.length (fun i : Nat => ∀ x : Nat, x < 256 ^ i → Ev (fun k => impl_numberAt.l0 k (if t = true then 255 else 0) (x : Int) xs (xs.length : Int) (i : Int)) (((beN x ((xs.drop i).map fun y => if t = true then 255 - y else y) : Nat) : Int), true)) ?_ ?_
  · intro x _
    refine ev_succ ?_
    have h1 : ¬ ((xs.length : Int) < (xs.length : Int)) := by omega
    simp only [impl_numberAt.l0.eq_2, h1, if_false]
    rw [List.drop_eq_nil_of_le (by omega)]
    exact ev_some _
  · intro i hi ih x hx
    refine ev_succ ?_
    have h1 : (i : Int) < (xs.length : Int) := by omega
    have h2 : (0 : Int) ≤ (i : Int) := by omega
    have hx7 : x < 281474976710656 := Nat.lt_of_lt_of_le hx (by have := Nat.pow_le_pow_right (show 0 < 256 by omega) (show i ≤ 6 by omega); simpa using this)
    obtain ⟨g0, g1⟩ := hb.get i hi
    have h3 : wrap64 ((x : Int) * 256) = (x : Int) * 256 := w64 (by omega) (by omega)
    have h4 : bits .xor .u8 xs[i] (if t = true then 255 else 0) = if t = true then 255 - xs[i] else xs[i] := by
      cases t with
      | true => simp only [if_true]; exact xor_255 _ g0 g1
      | false => simp only [Bool.false_eq_true, if_false]; exact xor0 _ g0 g1
    have hv : 0 ≤ (if t = true then 255 - xs[i] else xs[i]) ∧ (if t = true then 255 - xs[i] else xs[i]) ≤ 255 := by cases t <;> simp only [if_true, Bool.false_eq_true, if_false] <;> omega
    have h8 : wrap64 ((i : Int) + 1) = ((i + 1 : Nat) : Int) := wsucc (by omega)
    simp only [impl_numberAt.l0.eq_2, h1, h2, if_true, rd_nat xs i hi, h3, h4, h8]
    rw [List.drop_eq_getElem_cons hi, List.map_cons, beN]
    clear h3 h4 h8
    generalize (if t = true then 255 - xs[i] else xs[i]) = v at hv ⊢
    obtain ⟨v, rfl⟩ := Int.eq_ofNat_of_zero_le hv.1
    rw [w64 (by omega) (by omega), or_hi_lo (x : Int) (v : Int) (by omega) (by omega) (by omega) (by omega)]
    have := ih (x * 256 + v) (by rw [Nat.pow_succ]; omega)
    rw [show (x : Int) * 256 + (v : Int) = ((x * 256 + v : Nat) : Int) by omega]
    simpa using this
theorem impl_numberAt_ev (l : List Int) (hl : l.length ≤ 140737488355328) (hb : IsB l) (p : Int) (c : Nat) (hc : c ≤ 7) (t : Bool) (τ : Int) (hτ : τ = if t = true then 255 else 0) (hp : -9223372036854775808 ≤ p ∧ p ≤ 9223372036854775807) :
    Ev (fun k => impl_numberAt.f k l p (c : Int) τ) (readR (readB l p c t)) := by
  subst hτ
  unfold impl_numberAt.f
  by_cases h0 : p < 0
  · simp only [h0, if_true]
    refine ev_succ ?_
    simp only [impl_numberAt.j0.eq_2, if_true]
    rw [readB_neg (by omega)]
    exact ev_some _
  · simp only [h0, if_false]
    have e1 : wrap64 ((l.length : Int) - (c : Int)) = (l.length : Int) - (c : Int) := w64 (by omega) (by omega)
    rw [e1]
    refine ev_succ ?_
    by_cases h1 : p > (l.length : Int) - (c : Int)
    · simp only [impl_numberAt.j0.eq_2, h1, decide_true, if_true]
      rw [readB_neg (by omega)]
      exact ev_some _
    · have e2 : wrap64 (p + (c : Int)) = p + (c : Int) := w64 (by omega) (by omega)
      have a1 : (0 : Int) ≤ p := by omega
      have a2 : p ≤ p + (c : Int) := by omega
      have a3 : p + (c : Int) ≤ (l.length : Int) := by omega
      simp only [impl_numberAt.j0.eq_2, h1, decide_false, Bool.false_eq_true, if_false, e2, a1, a2, a3, if_true, Option.bind_some]
      have e3 : (l.take (p + (c : Int)).toNat).drop p.toNat = (l.drop p.toNat).take c := by
        rw [List.drop_take]; congr 1; omega
      rw [e3]
      have hlen : ((l.drop p.toNat).take c).length = c := by rw [List.length_take, List.length_drop]; omega
      have := impl_numberAt_l0 ((l.drop p.toNat).take c) (by omega) ((hb.drop _).take _) t 0 (by omega) 0 (by decide)
      rw [readB_pos a1 a3]
      exact this
attribute [local irreducible] impl_numberAt.f

theorem impl_GetFix_ev (l : List Int) (hl : l.length ≤ 140737480000000) (hb : IsB l) (p : Int) (hp : -9223372036854775808 ≤ p ∧ p ≤ 9223372036854775807) : Ev (fun k => impl_GetFix.f k l p) (getFix l p) := by
  unfold impl_GetFix.f getFix
  refine Ev.bind (impl_numberAt_ev l (by omega) hb p 4 (by omega) false 0 rfl hp) ?_
  cases h : readB l p 4 false with
  | none => simp only [readR, Bool.false_eq_true, if_false]; exact ev_some _
  | some n =>
    obtain ⟨h0, h1, hn⟩ := readB_some hb h
    have e1 : wrap64 ((n : Int) - 2147483648) = (n : Int) - 2147483648 := w64 (by omega) (by omega)
    have e2 : wrap64 (p + 4) = p + 4 := w64 (by omega) (by omega)
    simp only [readR, if_true, e1, e2]; exact ev_some _
attribute [local irreducible] impl_GetFix.f

theorem impl_bytesOf_l0 (n : Nat) : ∀ c : Nat, c + n ≤ 4611686018427387904 → Ev (fun k => impl_bytesOf.l0 k (n : Int) (c : Int)) ((c + nB n : Nat) : Int) := by
  induction n using Nat.strongRecOn with
  | _ n ih =>
    intro c hc
    refine ev_succ ?_
    by_cases h : n = 0
    · subst h
      have h1 : ¬ (((0 : Nat) : Int) > 0) := by decide
      simp only [impl_bytesOf.l0.eq_2, h1, if_false, nB_zero, Nat.add_zero]
      exact ev_some _
    · have h1 : (n : Int) > 0 := by omega
      have h2 : wrap64 ((c : Int) + 1) = ((c + 1 : Nat) : Int) := wsucc (by omega)
      have h3 : (n : Int) / 256 = ((n / 256 : Nat) : Int) := by omega
      simp only [impl_bytesOf.l0.eq_2, h1, if_true, h2, h3]
      have := ih (n / 256) (by omega) (c + 1) (by omega)
      rw [nB_pos h, show c + (nB (n / 256) + 1) = c + 1 + nB (n / 256) by omega]
      exact this
theorem impl_bytesOf_ev (n : Nat) (h : n ≤ 4611686018427387904) : Ev (fun k => impl_bytesOf.f k (n : Int)) ((nB n : Nat) : Int) := by
  unfold impl_bytesOf.f
  simpa using impl_bytesOf_l0 n 0 (by omega)
attribute [local irreducible] impl_bytesOf.f

theorem impl_addVar_ev (l : List Int) (n : Int) (h : l.length ≤ 140737470000000) : Ev (fun k => impl_addVar.f k l n) (l ++ varB n) := by
  unfold impl_addVar.f
  have hc := varN_spec n
  simp only [impl_clamp_eq, Option.bind_some, show clampN n (-1000000000000000) 1000000000000000 = varN n from rfl]
  unfold varB
  simp only
  by_cases h0 : 0 ≤ varN n
  · have h0' : varN n ≥ 0 := h0
    rw [if_pos h0]
    simp only [h0', if_true]
    obtain ⟨m, hm⟩ := Int.eq_ofNat_of_zero_le h0
    rw [hm] at hc ⊢
    simp only [Int.toNat_natCast]
    have h7 := nB_7 (n := m) (by omega)
    refine Ev.bind (impl_bytesOf_ev m (by omega)) ?_
    have h1 : l.length < 140737488355328 := by omega
    have e : wrap64 (128 + ((nB m : Nat) : Int)) % 256 = 128 + (nB m : Int) := by rw [w64 (by omega) (by omega)]; omega
    simp only [h1, if_true, e]
    have := impl_addBytes_ev (l ++ [128 + (nB m : Int)]) m (nB m) false 0 rfl h7 (by simp only [List.length_append, List.length_cons, List.length_nil]; omega)
    simp only [Bool.false_eq_true, if_false, List.map_id'] at this
    rw [List.append_assoc] at this
    exact Ev.bind this (ev_some _)
  · have h0' : ¬ (varN n ≥ 0) := h0
    rw [if_neg h0]
    simp only [h0', if_false]
    have e0 : wrap64 (-1 - varN n) = (((-1 - varN n).toNat : Nat) : Int) := by rw [w64 (by omega) (by omega)]; omega
    rw [e0]
    have hm : (-1 - varN n).toNat ≤ 1000000000000000 := by omega
    generalize (-1 - varN n).toNat = m at hm
    have h7 := nB_7 (n := m) (by omega)
    refine Ev.bind (impl_bytesOf_ev m (by omega)) ?_
    have h1 : l.length < 140737488355328 := by omega
    have e : wrap64 (127 - ((nB m : Nat) : Int)) % 256 = 127 - (nB m : Int) := by rw [w64 (by omega) (by omega)]; omega
    simp only [h1, if_true, e]
    have := impl_addBytes_ev (l ++ [127 - (nB m : Int)]) m (nB m) true 255 rfl h7 (by simp only [List.length_append, List.length_cons, List.length_nil]; omega)
    simp only [if_true] at this
    rw [List.append_assoc] at this
    exact Ev.bind this (ev_some _)
attribute [local irreducible] impl_addVar.f

theorem impl_PutVar_ev (l : List Int) (n : Int) (h : l.length ≤ 140737470000000) : Ev (fun k => impl_PutVar.f k l n) (l ++ varB n) := by
  unfold impl_PutVar.f
  simp only [impl_copyBytes_eq l (by omega), Option.bind_some]
  exact Ev.bind (impl_addVar_ev l n h) (ev_some _)
attribute [local irreducible] impl_PutVar.f

theorem spec_Flip_l0 (l : List Int) (hl : l.length ≤ 140737480000000) (hb : IsB l) (p : Int) : ∀ i : Nat, i ≤ l.length → ∀ xs : List Int, xs.length = l.length → xs.drop i = l.drop i →
    Ev (fun k => spec_Flip.l0 k p xs (i : Int)) (xs.take i ++ flipB (l.drop i) (p - i)) := by
  refine up_ind l.length (fun i : Nat => ∀ xs : List Int, xs.length = l.length → xs.drop i = l.drop i → Ev (fun k => spec_Flip.l0 k p xs (i : Int)) (xs.take i ++ flipB (l.drop i) (p - i))) ?_ ?_
  · intro xs hx _
    refine ev_succ ?_
    have h1 : ¬ ((l.length : Int) < (xs.length : Int)) := by omega
    simp only [spec_Flip.l0.eq_2, h1, if_false]
    rw [List.take_of_length_le (by omega), List.drop_eq_nil_of_le (by omega)]
    simp only [flipB, List.take_nil, List.drop_nil, List.map_nil, List.append_nil]
    exact ev_some _
  · intro i hi ih xs hx he
    refine ev_succ ?_
    have hxi : i < xs.length := by omega
    have h1 : (i : Int) < (xs.length : Int) := by omega
    have h2 : (0 : Int) ≤ (i : Int) := by omega
    have h3 : xs[i] = l[i] := by
      have := congrArg (fun l => l[0]?) he
      simp only [List.getElem?_drop, Nat.add_zero] at this
      rw [List.getElem?_eq_getElem hxi, List.getElem?_eq_getElem hi] at this
      exact Option.some.inj this
    have he' : xs.drop (i + 1) = l.drop (i + 1) := by
      have := congrArg (List.drop 1) he
      simpa [List.drop_drop, Nat.add_comm] using this
    obtain ⟨g0, g1⟩ := hb.get i hi
    by_cases hp : (i : Int) ≥ p
    · simp only [spec_Flip.l0.eq_2, h1, h2, hp, if_true, Int.toNat_natCast, rd_nat xs i hxi, h3, xor255 l[i] g0 g1, wsucc (show i < 9223372036854775807 by omega)]
      have := ih (xs.set i (255 - l[i])) (by simp [hx]) (by rw [List.drop_set_of_lt (by omega)]; exact he')
      rw [take_set_succ _ _ _ hxi, List.append_assoc] at this
      rw [List.drop_eq_getElem_cons hi]
      have e : flipB (l[i] :: l.drop (i + 1)) (p - (i : Int)) = (255 - l[i]) :: flipB (l.drop (i + 1)) (p - ((i + 1 : Nat) : Int)) := by
        unfold flipB
        rw [show (p - (i : Int)).toNat = 0 by omega, show (p - ((i + 1 : Nat) : Int)).toNat = 0 by omega]
        rfl
      rw [e]
      exact this
    · simp only [spec_Flip.l0.eq_2, h1, hp, if_true, if_false, wsucc (show i < 9223372036854775807 by omega)]
      have := ih xs hx he'
      have e1 : xs.take (i + 1) = xs.take i ++ [l[i]] := by rw [List.take_succ_eq_append_getElem hxi, h3]
      rw [e1, List.append_assoc] at this
      rw [List.drop_eq_getElem_cons hi]
      have e : flipB (l[i] :: l.drop (i + 1)) (p - (i : Int)) = l[i] :: flipB (l.drop (i + 1)) (p - ((i + 1 : Nat) : Int)) := by
        unfold flipB
        rw [show (p - (i : Int)).toNat = (p - ((i + 1 : Nat) : Int)).toNat + 1 by omega]
        rfl
      rw [e]
      exact this
theorem spec_Flip_ev (l : List Int) (p : Int) (hl : l.length ≤ 140737480000000) (hb : IsB l) : Ev (fun k => spec_Flip.f k l p) (flipB l p) := by
  unfold spec_Flip.f
  have h1 : ([] : List Int).length + l.length < 140737488355328 := by simp only [List.length_nil]; omega
  simp only [Option.bind_some, h1, if_true, List.nil_append]
  have := spec_Flip_l0 l hl hb p 0 (by omega) l rfl rfl
  simpa using this
attribute [local irreducible] spec_Flip.f

theorem spec_l4Bytes_l0 (n : Nat) : ∀ o : List Int, o.length + n < 140737488355328 * 1000000 → o.length + nB n ≤ 1000 → Ev (fun k => spec_l4Bytes.l0 k (n : Int) o) (beB n (nB n) ++ o) := by
  induction n using Nat.strongRecOn with
  | _ n ih =>
    intro o ho ho2
    refine ev_succ ?_
    by_cases h : n = 0
    · subst h
      have h1 : ¬ (((0 : Nat) : Int) > 0) := by decide
      simp only [spec_l4Bytes.l0.eq_2, h1, if_false, nB_zero, beB, List.nil_append]
      exact ev_some _
    · have h1 : (n : Int) > 0 := by omega
      have h3 : (n : Int) / 256 = ((n / 256 : Nat) : Int) := by omega
      have h4 : (n : Int) % 256 = ((n % 256 : Nat) : Int) := by omega
      have h5 := nB_pos h
      have h6 : [((n % 256 : Nat) : Int)].length + o.length < 140737488355328 := by simp only [List.length_cons, List.length_nil]; omega
      simp only [spec_l4Bytes.l0.eq_2, h1, if_true, h3, h4, Option.bind_some, h6]
      have := ih (n / 256) (by omega) ([((n % 256 : Nat) : Int)] ++ o) (by simp only [List.length_append, List.length_cons, List.length_nil]; omega) (by simp only [List.length_append, List.length_cons, List.length_nil]; omega)
      rw [h5, beB_snoc, List.append_assoc]
      exact this
theorem spec_l4Bytes_ev (n : Nat) (h : n ≤ 1000000000000000) : Ev (fun k => spec_l4Bytes.f k (n : Int)) (beB n (nB n)) := by
  unfold spec_l4Bytes.f
  have := spec_l4Bytes_l0 n [] (by simp only [List.length_nil]; omega) (by have := nB_7 h; simp only [List.length_nil]; omega)
  simpa using this
attribute [local irreducible] spec_l4Bytes.f

theorem spec_PutVar_j1 (l : List Int) (n : Int) (h : l.length ≤ 140737470000000) (hn : -1000000000000000 ≤ n ∧ n ≤ 1000000000000000) : Ev (fun k => spec_PutVar.j1 k l n) (l ++ varB n) := by
  refine ev_succ ?_
  have e : varN n = n := (clampN_spec n (-1000000000000000) 1000000000000000 (by omega)).2.2.1 hn.1 hn.2
  have h1 : l.length < 140737488355328 := by omega
  unfold varB
  simp only [e]
  by_cases h0 : 0 ≤ n
  · have h0' : n ≥ 0 := h0
    rw [if_pos h0]
    obtain ⟨m, rfl⟩ := Int.eq_ofNat_of_zero_le h0
    simp only [spec_PutVar.j1.eq_2, h0', if_true, Int.toNat_natCast]
    have h7 := nB_7 (n := m) (by omega)
    refine Ev.bind (spec_l4Bytes_ev m (by omega)) ?_
    have e1 : wrap64 (128 + ((nB m : Nat) : Int)) % 256 = 128 + (nB m : Int) := by rw [w64 (by omega) (by omega)]; omega
    have h2 : (l ++ [128 + (nB m : Int)]).length + nB m < 140737488355328 := by simp only [List.length_append, List.length_cons, List.length_nil]; omega
    simp only [Option.bind_some, List.length_nil, Nat.zero_add, List.nil_append, h1, if_true, beB_len, e1, h2]
    rw [List.append_assoc]
    exact ev_some _
  · have h0' : ¬ (n ≥ 0) := h0
    rw [if_neg h0]
    have e0 : wrap64 (-1 - n) = (((-1 - n).toNat : Nat) : Int) := by rw [w64 (by omega) (by omega)]; omega
    have hm : (-1 - n).toNat ≤ 1000000000000000 := by omega
    simp only [spec_PutVar.j1.eq_2, h0', if_false, e0]
    generalize (-1 - n).toNat = m at hm
    have h7 := nB_7 (n := m) (by omega)
    refine Ev.bind (spec_l4Bytes_ev m (by omega)) ?_
    have e1 : wrap64 (127 - ((nB m : Nat) : Int)) % 256 = 127 - (nB m : Int) := by rw [w64 (by omega) (by omega)]; omega
    have h2 : (l ++ [127 - (nB m : Int)]).length + nB m < 140737488355328 := by simp only [List.length_append, List.length_cons, List.length_nil]; omega
    simp only [Option.bind_some, List.length_nil, Nat.zero_add, List.nil_append, h1, if_true, beB_len, e1]
    refine Ev.bind (spec_Flip_ev (beB m (nB m)) 0 (by rw [beB_len]; omega) (beB_isB _ _)) ?_
    have e2 : flipB (beB m (nB m)) 0 = (beB m (nB m)).map fun x => 255 - x := by simp [flipB]
    simp only [flipB_len, beB_len, h2, if_true]
    rw [List.append_assoc, e2]
    exact ev_some _
theorem spec_PutVar_ev (l : List Int) (n : Int) (h : l.length ≤ 140737470000000) : Ev (fun k => spec_PutVar.f k l n) (l ++ varB n) := by
  unfold spec_PutVar.f
  have hc := clampN_spec n (-1000000000000000) 1000000000000000 (by omega)
  have hv : ∀ m : Int, varN n = m → -1000000000000000 ≤ m ∧ m ≤ 1000000000000000 → varB m = varB n := by
    intro m hm hr
    have e : varN m = m := (clampN_spec m (-1000000000000000) 1000000000000000 (by omega)).2.2.1 hr.1 hr.2
    unfold varB; rw [e, hm]
  by_cases h1 : n > 1000000000000000
  · simp only [h1, if_true]
    refine ev_succ ?_
    rw [← hv 1000000000000000 (hc.2.2.2.2 h1) (by omega)]
    simp only [spec_PutVar.j0.eq_2, show ¬ ((1000000000000000 : Int) < -1000000000000000) by decide, if_false]
    exact spec_PutVar_j1 l _ h (by omega)
  · simp only [h1, if_false]
    refine ev_succ ?_
    by_cases h2 : n < -1000000000000000
    · simp only [spec_PutVar.j0.eq_2, h2, if_true]
      rw [← hv (-1000000000000000) (hc.2.2.2.1 h2) (by omega)]
      exact spec_PutVar_j1 l _ h (by omega)
    · simp only [spec_PutVar.j0.eq_2, h2, if_false]
      exact spec_PutVar_j1 l n h (by omega)
attribute [local irreducible] spec_PutVar.f

theorem spec_l1In_eq (a b c : Int) : spec_l1In.f a b c = some (inB a b c) := in_ite a b c
attribute [local irreducible] spec_l1In.f

theorem spec_GetVar_tail (n : Nat) (hn : n < 72057594037927936) (p : Int) (c : Nat) (hc : c ≤ 7) (t : Bool) (m : Int) (hm : m = if t = true then -1 - (n : Int) else (n : Int)) (h : inB m (-1000000000000000) 1000000000000000 = true) :
    ((varB m).length : Int) = (c : Int) + 1 ↔ nB n = c := by
  have hl := varB_length m h
  have hr := of_decide_eq_true h
  have e : (if 0 ≤ m then m.toNat else (-1 - m).toNat) = n := by
    cases t with
    | true => simp only [if_true] at hm; rw [if_neg (by omega)]; omega
    | false => simp only [Bool.false_eq_true, if_false] at hm; rw [if_pos (by omega)]; omega
  rw [e] at hl
  omega
theorem spec_GetVar_ev (l : List Int) (hl : l.length ≤ 140737480000000) (hb : IsB l) (p : Int) (hp : -9223372036854775808 ≤ p ∧ p ≤ 9223372036854775807) : Ev (fun k => spec_GetVar.f k l p) (getVar l p) := by
  unfold spec_GetVar.f getVar
  by_cases h0 : p < 0
  · simp only [h0, if_true]
    rw [if_neg (by omega)]
    refine ev_succ ?_
    simp only [spec_GetVar.j0.eq_2, if_true]
    exact ev_some _
  · simp only [h0, if_false]
    by_cases h1 : p ≥ (l.length : Int)
    · simp only [h1, if_true]
      rw [if_neg (by omega)]
      refine ev_succ ?_
      simp only [spec_GetVar.j0.eq_2, if_true]
      exact ev_some _
    · have a1 : (0 : Int) ≤ p := by omega
      have a2 : p < (l.length : Int) := by omega
      rw [if_pos ⟨a1, a2⟩]
      obtain ⟨g0, g1⟩ := rd_isB hb p
      have e1 : wrap64 (rd l p) = rd l p := w64 (by omega) (by omega)
      simp only [h1, if_false, a1, a2, if_true, e1, spec_l1In_eq, Option.bind_some]
      by_cases hin : 120 ≤ rd l p ∧ rd l p ≤ 135
      · have hin' : (!inB (rd l p) 120 135) = false := by unfold inB; rw [decide_eq_true hin]; rfl
        refine ev_succ ?_
        have e2 : wrap64 (rd l p - 128) = rd l p - 128 := w64 (by omega) (by omega)
        have e4 : wrap64 (p + 1) = p + 1 := w64 (by omega) (by omega)
        simp only [spec_GetVar.j0.eq_2, hin', Bool.false_eq_true, if_false, a1, a2, if_true, e1, e2, e4]
        clear e1 e2 e4
        by_cases hneg : rd l p - 128 < 0
        · simp only [hneg, if_true]
          rw [if_neg (by omega), if_pos (by omega)]
          have e3 : wrap64 (-1 - (rd l p - 128)) = (((127 - rd l p).toNat : Nat) : Int) := by rw [w64 (by omega) (by omega)]; omega
          rw [e3]
          have hc7 : (127 - rd l p).toNat ≤ 7 := by omega
          generalize (127 - rd l p).toNat = c at hc7
          clear e3
          refine Ev.bind (spec_l4Read_ev l (by omega) hb (p + 1) c hc7 true (by omega)) ?_
          cases h : readB l (p + 1) c true with
          | none => simp only [readR, getVarR, Bool.false_eq_true, if_false]; exact ev_some _
          | some n =>
            obtain ⟨_, hpc, hn⟩ := readB_some hb h
            have hn7 : n < 72057594037927936 := Nat.lt_of_lt_of_le hn (by have := Nat.pow_le_pow_right (show 0 < 256 by omega) hc7; simpa using this)
            have e5 : wrap64 (-1 - (n : Int)) = -1 - (n : Int) := w64 (by omega) (by omega)
            have e6 : wrap64 ((c : Int) + 1) = (c : Int) + 1 := w64 (by omega) (by omega)
            have e7 : wrap64 (p + 1 + (c : Int)) = p + 1 + (c : Int) := w64 (by omega) (by omega)
            simp only [readR, getVarR, if_true, e5, e6, e7, spec_l1In_eq, Option.bind_some]
            cases hI : inB (-1 - (n : Int)) (-1000000000000000) 1000000000000000 with
            | false => simp only [Bool.false_eq_true, and_false, if_false]; exact ev_some _
            | true =>
              have key := spec_GetVar_tail n hn7 p c hc7 true (-1 - (n : Int)) rfl hI
              simp only [if_true, and_true]
              refine Ev.bind (spec_PutVar_ev [] (-1 - (n : Int)) (by simp only [List.length_nil]; omega)) ?_
              simp only [List.nil_append, key]
              by_cases hc2 : nB n = c
              · simp only [hc2, if_true]; exact ev_some _
              · simp only [hc2, if_false]; exact ev_some _
        · simp only [hneg, if_false]
          rw [if_pos (by omega)]
          have e3 : rd l p - 128 = (((rd l p - 128).toNat : Nat) : Int) := by omega
          have hc7 : (rd l p - 128).toNat ≤ 7 := by omega
          rw [e3, Int.toNat_natCast]
          generalize (rd l p - 128).toNat = c at hc7
          clear e3
          refine Ev.bind (spec_l4Read_ev l (by omega) hb (p + 1) c hc7 false (by omega)) ?_
          cases h : readB l (p + 1) c false with
          | none => simp only [readR, getVarR, Bool.false_eq_true, if_false]; exact ev_some _
          | some n =>
            obtain ⟨_, hpc, hn⟩ := readB_some hb h
            have hn7 : n < 72057594037927936 := Nat.lt_of_lt_of_le hn (by have := Nat.pow_le_pow_right (show 0 < 256 by omega) hc7; simpa using this)
            have e6 : wrap64 ((c : Int) + 1) = (c : Int) + 1 := w64 (by omega) (by omega)
            have e7 : wrap64 (p + 1 + (c : Int)) = p + 1 + (c : Int) := w64 (by omega) (by omega)
            simp only [readR, getVarR, if_true, e6, e7, Bool.false_eq_true, if_false, spec_l1In_eq, Option.bind_some]
            cases hI : inB (n : Int) (-1000000000000000) 1000000000000000 with
            | false => simp only [Bool.false_eq_true, and_false, if_false]; exact ev_some _
            | true =>
              have key := spec_GetVar_tail n hn7 p c hc7 false (n : Int) rfl hI
              simp only [if_true, and_true]
              refine Ev.bind (spec_PutVar_ev [] (n : Int) (by simp only [List.length_nil]; omega)) ?_
              simp only [List.nil_append, key]
              by_cases hc2 : nB n = c
              · simp only [hc2, if_true]; exact ev_some _
              · simp only [hc2, if_false]; exact ev_some _
      · have hin' : (!inB (rd l p) 120 135) = true := by unfold inB; rw [decide_eq_false hin]; rfl
        rw [if_neg (by omega), if_neg (by omega)]
        refine ev_succ ?_
        simp only [spec_GetVar.j0.eq_2, hin', if_true]
        exact ev_some _
attribute [local irreducible] spec_GetVar.f

theorem impl_in_eq (a b c : Int) : impl_in.f a b c = some (inB a b c) := in_ite a b c
attribute [local irreducible] impl_in.f

theorem impl_GetVar_j1 (l : List Int) (hl : l.length ≤ 140737480000000) (hb : IsB l) (p : Int) (hp : 0 ≤ p ∧ p < l.length) (c : Nat) (hc : c ≤ 7) (t : Bool) (τ : Int) (hτ : τ = if t = true then 255 else 0) :
    Ev (fun k => impl_GetVar.j1 k l p (c : Int) τ) (getVarR p c t (readB l (p + 1) c t)) := by
  refine ev_succ ?_
  have h7 : ¬ ((c : Int) > 7) := by omega
  have e1 : wrap64 (p + 1) = p + 1 := w64 (by omega) (by omega)
  simp only [impl_GetVar.j1.eq_2, h7, if_false, e1]
  refine Ev.bind (impl_numberAt_ev l (by omega) hb (p + 1) c hc t τ hτ (by omega)) ?_
  cases h : readB l (p + 1) c t with
  | none =>
    simp only [readR, Bool.false_eq_true, if_false]
    refine ev_succ ?_
    simp only [impl_GetVar.j2.eq_2, if_true]
    exact ev_some _
  | some n =>
    obtain ⟨_, hpc, hn⟩ := readB_some hb h
    have hn7 : n < 72057594037927936 := Nat.lt_of_lt_of_le hn (by have := Nat.pow_le_pow_right (show 0 < 256 by omega) hc; simpa using this)
    simp only [readR, if_true]
    refine Ev.bind (impl_bytesOf_ev n (by omega)) ?_
    refine ev_succ ?_
    have e2 : wrap64 (p + 1 + (c : Int)) = p + 1 + (c : Int) := w64 (by omega) (by omega)
    unfold getVarR
    by_cases hc2 : nB n = c
    · simp only [impl_GetVar.j2.eq_2, hc2, bne_self_eq_false, Bool.false_eq_true, if_false, hc2, true_and, e1]
      cases t with
      | false =>
        have hτ0 : τ = 0 := by rw [hτ]; rfl
        simp only [hτ0, if_true, impl_in_eq, Option.bind_some, Bool.false_eq_true, if_false, e2]
        cases inB (n : Int) (-1000000000000000) 1000000000000000
        · simp only [Bool.false_eq_true, if_false]; exact ev_some _
        · simp only [if_true]; exact ev_some _
      | true =>
        have hτ0 : ¬ (τ = 0) := by rw [hτ]; decide
        have e3 : wrap64 (-1 - (n : Int)) = -1 - (n : Int) := w64 (by omega) (by omega)
        simp only [hτ0, if_false, impl_in_eq, Option.bind_some, if_true, e2, e3]
        cases inB (-1 - (n : Int)) (-1000000000000000) 1000000000000000
        · simp only [Bool.false_eq_true, if_false]; exact ev_some _
        · simp only [if_true]; exact ev_some _
    · have hne : (((nB n : Nat) : Int) != (c : Int)) = true := by simp; omega
      simp only [impl_GetVar.j2.eq_2, hne, if_true, hc2, false_and, if_false]
      exact ev_some _
theorem impl_GetVar_ev (l : List Int) (hl : l.length ≤ 140737480000000) (hb : IsB l) (p : Int) (hp : -9223372036854775808 ≤ p ∧ p ≤ 9223372036854775807) : Ev (fun k => impl_GetVar.f k l p) (getVar l p) := by
  unfold impl_GetVar.f getVar
  by_cases h0 : p < 0
  · simp only [h0, if_true]
    rw [if_neg (by omega)]
    refine ev_succ ?_
    simp only [impl_GetVar.j0.eq_2, if_true]
    exact ev_some _
  · simp only [h0, if_false]
    by_cases h1 : p ≥ (l.length : Int)
    · rw [if_neg (by omega)]
      refine ev_succ ?_
      simp only [impl_GetVar.j0.eq_2, h1, decide_true, if_true]
      exact ev_some _
    · have a1 : (0 : Int) ≤ p := by omega
      have a2 : p < (l.length : Int) := by omega
      rw [if_pos ⟨a1, a2⟩]
      refine ev_succ ?_
      obtain ⟨g0, g1⟩ := rd_isB hb p
      have e1 : wrap64 (rd l p) = rd l p := w64 (by omega) (by omega)
      have e2 : wrap64 (rd l p - 128) = rd l p - 128 := w64 (by omega) (by omega)
      have e3 : wrap64 (127 - rd l p) = 127 - rd l p := w64 (by omega) (by omega)
      simp only [impl_GetVar.j0.eq_2, h1, decide_false, Bool.false_eq_true, if_false, a1, a2, if_true, e1, e2, e3]
      clear e1 e2 e3
      by_cases hneg : rd l p - 128 < 0
      · simp only [hneg, if_true]
        rw [if_neg (by omega)]
        by_cases h7 : 120 ≤ rd l p
        · rw [if_pos (by omega)]
          have := impl_GetVar_j1 l hl hb p ⟨a1, a2⟩ (127 - rd l p).toNat (by omega) true 255 rfl
          rw [show (((127 - rd l p).toNat : Nat) : Int) = 127 - rd l p by omega] at this
          exact this
        · rw [if_neg (by omega)]
          refine ev_succ ?_
          have h8 : 127 - rd l p > 7 := by omega
          simp only [impl_GetVar.j1.eq_2, h8, if_true]
          exact ev_some _
      · simp only [hneg, if_false]
        by_cases h7 : rd l p ≤ 135
        · rw [if_pos (by omega)]
          have := impl_GetVar_j1 l hl hb p ⟨a1, a2⟩ (rd l p - 128).toNat (by omega) false 0 rfl
          rw [show (((rd l p - 128).toNat : Nat) : Int) = rd l p - 128 by omega] at this
          exact this
        · rw [if_neg (by omega), if_neg (by omega)]
          refine ev_succ ?_
          have h8 : rd l p - 128 > 7 := by omega
          simp only [impl_GetVar.j1.eq_2, h8, if_true]
          exact ev_some _
attribute [local irreducible] impl_GetVar.f

theorem laws_big_eq (l : List Int) : laws_big.f l = some (decide ((l.length : Int) > 1048576)) := rfl
attribute [local irreducible] laws_big.f

theorem laws_sameBytes_l0 (a b : List Int) (he : a.length = b.length) (h : a.length ≤ 9223372036854775806) : ∀ i : Nat, i ≤ a.length → Ev (fun k => laws_sameBytes.l0 k a b (i : Int)) (decide (a.drop i = b.drop i)) := by
  refine up_ind a.length (fun i : Nat => Ev (fun k => laws_sameBytes.l0 k a b (i : Int)) (decide (a.drop i = b.drop i))) ?_ ?_
  · refine ev_succ ?_
    have h1 : ¬ ((a.length : Int) < (a.length : Int)) := by omega
    simp only [laws_sameBytes.l0.eq_2, h1, if_false]
    rw [decide_eq_true (by rw [List.drop_eq_nil_of_le (Nat.le_refl _), List.drop_eq_nil_of_le (by omega)])]
    exact ev_some _
  · intro i hi ih
    refine ev_succ ?_
    have hib : i < b.length := by omega
    have h1 : (i : Int) < (a.length : Int) := by omega
    have h2 : (0 : Int) ≤ (i : Int) := by omega
    have h3 : (i : Int) < (b.length : Int) := by omega
    simp only [laws_sameBytes.l0.eq_2, h1, h2, h3, if_true, rd_nat a i hi, rd_nat b i hib, wsucc (show i < 9223372036854775807 by omega)]
    rw [List.drop_eq_getElem_cons hi, List.drop_eq_getElem_cons hib]
    by_cases hv : a[i] = b[i]
    · simp only [hv, if_true, List.cons.injEq, true_and]
      exact ih
    · simp only [hv, if_false, List.cons.injEq, false_and, decide_false]
      exact ev_some _
theorem laws_sameBytes_ev (a b : List Int) (h : a.length ≤ 9223372036854775806) : Ev (fun k => laws_sameBytes.f k a b) (decide (a = b)) := by
  unfold laws_sameBytes.f
  by_cases he : a.length = b.length
  · have h1 : (a.length : Int) = (b.length : Int) := by omega
    simp only [h1, if_true]
    simpa using laws_sameBytes_l0 a b he h 0 (by omega)
  · have h1 : ¬ ((a.length : Int) = (b.length : Int)) := by omega
    simp only [h1, if_false]
    rw [decide_eq_false (fun e => he (by rw [e]))]
    exact ev_some _
attribute [local irreducible] laws_sameBytes.f

theorem spec_l1New_l0 (l : List Int) (hl : l.length ≤ 1048576) : ∀ i : Nat, i ≤ l.length → ∀ h : Int, ∃ r : Int, Ev (fun k => spec_l1New.l0 k l h (i : Int)) (l, 0, r) := by
  refine up_ind l.length (fun i : Nat => ∀ h : Int, ∃ r : Int, Ev (fun k => spec_l1New.l0 k l h (i : Int)) (l, 0, r)) ?_ ?_
  · intro h
    refine ⟨h, ev_succ ?_⟩
    have h1 : ¬ ((l.length : Int) < (l.length : Int)) := by omega
    simp only [spec_l1New.l0.eq_2, h1, if_false]
    exact ev_some _
  · intro i hi ih h
    have h1 : (i : Int) < (l.length : Int) := by omega
    have h2 : (0 : Int) ≤ (i : Int) := by omega
    by_cases h4 : (i : Int) < 4000
    · obtain ⟨r, hr⟩ := ih (Go.bits .and .i64 (wrap64 ((wrap64 ((wrap64 (h * 137)) + (wrap64 (rd l (i : Int))))) + 11)) 1073741823)
      refine ⟨r, ev_succ ?_⟩
      simp only [spec_l1New.l0.eq_2, h1, h2, h4, if_true, wsucc (show i < 9223372036854775807 by omega)]
      exact hr
    · refine ⟨h, ev_succ ?_⟩
      simp only [spec_l1New.l0.eq_2, h1, h4, if_true, if_false]
      exact ev_some _
theorem spec_l1New_ev (l : List Int) (hl : l.length ≤ 1048576) : ∃ r : Int, Ev (fun k => spec_l1New.f k l) (l, 0, r) := by
  unfold spec_l1New.f
  exact spec_l1New_l0 l hl 0 (by omega) _
/-- Where a reader of draws stands. -/
def Cur (l : List Int) (i : Int) : Prop := 0 ≤ i ∧ i ≤ l.length
theorem Cur.start (l : List Int) : Cur l 0 := ⟨by omega, by omega⟩
attribute [local irreducible] spec_l1New.f

theorem spec_l1Byte_ok (l : List Int) (hl : l.length ≤ 1048576) (i h : Int) (hc : Cur l i) : ∃ x i' h' : Int, spec_l1Byte.f l i h = some (x, i', h') ∧ 0 ≤ x ∧ x ≤ 255 ∧ Cur l i' := by
  unfold spec_l1Byte.f
  obtain ⟨c0, c1⟩ := hc
  by_cases h1 : i < (l.length : Int)
  · rw [if_pos h1, if_pos c0, w64 (x := i + 1) (by omega) (by omega)]
    refine ⟨_, _, _, rfl, ?_, ?_, ?_, ?_⟩
    · rw [and255]; omega
    · rw [and255]; omega
    · omega
    · omega
  · rw [if_neg h1]
    refine ⟨_, _, _, rfl, ?_, ?_, ?_, ?_⟩
    · rw [and255]; omega
    · rw [and255]; omega
    · omega
    · omega
attribute [local irreducible] spec_l1Byte.f

theorem spec_l1Below_ok (l : List Int) (hl : l.length ≤ 1048576) (i h : Int) (hc : Cur l i) (n : Int) : ∃ x i' h' : Int, spec_l1Below.f l i h n = some (x, i', h') ∧ 0 ≤ x ∧ (0 < n → x < n) ∧ (n ≤ 0 → x = 0) ∧ Cur l i' := by
  unfold spec_l1Below.f
  by_cases h0 : n ≤ 0
  · rw [if_pos h0]
    exact ⟨0, i, h, rfl, by omega, by omega, fun _ => rfl, hc⟩
  · rw [if_neg h0]
    have hn : ¬ (n = 0) := by omega
    obtain ⟨x, i1, h1, e1, x0, x1, c1⟩ := spec_l1Byte_ok l hl i h hc
    by_cases h256 : n ≤ 256
    · rw [if_pos h256, e1]
      simp only [Option.bind_some, hn, if_false]
      refine ⟨_, _, _, rfl, ?_, ?_, by omega, c1⟩
      · exact Int.tmod_nonneg _ x0
      · intro hp; exact Int.tmod_lt_of_pos _ hp
    · obtain ⟨y, i2, h2, e2, y0, y1, c2⟩ := spec_l1Byte_ok l hl i1 h1 c1
      obtain ⟨z, i3, h3, e3, z0, z1, c3⟩ := spec_l1Byte_ok l hl i2 h2 c2
      rw [if_neg h256, e1]
      simp only [Option.bind_some, e2, e3, hn, if_false]
      have w1 : wrap64 (x * 65536) = x * 65536 := w64 (by omega) (by omega)
      have w2 : wrap64 (y * 256) = y * 256 := w64 (by omega) (by omega)
      rw [w1, w2]
      clear w1 w2
      have w3 : wrap64 (x * 65536 + y * 256) = x * 65536 + y * 256 := w64 (by omega) (by omega)
      rw [w3]
      clear w3
      have w4 : wrap64 (x * 65536 + y * 256 + z) = x * 65536 + y * 256 + z := w64 (by omega) (by omega)
      rw [w4]
      clear w4
      refine ⟨_, _, _, rfl, ?_, ?_, by omega, c3⟩
      · exact Int.tmod_nonneg _ (by omega)
      · intro hp; exact Int.tmod_lt_of_pos _ hp
attribute [local irreducible] spec_l1Below.f

theorem spec_l1Int_ok (l : List Int) (hl : l.length ≤ 1048576) (i h : Int) (hc : Cur l i) (xs : List Int) (hx : 0 < xs.length) : ∃ x i' h' : Int, spec_l1Int.f l i h xs = some (x, i', h') ∧ x ∈ xs ∧ Cur l i' := by
  unfold spec_l1Int.f
  obtain ⟨x, i1, h1, e1, x0, x1, _, c1⟩ := spec_l1Below_ok l hl i h hc (xs.length : Int)
  have hlt := x1 (by omega)
  rw [e1]
  simp only [Option.bind_some, x0, hlt, if_true]
  obtain ⟨j, rfl⟩ := Int.eq_ofNat_of_zero_le x0
  have hj : j < xs.length := by omega
  exact ⟨_, _, _, rfl, by rw [rd_nat xs j hj]; exact List.getElem_mem hj, c1⟩
attribute [local irreducible] spec_l1Int.f

theorem spec_l1Num_ok (l : List Int) (hl : l.length ≤ 1048576) (i h : Int) (hc : Cur l i) : ∃ n i' h' : Int, spec_l1Num.f l i h = some (n, i', h') ∧ (-9223372036854775808 ≤ n ∧ n ≤ 9223372036854775807) ∧ Cur l i' := by
  unfold spec_l1Num.f
  obtain ⟨a, i1, h1, e1, a0, a1, _, c1⟩ := spec_l1Below_ok l hl i h hc 100000
  obtain ⟨b, i2, h2, e2, b0, b1, _, c2⟩ := spec_l1Below_ok l hl i1 h1 c1 100000
  have a2 := a1 (by omega)
  have b2 := b1 (by omega)
  simp only [e1, e2, Option.bind_some]
  rw [w64 (x := -b) (by omega) (by omega)]
  obtain ⟨n, i3, h3, e3, hm, c3⟩ := spec_l1Int_ok l hl i2 h2 c2 [0, 1, -1, 63, 127, 128, 255, 256, 65535, 65536, 2147483647, -2147483648, 2147483648, -2147483649, 1000000000000000, -1000000000000000, 1000000000000001, 9223372036854775807, -9223372036854775808, a, -b] (by simp)
  rw [e3]
  refine ⟨n, i3, h3, rfl, ?_, c3⟩
  simp only [List.mem_cons, List.not_mem_nil, or_false] at hm
  omega
attribute [local irreducible] spec_l1Num.f

theorem isB_set {l : List Int} (h : IsB l) (i : Nat) (v : Int) (h0 : 0 ≤ v) (h1 : v ≤ 255) : IsB (l.set i v) := fun x hx => by
  rcases List.mem_or_eq_of_mem_set hx with hx | rfl
  · exact h x hx
  · exact ⟨h0, h1⟩
theorem spec_l1Bend_ok (l : List Int) (hl : l.length ≤ 1048576) (i h : Int) (hc : Cur l i) (b : List Int) (hb : IsB b) (hbl : b.length ≤ 4294967296) : ∃ (o : List Int) (i' h' : Int), spec_l1Bend.f l i h b = some (o, i', h') ∧ o.length ≤ b.length + 1 ∧ IsB o ∧ Cur l i' := by
  unfold spec_l1Bend.f
  by_cases h0 : (b.length : Int) = 0
  · rw [if_pos h0]; exact ⟨b, i, h, rfl, by omega, hb, hc⟩
  rw [if_neg h0]
  obtain ⟨x, i1, h1, e1, x0, x1, _, c1⟩ := spec_l1Below_ok l hl i h hc 5
  simp only [e1, Option.bind_some]
  by_cases hx0 : x = 0
  · simp only [hx0, if_true]
    obtain ⟨j, i2, h2, e2, j0, j1, _, c2⟩ := spec_l1Below_ok l hl i1 h1 c1 (b.length : Int)
    obtain ⟨v, i3, h3, e3, hv, c3⟩ := spec_l1Int_ok l hl i2 h2 c2 [0, 1, 2, 127, 128, 255] (by decide)
    have hj := j1 (by omega)
    simp only [e2, e3, Option.bind_some, j0, hj, if_true]
    refine ⟨_, _, _, rfl, by rw [List.length_set]; omega, isB_set hb _ _ (by omega) (by omega), c3⟩
  · simp only [hx0, if_false]
    by_cases hx1 : x = 1
    · have hlt : b.length < 140737488355328 := by omega
      simp only [hx1, if_true, hlt]
      exact ⟨_, _, _, rfl, by simp, hb.append (IsB.cons (by omega) (by omega) IsB.nil), c1⟩
    · simp only [hx1, if_false]
      by_cases hx2 : x = 2
      · simp only [hx2, if_true]
        obtain ⟨j, i2, h2, e2, j0, j1, _, c2⟩ := spec_l1Below_ok l hl i1 h1 c1 (b.length : Int)
        have hj := j1 (by omega)
        have hj2 : j ≤ (b.length : Int) := by omega
        simp only [e2, Option.bind_some, j0, hj2, if_true]
        exact ⟨_, _, _, rfl, by rw [List.length_take]; omega, hb.take _, c2⟩
      · simp only [hx2, if_false]
        exact ⟨b, _, _, rfl, by omega, hb, c1⟩
attribute [local irreducible] spec_l1Bend.f

theorem spec_l1At_ok (l : List Int) (hl : l.length ≤ 1048576) (i h : Int) (hc : Cur l i) (b : List Int) (hbl : b.length ≤ 4294967296) : ∃ n i' h' : Int, spec_l1At.f l i h b = some (n, i', h') ∧ (-9223372036854775808 ≤ n ∧ n ≤ 9223372036854775807) ∧ Cur l i' := by
  unfold spec_l1At.f
  have w1 : wrap64 ((b.length : Int) + 1) = (b.length : Int) + 1 := w64 (by omega) (by omega)
  rw [w1]
  clear w1
  obtain ⟨x, i1, h1, e1, x0, x1, _, c1⟩ := spec_l1Below_ok l hl i h hc ((b.length : Int) + 1)
  have hx := x1 (by omega)
  simp only [e1, Option.bind_some]
  obtain ⟨n, i2, h2, e2, hm, c2⟩ := spec_l1Int_ok l hl i1 h1 c1 [0, 0, 0, (b.length : Int), x, -1, 9223372036854775807] (by simp)
  rw [e2]
  refine ⟨n, i2, h2, rfl, ?_, c2⟩
  simp only [List.mem_cons, List.not_mem_nil, or_false] at hm
  omega
attribute [local irreducible] spec_l1At.f

theorem bend_at_spec_DrawGetVar (l : List Int) (eb b : List Int) (i1 h1 i2 h2 n i3 h3 : Int) (e2 : spec_l1Bend.f l i1 h1 eb = some (b, i2, h2)) (e3 : spec_l1At.f l i2 h2 b = some (n, i3, h3)) :
    ((spec_l1Bend.f l i1 h1 eb).bind fun bt236 => (spec_l1At.f l bt236.2.1 bt236.2.2 bt236.1).bind fun bt241 => some (bt236.1, bt241.1)) = some (b, n) := by
  rw [e2, Option.bind_some, e3, Option.bind_some]
theorem spec_DrawGetVar_ev (l : List Int) (hl : l.length ≤ 1048576) : ∃ (b : List Int) (p : Int), Ev (fun k => spec_DrawGetVar.f k l) (b, p) ∧ b.length ≤ 100 ∧ IsB b ∧ (-9223372036854775808 ≤ p ∧ p ≤ 9223372036854775807) := by
  unfold spec_DrawGetVar.f
  obtain ⟨r, hr⟩ := spec_l1New_ev l hl
  obtain ⟨m, i1, h1, e1, hm, c1⟩ := spec_l1Num_ok l hl 0 r (Cur.start l)
  have hle := varB_len m
  have hp := spec_PutVar_ev [] m (by simp only [List.length_nil]; omega)
  rw [List.nil_append] at hp
  have heB := varB_isB m
  generalize varB m = eb at hp hle heB
  obtain ⟨b, i2, h2, e2, hbl, hbb, c2⟩ := spec_l1Bend_ok l hl i1 h1 c1 eb heB (by omega)
  obtain ⟨n, i3, h3, e3, hn, c3⟩ := spec_l1At_ok l hl i2 h2 c2 b (by omega)
  refine ⟨b, n, Ev.bind hr ?_, by omega, hbb, hn⟩
  simp only [e1, Option.bind_some]
  refine Ev.bind hp ?_
  exact Ev.congr (f := fun _ => some (b, n)) (fun k => bend_at_spec_DrawGetVar l eb b i1 h1 i2 h2 n i3 h3 e2 e3) (ev_some _)
attribute [local irreducible] spec_DrawGetVar.f

theorem spec_PutFix_eq (l : List Int) (n : Int) (h : l.length ≤ 140737480000000) (hn : -9223372036854775808 ≤ n ∧ n ≤ 9223372036854775807) : spec_PutFix.f l n = some (l ++ fixB n) := by
  unfold spec_PutFix.f
  have hc := clampN_spec n (-2147483648) 2147483647 (by omega)
  have h0 : l.length < 140737488355328 := by omega
  have h4 : l.length + (0 + 1 + 1 + 1 + 1) < 140737488355328 := by omega
  by_cases h1 : n > 2147483647
  · have e : clampN n (-2147483648) 2147483647 = 2147483647 := by omega
    simp only [h1, if_true, Option.bind_some, List.length_nil, Nat.zero_add, List.nil_append, h0, List.length_cons, fixB, e]
    rw [if_pos (by omega)]
    congr 2
  · by_cases h2 : n < -2147483648
    · have e : clampN n (-2147483648) 2147483647 = -2147483648 := by omega
      simp only [h1, h2, if_true, if_false, Option.bind_some, List.length_nil, Nat.zero_add, List.nil_append, h0, List.length_cons, fixB, e]
      rw [if_pos (by omega)]
      rfl
    · have e : clampN n (-2147483648) 2147483647 = n := by omega
      have e2 : wrap64 (n + 2147483648) = n + 2147483648 := w64 (by omega) (by omega)
      simp only [h1, h2, if_true, if_false, Option.bind_some, List.length_nil, Nat.zero_add, List.nil_append, h0, List.length_cons, fixB, e, e2]
      rw [if_pos (by omega)]
attribute [local irreducible] spec_PutFix.f

theorem bend_at_spec_DrawGetFix (l : List Int) (eb b : List Int) (i1 h1 i2 h2 n i3 h3 : Int) (e2 : spec_l1Bend.f l i1 h1 eb = some (b, i2, h2)) (e3 : spec_l1At.f l i2 h2 b = some (n, i3, h3)) :
    ((spec_l1Bend.f l i1 h1 eb).bind fun bt236 => (spec_l1At.f l bt236.2.1 bt236.2.2 bt236.1).bind fun bt241 => some (bt236.1, bt241.1)) = some (b, n) := by
  rw [e2, Option.bind_some, e3, Option.bind_some]
theorem spec_DrawGetFix_ev (l : List Int) (hl : l.length ≤ 1048576) : ∃ (b : List Int) (p : Int), Ev (fun k => spec_DrawGetFix.f k l) (b, p) ∧ b.length ≤ 100 ∧ IsB b ∧ (-9223372036854775808 ≤ p ∧ p ≤ 9223372036854775807) := by
  unfold spec_DrawGetFix.f
  obtain ⟨r, hr⟩ := spec_l1New_ev l hl
  obtain ⟨m, i1, h1, e1, hm, c1⟩ := spec_l1Num_ok l hl 0 r (Cur.start l)
  have hle := fixB_len m
  have hp := spec_PutFix_eq [] m (by simp only [List.length_nil]; omega) hm
  rw [List.nil_append] at hp
  have heB := fixB_isB m
  generalize fixB m = eb at hp hle heB
  obtain ⟨b, i2, h2, e2, hbl, hbb, c2⟩ := spec_l1Bend_ok l hl i1 h1 c1 eb heB (by omega)
  obtain ⟨n, i3, h3, e3, hn, c3⟩ := spec_l1At_ok l hl i2 h2 c2 b (by omega)
  refine ⟨b, n, Ev.bind hr ?_, by omega, hbb, hn⟩
  simp only [e1, Option.bind_some]
  rw [hp]
  exact Ev.congr (f := fun _ => some (b, n)) (fun k => bend_at_spec_DrawGetFix l eb b i1 h1 i2 h2 n i3 h3 e2 e3) (ev_some _)
attribute [local irreducible] spec_DrawGetFix.f

--import B
--import O
--import K
theorem FnVarsRead : laws_FnVarsRead.Pure := by
  intro l0 hm0 hb0 hw0
  refine Ev.rounds ?_
  unfold laws_FnVarsRead.f
  simp only [laws_big_eq, Option.bind_some]
  by_cases hn0 : (l0.length : Int) > 1048576
  · simp only [hn0, decide_true, if_true]; exact ev_some _
  simp only [hn0, decide_false, Bool.false_eq_true, if_false]
  have hl : l0.length ≤ 1048576 := by omega
  obtain ⟨b, p, hE1, hlb, hbb, hp⟩ := spec_DrawGetVar_ev l0 hl
  obtain ⟨c, q, hE2, hlc, hcb, hq⟩ := spec_DrawGetFix_ev l0 hl
  refine Ev.bind hE1 ?_
  simp only
  refine Ev.bind (impl_GetVar_ev b (by omega) hbb p hp) (Ev.bind (spec_GetVar_ev b (by omega) hbb p hp) (Ev.bind hE2 ?_))
  simp only
  refine Ev.bind (impl_GetFix_ev c (by omega) hcb q hq) (Ev.bind (spec_GetFix_ev c (by omega) hcb q hq) ?_)
  simp only [BEq.rfl, if_true]
  have hv : (getVar b p).2.2 = true → 0 ≤ p ∧ p ≤ (getVar b p).2.1 ∧ (getVar b p).2.1 ≤ b.length ∧ varB (getVar b p).1 = (b.take (getVar b p).2.1.toNat).drop p.toNat := by
    intro h
    obtain ⟨g0, g1, g2, _, _, g3⟩ := getVar_spec hbb (show getVar b p = ((getVar b p).1, (getVar b p).2.1, true) by rw [← h])
    exact ⟨g0, by omega, g2, g3⟩
  have hf : (getFix c q).2.2 = true → 0 ≤ q ∧ q ≤ (getFix c q).2.1 ∧ (getFix c q).2.1 ≤ c.length ∧ fixB (getFix c q).1 = (c.take (getFix c q).2.1.toNat).drop q.toNat := by
    intro h
    obtain ⟨g0, g1, g2, _, _, g3⟩ := getFix_spec hcb (show getFix c q = ((getFix c q).1, (getFix c q).2.1, true) by rw [← h])
    exact ⟨g0, by omega, g2, g3⟩
  have hrest : Ev (fun k => if (getFix c q).2.2 = true then (impl_PutFix.f k [] (getFix c q).1).bind fun t => (if 0 ≤ q then (if q ≤ (getFix c q).2.1 then (if (getFix c q).2.1 ≤ (c.length : Int) then ((laws_sameBytes.f k t ((c.take ((getFix c q).2.1 : Int).toNat).drop (q : Int).toNat)).bind fun t422 => (some t422)) else none) else none) else none) else some true) true := by
    generalize getFix c q = g at hf
    obtain ⟨m, e, ok⟩ := g
    cases ok with
    | false => simp only [Bool.false_eq_true, if_false]; exact ev_some _
    | true =>
      obtain ⟨h0, h1, h2, h3⟩ := hf rfl
      simp only at h1 h2 h3
      simp only [if_true]
      refine Ev.bind (impl_PutFix_ev [] m (by simp only [List.length_nil]; omega)) ?_
      simp only [h0, h1, h2, if_true, List.nil_append, h3]
      have s5 := laws_sameBytes_ev ((c.take e.toNat).drop q.toNat) ((c.take e.toNat).drop q.toNat) (by rw [List.length_drop, List.length_take]; omega)
      rw [decide_eq_true rfl] at s5
      exact Ev.bind s5 (ev_some _)
  generalize getFix c q = gf at hrest ⊢
  generalize getVar b p = g at hv ⊢
  obtain ⟨m, e, ok⟩ := g
  cases ok with
  | false =>
    simp only [Bool.false_eq_true, if_false]
    exact hrest
  | true =>
    obtain ⟨h0, h1, h2, h3⟩ := hv rfl
    simp only at h1 h2 h3
    simp only [if_true]
    refine Ev.bind (impl_PutVar_ev [] m (by simp only [List.length_nil]; omega)) ?_
    simp only [h0, h1, h2, if_true, List.nil_append, h3]
    have s5 := laws_sameBytes_ev ((b.take e.toNat).drop p.toNat) ((b.take e.toNat).drop p.toNat) (by rw [List.length_drop, List.length_take]; omega)
    rw [decide_eq_true rfl] at s5
    refine Ev.bind s5 ?_
    simp only [if_true]
    exact hrest

end Go.Proofs.Ytefaalelkbbnkaa.Pure

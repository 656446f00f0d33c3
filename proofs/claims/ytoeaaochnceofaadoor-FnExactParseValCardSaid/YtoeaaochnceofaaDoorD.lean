/- Decimal numerals: what a parser without needless noughts takes is just what Itoa writes; what Itoa writes Atoi reads. Plain Lean. -/
import Derived.Test.YtoeaaochnceofaaDoorM
import Derived.Lib.ItoaMem
import Derived.Lib.AtoiAllCases
namespace Go.Proofs.YtoeaaochnceofaaDoor.Pure
open Go.Lib
set_option linter.unusedVariables false
set_option linter.unusedSimpArgs false

def dgC (c : UInt8) : Bool := decide (48 ≤ c.toNat ∧ c.toNat ≤ 57)
def dval (a : Nat) (l : List UInt8) : Nat := l.foldl (fun a c => a * 10 + (c.toNat - 48)) a
theorem dval_snoc (a : Nat) (l : List UInt8) (c : UInt8) : dval a (l ++ [c]) = dval a l * 10 + (c.toNat - 48) := by simp [dval]
theorem dval_lt : ∀ (l : List UInt8) (a : Nat), l.all dgC = true → dval a l < (a + 1) * 10 ^ l.length := by
  intro l
  induction l with
  | nil => intro a _; simp [dval]
  | cons c r ih =>
    intro a h
    simp only [List.all_cons, Bool.and_eq_true] at h
    have hc : 48 ≤ c.toNat ∧ c.toNat ≤ 57 := of_decide_eq_true h.1
    have h2 := ih (a * 10 + (c.toNat - 48)) h.2
    have e : dval a (c :: r) = dval (a * 10 + (c.toNat - 48)) r := rfl
    rw [e]
    refine Nat.lt_of_lt_of_le h2 ?_
    have e2 : (a + 1) * 10 ^ (c :: r).length = ((a + 1) * 10) * 10 ^ r.length := by
      rw [List.length_cons, Nat.pow_succ, Nat.mul_assoc, Nat.mul_comm 10]
    rw [e2]
    exact Nat.mul_le_mul_right _ (by omega)
theorem snoc_ind {α : Type} {P : List α → Prop} (h0 : P []) (h1 : ∀ l x, P l → P (l ++ [x])) (l : List α) : P l := by
  have : P l.reverse.reverse := by
    induction l.reverse with
    | nil => exact h0
    | cons x r ih => rw [List.reverse_cons]; exact h1 _ _ ih
  rwa [List.reverse_reverse] at this
theorem digit_of (c : UInt8) (h : 48 ≤ c.toNat) : UInt8.ofNat (48 + (c.toNat - 48)) = c := by
  have : 48 + (c.toNat - 48) = c.toNat := by omega
  rw [this]; simp
/-- digits without a needless nought are the numeral of what they spell -/
theorem dec_dval (l : List UInt8) : l ≠ [] → l.all dgC = true → (∀ c, l.head? = some c → c.toNat = 48 → l.length = 1) →
    decDigits (dval 0 l) = l ∧ (∀ c, l.head? = some c → c.toNat ≠ 48 → 1 ≤ dval 0 l) := by
  refine snoc_ind (P := fun l => l ≠ [] → l.all dgC = true → (∀ c, l.head? = some c → c.toNat = 48 → l.length = 1) →
    decDigits (dval 0 l) = l ∧ (∀ c, l.head? = some c → c.toNat ≠ 48 → 1 ≤ dval 0 l)) (fun h => absurd rfl h) ?_ l
  intro l x ih _ hd hz
  rw [List.all_append, Bool.and_eq_true] at hd
  have hx : 48 ≤ x.toNat ∧ x.toNat ≤ 57 := by
    have := hd.2
    simp only [List.all_cons, List.all_nil, Bool.and_true] at this
    exact of_decide_eq_true this
  rw [dval_snoc]
  cases l with
  | nil =>
    have e : dval 0 ([] : List UInt8) = 0 := rfl
    rw [e]
    refine ⟨?_, ?_⟩
    · rw [decDigits, dif_pos (by omega)]
      have := digit_of x hx.1
      simp only [Nat.zero_mul, Nat.zero_add, this, List.nil_append]
    · intro c hc hne
      simp only [List.nil_append, List.head?_cons, Option.some.injEq] at hc
      subst hc
      omega
  | cons y r =>
    have hy : y.toNat ≠ 48 := fun h => by
      have := hz y (by simp) h
      simp at this
    obtain ⟨i1, i2⟩ := ih (by simp) hd.1 (fun c hc h48 => by
      simp only [List.head?_cons, Option.some.injEq] at hc
      subst hc
      exact absurd h48 hy)
    have i3 := i2 y (by simp) hy
    refine ⟨?_, fun c _ _ => by omega⟩
    rw [decDigits, dif_neg (by omega)]
    have e1 : (dval 0 (y :: r) * 10 + (x.toNat - 48)) / 10 = dval 0 (y :: r) := by omega
    have e2 : (dval 0 (y :: r) * 10 + (x.toNat - 48)) % 10 = x.toNat - 48 := by omega
    rw [e1, e2, i1, digit_of x hx.1]
theorem dgC_of (d : Nat) (h : d < 10) : dgC (UInt8.ofNat (48 + d)) = true := by
  unfold dgC
  have : (UInt8.ofNat (48 + d)).toNat = 48 + d := by simp; omega
  rw [this]
  exact decide_eq_true (by omega)
theorem toNat_of (d : Nat) (h : d < 10) : (UInt8.ofNat (48 + d)).toNat = 48 + d := by simp; omega
theorem dec_all (u : Nat) : (decDigits u).all dgC = true := by
  induction u using Nat.strongRecOn with
  | _ u ih =>
    rw [decDigits]
    split
    · simp only [List.all_cons, List.all_nil, Bool.and_true]; exact dgC_of u (by omega)
    · rw [List.all_append, ih (u / 10) (by omega)]
      simp only [List.all_cons, List.all_nil, Bool.and_true, Bool.true_and]
      exact dgC_of _ (by omega)
theorem dec_len (j : Nat) : ∀ u, u < 10 ^ (j + 1) → 1 ≤ (decDigits u).length ∧ (decDigits u).length ≤ j + 1 := by
  induction j with
  | zero =>
    intro u hu
    rw [decDigits, dif_pos (by omega)]
    simp
  | succ j ih =>
    intro u hu
    rw [decDigits]
    split
    · simp
    · have := ih (u / 10) (by rw [Nat.pow_succ] at hu; omega)
      simp only [List.length_append, List.length_cons, List.length_nil]
      omega
theorem dec_head (u : Nat) (h : 1 ≤ u) : ∃ c r, decDigits u = c :: r ∧ 49 ≤ c.toNat ∧ c.toNat ≤ 57 := by
  induction u using Nat.strongRecOn with
  | _ u ih =>
    rw [decDigits]
    split
    · exact ⟨_, [], rfl, by rw [toNat_of u (by omega)]; omega, by rw [toNat_of u (by omega)]; omega⟩
    · obtain ⟨c, r, e, h1, h2⟩ := ih (u / 10) (by omega) (by omega)
      rw [e]
      exact ⟨c, _, rfl, h1, h2⟩
theorem dec_zero : decDigits 0 = [48] := by rw [decDigits]; rfl
/-- what a parser without needless noughts makes of a list: the number, and whether it is one -/
def magP (m : Bool) (d : List UInt8) : Int × Bool :=
  if (1 ≤ d.length ∧ d.length ≤ 16) ∧ ¬ (d.head? = some 48 ∧ (1 < d.length ∨ m = true)) ∧ d.all dgC = true then (if m = true then -(dval 0 d : Int) else (dval 0 d : Int), true) else (0, false)
def parseP (l : List UInt8) : Int × Bool := if l.head? = some 45 then magP true l.tail else magP false l
theorem magP_ok {m : Bool} {d : List UInt8} {n : Int} (h : magP m d = (n, true)) : ∃ u : Nat, u < 10000000000000000 ∧ decDigits u = d ∧ (m = true → 1 ≤ u) ∧ n = if m = true then -(u : Int) else (u : Int) := by
  unfold magP at h
  split at h
  · next hc =>
    obtain ⟨⟨h1, h2⟩, h3, h4⟩ := hc
    have hne : d ≠ [] := fun e => by subst e; simp at h1
    have hz : ∀ c, d.head? = some c → c.toNat = 48 → d.length = 1 := fun c hc h48 => by
      have : c = 48 := UInt8.toNat_inj.1 h48
      subst this
      by_cases hl : 1 < d.length
      · exact absurd ⟨hc, .inl hl⟩ h3
      · omega
    obtain ⟨e1, e2⟩ := dec_dval d hne h4 hz
    have hlt := dval_lt d 0 h4
    have hp : 10 ^ d.length ≤ 10 ^ 16 := Nat.pow_le_pow_right (by omega) h2
    have hp2 : (10 : Nat) ^ 16 = 10000000000000000 := by rfl
    refine ⟨dval 0 d, by omega, e1, fun hm => ?_, ((Prod.mk.inj h).1).symm⟩
    cases d with
    | nil => exact absurd rfl hne
    | cons c r =>
      refine e2 c (by simp) (fun h48 => ?_)
      have : c = 48 := UInt8.toNat_inj.1 h48
      subst this
      exact h3 ⟨by simp, .inr hm⟩
  · exact absurd (Prod.mk.inj h).2 (by decide)
theorem magP_of (m : Bool) (u : Nat) (h : u < 10000000000000000) (hm : m = true → 1 ≤ u) : (magP m (decDigits u)).2 = true := by
  unfold magP
  have hl := dec_len 15 u (by simpa using h)
  rw [if_pos]
  refine ⟨⟨hl.1, by omega⟩, ?_, dec_all u⟩
  rintro ⟨hh, hc⟩
  by_cases hu : 1 ≤ u
  · obtain ⟨c, r, e, h1, _⟩ := dec_head u hu
    rw [e] at hh
    simp only [List.head?_cons, Option.some.injEq] at hh
    subst hh
    exact absurd h1 (by decide)
  · have : u = 0 := by omega
    subst this
    rw [dec_zero] at hc
    rcases hc with hc | hc
    · simp at hc
    · exact hu (hm hc)
theorem parseP_ok {l : List UInt8} {n : Int} (h : parseP l = (n, true)) : l = itoa n ∧ -10000000000000000 < n ∧ n < 10000000000000000 := by
  unfold parseP at h
  split at h
  · next hh =>
    obtain ⟨u, hu, hd, h1, rfl⟩ := magP_ok h
    have h1 := h1 rfl
    rw [if_pos rfl]
    refine ⟨?_, by omega, by omega⟩
    rw [itoa_neg u h1, hd]
    cases l with
    | nil => simp at hh
    | cons c r =>
      simp only [List.head?_cons, Option.some.injEq] at hh
      subst hh
      rfl
  · obtain ⟨u, hu, hd, _, rfl⟩ := magP_ok h
    simp only [Bool.false_eq_true, if_false]
    exact ⟨by rw [itoa_nonneg, hd], by omega, by omega⟩
theorem parseP_of (n : Int) (h0 : -10000000000000000 < n) (h1 : n < 10000000000000000) : (parseP (itoa n)).2 = true := by
  unfold parseP
  by_cases hn : n < 0
  · obtain ⟨u, rfl⟩ : ∃ u : Nat, n = -(u : Int) := ⟨n.natAbs, by omega⟩
    rw [itoa_neg u (by omega)]
    simp only [List.head?_cons, if_true, List.tail_cons]
    exact magP_of true u (by omega) (fun _ => by omega)
  · obtain ⟨u, rfl⟩ : ∃ u : Nat, n = (u : Int) := ⟨n.toNat, by omega⟩
    rw [itoa_nonneg]
    have hh : ¬ (decDigits u).head? = some 45 := by
      intro hh
      have := dec_all u
      cases hd : decDigits u with
      | nil => rw [hd] at hh; simp at hh
      | cons c r =>
        rw [hd] at hh this
        simp only [List.head?_cons, Option.some.injEq] at hh
        subst hh
        simp only [List.all_cons, Bool.and_eq_true] at this
        exact absurd this.1 (by decide)
    rw [if_neg hh]
    exact magP_of false u (by omega) (fun h => by cases h)
theorem pu_snoc : ∀ (l : List UInt8) (a v : Nat) (c : UInt8), parseUint10 a l = .ok v → v < 1000000000000000000 → 48 ≤ c.toNat → c.toNat ≤ 57 → parseUint10 a (l ++ [c]) = .ok (v * 10 + (c.toNat - 48))
  | [], a, v, c, h, hv, h1, h2 => by
    simp only [parseUint10] at h
    injection h with h
    subst h
    simp only [List.nil_append, parseUint10]
    rw [if_pos ⟨h1, h2⟩, if_neg (by omega), if_neg (by omega)]
  | x :: r, a, v, c, h, hv, h1, h2 => by
    simp only [List.cons_append, parseUint10] at h ⊢
    split at h
    · next hx =>
      rw [if_pos hx]
      split at h
      · cases h
      · next hy =>
        rw [if_neg hy]
        split at h
        · cases h
        · next hz =>
          rw [if_neg hz]
          exact pu_snoc r _ v c h hv h1 h2
    · cases h
theorem pu_dec (u : Nat) (h : u < 100000000000000000) : parseUint10 0 (decDigits u) = .ok u := by
  induction u using Nat.strongRecOn with
  | _ u ih =>
    rw [decDigits]
    split
    · next hu =>
      have e := toNat_of u hu
      simp only [parseUint10, e]
      rw [if_pos (by omega), if_neg (by omega), if_neg (by omega)]
      congr 1
      omega
    · next hu =>
      have e := toNat_of (u % 10) (by omega)
      rw [pu_snoc _ 0 (u / 10) _ (ih (u / 10) (by omega) (by omega)) (by omega) (by rw [e]; omega) (by rw [e]; omega), e]
      congr 1
      omega
theorem pm_dec (u : Nat) (h : u < 100000000000000000) : parseMag (decDigits u) = .ok u := by
  unfold parseMag
  rw [if_neg, pu_dec u h]
  intro e
  by_cases hu : 1 ≤ u
  · obtain ⟨c, r, e2, _⟩ := dec_head u hu
    rw [e2] at e; cases e
  · have : u = 0 := by omega
    subst this
    rw [dec_zero] at e; cases e
/-- what Itoa writes Atoi reads -/
theorem atoi_itoa (n : Int) (h0 : -10000000000000000 < n) (h1 : n < 10000000000000000) : atoiAll (itoa n) = .ok n := by
  by_cases hn : n < 0
  · obtain ⟨u, rfl⟩ : ∃ u : Nat, n = -(u : Int) := ⟨n.natAbs, by omega⟩
    rw [itoa_neg u (by omega), atoiAll_minus, pm_dec u (by omega)]
    simp only [signed]
    rw [if_neg (by omega)]
  · obtain ⟨u, rfl⟩ : ∃ u : Nat, n = (u : Int) := ⟨n.toNat, by omega⟩
    rw [itoa_nonneg]
    have hd := dec_all u
    have hp := pm_dec u (by omega)
    cases he : decDigits u with
    | nil => rw [he] at hp; unfold parseMag at hp; simp at hp
    | cons c r =>
      rw [he] at hd hp
      simp only [List.all_cons, Bool.and_eq_true] at hd
      have hc : 48 ≤ c.toNat ∧ c.toNat ≤ 57 := of_decide_eq_true hd.1
      rw [atoiAll_plain c r (by omega) (by omega), hp]
      simp only [signless]
      rw [if_neg (by omega)]
end Go.Proofs.YtoeaaochnceofaaDoor.Pure

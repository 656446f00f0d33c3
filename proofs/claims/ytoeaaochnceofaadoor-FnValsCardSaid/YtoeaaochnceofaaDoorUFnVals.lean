/- Plain words and lemmas of this seat that this statement's pure text names (out of M, B, O, K by trim.py). No Go in sight. -/
import Derived.Test.YtoeaaochnceofaaDoorV
import Derived.Laws.BitsAllLaws
import Derived.Laws.Bits128
import Derived.Lib.Bytes
import Derived.Lib.ItoaMem
import Derived.Lib.AtoiAllCases
namespace Go.Proofs.YtoeaaochnceofaaDoorM
open Go.RowKit Go.Proofs.YtoeaaochnceofaaDoorW.PrintWords
theorem w64 {x : Int} (h1 : -9223372036854775808 ≤ x) (h2 : x ≤ 9223372036854775807) : wrap64 x = x := by unfold wrap64; omega
theorem wsucc {i : Nat} (h : i < 9223372036854775807) : wrap64 ((i : Int) + 1) = ((i + 1 : Nat) : Int) := by unfold wrap64; omega
theorem ev_succ {α : Type} {g : Nat → Option α} {r : α} (h : Ev (fun k => g (k + 1)) r) : Ev g r := Ev.step (fun _ => rfl) h
theorem ev_some {α : Type} (r : α) : Ev (fun _ => some r) r := Ev.now r
theorem up_ind (n : Nat) (P : Nat → Prop) (hn : P n) (hs : ∀ i, i < n → P (i + 1) → P i) : ∀ i, i ≤ n → P i := by
  intro i hi
  obtain ⟨d, rfl⟩ : ∃ d, n = i + d := ⟨n - i, by omega⟩
  induction d generalizing i with
  | zero => exact hn
  | succ d ih => exact hs i (by omega) (ih (i + 1) (by rw [show i + 1 + d = i + (d + 1) by omega]; exact hn) (fun j hj => hs j (by omega)) (by omega))
theorem rd_nat (xs : List Int) (i : Nat) (h : i < xs.length) : rd xs (i : Int) = xs[i] := by
  unfold rd; simp [List.getD_eq_getElem?_getD, h]
def inB (x lo hi : Int) : Bool := decide (lo ≤ x ∧ x ≤ hi)
theorem in_ite (x lo hi : Int) : (if x ≥ lo then some (decide (x ≤ hi)) else some false) = some (inB x lo hi) := by
  unfold inB
  split <;> rename_i h
  · by_cases h2 : x ≤ hi <;> simp [h2] <;> omega
  · simp; omega
def isE (s : ByteArray) : Bool := s.toList == ([] : List UInt8)
def valOkB (k n : Int) (s : ByteArray) : Bool :=
  if k = 0 then decide (n = 0) && isE s else if k = 1 then inB n (-2147483648) 2147483647 && isE s else if k = 2 then inB n (-1000000000000000) 1000000000000000 && isE s
  else if k = 3 then decide (n = 0) && decide ((s.size : Int) ≤ 30) else if k = 4 then inB n 0 1 && isE s else false
def fitsB (t : Int) (null : Bool) (k n : Int) (s : ByteArray) : Bool := valOkB k n s && (if k = 0 then null else decide (k = t))
end Go.Proofs.YtoeaaochnceofaaDoorM
namespace Go.Proofs.YtoeaaochnceofaaDoorM
set_option linter.unusedVariables false
set_option linter.unusedSimpArgs false
open Go.RowKit Go.Proofs.YtoeaaochnceofaaDoorW.PrintWords Go.Proofs.YtoeaaochnceofaaDoorW.PrintMore
def IsB (l : List Int) : Prop := ∀ x ∈ l, 0 ≤ x ∧ x ≤ 255
theorem IsB.get {l : List Int} (h : IsB l) (i : Nat) (hi : i < l.length) : 0 ≤ l[i] ∧ l[i] ≤ 255 := h _ (List.getElem_mem hi)
theorem IsB.nil : IsB [] := fun x hx => by cases hx
theorem IsB.cons {x : Int} {l : List Int} (h0 : 0 ≤ x) (h1 : x ≤ 255) (hl : IsB l) : IsB (x :: l) := fun y hy => by
  rcases List.mem_cons.1 hy with rfl | hy
  · exact ⟨h0, h1⟩
  · exact hl y hy
theorem IsB.take {l : List Int} (h : IsB l) (n : Nat) : IsB (l.take n) := fun x hx => h x (List.mem_of_mem_take hx)
theorem IsB.drop {l : List Int} (h : IsB l) (n : Nat) : IsB (l.drop n) := fun x hx => h x (List.mem_of_mem_drop hx)
theorem and255 (n : Int) : bits .and .i64 n 255 = n % 256 := by
  have h127 : (BitVec.ofInt 64 255).toNat = 2 ^ 8 - 1 := by decide
  have key : (BitVec.ofInt 64 n &&& BitVec.ofInt 64 255).toNat = (n % ((2 ^ 64 : Nat) : Int)).toNat % 2 ^ 8 := by
    rw [BitVec.toNat_and, BitVec.toNat_ofInt, h127, Nat.and_two_pow_sub_one_eq_mod]
  show IntKind.i64.wrap ((BitVec.ofInt 64 n &&& BitVec.ofInt 64 255).toNat : Nat) = n % 256
  rw [key, IntKind.wrap_i64]
  omega
theorem e0 : (128 : Int) ^ 0 = 1 := rfl
theorem e1 : (128 : Int) ^ (0 + 1) = 128 := rfl
theorem e2 : (128 : Int) ^ (0 + 1 + 1) = 16384 := rfl
theorem bytesOf_isB (s : ByteArray) : IsB (bytesOf s) := fun x hx => by
  obtain ⟨b, _, rfl⟩ := List.mem_map.1 hx
  have := b.toNat_lt
  omega
theorem bytesOf_len (s : ByteArray) : (bytesOf s).length = s.size := by
  unfold bytesOf
  rw [List.length_map, Array.length_toList]; rfl
theorem strOfNums_bytesOf (s : ByteArray) : strOfNums (bytesOf s) = s := by
  unfold bytesOf strOfNums
  rw [List.map_map]
  have : (s.data.toList.map ((fun n : Int => UInt8.ofNat n.toNat) ∘ fun b => (b.toNat : Int))) = s.data.toList := by
    conv => rhs; rw [← List.map_id s.data.toList]
    apply List.map_congr_left
    intro x _
    simp
  rw [this]
theorem str_eq_iff (s t : ByteArray) : s.toList = t.toList ↔ bytesOf s = bytesOf t := by
  rw [ByteArray.toList_eq, ByteArray.toList_eq]
  constructor
  · intro h; unfold bytesOf; rw [h]
  · intro h
    have := congrArg strOfNums h
    rw [strOfNums_bytesOf, strOfNums_bytesOf] at this
    rw [this]
theorem bt_get (s : ByteArray) (i : Nat) (h : i < s.size) : bt s (i : Int) = (bytesOf s)[i]'(by rw [bytesOf_len]; exact h) := by
  unfold bt bytesOf
  simp only [Int.toNat_natCast, h, dif_pos, List.getElem_map]
  rfl
def crcStep (x : Nat) : Nat := if x % 2 = 1 then x / 2 ^^^ 2197175160 else x / 2
def crcN : Nat → Nat → Nat
  | 0, x => x
  | j + 1, x => crcN j (crcStep x)
def crcByte (x b : Nat) : Nat := crcN 8 (x ^^^ b)
attribute [irreducible] crcByte
end Go.Proofs.YtoeaaochnceofaaDoorM
namespace Go.Proofs.YtoeaaochnceofaaDoorM
set_option linter.unusedVariables false
set_option linter.unusedSimpArgs false
open Go.RowKit Go.Proofs.YtoeaaochnceofaaDoorW.PrintWords Go.Proofs.YtoeaaochnceofaaDoorW.PrintMore
theorem u8_lt {x y : Int} (hx : 0 ≤ x ∧ x ≤ 255) (hy : 0 ≤ y ∧ y ≤ 255) : decide (UInt8.ofNat x.toNat < UInt8.ofNat y.toNat) = decide (x < y) := by
  apply decide_eq_decide.2
  rw [UInt8.lt_iff_toNat_lt]
  simp only [UInt8.toNat_ofNat']
  omega
def Lt (u w : List Int) : Prop := ∃ (p : List Int) (c d : Int) (u' w' : List Int), u = p ++ c :: u' ∧ w = p ++ d :: w' ∧ c < d
theorem Lt.left {u w : List Int} (h : Lt u w) (p : List Int) : Lt (p ++ u) (p ++ w) := by
  obtain ⟨q, c, d, u', w', rfl, rfl, hcd⟩ := h
  exact ⟨p ++ q, c, d, u', w', by simp, by simp, hcd⟩
theorem Lt.cons {u w : List Int} (h : Lt u w) (x : Int) : Lt (x :: u) (x :: w) := h.left [x]
end Go.Proofs.YtoeaaochnceofaaDoorM
namespace Go.Proofs.YtoeaaochnceofaaDoorM
set_option linter.unusedVariables false
set_option linter.unusedSimpArgs false
open Go.RowKit Go.Proofs.YtoeaaochnceofaaDoorW.PrintWords Go.Proofs.YtoeaaochnceofaaDoorW.PrintMore
theorem isE_bytes {s : ByteArray} (h : isE s = true) : s = ⟨#[]⟩ := by
  have h1 : s.toList = [] := by unfold isE at h; exact eq_of_beq h
  have h2 : bytesOf s = [] := by
    have := (str_eq_iff s ⟨#[]⟩).1 (by rw [h1, ByteArray.toList_eq])
    rw [this]
    apply List.eq_nil_of_length_eq_zero
    rw [bytesOf_len]; rfl
  rw [← strOfNums_bytesOf s, h2]; rfl
theorem fits_cases {t : Int} {null : Bool} {k n : Int} {s : ByteArray} (h : fitsB t null k n s = true) (ht : 1 ≤ t ∧ t ≤ 4) :
    (null = true ∧ k = 0 ∧ n = 0 ∧ s = ⟨#[]⟩) ∨ (k = t ∧ ((k = 1 ∧ -2147483648 ≤ n ∧ n ≤ 2147483647 ∧ s = ⟨#[]⟩) ∨ (k = 2 ∧ -1000000000000000 ≤ n ∧ n ≤ 1000000000000000 ∧ s = ⟨#[]⟩) ∨ (k = 3 ∧ n = 0 ∧ s.size ≤ 30) ∨ (k = 4 ∧ 0 ≤ n ∧ n ≤ 1 ∧ s = ⟨#[]⟩))) := by
  unfold fitsB at h
  rw [Bool.and_eq_true] at h
  obtain ⟨h1, h2⟩ := h
  unfold valOkB at h1
  by_cases k0 : k = 0
  · rw [if_pos k0] at h1 h2
    rw [Bool.and_eq_true] at h1
    exact .inl ⟨h2, k0, of_decide_eq_true h1.1, isE_bytes h1.2⟩
  rw [if_neg k0] at h1 h2
  have hk := of_decide_eq_true h2
  refine .inr ⟨hk, ?_⟩
  by_cases k1 : k = 1
  · rw [if_pos k1, Bool.and_eq_true] at h1
    have := of_decide_eq_true h1.1
    exact .inl ⟨k1, this.1, this.2, isE_bytes h1.2⟩
  rw [if_neg k1] at h1
  by_cases k2 : k = 2
  · rw [if_pos k2, Bool.and_eq_true] at h1
    have := of_decide_eq_true h1.1
    exact .inr (.inl ⟨k2, this.1, this.2, isE_bytes h1.2⟩)
  rw [if_neg k2] at h1
  by_cases k3 : k = 3
  · rw [if_pos k3, Bool.and_eq_true] at h1
    have := of_decide_eq_true h1.1
    have h4 := of_decide_eq_true h1.2
    exact .inr (.inr (.inl ⟨k3, this, by omega⟩))
  rw [if_neg k3] at h1
  have k4 : k = 4 := by omega
  rw [if_pos k4, Bool.and_eq_true] at h1
  have := of_decide_eq_true h1.1
  exact .inr (.inr (.inr ⟨k4, this.1, this.2, isE_bytes h1.2⟩))
end Go.Proofs.YtoeaaochnceofaaDoorM
namespace Go.Proofs.YtoeaaochnceofaaDoor.Pure
open Go.Lib
set_option linter.unusedVariables false
set_option linter.unusedSimpArgs false
def dgC (c : UInt8) : Bool := decide (48 ≤ c.toNat ∧ c.toNat ≤ 57)
def dval (a : Nat) (l : List UInt8) : Nat := l.foldl (fun a c => a * 10 + (c.toNat - 48)) a
theorem dval_snoc (a : Nat) (l : List UInt8) (c : UInt8) : dval a (l ++ [c]) = dval a l * 10 + (c.toNat - 48) := by simp [dval]
theorem dval_lt : ∀ (l : List UInt8) (a : Nat), l.all dgC = true → dval a l < (a + 1) * 10 ^ l.length := by
  intro l
  induction l with
  | nil => intro a _; simp [dval]
  | cons c r ih =>
    intro a h
    simp only [List.all_cons, Bool.and_eq_true] at h
    have hc : 48 ≤ c.toNat ∧ c.toNat ≤ 57 := of_decide_eq_true h.1
    have h2 := ih (a * 10 + (c.toNat - 48)) h.2
    have e : dval a (c :: r) = dval (a * 10 + (c.toNat - 48)) r := rfl
    rw [e]
    refine Nat.lt_of_lt_of_le h2 ?_
    have e2 : (a + 1) * 10 ^ (c :: r).length = ((a + 1) * 10) * 10 ^ r.length := by
      rw [List.length_cons, Nat.pow_succ, Nat.mul_assoc, Nat.mul_comm 10]
    rw [e2]
    exact Nat.mul_le_mul_right _ (by omega)
theorem snoc_ind {α : Type} {P : List α → Prop} (h0 : P []) (h1 : ∀ l x, P l → P (l ++ [x])) (l : List α) : P l := by
  have : P l.reverse.reverse := by
    induction l.reverse with
    | nil => exact h0
    | cons x r ih => rw [List.reverse_cons]; exact h1 _ _ ih
  rwa [List.reverse_reverse] at this
theorem digit_of (c : UInt8) (h : 48 ≤ c.toNat) : UInt8.ofNat (48 + (c.toNat - 48)) = c := by
  have : 48 + (c.toNat - 48) = c.toNat := by omega
  rw [this]; simp
theorem dec_dval (l : List UInt8) : l ≠ [] → l.all dgC = true → (∀ c, l.head? = some c → c.toNat = 48 → l.length = 1) →
    decDigits (dval 0 l) = l ∧ (∀ c, l.head? = some c → c.toNat ≠ 48 → 1 ≤ dval 0 l) := by
  refine snoc_ind (P := fun l => l ≠ [] → l.all dgC = true → (∀ c, l.head? = some c → c.toNat = 48 → l.length = 1) →
    decDigits (dval 0 l) = l ∧ (∀ c, l.head? = some c → c.toNat ≠ 48 → 1 ≤ dval 0 l)) (fun h => absurd rfl h) ?_ l
  intro l x ih _ hd hz
  rw [List.all_append, Bool.and_eq_true] at hd
  have hx : 48 ≤ x.toNat ∧ x.toNat ≤ 57 := by
    have := hd.2
    simp only [List.all_cons, List.all_nil, Bool.and_true] at this
    exact of_decide_eq_true this
  rw [dval_snoc]
  cases l with
  | nil =>
    have e : dval 0 ([] : List UInt8) = 0 := rfl
    rw [e]
    refine ⟨?_, ?_⟩
    · rw [decDigits, dif_pos (by omega)]
      have := digit_of x hx.1
      simp only [Nat.zero_mul, Nat.zero_add, this, List.nil_append]
    · intro c hc hne
      simp only [List.nil_append, List.head?_cons, Option.some.injEq] at hc
      subst hc
      omega
  | cons y r =>
    have hy : y.toNat ≠ 48 := fun h => by
      have := hz y (by simp) h
      simp at this
    obtain ⟨i1, i2⟩ := ih (by simp) hd.1 (fun c hc h48 => by
      simp only [List.head?_cons, Option.some.injEq] at hc
      subst hc
      exact absurd h48 hy)
    have i3 := i2 y (by simp) hy
    refine ⟨?_, fun c _ _ => by omega⟩
    rw [decDigits, dif_neg (by omega)]
    have e1 : (dval 0 (y :: r) * 10 + (x.toNat - 48)) / 10 = dval 0 (y :: r) := by omega
    have e2 : (dval 0 (y :: r) * 10 + (x.toNat - 48)) % 10 = x.toNat - 48 := by omega
    rw [e1, e2, i1, digit_of x hx.1]
theorem dgC_of (d : Nat) (h : d < 10) : dgC (UInt8.ofNat (48 + d)) = true := by
  unfold dgC
  have : (UInt8.ofNat (48 + d)).toNat = 48 + d := by simp; omega
  rw [this]
  exact decide_eq_true (by omega)
theorem toNat_of (d : Nat) (h : d < 10) : (UInt8.ofNat (48 + d)).toNat = 48 + d := by simp; omega
theorem dec_all (u : Nat) : (decDigits u).all dgC = true := by
  induction u using Nat.strongRecOn with
  | _ u ih =>
    rw [decDigits]
    split
    · simp only [List.all_cons, List.all_nil, Bool.and_true]; exact dgC_of u (by omega)
    · rw [List.all_append, ih (u / 10) (by omega)]
      simp only [List.all_cons, List.all_nil, Bool.and_true, Bool.true_and]
      exact dgC_of _ (by omega)
theorem dec_len (j : Nat) : ∀ u, u < 10 ^ (j + 1) → 1 ≤ (decDigits u).length ∧ (decDigits u).length ≤ j + 1 := by
  induction j with
  | zero =>
    intro u hu
    rw [decDigits, dif_pos (by omega)]
    simp
  | succ j ih =>
    intro u hu
    rw [decDigits]
    split
    · simp
    · have := ih (u / 10) (by rw [Nat.pow_succ] at hu; omega)
      simp only [List.length_append, List.length_cons, List.length_nil]
      omega
theorem dec_head (u : Nat) (h : 1 ≤ u) : ∃ c r, decDigits u = c :: r ∧ 49 ≤ c.toNat ∧ c.toNat ≤ 57 := by
  induction u using Nat.strongRecOn with
  | _ u ih =>
    rw [decDigits]
    split
    · exact ⟨_, [], rfl, by rw [toNat_of u (by omega)]; omega, by rw [toNat_of u (by omega)]; omega⟩
    · obtain ⟨c, r, e, h1, h2⟩ := ih (u / 10) (by omega) (by omega)
      rw [e]
      exact ⟨c, _, rfl, h1, h2⟩
theorem dec_zero : decDigits 0 = [48] := by rw [decDigits]; rfl
def magP (m : Bool) (d : List UInt8) : Int × Bool :=
  if (1 ≤ d.length ∧ d.length ≤ 16) ∧ ¬ (d.head? = some 48 ∧ (1 < d.length ∨ m = true)) ∧ d.all dgC = true then (if m = true then -(dval 0 d : Int) else (dval 0 d : Int), true) else (0, false)
def parseP (l : List UInt8) : Int × Bool := if l.head? = some 45 then magP true l.tail else magP false l
theorem magP_ok {m : Bool} {d : List UInt8} {n : Int} (h : magP m d = (n, true)) : ∃ u : Nat, u < 10000000000000000 ∧ decDigits u = d ∧ (m = true → 1 ≤ u) ∧ n = if m = true then -(u : Int) else (u : Int) := by
  unfold magP at h
  split at h
  · next hc =>
    obtain ⟨⟨h1, h2⟩, h3, h4⟩ := hc
    have hne : d ≠ [] := fun e => by subst e; simp at h1
    have hz : ∀ c, d.head? = some c → c.toNat = 48 → d.length = 1 := fun c hc h48 => by
      have : c = 48 := UInt8.toNat_inj.1 h48
      subst this
      by_cases hl : 1 < d.length
      · exact absurd ⟨hc, .inl hl⟩ h3
      · omega
    obtain ⟨e1, e2⟩ := dec_dval d hne h4 hz
    have hlt := dval_lt d 0 h4
    have hp : 10 ^ d.length ≤ 10 ^ 16 := Nat.pow_le_pow_right (by omega) h2
    have hp2 : (10 : Nat) ^ 16 = 10000000000000000 := by rfl
    refine ⟨dval 0 d, by omega, e1, fun hm => ?_, ((Prod.mk.inj h).1).symm⟩
    cases d with
    | nil => exact absurd rfl hne
    | cons c r =>
      refine e2 c (by simp) (fun h48 => ?_)
      have : c = 48 := UInt8.toNat_inj.1 h48
      subst this
      exact h3 ⟨by simp, .inr hm⟩
  · exact absurd (Prod.mk.inj h).2 (by decide)
theorem magP_of (m : Bool) (u : Nat) (h : u < 10000000000000000) (hm : m = true → 1 ≤ u) : (magP m (decDigits u)).2 = true := by
  unfold magP
  have hl := dec_len 15 u (by simpa using h)
  rw [if_pos]
  refine ⟨⟨hl.1, by omega⟩, ?_, dec_all u⟩
  rintro ⟨hh, hc⟩
  by_cases hu : 1 ≤ u
  · obtain ⟨c, r, e, h1, _⟩ := dec_head u hu
    rw [e] at hh
    simp only [List.head?_cons, Option.some.injEq] at hh
    subst hh
    exact absurd h1 (by decide)
  · have : u = 0 := by omega
    subst this
    rw [dec_zero] at hc
    rcases hc with hc | hc
    · simp at hc
    · exact hu (hm hc)
theorem parseP_ok {l : List UInt8} {n : Int} (h : parseP l = (n, true)) : l = itoa n ∧ -10000000000000000 < n ∧ n < 10000000000000000 := by
  unfold parseP at h
  split at h
  · next hh =>
    obtain ⟨u, hu, hd, h1, rfl⟩ := magP_ok h
    have h1 := h1 rfl
    rw [if_pos rfl]
    refine ⟨?_, by omega, by omega⟩
    rw [itoa_neg u h1, hd]
    cases l with
    | nil => simp at hh
    | cons c r =>
      simp only [List.head?_cons, Option.some.injEq] at hh
      subst hh
      rfl
  · obtain ⟨u, hu, hd, _, rfl⟩ := magP_ok h
    simp only [Bool.false_eq_true, if_false]
    exact ⟨by rw [itoa_nonneg, hd], by omega, by omega⟩
theorem parseP_of (n : Int) (h0 : -10000000000000000 < n) (h1 : n < 10000000000000000) : (parseP (itoa n)).2 = true := by
  unfold parseP
  by_cases hn : n < 0
  · obtain ⟨u, rfl⟩ : ∃ u : Nat, n = -(u : Int) := ⟨n.natAbs, by omega⟩
    rw [itoa_neg u (by omega)]
    simp only [List.head?_cons, if_true, List.tail_cons]
    exact magP_of true u (by omega) (fun _ => by omega)
  · obtain ⟨u, rfl⟩ : ∃ u : Nat, n = (u : Int) := ⟨n.toNat, by omega⟩
    rw [itoa_nonneg]
    have hh : ¬ (decDigits u).head? = some 45 := by
      intro hh
      have := dec_all u
      cases hd : decDigits u with
      | nil => rw [hd] at hh; simp at hh
      | cons c r =>
        rw [hd] at hh this
        simp only [List.head?_cons, Option.some.injEq] at hh
        subst hh
        simp only [List.all_cons, Bool.and_eq_true] at this
        exact absurd this.1 (by decide)
    rw [if_neg hh]
    exact magP_of false u (by omega) (fun h => by cases h)
theorem pu_snoc : ∀ (l : List UInt8) (a v : Nat) (c : UInt8), parseUint10 a l = .ok v → v < 1000000000000000000 → 48 ≤ c.toNat → c.toNat ≤ 57 → parseUint10 a (l ++ [c]) = .ok (v * 10 + (c.toNat - 48))
  | [], a, v, c, h, hv, h1, h2 => by
    simp only [parseUint10] at h
    injection h with h
    subst h
    simp only [List.nil_append, parseUint10]
    rw [if_pos ⟨h1, h2⟩, if_neg (by omega), if_neg (by omega)]
  | x :: r, a, v, c, h, hv, h1, h2 => by
    simp only [List.cons_append, parseUint10] at h ⊢
    split at h
    · next hx =>
      rw [if_pos hx]
      split at h
      · cases h
      · next hy =>
        rw [if_neg hy]
        split at h
        · cases h
        · next hz =>
          rw [if_neg hz]
          exact pu_snoc r _ v c h hv h1 h2
    · cases h
theorem pu_dec (u : Nat) (h : u < 100000000000000000) : parseUint10 0 (decDigits u) = .ok u := by
  induction u using Nat.strongRecOn with
  | _ u ih =>
    rw [decDigits]
    split
    · next hu =>
      have e := toNat_of u hu
      simp only [parseUint10, e]
      rw [if_pos (by omega), if_neg (by omega), if_neg (by omega)]
      congr 1
      omega
    · next hu =>
      have e := toNat_of (u % 10) (by omega)
      rw [pu_snoc _ 0 (u / 10) _ (ih (u / 10) (by omega) (by omega)) (by omega) (by rw [e]; omega) (by rw [e]; omega), e]
      congr 1
      omega
theorem pm_dec (u : Nat) (h : u < 100000000000000000) : parseMag (decDigits u) = .ok u := by
  unfold parseMag
  rw [if_neg, pu_dec u h]
  intro e
  by_cases hu : 1 ≤ u
  · obtain ⟨c, r, e2, _⟩ := dec_head u hu
    rw [e2] at e; cases e
  · have : u = 0 := by omega
    subst this
    rw [dec_zero] at e; cases e
theorem atoi_itoa (n : Int) (h0 : -10000000000000000 < n) (h1 : n < 10000000000000000) : atoiAll (itoa n) = .ok n := by
  by_cases hn : n < 0
  · obtain ⟨u, rfl⟩ : ∃ u : Nat, n = -(u : Int) := ⟨n.natAbs, by omega⟩
    rw [itoa_neg u (by omega), atoiAll_minus, pm_dec u (by omega)]
    simp only [signed]
    rw [if_neg (by omega)]
  · obtain ⟨u, rfl⟩ : ∃ u : Nat, n = (u : Int) := ⟨n.toNat, by omega⟩
    rw [itoa_nonneg]
    have hd := dec_all u
    have hp := pm_dec u (by omega)
    cases he : decDigits u with
    | nil => rw [he] at hp; unfold parseMag at hp; simp at hp
    | cons c r =>
      rw [he] at hd hp
      simp only [List.all_cons, Bool.and_eq_true] at hd
      have hc : 48 ≤ c.toNat ∧ c.toNat ≤ 57 := of_decide_eq_true hd.1
      rw [atoiAll_plain c r (by omega) (by omega), hp]
      simp only [signless]
      rw [if_neg (by omega)]
end Go.Proofs.YtoeaaochnceofaaDoor.Pure

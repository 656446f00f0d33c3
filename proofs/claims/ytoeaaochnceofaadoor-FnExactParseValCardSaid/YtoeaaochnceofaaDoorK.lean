/- Values of parts as bytes: what is put of a value, what is read of bytes; what is put comes back, what is read has its bytes, and the bytes stand in the values' order. No Go in sight. -/
import Derived.Test.YtoeaaochnceofaaDoorB
import Derived.Test.YtoeaaochnceofaaDoorO
namespace Go.Proofs.YtoeaaochnceofaaDoorM
set_option linter.unusedVariables false
set_option linter.unusedSimpArgs false
open Go.RowKit Go.Proofs.YtoeaaochnceofaaDoorW.PrintWords Go.Proofs.YtoeaaochnceofaaDoorW.PrintMore

theorem getFix_fixB (b r : List Int) (n : Int) (hb : IsB b) (hr : IsB r) : getFix (b ++ fixB n ++ r) (b.length : Int) = (clampN n (-2147483648) 2147483647, (b.length : Int) + 4, true) := by
  have hc := clampN_spec n (-2147483648) 2147483647 (by omega)
  have h1 : (b.length : Int) + (4 : Nat) ≤ (b ++ fixB n ++ r).length := by simp only [List.length_append, fixB_len]; omega
  have e : ((b ++ fixB n ++ r).drop (b.length : Int).toNat).take 4 = fixB n := by
    rw [Int.toNat_natCast, List.append_assoc, List.drop_left]
    exact List.take_left' (by rw [fixB_len])
  unfold getFix
  rw [readB_pos (by omega) h1, e]
  simp only [Bool.false_eq_true, if_false, List.map_id']
  rw [fixB_beB, beN_beB]
  simp only [Prod.mk.injEq, and_true]
  rw [Nat.mod_eq_of_lt (by omega)]
  omega
theorem fixB_clamp (n : Int) : fixB (clampN n (-2147483648) 2147483647) = fixB n := by
  have hc := clampN_spec n (-2147483648) 2147483647 (by omega)
  have hc2 := (clampN_spec (clampN n (-2147483648) 2147483647) (-2147483648) 2147483647 (by omega)).2.2.1 hc.1 hc.2.1
  unfold fixB
  rw [hc2]
theorem varB_clamp (n : Int) : varB (varN n) = varB n := by
  have hc := varN_spec n
  have hc2 : varN (varN n) = varN n := (clampN_spec (varN n) (-1000000000000000) 1000000000000000 (by omega)).2.2.1 hc.1 hc.2
  unfold varB
  rw [hc2]
theorem map_turn_turn (l : List Int) : ((l.map fun x => 255 - x).map fun x => if true = true then 255 - x else x) = l := by
  rw [List.map_map]
  conv => rhs; rw [← List.map_id l]
  apply List.map_congr_left
  intro x _
  simp only [Function.comp, if_true, id]
  omega
theorem getVar_varB (b r : List Int) (n : Int) : getVar (b ++ varB n ++ r) (b.length : Int) = (varN n, ((b ++ varB n).length : Int), true) := by
  have hn := varN_spec n
  have hlen := varB_len n
  have hin : inB (varN n) (-1000000000000000) 1000000000000000 = true := decide_eq_true hn
  have hlv := varB_length (varN n) hin
  rw [varB_clamp] at hlv
  have hp : (0 : Int) ≤ (b.length : Int) ∧ (b.length : Int) < ((b ++ varB n ++ r).length : Int) := by simp only [List.length_append]; omega
  unfold getVar
  rw [if_pos hp]
  have hrd : ∀ (x : Int) (u : List Int), varB n = x :: u → rd (b ++ varB n ++ r) (b.length : Int) = x := by
    intro x u hu
    rw [rd_nat _ _ (by simp only [List.length_append]; omega)]
    simp only [List.append_assoc, hu]
    rw [List.getElem_append_right (Nat.le_refl _)]
    simp
  have htk : ∀ (x : Int) (u : List Int), varB n = x :: u → ((b ++ varB n ++ r).drop ((b.length : Int) + 1).toNat).take u.length = u := by
    intro x u hu
    rw [show ((b.length : Int) + 1).toNat = b.length + 1 by omega, List.append_assoc, hu, List.drop_append]
    simp
    rw [List.drop_eq_nil_of_le (show b.length ≤ b.length + 1 by omega), List.nil_append, List.take_left]
  by_cases h0 : 0 ≤ varN n
  · have hv : varB n = (128 + (nB (varN n).toNat : Int)) :: beB (varN n).toNat (nB (varN n).toNat) := by unfold varB; simp only; rw [if_pos h0]
    have h7 := nB_7 (n := (varN n).toNat) (by omega)
    rw [hrd _ _ hv, if_pos (by omega)]
    have e : (128 + (nB (varN n).toNat : Int) - 128).toNat = nB (varN n).toNat := by omega
    rw [e]
    have ht := htk _ _ hv
    rw [beB_len] at ht
    rw [readB_pos (by omega) (by simp only [List.length_append, hv, List.length_cons, beB_len]; omega), ht]
    simp only [Bool.false_eq_true, if_false, List.map_id']
    rw [beN_beB, Nat.zero_mul, Nat.zero_add, Nat.mod_eq_of_lt (nB_lt _)]
    have e2 : (((varN n).toNat : Nat) : Int) = varN n := by omega
    simp only [getVarR, Bool.false_eq_true, if_false, e2, hin, and_self, if_true, Prod.mk.injEq, true_and, and_true]
    simp only [List.length_append, hv, List.length_cons, beB_len]
    omega
  · have hv : varB n = (127 - (nB (-1 - varN n).toNat : Int)) :: (beB (-1 - varN n).toNat (nB (-1 - varN n).toNat)).map fun x => 255 - x := by unfold varB; simp only; rw [if_neg h0]
    have h7 := nB_7 (n := (-1 - varN n).toNat) (by omega)
    rw [hrd _ _ hv, if_neg (by omega), if_pos (by omega)]
    have e : (127 - (127 - (nB (-1 - varN n).toNat : Int))).toNat = nB (-1 - varN n).toNat := by omega
    rw [e]
    have ht := htk _ _ hv
    rw [List.length_map, beB_len] at ht
    rw [readB_pos (by omega) (by simp only [List.length_append, hv, List.length_cons, List.length_map, beB_len]; omega), ht, map_turn_turn]
    rw [beN_beB, Nat.zero_mul, Nat.zero_add, Nat.mod_eq_of_lt (nB_lt _)]
    have e2 : -1 - (((-1 - varN n).toNat : Nat) : Int) = varN n := by omega
    simp only [getVarR, if_true, e2, hin, and_self, Prod.mk.injEq, true_and, and_true]
    simp only [List.length_append, hv, List.length_cons, List.length_map, beB_len]
    omega
theorem getEB_escB (s r : List Int) : ∀ (o : List Int) (p : Nat), getEB o p (escB s ++ r) = some (o ++ s, p + (escB s).length) := by
  induction s with
  | nil =>
    intro o p
    rw [escB, List.cons_append, List.cons_append, getEB_cons, if_pos rfl, if_pos rfl, List.append_nil]
    rfl
  | cons x s ih =>
    intro o p
    rw [escB]
    by_cases h : x = 0
    · rw [if_pos h, List.cons_append, List.cons_append, getEB_cons, if_pos rfl, if_neg (by decide), if_pos rfl, ih, h]
      simp only [List.append_assoc, List.cons_append, List.nil_append, List.length_cons, Option.some.injEq, Prod.mk.injEq, true_and]
      omega
    · rw [if_neg h, List.cons_append, getEB_ne _ _ _ _ h, ih]
      simp only [List.append_assoc, List.cons_append, List.nil_append, List.length_cons, Option.some.injEq, Prod.mk.injEq, true_and]
      omega
theorem getEsc_escB (b s r : List Int) : getEsc (b ++ escB s ++ r) (b.length : Int) = (strOfNums s, ((b ++ escB s).length : Int), true) := by
  unfold getEsc
  rw [if_pos (by omega), Int.toNat_natCast, List.append_assoc, List.drop_left, getEB_escB]
  simp only [getER, List.nil_append, List.length_append]
theorem getEB_spec (d : Nat) : ∀ (l o : List Int) (p : Nat) (o' : List Int) (q : Nat), l.length = d → getEB o p l = some (o', q) → ∃ s r, o' = o ++ s ∧ l = escB s ++ r ∧ q = p + (escB s).length := by
  induction d using Nat.strongRecOn with
  | _ d ih =>
    intro l o p o' q hd h
    match l, hd, h with
    | [], _, h => rw [getEB_nil] at h; cases h
    | [x], _, h => rw [getEB_one] at h; cases h
    | x :: y :: l, hd, h =>
      by_cases hx : x = 0
      · subst hx
        rw [getEB_cons, if_pos rfl] at h
        by_cases h1 : y = 1
        · rw [if_pos h1] at h
          simp only [Option.some.injEq, Prod.mk.injEq] at h
          obtain ⟨rfl, rfl⟩ := h
          subst h1
          exact ⟨[], l, by simp, rfl, rfl⟩
        · rw [if_neg h1] at h
          by_cases h2 : y = 255
          · rw [if_pos h2] at h
            subst h2
            obtain ⟨s, r, rfl, rfl, rfl⟩ := ih l.length (by simp only [List.length_cons] at hd; omega) l (o ++ [0]) (p + 2) o' q rfl h
            refine ⟨0 :: s, r, by simp, by simp [escB], ?_⟩
            simp only [escB, if_true, List.length_cons]; omega
          · rw [if_neg h2] at h; cases h
      · rw [getEB_ne _ _ _ _ hx] at h
        obtain ⟨s, r, rfl, hl, rfl⟩ := ih (y :: l).length (by simp only [List.length_cons] at hd ⊢; omega) (y :: l) (o ++ [x]) (p + 1) o' q rfl h
        refine ⟨x :: s, r, by simp, by rw [hl, escB, if_neg hx]; rfl, ?_⟩
        rw [escB, if_neg hx, List.length_cons]; omega
theorem escB_ge (u : List Int) : u.length ≤ (escB u).length := by
  induction u with
  | nil => simp
  | cons x u ih => rw [escB]; split <;> simp only [List.length_cons] <;> omega
theorem escB_back (u : List Int) (h1 : IsB (escB u)) : IsB u := by
  induction u with
  | nil => exact IsB.nil
  | cons x u ih =>
    rw [escB] at h1
    by_cases hx : x = 0
    · rw [if_pos hx] at h1
      exact IsB.cons (by omega) (by omega) (ih (fun y hy => h1 y (by simp [hy])))
    · rw [if_neg hx] at h1
      have := h1 x (by simp)
      exact IsB.cons this.1 this.2 (ih (fun y hy => h1 y (by simp [hy])))
theorem getEsc_spec {l : List Int} {p : Int} {s : ByteArray} {q : Int} (hb : IsB l) (h : getEsc l p = (s, q, true)) : 0 ≤ p ∧ p ≤ q ∧ q ≤ l.length ∧ s.size ≤ l.length ∧ escB (bytesOf s) = (l.take q.toNat).drop p.toNat := by
  unfold getEsc at h
  by_cases h0 : 0 ≤ p
  · rw [if_pos h0] at h
    cases hg : getEB [] p.toNat (l.drop p.toNat) with
    | none => rw [hg] at h; simp [getER] at h
    | some r =>
      obtain ⟨o, q'⟩ := r
      rw [hg] at h
      simp only [getER, Prod.mk.injEq, and_true] at h
      obtain ⟨rfl, rfl⟩ := h
      obtain ⟨u, r, hu, hl, rfl⟩ := getEB_spec _ _ _ _ _ _ rfl hg
      rw [List.nil_append] at hu
      subst o
      have hlen := congrArg List.length hl
      rw [List.length_drop, List.length_append] at hlen
      have hel := escB_len u
      have hun := escB_ge u
      have hub : IsB u := escB_back u (fun x hx => hb x (List.mem_of_mem_drop (by rw [hl]; exact List.mem_append_left _ hx)))
      refine ⟨h0, by omega, by omega, by rw [strOfNums_size]; omega, ?_⟩
      rw [bytesOf_strOfNums hub, Int.toNat_natCast, List.drop_take, hl, show p.toNat + (escB u).length - p.toNat = (escB u).length by omega, List.take_left]
  · rw [if_neg h0] at h; simp at h
theorem flipB_flipB {l : List Int} (p : Int) : flipB (flipB l p) p = l := by
  unfold flipB
  by_cases h : p.toNat ≤ l.length
  · have hl : (l.take p.toNat).length = p.toNat := by rw [List.length_take]; omega
    rw [List.take_left' hl, List.drop_left' hl, List.map_map]
    have : ((fun x : Int => 255 - x) ∘ fun x => 255 - x) = id := by funext x; simp only [Function.comp, id]; omega
    rw [this, List.map_id, List.take_append_drop]
  · rw [List.drop_eq_nil_of_le (show l.length ≤ p.toNat by omega), List.map_nil, List.append_nil, List.take_take, Nat.min_self, List.take_of_length_le (show l.length ≤ p.toNat by omega), List.drop_eq_nil_of_le (show l.length ≤ p.toNat by omega)]
    simp

/-! ### what is put of a value -/
def valB (k n : Int) (s : ByteArray) : List Int := if k = 1 then fixB n else if k = 2 then varB n else if k = 3 then escB (bytesOf s) else if k = 4 then [n % 256] else []
def headB (null : Bool) (k : Int) : List Int := if null = true then (if k = 0 then [0] else [1]) else []
def turnL (l : List Int) : List Int := l.map fun x => 255 - x
def turnB (desc : Bool) (l : List Int) : List Int := if desc = true then turnL l else l
def bareB (null : Bool) (k n : Int) (s : ByteArray) : List Int := headB null k ++ valB k n s
def partB (null desc : Bool) (k n : Int) (s : ByteArray) : List Int := turnB desc (bareB null k n s)
def okPV (c t : Int) (null : Bool) (k n : Int) (s : ByteArray) : Bool := partOkB c t && fitsB t null k n s
def putPart (c t : Int) (null desc : Bool) (k n : Int) (s : ByteArray) : List Int := if okPV c t null k n s = true then partB null desc k n s else []

theorem turnL_isB {l : List Int} (h : IsB l) : IsB (turnL l) := fun x hx => by
  obtain ⟨y, hy, rfl⟩ := List.mem_map.1 hx
  have := h y hy
  omega
theorem turnL_turnL (l : List Int) : turnL (turnL l) = l := by
  unfold turnL
  rw [List.map_map]
  have : ((fun x : Int => 255 - x) ∘ fun x => 255 - x) = id := by funext x; simp only [Function.comp, id]; omega
  rw [this, List.map_id]
theorem turnL_len (l : List Int) : (turnL l).length = l.length := by simp [turnL]
theorem turnL_append (a b : List Int) : turnL (a ++ b) = turnL a ++ turnL b := by simp [turnL]
theorem turnB_len (d : Bool) (l : List Int) : (turnB d l).length = l.length := by unfold turnB; split <;> simp [turnL]
theorem turnB_isB (d : Bool) {l : List Int} (h : IsB l) : IsB (turnB d l) := by
  cases d
  · exact h
  · exact turnL_isB h
theorem turnB_inj (d : Bool) {a b : List Int} (h : turnB d a = turnB d b) : a = b := by
  unfold turnB at h
  split at h
  · rw [← turnL_turnL a, h, turnL_turnL]
  · exact h
theorem valB_isB (k n : Int) (s : ByteArray) : IsB (valB k n s) := by
  unfold valB
  split
  · exact fixB_isB n
  split
  · exact varB_isB n
  split
  · exact escB_isB (bytesOf_isB s)
  split
  · exact IsB.cons (by omega) (by omega) IsB.nil
  · exact IsB.nil
theorem headB_isB (null : Bool) (k : Int) : IsB (headB null k) := by
  unfold headB
  split
  · split
    · exact IsB.cons (by omega) (by omega) IsB.nil
    · exact IsB.cons (by omega) (by omega) IsB.nil
  · exact IsB.nil
theorem partB_isB (null desc : Bool) (k n : Int) (s : ByteArray) : IsB (partB null desc k n s) := turnB_isB desc ((headB_isB null k).append (valB_isB k n s))
theorem isE_bytes {s : ByteArray} (h : isE s = true) : s = ⟨#[]⟩ := by
  have h1 : s.toList = [] := by unfold isE at h; exact eq_of_beq h
  have h2 : bytesOf s = [] := by
    have := (str_eq_iff s ⟨#[]⟩).1 (by rw [h1, ByteArray.toList_eq])
    rw [this]
    apply List.eq_nil_of_length_eq_zero
    rw [bytesOf_len]; rfl
  rw [← strOfNums_bytesOf s, h2]; rfl
theorem fits_cases {t : Int} {null : Bool} {k n : Int} {s : ByteArray} (h : fitsB t null k n s = true) (ht : 1 ≤ t ∧ t ≤ 4) :
    (null = true ∧ k = 0 ∧ n = 0 ∧ s = ⟨#[]⟩) ∨ (k = t ∧ ((k = 1 ∧ -2147483648 ≤ n ∧ n ≤ 2147483647 ∧ s = ⟨#[]⟩) ∨ (k = 2 ∧ -1000000000000000 ≤ n ∧ n ≤ 1000000000000000 ∧ s = ⟨#[]⟩) ∨ (k = 3 ∧ n = 0 ∧ s.size ≤ 30) ∨ (k = 4 ∧ 0 ≤ n ∧ n ≤ 1 ∧ s = ⟨#[]⟩))) := by
  unfold fitsB at h
  rw [Bool.and_eq_true] at h
  obtain ⟨h1, h2⟩ := h
  unfold valOkB at h1
  by_cases k0 : k = 0
  · rw [if_pos k0] at h1 h2
    rw [Bool.and_eq_true] at h1
    exact .inl ⟨h2, k0, of_decide_eq_true h1.1, isE_bytes h1.2⟩
  rw [if_neg k0] at h1 h2
  have hk := of_decide_eq_true h2
  refine .inr ⟨hk, ?_⟩
  by_cases k1 : k = 1
  · rw [if_pos k1, Bool.and_eq_true] at h1
    have := of_decide_eq_true h1.1
    exact .inl ⟨k1, this.1, this.2, isE_bytes h1.2⟩
  rw [if_neg k1] at h1
  by_cases k2 : k = 2
  · rw [if_pos k2, Bool.and_eq_true] at h1
    have := of_decide_eq_true h1.1
    exact .inr (.inl ⟨k2, this.1, this.2, isE_bytes h1.2⟩)
  rw [if_neg k2] at h1
  by_cases k3 : k = 3
  · rw [if_pos k3, Bool.and_eq_true] at h1
    have := of_decide_eq_true h1.1
    have h4 := of_decide_eq_true h1.2
    exact .inr (.inr (.inl ⟨k3, this, by omega⟩))
  rw [if_neg k3] at h1
  have k4 : k = 4 := by omega
  rw [if_pos k4, Bool.and_eq_true] at h1
  have := of_decide_eq_true h1.1
  exact .inr (.inr (.inr ⟨k4, this.1, this.2, isE_bytes h1.2⟩))
theorem partOk_t {c t : Int} (h : partOkB c t = true) : 1 ≤ t ∧ t ≤ 4 := by
  unfold partOkB at h
  rw [Bool.and_eq_true] at h
  exact of_decide_eq_true h.2
theorem valB_len (k n : Int) (s : ByteArray) (h : s.size ≤ 30) : (valB k n s).length ≤ 62 := by
  unfold valB
  split
  · rw [fixB_len]; omega
  split
  · have := varB_len n; omega
  split
  · have := escB_len (bytesOf s); rw [bytesOf_len] at this; omega
  split <;> simp
theorem bareB_len (null : Bool) (k n : Int) (s : ByteArray) (h : s.size ≤ 30) : (bareB null k n s).length ≤ 63 := by
  have := valB_len k n s h
  unfold bareB headB
  rw [List.length_append]
  split
  · split <;> simp only [List.length_cons, List.length_nil] <;> omega
  · simp only [List.length_nil]; omega
theorem okPV_size {c t : Int} {null : Bool} {k n : Int} {s : ByteArray} (h : okPV c t null k n s = true) : s.size ≤ 30 := by
  unfold okPV at h
  rw [Bool.and_eq_true] at h
  rcases fits_cases h.2 (partOk_t h.1) with ⟨_, _, _, rfl⟩ | ⟨_, ⟨_, _, _, rfl⟩ | ⟨_, _, _, rfl⟩ | ⟨_, _, h⟩ | ⟨_, _, _, rfl⟩⟩
  · decide
  · decide
  · decide
  · exact h
  · decide
theorem putPart_len (c t : Int) (null desc : Bool) (k n : Int) (s : ByteArray) : (putPart c t null desc k n s).length ≤ 63 := by
  unfold putPart
  split
  · rename_i h
    unfold partB
    rw [turnB_len]
    exact bareB_len null k n s (okPV_size h)
  · simp
theorem putPart_isB (c t : Int) (null desc : Bool) (k n : Int) (s : ByteArray) : IsB (putPart c t null desc k n s) := by
  unfold putPart
  split
  · exact partB_isB _ _ _ _ _
  · exact IsB.nil
theorem valB_pos {k n : Int} {s : ByteArray} (h : 1 ≤ k ∧ k ≤ 4) : 1 ≤ (valB k n s).length := by
  unfold valB
  split
  · rw [fixB_len]; omega
  split
  · have := varB_len n; omega
  split
  · have := escB_len (bytesOf s); omega
  split
  · simp
  · omega
theorem bareB_pos {c t : Int} {null : Bool} {k n : Int} {s : ByteArray} (h : okPV c t null k n s = true) : 1 ≤ (bareB null k n s).length := by
  unfold okPV at h
  rw [Bool.and_eq_true] at h
  have ht := partOk_t h.1
  unfold bareB
  rw [List.length_append]
  rcases fits_cases h.2 ht with ⟨rfl, rfl, _, _⟩ | ⟨hk, _⟩
  · unfold headB; simp
  · have := valB_pos (k := k) (n := n) (s := s) (by omega); omega
theorem flipB_at (b x : List Int) : flipB (b ++ x) (b.length : Int) = b ++ turnL x := by
  unfold flipB turnL
  rw [Int.toNat_natCast, List.take_left, List.drop_left]

/-! ### what is read of bytes -/
def getTyped (l : List Int) (t p : Int) : Int × Int × ByteArray × Int × Bool :=
  if t = 1 then (t, (getFix l p).1, ⟨#[]⟩, (getFix l p).2.1, (getFix l p).2.2)
  else if t = 2 then (t, (getVar l p).1, ⟨#[]⟩, (getVar l p).2.1, (getVar l p).2.2)
  else if t = 3 then (t, 0, (getEsc l p).1, (getEsc l p).2.1, (getEsc l p).2.2)
  else if t = 4 then (if 0 ≤ p ∧ p < l.length then (t, rd l p, ⟨#[]⟩, p + 1, true) else (t, 0, ⟨#[]⟩, 0, false))
  else (t, 0, ⟨#[]⟩, 0, false)
def noPart : Int × Int × ByteArray × Int × Bool := (0, 0, ⟨#[]⟩, 0, false)
/-- a value that is read counts if it fits -/
def fitR (t : Int) (null : Bool) (r : Int × Int × ByteArray × Int × Bool) : Int × Int × ByteArray × Int × Bool :=
  if r.2.2.2.2 = true ∧ fitsB t null r.1 r.2.1 r.2.2.1 = true then r else noPart
def getBare (l : List Int) (t : Int) (null : Bool) (p : Int) : Int × Int × ByteArray × Int × Bool :=
  if null = true then (if rd l p = 0 then (0, 0, ⟨#[]⟩, p + 1, true) else if rd l p = 1 then fitR t null (getTyped l t (p + 1)) else noPart) else fitR t null (getTyped l t p)
def getPart (l : List Int) (c t : Int) (null desc : Bool) (p : Int) : Int × Int × ByteArray × Int × Bool :=
  if partOkB c t = true ∧ 0 ≤ p ∧ p < l.length then getBare (if desc = true then flipB l p else l) t null p else noPart

theorem rd_append (b : List Int) (x : Int) (r : List Int) : rd (b ++ x :: r) (b.length : Int) = x := by
  rw [rd_nat _ _ (by simp only [List.length_append, List.length_cons]; omega)]
  simp
theorem getTyped_valB (b r : List Int) (hb : IsB b) (hr : IsB r) {t : Int} {null : Bool} {k n : Int} {s : ByteArray} (h : fitsB t null k n s = true) (ht : 1 ≤ t ∧ t ≤ 4) (hk : k = t) :
    getTyped (b ++ valB k n s ++ r) t (b.length : Int) = (k, n, s, ((b ++ valB k n s).length : Int), true) := by
  rcases fits_cases h ht with ⟨_, h0, _, _⟩ | ⟨_, h1⟩
  · omega
  rcases h1 with ⟨h1, n0, n1, rfl⟩ | ⟨h1, n0, n1, rfl⟩ | ⟨h1, rfl, _⟩ | ⟨h1, n0, n1, rfl⟩
  · have e := (clampN_spec n (-2147483648) 2147483647 (by omega)).2.2.1 n0 n1
    subst hk; subst h1
    simp only [getTyped, valB, if_true]
    rw [getFix_fixB b r n hb hr, e]
    simp only [List.length_append, fixB_len, Int.natCast_add]
    rfl
  · have e : varN n = n := (clampN_spec n (-1000000000000000) 1000000000000000 (by omega)).2.2.1 n0 n1
    subst hk; subst h1
    simp only [getTyped, valB, if_true, show ¬ ((2 : Int) = 1) by decide, if_false]
    rw [getVar_varB b r n, e]
  · subst hk; subst h1
    simp only [getTyped, valB, if_true, show ¬ ((3 : Int) = 1) by decide, show ¬ ((3 : Int) = 2) by decide, if_false]
    rw [getEsc_escB b (bytesOf s) r, strOfNums_bytesOf]
  · subst hk; subst h1
    simp only [getTyped, valB, if_true, show ¬ ((4 : Int) = 1) by decide, show ¬ ((4 : Int) = 2) by decide, show ¬ ((4 : Int) = 3) by decide, if_false]
    rw [if_pos (by simp only [List.length_append, List.length_cons, List.length_nil]; omega)]
    have e : n % 256 = n := by omega
    rw [e, List.append_assoc, List.singleton_append, rd_append]
    simp only [List.length_append, List.length_cons, List.length_nil]
    simp
theorem fitR_ok {t : Int} {null : Bool} {k n : Int} {s : ByteArray} {q : Int} (h : fitsB t null k n s = true) : fitR t null (k, n, s, q, true) = (k, n, s, q, true) := by
  unfold fitR; rw [if_pos ⟨rfl, h⟩]
theorem getBare_bareB (b r : List Int) (hb : IsB b) (hr : IsB r) {t : Int} {null : Bool} {k n : Int} {s : ByteArray} (h : fitsB t null k n s = true) (ht : 1 ≤ t ∧ t ≤ 4) :
    getBare (b ++ bareB null k n s ++ r) t null (b.length : Int) = (k, n, s, ((b ++ bareB null k n s).length : Int), true) := by
  unfold getBare bareB
  cases hn : null with
  | false =>
    subst hn
    have hk : k = t := by
      rcases fits_cases h ht with ⟨h0, _⟩ | ⟨h1, _⟩
      · cases h0
      · exact h1
    simp only [headB, Bool.false_eq_true, if_false, List.nil_append]
    rw [getTyped_valB b r hb hr h ht hk, fitR_ok h]
  | true =>
    subst hn
    by_cases hk : k = 0
    · obtain ⟨_, _, rfl, rfl⟩ | ⟨h1, _⟩ := fits_cases h ht
      · subst hk
        simp only [headB, if_true, valB, show ¬ ((0 : Int) = 1) by decide, show ¬ ((0 : Int) = 2) by decide, show ¬ ((0 : Int) = 3) by decide, show ¬ ((0 : Int) = 4) by decide, if_false, List.append_nil]
        rw [List.append_assoc, List.singleton_append, rd_append]
        simp
      · omega
    · have hk2 : k = t := by
        rcases fits_cases h ht with ⟨_, h0, _⟩ | ⟨h1, _⟩
        · exact absurd h0 hk
        · exact h1
      simp only [headB, if_true, hk, if_false]
      have e1 : rd (b ++ ([1] ++ valB k n s) ++ r) (b.length : Int) = 1 := by
        rw [List.append_assoc, List.append_assoc, List.singleton_append, rd_append]
      rw [e1, if_neg (by decide), if_pos rfl]
      have e2 := getTyped_valB (b ++ [1]) r (hb.append (IsB.cons (by omega) (by omega) IsB.nil)) hr h ht hk2
      have e3 : ((b ++ [1]).length : Int) = (b.length : Int) + 1 := by simp
      rw [e3] at e2
      rw [← List.append_assoc b [1], e2, fitR_ok h]
theorem getPart_putPart (b r : List Int) (hb : IsB b) (hr : IsB r) {c t : Int} {null desc : Bool} {k n : Int} {s : ByteArray} (h : okPV c t null k n s = true) :
    getPart (b ++ putPart c t null desc k n s ++ r) c t null desc (b.length : Int) = (k, n, s, ((b ++ putPart c t null desc k n s).length : Int), true) := by
  have h' := h
  unfold okPV at h'
  rw [Bool.and_eq_true] at h'
  have ht := partOk_t h'.1
  have hpos := bareB_pos h
  have e : putPart c t null desc k n s = turnB desc (bareB null k n s) := by unfold putPart partB; rw [if_pos h]
  unfold getPart
  rw [if_pos ⟨h'.1, by omega, by rw [e]; simp only [List.length_append, turnB_len]; omega⟩, e]
  cases desc with
  | false =>
    simp only [Bool.false_eq_true, if_false, turnB]
    exact getBare_bareB b r hb hr h'.2 ht
  | true =>
    simp only [if_true, turnB]
    rw [List.append_assoc, flipB_at, turnL_append, turnL_turnL, ← List.append_assoc, getBare_bareB b (turnL r) hb (turnL_isB hr) h'.2 ht]
    simp only [List.length_append, turnL_len]

/-! ### what is read has its bytes -/
theorem beB_beN (l : List Int) (x : Nat) (h : IsB l) : beB (beN x l) l.length = l := by
  induction l generalizing x with
  | nil => rfl
  | cons b l ih =>
    have hb := h b (by simp)
    have hl : IsB l := fun y hy => h y (by simp [hy])
    rw [beN, List.length_cons, beB, ih _ hl]
    have h1 : ∀ (u : List Int) (y : Nat), IsB u → beN y u / 256 ^ u.length = y := by
      intro u
      induction u with
      | nil => intro y _; simp [beN]
      | cons v u ih2 =>
        intro y hu
        have hv := hu v (by simp)
        rw [beN, List.length_cons, Nat.pow_succ, ← Nat.div_div_eq_div_mul, ih2 _ (fun z hz => hu z (by simp [hz]))]
        omega
    rw [h1 l _ hl]
    congr 1
    omega
theorem getFix_spec {l : List Int} (hb : IsB l) {p n q : Int} (h : getFix l p = (n, q, true)) : 0 ≤ p ∧ q = p + 4 ∧ q ≤ l.length ∧ -2147483648 ≤ n ∧ n ≤ 2147483647 ∧ fixB n = (l.take q.toNat).drop p.toNat := by
  unfold getFix at h
  cases hr : readB l p 4 false with
  | none => rw [hr] at h; simp at h
  | some m =>
    rw [hr] at h
    simp only [Prod.mk.injEq, and_true] at h
    obtain ⟨rfl, rfl⟩ := h
    obtain ⟨h0, h1, h2⟩ := readB_some hb hr
    have h1' : p + 4 ≤ l.length := h1
    rw [readB_pos h0 h1] at hr
    have hm := Option.some.inj hr
    simp only [Bool.false_eq_true, if_false, List.map_id'] at hm
    have h3 : (256 : Nat) ^ 4 = 4294967296 := by decide
    refine ⟨h0, rfl, h1', by omega, by omega, ?_⟩
    rw [fixB_beB]
    have e := (clampN_spec ((m : Int) - 2147483648) (-2147483648) 2147483647 (by omega)).2.2.1 (by omega) (by omega)
    rw [e, show ((m : Int) - 2147483648 + 2147483648).toNat = m by omega, ← hm]
    have hbt : IsB ((l.drop p.toNat).take 4) := (hb.drop _).take _
    have hlen : ((l.drop p.toNat).take 4).length = 4 := by rw [List.length_take, List.length_drop]; omega
    have := beB_beN _ 0 hbt
    rw [hlen] at this
    rw [this, List.drop_take]
    congr 1
    omega
theorem getVar_spec {l : List Int} (hb : IsB l) {p n q : Int} (h : getVar l p = (n, q, true)) : 0 ≤ p ∧ p < q ∧ q ≤ l.length ∧ -1000000000000000 ≤ n ∧ n ≤ 1000000000000000 ∧ varB n = (l.take q.toNat).drop p.toNat := by
  unfold getVar at h
  by_cases hp : 0 ≤ p ∧ p < l.length
  · rw [if_pos hp] at h
    have hget : ∀ c : Nat, p + 1 + c ≤ l.length → (l.take (p + 1 + (c : Int)).toNat).drop p.toNat = rd l p :: (l.drop (p + 1).toNat).take c := by
      intro c hc
      obtain ⟨i, rfl⟩ := Int.eq_ofNat_of_zero_le hp.1
      have hi : i < l.length := by omega
      rw [rd_nat l i hi, List.drop_take]
      have e1 : ((i : Int) + 1 + (c : Int)).toNat - (i : Int).toNat = c + 1 := by omega
      have e2 : ((i : Int) + 1).toNat = i + 1 := by omega
      rw [e1, e2, Int.toNat_natCast, List.drop_eq_getElem_cons hi, List.take_succ_cons]
    have key : ∀ (c : Nat) (t : Bool) (x : Int), getVarR p c t (readB l (p + 1) c t) = (n, q, true) → x = rd l p → (if t = true then x = 127 - (c : Int) else x = 128 + (c : Int)) →
        0 ≤ p ∧ p < q ∧ q ≤ l.length ∧ -1000000000000000 ≤ n ∧ n ≤ 1000000000000000 ∧ varB n = (l.take q.toNat).drop p.toNat := by
      intro c t x hv hx hxc
      cases hr : readB l (p + 1) c t with
      | none => rw [hr] at hv; simp [getVarR] at hv
      | some m =>
        rw [hr] at hv
        simp only [getVarR] at hv
        obtain ⟨g0, g1, g2⟩ := readB_some hb hr
        by_cases hc : nB m = c ∧ inB (if t = true then -1 - (m : Int) else (m : Int)) (-1000000000000000) 1000000000000000 = true
        · rw [if_pos hc] at hv
          obtain ⟨hc1, hc2⟩ := hc
          simp only [Prod.mk.injEq, and_true] at hv
          obtain ⟨hv1, rfl⟩ := hv
          rw [hv1] at hc2
          have hn := of_decide_eq_true hc2
          refine ⟨hp.1, by omega, by omega, hn.1, hn.2, ?_⟩
          rw [hget c g1, ← hx]
          rw [readB_pos g0 g1] at hr
          have hm := Option.some.inj hr
          have e : varN n = n := (clampN_spec n (-1000000000000000) 1000000000000000 (by omega)).2.2.1 hn.1 hn.2
          have hbt : IsB ((l.drop (p + 1).toNat).take c) := (hb.drop _).take _
          have hlen : ((l.drop (p + 1).toNat).take c).length = c := by rw [List.length_take, List.length_drop]; omega
          cases t with
          | false =>
            simp only [Bool.false_eq_true, if_false, List.map_id'] at hm hv1 hxc
            unfold varB
            simp only [e]
            rw [if_pos (by omega), ← hv1, Int.toNat_natCast, hc1, hxc, ← hm]
            congr 1
            have := beB_beN _ 0 hbt
            rw [hlen] at this
            exact this
          | true =>
            simp only [if_true] at hm hv1 hxc
            unfold varB
            simp only [e]
            rw [if_neg (by omega), ← hv1, show (-1 - (-1 - (m : Int))).toNat = m by omega, hc1, hxc, ← hm]
            congr 1
            have hbt2 : IsB (((l.drop (p + 1).toNat).take c).map fun x => 255 - x) := turnL_isB hbt
            have := beB_beN _ 0 hbt2
            rw [List.length_map, hlen] at this
            rw [this]
            exact turnL_turnL _
        · rw [if_neg hc] at hv; simp at hv
    have hrd := rd_isB hb p
    split at h
    · rename_i hx
      exact key _ false (rd l p) h rfl (by simp only [Bool.false_eq_true, if_false]; omega)
    · split at h
      · rename_i hx
        exact key _ true (rd l p) h rfl (by simp only [if_true]; omega)
      · simp at h
  · rw [if_neg hp] at h; simp at h

/-! ### reading depends on what lies from the place on alone -/
theorem flipB_drop (l : List Int) (p q : Nat) (h : p ≤ q) : (flipB l (p : Int)).drop q = (l.drop q).map fun x => 255 - x := by
  unfold flipB
  rw [Int.toNat_natCast]
  by_cases hp : p ≤ l.length
  · rw [List.drop_append, List.length_take, Nat.min_eq_left hp, List.drop_eq_nil_of_le (by rw [List.length_take]; omega), List.nil_append, ← List.map_drop, List.drop_drop, show p + (q - p) = q by omega]
  · rw [List.drop_eq_nil_of_le (show l.length ≤ p by omega), List.map_nil, List.append_nil, List.drop_eq_nil_of_le (by rw [List.length_take]; omega), List.drop_eq_nil_of_le (show l.length ≤ q by omega)]
    rfl
theorem readB_congr {l l' : List Int} {q : Int} {c : Nat} {t : Bool} (hl : l.length = l'.length) (hd : l.drop q.toNat = l'.drop q.toNat) : readB l q c t = readB l' q c t := by
  unfold readB; rw [hl, hd]
theorem rd_congr {l l' : List Int} {q : Int} (hd : l.drop q.toNat = l'.drop q.toNat) : rd l q = rd l' q := by
  unfold rd
  rw [List.getD_eq_getElem?_getD, List.getD_eq_getElem?_getD]
  have h1 : (l.drop q.toNat)[0]? = l[q.toNat]? := by rw [List.getElem?_drop]; rfl
  have h2 : (l'.drop q.toNat)[0]? = l'[q.toNat]? := by rw [List.getElem?_drop]; rfl
  rw [← h1, ← h2, hd]
theorem drop_succ_congr {l l' : List Int} {q : Int} (hq : 0 ≤ q) (hd : l.drop q.toNat = l'.drop q.toNat) : l.drop (q + 1).toNat = l'.drop (q + 1).toNat := by
  rw [show (q + 1).toNat = q.toNat + 1 by omega, ← List.drop_drop, hd, List.drop_drop]
theorem getTyped_congr {l l' : List Int} {t q : Int} (hq : 0 ≤ q) (hl : l.length = l'.length) (hd : l.drop q.toNat = l'.drop q.toNat) : getTyped l t q = getTyped l' t q := by
  have h1 : getFix l q = getFix l' q := by unfold getFix; rw [readB_congr hl hd]
  have h2 : getVar l q = getVar l' q := by
    have hd2 := drop_succ_congr hq hd
    have hr := rd_congr hd
    unfold getVar
    rw [hl, hr, readB_congr (c := (rd l' q - 128).toNat) (t := false) hl hd2, readB_congr (c := (127 - rd l' q).toNat) (t := true) hl hd2]
  have h3 : getEsc l q = getEsc l' q := by unfold getEsc; rw [hd]
  unfold getTyped
  rw [h1, h2, h3, hl, rd_congr hd]
theorem getTyped_end (l : List Int) (t : Int) : (getTyped l t (l.length : Int)).2.2.2.2 = false := by
  have h1 : getFix l (l.length : Int) = (0, 0, false) := by unfold getFix; rw [readB_neg (by omega)]
  have h2 : getVar l (l.length : Int) = (0, 0, false) := by unfold getVar; rw [if_neg (by omega)]
  have h3 : getEsc l (l.length : Int) = (⟨#[]⟩, 0, false) := by
    unfold getEsc
    rw [if_pos (by omega), Int.toNat_natCast, List.drop_eq_nil_of_le (Nat.le_refl _), getEB_nil]
    rfl
  unfold getTyped
  rw [h1, h2, h3]
  split
  · rfl
  split
  · rfl
  split
  · rfl
  split
  · rw [if_neg (by omega)]
  · rfl
theorem getTyped_fst (l : List Int) (t p : Int) : (getTyped l t p).1 = t := by
  unfold getTyped
  split
  · rfl
  split
  · rfl
  split
  · rfl
  split
  · split <;> rfl
  · rfl
theorem fits_valOk {t n : Int} {null : Bool} {s : ByteArray} (ht : 1 ≤ t) : fitsB t null t n s = valOkB t n s := by
  unfold fitsB
  rw [if_neg (by omega), decide_eq_true rfl, Bool.and_true]

/-! ### what is read as a part -/
theorem take_drop_cons (l : List Int) (p q : Int) (h0 : 0 ≤ p) (h1 : p < q) (h2 : q ≤ l.length) : (l.take q.toNat).drop p.toNat = rd l p :: (l.take q.toNat).drop (p + 1).toNat := by
  obtain ⟨i, rfl⟩ := Int.eq_ofNat_of_zero_le h0
  obtain ⟨j, rfl⟩ := Int.eq_ofNat_of_zero_le (show 0 ≤ q by omega)
  have hi : i < l.length := by omega
  rw [show ((i : Int) + 1).toNat = i + 1 by omega, Int.toNat_natCast, Int.toNat_natCast, rd_nat l i hi, List.drop_eq_getElem_cons (by rw [List.length_take]; omega), List.getElem_take]
theorem getTyped_spec {l : List Int} (hb : IsB l) {t p k n q : Int} {s : ByteArray} (ht : 1 ≤ t ∧ t ≤ 4) (h : getTyped l t p = (k, n, s, q, true)) :
    k = t ∧ 0 ≤ p ∧ p < q ∧ q ≤ l.length ∧ valB k n s = (l.take q.toNat).drop p.toNat := by
  unfold getTyped at h
  by_cases t1 : t = 1
  · rw [if_pos t1] at h
    simp only [Prod.mk.injEq] at h
    obtain ⟨rfl, rfl, rfl, rfl, h5⟩ := h
    obtain ⟨g0, g1, g2, _, _, g3⟩ := getFix_spec hb (show getFix l p = ((getFix l p).1, (getFix l p).2.1, true) by rw [← h5])
    refine ⟨rfl, g0, by omega, g2, ?_⟩
    unfold valB; rw [if_pos t1]; exact g3
  rw [if_neg t1] at h
  by_cases t2 : t = 2
  · rw [if_pos t2] at h
    simp only [Prod.mk.injEq] at h
    obtain ⟨rfl, rfl, rfl, rfl, h5⟩ := h
    obtain ⟨g0, g1, g2, _, _, g3⟩ := getVar_spec hb (show getVar l p = ((getVar l p).1, (getVar l p).2.1, true) by rw [← h5])
    refine ⟨rfl, g0, by omega, g2, ?_⟩
    unfold valB; rw [if_neg t1, if_pos t2]; exact g3
  rw [if_neg t2] at h
  by_cases t3 : t = 3
  · rw [if_pos t3] at h
    simp only [Prod.mk.injEq] at h
    obtain ⟨rfl, rfl, rfl, rfl, h5⟩ := h
    obtain ⟨g0, g1, g2, _, g3⟩ := getEsc_spec hb (show getEsc l p = ((getEsc l p).1, (getEsc l p).2.1, true) by rw [← h5])
    have hlen := congrArg List.length g3
    have he := escB_len (bytesOf (getEsc l p).1)
    rw [List.length_drop, List.length_take] at hlen
    refine ⟨rfl, g0, by omega, g2, ?_⟩
    unfold valB; rw [if_neg t1, if_neg t2, if_pos t3]; exact g3
  have t4 : t = 4 := by omega
  rw [if_neg t3, if_pos t4] at h
  by_cases hp : 0 ≤ p ∧ p < l.length
  · rw [if_pos hp] at h
    simp only [Prod.mk.injEq, and_true] at h
    obtain ⟨rfl, rfl, rfl, rfl⟩ := h
    refine ⟨rfl, hp.1, by omega, by omega, ?_⟩
    have hr := rd_isB hb p
    unfold valB; rw [if_neg t1, if_neg t2, if_neg t3, if_pos t4, take_drop_cons l p (p + 1) hp.1 (by omega) (by omega), List.drop_eq_nil_of_le (by rw [List.length_take]; omega), show rd l p % 256 = rd l p by omega]
  · rw [if_neg hp] at h; simp at h
theorem fitR_spec {t : Int} {null : Bool} {r : Int × Int × ByteArray × Int × Bool} {k n q : Int} {s : ByteArray} (h : fitR t null r = (k, n, s, q, true)) : r = (k, n, s, q, true) ∧ fitsB t null k n s = true := by
  unfold fitR at h
  by_cases hc : r.2.2.2.2 = true ∧ fitsB t null r.1 r.2.1 r.2.2.1 = true
  · rw [if_pos hc] at h
    refine ⟨h, ?_⟩
    have := hc.2
    rw [h] at this
    exact this
  · rw [if_neg hc] at h; simp [noPart] at h
theorem getBare_spec {l : List Int} (hb : IsB l) {t p k n q : Int} {s : ByteArray} {null : Bool} (ht : 1 ≤ t ∧ t ≤ 4) (hp : 0 ≤ p ∧ p < l.length) (h : getBare l t null p = (k, n, s, q, true)) :
    fitsB t null k n s = true ∧ p < q ∧ q ≤ l.length ∧ bareB null k n s = (l.take q.toNat).drop p.toNat := by
  unfold getBare at h
  cases hn : null with
  | true =>
    subst hn
    rw [if_pos rfl] at h
    by_cases r0 : rd l p = 0
    · rw [if_pos r0] at h
      simp only [Prod.mk.injEq, and_true] at h
      obtain ⟨rfl, rfl, rfl, rfl⟩ := h
      refine ⟨by unfold fitsB valOkB isE; simp, by omega, by omega, ?_⟩
      rw [take_drop_cons l p (p + 1) hp.1 (by omega) (by omega), List.drop_eq_nil_of_le (by rw [List.length_take]; omega), r0]
      unfold bareB headB valB; simp
    · rw [if_neg r0] at h
      by_cases r1 : rd l p = 1
      · rw [if_pos r1] at h
        obtain ⟨h1, h2⟩ := fitR_spec h
        obtain ⟨rfl, g0, g1, g2, g3⟩ := getTyped_spec hb ht h1
        refine ⟨h2, by omega, g2, ?_⟩
        rw [take_drop_cons l p q hp.1 (by omega) g2, r1, ← g3]
        unfold bareB headB
        rw [if_pos rfl, if_neg (by omega)]; rfl
      · rw [if_neg r1] at h; simp [noPart] at h
  | false =>
    subst hn
    rw [if_neg (by decide)] at h
    obtain ⟨h1, h2⟩ := fitR_spec h
    obtain ⟨rfl, g0, g1, g2, g3⟩ := getTyped_spec hb ht h1
    refine ⟨h2, g1, g2, ?_⟩
    rw [← g3]
    unfold bareB headB
    rw [if_neg (by decide)]; rfl
theorem getPart_spec {l : List Int} (hb : IsB l) {c t p k n q : Int} {s : ByteArray} {null desc : Bool} (h : getPart l c t null desc p = (k, n, s, q, true)) :
    okPV c t null k n s = true ∧ 0 ≤ p ∧ p < q ∧ q ≤ l.length ∧ putPart c t null desc k n s = (l.take q.toNat).drop p.toNat := by
  unfold getPart at h
  by_cases hc : partOkB c t = true ∧ 0 ≤ p ∧ p < l.length
  · rw [if_pos hc] at h
    obtain ⟨hok, h0, h1⟩ := hc
    have ht := partOk_t hok
    cases hd : desc with
    | false =>
      subst hd
      rw [if_neg (by decide)] at h
      obtain ⟨g0, g1, g2, g3⟩ := getBare_spec hb ht ⟨h0, h1⟩ h
      have hv : okPV c t null k n s = true := by unfold okPV; rw [hok, g0]; rfl
      refine ⟨hv, h0, g1, g2, ?_⟩
      unfold putPart partB turnB
      rw [if_pos hv, if_neg (by decide)]; exact g3
    | true =>
      subst hd
      rw [if_pos rfl] at h
      have hl := flipB_len l p
      obtain ⟨g0, g1, g2, g3⟩ := getBare_spec (flipB_isB hb p) ht ⟨h0, by rw [hl]; exact h1⟩ h
      rw [hl] at g2
      have hv : okPV c t null k n s = true := by unfold okPV; rw [hok, g0]; rfl
      refine ⟨hv, h0, g1, g2, ?_⟩
      unfold putPart partB turnB
      rw [if_pos hv, if_pos rfl, g3]
      obtain ⟨i, rfl⟩ := Int.eq_ofNat_of_zero_le h0
      rw [Int.toNat_natCast, List.drop_take, List.drop_take, flipB_drop l i i (Nat.le_refl _)]
      unfold turnL
      rw [List.map_take, List.map_map]
      have : ((fun x : Int => 255 - x) ∘ fun x => 255 - x) = id := by funext x; simp only [Function.comp, id]; omega
      rw [this, List.map_id]
  · rw [if_neg hc] at h; simp [noPart] at h
end Go.Proofs.YtoeaaochnceofaaDoorM

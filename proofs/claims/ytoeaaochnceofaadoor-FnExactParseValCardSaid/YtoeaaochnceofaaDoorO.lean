/- The order of bytes, and of the bytes of numbers and texts: of two unlike ones there is a first byte at which they part, and there the lesser's is less. No Go in sight. -/
import Derived.Test.YtoeaaochnceofaaDoorB
namespace Go.Proofs.YtoeaaochnceofaaDoorM
set_option linter.unusedVariables false
set_option linter.unusedSimpArgs false
open Go.RowKit Go.Proofs.YtoeaaochnceofaaDoorW.PrintWords Go.Proofs.YtoeaaochnceofaaDoorW.PrintMore

def ltB : List Int → List Int → Bool
  | _, [] => false
  | [], _ :: _ => true
  | a :: x, b :: y => decide (a < b) || (decide (a = b) && ltB x y)
theorem ltB_nil_r (x : List Int) : ltB x [] = false := by cases x <;> rfl
theorem ltB_nil_l (a : Int) (x : List Int) : ltB [] (a :: x) = true := rfl
theorem ltB_cons (a b : Int) (x y : List Int) : ltB (a :: x) (b :: y) = (decide (a < b) || (decide (a = b) && ltB x y)) := rfl
theorem u8_lt {x y : Int} (hx : 0 ≤ x ∧ x ≤ 255) (hy : 0 ≤ y ∧ y ≤ 255) : decide (UInt8.ofNat x.toNat < UInt8.ofNat y.toNat) = decide (x < y) := by
  apply decide_eq_decide.2
  rw [UInt8.lt_iff_toNat_lt]
  simp only [UInt8.toNat_ofNat']
  omega
theorem bytesLess_nums {a b : List Int} (ha : IsB a) (hb : IsB b) : Op.bytesLess (a.map fun n => UInt8.ofNat n.toNat) (b.map fun n => UInt8.ofNat n.toNat) = ltB a b := by
  induction a generalizing b with
  | nil => cases b <;> rfl
  | cons x a ih =>
    cases b with
    | nil => rfl
    | cons y b =>
      have hx := ha x (by simp)
      have hy := hb y (by simp)
      rw [List.map_cons, List.map_cons, Op.bytesLess, ltB_cons, ih (fun z hz => ha z (by simp [hz])) (fun z hz => hb z (by simp [hz])), u8_lt hx hy]
      congr 2
      rw [Bool.eq_iff_iff, beq_iff_eq, decide_eq_true_eq, u8_inj hx hy]
theorem bytesLess_str {a b : List Int} (ha : IsB a) (hb : IsB b) : Op.bytesLess (strOfNums a).toList (strOfNums b).toList = ltB a b := by
  rw [toList_strOfNums, toList_strOfNums, bytesLess_nums ha hb]
theorem bytesLess_bytesOf (s t : ByteArray) : Op.bytesLess s.toList t.toList = ltB (bytesOf s) (bytesOf t) := by
  rw [← bytesLess_str (bytesOf_isB s) (bytesOf_isB t), strOfNums_bytesOf, strOfNums_bytesOf]

/-- u and w part at a byte, and u's is less there. -/
def Lt (u w : List Int) : Prop := ∃ (p : List Int) (c d : Int) (u' w' : List Int), u = p ++ c :: u' ∧ w = p ++ d :: w' ∧ c < d
theorem Lt.append {u w : List Int} (h : Lt u w) (r s : List Int) : Lt (u ++ r) (w ++ s) := by
  obtain ⟨p, c, d, u', w', rfl, rfl, hcd⟩ := h
  exact ⟨p, c, d, u' ++ r, w' ++ s, by simp, by simp, hcd⟩
theorem Lt.left {u w : List Int} (h : Lt u w) (p : List Int) : Lt (p ++ u) (p ++ w) := by
  obtain ⟨q, c, d, u', w', rfl, rfl, hcd⟩ := h
  exact ⟨p ++ q, c, d, u', w', by simp, by simp, hcd⟩
theorem Lt.head {c d : Int} (h : c < d) (u w : List Int) : Lt (c :: u) (d :: w) := ⟨[], c, d, u, w, rfl, rfl, h⟩
theorem Lt.cons {u w : List Int} (h : Lt u w) (x : Int) : Lt (x :: u) (x :: w) := h.left [x]
theorem Lt.turn {u w : List Int} (h : Lt u w) : Lt (w.map fun x => 255 - x) (u.map fun x => 255 - x) := by
  obtain ⟨p, c, d, u', w', rfl, rfl, hcd⟩ := h
  exact ⟨p.map fun x => 255 - x, 255 - d, 255 - c, w'.map fun x => 255 - x, u'.map fun x => 255 - x, by simp, by simp, by omega⟩
theorem Lt.ltB {u w : List Int} (h : Lt u w) : ltB u w = true := by
  obtain ⟨p, c, d, u', w', rfl, rfl, hcd⟩ := h
  induction p with
  | nil => simp [Go.Proofs.YtoeaaochnceofaaDoorM.ltB_cons, hcd]
  | cons x p ih => simp only [List.cons_append, Go.Proofs.YtoeaaochnceofaaDoorM.ltB_cons, ih]; simp
theorem Lt.ltB' {u w : List Int} (h : Lt u w) : Go.Proofs.YtoeaaochnceofaaDoorM.ltB w u = false := by
  obtain ⟨p, c, d, u', w', rfl, rfl, hcd⟩ := h
  induction p with
  | nil =>
    simp only [List.nil_append, Go.Proofs.YtoeaaochnceofaaDoorM.ltB_cons]
    rw [decide_eq_false (by omega), decide_eq_false (by omega)]; rfl
  | cons x p ih => simp only [List.cons_append, Go.Proofs.YtoeaaochnceofaaDoorM.ltB_cons, ih]; simp
theorem ltB_self (u : List Int) : ltB u u = false := by
  induction u with
  | nil => rfl
  | cons x u ih => rw [ltB_cons, ih]; simp
theorem Lt.ne {u w : List Int} (h : Lt u w) : u ≠ w := by
  rintro rfl
  have := h.ltB
  rw [ltB_self] at this
  cases this
/-- Neither is the beginning of the other. -/
theorem Lt.no_prefix {u w : List Int} (h : Lt u w) : (u.take w.length ≠ w) ∧ (w.take u.length ≠ u) := by
  obtain ⟨p, c, d, u', w', rfl, rfl, hcd⟩ := h
  constructor
  · intro e
    have := congrArg (fun l => l[p.length]?) e
    rw [List.getElem?_take_of_lt (by simp), List.getElem?_append_right (Nat.le_refl _), List.getElem?_append_right (Nat.le_refl _)] at this
    simp at this
    omega
  · intro e
    have := congrArg (fun l => l[p.length]?) e
    rw [List.getElem?_take_of_lt (by simp), List.getElem?_append_right (Nat.le_refl _), List.getElem?_append_right (Nat.le_refl _)] at this
    simp at this
    omega
theorem ltB_cases (u w : List Int) (h : ltB u w = true) : (∃ v x, w = u ++ x :: v) ∨ Lt u w := by
  induction u generalizing w with
  | nil =>
    cases w with
    | nil => cases h
    | cons y w => exact .inl ⟨w, y, rfl⟩
  | cons x u ih =>
    cases w with
    | nil => rw [ltB_nil_r] at h; cases h
    | cons y w =>
      rw [ltB_cons] at h
      by_cases hxy : x < y
      · exact .inr (Lt.head hxy u w)
      · rw [decide_eq_false hxy, Bool.false_or, Bool.and_eq_true, decide_eq_true_eq] at h
        obtain ⟨rfl, h⟩ := h
        rcases ih w h with ⟨v, z, rfl⟩ | hl
        · exact .inl ⟨v, z, rfl⟩
        · exact .inr (hl.cons x)
theorem ltB_total (u w : List Int) (h : u ≠ w) : ltB u w = true ∨ ltB w u = true := by
  induction u generalizing w with
  | nil =>
    cases w with
    | nil => exact absurd rfl h
    | cons y w => exact .inl rfl
  | cons x u ih =>
    cases w with
    | nil => exact .inr rfl
    | cons y w =>
      rw [ltB_cons, ltB_cons]
      by_cases h1 : x < y
      · exact .inl (by simp [h1])
      · by_cases h2 : y < x
        · exact .inr (by simp [h2])
        · have : x = y := by omega
          subst this
          rcases ih w (fun e => h (by rw [e])) with h3 | h3
          · exact .inl (by simp [h3])
          · exact .inr (by simp [h3])
theorem ltB_asymm (u w : List Int) (h : ltB u w = true) : ltB w u = false := by
  rcases ltB_cases u w h with ⟨v, x, rfl⟩ | hl
  · clear h
    induction u with
    | nil => rfl
    | cons y u ih => rw [List.cons_append, ltB_cons, ih]; simp
  · exact hl.ltB'

/-! ### numbers -/
theorem beB_lt (k : Nat) : ∀ a b : Nat, a % 256 ^ k < b % 256 ^ k → Lt (beB a k) (beB b k) := by
  induction k with
  | zero => intro a b h; simp [Nat.mod_one] at h
  | succ k ih =>
    intro a b h
    rw [beB, beB]
    rw [Nat.pow_succ, Nat.mod_mul, Nat.mod_mul] at h
    have ha : a % 256 ^ k < 256 ^ k := Nat.mod_lt _ (Nat.pow_pos (by omega))
    have hb : b % 256 ^ k < 256 ^ k := Nat.mod_lt _ (Nat.pow_pos (by omega))
    by_cases h1 : a / 256 ^ k % 256 < b / 256 ^ k % 256
    · exact Lt.head (by omega) _ _
    · by_cases h2 : a / 256 ^ k % 256 = b / 256 ^ k % 256
      · rw [h2] at h ⊢
        exact (ih a b (by omega)).cons _
      · exfalso
        have h3 : b / 256 ^ k % 256 + 1 ≤ a / 256 ^ k % 256 := by omega
        have h4 := Nat.mul_le_mul_left (256 ^ k) h3
        rw [Nat.mul_add, Nat.mul_one] at h4
        omega
theorem fixB_beB (n : Int) : fixB n = beB (clampN n (-2147483648) 2147483647 + 2147483648).toNat 4 := by
  have hc := clampN_spec n (-2147483648) 2147483647 (by omega)
  unfold fixB
  simp only [beB, List.cons.injEq, and_true, Nat.pow_zero, Nat.pow_one]
  omega
theorem fixB_lt {a b : Int} (h : clampN a (-2147483648) 2147483647 < clampN b (-2147483648) 2147483647) : Lt (fixB a) (fixB b) := by
  have ha := clampN_spec a (-2147483648) 2147483647 (by omega)
  have hb := clampN_spec b (-2147483648) 2147483647 (by omega)
  rw [fixB_beB, fixB_beB]
  apply beB_lt
  rw [Nat.mod_eq_of_lt (by omega), Nat.mod_eq_of_lt (by omega)]
  omega
theorem nB_mono {a b : Nat} (h : a ≤ b) : nB a ≤ nB b := nB_le a (nB b) (Nat.lt_of_le_of_lt h (nB_lt b))
theorem varB_lt {a b : Int} (h : varN a < varN b) : Lt (varB a) (varB b) := by
  have ha := varN_spec a
  have hb := varN_spec b
  unfold varB
  simp only
  by_cases h0 : 0 ≤ varN a
  · rw [if_pos h0, if_pos (by omega)]
    have hm := nB_mono (a := (varN a).toNat) (b := (varN b).toNat) (by omega)
    by_cases he : nB (varN a).toNat = nB (varN b).toNat
    · rw [he]
      refine Lt.cons (beB_lt _ _ _ ?_) _
      rw [Nat.mod_eq_of_lt (by rw [← he]; exact nB_lt _), Nat.mod_eq_of_lt (nB_lt _)]
      omega
    · exact Lt.head (by omega) _ _
  · rw [if_neg h0]
    by_cases h1 : 0 ≤ varN b
    · rw [if_pos h1]
      exact Lt.head (by omega) _ _
    · rw [if_neg h1]
      have hm := nB_mono (a := (-1 - varN b).toNat) (b := (-1 - varN a).toNat) (by omega)
      by_cases he : nB (-1 - varN a).toNat = nB (-1 - varN b).toNat
      · rw [he]
        refine Lt.cons (Lt.turn (beB_lt _ _ _ ?_)) _
        rw [Nat.mod_eq_of_lt (nB_lt _), Nat.mod_eq_of_lt (by rw [← he]; exact nB_lt _)]
        omega
      · exact Lt.head (by omega) _ _

/-! ### texts -/
theorem escB_lt {u w : List Int} (hu : IsB u) (hw : IsB w) (h : ltB u w = true) : Lt (escB u) (escB w) := by
  induction u generalizing w with
  | nil =>
    cases w with
    | nil => cases h
    | cons y w =>
      rw [escB, escB]
      have hy := hw y (by simp)
      by_cases h0 : y = 0
      · rw [if_pos h0]
        exact (Lt.head (by omega) _ _).cons 0
      · rw [if_neg h0]
        exact Lt.head (by omega) _ _
  | cons x u ih =>
    cases w with
    | nil => rw [ltB_nil_r] at h; cases h
    | cons y w =>
      have hx := hu x (by simp)
      have hy := hw y (by simp)
      rw [ltB_cons] at h
      rw [escB, escB]
      by_cases hxy : x < y
      · rw [if_neg (show ¬ y = 0 by omega)]
        by_cases h0 : x = 0
        · rw [if_pos h0]; exact Lt.head (by omega) _ _
        · rw [if_neg h0]; exact Lt.head hxy _ _
      · rw [decide_eq_false hxy, Bool.false_or, Bool.and_eq_true, decide_eq_true_eq] at h
        obtain ⟨rfl, h⟩ := h
        have := ih (fun z hz => hu z (by simp [hz])) (fun z hz => hw z (by simp [hz])) h
        by_cases h0 : x = 0
        · rw [if_pos h0, if_pos h0]; exact (this.cons 255).cons 0
        · rw [if_neg h0, if_neg h0]; exact this.cons x
end Go.Proofs.YtoeaaochnceofaaDoorM

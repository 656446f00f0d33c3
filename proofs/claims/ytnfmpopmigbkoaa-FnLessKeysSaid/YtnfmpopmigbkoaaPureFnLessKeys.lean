/- Of two drawn lists of values one is less as the reference has it, and not both; no list is less than itself; a key's bytes are the reference's. No condition. -/
import Derived.Test.YtnfmpopmigbkoaaPFnLessKeysx14
import Derived.Test.YtnfmpopmigbkoaaUFnLessKeys
namespace Go.Proofs.Ytnfmpopmigbkoaa.Pure
open Go.RowKit Go.Proofs.Ytnfmpopmigbkoaa.PFnLessKeys Go.Proofs.YtnfmpopmigbkoaaW.PrintWords Go.Proofs.YtnfmpopmigbkoaaW.PrintLast Go.Proofs.YtnfmpopmigbkoaaW.PrintMore Go.Proofs.YtnfmpopmigbkoaaM
set_option linter.unusedVariables false
set_option linter.unusedSimpArgs false

theorem rd_T30_nat (xs : List S30) (i : Nat) (h : i < xs.length) : rd_T30 xs (i : Int) = xs[i] := by
  unfold rd_T30; simp [List.getD_eq_getElem?_getD, h]
def planOkB (l : List S30) : Bool := decide (l.length ≤ 6) && l.all fun p => partOkB p.f0 p.f1

theorem rd_T32_nat (xs : List S32) (i : Nat) (h : i < xs.length) : rd_T32 xs (i : Int) = xs[i] := by
  unfold rd_T32; simp [List.getD_eq_getElem?_getD, h]
def sameV (a b : S32) : Bool := sameVB a.f0 a.f1 a.f2 b.f0 b.f1 b.f2
theorem sameV_not (a b : S32) : (!(a.f0 == b.f0) || (!(a.f1 == b.f1) || (!(a.f2.toList == b.f2.toList)))) = !sameV a b := by
  unfold sameV sameVB; cases a.f0 == b.f0 <;> cases a.f1 == b.f1 <;> cases a.f2.toList == b.f2.toList <;> rfl
def sameRowB (a b : List S32) : Bool := decide (a.length = b.length) && (a.zip b).all fun q => sameV q.1 q.2

def fitsV (p : S30) (v : S32) : Bool := fitsB p.f1 p.f2 v.f0 v.f1 v.f2
def fitsAllB (l : List S30) (v : List S32) : Bool := decide (v.length ≤ l.length) && (l.zip v).all fun q => fitsV q.1 q.2
def lessAt (l : List S30) (a b : S32) : Bool := match l with
  | [] => false
  | p :: _ => lessPB p.f3 a.f0 a.f1 a.f2 b.f0 b.f1 b.f2
def lessKeyB : List S30 → List S32 → List S32 → Bool
  | l, a :: a2, b :: b2 => if sameVB a.f0 a.f1 a.f2 b.f0 b.f1 b.f2 = true then lessKeyB l.tail a2 b2 else lessAt l a b
  | _, [], b2 => decide (0 < b2.length)
  | _, _ :: _, [] => false
def pickV (row : List S32) (p : S30) : S32 := if inB p.f0 0 ((row.length : Int) - 1) = true then ⟨(rd_T32 row p.f0).f0, (rd_T32 row p.f0).f1, (rd_T32 row p.f0).f2⟩ else ⟨0, 0, ⟨#[]⟩⟩
def pickB (l : List S30) (row : List S32) : List S32 := l.map (pickV row)
def ppB (p : S30) (v : S32) : List Int := putPart p.f0 p.f1 p.f2 p.f3 v.f0 v.f1 v.f2
theorem ppB_len (p : S30) (v : S32) : (ppB p v).length ≤ 63 := putPart_len _ _ _ _ _ _ _
theorem ppB_isB (p : S30) (v : S32) : IsB (ppB p v) := putPart_isB _ _ _ _ _ _ _
/-- a key's bytes -/
def keyB : List S30 → List S32 → List Int
  | p :: l, v :: vs => ppB p v ++ keyB l vs
  | _, _ => []
theorem keyB_nil_r (l : List S30) : keyB l [] = [] := by cases l <;> rfl
theorem keyB_cons (p : S30) (l : List S30) (v : S32) (vs : List S32) : keyB (p :: l) (v :: vs) = ppB p v ++ keyB l vs := rfl
theorem keyB_isB : ∀ (l : List S30) (vs : List S32), IsB (keyB l vs)
  | _, [] => by rw [keyB_nil_r]; exact IsB.nil
  | [], _ :: _ => IsB.nil
  | p :: l, v :: vs => (ppB_isB p v).append (keyB_isB l vs)
theorem keyB_len : ∀ (l : List S30) (vs : List S32), (keyB l vs).length ≤ 63 * l.length
  | l, [] => by rw [keyB_nil_r]; simp
  | [], _ :: _ => by simp [keyB]
  | p :: l, v :: vs => by
    have h1 := keyB_len l vs
    have h2 := ppB_len p v
    rw [keyB_cons, List.length_append, List.length_cons]
    omega
def encKey (l : List S30) (v : List S32) : List Int := if (planOkB l && fitsAllB l v) = true then keyB l v else []
theorem encKey_isB (l : List S30) (v : List S32) : IsB (encKey l v) := by
  unfold encKey; split
  · exact keyB_isB l v
  · exact IsB.nil
theorem planOk_len {l : List S30} (h : planOkB l = true) : l.length ≤ 6 ∧ ∀ p ∈ l, partOkB p.f0 p.f1 = true := by
  unfold planOkB at h
  rw [Bool.and_eq_true] at h
  exact ⟨of_decide_eq_true h.1, by simpa using h.2⟩
theorem encKey_len (l : List S30) (v : List S32) : (encKey l v).length ≤ 378 := by
  unfold encKey; split
  · rename_i h
    rw [Bool.and_eq_true] at h
    have := (planOk_len h.1).1
    have := keyB_len l v
    omega
  · simp
/-- what is read of bytes as a key's values, from a place on -/
def gpB (b : List Int) (p : S30) (i : Int) : Int × Int × ByteArray × Int × Bool := getPart b p.f0 p.f1 p.f2 p.f3 i
def gpV (r : Int × Int × ByteArray × Int × Bool) : S32 := ⟨r.1, r.2.1, r.2.2.1⟩
def decL : List S30 → List Int → Int → Option (List S32 × Int)
  | [], _, i => some ([], i)
  | p :: l, b, i => if (gpB b p i).2.2.2.2 = true then (match decL l b (gpB b p i).2.2.2.1 with
    | some r => some (gpV (gpB b p i) :: r.1, r.2)
    | none => none) else none
def decR (b : List Int) (out : List S32) : Option (List S32 × Int) → List S32 × Bool
  | some r => if r.2 = (b.length : Int) then (out ++ r.1, true) else ([], false)
  | none => ([], false)
def decKey (l : List S30) (b : List Int) : List S32 × Bool := if planOkB l = true then decR b [] (decL l b 0) else ([], false)
theorem decL_len : ∀ (l : List S30) (b : List Int) (i : Int) (r : List S32 × Int), decL l b i = some r → r.1.length = l.length
  | [], b, i, r, h => by
    obtain rfl := Option.some.inj h
    rfl
  | p :: l, b, i, r, h => by
    rw [decL] at h
    split at h
    · split at h
      · rename_i q hq
        obtain rfl := Option.some.inj h
        simp only [List.length_cons, decL_len l b _ q hq]
      · cases h
    · cases h
theorem decKey_len (l : List S30) (b : List Int) : (decKey l b).1.length ≤ l.length := by
  unfold decKey decR
  split
  · split
    · rename_i r hr
      split
      · simp only [List.nil_append, decL_len l b 0 r hr]; omega
      · simp
    · simp
  · simp
theorem decR_cons (b : List Int) (out : List S32) (p : S30) (l : List S30) (i : Int) (h : (gpB b p i).2.2.2.2 = true) : decR b out (decL (p :: l) b i) = decR b (out ++ [gpV (gpB b p i)]) (decL l b (gpB b p i).2.2.2.1) := by
  rw [decL, if_pos h]
  cases decL l b (gpB b p i).2.2.2.1 with
  | none => rfl
  | some r => simp only [decR, List.append_assoc, List.singleton_append]
theorem decR_none (b : List Int) (out : List S32) (p : S30) (l : List S30) (i : Int) (h : ¬ (gpB b p i).2.2.2.2 = true) : decR b out (decL (p :: l) b i) = ([], false) := by
  rw [decL, if_neg h]; rfl


/-! ### keys in order -/
theorem str_ext {s t : ByteArray} (h : s.toList = t.toList) : s = t := by
  have := (str_eq_iff s t).1 h
  rw [← strOfNums_bytesOf s, this, strOfNums_bytesOf]
theorem sameV_eq {a b : S32} (h : sameV a b = true) : a = b := by
  obtain ⟨k, n, s⟩ := a
  obtain ⟨k', n', s'⟩ := b
  unfold sameV sameVB at h
  simp only [Bool.and_eq_true, beq_iff_eq] at h
  obtain ⟨h1, h2, h3⟩ := h
  rw [h1, h2, str_ext h3]
theorem sameV_refl (a : S32) : sameV a a = true := by unfold sameV sameVB; simp
theorem sameRow_cons (a b : S32) (xs ys : List S32) : sameRowB (a :: xs) (b :: ys) = (sameV a b && sameRowB xs ys) := by
  unfold sameRowB
  rw [List.zip_cons_cons, List.all_cons]
  simp only [List.length_cons, Nat.add_right_cancel_iff]
  cases decide (xs.length = ys.length) <;> cases sameV a b <;> simp
theorem sameRow_iff : ∀ a b : List S32, sameRowB a b = true ↔ a = b
  | [], [] => by simp [sameRowB]
  | [], b :: ys => by simp [sameRowB]
  | a :: xs, [] => by simp [sameRowB]
  | a :: xs, b :: ys => by
    rw [sameRow_cons, Bool.and_eq_true, sameRow_iff xs ys, List.cons.injEq]
    constructor
    · rintro ⟨h1, h2⟩; exact ⟨sameV_eq h1, h2⟩
    · rintro ⟨h1, h2⟩; exact ⟨by rw [h1]; exact sameV_refl b, h2⟩
def okV (p : S30) (v : S32) : Bool := okPV p.f0 p.f1 p.f2 v.f0 v.f1 v.f2
def FitK : List S30 → List S32 → Prop
  | _, [] => True
  | [], _ :: _ => False
  | p :: l, v :: vs => okV p v = true ∧ FitK l vs
theorem FitK.nil (l : List S30) : FitK l [] := by cases l <;> trivial
theorem fitsAll_cons (p : S30) (l : List S30) (v : S32) (vs : List S32) : fitsAllB (p :: l) (v :: vs) = (fitsV p v && fitsAllB l vs) := by
  unfold fitsAllB
  rw [List.zip_cons_cons, List.all_cons]
  simp only [List.length_cons, Nat.add_le_add_iff_right]
  cases decide (vs.length ≤ l.length) <;> cases fitsV p v <;> simp
theorem FitK.fits : ∀ {l : List S30} {vs : List S32}, FitK l vs → fitsAllB l vs = true
  | l, [], _ => by unfold fitsAllB; simp
  | [], _ :: _, h => h.elim
  | p :: l, v :: vs, h => by
    rw [fitsAll_cons, Bool.and_eq_true]
    refine ⟨?_, FitK.fits h.2⟩
    have := h.1
    unfold okV okPV at this
    rw [Bool.and_eq_true] at this
    exact this.2
theorem FitK.take : ∀ {l : List S30} {vs : List S32} (n : Nat), FitK l vs → FitK l (vs.take n)
  | l, vs, 0, _ => by rw [List.take_zero]; exact FitK.nil l
  | l, [], n + 1, _ => by simpa using FitK.nil l
  | [], _ :: _, n + 1, h => h.elim
  | p :: l, v :: vs, n + 1, h => ⟨h.1, FitK.take n h.2⟩
theorem enc_fit {l : List S30} {vs : List S32} (hp : planOkB l = true) (h : FitK l vs) : encKey l vs = keyB l vs := by
  unfold encKey
  rw [hp, h.fits]
  rfl
/-- what is put of a key comes back -/
theorem dec_key : ∀ (l : List S30) (vs : List S32) (b r : List Int), IsB b → IsB r → FitK l vs → vs.length = l.length → decL l (b ++ keyB l vs ++ r) (b.length : Int) = some (vs, ((b ++ keyB l vs).length : Int))
  | [], [], b, r, hb, hr, _, _ => by
    rw [keyB_nil_r, List.append_nil]; rfl
  | [], _ :: _, _, _, _, _, h, _ => h.elim
  | _ :: _, [], _, _, _, _, _, h => by simp at h
  | p :: l, v :: vs, b, r, hb, hr, h, hl => by
    have hg : gpB (b ++ keyB (p :: l) (v :: vs) ++ r) p (b.length : Int) = (v.f0, v.f1, v.f2, ((b ++ ppB p v).length : Int), true) := by
      have := getPart_putPart b (keyB l vs ++ r) hb ((keyB_isB l vs).append hr) (desc := p.f3) h.1
      rw [keyB_cons]
      unfold gpB
      rw [show b ++ (ppB p v ++ keyB l vs) ++ r = b ++ ppB p v ++ (keyB l vs ++ r) by simp only [List.append_assoc]]
      exact this
    rw [decL, hg]
    have ih := dec_key l vs (b ++ ppB p v) r (hb.append (ppB_isB p v)) hr h.2 (by simpa using hl)
    rw [show b ++ ppB p v ++ keyB l vs ++ r = b ++ keyB (p :: l) (v :: vs) ++ r by rw [keyB_cons]; simp only [List.append_assoc]] at ih
    simp only [if_true]
    rw [ih]
    simp only [gpV, keyB_cons, List.append_assoc]
theorem dec_enc {l : List S30} {vs : List S32} (hp : planOkB l = true) (h : FitK l vs) (hl : vs.length = l.length) : decKey l (encKey l vs) = (vs, true) := by
  rw [enc_fit hp h]
  have := dec_key l vs [] [] IsB.nil IsB.nil h hl
  simp only [List.nil_append, List.append_nil, List.length_nil, Int.natCast_zero] at this
  unfold decKey
  rw [if_pos hp, this]
  simp [decR]
/-- values of a part in their order -/
theorem bare_lt {t : Int} {null : Bool} {k n : Int} {s : ByteArray} {k' n' : Int} {s' : ByteArray} (ht : 1 ≤ t ∧ t ≤ 4) (h1 : fitsB t null k n s = true) (h2 : fitsB t null k' n' s' = true)
    (h : lessVB k n s k' n' s' = true) : Lt (bareB null k n s) (bareB null k' n' s') := by
  unfold lessVB at h
  rcases fits_cases h1 ht with ⟨hn, k0, n0, s0⟩ | ⟨hk, hv⟩
  · rcases fits_cases h2 ht with ⟨_, k0', n0', s0'⟩ | ⟨hk', hv'⟩
    · subst k0; subst n0; subst s0; subst k0'; subst n0'; subst s0'
      simp only [if_true] at h
      rw [bytesLess_bytesOf, ltB_self] at h
      cases h
    · unfold bareB headB
      subst hn
      rw [if_pos rfl, if_pos rfl, if_pos k0, if_neg (show ¬ k' = 0 by omega)]
      exact Lt.head (by omega) _ _
  · rcases fits_cases h2 ht with ⟨hn, k0', n0', s0'⟩ | ⟨hk', hv'⟩
    · rw [if_neg (by omega)] at h
      have := of_decide_eq_true h
      omega
    · have hkk : k = k' := by omega
      subst hkk
      rw [if_pos rfl] at h
      unfold bareB
      refine Lt.left ?_ _
      rcases hv with ⟨q, a0, a1, sa⟩ | ⟨q, a0, a1, sa⟩ | ⟨q, a0, a1⟩ | ⟨q, a0, a1, sa⟩
      · rcases hv' with ⟨_, b0, b1, sb⟩ | ⟨q', _⟩ | ⟨q', _⟩ | ⟨q', _⟩
        · subst sa; subst sb
          by_cases hnn : n = n'
          · rw [if_pos hnn, bytesLess_bytesOf, ltB_self] at h; cases h
          · rw [if_neg hnn] at h
            have := of_decide_eq_true h
            unfold valB
            rw [if_pos q, if_pos q]
            refine fixB_lt ?_
            rw [(clampN_spec n (-2147483648) 2147483647 (by omega)).2.2.1 a0 a1, (clampN_spec n' (-2147483648) 2147483647 (by omega)).2.2.1 b0 b1]
            exact this
        all_goals omega
      · rcases hv' with ⟨q', _⟩ | ⟨_, b0, b1, sb⟩ | ⟨q', _⟩ | ⟨q', _⟩
        · omega
        · subst sa; subst sb
          by_cases hnn : n = n'
          · rw [if_pos hnn, bytesLess_bytesOf, ltB_self] at h; cases h
          · rw [if_neg hnn] at h
            have := of_decide_eq_true h
            unfold valB
            rw [if_neg (by omega), if_pos q, if_neg (by omega), if_pos q]
            refine varB_lt ?_
            unfold varN
            rw [(clampN_spec n (-1000000000000000) 1000000000000000 (by omega)).2.2.1 a0 a1, (clampN_spec n' (-1000000000000000) 1000000000000000 (by omega)).2.2.1 b0 b1]
            exact this
        all_goals omega
      · rcases hv' with ⟨q', _⟩ | ⟨q', _⟩ | ⟨_, b0, b1⟩ | ⟨q', _⟩
        · omega
        · omega
        · rw [if_pos (by omega), bytesLess_bytesOf] at h
          unfold valB
          rw [if_neg (by omega), if_neg (by omega), if_pos q, if_neg (by omega), if_neg (by omega), if_pos q]
          exact escB_lt (bytesOf_isB s) (bytesOf_isB s') h
        · omega
      · rcases hv' with ⟨q', _⟩ | ⟨q', _⟩ | ⟨q', _⟩ | ⟨_, b0, b1, sb⟩
        · omega
        · omega
        · omega
        · subst sa; subst sb
          by_cases hnn : n = n'
          · rw [if_pos hnn, bytesLess_bytesOf, ltB_self] at h; cases h
          · rw [if_neg hnn] at h
            have := of_decide_eq_true h
            unfold valB
            rw [if_neg (by omega), if_neg (by omega), if_neg (by omega), if_pos q, if_neg (by omega), if_neg (by omega), if_neg (by omega), if_pos q]
            exact Lt.head (by omega) _ _
theorem pp_lt {p : S30} {a b : S32} (ha : okV p a = true) (hb : okV p b = true) (h : lessPB p.f3 a.f0 a.f1 a.f2 b.f0 b.f1 b.f2 = true) : Lt (ppB p a) (ppB p b) := by
  have ha' := ha
  have hb' := hb
  unfold okV okPV at ha' hb'
  rw [Bool.and_eq_true] at ha' hb'
  have ht := partOk_t ha'.1
  have e1 : ppB p a = turnB p.f3 (bareB p.f2 a.f0 a.f1 a.f2) := by unfold ppB putPart partB; exact if_pos ha
  have e2 : ppB p b = turnB p.f3 (bareB p.f2 b.f0 b.f1 b.f2) := by unfold ppB putPart partB; exact if_pos hb
  rw [e1, e2]
  unfold lessPB at h
  unfold turnB
  cases hd : p.f3 with
  | false =>
    rw [hd, if_neg (by decide)] at h
    rw [if_neg (by decide), if_neg (by decide)]
    exact bare_lt ht ha'.2 hb'.2 h
  | true =>
    rw [hd, if_pos rfl] at h
    rw [if_pos rfl, if_pos rfl]
    exact (bare_lt ht hb'.2 ha'.2 h).turn
theorem bytesLess_tri' (s t : ByteArray) : s.toList = t.toList ∨ Op.bytesLess s.toList t.toList = true ∨ Op.bytesLess t.toList s.toList = true := by
  rw [bytesLess_bytesOf, bytesLess_bytesOf]
  by_cases h : bytesOf s = bytesOf t
  · exact .inl ((str_eq_iff s t).2 h)
  · exact .inr (ltB_total _ _ h)
theorem lessV_tri (a b : S32) : sameV a b = true ∨ lessVB a.f0 a.f1 a.f2 b.f0 b.f1 b.f2 = true ∨ lessVB b.f0 b.f1 b.f2 a.f0 a.f1 a.f2 = true := by
  unfold sameV sameVB lessVB
  by_cases hk : a.f0 = b.f0
  · by_cases hn : a.f1 = b.f1
    · rcases bytesLess_tri' a.f2 b.f2 with h | h | h
      · exact .inl (by simp [hk, hn, h])
      · exact .inr (.inl (by rw [if_pos hk, if_pos hn]; exact h))
      · exact .inr (.inr (by rw [if_pos hk.symm, if_pos hn.symm]; exact h))
    · by_cases h : a.f1 < b.f1
      · exact .inr (.inl (by rw [if_pos hk, if_neg hn]; exact decide_eq_true h))
      · exact .inr (.inr (by rw [if_pos hk.symm, if_neg (fun e => hn e.symm)]; exact decide_eq_true (by omega)))
  · by_cases h : a.f0 < b.f0
    · exact .inr (.inl (by rw [if_neg hk]; exact decide_eq_true h))
    · exact .inr (.inr (by rw [if_neg (fun e => hk e.symm)]; exact decide_eq_true (by omega)))
theorem sameV_comm (a b : S32) : sameV a b = sameV b a := by
  cases h : sameV a b with
  | true => rw [sameV_eq h, sameV_refl]
  | false =>
    cases h2 : sameV b a with
    | true => rw [sameV_eq h2, sameV_refl] at h; cases h
    | false => rfl
theorem lessKey_cons (p : S30) (l : List S30) (a b : S32) (xs ys : List S32) : lessKeyB (p :: l) (a :: xs) (b :: ys) = if sameV a b = true then lessKeyB l xs ys else lessPB p.f3 a.f0 a.f1 a.f2 b.f0 b.f1 b.f2 := by
  rw [lessKeyB]; rfl
/-- a key that is less has bytes that are less -/
theorem key_lt : ∀ (l : List S30) (a b : List S32), FitK l a → FitK l b → a.length = b.length → lessKeyB l a b = true → Lt (keyB l a) (keyB l b)
  | l, [], [], _, _, _, h => by unfold lessKeyB at h; simp at h
  | _, [], _ :: _, _, _, hl, _ => by simp at hl
  | _, _ :: _, [], _, _, hl, _ => by simp at hl
  | [], _ :: _, _ :: _, ha, _, _, _ => ha.elim
  | p :: l, a :: xs, b :: ys, ha, hb, hl, h => by
    rw [lessKey_cons] at h
    rw [keyB_cons, keyB_cons]
    by_cases hs : sameV a b = true
    · rw [if_pos hs] at h
      rw [sameV_eq hs]
      exact (key_lt l xs ys ha.2 hb.2 (by simpa using hl) h).left _
    · rw [if_neg hs] at h
      exact (pp_lt ha.1 hb.1 h).append _ _
theorem key_tri : ∀ (l : List S30) (a b : List S32), FitK l a → FitK l b → a.length = b.length → a = b ∨ lessKeyB l a b = true ∨ lessKeyB l b a = true
  | _, [], [], _, _, _ => .inl rfl
  | _, [], _ :: _, _, _, hl => by simp at hl
  | _, _ :: _, [], _, _, hl => by simp at hl
  | [], _ :: _, _ :: _, ha, _, _ => ha.elim
  | p :: l, a :: xs, b :: ys, ha, hb, hl => by
    rw [lessKey_cons, lessKey_cons]
    by_cases hs : sameV a b = true
    · rw [if_pos hs, if_pos (by rw [sameV_comm]; exact hs), sameV_eq hs]
      rcases key_tri l xs ys ha.2 hb.2 (by simpa using hl) with h | h | h
      · exact .inl (by rw [h])
      · exact .inr (.inl h)
      · exact .inr (.inr h)
    · rw [if_neg hs, if_neg (by rw [sameV_comm]; exact hs)]
      unfold lessPB
      rcases lessV_tri a b with h | h | h
      · exact absurd h hs
      · cases p.f3
        · exact .inr (.inl (by rw [if_neg (by decide)]; exact h))
        · exact .inr (.inr (by rw [if_pos rfl]; exact h))
      · cases p.f3
        · exact .inr (.inr (by rw [if_neg (by decide)]; exact h))
        · exact .inr (.inl (by rw [if_pos rfl]; exact h))
theorem lessKey_asymm {l : List S30} {a b : List S32} (ha : FitK l a) (hb : FitK l b) (hl : a.length = b.length) (h : lessKeyB l a b = true) : lessKeyB l b a = false := by
  cases h2 : lessKeyB l b a with
  | false => rfl
  | true =>
    have q1 := (key_lt l a b ha hb hl h).ltB
    have q2 := (key_lt l b a hb ha hl.symm h2).ltB'
    rw [q1] at q2; cases q2
theorem lessKey_self : ∀ (l : List S30) (a : List S32), FitK l a → lessKeyB l a a = false
  | l, [], _ => by unfold lessKeyB; simp
  | [], _ :: _, h => h.elim
  | p :: l, a :: xs, h => by rw [lessKey_cons, if_pos (sameV_refl a)]; exact lessKey_self l xs h.2

theorem laws_big_eq (l : List Int) : laws_big.f l = some (decide ((l.length : Int) > 1048576)) := rfl
attribute [local irreducible] laws_big.f

theorem laws_sameBytes_l0 (a b : List Int) (he : a.length = b.length) (h : a.length ≤ 9223372036854775806) : ∀ i : Nat, i ≤ a.length → Ev (fun k => laws_sameBytes.l0 k a b (i : Int)) (decide (a.drop i = b.drop i)) := by
  refine up_ind a.length (fun i : Nat => Ev (fun k => laws_sameBytes.l0 k a b (i : Int)) (decide (a.drop i = b.drop i))) ?_ ?_
  · refine ev_succ ?_
    have h1 : ¬ ((a.length : Int) < (a.length : Int)) := by omega
    simp only [laws_sameBytes.l0.eq_2, h1, if_false]
    rw [decide_eq_true (by rw [List.drop_eq_nil_of_le (Nat.le_refl _), List.drop_eq_nil_of_le (by omega)])]
    exact ev_some _
  · intro i hi ih
    refine ev_succ ?_
    have hib : i < b.length := by omega
    have h1 : (i : Int) < (a.length : Int) := by omega
    have h2 : (0 : Int) ≤ (i : Int) := by omega
    have h3 : (i : Int) < (b.length : Int) := by omega
    simp only [laws_sameBytes.l0.eq_2, h1, h2, h3, if_true, rd_nat a i hi, rd_nat b i hib, wsucc (show i < 9223372036854775807 by omega)]
    rw [List.drop_eq_getElem_cons hi, List.drop_eq_getElem_cons hib]
    by_cases hv : a[i] = b[i]
    · simp only [hv, if_true, List.cons.injEq, true_and]
      exact ih
    · simp only [hv, if_false, List.cons.injEq, false_and, decide_false]
      exact ev_some _
theorem laws_sameBytes_ev (a b : List Int) (h : a.length ≤ 9223372036854775806) : Ev (fun k => laws_sameBytes.f k a b) (decide (a = b)) := by
  unfold laws_sameBytes.f
  by_cases he : a.length = b.length
  · have h1 : (a.length : Int) = (b.length : Int) := by omega
    simp only [h1, if_true]
    simpa using laws_sameBytes_l0 a b he h 0 (by omega)
  · have h1 : ¬ ((a.length : Int) = (b.length : Int)) := by omega
    simp only [h1, if_false]
    rw [decide_eq_false (fun e => he (by rw [e]))]
    exact ev_some _
attribute [local irreducible] laws_sameBytes.f

theorem spec_l1In_eq (a b c : Int) : spec_l1In.f a b c = some (inB a b c) := in_ite a b c
attribute [local irreducible] spec_l1In.f

theorem spec_PartOk_eq (a0 a1 : Int) (a2 a3 : Bool) : spec_PartOk.f a0 a1 a2 a3 = some (partOkB a0 a1) := by
  unfold spec_PartOk.f partOkB
  simp only [spec_l1In_eq, Option.bind_some]
  cases inB a0 0 9 <;> simp
attribute [local irreducible] spec_PartOk.f

theorem spec_ValOk_eq (k n : Int) (s : ByteArray) : spec_ValOk.f k n s = some (valOkB k n s) := by
  unfold spec_ValOk.f valOkB isE
  simp only [spec_l1In_eq, Option.bind_some]
  by_cases h0 : k = 0
  · simp only [h0, if_true]; by_cases hn : n = 0 <;> simp [hn]
  simp only [h0, if_false]
  by_cases h1 : k = 1
  · simp only [h1, if_true]; cases inB n (-2147483648) 2147483647 <;> simp
  simp only [h1, if_false]
  by_cases h2 : k = 2
  · simp only [h2, if_true]; cases inB n (-1000000000000000) 1000000000000000 <;> simp
  simp only [h2, if_false]
  by_cases h3 : k = 3
  · simp only [h3, if_true]; by_cases hn : n = 0 <;> by_cases hs : (s.size : Int) ≤ 30 <;> simp [hn, hs]
  simp only [h3, if_false]
  by_cases h4 : k = 4
  · simp only [h4, if_true]; cases inB n 0 1 <;> simp
  simp only [h4, if_false]
attribute [local irreducible] spec_ValOk.f

theorem spec_Fits_eq (a0 t : Int) (null a3 : Bool) (k n : Int) (s : ByteArray) : spec_Fits.f a0 t null a3 k n s = some (fitsB t null k n s) := by
  unfold spec_Fits.f fitsB
  simp only [spec_ValOk_eq, Option.bind_some]
  cases valOkB k n s
  · simp
  · simp only [if_true, Bool.true_and]
    by_cases h1 : k = t
    · rw [if_pos h1]
      by_cases h0 : k = 0
      · rw [if_pos h0, if_pos h0]
      · rw [if_neg h0, if_neg h0]; simp [h1]
    · rw [if_neg h1]
      by_cases h0 : k = 0
      · rw [if_pos h0, if_pos h0]
      · rw [if_neg h0, if_neg h0]; simp [h1]
attribute [local irreducible] spec_Fits.f

theorem spec_PutFix_eq (l : List Int) (n : Int) (h : l.length ≤ 140737480000000) (hn : -9223372036854775808 ≤ n ∧ n ≤ 9223372036854775807) : spec_PutFix.f l n = some (l ++ fixB n) := by
  unfold spec_PutFix.f
  have hc := clampN_spec n (-2147483648) 2147483647 (by omega)
  have h0 : l.length < 140737488355328 := by omega
  have h4 : l.length + (0 + 1 + 1 + 1 + 1) < 140737488355328 := by omega
  by_cases h1 : n > 2147483647
  · have e : clampN n (-2147483648) 2147483647 = 2147483647 := by omega
    simp only [h1, if_true, Option.bind_some, List.length_nil, Nat.zero_add, List.nil_append, h0, List.length_cons, fixB, e]
    rw [if_pos (by omega)]
    congr 2
  · by_cases h2 : n < -2147483648
    · have e : clampN n (-2147483648) 2147483647 = -2147483648 := by omega
      simp only [h1, h2, if_true, if_false, Option.bind_some, List.length_nil, Nat.zero_add, List.nil_append, h0, List.length_cons, fixB, e]
      rw [if_pos (by omega)]
      rfl
    · have e : clampN n (-2147483648) 2147483647 = n := by omega
      have e2 : wrap64 (n + 2147483648) = n + 2147483648 := w64 (by omega) (by omega)
      simp only [h1, h2, if_true, if_false, Option.bind_some, List.length_nil, Nat.zero_add, List.nil_append, h0, List.length_cons, fixB, e, e2]
      rw [if_pos (by omega)]
attribute [local irreducible] spec_PutFix.f

theorem spec_Flip_l0 (l : List Int) (hl : l.length ≤ 140737480000000) (hb : IsB l) (p : Int) : ∀ i : Nat, i ≤ l.length → ∀ xs : List Int, xs.length = l.length → xs.drop i = l.drop i →
    Ev (fun k => spec_Flip.l0 k p xs (i : Int)) (xs.take i ++ flipB (l.drop i) (p - i)) := by
  refine up_ind l.length (fun i : Nat => ∀ xs : List Int, xs.length = l.length → xs.drop i = l.drop i → Ev (fun k => spec_Flip.l0 k p xs (i : Int)) (xs.take i ++ flipB (l.drop i) (p - i))) ?_ ?_
  · intro xs hx _
    refine ev_succ ?_
    have h1 : ¬ ((l.length : Int) < (xs.length : Int)) := by omega
    simp only [spec_Flip.l0.eq_2, h1, if_false]
    rw [List.take_of_length_le (by omega), List.drop_eq_nil_of_le (by omega)]
    simp only [flipB, List.take_nil, List.drop_nil, List.map_nil, List.append_nil]
    exact ev_some _
  · intro i hi ih xs hx he
    refine ev_succ ?_
    have hxi : i < xs.length := by omega
    have h1 : (i : Int) < (xs.length : Int) := by omega
    have h2 : (0 : Int) ≤ (i : Int) := by omega
    have h3 : xs[i] = l[i] := by
      have := congrArg (fun l => l[0]?) he
      simp only [List.getElem?_drop, Nat.add_zero] at this
      rw [List.getElem?_eq_getElem hxi, List.getElem?_eq_getElem hi] at this
      exact Option.some.inj this
    have he' : xs.drop (i + 1) = l.drop (i + 1) := by
      have := congrArg (List.drop 1) he
      simpa [List.drop_drop, Nat.add_comm] using this
    obtain ⟨g0, g1⟩ := hb.get i hi
    by_cases hp : (i : Int) ≥ p
    · simp only [spec_Flip.l0.eq_2, h1, h2, hp, if_true, Int.toNat_natCast, rd_nat xs i hxi, h3, xor255 l[i] g0 g1, wsucc (show i < 9223372036854775807 by omega)]
      have := ih (xs.set i (255 - l[i])) (by simp [hx]) (by rw [List.drop_set_of_lt (by omega)]; exact he')
      rw [take_set_succ _ _ _ hxi, List.append_assoc] at this
      rw [List.drop_eq_getElem_cons hi]
      have e : flipB (l[i] :: l.drop (i + 1)) (p - (i : Int)) = (255 - l[i]) :: flipB (l.drop (i + 1)) (p - ((i + 1 : Nat) : Int)) := by
        unfold flipB
        rw [show (p - (i : Int)).toNat = 0 by omega, show (p - ((i + 1 : Nat) : Int)).toNat = 0 by omega]
        rfl
      rw [e]
      exact this
    · simp only [spec_Flip.l0.eq_2, h1, hp, if_true, if_false, wsucc (show i < 9223372036854775807 by omega)]
      have := ih xs hx he'
      have e1 : xs.take (i + 1) = xs.take i ++ [l[i]] := by rw [List.take_succ_eq_append_getElem hxi, h3]
      rw [e1, List.append_assoc] at this
      rw [List.drop_eq_getElem_cons hi]
      have e : flipB (l[i] :: l.drop (i + 1)) (p - (i : Int)) = l[i] :: flipB (l.drop (i + 1)) (p - ((i + 1 : Nat) : Int)) := by
        unfold flipB
        rw [show (p - (i : Int)).toNat = (p - ((i + 1 : Nat) : Int)).toNat + 1 by omega]
        rfl
      rw [e]
      exact this
theorem spec_Flip_ev (l : List Int) (p : Int) (hl : l.length ≤ 140737480000000) (hb : IsB l) : Ev (fun k => spec_Flip.f k l p) (flipB l p) := by
  unfold spec_Flip.f
  have h1 : ([] : List Int).length + l.length < 140737488355328 := by simp only [List.length_nil]; omega
  simp only [Option.bind_some, h1, if_true, List.nil_append]
  have := spec_Flip_l0 l hl hb p 0 (by omega) l rfl rfl
  simpa using this
attribute [local irreducible] spec_Flip.f

theorem spec_l4Bytes_l0 (n : Nat) : ∀ o : List Int, o.length + n < 140737488355328 * 1000000 → o.length + nB n ≤ 1000 → Ev (fun k => spec_l4Bytes.l0 k (n : Int) o) (beB n (nB n) ++ o) := by
  induction n using Nat.strongRecOn with
  | _ n ih =>
    intro o ho ho2
    refine ev_succ ?_
    by_cases h : n = 0
    · subst h
      have h1 : ¬ (((0 : Nat) : Int) > 0) := by decide
      simp only [spec_l4Bytes.l0.eq_2, h1, if_false, nB_zero, beB, List.nil_append]
      exact ev_some _
    · have h1 : (n : Int) > 0 := by omega
      have h3 : (n : Int) / 256 = ((n / 256 : Nat) : Int) := by omega
      have h4 : (n : Int) % 256 = ((n % 256 : Nat) : Int) := by omega
      have h5 := nB_pos h
      have h6 : [((n % 256 : Nat) : Int)].length + o.length < 140737488355328 := by simp only [List.length_cons, List.length_nil]; omega
      simp only [spec_l4Bytes.l0.eq_2, h1, if_true, h3, h4, Option.bind_some, h6]
      have := ih (n / 256) (by omega) ([((n % 256 : Nat) : Int)] ++ o) (by simp only [List.length_append, List.length_cons, List.length_nil]; omega) (by simp only [List.length_append, List.length_cons, List.length_nil]; omega)
      rw [h5, beB_snoc, List.append_assoc]
      exact this
theorem spec_l4Bytes_ev (n : Nat) (h : n ≤ 1000000000000000) : Ev (fun k => spec_l4Bytes.f k (n : Int)) (beB n (nB n)) := by
  unfold spec_l4Bytes.f
  have := spec_l4Bytes_l0 n [] (by simp only [List.length_nil]; omega) (by have := nB_7 h; simp only [List.length_nil]; omega)
  simpa using this
attribute [local irreducible] spec_l4Bytes.f

theorem spec_PutVar_j1 (l : List Int) (n : Int) (h : l.length ≤ 140737470000000) (hn : -1000000000000000 ≤ n ∧ n ≤ 1000000000000000) : Ev (fun k => spec_PutVar.j1 k l n) (l ++ varB n) := by
  refine ev_succ ?_
  have e : varN n = n := (clampN_spec n (-1000000000000000) 1000000000000000 (by omega)).2.2.1 hn.1 hn.2
  have h1 : l.length < 140737488355328 := by omega
  unfold varB
  simp only [e]
  by_cases h0 : 0 ≤ n
  · have h0' : n ≥ 0 := h0
    rw [if_pos h0]
    obtain ⟨m, rfl⟩ := Int.eq_ofNat_of_zero_le h0
    simp only [spec_PutVar.j1.eq_2, h0', if_true, Int.toNat_natCast]
    have h7 := nB_7 (n := m) (by omega)
    refine Ev.bind (spec_l4Bytes_ev m (by omega)) ?_
    have e1 : wrap64 (128 + ((nB m : Nat) : Int)) % 256 = 128 + (nB m : Int) := by rw [w64 (by omega) (by omega)]; omega
    have h2 : (l ++ [128 + (nB m : Int)]).length + nB m < 140737488355328 := by simp only [List.length_append, List.length_cons, List.length_nil]; omega
    simp only [Option.bind_some, List.length_nil, Nat.zero_add, List.nil_append, h1, if_true, beB_len, e1, h2]
    rw [List.append_assoc]
    exact ev_some _
  · have h0' : ¬ (n ≥ 0) := h0
    rw [if_neg h0]
    have e0 : wrap64 (-1 - n) = (((-1 - n).toNat : Nat) : Int) := by rw [w64 (by omega) (by omega)]; omega
    have hm : (-1 - n).toNat ≤ 1000000000000000 := by omega
    simp only [spec_PutVar.j1.eq_2, h0', if_false, e0]
    generalize (-1 - n).toNat = m at hm
    have h7 := nB_7 (n := m) (by omega)
    refine Ev.bind (spec_l4Bytes_ev m (by omega)) ?_
    have e1 : wrap64 (127 - ((nB m : Nat) : Int)) % 256 = 127 - (nB m : Int) := by rw [w64 (by omega) (by omega)]; omega
    have h2 : (l ++ [127 - (nB m : Int)]).length + nB m < 140737488355328 := by simp only [List.length_append, List.length_cons, List.length_nil]; omega
    simp only [Option.bind_some, List.length_nil, Nat.zero_add, List.nil_append, h1, if_true, beB_len, e1]
    refine Ev.bind (spec_Flip_ev (beB m (nB m)) 0 (by rw [beB_len]; omega) (beB_isB _ _)) ?_
    have e2 : flipB (beB m (nB m)) 0 = (beB m (nB m)).map fun x => 255 - x := by simp [flipB]
    simp only [flipB_len, beB_len, h2, if_true]
    rw [List.append_assoc, e2]
    exact ev_some _
theorem spec_PutVar_ev (l : List Int) (n : Int) (h : l.length ≤ 140737470000000) : Ev (fun k => spec_PutVar.f k l n) (l ++ varB n) := by
  unfold spec_PutVar.f
  have hc := clampN_spec n (-1000000000000000) 1000000000000000 (by omega)
  have hv : ∀ m : Int, varN n = m → -1000000000000000 ≤ m ∧ m ≤ 1000000000000000 → varB m = varB n := by
    intro m hm hr
    have e : varN m = m := (clampN_spec m (-1000000000000000) 1000000000000000 (by omega)).2.2.1 hr.1 hr.2
    unfold varB; rw [e, hm]
  by_cases h1 : n > 1000000000000000
  · simp only [h1, if_true]
    refine ev_succ ?_
    rw [← hv 1000000000000000 (hc.2.2.2.2 h1) (by omega)]
    simp only [spec_PutVar.j0.eq_2, show ¬ ((1000000000000000 : Int) < -1000000000000000) by decide, if_false]
    exact spec_PutVar_j1 l _ h (by omega)
  · simp only [h1, if_false]
    refine ev_succ ?_
    by_cases h2 : n < -1000000000000000
    · simp only [spec_PutVar.j0.eq_2, h2, if_true]
      rw [← hv (-1000000000000000) (hc.2.2.2.1 h2) (by omega)]
      exact spec_PutVar_j1 l _ h (by omega)
    · simp only [spec_PutVar.j0.eq_2, h2, if_false]
      exact spec_PutVar_j1 l n h (by omega)
attribute [local irreducible] spec_PutVar.f

theorem spec_PutEsc_l0 (s : ByteArray) (hs : s.size ≤ 1048576) : ∀ i : Nat, i ≤ s.size → ∀ o : List Int, o.length + 2 * (s.size - i) + 2 < 140737488355328 →
    Ev (fun k => spec_PutEsc.l0 k s o (i : Int)) (o ++ escB ((bytesOf s).drop i)) := by
  refine up_ind s.size (fun i : Nat => ∀ o : List Int, o.length + 2 * (s.size - i) + 2 < 140737488355328 → Ev (fun k => spec_PutEsc.l0 k s o (i : Int)) (o ++ escB ((bytesOf s).drop i))) ?_ ?_
  · intro o ho
    refine ev_succ ?_
    have h1 : ¬ ((s.size : Int) < (s.size : Int)) := by omega
    have h2 : o.length + ([0, 1] : List Int).length < 140737488355328 := by simp only [List.length_cons, List.length_nil]; omega
    simp only [spec_PutEsc.l0.eq_2, h1, if_false, Option.bind_some, h2, if_true]
    rw [List.drop_eq_nil_of_le (by rw [bytesOf_len]; omega)]
    exact ev_some _
  · intro i hi ih o ho
    refine ev_succ ?_
    have hib : i < (bytesOf s).length := by rw [bytesOf_len]; exact hi
    have h1 : (i : Int) < (s.size : Int) := by omega
    have h2 : (0 : Int) ≤ (i : Int) := by omega
    have h3 : o.length < 140737488355328 := by omega
    have h4 : (o ++ [(bytesOf s)[i]]).length < 140737488355328 := by simp only [List.length_append, List.length_cons, List.length_nil]; omega
    simp only [spec_PutEsc.l0.eq_2, h1, h2, h3, h4, if_true, Option.bind_some, bt_get s i hi, wsucc (show i < 9223372036854775807 by omega)]
    rw [List.drop_eq_getElem_cons hib]
    by_cases hz : (bytesOf s)[i] = 0
    · have := ih (o ++ [(bytesOf s)[i]] ++ [255]) (by simp only [List.length_append, List.length_cons, List.length_nil]; omega)
      rw [escB, if_pos hz]
      rw [List.append_assoc, List.append_assoc] at this
      simp only [hz, if_true]
      rw [hz] at this
      simpa using this
    · have := ih (o ++ [(bytesOf s)[i]]) (by simp only [List.length_append, List.length_cons, List.length_nil]; omega)
      rw [escB, if_neg hz]
      rw [List.append_assoc] at this
      simp only [hz, if_false]
      exact this
theorem spec_PutEsc_ev (l : List Int) (s : ByteArray) (h : l.length ≤ 140737480000000) (hs : s.size ≤ 1048576) : Ev (fun k => spec_PutEsc.f k l s) (l ++ escB (bytesOf s)) := by
  unfold spec_PutEsc.f
  have h1 : ([] : List Int).length + l.length < 140737488355328 := by simp only [List.length_nil]; omega
  simp only [Option.bind_some, h1, if_true, List.nil_append]
  simpa using spec_PutEsc_l0 s hs 0 (by omega) l (by omega)
attribute [local irreducible] spec_PutEsc.f

theorem spec_l5Value_ev (l : List Int) (hl : l.length ≤ 140737460000000) (k n : Int) (hn : -9223372036854775808 ≤ n ∧ n ≤ 9223372036854775807) (s : ByteArray) (hs : s.size ≤ 1048576) (hk : 1 ≤ k ∧ k ≤ 4) :
    Ev (fun j => spec_l5Value.f j l k n s) (l ++ valB k n s) := by
  unfold spec_l5Value.f valB
  by_cases k1 : k = 1
  · simp only [k1, if_true, spec_PutFix_eq l n (by omega) hn, Option.bind_some]; exact ev_some _
  by_cases k2 : k = 2
  · simp only [k1, if_false]
    simp only [k2, if_true]
    exact Ev.bind (spec_PutVar_ev l n (by omega)) (ev_some _)
  by_cases k3 : k = 3
  · simp only [k1, k2, if_false]
    simp only [k3, if_true]
    exact Ev.bind (spec_PutEsc_ev l s (by omega) hs) (ev_some _)
  · have k4 : k = 4 := by omega
    have q1 : ([] : List Int).length + l.length < 140737488355328 := by simp only [List.length_nil]; omega
    have q2 : (([] : List Int) ++ l).length + [n % 256].length < 140737488355328 := by simp only [List.nil_append, List.length_cons, List.length_nil]; omega
    simp only [k1, k2, k3, if_false, Option.bind_some, q1, q2, if_true]
    simp only [k4, if_true, List.nil_append]
    exact ev_some _
attribute [local irreducible] spec_l5Value.f

theorem spec_PutPart_tail (l x : List Int) (hl : l.length + x.length ≤ 140737470000000) (hb : IsB l) (hx : IsB x) (desc : Bool) :
    Ev (fun j => if desc = true then (spec_Flip.f j (l ++ x) (l.length : Int)).bind fun t => some t else some (l ++ x)) (l ++ turnB desc x) := by
  cases desc with
  | false => simp only [Bool.false_eq_true, if_false, turnB]; exact ev_some _
  | true =>
    simp only [if_true, turnB]
    rw [← flipB_at l x]
    exact Ev.bind (spec_Flip_ev _ _ (by rw [List.length_append]; omega) (hb.append hx)) (ev_some _)
theorem spec_PutPart_ev (l : List Int) (hl : l.length ≤ 140737450000000) (hb : IsB l) (c t : Int) (null desc : Bool) (k n : Int) (hn : -9223372036854775808 ≤ n ∧ n ≤ 9223372036854775807) (s : ByteArray) :
    Ev (fun j => spec_PutPart.f j l c t null desc k n s) (l ++ putPart c t null desc k n s) := by
  unfold spec_PutPart.f
  have q1 : ([] : List Int).length + l.length < 140737488355328 := by simp only [List.length_nil]; omega
  simp only [Option.bind_some, q1, if_true, List.nil_append, spec_PartOk_eq, spec_Fits_eq]
  by_cases hok : okPV c t null k n s = true
  · have h2 := hok
    unfold okPV at h2
    rw [Bool.and_eq_true] at h2
    have hs := okPV_size hok
    have ht := partOk_t h2.1
    have e : putPart c t null desc k n s = turnB desc (bareB null k n s) := by unfold putPart partB; rw [if_pos hok]
    rw [e]
    simp only [h2.1, h2.2, if_true, Bool.not_true]
    refine ev_succ ?_
    have hlt : l.length < 140737488355328 := by omega
    simp only [spec_PutPart.j0.eq_2, Bool.false_eq_true, if_false]
    by_cases hk : k = 0
    · have hnull : null = true := by
        rcases fits_cases h2.2 ht with ⟨h, _⟩ | ⟨h, _⟩
        · exact h
        · omega
      have hbare : bareB null k n s = [0] := by
        unfold bareB headB valB
        simp [hnull, hk]
      simp only [hk, if_true, hlt, Option.bind_some]
      rw [hk] at hbare
      rw [hbare]
      exact spec_PutPart_tail l [0] (by simp only [List.length_cons, List.length_nil]; omega) hb (IsB.cons (by omega) (by omega) IsB.nil) desc
    · have hk4 : 1 ≤ k ∧ k ≤ 4 := by
        rcases fits_cases h2.2 ht with ⟨_, h, _⟩ | ⟨h, _⟩
        · exact absurd h hk
        · omega
      have hvl := valB_len k n s hs
      have j1 : ∀ h : List Int, h.length ≤ 1 → IsB h → Ev (fun j => spec_PutPart.j1 j l (l ++ h) c t null desc k n s) (l ++ turnB desc (h ++ valB k n s)) := by
        intro h hh hhb
        refine ev_succ ?_
        simp only [spec_PutPart.j1.eq_2]
        refine Ev.bind (spec_l5Value_ev (l ++ h) (by rw [List.length_append]; omega) k n hn s (by omega) hk4) ?_
        rw [List.append_assoc]
        exact spec_PutPart_tail l (h ++ valB k n s) (by rw [List.length_append]; omega) hb (hhb.append (valB_isB k n s)) desc
      simp only [hk, if_false]
      unfold bareB
      cases hnl : null with
      | false =>
        subst hnl
        simp only [Bool.false_eq_true, if_false]
        have := j1 [] (by simp) IsB.nil
        simpa [headB] using this
      | true =>
        subst hnl
        simp only [if_true, hlt]
        have := j1 [1] (by simp) (IsB.cons (by omega) (by omega) IsB.nil)
        simpa [headB, hk] using this
  · have e : putPart c t null desc k n s = [] := by unfold putPart; rw [if_neg hok]
    rw [e, List.append_nil]
    unfold okPV at hok
    cases hp : partOkB c t with
    | false =>
      simp only [Bool.false_eq_true, if_false]
      refine ev_succ ?_
      simp only [spec_PutPart.j0.eq_2, if_true]
      exact ev_some _
    | true =>
      rw [hp, Bool.true_and] at hok
      have hf : fitsB t null k n s = false := by simpa using hok
      simp only [if_true, hf, Bool.not_false]
      refine ev_succ ?_
      simp only [spec_PutPart.j0.eq_2, if_true]
      exact ev_some _
attribute [local irreducible] spec_PutPart.f

theorem spec_PlanOk_l0 (l : List S30) (h : l.length ≤ 9223372036854775807) : ∀ i, i ≤ l.length → Ev (fun k => spec_PlanOk.l0 k l (i : Int)) (decide (l.length ≤ 6) && (l.drop i).all fun p => partOkB p.f0 p.f1) := by
  refine up_ind l.length (fun i => Ev (fun k => spec_PlanOk.l0 k l (i : Int)) (decide (l.length ≤ 6) && (l.drop i).all fun p => partOkB p.f0 p.f1)) ?_ ?_
  · refine ev_succ ?_
    have h1 : ¬ ((l.length : Int) < (l.length : Int)) := by omega
    simp only [spec_PlanOk.l0.eq_2, h1, if_false]
    rw [List.drop_eq_nil_of_le (by omega), show decide ((l.length : Int) ≤ 6) = decide (l.length ≤ 6) by apply decide_eq_decide.2; omega]
    simpa using ev_some _
  · intro i hi ih
    refine ev_succ ?_
    have h1 : (i : Int) < (l.length : Int) := by omega
    have h2 : (0 : Int) ≤ (i : Int) := by omega
    simp only [spec_PlanOk.l0.eq_2, h1, h2, if_true, rd_T30_nat l i hi, spec_PartOk_eq, Option.bind_some, wsucc (show i < 9223372036854775807 by omega)]
    rw [List.drop_eq_getElem_cons hi, List.all_cons]
    cases hp : partOkB l[i].f0 l[i].f1
    · simpa using ev_some _
    · simpa using ih
theorem spec_PlanOk_ev (l : List S30) (h : l.length ≤ 9223372036854775807) : Ev (fun k => spec_PlanOk.f k l) (planOkB l) := by
  unfold spec_PlanOk.f planOkB
  simpa using spec_PlanOk_l0 l h 0 (by omega)
attribute [local irreducible] spec_PlanOk.f

theorem spec_FitsAll_l0 (l : List S30) (v : List S32) (h : v.length ≤ l.length) (hl : v.length ≤ 9223372036854775807) : ∀ i, i ≤ v.length → Ev (fun k => spec_FitsAll.l0 k l v (i : Int)) (((l.drop i).zip (v.drop i)).all fun q => fitsV q.1 q.2) := by
  refine up_ind v.length (fun i => Ev (fun k => spec_FitsAll.l0 k l v (i : Int)) (((l.drop i).zip (v.drop i)).all fun q => fitsV q.1 q.2)) ?_ ?_
  · refine ev_succ ?_
    have h1 : ¬ ((v.length : Int) < (v.length : Int)) := by omega
    simp only [spec_FitsAll.l0.eq_2, h1, if_false]
    rw [List.drop_eq_nil_of_le (show v.length ≤ _ by omega)]
    simpa using ev_some _
  · intro i hi ih
    refine ev_succ ?_
    have h1 : (i : Int) < (v.length : Int) := by omega
    have h2 : (0 : Int) ≤ (i : Int) := by omega
    have h3 : (i : Int) < (l.length : Int) := by omega
    have hil : i < l.length := by omega
    simp only [spec_FitsAll.l0.eq_2, h1, h2, h3, if_true, rd_T30_nat l i hil, rd_T32_nat v i hi, spec_Fits_eq, Option.bind_some, wsucc (show i < 9223372036854775807 by omega)]
    rw [List.drop_eq_getElem_cons hi, List.drop_eq_getElem_cons hil, List.zip_cons_cons, List.all_cons]
    cases hp : fitsB l[i].f1 l[i].f2 v[i].f0 v[i].f1 v[i].f2
    · simpa [fitsV, hp] using ev_some _
    · simpa [fitsV, hp] using ih
theorem spec_FitsAll_ev (l : List S30) (v : List S32) (hl : v.length ≤ 9223372036854775807) : Ev (fun k => spec_FitsAll.f k l v) (fitsAllB l v) := by
  unfold spec_FitsAll.f fitsAllB
  by_cases h : v.length ≤ l.length
  · have h1 : ¬ ((v.length : Int) > (l.length : Int)) := by omega
    simp only [h1, if_false, decide_eq_true h, Bool.true_and]
    simpa using spec_FitsAll_l0 l v h hl 0 (by omega)
  · have h1 : (v.length : Int) > (l.length : Int) := by omega
    simp only [h1, if_true, decide_eq_false h, Bool.false_and]
    exact ev_some _
attribute [local irreducible] spec_FitsAll.f

theorem spec_EncodeKey_l0 (l : List S30) (vs : List S32) (hl : vs.length ≤ l.length) (h6 : l.length ≤ 6) (hw : ∀ v ∈ vs, -9223372036854775808 ≤ v.f1 ∧ v.f1 ≤ 9223372036854775807) : ∀ i : Nat, i ≤ vs.length → ∀ out : List Int, IsB out → out.length ≤ 63 * i →
    Ev (fun k => spec_EncodeKey.l0 k l vs out (i : Int)) (out ++ keyB (l.drop i) (vs.drop i)) := by
  refine up_ind vs.length (fun i : Nat => ∀ out : List Int, IsB out → out.length ≤ 63 * i → Ev (fun k => spec_EncodeKey.l0 k l vs out (i : Int)) (out ++ keyB (l.drop i) (vs.drop i))) ?_ ?_
  · intro out hb ho
    refine ev_succ ?_
    have h1 : ¬ ((vs.length : Int) < (vs.length : Int)) := by omega
    simp only [spec_EncodeKey.l0.eq_2, h1, if_false]
    rw [List.drop_eq_nil_of_le (Nat.le_refl _), keyB_nil_r, List.append_nil]
    exact ev_some _
  · intro i hi ih out hb ho
    refine ev_succ ?_
    have hil : i < l.length := by omega
    have h1 : (i : Int) < (vs.length : Int) := by omega
    have h2 : (0 : Int) ≤ (i : Int) := by omega
    have h3 : (i : Int) < (l.length : Int) := by omega
    simp only [spec_EncodeKey.l0.eq_2, h1, h2, h3, if_true, rd_T30_nat l i hil, rd_T32_nat vs i hi, wsucc (show i < 9223372036854775807 by omega)]
    rw [List.drop_eq_getElem_cons hil, List.drop_eq_getElem_cons hi, keyB_cons, ← List.append_assoc]
    refine Ev.bind (spec_PutPart_ev out (by omega) hb _ _ _ _ _ _ (hw _ (List.getElem_mem hi)) _) ?_
    have hp := ppB_len l[i] vs[i]
    exact ih (out ++ ppB l[i] vs[i]) (hb.append (ppB_isB _ _)) (by rw [List.length_append]; omega)
theorem spec_EncodeKey_ev (l : List S30) (vs : List S32) (hv : vs.length ≤ 9223372036854775807) (hl : l.length ≤ 9223372036854775807) (hw : ∀ v ∈ vs, -9223372036854775808 ≤ v.f1 ∧ v.f1 ≤ 9223372036854775807) : Ev (fun k => spec_EncodeKey.f k l vs) (encKey l vs) := by
  unfold spec_EncodeKey.f encKey
  simp only [Option.bind_some]
  refine Ev.bind (spec_PlanOk_ev l hl) ?_
  cases hp : planOkB l with
  | false =>
    simp only [Bool.false_eq_true, if_false, Bool.false_and]
    refine ev_succ ?_
    simp only [spec_EncodeKey.j0.eq_2, if_true]
    exact ev_some _
  | true =>
    have h6 := (planOk_len hp).1
    simp only [if_true, Bool.true_and]
    refine Ev.bind (spec_FitsAll_ev l vs hv) ?_
    refine ev_succ ?_
    cases hf : fitsAllB l vs with
    | false =>
      simp only [spec_EncodeKey.j0.eq_2, Bool.not_false, if_true, Bool.false_eq_true, if_false]
      exact ev_some _
    | true =>
      simp only [spec_EncodeKey.j0.eq_2, Bool.not_true, Bool.false_eq_true, if_false, if_true]
      have hle : vs.length ≤ l.length := by
        unfold fitsAllB at hf
        rw [Bool.and_eq_true] at hf
        exact of_decide_eq_true hf.1
      simpa using spec_EncodeKey_l0 l vs hle h6 hw 0 (by omega) [] IsB.nil (by simp)
attribute [local irreducible] spec_EncodeKey.f

theorem impl_in_eq (a b c : Int) : impl_in.f a b c = some (inB a b c) := in_ite a b c
attribute [local irreducible] impl_in.f

theorem impl_PartOk_eq (a0 a1 : Int) (a2 a3 : Bool) : impl_PartOk.f a0 a1 a2 a3 = some (partOkB a0 a1) := by
  unfold impl_PartOk.f partOkB
  simp only [impl_in_eq, Option.bind_some]
  cases inB a0 0 9 <;> simp
attribute [local irreducible] impl_PartOk.f

theorem impl_PlanOk_l0 (l : List S30) (h : l.length ≤ 9223372036854775807) : ∀ i, i ≤ l.length → (i ≤ 6 → Ev (fun k => impl_PlanOk.l0 k l (l.length : Int) (i : Int)) (decide (l.length ≤ 6) && (l.drop i).all fun p => partOkB p.f0 p.f1)) := by
  refine up_ind l.length (fun i => (i ≤ 6 → Ev (fun k => impl_PlanOk.l0 k l (l.length : Int) (i : Int)) (decide (l.length ≤ 6) && (l.drop i).all fun p => partOkB p.f0 p.f1))) ?_ ?_
  · intro h6
    refine ev_succ ?_
    have h1 : ¬ ((l.length : Int) < (l.length : Int)) := by omega
    simp only [impl_PlanOk.l0.eq_2, h1, if_false]
    rw [List.drop_eq_nil_of_le (by omega), decide_eq_true h6]
    simpa using ev_some _
  · intro i hi ih h6
    refine ev_succ ?_
    have h1 : (i : Int) < (l.length : Int) := by omega
    have h2 : (0 : Int) ≤ (i : Int) := by omega
    by_cases h7 : i = 6
    · have h8 : (i : Int) ≥ 6 := by omega
      simp only [impl_PlanOk.l0.eq_2, h1, h2, h8, if_true]
      rw [show decide (l.length ≤ 6) = false by apply decide_eq_false; omega]
      simpa using ev_some _
    · have h8 : ¬ ((i : Int) ≥ 6) := by omega
      simp only [impl_PlanOk.l0.eq_2, h1, h2, h8, if_true, if_false, rd_T30_nat l i hi, impl_PartOk_eq, Option.bind_some, wsucc (show i < 9223372036854775807 by omega)]
      rw [List.drop_eq_getElem_cons hi, List.all_cons]
      cases hp : partOkB l[i].f0 l[i].f1
      · simpa using ev_some _
      · simpa using ih (by omega)
theorem impl_PlanOk_ev (l : List S30) (h : l.length ≤ 9223372036854775807) : Ev (fun k => impl_PlanOk.f k l) (planOkB l) := by
  unfold impl_PlanOk.f planOkB
  simpa using impl_PlanOk_l0 l h 0 (by omega) (by omega)
attribute [local irreducible] impl_PlanOk.f

theorem impl_ValOk_eq (k n : Int) (s : ByteArray) : impl_ValOk.f k n s = some (valOkB k n s) := by
  unfold impl_ValOk.f valOkB isE
  simp only [impl_in_eq, Option.bind_some]
  by_cases h0 : k = 0
  · simp only [h0, if_true]; by_cases hn : n = 0 <;> simp [hn]
  simp only [h0, if_false]
  by_cases h1 : k = 1
  · simp only [h1, if_true]; cases inB n (-2147483648) 2147483647 <;> simp
  simp only [h1, if_false]
  by_cases h2 : k = 2
  · simp only [h2, if_true]; cases inB n (-1000000000000000) 1000000000000000 <;> simp
  simp only [h2, if_false]
  by_cases h3 : k = 3
  · simp only [h3, if_true]; by_cases hn : n = 0 <;> by_cases hs : (s.size : Int) ≤ 30 <;> simp [hn, hs]
  simp only [h3, if_false]
  by_cases h4 : k = 4
  · simp only [h4, if_true]; cases inB n 0 1 <;> simp
  simp only [h4, if_false]
attribute [local irreducible] impl_ValOk.f

theorem impl_Fits_eq (a0 t : Int) (null a3 : Bool) (k n : Int) (s : ByteArray) : impl_Fits.f a0 t null a3 k n s = some (fitsB t null k n s) := by
  unfold impl_Fits.f fitsB
  simp only [impl_ValOk_eq, Option.bind_some]
  cases valOkB k n s
  · simp
  · simp only [if_true, Bool.true_and]
    by_cases h1 : k = t
    · rw [if_pos h1]
      by_cases h0 : k = 0
      · rw [if_pos h0, if_pos h0]
      · rw [if_neg h0, if_neg h0]; simp [h1]
    · rw [if_neg h1]
      by_cases h0 : k = 0
      · rw [if_pos h0, if_pos h0]
      · rw [if_neg h0, if_neg h0]; simp [h1]
attribute [local irreducible] impl_Fits.f

theorem impl_FitsAll_l0 (l : List S30) (v : List S32) (h : v.length ≤ l.length) (hl : v.length ≤ 9223372036854775807) : ∀ i, i ≤ v.length → Ev (fun k => impl_FitsAll.l0 k l v (v.length : Int) (i : Int)) (((l.drop i).zip (v.drop i)).all fun q => fitsV q.1 q.2) := by
  refine up_ind v.length (fun i => Ev (fun k => impl_FitsAll.l0 k l v (v.length : Int) (i : Int)) (((l.drop i).zip (v.drop i)).all fun q => fitsV q.1 q.2)) ?_ ?_
  · refine ev_succ ?_
    have h1 : ¬ ((v.length : Int) < (v.length : Int)) := by omega
    simp only [impl_FitsAll.l0.eq_2, h1, if_false]
    rw [List.drop_eq_nil_of_le (show v.length ≤ _ by omega)]
    simpa using ev_some _
  · intro i hi ih
    refine ev_succ ?_
    have h1 : (i : Int) < (v.length : Int) := by omega
    have h2 : (0 : Int) ≤ (i : Int) := by omega
    have h3 : (i : Int) < (l.length : Int) := by omega
    have hil : i < l.length := by omega
    simp only [impl_FitsAll.l0.eq_2, h1, h2, h3, if_true, rd_T30_nat l i hil, rd_T32_nat v i hi, impl_Fits_eq, Option.bind_some, wsucc (show i < 9223372036854775807 by omega)]
    rw [List.drop_eq_getElem_cons hi, List.drop_eq_getElem_cons hil, List.zip_cons_cons, List.all_cons]
    cases hp : fitsB l[i].f1 l[i].f2 v[i].f0 v[i].f1 v[i].f2
    · simpa [fitsV, hp] using ev_some _
    · simpa [fitsV, hp] using ih
theorem impl_FitsAll_ev (l : List S30) (v : List S32) (hl : v.length ≤ 9223372036854775807) : Ev (fun k => impl_FitsAll.f k l v) (fitsAllB l v) := by
  unfold impl_FitsAll.f fitsAllB
  by_cases h : v.length ≤ l.length
  · have h1 : ¬ ((v.length : Int) > (l.length : Int)) := by omega
    simp only [h1, if_false, decide_eq_true h, Bool.true_and]
    simpa using impl_FitsAll_l0 l v h hl 0 (by omega)
  · have h1 : (v.length : Int) > (l.length : Int) := by omega
    simp only [h1, if_true, decide_eq_false h, Bool.false_and]
    exact ev_some _
attribute [local irreducible] impl_FitsAll.f

theorem impl_copyBytes_eq (l : List Int) (h : l.length < 140737488355328) : impl_copyBytes.f l = some l := by
  unfold impl_copyBytes.f
  simp only [List.length_nil, Nat.zero_add, List.nil_append]
  rw [if_pos h]
attribute [local irreducible] impl_copyBytes.f

theorem impl_Flip_l0 (l : List Int) (hl : l.length ≤ 140737480000000) (hb : IsB l) (p : Nat) : ∀ i : Nat, i ≤ l.length → p ≤ i → ∀ xs : List Int, xs.length = l.length → xs.drop i = l.drop i →
    Ev (fun k => impl_Flip.l0 k xs (i : Int)) (xs.take i ++ (l.drop i).map fun x => 255 - x) := by
  refine up_ind l.length (fun i : Nat => p ≤ i → ∀ xs : List Int, xs.length = l.length → xs.drop i = l.drop i → Ev (fun k => impl_Flip.l0 k xs (i : Int)) (xs.take i ++ (l.drop i).map fun x => 255 - x)) ?_ ?_
  · intro _ xs hx _
    refine ev_succ ?_
    have h1 : ¬ ((l.length : Int) < (xs.length : Int)) := by omega
    simp only [impl_Flip.l0.eq_2, h1, if_false]
    rw [List.take_of_length_le (by omega), List.drop_eq_nil_of_le (by omega), List.map_nil, List.append_nil]
    exact ev_some _
  · intro i hi ih hp xs hx he
    refine ev_succ ?_
    have hxi : i < xs.length := by omega
    have h1 : (i : Int) < (xs.length : Int) := by omega
    have h2 : (0 : Int) ≤ (i : Int) := by omega
    have h3 : xs[i] = l[i] := by
      have := congrArg (fun l => l[0]?) he
      simp only [List.getElem?_drop, Nat.add_zero] at this
      rw [List.getElem?_eq_getElem hxi, List.getElem?_eq_getElem hi] at this
      exact Option.some.inj this
    obtain ⟨g0, g1⟩ := hb.get i hi
    simp only [impl_Flip.l0.eq_2, h1, h2, if_true, Int.toNat_natCast, rd_nat xs i hxi, h3, xor255 l[i] g0 g1, wsucc (show i < 9223372036854775807 by omega)]
    have := ih (by omega) (xs.set i (255 - l[i])) (by simp [hx]) (by
      rw [List.drop_set_of_lt (by omega)]
      have := congrArg (List.drop 1) he
      simpa [List.drop_drop, Nat.add_comm] using this)
    rw [take_set_succ _ _ _ hxi, List.append_assoc] at this
    rw [List.drop_eq_getElem_cons hi]
    exact this
theorem impl_Flip_ev (l : List Int) (p : Int) (hl : l.length ≤ 140737480000000) (hb : IsB l) : Ev (fun k => impl_Flip.f k l p) (flipB l p) := by
  unfold impl_Flip.f
  simp only [impl_copyBytes_eq l (by omega), Option.bind_some]
  have e : mx p 0 = ((p.toNat : Nat) : Int) := by unfold mx; split <;> omega
  rw [e]
  by_cases hp : p.toNat ≤ l.length
  · exact impl_Flip_l0 l hl hb p.toNat p.toNat hp (Nat.le_refl _) l rfl rfl
  · refine ev_succ ?_
    have h1 : ¬ (((p.toNat : Nat) : Int) < (l.length : Int)) := by omega
    simp only [impl_Flip.l0.eq_2, h1, if_false]
    unfold flipB
    rw [List.take_of_length_le (by omega), List.drop_eq_nil_of_le (by omega), List.map_nil, List.append_nil]
    exact ev_some _
attribute [local irreducible] impl_Flip.f

theorem impl_addBytes_l0 (n : Nat) (t : Bool) (c : Nat) : ∀ o : List Int, c ≤ 7 → o.length + c < 140737488355328 →
    Ev (fun k => impl_addBytes.l0 k o (n : Int) (if t = true then 255 else 0) ((c : Int) - 1)) (o ++ (beB n c).map fun x => if t = true then 255 - x else x) := by
  induction c with
  | zero =>
    intro o _ _
    refine ev_succ ?_
    have h1 : ¬ (((0 : Nat) : Int) - 1 ≥ 0) := by decide
    simp only [impl_addBytes.l0.eq_2, h1, if_false, beB, List.map_nil, List.append_nil]
    exact ev_some _
  | succ c ih =>
    intro o hc ho
    refine ev_succ ?_
    have e1 : ((c + 1 : Nat) : Int) - 1 = (c : Int) := by omega
    have h1 : (c : Int) ≥ 0 := by omega
    have h2 : wrap64 (8 * (c : Int)) = ((8 * c : Nat) : Int) := by rw [w64 (by omega) (by omega)]; omega
    have h3 : (0 : Int) ≤ ((8 * c : Nat) : Int) := by omega
    have h4 : o.length < 140737488355328 := by omega
    have h5 : wrap64 ((c : Int) - 1) = (c : Int) - 1 := w64 (by omega) (by omega)
    have h6 : shr .i64 (n : Int) ((8 * c : Nat) : Int) % 256 = ((n / 256 ^ c % 256 : Nat) : Int) := by
      unfold shr
      rw [Int.toNat_natCast, show min (8 * c) IntKind.i64.bits = 8 * c from Nat.min_eq_left (by simp [IntKind.bits]; omega), Nat.pow_mul' 2 8 c |> fun e => show (2 : Int) ^ (8 * c) = ((256 ^ c : Nat) : Int) by rw [Int.pow_mul]; simp]
      omega
    have h7 : bits .xor .u8 ((n / 256 ^ c % 256 : Nat) : Int) (if t = true then 255 else 0) = if t = true then 255 - ((n / 256 ^ c % 256 : Nat) : Int) else ((n / 256 ^ c % 256 : Nat) : Int) := by
      cases t with
      | true => simp only [if_true]; exact xor_255 _ (by omega) (by omega)
      | false => simp only [Bool.false_eq_true, if_false]; exact xor0 _ (by omega) (by omega)
    simp only [impl_addBytes.l0.eq_2, e1, h1, h2, h3, h4, h5, h6, h7, if_true]
    have := ih (o ++ [if t = true then 255 - ((n / 256 ^ c % 256 : Nat) : Int) else ((n / 256 ^ c % 256 : Nat) : Int)]) (by omega) (by simp only [List.length_append, List.length_cons, List.length_nil]; omega)
    rw [List.append_assoc] at this
    exact this
theorem impl_addBytes_ev (o : List Int) (n : Nat) (c : Nat) (t : Bool) (τ : Int) (hτ : τ = if t = true then 255 else 0) (hc : c ≤ 7) (ho : o.length ≤ 140737480000000) :
    Ev (fun k => impl_addBytes.f k o (n : Int) (c : Int) τ) (o ++ (beB n c).map fun x => if t = true then 255 - x else x) := by
  subst hτ
  unfold impl_addBytes.f
  rw [w64 (by omega) (by omega)]
  exact impl_addBytes_l0 n t c o hc (by omega)
attribute [local irreducible] impl_addBytes.f

theorem impl_clamp_eq (n lo hi : Int) : impl_clamp.f n lo hi = some (clampN n lo hi) := rfl
attribute [local irreducible] impl_clamp.f

theorem impl_addFix_ev (l : List Int) (n : Int) (h : l.length ≤ 140737480000000) : Ev (fun k => impl_addFix.f k l n) (l ++ fixB n) := by
  unfold impl_addFix.f
  have hc := clampN_spec n (-2147483648) 2147483647 (by omega)
  simp only [impl_clamp_eq, Option.bind_some]
  have e : wrap64 (clampN n (-2147483648) 2147483647 + 2147483648) = (((clampN n (-2147483648) 2147483647 + 2147483648).toNat : Nat) : Int) := by rw [w64 (by omega) (by omega)]; omega
  rw [e]
  have := impl_addBytes_ev l (clampN n (-2147483648) 2147483647 + 2147483648).toNat 4 false 0 rfl (by omega) h
  have e2 : (beB (clampN n (-2147483648) 2147483647 + 2147483648).toNat 4).map (fun x : Int => if false = true then 255 - x else x) = fixB n := by
    unfold fixB
    simp only [beB, List.map_cons, List.map_nil, Bool.false_eq_true, if_false, List.cons.injEq, and_true, Nat.pow_zero, Nat.pow_one]
    omega
  rw [e2] at this
  exact Ev.bind this (ev_some _)
attribute [local irreducible] impl_addFix.f

theorem impl_bytesOf_l0 (n : Nat) : ∀ c : Nat, c + n ≤ 4611686018427387904 → Ev (fun k => impl_bytesOf.l0 k (n : Int) (c : Int)) ((c + nB n : Nat) : Int) := by
  induction n using Nat.strongRecOn with
  | _ n ih =>
    intro c hc
    refine ev_succ ?_
    by_cases h : n = 0
    · subst h
      have h1 : ¬ (((0 : Nat) : Int) > 0) := by decide
      simp only [impl_bytesOf.l0.eq_2, h1, if_false, nB_zero, Nat.add_zero]
      exact ev_some _
    · have h1 : (n : Int) > 0 := by omega
      have h2 : wrap64 ((c : Int) + 1) = ((c + 1 : Nat) : Int) := wsucc (by omega)
      have h3 : (n : Int) / 256 = ((n / 256 : Nat) : Int) := by omega
      simp only [impl_bytesOf.l0.eq_2, h1, if_true, h2, h3]
      have := ih (n / 256) (by omega) (c + 1) (by omega)
      rw [nB_pos h, show c + (nB (n / 256) + 1) = c + 1 + nB (n / 256) by omega]
      exact this
theorem impl_bytesOf_ev (n : Nat) (h : n ≤ 4611686018427387904) : Ev (fun k => impl_bytesOf.f k (n : Int)) ((nB n : Nat) : Int) := by
  unfold impl_bytesOf.f
  simpa using impl_bytesOf_l0 n 0 (by omega)
attribute [local irreducible] impl_bytesOf.f

theorem impl_addVar_ev (l : List Int) (n : Int) (h : l.length ≤ 140737470000000) : Ev (fun k => impl_addVar.f k l n) (l ++ varB n) := by
  unfold impl_addVar.f
  have hc := varN_spec n
  simp only [impl_clamp_eq, Option.bind_some, show clampN n (-1000000000000000) 1000000000000000 = varN n from rfl]
  unfold varB
  simp only
  by_cases h0 : 0 ≤ varN n
  · have h0' : varN n ≥ 0 := h0
    rw [if_pos h0]
    simp only [h0', if_true]
    obtain ⟨m, hm⟩ := Int.eq_ofNat_of_zero_le h0
    rw [hm] at hc ⊢
    simp only [Int.toNat_natCast]
    have h7 := nB_7 (n := m) (by omega)
    refine Ev.bind (impl_bytesOf_ev m (by omega)) ?_
    have h1 : l.length < 140737488355328 := by omega
    have e : wrap64 (128 + ((nB m : Nat) : Int)) % 256 = 128 + (nB m : Int) := by rw [w64 (by omega) (by omega)]; omega
    simp only [h1, if_true, e]
    have := impl_addBytes_ev (l ++ [128 + (nB m : Int)]) m (nB m) false 0 rfl h7 (by simp only [List.length_append, List.length_cons, List.length_nil]; omega)
    simp only [Bool.false_eq_true, if_false, List.map_id'] at this
    rw [List.append_assoc] at this
    exact Ev.bind this (ev_some _)
  · have h0' : ¬ (varN n ≥ 0) := h0
    rw [if_neg h0]
    simp only [h0', if_false]
    have e0 : wrap64 (-1 - varN n) = (((-1 - varN n).toNat : Nat) : Int) := by rw [w64 (by omega) (by omega)]; omega
    rw [e0]
    have hm : (-1 - varN n).toNat ≤ 1000000000000000 := by omega
    generalize (-1 - varN n).toNat = m at hm
    have h7 := nB_7 (n := m) (by omega)
    refine Ev.bind (impl_bytesOf_ev m (by omega)) ?_
    have h1 : l.length < 140737488355328 := by omega
    have e : wrap64 (127 - ((nB m : Nat) : Int)) % 256 = 127 - (nB m : Int) := by rw [w64 (by omega) (by omega)]; omega
    simp only [h1, if_true, e]
    have := impl_addBytes_ev (l ++ [127 - (nB m : Int)]) m (nB m) true 255 rfl h7 (by simp only [List.length_append, List.length_cons, List.length_nil]; omega)
    simp only [if_true] at this
    rw [List.append_assoc] at this
    exact Ev.bind this (ev_some _)
attribute [local irreducible] impl_addVar.f

theorem impl_addEsc_l0 (s : ByteArray) (hs : s.size ≤ 1048576) : ∀ i : Nat, i ≤ s.size → ∀ o : List Int, o.length + 2 * (s.size - i) + 2 < 140737488355328 →
    Ev (fun k => impl_addEsc.l0 k o s (i : Int)) (o ++ escB ((bytesOf s).drop i)) := by
  refine up_ind s.size (fun i : Nat => ∀ o : List Int, o.length + 2 * (s.size - i) + 2 < 140737488355328 → Ev (fun k => impl_addEsc.l0 k o s (i : Int)) (o ++ escB ((bytesOf s).drop i))) ?_ ?_
  · intro o ho
    refine ev_succ ?_
    have h1 : ¬ ((s.size : Int) < (s.size : Int)) := by omega
    have h2 : o.length + ([0, 1] : List Int).length < 140737488355328 := by simp only [List.length_cons, List.length_nil]; omega
    simp only [impl_addEsc.l0.eq_2, h1, if_false, Option.bind_some, h2, if_true]
    rw [List.drop_eq_nil_of_le (by rw [bytesOf_len]; omega)]
    exact ev_some _
  · intro i hi ih o ho
    refine ev_succ ?_
    have hib : i < (bytesOf s).length := by rw [bytesOf_len]; exact hi
    have h1 : (i : Int) < (s.size : Int) := by omega
    have h2 : (0 : Int) ≤ (i : Int) := by omega
    have h3 : o.length < 140737488355328 := by omega
    have h4 : (o ++ [(bytesOf s)[i]]).length < 140737488355328 := by simp only [List.length_append, List.length_cons, List.length_nil]; omega
    simp only [impl_addEsc.l0.eq_2, h1, h2, h3, h4, if_true, Option.bind_some, bt_get s i hi, wsucc (show i < 9223372036854775807 by omega)]
    rw [List.drop_eq_getElem_cons hib]
    by_cases hz : (bytesOf s)[i] = 0
    · have := ih (o ++ [(bytesOf s)[i]] ++ [255]) (by simp only [List.length_append, List.length_cons, List.length_nil]; omega)
      rw [escB, if_pos hz]
      rw [List.append_assoc, List.append_assoc] at this
      simp only [hz, if_true]
      rw [hz] at this
      simpa using this
    · have := ih (o ++ [(bytesOf s)[i]]) (by simp only [List.length_append, List.length_cons, List.length_nil]; omega)
      rw [escB, if_neg hz]
      rw [List.append_assoc] at this
      simp only [hz, if_false]
      exact this
theorem impl_addEsc_ev (l : List Int) (s : ByteArray) (h : l.length ≤ 140737480000000) (hs : s.size ≤ 1048576) : Ev (fun k => impl_addEsc.f k l s) (l ++ escB (bytesOf s)) := by
  unfold impl_addEsc.f
  simpa using impl_addEsc_l0 s hs 0 (by omega) l (by omega)
attribute [local irreducible] impl_addEsc.f

theorem flipB_behind (l x : List Int) : flipB (l ++ x) (l.length : Int) = l ++ turnL x := flipB_at l x
theorem impl_addPart_j2 (l h : List Int) (hl : l.length + h.length ≤ 140737460000000) (hb : IsB l) (hh : IsB h) (c t : Int) (null desc : Bool) (k n : Int) (s : ByteArray) (hs : s.size ≤ 30) :
    Ev (fun j => impl_addPart.j2 j (l ++ h) (l.length : Int) c t null desc k n s) (l ++ turnB desc (h ++ valB k n s)) := by
  refine ev_succ ?_
  have hll : (l ++ h).length ≤ 140737460000000 := by rw [List.length_append]; omega
  have hv := valB_len k n s hs
  have tail : ∀ v : List Int, valB k n s = v → Ev (fun j => if desc = true then (impl_Flip.f j (l ++ h ++ v) (l.length : Int)).bind fun t => some t else some (l ++ h ++ v)) (l ++ turnB desc (h ++ v)) := by
    intro v hvv
    cases desc with
    | false => simp only [Bool.false_eq_true, if_false, turnB, List.append_assoc]; exact ev_some _
    | true =>
      simp only [if_true, turnB]
      have hib : IsB (l ++ h ++ v) := (hb.append hh).append (by rw [← hvv]; exact valB_isB k n s)
      have e := flipB_behind l (h ++ v)
      rw [← e, ← List.append_assoc]
      exact Ev.bind (impl_Flip_ev _ _ (by rw [List.length_append]; rw [hvv] at hv; omega) hib) (ev_some _)
  simp only [impl_addPart.j2.eq_2]
  by_cases k1 : k = 1
  · have e : valB k n s = fixB n := by unfold valB; rw [if_pos k1]
    simp only [k1, if_true]
    rw [k1] at e
    rw [e]
    refine Ev.bind (impl_addFix_ev (l ++ h) n (by omega)) ?_
    exact tail _ (by rw [k1]; exact e)
  by_cases k2 : k = 2
  · have e : valB k n s = varB n := by unfold valB; rw [if_neg k1, if_pos k2]
    simp only [k1, if_false]
    simp only [k2, if_true]
    rw [k2] at e
    rw [e]
    refine Ev.bind (impl_addVar_ev (l ++ h) n (by omega)) ?_
    exact tail _ (by rw [k2]; exact e)
  by_cases k3 : k = 3
  · have e : valB k n s = escB (bytesOf s) := by unfold valB; rw [if_neg k1, if_neg k2, if_pos k3]
    simp only [k1, k2, if_false]
    simp only [k3, if_true]
    rw [k3] at e
    rw [e]
    refine Ev.bind (impl_addEsc_ev (l ++ h) s (by omega) (by omega)) ?_
    exact tail _ (by rw [k3]; exact e)
  by_cases k4 : k = 4
  · have e : valB k n s = [n % 256] := by unfold valB; rw [if_neg k1, if_neg k2, if_neg k3, if_pos k4]
    have h1 : (l ++ h).length < 140737488355328 := by omega
    simp only [k1, k2, k3, if_false]
    simp only [k4, if_true, h1, Option.bind_some]
    rw [k4] at e
    rw [e]
    exact tail _ (by rw [k4]; exact e)
  · have e : valB k n s = [] := by unfold valB; rw [if_neg k1, if_neg k2, if_neg k3, if_neg k4]
    simp only [k1, k2, k3, k4, if_false, e]
    have := tail [] e
    simpa using this
theorem impl_addPart_ev (l : List Int) (hl : l.length ≤ 140737450000000) (hb : IsB l) (c t : Int) (null desc : Bool) (k n : Int) (s : ByteArray) :
    Ev (fun j => impl_addPart.f j l c t null desc k n s) (l ++ putPart c t null desc k n s) := by
  unfold impl_addPart.f
  simp only [impl_PartOk_eq, impl_Fits_eq, Option.bind_some]
  by_cases hok : okPV c t null k n s = true
  · have h2 := hok
    unfold okPV at h2
    rw [Bool.and_eq_true] at h2
    have hs := okPV_size hok
    have e : putPart c t null desc k n s = turnB desc (bareB null k n s) := by unfold putPart partB; rw [if_pos hok]
    rw [e]
    simp only [h2.1, h2.2, if_true, Bool.not_true]
    refine ev_succ ?_
    have hlt : l.length < 140737488355328 := by omega
    simp only [impl_addPart.j0.eq_2, Bool.false_eq_true, if_false]
    unfold bareB
    cases hn : null with
    | false =>
      simp only [Bool.false_eq_true, if_false]
      refine ev_succ ?_
      simp only [impl_addPart.j1.eq_2, Bool.false_eq_true, if_false]
      have := impl_addPart_j2 l [] (by simp only [List.length_nil]; omega) hb IsB.nil c t false desc k n s hs
      simpa [headB] using this
    | true =>
      simp only [if_true]
      refine ev_succ ?_
      by_cases hk : k = 0
      · have hk' : (k == 0) = true := by simp [hk]
        simp only [impl_addPart.j1.eq_2, hk', if_true, hlt]
        have := impl_addPart_j2 l [0] (by simp only [List.length_cons, List.length_nil]; omega) hb (IsB.cons (by omega) (by omega) IsB.nil) c t true desc k n s hs
        simpa [headB, hk] using this
      · have hk' : (k == 0) = false := by simp [hk]
        simp only [impl_addPart.j1.eq_2, hk', Bool.false_eq_true, if_false, if_true, hlt]
        have := impl_addPart_j2 l [1] (by simp only [List.length_cons, List.length_nil]; omega) hb (IsB.cons (by omega) (by omega) IsB.nil) c t true desc k n s hs
        simpa [headB, hk] using this
  · have e : putPart c t null desc k n s = [] := by unfold putPart; rw [if_neg hok]
    rw [e, List.append_nil]
    unfold okPV at hok
    cases hp : partOkB c t with
    | false =>
      simp only [Bool.false_eq_true, if_false]
      refine ev_succ ?_
      simp only [impl_addPart.j0.eq_2, if_true]
      exact ev_some _
    | true =>
      rw [hp, Bool.true_and] at hok
      have hf : fitsB t null k n s = false := by simpa using hok
      simp only [if_true, hf, Bool.not_false]
      refine ev_succ ?_
      simp only [impl_addPart.j0.eq_2, if_true]
      exact ev_some _
attribute [local irreducible] impl_addPart.f

theorem impl_EncodeKey_l0 (l : List S30) (vs : List S32) (hl : vs.length ≤ l.length) (h6 : l.length ≤ 6) (hw : ∀ v ∈ vs, -9223372036854775808 ≤ v.f1 ∧ v.f1 ≤ 9223372036854775807) : ∀ i : Nat, i ≤ vs.length → ∀ out : List Int, IsB out → out.length ≤ 63 * i →
    Ev (fun k => impl_EncodeKey.l0 k l out vs (vs.length : Int) (i : Int)) (out ++ keyB (l.drop i) (vs.drop i)) := by
  refine up_ind vs.length (fun i : Nat => ∀ out : List Int, IsB out → out.length ≤ 63 * i → Ev (fun k => impl_EncodeKey.l0 k l out vs (vs.length : Int) (i : Int)) (out ++ keyB (l.drop i) (vs.drop i))) ?_ ?_
  · intro out hb ho
    refine ev_succ ?_
    have h1 : ¬ ((vs.length : Int) < (vs.length : Int)) := by omega
    simp only [impl_EncodeKey.l0.eq_2, h1, if_false]
    rw [List.drop_eq_nil_of_le (Nat.le_refl _), keyB_nil_r, List.append_nil]
    exact ev_some _
  · intro i hi ih out hb ho
    refine ev_succ ?_
    have hil : i < l.length := by omega
    have h1 : (i : Int) < (vs.length : Int) := by omega
    have h2 : (0 : Int) ≤ (i : Int) := by omega
    have h3 : (i : Int) < (l.length : Int) := by omega
    simp only [impl_EncodeKey.l0.eq_2, h1, h2, h3, if_true, rd_T30_nat l i hil, rd_T32_nat vs i hi, wsucc (show i < 9223372036854775807 by omega)]
    rw [List.drop_eq_getElem_cons hil, List.drop_eq_getElem_cons hi, keyB_cons, ← List.append_assoc]
    refine Ev.bind (impl_addPart_ev out (by omega) hb _ _ _ _ _ _ _) ?_
    have hp := ppB_len l[i] vs[i]
    exact ih (out ++ ppB l[i] vs[i]) (hb.append (ppB_isB _ _)) (by rw [List.length_append]; omega)
theorem impl_EncodeKey_ev (l : List S30) (vs : List S32) (hv : vs.length ≤ 9223372036854775807) (hl : l.length ≤ 9223372036854775807) (hw : ∀ v ∈ vs, -9223372036854775808 ≤ v.f1 ∧ v.f1 ≤ 9223372036854775807) : Ev (fun k => impl_EncodeKey.f k l vs) (encKey l vs) := by
  unfold impl_EncodeKey.f encKey
  refine Ev.bind (impl_PlanOk_ev l hl) ?_
  cases hp : planOkB l with
  | false =>
    simp only [Bool.false_eq_true, if_false, Bool.false_and]
    refine ev_succ ?_
    simp only [impl_EncodeKey.j0.eq_2, if_true]
    exact ev_some _
  | true =>
    have h6 := (planOk_len hp).1
    simp only [if_true, Bool.true_and]
    refine Ev.bind (impl_FitsAll_ev l vs hv) ?_
    refine ev_succ ?_
    cases hf : fitsAllB l vs with
    | false =>
      simp only [impl_EncodeKey.j0.eq_2, Bool.not_false, if_true, Bool.false_eq_true, if_false]
      exact ev_some _
    | true =>
      simp only [impl_EncodeKey.j0.eq_2, Bool.not_true, Bool.false_eq_true, if_false, if_true]
      have hle : vs.length ≤ l.length := by
        unfold fitsAllB at hf
        rw [Bool.and_eq_true] at hf
        exact of_decide_eq_true hf.1
      simpa using impl_EncodeKey_l0 l vs hle h6 hw 0 (by omega) [] IsB.nil (by simp)
attribute [local irreducible] impl_EncodeKey.f

theorem impl_LessVal_eq (k n : Int) (s : ByteArray) (k' n' : Int) (s' : ByteArray) : impl_LessVal.f k n s k' n' s' = some (lessVB k n s k' n' s') := by
  unfold impl_LessVal.f lessVB
  split
  · split <;> rfl
  · rfl
attribute [local irreducible] impl_LessVal.f

theorem impl_LessPart_eq (a0 a1 : Int) (a2 a3 : Bool) (k n : Int) (s : ByteArray) (k' n' : Int) (s' : ByteArray) : impl_LessPart.f a0 a1 a2 a3 k n s k' n' s' = some (lessPB a3 k n s k' n' s') := by
  unfold impl_LessPart.f lessPB
  simp only [impl_LessVal_eq, Option.bind_some]
  split <;> rfl
attribute [local irreducible] impl_LessPart.f

theorem impl_LessKey_l0 (l : List S30) (a b : List S32) (ha : a.length ≤ 9223372036854775807) : ∀ i, i ≤ a.length → (i ≤ b.length → Ev (fun k => impl_LessKey.l0 k l a b (i : Int)) (lessKeyB (l.drop i) (a.drop i) (b.drop i))) := by
  refine up_ind a.length (fun i => (i ≤ b.length → Ev (fun k => impl_LessKey.l0 k l a b (i : Int)) (lessKeyB (l.drop i) (a.drop i) (b.drop i)))) ?_ ?_
  · intro hb
    refine ev_succ (ev_succ ?_)
    have h1 : ¬ ((a.length : Int) < (a.length : Int)) := by omega
    simp only [impl_LessKey.l0.eq_2, impl_LessKey.j1.eq_2, h1, if_false, Bool.false_eq_true]
    rw [List.drop_eq_nil_of_le (show a.length ≤ _ by omega)]
    have : lessKeyB (l.drop a.length) [] (b.drop a.length) = decide ((a.length : Int) < (b.length : Int)) := by
      unfold lessKeyB
      rw [List.length_drop]
      apply decide_eq_decide.2
      omega
    rw [this]
    exact ev_some _
  · intro i hi ih hb
    refine ev_succ (ev_succ ?_)
    have h1 : (i : Int) < (a.length : Int) := by omega
    have h2 : (0 : Int) ≤ (i : Int) := by omega
    by_cases hib : i < b.length
    · have h3 : (i : Int) < (b.length : Int) := by omega
      simp only [impl_LessKey.l0.eq_2, impl_LessKey.j1.eq_2, h1, h2, h3, if_true, decide_true, rd_T32_nat a i hi, rd_T32_nat b i hib, sameV_not, wsucc (show i < 9223372036854775807 by omega)]
      rw [List.drop_eq_getElem_cons hi, List.drop_eq_getElem_cons hib]
      have hk : lessKeyB (l.drop i) (a[i] :: a.drop (i + 1)) (b[i] :: b.drop (i + 1)) = if sameV a[i] b[i] = true then lessKeyB (l.drop (i + 1)) (a.drop (i + 1)) (b.drop (i + 1)) else lessAt (l.drop i) a[i] b[i] := by
        rw [lessKeyB, List.tail_drop]
        rfl
      rw [hk]
      cases hp : sameV a[i] b[i]
      · simp only [hp, Bool.not_false, Bool.false_eq_true, if_true, if_false]
        by_cases hil : i < l.length
        · have h4 : (i : Int) < (l.length : Int) := by omega
          simp only [h4, if_true, rd_T30_nat l i hil, impl_LessPart_eq, Option.bind_some]
          rw [List.drop_eq_getElem_cons hil]
          exact ev_some _
        · have h4 : ¬ ((i : Int) < (l.length : Int)) := by omega
          simp only [h4, if_false]
          rw [List.drop_eq_nil_of_le (show l.length ≤ _ by omega)]
          exact ev_some _
      · simp only [hp, Bool.not_true, Bool.false_eq_true, if_true, if_false]
        exact ih (by omega)
    · have h3 : ¬ ((i : Int) < (b.length : Int)) := by omega
      simp only [impl_LessKey.l0.eq_2, impl_LessKey.j1.eq_2, h1, h3, if_true, if_false, decide_false, Bool.false_eq_true]
      rw [List.drop_eq_getElem_cons hi, List.drop_eq_nil_of_le (show b.length ≤ _ by omega)]
      have h4 : decide ((a.length : Int) < (b.length : Int)) = false := by apply decide_eq_false; omega
      rw [h4]
      simpa [lessKeyB] using ev_some false
theorem impl_LessKey_ev (l : List S30) (a b : List S32) (ha : a.length ≤ 9223372036854775807) : Ev (fun k => impl_LessKey.f k l a b) (lessKeyB l a b) := by
  unfold impl_LessKey.f
  simpa using impl_LessKey_l0 l a b ha 0 (by omega) (by omega)
attribute [local irreducible] impl_LessKey.f

theorem spec_l1New_l0 (l : List Int) (hl : l.length ≤ 1048576) : ∀ i : Nat, i ≤ l.length → ∀ h : Int, ∃ r : Int, Ev (fun k => spec_l1New.l0 k l h (i : Int)) (l, 0, r) := by
  refine up_ind l.length (fun i : Nat => ∀ h : Int, ∃ r : Int, Ev (fun k => spec_l1New.l0 k l h (i : Int)) (l, 0, r)) ?_ ?_
  · intro h
    refine ⟨h, ev_succ ?_⟩
    have h1 : ¬ ((l.length : Int) < (l.length : Int)) := by omega
    simp only [spec_l1New.l0.eq_2, h1, if_false]
    exact ev_some _
  · intro i hi ih h
    have h1 : (i : Int) < (l.length : Int) := by omega
    have h2 : (0 : Int) ≤ (i : Int) := by omega
    by_cases h4 : (i : Int) < 4000
    · obtain ⟨r, hr⟩ := ih (Go.bits .and .i64 (wrap64 ((wrap64 ((wrap64 (h * 137)) + (wrap64 (rd l (i : Int))))) + 11)) 1073741823)
      refine ⟨r, ev_succ ?_⟩
      simp only [spec_l1New.l0.eq_2, h1, h2, h4, if_true, wsucc (show i < 9223372036854775807 by omega)]
      exact hr
    · refine ⟨h, ev_succ ?_⟩
      simp only [spec_l1New.l0.eq_2, h1, h4, if_true, if_false]
      exact ev_some _
theorem spec_l1New_ev (l : List Int) (hl : l.length ≤ 1048576) : ∃ r : Int, Ev (fun k => spec_l1New.f k l) (l, 0, r) := by
  unfold spec_l1New.f
  exact spec_l1New_l0 l hl 0 (by omega) _
/-- Where a reader of draws stands. -/
def Cur (l : List Int) (i : Int) : Prop := 0 ≤ i ∧ i ≤ l.length
theorem Cur.start (l : List Int) : Cur l 0 := ⟨by omega, by omega⟩
attribute [local irreducible] spec_l1New.f

theorem spec_l1Byte_ok (l : List Int) (hl : l.length ≤ 1048576) (i h : Int) (hc : Cur l i) : ∃ x i' h' : Int, spec_l1Byte.f l i h = some (x, i', h') ∧ 0 ≤ x ∧ x ≤ 255 ∧ Cur l i' := by
  unfold spec_l1Byte.f
  obtain ⟨c0, c1⟩ := hc
  by_cases h1 : i < (l.length : Int)
  · rw [if_pos h1, if_pos c0, w64 (x := i + 1) (by omega) (by omega)]
    refine ⟨_, _, _, rfl, ?_, ?_, ?_, ?_⟩
    · rw [and255]; omega
    · rw [and255]; omega
    · omega
    · omega
  · rw [if_neg h1]
    refine ⟨_, _, _, rfl, ?_, ?_, ?_, ?_⟩
    · rw [and255]; omega
    · rw [and255]; omega
    · omega
    · omega
attribute [local irreducible] spec_l1Byte.f

theorem spec_l1Below_ok (l : List Int) (hl : l.length ≤ 1048576) (i h : Int) (hc : Cur l i) (n : Int) : ∃ x i' h' : Int, spec_l1Below.f l i h n = some (x, i', h') ∧ 0 ≤ x ∧ (0 < n → x < n) ∧ (n ≤ 0 → x = 0) ∧ Cur l i' := by
  unfold spec_l1Below.f
  by_cases h0 : n ≤ 0
  · rw [if_pos h0]
    exact ⟨0, i, h, rfl, by omega, by omega, fun _ => rfl, hc⟩
  · rw [if_neg h0]
    have hn : ¬ (n = 0) := by omega
    obtain ⟨x, i1, h1, e1, x0, x1, c1⟩ := spec_l1Byte_ok l hl i h hc
    by_cases h256 : n ≤ 256
    · rw [if_pos h256, e1]
      simp only [Option.bind_some, hn, if_false]
      refine ⟨_, _, _, rfl, ?_, ?_, by omega, c1⟩
      · exact Int.tmod_nonneg _ x0
      · intro hp; exact Int.tmod_lt_of_pos _ hp
    · obtain ⟨y, i2, h2, e2, y0, y1, c2⟩ := spec_l1Byte_ok l hl i1 h1 c1
      obtain ⟨z, i3, h3, e3, z0, z1, c3⟩ := spec_l1Byte_ok l hl i2 h2 c2
      rw [if_neg h256, e1]
      simp only [Option.bind_some, e2, e3, hn, if_false]
      have w1 : wrap64 (x * 65536) = x * 65536 := w64 (by omega) (by omega)
      have w2 : wrap64 (y * 256) = y * 256 := w64 (by omega) (by omega)
      rw [w1, w2]
      clear w1 w2
      have w3 : wrap64 (x * 65536 + y * 256) = x * 65536 + y * 256 := w64 (by omega) (by omega)
      rw [w3]
      clear w3
      have w4 : wrap64 (x * 65536 + y * 256 + z) = x * 65536 + y * 256 + z := w64 (by omega) (by omega)
      rw [w4]
      clear w4
      refine ⟨_, _, _, rfl, ?_, ?_, by omega, c3⟩
      · exact Int.tmod_nonneg _ (by omega)
      · intro hp; exact Int.tmod_lt_of_pos _ hp
attribute [local irreducible] spec_l1Below.f

theorem spec_l1Once_ok (l : List Int) (hl : l.length ≤ 1048576) (i h : Int) (hc : Cur l i) (n : Int) : ∃ (b : Bool) (i' h' : Int), spec_l1Once.f l i h n = some (b, i', h') ∧ Cur l i' := by
  unfold spec_l1Once.f
  obtain ⟨x, i1, h1, e1, x0, x1, _, c1⟩ := spec_l1Below_ok l hl i h hc n
  rw [e1]
  exact ⟨_, _, _, rfl, c1⟩
attribute [local irreducible] spec_l1Once.f

theorem spec_l5Draw_ok (l : List Int) (hl : l.length ≤ 1048576) (i h : Int) (hc : Cur l i) (col : Int) : ∃ (t : Int) (null desc : Bool) (i' h' : Int), spec_l5Draw.f l i h col = some (col, t, null, desc, i', h') ∧ (1 ≤ t ∧ t ≤ 4) ∧ Cur l i' := by
  unfold spec_l5Draw.f
  obtain ⟨x, i1, h1, e1, x0, x1, _, c1⟩ := spec_l1Below_ok l hl i h hc 4
  obtain ⟨b1, i2, h2, e2, c2⟩ := spec_l1Once_ok l hl i1 h1 c1 2
  obtain ⟨b2, i3, h3, e3, c3⟩ := spec_l1Once_ok l hl i2 h2 c2 2
  have x2 := x1 (by omega)
  have w1 : wrap64 (1 + x) = 1 + x := w64 (by omega) (by omega)
  simp only [e1, Option.bind_some, e2, e3, w1]
  exact ⟨1 + x, b1, b2, i3, h3, rfl, by omega, c3⟩
attribute [local irreducible] spec_l5Draw.f

theorem spec_l1Int_ok (l : List Int) (hl : l.length ≤ 1048576) (i h : Int) (hc : Cur l i) (xs : List Int) (hx : 0 < xs.length) : ∃ x i' h' : Int, spec_l1Int.f l i h xs = some (x, i', h') ∧ x ∈ xs ∧ Cur l i' := by
  unfold spec_l1Int.f
  obtain ⟨x, i1, h1, e1, x0, x1, _, c1⟩ := spec_l1Below_ok l hl i h hc (xs.length : Int)
  have hlt := x1 (by omega)
  rw [e1]
  simp only [Option.bind_some, x0, hlt, if_true]
  obtain ⟨j, rfl⟩ := Int.eq_ofNat_of_zero_le x0
  have hj : j < xs.length := by omega
  exact ⟨_, _, _, rfl, by rw [rd_nat xs j hj]; exact List.getElem_mem hj, c1⟩
attribute [local irreducible] spec_l1Int.f

theorem spec_l5Any_ok (l : List Int) (hl : l.length ≤ 1048576) (i h : Int) (hc : Cur l i) : ∃ (c t : Int) (null desc : Bool) (i' h' : Int), spec_l5Any.f l i h = some (c, t, null, desc, i', h') ∧ (-1 ≤ c ∧ c ≤ 10) ∧ (0 ≤ t ∧ t ≤ 5) ∧ Cur l i' := by
  unfold spec_l5Any.f
  obtain ⟨x, i1, h1, e1, x0, x1, _, c1⟩ := spec_l1Below_ok l hl i h hc 3
  obtain ⟨t, null, desc, i2, h2, e2, ht, c2⟩ := spec_l5Draw_ok l hl i1 h1 c1 x
  obtain ⟨y, i3, h3, e3, y0, y1, _, c3⟩ := spec_l1Below_ok l hl i2 h2 c2 12
  have x2 := x1 (by omega)
  simp only [e1, Option.bind_some, e2, e3]
  by_cases q0 : y = 0
  · obtain ⟨c, i4, h4, e4, hm, c4⟩ := spec_l1Int_ok l hl i3 h3 c3 [-1, 9, 10] (by decide)
    simp only [q0, if_true, e4, Option.bind_some]
    refine ⟨c, t, null, desc, i4, h4, rfl, ?_, by omega, c4⟩
    simp only [List.mem_cons, List.not_mem_nil, or_false] at hm
    omega
  by_cases q1 : y = 1
  · obtain ⟨z, i4, h4, e4, z0, z1, _, c4⟩ := spec_l1Below_ok l hl i3 h3 c3 6
    have z2 := z1 (by omega)
    simp only [q1, if_true, show ¬ ((1 : Int) = 0) by decide, if_false, e4, Option.bind_some]
    exact ⟨x, z, null, desc, i4, h4, rfl, by omega, by omega, c4⟩
  · simp only [q0, q1, if_false]
    exact ⟨x, t, null, desc, i3, h3, rfl, by omega, by omega, c3⟩
attribute [local irreducible] spec_l5Any.f

theorem spec_l6Plan_l0 (l : List Int) (hl : l.length ≤ 1048576) : ∀ (m : Nat), m ≤ 3 → ∀ (out : List S30) (i h : Int), Cur l i → out.length + m ≤ 3 →
    ∃ (ps : List S30) (i' h' : Int), Ev (fun k => spec_l6Plan.l0 k out (m : Int) l i h) (out ++ ps, i', h') ∧ ps.length = m ∧ (∀ p ∈ ps, partOkB p.f0 p.f1 = true) ∧ Cur l i' := by
  intro m
  induction m with
  | zero =>
    intro _ out i h hc _
    refine ⟨[], i, h, ev_succ ?_, rfl, fun p hp => (by cases hp), hc⟩
    simp only [spec_l6Plan.l0.eq_2, show ¬ (((0 : Nat) : Int) > 0) by decide, if_false, List.append_nil]
    exact ev_some _
  | succ m ih =>
    intro hm out i h hc ho
    obtain ⟨x, i1, h1, e1, x0, x1, _, c1⟩ := spec_l1Below_ok l hl i h hc 4
    have x2 := x1 (by omega)
    obtain ⟨t, null, desc, i2, h2, e2, ht, c2⟩ := spec_l5Draw_ok l hl i1 h1 c1 x
    obtain ⟨ps, i3, h3, hE, hlen, hok, c3⟩ := ih (by omega) (out ++ [⟨x, t, null, desc⟩]) i2 h2 c2 (by simp; omega)
    refine ⟨⟨x, t, null, desc⟩ :: ps, i3, h3, ev_succ ?_, by simp [hlen], ?_, c3⟩
    · have q1 : ((m + 1 : Nat) : Int) > 0 := by omega
      have q2 : out.length < 5864062014805 := by omega
      have q3 : wrap64 (((m + 1 : Nat) : Int) - 1) = (m : Int) := by rw [w64 (by omega) (by omega)]; omega
      simp only [spec_l6Plan.l0.eq_2, q1, q2, q3, if_true, e1, e2, Option.bind_some]
      rw [List.append_assoc, List.singleton_append] at hE
      exact hE
    · intro p hp
      rcases List.mem_cons.1 hp with rfl | hp
      · unfold partOkB inB
        rw [Bool.and_eq_true]
        exact ⟨decide_eq_true (show 0 ≤ x ∧ x ≤ 9 by omega), decide_eq_true (show 1 ≤ t ∧ t ≤ 4 by omega)⟩
      · exact hok p hp
theorem spec_l6Plan_ev (l : List Int) (hl : l.length ≤ 1048576) (i h : Int) (hc : Cur l i) : ∃ (p : List S30) (i' h' : Int), Ev (fun k => spec_l6Plan.f k l i h) (p, i', h') ∧ planOkB p = true ∧ (1 ≤ p.length ∧ p.length ≤ 3) ∧ Cur l i' := by
  unfold spec_l6Plan.f
  obtain ⟨x, i1, h1, e1, x0, x1, _, c1⟩ := spec_l1Below_ok l hl i h hc 3
  have x2 := x1 (by omega)
  obtain ⟨ps, i2, h2, hE, hlen, hok, c2⟩ := spec_l6Plan_l0 l hl (1 + x).toNat (by omega) [] i1 h1 c1 (by simp only [List.length_nil]; omega)
  rw [show (((1 + x).toNat : Nat) : Int) = 1 + x by omega] at hE
  have w1 : wrap64 (1 + x) = 1 + x := w64 (by omega) (by omega)
  refine ⟨ps, i2, h2, ?_, ?_, by omega, c2⟩
  · simp only [e1, Option.bind_some, w1]
    exact hE
  · unfold planOkB
    rw [Bool.and_eq_true]
    exact ⟨decide_eq_true (by omega), by simpa using hok⟩
attribute [local irreducible] spec_l6Plan.f

theorem spec_l6Any_l0 (l : List Int) (hl : l.length ≤ 1048576) : ∀ (m : Nat) (out : List S30) (i h : Int), Cur l i → out.length ≤ 8 → 8 ≤ out.length + m →
    ∃ (p : List S30) (i' h' : Int), Ev (fun k => spec_l6Any.l0 k out l i h) (p, i', h') ∧ p.length ≤ 8 ∧ Cur l i' := by
  intro m
  induction m with
  | zero =>
    intro out i h hc g1 g2
    obtain ⟨x, i1, h1, e1, x0, x1, _, c1⟩ := spec_l1Below_ok l hl i h hc 2
    have x2 := x1 (by omega)
    have w1 : wrap64 (6 + x) = 6 + x := w64 (by omega) (by omega)
    have q : ¬ ((out.length : Int) < 6 + x) := by omega
    refine ⟨out, i1, h1, ev_succ ?_, g1, c1⟩
    simp only [spec_l6Any.l0.eq_2, e1, Option.bind_some, w1, q, if_false]
    exact ev_some _
  | succ m ih =>
    intro out i h hc g1 g2
    obtain ⟨x, i1, h1, e1, x0, x1, _, c1⟩ := spec_l1Below_ok l hl i h hc 2
    have x2 := x1 (by omega)
    have w1 : wrap64 (6 + x) = 6 + x := w64 (by omega) (by omega)
    by_cases q : (out.length : Int) < 6 + x
    · obtain ⟨t, null, desc, i2, h2, e2, ht, c2⟩ := spec_l5Draw_ok l hl i1 h1 c1 0
      obtain ⟨p, i3, h3, hE, hp, c3⟩ := ih (out ++ [⟨0, t, null, desc⟩]) i2 h2 c2 (by rw [List.length_append, List.length_singleton]; omega) (by rw [List.length_append, List.length_singleton]; omega)
      refine ⟨p, i3, h3, ev_succ ?_, hp, c3⟩
      have q2 : out.length < 5864062014805 := by omega
      simp only [spec_l6Any.l0.eq_2, e1, Option.bind_some, w1, q, q2, if_true, e2]
      exact hE
    · refine ⟨out, i1, h1, ev_succ ?_, g1, c1⟩
      simp only [spec_l6Any.l0.eq_2, e1, Option.bind_some, w1, q, if_false]
      exact ev_some _
theorem spec_l6Any_ev (l : List Int) (hl : l.length ≤ 1048576) (i h : Int) (hc : Cur l i) : ∃ (p : List S30) (i' h' : Int), Ev (fun k => spec_l6Any.f k l i h) (p, i', h') ∧ p.length ≤ 8 ∧ Cur l i' := by
  unfold spec_l6Any.f
  obtain ⟨p, i1, h1, hE, hp, hpl, c1⟩ := spec_l6Plan_ev l hl i h hc
  obtain ⟨x, i2, h2, e2, x0, x1, _, c2⟩ := spec_l1Below_ok l hl i1 h1 c1 12
  by_cases y0 : x = 0
  · obtain ⟨c, t, null, desc, i3, h3, e3, _, _, c3⟩ := spec_l5Any_ok l hl i2 h2 c2
    have q : (0 : Int) < (p.length : Int) := by omega
    refine ⟨p.set 0 ⟨c, t, null, desc⟩, i3, h3, Ev.bind hE ?_, by rw [List.length_set]; omega, c3⟩
    simp only [e2, Option.bind_some, y0, if_true, e3, q]
    exact ev_some _
  by_cases y1 : x = 1
  · obtain ⟨q, i3, h3, hE3, hq, c3⟩ := spec_l6Any_l0 l hl 8 p i2 h2 c2 (by omega) (by omega)
    refine ⟨q, i3, h3, Ev.bind hE ?_, hq, c3⟩
    simp only [e2, Option.bind_some, y1, if_true, if_false, show ¬ ((1 : Int) = 0) by decide]
    exact hE3
  · refine ⟨p, i2, h2, Ev.bind hE ?_, by omega, c2⟩
    simp only [e2, Option.bind_some, y0, y1, if_false]
    exact ev_some _
attribute [local irreducible] spec_l6Any.f

theorem spec_l1Str_ok (l : List Int) (hl : l.length ≤ 1048576) (i h : Int) (hc : Cur l i) (xs : List ByteArray) (hx : 0 < xs.length) : ∃ (x : ByteArray) (i' h' : Int), spec_l1Str.f l i h xs = some (x, i', h') ∧ x ∈ xs ∧ Cur l i' := by
  unfold spec_l1Str.f
  obtain ⟨x, i1, h1, e1, x0, x1, _, c1⟩ := spec_l1Below_ok l hl i h hc (xs.length : Int)
  have hlt := x1 (by omega)
  rw [e1]
  simp only [Option.bind_some, x0, hlt, if_true]
  obtain ⟨j, rfl⟩ := Int.eq_ofNat_of_zero_le x0
  have hj : j < xs.length := by omega
  refine ⟨_, _, _, rfl, ?_, c1⟩
  unfold rdOf
  simp [List.getD_eq_getElem?_getD, hj]
attribute [local irreducible] spec_l1Str.f

theorem spec_l2Text_ok (l : List Int) (hl : l.length ≤ 1048576) (i h : Int) (hc : Cur l i) : ∃ (s : ByteArray) (i' h' : Int), spec_l2Text.f l i h = some (s, i', h') ∧ s.size ≤ 4 ∧ Cur l i' := by
  unfold spec_l2Text.f
  obtain ⟨s, i1, h1, e1, hm, c1⟩ := spec_l1Str_ok l hl i h hc [⟨#[]⟩, ⟨#[97]⟩, ⟨#[98]⟩, ⟨#[97, 98]⟩, ⟨#[0]⟩, ⟨#[97, 0]⟩, ⟨#[0, 255]⟩, ⟨#[255]⟩, ⟨#[119, 111, 114, 100]⟩, ⟨#[122]⟩] (by decide)
  rw [e1]
  refine ⟨s, i1, h1, rfl, ?_, c1⟩
  simp only [List.mem_cons, List.not_mem_nil, or_false] at hm
  rcases hm with h | h | h | h | h | h | h | h | h | h <;> subst h <;> decide
attribute [local irreducible] spec_l2Text.f

theorem isE_empty : isE ⟨#[]⟩ = true := by unfold isE; rw [ByteArray.toList_eq]; rfl
/-- What is drawn of a value: its kind, its number and its text are small, and of a type that there is it fits. -/
theorem spec_l2Of_j0 (l : List Int) (hl : l.length ≤ 1048576) (i h : Int) (hc : Cur l i) (t : Int) (ht : -9223372036854775808 ≤ t ∧ t ≤ 9223372036854775807) (z null : Bool) (hz : z = true → null = true) : ∃ (a n : Int) (s : ByteArray) (i' h' : Int),
    Ev (fun k => spec_l2Of.j0 k t z l i h) (a, n, s, i', h') ∧ (a = t ∨ a = 0) ∧ (-1000000000000000 ≤ n ∧ n ≤ 1000000000000000) ∧ s.size ≤ 4 ∧ (1 ≤ t → t ≤ 4 → fitsB t null a n s = true) ∧ Cur l i' := by
  cases hzz : z with
  | true =>
    refine ⟨0, 0, ⟨#[]⟩, i, h, ev_succ ?_, .inr rfl, by omega, by decide, fun _ _ => ?_, hc⟩
    · simp only [spec_l2Of.j0.eq_2, if_true]; exact ev_some _
    · unfold fitsB valOkB; simp [hz hzz, isE_empty]
  | false =>
    by_cases h1 : t = 1
    · subst h1
      obtain ⟨n, i1, h1, e1, hm, c1⟩ := spec_l1Int_ok l hl i h hc [0, 1, 2, 3, -1, 255, 256, 2147483647, -2147483648] (by decide)
      have hn : -2147483648 ≤ n ∧ n ≤ 2147483647 := by simp only [List.mem_cons, List.not_mem_nil, or_false] at hm; omega
      refine ⟨1, n, ⟨#[]⟩, i1, h1, ev_succ ?_, .inl rfl, by omega, by decide, fun _ _ => ?_, c1⟩
      · simp only [spec_l2Of.j0.eq_2, Bool.false_eq_true, if_false, if_true, e1, Option.bind_some]; exact ev_some _
      · unfold fitsB valOkB inB; simp [hn, isE_empty]
    · by_cases h2 : t = 2
      · subst h2
        obtain ⟨a, i1, h1', e1, a0, a1, _, c1⟩ := spec_l1Below_ok l hl i h hc 100000
        have a2 := a1 (by omega)
        have w1 : wrap64 (-a) = -a := w64 (by omega) (by omega)
        obtain ⟨n, i2, h2, e2, hm, c2⟩ := spec_l1Int_ok l hl i1 h1' c1 [0, 1, -1, 255, 256, -256, -257, 65535, 1000000000000000, -1000000000000000, wrap64 (-a)] (by simp)
        rw [w1] at hm
        have hn : -1000000000000000 ≤ n ∧ n ≤ 1000000000000000 := by simp only [List.mem_cons, List.not_mem_nil, or_false] at hm; omega
        refine ⟨2, n, ⟨#[]⟩, i2, h2, ev_succ ?_, .inl rfl, hn, by decide, fun _ _ => ?_, c2⟩
        · simp only [spec_l2Of.j0.eq_2, Bool.false_eq_true, if_false, h1, if_true, e1, Option.bind_some, e2]; exact ev_some _
        · unfold fitsB valOkB inB; simp [hn, isE_empty]
      · by_cases h3 : t = 3
        · subst h3
          obtain ⟨s, i1, h1', e1, hs, c1⟩ := spec_l2Text_ok l hl i h hc
          refine ⟨3, 0, s, i1, h1', ev_succ ?_, .inl rfl, by omega, hs, fun _ _ => ?_, c1⟩
          · simp only [spec_l2Of.j0.eq_2, Bool.false_eq_true, if_false, h1, h2, if_true, e1, Option.bind_some]; exact ev_some _
          · unfold fitsB valOkB; simp; omega
        · obtain ⟨n, i1, h1', e1, a0, a1, _, c1⟩ := spec_l1Below_ok l hl i h hc 2
          have a2 := a1 (by omega)
          refine ⟨t, n, ⟨#[]⟩, i1, h1', ev_succ ?_, .inl rfl, by omega, by decide, fun t1 t4 => ?_, c1⟩
          · simp only [spec_l2Of.j0.eq_2, Bool.false_eq_true, if_false, h1, h2, h3, e1, Option.bind_some]; exact ev_some _
          · have h4 : t = 4 := by omega
            subst h4
            unfold fitsB valOkB inB; simp [isE_empty]
            omega
theorem spec_l2Of_ev (l : List Int) (hl : l.length ≤ 1048576) (i h : Int) (hc : Cur l i) (t : Int) (ht : -9223372036854775808 ≤ t ∧ t ≤ 9223372036854775807) (null : Bool) : ∃ (a n : Int) (s : ByteArray) (i' h' : Int),
    Ev (fun k => spec_l2Of.f k l i h t null) (a, n, s, i', h') ∧ (a = t ∨ a = 0) ∧ (-1000000000000000 ≤ n ∧ n ≤ 1000000000000000) ∧ s.size ≤ 4 ∧ (1 ≤ t → t ≤ 4 → fitsB t null a n s = true) ∧ Cur l i' := by
  unfold spec_l2Of.f
  cases null with
  | true =>
    obtain ⟨z, i1, h1, e1, c1⟩ := spec_l1Once_ok l hl i h hc 4
    simp only [if_true, e1, Option.bind_some]
    exact spec_l2Of_j0 l hl i1 h1 c1 t ht z true (fun _ => rfl)
  | false =>
    simp only [Bool.false_eq_true, if_false]
    exact spec_l2Of_j0 l hl i h hc t ht false false (fun h => by cases h)
attribute [local irreducible] spec_l2Of.f

theorem spec_l6Vals_l0 (l : List Int) (hl : l.length ≤ 1048576) (p : List S30) (hp : planOkB p = true) : ∀ j : Nat, j ≤ p.length → ∀ (out : List S32) (i h : Int), Cur l i → out.length ≤ j →
    ∃ (vs : List S32) (i' h' : Int), Ev (fun k => spec_l6Vals.l0 k p (p.length : Int) out (j : Int) l i h) (out ++ vs, i', h') ∧ vs.length = p.length - j ∧ FitK (p.drop j) vs ∧ Cur l i' := by
  have h6 := planOk_len hp
  refine up_ind p.length (fun j : Nat => ∀ (out : List S32) (i h : Int), Cur l i → out.length ≤ j → ∃ (vs : List S32) (i' h' : Int), Ev (fun k => spec_l6Vals.l0 k p (p.length : Int) out (j : Int) l i h) (out ++ vs, i', h') ∧ vs.length = p.length - j ∧ FitK (p.drop j) vs ∧ Cur l i') ?_ ?_
  · intro out i h hc ho
    refine ⟨[], i, h, ev_succ ?_, by simp, FitK.nil _, hc⟩
    have h1 : ¬ ((p.length : Int) < (p.length : Int)) := by omega
    simp only [spec_l6Vals.l0.eq_2, h1, if_false, List.append_nil]
    exact ev_some _
  · intro j hj ih out i h hc ho
    have hmem := h6.2 p[j] (List.getElem_mem hj)
    have ht := partOk_t hmem
    obtain ⟨a, n, s, i1, h1, hE, _, _, _, hf, c1⟩ := spec_l2Of_ev l hl i h hc p[j].f1 (by omega) p[j].f2
    obtain ⟨vs, i2, h2, hE2, hlen, hfit, c2⟩ := ih (out ++ [⟨a, n, s⟩]) i1 h1 c1 (by rw [List.length_append]; simp only [List.length_cons, List.length_nil]; omega)
    refine ⟨⟨a, n, s⟩ :: vs, i2, h2, ev_succ ?_, by simp only [List.length_cons]; omega, ?_, c2⟩
    · have q1 : (j : Int) < (p.length : Int) := by omega
      have q2 : (0 : Int) ≤ (j : Int) := by omega
      have q3 : out.length < 4398046511104 := by omega
      simp only [spec_l6Vals.l0.eq_2, q1, q2, q3, if_true, rd_T30_nat p j hj, wsucc (show j < 9223372036854775807 by omega)]
      refine Ev.bind hE ?_
      rw [List.append_assoc, List.singleton_append] at hE2
      exact hE2
    · rw [List.drop_eq_getElem_cons hj]
      refine ⟨?_, hfit⟩
      unfold okV okPV
      rw [Bool.and_eq_true]
      exact ⟨hmem, hf ht.1 ht.2⟩
theorem spec_l6Vals_ev (l : List Int) (hl : l.length ≤ 1048576) (i h : Int) (hc : Cur l i) (p : List S30) (hp : planOkB p = true) : ∃ (vs : List S32) (i' h' : Int), Ev (fun k => spec_l6Vals.f k l i h p (p.length : Int)) (vs, i', h') ∧ vs.length = p.length ∧ FitK p vs ∧ Cur l i' := by
  unfold spec_l6Vals.f
  obtain ⟨vs, i1, h1, hE, hlen, hfit, c1⟩ := spec_l6Vals_l0 l hl p hp 0 (by omega) [] i h hc (by simp)
  exact ⟨vs, i1, h1, by simpa using hE, by omega, by simpa using hfit, c1⟩
attribute [local irreducible] spec_l6Vals.f

theorem spec_l2Draw_ev (l : List Int) (hl : l.length ≤ 1048576) (i h : Int) (hc : Cur l i) : ∃ (a n : Int) (s : ByteArray) (i' h' : Int),
    Ev (fun k => spec_l2Draw.f k l i h) (a, n, s, i', h') ∧ (0 ≤ a ∧ a ≤ 4) ∧ (-1000000000000000 ≤ n ∧ n ≤ 1000000000000000) ∧ s.size ≤ 4 ∧ Cur l i' := by
  unfold spec_l2Draw.f
  obtain ⟨x, i1, h1, e1, x0, x1, _, c1⟩ := spec_l1Below_ok l hl i h hc 4
  have x2 := x1 (by omega)
  have w1 : wrap64 (1 + x) = 1 + x := w64 (by omega) (by omega)
  simp only [e1, Option.bind_some, w1]
  obtain ⟨a, n, s, i2, h2, hE, ha, hn, hs, _, c2⟩ := spec_l2Of_ev l hl i1 h1 c1 (1 + x) (by omega) true
  exact ⟨a, n, s, i2, h2, Ev.bind hE (ev_some _), by omega, hn, hs, c2⟩
attribute [local irreducible] spec_l2Draw.f

theorem spec_l1Num_ok (l : List Int) (hl : l.length ≤ 1048576) (i h : Int) (hc : Cur l i) : ∃ n i' h' : Int, spec_l1Num.f l i h = some (n, i', h') ∧ (-9223372036854775808 ≤ n ∧ n ≤ 9223372036854775807) ∧ Cur l i' := by
  unfold spec_l1Num.f
  obtain ⟨a, i1, h1, e1, a0, a1, _, c1⟩ := spec_l1Below_ok l hl i h hc 100000
  obtain ⟨b, i2, h2, e2, b0, b1, _, c2⟩ := spec_l1Below_ok l hl i1 h1 c1 100000
  have a2 := a1 (by omega)
  have b2 := b1 (by omega)
  simp only [e1, e2, Option.bind_some]
  rw [w64 (x := -b) (by omega) (by omega)]
  obtain ⟨n, i3, h3, e3, hm, c3⟩ := spec_l1Int_ok l hl i2 h2 c2 [0, 1, -1, 63, 127, 128, 255, 256, 65535, 65536, 2147483647, -2147483648, 2147483648, -2147483649, 1000000000000000, -1000000000000000, 1000000000000001, 9223372036854775807, -9223372036854775808, a, -b] (by simp)
  rw [e3]
  refine ⟨n, i3, h3, rfl, ?_, c3⟩
  simp only [List.mem_cons, List.not_mem_nil, or_false] at hm
  omega
attribute [local irreducible] spec_l1Num.f

theorem spec_l2Any_ev (l : List Int) (hl : l.length ≤ 1048576) (i h : Int) (hc : Cur l i) : ∃ (a n : Int) (s : ByteArray) (i' h' : Int),
    Ev (fun k => spec_l2Any.f k l i h) (a, n, s, i', h') ∧ (0 ≤ a ∧ a ≤ 5) ∧ (-9223372036854775808 ≤ n ∧ n ≤ 9223372036854775807) ∧ s.size ≤ 31 ∧ Cur l i' := by
  unfold spec_l2Any.f
  obtain ⟨a, n, s, i1, h1, hE, ha, hn, hs, c1⟩ := spec_l2Draw_ev l hl i h hc
  obtain ⟨x, i2, h2, e2, x0, x1, _, c2⟩ := spec_l1Below_ok l hl i1 h1 c1 10
  by_cases y0 : x = 0
  · obtain ⟨y, i3, h3, e3, z0, z1, _, c3⟩ := spec_l1Below_ok l hl i2 h2 c2 6
    have z2 := z1 (by omega)
    refine ⟨y, n, s, i3, h3, Ev.bind hE ?_, by omega, by omega, by omega, c3⟩
    simp only [e2, Option.bind_some, y0, if_true, e3]
    exact ev_some _
  by_cases y1 : x = 1
  · obtain ⟨m, i3, h3, e3, hm, c3⟩ := spec_l1Num_ok l hl i2 h2 c2
    refine ⟨a, m, s, i3, h3, Ev.bind hE ?_, by omega, hm, by omega, c3⟩
    simp only [e2, Option.bind_some, y0, y1, if_true, if_false, e3, show ¬ ((1 : Int) = 0) by decide]
    exact ev_some _
  by_cases y2 : x = 2
  · obtain ⟨y, i3, h3, e3, z0, z1, _, c3⟩ := spec_l1Below_ok l hl i2 h2 c2 2
    have z2 := z1 (by omega)
    have w1 : wrap64 (30 + y) = 30 + y := w64 (by omega) (by omega)
    refine ⟨a, n, strOfNums (List.replicate (30 + y).toNat 0), i3, h3, Ev.bind hE ?_, by omega, by omega, by rw [strOfNums_size, List.length_replicate]; omega, c3⟩
    have q1 : (0 : Int) ≤ 30 + y := by omega
    have q2 : (30 + y).toNat ≤ 281474976710656 := by omega
    simp only [e2, Option.bind_some, y0, y1, y2, if_true, if_false, e3, w1, q1, q2, show ¬ ((2 : Int) = 0) by decide, show ¬ ((2 : Int) = 1) by decide]
    exact ev_some _
  by_cases y3 : x = 3
  · obtain ⟨t, i3, h3, e3, hm, c3⟩ := spec_l1Str_ok l hl i2 h2 c2 [⟨#[105, 116, 39, 115]⟩, ⟨#[97, 32, 98]⟩, ⟨#[126]⟩, ⟨#[127]⟩] (by decide)
    have ht : t.size ≤ 4 := by
      simp only [List.mem_cons, List.not_mem_nil, or_false] at hm
      rcases hm with h | h | h | h <;> subst h <;> decide
    refine ⟨a, n, t, i3, h3, Ev.bind hE ?_, by omega, by omega, by omega, c3⟩
    simp only [e2, Option.bind_some, y0, y1, y2, y3, if_true, if_false, e3, show ¬ ((3 : Int) = 0) by decide, show ¬ ((3 : Int) = 1) by decide, show ¬ ((3 : Int) = 2) by decide]
    exact ev_some _
  · refine ⟨a, n, s, i2, h2, Ev.bind hE ?_, by omega, by omega, by omega, c2⟩
    simp only [e2, Option.bind_some, y0, y1, y2, y3, if_false]
    exact ev_some _
attribute [local irreducible] spec_l2Any.f

theorem spec_l6Vals_n_l0 (l : List Int) (hl : l.length ≤ 1048576) (p : List S30) (hp : planOkB p = true) (n : Nat) (hn : n ≤ p.length) : ∀ j : Nat, j ≤ n → ∀ (out : List S32) (i h : Int), Cur l i → out.length ≤ j →
    ∃ (vs : List S32) (i' h' : Int), Ev (fun k => spec_l6Vals.l0 k p (n : Int) out (j : Int) l i h) (out ++ vs, i', h') ∧ vs.length = n - j ∧ FitK (p.drop j) vs ∧ Cur l i' := by
  have h6 := planOk_len hp
  refine up_ind n (fun j : Nat => ∀ (out : List S32) (i h : Int), Cur l i → out.length ≤ j → ∃ (vs : List S32) (i' h' : Int), Ev (fun k => spec_l6Vals.l0 k p (n : Int) out (j : Int) l i h) (out ++ vs, i', h') ∧ vs.length = n - j ∧ FitK (p.drop j) vs ∧ Cur l i') ?_ ?_
  · intro out i h hc ho
    refine ⟨[], i, h, ev_succ ?_, by simp, FitK.nil _, hc⟩
    have h1 : ¬ ((n : Int) < (n : Int)) := by omega
    simp only [spec_l6Vals.l0.eq_2, h1, if_false, List.append_nil]
    exact ev_some _
  · intro j hj ih out i h hc ho
    have hjp : j < p.length := by omega
    have hmem := h6.2 p[j] (List.getElem_mem hjp)
    have ht := partOk_t hmem
    obtain ⟨a, m, s, i1, h1, hE, _, _, _, hf, c1⟩ := spec_l2Of_ev l hl i h hc p[j].f1 (by omega) p[j].f2
    obtain ⟨vs, i2, h2, hE2, hlen, hfit, c2⟩ := ih (out ++ [⟨a, m, s⟩]) i1 h1 c1 (by rw [List.length_append]; simp only [List.length_cons, List.length_nil]; omega)
    refine ⟨⟨a, m, s⟩ :: vs, i2, h2, ev_succ ?_, by simp only [List.length_cons]; omega, ?_, c2⟩
    · have q1 : (j : Int) < (n : Int) := by omega
      have q2 : (0 : Int) ≤ (j : Int) := by omega
      have q3 : out.length < 4398046511104 := by omega
      have q4 : (j : Int) < (p.length : Int) := by omega
      simp only [spec_l6Vals.l0.eq_2, q1, q2, q3, q4, if_true, rd_T30_nat p j hjp, wsucc (show j < 9223372036854775807 by omega)]
      refine Ev.bind hE ?_
      rw [List.append_assoc, List.singleton_append] at hE2
      exact hE2
    · rw [List.drop_eq_getElem_cons hjp]
      refine ⟨?_, hfit⟩
      unfold okV okPV
      rw [Bool.and_eq_true]
      exact ⟨hmem, hf ht.1 ht.2⟩
theorem spec_l6Vals_n_ev (l : List Int) (hl : l.length ≤ 1048576) (i h : Int) (hc : Cur l i) (p : List S30) (hp : planOkB p = true) (n : Int) (h0 : 0 ≤ n) (hn : n ≤ (p.length : Int)) : ∃ (vs : List S32) (i' h' : Int), Ev (fun k => spec_l6Vals.f k l i h p n) (vs, i', h') ∧ vs.length ≤ p.length ∧ FitK p vs ∧ Cur l i' := by
  unfold spec_l6Vals.f
  obtain ⟨m, rfl⟩ := Int.eq_ofNat_of_zero_le h0
  obtain ⟨vs, i1, h1, hE, hlen, hfit, c1⟩ := spec_l6Vals_n_l0 l hl p hp m (by omega) 0 (by omega) [] i h hc (by simp)
  exact ⟨vs, i1, h1, by simpa using hE, by omega, by simpa using hfit, c1⟩
def NumV (vs : List S32) : Prop := ∀ v ∈ vs, -9223372036854775808 ≤ v.f1 ∧ v.f1 ≤ 9223372036854775807
theorem NumV.nil : NumV [] := fun v hv => by cases hv
theorem NumV.cons {v : S32} {vs : List S32} (h : -9223372036854775808 ≤ v.f1 ∧ v.f1 ≤ 9223372036854775807) (h2 : NumV vs) : NumV (v :: vs) := fun u hu => by
  rcases List.mem_cons.1 hu with rfl | hu
  · exact h
  · exact h2 u hu
theorem fits_num {t : Int} {null : Bool} {k n : Int} {s : ByteArray} (ht : 1 ≤ t ∧ t ≤ 4) (h : fitsB t null k n s = true) : -9223372036854775808 ≤ n ∧ n ≤ 9223372036854775807 := by
  rcases fits_cases h ht with ⟨_, _, h, _⟩ | ⟨_, ⟨_, h, h', _⟩ | ⟨_, h, h', _⟩ | ⟨_, h, _⟩ | ⟨_, h, h', _⟩⟩ <;> omega
theorem FitK.num : ∀ {l : List S30} {vs : List S32}, FitK l vs → NumV vs
  | _, [], _ => NumV.nil
  | [], _ :: _, h => h.elim
  | p :: l, u :: vs, h => by
    refine NumV.cons ?_ (FitK.num h.2)
    have := h.1
    unfold okV okPV at this
    rw [Bool.and_eq_true] at this
    exact fits_num (partOk_t this.1) this.2
theorem spec_l6Tuple_ev (l : List Int) (hl : l.length ≤ 1048576) (i h : Int) (hc : Cur l i) (p : List S30) (hp : p.length ≤ 8) : ∃ (vs : List S32) (i' h' : Int),
    Ev (fun k => spec_l6Tuple.f k l i h p) (vs, i', h') ∧ vs.length ≤ 8 ∧ NumV vs ∧ Cur l i' := by
  unfold spec_l6Tuple.f
  obtain ⟨b, i1, h1, e1, c1⟩ := spec_l1Once_ok l hl i h hc 10
  simp only [e1, Option.bind_some]
  cases b with
  | true =>
    simp only [if_true]
    obtain ⟨a, n, s, i2, h2, hE, _, hn, _, c2⟩ := spec_l2Any_ev l hl i1 h1 c1
    exact ⟨[⟨a, n, s⟩], i2, h2, Ev.bind hE (ev_some _), by simp, NumV.cons hn NumV.nil, c2⟩
  | false =>
    simp only [Bool.false_eq_true, if_false]
    have eP := spec_PlanOk_ev p (by omega)
    cases hk : planOkB p with
    | true =>
      rw [hk] at eP
      have w1 : wrap64 ((p.length : Int) + 1) = (p.length : Int) + 1 := w64 (by omega) (by omega)
      obtain ⟨x, i2, h2, e2, x0, x1, _, c2⟩ := spec_l1Below_ok l hl i1 h1 c1 ((p.length : Int) + 1)
      have x2 := x1 (by omega)
      obtain ⟨n, i3, h3, e3, hm, c3⟩ := spec_l1Int_ok l hl i2 h2 c2 [(p.length : Int), (p.length : Int), (p.length : Int), x] (by simp)
      simp only [List.mem_cons, List.not_mem_nil, or_false] at hm
      obtain ⟨vs, i4, h4, hE, hlen, hfit, c4⟩ := spec_l6Vals_n_ev l hl i3 h3 c3 p hk n (by omega) (by omega)
      refine ⟨vs, i4, h4, Ev.bind eP ?_, by omega, hfit.num, c4⟩
      simp only [if_true, w1, e2, e3, Option.bind_some]
      exact Ev.bind hE (ev_some _)
    | false =>
      rw [hk] at eP
      obtain ⟨a, n, s, i2, h2, hE, _, hn, _, c2⟩ := spec_l2Draw_ev l hl i1 h1 c1
      obtain ⟨a', n', s', i3, h3, hE', _, hn', _, c3⟩ := spec_l2Draw_ev l hl i2 h2 c2
      refine ⟨[⟨a, n, s⟩, ⟨a', n', s'⟩], i3, h3, Ev.bind eP ?_, by simp, NumV.cons (by dsimp only; omega) (NumV.cons (by dsimp only; omega) NumV.nil), c3⟩
      simp only [Bool.false_eq_true, if_false]
      exact Ev.bind hE (Ev.bind hE' (ev_some _))
attribute [local irreducible] spec_l6Tuple.f

theorem spec_DrawLessKey_ev (l : List Int) (hl : l.length ≤ 1048576) : ∃ (p : List S30) (a b : List S32), Ev (fun k => spec_DrawLessKey.f k l) (p, a, b) ∧ p.length ≤ 8 ∧ a.length ≤ 8 ∧ b.length ≤ 8 ∧ NumV a := by
  unfold spec_DrawLessKey.f
  obtain ⟨r, hr⟩ := spec_l1New_ev l hl
  obtain ⟨p, i1, h1, hE1, hp, c1⟩ := spec_l6Any_ev l hl 0 r (Cur.start l)
  obtain ⟨a, i2, h2, hE2, hla, hna, c2⟩ := spec_l6Tuple_ev l hl i1 h1 c1 p hp
  obtain ⟨b, i3, h3, hE3, hlb, _, c3⟩ := spec_l6Tuple_ev l hl i2 h2 c2 p hp
  exact ⟨p, a, b, Ev.bind hr (Ev.bind hE1 (Ev.bind hE2 (Ev.bind hE3 (ev_some _)))), hp, hla, hlb, hna⟩
attribute [local irreducible] spec_DrawLessKey.f

theorem spec_LessVal_eq (k n : Int) (s : ByteArray) (k' n' : Int) (s' : ByteArray) : spec_LessVal.f k n s k' n' s' = some (lessVB k n s k' n' s') := by
  unfold spec_LessVal.f lessVB
  split
  · split <;> rfl
  · rfl
attribute [local irreducible] spec_LessVal.f

theorem spec_LessPart_eq (a0 a1 : Int) (a2 a3 : Bool) (k n : Int) (s : ByteArray) (k' n' : Int) (s' : ByteArray) : spec_LessPart.f a0 a1 a2 a3 k n s k' n' s' = some (lessPB a3 k n s k' n' s') := by
  unfold spec_LessPart.f lessPB
  simp only [spec_LessVal_eq, Option.bind_some]
  split <;> rfl
attribute [local irreducible] spec_LessPart.f

theorem spec_SameVal_eq (k n : Int) (s : ByteArray) (k' n' : Int) (s' : ByteArray) : spec_SameVal.f k n s k' n' s' = some (sameVB k n s k' n' s') := rfl
attribute [local irreducible] spec_SameVal.f

theorem spec_LessKey_l0 (l : List S30) (a b : List S32) (ha : a.length ≤ 9223372036854775807) : ∀ i, i ≤ a.length → (i ≤ b.length → Ev (fun k => spec_LessKey.l0 k l a b (i : Int)) (lessKeyB (l.drop i) (a.drop i) (b.drop i))) := by
  refine up_ind a.length (fun i => (i ≤ b.length → Ev (fun k => spec_LessKey.l0 k l a b (i : Int)) (lessKeyB (l.drop i) (a.drop i) (b.drop i)))) ?_ ?_
  · intro hb
    refine ev_succ (ev_succ ?_)
    have h1 : ¬ ((a.length : Int) < (a.length : Int)) := by omega
    simp only [spec_LessKey.l0.eq_2, spec_LessKey.j1.eq_2, h1, if_false, Bool.false_eq_true]
    rw [List.drop_eq_nil_of_le (show a.length ≤ _ by omega)]
    have : lessKeyB (l.drop a.length) [] (b.drop a.length) = decide ((a.length : Int) < (b.length : Int)) := by
      unfold lessKeyB
      rw [List.length_drop]
      apply decide_eq_decide.2
      omega
    rw [this]
    exact ev_some _
  · intro i hi ih hb
    refine ev_succ (ev_succ ?_)
    have h1 : (i : Int) < (a.length : Int) := by omega
    have h2 : (0 : Int) ≤ (i : Int) := by omega
    by_cases hib : i < b.length
    · have h3 : (i : Int) < (b.length : Int) := by omega
      simp only [spec_LessKey.l0.eq_2, spec_LessKey.j1.eq_2, h1, h2, h3, if_true, decide_true, rd_T32_nat a i hi, rd_T32_nat b i hib, spec_SameVal_eq, Option.bind_some, wsucc (show i < 9223372036854775807 by omega)]
      rw [List.drop_eq_getElem_cons hi, List.drop_eq_getElem_cons hib]
      have hk : lessKeyB (l.drop i) (a[i] :: a.drop (i + 1)) (b[i] :: b.drop (i + 1)) = if sameV a[i] b[i] = true then lessKeyB (l.drop (i + 1)) (a.drop (i + 1)) (b.drop (i + 1)) else lessAt (l.drop i) a[i] b[i] := by
        rw [lessKeyB, List.tail_drop]
        rfl
      rw [hk]
      cases hp : sameV a[i] b[i]
      · simp only [show sameVB a[i].f0 a[i].f1 a[i].f2 b[i].f0 b[i].f1 b[i].f2 = sameV a[i] b[i] from rfl, hp, Bool.not_false, Bool.false_eq_true, if_true, if_false]
        by_cases hil : i < l.length
        · have h4 : (i : Int) < (l.length : Int) := by omega
          simp only [h4, if_true, rd_T30_nat l i hil, spec_LessPart_eq, Option.bind_some]
          rw [List.drop_eq_getElem_cons hil]
          exact ev_some _
        · have h4 : ¬ ((i : Int) < (l.length : Int)) := by omega
          simp only [h4, if_false]
          rw [List.drop_eq_nil_of_le (show l.length ≤ _ by omega)]
          exact ev_some _
      · simp only [show sameVB a[i].f0 a[i].f1 a[i].f2 b[i].f0 b[i].f1 b[i].f2 = sameV a[i] b[i] from rfl, hp, Bool.not_true, Bool.false_eq_true, if_true, if_false]
        exact ih (by omega)
    · have h3 : ¬ ((i : Int) < (b.length : Int)) := by omega
      simp only [spec_LessKey.l0.eq_2, spec_LessKey.j1.eq_2, h1, h3, if_true, if_false, decide_false, Bool.false_eq_true]
      rw [List.drop_eq_getElem_cons hi, List.drop_eq_nil_of_le (show b.length ≤ _ by omega)]
      have h4 : decide ((a.length : Int) < (b.length : Int)) = false := by apply decide_eq_false; omega
      rw [h4]
      simpa [lessKeyB] using ev_some false
theorem spec_LessKey_ev (l : List S30) (a b : List S32) (ha : a.length ≤ 9223372036854775807) : Ev (fun k => spec_LessKey.f k l a b) (lessKeyB l a b) := by
  unfold spec_LessKey.f
  simpa using spec_LessKey_l0 l a b ha 0 (by omega) (by omega)
attribute [local irreducible] spec_LessKey.f

--import B
--import O
--import K
theorem lessVB_not (k n : Int) (s : ByteArray) (k' n' : Int) (s' : ByteArray) (h : lessVB k n s k' n' s' = true) : lessVB k' n' s' k n s = false := by
  unfold lessVB at h ⊢
  by_cases hk : k = k'
  · subst hk
    rw [if_pos rfl] at h ⊢
    by_cases hn : n = n'
    · subst hn
      rw [if_pos rfl] at h ⊢
      rw [bytesLess_bytesOf] at h ⊢
      exact ltB_asymm _ _ h
    · rw [if_neg hn] at h
      rw [if_neg (fun e => hn e.symm)]
      have := of_decide_eq_true h
      exact decide_eq_false (by omega)
  · rw [if_neg hk] at h
    rw [if_neg (fun e => hk e.symm)]
    have := of_decide_eq_true h
    exact decide_eq_false (by omega)
theorem lessPB_not (d : Bool) (k n : Int) (s : ByteArray) (k' n' : Int) (s' : ByteArray) (h : lessPB d k n s k' n' s' = true) : lessPB d k' n' s' k n s = false := by
  unfold lessPB at h ⊢
  cases d with
  | true =>
    rw [if_pos rfl] at h ⊢
    exact lessVB_not _ _ _ _ _ _ h
  | false =>
    rw [if_neg (by decide)] at h ⊢
    exact lessVB_not _ _ _ _ _ _ h
theorem lessKey_cons_any (l : List S30) (a b : S32) (xs ys : List S32) : lessKeyB l (a :: xs) (b :: ys) = if sameV a b = true then lessKeyB l.tail xs ys else lessAt l a b := by
  rw [lessKeyB]; rfl
theorem lessKey_not : ∀ (l : List S30) (a b : List S32), lessKeyB l a b = true → lessKeyB l b a = false
  | l, [], [], h => by unfold lessKeyB at h; simp at h
  | l, [], _ :: _, _ => by rw [lessKeyB]
  | l, _ :: _, [], h => by rw [lessKeyB] at h; cases h
  | l, a :: xs, b :: ys, h => by
    rw [lessKey_cons_any] at h ⊢
    by_cases hs : sameV a b = true
    · rw [if_pos hs] at h
      rw [if_pos (by rw [sameV_comm]; exact hs)]
      exact lessKey_not l.tail xs ys h
    · rw [if_neg hs] at h
      rw [if_neg (by rw [sameV_comm]; exact hs)]
      cases l with
      | nil => cases h
      | cons p l =>
        unfold lessAt at h ⊢
        exact lessPB_not _ _ _ _ _ _ _ h
theorem lessKey_same : ∀ (l : List S30) (a : List S32), lessKeyB l a a = false
  | l, [] => by unfold lessKeyB; simp
  | l, a :: xs => by rw [lessKey_cons_any, if_pos (sameV_refl a)]; exact lessKey_same l.tail xs
theorem FnLessKeys : laws_FnLessKeys.Pure := by
  intro l0 hm0 hb0 hw0
  refine Ev.rounds ?_
  unfold laws_FnLessKeys.f
  simp only [laws_big_eq, Option.bind_some]
  by_cases hn0 : (l0.length : Int) > 1048576
  · simp only [hn0, decide_true, if_true]; exact ev_some _
  simp only [hn0, decide_false, Bool.false_eq_true, if_false]
  have hl : l0.length ≤ 1048576 := by omega
  obtain ⟨p, a, b, hE, hp, hla, hlb, hna⟩ := spec_DrawLessKey_ev l0 hl
  have eAB := impl_LessKey_ev p a b (by omega)
  have eBA := impl_LessKey_ev p b a (by omega)
  have eAA := impl_LessKey_ev p a a (by omega)
  rw [lessKey_same] at eAA
  have lE := encKey_len p a
  have eE := impl_EncodeKey_ev p a (by omega) (by omega) hna
  have sE := spec_EncodeKey_ev p a (by omega) (by omega) hna
  have sb := laws_sameBytes_ev (encKey p a) (encKey p a) (by omega)
  rw [decide_eq_true rfl] at sb
  refine Ev.bind hE (Ev.bind eAB (Ev.bind eBA (Ev.bind (spec_LessKey_ev p a b (by omega)) ?_)))
  simp only [BEq.rfl, if_true]
  cases h1 : lessKeyB p a b with
  | true =>
    rw [lessKey_not p a b h1]
    simp only [Bool.false_eq_true, if_true, if_false]
    refine Ev.bind eAA ?_
    simp only [Bool.false_eq_true, if_false]
    exact Ev.bind eE (Ev.bind sE (Ev.bind sb (ev_some _)))
  | false =>
    simp only [Bool.false_eq_true, if_false]
    refine Ev.bind eAA ?_
    simp only [Bool.false_eq_true, if_false]
    exact Ev.bind eE (Ev.bind sE (Ev.bind sb (ev_some _)))

end Go.Proofs.Ytnfmpopmigbkoaa.Pure

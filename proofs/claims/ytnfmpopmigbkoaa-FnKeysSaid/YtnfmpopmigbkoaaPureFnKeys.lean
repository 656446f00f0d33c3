/- Two keys of one plan come back of their bytes, whose order is theirs; of unlike ones neither's bytes are the beginning of the other's. No condition. -/
import Derived.Test.YtnfmpopmigbkoaaPFnKeysx12
import Derived.Test.YtnfmpopmigbkoaaUFnKeys
namespace Go.Proofs.Ytnfmpopmigbkoaa.Pure
open Go.RowKit Go.Proofs.Ytnfmpopmigbkoaa.PFnKeys Go.Proofs.YtnfmpopmigbkoaaW.PrintWords Go.Proofs.YtnfmpopmigbkoaaW.PrintLast Go.Proofs.YtnfmpopmigbkoaaW.PrintMore Go.Proofs.YtnfmpopmigbkoaaM
set_option linter.unusedVariables false
set_option linter.unusedSimpArgs false

theorem rd_T30_nat (xs : List S30) (i : Nat) (h : i < xs.length) : rd_T30 xs (i : Int) = xs[i] := by
  unfold rd_T30; simp [List.getD_eq_getElem?_getD, h]
def planOkB (l : List S30) : Bool := decide (l.length ≤ 6) && l.all fun p => partOkB p.f0 p.f1

theorem rd_T32_nat (xs : List S32) (i : Nat) (h : i < xs.length) : rd_T32 xs (i : Int) = xs[i] := by
  unfold rd_T32; simp [List.getD_eq_getElem?_getD, h]
def sameV (a b : S32) : Bool := sameVB a.f0 a.f1 a.f2 b.f0 b.f1 b.f2
theorem sameV_not (a b : S32) : (!(a.f0 == b.f0) || (!(a.f1 == b.f1) || (!(a.f2.toList == b.f2.toList)))) = !sameV a b := by
  unfold sameV sameVB; cases a.f0 == b.f0 <;> cases a.f1 == b.f1 <;> cases a.f2.toList == b.f2.toList <;> rfl
def sameRowB (a b : List S32) : Bool := decide (a.length = b.length) && (a.zip b).all fun q => sameV q.1 q.2

def fitsV (p : S30) (v : S32) : Bool := fitsB p.f1 p.f2 v.f0 v.f1 v.f2
def fitsAllB (l : List S30) (v : List S32) : Bool := decide (v.length ≤ l.length) && (l.zip v).all fun q => fitsV q.1 q.2
def lessAt (l : List S30) (a b : S32) : Bool := match l with
  | [] => false
  | p :: _ => lessPB p.f3 a.f0 a.f1 a.f2 b.f0 b.f1 b.f2
def lessKeyB : List S30 → List S32 → List S32 → Bool
  | l, a :: a2, b :: b2 => if sameVB a.f0 a.f1 a.f2 b.f0 b.f1 b.f2 = true then lessKeyB l.tail a2 b2 else lessAt l a b
  | _, [], b2 => decide (0 < b2.length)
  | _, _ :: _, [] => false
def pickV (row : List S32) (p : S30) : S32 := if inB p.f0 0 ((row.length : Int) - 1) = true then ⟨(rd_T32 row p.f0).f0, (rd_T32 row p.f0).f1, (rd_T32 row p.f0).f2⟩ else ⟨0, 0, ⟨#[]⟩⟩
def pickB (l : List S30) (row : List S32) : List S32 := l.map (pickV row)
def ppB (p : S30) (v : S32) : List Int := putPart p.f0 p.f1 p.f2 p.f3 v.f0 v.f1 v.f2
theorem ppB_len (p : S30) (v : S32) : (ppB p v).length ≤ 63 := putPart_len _ _ _ _ _ _ _
theorem ppB_isB (p : S30) (v : S32) : IsB (ppB p v) := putPart_isB _ _ _ _ _ _ _
/-- a key's bytes -/
def keyB : List S30 → List S32 → List Int
  | p :: l, v :: vs => ppB p v ++ keyB l vs
  | _, _ => []
theorem keyB_nil_r (l : List S30) : keyB l [] = [] := by cases l <;> rfl
theorem keyB_cons (p : S30) (l : List S30) (v : S32) (vs : List S32) : keyB (p :: l) (v :: vs) = ppB p v ++ keyB l vs := rfl
theorem keyB_isB : ∀ (l : List S30) (vs : List S32), IsB (keyB l vs)
  | _, [] => by rw [keyB_nil_r]; exact IsB.nil
  | [], _ :: _ => IsB.nil
  | p :: l, v :: vs => (ppB_isB p v).append (keyB_isB l vs)
theorem keyB_len : ∀ (l : List S30) (vs : List S32), (keyB l vs).length ≤ 63 * l.length
  | l, [] => by rw [keyB_nil_r]; simp
  | [], _ :: _ => by simp [keyB]
  | p :: l, v :: vs => by
    have h1 := keyB_len l vs
    have h2 := ppB_len p v
    rw [keyB_cons, List.length_append, List.length_cons]
    omega
def encKey (l : List S30) (v : List S32) : List Int := if (planOkB l && fitsAllB l v) = true then keyB l v else []
theorem encKey_isB (l : List S30) (v : List S32) : IsB (encKey l v) := by
  unfold encKey; split
  · exact keyB_isB l v
  · exact IsB.nil
theorem planOk_len {l : List S30} (h : planOkB l = true) : l.length ≤ 6 ∧ ∀ p ∈ l, partOkB p.f0 p.f1 = true := by
  unfold planOkB at h
  rw [Bool.and_eq_true] at h
  exact ⟨of_decide_eq_true h.1, by simpa using h.2⟩
theorem encKey_len (l : List S30) (v : List S32) : (encKey l v).length ≤ 378 := by
  unfold encKey; split
  · rename_i h
    rw [Bool.and_eq_true] at h
    have := (planOk_len h.1).1
    have := keyB_len l v
    omega
  · simp
/-- what is read of bytes as a key's values, from a place on -/
def gpB (b : List Int) (p : S30) (i : Int) : Int × Int × ByteArray × Int × Bool := getPart b p.f0 p.f1 p.f2 p.f3 i
def gpV (r : Int × Int × ByteArray × Int × Bool) : S32 := ⟨r.1, r.2.1, r.2.2.1⟩
def decL : List S30 → List Int → Int → Option (List S32 × Int)
  | [], _, i => some ([], i)
  | p :: l, b, i => if (gpB b p i).2.2.2.2 = true then (match decL l b (gpB b p i).2.2.2.1 with
    | some r => some (gpV (gpB b p i) :: r.1, r.2)
    | none => none) else none
def decR (b : List Int) (out : List S32) : Option (List S32 × Int) → List S32 × Bool
  | some r => if r.2 = (b.length : Int) then (out ++ r.1, true) else ([], false)
  | none => ([], false)
def decKey (l : List S30) (b : List Int) : List S32 × Bool := if planOkB l = true then decR b [] (decL l b 0) else ([], false)
theorem decL_len : ∀ (l : List S30) (b : List Int) (i : Int) (r : List S32 × Int), decL l b i = some r → r.1.length = l.length
  | [], b, i, r, h => by
    obtain rfl := Option.some.inj h
    rfl
  | p :: l, b, i, r, h => by
    rw [decL] at h
    split at h
    · split at h
      · rename_i q hq
        obtain rfl := Option.some.inj h
        simp only [List.length_cons, decL_len l b _ q hq]
      · cases h
    · cases h
theorem decKey_len (l : List S30) (b : List Int) : (decKey l b).1.length ≤ l.length := by
  unfold decKey decR
  split
  · split
    · rename_i r hr
      split
      · simp only [List.nil_append, decL_len l b 0 r hr]; omega
      · simp
    · simp
  · simp
theorem decR_cons (b : List Int) (out : List S32) (p : S30) (l : List S30) (i : Int) (h : (gpB b p i).2.2.2.2 = true) : decR b out (decL (p :: l) b i) = decR b (out ++ [gpV (gpB b p i)]) (decL l b (gpB b p i).2.2.2.1) := by
  rw [decL, if_pos h]
  cases decL l b (gpB b p i).2.2.2.1 with
  | none => rfl
  | some r => simp only [decR, List.append_assoc, List.singleton_append]
theorem decR_none (b : List Int) (out : List S32) (p : S30) (l : List S30) (i : Int) (h : ¬ (gpB b p i).2.2.2.2 = true) : decR b out (decL (p :: l) b i) = ([], false) := by
  rw [decL, if_neg h]; rfl


/-! ### keys in order -/
theorem str_ext {s t : ByteArray} (h : s.toList = t.toList) : s = t := by
  have := (str_eq_iff s t).1 h
  rw [← strOfNums_bytesOf s, this, strOfNums_bytesOf]
theorem sameV_eq {a b : S32} (h : sameV a b = true) : a = b := by
  obtain ⟨k, n, s⟩ := a
  obtain ⟨k', n', s'⟩ := b
  unfold sameV sameVB at h
  simp only [Bool.and_eq_true, beq_iff_eq] at h
  obtain ⟨h1, h2, h3⟩ := h
  rw [h1, h2, str_ext h3]
theorem sameV_refl (a : S32) : sameV a a = true := by unfold sameV sameVB; simp
theorem sameRow_cons (a b : S32) (xs ys : List S32) : sameRowB (a :: xs) (b :: ys) = (sameV a b && sameRowB xs ys) := by
  unfold sameRowB
  rw [List.zip_cons_cons, List.all_cons]
  simp only [List.length_cons, Nat.add_right_cancel_iff]
  cases decide (xs.length = ys.length) <;> cases sameV a b <;> simp
theorem sameRow_iff : ∀ a b : List S32, sameRowB a b = true ↔ a = b
  | [], [] => by simp [sameRowB]
  | [], b :: ys => by simp [sameRowB]
  | a :: xs, [] => by simp [sameRowB]
  | a :: xs, b :: ys => by
    rw [sameRow_cons, Bool.and_eq_true, sameRow_iff xs ys, List.cons.injEq]
    constructor
    · rintro ⟨h1, h2⟩; exact ⟨sameV_eq h1, h2⟩
    · rintro ⟨h1, h2⟩; exact ⟨by rw [h1]; exact sameV_refl b, h2⟩
def okV (p : S30) (v : S32) : Bool := okPV p.f0 p.f1 p.f2 v.f0 v.f1 v.f2
def FitK : List S30 → List S32 → Prop
  | _, [] => True
  | [], _ :: _ => False
  | p :: l, v :: vs => okV p v = true ∧ FitK l vs
theorem FitK.nil (l : List S30) : FitK l [] := by cases l <;> trivial
theorem fitsAll_cons (p : S30) (l : List S30) (v : S32) (vs : List S32) : fitsAllB (p :: l) (v :: vs) = (fitsV p v && fitsAllB l vs) := by
  unfold fitsAllB
  rw [List.zip_cons_cons, List.all_cons]
  simp only [List.length_cons, Nat.add_le_add_iff_right]
  cases decide (vs.length ≤ l.length) <;> cases fitsV p v <;> simp
theorem FitK.fits : ∀ {l : List S30} {vs : List S32}, FitK l vs → fitsAllB l vs = true
  | l, [], _ => by unfold fitsAllB; simp
  | [], _ :: _, h => h.elim
  | p :: l, v :: vs, h => by
    rw [fitsAll_cons, Bool.and_eq_true]
    refine ⟨?_, FitK.fits h.2⟩
    have := h.1
    unfold okV okPV at this
    rw [Bool.and_eq_true] at this
    exact this.2
theorem FitK.take : ∀ {l : List S30} {vs : List S32} (n : Nat), FitK l vs → FitK l (vs.take n)
  | l, vs, 0, _ => by rw [List.take_zero]; exact FitK.nil l
  | l, [], n + 1, _ => by simpa using FitK.nil l
  | [], _ :: _, n + 1, h => h.elim
  | p :: l, v :: vs, n + 1, h => ⟨h.1, FitK.take n h.2⟩
theorem enc_fit {l : List S30} {vs : List S32} (hp : planOkB l = true) (h : FitK l vs) : encKey l vs = keyB l vs := by
  unfold encKey
  rw [hp, h.fits]
  rfl
/-- what is put of a key comes back -/
theorem dec_key : ∀ (l : List S30) (vs : List S32) (b r : List Int), IsB b → IsB r → FitK l vs → vs.length = l.length → decL l (b ++ keyB l vs ++ r) (b.length : Int) = some (vs, ((b ++ keyB l vs).length : Int))
  | [], [], b, r, hb, hr, _, _ => by
    rw [keyB_nil_r, List.append_nil]; rfl
  | [], _ :: _, _, _, _, _, h, _ => h.elim
  | _ :: _, [], _, _, _, _, _, h => by simp at h
  | p :: l, v :: vs, b, r, hb, hr, h, hl => by
    have hg : gpB (b ++ keyB (p :: l) (v :: vs) ++ r) p (b.length : Int) = (v.f0, v.f1, v.f2, ((b ++ ppB p v).length : Int), true) := by
      have := getPart_putPart b (keyB l vs ++ r) hb ((keyB_isB l vs).append hr) (desc := p.f3) h.1
      rw [keyB_cons]
      unfold gpB
      rw [show b ++ (ppB p v ++ keyB l vs) ++ r = b ++ ppB p v ++ (keyB l vs ++ r) by simp only [List.append_assoc]]
      exact this
    rw [decL, hg]
    have ih := dec_key l vs (b ++ ppB p v) r (hb.append (ppB_isB p v)) hr h.2 (by simpa using hl)
    rw [show b ++ ppB p v ++ keyB l vs ++ r = b ++ keyB (p :: l) (v :: vs) ++ r by rw [keyB_cons]; simp only [List.append_assoc]] at ih
    simp only [if_true]
    rw [ih]
    simp only [gpV, keyB_cons, List.append_assoc]
theorem dec_enc {l : List S30} {vs : List S32} (hp : planOkB l = true) (h : FitK l vs) (hl : vs.length = l.length) : decKey l (encKey l vs) = (vs, true) := by
  rw [enc_fit hp h]
  have := dec_key l vs [] [] IsB.nil IsB.nil h hl
  simp only [List.nil_append, List.append_nil, List.length_nil, Int.natCast_zero] at this
  unfold decKey
  rw [if_pos hp, this]
  simp [decR]
/-- values of a part in their order -/
theorem bare_lt {t : Int} {null : Bool} {k n : Int} {s : ByteArray} {k' n' : Int} {s' : ByteArray} (ht : 1 ≤ t ∧ t ≤ 4) (h1 : fitsB t null k n s = true) (h2 : fitsB t null k' n' s' = true)
    (h : lessVB k n s k' n' s' = true) : Lt (bareB null k n s) (bareB null k' n' s') := by
  unfold lessVB at h
  rcases fits_cases h1 ht with ⟨hn, k0, n0, s0⟩ | ⟨hk, hv⟩
  · rcases fits_cases h2 ht with ⟨_, k0', n0', s0'⟩ | ⟨hk', hv'⟩
    · subst k0; subst n0; subst s0; subst k0'; subst n0'; subst s0'
      simp only [if_true] at h
      rw [bytesLess_bytesOf, ltB_self] at h
      cases h
    · unfold bareB headB
      subst hn
      rw [if_pos rfl, if_pos rfl, if_pos k0, if_neg (show ¬ k' = 0 by omega)]
      exact Lt.head (by omega) _ _
  · rcases fits_cases h2 ht with ⟨hn, k0', n0', s0'⟩ | ⟨hk', hv'⟩
    · rw [if_neg (by omega)] at h
      have := of_decide_eq_true h
      omega
    · have hkk : k = k' := by omega
      subst hkk
      rw [if_pos rfl] at h
      unfold bareB
      refine Lt.left ?_ _
      rcases hv with ⟨q, a0, a1, sa⟩ | ⟨q, a0, a1, sa⟩ | ⟨q, a0, a1⟩ | ⟨q, a0, a1, sa⟩
      · rcases hv' with ⟨_, b0, b1, sb⟩ | ⟨q', _⟩ | ⟨q', _⟩ | ⟨q', _⟩
        · subst sa; subst sb
          by_cases hnn : n = n'
          · rw [if_pos hnn, bytesLess_bytesOf, ltB_self] at h; cases h
          · rw [if_neg hnn] at h
            have := of_decide_eq_true h
            unfold valB
            rw [if_pos q, if_pos q]
            refine fixB_lt ?_
            rw [(clampN_spec n (-2147483648) 2147483647 (by omega)).2.2.1 a0 a1, (clampN_spec n' (-2147483648) 2147483647 (by omega)).2.2.1 b0 b1]
            exact this
        all_goals omega
      · rcases hv' with ⟨q', _⟩ | ⟨_, b0, b1, sb⟩ | ⟨q', _⟩ | ⟨q', _⟩
        · omega
        · subst sa; subst sb
          by_cases hnn : n = n'
          · rw [if_pos hnn, bytesLess_bytesOf, ltB_self] at h; cases h
          · rw [if_neg hnn] at h
            have := of_decide_eq_true h
            unfold valB
            rw [if_neg (by omega), if_pos q, if_neg (by omega), if_pos q]
            refine varB_lt ?_
            unfold varN
            rw [(clampN_spec n (-1000000000000000) 1000000000000000 (by omega)).2.2.1 a0 a1, (clampN_spec n' (-1000000000000000) 1000000000000000 (by omega)).2.2.1 b0 b1]
            exact this
        all_goals omega
      · rcases hv' with ⟨q', _⟩ | ⟨q', _⟩ | ⟨_, b0, b1⟩ | ⟨q', _⟩
        · omega
        · omega
        · rw [if_pos (by omega), bytesLess_bytesOf] at h
          unfold valB
          rw [if_neg (by omega), if_neg (by omega), if_pos q, if_neg (by omega), if_neg (by omega), if_pos q]
          exact escB_lt (bytesOf_isB s) (bytesOf_isB s') h
        · omega
      · rcases hv' with ⟨q', _⟩ | ⟨q', _⟩ | ⟨q', _⟩ | ⟨_, b0, b1, sb⟩
        · omega
        · omega
        · omega
        · subst sa; subst sb
          by_cases hnn : n = n'
          · rw [if_pos hnn, bytesLess_bytesOf, ltB_self] at h; cases h
          · rw [if_neg hnn] at h
            have := of_decide_eq_true h
            unfold valB
            rw [if_neg (by omega), if_neg (by omega), if_neg (by omega), if_pos q, if_neg (by omega), if_neg (by omega), if_neg (by omega), if_pos q]
            exact Lt.head (by omega) _ _
theorem pp_lt {p : S30} {a b : S32} (ha : okV p a = true) (hb : okV p b = true) (h : lessPB p.f3 a.f0 a.f1 a.f2 b.f0 b.f1 b.f2 = true) : Lt (ppB p a) (ppB p b) := by
  have ha' := ha
  have hb' := hb
  unfold okV okPV at ha' hb'
  rw [Bool.and_eq_true] at ha' hb'
  have ht := partOk_t ha'.1
  have e1 : ppB p a = turnB p.f3 (bareB p.f2 a.f0 a.f1 a.f2) := by unfold ppB putPart partB; exact if_pos ha
  have e2 : ppB p b = turnB p.f3 (bareB p.f2 b.f0 b.f1 b.f2) := by unfold ppB putPart partB; exact if_pos hb
  rw [e1, e2]
  unfold lessPB at h
  unfold turnB
  cases hd : p.f3 with
  | false =>
    rw [hd, if_neg (by decide)] at h
    rw [if_neg (by decide), if_neg (by decide)]
    exact bare_lt ht ha'.2 hb'.2 h
  | true =>
    rw [hd, if_pos rfl] at h
    rw [if_pos rfl, if_pos rfl]
    exact (bare_lt ht hb'.2 ha'.2 h).turn
theorem bytesLess_tri' (s t : ByteArray) : s.toList = t.toList ∨ Op.bytesLess s.toList t.toList = true ∨ Op.bytesLess t.toList s.toList = true := by
  rw [bytesLess_bytesOf, bytesLess_bytesOf]
  by_cases h : bytesOf s = bytesOf t
  · exact .inl ((str_eq_iff s t).2 h)
  · exact .inr (ltB_total _ _ h)
theorem lessV_tri (a b : S32) : sameV a b = true ∨ lessVB a.f0 a.f1 a.f2 b.f0 b.f1 b.f2 = true ∨ lessVB b.f0 b.f1 b.f2 a.f0 a.f1 a.f2 = true := by
  unfold sameV sameVB lessVB
  by_cases hk : a.f0 = b.f0
  · by_cases hn : a.f1 = b.f1
    · rcases bytesLess_tri' a.f2 b.f2 with h | h | h
      · exact .inl (by simp [hk, hn, h])
      · exact .inr (.inl (by rw [if_pos hk, if_pos hn]; exact h))
      · exact .inr (.inr (by rw [if_pos hk.symm, if_pos hn.symm]; exact h))
    · by_cases h : a.f1 < b.f1
      · exact .inr (.inl (by rw [if_pos hk, if_neg hn]; exact decide_eq_true h))
      · exact .inr (.inr (by rw [if_pos hk.symm, if_neg (fun e => hn e.symm)]; exact decide_eq_true (by omega)))
  · by_cases h : a.f0 < b.f0
    · exact .inr (.inl (by rw [if_neg hk]; exact decide_eq_true h))
    · exact .inr (.inr (by rw [if_neg (fun e => hk e.symm)]; exact decide_eq_true (by omega)))
theorem sameV_comm (a b : S32) : sameV a b = sameV b a := by
  cases h : sameV a b with
  | true => rw [sameV_eq h, sameV_refl]
  | false =>
    cases h2 : sameV b a with
    | true => rw [sameV_eq h2, sameV_refl] at h; cases h
    | false => rfl
theorem lessKey_cons (p : S30) (l : List S30) (a b : S32) (xs ys : List S32) : lessKeyB (p :: l) (a :: xs) (b :: ys) = if sameV a b = true then lessKeyB l xs ys else lessPB p.f3 a.f0 a.f1 a.f2 b.f0 b.f1 b.f2 := by
  rw [lessKeyB]; rfl
/-- a key that is less has bytes that are less -/
theorem key_lt : ∀ (l : List S30) (a b : List S32), FitK l a → FitK l b → a.length = b.length → lessKeyB l a b = true → Lt (keyB l a) (keyB l b)
  | l, [], [], _, _, _, h => by unfold lessKeyB at h; simp at h
  | _, [], _ :: _, _, _, hl, _ => by simp at hl
  | _, _ :: _, [], _, _, hl, _ => by simp at hl
  | [], _ :: _, _ :: _, ha, _, _, _ => ha.elim
  | p :: l, a :: xs, b :: ys, ha, hb, hl, h => by
    rw [lessKey_cons] at h
    rw [keyB_cons, keyB_cons]
    by_cases hs : sameV a b = true
    · rw [if_pos hs] at h
      rw [sameV_eq hs]
      exact (key_lt l xs ys ha.2 hb.2 (by simpa using hl) h).left _
    · rw [if_neg hs] at h
      exact (pp_lt ha.1 hb.1 h).append _ _
theorem key_tri : ∀ (l : List S30) (a b : List S32), FitK l a → FitK l b → a.length = b.length → a = b ∨ lessKeyB l a b = true ∨ lessKeyB l b a = true
  | _, [], [], _, _, _ => .inl rfl
  | _, [], _ :: _, _, _, hl => by simp at hl
  | _, _ :: _, [], _, _, hl => by simp at hl
  | [], _ :: _, _ :: _, ha, _, _ => ha.elim
  | p :: l, a :: xs, b :: ys, ha, hb, hl => by
    rw [lessKey_cons, lessKey_cons]
    by_cases hs : sameV a b = true
    · rw [if_pos hs, if_pos (by rw [sameV_comm]; exact hs), sameV_eq hs]
      rcases key_tri l xs ys ha.2 hb.2 (by simpa using hl) with h | h | h
      · exact .inl (by rw [h])
      · exact .inr (.inl h)
      · exact .inr (.inr h)
    · rw [if_neg hs, if_neg (by rw [sameV_comm]; exact hs)]
      unfold lessPB
      rcases lessV_tri a b with h | h | h
      · exact absurd h hs
      · cases p.f3
        · exact .inr (.inl (by rw [if_neg (by decide)]; exact h))
        · exact .inr (.inr (by rw [if_pos rfl]; exact h))
      · cases p.f3
        · exact .inr (.inr (by rw [if_neg (by decide)]; exact h))
        · exact .inr (.inl (by rw [if_pos rfl]; exact h))
theorem lessKey_asymm {l : List S30} {a b : List S32} (ha : FitK l a) (hb : FitK l b) (hl : a.length = b.length) (h : lessKeyB l a b = true) : lessKeyB l b a = false := by
  cases h2 : lessKeyB l b a with
  | false => rfl
  | true =>
    have q1 := (key_lt l a b ha hb hl h).ltB
    have q2 := (key_lt l b a hb ha hl.symm h2).ltB'
    rw [q1] at q2; cases q2
theorem lessKey_self : ∀ (l : List S30) (a : List S32), FitK l a → lessKeyB l a a = false
  | l, [], _ => by unfold lessKeyB; simp
  | [], _ :: _, h => h.elim
  | p :: l, a :: xs, h => by rw [lessKey_cons, if_pos (sameV_refl a)]; exact lessKey_self l xs h.2

theorem laws_big_eq (l : List Int) : laws_big.f l = some (decide ((l.length : Int) > 1048576)) := rfl
attribute [local irreducible] laws_big.f

theorem laws_sameBytes_l0 (a b : List Int) (he : a.length = b.length) (h : a.length ≤ 9223372036854775806) : ∀ i : Nat, i ≤ a.length → Ev (fun k => laws_sameBytes.l0 k a b (i : Int)) (decide (a.drop i = b.drop i)) := by
  refine up_ind a.length (fun i : Nat => Ev (fun k => laws_sameBytes.l0 k a b (i : Int)) (decide (a.drop i = b.drop i))) ?_ ?_
  · refine ev_succ ?_
    have h1 : ¬ ((a.length : Int) < (a.length : Int)) := by omega
    simp only [laws_sameBytes.l0.eq_2, h1, if_false]
    rw [decide_eq_true (by rw [List.drop_eq_nil_of_le (Nat.le_refl _), List.drop_eq_nil_of_le (by omega)])]
    exact ev_some _
  · intro i hi ih
    refine ev_succ ?_
    have hib : i < b.length := by omega
    have h1 : (i : Int) < (a.length : Int) := by omega
    have h2 : (0 : Int) ≤ (i : Int) := by omega
    have h3 : (i : Int) < (b.length : Int) := by omega
    simp only [laws_sameBytes.l0.eq_2, h1, h2, h3, if_true, rd_nat a i hi, rd_nat b i hib, wsucc (show i < 9223372036854775807 by omega)]
    rw [List.drop_eq_getElem_cons hi, List.drop_eq_getElem_cons hib]
    by_cases hv : a[i] = b[i]
    · simp only [hv, if_true, List.cons.injEq, true_and]
      exact ih
    · simp only [hv, if_false, List.cons.injEq, false_and, decide_false]
      exact ev_some _
theorem laws_sameBytes_ev (a b : List Int) (h : a.length ≤ 9223372036854775806) : Ev (fun k => laws_sameBytes.f k a b) (decide (a = b)) := by
  unfold laws_sameBytes.f
  by_cases he : a.length = b.length
  · have h1 : (a.length : Int) = (b.length : Int) := by omega
    simp only [h1, if_true]
    simpa using laws_sameBytes_l0 a b he h 0 (by omega)
  · have h1 : ¬ ((a.length : Int) = (b.length : Int)) := by omega
    simp only [h1, if_false]
    rw [decide_eq_false (fun e => he (by rw [e]))]
    exact ev_some _
attribute [local irreducible] laws_sameBytes.f

theorem impl_in_eq (a b c : Int) : impl_in.f a b c = some (inB a b c) := in_ite a b c
attribute [local irreducible] impl_in.f

theorem impl_PartOk_eq (a0 a1 : Int) (a2 a3 : Bool) : impl_PartOk.f a0 a1 a2 a3 = some (partOkB a0 a1) := by
  unfold impl_PartOk.f partOkB
  simp only [impl_in_eq, Option.bind_some]
  cases inB a0 0 9 <;> simp
attribute [local irreducible] impl_PartOk.f

theorem impl_PlanOk_l0 (l : List S30) (h : l.length ≤ 9223372036854775807) : ∀ i, i ≤ l.length → (i ≤ 6 → Ev (fun k => impl_PlanOk.l0 k l (l.length : Int) (i : Int)) (decide (l.length ≤ 6) && (l.drop i).all fun p => partOkB p.f0 p.f1)) := by
  refine up_ind l.length (fun i => (i ≤ 6 → Ev (fun k => impl_PlanOk.l0 k l (l.length : Int) (i : Int)) (decide (l.length ≤ 6) && (l.drop i).all fun p => partOkB p.f0 p.f1))) ?_ ?_
  · intro h6
    refine ev_succ ?_
    have h1 : ¬ ((l.length : Int) < (l.length : Int)) := by omega
    simp only [impl_PlanOk.l0.eq_2, h1, if_false]
    rw [List.drop_eq_nil_of_le (by omega), decide_eq_true h6]
    simpa using ev_some _
  · intro i hi ih h6
    refine ev_succ ?_
    have h1 : (i : Int) < (l.length : Int) := by omega
    have h2 : (0 : Int) ≤ (i : Int) := by omega
    by_cases h7 : i = 6
    · have h8 : (i : Int) ≥ 6 := by omega
      simp only [impl_PlanOk.l0.eq_2, h1, h2, h8, if_true]
      rw [show decide (l.length ≤ 6) = false by apply decide_eq_false; omega]
      simpa using ev_some _
    · have h8 : ¬ ((i : Int) ≥ 6) := by omega
      simp only [impl_PlanOk.l0.eq_2, h1, h2, h8, if_true, if_false, rd_T30_nat l i hi, impl_PartOk_eq, Option.bind_some, wsucc (show i < 9223372036854775807 by omega)]
      rw [List.drop_eq_getElem_cons hi, List.all_cons]
      cases hp : partOkB l[i].f0 l[i].f1
      · simpa using ev_some _
      · simpa using ih (by omega)
theorem impl_PlanOk_ev (l : List S30) (h : l.length ≤ 9223372036854775807) : Ev (fun k => impl_PlanOk.f k l) (planOkB l) := by
  unfold impl_PlanOk.f planOkB
  simpa using impl_PlanOk_l0 l h 0 (by omega) (by omega)
attribute [local irreducible] impl_PlanOk.f

theorem impl_ValOk_eq (k n : Int) (s : ByteArray) : impl_ValOk.f k n s = some (valOkB k n s) := by
  unfold impl_ValOk.f valOkB isE
  simp only [impl_in_eq, Option.bind_some]
  by_cases h0 : k = 0
  · simp only [h0, if_true]; by_cases hn : n = 0 <;> simp [hn]
  simp only [h0, if_false]
  by_cases h1 : k = 1
  · simp only [h1, if_true]; cases inB n (-2147483648) 2147483647 <;> simp
  simp only [h1, if_false]
  by_cases h2 : k = 2
  · simp only [h2, if_true]; cases inB n (-1000000000000000) 1000000000000000 <;> simp
  simp only [h2, if_false]
  by_cases h3 : k = 3
  · simp only [h3, if_true]; by_cases hn : n = 0 <;> by_cases hs : (s.size : Int) ≤ 30 <;> simp [hn, hs]
  simp only [h3, if_false]
  by_cases h4 : k = 4
  · simp only [h4, if_true]; cases inB n 0 1 <;> simp
  simp only [h4, if_false]
attribute [local irreducible] impl_ValOk.f

theorem impl_Fits_eq (a0 t : Int) (null a3 : Bool) (k n : Int) (s : ByteArray) : impl_Fits.f a0 t null a3 k n s = some (fitsB t null k n s) := by
  unfold impl_Fits.f fitsB
  simp only [impl_ValOk_eq, Option.bind_some]
  cases valOkB k n s
  · simp
  · simp only [if_true, Bool.true_and]
    by_cases h1 : k = t
    · rw [if_pos h1]
      by_cases h0 : k = 0
      · rw [if_pos h0, if_pos h0]
      · rw [if_neg h0, if_neg h0]; simp [h1]
    · rw [if_neg h1]
      by_cases h0 : k = 0
      · rw [if_pos h0, if_pos h0]
      · rw [if_neg h0, if_neg h0]; simp [h1]
attribute [local irreducible] impl_Fits.f

theorem impl_FitsAll_l0 (l : List S30) (v : List S32) (h : v.length ≤ l.length) (hl : v.length ≤ 9223372036854775807) : ∀ i, i ≤ v.length → Ev (fun k => impl_FitsAll.l0 k l v (v.length : Int) (i : Int)) (((l.drop i).zip (v.drop i)).all fun q => fitsV q.1 q.2) := by
  refine up_ind v.length (fun i => Ev (fun k => impl_FitsAll.l0 k l v (v.length : Int) (i : Int)) (((l.drop i).zip (v.drop i)).all fun q => fitsV q.1 q.2)) ?_ ?_
  · refine ev_succ ?_
    have h1 : ¬ ((v.length : Int) < (v.length : Int)) := by omega
    simp only [impl_FitsAll.l0.eq_2, h1, if_false]
    rw [List.drop_eq_nil_of_le (show v.length ≤ _ by omega)]
    simpa using ev_some _
  · intro i hi ih
    refine ev_succ ?_
    have h1 : (i : Int) < (v.length : Int) := by omega
    have h2 : (0 : Int) ≤ (i : Int) := by omega
    have h3 : (i : Int) < (l.length : Int) := by omega
    have hil : i < l.length := by omega
    simp only [impl_FitsAll.l0.eq_2, h1, h2, h3, if_true, rd_T30_nat l i hil, rd_T32_nat v i hi, impl_Fits_eq, Option.bind_some, wsucc (show i < 9223372036854775807 by omega)]
    rw [List.drop_eq_getElem_cons hi, List.drop_eq_getElem_cons hil, List.zip_cons_cons, List.all_cons]
    cases hp : fitsB l[i].f1 l[i].f2 v[i].f0 v[i].f1 v[i].f2
    · simpa [fitsV, hp] using ev_some _
    · simpa [fitsV, hp] using ih
theorem impl_FitsAll_ev (l : List S30) (v : List S32) (hl : v.length ≤ 9223372036854775807) : Ev (fun k => impl_FitsAll.f k l v) (fitsAllB l v) := by
  unfold impl_FitsAll.f fitsAllB
  by_cases h : v.length ≤ l.length
  · have h1 : ¬ ((v.length : Int) > (l.length : Int)) := by omega
    simp only [h1, if_false, decide_eq_true h, Bool.true_and]
    simpa using impl_FitsAll_l0 l v h hl 0 (by omega)
  · have h1 : (v.length : Int) > (l.length : Int) := by omega
    simp only [h1, if_true, decide_eq_false h, Bool.false_and]
    exact ev_some _
attribute [local irreducible] impl_FitsAll.f

theorem impl_copyBytes_eq (l : List Int) (h : l.length < 140737488355328) : impl_copyBytes.f l = some l := by
  unfold impl_copyBytes.f
  simp only [List.length_nil, Nat.zero_add, List.nil_append]
  rw [if_pos h]
attribute [local irreducible] impl_copyBytes.f

theorem impl_Flip_l0 (l : List Int) (hl : l.length ≤ 140737480000000) (hb : IsB l) (p : Nat) : ∀ i : Nat, i ≤ l.length → p ≤ i → ∀ xs : List Int, xs.length = l.length → xs.drop i = l.drop i →
    Ev (fun k => impl_Flip.l0 k xs (i : Int)) (xs.take i ++ (l.drop i).map fun x => 255 - x) := by
  refine up_ind l.length (fun i : Nat => p ≤ i → ∀ xs : List Int, xs.length = l.length → xs.drop i = l.drop i → Ev (fun k => impl_Flip.l0 k xs (i : Int)) (xs.take i ++ (l.drop i).map fun x => 255 - x)) ?_ ?_
  · intro _ xs hx _
    refine ev_succ ?_
    have h1 : ¬ ((l.length : Int) < (xs.length : Int)) := by omega
    simp only [impl_Flip.l0.eq_2, h1, if_false]
    rw [List.take_of_length_le (by omega), List.drop_eq_nil_of_le (by omega), List.map_nil, List.append_nil]
    exact ev_some _
  · intro i hi ih hp xs hx he
    refine ev_succ ?_
    have hxi : i < xs.length := by omega
    have h1 : (i : Int) < (xs.length : Int) := by omega
    have h2 : (0 : Int) ≤ (i : Int) := by omega
    have h3 : xs[i] = l[i] := by
      have := congrArg (fun l => l[0]?) he
      simp only [List.getElem?_drop, Nat.add_zero] at this
      rw [List.getElem?_eq_getElem hxi, List.getElem?_eq_getElem hi] at this
      exact Option.some.inj this
    obtain ⟨g0, g1⟩ := hb.get i hi
    simp only [impl_Flip.l0.eq_2, h1, h2, if_true, Int.toNat_natCast, rd_nat xs i hxi, h3, xor255 l[i] g0 g1, wsucc (show i < 9223372036854775807 by omega)]
    have := ih (by omega) (xs.set i (255 - l[i])) (by simp [hx]) (by
      rw [List.drop_set_of_lt (by omega)]
      have := congrArg (List.drop 1) he
      simpa [List.drop_drop, Nat.add_comm] using this)
    rw [take_set_succ _ _ _ hxi, List.append_assoc] at this
    rw [List.drop_eq_getElem_cons hi]
    exact this
theorem impl_Flip_ev (l : List Int) (p : Int) (hl : l.length ≤ 140737480000000) (hb : IsB l) : Ev (fun k => impl_Flip.f k l p) (flipB l p) := by
  unfold impl_Flip.f
  simp only [impl_copyBytes_eq l (by omega), Option.bind_some]
  have e : mx p 0 = ((p.toNat : Nat) : Int) := by unfold mx; split <;> omega
  rw [e]
  by_cases hp : p.toNat ≤ l.length
  · exact impl_Flip_l0 l hl hb p.toNat p.toNat hp (Nat.le_refl _) l rfl rfl
  · refine ev_succ ?_
    have h1 : ¬ (((p.toNat : Nat) : Int) < (l.length : Int)) := by omega
    simp only [impl_Flip.l0.eq_2, h1, if_false]
    unfold flipB
    rw [List.take_of_length_le (by omega), List.drop_eq_nil_of_le (by omega), List.map_nil, List.append_nil]
    exact ev_some _
attribute [local irreducible] impl_Flip.f

theorem impl_addBytes_l0 (n : Nat) (t : Bool) (c : Nat) : ∀ o : List Int, c ≤ 7 → o.length + c < 140737488355328 →
    Ev (fun k => impl_addBytes.l0 k o (n : Int) (if t = true then 255 else 0) ((c : Int) - 1)) (o ++ (beB n c).map fun x => if t = true then 255 - x else x) := by
  induction c with
  | zero =>
    intro o _ _
    refine ev_succ ?_
    have h1 : ¬ (((0 : Nat) : Int) - 1 ≥ 0) := by decide
    simp only [impl_addBytes.l0.eq_2, h1, if_false, beB, List.map_nil, List.append_nil]
    exact ev_some _
  | succ c ih =>
    intro o hc ho
    refine ev_succ ?_
    have e1 : ((c + 1 : Nat) : Int) - 1 = (c : Int) := by omega
    have h1 : (c : Int) ≥ 0 := by omega
    have h2 : wrap64 (8 * (c : Int)) = ((8 * c : Nat) : Int) := by rw [w64 (by omega) (by omega)]; omega
    have h3 : (0 : Int) ≤ ((8 * c : Nat) : Int) := by omega
    have h4 : o.length < 140737488355328 := by omega
    have h5 : wrap64 ((c : Int) - 1) = (c : Int) - 1 := w64 (by omega) (by omega)
    have h6 : shr .i64 (n : Int) ((8 * c : Nat) : Int) % 256 = ((n / 256 ^ c % 256 : Nat) : Int) := by
      unfold shr
      rw [Int.toNat_natCast, show min (8 * c) IntKind.i64.bits = 8 * c from Nat.min_eq_left (by simp [IntKind.bits]; omega), Nat.pow_mul' 2 8 c |> fun e => show (2 : Int) ^ (8 * c) = ((256 ^ c : Nat) : Int) by rw [Int.pow_mul]; simp]
      omega
    have h7 : bits .xor .u8 ((n / 256 ^ c % 256 : Nat) : Int) (if t = true then 255 else 0) = if t = true then 255 - ((n / 256 ^ c % 256 : Nat) : Int) else ((n / 256 ^ c % 256 : Nat) : Int) := by
      cases t with
      | true => simp only [if_true]; exact xor_255 _ (by omega) (by omega)
      | false => simp only [Bool.false_eq_true, if_false]; exact xor0 _ (by omega) (by omega)
    simp only [impl_addBytes.l0.eq_2, e1, h1, h2, h3, h4, h5, h6, h7, if_true]
    have := ih (o ++ [if t = true then 255 - ((n / 256 ^ c % 256 : Nat) : Int) else ((n / 256 ^ c % 256 : Nat) : Int)]) (by omega) (by simp only [List.length_append, List.length_cons, List.length_nil]; omega)
    rw [List.append_assoc] at this
    exact this
theorem impl_addBytes_ev (o : List Int) (n : Nat) (c : Nat) (t : Bool) (τ : Int) (hτ : τ = if t = true then 255 else 0) (hc : c ≤ 7) (ho : o.length ≤ 140737480000000) :
    Ev (fun k => impl_addBytes.f k o (n : Int) (c : Int) τ) (o ++ (beB n c).map fun x => if t = true then 255 - x else x) := by
  subst hτ
  unfold impl_addBytes.f
  rw [w64 (by omega) (by omega)]
  exact impl_addBytes_l0 n t c o hc (by omega)
attribute [local irreducible] impl_addBytes.f

theorem impl_clamp_eq (n lo hi : Int) : impl_clamp.f n lo hi = some (clampN n lo hi) := rfl
attribute [local irreducible] impl_clamp.f

theorem impl_addFix_ev (l : List Int) (n : Int) (h : l.length ≤ 140737480000000) : Ev (fun k => impl_addFix.f k l n) (l ++ fixB n) := by
  unfold impl_addFix.f
  have hc := clampN_spec n (-2147483648) 2147483647 (by omega)
  simp only [impl_clamp_eq, Option.bind_some]
  have e : wrap64 (clampN n (-2147483648) 2147483647 + 2147483648) = (((clampN n (-2147483648) 2147483647 + 2147483648).toNat : Nat) : Int) := by rw [w64 (by omega) (by omega)]; omega
  rw [e]
  have := impl_addBytes_ev l (clampN n (-2147483648) 2147483647 + 2147483648).toNat 4 false 0 rfl (by omega) h
  have e2 : (beB (clampN n (-2147483648) 2147483647 + 2147483648).toNat 4).map (fun x : Int => if false = true then 255 - x else x) = fixB n := by
    unfold fixB
    simp only [beB, List.map_cons, List.map_nil, Bool.false_eq_true, if_false, List.cons.injEq, and_true, Nat.pow_zero, Nat.pow_one]
    omega
  rw [e2] at this
  exact Ev.bind this (ev_some _)
attribute [local irreducible] impl_addFix.f

theorem impl_bytesOf_l0 (n : Nat) : ∀ c : Nat, c + n ≤ 4611686018427387904 → Ev (fun k => impl_bytesOf.l0 k (n : Int) (c : Int)) ((c + nB n : Nat) : Int) := by
  induction n using Nat.strongRecOn with
  | _ n ih =>
    intro c hc
    refine ev_succ ?_
    by_cases h : n = 0
    · subst h
      have h1 : ¬ (((0 : Nat) : Int) > 0) := by decide
      simp only [impl_bytesOf.l0.eq_2, h1, if_false, nB_zero, Nat.add_zero]
      exact ev_some _
    · have h1 : (n : Int) > 0 := by omega
      have h2 : wrap64 ((c : Int) + 1) = ((c + 1 : Nat) : Int) := wsucc (by omega)
      have h3 : (n : Int) / 256 = ((n / 256 : Nat) : Int) := by omega
      simp only [impl_bytesOf.l0.eq_2, h1, if_true, h2, h3]
      have := ih (n / 256) (by omega) (c + 1) (by omega)
      rw [nB_pos h, show c + (nB (n / 256) + 1) = c + 1 + nB (n / 256) by omega]
      exact this
theorem impl_bytesOf_ev (n : Nat) (h : n ≤ 4611686018427387904) : Ev (fun k => impl_bytesOf.f k (n : Int)) ((nB n : Nat) : Int) := by
  unfold impl_bytesOf.f
  simpa using impl_bytesOf_l0 n 0 (by omega)
attribute [local irreducible] impl_bytesOf.f

theorem impl_addVar_ev (l : List Int) (n : Int) (h : l.length ≤ 140737470000000) : Ev (fun k => impl_addVar.f k l n) (l ++ varB n) := by
  unfold impl_addVar.f
  have hc := varN_spec n
  simp only [impl_clamp_eq, Option.bind_some, show clampN n (-1000000000000000) 1000000000000000 = varN n from rfl]
  unfold varB
  simp only
  by_cases h0 : 0 ≤ varN n
  · have h0' : varN n ≥ 0 := h0
    rw [if_pos h0]
    simp only [h0', if_true]
    obtain ⟨m, hm⟩ := Int.eq_ofNat_of_zero_le h0
    rw [hm] at hc ⊢
    simp only [Int.toNat_natCast]
    have h7 := nB_7 (n := m) (by omega)
    refine Ev.bind (impl_bytesOf_ev m (by omega)) ?_
    have h1 : l.length < 140737488355328 := by omega
    have e : wrap64 (128 + ((nB m : Nat) : Int)) % 256 = 128 + (nB m : Int) := by rw [w64 (by omega) (by omega)]; omega
    simp only [h1, if_true, e]
    have := impl_addBytes_ev (l ++ [128 + (nB m : Int)]) m (nB m) false 0 rfl h7 (by simp only [List.length_append, List.length_cons, List.length_nil]; omega)
    simp only [Bool.false_eq_true, if_false, List.map_id'] at this
    rw [List.append_assoc] at this
    exact Ev.bind this (ev_some _)
  · have h0' : ¬ (varN n ≥ 0) := h0
    rw [if_neg h0]
    simp only [h0', if_false]
    have e0 : wrap64 (-1 - varN n) = (((-1 - varN n).toNat : Nat) : Int) := by rw [w64 (by omega) (by omega)]; omega
    rw [e0]
    have hm : (-1 - varN n).toNat ≤ 1000000000000000 := by omega
    generalize (-1 - varN n).toNat = m at hm
    have h7 := nB_7 (n := m) (by omega)
    refine Ev.bind (impl_bytesOf_ev m (by omega)) ?_
    have h1 : l.length < 140737488355328 := by omega
    have e : wrap64 (127 - ((nB m : Nat) : Int)) % 256 = 127 - (nB m : Int) := by rw [w64 (by omega) (by omega)]; omega
    simp only [h1, if_true, e]
    have := impl_addBytes_ev (l ++ [127 - (nB m : Int)]) m (nB m) true 255 rfl h7 (by simp only [List.length_append, List.length_cons, List.length_nil]; omega)
    simp only [if_true] at this
    rw [List.append_assoc] at this
    exact Ev.bind this (ev_some _)
attribute [local irreducible] impl_addVar.f

theorem impl_addEsc_l0 (s : ByteArray) (hs : s.size ≤ 1048576) : ∀ i : Nat, i ≤ s.size → ∀ o : List Int, o.length + 2 * (s.size - i) + 2 < 140737488355328 →
    Ev (fun k => impl_addEsc.l0 k o s (i : Int)) (o ++ escB ((bytesOf s).drop i)) := by
  refine up_ind s.size (fun i : Nat => ∀ o : List Int, o.length + 2 * (s.size - i) + 2 < 140737488355328 → Ev (fun k => impl_addEsc.l0 k o s (i : Int)) (o ++ escB ((bytesOf s).drop i))) ?_ ?_
  · intro o ho
    refine ev_succ ?_
    have h1 : ¬ ((s.size : Int) < (s.size : Int)) := by omega
    have h2 : o.length + ([0, 1] : List Int).length < 140737488355328 := by simp only [List.length_cons, List.length_nil]; omega
    simp only [impl_addEsc.l0.eq_2, h1, if_false, Option.bind_some, h2, if_true]
    rw [List.drop_eq_nil_of_le (by rw [bytesOf_len]; omega)]
    exact ev_some _
  · intro i hi ih o ho
    refine ev_succ ?_
    have hib : i < (bytesOf s).length := by rw [bytesOf_len]; exact hi
    have h1 : (i : Int) < (s.size : Int) := by omega
    have h2 : (0 : Int) ≤ (i : Int) := by omega
    have h3 : o.length < 140737488355328 := by omega
    have h4 : (o ++ [(bytesOf s)[i]]).length < 140737488355328 := by simp only [List.length_append, List.length_cons, List.length_nil]; omega
    simp only [impl_addEsc.l0.eq_2, h1, h2, h3, h4, if_true, Option.bind_some, bt_get s i hi, wsucc (show i < 9223372036854775807 by omega)]
    rw [List.drop_eq_getElem_cons hib]
    by_cases hz : (bytesOf s)[i] = 0
    · have := ih (o ++ [(bytesOf s)[i]] ++ [255]) (by simp only [List.length_append, List.length_cons, List.length_nil]; omega)
      rw [escB, if_pos hz]
      rw [List.append_assoc, List.append_assoc] at this
      simp only [hz, if_true]
      rw [hz] at this
      simpa using this
    · have := ih (o ++ [(bytesOf s)[i]]) (by simp only [List.length_append, List.length_cons, List.length_nil]; omega)
      rw [escB, if_neg hz]
      rw [List.append_assoc] at this
      simp only [hz, if_false]
      exact this
theorem impl_addEsc_ev (l : List Int) (s : ByteArray) (h : l.length ≤ 140737480000000) (hs : s.size ≤ 1048576) : Ev (fun k => impl_addEsc.f k l s) (l ++ escB (bytesOf s)) := by
  unfold impl_addEsc.f
  simpa using impl_addEsc_l0 s hs 0 (by omega) l (by omega)
attribute [local irreducible] impl_addEsc.f

theorem flipB_behind (l x : List Int) : flipB (l ++ x) (l.length : Int) = l ++ turnL x := flipB_at l x
theorem impl_addPart_j2 (l h : List Int) (hl : l.length + h.length ≤ 140737460000000) (hb : IsB l) (hh : IsB h) (c t : Int) (null desc : Bool) (k n : Int) (s : ByteArray) (hs : s.size ≤ 30) :
    Ev (fun j => impl_addPart.j2 j (l ++ h) (l.length : Int) c t null desc k n s) (l ++ turnB desc (h ++ valB k n s)) := by
  refine ev_succ ?_
  have hll : (l ++ h).length ≤ 140737460000000 := by rw [List.length_append]; omega
  have hv := valB_len k n s hs
  have tail : ∀ v : List Int, valB k n s = v → Ev (fun j => if desc = true then (impl_Flip.f j (l ++ h ++ v) (l.length : Int)).bind fun t => some t else some (l ++ h ++ v)) (l ++ turnB desc (h ++ v)) := by
    intro v hvv
    cases desc with
    | false => simp only [Bool.false_eq_true, if_false, turnB, List.append_assoc]; exact ev_some _
    | true =>
      simp only [if_true, turnB]
      have hib : IsB (l ++ h ++ v) := (hb.append hh).append (by rw [← hvv]; exact valB_isB k n s)
      have e := flipB_behind l (h ++ v)
      rw [← e, ← List.append_assoc]
      exact Ev.bind (impl_Flip_ev _ _ (by rw [List.length_append]; rw [hvv] at hv; omega) hib) (ev_some _)
  simp only [impl_addPart.j2.eq_2]
  by_cases k1 : k = 1
  · have e : valB k n s = fixB n := by unfold valB; rw [if_pos k1]
    simp only [k1, if_true]
    rw [k1] at e
    rw [e]
    refine Ev.bind (impl_addFix_ev (l ++ h) n (by omega)) ?_
    exact tail _ (by rw [k1]; exact e)
  by_cases k2 : k = 2
  · have e : valB k n s = varB n := by unfold valB; rw [if_neg k1, if_pos k2]
    simp only [k1, if_false]
    simp only [k2, if_true]
    rw [k2] at e
    rw [e]
    refine Ev.bind (impl_addVar_ev (l ++ h) n (by omega)) ?_
    exact tail _ (by rw [k2]; exact e)
  by_cases k3 : k = 3
  · have e : valB k n s = escB (bytesOf s) := by unfold valB; rw [if_neg k1, if_neg k2, if_pos k3]
    simp only [k1, k2, if_false]
    simp only [k3, if_true]
    rw [k3] at e
    rw [e]
    refine Ev.bind (impl_addEsc_ev (l ++ h) s (by omega) (by omega)) ?_
    exact tail _ (by rw [k3]; exact e)
  by_cases k4 : k = 4
  · have e : valB k n s = [n % 256] := by unfold valB; rw [if_neg k1, if_neg k2, if_neg k3, if_pos k4]
    have h1 : (l ++ h).length < 140737488355328 := by omega
    simp only [k1, k2, k3, if_false]
    simp only [k4, if_true, h1, Option.bind_some]
    rw [k4] at e
    rw [e]
    exact tail _ (by rw [k4]; exact e)
  · have e : valB k n s = [] := by unfold valB; rw [if_neg k1, if_neg k2, if_neg k3, if_neg k4]
    simp only [k1, k2, k3, k4, if_false, e]
    have := tail [] e
    simpa using this
theorem impl_addPart_ev (l : List Int) (hl : l.length ≤ 140737450000000) (hb : IsB l) (c t : Int) (null desc : Bool) (k n : Int) (s : ByteArray) :
    Ev (fun j => impl_addPart.f j l c t null desc k n s) (l ++ putPart c t null desc k n s) := by
  unfold impl_addPart.f
  simp only [impl_PartOk_eq, impl_Fits_eq, Option.bind_some]
  by_cases hok : okPV c t null k n s = true
  · have h2 := hok
    unfold okPV at h2
    rw [Bool.and_eq_true] at h2
    have hs := okPV_size hok
    have e : putPart c t null desc k n s = turnB desc (bareB null k n s) := by unfold putPart partB; rw [if_pos hok]
    rw [e]
    simp only [h2.1, h2.2, if_true, Bool.not_true]
    refine ev_succ ?_
    have hlt : l.length < 140737488355328 := by omega
    simp only [impl_addPart.j0.eq_2, Bool.false_eq_true, if_false]
    unfold bareB
    cases hn : null with
    | false =>
      simp only [Bool.false_eq_true, if_false]
      refine ev_succ ?_
      simp only [impl_addPart.j1.eq_2, Bool.false_eq_true, if_false]
      have := impl_addPart_j2 l [] (by simp only [List.length_nil]; omega) hb IsB.nil c t false desc k n s hs
      simpa [headB] using this
    | true =>
      simp only [if_true]
      refine ev_succ ?_
      by_cases hk : k = 0
      · have hk' : (k == 0) = true := by simp [hk]
        simp only [impl_addPart.j1.eq_2, hk', if_true, hlt]
        have := impl_addPart_j2 l [0] (by simp only [List.length_cons, List.length_nil]; omega) hb (IsB.cons (by omega) (by omega) IsB.nil) c t true desc k n s hs
        simpa [headB, hk] using this
      · have hk' : (k == 0) = false := by simp [hk]
        simp only [impl_addPart.j1.eq_2, hk', Bool.false_eq_true, if_false, if_true, hlt]
        have := impl_addPart_j2 l [1] (by simp only [List.length_cons, List.length_nil]; omega) hb (IsB.cons (by omega) (by omega) IsB.nil) c t true desc k n s hs
        simpa [headB, hk] using this
  · have e : putPart c t null desc k n s = [] := by unfold putPart; rw [if_neg hok]
    rw [e, List.append_nil]
    unfold okPV at hok
    cases hp : partOkB c t with
    | false =>
      simp only [Bool.false_eq_true, if_false]
      refine ev_succ ?_
      simp only [impl_addPart.j0.eq_2, if_true]
      exact ev_some _
    | true =>
      rw [hp, Bool.true_and] at hok
      have hf : fitsB t null k n s = false := by simpa using hok
      simp only [if_true, hf, Bool.not_false]
      refine ev_succ ?_
      simp only [impl_addPart.j0.eq_2, if_true]
      exact ev_some _
attribute [local irreducible] impl_addPart.f

theorem impl_EncodeKey_l0 (l : List S30) (vs : List S32) (hl : vs.length ≤ l.length) (h6 : l.length ≤ 6) (hw : ∀ v ∈ vs, -9223372036854775808 ≤ v.f1 ∧ v.f1 ≤ 9223372036854775807) : ∀ i : Nat, i ≤ vs.length → ∀ out : List Int, IsB out → out.length ≤ 63 * i →
    Ev (fun k => impl_EncodeKey.l0 k l out vs (vs.length : Int) (i : Int)) (out ++ keyB (l.drop i) (vs.drop i)) := by
  refine up_ind vs.length (fun i : Nat => ∀ out : List Int, IsB out → out.length ≤ 63 * i → Ev (fun k => impl_EncodeKey.l0 k l out vs (vs.length : Int) (i : Int)) (out ++ keyB (l.drop i) (vs.drop i))) ?_ ?_
  · intro out hb ho
    refine ev_succ ?_
    have h1 : ¬ ((vs.length : Int) < (vs.length : Int)) := by omega
    simp only [impl_EncodeKey.l0.eq_2, h1, if_false]
    rw [List.drop_eq_nil_of_le (Nat.le_refl _), keyB_nil_r, List.append_nil]
    exact ev_some _
  · intro i hi ih out hb ho
    refine ev_succ ?_
    have hil : i < l.length := by omega
    have h1 : (i : Int) < (vs.length : Int) := by omega
    have h2 : (0 : Int) ≤ (i : Int) := by omega
    have h3 : (i : Int) < (l.length : Int) := by omega
    simp only [impl_EncodeKey.l0.eq_2, h1, h2, h3, if_true, rd_T30_nat l i hil, rd_T32_nat vs i hi, wsucc (show i < 9223372036854775807 by omega)]
    rw [List.drop_eq_getElem_cons hil, List.drop_eq_getElem_cons hi, keyB_cons, ← List.append_assoc]
    refine Ev.bind (impl_addPart_ev out (by omega) hb _ _ _ _ _ _ _) ?_
    have hp := ppB_len l[i] vs[i]
    exact ih (out ++ ppB l[i] vs[i]) (hb.append (ppB_isB _ _)) (by rw [List.length_append]; omega)
theorem impl_EncodeKey_ev (l : List S30) (vs : List S32) (hv : vs.length ≤ 9223372036854775807) (hl : l.length ≤ 9223372036854775807) (hw : ∀ v ∈ vs, -9223372036854775808 ≤ v.f1 ∧ v.f1 ≤ 9223372036854775807) : Ev (fun k => impl_EncodeKey.f k l vs) (encKey l vs) := by
  unfold impl_EncodeKey.f encKey
  refine Ev.bind (impl_PlanOk_ev l hl) ?_
  cases hp : planOkB l with
  | false =>
    simp only [Bool.false_eq_true, if_false, Bool.false_and]
    refine ev_succ ?_
    simp only [impl_EncodeKey.j0.eq_2, if_true]
    exact ev_some _
  | true =>
    have h6 := (planOk_len hp).1
    simp only [if_true, Bool.true_and]
    refine Ev.bind (impl_FitsAll_ev l vs hv) ?_
    refine ev_succ ?_
    cases hf : fitsAllB l vs with
    | false =>
      simp only [impl_EncodeKey.j0.eq_2, Bool.not_false, if_true, Bool.false_eq_true, if_false]
      exact ev_some _
    | true =>
      simp only [impl_EncodeKey.j0.eq_2, Bool.not_true, Bool.false_eq_true, if_false, if_true]
      have hle : vs.length ≤ l.length := by
        unfold fitsAllB at hf
        rw [Bool.and_eq_true] at hf
        exact of_decide_eq_true hf.1
      simpa using impl_EncodeKey_l0 l vs hle h6 hw 0 (by omega) [] IsB.nil (by simp)
attribute [local irreducible] impl_EncodeKey.f

theorem impl_numberAt_l0 (xs : List Int) (hl : xs.length ≤ 7) (hb : IsB xs) (t : Bool) : ∀ i : Nat, i ≤ xs.length → ∀ x : Nat, x < 256 ^ i →
    Ev (fun k => impl_numberAt.l0 k (if t = true then 255 else 0) (x : Int) xs (xs.length : Int) (i : Int)) (((beN x ((xs.drop i).map fun y => if t = true then 255 - y else y) : Nat) : Int), true) := by
  refine up_ind xs.length (fun i : Nat => ∀ x : Nat, x < 256 ^ i → Ev (fun k => impl_numberAt.l0 k (if t = true then 255 else 0) (x : Int) xs (xs.length : Int) (i : Int)) (((beN x ((xs.drop i).map fun y => if t = true then 255 - y else y) : Nat) : Int), true)) ?_ ?_
  · intro x _
    refine ev_succ ?_
    have h1 : ¬ ((xs.length : Int) < (xs.length : Int)) := by omega
    simp only [impl_numberAt.l0.eq_2, h1, if_false]
    rw [List.drop_eq_nil_of_le (by omega)]
    exact ev_some _
  · intro i hi ih x hx
    refine ev_succ ?_
    have h1 : (i : Int) < (xs.length : Int) := by omega
    have h2 : (0 : Int) ≤ (i : Int) := by omega
    have hx7 : x < 281474976710656 := Nat.lt_of_lt_of_le hx (by have := Nat.pow_le_pow_right (show 0 < 256 by omega) (show i ≤ 6 by omega); simpa using this)
    obtain ⟨g0, g1⟩ := hb.get i hi
    have h3 : wrap64 ((x : Int) * 256) = (x : Int) * 256 := w64 (by omega) (by omega)
    have h4 : bits .xor .u8 xs[i] (if t = true then 255 else 0) = if t = true then 255 - xs[i] else xs[i] := by
      cases t with
      | true => simp only [if_true]; exact xor_255 _ g0 g1
      | false => simp only [Bool.false_eq_true, if_false]; exact xor0 _ g0 g1
    have hv : 0 ≤ (if t = true then 255 - xs[i] else xs[i]) ∧ (if t = true then 255 - xs[i] else xs[i]) ≤ 255 := by cases t <;> simp only [if_true, Bool.false_eq_true, if_false] <;> omega
    have h8 : wrap64 ((i : Int) + 1) = ((i + 1 : Nat) : Int) := wsucc (by omega)
    simp only [impl_numberAt.l0.eq_2, h1, h2, if_true, rd_nat xs i hi, h3, h4, h8]
    rw [List.drop_eq_getElem_cons hi, List.map_cons, beN]
    clear h3 h4 h8
    generalize (if t = true then 255 - xs[i] else xs[i]) = v at hv ⊢
    obtain ⟨v, rfl⟩ := Int.eq_ofNat_of_zero_le hv.1
    rw [w64 (by omega) (by omega), or_hi_lo (x : Int) (v : Int) (by omega) (by omega) (by omega) (by omega)]
    have := ih (x * 256 + v) (by rw [Nat.pow_succ]; omega)
    rw [show (x : Int) * 256 + (v : Int) = ((x * 256 + v : Nat) : Int) by omega]
    simpa using this
theorem impl_numberAt_ev (l : List Int) (hl : l.length ≤ 140737488355328) (hb : IsB l) (p : Int) (c : Nat) (hc : c ≤ 7) (t : Bool) (τ : Int) (hτ : τ = if t = true then 255 else 0) (hp : -9223372036854775808 ≤ p ∧ p ≤ 9223372036854775807) :
    Ev (fun k => impl_numberAt.f k l p (c : Int) τ) (readR (readB l p c t)) := by
  subst hτ
  unfold impl_numberAt.f
  by_cases h0 : p < 0
  · simp only [h0, if_true]
    refine ev_succ ?_
    simp only [impl_numberAt.j0.eq_2, if_true]
    rw [readB_neg (by omega)]
    exact ev_some _
  · simp only [h0, if_false]
    have e1 : wrap64 ((l.length : Int) - (c : Int)) = (l.length : Int) - (c : Int) := w64 (by omega) (by omega)
    rw [e1]
    refine ev_succ ?_
    by_cases h1 : p > (l.length : Int) - (c : Int)
    · simp only [impl_numberAt.j0.eq_2, h1, decide_true, if_true]
      rw [readB_neg (by omega)]
      exact ev_some _
    · have e2 : wrap64 (p + (c : Int)) = p + (c : Int) := w64 (by omega) (by omega)
      have a1 : (0 : Int) ≤ p := by omega
      have a2 : p ≤ p + (c : Int) := by omega
      have a3 : p + (c : Int) ≤ (l.length : Int) := by omega
      simp only [impl_numberAt.j0.eq_2, h1, decide_false, Bool.false_eq_true, if_false, e2, a1, a2, a3, if_true, Option.bind_some]
      have e3 : (l.take (p + (c : Int)).toNat).drop p.toNat = (l.drop p.toNat).take c := by
        rw [List.drop_take]; congr 1; omega
      rw [e3]
      have hlen : ((l.drop p.toNat).take c).length = c := by rw [List.length_take, List.length_drop]; omega
      have := impl_numberAt_l0 ((l.drop p.toNat).take c) (by omega) ((hb.drop _).take _) t 0 (by omega) 0 (by decide)
      rw [readB_pos a1 a3]
      exact this
attribute [local irreducible] impl_numberAt.f

theorem impl_GetFix_ev (l : List Int) (hl : l.length ≤ 140737480000000) (hb : IsB l) (p : Int) (hp : -9223372036854775808 ≤ p ∧ p ≤ 9223372036854775807) : Ev (fun k => impl_GetFix.f k l p) (getFix l p) := by
  unfold impl_GetFix.f getFix
  refine Ev.bind (impl_numberAt_ev l (by omega) hb p 4 (by omega) false 0 rfl hp) ?_
  cases h : readB l p 4 false with
  | none => simp only [readR, Bool.false_eq_true, if_false]; exact ev_some _
  | some n =>
    obtain ⟨h0, h1, hn⟩ := readB_some hb h
    have e1 : wrap64 ((n : Int) - 2147483648) = (n : Int) - 2147483648 := w64 (by omega) (by omega)
    have e2 : wrap64 (p + 4) = p + 4 := w64 (by omega) (by omega)
    simp only [readR, if_true, e1, e2]; exact ev_some _
attribute [local irreducible] impl_GetFix.f

theorem impl_GetVar_j1 (l : List Int) (hl : l.length ≤ 140737480000000) (hb : IsB l) (p : Int) (hp : 0 ≤ p ∧ p < l.length) (c : Nat) (hc : c ≤ 7) (t : Bool) (τ : Int) (hτ : τ = if t = true then 255 else 0) :
    Ev (fun k => impl_GetVar.j1 k l p (c : Int) τ) (getVarR p c t (readB l (p + 1) c t)) := by
  refine ev_succ ?_
  have h7 : ¬ ((c : Int) > 7) := by omega
  have e1 : wrap64 (p + 1) = p + 1 := w64 (by omega) (by omega)
  simp only [impl_GetVar.j1.eq_2, h7, if_false, e1]
  refine Ev.bind (impl_numberAt_ev l (by omega) hb (p + 1) c hc t τ hτ (by omega)) ?_
  cases h : readB l (p + 1) c t with
  | none =>
    simp only [readR, Bool.false_eq_true, if_false]
    refine ev_succ ?_
    simp only [impl_GetVar.j2.eq_2, if_true]
    exact ev_some _
  | some n =>
    obtain ⟨_, hpc, hn⟩ := readB_some hb h
    have hn7 : n < 72057594037927936 := Nat.lt_of_lt_of_le hn (by have := Nat.pow_le_pow_right (show 0 < 256 by omega) hc; simpa using this)
    simp only [readR, if_true]
    refine Ev.bind (impl_bytesOf_ev n (by omega)) ?_
    refine ev_succ ?_
    have e2 : wrap64 (p + 1 + (c : Int)) = p + 1 + (c : Int) := w64 (by omega) (by omega)
    unfold getVarR
    by_cases hc2 : nB n = c
    · simp only [impl_GetVar.j2.eq_2, hc2, bne_self_eq_false, Bool.false_eq_true, if_false, hc2, true_and, e1]
      cases t with
      | false =>
        have hτ0 : τ = 0 := by rw [hτ]; rfl
        simp only [hτ0, if_true, impl_in_eq, Option.bind_some, Bool.false_eq_true, if_false, e2]
        cases inB (n : Int) (-1000000000000000) 1000000000000000
        · simp only [Bool.false_eq_true, if_false]; exact ev_some _
        · simp only [if_true]; exact ev_some _
      | true =>
        have hτ0 : ¬ (τ = 0) := by rw [hτ]; decide
        have e3 : wrap64 (-1 - (n : Int)) = -1 - (n : Int) := w64 (by omega) (by omega)
        simp only [hτ0, if_false, impl_in_eq, Option.bind_some, if_true, e2, e3]
        cases inB (-1 - (n : Int)) (-1000000000000000) 1000000000000000
        · simp only [Bool.false_eq_true, if_false]; exact ev_some _
        · simp only [if_true]; exact ev_some _
    · have hne : (((nB n : Nat) : Int) != (c : Int)) = true := by simp; omega
      simp only [impl_GetVar.j2.eq_2, hne, if_true, hc2, false_and, if_false]
      exact ev_some _
theorem impl_GetVar_ev (l : List Int) (hl : l.length ≤ 140737480000000) (hb : IsB l) (p : Int) (hp : -9223372036854775808 ≤ p ∧ p ≤ 9223372036854775807) : Ev (fun k => impl_GetVar.f k l p) (getVar l p) := by
  unfold impl_GetVar.f getVar
  by_cases h0 : p < 0
  · simp only [h0, if_true]
    rw [if_neg (by omega)]
    refine ev_succ ?_
    simp only [impl_GetVar.j0.eq_2, if_true]
    exact ev_some _
  · simp only [h0, if_false]
    by_cases h1 : p ≥ (l.length : Int)
    · rw [if_neg (by omega)]
      refine ev_succ ?_
      simp only [impl_GetVar.j0.eq_2, h1, decide_true, if_true]
      exact ev_some _
    · have a1 : (0 : Int) ≤ p := by omega
      have a2 : p < (l.length : Int) := by omega
      rw [if_pos ⟨a1, a2⟩]
      refine ev_succ ?_
      obtain ⟨g0, g1⟩ := rd_isB hb p
      have e1 : wrap64 (rd l p) = rd l p := w64 (by omega) (by omega)
      have e2 : wrap64 (rd l p - 128) = rd l p - 128 := w64 (by omega) (by omega)
      have e3 : wrap64 (127 - rd l p) = 127 - rd l p := w64 (by omega) (by omega)
      simp only [impl_GetVar.j0.eq_2, h1, decide_false, Bool.false_eq_true, if_false, a1, a2, if_true, e1, e2, e3]
      clear e1 e2 e3
      by_cases hneg : rd l p - 128 < 0
      · simp only [hneg, if_true]
        rw [if_neg (by omega)]
        by_cases h7 : 120 ≤ rd l p
        · rw [if_pos (by omega)]
          have := impl_GetVar_j1 l hl hb p ⟨a1, a2⟩ (127 - rd l p).toNat (by omega) true 255 rfl
          rw [show (((127 - rd l p).toNat : Nat) : Int) = 127 - rd l p by omega] at this
          exact this
        · rw [if_neg (by omega)]
          refine ev_succ ?_
          have h8 : 127 - rd l p > 7 := by omega
          simp only [impl_GetVar.j1.eq_2, h8, if_true]
          exact ev_some _
      · simp only [hneg, if_false]
        by_cases h7 : rd l p ≤ 135
        · rw [if_pos (by omega)]
          have := impl_GetVar_j1 l hl hb p ⟨a1, a2⟩ (rd l p - 128).toNat (by omega) false 0 rfl
          rw [show (((rd l p - 128).toNat : Nat) : Int) = rd l p - 128 by omega] at this
          exact this
        · rw [if_neg (by omega), if_neg (by omega)]
          refine ev_succ ?_
          have h8 : rd l p - 128 > 7 := by omega
          simp only [impl_GetVar.j1.eq_2, h8, if_true]
          exact ev_some _
attribute [local irreducible] impl_GetVar.f

theorem impl_GetEsc_l0 (l : List Int) (hl : l.length ≤ 140737488355327) (d : Nat) : ∀ (p : Nat) (o : List Int), l.length - p = d → (p : Int) ≤ 9223372036854775807 → o.length + (l.length - p) ≤ 140737488355327 →
    Ev (fun k => impl_GetEsc.l0 k l o (p : Int)) (getER (getEB o p (l.drop p))) := by
  induction d using Nat.strongRecOn with
  | _ d ih =>
    intro p o hd hp63 ho
    refine ev_succ (ev_succ ?_)
    have a1 : (p : Int) ≥ 0 := by omega
    by_cases hp : p < l.length
    · have b1 : (p : Int) < (l.length : Int) := by omega
      have b2 : o.length < 140737488355328 := by omega
      simp only [impl_GetEsc.l0.eq_2, impl_GetEsc.j1.eq_2, a1, b1, b2, decide_true, if_true, rd_nat l p hp, wsucc (show p < 9223372036854775807 by omega)]
      rw [List.drop_eq_getElem_cons hp]
      by_cases hz : l[p] = 0
      · by_cases hp1 : p + 1 < l.length
        · have c1 : ¬ (((p + 1 : Nat) : Int) ≥ (l.length : Int)) := by omega
          have c2 : (0 : Int) ≤ ((p + 1 : Nat) : Int) := by omega
          have c3 : ((p + 1 : Nat) : Int) < (l.length : Int) := by omega
          simp only [hz, if_true, c1, if_false, c2, c3, rd_nat l (p + 1) hp1, wsucc (show p + 1 < 9223372036854775807 by omega)]
          rw [List.drop_eq_getElem_cons hp1, getEB_cons]
          by_cases h1 : l[p + 1] = 1
          · simp only [h1, if_true]; exact ev_some _
          · by_cases h255 : l[p + 1] = 255
            · simp only [h255, if_true, show ¬ ((255 : Int) = 1) by decide, if_false]
              exact ih (l.length - (p + 1 + 1)) (by omega) (p + 1 + 1) (o ++ [0]) rfl (by omega) (by simp only [List.length_append, List.length_cons, List.length_nil]; omega)
            · simp only [h1, h255, if_true, if_false]; exact ev_some _
        · have c1 : ((p + 1 : Nat) : Int) ≥ (l.length : Int) := by omega
          simp only [hz, if_true, c1]
          rw [List.drop_eq_nil_of_le (by omega), getEB_one]
          exact ev_some _
      · simp only [hz, if_false]
        have := ih (l.length - (p + 1)) (by omega) (p + 1) (o ++ [l[p]]) rfl (by omega) (by simp only [List.length_append, List.length_cons, List.length_nil]; omega)
        rw [getEB_ne _ _ _ _ hz]
        exact this
    · have b1 : ¬ ((p : Int) < (l.length : Int)) := by omega
      simp only [impl_GetEsc.l0.eq_2, impl_GetEsc.j1.eq_2, a1, b1, decide_false, Bool.false_eq_true, if_true, if_false]
      rw [List.drop_eq_nil_of_le (by omega), getEB_nil]
      exact ev_some _
theorem impl_GetEsc_ev (l : List Int) (hl : l.length ≤ 140737480000000) (hb : IsB l) (p : Int) (hp : -9223372036854775808 ≤ p ∧ p ≤ 9223372036854775807) : Ev (fun k => impl_GetEsc.f k l p) (getEsc l p) := by
  unfold impl_GetEsc.f getEsc
  by_cases h0 : 0 ≤ p
  · obtain ⟨q, rfl⟩ := Int.eq_ofNat_of_zero_le h0
    rw [if_pos h0]
    exact impl_GetEsc_l0 l (by omega) _ q [] rfl (by omega) (by simp only [List.length_nil]; omega)
  · rw [if_neg h0]
    refine ev_succ (ev_succ ?_)
    have a1 : ¬ (p ≥ 0) := by omega
    simp only [impl_GetEsc.l0.eq_2, impl_GetEsc.j1.eq_2, a1, if_false, Bool.false_eq_true]
    exact ev_some _
attribute [local irreducible] impl_GetEsc.f

theorem impl_typedAt_ev (l : List Int) (hl : l.length ≤ 140737480000000) (hb : IsB l) (t p : Int) (hp : -9223372036854775808 ≤ p ∧ p ≤ 9223372036854775807) : Ev (fun k => impl_typedAt.f k l t p) (getTyped l t p) := by
  unfold impl_typedAt.f getTyped
  by_cases t1 : t = 1
  · simp only [t1, if_true]
    exact Ev.bind (impl_GetFix_ev l hl hb p hp) (ev_some _)
  by_cases t2 : t = 2
  · simp only [t1, if_false]
    simp only [t2, if_true]
    exact Ev.bind (impl_GetVar_ev l hl hb p hp) (ev_some _)
  by_cases t3 : t = 3
  · simp only [t1, t2, if_false]
    simp only [t3, if_true]
    exact Ev.bind (impl_GetEsc_ev l hl hb p hp) (ev_some _)
  by_cases t4 : t = 4
  · simp only [t1, t2, t3, if_false]
    simp only [t4, if_true]
    have hr := rd_isB hb p
    by_cases h0 : 0 ≤ p
    · have h0' : p ≥ 0 := h0
      by_cases h1 : p < (l.length : Int)
      · simp only [h0, h0', h1, if_true, and_self, w64 (x := rd l p) (by omega) (by omega), w64 (x := p + 1) (by omega) (by omega)]
        exact ev_some _
      · simp only [h0', h1, if_true, if_false, and_false]
        exact ev_some _
    · have h0' : ¬ (p ≥ 0) := h0
      simp only [h0, h0', if_false, false_and]
      exact ev_some _
  · simp only [t1, t2, t3, t4, if_false]
    exact ev_some _
attribute [local irreducible] impl_typedAt.f

theorem impl_GetPart_fit (c t : Int) (null desc : Bool) (r : Int × Int × ByteArray × Int × Bool) : (if r.2.2.2.2 = true then ((impl_Fits.f c t null desc r.1 r.2.1 r.2.2.1).bind fun t375 => (if t375 = true then (some (r.1, r.2.1, r.2.2.1, r.2.2.2.1, true)) else (some (0, 0, (⟨#[]⟩ : ByteArray), 0, false)))) else (some (0, 0, (⟨#[]⟩ : ByteArray), 0, false))) = some (fitR t null r) := by
  obtain ⟨a, b, s, q, e⟩ := r
  simp only [impl_Fits_eq, Option.bind_some]
  unfold fitR noPart
  cases e with
  | false => simp
  | true =>
    cases hf : fitsB t null a b s with
    | false => simp [hf]
    | true => simp [hf]
theorem impl_GetPart_j1 (l : List Int) (hl : l.length ≤ 140737480000000) (hb : IsB l) (c t : Int) (null desc : Bool) (p : Int) (hp : -9223372036854775808 ≤ p ∧ p ≤ 9223372036854775807) :
    Ev (fun k => impl_GetPart.j1 k l p c t null desc) (fitR t null (getTyped l t p)) := by
  refine ev_succ ?_
  simp only [impl_GetPart.j1.eq_2]
  refine Ev.bind (impl_typedAt_ev l hl hb t p hp) ?_
  rw [impl_GetPart_fit]
  exact ev_some _
theorem impl_GetPart_j2 (l : List Int) (hl : l.length ≤ 140737480000000) (hb : IsB l) (c t : Int) (null desc : Bool) (p : Int) (hp : -9223372036854775808 ≤ p ∧ p ≤ 9223372036854775807) :
    Ev (fun k => impl_GetPart.j2 k l p c t null desc) (fitR t null (getTyped l t p)) := by
  refine ev_succ ?_
  simp only [impl_GetPart.j2.eq_2]
  refine Ev.bind (impl_typedAt_ev l hl hb t p hp) ?_
  rw [impl_GetPart_fit]
  exact ev_some _
theorem impl_GetPart_ev (l : List Int) (hl : l.length ≤ 140737480000000) (hb : IsB l) (c t : Int) (null desc : Bool) (p : Int) :
    Ev (fun k => impl_GetPart.f k l c t null desc p) (getPart l c t null desc p) := by
  unfold impl_GetPart.f getPart
  simp only [impl_PartOk_eq, Option.bind_some]
  have out : Ev (fun k => impl_GetPart.j0 k l p true c t null desc) noPart := by
    refine ev_succ ?_
    simp only [impl_GetPart.j0.eq_2, if_true]
    exact ev_some _
  cases hok : partOkB c t with
  | false =>
    simp only [Bool.false_eq_true, if_false, false_and]
    exact out
  | true =>
    simp only [if_true, true_and]
    by_cases h0 : p < 0
    · have h0' : ¬ (0 ≤ p ∧ p < (l.length : Int)) := by omega
      simp only [h0, h0', if_true, if_false]
      exact out
    · by_cases h1 : p < (l.length : Int)
      · have h01 : 0 ≤ p ∧ p < (l.length : Int) := by omega
        have h00 : 0 ≤ p := h01.1
        have hd : decide (p ≥ (l.length : Int)) = false := decide_eq_false (by omega)
        have w1 : wrap64 (p + 1) = p + 1 := w64 (by omega) (by omega)
        rw [if_pos h01]
        simp only [h0, if_false, hd]
        refine ev_succ ?_
        simp only [impl_GetPart.j0.eq_2, Bool.false_eq_true, if_false, w1]
        unfold getBare
        cases desc with
        | true =>
          simp only [if_true]
          refine Ev.bind (impl_Flip_ev l p hl hb) ?_
          have hfl : (flipB l p).length ≤ 140737480000000 := by rw [flipB_len]; exact hl
          have hfb := flipB_isB hb p
          have hlt : p < ((flipB l p).length : Int) := by rw [flipB_len]; exact h1
          cases null with
          | true =>
            simp only [if_true, h00, hlt]
            by_cases r0 : rd (flipB l p) p = 0
            · simp only [r0, if_true]; exact ev_some _
            · by_cases r1 : rd (flipB l p) p = 1
              · simp only [r1, if_true, show ¬ ((1 : Int) = 0) by decide, if_false]
                exact impl_GetPart_j1 _ hfl hfb c t true true (p + 1) (by omega)
              · simp only [r0, r1, if_false]; exact ev_some _
          | false =>
            simp only [Bool.false_eq_true, if_false]
            exact impl_GetPart_j1 _ hfl hfb c t false true p (by omega)
        | false =>
          simp only [Bool.false_eq_true, if_false]
          cases null with
          | true =>
            simp only [if_true, h00, h1]
            by_cases r0 : rd l p = 0
            · simp only [r0, if_true]; exact ev_some _
            · by_cases r1 : rd l p = 1
              · simp only [r1, if_true, show ¬ ((1 : Int) = 0) by decide, if_false]
                exact impl_GetPart_j2 _ hl hb c t true false (p + 1) (by omega)
              · simp only [r0, r1, if_false]; exact ev_some _
          | false =>
            simp only [Bool.false_eq_true, if_false]
            exact impl_GetPart_j2 _ hl hb c t false false p (by omega)
      · have h01 : ¬ (0 ≤ p ∧ p < (l.length : Int)) := by omega
        have hd : decide (p ≥ (l.length : Int)) = true := decide_eq_true (by omega)
        rw [if_neg h01]
        simp only [h0, if_false, hd]
        exact out
attribute [local irreducible] impl_GetPart.f

theorem impl_DecodeKey_l0 (l : List S30) (b : List Int) (hb : IsB b) (hbl : b.length ≤ 140737480000000) (h6 : l.length ≤ 6) : ∀ i : Nat, i ≤ l.length → ∀ (out : List S32) (p : Int), out.length = i →
    Ev (fun k => impl_DecodeKey.l0 k b out p l (l.length : Int) (i : Int)) (decR b out (decL (l.drop i) b p)) := by
  refine up_ind l.length (fun i : Nat => ∀ (out : List S32) (p : Int), out.length = i → Ev (fun k => impl_DecodeKey.l0 k b out p l (l.length : Int) (i : Int)) (decR b out (decL (l.drop i) b p))) ?_ ?_
  · intro out p ho
    refine ev_succ ?_
    have h1 : ¬ ((l.length : Int) < (l.length : Int)) := by omega
    simp only [impl_DecodeKey.l0.eq_2, h1, if_false]
    rw [List.drop_eq_nil_of_le (Nat.le_refl _)]
    simp only [decL, decR, List.append_nil]
    by_cases hp : p = (b.length : Int)
    · rw [if_pos hp, if_pos hp]; exact ev_some _
    · rw [if_neg hp, if_neg hp]; exact ev_some _
  · intro i hi ih out p ho
    refine ev_succ ?_
    have h1 : (i : Int) < (l.length : Int) := by omega
    have h2 : (0 : Int) ≤ (i : Int) := by omega
    have h3 : out.length < 4398046511104 := by omega
    simp only [impl_DecodeKey.l0.eq_2, h1, h2, h3, if_true, rd_T30_nat l i hi, wsucc (show i < 9223372036854775807 by omega)]
    rw [List.drop_eq_getElem_cons hi]
    refine Ev.bind (impl_GetPart_ev b hbl hb _ _ _ _ p) ?_
    by_cases hok : (gpB b l[i] p).2.2.2.2 = true
    · rw [decR_cons b out _ _ p hok]
      have hok' : (getPart b l[i].f0 l[i].f1 l[i].f2 l[i].f3 p).2.2.2.2 = true := hok
      simp only [hok', if_true]
      exact ih (out ++ [gpV (gpB b l[i] p)]) _ (by rw [List.length_append]; simp only [List.length_cons, List.length_nil]; omega)
    · rw [decR_none b out _ _ p hok]
      have hok' : ¬ (getPart b l[i].f0 l[i].f1 l[i].f2 l[i].f3 p).2.2.2.2 = true := hok
      simp only [hok', if_false]
      exact ev_some _
theorem impl_DecodeKey_ev (l : List S30) (b : List Int) (hb : IsB b) (hbl : b.length ≤ 140737480000000) (hl : l.length ≤ 9223372036854775807) : Ev (fun k => impl_DecodeKey.f k l b) (decKey l b) := by
  unfold impl_DecodeKey.f decKey
  refine Ev.bind (impl_PlanOk_ev l hl) ?_
  cases hp : planOkB l with
  | false =>
    simp only [Bool.false_eq_true, if_false]
    exact ev_some _
  | true =>
    simp only [if_true]
    simpa using impl_DecodeKey_l0 l b hb hbl (planOk_len hp).1 0 (by omega) [] 0 rfl
attribute [local irreducible] impl_DecodeKey.f

theorem spec_l1New_l0 (l : List Int) (hl : l.length ≤ 1048576) : ∀ i : Nat, i ≤ l.length → ∀ h : Int, ∃ r : Int, Ev (fun k => spec_l1New.l0 k l h (i : Int)) (l, 0, r) := by
  refine up_ind l.length (fun i : Nat => ∀ h : Int, ∃ r : Int, Ev (fun k => spec_l1New.l0 k l h (i : Int)) (l, 0, r)) ?_ ?_
  · intro h
    refine ⟨h, ev_succ ?_⟩
    have h1 : ¬ ((l.length : Int) < (l.length : Int)) := by omega
    simp only [spec_l1New.l0.eq_2, h1, if_false]
    exact ev_some _
  · intro i hi ih h
    have h1 : (i : Int) < (l.length : Int) := by omega
    have h2 : (0 : Int) ≤ (i : Int) := by omega
    by_cases h4 : (i : Int) < 4000
    · obtain ⟨r, hr⟩ := ih (Go.bits .and .i64 (wrap64 ((wrap64 ((wrap64 (h * 137)) + (wrap64 (rd l (i : Int))))) + 11)) 1073741823)
      refine ⟨r, ev_succ ?_⟩
      simp only [spec_l1New.l0.eq_2, h1, h2, h4, if_true, wsucc (show i < 9223372036854775807 by omega)]
      exact hr
    · refine ⟨h, ev_succ ?_⟩
      simp only [spec_l1New.l0.eq_2, h1, h4, if_true, if_false]
      exact ev_some _
theorem spec_l1New_ev (l : List Int) (hl : l.length ≤ 1048576) : ∃ r : Int, Ev (fun k => spec_l1New.f k l) (l, 0, r) := by
  unfold spec_l1New.f
  exact spec_l1New_l0 l hl 0 (by omega) _
/-- Where a reader of draws stands. -/
def Cur (l : List Int) (i : Int) : Prop := 0 ≤ i ∧ i ≤ l.length
theorem Cur.start (l : List Int) : Cur l 0 := ⟨by omega, by omega⟩
attribute [local irreducible] spec_l1New.f

theorem spec_l1Byte_ok (l : List Int) (hl : l.length ≤ 1048576) (i h : Int) (hc : Cur l i) : ∃ x i' h' : Int, spec_l1Byte.f l i h = some (x, i', h') ∧ 0 ≤ x ∧ x ≤ 255 ∧ Cur l i' := by
  unfold spec_l1Byte.f
  obtain ⟨c0, c1⟩ := hc
  by_cases h1 : i < (l.length : Int)
  · rw [if_pos h1, if_pos c0, w64 (x := i + 1) (by omega) (by omega)]
    refine ⟨_, _, _, rfl, ?_, ?_, ?_, ?_⟩
    · rw [and255]; omega
    · rw [and255]; omega
    · omega
    · omega
  · rw [if_neg h1]
    refine ⟨_, _, _, rfl, ?_, ?_, ?_, ?_⟩
    · rw [and255]; omega
    · rw [and255]; omega
    · omega
    · omega
attribute [local irreducible] spec_l1Byte.f

theorem spec_l1Below_ok (l : List Int) (hl : l.length ≤ 1048576) (i h : Int) (hc : Cur l i) (n : Int) : ∃ x i' h' : Int, spec_l1Below.f l i h n = some (x, i', h') ∧ 0 ≤ x ∧ (0 < n → x < n) ∧ (n ≤ 0 → x = 0) ∧ Cur l i' := by
  unfold spec_l1Below.f
  by_cases h0 : n ≤ 0
  · rw [if_pos h0]
    exact ⟨0, i, h, rfl, by omega, by omega, fun _ => rfl, hc⟩
  · rw [if_neg h0]
    have hn : ¬ (n = 0) := by omega
    obtain ⟨x, i1, h1, e1, x0, x1, c1⟩ := spec_l1Byte_ok l hl i h hc
    by_cases h256 : n ≤ 256
    · rw [if_pos h256, e1]
      simp only [Option.bind_some, hn, if_false]
      refine ⟨_, _, _, rfl, ?_, ?_, by omega, c1⟩
      · exact Int.tmod_nonneg _ x0
      · intro hp; exact Int.tmod_lt_of_pos _ hp
    · obtain ⟨y, i2, h2, e2, y0, y1, c2⟩ := spec_l1Byte_ok l hl i1 h1 c1
      obtain ⟨z, i3, h3, e3, z0, z1, c3⟩ := spec_l1Byte_ok l hl i2 h2 c2
      rw [if_neg h256, e1]
      simp only [Option.bind_some, e2, e3, hn, if_false]
      have w1 : wrap64 (x * 65536) = x * 65536 := w64 (by omega) (by omega)
      have w2 : wrap64 (y * 256) = y * 256 := w64 (by omega) (by omega)
      rw [w1, w2]
      clear w1 w2
      have w3 : wrap64 (x * 65536 + y * 256) = x * 65536 + y * 256 := w64 (by omega) (by omega)
      rw [w3]
      clear w3
      have w4 : wrap64 (x * 65536 + y * 256 + z) = x * 65536 + y * 256 + z := w64 (by omega) (by omega)
      rw [w4]
      clear w4
      refine ⟨_, _, _, rfl, ?_, ?_, by omega, c3⟩
      · exact Int.tmod_nonneg _ (by omega)
      · intro hp; exact Int.tmod_lt_of_pos _ hp
attribute [local irreducible] spec_l1Below.f

theorem spec_l1Once_ok (l : List Int) (hl : l.length ≤ 1048576) (i h : Int) (hc : Cur l i) (n : Int) : ∃ (b : Bool) (i' h' : Int), spec_l1Once.f l i h n = some (b, i', h') ∧ Cur l i' := by
  unfold spec_l1Once.f
  obtain ⟨x, i1, h1, e1, x0, x1, _, c1⟩ := spec_l1Below_ok l hl i h hc n
  rw [e1]
  exact ⟨_, _, _, rfl, c1⟩
attribute [local irreducible] spec_l1Once.f

theorem spec_l5Draw_ok (l : List Int) (hl : l.length ≤ 1048576) (i h : Int) (hc : Cur l i) (col : Int) : ∃ (t : Int) (null desc : Bool) (i' h' : Int), spec_l5Draw.f l i h col = some (col, t, null, desc, i', h') ∧ (1 ≤ t ∧ t ≤ 4) ∧ Cur l i' := by
  unfold spec_l5Draw.f
  obtain ⟨x, i1, h1, e1, x0, x1, _, c1⟩ := spec_l1Below_ok l hl i h hc 4
  obtain ⟨b1, i2, h2, e2, c2⟩ := spec_l1Once_ok l hl i1 h1 c1 2
  obtain ⟨b2, i3, h3, e3, c3⟩ := spec_l1Once_ok l hl i2 h2 c2 2
  have x2 := x1 (by omega)
  have w1 : wrap64 (1 + x) = 1 + x := w64 (by omega) (by omega)
  simp only [e1, Option.bind_some, e2, e3, w1]
  exact ⟨1 + x, b1, b2, i3, h3, rfl, by omega, c3⟩
attribute [local irreducible] spec_l5Draw.f

theorem spec_l6Plan_l0 (l : List Int) (hl : l.length ≤ 1048576) : ∀ (m : Nat), m ≤ 3 → ∀ (out : List S30) (i h : Int), Cur l i → out.length + m ≤ 3 →
    ∃ (ps : List S30) (i' h' : Int), Ev (fun k => spec_l6Plan.l0 k out (m : Int) l i h) (out ++ ps, i', h') ∧ ps.length = m ∧ (∀ p ∈ ps, partOkB p.f0 p.f1 = true) ∧ Cur l i' := by
  intro m
  induction m with
  | zero =>
    intro _ out i h hc _
    refine ⟨[], i, h, ev_succ ?_, rfl, fun p hp => (by cases hp), hc⟩
    simp only [spec_l6Plan.l0.eq_2, show ¬ (((0 : Nat) : Int) > 0) by decide, if_false, List.append_nil]
    exact ev_some _
  | succ m ih =>
    intro hm out i h hc ho
    obtain ⟨x, i1, h1, e1, x0, x1, _, c1⟩ := spec_l1Below_ok l hl i h hc 4
    have x2 := x1 (by omega)
    obtain ⟨t, null, desc, i2, h2, e2, ht, c2⟩ := spec_l5Draw_ok l hl i1 h1 c1 x
    obtain ⟨ps, i3, h3, hE, hlen, hok, c3⟩ := ih (by omega) (out ++ [⟨x, t, null, desc⟩]) i2 h2 c2 (by simp; omega)
    refine ⟨⟨x, t, null, desc⟩ :: ps, i3, h3, ev_succ ?_, by simp [hlen], ?_, c3⟩
    · have q1 : ((m + 1 : Nat) : Int) > 0 := by omega
      have q2 : out.length < 5864062014805 := by omega
      have q3 : wrap64 (((m + 1 : Nat) : Int) - 1) = (m : Int) := by rw [w64 (by omega) (by omega)]; omega
      simp only [spec_l6Plan.l0.eq_2, q1, q2, q3, if_true, e1, e2, Option.bind_some]
      rw [List.append_assoc, List.singleton_append] at hE
      exact hE
    · intro p hp
      rcases List.mem_cons.1 hp with rfl | hp
      · unfold partOkB inB
        rw [Bool.and_eq_true]
        exact ⟨decide_eq_true (show 0 ≤ x ∧ x ≤ 9 by omega), decide_eq_true (show 1 ≤ t ∧ t ≤ 4 by omega)⟩
      · exact hok p hp
theorem spec_l6Plan_ev (l : List Int) (hl : l.length ≤ 1048576) (i h : Int) (hc : Cur l i) : ∃ (p : List S30) (i' h' : Int), Ev (fun k => spec_l6Plan.f k l i h) (p, i', h') ∧ planOkB p = true ∧ (1 ≤ p.length ∧ p.length ≤ 3) ∧ Cur l i' := by
  unfold spec_l6Plan.f
  obtain ⟨x, i1, h1, e1, x0, x1, _, c1⟩ := spec_l1Below_ok l hl i h hc 3
  have x2 := x1 (by omega)
  obtain ⟨ps, i2, h2, hE, hlen, hok, c2⟩ := spec_l6Plan_l0 l hl (1 + x).toNat (by omega) [] i1 h1 c1 (by simp only [List.length_nil]; omega)
  rw [show (((1 + x).toNat : Nat) : Int) = 1 + x by omega] at hE
  have w1 : wrap64 (1 + x) = 1 + x := w64 (by omega) (by omega)
  refine ⟨ps, i2, h2, ?_, ?_, by omega, c2⟩
  · simp only [e1, Option.bind_some, w1]
    exact hE
  · unfold planOkB
    rw [Bool.and_eq_true]
    exact ⟨decide_eq_true (by omega), by simpa using hok⟩
attribute [local irreducible] spec_l6Plan.f

theorem spec_l1Int_ok (l : List Int) (hl : l.length ≤ 1048576) (i h : Int) (hc : Cur l i) (xs : List Int) (hx : 0 < xs.length) : ∃ x i' h' : Int, spec_l1Int.f l i h xs = some (x, i', h') ∧ x ∈ xs ∧ Cur l i' := by
  unfold spec_l1Int.f
  obtain ⟨x, i1, h1, e1, x0, x1, _, c1⟩ := spec_l1Below_ok l hl i h hc (xs.length : Int)
  have hlt := x1 (by omega)
  rw [e1]
  simp only [Option.bind_some, x0, hlt, if_true]
  obtain ⟨j, rfl⟩ := Int.eq_ofNat_of_zero_le x0
  have hj : j < xs.length := by omega
  exact ⟨_, _, _, rfl, by rw [rd_nat xs j hj]; exact List.getElem_mem hj, c1⟩
attribute [local irreducible] spec_l1Int.f

theorem spec_l1Str_ok (l : List Int) (hl : l.length ≤ 1048576) (i h : Int) (hc : Cur l i) (xs : List ByteArray) (hx : 0 < xs.length) : ∃ (x : ByteArray) (i' h' : Int), spec_l1Str.f l i h xs = some (x, i', h') ∧ x ∈ xs ∧ Cur l i' := by
  unfold spec_l1Str.f
  obtain ⟨x, i1, h1, e1, x0, x1, _, c1⟩ := spec_l1Below_ok l hl i h hc (xs.length : Int)
  have hlt := x1 (by omega)
  rw [e1]
  simp only [Option.bind_some, x0, hlt, if_true]
  obtain ⟨j, rfl⟩ := Int.eq_ofNat_of_zero_le x0
  have hj : j < xs.length := by omega
  refine ⟨_, _, _, rfl, ?_, c1⟩
  unfold rdOf
  simp [List.getD_eq_getElem?_getD, hj]
attribute [local irreducible] spec_l1Str.f

theorem spec_l2Text_ok (l : List Int) (hl : l.length ≤ 1048576) (i h : Int) (hc : Cur l i) : ∃ (s : ByteArray) (i' h' : Int), spec_l2Text.f l i h = some (s, i', h') ∧ s.size ≤ 4 ∧ Cur l i' := by
  unfold spec_l2Text.f
  obtain ⟨s, i1, h1, e1, hm, c1⟩ := spec_l1Str_ok l hl i h hc [⟨#[]⟩, ⟨#[97]⟩, ⟨#[98]⟩, ⟨#[97, 98]⟩, ⟨#[0]⟩, ⟨#[97, 0]⟩, ⟨#[0, 255]⟩, ⟨#[255]⟩, ⟨#[119, 111, 114, 100]⟩, ⟨#[122]⟩] (by decide)
  rw [e1]
  refine ⟨s, i1, h1, rfl, ?_, c1⟩
  simp only [List.mem_cons, List.not_mem_nil, or_false] at hm
  rcases hm with h | h | h | h | h | h | h | h | h | h <;> subst h <;> decide
attribute [local irreducible] spec_l2Text.f

theorem isE_empty : isE ⟨#[]⟩ = true := by unfold isE; rw [ByteArray.toList_eq]; rfl
/-- What is drawn of a value: its kind, its number and its text are small, and of a type that there is it fits. -/
theorem spec_l2Of_j0 (l : List Int) (hl : l.length ≤ 1048576) (i h : Int) (hc : Cur l i) (t : Int) (ht : -9223372036854775808 ≤ t ∧ t ≤ 9223372036854775807) (z null : Bool) (hz : z = true → null = true) : ∃ (a n : Int) (s : ByteArray) (i' h' : Int),
    Ev (fun k => spec_l2Of.j0 k t z l i h) (a, n, s, i', h') ∧ (a = t ∨ a = 0) ∧ (-1000000000000000 ≤ n ∧ n ≤ 1000000000000000) ∧ s.size ≤ 4 ∧ (1 ≤ t → t ≤ 4 → fitsB t null a n s = true) ∧ Cur l i' := by
  cases hzz : z with
  | true =>
    refine ⟨0, 0, ⟨#[]⟩, i, h, ev_succ ?_, .inr rfl, by omega, by decide, fun _ _ => ?_, hc⟩
    · simp only [spec_l2Of.j0.eq_2, if_true]; exact ev_some _
    · unfold fitsB valOkB; simp [hz hzz, isE_empty]
  | false =>
    by_cases h1 : t = 1
    · subst h1
      obtain ⟨n, i1, h1, e1, hm, c1⟩ := spec_l1Int_ok l hl i h hc [0, 1, 2, 3, -1, 255, 256, 2147483647, -2147483648] (by decide)
      have hn : -2147483648 ≤ n ∧ n ≤ 2147483647 := by simp only [List.mem_cons, List.not_mem_nil, or_false] at hm; omega
      refine ⟨1, n, ⟨#[]⟩, i1, h1, ev_succ ?_, .inl rfl, by omega, by decide, fun _ _ => ?_, c1⟩
      · simp only [spec_l2Of.j0.eq_2, Bool.false_eq_true, if_false, if_true, e1, Option.bind_some]; exact ev_some _
      · unfold fitsB valOkB inB; simp [hn, isE_empty]
    · by_cases h2 : t = 2
      · subst h2
        obtain ⟨a, i1, h1', e1, a0, a1, _, c1⟩ := spec_l1Below_ok l hl i h hc 100000
        have a2 := a1 (by omega)
        have w1 : wrap64 (-a) = -a := w64 (by omega) (by omega)
        obtain ⟨n, i2, h2, e2, hm, c2⟩ := spec_l1Int_ok l hl i1 h1' c1 [0, 1, -1, 255, 256, -256, -257, 65535, 1000000000000000, -1000000000000000, wrap64 (-a)] (by simp)
        rw [w1] at hm
        have hn : -1000000000000000 ≤ n ∧ n ≤ 1000000000000000 := by simp only [List.mem_cons, List.not_mem_nil, or_false] at hm; omega
        refine ⟨2, n, ⟨#[]⟩, i2, h2, ev_succ ?_, .inl rfl, hn, by decide, fun _ _ => ?_, c2⟩
        · simp only [spec_l2Of.j0.eq_2, Bool.false_eq_true, if_false, h1, if_true, e1, Option.bind_some, e2]; exact ev_some _
        · unfold fitsB valOkB inB; simp [hn, isE_empty]
      · by_cases h3 : t = 3
        · subst h3
          obtain ⟨s, i1, h1', e1, hs, c1⟩ := spec_l2Text_ok l hl i h hc
          refine ⟨3, 0, s, i1, h1', ev_succ ?_, .inl rfl, by omega, hs, fun _ _ => ?_, c1⟩
          · simp only [spec_l2Of.j0.eq_2, Bool.false_eq_true, if_false, h1, h2, if_true, e1, Option.bind_some]; exact ev_some _
          · unfold fitsB valOkB; simp; omega
        · obtain ⟨n, i1, h1', e1, a0, a1, _, c1⟩ := spec_l1Below_ok l hl i h hc 2
          have a2 := a1 (by omega)
          refine ⟨t, n, ⟨#[]⟩, i1, h1', ev_succ ?_, .inl rfl, by omega, by decide, fun t1 t4 => ?_, c1⟩
          · simp only [spec_l2Of.j0.eq_2, Bool.false_eq_true, if_false, h1, h2, h3, e1, Option.bind_some]; exact ev_some _
          · have h4 : t = 4 := by omega
            subst h4
            unfold fitsB valOkB inB; simp [isE_empty]
            omega
theorem spec_l2Of_ev (l : List Int) (hl : l.length ≤ 1048576) (i h : Int) (hc : Cur l i) (t : Int) (ht : -9223372036854775808 ≤ t ∧ t ≤ 9223372036854775807) (null : Bool) : ∃ (a n : Int) (s : ByteArray) (i' h' : Int),
    Ev (fun k => spec_l2Of.f k l i h t null) (a, n, s, i', h') ∧ (a = t ∨ a = 0) ∧ (-1000000000000000 ≤ n ∧ n ≤ 1000000000000000) ∧ s.size ≤ 4 ∧ (1 ≤ t → t ≤ 4 → fitsB t null a n s = true) ∧ Cur l i' := by
  unfold spec_l2Of.f
  cases null with
  | true =>
    obtain ⟨z, i1, h1, e1, c1⟩ := spec_l1Once_ok l hl i h hc 4
    simp only [if_true, e1, Option.bind_some]
    exact spec_l2Of_j0 l hl i1 h1 c1 t ht z true (fun _ => rfl)
  | false =>
    simp only [Bool.false_eq_true, if_false]
    exact spec_l2Of_j0 l hl i h hc t ht false false (fun h => by cases h)
attribute [local irreducible] spec_l2Of.f

theorem spec_l6Vals_l0 (l : List Int) (hl : l.length ≤ 1048576) (p : List S30) (hp : planOkB p = true) : ∀ j : Nat, j ≤ p.length → ∀ (out : List S32) (i h : Int), Cur l i → out.length ≤ j →
    ∃ (vs : List S32) (i' h' : Int), Ev (fun k => spec_l6Vals.l0 k p (p.length : Int) out (j : Int) l i h) (out ++ vs, i', h') ∧ vs.length = p.length - j ∧ FitK (p.drop j) vs ∧ Cur l i' := by
  have h6 := planOk_len hp
  refine up_ind p.length (fun j : Nat => ∀ (out : List S32) (i h : Int), Cur l i → out.length ≤ j → ∃ (vs : List S32) (i' h' : Int), Ev (fun k => spec_l6Vals.l0 k p (p.length : Int) out (j : Int) l i h) (out ++ vs, i', h') ∧ vs.length = p.length - j ∧ FitK (p.drop j) vs ∧ Cur l i') ?_ ?_
  · intro out i h hc ho
    refine ⟨[], i, h, ev_succ ?_, by simp, FitK.nil _, hc⟩
    have h1 : ¬ ((p.length : Int) < (p.length : Int)) := by omega
    simp only [spec_l6Vals.l0.eq_2, h1, if_false, List.append_nil]
    exact ev_some _
  · intro j hj ih out i h hc ho
    have hmem := h6.2 p[j] (List.getElem_mem hj)
    have ht := partOk_t hmem
    obtain ⟨a, n, s, i1, h1, hE, _, _, _, hf, c1⟩ := spec_l2Of_ev l hl i h hc p[j].f1 (by omega) p[j].f2
    obtain ⟨vs, i2, h2, hE2, hlen, hfit, c2⟩ := ih (out ++ [⟨a, n, s⟩]) i1 h1 c1 (by rw [List.length_append]; simp only [List.length_cons, List.length_nil]; omega)
    refine ⟨⟨a, n, s⟩ :: vs, i2, h2, ev_succ ?_, by simp only [List.length_cons]; omega, ?_, c2⟩
    · have q1 : (j : Int) < (p.length : Int) := by omega
      have q2 : (0 : Int) ≤ (j : Int) := by omega
      have q3 : out.length < 4398046511104 := by omega
      simp only [spec_l6Vals.l0.eq_2, q1, q2, q3, if_true, rd_T30_nat p j hj, wsucc (show j < 9223372036854775807 by omega)]
      refine Ev.bind hE ?_
      rw [List.append_assoc, List.singleton_append] at hE2
      exact hE2
    · rw [List.drop_eq_getElem_cons hj]
      refine ⟨?_, hfit⟩
      unfold okV okPV
      rw [Bool.and_eq_true]
      exact ⟨hmem, hf ht.1 ht.2⟩
theorem spec_l6Vals_ev (l : List Int) (hl : l.length ≤ 1048576) (i h : Int) (hc : Cur l i) (p : List S30) (hp : planOkB p = true) : ∃ (vs : List S32) (i' h' : Int), Ev (fun k => spec_l6Vals.f k l i h p (p.length : Int)) (vs, i', h') ∧ vs.length = p.length ∧ FitK p vs ∧ Cur l i' := by
  unfold spec_l6Vals.f
  obtain ⟨vs, i1, h1, hE, hlen, hfit, c1⟩ := spec_l6Vals_l0 l hl p hp 0 (by omega) [] i h hc (by simp)
  exact ⟨vs, i1, h1, by simpa using hE, by omega, by simpa using hfit, c1⟩
attribute [local irreducible] spec_l6Vals.f

theorem spec_DrawKeys_ev (l : List Int) (hl : l.length ≤ 1048576) : ∃ (p : List S30) (a b : List S32), Ev (fun k => spec_DrawKeys.f k l) (p, a, b) ∧ planOkB p = true ∧ FitK p a ∧ FitK p b ∧ a.length = p.length ∧ b.length = p.length := by
  unfold spec_DrawKeys.f
  obtain ⟨r, hr⟩ := spec_l1New_ev l hl
  obtain ⟨p, i1, h1, hE1, hp, _, c1⟩ := spec_l6Plan_ev l hl 0 r (Cur.start l)
  obtain ⟨a, i2, h2, hE2, hla, hfa, c2⟩ := spec_l6Vals_ev l hl i1 h1 c1 p hp
  obtain ⟨b, i3, h3, hE3, hlb, hfb, c3⟩ := spec_l6Vals_ev l hl i2 h2 c2 p hp
  exact ⟨p, a, b, Ev.bind hr (Ev.bind hE1 (Ev.bind hE2 (Ev.bind hE3 (ev_some _)))), hp, hfa, hfb, hla, hlb⟩
attribute [local irreducible] spec_DrawKeys.f

theorem impl_SameRow_l0 (a b : List S32) (h : a.length = b.length) (hl : a.length ≤ 9223372036854775807) : ∀ i, i ≤ a.length → Ev (fun k => impl_SameRow.l0 k a b (a.length : Int) (i : Int)) (((a.drop i).zip (b.drop i)).all fun q => sameV q.1 q.2) := by
  refine up_ind a.length (fun i => Ev (fun k => impl_SameRow.l0 k a b (a.length : Int) (i : Int)) (((a.drop i).zip (b.drop i)).all fun q => sameV q.1 q.2)) ?_ ?_
  · refine ev_succ ?_
    have h1 : ¬ ((a.length : Int) < (a.length : Int)) := by omega
    simp only [impl_SameRow.l0.eq_2, h1, if_false]
    rw [List.drop_eq_nil_of_le (show a.length ≤ _ by omega)]
    simpa using ev_some _
  · intro i hi ih
    refine ev_succ ?_
    have h1 : (i : Int) < (a.length : Int) := by omega
    have h2 : (0 : Int) ≤ (i : Int) := by omega
    have hib : i < b.length := by omega
    have h3 : (i : Int) < (b.length : Int) := by omega
    simp only [impl_SameRow.l0.eq_2, h1, h2, h3, if_true, rd_T32_nat a i hi, rd_T32_nat b i hib, sameV_not, wsucc (show i < 9223372036854775807 by omega)]
    rw [List.drop_eq_getElem_cons hi, List.drop_eq_getElem_cons hib, List.zip_cons_cons, List.all_cons]
    cases hp : sameV a[i] b[i]
    · simpa [hp] using ev_some _
    · simpa [hp] using ih
theorem impl_SameRow_ev (a b : List S32) (hl : a.length ≤ 9223372036854775807) : Ev (fun k => impl_SameRow.f k a b) (sameRowB a b) := by
  unfold impl_SameRow.f sameRowB
  by_cases h : a.length = b.length
  · have h1 : (a.length : Int) = (b.length : Int) := by omega
    simp only [h1, if_true, decide_eq_true h, Bool.true_and]
    have := impl_SameRow_l0 a b h hl 0 (by omega)
    simpa [h] using this
  · have h1 : ¬ ((a.length : Int) = (b.length : Int)) := by omega
    simp only [h1, if_false, decide_eq_false h, Bool.false_and]
    exact ev_some _
attribute [local irreducible] impl_SameRow.f

theorem impl_Before_eq (a b : List Int) (ha : IsB a) (hb : IsB b) : impl_Before.f a b = some (ltB a b) := by
  unfold impl_Before.f
  rw [bytesLess_str ha hb]
attribute [local irreducible] impl_Before.f

theorem impl_LessVal_eq (k n : Int) (s : ByteArray) (k' n' : Int) (s' : ByteArray) : impl_LessVal.f k n s k' n' s' = some (lessVB k n s k' n' s') := by
  unfold impl_LessVal.f lessVB
  split
  · split <;> rfl
  · rfl
attribute [local irreducible] impl_LessVal.f

theorem impl_LessPart_eq (a0 a1 : Int) (a2 a3 : Bool) (k n : Int) (s : ByteArray) (k' n' : Int) (s' : ByteArray) : impl_LessPart.f a0 a1 a2 a3 k n s k' n' s' = some (lessPB a3 k n s k' n' s') := by
  unfold impl_LessPart.f lessPB
  simp only [impl_LessVal_eq, Option.bind_some]
  split <;> rfl
attribute [local irreducible] impl_LessPart.f

theorem impl_LessKey_l0 (l : List S30) (a b : List S32) (ha : a.length ≤ 9223372036854775807) : ∀ i, i ≤ a.length → (i ≤ b.length → Ev (fun k => impl_LessKey.l0 k l a b (i : Int)) (lessKeyB (l.drop i) (a.drop i) (b.drop i))) := by
  refine up_ind a.length (fun i => (i ≤ b.length → Ev (fun k => impl_LessKey.l0 k l a b (i : Int)) (lessKeyB (l.drop i) (a.drop i) (b.drop i)))) ?_ ?_
  · intro hb
    refine ev_succ (ev_succ ?_)
    have h1 : ¬ ((a.length : Int) < (a.length : Int)) := by omega
    simp only [impl_LessKey.l0.eq_2, impl_LessKey.j1.eq_2, h1, if_false, Bool.false_eq_true]
    rw [List.drop_eq_nil_of_le (show a.length ≤ _ by omega)]
    have : lessKeyB (l.drop a.length) [] (b.drop a.length) = decide ((a.length : Int) < (b.length : Int)) := by
      unfold lessKeyB
      rw [List.length_drop]
      apply decide_eq_decide.2
      omega
    rw [this]
    exact ev_some _
  · intro i hi ih hb
    refine ev_succ (ev_succ ?_)
    have h1 : (i : Int) < (a.length : Int) := by omega
    have h2 : (0 : Int) ≤ (i : Int) := by omega
    by_cases hib : i < b.length
    · have h3 : (i : Int) < (b.length : Int) := by omega
      simp only [impl_LessKey.l0.eq_2, impl_LessKey.j1.eq_2, h1, h2, h3, if_true, decide_true, rd_T32_nat a i hi, rd_T32_nat b i hib, sameV_not, wsucc (show i < 9223372036854775807 by omega)]
      rw [List.drop_eq_getElem_cons hi, List.drop_eq_getElem_cons hib]
      have hk : lessKeyB (l.drop i) (a[i] :: a.drop (i + 1)) (b[i] :: b.drop (i + 1)) = if sameV a[i] b[i] = true then lessKeyB (l.drop (i + 1)) (a.drop (i + 1)) (b.drop (i + 1)) else lessAt (l.drop i) a[i] b[i] := by
        rw [lessKeyB, List.tail_drop]
        rfl
      rw [hk]
      cases hp : sameV a[i] b[i]
      · simp only [hp, Bool.not_false, Bool.false_eq_true, if_true, if_false]
        by_cases hil : i < l.length
        · have h4 : (i : Int) < (l.length : Int) := by omega
          simp only [h4, if_true, rd_T30_nat l i hil, impl_LessPart_eq, Option.bind_some]
          rw [List.drop_eq_getElem_cons hil]
          exact ev_some _
        · have h4 : ¬ ((i : Int) < (l.length : Int)) := by omega
          simp only [h4, if_false]
          rw [List.drop_eq_nil_of_le (show l.length ≤ _ by omega)]
          exact ev_some _
      · simp only [hp, Bool.not_true, Bool.false_eq_true, if_true, if_false]
        exact ih (by omega)
    · have h3 : ¬ ((i : Int) < (b.length : Int)) := by omega
      simp only [impl_LessKey.l0.eq_2, impl_LessKey.j1.eq_2, h1, h3, if_true, if_false, decide_false, Bool.false_eq_true]
      rw [List.drop_eq_getElem_cons hi, List.drop_eq_nil_of_le (show b.length ≤ _ by omega)]
      have h4 : decide ((a.length : Int) < (b.length : Int)) = false := by apply decide_eq_false; omega
      rw [h4]
      simpa [lessKeyB] using ev_some false
theorem impl_LessKey_ev (l : List S30) (a b : List S32) (ha : a.length ≤ 9223372036854775807) : Ev (fun k => impl_LessKey.f k l a b) (lessKeyB l a b) := by
  unfold impl_LessKey.f
  simpa using impl_LessKey_l0 l a b ha 0 (by omega) (by omega)
attribute [local irreducible] impl_LessKey.f

theorem laws_begins_ev (a b : List Int) (h : a.length ≤ 9223372036854775806) : Ev (fun k => laws_begins.f k a b) (decide (a.take b.length = b)) := by
  unfold laws_begins.f
  by_cases he : b.length ≤ a.length
  · have h1 : (a.length : Int) ≥ (b.length : Int) := by omega
    have h2 : (0 : Int) ≤ (b.length : Int) := by omega
    have h3 : (b.length : Int) ≤ (a.length : Int) := by omega
    simp only [h1, h2, h3, if_true, Int.toNat_natCast]
    exact Ev.bind (laws_sameBytes_ev _ b (by rw [List.length_take]; omega)) (ev_some _)
  · have h1 : ¬ ((a.length : Int) ≥ (b.length : Int)) := by omega
    simp only [h1, if_false]
    rw [decide_eq_false (fun e => he (by rw [← e, List.length_take]; omega))]
    exact ev_some _
attribute [local irreducible] laws_begins.f

--import B
--import O
--import K
theorem fits_n {t : Int} {null : Bool} {k n : Int} {s : ByteArray} (ht : 1 ≤ t ∧ t ≤ 4) (h : fitsB t null k n s = true) : -9223372036854775808 ≤ n ∧ n ≤ 9223372036854775807 := by
  rcases fits_cases h ht with ⟨_, _, h, _⟩ | ⟨_, ⟨_, h, h', _⟩ | ⟨_, h, h', _⟩ | ⟨_, h, _⟩ | ⟨_, h, h', _⟩⟩ <;> omega
theorem FitK.nums : ∀ {l : List S30} {vs : List S32}, FitK l vs → ∀ v ∈ vs, -9223372036854775808 ≤ v.f1 ∧ v.f1 ≤ 9223372036854775807
  | _, [], _, v, hv => by cases hv
  | [], _ :: _, h, _, _ => h.elim
  | p :: l, u :: vs, h, v, hv => by
    rcases List.mem_cons.1 hv with rfl | hv
    · have := h.1
      unfold okV okPV at this
      rw [Bool.and_eq_true] at this
      exact fits_n (partOk_t this.1) this.2
    · exact FitK.nums h.2 v hv
theorem FnKeys : laws_FnKeys.Pure := by
  intro l0 hm0 hb0 hw0
  refine Ev.rounds ?_
  unfold laws_FnKeys.f
  simp only [laws_big_eq, Option.bind_some]
  by_cases hn0 : (l0.length : Int) > 1048576
  · simp only [hn0, decide_true, if_true]; exact ev_some _
  simp only [hn0, decide_false, Bool.false_eq_true, if_false]
  have hl : l0.length ≤ 1048576 := by omega
  have hb0' := isB_wf hw0
  obtain ⟨p, a, b, hE, hp, hfa, hfb, hla, hlb⟩ := spec_DrawKeys_ev l0 hl
  have h6 := (planOk_len hp).1
  have eA := impl_EncodeKey_ev p a (by omega) (by omega) hfa.nums
  have eB := impl_EncodeKey_ev p b (by omega) (by omega) hfb.nums
  have lA := encKey_len p a
  have lB := encKey_len p b
  have dA := impl_DecodeKey_ev p (encKey p a) (encKey_isB p a) (by omega) (by omega)
  have dB := impl_DecodeKey_ev p (encKey p b) (encKey_isB p b) (by omega) (by omega)
  rw [dec_enc hp hfa hla] at dA
  rw [dec_enc hp hfb hlb] at dB
  refine Ev.bind hE (Ev.bind eA (Ev.bind eB (Ev.bind dA (Ev.bind dB ?_))))
  have sAA := impl_SameRow_ev a a (by omega)
  have sBB := impl_SameRow_ev b b (by omega)
  rw [(sameRow_iff a a).2 rfl] at sAA
  rw [(sameRow_iff b b).2 rfl] at sBB
  have ePl := impl_PlanOk_ev p (by omega)
  rw [hp] at ePl
  have eF := impl_FitsAll_ev p a (by omega)
  rw [hfa.fits] at eF
  simp only [if_true]
  refine Ev.bind sAA ?_
  simp only [if_true]
  refine Ev.bind sBB ?_
  simp only [if_true]
  refine Ev.bind ePl ?_
  simp only [if_true]
  refine Ev.bind eF ?_
  refine ev_succ ?_
  simp only [laws_FnKeys.j0.eq_2, Bool.not_true, Bool.false_eq_true, if_false]
  refine Ev.bind (impl_SameRow_ev a b (by omega)) ?_
  simp only [impl_Before_eq _ _ (encKey_isB p a) (encKey_isB p b), Option.bind_some]
  refine Ev.bind (impl_LessKey_ev p a b (by omega)) ?_
  have hab : a.length = b.length := by omega
  rw [enc_fit hp hfa] at lA ⊢
  rw [enc_fit hp hfb] at lB ⊢
  have sb := laws_sameBytes_ev (keyB p a) (keyB p b) (by omega)
  have b1 := laws_begins_ev (keyB p a) (keyB p b) (by omega)
  have b2 := laws_begins_ev (keyB p b) (keyB p a) (by omega)
  rcases key_tri p a b hfa hfb hab with heq | hlt | hgt
  · subst heq
    rw [ltB_self, lessKey_self p a hfa, (sameRow_iff a a).2 rfl]
    simp only [BEq.rfl, if_true]
    rw [decide_eq_true rfl] at sb
    refine Ev.bind sb ?_
    simp only [BEq.rfl, if_true]
    exact ev_some _
  · have hL := key_lt p a b hfa hfb hab hlt
    have hne : sameRowB a b = false := by
      cases h : sameRowB a b with
      | false => rfl
      | true => rw [(sameRow_iff a b).1 h] at hL; exact absurd rfl hL.ne
    rw [hL.ltB, hlt, hne]
    simp only [BEq.rfl, if_true]
    rw [decide_eq_false hL.ne] at sb
    refine Ev.bind sb ?_
    simp only [BEq.rfl, if_true, Bool.false_eq_true, if_false]
    rw [decide_eq_false hL.no_prefix.1] at b1
    rw [decide_eq_false hL.no_prefix.2] at b2
    refine Ev.bind b1 ?_
    simp only [Bool.false_eq_true, if_false]
    refine Ev.bind b2 ?_
    exact ev_some _
  · have hL := key_lt p b a hfb hfa hab.symm hgt
    have hne : sameRowB a b = false := by
      cases h : sameRowB a b with
      | false => rfl
      | true => rw [(sameRow_iff a b).1 h] at hL; exact absurd rfl hL.ne
    rw [hL.ltB', lessKey_asymm hfb hfa hab.symm hgt, hne]
    simp only [BEq.rfl, if_true]
    rw [decide_eq_false (fun e => hL.ne e.symm)] at sb
    refine Ev.bind sb ?_
    simp only [BEq.rfl, if_true, Bool.false_eq_true, if_false]
    rw [decide_eq_false hL.no_prefix.2] at b1
    rw [decide_eq_false hL.no_prefix.1] at b2
    refine Ev.bind b1 ?_
    simp only [Bool.false_eq_true, if_false]
    refine Ev.bind b2 ?_
    exact ev_some _

end Go.Proofs.Ytnfmpopmigbkoaa.Pure

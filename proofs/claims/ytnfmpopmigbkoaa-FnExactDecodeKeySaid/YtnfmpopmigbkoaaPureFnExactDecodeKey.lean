/- DecodeKey answers as the reference does, whatever the plan and the bytes; its answer is new memory, and what came in stays as it is. No condition. -/
import Derived.Test.YtnfmpopmigbkoaaPFnExactDecodeKeyx12
import Derived.Test.YtnfmpopmigbkoaaUFnExactDecodeKey
namespace Go.Proofs.Ytnfmpopmigbkoaa.Pure
open Go.RowKit Go.Proofs.Ytnfmpopmigbkoaa.PFnExactDecodeKey Go.Proofs.YtnfmpopmigbkoaaW.PrintWords Go.Proofs.YtnfmpopmigbkoaaW.PrintLast Go.Proofs.YtnfmpopmigbkoaaW.PrintMore Go.Proofs.YtnfmpopmigbkoaaM
set_option linter.unusedVariables false
set_option linter.unusedSimpArgs false

theorem rd_T24_nat (xs : List S24) (i : Nat) (h : i < xs.length) : rd_T24 xs (i : Int) = xs[i] := by
  unfold rd_T24; simp [List.getD_eq_getElem?_getD, h]

theorem rd_T30_nat (xs : List S30) (i : Nat) (h : i < xs.length) : rd_T30 xs (i : Int) = xs[i] := by
  unfold rd_T30; simp [List.getD_eq_getElem?_getD, h]
def planOkB (l : List S30) : Bool := decide (l.length ≤ 6) && l.all fun p => partOkB p.f0 p.f1

theorem rd_T32_nat (xs : List S32) (i : Nat) (h : i < xs.length) : rd_T32 xs (i : Int) = xs[i] := by
  unfold rd_T32; simp [List.getD_eq_getElem?_getD, h]
def sameV (a b : S32) : Bool := sameVB a.f0 a.f1 a.f2 b.f0 b.f1 b.f2
theorem sameV_not (a b : S32) : (!(a.f0 == b.f0) || (!(a.f1 == b.f1) || (!(a.f2.toList == b.f2.toList)))) = !sameV a b := by
  unfold sameV sameVB; cases a.f0 == b.f0 <;> cases a.f1 == b.f1 <;> cases a.f2.toList == b.f2.toList <;> rfl
def sameRowB (a b : List S32) : Bool := decide (a.length = b.length) && (a.zip b).all fun q => sameV q.1 q.2

def fitsV (p : S30) (v : S32) : Bool := fitsB p.f1 p.f2 v.f0 v.f1 v.f2
def fitsAllB (l : List S30) (v : List S32) : Bool := decide (v.length ≤ l.length) && (l.zip v).all fun q => fitsV q.1 q.2
def lessAt (l : List S30) (a b : S32) : Bool := match l with
  | [] => false
  | p :: _ => lessPB p.f3 a.f0 a.f1 a.f2 b.f0 b.f1 b.f2
def lessKeyB : List S30 → List S32 → List S32 → Bool
  | l, a :: a2, b :: b2 => if sameVB a.f0 a.f1 a.f2 b.f0 b.f1 b.f2 = true then lessKeyB l.tail a2 b2 else lessAt l a b
  | _, [], b2 => decide (0 < b2.length)
  | _, _ :: _, [] => false
def pickV (row : List S32) (p : S30) : S32 := if inB p.f0 0 ((row.length : Int) - 1) = true then ⟨(rd_T32 row p.f0).f0, (rd_T32 row p.f0).f1, (rd_T32 row p.f0).f2⟩ else ⟨0, 0, ⟨#[]⟩⟩
def pickB (l : List S30) (row : List S32) : List S32 := l.map (pickV row)
def ppB (p : S30) (v : S32) : List Int := putPart p.f0 p.f1 p.f2 p.f3 v.f0 v.f1 v.f2
theorem ppB_len (p : S30) (v : S32) : (ppB p v).length ≤ 63 := putPart_len _ _ _ _ _ _ _
theorem ppB_isB (p : S30) (v : S32) : IsB (ppB p v) := putPart_isB _ _ _ _ _ _ _
/-- a key's bytes -/
def keyB : List S30 → List S32 → List Int
  | p :: l, v :: vs => ppB p v ++ keyB l vs
  | _, _ => []
theorem keyB_nil_r (l : List S30) : keyB l [] = [] := by cases l <;> rfl
theorem keyB_cons (p : S30) (l : List S30) (v : S32) (vs : List S32) : keyB (p :: l) (v :: vs) = ppB p v ++ keyB l vs := rfl
theorem keyB_isB : ∀ (l : List S30) (vs : List S32), IsB (keyB l vs)
  | _, [] => by rw [keyB_nil_r]; exact IsB.nil
  | [], _ :: _ => IsB.nil
  | p :: l, v :: vs => (ppB_isB p v).append (keyB_isB l vs)
theorem keyB_len : ∀ (l : List S30) (vs : List S32), (keyB l vs).length ≤ 63 * l.length
  | l, [] => by rw [keyB_nil_r]; simp
  | [], _ :: _ => by simp [keyB]
  | p :: l, v :: vs => by
    have h1 := keyB_len l vs
    have h2 := ppB_len p v
    rw [keyB_cons, List.length_append, List.length_cons]
    omega
def encKey (l : List S30) (v : List S32) : List Int := if (planOkB l && fitsAllB l v) = true then keyB l v else []
theorem encKey_isB (l : List S30) (v : List S32) : IsB (encKey l v) := by
  unfold encKey; split
  · exact keyB_isB l v
  · exact IsB.nil
theorem planOk_len {l : List S30} (h : planOkB l = true) : l.length ≤ 6 ∧ ∀ p ∈ l, partOkB p.f0 p.f1 = true := by
  unfold planOkB at h
  rw [Bool.and_eq_true] at h
  exact ⟨of_decide_eq_true h.1, by simpa using h.2⟩
theorem encKey_len (l : List S30) (v : List S32) : (encKey l v).length ≤ 378 := by
  unfold encKey; split
  · rename_i h
    rw [Bool.and_eq_true] at h
    have := (planOk_len h.1).1
    have := keyB_len l v
    omega
  · simp
/-- what is read of bytes as a key's values, from a place on -/
def gpB (b : List Int) (p : S30) (i : Int) : Int × Int × ByteArray × Int × Bool := getPart b p.f0 p.f1 p.f2 p.f3 i
def gpV (r : Int × Int × ByteArray × Int × Bool) : S32 := ⟨r.1, r.2.1, r.2.2.1⟩
def decL : List S30 → List Int → Int → Option (List S32 × Int)
  | [], _, i => some ([], i)
  | p :: l, b, i => if (gpB b p i).2.2.2.2 = true then (match decL l b (gpB b p i).2.2.2.1 with
    | some r => some (gpV (gpB b p i) :: r.1, r.2)
    | none => none) else none
def decR (b : List Int) (out : List S32) : Option (List S32 × Int) → List S32 × Bool
  | some r => if r.2 = (b.length : Int) then (out ++ r.1, true) else ([], false)
  | none => ([], false)
def decKey (l : List S30) (b : List Int) : List S32 × Bool := if planOkB l = true then decR b [] (decL l b 0) else ([], false)
theorem decL_len : ∀ (l : List S30) (b : List Int) (i : Int) (r : List S32 × Int), decL l b i = some r → r.1.length = l.length
  | [], b, i, r, h => by
    obtain rfl := Option.some.inj h
    rfl
  | p :: l, b, i, r, h => by
    rw [decL] at h
    split at h
    · split at h
      · rename_i q hq
        obtain rfl := Option.some.inj h
        simp only [List.length_cons, decL_len l b _ q hq]
      · cases h
    · cases h
theorem decKey_len (l : List S30) (b : List Int) : (decKey l b).1.length ≤ l.length := by
  unfold decKey decR
  split
  · split
    · rename_i r hr
      split
      · simp only [List.nil_append, decL_len l b 0 r hr]; omega
      · simp
    · simp
  · simp
theorem decR_cons (b : List Int) (out : List S32) (p : S30) (l : List S30) (i : Int) (h : (gpB b p i).2.2.2.2 = true) : decR b out (decL (p :: l) b i) = decR b (out ++ [gpV (gpB b p i)]) (decL l b (gpB b p i).2.2.2.1) := by
  rw [decL, if_pos h]
  cases decL l b (gpB b p i).2.2.2.1 with
  | none => rfl
  | some r => simp only [decR, List.append_assoc, List.singleton_append]
theorem decR_none (b : List Int) (out : List S32) (p : S30) (l : List S30) (i : Int) (h : ¬ (gpB b p i).2.2.2.2 = true) : decR b out (decL (p :: l) b i) = ([], false) := by
  rw [decL, if_neg h]; rfl


theorem laws_toByteS_l0 (l : List Int) (h : l.length ≤ 1048576) : ∀ i, i ≤ l.length → ∀ xs : List Int, xs.length = l.length →
    Ev (fun k => laws_toByteS.l0 k l xs (i : Int)) (xs.take i ++ l.drop i) := by
  refine up_ind l.length (fun i => ∀ xs : List Int, xs.length = l.length → Ev (fun k => laws_toByteS.l0 k l xs (i : Int)) (xs.take i ++ l.drop i)) ?_ ?_
  · intro xs hx
    refine ev_succ ?_
    have h1 : ¬ ((l.length : Int) < (l.length : Int)) := by omega
    simp only [laws_toByteS.l0.eq_2, h1, if_false]
    rw [List.take_of_length_le (by omega), List.drop_eq_nil_of_le (by omega)]
    simpa using ev_some xs
  · intro i hi ih xs hx
    refine ev_succ ?_
    have h1 : (i : Int) < (l.length : Int) := by omega
    have h2 : (0 : Int) ≤ (i : Int) := by omega
    have h3 : (i : Int) < (xs.length : Int) := by omega
    simp only [laws_toByteS.l0.eq_2, h1, h2, h3, if_true, rd_nat l i hi, Int.toNat_natCast, wsucc (show i < 9223372036854775807 by omega)]
    have := ih (xs.set i l[i]) (by simp [hx])
    rw [take_set_succ _ _ _ (by omega)] at this
    rw [List.drop_eq_getElem_cons hi]
    simpa using this
theorem laws_toByteS_ev (l : List Int) (h : l.length ≤ 1048576) : Ev (fun k => laws_toByteS.f k l) l := by
  unfold laws_toByteS.f
  have h1 : (0 : Int) ≤ (l.length : Int) := by omega
  have h2 : l.length ≤ 281474976710656 := by omega
  simp only [h1, h2, if_true, Int.toNat_natCast]
  simpa using laws_toByteS_l0 l h 0 (by omega) (List.replicate l.length 0) (by simp)
attribute [local irreducible] laws_toByteS.f

theorem laws_eqByteS_l0 (l : List Int) (h : l.length ≤ 9223372036854775807) : ∀ i, i ≤ l.length → Ev (fun k => laws_eqByteS.l0 k l l (i : Int)) true := by
  refine up_ind l.length (fun i => Ev (fun k => laws_eqByteS.l0 k l l (i : Int)) true) ?_ ?_
  · refine ev_succ ?_
    have h1 : ¬ ((l.length : Int) < (l.length : Int)) := by omega
    simp only [laws_eqByteS.l0.eq_2, h1, if_false]
    exact ev_some _
  · intro i hi ih
    refine ev_succ ?_
    have h1 : (i : Int) < (l.length : Int) := by omega
    have h2 : (0 : Int) ≤ (i : Int) := by omega
    simp only [laws_eqByteS.l0.eq_2, h1, h2, if_true, wsucc (show i < 9223372036854775807 by omega)]
    exact ih
theorem laws_eqByteS_ev (l : List Int) (h : l.length ≤ 9223372036854775807) : Ev (fun k => laws_eqByteS.f k l l) true := by
  unfold laws_eqByteS.f
  simp only [if_true]
  exact laws_eqByteS_l0 l h 0 (by omega)
attribute [local irreducible] laws_eqByteS.f

theorem laws_markByteS_l0 (n : Nat) (hn : n ≤ 4294967296) (a : Int) (ha : 0 ≤ a ∧ a ≤ 4294967296) : ∀ i, i ≤ n → ∀ xs : List Int, xs.length = n →
    Ev (fun k => laws_markByteS.l0 k xs (a + i) (i : Int)) (a + n, xs.take i ++ (marks a n).drop i) := by
  refine up_ind n (fun i => ∀ xs : List Int, xs.length = n → Ev (fun k => laws_markByteS.l0 k xs (a + i) (i : Int)) (a + n, xs.take i ++ (marks a n).drop i)) ?_ ?_
  · intro xs hx
    refine ev_succ ?_
    have h1 : ¬ ((n : Int) < (xs.length : Int)) := by omega
    simp only [laws_markByteS.l0.eq_2, h1, if_false]
    rw [List.take_of_length_le (by omega), List.drop_eq_nil_of_le (by rw [marks_len]; omega), List.append_nil]
    exact ev_some _
  · intro i hi ih xs hx
    refine ev_succ ?_
    have h1 : (i : Int) < (xs.length : Int) := by omega
    have h2 : (0 : Int) ≤ (i : Int) := by omega
    have h3 : wrap64 (a + (i : Int) + 1) = a + ((i + 1 : Nat) : Int) := by rw [w64 (by omega) (by omega)]; omega
    simp only [laws_markByteS.l0.eq_2, h1, h2, h3, if_true, Int.toNat_natCast, wsucc (show i < 9223372036854775807 by omega)]
    have := ih (xs.set i ((a + (i : Int)) % 256)) (by simp [hx])
    rw [take_set_succ _ _ _ (by omega), List.append_assoc] at this
    rw [List.drop_eq_getElem_cons (by rw [marks_len]; exact hi), marks_get]
    exact this
theorem laws_markByteS_ev (l : List Int) (a : Int) (ha : 0 ≤ a ∧ a ≤ 4294967296) (h : l.length ≤ 4294967296) : Ev (fun k => laws_markByteS.f k l a) (a + l.length, marks a l.length) := by
  unfold laws_markByteS.f
  simpa using laws_markByteS_l0 l.length h a ha 0 (by omega) l rfl
attribute [local irreducible] laws_markByteS.f

theorem laws_szPartS_eq (l : List S24) (left : Int) (hl : l.length ≤ maxLen) (h0 : 0 ≤ left) (h1 : left ≤ 1048576) :
    ∃ r : Int, laws_szPartS.f l left = some r ∧ r ≤ left ∧ (0 ≤ r → r = left - l.length) := by
  unfold laws_szPartS.f
  unfold maxLen at hl
  rw [w64 (by omega) (by omega)]
  split
  · exact ⟨-1, rfl, by omega, by omega⟩
  · exact ⟨_, rfl, by omega, fun _ => rfl⟩
attribute [local irreducible] laws_szPartS.f

theorem laws_toPart_eq (a b : Int) (c d : Bool) : laws_toPart.f a b c d = some (a, b, c, d) := rfl
attribute [local irreducible] laws_toPart.f

def cvP (p : S24) : S30 := ⟨p.f0, p.f1, p.f2, p.f3⟩
theorem laws_toPartS_l0 (l : List S24) (h : l.length ≤ 1048576) : ∀ i, i ≤ l.length → ∀ xs : List S30, xs.length = l.length →
    Ev (fun k => laws_toPartS.l0 k l xs (i : Int)) (xs.take i ++ (l.drop i).map cvP) := by
  refine up_ind l.length (fun i => ∀ xs : List S30, xs.length = l.length → Ev (fun k => laws_toPartS.l0 k l xs (i : Int)) (xs.take i ++ (l.drop i).map cvP)) ?_ ?_
  · intro xs hx
    refine ev_succ ?_
    have h1 : ¬ ((l.length : Int) < (l.length : Int)) := by omega
    simp only [laws_toPartS.l0.eq_2, h1, if_false]
    rw [List.take_of_length_le (by omega), List.drop_eq_nil_of_le (by omega)]
    simpa using ev_some xs
  · intro i hi ih xs hx
    refine ev_succ ?_
    have h1 : (i : Int) < (l.length : Int) := by omega
    have h2 : (0 : Int) ≤ (i : Int) := by omega
    have h3 : (i : Int) < (xs.length : Int) := by omega
    simp only [laws_toPartS.l0.eq_2, h1, h2, h3, if_true, laws_toPart_eq, Option.bind_some, rd_T24_nat l i hi, Int.toNat_natCast, wsucc (show i < 9223372036854775807 by omega)]
    have := ih (xs.set i (cvP l[i])) (by simp [hx])
    rw [take_set_succ _ _ _ (by omega)] at this
    rw [List.append_assoc] at this
    rw [List.drop_eq_getElem_cons hi]
    exact this
theorem laws_toPartS_ev (l : List S24) (h : l.length ≤ 1048576) : Ev (fun k => laws_toPartS.f k l) (l.map cvP) := by
  unfold laws_toPartS.f
  have h1 : (0 : Int) ≤ (l.length : Int) := by omega
  have h2 : l.length ≤ 11728124029610 := by omega
  simp only [h1, h2, if_true, Int.toNat_natCast]
  simpa using laws_toPartS_l0 l h 0 (by omega) (List.replicate l.length z30) (by simp)
attribute [local irreducible] laws_toPartS.f

theorem laws_eqPart_refl (a b : Int) (c d : Bool) : laws_eqPart.f a b c d a b c d = some true := by unfold laws_eqPart.f; simp
attribute [local irreducible] laws_eqPart.f

theorem laws_eqPartS_l0 (l : List S30) (h : l.length ≤ 9223372036854775807) : ∀ i, i ≤ l.length → Ev (fun k => laws_eqPartS.l0 k l l (i : Int)) true := by
  refine up_ind l.length (fun i => Ev (fun k => laws_eqPartS.l0 k l l (i : Int)) true) ?_ ?_
  · refine ev_succ ?_
    have h1 : ¬ ((l.length : Int) < (l.length : Int)) := by omega
    simp only [laws_eqPartS.l0.eq_2, h1, if_false]
    exact ev_some _
  · intro i hi ih
    refine ev_succ ?_
    have h1 : (i : Int) < (l.length : Int) := by omega
    have h2 : (0 : Int) ≤ (i : Int) := by omega
    simp only [laws_eqPartS.l0.eq_2, h1, h2, if_true, laws_eqPart_refl, Option.bind_some, wsucc (show i < 9223372036854775807 by omega)]
    exact ih
theorem laws_eqPartS_ev (l : List S30) (h : l.length ≤ 9223372036854775807) : Ev (fun k => laws_eqPartS.f k l l) true := by
  unfold laws_eqPartS.f
  simp only [if_true]
  exact laws_eqPartS_l0 l h 0 (by omega)
attribute [local irreducible] laws_eqPartS.f

theorem laws_eqVal_refl (a b : Int) (s : ByteArray) : laws_eqVal.f a b s a b s = some true := by unfold laws_eqVal.f; simp
attribute [local irreducible] laws_eqVal.f

theorem laws_eqValS_l0 (l : List S32) (h : l.length ≤ 9223372036854775807) : ∀ i, i ≤ l.length → Ev (fun k => laws_eqValS.l0 k l l (i : Int)) true := by
  refine up_ind l.length (fun i => Ev (fun k => laws_eqValS.l0 k l l (i : Int)) true) ?_ ?_
  · refine ev_succ ?_
    have h1 : ¬ ((l.length : Int) < (l.length : Int)) := by omega
    simp only [laws_eqValS.l0.eq_2, h1, if_false]
    exact ev_some _
  · intro i hi ih
    refine ev_succ ?_
    have h1 : (i : Int) < (l.length : Int) := by omega
    have h2 : (0 : Int) ≤ (i : Int) := by omega
    simp only [laws_eqValS.l0.eq_2, h1, h2, if_true, laws_eqVal_refl, Option.bind_some, wsucc (show i < 9223372036854775807 by omega)]
    exact ih
theorem laws_eqValS_ev (l : List S32) (h : l.length ≤ 9223372036854775807) : Ev (fun k => laws_eqValS.f k l l) true := by
  unfold laws_eqValS.f
  simp only [if_true]
  exact laws_eqValS_l0 l h 0 (by omega)
attribute [local irreducible] laws_eqValS.f

theorem laws_markPartS_l0 (n : Nat) (hn : n ≤ 4294967296) (a : Int) (ha : 0 ≤ a ∧ a ≤ 4294967296) : ∀ i, i ≤ n → ∀ xs : List S30, xs.length = n →
    ∃ l' : List S30, Ev (fun k => laws_markPartS.l0 k xs (a + 4 * (i : Int)) (i : Int)) (a + 4 * (n : Int), l') := by
  refine up_ind n (fun i => ∀ xs : List S30, xs.length = n → ∃ l' : List S30, Ev (fun k => laws_markPartS.l0 k xs (a + 4 * (i : Int)) (i : Int)) (a + 4 * (n : Int), l')) ?_ ?_
  · intro xs hx
    refine ⟨xs, ev_succ ?_⟩
    have h1 : ¬ ((n : Int) < (xs.length : Int)) := by omega
    simp only [laws_markPartS.l0.eq_2, h1, if_false]
    exact ev_some _
  · intro i hi ih xs hx
    have h1 : (i : Int) < (xs.length : Int) := by omega
    have h2 : (0 : Int) ≤ (i : Int) := by omega
    have w1 : wrap64 (a + 4 * (i : Int) + 1) = a + 4 * (i : Int) + 1 := w64 (by omega) (by omega)
    have w2 : wrap64 (a + 4 * (i : Int) + 1 + 1) = a + 4 * (i : Int) + 2 := by rw [w64 (by omega) (by omega)]; omega
    have w3 : wrap64 (a + 4 * (i : Int) + 2 + 1) = a + 4 * (i : Int) + 3 := by rw [w64 (by omega) (by omega)]; omega
    have w4 : wrap64 (a + 4 * (i : Int) + 3 + 1) = a + 4 * ((i + 1 : Nat) : Int) := by rw [w64 (by omega) (by omega)]; omega
    have key : ∀ y : List S30, y.length = n → ∃ l' : List S30, Ev (fun k => laws_markPartS.l0 k y (a + 4 * ((i + 1 : Nat) : Int)) ((i + 1 : Nat) : Int)) (a + 4 * (n : Int), l') := ih
    suffices h : ∃ y : List S30, y.length = n ∧ ∀ r, Ev (fun k => laws_markPartS.l0 k y (a + 4 * ((i + 1 : Nat) : Int)) ((i + 1 : Nat) : Int)) r → Ev (fun k => laws_markPartS.l0 k xs (a + 4 * (i : Int)) (i : Int)) r by
      obtain ⟨y, hy, hr⟩ := h
      obtain ⟨l', hl⟩ := key y hy
      exact ⟨l', hr _ hl⟩
    apply Exists.intro
    apply And.intro
    rotate_left
    · intro r hr
      refine ev_succ ?_
      simp only [laws_markPartS.l0.eq_2, h1, h2, if_true, Option.bind_some, Int.toNat_natCast, w1, w2, w3, w4, wsucc (show i < 9223372036854775807 by omega)]
      exact hr
    · simp only [List.length_set]; exact hx
theorem laws_markPartS_ev (l : List S30) (a : Int) (ha : 0 ≤ a ∧ a ≤ 4294967296) (h : l.length ≤ 4294967296) : ∃ l' : List S30, Ev (fun k => laws_markPartS.f k l a) (a + 4 * (l.length : Int), l') := by
  unfold laws_markPartS.f
  simpa using laws_markPartS_l0 l.length h a ha 0 (by omega) l rfl
attribute [local irreducible] laws_markPartS.f

/-- the text by which a value is marked -/
def mt (x : Nat) (acc : ByteArray) : ByteArray := if h : x = 0 then (⟨#[109]⟩ : ByteArray) ++ acc else mt (x / 10) (strOfNums [(wrap64 (48 + (Int.tmod (x : Int) 10))) % 256] ++ acc)
termination_by x
decreasing_by omega
def mtext (a : Int) : ByteArray := if a ≤ 0 then (⟨#[109, 48]⟩ : ByteArray) else mt a.toNat ⟨#[]⟩
theorem laws_markText_l0 : ∀ (d x : Nat), x ≤ d → ∀ acc : ByteArray, x ≤ 1000000000000000 → acc.size + x ≤ 1000000000000000000 → Ev (fun k => laws_markText.l0 k (x : Int) acc) (mt x acc) := by
  intro d
  induction d with
  | zero =>
    intro x hx acc h1 h2
    have h0 : x = 0 := by omega
    subst h0
    refine ev_succ ?_
    have q : 1 + acc.size ≤ 9223372036854775807 := by omega
    simp only [laws_markText.l0.eq_2, show ¬ (((0 : Nat) : Int) > 0) by decide, if_false, q, if_true]
    rw [mt, dif_pos rfl]
    exact ev_some _
  | succ d ih =>
    intro x hx acc h1 h2
    by_cases h0 : x = 0
    · exact ih x (by omega) acc h1 h2
    · refine ev_succ ?_
      have q1 : (x : Int) > 0 := by omega
      have e : wrap64 (Int.tdiv (x : Int) 10) = ((x / 10 : Nat) : Int) := by
        rw [Int.tdiv_eq_ediv_of_nonneg (by omega)]
        rw [w64 (by omega) (by omega)]; omega
      simp only [laws_markText.l0.eq_2, q1, if_true, Option.bind_some, e]
      have hsz : (strOfNums [(wrap64 (48 + (Int.tmod (x : Int) 10))) % 256]).size = 1 := by rw [strOfNums_size]; rfl
      have q2 : (strOfNums [(wrap64 (48 + (Int.tmod (x : Int) 10))) % 256]).size + acc.size ≤ 9223372036854775807 := by rw [hsz]; omega
      simp only [q2, if_true]
      rw [mt, dif_neg h0]
      refine ih (x / 10) (by omega) _ (by omega) ?_
      rw [ByteArray.size_append, hsz]
      omega
theorem laws_markText_ev (a : Int) (h : a ≤ 1000000000000000) : Ev (fun k => laws_markText.f k a) (mtext a) := by
  unfold laws_markText.f mtext
  by_cases h0 : a ≤ 0
  · simp only [h0, if_true]; exact ev_some _
  · simp only [h0, if_false]
    have := laws_markText_l0 a.toNat a.toNat (Nat.le_refl _) ⟨#[]⟩ (by omega) (by simp only [show (⟨#[]⟩ : ByteArray).size = 0 from rfl]; omega)
    rw [show ((a.toNat : Nat) : Int) = a by omega] at this
    exact this
attribute [local irreducible] laws_markText.f

theorem rd_set_T32 (xs : List S32) (i : Nat) (h : i < xs.length) (v : S32) : rd_T32 (xs.set i v) (i : Int) = v := by
  rw [rd_T32_nat _ _ (by rw [List.length_set]; exact h), List.getElem_set_self]
def markVs (a : Int) (n : Nat) : List S32 := (List.range n).map fun i : Nat => ⟨a + 3 * (i : Int), a + 3 * (i : Int) + 1, mtext (a + 3 * (i : Int) + 2)⟩
theorem markVs_len (a : Int) (n : Nat) : (markVs a n).length = n := by simp [markVs]
theorem markVs_get (a : Int) (n i : Nat) (h : i < (markVs a n).length) : (markVs a n)[i] = ⟨a + 3 * (i : Int), a + 3 * (i : Int) + 1, mtext (a + 3 * (i : Int) + 2)⟩ := by simp [markVs]
theorem laws_markValS_l0 (n : Nat) (hn : n ≤ 4294967296) (a : Int) (ha : 0 ≤ a ∧ a ≤ 17179869184) : ∀ i, i ≤ n → ∀ xs : List S32, xs.length = n →
    Ev (fun k => laws_markValS.l0 k xs (a + 3 * (i : Int)) (i : Int)) (a + 3 * (n : Int), xs.take i ++ (markVs a n).drop i) := by
  refine up_ind n (fun i => ∀ xs : List S32, xs.length = n → Ev (fun k => laws_markValS.l0 k xs (a + 3 * (i : Int)) (i : Int)) (a + 3 * (n : Int), xs.take i ++ (markVs a n).drop i)) ?_ ?_
  · intro xs hx
    refine ev_succ ?_
    have h1 : ¬ ((n : Int) < (xs.length : Int)) := by omega
    simp only [laws_markValS.l0.eq_2, h1, if_false]
    rw [List.take_of_length_le (by omega), List.drop_eq_nil_of_le (by rw [markVs_len]; omega), List.append_nil]
    exact ev_some _
  · intro i hi ih xs hx
    refine ev_succ ?_
    have hix : i < xs.length := by omega
    have h1 : (i : Int) < (xs.length : Int) := by omega
    have h2 : (0 : Int) ≤ (i : Int) := by omega
    have w1 : wrap64 (a + 3 * (i : Int) + 1) = a + 3 * (i : Int) + 1 := w64 (by omega) (by omega)
    have w2 : wrap64 (a + 3 * (i : Int) + 1 + 1) = a + 3 * (i : Int) + 2 := by rw [w64 (by omega) (by omega)]; omega
    have w3 : wrap64 (a + 3 * (i : Int) + 2 + 1) = a + 3 * ((i + 1 : Nat) : Int) := by rw [w64 (by omega) (by omega)]; omega
    simp only [laws_markValS.l0.eq_2, h1, h2, if_true, Option.bind_some, Int.toNat_natCast, w1, w2, w3, wsucc (show i < 9223372036854775807 by omega), rd_set_T32, List.length_set, hix, List.set_set]
    refine Ev.bind (laws_markText_ev _ (by omega)) ?_
    have := ih (xs.set i ⟨a + 3 * (i : Int), a + 3 * (i : Int) + 1, mtext (a + 3 * (i : Int) + 2)⟩) (by simp [hx])
    rw [take_set_succ _ _ _ (by omega), List.append_assoc] at this
    rw [List.drop_eq_getElem_cons (by rw [markVs_len]; exact hi), markVs_get]
    exact this
theorem laws_markValS_ev (l : List S32) (a : Int) (ha : 0 ≤ a ∧ a ≤ 17179869184) (h : l.length ≤ 4294967296) : Ev (fun k => laws_markValS.f k l a) (a + 3 * (l.length : Int), markVs a l.length) := by
  unfold laws_markValS.f
  simpa using laws_markValS_l0 l.length h a ha 0 (by omega) l rfl
attribute [local irreducible] laws_markValS.f

theorem spec_l1In_eq (a b c : Int) : spec_l1In.f a b c = some (inB a b c) := in_ite a b c
attribute [local irreducible] spec_l1In.f

theorem spec_PartOk_eq (a0 a1 : Int) (a2 a3 : Bool) : spec_PartOk.f a0 a1 a2 a3 = some (partOkB a0 a1) := by
  unfold spec_PartOk.f partOkB
  simp only [spec_l1In_eq, Option.bind_some]
  cases inB a0 0 9 <;> simp
attribute [local irreducible] spec_PartOk.f

theorem spec_Flip_l0 (l : List Int) (hl : l.length ≤ 140737480000000) (hb : IsB l) (p : Int) : ∀ i : Nat, i ≤ l.length → ∀ xs : List Int, xs.length = l.length → xs.drop i = l.drop i →
    Ev (fun k => spec_Flip.l0 k p xs (i : Int)) (xs.take i ++ flipB (l.drop i) (p - i)) := by
  refine up_ind l.length (fun i : Nat => ∀ xs : List Int, xs.length = l.length → xs.drop i = l.drop i → Ev (fun k => spec_Flip.l0 k p xs (i : Int)) (xs.take i ++ flipB (l.drop i) (p - i))) ?_ ?_
  · intro xs hx _
    refine ev_succ ?_
    have h1 : ¬ ((l.length : Int) < (xs.length : Int)) := by omega
    simp only [spec_Flip.l0.eq_2, h1, if_false]
    rw [List.take_of_length_le (by omega), List.drop_eq_nil_of_le (by omega)]
    simp only [flipB, List.take_nil, List.drop_nil, List.map_nil, List.append_nil]
    exact ev_some _
  · intro i hi ih xs hx he
    refine ev_succ ?_
    have hxi : i < xs.length := by omega
    have h1 : (i : Int) < (xs.length : Int) := by omega
    have h2 : (0 : Int) ≤ (i : Int) := by omega
    have h3 : xs[i] = l[i] := by
      have := congrArg (fun l => l[0]?) he
      simp only [List.getElem?_drop, Nat.add_zero] at this
      rw [List.getElem?_eq_getElem hxi, List.getElem?_eq_getElem hi] at this
      exact Option.some.inj this
    have he' : xs.drop (i + 1) = l.drop (i + 1) := by
      have := congrArg (List.drop 1) he
      simpa [List.drop_drop, Nat.add_comm] using this
    obtain ⟨g0, g1⟩ := hb.get i hi
    by_cases hp : (i : Int) ≥ p
    · simp only [spec_Flip.l0.eq_2, h1, h2, hp, if_true, Int.toNat_natCast, rd_nat xs i hxi, h3, xor255 l[i] g0 g1, wsucc (show i < 9223372036854775807 by omega)]
      have := ih (xs.set i (255 - l[i])) (by simp [hx]) (by rw [List.drop_set_of_lt (by omega)]; exact he')
      rw [take_set_succ _ _ _ hxi, List.append_assoc] at this
      rw [List.drop_eq_getElem_cons hi]
      have e : flipB (l[i] :: l.drop (i + 1)) (p - (i : Int)) = (255 - l[i]) :: flipB (l.drop (i + 1)) (p - ((i + 1 : Nat) : Int)) := by
        unfold flipB
        rw [show (p - (i : Int)).toNat = 0 by omega, show (p - ((i + 1 : Nat) : Int)).toNat = 0 by omega]
        rfl
      rw [e]
      exact this
    · simp only [spec_Flip.l0.eq_2, h1, hp, if_true, if_false, wsucc (show i < 9223372036854775807 by omega)]
      have := ih xs hx he'
      have e1 : xs.take (i + 1) = xs.take i ++ [l[i]] := by rw [List.take_succ_eq_append_getElem hxi, h3]
      rw [e1, List.append_assoc] at this
      rw [List.drop_eq_getElem_cons hi]
      have e : flipB (l[i] :: l.drop (i + 1)) (p - (i : Int)) = l[i] :: flipB (l.drop (i + 1)) (p - ((i + 1 : Nat) : Int)) := by
        unfold flipB
        rw [show (p - (i : Int)).toNat = (p - ((i + 1 : Nat) : Int)).toNat + 1 by omega]
        rfl
      rw [e]
      exact this
theorem spec_Flip_ev (l : List Int) (p : Int) (hl : l.length ≤ 140737480000000) (hb : IsB l) : Ev (fun k => spec_Flip.f k l p) (flipB l p) := by
  unfold spec_Flip.f
  have h1 : ([] : List Int).length + l.length < 140737488355328 := by simp only [List.length_nil]; omega
  simp only [Option.bind_some, h1, if_true, List.nil_append]
  have := spec_Flip_l0 l hl hb p 0 (by omega) l rfl rfl
  simpa using this
attribute [local irreducible] spec_Flip.f

theorem spec_l4Read_l0 (l : List Int) (hl : l.length ≤ 140737488355328) (hb : IsB l) (p c : Nat) (hc : c ≤ 7) (hpc : p + c ≤ l.length) (t : Bool) : ∀ i : Nat, i ≤ c → ∀ x : Nat, x < 256 ^ i →
    Ev (fun k => spec_l4Read.l0 k l (p : Int) (c : Int) t (x : Int) (i : Int)) (((beN x ((((l.drop p).take c).drop i).map fun y => if t = true then 255 - y else y) : Nat) : Int), true) := by
  have hlen : ((l.drop p).take c).length = c := by rw [List.length_take, List.length_drop]; omega
  refine up_ind c (fun i : Nat => ∀ x : Nat, x < 256 ^ i → Ev (fun k => spec_l4Read.l0 k l (p : Int) (c : Int) t (x : Int) (i : Int)) (((beN x ((((l.drop p).take c).drop i).map fun y => if t = true then 255 - y else y) : Nat) : Int), true)) ?_ ?_
  · intro x _
    refine ev_succ ?_
    have h1 : ¬ ((c : Int) < (c : Int)) := by omega
    simp only [spec_l4Read.l0.eq_2, h1, if_false]
    rw [List.drop_eq_nil_of_le (by omega)]
    exact ev_some _
  · intro i hi ih x hx
    refine ev_succ ?_
    have h1 : (i : Int) < (c : Int) := by omega
    have hpi : p + i < l.length := by omega
    have h2 : wrap64 ((p : Int) + (i : Int)) = ((p + i : Nat) : Int) := by rw [w64 (by omega) (by omega)]; omega
    have h3 : (0 : Int) ≤ ((p + i : Nat) : Int) := by omega
    have h4 : ((p + i : Nat) : Int) < (l.length : Int) := by omega
    have hx7 : x < 281474976710656 := Nat.lt_of_lt_of_le hx (by have := Nat.pow_le_pow_right (show 0 < 256 by omega) (show i ≤ 6 by omega); simpa using this)
    obtain ⟨g0, g1⟩ := hb.get (p + i) hpi
    have h8 : wrap64 ((i : Int) + 1) = ((i + 1 : Nat) : Int) := wsucc (by omega)
    have hii : i < ((l.drop p).take c).length := by omega
    have hget : ((l.drop p).take c)[i] = l[p + i] := by rw [List.getElem_take, List.getElem_drop]
    have h5 : wrap64 ((x : Int) * 256) = (x : Int) * 256 := w64 (by omega) (by omega)
    have hw : ∀ v : Int, 0 ≤ v → v ≤ 255 → wrap64 v = v := fun v h h' => w64 (by omega) (by omega)
    have key : ∀ v : Nat, v ≤ 255 → (v : Int) = (if t = true then 255 - l[p + i] else l[p + i]) →
        Ev (fun k => spec_l4Read.l0 k l (p : Int) (c : Int) t ((x : Int) * 256 + (v : Int)) ((i + 1 : Nat) : Int)) (((beN x ((((l.drop p).take c).drop i).map fun y => if t = true then 255 - y else y) : Nat) : Int), true) := by
      intro v hv hve
      rw [List.drop_eq_getElem_cons hii, List.map_cons, beN, hget, ← hve]
      have := ih (x * 256 + v) (by rw [Nat.pow_succ]; omega)
      rw [show (x : Int) * 256 + (v : Int) = ((x * 256 + v : Nat) : Int) by omega]
      simpa using this
    cases t with
    | true =>
      simp only [spec_l4Read.l0.eq_2, h1, h2, h3, h4, h5, h8, if_true, rd_nat l (p + i) hpi, xor255 _ g0 g1, hw (255 - l[p + i]) (by omega) (by omega)]
      rw [or_hi_lo (x : Int) (255 - l[p + i]) (by omega) (by omega) (by omega) (by omega)]
      have := key (255 - l[p + i]).toNat (by omega) (by simp only [if_true]; omega)
      rw [show (((255 - l[p + i]).toNat : Nat) : Int) = 255 - l[p + i] by omega] at this
      exact this
    | false =>
      simp only [spec_l4Read.l0.eq_2, h1, h2, h3, h4, h5, h8, if_true, Bool.false_eq_true, if_false, rd_nat l (p + i) hpi, hw l[p + i] g0 g1]
      rw [or_hi_lo (x : Int) l[p + i] (by omega) (by omega) (by omega) (by omega)]
      have := key l[p + i].toNat (by omega) (by simp only [Bool.false_eq_true, if_false]; omega)
      rw [show ((l[p + i].toNat : Nat) : Int) = l[p + i] by omega] at this
      exact this
theorem spec_l4Read_ev (l : List Int) (hl : l.length ≤ 140737488355328) (hb : IsB l) (p : Int) (c : Nat) (hc : c ≤ 7) (t : Bool) (hp : -9223372036854775808 ≤ p ∧ p ≤ 9223372036854775807) :
    Ev (fun k => spec_l4Read.f k l p (c : Int) t) (readR (readB l p c t)) := by
  unfold spec_l4Read.f
  by_cases h0 : p < 0
  · simp only [h0, if_true]
    refine ev_succ ?_
    simp only [spec_l4Read.j0.eq_2, if_true]
    rw [readB_neg (by omega)]
    exact ev_some _
  · by_cases h1 : p > (l.length : Int)
    · simp only [h0, h1, if_true, if_false]
      refine ev_succ ?_
      simp only [spec_l4Read.j0.eq_2, if_true]
      rw [readB_neg (by omega)]
      exact ev_some _
    · have e1 : wrap64 ((l.length : Int) - p) = (l.length : Int) - p := w64 (by omega) (by omega)
      simp only [h0, h1, if_false, e1]
      refine ev_succ ?_
      by_cases h2 : (c : Int) > (l.length : Int) - p
      · simp only [spec_l4Read.j0.eq_2, h2, decide_true, if_true]
        rw [readB_neg (by omega)]
        exact ev_some _
      · simp only [spec_l4Read.j0.eq_2, h2, decide_false, Bool.false_eq_true, if_false]
        obtain ⟨q, rfl⟩ := Int.eq_ofNat_of_zero_le (show 0 ≤ p by omega)
        have := spec_l4Read_l0 l hl hb q c hc (by omega) t 0 (by omega) 0 (by decide)
        rw [readB_pos (by omega) (by omega)]
        exact this
attribute [local irreducible] spec_l4Read.f

theorem spec_GetFix_ev (l : List Int) (hl : l.length ≤ 140737480000000) (hb : IsB l) (p : Int) (hp : -9223372036854775808 ≤ p ∧ p ≤ 9223372036854775807) : Ev (fun k => spec_GetFix.f k l p) (getFix l p) := by
  unfold spec_GetFix.f getFix
  refine Ev.bind (spec_l4Read_ev l (by omega) hb p 4 (by omega) false hp) ?_
  cases h : readB l p 4 false with
  | none => simp only [readR, Bool.false_eq_true, if_false]; exact ev_some _
  | some n =>
    obtain ⟨h0, h1, hn⟩ := readB_some hb h
    have e1 : wrap64 ((n : Int) - 2147483648) = (n : Int) - 2147483648 := w64 (by omega) (by omega)
    have e2 : wrap64 (p + 4) = p + 4 := w64 (by omega) (by omega)
    simp only [readR, if_true, e1, e2]; exact ev_some _
attribute [local irreducible] spec_GetFix.f

theorem spec_l4Bytes_l0 (n : Nat) : ∀ o : List Int, o.length + n < 140737488355328 * 1000000 → o.length + nB n ≤ 1000 → Ev (fun k => spec_l4Bytes.l0 k (n : Int) o) (beB n (nB n) ++ o) := by
  induction n using Nat.strongRecOn with
  | _ n ih =>
    intro o ho ho2
    refine ev_succ ?_
    by_cases h : n = 0
    · subst h
      have h1 : ¬ (((0 : Nat) : Int) > 0) := by decide
      simp only [spec_l4Bytes.l0.eq_2, h1, if_false, nB_zero, beB, List.nil_append]
      exact ev_some _
    · have h1 : (n : Int) > 0 := by omega
      have h3 : (n : Int) / 256 = ((n / 256 : Nat) : Int) := by omega
      have h4 : (n : Int) % 256 = ((n % 256 : Nat) : Int) := by omega
      have h5 := nB_pos h
      have h6 : [((n % 256 : Nat) : Int)].length + o.length < 140737488355328 := by simp only [List.length_cons, List.length_nil]; omega
      simp only [spec_l4Bytes.l0.eq_2, h1, if_true, h3, h4, Option.bind_some, h6]
      have := ih (n / 256) (by omega) ([((n % 256 : Nat) : Int)] ++ o) (by simp only [List.length_append, List.length_cons, List.length_nil]; omega) (by simp only [List.length_append, List.length_cons, List.length_nil]; omega)
      rw [h5, beB_snoc, List.append_assoc]
      exact this
theorem spec_l4Bytes_ev (n : Nat) (h : n ≤ 1000000000000000) : Ev (fun k => spec_l4Bytes.f k (n : Int)) (beB n (nB n)) := by
  unfold spec_l4Bytes.f
  have := spec_l4Bytes_l0 n [] (by simp only [List.length_nil]; omega) (by have := nB_7 h; simp only [List.length_nil]; omega)
  simpa using this
attribute [local irreducible] spec_l4Bytes.f

theorem spec_PutVar_j1 (l : List Int) (n : Int) (h : l.length ≤ 140737470000000) (hn : -1000000000000000 ≤ n ∧ n ≤ 1000000000000000) : Ev (fun k => spec_PutVar.j1 k l n) (l ++ varB n) := by
  refine ev_succ ?_
  have e : varN n = n := (clampN_spec n (-1000000000000000) 1000000000000000 (by omega)).2.2.1 hn.1 hn.2
  have h1 : l.length < 140737488355328 := by omega
  unfold varB
  simp only [e]
  by_cases h0 : 0 ≤ n
  · have h0' : n ≥ 0 := h0
    rw [if_pos h0]
    obtain ⟨m, rfl⟩ := Int.eq_ofNat_of_zero_le h0
    simp only [spec_PutVar.j1.eq_2, h0', if_true, Int.toNat_natCast]
    have h7 := nB_7 (n := m) (by omega)
    refine Ev.bind (spec_l4Bytes_ev m (by omega)) ?_
    have e1 : wrap64 (128 + ((nB m : Nat) : Int)) % 256 = 128 + (nB m : Int) := by rw [w64 (by omega) (by omega)]; omega
    have h2 : (l ++ [128 + (nB m : Int)]).length + nB m < 140737488355328 := by simp only [List.length_append, List.length_cons, List.length_nil]; omega
    simp only [Option.bind_some, List.length_nil, Nat.zero_add, List.nil_append, h1, if_true, beB_len, e1, h2]
    rw [List.append_assoc]
    exact ev_some _
  · have h0' : ¬ (n ≥ 0) := h0
    rw [if_neg h0]
    have e0 : wrap64 (-1 - n) = (((-1 - n).toNat : Nat) : Int) := by rw [w64 (by omega) (by omega)]; omega
    have hm : (-1 - n).toNat ≤ 1000000000000000 := by omega
    simp only [spec_PutVar.j1.eq_2, h0', if_false, e0]
    generalize (-1 - n).toNat = m at hm
    have h7 := nB_7 (n := m) (by omega)
    refine Ev.bind (spec_l4Bytes_ev m (by omega)) ?_
    have e1 : wrap64 (127 - ((nB m : Nat) : Int)) % 256 = 127 - (nB m : Int) := by rw [w64 (by omega) (by omega)]; omega
    have h2 : (l ++ [127 - (nB m : Int)]).length + nB m < 140737488355328 := by simp only [List.length_append, List.length_cons, List.length_nil]; omega
    simp only [Option.bind_some, List.length_nil, Nat.zero_add, List.nil_append, h1, if_true, beB_len, e1]
    refine Ev.bind (spec_Flip_ev (beB m (nB m)) 0 (by rw [beB_len]; omega) (beB_isB _ _)) ?_
    have e2 : flipB (beB m (nB m)) 0 = (beB m (nB m)).map fun x => 255 - x := by simp [flipB]
    simp only [flipB_len, beB_len, h2, if_true]
    rw [List.append_assoc, e2]
    exact ev_some _
theorem spec_PutVar_ev (l : List Int) (n : Int) (h : l.length ≤ 140737470000000) : Ev (fun k => spec_PutVar.f k l n) (l ++ varB n) := by
  unfold spec_PutVar.f
  have hc := clampN_spec n (-1000000000000000) 1000000000000000 (by omega)
  have hv : ∀ m : Int, varN n = m → -1000000000000000 ≤ m ∧ m ≤ 1000000000000000 → varB m = varB n := by
    intro m hm hr
    have e : varN m = m := (clampN_spec m (-1000000000000000) 1000000000000000 (by omega)).2.2.1 hr.1 hr.2
    unfold varB; rw [e, hm]
  by_cases h1 : n > 1000000000000000
  · simp only [h1, if_true]
    refine ev_succ ?_
    rw [← hv 1000000000000000 (hc.2.2.2.2 h1) (by omega)]
    simp only [spec_PutVar.j0.eq_2, show ¬ ((1000000000000000 : Int) < -1000000000000000) by decide, if_false]
    exact spec_PutVar_j1 l _ h (by omega)
  · simp only [h1, if_false]
    refine ev_succ ?_
    by_cases h2 : n < -1000000000000000
    · simp only [spec_PutVar.j0.eq_2, h2, if_true]
      rw [← hv (-1000000000000000) (hc.2.2.2.1 h2) (by omega)]
      exact spec_PutVar_j1 l _ h (by omega)
    · simp only [spec_PutVar.j0.eq_2, h2, if_false]
      exact spec_PutVar_j1 l n h (by omega)
attribute [local irreducible] spec_PutVar.f

theorem spec_GetVar_tail (n : Nat) (hn : n < 72057594037927936) (p : Int) (c : Nat) (hc : c ≤ 7) (t : Bool) (m : Int) (hm : m = if t = true then -1 - (n : Int) else (n : Int)) (h : inB m (-1000000000000000) 1000000000000000 = true) :
    ((varB m).length : Int) = (c : Int) + 1 ↔ nB n = c := by
  have hl := varB_length m h
  have hr := of_decide_eq_true h
  have e : (if 0 ≤ m then m.toNat else (-1 - m).toNat) = n := by
    cases t with
    | true => simp only [if_true] at hm; rw [if_neg (by omega)]; omega
    | false => simp only [Bool.false_eq_true, if_false] at hm; rw [if_pos (by omega)]; omega
  rw [e] at hl
  omega
theorem spec_GetVar_ev (l : List Int) (hl : l.length ≤ 140737480000000) (hb : IsB l) (p : Int) (hp : -9223372036854775808 ≤ p ∧ p ≤ 9223372036854775807) : Ev (fun k => spec_GetVar.f k l p) (getVar l p) := by
  unfold spec_GetVar.f getVar
  by_cases h0 : p < 0
  · simp only [h0, if_true]
    rw [if_neg (by omega)]
    refine ev_succ ?_
    simp only [spec_GetVar.j0.eq_2, if_true]
    exact ev_some _
  · simp only [h0, if_false]
    by_cases h1 : p ≥ (l.length : Int)
    · simp only [h1, if_true]
      rw [if_neg (by omega)]
      refine ev_succ ?_
      simp only [spec_GetVar.j0.eq_2, if_true]
      exact ev_some _
    · have a1 : (0 : Int) ≤ p := by omega
      have a2 : p < (l.length : Int) := by omega
      rw [if_pos ⟨a1, a2⟩]
      obtain ⟨g0, g1⟩ := rd_isB hb p
      have e1 : wrap64 (rd l p) = rd l p := w64 (by omega) (by omega)
      simp only [h1, if_false, a1, a2, if_true, e1, spec_l1In_eq, Option.bind_some]
      by_cases hin : 120 ≤ rd l p ∧ rd l p ≤ 135
      · have hin' : (!inB (rd l p) 120 135) = false := by unfold inB; rw [decide_eq_true hin]; rfl
        refine ev_succ ?_
        have e2 : wrap64 (rd l p - 128) = rd l p - 128 := w64 (by omega) (by omega)
        have e4 : wrap64 (p + 1) = p + 1 := w64 (by omega) (by omega)
        simp only [spec_GetVar.j0.eq_2, hin', Bool.false_eq_true, if_false, a1, a2, if_true, e1, e2, e4]
        clear e1 e2 e4
        by_cases hneg : rd l p - 128 < 0
        · simp only [hneg, if_true]
          rw [if_neg (by omega), if_pos (by omega)]
          have e3 : wrap64 (-1 - (rd l p - 128)) = (((127 - rd l p).toNat : Nat) : Int) := by rw [w64 (by omega) (by omega)]; omega
          rw [e3]
          have hc7 : (127 - rd l p).toNat ≤ 7 := by omega
          generalize (127 - rd l p).toNat = c at hc7
          clear e3
          refine Ev.bind (spec_l4Read_ev l (by omega) hb (p + 1) c hc7 true (by omega)) ?_
          cases h : readB l (p + 1) c true with
          | none => simp only [readR, getVarR, Bool.false_eq_true, if_false]; exact ev_some _
          | some n =>
            obtain ⟨_, hpc, hn⟩ := readB_some hb h
            have hn7 : n < 72057594037927936 := Nat.lt_of_lt_of_le hn (by have := Nat.pow_le_pow_right (show 0 < 256 by omega) hc7; simpa using this)
            have e5 : wrap64 (-1 - (n : Int)) = -1 - (n : Int) := w64 (by omega) (by omega)
            have e6 : wrap64 ((c : Int) + 1) = (c : Int) + 1 := w64 (by omega) (by omega)
            have e7 : wrap64 (p + 1 + (c : Int)) = p + 1 + (c : Int) := w64 (by omega) (by omega)
            simp only [readR, getVarR, if_true, e5, e6, e7, spec_l1In_eq, Option.bind_some]
            cases hI : inB (-1 - (n : Int)) (-1000000000000000) 1000000000000000 with
            | false => simp only [Bool.false_eq_true, and_false, if_false]; exact ev_some _
            | true =>
              have key := spec_GetVar_tail n hn7 p c hc7 true (-1 - (n : Int)) rfl hI
              simp only [if_true, and_true]
              refine Ev.bind (spec_PutVar_ev [] (-1 - (n : Int)) (by simp only [List.length_nil]; omega)) ?_
              simp only [List.nil_append, key]
              by_cases hc2 : nB n = c
              · simp only [hc2, if_true]; exact ev_some _
              · simp only [hc2, if_false]; exact ev_some _
        · simp only [hneg, if_false]
          rw [if_pos (by omega)]
          have e3 : rd l p - 128 = (((rd l p - 128).toNat : Nat) : Int) := by omega
          have hc7 : (rd l p - 128).toNat ≤ 7 := by omega
          rw [e3, Int.toNat_natCast]
          generalize (rd l p - 128).toNat = c at hc7
          clear e3
          refine Ev.bind (spec_l4Read_ev l (by omega) hb (p + 1) c hc7 false (by omega)) ?_
          cases h : readB l (p + 1) c false with
          | none => simp only [readR, getVarR, Bool.false_eq_true, if_false]; exact ev_some _
          | some n =>
            obtain ⟨_, hpc, hn⟩ := readB_some hb h
            have hn7 : n < 72057594037927936 := Nat.lt_of_lt_of_le hn (by have := Nat.pow_le_pow_right (show 0 < 256 by omega) hc7; simpa using this)
            have e6 : wrap64 ((c : Int) + 1) = (c : Int) + 1 := w64 (by omega) (by omega)
            have e7 : wrap64 (p + 1 + (c : Int)) = p + 1 + (c : Int) := w64 (by omega) (by omega)
            simp only [readR, getVarR, if_true, e6, e7, Bool.false_eq_true, if_false, spec_l1In_eq, Option.bind_some]
            cases hI : inB (n : Int) (-1000000000000000) 1000000000000000 with
            | false => simp only [Bool.false_eq_true, and_false, if_false]; exact ev_some _
            | true =>
              have key := spec_GetVar_tail n hn7 p c hc7 false (n : Int) rfl hI
              simp only [if_true, and_true]
              refine Ev.bind (spec_PutVar_ev [] (n : Int) (by simp only [List.length_nil]; omega)) ?_
              simp only [List.nil_append, key]
              by_cases hc2 : nB n = c
              · simp only [hc2, if_true]; exact ev_some _
              · simp only [hc2, if_false]; exact ev_some _
      · have hin' : (!inB (rd l p) 120 135) = true := by unfold inB; rw [decide_eq_false hin]; rfl
        rw [if_neg (by omega), if_neg (by omega)]
        refine ev_succ ?_
        simp only [spec_GetVar.j0.eq_2, hin', if_true]
        exact ev_some _
attribute [local irreducible] spec_GetVar.f

theorem spec_GetEsc_l0 (l : List Int) (hl : l.length ≤ 140737488355327) (d : Nat) : ∀ (p : Nat) (o : List Int), l.length - p = d → (p : Int) ≤ 9223372036854775807 → o.length + (l.length - p) ≤ 140737488355327 →
    Ev (fun k => spec_GetEsc.l0 k l (p : Int) o) (getER (getEB o p (l.drop p))) := by
  induction d using Nat.strongRecOn with
  | _ d ih =>
    intro p o hd hp63 ho
    refine ev_succ ?_
    have a1 : (0 : Int) ≤ (p : Int) := by omega
    by_cases hp : p < l.length
    · have b1 : (p : Int) < (l.length : Int) := by omega
      have b2 : o.length < 140737488355328 := by omega
      have b3 : wrap64 ((p : Int) + 1) = ((p + 1 : Nat) : Int) := wsucc (by omega)
      simp only [spec_GetEsc.l0.eq_2, a1, b1, b2, b3, if_true, rd_nat l p hp]
      rw [List.drop_eq_getElem_cons hp]
      by_cases hz : l[p] = 0
      · by_cases hp1 : p + 1 < l.length
        · have c1 : ¬ (((p + 1 : Nat) : Int) = (l.length : Int)) := by omega
          have c2 : (0 : Int) ≤ ((p + 1 : Nat) : Int) := by omega
          have c3 : ((p + 1 : Nat) : Int) < (l.length : Int) := by omega
          have c4 : wrap64 ((p : Int) + 2) = ((p + 2 : Nat) : Int) := by rw [w64 (by omega) (by omega)]; omega
          simp only [hz, if_true, c1, if_false, c2, c3, rd_nat l (p + 1) hp1]
          rw [List.drop_eq_getElem_cons hp1, getEB_cons]
          by_cases h1 : l[p + 1] = 1
          · simp only [h1, if_true]
            refine ev_succ ?_
            simp only [spec_GetEsc.j1.eq_2, Bool.false_eq_true, if_false, b3, c2, c3, if_true, rd_nat l (p + 1) hp1, h1, c4]
            exact ev_some _
          · simp only [h1, if_false]
            by_cases h255 : l[p + 1] = 255
            · refine ev_succ ?_
              simp only [spec_GetEsc.j1.eq_2, h255, bne_self_eq_false, Bool.false_eq_true, if_false, b3, c2, c3, if_true, rd_nat l (p + 1) hp1, b2, c4, show ¬ ((255 : Int) = 1) by decide]
              exact ih (l.length - (p + 2)) (by omega) (p + 2) (o ++ [0]) rfl (by omega) (by simp only [List.length_append, List.length_cons, List.length_nil]; omega)
            · have hne : (l[p + 1] != 255) = true := by simpa using h255
              refine ev_succ ?_
              simp only [spec_GetEsc.j1.eq_2, hne, if_true, h255, if_false]
              exact ev_some _
        · have c1 : ((p + 1 : Nat) : Int) = (l.length : Int) := by omega
          simp only [hz, if_true, c1]
          rw [List.drop_eq_nil_of_le (by omega), getEB_one]
          refine ev_succ ?_
          simp only [spec_GetEsc.j1.eq_2, if_true]
          exact ev_some _
      · simp only [hz, if_false]
        have := ih (l.length - (p + 1)) (by omega) (p + 1) (o ++ [l[p]]) rfl (by omega) (by simp only [List.length_append, List.length_cons, List.length_nil]; omega)
        rw [getEB_ne _ _ _ _ hz]
        exact this
    · have b1 : ¬ ((p : Int) < (l.length : Int)) := by omega
      simp only [spec_GetEsc.l0.eq_2, b1, if_false]
      rw [List.drop_eq_nil_of_le (by omega), getEB_nil]
      exact ev_some _
theorem spec_GetEsc_ev (l : List Int) (hl : l.length ≤ 140737480000000) (hb : IsB l) (p : Int) (hp : -9223372036854775808 ≤ p ∧ p ≤ 9223372036854775807) : Ev (fun k => spec_GetEsc.f k l p) (getEsc l p) := by
  unfold spec_GetEsc.f getEsc
  by_cases h0 : 0 ≤ p
  · obtain ⟨q, rfl⟩ := Int.eq_ofNat_of_zero_le h0
    have a1 : ¬ ((q : Int) < 0) := by omega
    simp only [a1, if_false]
    rw [if_pos h0]
    exact spec_GetEsc_l0 l (by omega) _ q [] rfl (by omega) (by simp only [List.length_nil]; omega)
  · have a1 : p < 0 := by omega
    simp only [a1, if_true]
    rw [if_neg h0]
    exact ev_some _
attribute [local irreducible] spec_GetEsc.f

theorem spec_l5Get_ev (l : List Int) (hl : l.length ≤ 140737480000000) (hb : IsB l) (t p : Int) (ht : 1 ≤ t ∧ t ≤ 4) (hp : -9223372036854775808 ≤ p ∧ p ≤ 9223372036854775807) : Ev (fun k => spec_l5Get.f k l t p) (getTyped l t p) := by
  unfold spec_l5Get.f getTyped
  by_cases t1 : t = 1
  · simp only [t1, if_true]
    exact Ev.bind (spec_GetFix_ev l hl hb p hp) (ev_some _)
  by_cases t2 : t = 2
  · simp only [t1, if_false]
    simp only [t2, if_true]
    exact Ev.bind (spec_GetVar_ev l hl hb p hp) (ev_some _)
  by_cases t3 : t = 3
  · simp only [t1, t2, if_false]
    simp only [t3, if_true]
    exact Ev.bind (spec_GetEsc_ev l hl hb p hp) (ev_some _)
  · have t4 : t = 4 := by omega
    simp only [t1, t2, t3, if_false]
    simp only [t4, if_true]
    have hr := rd_isB hb p
    by_cases h0 : 0 ≤ p
    · have h0' : p ≥ 0 := h0
      by_cases h1 : p < (l.length : Int)
      · simp only [h0, h0', h1, if_true, and_self, w64 (x := rd l p) (by omega) (by omega), w64 (x := p + 1) (by omega) (by omega)]
        exact ev_some _
      · simp only [h0', h1, if_true, if_false, and_false]
        exact ev_some _
    · have h0' : ¬ (p ≥ 0) := h0
      simp only [h0, h0', if_false, false_and]
      exact ev_some _
attribute [local irreducible] spec_l5Get.f

theorem spec_ValOk_eq (k n : Int) (s : ByteArray) : spec_ValOk.f k n s = some (valOkB k n s) := by
  unfold spec_ValOk.f valOkB isE
  simp only [spec_l1In_eq, Option.bind_some]
  by_cases h0 : k = 0
  · simp only [h0, if_true]; by_cases hn : n = 0 <;> simp [hn]
  simp only [h0, if_false]
  by_cases h1 : k = 1
  · simp only [h1, if_true]; cases inB n (-2147483648) 2147483647 <;> simp
  simp only [h1, if_false]
  by_cases h2 : k = 2
  · simp only [h2, if_true]; cases inB n (-1000000000000000) 1000000000000000 <;> simp
  simp only [h2, if_false]
  by_cases h3 : k = 3
  · simp only [h3, if_true]; by_cases hn : n = 0 <;> by_cases hs : (s.size : Int) ≤ 30 <;> simp [hn, hs]
  simp only [h3, if_false]
  by_cases h4 : k = 4
  · simp only [h4, if_true]; cases inB n 0 1 <;> simp
  simp only [h4, if_false]
attribute [local irreducible] spec_ValOk.f

theorem spec_GetPart_fit (l : List Int) (t : Int) (ht : 1 ≤ t ∧ t ≤ 4) (null : Bool) (p : Int) : (if (getTyped l t p).2.2.2.2 = true then ((spec_ValOk.f (getTyped l t p).1 (getTyped l t p).2.1 (getTyped l t p).2.2.1).bind fun t375 => (if t375 = true then (some ((getTyped l t p).1, (getTyped l t p).2.1, (getTyped l t p).2.2.1, (getTyped l t p).2.2.2.1, true)) else (some (0, 0, (⟨#[]⟩ : ByteArray), 0, false)))) else (some (0, 0, (⟨#[]⟩ : ByteArray), 0, false))) = some (fitR t null (getTyped l t p)) := by
  have h1 := getTyped_fst l t p
  revert h1
  generalize getTyped l t p = r
  obtain ⟨a, b, s, q, e⟩ := r
  intro h1
  simp only at h1
  subst h1
  simp only [spec_ValOk_eq, Option.bind_some]
  unfold fitR noPart
  simp only [fits_valOk ht.1]
  cases e with
  | false => simp
  | true =>
    cases hf : valOkB a b s with
    | false => simp [hf]
    | true => simp [hf]
theorem spec_GetPart_j2 (l : List Int) (hl : l.length ≤ 140737480000000) (hb : IsB l) (c t : Int) (ht : 1 ≤ t ∧ t ≤ 4) (null desc : Bool) (p : Int) (hp : -9223372036854775808 ≤ p ∧ p ≤ 9223372036854775807) :
    Ev (fun k => spec_GetPart.j2 k p l c t null desc) (fitR t null (getTyped l t p)) := by
  refine ev_succ ?_
  simp only [spec_GetPart.j2.eq_2]
  refine Ev.bind (spec_l5Get_ev l hl hb t p ht hp) ?_
  rw [spec_GetPart_fit l t ht null p]
  exact ev_some _
theorem spec_GetPart_j4 (l : List Int) (hl : l.length ≤ 140737480000000) (hb : IsB l) (c t : Int) (ht : 1 ≤ t ∧ t ≤ 4) (null desc : Bool) (p : Int) (hp : -9223372036854775808 ≤ p ∧ p ≤ 9223372036854775807) :
    Ev (fun k => spec_GetPart.j4 k p l c t null desc) (fitR t null (getTyped l t p)) := by
  refine ev_succ ?_
  simp only [spec_GetPart.j4.eq_2]
  refine Ev.bind (spec_l5Get_ev l hl hb t p ht hp) ?_
  rw [spec_GetPart_fit l t ht null p]
  exact ev_some _
/-- what the reference reads at a place, the whole turned or not -/
def getBare2 (l : List Int) (t : Int) (null : Bool) (p : Int) : Int × Int × ByteArray × Int × Bool := if p < (l.length : Int) then getBare l t null p else noPart
theorem rd_01 {l : List Int} (hb : IsB l) (p : Int) (h : ¬ rd l p = 0) (h1 : ¬ rd l p > 1) : rd l p = 1 := by
  have := rd_isB hb p
  omega
theorem spec_GetPart_j1 (l : List Int) (hl : l.length ≤ 140737480000000) (hb : IsB l) (c t : Int) (ht : 1 ≤ t ∧ t ≤ 4) (desc : Bool) (p : Int) (hp : 0 ≤ p ∧ p < l.length) :
    Ev (fun k => spec_GetPart.j1 k p l (decide (rd l p > 1)) c t true desc) (getBare l t true p) := by
  refine ev_succ ?_
  have w1 : wrap64 (p + 1) = p + 1 := w64 (by omega) (by omega)
  have h0 := hp.1
  have h1 := hp.2
  unfold getBare
  simp only [spec_GetPart.j1.eq_2, if_true, h0, h1, w1]
  by_cases r0 : rd l p = 0
  · simp only [r0, if_true, show ¬ ((0 : Int) > 1) by decide, decide_false, Bool.false_eq_true, if_false]; exact ev_some _
  · by_cases r2 : rd l p > 1
    · have r1 : ¬ rd l p = 1 := by omega
      simp only [r0, r1, r2, decide_true, if_true, if_false]; exact ev_some _
    · have r1 := rd_01 hb p r0 r2
      simp only [r1, show ¬ ((1 : Int) > 1) by decide, show ¬ ((1 : Int) = 0) by decide, decide_false, Bool.false_eq_true, if_false, if_true]
      exact spec_GetPart_j2 _ hl hb c t ht true desc (p + 1) (by omega)
theorem spec_GetPart_j3 (l : List Int) (hl : l.length ≤ 140737480000000) (hb : IsB l) (c t : Int) (ht : 1 ≤ t ∧ t ≤ 4) (desc : Bool) (p : Int) (hp : 0 ≤ p ∧ p < l.length) :
    Ev (fun k => spec_GetPart.j3 k p l (decide (rd l p > 1)) c t true desc) (getBare l t true p) := by
  refine ev_succ ?_
  have w1 : wrap64 (p + 1) = p + 1 := w64 (by omega) (by omega)
  have h0 := hp.1
  have h1 := hp.2
  unfold getBare
  simp only [spec_GetPart.j3.eq_2, if_true, h0, h1, w1]
  by_cases r0 : rd l p = 0
  · simp only [r0, if_true, show ¬ ((0 : Int) > 1) by decide, decide_false, Bool.false_eq_true, if_false]; exact ev_some _
  · by_cases r2 : rd l p > 1
    · have r1 : ¬ rd l p = 1 := by omega
      simp only [r0, r1, r2, decide_true, if_true, if_false]; exact ev_some _
    · have r1 := rd_01 hb p r0 r2
      simp only [r1, show ¬ ((1 : Int) > 1) by decide, show ¬ ((1 : Int) = 0) by decide, decide_false, Bool.false_eq_true, if_false, if_true]
      exact spec_GetPart_j4 _ hl hb c t ht true desc (p + 1) (by omega)
theorem fitR_end (l : List Int) (t : Int) (null : Bool) : fitR t null (getTyped l t (l.length : Int)) = noPart := by
  unfold fitR
  rw [getTyped_end, if_neg (by simp)]
theorem getBare_congr {l l' : List Int} {t p : Int} {null : Bool} (hp : 0 ≤ p) (hl : l.length = l'.length) (hd : l.drop p.toNat = l'.drop p.toNat) : getBare l t null p = getBare l' t null p := by
  unfold getBare
  rw [rd_congr hd, getTyped_congr hp hl hd, getTyped_congr (by omega) hl (drop_succ_congr hp hd)]
theorem spec_GetPart_ev (l : List Int) (hl : l.length ≤ 140737480000000) (hb : IsB l) (c t : Int) (null desc : Bool) (p : Int) :
    Ev (fun k => spec_GetPart.f k l c t null desc p) (getPart l c t null desc p) := by
  unfold spec_GetPart.f getPart
  simp only [spec_PartOk_eq, Option.bind_some]
  have out : Ev (fun k => spec_GetPart.j0 k l p true c t null desc) noPart := by
    refine ev_succ ?_
    simp only [spec_GetPart.j0.eq_2, if_true]
    exact ev_some _
  cases hok : partOkB c t with
  | false =>
    simp only [Bool.false_eq_true, if_false, false_and]
    exact out
  | true =>
    have ht := partOk_t hok
    simp only [if_true, true_and]
    by_cases h0 : p < 0
    · have h0' : ¬ (0 ≤ p ∧ p < (l.length : Int)) := by omega
      simp only [h0, h0', if_true, if_false]
      exact out
    · by_cases h1 : p > (l.length : Int)
      · have h01 : ¬ (0 ≤ p ∧ p < (l.length : Int)) := by omega
        rw [if_neg h01]
        simp only [h0, if_false, decide_eq_true h1]
        exact out
      · have h00 : 0 ≤ p := by omega
        simp only [h0, if_false, decide_eq_false h1]
        refine ev_succ ?_
        simp only [spec_GetPart.j0.eq_2, Bool.false_eq_true, if_false]
        have hR : (if 0 ≤ p ∧ p < (l.length : Int) then getBare (if desc = true then flipB l p else l) t null p else noPart) = (if p < (l.length : Int) then getBare (if desc = true then flipB l 0 else l) t null p else noPart) := by
          by_cases hlt : p < (l.length : Int)
          · rw [if_pos ⟨h00, hlt⟩, if_pos hlt]
            cases desc with
            | false => rfl
            | true =>
              simp only [if_true]
              refine getBare_congr h00 (by rw [flipB_len, flipB_len]) ?_
              obtain ⟨i, rfl⟩ := Int.eq_ofNat_of_zero_le h00
              have e1 := flipB_drop l i i (Nat.le_refl _)
              have e2 := flipB_drop l 0 i (by omega)
              rw [Int.toNat_natCast, e1]
              exact e2.symm
          · rw [if_neg (by omega), if_neg hlt]
        rw [hR]
        cases desc with
        | true =>
          simp only [if_true]
          refine Ev.bind (spec_Flip_ev l 0 hl hb) ?_
          have hfl : (flipB l 0).length ≤ 140737480000000 := by rw [flipB_len]; exact hl
          have hfb := flipB_isB hb 0
          rw [← flipB_len l 0] at h1 ⊢
          generalize flipB l 0 = x at h1 hfl hfb ⊢
          by_cases hlt : p < (x.length : Int)
          · rw [if_pos hlt]
            have hne : ¬ (p = (x.length : Int)) := by omega
            cases null with
            | true =>
              simp only [if_true, hne, if_false, h00, hlt]
              exact spec_GetPart_j1 x hfl hfb c t ht true p ⟨h00, hlt⟩
            | false =>
              simp only [Bool.false_eq_true, if_false]
              unfold getBare
              simp only [Bool.false_eq_true, if_false]
              exact spec_GetPart_j2 x hfl hfb c t ht false true p (by omega)
          · rw [if_neg hlt]
            have he : p = (x.length : Int) := by omega
            subst he
            cases null with
            | true =>
              simp only [if_true]
              refine ev_succ ?_
              simp only [spec_GetPart.j1.eq_2, if_true]
              exact ev_some _
            | false =>
              simp only [Bool.false_eq_true, if_false]
              have := spec_GetPart_j2 x hfl hfb c t ht false true (x.length : Int) (by omega)
              rw [fitR_end] at this
              exact this
        | false =>
          simp only [Bool.false_eq_true, if_false]
          by_cases hlt : p < (l.length : Int)
          · rw [if_pos hlt]
            have hne : ¬ (p = (l.length : Int)) := by omega
            cases null with
            | true =>
              simp only [if_true, hne, if_false, h00, hlt]
              exact spec_GetPart_j3 l hl hb c t ht false p ⟨h00, hlt⟩
            | false =>
              simp only [Bool.false_eq_true, if_false]
              unfold getBare
              simp only [Bool.false_eq_true, if_false]
              exact spec_GetPart_j4 l hl hb c t ht false false p (by omega)
          · rw [if_neg hlt]
            have he : p = (l.length : Int) := by omega
            subst he
            cases null with
            | true =>
              simp only [if_true]
              refine ev_succ ?_
              simp only [spec_GetPart.j3.eq_2, if_true]
              exact ev_some _
            | false =>
              simp only [Bool.false_eq_true, if_false]
              have := spec_GetPart_j4 l hl hb c t ht false false (l.length : Int) (by omega)
              rw [fitR_end] at this
              exact this
attribute [local irreducible] spec_GetPart.f

theorem spec_PlanOk_l0 (l : List S30) (h : l.length ≤ 9223372036854775807) : ∀ i, i ≤ l.length → Ev (fun k => spec_PlanOk.l0 k l (i : Int)) (decide (l.length ≤ 6) && (l.drop i).all fun p => partOkB p.f0 p.f1) := by
  refine up_ind l.length (fun i => Ev (fun k => spec_PlanOk.l0 k l (i : Int)) (decide (l.length ≤ 6) && (l.drop i).all fun p => partOkB p.f0 p.f1)) ?_ ?_
  · refine ev_succ ?_
    have h1 : ¬ ((l.length : Int) < (l.length : Int)) := by omega
    simp only [spec_PlanOk.l0.eq_2, h1, if_false]
    rw [List.drop_eq_nil_of_le (by omega), show decide ((l.length : Int) ≤ 6) = decide (l.length ≤ 6) by apply decide_eq_decide.2; omega]
    simpa using ev_some _
  · intro i hi ih
    refine ev_succ ?_
    have h1 : (i : Int) < (l.length : Int) := by omega
    have h2 : (0 : Int) ≤ (i : Int) := by omega
    simp only [spec_PlanOk.l0.eq_2, h1, h2, if_true, rd_T30_nat l i hi, spec_PartOk_eq, Option.bind_some, wsucc (show i < 9223372036854775807 by omega)]
    rw [List.drop_eq_getElem_cons hi, List.all_cons]
    cases hp : partOkB l[i].f0 l[i].f1
    · simpa using ev_some _
    · simpa using ih
theorem spec_PlanOk_ev (l : List S30) (h : l.length ≤ 9223372036854775807) : Ev (fun k => spec_PlanOk.f k l) (planOkB l) := by
  unfold spec_PlanOk.f planOkB
  simpa using spec_PlanOk_l0 l h 0 (by omega)
attribute [local irreducible] spec_PlanOk.f

theorem spec_DecodeKey_l0 (l : List S30) (b : List Int) (hb : IsB b) (hbl : b.length ≤ 140737480000000) (hp : planOkB l = true) : ∀ i : Nat, i ≤ l.length → ∀ (out : List S32) (p : Int), out.length = i →
    Ev (fun k => spec_DecodeKey.l0 k l b out p (i : Int)) (decR b out (decL (l.drop i) b p)) := by
  have h6 := (planOk_len hp).1
  have hpl := spec_PlanOk_ev l (by omega)
  rw [hp] at hpl
  refine up_ind l.length (fun i : Nat => ∀ (out : List S32) (p : Int), out.length = i → Ev (fun k => spec_DecodeKey.l0 k l b out p (i : Int)) (decR b out (decL (l.drop i) b p))) ?_ ?_
  · intro out p ho
    refine ev_succ ?_
    have h1 : ¬ ((l.length : Int) < (l.length : Int)) := by omega
    simp only [spec_DecodeKey.l0.eq_2, h1, if_false]
    refine ev_succ ?_
    simp only [spec_DecodeKey.j1.eq_2, Bool.false_eq_true, if_false]
    refine Ev.bind hpl ?_
    rw [List.drop_eq_nil_of_le (Nat.le_refl _)]
    simp only [decL, decR, List.append_nil, if_true]
    by_cases hq : p = (b.length : Int)
    · rw [if_pos hq, if_pos hq]; exact ev_some _
    · rw [if_neg hq, if_neg hq]; exact ev_some _
  · intro i hi ih out p ho
    refine ev_succ ?_
    have h1 : (i : Int) < (l.length : Int) := by omega
    have h2 : (0 : Int) ≤ (i : Int) := by omega
    have h3 : out.length < 4398046511104 := by omega
    simp only [spec_DecodeKey.l0.eq_2, h1, if_true]
    refine Ev.bind hpl ?_
    refine ev_succ ?_
    simp only [spec_DecodeKey.j1.eq_2, h1, h2, h3, if_true, rd_T30_nat l i hi, wsucc (show i < 9223372036854775807 by omega)]
    rw [List.drop_eq_getElem_cons hi]
    refine Ev.bind (spec_GetPart_ev b hbl hb _ _ _ _ p) ?_
    by_cases hok : (gpB b l[i] p).2.2.2.2 = true
    · rw [decR_cons b out _ _ p hok]
      have hok' : (getPart b l[i].f0 l[i].f1 l[i].f2 l[i].f3 p).2.2.2.2 = true := hok
      simp only [hok', if_true]
      exact ih (out ++ [gpV (gpB b l[i] p)]) _ (by rw [List.length_append]; simp only [List.length_cons, List.length_nil]; omega)
    · rw [decR_none b out _ _ p hok]
      have hok' : ¬ (getPart b l[i].f0 l[i].f1 l[i].f2 l[i].f3 p).2.2.2.2 = true := hok
      simp only [hok', if_false]
      exact ev_some _
theorem spec_DecodeKey_ev (l : List S30) (b : List Int) (hb : IsB b) (hbl : b.length ≤ 140737480000000) (hl : l.length ≤ 9223372036854775806) : Ev (fun k => spec_DecodeKey.f k l b) (decKey l b) := by
  unfold spec_DecodeKey.f decKey
  cases hp : planOkB l with
  | true =>
    simp only [if_true]
    simpa using spec_DecodeKey_l0 l b hb hbl hp 0 (by omega) [] 0 rfl
  | false =>
    have hpl := spec_PlanOk_ev l (by omega)
    rw [hp] at hpl
    simp only [Bool.false_eq_true, if_false]
    have tail : Ev (fun k => spec_DecodeKey.j1 k l b [] 0 0 false) (([] : List S32), false) := by
      refine ev_succ ?_
      simp only [spec_DecodeKey.j1.eq_2, Bool.false_eq_true, if_false]
      refine Ev.bind hpl ?_
      simp only [Bool.false_eq_true, if_false]
      exact ev_some _
    refine ev_succ ?_
    simp only [spec_DecodeKey.l0.eq_2]
    by_cases h1 : (0 : Int) < (l.length : Int)
    · simp only [h1, if_true]
      exact Ev.bind hpl tail
    · simp only [h1, if_false]
      exact tail
attribute [local irreducible] spec_DecodeKey.f

theorem impl_in_eq (a b c : Int) : impl_in.f a b c = some (inB a b c) := in_ite a b c
attribute [local irreducible] impl_in.f

theorem impl_PartOk_eq (a0 a1 : Int) (a2 a3 : Bool) : impl_PartOk.f a0 a1 a2 a3 = some (partOkB a0 a1) := by
  unfold impl_PartOk.f partOkB
  simp only [impl_in_eq, Option.bind_some]
  cases inB a0 0 9 <;> simp
attribute [local irreducible] impl_PartOk.f

theorem impl_ValOk_eq (k n : Int) (s : ByteArray) : impl_ValOk.f k n s = some (valOkB k n s) := by
  unfold impl_ValOk.f valOkB isE
  simp only [impl_in_eq, Option.bind_some]
  by_cases h0 : k = 0
  · simp only [h0, if_true]; by_cases hn : n = 0 <;> simp [hn]
  simp only [h0, if_false]
  by_cases h1 : k = 1
  · simp only [h1, if_true]; cases inB n (-2147483648) 2147483647 <;> simp
  simp only [h1, if_false]
  by_cases h2 : k = 2
  · simp only [h2, if_true]; cases inB n (-1000000000000000) 1000000000000000 <;> simp
  simp only [h2, if_false]
  by_cases h3 : k = 3
  · simp only [h3, if_true]; by_cases hn : n = 0 <;> by_cases hs : (s.size : Int) ≤ 30 <;> simp [hn, hs]
  simp only [h3, if_false]
  by_cases h4 : k = 4
  · simp only [h4, if_true]; cases inB n 0 1 <;> simp
  simp only [h4, if_false]
attribute [local irreducible] impl_ValOk.f

theorem impl_Fits_eq (a0 t : Int) (null a3 : Bool) (k n : Int) (s : ByteArray) : impl_Fits.f a0 t null a3 k n s = some (fitsB t null k n s) := by
  unfold impl_Fits.f fitsB
  simp only [impl_ValOk_eq, Option.bind_some]
  cases valOkB k n s
  · simp
  · simp only [if_true, Bool.true_and]
    by_cases h1 : k = t
    · rw [if_pos h1]
      by_cases h0 : k = 0
      · rw [if_pos h0, if_pos h0]
      · rw [if_neg h0, if_neg h0]; simp [h1]
    · rw [if_neg h1]
      by_cases h0 : k = 0
      · rw [if_pos h0, if_pos h0]
      · rw [if_neg h0, if_neg h0]; simp [h1]
attribute [local irreducible] impl_Fits.f

theorem impl_copyBytes_eq (l : List Int) (h : l.length < 140737488355328) : impl_copyBytes.f l = some l := by
  unfold impl_copyBytes.f
  simp only [List.length_nil, Nat.zero_add, List.nil_append]
  rw [if_pos h]
attribute [local irreducible] impl_copyBytes.f

theorem impl_Flip_l0 (l : List Int) (hl : l.length ≤ 140737480000000) (hb : IsB l) (p : Nat) : ∀ i : Nat, i ≤ l.length → p ≤ i → ∀ xs : List Int, xs.length = l.length → xs.drop i = l.drop i →
    Ev (fun k => impl_Flip.l0 k xs (i : Int)) (xs.take i ++ (l.drop i).map fun x => 255 - x) := by
  refine up_ind l.length (fun i : Nat => p ≤ i → ∀ xs : List Int, xs.length = l.length → xs.drop i = l.drop i → Ev (fun k => impl_Flip.l0 k xs (i : Int)) (xs.take i ++ (l.drop i).map fun x => 255 - x)) ?_ ?_
  · intro _ xs hx _
    refine ev_succ ?_
    have h1 : ¬ ((l.length : Int) < (xs.length : Int)) := by omega
    simp only [impl_Flip.l0.eq_2, h1, if_false]
    rw [List.take_of_length_le (by omega), List.drop_eq_nil_of_le (by omega), List.map_nil, List.append_nil]
    exact ev_some _
  · intro i hi ih hp xs hx he
    refine ev_succ ?_
    have hxi : i < xs.length := by omega
    have h1 : (i : Int) < (xs.length : Int) := by omega
    have h2 : (0 : Int) ≤ (i : Int) := by omega
    have h3 : xs[i] = l[i] := by
      have := congrArg (fun l => l[0]?) he
      simp only [List.getElem?_drop, Nat.add_zero] at this
      rw [List.getElem?_eq_getElem hxi, List.getElem?_eq_getElem hi] at this
      exact Option.some.inj this
    obtain ⟨g0, g1⟩ := hb.get i hi
    simp only [impl_Flip.l0.eq_2, h1, h2, if_true, Int.toNat_natCast, rd_nat xs i hxi, h3, xor255 l[i] g0 g1, wsucc (show i < 9223372036854775807 by omega)]
    have := ih (by omega) (xs.set i (255 - l[i])) (by simp [hx]) (by
      rw [List.drop_set_of_lt (by omega)]
      have := congrArg (List.drop 1) he
      simpa [List.drop_drop, Nat.add_comm] using this)
    rw [take_set_succ _ _ _ hxi, List.append_assoc] at this
    rw [List.drop_eq_getElem_cons hi]
    exact this
theorem impl_Flip_ev (l : List Int) (p : Int) (hl : l.length ≤ 140737480000000) (hb : IsB l) : Ev (fun k => impl_Flip.f k l p) (flipB l p) := by
  unfold impl_Flip.f
  simp only [impl_copyBytes_eq l (by omega), Option.bind_some]
  have e : mx p 0 = ((p.toNat : Nat) : Int) := by unfold mx; split <;> omega
  rw [e]
  by_cases hp : p.toNat ≤ l.length
  · exact impl_Flip_l0 l hl hb p.toNat p.toNat hp (Nat.le_refl _) l rfl rfl
  · refine ev_succ ?_
    have h1 : ¬ (((p.toNat : Nat) : Int) < (l.length : Int)) := by omega
    simp only [impl_Flip.l0.eq_2, h1, if_false]
    unfold flipB
    rw [List.take_of_length_le (by omega), List.drop_eq_nil_of_le (by omega), List.map_nil, List.append_nil]
    exact ev_some _
attribute [local irreducible] impl_Flip.f

theorem impl_numberAt_l0 (xs : List Int) (hl : xs.length ≤ 7) (hb : IsB xs) (t : Bool) : ∀ i : Nat, i ≤ xs.length → ∀ x : Nat, x < 256 ^ i →
    Ev (fun k => impl_numberAt.l0 k (if t = true then 255 else 0) (x : Int) xs (xs.length : Int) (i : Int)) (((beN x ((xs.drop i).map fun y => if t = true then 255 - y else y) : Nat) : Int), true) := by
  refine up_ind xs.length (fun i : Nat => ∀ x : Nat, x < 256 ^ i → Ev (fun k => impl_numberAt.l0 k (if t = true then 255 else 0) (x : Int) xs (xs.length : Int) (i : Int)) (((beN x ((xs.drop i).map fun y => if t = true then 255 - y else y) : Nat) : Int), true)) ?_ ?_
  · intro x _
    refine ev_succ ?_
    have h1 : ¬ ((xs.length : Int) < (xs.length : Int)) := by omega
    simp only [impl_numberAt.l0.eq_2, h1, if_false]
    rw [List.drop_eq_nil_of_le (by omega)]
    exact ev_some _
  · intro i hi ih x hx
    refine ev_succ ?_
    have h1 : (i : Int) < (xs.length : Int) := by omega
    have h2 : (0 : Int) ≤ (i : Int) := by omega
    have hx7 : x < 281474976710656 := Nat.lt_of_lt_of_le hx (by have := Nat.pow_le_pow_right (show 0 < 256 by omega) (show i ≤ 6 by omega); simpa using this)
    obtain ⟨g0, g1⟩ := hb.get i hi
    have h3 : wrap64 ((x : Int) * 256) = (x : Int) * 256 := w64 (by omega) (by omega)
    have h4 : bits .xor .u8 xs[i] (if t = true then 255 else 0) = if t = true then 255 - xs[i] else xs[i] := by
      cases t with
      | true => simp only [if_true]; exact xor_255 _ g0 g1
      | false => simp only [Bool.false_eq_true, if_false]; exact xor0 _ g0 g1
    have hv : 0 ≤ (if t = true then 255 - xs[i] else xs[i]) ∧ (if t = true then 255 - xs[i] else xs[i]) ≤ 255 := by cases t <;> simp only [if_true, Bool.false_eq_true, if_false] <;> omega
    have h8 : wrap64 ((i : Int) + 1) = ((i + 1 : Nat) : Int) := wsucc (by omega)
    simp only [impl_numberAt.l0.eq_2, h1, h2, if_true, rd_nat xs i hi, h3, h4, h8]
    rw [List.drop_eq_getElem_cons hi, List.map_cons, beN]
    clear h3 h4 h8
    generalize (if t = true then 255 - xs[i] else xs[i]) = v at hv ⊢
    obtain ⟨v, rfl⟩ := Int.eq_ofNat_of_zero_le hv.1
    rw [w64 (by omega) (by omega), or_hi_lo (x : Int) (v : Int) (by omega) (by omega) (by omega) (by omega)]
    have := ih (x * 256 + v) (by rw [Nat.pow_succ]; omega)
    rw [show (x : Int) * 256 + (v : Int) = ((x * 256 + v : Nat) : Int) by omega]
    simpa using this
theorem impl_numberAt_ev (l : List Int) (hl : l.length ≤ 140737488355328) (hb : IsB l) (p : Int) (c : Nat) (hc : c ≤ 7) (t : Bool) (τ : Int) (hτ : τ = if t = true then 255 else 0) (hp : -9223372036854775808 ≤ p ∧ p ≤ 9223372036854775807) :
    Ev (fun k => impl_numberAt.f k l p (c : Int) τ) (readR (readB l p c t)) := by
  subst hτ
  unfold impl_numberAt.f
  by_cases h0 : p < 0
  · simp only [h0, if_true]
    refine ev_succ ?_
    simp only [impl_numberAt.j0.eq_2, if_true]
    rw [readB_neg (by omega)]
    exact ev_some _
  · simp only [h0, if_false]
    have e1 : wrap64 ((l.length : Int) - (c : Int)) = (l.length : Int) - (c : Int) := w64 (by omega) (by omega)
    rw [e1]
    refine ev_succ ?_
    by_cases h1 : p > (l.length : Int) - (c : Int)
    · simp only [impl_numberAt.j0.eq_2, h1, decide_true, if_true]
      rw [readB_neg (by omega)]
      exact ev_some _
    · have e2 : wrap64 (p + (c : Int)) = p + (c : Int) := w64 (by omega) (by omega)
      have a1 : (0 : Int) ≤ p := by omega
      have a2 : p ≤ p + (c : Int) := by omega
      have a3 : p + (c : Int) ≤ (l.length : Int) := by omega
      simp only [impl_numberAt.j0.eq_2, h1, decide_false, Bool.false_eq_true, if_false, e2, a1, a2, a3, if_true, Option.bind_some]
      have e3 : (l.take (p + (c : Int)).toNat).drop p.toNat = (l.drop p.toNat).take c := by
        rw [List.drop_take]; congr 1; omega
      rw [e3]
      have hlen : ((l.drop p.toNat).take c).length = c := by rw [List.length_take, List.length_drop]; omega
      have := impl_numberAt_l0 ((l.drop p.toNat).take c) (by omega) ((hb.drop _).take _) t 0 (by omega) 0 (by decide)
      rw [readB_pos a1 a3]
      exact this
attribute [local irreducible] impl_numberAt.f

theorem impl_GetFix_ev (l : List Int) (hl : l.length ≤ 140737480000000) (hb : IsB l) (p : Int) (hp : -9223372036854775808 ≤ p ∧ p ≤ 9223372036854775807) : Ev (fun k => impl_GetFix.f k l p) (getFix l p) := by
  unfold impl_GetFix.f getFix
  refine Ev.bind (impl_numberAt_ev l (by omega) hb p 4 (by omega) false 0 rfl hp) ?_
  cases h : readB l p 4 false with
  | none => simp only [readR, Bool.false_eq_true, if_false]; exact ev_some _
  | some n =>
    obtain ⟨h0, h1, hn⟩ := readB_some hb h
    have e1 : wrap64 ((n : Int) - 2147483648) = (n : Int) - 2147483648 := w64 (by omega) (by omega)
    have e2 : wrap64 (p + 4) = p + 4 := w64 (by omega) (by omega)
    simp only [readR, if_true, e1, e2]; exact ev_some _
attribute [local irreducible] impl_GetFix.f

theorem impl_bytesOf_l0 (n : Nat) : ∀ c : Nat, c + n ≤ 4611686018427387904 → Ev (fun k => impl_bytesOf.l0 k (n : Int) (c : Int)) ((c + nB n : Nat) : Int) := by
  induction n using Nat.strongRecOn with
  | _ n ih =>
    intro c hc
    refine ev_succ ?_
    by_cases h : n = 0
    · subst h
      have h1 : ¬ (((0 : Nat) : Int) > 0) := by decide
      simp only [impl_bytesOf.l0.eq_2, h1, if_false, nB_zero, Nat.add_zero]
      exact ev_some _
    · have h1 : (n : Int) > 0 := by omega
      have h2 : wrap64 ((c : Int) + 1) = ((c + 1 : Nat) : Int) := wsucc (by omega)
      have h3 : (n : Int) / 256 = ((n / 256 : Nat) : Int) := by omega
      simp only [impl_bytesOf.l0.eq_2, h1, if_true, h2, h3]
      have := ih (n / 256) (by omega) (c + 1) (by omega)
      rw [nB_pos h, show c + (nB (n / 256) + 1) = c + 1 + nB (n / 256) by omega]
      exact this
theorem impl_bytesOf_ev (n : Nat) (h : n ≤ 4611686018427387904) : Ev (fun k => impl_bytesOf.f k (n : Int)) ((nB n : Nat) : Int) := by
  unfold impl_bytesOf.f
  simpa using impl_bytesOf_l0 n 0 (by omega)
attribute [local irreducible] impl_bytesOf.f

theorem impl_GetVar_j1 (l : List Int) (hl : l.length ≤ 140737480000000) (hb : IsB l) (p : Int) (hp : 0 ≤ p ∧ p < l.length) (c : Nat) (hc : c ≤ 7) (t : Bool) (τ : Int) (hτ : τ = if t = true then 255 else 0) :
    Ev (fun k => impl_GetVar.j1 k l p (c : Int) τ) (getVarR p c t (readB l (p + 1) c t)) := by
  refine ev_succ ?_
  have h7 : ¬ ((c : Int) > 7) := by omega
  have e1 : wrap64 (p + 1) = p + 1 := w64 (by omega) (by omega)
  simp only [impl_GetVar.j1.eq_2, h7, if_false, e1]
  refine Ev.bind (impl_numberAt_ev l (by omega) hb (p + 1) c hc t τ hτ (by omega)) ?_
  cases h : readB l (p + 1) c t with
  | none =>
    simp only [readR, Bool.false_eq_true, if_false]
    refine ev_succ ?_
    simp only [impl_GetVar.j2.eq_2, if_true]
    exact ev_some _
  | some n =>
    obtain ⟨_, hpc, hn⟩ := readB_some hb h
    have hn7 : n < 72057594037927936 := Nat.lt_of_lt_of_le hn (by have := Nat.pow_le_pow_right (show 0 < 256 by omega) hc; simpa using this)
    simp only [readR, if_true]
    refine Ev.bind (impl_bytesOf_ev n (by omega)) ?_
    refine ev_succ ?_
    have e2 : wrap64 (p + 1 + (c : Int)) = p + 1 + (c : Int) := w64 (by omega) (by omega)
    unfold getVarR
    by_cases hc2 : nB n = c
    · simp only [impl_GetVar.j2.eq_2, hc2, bne_self_eq_false, Bool.false_eq_true, if_false, hc2, true_and, e1]
      cases t with
      | false =>
        have hτ0 : τ = 0 := by rw [hτ]; rfl
        simp only [hτ0, if_true, impl_in_eq, Option.bind_some, Bool.false_eq_true, if_false, e2]
        cases inB (n : Int) (-1000000000000000) 1000000000000000
        · simp only [Bool.false_eq_true, if_false]; exact ev_some _
        · simp only [if_true]; exact ev_some _
      | true =>
        have hτ0 : ¬ (τ = 0) := by rw [hτ]; decide
        have e3 : wrap64 (-1 - (n : Int)) = -1 - (n : Int) := w64 (by omega) (by omega)
        simp only [hτ0, if_false, impl_in_eq, Option.bind_some, if_true, e2, e3]
        cases inB (-1 - (n : Int)) (-1000000000000000) 1000000000000000
        · simp only [Bool.false_eq_true, if_false]; exact ev_some _
        · simp only [if_true]; exact ev_some _
    · have hne : (((nB n : Nat) : Int) != (c : Int)) = true := by simp; omega
      simp only [impl_GetVar.j2.eq_2, hne, if_true, hc2, false_and, if_false]
      exact ev_some _
theorem impl_GetVar_ev (l : List Int) (hl : l.length ≤ 140737480000000) (hb : IsB l) (p : Int) (hp : -9223372036854775808 ≤ p ∧ p ≤ 9223372036854775807) : Ev (fun k => impl_GetVar.f k l p) (getVar l p) := by
  unfold impl_GetVar.f getVar
  by_cases h0 : p < 0
  · simp only [h0, if_true]
    rw [if_neg (by omega)]
    refine ev_succ ?_
    simp only [impl_GetVar.j0.eq_2, if_true]
    exact ev_some _
  · simp only [h0, if_false]
    by_cases h1 : p ≥ (l.length : Int)
    · rw [if_neg (by omega)]
      refine ev_succ ?_
      simp only [impl_GetVar.j0.eq_2, h1, decide_true, if_true]
      exact ev_some _
    · have a1 : (0 : Int) ≤ p := by omega
      have a2 : p < (l.length : Int) := by omega
      rw [if_pos ⟨a1, a2⟩]
      refine ev_succ ?_
      obtain ⟨g0, g1⟩ := rd_isB hb p
      have e1 : wrap64 (rd l p) = rd l p := w64 (by omega) (by omega)
      have e2 : wrap64 (rd l p - 128) = rd l p - 128 := w64 (by omega) (by omega)
      have e3 : wrap64 (127 - rd l p) = 127 - rd l p := w64 (by omega) (by omega)
      simp only [impl_GetVar.j0.eq_2, h1, decide_false, Bool.false_eq_true, if_false, a1, a2, if_true, e1, e2, e3]
      clear e1 e2 e3
      by_cases hneg : rd l p - 128 < 0
      · simp only [hneg, if_true]
        rw [if_neg (by omega)]
        by_cases h7 : 120 ≤ rd l p
        · rw [if_pos (by omega)]
          have := impl_GetVar_j1 l hl hb p ⟨a1, a2⟩ (127 - rd l p).toNat (by omega) true 255 rfl
          rw [show (((127 - rd l p).toNat : Nat) : Int) = 127 - rd l p by omega] at this
          exact this
        · rw [if_neg (by omega)]
          refine ev_succ ?_
          have h8 : 127 - rd l p > 7 := by omega
          simp only [impl_GetVar.j1.eq_2, h8, if_true]
          exact ev_some _
      · simp only [hneg, if_false]
        by_cases h7 : rd l p ≤ 135
        · rw [if_pos (by omega)]
          have := impl_GetVar_j1 l hl hb p ⟨a1, a2⟩ (rd l p - 128).toNat (by omega) false 0 rfl
          rw [show (((rd l p - 128).toNat : Nat) : Int) = rd l p - 128 by omega] at this
          exact this
        · rw [if_neg (by omega), if_neg (by omega)]
          refine ev_succ ?_
          have h8 : rd l p - 128 > 7 := by omega
          simp only [impl_GetVar.j1.eq_2, h8, if_true]
          exact ev_some _
attribute [local irreducible] impl_GetVar.f

theorem impl_GetEsc_l0 (l : List Int) (hl : l.length ≤ 140737488355327) (d : Nat) : ∀ (p : Nat) (o : List Int), l.length - p = d → (p : Int) ≤ 9223372036854775807 → o.length + (l.length - p) ≤ 140737488355327 →
    Ev (fun k => impl_GetEsc.l0 k l o (p : Int)) (getER (getEB o p (l.drop p))) := by
  induction d using Nat.strongRecOn with
  | _ d ih =>
    intro p o hd hp63 ho
    refine ev_succ (ev_succ ?_)
    have a1 : (p : Int) ≥ 0 := by omega
    by_cases hp : p < l.length
    · have b1 : (p : Int) < (l.length : Int) := by omega
      have b2 : o.length < 140737488355328 := by omega
      simp only [impl_GetEsc.l0.eq_2, impl_GetEsc.j1.eq_2, a1, b1, b2, decide_true, if_true, rd_nat l p hp, wsucc (show p < 9223372036854775807 by omega)]
      rw [List.drop_eq_getElem_cons hp]
      by_cases hz : l[p] = 0
      · by_cases hp1 : p + 1 < l.length
        · have c1 : ¬ (((p + 1 : Nat) : Int) ≥ (l.length : Int)) := by omega
          have c2 : (0 : Int) ≤ ((p + 1 : Nat) : Int) := by omega
          have c3 : ((p + 1 : Nat) : Int) < (l.length : Int) := by omega
          simp only [hz, if_true, c1, if_false, c2, c3, rd_nat l (p + 1) hp1, wsucc (show p + 1 < 9223372036854775807 by omega)]
          rw [List.drop_eq_getElem_cons hp1, getEB_cons]
          by_cases h1 : l[p + 1] = 1
          · simp only [h1, if_true]; exact ev_some _
          · by_cases h255 : l[p + 1] = 255
            · simp only [h255, if_true, show ¬ ((255 : Int) = 1) by decide, if_false]
              exact ih (l.length - (p + 1 + 1)) (by omega) (p + 1 + 1) (o ++ [0]) rfl (by omega) (by simp only [List.length_append, List.length_cons, List.length_nil]; omega)
            · simp only [h1, h255, if_true, if_false]; exact ev_some _
        · have c1 : ((p + 1 : Nat) : Int) ≥ (l.length : Int) := by omega
          simp only [hz, if_true, c1]
          rw [List.drop_eq_nil_of_le (by omega), getEB_one]
          exact ev_some _
      · simp only [hz, if_false]
        have := ih (l.length - (p + 1)) (by omega) (p + 1) (o ++ [l[p]]) rfl (by omega) (by simp only [List.length_append, List.length_cons, List.length_nil]; omega)
        rw [getEB_ne _ _ _ _ hz]
        exact this
    · have b1 : ¬ ((p : Int) < (l.length : Int)) := by omega
      simp only [impl_GetEsc.l0.eq_2, impl_GetEsc.j1.eq_2, a1, b1, decide_false, Bool.false_eq_true, if_true, if_false]
      rw [List.drop_eq_nil_of_le (by omega), getEB_nil]
      exact ev_some _
theorem impl_GetEsc_ev (l : List Int) (hl : l.length ≤ 140737480000000) (hb : IsB l) (p : Int) (hp : -9223372036854775808 ≤ p ∧ p ≤ 9223372036854775807) : Ev (fun k => impl_GetEsc.f k l p) (getEsc l p) := by
  unfold impl_GetEsc.f getEsc
  by_cases h0 : 0 ≤ p
  · obtain ⟨q, rfl⟩ := Int.eq_ofNat_of_zero_le h0
    rw [if_pos h0]
    exact impl_GetEsc_l0 l (by omega) _ q [] rfl (by omega) (by simp only [List.length_nil]; omega)
  · rw [if_neg h0]
    refine ev_succ (ev_succ ?_)
    have a1 : ¬ (p ≥ 0) := by omega
    simp only [impl_GetEsc.l0.eq_2, impl_GetEsc.j1.eq_2, a1, if_false, Bool.false_eq_true]
    exact ev_some _
attribute [local irreducible] impl_GetEsc.f

theorem impl_typedAt_ev (l : List Int) (hl : l.length ≤ 140737480000000) (hb : IsB l) (t p : Int) (hp : -9223372036854775808 ≤ p ∧ p ≤ 9223372036854775807) : Ev (fun k => impl_typedAt.f k l t p) (getTyped l t p) := by
  unfold impl_typedAt.f getTyped
  by_cases t1 : t = 1
  · simp only [t1, if_true]
    exact Ev.bind (impl_GetFix_ev l hl hb p hp) (ev_some _)
  by_cases t2 : t = 2
  · simp only [t1, if_false]
    simp only [t2, if_true]
    exact Ev.bind (impl_GetVar_ev l hl hb p hp) (ev_some _)
  by_cases t3 : t = 3
  · simp only [t1, t2, if_false]
    simp only [t3, if_true]
    exact Ev.bind (impl_GetEsc_ev l hl hb p hp) (ev_some _)
  by_cases t4 : t = 4
  · simp only [t1, t2, t3, if_false]
    simp only [t4, if_true]
    have hr := rd_isB hb p
    by_cases h0 : 0 ≤ p
    · have h0' : p ≥ 0 := h0
      by_cases h1 : p < (l.length : Int)
      · simp only [h0, h0', h1, if_true, and_self, w64 (x := rd l p) (by omega) (by omega), w64 (x := p + 1) (by omega) (by omega)]
        exact ev_some _
      · simp only [h0', h1, if_true, if_false, and_false]
        exact ev_some _
    · have h0' : ¬ (p ≥ 0) := h0
      simp only [h0, h0', if_false, false_and]
      exact ev_some _
  · simp only [t1, t2, t3, t4, if_false]
    exact ev_some _
attribute [local irreducible] impl_typedAt.f

theorem impl_GetPart_fit (c t : Int) (null desc : Bool) (r : Int × Int × ByteArray × Int × Bool) : (if r.2.2.2.2 = true then ((impl_Fits.f c t null desc r.1 r.2.1 r.2.2.1).bind fun t375 => (if t375 = true then (some (r.1, r.2.1, r.2.2.1, r.2.2.2.1, true)) else (some (0, 0, (⟨#[]⟩ : ByteArray), 0, false)))) else (some (0, 0, (⟨#[]⟩ : ByteArray), 0, false))) = some (fitR t null r) := by
  obtain ⟨a, b, s, q, e⟩ := r
  simp only [impl_Fits_eq, Option.bind_some]
  unfold fitR noPart
  cases e with
  | false => simp
  | true =>
    cases hf : fitsB t null a b s with
    | false => simp [hf]
    | true => simp [hf]
theorem impl_GetPart_j1 (l : List Int) (hl : l.length ≤ 140737480000000) (hb : IsB l) (c t : Int) (null desc : Bool) (p : Int) (hp : -9223372036854775808 ≤ p ∧ p ≤ 9223372036854775807) :
    Ev (fun k => impl_GetPart.j1 k l p c t null desc) (fitR t null (getTyped l t p)) := by
  refine ev_succ ?_
  simp only [impl_GetPart.j1.eq_2]
  refine Ev.bind (impl_typedAt_ev l hl hb t p hp) ?_
  rw [impl_GetPart_fit]
  exact ev_some _
theorem impl_GetPart_j2 (l : List Int) (hl : l.length ≤ 140737480000000) (hb : IsB l) (c t : Int) (null desc : Bool) (p : Int) (hp : -9223372036854775808 ≤ p ∧ p ≤ 9223372036854775807) :
    Ev (fun k => impl_GetPart.j2 k l p c t null desc) (fitR t null (getTyped l t p)) := by
  refine ev_succ ?_
  simp only [impl_GetPart.j2.eq_2]
  refine Ev.bind (impl_typedAt_ev l hl hb t p hp) ?_
  rw [impl_GetPart_fit]
  exact ev_some _
theorem impl_GetPart_ev (l : List Int) (hl : l.length ≤ 140737480000000) (hb : IsB l) (c t : Int) (null desc : Bool) (p : Int) :
    Ev (fun k => impl_GetPart.f k l c t null desc p) (getPart l c t null desc p) := by
  unfold impl_GetPart.f getPart
  simp only [impl_PartOk_eq, Option.bind_some]
  have out : Ev (fun k => impl_GetPart.j0 k l p true c t null desc) noPart := by
    refine ev_succ ?_
    simp only [impl_GetPart.j0.eq_2, if_true]
    exact ev_some _
  cases hok : partOkB c t with
  | false =>
    simp only [Bool.false_eq_true, if_false, false_and]
    exact out
  | true =>
    simp only [if_true, true_and]
    by_cases h0 : p < 0
    · have h0' : ¬ (0 ≤ p ∧ p < (l.length : Int)) := by omega
      simp only [h0, h0', if_true, if_false]
      exact out
    · by_cases h1 : p < (l.length : Int)
      · have h01 : 0 ≤ p ∧ p < (l.length : Int) := by omega
        have h00 : 0 ≤ p := h01.1
        have hd : decide (p ≥ (l.length : Int)) = false := decide_eq_false (by omega)
        have w1 : wrap64 (p + 1) = p + 1 := w64 (by omega) (by omega)
        rw [if_pos h01]
        simp only [h0, if_false, hd]
        refine ev_succ ?_
        simp only [impl_GetPart.j0.eq_2, Bool.false_eq_true, if_false, w1]
        unfold getBare
        cases desc with
        | true =>
          simp only [if_true]
          refine Ev.bind (impl_Flip_ev l p hl hb) ?_
          have hfl : (flipB l p).length ≤ 140737480000000 := by rw [flipB_len]; exact hl
          have hfb := flipB_isB hb p
          have hlt : p < ((flipB l p).length : Int) := by rw [flipB_len]; exact h1
          cases null with
          | true =>
            simp only [if_true, h00, hlt]
            by_cases r0 : rd (flipB l p) p = 0
            · simp only [r0, if_true]; exact ev_some _
            · by_cases r1 : rd (flipB l p) p = 1
              · simp only [r1, if_true, show ¬ ((1 : Int) = 0) by decide, if_false]
                exact impl_GetPart_j1 _ hfl hfb c t true true (p + 1) (by omega)
              · simp only [r0, r1, if_false]; exact ev_some _
          | false =>
            simp only [Bool.false_eq_true, if_false]
            exact impl_GetPart_j1 _ hfl hfb c t false true p (by omega)
        | false =>
          simp only [Bool.false_eq_true, if_false]
          cases null with
          | true =>
            simp only [if_true, h00, h1]
            by_cases r0 : rd l p = 0
            · simp only [r0, if_true]; exact ev_some _
            · by_cases r1 : rd l p = 1
              · simp only [r1, if_true, show ¬ ((1 : Int) = 0) by decide, if_false]
                exact impl_GetPart_j2 _ hl hb c t true false (p + 1) (by omega)
              · simp only [r0, r1, if_false]; exact ev_some _
          | false =>
            simp only [Bool.false_eq_true, if_false]
            exact impl_GetPart_j2 _ hl hb c t false false p (by omega)
      · have h01 : ¬ (0 ≤ p ∧ p < (l.length : Int)) := by omega
        have hd : decide (p ≥ (l.length : Int)) = true := decide_eq_true (by omega)
        rw [if_neg h01]
        simp only [h0, if_false, hd]
        exact out
attribute [local irreducible] impl_GetPart.f

theorem impl_PlanOk_l0 (l : List S30) (h : l.length ≤ 9223372036854775807) : ∀ i, i ≤ l.length → (i ≤ 6 → Ev (fun k => impl_PlanOk.l0 k l (l.length : Int) (i : Int)) (decide (l.length ≤ 6) && (l.drop i).all fun p => partOkB p.f0 p.f1)) := by
  refine up_ind l.length (fun i => (i ≤ 6 → Ev (fun k => impl_PlanOk.l0 k l (l.length : Int) (i : Int)) (decide (l.length ≤ 6) && (l.drop i).all fun p => partOkB p.f0 p.f1))) ?_ ?_
  · intro h6
    refine ev_succ ?_
    have h1 : ¬ ((l.length : Int) < (l.length : Int)) := by omega
    simp only [impl_PlanOk.l0.eq_2, h1, if_false]
    rw [List.drop_eq_nil_of_le (by omega), decide_eq_true h6]
    simpa using ev_some _
  · intro i hi ih h6
    refine ev_succ ?_
    have h1 : (i : Int) < (l.length : Int) := by omega
    have h2 : (0 : Int) ≤ (i : Int) := by omega
    by_cases h7 : i = 6
    · have h8 : (i : Int) ≥ 6 := by omega
      simp only [impl_PlanOk.l0.eq_2, h1, h2, h8, if_true]
      rw [show decide (l.length ≤ 6) = false by apply decide_eq_false; omega]
      simpa using ev_some _
    · have h8 : ¬ ((i : Int) ≥ 6) := by omega
      simp only [impl_PlanOk.l0.eq_2, h1, h2, h8, if_true, if_false, rd_T30_nat l i hi, impl_PartOk_eq, Option.bind_some, wsucc (show i < 9223372036854775807 by omega)]
      rw [List.drop_eq_getElem_cons hi, List.all_cons]
      cases hp : partOkB l[i].f0 l[i].f1
      · simpa using ev_some _
      · simpa using ih (by omega)
theorem impl_PlanOk_ev (l : List S30) (h : l.length ≤ 9223372036854775807) : Ev (fun k => impl_PlanOk.f k l) (planOkB l) := by
  unfold impl_PlanOk.f planOkB
  simpa using impl_PlanOk_l0 l h 0 (by omega) (by omega)
attribute [local irreducible] impl_PlanOk.f

theorem impl_DecodeKey_l0 (l : List S30) (b : List Int) (hb : IsB b) (hbl : b.length ≤ 140737480000000) (h6 : l.length ≤ 6) : ∀ i : Nat, i ≤ l.length → ∀ (out : List S32) (p : Int), out.length = i →
    Ev (fun k => impl_DecodeKey.l0 k b out p l (l.length : Int) (i : Int)) (decR b out (decL (l.drop i) b p)) := by
  refine up_ind l.length (fun i : Nat => ∀ (out : List S32) (p : Int), out.length = i → Ev (fun k => impl_DecodeKey.l0 k b out p l (l.length : Int) (i : Int)) (decR b out (decL (l.drop i) b p))) ?_ ?_
  · intro out p ho
    refine ev_succ ?_
    have h1 : ¬ ((l.length : Int) < (l.length : Int)) := by omega
    simp only [impl_DecodeKey.l0.eq_2, h1, if_false]
    rw [List.drop_eq_nil_of_le (Nat.le_refl _)]
    simp only [decL, decR, List.append_nil]
    by_cases hp : p = (b.length : Int)
    · rw [if_pos hp, if_pos hp]; exact ev_some _
    · rw [if_neg hp, if_neg hp]; exact ev_some _
  · intro i hi ih out p ho
    refine ev_succ ?_
    have h1 : (i : Int) < (l.length : Int) := by omega
    have h2 : (0 : Int) ≤ (i : Int) := by omega
    have h3 : out.length < 4398046511104 := by omega
    simp only [impl_DecodeKey.l0.eq_2, h1, h2, h3, if_true, rd_T30_nat l i hi, wsucc (show i < 9223372036854775807 by omega)]
    rw [List.drop_eq_getElem_cons hi]
    refine Ev.bind (impl_GetPart_ev b hbl hb _ _ _ _ p) ?_
    by_cases hok : (gpB b l[i] p).2.2.2.2 = true
    · rw [decR_cons b out _ _ p hok]
      have hok' : (getPart b l[i].f0 l[i].f1 l[i].f2 l[i].f3 p).2.2.2.2 = true := hok
      simp only [hok', if_true]
      exact ih (out ++ [gpV (gpB b l[i] p)]) _ (by rw [List.length_append]; simp only [List.length_cons, List.length_nil]; omega)
    · rw [decR_none b out _ _ p hok]
      have hok' : ¬ (getPart b l[i].f0 l[i].f1 l[i].f2 l[i].f3 p).2.2.2.2 = true := hok
      simp only [hok', if_false]
      exact ev_some _
theorem impl_DecodeKey_ev (l : List S30) (b : List Int) (hb : IsB b) (hbl : b.length ≤ 140737480000000) (hl : l.length ≤ 9223372036854775807) : Ev (fun k => impl_DecodeKey.f k l b) (decKey l b) := by
  unfold impl_DecodeKey.f decKey
  refine Ev.bind (impl_PlanOk_ev l hl) ?_
  cases hp : planOkB l with
  | false =>
    simp only [Bool.false_eq_true, if_false]
    exact ev_some _
  | true =>
    simp only [if_true]
    simpa using impl_DecodeKey_l0 l b hb hbl (planOk_len hp).1 0 (by omega) [] 0 rfl
attribute [local irreducible] impl_DecodeKey.f

theorem laws_heldValS_l0 (n : Nat) (hn : n ≤ 4294967296) (a : Int) (ha : 0 ≤ a ∧ a ≤ 17179869184) : ∀ i, i ≤ n →
    Ev (fun k => laws_heldValS.l0 k (markVs a n) (a + 3 * (i : Int)) (i : Int)) (a + 3 * (n : Int)) := by
  refine up_ind n (fun i => Ev (fun k => laws_heldValS.l0 k (markVs a n) (a + 3 * (i : Int)) (i : Int)) (a + 3 * (n : Int))) ?_ ?_
  · refine ev_succ ?_
    have h1 : ¬ ((n : Int) < ((markVs a n).length : Int)) := by rw [markVs_len]; omega
    simp only [laws_heldValS.l0.eq_2, h1, if_false]
    exact ev_some _
  · intro i hi ih
    refine ev_succ ?_
    have hix : i < (markVs a n).length := by rw [markVs_len]; exact hi
    have h1 : (i : Int) < ((markVs a n).length : Int) := by omega
    have h2 : (0 : Int) ≤ (i : Int) := by omega
    have w1 : wrap64 (a + 3 * (i : Int) + 1) = a + 3 * (i : Int) + 1 := w64 (by omega) (by omega)
    have w2 : wrap64 (a + 3 * (i : Int) + 1 + 1) = a + 3 * (i : Int) + 2 := by rw [w64 (by omega) (by omega)]; omega
    have w3 : wrap64 (a + 3 * (i : Int) + 2 + 1) = a + 3 * ((i + 1 : Nat) : Int) := by rw [w64 (by omega) (by omega)]; omega
    simp only [laws_heldValS.l0.eq_2, h1, h2, if_true, rd_T32_nat _ i hix, markVs_get, w1, w2, w3, wsucc (show i < 9223372036854775807 by omega)]
    refine Ev.bind (laws_markText_ev _ (by omega)) ?_
    simp only [if_true]
    exact ih
theorem laws_heldValS_ev (n : Nat) (a : Int) (ha : 0 ≤ a ∧ a ≤ 17179869184) (h : n ≤ 4294967296) : Ev (fun k => laws_heldValS.f k (markVs a n) a) (a + 3 * (n : Int)) := by
  unfold laws_heldValS.f
  simpa using laws_heldValS_l0 n h a ha 0 (by omega)
attribute [local irreducible] laws_heldValS.f

--import B
--import K
theorem FnExactDecodeKey (l0 : List S24) (l1 : List Int)
    (hm0 : l0.length ≤ maxLen) (hw0 : ∀ p ∈ l0, (Lit.int .i64 p.f0).wf = true ∧ (Lit.int .i64 p.f1).wf = true) (hm1 : l1.length ≤ maxLen) (hw1 : ∀ x ∈ l1, (Lit.int .u8 x).wf = true) : ∃ k, laws_FnExactDecodeKey.f k l0 l1 = some true := by
  refine Ev.rounds ?_
  unfold laws_FnExactDecodeKey.f
  by_cases hn1 : (l1.length : Int) > 1048576
  · simp only [hn1, if_true]; exact ev_some _
  simp only [hn1, if_false]
  have hb := isB_wf hw1
  have hl1 : l1.length ≤ 1048576 := by omega
  obtain ⟨r0, hr0, hq0, hz0⟩ := laws_szPartS_eq l0 1048576 hm0 (by omega) (by omega)
  simp only [hr0, Option.bind_some]
  by_cases hn0 : r0 < 0
  · simp only [hn0, if_true]; exact ev_some _
  simp only [hn0, if_false]
  have hl0 : l0.length ≤ 1048576 := by have := hz0 (by omega); omega
  have hp : (l0.map cvP).length ≤ 1048576 := by rw [List.length_map]; exact hl0
  have eP := laws_toPartS_ev l0 hl0
  have eB := laws_toByteS_ev l1 hl1
  generalize l0.map cvP = p at hp eP
  have hR := decKey_len p l1
  have eD := impl_DecodeKey_ev p l1 hb (by omega) (by omega)
  refine Ev.bind eP (Ev.bind eB (Ev.bind (spec_DecodeKey_ev p l1 hb (by omega) (by omega)) (Ev.bind eP (Ev.bind eB (Ev.bind eD ?_)))))
  generalize decKey p l1 = d at hR eD
  refine Ev.bind (laws_eqValS_ev _ (by omega)) ?_
  simp only [if_true, bne_self_eq_false]
  refine ev_succ ?_
  simp only [laws_FnExactDecodeKey.j0.eq_2, Bool.false_eq_true, if_false]
  refine Ev.bind eP (Ev.bind (laws_eqPartS_ev _ (by omega)) ?_)
  simp only [if_true]
  refine Ev.bind eB (Ev.bind (laws_eqByteS_ev _ (by omega)) ?_)
  simp only [if_true]
  obtain ⟨p', hmp⟩ := laws_markPartS_ev p 1 (by omega) (by omega)
  refine Ev.bind hmp ?_
  refine Ev.bind (laws_markByteS_ev l1 (1 + 4 * (p.length : Int)) (by omega) (by omega)) ?_
  have m1 : ¬ ((1 : Int) + 4 * (p.length : Int) + (l1.length : Int) < 0) := by omega
  simp only [m1, if_false]
  refine Ev.bind (laws_eqValS_ev _ (by omega)) ?_
  simp only [if_true, bne_self_eq_false]
  refine ev_succ ?_
  simp only [laws_FnExactDecodeKey.j1.eq_2, Bool.false_eq_true, if_false]
  refine Ev.bind (laws_markValS_ev _ 1 (by omega) (by omega)) ?_
  refine Ev.bind (laws_heldValS_ev _ 1 (by omega) (by omega)) ?_
  have m2 : ¬ ((1 : Int) + 3 * (d.1.length : Int) < 0) := by omega
  simp only [m2, if_false, if_true]
  refine Ev.bind eP (Ev.bind eB (Ev.bind eD (Ev.bind (laws_eqValS_ev _ (by omega)) ?_)))
  simp only [if_true, bne_self_eq_false]
  refine ev_succ ?_
  simp only [laws_FnExactDecodeKey.j2.eq_2, Bool.false_eq_true, if_false]
  refine Ev.bind (laws_heldValS_ev _ 1 (by omega) (by omega)) ?_
  simp only [m2, if_false, if_true]
  exact ev_some _

end Go.Proofs.Ytnfmpopmigbkoaa.Pure

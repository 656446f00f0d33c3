/- EncodeKey answers as the reference does, whatever the lists; its answer is new memory, and the lists stay as they are. No condition. -/
import Derived.Test.YtnfmpopmigbkoaaPFnExactEncodeKeyx11
import Derived.Test.YtnfmpopmigbkoaaUFnExactEncodeKey
namespace Go.Proofs.Ytnfmpopmigbkoaa.Pure
open Go.RowKit Go.Proofs.Ytnfmpopmigbkoaa.PFnExactEncodeKey Go.Proofs.YtnfmpopmigbkoaaW.PrintWords Go.Proofs.YtnfmpopmigbkoaaW.PrintLast Go.Proofs.YtnfmpopmigbkoaaW.PrintMore Go.Proofs.YtnfmpopmigbkoaaM
set_option linter.unusedVariables false
set_option linter.unusedSimpArgs false

theorem rd_T24_nat (xs : List S24) (i : Nat) (h : i < xs.length) : rd_T24 xs (i : Int) = xs[i] := by
  unfold rd_T24; simp [List.getD_eq_getElem?_getD, h]

theorem rd_T30_nat (xs : List S30) (i : Nat) (h : i < xs.length) : rd_T30 xs (i : Int) = xs[i] := by
  unfold rd_T30; simp [List.getD_eq_getElem?_getD, h]
def planOkB (l : List S30) : Bool := decide (l.length ≤ 6) && l.all fun p => partOkB p.f0 p.f1

theorem rd_T26_nat (xs : List S26) (i : Nat) (h : i < xs.length) : rd_T26 xs (i : Int) = xs[i] := by
  unfold rd_T26; simp [List.getD_eq_getElem?_getD, h]

theorem rd_T32_nat (xs : List S32) (i : Nat) (h : i < xs.length) : rd_T32 xs (i : Int) = xs[i] := by
  unfold rd_T32; simp [List.getD_eq_getElem?_getD, h]
def sameV (a b : S32) : Bool := sameVB a.f0 a.f1 a.f2 b.f0 b.f1 b.f2
theorem sameV_not (a b : S32) : (!(a.f0 == b.f0) || (!(a.f1 == b.f1) || (!(a.f2.toList == b.f2.toList)))) = !sameV a b := by
  unfold sameV sameVB; cases a.f0 == b.f0 <;> cases a.f1 == b.f1 <;> cases a.f2.toList == b.f2.toList <;> rfl
def sameRowB (a b : List S32) : Bool := decide (a.length = b.length) && (a.zip b).all fun q => sameV q.1 q.2

def fitsV (p : S30) (v : S32) : Bool := fitsB p.f1 p.f2 v.f0 v.f1 v.f2
def fitsAllB (l : List S30) (v : List S32) : Bool := decide (v.length ≤ l.length) && (l.zip v).all fun q => fitsV q.1 q.2
def lessAt (l : List S30) (a b : S32) : Bool := match l with
  | [] => false
  | p :: _ => lessPB p.f3 a.f0 a.f1 a.f2 b.f0 b.f1 b.f2
def lessKeyB : List S30 → List S32 → List S32 → Bool
  | l, a :: a2, b :: b2 => if sameVB a.f0 a.f1 a.f2 b.f0 b.f1 b.f2 = true then lessKeyB l.tail a2 b2 else lessAt l a b
  | _, [], b2 => decide (0 < b2.length)
  | _, _ :: _, [] => false
def pickV (row : List S32) (p : S30) : S32 := if inB p.f0 0 ((row.length : Int) - 1) = true then ⟨(rd_T32 row p.f0).f0, (rd_T32 row p.f0).f1, (rd_T32 row p.f0).f2⟩ else ⟨0, 0, ⟨#[]⟩⟩
def pickB (l : List S30) (row : List S32) : List S32 := l.map (pickV row)
def ppB (p : S30) (v : S32) : List Int := putPart p.f0 p.f1 p.f2 p.f3 v.f0 v.f1 v.f2
theorem ppB_len (p : S30) (v : S32) : (ppB p v).length ≤ 63 := putPart_len _ _ _ _ _ _ _
theorem ppB_isB (p : S30) (v : S32) : IsB (ppB p v) := putPart_isB _ _ _ _ _ _ _
/-- a key's bytes -/
def keyB : List S30 → List S32 → List Int
  | p :: l, v :: vs => ppB p v ++ keyB l vs
  | _, _ => []
theorem keyB_nil_r (l : List S30) : keyB l [] = [] := by cases l <;> rfl
theorem keyB_cons (p : S30) (l : List S30) (v : S32) (vs : List S32) : keyB (p :: l) (v :: vs) = ppB p v ++ keyB l vs := rfl
theorem keyB_isB : ∀ (l : List S30) (vs : List S32), IsB (keyB l vs)
  | _, [] => by rw [keyB_nil_r]; exact IsB.nil
  | [], _ :: _ => IsB.nil
  | p :: l, v :: vs => (ppB_isB p v).append (keyB_isB l vs)
theorem keyB_len : ∀ (l : List S30) (vs : List S32), (keyB l vs).length ≤ 63 * l.length
  | l, [] => by rw [keyB_nil_r]; simp
  | [], _ :: _ => by simp [keyB]
  | p :: l, v :: vs => by
    have h1 := keyB_len l vs
    have h2 := ppB_len p v
    rw [keyB_cons, List.length_append, List.length_cons]
    omega
def encKey (l : List S30) (v : List S32) : List Int := if (planOkB l && fitsAllB l v) = true then keyB l v else []
theorem encKey_isB (l : List S30) (v : List S32) : IsB (encKey l v) := by
  unfold encKey; split
  · exact keyB_isB l v
  · exact IsB.nil
theorem planOk_len {l : List S30} (h : planOkB l = true) : l.length ≤ 6 ∧ ∀ p ∈ l, partOkB p.f0 p.f1 = true := by
  unfold planOkB at h
  rw [Bool.and_eq_true] at h
  exact ⟨of_decide_eq_true h.1, by simpa using h.2⟩
theorem encKey_len (l : List S30) (v : List S32) : (encKey l v).length ≤ 378 := by
  unfold encKey; split
  · rename_i h
    rw [Bool.and_eq_true] at h
    have := (planOk_len h.1).1
    have := keyB_len l v
    omega
  · simp
/-- what is read of bytes as a key's values, from a place on -/
def gpB (b : List Int) (p : S30) (i : Int) : Int × Int × ByteArray × Int × Bool := getPart b p.f0 p.f1 p.f2 p.f3 i
def gpV (r : Int × Int × ByteArray × Int × Bool) : S32 := ⟨r.1, r.2.1, r.2.2.1⟩
def decL : List S30 → List Int → Int → Option (List S32 × Int)
  | [], _, i => some ([], i)
  | p :: l, b, i => if (gpB b p i).2.2.2.2 = true then (match decL l b (gpB b p i).2.2.2.1 with
    | some r => some (gpV (gpB b p i) :: r.1, r.2)
    | none => none) else none
def decR (b : List Int) (out : List S32) : Option (List S32 × Int) → List S32 × Bool
  | some r => if r.2 = (b.length : Int) then (out ++ r.1, true) else ([], false)
  | none => ([], false)
def decKey (l : List S30) (b : List Int) : List S32 × Bool := if planOkB l = true then decR b [] (decL l b 0) else ([], false)
theorem decL_len : ∀ (l : List S30) (b : List Int) (i : Int) (r : List S32 × Int), decL l b i = some r → r.1.length = l.length
  | [], b, i, r, h => by
    obtain rfl := Option.some.inj h
    rfl
  | p :: l, b, i, r, h => by
    rw [decL] at h
    split at h
    · split at h
      · rename_i q hq
        obtain rfl := Option.some.inj h
        simp only [List.length_cons, decL_len l b _ q hq]
      · cases h
    · cases h
theorem decKey_len (l : List S30) (b : List Int) : (decKey l b).1.length ≤ l.length := by
  unfold decKey decR
  split
  · split
    · rename_i r hr
      split
      · simp only [List.nil_append, decL_len l b 0 r hr]; omega
      · simp
    · simp
  · simp
theorem decR_cons (b : List Int) (out : List S32) (p : S30) (l : List S30) (i : Int) (h : (gpB b p i).2.2.2.2 = true) : decR b out (decL (p :: l) b i) = decR b (out ++ [gpV (gpB b p i)]) (decL l b (gpB b p i).2.2.2.1) := by
  rw [decL, if_pos h]
  cases decL l b (gpB b p i).2.2.2.1 with
  | none => rfl
  | some r => simp only [decR, List.append_assoc, List.singleton_append]
theorem decR_none (b : List Int) (out : List S32) (p : S30) (l : List S30) (i : Int) (h : ¬ (gpB b p i).2.2.2.2 = true) : decR b out (decL (p :: l) b i) = ([], false) := by
  rw [decL, if_neg h]; rfl


theorem laws_eqByteS_l0 (l : List Int) (h : l.length ≤ 9223372036854775807) : ∀ i, i ≤ l.length → Ev (fun k => laws_eqByteS.l0 k l l (i : Int)) true := by
  refine up_ind l.length (fun i => Ev (fun k => laws_eqByteS.l0 k l l (i : Int)) true) ?_ ?_
  · refine ev_succ ?_
    have h1 : ¬ ((l.length : Int) < (l.length : Int)) := by omega
    simp only [laws_eqByteS.l0.eq_2, h1, if_false]
    exact ev_some _
  · intro i hi ih
    refine ev_succ ?_
    have h1 : (i : Int) < (l.length : Int) := by omega
    have h2 : (0 : Int) ≤ (i : Int) := by omega
    simp only [laws_eqByteS.l0.eq_2, h1, h2, if_true, wsucc (show i < 9223372036854775807 by omega)]
    exact ih
theorem laws_eqByteS_ev (l : List Int) (h : l.length ≤ 9223372036854775807) : Ev (fun k => laws_eqByteS.f k l l) true := by
  unfold laws_eqByteS.f
  simp only [if_true]
  exact laws_eqByteS_l0 l h 0 (by omega)
attribute [local irreducible] laws_eqByteS.f

theorem laws_markByteS_l0 (n : Nat) (hn : n ≤ 4294967296) (a : Int) (ha : 0 ≤ a ∧ a ≤ 4294967296) : ∀ i, i ≤ n → ∀ xs : List Int, xs.length = n →
    Ev (fun k => laws_markByteS.l0 k xs (a + i) (i : Int)) (a + n, xs.take i ++ (marks a n).drop i) := by
  refine up_ind n (fun i => ∀ xs : List Int, xs.length = n → Ev (fun k => laws_markByteS.l0 k xs (a + i) (i : Int)) (a + n, xs.take i ++ (marks a n).drop i)) ?_ ?_
  · intro xs hx
    refine ev_succ ?_
    have h1 : ¬ ((n : Int) < (xs.length : Int)) := by omega
    simp only [laws_markByteS.l0.eq_2, h1, if_false]
    rw [List.take_of_length_le (by omega), List.drop_eq_nil_of_le (by rw [marks_len]; omega), List.append_nil]
    exact ev_some _
  · intro i hi ih xs hx
    refine ev_succ ?_
    have h1 : (i : Int) < (xs.length : Int) := by omega
    have h2 : (0 : Int) ≤ (i : Int) := by omega
    have h3 : wrap64 (a + (i : Int) + 1) = a + ((i + 1 : Nat) : Int) := by rw [w64 (by omega) (by omega)]; omega
    simp only [laws_markByteS.l0.eq_2, h1, h2, h3, if_true, Int.toNat_natCast, wsucc (show i < 9223372036854775807 by omega)]
    have := ih (xs.set i ((a + (i : Int)) % 256)) (by simp [hx])
    rw [take_set_succ _ _ _ (by omega), List.append_assoc] at this
    rw [List.drop_eq_getElem_cons (by rw [marks_len]; exact hi), marks_get]
    exact this
theorem laws_markByteS_ev (l : List Int) (a : Int) (ha : 0 ≤ a ∧ a ≤ 4294967296) (h : l.length ≤ 4294967296) : Ev (fun k => laws_markByteS.f k l a) (a + l.length, marks a l.length) := by
  unfold laws_markByteS.f
  simpa using laws_markByteS_l0 l.length h a ha 0 (by omega) l rfl
attribute [local irreducible] laws_markByteS.f

theorem laws_heldByteS_l0 (n : Nat) (hn : n ≤ 4294967296) (a : Int) (ha : 0 ≤ a ∧ a ≤ 4294967296) : ∀ i, i ≤ n → Ev (fun k => laws_heldByteS.l0 k (marks a n) (a + i) (i : Int)) (a + n) := by
  refine up_ind n (fun i => Ev (fun k => laws_heldByteS.l0 k (marks a n) (a + i) (i : Int)) (a + n)) ?_ ?_
  · refine ev_succ ?_
    have h1 : ¬ ((n : Int) < ((marks a n).length : Int)) := by rw [marks_len]; omega
    simp only [laws_heldByteS.l0.eq_2, h1, if_false]
    exact ev_some _
  · intro i hi ih
    refine ev_succ ?_
    have h0 : i < (marks a n).length := by rw [marks_len]; exact hi
    have h1 : (i : Int) < ((marks a n).length : Int) := by omega
    have h2 : (0 : Int) ≤ (i : Int) := by omega
    have h3 : wrap64 (a + (i : Int) + 1) = a + ((i + 1 : Nat) : Int) := by rw [w64 (by omega) (by omega)]; omega
    simp only [laws_heldByteS.l0.eq_2, h1, h2, h3, if_true, rd_nat _ i h0, marks_get, wsucc (show i < 9223372036854775807 by omega)]
    exact ih
theorem laws_heldByteS_ev (n : Nat) (a : Int) (ha : 0 ≤ a ∧ a ≤ 4294967296) (h : n ≤ 4294967296) : Ev (fun k => laws_heldByteS.f k (marks a n) a) (a + n) := by
  unfold laws_heldByteS.f
  simpa using laws_heldByteS_l0 n h a ha 0 (by omega)
attribute [local irreducible] laws_heldByteS.f

theorem laws_szPartS_eq (l : List S24) (left : Int) (hl : l.length ≤ maxLen) (h0 : 0 ≤ left) (h1 : left ≤ 1048576) :
    ∃ r : Int, laws_szPartS.f l left = some r ∧ r ≤ left ∧ (0 ≤ r → r = left - l.length) := by
  unfold laws_szPartS.f
  unfold maxLen at hl
  rw [w64 (by omega) (by omega)]
  split
  · exact ⟨-1, rfl, by omega, by omega⟩
  · exact ⟨_, rfl, by omega, fun _ => rfl⟩
attribute [local irreducible] laws_szPartS.f

theorem laws_szVal_eq (a b : Int) (s : ByteArray) (left : Int) (hs : s.size ≤ maxLen) (h0 : 0 ≤ left) (h1 : left ≤ 1048576) :
    ∃ r : Int, laws_szVal.f a b s left = some r ∧ r ≤ left ∧ (0 ≤ r → r = left - s.size) := by
  unfold laws_szVal.f
  unfold maxLen at hs
  rw [w64 (by omega) (by omega)]
  split
  · exact ⟨-1, rfl, by omega, by omega⟩
  · exact ⟨_, rfl, by omega, fun _ => rfl⟩
attribute [local irreducible] laws_szVal.f

theorem laws_szValS_l0 (l : List S26) (hl : l.length ≤ 1048576) (hs : ∀ v ∈ l, v.f2.size ≤ maxLen) : ∀ i, i ≤ l.length → ∀ left : Int, 0 ≤ left → left ≤ 1048576 →
    ∃ r : Int, Ev (fun k => laws_szValS.l0 k l left (i : Int)) r ∧ r ≤ left := by
  refine up_ind l.length (fun i => ∀ left : Int, 0 ≤ left → left ≤ 1048576 → ∃ r : Int, Ev (fun k => laws_szValS.l0 k l left (i : Int)) r ∧ r ≤ left) ?_ ?_
  · intro left h0 h1
    refine ⟨left, ev_succ ?_, by omega⟩
    have h1 : ¬ ((l.length : Int) < (l.length : Int)) := by omega
    simp only [laws_szValS.l0.eq_2, h1, if_false]
    exact ev_some _
  · intro i hi ih left h0 h1
    obtain ⟨r, hr, hr1, hr2⟩ := laws_szVal_eq l[i].f0 l[i].f1 l[i].f2 left (hs _ (List.getElem_mem hi)) h0 h1
    have h3 : (i : Int) < (l.length : Int) := by omega
    have h4 : (0 : Int) ≤ (i : Int) := by omega
    by_cases hn : r < 0
    · refine ⟨-1, ev_succ ?_, by omega⟩
      simp only [laws_szValS.l0.eq_2, h3, h4, if_true, rd_T26_nat l i hi, hr, Option.bind_some, hn]
      exact ev_some _
    · obtain ⟨q, hq, hq1⟩ := ih r (by omega) (by omega)
      refine ⟨q, ev_succ ?_, by omega⟩
      simp only [laws_szValS.l0.eq_2, h3, h4, if_true, rd_T26_nat l i hi, hr, Option.bind_some, hn, if_false, wsucc (show i < 9223372036854775807 by omega)]
      exact hq
theorem laws_szValS_ev (l : List S26) (left : Int) (hl : l.length ≤ maxLen) (hs : ∀ v ∈ l, v.f2.size ≤ maxLen) (h0 : 0 ≤ left) (h1 : left ≤ 1048576) :
    ∃ r : Int, Ev (fun k => laws_szValS.f k l left) r ∧ r ≤ left ∧ (0 ≤ r → l.length ≤ 1048576) := by
  unfold laws_szValS.f
  unfold maxLen at hl
  rw [w64 (by omega) (by omega)]
  by_cases hn : left - (l.length : Int) < 0
  · refine ⟨-1, ?_, by omega, by omega⟩
    simp only [hn, if_true]
    exact ev_some _
  · obtain ⟨r, hr, hr1⟩ := laws_szValS_l0 l (by omega) hs 0 (by omega) (left - (l.length : Int)) (by omega) (by omega)
    refine ⟨r, ?_, by omega, by omega⟩
    simp only [hn, if_false]
    exact hr
attribute [local irreducible] laws_szValS.f

theorem spec_l1In_eq (a b c : Int) : spec_l1In.f a b c = some (inB a b c) := in_ite a b c
attribute [local irreducible] spec_l1In.f

theorem spec_PartOk_eq (a0 a1 : Int) (a2 a3 : Bool) : spec_PartOk.f a0 a1 a2 a3 = some (partOkB a0 a1) := by
  unfold spec_PartOk.f partOkB
  simp only [spec_l1In_eq, Option.bind_some]
  cases inB a0 0 9 <;> simp
attribute [local irreducible] spec_PartOk.f

theorem spec_ValOk_eq (k n : Int) (s : ByteArray) : spec_ValOk.f k n s = some (valOkB k n s) := by
  unfold spec_ValOk.f valOkB isE
  simp only [spec_l1In_eq, Option.bind_some]
  by_cases h0 : k = 0
  · simp only [h0, if_true]; by_cases hn : n = 0 <;> simp [hn]
  simp only [h0, if_false]
  by_cases h1 : k = 1
  · simp only [h1, if_true]; cases inB n (-2147483648) 2147483647 <;> simp
  simp only [h1, if_false]
  by_cases h2 : k = 2
  · simp only [h2, if_true]; cases inB n (-1000000000000000) 1000000000000000 <;> simp
  simp only [h2, if_false]
  by_cases h3 : k = 3
  · simp only [h3, if_true]; by_cases hn : n = 0 <;> by_cases hs : (s.size : Int) ≤ 30 <;> simp [hn, hs]
  simp only [h3, if_false]
  by_cases h4 : k = 4
  · simp only [h4, if_true]; cases inB n 0 1 <;> simp
  simp only [h4, if_false]
attribute [local irreducible] spec_ValOk.f

theorem spec_Fits_eq (a0 t : Int) (null a3 : Bool) (k n : Int) (s : ByteArray) : spec_Fits.f a0 t null a3 k n s = some (fitsB t null k n s) := by
  unfold spec_Fits.f fitsB
  simp only [spec_ValOk_eq, Option.bind_some]
  cases valOkB k n s
  · simp
  · simp only [if_true, Bool.true_and]
    by_cases h1 : k = t
    · rw [if_pos h1]
      by_cases h0 : k = 0
      · rw [if_pos h0, if_pos h0]
      · rw [if_neg h0, if_neg h0]; simp [h1]
    · rw [if_neg h1]
      by_cases h0 : k = 0
      · rw [if_pos h0, if_pos h0]
      · rw [if_neg h0, if_neg h0]; simp [h1]
attribute [local irreducible] spec_Fits.f

theorem spec_PutFix_eq (l : List Int) (n : Int) (h : l.length ≤ 140737480000000) (hn : -9223372036854775808 ≤ n ∧ n ≤ 9223372036854775807) : spec_PutFix.f l n = some (l ++ fixB n) := by
  unfold spec_PutFix.f
  have hc := clampN_spec n (-2147483648) 2147483647 (by omega)
  have h0 : l.length < 140737488355328 := by omega
  have h4 : l.length + (0 + 1 + 1 + 1 + 1) < 140737488355328 := by omega
  by_cases h1 : n > 2147483647
  · have e : clampN n (-2147483648) 2147483647 = 2147483647 := by omega
    simp only [h1, if_true, Option.bind_some, List.length_nil, Nat.zero_add, List.nil_append, h0, List.length_cons, fixB, e]
    rw [if_pos (by omega)]
    congr 2
  · by_cases h2 : n < -2147483648
    · have e : clampN n (-2147483648) 2147483647 = -2147483648 := by omega
      simp only [h1, h2, if_true, if_false, Option.bind_some, List.length_nil, Nat.zero_add, List.nil_append, h0, List.length_cons, fixB, e]
      rw [if_pos (by omega)]
      rfl
    · have e : clampN n (-2147483648) 2147483647 = n := by omega
      have e2 : wrap64 (n + 2147483648) = n + 2147483648 := w64 (by omega) (by omega)
      simp only [h1, h2, if_true, if_false, Option.bind_some, List.length_nil, Nat.zero_add, List.nil_append, h0, List.length_cons, fixB, e, e2]
      rw [if_pos (by omega)]
attribute [local irreducible] spec_PutFix.f

theorem spec_Flip_l0 (l : List Int) (hl : l.length ≤ 140737480000000) (hb : IsB l) (p : Int) : ∀ i : Nat, i ≤ l.length → ∀ xs : List Int, xs.length = l.length → xs.drop i = l.drop i →
    Ev (fun k => spec_Flip.l0 k p xs (i : Int)) (xs.take i ++ flipB (l.drop i) (p - i)) := by
  refine up_ind l.length (fun i : Nat => ∀ xs : List Int, xs.length = l.length → xs.drop i = l.drop i → Ev (fun k => spec_Flip.l0 k p xs (i : Int)) (xs.take i ++ flipB (l.drop i) (p - i))) ?_ ?_
  · intro xs hx _
    refine ev_succ ?_
    have h1 : ¬ ((l.length : Int) < (xs.length : Int)) := by omega
    simp only [spec_Flip.l0.eq_2, h1, if_false]
    rw [List.take_of_length_le (by omega), List.drop_eq_nil_of_le (by omega)]
    simp only [flipB, List.take_nil, List.drop_nil, List.map_nil, List.append_nil]
    exact ev_some _
  · intro i hi ih xs hx he
    refine ev_succ ?_
    have hxi : i < xs.length := by omega
    have h1 : (i : Int) < (xs.length : Int) := by omega
    have h2 : (0 : Int) ≤ (i : Int) := by omega
    have h3 : xs[i] = l[i] := by
      have := congrArg (fun l => l[0]?) he
      simp only [List.getElem?_drop, Nat.add_zero] at this
      rw [List.getElem?_eq_getElem hxi, List.getElem?_eq_getElem hi] at this
      exact Option.some.inj this
    have he' : xs.drop (i + 1) = l.drop (i + 1) := by
      have := congrArg (List.drop 1) he
      simpa [List.drop_drop, Nat.add_comm] using this
    obtain ⟨g0, g1⟩ := hb.get i hi
    by_cases hp : (i : Int) ≥ p
    · simp only [spec_Flip.l0.eq_2, h1, h2, hp, if_true, Int.toNat_natCast, rd_nat xs i hxi, h3, xor255 l[i] g0 g1, wsucc (show i < 9223372036854775807 by omega)]
      have := ih (xs.set i (255 - l[i])) (by simp [hx]) (by rw [List.drop_set_of_lt (by omega)]; exact he')
      rw [take_set_succ _ _ _ hxi, List.append_assoc] at this
      rw [List.drop_eq_getElem_cons hi]
      have e : flipB (l[i] :: l.drop (i + 1)) (p - (i : Int)) = (255 - l[i]) :: flipB (l.drop (i + 1)) (p - ((i + 1 : Nat) : Int)) := by
        unfold flipB
        rw [show (p - (i : Int)).toNat = 0 by omega, show (p - ((i + 1 : Nat) : Int)).toNat = 0 by omega]
        rfl
      rw [e]
      exact this
    · simp only [spec_Flip.l0.eq_2, h1, hp, if_true, if_false, wsucc (show i < 9223372036854775807 by omega)]
      have := ih xs hx he'
      have e1 : xs.take (i + 1) = xs.take i ++ [l[i]] := by rw [List.take_succ_eq_append_getElem hxi, h3]
      rw [e1, List.append_assoc] at this
      rw [List.drop_eq_getElem_cons hi]
      have e : flipB (l[i] :: l.drop (i + 1)) (p - (i : Int)) = l[i] :: flipB (l.drop (i + 1)) (p - ((i + 1 : Nat) : Int)) := by
        unfold flipB
        rw [show (p - (i : Int)).toNat = (p - ((i + 1 : Nat) : Int)).toNat + 1 by omega]
        rfl
      rw [e]
      exact this
theorem spec_Flip_ev (l : List Int) (p : Int) (hl : l.length ≤ 140737480000000) (hb : IsB l) : Ev (fun k => spec_Flip.f k l p) (flipB l p) := by
  unfold spec_Flip.f
  have h1 : ([] : List Int).length + l.length < 140737488355328 := by simp only [List.length_nil]; omega
  simp only [Option.bind_some, h1, if_true, List.nil_append]
  have := spec_Flip_l0 l hl hb p 0 (by omega) l rfl rfl
  simpa using this
attribute [local irreducible] spec_Flip.f

theorem spec_l4Bytes_l0 (n : Nat) : ∀ o : List Int, o.length + n < 140737488355328 * 1000000 → o.length + nB n ≤ 1000 → Ev (fun k => spec_l4Bytes.l0 k (n : Int) o) (beB n (nB n) ++ o) := by
  induction n using Nat.strongRecOn with
  | _ n ih =>
    intro o ho ho2
    refine ev_succ ?_
    by_cases h : n = 0
    · subst h
      have h1 : ¬ (((0 : Nat) : Int) > 0) := by decide
      simp only [spec_l4Bytes.l0.eq_2, h1, if_false, nB_zero, beB, List.nil_append]
      exact ev_some _
    · have h1 : (n : Int) > 0 := by omega
      have h3 : (n : Int) / 256 = ((n / 256 : Nat) : Int) := by omega
      have h4 : (n : Int) % 256 = ((n % 256 : Nat) : Int) := by omega
      have h5 := nB_pos h
      have h6 : [((n % 256 : Nat) : Int)].length + o.length < 140737488355328 := by simp only [List.length_cons, List.length_nil]; omega
      simp only [spec_l4Bytes.l0.eq_2, h1, if_true, h3, h4, Option.bind_some, h6]
      have := ih (n / 256) (by omega) ([((n % 256 : Nat) : Int)] ++ o) (by simp only [List.length_append, List.length_cons, List.length_nil]; omega) (by simp only [List.length_append, List.length_cons, List.length_nil]; omega)
      rw [h5, beB_snoc, List.append_assoc]
      exact this
theorem spec_l4Bytes_ev (n : Nat) (h : n ≤ 1000000000000000) : Ev (fun k => spec_l4Bytes.f k (n : Int)) (beB n (nB n)) := by
  unfold spec_l4Bytes.f
  have := spec_l4Bytes_l0 n [] (by simp only [List.length_nil]; omega) (by have := nB_7 h; simp only [List.length_nil]; omega)
  simpa using this
attribute [local irreducible] spec_l4Bytes.f

theorem spec_PutVar_j1 (l : List Int) (n : Int) (h : l.length ≤ 140737470000000) (hn : -1000000000000000 ≤ n ∧ n ≤ 1000000000000000) : Ev (fun k => spec_PutVar.j1 k l n) (l ++ varB n) := by
  refine ev_succ ?_
  have e : varN n = n := (clampN_spec n (-1000000000000000) 1000000000000000 (by omega)).2.2.1 hn.1 hn.2
  have h1 : l.length < 140737488355328 := by omega
  unfold varB
  simp only [e]
  by_cases h0 : 0 ≤ n
  · have h0' : n ≥ 0 := h0
    rw [if_pos h0]
    obtain ⟨m, rfl⟩ := Int.eq_ofNat_of_zero_le h0
    simp only [spec_PutVar.j1.eq_2, h0', if_true, Int.toNat_natCast]
    have h7 := nB_7 (n := m) (by omega)
    refine Ev.bind (spec_l4Bytes_ev m (by omega)) ?_
    have e1 : wrap64 (128 + ((nB m : Nat) : Int)) % 256 = 128 + (nB m : Int) := by rw [w64 (by omega) (by omega)]; omega
    have h2 : (l ++ [128 + (nB m : Int)]).length + nB m < 140737488355328 := by simp only [List.length_append, List.length_cons, List.length_nil]; omega
    simp only [Option.bind_some, List.length_nil, Nat.zero_add, List.nil_append, h1, if_true, beB_len, e1, h2]
    rw [List.append_assoc]
    exact ev_some _
  · have h0' : ¬ (n ≥ 0) := h0
    rw [if_neg h0]
    have e0 : wrap64 (-1 - n) = (((-1 - n).toNat : Nat) : Int) := by rw [w64 (by omega) (by omega)]; omega
    have hm : (-1 - n).toNat ≤ 1000000000000000 := by omega
    simp only [spec_PutVar.j1.eq_2, h0', if_false, e0]
    generalize (-1 - n).toNat = m at hm
    have h7 := nB_7 (n := m) (by omega)
    refine Ev.bind (spec_l4Bytes_ev m (by omega)) ?_
    have e1 : wrap64 (127 - ((nB m : Nat) : Int)) % 256 = 127 - (nB m : Int) := by rw [w64 (by omega) (by omega)]; omega
    have h2 : (l ++ [127 - (nB m : Int)]).length + nB m < 140737488355328 := by simp only [List.length_append, List.length_cons, List.length_nil]; omega
    simp only [Option.bind_some, List.length_nil, Nat.zero_add, List.nil_append, h1, if_true, beB_len, e1]
    refine Ev.bind (spec_Flip_ev (beB m (nB m)) 0 (by rw [beB_len]; omega) (beB_isB _ _)) ?_
    have e2 : flipB (beB m (nB m)) 0 = (beB m (nB m)).map fun x => 255 - x := by simp [flipB]
    simp only [flipB_len, beB_len, h2, if_true]
    rw [List.append_assoc, e2]
    exact ev_some _
theorem spec_PutVar_ev (l : List Int) (n : Int) (h : l.length ≤ 140737470000000) : Ev (fun k => spec_PutVar.f k l n) (l ++ varB n) := by
  unfold spec_PutVar.f
  have hc := clampN_spec n (-1000000000000000) 1000000000000000 (by omega)
  have hv : ∀ m : Int, varN n = m → -1000000000000000 ≤ m ∧ m ≤ 1000000000000000 → varB m = varB n := by
    intro m hm hr
    have e : varN m = m := (clampN_spec m (-1000000000000000) 1000000000000000 (by omega)).2.2.1 hr.1 hr.2
    unfold varB; rw [e, hm]
  by_cases h1 : n > 1000000000000000
  · simp only [h1, if_true]
    refine ev_succ ?_
    rw [← hv 1000000000000000 (hc.2.2.2.2 h1) (by omega)]
    simp only [spec_PutVar.j0.eq_2, show ¬ ((1000000000000000 : Int) < -1000000000000000) by decide, if_false]
    exact spec_PutVar_j1 l _ h (by omega)
  · simp only [h1, if_false]
    refine ev_succ ?_
    by_cases h2 : n < -1000000000000000
    · simp only [spec_PutVar.j0.eq_2, h2, if_true]
      rw [← hv (-1000000000000000) (hc.2.2.2.1 h2) (by omega)]
      exact spec_PutVar_j1 l _ h (by omega)
    · simp only [spec_PutVar.j0.eq_2, h2, if_false]
      exact spec_PutVar_j1 l n h (by omega)
attribute [local irreducible] spec_PutVar.f

theorem spec_PutEsc_l0 (s : ByteArray) (hs : s.size ≤ 1048576) : ∀ i : Nat, i ≤ s.size → ∀ o : List Int, o.length + 2 * (s.size - i) + 2 < 140737488355328 →
    Ev (fun k => spec_PutEsc.l0 k s o (i : Int)) (o ++ escB ((bytesOf s).drop i)) := by
  refine up_ind s.size (fun i : Nat => ∀ o : List Int, o.length + 2 * (s.size - i) + 2 < 140737488355328 → Ev (fun k => spec_PutEsc.l0 k s o (i : Int)) (o ++ escB ((bytesOf s).drop i))) ?_ ?_
  · intro o ho
    refine ev_succ ?_
    have h1 : ¬ ((s.size : Int) < (s.size : Int)) := by omega
    have h2 : o.length + ([0, 1] : List Int).length < 140737488355328 := by simp only [List.length_cons, List.length_nil]; omega
    simp only [spec_PutEsc.l0.eq_2, h1, if_false, Option.bind_some, h2, if_true]
    rw [List.drop_eq_nil_of_le (by rw [bytesOf_len]; omega)]
    exact ev_some _
  · intro i hi ih o ho
    refine ev_succ ?_
    have hib : i < (bytesOf s).length := by rw [bytesOf_len]; exact hi
    have h1 : (i : Int) < (s.size : Int) := by omega
    have h2 : (0 : Int) ≤ (i : Int) := by omega
    have h3 : o.length < 140737488355328 := by omega
    have h4 : (o ++ [(bytesOf s)[i]]).length < 140737488355328 := by simp only [List.length_append, List.length_cons, List.length_nil]; omega
    simp only [spec_PutEsc.l0.eq_2, h1, h2, h3, h4, if_true, Option.bind_some, bt_get s i hi, wsucc (show i < 9223372036854775807 by omega)]
    rw [List.drop_eq_getElem_cons hib]
    by_cases hz : (bytesOf s)[i] = 0
    · have := ih (o ++ [(bytesOf s)[i]] ++ [255]) (by simp only [List.length_append, List.length_cons, List.length_nil]; omega)
      rw [escB, if_pos hz]
      rw [List.append_assoc, List.append_assoc] at this
      simp only [hz, if_true]
      rw [hz] at this
      simpa using this
    · have := ih (o ++ [(bytesOf s)[i]]) (by simp only [List.length_append, List.length_cons, List.length_nil]; omega)
      rw [escB, if_neg hz]
      rw [List.append_assoc] at this
      simp only [hz, if_false]
      exact this
theorem spec_PutEsc_ev (l : List Int) (s : ByteArray) (h : l.length ≤ 140737480000000) (hs : s.size ≤ 1048576) : Ev (fun k => spec_PutEsc.f k l s) (l ++ escB (bytesOf s)) := by
  unfold spec_PutEsc.f
  have h1 : ([] : List Int).length + l.length < 140737488355328 := by simp only [List.length_nil]; omega
  simp only [Option.bind_some, h1, if_true, List.nil_append]
  simpa using spec_PutEsc_l0 s hs 0 (by omega) l (by omega)
attribute [local irreducible] spec_PutEsc.f

theorem spec_l5Value_ev (l : List Int) (hl : l.length ≤ 140737460000000) (k n : Int) (hn : -9223372036854775808 ≤ n ∧ n ≤ 9223372036854775807) (s : ByteArray) (hs : s.size ≤ 1048576) (hk : 1 ≤ k ∧ k ≤ 4) :
    Ev (fun j => spec_l5Value.f j l k n s) (l ++ valB k n s) := by
  unfold spec_l5Value.f valB
  by_cases k1 : k = 1
  · simp only [k1, if_true, spec_PutFix_eq l n (by omega) hn, Option.bind_some]; exact ev_some _
  by_cases k2 : k = 2
  · simp only [k1, if_false]
    simp only [k2, if_true]
    exact Ev.bind (spec_PutVar_ev l n (by omega)) (ev_some _)
  by_cases k3 : k = 3
  · simp only [k1, k2, if_false]
    simp only [k3, if_true]
    exact Ev.bind (spec_PutEsc_ev l s (by omega) hs) (ev_some _)
  · have k4 : k = 4 := by omega
    have q1 : ([] : List Int).length + l.length < 140737488355328 := by simp only [List.length_nil]; omega
    have q2 : (([] : List Int) ++ l).length + [n % 256].length < 140737488355328 := by simp only [List.nil_append, List.length_cons, List.length_nil]; omega
    simp only [k1, k2, k3, if_false, Option.bind_some, q1, q2, if_true]
    simp only [k4, if_true, List.nil_append]
    exact ev_some _
attribute [local irreducible] spec_l5Value.f

theorem spec_PutPart_tail (l x : List Int) (hl : l.length + x.length ≤ 140737470000000) (hb : IsB l) (hx : IsB x) (desc : Bool) :
    Ev (fun j => if desc = true then (spec_Flip.f j (l ++ x) (l.length : Int)).bind fun t => some t else some (l ++ x)) (l ++ turnB desc x) := by
  cases desc with
  | false => simp only [Bool.false_eq_true, if_false, turnB]; exact ev_some _
  | true =>
    simp only [if_true, turnB]
    rw [← flipB_at l x]
    exact Ev.bind (spec_Flip_ev _ _ (by rw [List.length_append]; omega) (hb.append hx)) (ev_some _)
theorem spec_PutPart_ev (l : List Int) (hl : l.length ≤ 140737450000000) (hb : IsB l) (c t : Int) (null desc : Bool) (k n : Int) (hn : -9223372036854775808 ≤ n ∧ n ≤ 9223372036854775807) (s : ByteArray) :
    Ev (fun j => spec_PutPart.f j l c t null desc k n s) (l ++ putPart c t null desc k n s) := by
  unfold spec_PutPart.f
  have q1 : ([] : List Int).length + l.length < 140737488355328 := by simp only [List.length_nil]; omega
  simp only [Option.bind_some, q1, if_true, List.nil_append, spec_PartOk_eq, spec_Fits_eq]
  by_cases hok : okPV c t null k n s = true
  · have h2 := hok
    unfold okPV at h2
    rw [Bool.and_eq_true] at h2
    have hs := okPV_size hok
    have ht := partOk_t h2.1
    have e : putPart c t null desc k n s = turnB desc (bareB null k n s) := by unfold putPart partB; rw [if_pos hok]
    rw [e]
    simp only [h2.1, h2.2, if_true, Bool.not_true]
    refine ev_succ ?_
    have hlt : l.length < 140737488355328 := by omega
    simp only [spec_PutPart.j0.eq_2, Bool.false_eq_true, if_false]
    by_cases hk : k = 0
    · have hnull : null = true := by
        rcases fits_cases h2.2 ht with ⟨h, _⟩ | ⟨h, _⟩
        · exact h
        · omega
      have hbare : bareB null k n s = [0] := by
        unfold bareB headB valB
        simp [hnull, hk]
      simp only [hk, if_true, hlt, Option.bind_some]
      rw [hk] at hbare
      rw [hbare]
      exact spec_PutPart_tail l [0] (by simp only [List.length_cons, List.length_nil]; omega) hb (IsB.cons (by omega) (by omega) IsB.nil) desc
    · have hk4 : 1 ≤ k ∧ k ≤ 4 := by
        rcases fits_cases h2.2 ht with ⟨_, h, _⟩ | ⟨h, _⟩
        · exact absurd h hk
        · omega
      have hvl := valB_len k n s hs
      have j1 : ∀ h : List Int, h.length ≤ 1 → IsB h → Ev (fun j => spec_PutPart.j1 j l (l ++ h) c t null desc k n s) (l ++ turnB desc (h ++ valB k n s)) := by
        intro h hh hhb
        refine ev_succ ?_
        simp only [spec_PutPart.j1.eq_2]
        refine Ev.bind (spec_l5Value_ev (l ++ h) (by rw [List.length_append]; omega) k n hn s (by omega) hk4) ?_
        rw [List.append_assoc]
        exact spec_PutPart_tail l (h ++ valB k n s) (by rw [List.length_append]; omega) hb (hhb.append (valB_isB k n s)) desc
      simp only [hk, if_false]
      unfold bareB
      cases hnl : null with
      | false =>
        subst hnl
        simp only [Bool.false_eq_true, if_false]
        have := j1 [] (by simp) IsB.nil
        simpa [headB] using this
      | true =>
        subst hnl
        simp only [if_true, hlt]
        have := j1 [1] (by simp) (IsB.cons (by omega) (by omega) IsB.nil)
        simpa [headB, hk] using this
  · have e : putPart c t null desc k n s = [] := by unfold putPart; rw [if_neg hok]
    rw [e, List.append_nil]
    unfold okPV at hok
    cases hp : partOkB c t with
    | false =>
      simp only [Bool.false_eq_true, if_false]
      refine ev_succ ?_
      simp only [spec_PutPart.j0.eq_2, if_true]
      exact ev_some _
    | true =>
      rw [hp, Bool.true_and] at hok
      have hf : fitsB t null k n s = false := by simpa using hok
      simp only [if_true, hf, Bool.not_false]
      refine ev_succ ?_
      simp only [spec_PutPart.j0.eq_2, if_true]
      exact ev_some _
attribute [local irreducible] spec_PutPart.f

theorem spec_PlanOk_l0 (l : List S30) (h : l.length ≤ 9223372036854775807) : ∀ i, i ≤ l.length → Ev (fun k => spec_PlanOk.l0 k l (i : Int)) (decide (l.length ≤ 6) && (l.drop i).all fun p => partOkB p.f0 p.f1) := by
  refine up_ind l.length (fun i => Ev (fun k => spec_PlanOk.l0 k l (i : Int)) (decide (l.length ≤ 6) && (l.drop i).all fun p => partOkB p.f0 p.f1)) ?_ ?_
  · refine ev_succ ?_
    have h1 : ¬ ((l.length : Int) < (l.length : Int)) := by omega
    simp only [spec_PlanOk.l0.eq_2, h1, if_false]
    rw [List.drop_eq_nil_of_le (by omega), show decide ((l.length : Int) ≤ 6) = decide (l.length ≤ 6) by apply decide_eq_decide.2; omega]
    simpa using ev_some _
  · intro i hi ih
    refine ev_succ ?_
    have h1 : (i : Int) < (l.length : Int) := by omega
    have h2 : (0 : Int) ≤ (i : Int) := by omega
    simp only [spec_PlanOk.l0.eq_2, h1, h2, if_true, rd_T30_nat l i hi, spec_PartOk_eq, Option.bind_some, wsucc (show i < 9223372036854775807 by omega)]
    rw [List.drop_eq_getElem_cons hi, List.all_cons]
    cases hp : partOkB l[i].f0 l[i].f1
    · simpa using ev_some _
    · simpa using ih
theorem spec_PlanOk_ev (l : List S30) (h : l.length ≤ 9223372036854775807) : Ev (fun k => spec_PlanOk.f k l) (planOkB l) := by
  unfold spec_PlanOk.f planOkB
  simpa using spec_PlanOk_l0 l h 0 (by omega)
attribute [local irreducible] spec_PlanOk.f

theorem spec_FitsAll_l0 (l : List S30) (v : List S32) (h : v.length ≤ l.length) (hl : v.length ≤ 9223372036854775807) : ∀ i, i ≤ v.length → Ev (fun k => spec_FitsAll.l0 k l v (i : Int)) (((l.drop i).zip (v.drop i)).all fun q => fitsV q.1 q.2) := by
  refine up_ind v.length (fun i => Ev (fun k => spec_FitsAll.l0 k l v (i : Int)) (((l.drop i).zip (v.drop i)).all fun q => fitsV q.1 q.2)) ?_ ?_
  · refine ev_succ ?_
    have h1 : ¬ ((v.length : Int) < (v.length : Int)) := by omega
    simp only [spec_FitsAll.l0.eq_2, h1, if_false]
    rw [List.drop_eq_nil_of_le (show v.length ≤ _ by omega)]
    simpa using ev_some _
  · intro i hi ih
    refine ev_succ ?_
    have h1 : (i : Int) < (v.length : Int) := by omega
    have h2 : (0 : Int) ≤ (i : Int) := by omega
    have h3 : (i : Int) < (l.length : Int) := by omega
    have hil : i < l.length := by omega
    simp only [spec_FitsAll.l0.eq_2, h1, h2, h3, if_true, rd_T30_nat l i hil, rd_T32_nat v i hi, spec_Fits_eq, Option.bind_some, wsucc (show i < 9223372036854775807 by omega)]
    rw [List.drop_eq_getElem_cons hi, List.drop_eq_getElem_cons hil, List.zip_cons_cons, List.all_cons]
    cases hp : fitsB l[i].f1 l[i].f2 v[i].f0 v[i].f1 v[i].f2
    · simpa [fitsV, hp] using ev_some _
    · simpa [fitsV, hp] using ih
theorem spec_FitsAll_ev (l : List S30) (v : List S32) (hl : v.length ≤ 9223372036854775807) : Ev (fun k => spec_FitsAll.f k l v) (fitsAllB l v) := by
  unfold spec_FitsAll.f fitsAllB
  by_cases h : v.length ≤ l.length
  · have h1 : ¬ ((v.length : Int) > (l.length : Int)) := by omega
    simp only [h1, if_false, decide_eq_true h, Bool.true_and]
    simpa using spec_FitsAll_l0 l v h hl 0 (by omega)
  · have h1 : (v.length : Int) > (l.length : Int) := by omega
    simp only [h1, if_true, decide_eq_false h, Bool.false_and]
    exact ev_some _
attribute [local irreducible] spec_FitsAll.f

theorem spec_EncodeKey_l0 (l : List S30) (vs : List S32) (hl : vs.length ≤ l.length) (h6 : l.length ≤ 6) (hw : ∀ v ∈ vs, -9223372036854775808 ≤ v.f1 ∧ v.f1 ≤ 9223372036854775807) : ∀ i : Nat, i ≤ vs.length → ∀ out : List Int, IsB out → out.length ≤ 63 * i →
    Ev (fun k => spec_EncodeKey.l0 k l vs out (i : Int)) (out ++ keyB (l.drop i) (vs.drop i)) := by
  refine up_ind vs.length (fun i : Nat => ∀ out : List Int, IsB out → out.length ≤ 63 * i → Ev (fun k => spec_EncodeKey.l0 k l vs out (i : Int)) (out ++ keyB (l.drop i) (vs.drop i))) ?_ ?_
  · intro out hb ho
    refine ev_succ ?_
    have h1 : ¬ ((vs.length : Int) < (vs.length : Int)) := by omega
    simp only [spec_EncodeKey.l0.eq_2, h1, if_false]
    rw [List.drop_eq_nil_of_le (Nat.le_refl _), keyB_nil_r, List.append_nil]
    exact ev_some _
  · intro i hi ih out hb ho
    refine ev_succ ?_
    have hil : i < l.length := by omega
    have h1 : (i : Int) < (vs.length : Int) := by omega
    have h2 : (0 : Int) ≤ (i : Int) := by omega
    have h3 : (i : Int) < (l.length : Int) := by omega
    simp only [spec_EncodeKey.l0.eq_2, h1, h2, h3, if_true, rd_T30_nat l i hil, rd_T32_nat vs i hi, wsucc (show i < 9223372036854775807 by omega)]
    rw [List.drop_eq_getElem_cons hil, List.drop_eq_getElem_cons hi, keyB_cons, ← List.append_assoc]
    refine Ev.bind (spec_PutPart_ev out (by omega) hb _ _ _ _ _ _ (hw _ (List.getElem_mem hi)) _) ?_
    have hp := ppB_len l[i] vs[i]
    exact ih (out ++ ppB l[i] vs[i]) (hb.append (ppB_isB _ _)) (by rw [List.length_append]; omega)
theorem spec_EncodeKey_ev (l : List S30) (vs : List S32) (hv : vs.length ≤ 9223372036854775807) (hl : l.length ≤ 9223372036854775807) (hw : ∀ v ∈ vs, -9223372036854775808 ≤ v.f1 ∧ v.f1 ≤ 9223372036854775807) : Ev (fun k => spec_EncodeKey.f k l vs) (encKey l vs) := by
  unfold spec_EncodeKey.f encKey
  simp only [Option.bind_some]
  refine Ev.bind (spec_PlanOk_ev l hl) ?_
  cases hp : planOkB l with
  | false =>
    simp only [Bool.false_eq_true, if_false, Bool.false_and]
    refine ev_succ ?_
    simp only [spec_EncodeKey.j0.eq_2, if_true]
    exact ev_some _
  | true =>
    have h6 := (planOk_len hp).1
    simp only [if_true, Bool.true_and]
    refine Ev.bind (spec_FitsAll_ev l vs hv) ?_
    refine ev_succ ?_
    cases hf : fitsAllB l vs with
    | false =>
      simp only [spec_EncodeKey.j0.eq_2, Bool.not_false, if_true, Bool.false_eq_true, if_false]
      exact ev_some _
    | true =>
      simp only [spec_EncodeKey.j0.eq_2, Bool.not_true, Bool.false_eq_true, if_false, if_true]
      have hle : vs.length ≤ l.length := by
        unfold fitsAllB at hf
        rw [Bool.and_eq_true] at hf
        exact of_decide_eq_true hf.1
      simpa using spec_EncodeKey_l0 l vs hle h6 hw 0 (by omega) [] IsB.nil (by simp)
attribute [local irreducible] spec_EncodeKey.f

theorem laws_toPart_eq (a b : Int) (c d : Bool) : laws_toPart.f a b c d = some (a, b, c, d) := rfl
attribute [local irreducible] laws_toPart.f

def cvP (p : S24) : S30 := ⟨p.f0, p.f1, p.f2, p.f3⟩
theorem laws_toPartS_l0 (l : List S24) (h : l.length ≤ 1048576) : ∀ i, i ≤ l.length → ∀ xs : List S30, xs.length = l.length →
    Ev (fun k => laws_toPartS.l0 k l xs (i : Int)) (xs.take i ++ (l.drop i).map cvP) := by
  refine up_ind l.length (fun i => ∀ xs : List S30, xs.length = l.length → Ev (fun k => laws_toPartS.l0 k l xs (i : Int)) (xs.take i ++ (l.drop i).map cvP)) ?_ ?_
  · intro xs hx
    refine ev_succ ?_
    have h1 : ¬ ((l.length : Int) < (l.length : Int)) := by omega
    simp only [laws_toPartS.l0.eq_2, h1, if_false]
    rw [List.take_of_length_le (by omega), List.drop_eq_nil_of_le (by omega)]
    simpa using ev_some xs
  · intro i hi ih xs hx
    refine ev_succ ?_
    have h1 : (i : Int) < (l.length : Int) := by omega
    have h2 : (0 : Int) ≤ (i : Int) := by omega
    have h3 : (i : Int) < (xs.length : Int) := by omega
    simp only [laws_toPartS.l0.eq_2, h1, h2, h3, if_true, laws_toPart_eq, Option.bind_some, rd_T24_nat l i hi, Int.toNat_natCast, wsucc (show i < 9223372036854775807 by omega)]
    have := ih (xs.set i (cvP l[i])) (by simp [hx])
    rw [take_set_succ _ _ _ (by omega)] at this
    rw [List.append_assoc] at this
    rw [List.drop_eq_getElem_cons hi]
    exact this
theorem laws_toPartS_ev (l : List S24) (h : l.length ≤ 1048576) : Ev (fun k => laws_toPartS.f k l) (l.map cvP) := by
  unfold laws_toPartS.f
  have h1 : (0 : Int) ≤ (l.length : Int) := by omega
  have h2 : l.length ≤ 11728124029610 := by omega
  simp only [h1, h2, if_true, Int.toNat_natCast]
  simpa using laws_toPartS_l0 l h 0 (by omega) (List.replicate l.length z30) (by simp)
attribute [local irreducible] laws_toPartS.f

theorem laws_toVal_eq (a b : Int) (s : ByteArray) : laws_toVal.f a b s = some (a, b, s) := rfl
attribute [local irreducible] laws_toVal.f

def cvV (p : S26) : S32 := ⟨p.f0, p.f1, p.f2⟩
theorem laws_toValS_l0 (l : List S26) (h : l.length ≤ 1048576) : ∀ i, i ≤ l.length → ∀ xs : List S32, xs.length = l.length →
    Ev (fun k => laws_toValS.l0 k l xs (i : Int)) (xs.take i ++ (l.drop i).map cvV) := by
  refine up_ind l.length (fun i => ∀ xs : List S32, xs.length = l.length → Ev (fun k => laws_toValS.l0 k l xs (i : Int)) (xs.take i ++ (l.drop i).map cvV)) ?_ ?_
  · intro xs hx
    refine ev_succ ?_
    have h1 : ¬ ((l.length : Int) < (l.length : Int)) := by omega
    simp only [laws_toValS.l0.eq_2, h1, if_false]
    rw [List.take_of_length_le (by omega), List.drop_eq_nil_of_le (by omega)]
    simpa using ev_some xs
  · intro i hi ih xs hx
    refine ev_succ ?_
    have h1 : (i : Int) < (l.length : Int) := by omega
    have h2 : (0 : Int) ≤ (i : Int) := by omega
    have h3 : (i : Int) < (xs.length : Int) := by omega
    simp only [laws_toValS.l0.eq_2, h1, h2, h3, if_true, laws_toVal_eq, Option.bind_some, rd_T26_nat l i hi, Int.toNat_natCast, wsucc (show i < 9223372036854775807 by omega)]
    have := ih (xs.set i (cvV l[i])) (by simp [hx])
    rw [take_set_succ _ _ _ (by omega)] at this
    rw [List.append_assoc] at this
    rw [List.drop_eq_getElem_cons hi]
    exact this
theorem laws_toValS_ev (l : List S26) (h : l.length ≤ 1048576) : Ev (fun k => laws_toValS.f k l) (l.map cvV) := by
  unfold laws_toValS.f
  have h1 : (0 : Int) ≤ (l.length : Int) := by omega
  have h2 : l.length ≤ 8796093022208 := by omega
  simp only [h1, h2, if_true, Int.toNat_natCast]
  simpa using laws_toValS_l0 l h 0 (by omega) (List.replicate l.length z32) (by simp)
attribute [local irreducible] laws_toValS.f

theorem impl_in_eq (a b c : Int) : impl_in.f a b c = some (inB a b c) := in_ite a b c
attribute [local irreducible] impl_in.f

theorem impl_PartOk_eq (a0 a1 : Int) (a2 a3 : Bool) : impl_PartOk.f a0 a1 a2 a3 = some (partOkB a0 a1) := by
  unfold impl_PartOk.f partOkB
  simp only [impl_in_eq, Option.bind_some]
  cases inB a0 0 9 <;> simp
attribute [local irreducible] impl_PartOk.f

theorem impl_PlanOk_l0 (l : List S30) (h : l.length ≤ 9223372036854775807) : ∀ i, i ≤ l.length → (i ≤ 6 → Ev (fun k => impl_PlanOk.l0 k l (l.length : Int) (i : Int)) (decide (l.length ≤ 6) && (l.drop i).all fun p => partOkB p.f0 p.f1)) := by
  refine up_ind l.length (fun i => (i ≤ 6 → Ev (fun k => impl_PlanOk.l0 k l (l.length : Int) (i : Int)) (decide (l.length ≤ 6) && (l.drop i).all fun p => partOkB p.f0 p.f1))) ?_ ?_
  · intro h6
    refine ev_succ ?_
    have h1 : ¬ ((l.length : Int) < (l.length : Int)) := by omega
    simp only [impl_PlanOk.l0.eq_2, h1, if_false]
    rw [List.drop_eq_nil_of_le (by omega), decide_eq_true h6]
    simpa using ev_some _
  · intro i hi ih h6
    refine ev_succ ?_
    have h1 : (i : Int) < (l.length : Int) := by omega
    have h2 : (0 : Int) ≤ (i : Int) := by omega
    by_cases h7 : i = 6
    · have h8 : (i : Int) ≥ 6 := by omega
      simp only [impl_PlanOk.l0.eq_2, h1, h2, h8, if_true]
      rw [show decide (l.length ≤ 6) = false by apply decide_eq_false; omega]
      simpa using ev_some _
    · have h8 : ¬ ((i : Int) ≥ 6) := by omega
      simp only [impl_PlanOk.l0.eq_2, h1, h2, h8, if_true, if_false, rd_T30_nat l i hi, impl_PartOk_eq, Option.bind_some, wsucc (show i < 9223372036854775807 by omega)]
      rw [List.drop_eq_getElem_cons hi, List.all_cons]
      cases hp : partOkB l[i].f0 l[i].f1
      · simpa using ev_some _
      · simpa using ih (by omega)
theorem impl_PlanOk_ev (l : List S30) (h : l.length ≤ 9223372036854775807) : Ev (fun k => impl_PlanOk.f k l) (planOkB l) := by
  unfold impl_PlanOk.f planOkB
  simpa using impl_PlanOk_l0 l h 0 (by omega) (by omega)
attribute [local irreducible] impl_PlanOk.f

theorem impl_ValOk_eq (k n : Int) (s : ByteArray) : impl_ValOk.f k n s = some (valOkB k n s) := by
  unfold impl_ValOk.f valOkB isE
  simp only [impl_in_eq, Option.bind_some]
  by_cases h0 : k = 0
  · simp only [h0, if_true]; by_cases hn : n = 0 <;> simp [hn]
  simp only [h0, if_false]
  by_cases h1 : k = 1
  · simp only [h1, if_true]; cases inB n (-2147483648) 2147483647 <;> simp
  simp only [h1, if_false]
  by_cases h2 : k = 2
  · simp only [h2, if_true]; cases inB n (-1000000000000000) 1000000000000000 <;> simp
  simp only [h2, if_false]
  by_cases h3 : k = 3
  · simp only [h3, if_true]; by_cases hn : n = 0 <;> by_cases hs : (s.size : Int) ≤ 30 <;> simp [hn, hs]
  simp only [h3, if_false]
  by_cases h4 : k = 4
  · simp only [h4, if_true]; cases inB n 0 1 <;> simp
  simp only [h4, if_false]
attribute [local irreducible] impl_ValOk.f

theorem impl_Fits_eq (a0 t : Int) (null a3 : Bool) (k n : Int) (s : ByteArray) : impl_Fits.f a0 t null a3 k n s = some (fitsB t null k n s) := by
  unfold impl_Fits.f fitsB
  simp only [impl_ValOk_eq, Option.bind_some]
  cases valOkB k n s
  · simp
  · simp only [if_true, Bool.true_and]
    by_cases h1 : k = t
    · rw [if_pos h1]
      by_cases h0 : k = 0
      · rw [if_pos h0, if_pos h0]
      · rw [if_neg h0, if_neg h0]; simp [h1]
    · rw [if_neg h1]
      by_cases h0 : k = 0
      · rw [if_pos h0, if_pos h0]
      · rw [if_neg h0, if_neg h0]; simp [h1]
attribute [local irreducible] impl_Fits.f

theorem impl_FitsAll_l0 (l : List S30) (v : List S32) (h : v.length ≤ l.length) (hl : v.length ≤ 9223372036854775807) : ∀ i, i ≤ v.length → Ev (fun k => impl_FitsAll.l0 k l v (v.length : Int) (i : Int)) (((l.drop i).zip (v.drop i)).all fun q => fitsV q.1 q.2) := by
  refine up_ind v.length (fun i => Ev (fun k => impl_FitsAll.l0 k l v (v.length : Int) (i : Int)) (((l.drop i).zip (v.drop i)).all fun q => fitsV q.1 q.2)) ?_ ?_
  · refine ev_succ ?_
    have h1 : ¬ ((v.length : Int) < (v.length : Int)) := by omega
    simp only [impl_FitsAll.l0.eq_2, h1, if_false]
    rw [List.drop_eq_nil_of_le (show v.length ≤ _ by omega)]
    simpa using ev_some _
  · intro i hi ih
    refine ev_succ ?_
    have h1 : (i : Int) < (v.length : Int) := by omega
    have h2 : (0 : Int) ≤ (i : Int) := by omega
    have h3 : (i : Int) < (l.length : Int) := by omega
    have hil : i < l.length := by omega
    simp only [impl_FitsAll.l0.eq_2, h1, h2, h3, if_true, rd_T30_nat l i hil, rd_T32_nat v i hi, impl_Fits_eq, Option.bind_some, wsucc (show i < 9223372036854775807 by omega)]
    rw [List.drop_eq_getElem_cons hi, List.drop_eq_getElem_cons hil, List.zip_cons_cons, List.all_cons]
    cases hp : fitsB l[i].f1 l[i].f2 v[i].f0 v[i].f1 v[i].f2
    · simpa [fitsV, hp] using ev_some _
    · simpa [fitsV, hp] using ih
theorem impl_FitsAll_ev (l : List S30) (v : List S32) (hl : v.length ≤ 9223372036854775807) : Ev (fun k => impl_FitsAll.f k l v) (fitsAllB l v) := by
  unfold impl_FitsAll.f fitsAllB
  by_cases h : v.length ≤ l.length
  · have h1 : ¬ ((v.length : Int) > (l.length : Int)) := by omega
    simp only [h1, if_false, decide_eq_true h, Bool.true_and]
    simpa using impl_FitsAll_l0 l v h hl 0 (by omega)
  · have h1 : (v.length : Int) > (l.length : Int) := by omega
    simp only [h1, if_true, decide_eq_false h, Bool.false_and]
    exact ev_some _
attribute [local irreducible] impl_FitsAll.f

theorem impl_copyBytes_eq (l : List Int) (h : l.length < 140737488355328) : impl_copyBytes.f l = some l := by
  unfold impl_copyBytes.f
  simp only [List.length_nil, Nat.zero_add, List.nil_append]
  rw [if_pos h]
attribute [local irreducible] impl_copyBytes.f

theorem impl_Flip_l0 (l : List Int) (hl : l.length ≤ 140737480000000) (hb : IsB l) (p : Nat) : ∀ i : Nat, i ≤ l.length → p ≤ i → ∀ xs : List Int, xs.length = l.length → xs.drop i = l.drop i →
    Ev (fun k => impl_Flip.l0 k xs (i : Int)) (xs.take i ++ (l.drop i).map fun x => 255 - x) := by
  refine up_ind l.length (fun i : Nat => p ≤ i → ∀ xs : List Int, xs.length = l.length → xs.drop i = l.drop i → Ev (fun k => impl_Flip.l0 k xs (i : Int)) (xs.take i ++ (l.drop i).map fun x => 255 - x)) ?_ ?_
  · intro _ xs hx _
    refine ev_succ ?_
    have h1 : ¬ ((l.length : Int) < (xs.length : Int)) := by omega
    simp only [impl_Flip.l0.eq_2, h1, if_false]
    rw [List.take_of_length_le (by omega), List.drop_eq_nil_of_le (by omega), List.map_nil, List.append_nil]
    exact ev_some _
  · intro i hi ih hp xs hx he
    refine ev_succ ?_
    have hxi : i < xs.length := by omega
    have h1 : (i : Int) < (xs.length : Int) := by omega
    have h2 : (0 : Int) ≤ (i : Int) := by omega
    have h3 : xs[i] = l[i] := by
      have := congrArg (fun l => l[0]?) he
      simp only [List.getElem?_drop, Nat.add_zero] at this
      rw [List.getElem?_eq_getElem hxi, List.getElem?_eq_getElem hi] at this
      exact Option.some.inj this
    obtain ⟨g0, g1⟩ := hb.get i hi
    simp only [impl_Flip.l0.eq_2, h1, h2, if_true, Int.toNat_natCast, rd_nat xs i hxi, h3, xor255 l[i] g0 g1, wsucc (show i < 9223372036854775807 by omega)]
    have := ih (by omega) (xs.set i (255 - l[i])) (by simp [hx]) (by
      rw [List.drop_set_of_lt (by omega)]
      have := congrArg (List.drop 1) he
      simpa [List.drop_drop, Nat.add_comm] using this)
    rw [take_set_succ _ _ _ hxi, List.append_assoc] at this
    rw [List.drop_eq_getElem_cons hi]
    exact this
theorem impl_Flip_ev (l : List Int) (p : Int) (hl : l.length ≤ 140737480000000) (hb : IsB l) : Ev (fun k => impl_Flip.f k l p) (flipB l p) := by
  unfold impl_Flip.f
  simp only [impl_copyBytes_eq l (by omega), Option.bind_some]
  have e : mx p 0 = ((p.toNat : Nat) : Int) := by unfold mx; split <;> omega
  rw [e]
  by_cases hp : p.toNat ≤ l.length
  · exact impl_Flip_l0 l hl hb p.toNat p.toNat hp (Nat.le_refl _) l rfl rfl
  · refine ev_succ ?_
    have h1 : ¬ (((p.toNat : Nat) : Int) < (l.length : Int)) := by omega
    simp only [impl_Flip.l0.eq_2, h1, if_false]
    unfold flipB
    rw [List.take_of_length_le (by omega), List.drop_eq_nil_of_le (by omega), List.map_nil, List.append_nil]
    exact ev_some _
attribute [local irreducible] impl_Flip.f

theorem impl_addBytes_l0 (n : Nat) (t : Bool) (c : Nat) : ∀ o : List Int, c ≤ 7 → o.length + c < 140737488355328 →
    Ev (fun k => impl_addBytes.l0 k o (n : Int) (if t = true then 255 else 0) ((c : Int) - 1)) (o ++ (beB n c).map fun x => if t = true then 255 - x else x) := by
  induction c with
  | zero =>
    intro o _ _
    refine ev_succ ?_
    have h1 : ¬ (((0 : Nat) : Int) - 1 ≥ 0) := by decide
    simp only [impl_addBytes.l0.eq_2, h1, if_false, beB, List.map_nil, List.append_nil]
    exact ev_some _
  | succ c ih =>
    intro o hc ho
    refine ev_succ ?_
    have e1 : ((c + 1 : Nat) : Int) - 1 = (c : Int) := by omega
    have h1 : (c : Int) ≥ 0 := by omega
    have h2 : wrap64 (8 * (c : Int)) = ((8 * c : Nat) : Int) := by rw [w64 (by omega) (by omega)]; omega
    have h3 : (0 : Int) ≤ ((8 * c : Nat) : Int) := by omega
    have h4 : o.length < 140737488355328 := by omega
    have h5 : wrap64 ((c : Int) - 1) = (c : Int) - 1 := w64 (by omega) (by omega)
    have h6 : shr .i64 (n : Int) ((8 * c : Nat) : Int) % 256 = ((n / 256 ^ c % 256 : Nat) : Int) := by
      unfold shr
      rw [Int.toNat_natCast, show min (8 * c) IntKind.i64.bits = 8 * c from Nat.min_eq_left (by simp [IntKind.bits]; omega), Nat.pow_mul' 2 8 c |> fun e => show (2 : Int) ^ (8 * c) = ((256 ^ c : Nat) : Int) by rw [Int.pow_mul]; simp]
      omega
    have h7 : bits .xor .u8 ((n / 256 ^ c % 256 : Nat) : Int) (if t = true then 255 else 0) = if t = true then 255 - ((n / 256 ^ c % 256 : Nat) : Int) else ((n / 256 ^ c % 256 : Nat) : Int) := by
      cases t with
      | true => simp only [if_true]; exact xor_255 _ (by omega) (by omega)
      | false => simp only [Bool.false_eq_true, if_false]; exact xor0 _ (by omega) (by omega)
    simp only [impl_addBytes.l0.eq_2, e1, h1, h2, h3, h4, h5, h6, h7, if_true]
    have := ih (o ++ [if t = true then 255 - ((n / 256 ^ c % 256 : Nat) : Int) else ((n / 256 ^ c % 256 : Nat) : Int)]) (by omega) (by simp only [List.length_append, List.length_cons, List.length_nil]; omega)
    rw [List.append_assoc] at this
    exact this
theorem impl_addBytes_ev (o : List Int) (n : Nat) (c : Nat) (t : Bool) (τ : Int) (hτ : τ = if t = true then 255 else 0) (hc : c ≤ 7) (ho : o.length ≤ 140737480000000) :
    Ev (fun k => impl_addBytes.f k o (n : Int) (c : Int) τ) (o ++ (beB n c).map fun x => if t = true then 255 - x else x) := by
  subst hτ
  unfold impl_addBytes.f
  rw [w64 (by omega) (by omega)]
  exact impl_addBytes_l0 n t c o hc (by omega)
attribute [local irreducible] impl_addBytes.f

theorem impl_clamp_eq (n lo hi : Int) : impl_clamp.f n lo hi = some (clampN n lo hi) := rfl
attribute [local irreducible] impl_clamp.f

theorem impl_addFix_ev (l : List Int) (n : Int) (h : l.length ≤ 140737480000000) : Ev (fun k => impl_addFix.f k l n) (l ++ fixB n) := by
  unfold impl_addFix.f
  have hc := clampN_spec n (-2147483648) 2147483647 (by omega)
  simp only [impl_clamp_eq, Option.bind_some]
  have e : wrap64 (clampN n (-2147483648) 2147483647 + 2147483648) = (((clampN n (-2147483648) 2147483647 + 2147483648).toNat : Nat) : Int) := by rw [w64 (by omega) (by omega)]; omega
  rw [e]
  have := impl_addBytes_ev l (clampN n (-2147483648) 2147483647 + 2147483648).toNat 4 false 0 rfl (by omega) h
  have e2 : (beB (clampN n (-2147483648) 2147483647 + 2147483648).toNat 4).map (fun x : Int => if false = true then 255 - x else x) = fixB n := by
    unfold fixB
    simp only [beB, List.map_cons, List.map_nil, Bool.false_eq_true, if_false, List.cons.injEq, and_true, Nat.pow_zero, Nat.pow_one]
    omega
  rw [e2] at this
  exact Ev.bind this (ev_some _)
attribute [local irreducible] impl_addFix.f

theorem impl_bytesOf_l0 (n : Nat) : ∀ c : Nat, c + n ≤ 4611686018427387904 → Ev (fun k => impl_bytesOf.l0 k (n : Int) (c : Int)) ((c + nB n : Nat) : Int) := by
  induction n using Nat.strongRecOn with
  | _ n ih =>
    intro c hc
    refine ev_succ ?_
    by_cases h : n = 0
    · subst h
      have h1 : ¬ (((0 : Nat) : Int) > 0) := by decide
      simp only [impl_bytesOf.l0.eq_2, h1, if_false, nB_zero, Nat.add_zero]
      exact ev_some _
    · have h1 : (n : Int) > 0 := by omega
      have h2 : wrap64 ((c : Int) + 1) = ((c + 1 : Nat) : Int) := wsucc (by omega)
      have h3 : (n : Int) / 256 = ((n / 256 : Nat) : Int) := by omega
      simp only [impl_bytesOf.l0.eq_2, h1, if_true, h2, h3]
      have := ih (n / 256) (by omega) (c + 1) (by omega)
      rw [nB_pos h, show c + (nB (n / 256) + 1) = c + 1 + nB (n / 256) by omega]
      exact this
theorem impl_bytesOf_ev (n : Nat) (h : n ≤ 4611686018427387904) : Ev (fun k => impl_bytesOf.f k (n : Int)) ((nB n : Nat) : Int) := by
  unfold impl_bytesOf.f
  simpa using impl_bytesOf_l0 n 0 (by omega)
attribute [local irreducible] impl_bytesOf.f

theorem impl_addVar_ev (l : List Int) (n : Int) (h : l.length ≤ 140737470000000) : Ev (fun k => impl_addVar.f k l n) (l ++ varB n) := by
  unfold impl_addVar.f
  have hc := varN_spec n
  simp only [impl_clamp_eq, Option.bind_some, show clampN n (-1000000000000000) 1000000000000000 = varN n from rfl]
  unfold varB
  simp only
  by_cases h0 : 0 ≤ varN n
  · have h0' : varN n ≥ 0 := h0
    rw [if_pos h0]
    simp only [h0', if_true]
    obtain ⟨m, hm⟩ := Int.eq_ofNat_of_zero_le h0
    rw [hm] at hc ⊢
    simp only [Int.toNat_natCast]
    have h7 := nB_7 (n := m) (by omega)
    refine Ev.bind (impl_bytesOf_ev m (by omega)) ?_
    have h1 : l.length < 140737488355328 := by omega
    have e : wrap64 (128 + ((nB m : Nat) : Int)) % 256 = 128 + (nB m : Int) := by rw [w64 (by omega) (by omega)]; omega
    simp only [h1, if_true, e]
    have := impl_addBytes_ev (l ++ [128 + (nB m : Int)]) m (nB m) false 0 rfl h7 (by simp only [List.length_append, List.length_cons, List.length_nil]; omega)
    simp only [Bool.false_eq_true, if_false, List.map_id'] at this
    rw [List.append_assoc] at this
    exact Ev.bind this (ev_some _)
  · have h0' : ¬ (varN n ≥ 0) := h0
    rw [if_neg h0]
    simp only [h0', if_false]
    have e0 : wrap64 (-1 - varN n) = (((-1 - varN n).toNat : Nat) : Int) := by rw [w64 (by omega) (by omega)]; omega
    rw [e0]
    have hm : (-1 - varN n).toNat ≤ 1000000000000000 := by omega
    generalize (-1 - varN n).toNat = m at hm
    have h7 := nB_7 (n := m) (by omega)
    refine Ev.bind (impl_bytesOf_ev m (by omega)) ?_
    have h1 : l.length < 140737488355328 := by omega
    have e : wrap64 (127 - ((nB m : Nat) : Int)) % 256 = 127 - (nB m : Int) := by rw [w64 (by omega) (by omega)]; omega
    simp only [h1, if_true, e]
    have := impl_addBytes_ev (l ++ [127 - (nB m : Int)]) m (nB m) true 255 rfl h7 (by simp only [List.length_append, List.length_cons, List.length_nil]; omega)
    simp only [if_true] at this
    rw [List.append_assoc] at this
    exact Ev.bind this (ev_some _)
attribute [local irreducible] impl_addVar.f

theorem impl_addEsc_l0 (s : ByteArray) (hs : s.size ≤ 1048576) : ∀ i : Nat, i ≤ s.size → ∀ o : List Int, o.length + 2 * (s.size - i) + 2 < 140737488355328 →
    Ev (fun k => impl_addEsc.l0 k o s (i : Int)) (o ++ escB ((bytesOf s).drop i)) := by
  refine up_ind s.size (fun i : Nat => ∀ o : List Int, o.length + 2 * (s.size - i) + 2 < 140737488355328 → Ev (fun k => impl_addEsc.l0 k o s (i : Int)) (o ++ escB ((bytesOf s).drop i))) ?_ ?_
  · intro o ho
    refine ev_succ ?_
    have h1 : ¬ ((s.size : Int) < (s.size : Int)) := by omega
    have h2 : o.length + ([0, 1] : List Int).length < 140737488355328 := by simp only [List.length_cons, List.length_nil]; omega
    simp only [impl_addEsc.l0.eq_2, h1, if_false, Option.bind_some, h2, if_true]
    rw [List.drop_eq_nil_of_le (by rw [bytesOf_len]; omega)]
    exact ev_some _
  · intro i hi ih o ho
    refine ev_succ ?_
    have hib : i < (bytesOf s).length := by rw [bytesOf_len]; exact hi
    have h1 : (i : Int) < (s.size : Int) := by omega
    have h2 : (0 : Int) ≤ (i : Int) := by omega
    have h3 : o.length < 140737488355328 := by omega
    have h4 : (o ++ [(bytesOf s)[i]]).length < 140737488355328 := by simp only [List.length_append, List.length_cons, List.length_nil]; omega
    simp only [impl_addEsc.l0.eq_2, h1, h2, h3, h4, if_true, Option.bind_some, bt_get s i hi, wsucc (show i < 9223372036854775807 by omega)]
    rw [List.drop_eq_getElem_cons hib]
    by_cases hz : (bytesOf s)[i] = 0
    · have := ih (o ++ [(bytesOf s)[i]] ++ [255]) (by simp only [List.length_append, List.length_cons, List.length_nil]; omega)
      rw [escB, if_pos hz]
      rw [List.append_assoc, List.append_assoc] at this
      simp only [hz, if_true]
      rw [hz] at this
      simpa using this
    · have := ih (o ++ [(bytesOf s)[i]]) (by simp only [List.length_append, List.length_cons, List.length_nil]; omega)
      rw [escB, if_neg hz]
      rw [List.append_assoc] at this
      simp only [hz, if_false]
      exact this
theorem impl_addEsc_ev (l : List Int) (s : ByteArray) (h : l.length ≤ 140737480000000) (hs : s.size ≤ 1048576) : Ev (fun k => impl_addEsc.f k l s) (l ++ escB (bytesOf s)) := by
  unfold impl_addEsc.f
  simpa using impl_addEsc_l0 s hs 0 (by omega) l (by omega)
attribute [local irreducible] impl_addEsc.f

theorem flipB_behind (l x : List Int) : flipB (l ++ x) (l.length : Int) = l ++ turnL x := flipB_at l x
theorem impl_addPart_j2 (l h : List Int) (hl : l.length + h.length ≤ 140737460000000) (hb : IsB l) (hh : IsB h) (c t : Int) (null desc : Bool) (k n : Int) (s : ByteArray) (hs : s.size ≤ 30) :
    Ev (fun j => impl_addPart.j2 j (l ++ h) (l.length : Int) c t null desc k n s) (l ++ turnB desc (h ++ valB k n s)) := by
  refine ev_succ ?_
  have hll : (l ++ h).length ≤ 140737460000000 := by rw [List.length_append]; omega
  have hv := valB_len k n s hs
  have tail : ∀ v : List Int, valB k n s = v → Ev (fun j => if desc = true then (impl_Flip.f j (l ++ h ++ v) (l.length : Int)).bind fun t => some t else some (l ++ h ++ v)) (l ++ turnB desc (h ++ v)) := by
    intro v hvv
    cases desc with
    | false => simp only [Bool.false_eq_true, if_false, turnB, List.append_assoc]; exact ev_some _
    | true =>
      simp only [if_true, turnB]
      have hib : IsB (l ++ h ++ v) := (hb.append hh).append (by rw [← hvv]; exact valB_isB k n s)
      have e := flipB_behind l (h ++ v)
      rw [← e, ← List.append_assoc]
      exact Ev.bind (impl_Flip_ev _ _ (by rw [List.length_append]; rw [hvv] at hv; omega) hib) (ev_some _)
  simp only [impl_addPart.j2.eq_2]
  by_cases k1 : k = 1
  · have e : valB k n s = fixB n := by unfold valB; rw [if_pos k1]
    simp only [k1, if_true]
    rw [k1] at e
    rw [e]
    refine Ev.bind (impl_addFix_ev (l ++ h) n (by omega)) ?_
    exact tail _ (by rw [k1]; exact e)
  by_cases k2 : k = 2
  · have e : valB k n s = varB n := by unfold valB; rw [if_neg k1, if_pos k2]
    simp only [k1, if_false]
    simp only [k2, if_true]
    rw [k2] at e
    rw [e]
    refine Ev.bind (impl_addVar_ev (l ++ h) n (by omega)) ?_
    exact tail _ (by rw [k2]; exact e)
  by_cases k3 : k = 3
  · have e : valB k n s = escB (bytesOf s) := by unfold valB; rw [if_neg k1, if_neg k2, if_pos k3]
    simp only [k1, k2, if_false]
    simp only [k3, if_true]
    rw [k3] at e
    rw [e]
    refine Ev.bind (impl_addEsc_ev (l ++ h) s (by omega) (by omega)) ?_
    exact tail _ (by rw [k3]; exact e)
  by_cases k4 : k = 4
  · have e : valB k n s = [n % 256] := by unfold valB; rw [if_neg k1, if_neg k2, if_neg k3, if_pos k4]
    have h1 : (l ++ h).length < 140737488355328 := by omega
    simp only [k1, k2, k3, if_false]
    simp only [k4, if_true, h1, Option.bind_some]
    rw [k4] at e
    rw [e]
    exact tail _ (by rw [k4]; exact e)
  · have e : valB k n s = [] := by unfold valB; rw [if_neg k1, if_neg k2, if_neg k3, if_neg k4]
    simp only [k1, k2, k3, k4, if_false, e]
    have := tail [] e
    simpa using this
theorem impl_addPart_ev (l : List Int) (hl : l.length ≤ 140737450000000) (hb : IsB l) (c t : Int) (null desc : Bool) (k n : Int) (s : ByteArray) :
    Ev (fun j => impl_addPart.f j l c t null desc k n s) (l ++ putPart c t null desc k n s) := by
  unfold impl_addPart.f
  simp only [impl_PartOk_eq, impl_Fits_eq, Option.bind_some]
  by_cases hok : okPV c t null k n s = true
  · have h2 := hok
    unfold okPV at h2
    rw [Bool.and_eq_true] at h2
    have hs := okPV_size hok
    have e : putPart c t null desc k n s = turnB desc (bareB null k n s) := by unfold putPart partB; rw [if_pos hok]
    rw [e]
    simp only [h2.1, h2.2, if_true, Bool.not_true]
    refine ev_succ ?_
    have hlt : l.length < 140737488355328 := by omega
    simp only [impl_addPart.j0.eq_2, Bool.false_eq_true, if_false]
    unfold bareB
    cases hn : null with
    | false =>
      simp only [Bool.false_eq_true, if_false]
      refine ev_succ ?_
      simp only [impl_addPart.j1.eq_2, Bool.false_eq_true, if_false]
      have := impl_addPart_j2 l [] (by simp only [List.length_nil]; omega) hb IsB.nil c t false desc k n s hs
      simpa [headB] using this
    | true =>
      simp only [if_true]
      refine ev_succ ?_
      by_cases hk : k = 0
      · have hk' : (k == 0) = true := by simp [hk]
        simp only [impl_addPart.j1.eq_2, hk', if_true, hlt]
        have := impl_addPart_j2 l [0] (by simp only [List.length_cons, List.length_nil]; omega) hb (IsB.cons (by omega) (by omega) IsB.nil) c t true desc k n s hs
        simpa [headB, hk] using this
      · have hk' : (k == 0) = false := by simp [hk]
        simp only [impl_addPart.j1.eq_2, hk', Bool.false_eq_true, if_false, if_true, hlt]
        have := impl_addPart_j2 l [1] (by simp only [List.length_cons, List.length_nil]; omega) hb (IsB.cons (by omega) (by omega) IsB.nil) c t true desc k n s hs
        simpa [headB, hk] using this
  · have e : putPart c t null desc k n s = [] := by unfold putPart; rw [if_neg hok]
    rw [e, List.append_nil]
    unfold okPV at hok
    cases hp : partOkB c t with
    | false =>
      simp only [Bool.false_eq_true, if_false]
      refine ev_succ ?_
      simp only [impl_addPart.j0.eq_2, if_true]
      exact ev_some _
    | true =>
      rw [hp, Bool.true_and] at hok
      have hf : fitsB t null k n s = false := by simpa using hok
      simp only [if_true, hf, Bool.not_false]
      refine ev_succ ?_
      simp only [impl_addPart.j0.eq_2, if_true]
      exact ev_some _
attribute [local irreducible] impl_addPart.f

theorem impl_EncodeKey_l0 (l : List S30) (vs : List S32) (hl : vs.length ≤ l.length) (h6 : l.length ≤ 6) (hw : ∀ v ∈ vs, -9223372036854775808 ≤ v.f1 ∧ v.f1 ≤ 9223372036854775807) : ∀ i : Nat, i ≤ vs.length → ∀ out : List Int, IsB out → out.length ≤ 63 * i →
    Ev (fun k => impl_EncodeKey.l0 k l out vs (vs.length : Int) (i : Int)) (out ++ keyB (l.drop i) (vs.drop i)) := by
  refine up_ind vs.length (fun i : Nat => ∀ out : List Int, IsB out → out.length ≤ 63 * i → Ev (fun k => impl_EncodeKey.l0 k l out vs (vs.length : Int) (i : Int)) (out ++ keyB (l.drop i) (vs.drop i))) ?_ ?_
  · intro out hb ho
    refine ev_succ ?_
    have h1 : ¬ ((vs.length : Int) < (vs.length : Int)) := by omega
    simp only [impl_EncodeKey.l0.eq_2, h1, if_false]
    rw [List.drop_eq_nil_of_le (Nat.le_refl _), keyB_nil_r, List.append_nil]
    exact ev_some _
  · intro i hi ih out hb ho
    refine ev_succ ?_
    have hil : i < l.length := by omega
    have h1 : (i : Int) < (vs.length : Int) := by omega
    have h2 : (0 : Int) ≤ (i : Int) := by omega
    have h3 : (i : Int) < (l.length : Int) := by omega
    simp only [impl_EncodeKey.l0.eq_2, h1, h2, h3, if_true, rd_T30_nat l i hil, rd_T32_nat vs i hi, wsucc (show i < 9223372036854775807 by omega)]
    rw [List.drop_eq_getElem_cons hil, List.drop_eq_getElem_cons hi, keyB_cons, ← List.append_assoc]
    refine Ev.bind (impl_addPart_ev out (by omega) hb _ _ _ _ _ _ _) ?_
    have hp := ppB_len l[i] vs[i]
    exact ih (out ++ ppB l[i] vs[i]) (hb.append (ppB_isB _ _)) (by rw [List.length_append]; omega)
theorem impl_EncodeKey_ev (l : List S30) (vs : List S32) (hv : vs.length ≤ 9223372036854775807) (hl : l.length ≤ 9223372036854775807) (hw : ∀ v ∈ vs, -9223372036854775808 ≤ v.f1 ∧ v.f1 ≤ 9223372036854775807) : Ev (fun k => impl_EncodeKey.f k l vs) (encKey l vs) := by
  unfold impl_EncodeKey.f encKey
  refine Ev.bind (impl_PlanOk_ev l hl) ?_
  cases hp : planOkB l with
  | false =>
    simp only [Bool.false_eq_true, if_false, Bool.false_and]
    refine ev_succ ?_
    simp only [impl_EncodeKey.j0.eq_2, if_true]
    exact ev_some _
  | true =>
    have h6 := (planOk_len hp).1
    simp only [if_true, Bool.true_and]
    refine Ev.bind (impl_FitsAll_ev l vs hv) ?_
    refine ev_succ ?_
    cases hf : fitsAllB l vs with
    | false =>
      simp only [impl_EncodeKey.j0.eq_2, Bool.not_false, if_true, Bool.false_eq_true, if_false]
      exact ev_some _
    | true =>
      simp only [impl_EncodeKey.j0.eq_2, Bool.not_true, Bool.false_eq_true, if_false, if_true]
      have hle : vs.length ≤ l.length := by
        unfold fitsAllB at hf
        rw [Bool.and_eq_true] at hf
        exact of_decide_eq_true hf.1
      simpa using impl_EncodeKey_l0 l vs hle h6 hw 0 (by omega) [] IsB.nil (by simp)
attribute [local irreducible] impl_EncodeKey.f

theorem laws_eqPart_refl (a b : Int) (c d : Bool) : laws_eqPart.f a b c d a b c d = some true := by unfold laws_eqPart.f; simp
attribute [local irreducible] laws_eqPart.f

theorem laws_eqPartS_l0 (l : List S30) (h : l.length ≤ 9223372036854775807) : ∀ i, i ≤ l.length → Ev (fun k => laws_eqPartS.l0 k l l (i : Int)) true := by
  refine up_ind l.length (fun i => Ev (fun k => laws_eqPartS.l0 k l l (i : Int)) true) ?_ ?_
  · refine ev_succ ?_
    have h1 : ¬ ((l.length : Int) < (l.length : Int)) := by omega
    simp only [laws_eqPartS.l0.eq_2, h1, if_false]
    exact ev_some _
  · intro i hi ih
    refine ev_succ ?_
    have h1 : (i : Int) < (l.length : Int) := by omega
    have h2 : (0 : Int) ≤ (i : Int) := by omega
    simp only [laws_eqPartS.l0.eq_2, h1, h2, if_true, laws_eqPart_refl, Option.bind_some, wsucc (show i < 9223372036854775807 by omega)]
    exact ih
theorem laws_eqPartS_ev (l : List S30) (h : l.length ≤ 9223372036854775807) : Ev (fun k => laws_eqPartS.f k l l) true := by
  unfold laws_eqPartS.f
  simp only [if_true]
  exact laws_eqPartS_l0 l h 0 (by omega)
attribute [local irreducible] laws_eqPartS.f

theorem laws_eqVal_refl (a b : Int) (s : ByteArray) : laws_eqVal.f a b s a b s = some true := by unfold laws_eqVal.f; simp
attribute [local irreducible] laws_eqVal.f

theorem laws_eqValS_l0 (l : List S32) (h : l.length ≤ 9223372036854775807) : ∀ i, i ≤ l.length → Ev (fun k => laws_eqValS.l0 k l l (i : Int)) true := by
  refine up_ind l.length (fun i => Ev (fun k => laws_eqValS.l0 k l l (i : Int)) true) ?_ ?_
  · refine ev_succ ?_
    have h1 : ¬ ((l.length : Int) < (l.length : Int)) := by omega
    simp only [laws_eqValS.l0.eq_2, h1, if_false]
    exact ev_some _
  · intro i hi ih
    refine ev_succ ?_
    have h1 : (i : Int) < (l.length : Int) := by omega
    have h2 : (0 : Int) ≤ (i : Int) := by omega
    simp only [laws_eqValS.l0.eq_2, h1, h2, if_true, laws_eqVal_refl, Option.bind_some, wsucc (show i < 9223372036854775807 by omega)]
    exact ih
theorem laws_eqValS_ev (l : List S32) (h : l.length ≤ 9223372036854775807) : Ev (fun k => laws_eqValS.f k l l) true := by
  unfold laws_eqValS.f
  simp only [if_true]
  exact laws_eqValS_l0 l h 0 (by omega)
attribute [local irreducible] laws_eqValS.f

theorem laws_markPartS_l0 (n : Nat) (hn : n ≤ 4294967296) (a : Int) (ha : 0 ≤ a ∧ a ≤ 4294967296) : ∀ i, i ≤ n → ∀ xs : List S30, xs.length = n →
    ∃ l' : List S30, Ev (fun k => laws_markPartS.l0 k xs (a + 4 * (i : Int)) (i : Int)) (a + 4 * (n : Int), l') := by
  refine up_ind n (fun i => ∀ xs : List S30, xs.length = n → ∃ l' : List S30, Ev (fun k => laws_markPartS.l0 k xs (a + 4 * (i : Int)) (i : Int)) (a + 4 * (n : Int), l')) ?_ ?_
  · intro xs hx
    refine ⟨xs, ev_succ ?_⟩
    have h1 : ¬ ((n : Int) < (xs.length : Int)) := by omega
    simp only [laws_markPartS.l0.eq_2, h1, if_false]
    exact ev_some _
  · intro i hi ih xs hx
    have h1 : (i : Int) < (xs.length : Int) := by omega
    have h2 : (0 : Int) ≤ (i : Int) := by omega
    have w1 : wrap64 (a + 4 * (i : Int) + 1) = a + 4 * (i : Int) + 1 := w64 (by omega) (by omega)
    have w2 : wrap64 (a + 4 * (i : Int) + 1 + 1) = a + 4 * (i : Int) + 2 := by rw [w64 (by omega) (by omega)]; omega
    have w3 : wrap64 (a + 4 * (i : Int) + 2 + 1) = a + 4 * (i : Int) + 3 := by rw [w64 (by omega) (by omega)]; omega
    have w4 : wrap64 (a + 4 * (i : Int) + 3 + 1) = a + 4 * ((i + 1 : Nat) : Int) := by rw [w64 (by omega) (by omega)]; omega
    have key : ∀ y : List S30, y.length = n → ∃ l' : List S30, Ev (fun k => laws_markPartS.l0 k y (a + 4 * ((i + 1 : Nat) : Int)) ((i + 1 : Nat) : Int)) (a + 4 * (n : Int), l') := ih
    suffices h : ∃ y : List S30, y.length = n ∧ ∀ r, Ev (fun k => laws_markPartS.l0 k y (a + 4 * ((i + 1 : Nat) : Int)) ((i + 1 : Nat) : Int)) r → Ev (fun k => laws_markPartS.l0 k xs (a + 4 * (i : Int)) (i : Int)) r by
      obtain ⟨y, hy, hr⟩ := h
      obtain ⟨l', hl⟩ := key y hy
      exact ⟨l', hr _ hl⟩
    apply Exists.intro
    apply And.intro
    rotate_left
    · intro r hr
      refine ev_succ ?_
      simp only [laws_markPartS.l0.eq_2, h1, h2, if_true, Option.bind_some, Int.toNat_natCast, w1, w2, w3, w4, wsucc (show i < 9223372036854775807 by omega)]
      exact hr
    · simp only [List.length_set]; exact hx
theorem laws_markPartS_ev (l : List S30) (a : Int) (ha : 0 ≤ a ∧ a ≤ 4294967296) (h : l.length ≤ 4294967296) : ∃ l' : List S30, Ev (fun k => laws_markPartS.f k l a) (a + 4 * (l.length : Int), l') := by
  unfold laws_markPartS.f
  simpa using laws_markPartS_l0 l.length h a ha 0 (by omega) l rfl
attribute [local irreducible] laws_markPartS.f

/-- the text by which a value is marked -/
def mt (x : Nat) (acc : ByteArray) : ByteArray := if h : x = 0 then (⟨#[109]⟩ : ByteArray) ++ acc else mt (x / 10) (strOfNums [(wrap64 (48 + (Int.tmod (x : Int) 10))) % 256] ++ acc)
termination_by x
decreasing_by omega
def mtext (a : Int) : ByteArray := if a ≤ 0 then (⟨#[109, 48]⟩ : ByteArray) else mt a.toNat ⟨#[]⟩
theorem laws_markText_l0 : ∀ (d x : Nat), x ≤ d → ∀ acc : ByteArray, x ≤ 1000000000000000 → acc.size + x ≤ 1000000000000000000 → Ev (fun k => laws_markText.l0 k (x : Int) acc) (mt x acc) := by
  intro d
  induction d with
  | zero =>
    intro x hx acc h1 h2
    have h0 : x = 0 := by omega
    subst h0
    refine ev_succ ?_
    have q : 1 + acc.size ≤ 9223372036854775807 := by omega
    simp only [laws_markText.l0.eq_2, show ¬ (((0 : Nat) : Int) > 0) by decide, if_false, q, if_true]
    rw [mt, dif_pos rfl]
    exact ev_some _
  | succ d ih =>
    intro x hx acc h1 h2
    by_cases h0 : x = 0
    · exact ih x (by omega) acc h1 h2
    · refine ev_succ ?_
      have q1 : (x : Int) > 0 := by omega
      have e : wrap64 (Int.tdiv (x : Int) 10) = ((x / 10 : Nat) : Int) := by
        rw [Int.tdiv_eq_ediv_of_nonneg (by omega)]
        rw [w64 (by omega) (by omega)]; omega
      simp only [laws_markText.l0.eq_2, q1, if_true, Option.bind_some, e]
      have hsz : (strOfNums [(wrap64 (48 + (Int.tmod (x : Int) 10))) % 256]).size = 1 := by rw [strOfNums_size]; rfl
      have q2 : (strOfNums [(wrap64 (48 + (Int.tmod (x : Int) 10))) % 256]).size + acc.size ≤ 9223372036854775807 := by rw [hsz]; omega
      simp only [q2, if_true]
      rw [mt, dif_neg h0]
      refine ih (x / 10) (by omega) _ (by omega) ?_
      rw [ByteArray.size_append, hsz]
      omega
theorem laws_markText_ev (a : Int) (h : a ≤ 1000000000000000) : Ev (fun k => laws_markText.f k a) (mtext a) := by
  unfold laws_markText.f mtext
  by_cases h0 : a ≤ 0
  · simp only [h0, if_true]; exact ev_some _
  · simp only [h0, if_false]
    have := laws_markText_l0 a.toNat a.toNat (Nat.le_refl _) ⟨#[]⟩ (by omega) (by simp only [show (⟨#[]⟩ : ByteArray).size = 0 from rfl]; omega)
    rw [show ((a.toNat : Nat) : Int) = a by omega] at this
    exact this
attribute [local irreducible] laws_markText.f

theorem rd_set_T32 (xs : List S32) (i : Nat) (h : i < xs.length) (v : S32) : rd_T32 (xs.set i v) (i : Int) = v := by
  rw [rd_T32_nat _ _ (by rw [List.length_set]; exact h), List.getElem_set_self]
def markVs (a : Int) (n : Nat) : List S32 := (List.range n).map fun i : Nat => ⟨a + 3 * (i : Int), a + 3 * (i : Int) + 1, mtext (a + 3 * (i : Int) + 2)⟩
theorem markVs_len (a : Int) (n : Nat) : (markVs a n).length = n := by simp [markVs]
theorem markVs_get (a : Int) (n i : Nat) (h : i < (markVs a n).length) : (markVs a n)[i] = ⟨a + 3 * (i : Int), a + 3 * (i : Int) + 1, mtext (a + 3 * (i : Int) + 2)⟩ := by simp [markVs]
theorem laws_markValS_l0 (n : Nat) (hn : n ≤ 4294967296) (a : Int) (ha : 0 ≤ a ∧ a ≤ 17179869184) : ∀ i, i ≤ n → ∀ xs : List S32, xs.length = n →
    Ev (fun k => laws_markValS.l0 k xs (a + 3 * (i : Int)) (i : Int)) (a + 3 * (n : Int), xs.take i ++ (markVs a n).drop i) := by
  refine up_ind n (fun i => ∀ xs : List S32, xs.length = n → Ev (fun k => laws_markValS.l0 k xs (a + 3 * (i : Int)) (i : Int)) (a + 3 * (n : Int), xs.take i ++ (markVs a n).drop i)) ?_ ?_
  · intro xs hx
    refine ev_succ ?_
    have h1 : ¬ ((n : Int) < (xs.length : Int)) := by omega
    simp only [laws_markValS.l0.eq_2, h1, if_false]
    rw [List.take_of_length_le (by omega), List.drop_eq_nil_of_le (by rw [markVs_len]; omega), List.append_nil]
    exact ev_some _
  · intro i hi ih xs hx
    refine ev_succ ?_
    have hix : i < xs.length := by omega
    have h1 : (i : Int) < (xs.length : Int) := by omega
    have h2 : (0 : Int) ≤ (i : Int) := by omega
    have w1 : wrap64 (a + 3 * (i : Int) + 1) = a + 3 * (i : Int) + 1 := w64 (by omega) (by omega)
    have w2 : wrap64 (a + 3 * (i : Int) + 1 + 1) = a + 3 * (i : Int) + 2 := by rw [w64 (by omega) (by omega)]; omega
    have w3 : wrap64 (a + 3 * (i : Int) + 2 + 1) = a + 3 * ((i + 1 : Nat) : Int) := by rw [w64 (by omega) (by omega)]; omega
    simp only [laws_markValS.l0.eq_2, h1, h2, if_true, Option.bind_some, Int.toNat_natCast, w1, w2, w3, wsucc (show i < 9223372036854775807 by omega), rd_set_T32, List.length_set, hix, List.set_set]
    refine Ev.bind (laws_markText_ev _ (by omega)) ?_
    have := ih (xs.set i ⟨a + 3 * (i : Int), a + 3 * (i : Int) + 1, mtext (a + 3 * (i : Int) + 2)⟩) (by simp [hx])
    rw [take_set_succ _ _ _ (by omega), List.append_assoc] at this
    rw [List.drop_eq_getElem_cons (by rw [markVs_len]; exact hi), markVs_get]
    exact this
theorem laws_markValS_ev (l : List S32) (a : Int) (ha : 0 ≤ a ∧ a ≤ 17179869184) (h : l.length ≤ 4294967296) : Ev (fun k => laws_markValS.f k l a) (a + 3 * (l.length : Int), markVs a l.length) := by
  unfold laws_markValS.f
  simpa using laws_markValS_l0 l.length h a ha 0 (by omega) l rfl
attribute [local irreducible] laws_markValS.f

--import B
--import K
theorem FnExactEncodeKey (l0 : List S24) (l1 : List S26)
    (hm0 : l0.length ≤ maxLen) (hw0 : ∀ p ∈ l0, (Lit.int .i64 p.f0).wf = true ∧ (Lit.int .i64 p.f1).wf = true) (hm1 : l1.length ≤ maxLen) (hw1 : ∀ p ∈ l1, (Lit.int .i64 p.f0).wf = true ∧ (Lit.int .i64 p.f1).wf = true ∧ p.f2.size ≤ maxLen) : ∃ k, laws_FnExactEncodeKey.f k l0 l1 = some true := by
  refine Ev.rounds ?_
  unfold laws_FnExactEncodeKey.f
  obtain ⟨r0, hr0, hq0, hz0⟩ := laws_szPartS_eq l0 1048576 hm0 (by omega) (by omega)
  simp only [hr0, Option.bind_some]
  by_cases hn0 : r0 < 0
  · simp only [hn0, if_true]; exact ev_some _
  simp only [hn0, if_false]
  have hl0 : l0.length ≤ 1048576 := by have := hz0 (by omega); omega
  obtain ⟨r1, hr1, hq1, hz1⟩ := laws_szValS_ev l1 r0 hm1 (fun v hv => (hw1 v hv).2.2) (by omega) (by omega)
  refine Ev.bind hr1 ?_
  by_cases hn1 : r1 < 0
  · simp only [hn1, if_true]; exact ev_some _
  simp only [hn1, if_false]
  have hl1 : l1.length ≤ 1048576 := hz1 (by omega)
  have hp : (l0.map cvP).length ≤ 1048576 := by rw [List.length_map]; exact hl0
  have hv : (l1.map cvV).length ≤ 1048576 := by rw [List.length_map]; exact hl1
  have hw : ∀ v ∈ l1.map cvV, -9223372036854775808 ≤ v.f1 ∧ v.f1 ≤ 9223372036854775807 := fun v hv => by
    obtain ⟨u, hu, rfl⟩ := List.mem_map.1 hv
    exact wf_i64 (hw1 u hu).2.1
  have eP := laws_toPartS_ev l0 hl0
  have eV := laws_toValS_ev l1 hl1
  generalize l0.map cvP = p at hp eP
  generalize l1.map cvV = v at hv eV hw
  have hR := encKey_len p v
  have eK := impl_EncodeKey_ev p v (by omega) (by omega) hw
  refine Ev.bind eP (Ev.bind eV (Ev.bind (spec_EncodeKey_ev p v (by omega) (by omega) hw) (Ev.bind eP (Ev.bind eV (Ev.bind eK ?_)))))
  refine Ev.bind (laws_eqByteS_ev _ (by omega)) ?_
  simp only [if_true]
  refine Ev.bind eP (Ev.bind (laws_eqPartS_ev _ (by omega)) ?_)
  simp only [if_true]
  refine Ev.bind eV (Ev.bind (laws_eqValS_ev _ (by omega)) ?_)
  simp only [if_true]
  obtain ⟨p', hmp⟩ := laws_markPartS_ev p 1 (by omega) (by omega)
  refine Ev.bind hmp ?_
  refine Ev.bind (laws_markValS_ev v (1 + 4 * (p.length : Int)) (by omega) (by omega)) ?_
  have m1 : ¬ ((1 : Int) + 4 * (p.length : Int) + 3 * (v.length : Int) < 0) := by omega
  simp only [m1, if_false]
  refine Ev.bind (laws_eqByteS_ev _ (by omega)) ?_
  refine ev_succ ?_
  simp only [laws_FnExactEncodeKey.j0.eq_2, Bool.not_true, Bool.false_eq_true, if_false]
  refine Ev.bind (laws_markByteS_ev _ 1 (by omega) (by omega)) ?_
  refine Ev.bind (laws_heldByteS_ev _ 1 (by omega) (by omega)) ?_
  have m2 : ¬ ((1 : Int) + ((encKey p v).length : Int) < 0) := by omega
  simp only [m2, if_false, if_true]
  refine Ev.bind eP (Ev.bind eV (Ev.bind eK (Ev.bind (laws_eqByteS_ev _ (by omega)) ?_)))
  simp only [if_true]
  refine Ev.bind (laws_heldByteS_ev _ 1 (by omega) (by omega)) ?_
  simp only [m2, if_false, if_true]
  exact ev_some _

end Go.Proofs.Ytnfmpopmigbkoaa.Pure

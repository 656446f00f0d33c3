/- Plain words and lemmas of this seat that this statement's pure text names (out of M, B, O, K by trim.py). No Go in sight. -/
import Derived.Test.YtnfmpopmigbkoaaV
import Derived.Laws.BitsAllLaws
import Derived.Laws.Bits128
import Derived.Lib.Bytes
namespace Go.Proofs.YtnfmpopmigbkoaaM
open Go.RowKit Go.Proofs.YtnfmpopmigbkoaaW.PrintWords
theorem w64 {x : Int} (h1 : -9223372036854775808 ≤ x) (h2 : x ≤ 9223372036854775807) : wrap64 x = x := by unfold wrap64; omega
theorem wsucc {i : Nat} (h : i < 9223372036854775807) : wrap64 ((i : Int) + 1) = ((i + 1 : Nat) : Int) := by unfold wrap64; omega
theorem ev_succ {α : Type} {g : Nat → Option α} {r : α} (h : Ev (fun k => g (k + 1)) r) : Ev g r := Ev.step (fun _ => rfl) h
theorem ev_some {α : Type} (r : α) : Ev (fun _ => some r) r := Ev.now r
theorem up_ind (n : Nat) (P : Nat → Prop) (hn : P n) (hs : ∀ i, i < n → P (i + 1) → P i) : ∀ i, i ≤ n → P i := by
  intro i hi
  obtain ⟨d, rfl⟩ : ∃ d, n = i + d := ⟨n - i, by omega⟩
  induction d generalizing i with
  | zero => exact hn
  | succ d ih => exact hs i (by omega) (ih (i + 1) (by rw [show i + 1 + d = i + (d + 1) by omega]; exact hn) (fun j hj => hs j (by omega)) (by omega))
theorem take_set_succ {α : Type} (xs : List α) (i : Nat) (v : α) (h : i < xs.length) : (xs.set i v).take (i + 1) = xs.take i ++ [v] := by
  rw [List.take_succ_eq_append_getElem (by simpa using h)]
  simp [List.take_set_of_le]
theorem rd_nat (xs : List Int) (i : Nat) (h : i < xs.length) : rd xs (i : Int) = xs[i] := by
  unfold rd; simp [List.getD_eq_getElem?_getD, h]
def inB (x lo hi : Int) : Bool := decide (lo ≤ x ∧ x ≤ hi)
theorem in_ite (x lo hi : Int) : (if x ≥ lo then some (decide (x ≤ hi)) else some false) = some (inB x lo hi) := by
  unfold inB
  split <;> rename_i h
  · by_cases h2 : x ≤ hi <;> simp [h2] <;> omega
  · simp; omega
def isE (s : ByteArray) : Bool := s.toList == ([] : List UInt8)
def valOkB (k n : Int) (s : ByteArray) : Bool :=
  if k = 0 then decide (n = 0) && isE s else if k = 1 then inB n (-2147483648) 2147483647 && isE s else if k = 2 then inB n (-1000000000000000) 1000000000000000 && isE s
  else if k = 3 then decide (n = 0) && decide ((s.size : Int) ≤ 30) else if k = 4 then inB n 0 1 && isE s else false
def partOkB (c t : Int) : Bool := inB c 0 9 && inB t 1 4
def fitsB (t : Int) (null : Bool) (k n : Int) (s : ByteArray) : Bool := valOkB k n s && (if k = 0 then null else decide (k = t))
def lessVB (k n : Int) (s : ByteArray) (k' n' : Int) (s' : ByteArray) : Bool :=
  if k = k' then (if n = n' then Op.bytesLess s.toList s'.toList else decide (n < n')) else decide (k < k')
def lessPB (desc : Bool) (k n : Int) (s : ByteArray) (k' n' : Int) (s' : ByteArray) : Bool := if desc = true then lessVB k' n' s' k n s else lessVB k n s k' n' s'
def sameVB (k n : Int) (s : ByteArray) (k' n' : Int) (s' : ByteArray) : Bool := k == k' && (n == n' && (s.toList == s'.toList))
end Go.Proofs.YtnfmpopmigbkoaaM
namespace Go.Proofs.YtnfmpopmigbkoaaM
set_option linter.unusedVariables false
set_option linter.unusedSimpArgs false
open Go.RowKit Go.Proofs.YtnfmpopmigbkoaaW.PrintWords Go.Proofs.YtnfmpopmigbkoaaW.PrintMore
def IsB (l : List Int) : Prop := ∀ x ∈ l, 0 ≤ x ∧ x ≤ 255
theorem IsB.get {l : List Int} (h : IsB l) (i : Nat) (hi : i < l.length) : 0 ≤ l[i] ∧ l[i] ≤ 255 := h _ (List.getElem_mem hi)
theorem IsB.append {a b : List Int} (ha : IsB a) (hb : IsB b) : IsB (a ++ b) := fun x hx => (List.mem_append.1 hx).elim (ha x) (hb x)
theorem IsB.nil : IsB [] := fun x hx => by cases hx
theorem IsB.cons {x : Int} {l : List Int} (h0 : 0 ≤ x) (h1 : x ≤ 255) (hl : IsB l) : IsB (x :: l) := fun y hy => by
  rcases List.mem_cons.1 hy with rfl | hy
  · exact ⟨h0, h1⟩
  · exact hl y hy
theorem IsB.take {l : List Int} (h : IsB l) (n : Nat) : IsB (l.take n) := fun x hx => h x (List.mem_of_mem_take hx)
theorem IsB.drop {l : List Int} (h : IsB l) (n : Nat) : IsB (l.drop n) := fun x hx => h x (List.mem_of_mem_drop hx)
theorem and255 (n : Int) : bits .and .i64 n 255 = n % 256 := by
  have h127 : (BitVec.ofInt 64 255).toNat = 2 ^ 8 - 1 := by decide
  have key : (BitVec.ofInt 64 n &&& BitVec.ofInt 64 255).toNat = (n % ((2 ^ 64 : Nat) : Int)).toNat % 2 ^ 8 := by
    rw [BitVec.toNat_and, BitVec.toNat_ofInt, h127, Nat.and_two_pow_sub_one_eq_mod]
  show IntKind.i64.wrap ((BitVec.ofInt 64 n &&& BitVec.ofInt 64 255).toNat : Nat) = n % 256
  rw [key, IntKind.wrap_i64]
  omega
theorem nxor255 : ∀ n : Fin 256, 255 ^^^ n.val = 255 - n.val := by decide +kernel
theorem xor255 (x : Int) (h0 : 0 ≤ x) (h1 : x ≤ 255) : bits .xor .u8 255 x = 255 - x := by
  rw [u8_xor 255 x (by omega) (by omega) h0 (by omega)]
  obtain ⟨n, rfl⟩ := Int.eq_ofNat_of_zero_le h0
  have := nxor255 ⟨n, by omega⟩
  simp only [Int.toNat_natCast]
  rw [show (255 : Int).toNat = 255 from rfl, this]
  simp only []
  omega
theorem xor0 (x : Int) (h0 : 0 ≤ x) (h1 : x ≤ 255) : bits .xor .u8 x 0 = x := by
  rw [u8_xor x 0 h0 (by omega) (by omega) (by omega)]
  simp; omega
theorem xor_255 (x : Int) (h0 : 0 ≤ x) (h1 : x ≤ 255) : bits .xor .u8 x 255 = 255 - x := by
  rw [← xor255 x h0 h1]
  simp only [bits, BitVec.xor_comm]
def clampN (n lo hi : Int) : Int := mx lo (mn n hi)
theorem clampN_spec (n lo hi : Int) (h : lo ≤ hi) : lo ≤ clampN n lo hi ∧ clampN n lo hi ≤ hi ∧ (lo ≤ n → n ≤ hi → clampN n lo hi = n) ∧ (n < lo → clampN n lo hi = lo) ∧ (hi < n → clampN n lo hi = hi) := by
  unfold clampN mx mn
  split <;> split <;> omega
theorem e0 : (128 : Int) ^ 0 = 1 := rfl
theorem e1 : (128 : Int) ^ (0 + 1) = 128 := rfl
theorem e2 : (128 : Int) ^ (0 + 1 + 1) = 16384 := rfl
def flipB (l : List Int) (p : Int) : List Int := l.take p.toNat ++ (l.drop p.toNat).map fun x => 255 - x
theorem flipB_len (l : List Int) (p : Int) : (flipB l p).length = l.length := by simp [flipB]; omega
theorem toList_strOfNums (l : List Int) : (strOfNums l).toList = l.map fun n => UInt8.ofNat n.toNat := by
  rw [ByteArray.toList_eq]; rfl
theorem u8_inj {x y : Int} (hx : 0 ≤ x ∧ x ≤ 255) (hy : 0 ≤ y ∧ y ≤ 255) : UInt8.ofNat x.toNat = UInt8.ofNat y.toNat ↔ x = y := by
  constructor
  · intro h
    have := congrArg UInt8.toNat h
    simp only [UInt8.toNat_ofNat'] at this
    omega
  · rintro rfl; rfl
theorem bytesOf_isB (s : ByteArray) : IsB (bytesOf s) := fun x hx => by
  obtain ⟨b, _, rfl⟩ := List.mem_map.1 hx
  have := b.toNat_lt
  omega
theorem bytesOf_len (s : ByteArray) : (bytesOf s).length = s.size := by
  unfold bytesOf
  rw [List.length_map, Array.length_toList]; rfl
theorem strOfNums_bytesOf (s : ByteArray) : strOfNums (bytesOf s) = s := by
  unfold bytesOf strOfNums
  rw [List.map_map]
  have : (s.data.toList.map ((fun n : Int => UInt8.ofNat n.toNat) ∘ fun b => (b.toNat : Int))) = s.data.toList := by
    conv => rhs; rw [← List.map_id s.data.toList]
    apply List.map_congr_left
    intro x _
    simp
  rw [this]
theorem str_eq_iff (s t : ByteArray) : s.toList = t.toList ↔ bytesOf s = bytesOf t := by
  rw [ByteArray.toList_eq, ByteArray.toList_eq]
  constructor
  · intro h; unfold bytesOf; rw [h]
  · intro h
    have := congrArg strOfNums h
    rw [strOfNums_bytesOf, strOfNums_bytesOf] at this
    rw [this]
theorem bt_get (s : ByteArray) (i : Nat) (h : i < s.size) : bt s (i : Int) = (bytesOf s)[i]'(by rw [bytesOf_len]; exact h) := by
  unfold bt bytesOf
  simp only [Int.toNat_natCast, h, dif_pos, List.getElem_map]
  rfl
def crcStep (x : Nat) : Nat := if x % 2 = 1 then x / 2 ^^^ 2197175160 else x / 2
def crcN : Nat → Nat → Nat
  | 0, x => x
  | j + 1, x => crcN j (crcStep x)
def crcByte (x b : Nat) : Nat := crcN 8 (x ^^^ b)
attribute [irreducible] crcByte
def escB : List Int → List Int
  | [] => [0, 1]
  | x :: l => if x = 0 then 0 :: 255 :: escB l else x :: escB l
theorem escB_len (l : List Int) : 2 ≤ (escB l).length ∧ (escB l).length ≤ 2 * l.length + 2 := by
  induction l with
  | nil => simp [escB]
  | cons x l ih =>
    rw [escB]
    split <;> simp only [List.length_cons] <;> omega
theorem escB_isB {l : List Int} (h : IsB l) : IsB (escB l) := by
  induction l with
  | nil => exact IsB.cons (by omega) (by omega) (IsB.cons (by omega) (by omega) IsB.nil)
  | cons x l ih =>
    have hx := h x (by simp)
    have hl := ih (fun y hy => h y (by simp [hy]))
    rw [escB]
    split
    · exact IsB.cons (by omega) (by omega) (IsB.cons (by omega) (by omega) hl)
    · exact IsB.cons hx.1 hx.2 hl
def getEB : List Int → Nat → List Int → Option (List Int × Nat)
  | _, _, [] => none
  | _, _, [x] => none
  | o, p, x :: y :: l => if x = 0 then (if y = 1 then some (o, p + 2) else if y = 255 then getEB (o ++ [0]) (p + 2) l else none) else getEB (o ++ [x]) (p + 1) (y :: l)
termination_by _ _ l => l.length
def getER : Option (List Int × Nat) → ByteArray × Int × Bool
  | some (o, p) => (strOfNums o, (p : Int), true)
  | none => ((⟨#[]⟩ : ByteArray), 0, false)
def getEsc (l : List Int) (p : Int) : ByteArray × Int × Bool := if 0 ≤ p then getER (getEB [] p.toNat (l.drop p.toNat)) else ((⟨#[]⟩ : ByteArray), 0, false)
theorem getEB_cons (o : List Int) (p : Nat) (x y : Int) (l : List Int) : getEB o p (x :: y :: l) = if x = 0 then (if y = 1 then some (o, p + 2) else if y = 255 then getEB (o ++ [0]) (p + 2) l else none) else getEB (o ++ [x]) (p + 1) (y :: l) := by
  rw [getEB]
theorem getEB_ne (o : List Int) (p : Nat) (x : Int) (l : List Int) (h : x ≠ 0) : getEB o p (x :: l) = getEB (o ++ [x]) (p + 1) l := by
  cases l with
  | nil => rw [getEB, getEB]
  | cons y l => rw [getEB_cons, if_neg h]
def fixB (n : Int) : List Int :=
  let m := clampN n (-2147483648) 2147483647 + 2147483648
  [m / 16777216 % 256, m / 65536 % 256, m / 256 % 256, m % 256]
theorem fixB_len (n : Int) : (fixB n).length = 4 := rfl
theorem fixB_isB (n : Int) : IsB (fixB n) := by
  unfold fixB
  exact IsB.cons (by omega) (by omega) (IsB.cons (by omega) (by omega) (IsB.cons (by omega) (by omega) (IsB.cons (by omega) (by omega) IsB.nil)))
def nB (n : Nat) : Nat := if h : n = 0 then 0 else nB (n / 256) + 1
termination_by n
decreasing_by omega
def beB (n : Nat) : Nat → List Int
  | 0 => []
  | k + 1 => ((n / 256 ^ k % 256 : Nat) : Int) :: beB n k
theorem beB_len (n k : Nat) : (beB n k).length = k := by induction k with
  | zero => rfl
  | succ k ih => rw [beB, List.length_cons, ih]
theorem beB_isB (n k : Nat) : IsB (beB n k) := by induction k with
  | zero => exact IsB.nil
  | succ k ih => rw [beB]; exact IsB.cons (by omega) (by omega) ih
theorem nB_zero : nB 0 = 0 := by rw [nB]; rfl
theorem nB_pos {n : Nat} (h : n ≠ 0) : nB n = nB (n / 256) + 1 := by rw [nB, dif_neg h]
theorem nB_le (n : Nat) (k : Nat) (h : n < 256 ^ k) : nB n ≤ k := by
  induction k generalizing n with
  | zero => rw [show n = 0 by simpa using h, nB_zero]; omega
  | succ k ih =>
    by_cases h0 : n = 0
    · rw [h0, nB_zero]; omega
    · rw [nB_pos h0]
      have := ih (n / 256) (by rw [Nat.pow_succ] at h; omega)
      omega
theorem nB_lt (n : Nat) : n < 256 ^ nB n := by
  induction n using Nat.strongRecOn with
  | _ n ih =>
    by_cases h0 : n = 0
    · rw [h0, nB_zero]; decide
    · rw [nB_pos h0, Nat.pow_succ]
      have := ih (n / 256) (by omega)
      omega
def varN (n : Int) : Int := clampN n (-1000000000000000) 1000000000000000
def varB (n : Int) : List Int :=
  let m := varN n
  if 0 ≤ m then (128 + (nB m.toNat : Int)) :: beB m.toNat (nB m.toNat) else (127 - (nB (-1 - m).toNat : Int)) :: (beB (-1 - m).toNat (nB (-1 - m).toNat)).map fun x => 255 - x
theorem varN_spec (n : Int) : -1000000000000000 ≤ varN n ∧ varN n ≤ 1000000000000000 := by
  have := clampN_spec n (-1000000000000000) 1000000000000000 (by omega)
  unfold varN; omega
theorem nB_7 {n : Nat} (h : n ≤ 1000000000000000) : nB n ≤ 7 := nB_le n 7 (by omega)
theorem varB_len (n : Int) : 1 ≤ (varB n).length ∧ (varB n).length ≤ 8 := by
  have h := varN_spec n
  have h1 := nB_7 (n := (varN n).toNat) (by omega)
  unfold varB
  simp only
  split
  · rw [List.length_cons, beB_len]; omega
  · have h2 := nB_7 (n := (-1 - varN n).toNat) (by omega)
    rw [List.length_cons, List.length_map, beB_len]; omega
theorem varB_isB (n : Int) : IsB (varB n) := by
  have h := varN_spec n
  unfold varB
  simp only
  split
  · have h1 := nB_7 (n := (varN n).toNat) (by omega)
    exact IsB.cons (by omega) (by omega) (beB_isB _ _)
  · have h2 := nB_7 (n := (-1 - varN n).toNat) (by omega)
    refine IsB.cons (by omega) (by omega) (fun x hx => ?_)
    obtain ⟨y, hy, rfl⟩ := List.mem_map.1 hx
    have := beB_isB _ _ y hy
    omega
def beN : Nat → List Int → Nat
  | x, [] => x
  | x, b :: l => beN (x * 256 + b.toNat) l
theorem beN_beB (n k x : Nat) : beN x (beB n k) = x * 256 ^ k + n % 256 ^ k := by
  induction k generalizing x with
  | zero => simp [beB, beN, Nat.mod_one]
  | succ k ih =>
    rw [beB, beN, ih]
    simp only [Int.toNat_natCast]
    rw [Nat.pow_succ, Nat.mul_comm (256 ^ k) 256, Nat.add_mul, Nat.mul_assoc, Nat.add_assoc]
    congr 1
    rw [Nat.mul_comm 256 (256 ^ k), Nat.mod_mul, Nat.mul_comm (256 ^ k)]
    omega
def readB (l : List Int) (p : Int) (c : Nat) (t : Bool) : Option Nat := if 0 ≤ p ∧ p + c ≤ l.length then some (beN 0 (((l.drop p.toNat).take c).map fun x => if t = true then 255 - x else x)) else none
theorem readB_pos {l : List Int} {p : Int} {c : Nat} {t : Bool} (h0 : 0 ≤ p) (h1 : p + c ≤ l.length) : readB l p c t = some (beN 0 (((l.drop p.toNat).take c).map fun x => if t = true then 255 - x else x)) := if_pos ⟨h0, h1⟩
def getFix (l : List Int) (p : Int) : Int × Int × Bool := match readB l p 4 false with
  | some n => ((n : Int) - 2147483648, p + 4, true)
  | none => (0, 0, false)
theorem beB_snoc (n k : Nat) : beB n (k + 1) = beB (n / 256) k ++ [((n % 256 : Nat) : Int)] := by
  induction k with
  | zero => simp [beB]
  | succ k ih =>
    rw [beB, ih, beB, List.cons_append, Nat.div_div_eq_div_mul, Nat.pow_succ, Nat.mul_comm 256]
def getVarR (p : Int) (c : Nat) (t : Bool) : Option Nat → Int × Int × Bool
  | none => (0, 0, false)
  | some n => if nB n = c ∧ inB (if t = true then -1 - (n : Int) else (n : Int)) (-1000000000000000) 1000000000000000 = true then ((if t = true then -1 - (n : Int) else (n : Int)), p + 1 + c, true) else (0, 0, false)
def getVar (l : List Int) (p : Int) : Int × Int × Bool :=
  if 0 ≤ p ∧ p < l.length then
    (if 128 ≤ rd l p ∧ rd l p ≤ 135 then getVarR p (rd l p - 128).toNat false (readB l (p + 1) (rd l p - 128).toNat false)
    else if 120 ≤ rd l p ∧ rd l p ≤ 127 then getVarR p (127 - rd l p).toNat true (readB l (p + 1) (127 - rd l p).toNat true) else (0, 0, false))
  else (0, 0, false)
theorem varB_length (n : Int) (h : inB n (-1000000000000000) 1000000000000000 = true) : (varB n).length = nB (if 0 ≤ n then n.toNat else (-1 - n).toNat) + 1 := by
  unfold inB at h
  have h' := of_decide_eq_true h
  have e : varN n = n := (clampN_spec n (-1000000000000000) 1000000000000000 (by omega)).2.2.1 h'.1 h'.2
  unfold varB
  simp only [e]
  split
  · rw [List.length_cons, beB_len]
  · rw [List.length_cons, List.length_map, beB_len]
end Go.Proofs.YtnfmpopmigbkoaaM
namespace Go.Proofs.YtnfmpopmigbkoaaM
set_option linter.unusedVariables false
set_option linter.unusedSimpArgs false
open Go.RowKit Go.Proofs.YtnfmpopmigbkoaaW.PrintWords Go.Proofs.YtnfmpopmigbkoaaW.PrintMore
def ltB : List Int → List Int → Bool
  | _, [] => false
  | [], _ :: _ => true
  | a :: x, b :: y => decide (a < b) || (decide (a = b) && ltB x y)
theorem ltB_nil_r (x : List Int) : ltB x [] = false := by cases x <;> rfl
theorem ltB_cons (a b : Int) (x y : List Int) : ltB (a :: x) (b :: y) = (decide (a < b) || (decide (a = b) && ltB x y)) := rfl
theorem u8_lt {x y : Int} (hx : 0 ≤ x ∧ x ≤ 255) (hy : 0 ≤ y ∧ y ≤ 255) : decide (UInt8.ofNat x.toNat < UInt8.ofNat y.toNat) = decide (x < y) := by
  apply decide_eq_decide.2
  rw [UInt8.lt_iff_toNat_lt]
  simp only [UInt8.toNat_ofNat']
  omega
theorem bytesLess_nums {a b : List Int} (ha : IsB a) (hb : IsB b) : Op.bytesLess (a.map fun n => UInt8.ofNat n.toNat) (b.map fun n => UInt8.ofNat n.toNat) = ltB a b := by
  induction a generalizing b with
  | nil => cases b <;> rfl
  | cons x a ih =>
    cases b with
    | nil => rfl
    | cons y b =>
      have hx := ha x (by simp)
      have hy := hb y (by simp)
      rw [List.map_cons, List.map_cons, Op.bytesLess, ltB_cons, ih (fun z hz => ha z (by simp [hz])) (fun z hz => hb z (by simp [hz])), u8_lt hx hy]
      congr 2
      rw [Bool.eq_iff_iff, beq_iff_eq, decide_eq_true_eq, u8_inj hx hy]
theorem bytesLess_str {a b : List Int} (ha : IsB a) (hb : IsB b) : Op.bytesLess (strOfNums a).toList (strOfNums b).toList = ltB a b := by
  rw [toList_strOfNums, toList_strOfNums, bytesLess_nums ha hb]
theorem bytesLess_bytesOf (s t : ByteArray) : Op.bytesLess s.toList t.toList = ltB (bytesOf s) (bytesOf t) := by
  rw [← bytesLess_str (bytesOf_isB s) (bytesOf_isB t), strOfNums_bytesOf, strOfNums_bytesOf]
def Lt (u w : List Int) : Prop := ∃ (p : List Int) (c d : Int) (u' w' : List Int), u = p ++ c :: u' ∧ w = p ++ d :: w' ∧ c < d
theorem Lt.append {u w : List Int} (h : Lt u w) (r s : List Int) : Lt (u ++ r) (w ++ s) := by
  obtain ⟨p, c, d, u', w', rfl, rfl, hcd⟩ := h
  exact ⟨p, c, d, u' ++ r, w' ++ s, by simp, by simp, hcd⟩
theorem Lt.left {u w : List Int} (h : Lt u w) (p : List Int) : Lt (p ++ u) (p ++ w) := by
  obtain ⟨q, c, d, u', w', rfl, rfl, hcd⟩ := h
  exact ⟨p ++ q, c, d, u', w', by simp, by simp, hcd⟩
theorem Lt.head {c d : Int} (h : c < d) (u w : List Int) : Lt (c :: u) (d :: w) := ⟨[], c, d, u, w, rfl, rfl, h⟩
theorem Lt.cons {u w : List Int} (h : Lt u w) (x : Int) : Lt (x :: u) (x :: w) := h.left [x]
theorem Lt.turn {u w : List Int} (h : Lt u w) : Lt (w.map fun x => 255 - x) (u.map fun x => 255 - x) := by
  obtain ⟨p, c, d, u', w', rfl, rfl, hcd⟩ := h
  exact ⟨p.map fun x => 255 - x, 255 - d, 255 - c, w'.map fun x => 255 - x, u'.map fun x => 255 - x, by simp, by simp, by omega⟩
theorem Lt.ltB {u w : List Int} (h : Lt u w) : ltB u w = true := by
  obtain ⟨p, c, d, u', w', rfl, rfl, hcd⟩ := h
  induction p with
  | nil => simp [Go.Proofs.YtnfmpopmigbkoaaM.ltB_cons, hcd]
  | cons x p ih => simp only [List.cons_append, Go.Proofs.YtnfmpopmigbkoaaM.ltB_cons, ih]; simp
theorem Lt.ltB' {u w : List Int} (h : Lt u w) : Go.Proofs.YtnfmpopmigbkoaaM.ltB w u = false := by
  obtain ⟨p, c, d, u', w', rfl, rfl, hcd⟩ := h
  induction p with
  | nil =>
    simp only [List.nil_append, Go.Proofs.YtnfmpopmigbkoaaM.ltB_cons]
    rw [decide_eq_false (by omega), decide_eq_false (by omega)]; rfl
  | cons x p ih => simp only [List.cons_append, Go.Proofs.YtnfmpopmigbkoaaM.ltB_cons, ih]; simp
theorem ltB_self (u : List Int) : ltB u u = false := by
  induction u with
  | nil => rfl
  | cons x u ih => rw [ltB_cons, ih]; simp
theorem ltB_cases (u w : List Int) (h : ltB u w = true) : (∃ v x, w = u ++ x :: v) ∨ Lt u w := by
  induction u generalizing w with
  | nil =>
    cases w with
    | nil => cases h
    | cons y w => exact .inl ⟨w, y, rfl⟩
  | cons x u ih =>
    cases w with
    | nil => rw [ltB_nil_r] at h; cases h
    | cons y w =>
      rw [ltB_cons] at h
      by_cases hxy : x < y
      · exact .inr (Lt.head hxy u w)
      · rw [decide_eq_false hxy, Bool.false_or, Bool.and_eq_true, decide_eq_true_eq] at h
        obtain ⟨rfl, h⟩ := h
        rcases ih w h with ⟨v, z, rfl⟩ | hl
        · exact .inl ⟨v, z, rfl⟩
        · exact .inr (hl.cons x)
theorem ltB_total (u w : List Int) (h : u ≠ w) : ltB u w = true ∨ ltB w u = true := by
  induction u generalizing w with
  | nil =>
    cases w with
    | nil => exact absurd rfl h
    | cons y w => exact .inl rfl
  | cons x u ih =>
    cases w with
    | nil => exact .inr rfl
    | cons y w =>
      rw [ltB_cons, ltB_cons]
      by_cases h1 : x < y
      · exact .inl (by simp [h1])
      · by_cases h2 : y < x
        · exact .inr (by simp [h2])
        · have : x = y := by omega
          subst this
          rcases ih w (fun e => h (by rw [e])) with h3 | h3
          · exact .inl (by simp [h3])
          · exact .inr (by simp [h3])
theorem ltB_asymm (u w : List Int) (h : ltB u w = true) : ltB w u = false := by
  rcases ltB_cases u w h with ⟨v, x, rfl⟩ | hl
  · clear h
    induction u with
    | nil => rfl
    | cons y u ih => rw [List.cons_append, ltB_cons, ih]; simp
  · exact hl.ltB'
theorem beB_lt (k : Nat) : ∀ a b : Nat, a % 256 ^ k < b % 256 ^ k → Lt (beB a k) (beB b k) := by
  induction k with
  | zero => intro a b h; simp [Nat.mod_one] at h
  | succ k ih =>
    intro a b h
    rw [beB, beB]
    rw [Nat.pow_succ, Nat.mod_mul, Nat.mod_mul] at h
    have ha : a % 256 ^ k < 256 ^ k := Nat.mod_lt _ (Nat.pow_pos (by omega))
    have hb : b % 256 ^ k < 256 ^ k := Nat.mod_lt _ (Nat.pow_pos (by omega))
    by_cases h1 : a / 256 ^ k % 256 < b / 256 ^ k % 256
    · exact Lt.head (by omega) _ _
    · by_cases h2 : a / 256 ^ k % 256 = b / 256 ^ k % 256
      · rw [h2] at h ⊢
        exact (ih a b (by omega)).cons _
      · exfalso
        have h3 : b / 256 ^ k % 256 + 1 ≤ a / 256 ^ k % 256 := by omega
        have h4 := Nat.mul_le_mul_left (256 ^ k) h3
        rw [Nat.mul_add, Nat.mul_one] at h4
        omega
theorem fixB_beB (n : Int) : fixB n = beB (clampN n (-2147483648) 2147483647 + 2147483648).toNat 4 := by
  have hc := clampN_spec n (-2147483648) 2147483647 (by omega)
  unfold fixB
  simp only [beB, List.cons.injEq, and_true, Nat.pow_zero, Nat.pow_one]
  omega
theorem fixB_lt {a b : Int} (h : clampN a (-2147483648) 2147483647 < clampN b (-2147483648) 2147483647) : Lt (fixB a) (fixB b) := by
  have ha := clampN_spec a (-2147483648) 2147483647 (by omega)
  have hb := clampN_spec b (-2147483648) 2147483647 (by omega)
  rw [fixB_beB, fixB_beB]
  apply beB_lt
  rw [Nat.mod_eq_of_lt (by omega), Nat.mod_eq_of_lt (by omega)]
  omega
theorem nB_mono {a b : Nat} (h : a ≤ b) : nB a ≤ nB b := nB_le a (nB b) (Nat.lt_of_le_of_lt h (nB_lt b))
theorem varB_lt {a b : Int} (h : varN a < varN b) : Lt (varB a) (varB b) := by
  have ha := varN_spec a
  have hb := varN_spec b
  unfold varB
  simp only
  by_cases h0 : 0 ≤ varN a
  · rw [if_pos h0, if_pos (by omega)]
    have hm := nB_mono (a := (varN a).toNat) (b := (varN b).toNat) (by omega)
    by_cases he : nB (varN a).toNat = nB (varN b).toNat
    · rw [he]
      refine Lt.cons (beB_lt _ _ _ ?_) _
      rw [Nat.mod_eq_of_lt (by rw [← he]; exact nB_lt _), Nat.mod_eq_of_lt (nB_lt _)]
      omega
    · exact Lt.head (by omega) _ _
  · rw [if_neg h0]
    by_cases h1 : 0 ≤ varN b
    · rw [if_pos h1]
      exact Lt.head (by omega) _ _
    · rw [if_neg h1]
      have hm := nB_mono (a := (-1 - varN b).toNat) (b := (-1 - varN a).toNat) (by omega)
      by_cases he : nB (-1 - varN a).toNat = nB (-1 - varN b).toNat
      · rw [he]
        refine Lt.cons (Lt.turn (beB_lt _ _ _ ?_)) _
        rw [Nat.mod_eq_of_lt (nB_lt _), Nat.mod_eq_of_lt (by rw [← he]; exact nB_lt _)]
        omega
      · exact Lt.head (by omega) _ _
theorem escB_lt {u w : List Int} (hu : IsB u) (hw : IsB w) (h : ltB u w = true) : Lt (escB u) (escB w) := by
  induction u generalizing w with
  | nil =>
    cases w with
    | nil => cases h
    | cons y w =>
      rw [escB, escB]
      have hy := hw y (by simp)
      by_cases h0 : y = 0
      · rw [if_pos h0]
        exact (Lt.head (by omega) _ _).cons 0
      · rw [if_neg h0]
        exact Lt.head (by omega) _ _
  | cons x u ih =>
    cases w with
    | nil => rw [ltB_nil_r] at h; cases h
    | cons y w =>
      have hx := hu x (by simp)
      have hy := hw y (by simp)
      rw [ltB_cons] at h
      rw [escB, escB]
      by_cases hxy : x < y
      · rw [if_neg (show ¬ y = 0 by omega)]
        by_cases h0 : x = 0
        · rw [if_pos h0]; exact Lt.head (by omega) _ _
        · rw [if_neg h0]; exact Lt.head hxy _ _
      · rw [decide_eq_false hxy, Bool.false_or, Bool.and_eq_true, decide_eq_true_eq] at h
        obtain ⟨rfl, h⟩ := h
        have := ih (fun z hz => hu z (by simp [hz])) (fun z hz => hw z (by simp [hz])) h
        by_cases h0 : x = 0
        · rw [if_pos h0, if_pos h0]; exact (this.cons 255).cons 0
        · rw [if_neg h0, if_neg h0]; exact this.cons x
end Go.Proofs.YtnfmpopmigbkoaaM
namespace Go.Proofs.YtnfmpopmigbkoaaM
set_option linter.unusedVariables false
set_option linter.unusedSimpArgs false
open Go.RowKit Go.Proofs.YtnfmpopmigbkoaaW.PrintWords Go.Proofs.YtnfmpopmigbkoaaW.PrintMore
theorem getFix_fixB (b r : List Int) (n : Int) (hb : IsB b) (hr : IsB r) : getFix (b ++ fixB n ++ r) (b.length : Int) = (clampN n (-2147483648) 2147483647, (b.length : Int) + 4, true) := by
  have hc := clampN_spec n (-2147483648) 2147483647 (by omega)
  have h1 : (b.length : Int) + (4 : Nat) ≤ (b ++ fixB n ++ r).length := by simp only [List.length_append, fixB_len]; omega
  have e : ((b ++ fixB n ++ r).drop (b.length : Int).toNat).take 4 = fixB n := by
    rw [Int.toNat_natCast, List.append_assoc, List.drop_left]
    exact List.take_left' (by rw [fixB_len])
  unfold getFix
  rw [readB_pos (by omega) h1, e]
  simp only [Bool.false_eq_true, if_false, List.map_id']
  rw [fixB_beB, beN_beB]
  simp only [Prod.mk.injEq, and_true]
  rw [Nat.mod_eq_of_lt (by omega)]
  omega
theorem varB_clamp (n : Int) : varB (varN n) = varB n := by
  have hc := varN_spec n
  have hc2 : varN (varN n) = varN n := (clampN_spec (varN n) (-1000000000000000) 1000000000000000 (by omega)).2.2.1 hc.1 hc.2
  unfold varB
  rw [hc2]
theorem map_turn_turn (l : List Int) : ((l.map fun x => 255 - x).map fun x => if true = true then 255 - x else x) = l := by
  rw [List.map_map]
  conv => rhs; rw [← List.map_id l]
  apply List.map_congr_left
  intro x _
  simp only [Function.comp, if_true, id]
  omega
theorem getVar_varB (b r : List Int) (n : Int) : getVar (b ++ varB n ++ r) (b.length : Int) = (varN n, ((b ++ varB n).length : Int), true) := by
  have hn := varN_spec n
  have hlen := varB_len n
  have hin : inB (varN n) (-1000000000000000) 1000000000000000 = true := decide_eq_true hn
  have hlv := varB_length (varN n) hin
  rw [varB_clamp] at hlv
  have hp : (0 : Int) ≤ (b.length : Int) ∧ (b.length : Int) < ((b ++ varB n ++ r).length : Int) := by simp only [List.length_append]; omega
  unfold getVar
  rw [if_pos hp]
  have hrd : ∀ (x : Int) (u : List Int), varB n = x :: u → rd (b ++ varB n ++ r) (b.length : Int) = x := by
    intro x u hu
    rw [rd_nat _ _ (by simp only [List.length_append]; omega)]
    simp only [List.append_assoc, hu]
    rw [List.getElem_append_right (Nat.le_refl _)]
    simp
  have htk : ∀ (x : Int) (u : List Int), varB n = x :: u → ((b ++ varB n ++ r).drop ((b.length : Int) + 1).toNat).take u.length = u := by
    intro x u hu
    rw [show ((b.length : Int) + 1).toNat = b.length + 1 by omega, List.append_assoc, hu, List.drop_append]
    simp
    rw [List.drop_eq_nil_of_le (show b.length ≤ b.length + 1 by omega), List.nil_append, List.take_left]
  by_cases h0 : 0 ≤ varN n
  · have hv : varB n = (128 + (nB (varN n).toNat : Int)) :: beB (varN n).toNat (nB (varN n).toNat) := by unfold varB; simp only; rw [if_pos h0]
    have h7 := nB_7 (n := (varN n).toNat) (by omega)
    rw [hrd _ _ hv, if_pos (by omega)]
    have e : (128 + (nB (varN n).toNat : Int) - 128).toNat = nB (varN n).toNat := by omega
    rw [e]
    have ht := htk _ _ hv
    rw [beB_len] at ht
    rw [readB_pos (by omega) (by simp only [List.length_append, hv, List.length_cons, beB_len]; omega), ht]
    simp only [Bool.false_eq_true, if_false, List.map_id']
    rw [beN_beB, Nat.zero_mul, Nat.zero_add, Nat.mod_eq_of_lt (nB_lt _)]
    have e2 : (((varN n).toNat : Nat) : Int) = varN n := by omega
    simp only [getVarR, Bool.false_eq_true, if_false, e2, hin, and_self, if_true, Prod.mk.injEq, true_and, and_true]
    simp only [List.length_append, hv, List.length_cons, beB_len]
    omega
  · have hv : varB n = (127 - (nB (-1 - varN n).toNat : Int)) :: (beB (-1 - varN n).toNat (nB (-1 - varN n).toNat)).map fun x => 255 - x := by unfold varB; simp only; rw [if_neg h0]
    have h7 := nB_7 (n := (-1 - varN n).toNat) (by omega)
    rw [hrd _ _ hv, if_neg (by omega), if_pos (by omega)]
    have e : (127 - (127 - (nB (-1 - varN n).toNat : Int))).toNat = nB (-1 - varN n).toNat := by omega
    rw [e]
    have ht := htk _ _ hv
    rw [List.length_map, beB_len] at ht
    rw [readB_pos (by omega) (by simp only [List.length_append, hv, List.length_cons, List.length_map, beB_len]; omega), ht, map_turn_turn]
    rw [beN_beB, Nat.zero_mul, Nat.zero_add, Nat.mod_eq_of_lt (nB_lt _)]
    have e2 : -1 - (((-1 - varN n).toNat : Nat) : Int) = varN n := by omega
    simp only [getVarR, if_true, e2, hin, and_self, Prod.mk.injEq, true_and, and_true]
    simp only [List.length_append, hv, List.length_cons, List.length_map, beB_len]
    omega
theorem getEB_escB (s r : List Int) : ∀ (o : List Int) (p : Nat), getEB o p (escB s ++ r) = some (o ++ s, p + (escB s).length) := by
  induction s with
  | nil =>
    intro o p
    rw [escB, List.cons_append, List.cons_append, getEB_cons, if_pos rfl, if_pos rfl, List.append_nil]
    rfl
  | cons x s ih =>
    intro o p
    rw [escB]
    by_cases h : x = 0
    · rw [if_pos h, List.cons_append, List.cons_append, getEB_cons, if_pos rfl, if_neg (by decide), if_pos rfl, ih, h]
      simp only [List.append_assoc, List.cons_append, List.nil_append, List.length_cons, Option.some.injEq, Prod.mk.injEq, true_and]
      omega
    · rw [if_neg h, List.cons_append, getEB_ne _ _ _ _ h, ih]
      simp only [List.append_assoc, List.cons_append, List.nil_append, List.length_cons, Option.some.injEq, Prod.mk.injEq, true_and]
      omega
theorem getEsc_escB (b s r : List Int) : getEsc (b ++ escB s ++ r) (b.length : Int) = (strOfNums s, ((b ++ escB s).length : Int), true) := by
  unfold getEsc
  rw [if_pos (by omega), Int.toNat_natCast, List.append_assoc, List.drop_left, getEB_escB]
  simp only [getER, List.nil_append, List.length_append]
def valB (k n : Int) (s : ByteArray) : List Int := if k = 1 then fixB n else if k = 2 then varB n else if k = 3 then escB (bytesOf s) else if k = 4 then [n % 256] else []
def headB (null : Bool) (k : Int) : List Int := if null = true then (if k = 0 then [0] else [1]) else []
def turnL (l : List Int) : List Int := l.map fun x => 255 - x
def turnB (desc : Bool) (l : List Int) : List Int := if desc = true then turnL l else l
def bareB (null : Bool) (k n : Int) (s : ByteArray) : List Int := headB null k ++ valB k n s
def partB (null desc : Bool) (k n : Int) (s : ByteArray) : List Int := turnB desc (bareB null k n s)
def okPV (c t : Int) (null : Bool) (k n : Int) (s : ByteArray) : Bool := partOkB c t && fitsB t null k n s
def putPart (c t : Int) (null desc : Bool) (k n : Int) (s : ByteArray) : List Int := if okPV c t null k n s = true then partB null desc k n s else []
theorem turnL_isB {l : List Int} (h : IsB l) : IsB (turnL l) := fun x hx => by
  obtain ⟨y, hy, rfl⟩ := List.mem_map.1 hx
  have := h y hy
  omega
theorem turnL_turnL (l : List Int) : turnL (turnL l) = l := by
  unfold turnL
  rw [List.map_map]
  have : ((fun x : Int => 255 - x) ∘ fun x => 255 - x) = id := by funext x; simp only [Function.comp, id]; omega
  rw [this, List.map_id]
theorem turnL_len (l : List Int) : (turnL l).length = l.length := by simp [turnL]
theorem turnL_append (a b : List Int) : turnL (a ++ b) = turnL a ++ turnL b := by simp [turnL]
theorem turnB_len (d : Bool) (l : List Int) : (turnB d l).length = l.length := by unfold turnB; split <;> simp [turnL]
theorem turnB_isB (d : Bool) {l : List Int} (h : IsB l) : IsB (turnB d l) := by
  cases d
  · exact h
  · exact turnL_isB h
theorem valB_isB (k n : Int) (s : ByteArray) : IsB (valB k n s) := by
  unfold valB
  split
  · exact fixB_isB n
  split
  · exact varB_isB n
  split
  · exact escB_isB (bytesOf_isB s)
  split
  · exact IsB.cons (by omega) (by omega) IsB.nil
  · exact IsB.nil
theorem headB_isB (null : Bool) (k : Int) : IsB (headB null k) := by
  unfold headB
  split
  · split
    · exact IsB.cons (by omega) (by omega) IsB.nil
    · exact IsB.cons (by omega) (by omega) IsB.nil
  · exact IsB.nil
theorem partB_isB (null desc : Bool) (k n : Int) (s : ByteArray) : IsB (partB null desc k n s) := turnB_isB desc ((headB_isB null k).append (valB_isB k n s))
theorem isE_bytes {s : ByteArray} (h : isE s = true) : s = ⟨#[]⟩ := by
  have h1 : s.toList = [] := by unfold isE at h; exact eq_of_beq h
  have h2 : bytesOf s = [] := by
    have := (str_eq_iff s ⟨#[]⟩).1 (by rw [h1, ByteArray.toList_eq])
    rw [this]
    apply List.eq_nil_of_length_eq_zero
    rw [bytesOf_len]; rfl
  rw [← strOfNums_bytesOf s, h2]; rfl
theorem fits_cases {t : Int} {null : Bool} {k n : Int} {s : ByteArray} (h : fitsB t null k n s = true) (ht : 1 ≤ t ∧ t ≤ 4) :
    (null = true ∧ k = 0 ∧ n = 0 ∧ s = ⟨#[]⟩) ∨ (k = t ∧ ((k = 1 ∧ -2147483648 ≤ n ∧ n ≤ 2147483647 ∧ s = ⟨#[]⟩) ∨ (k = 2 ∧ -1000000000000000 ≤ n ∧ n ≤ 1000000000000000 ∧ s = ⟨#[]⟩) ∨ (k = 3 ∧ n = 0 ∧ s.size ≤ 30) ∨ (k = 4 ∧ 0 ≤ n ∧ n ≤ 1 ∧ s = ⟨#[]⟩))) := by
  unfold fitsB at h
  rw [Bool.and_eq_true] at h
  obtain ⟨h1, h2⟩ := h
  unfold valOkB at h1
  by_cases k0 : k = 0
  · rw [if_pos k0] at h1 h2
    rw [Bool.and_eq_true] at h1
    exact .inl ⟨h2, k0, of_decide_eq_true h1.1, isE_bytes h1.2⟩
  rw [if_neg k0] at h1 h2
  have hk := of_decide_eq_true h2
  refine .inr ⟨hk, ?_⟩
  by_cases k1 : k = 1
  · rw [if_pos k1, Bool.and_eq_true] at h1
    have := of_decide_eq_true h1.1
    exact .inl ⟨k1, this.1, this.2, isE_bytes h1.2⟩
  rw [if_neg k1] at h1
  by_cases k2 : k = 2
  · rw [if_pos k2, Bool.and_eq_true] at h1
    have := of_decide_eq_true h1.1
    exact .inr (.inl ⟨k2, this.1, this.2, isE_bytes h1.2⟩)
  rw [if_neg k2] at h1
  by_cases k3 : k = 3
  · rw [if_pos k3, Bool.and_eq_true] at h1
    have := of_decide_eq_true h1.1
    have h4 := of_decide_eq_true h1.2
    exact .inr (.inr (.inl ⟨k3, this, by omega⟩))
  rw [if_neg k3] at h1
  have k4 : k = 4 := by omega
  rw [if_pos k4, Bool.and_eq_true] at h1
  have := of_decide_eq_true h1.1
  exact .inr (.inr (.inr ⟨k4, this.1, this.2, isE_bytes h1.2⟩))
theorem partOk_t {c t : Int} (h : partOkB c t = true) : 1 ≤ t ∧ t ≤ 4 := by
  unfold partOkB at h
  rw [Bool.and_eq_true] at h
  exact of_decide_eq_true h.2
theorem valB_len (k n : Int) (s : ByteArray) (h : s.size ≤ 30) : (valB k n s).length ≤ 62 := by
  unfold valB
  split
  · rw [fixB_len]; omega
  split
  · have := varB_len n; omega
  split
  · have := escB_len (bytesOf s); rw [bytesOf_len] at this; omega
  split <;> simp
theorem bareB_len (null : Bool) (k n : Int) (s : ByteArray) (h : s.size ≤ 30) : (bareB null k n s).length ≤ 63 := by
  have := valB_len k n s h
  unfold bareB headB
  rw [List.length_append]
  split
  · split <;> simp only [List.length_cons, List.length_nil] <;> omega
  · simp only [List.length_nil]; omega
theorem okPV_size {c t : Int} {null : Bool} {k n : Int} {s : ByteArray} (h : okPV c t null k n s = true) : s.size ≤ 30 := by
  unfold okPV at h
  rw [Bool.and_eq_true] at h
  rcases fits_cases h.2 (partOk_t h.1) with ⟨_, _, _, rfl⟩ | ⟨_, ⟨_, _, _, rfl⟩ | ⟨_, _, _, rfl⟩ | ⟨_, _, h⟩ | ⟨_, _, _, rfl⟩⟩
  · decide
  · decide
  · decide
  · exact h
  · decide
theorem putPart_len (c t : Int) (null desc : Bool) (k n : Int) (s : ByteArray) : (putPart c t null desc k n s).length ≤ 63 := by
  unfold putPart
  split
  · rename_i h
    unfold partB
    rw [turnB_len]
    exact bareB_len null k n s (okPV_size h)
  · simp
theorem putPart_isB (c t : Int) (null desc : Bool) (k n : Int) (s : ByteArray) : IsB (putPart c t null desc k n s) := by
  unfold putPart
  split
  · exact partB_isB _ _ _ _ _
  · exact IsB.nil
theorem valB_pos {k n : Int} {s : ByteArray} (h : 1 ≤ k ∧ k ≤ 4) : 1 ≤ (valB k n s).length := by
  unfold valB
  split
  · rw [fixB_len]; omega
  split
  · have := varB_len n; omega
  split
  · have := escB_len (bytesOf s); omega
  split
  · simp
  · omega
theorem bareB_pos {c t : Int} {null : Bool} {k n : Int} {s : ByteArray} (h : okPV c t null k n s = true) : 1 ≤ (bareB null k n s).length := by
  unfold okPV at h
  rw [Bool.and_eq_true] at h
  have ht := partOk_t h.1
  unfold bareB
  rw [List.length_append]
  rcases fits_cases h.2 ht with ⟨rfl, rfl, _, _⟩ | ⟨hk, _⟩
  · unfold headB; simp
  · have := valB_pos (k := k) (n := n) (s := s) (by omega); omega
theorem flipB_at (b x : List Int) : flipB (b ++ x) (b.length : Int) = b ++ turnL x := by
  unfold flipB turnL
  rw [Int.toNat_natCast, List.take_left, List.drop_left]
def getTyped (l : List Int) (t p : Int) : Int × Int × ByteArray × Int × Bool :=
  if t = 1 then (t, (getFix l p).1, ⟨#[]⟩, (getFix l p).2.1, (getFix l p).2.2)
  else if t = 2 then (t, (getVar l p).1, ⟨#[]⟩, (getVar l p).2.1, (getVar l p).2.2)
  else if t = 3 then (t, 0, (getEsc l p).1, (getEsc l p).2.1, (getEsc l p).2.2)
  else if t = 4 then (if 0 ≤ p ∧ p < l.length then (t, rd l p, ⟨#[]⟩, p + 1, true) else (t, 0, ⟨#[]⟩, 0, false))
  else (t, 0, ⟨#[]⟩, 0, false)
def noPart : Int × Int × ByteArray × Int × Bool := (0, 0, ⟨#[]⟩, 0, false)
def fitR (t : Int) (null : Bool) (r : Int × Int × ByteArray × Int × Bool) : Int × Int × ByteArray × Int × Bool :=
  if r.2.2.2.2 = true ∧ fitsB t null r.1 r.2.1 r.2.2.1 = true then r else noPart
def getBare (l : List Int) (t : Int) (null : Bool) (p : Int) : Int × Int × ByteArray × Int × Bool :=
  if null = true then (if rd l p = 0 then (0, 0, ⟨#[]⟩, p + 1, true) else if rd l p = 1 then fitR t null (getTyped l t (p + 1)) else noPart) else fitR t null (getTyped l t p)
def getPart (l : List Int) (c t : Int) (null desc : Bool) (p : Int) : Int × Int × ByteArray × Int × Bool :=
  if partOkB c t = true ∧ 0 ≤ p ∧ p < l.length then getBare (if desc = true then flipB l p else l) t null p else noPart
theorem rd_append (b : List Int) (x : Int) (r : List Int) : rd (b ++ x :: r) (b.length : Int) = x := by
  rw [rd_nat _ _ (by simp only [List.length_append, List.length_cons]; omega)]
  simp
theorem getTyped_valB (b r : List Int) (hb : IsB b) (hr : IsB r) {t : Int} {null : Bool} {k n : Int} {s : ByteArray} (h : fitsB t null k n s = true) (ht : 1 ≤ t ∧ t ≤ 4) (hk : k = t) :
    getTyped (b ++ valB k n s ++ r) t (b.length : Int) = (k, n, s, ((b ++ valB k n s).length : Int), true) := by
  rcases fits_cases h ht with ⟨_, h0, _, _⟩ | ⟨_, h1⟩
  · omega
  rcases h1 with ⟨h1, n0, n1, rfl⟩ | ⟨h1, n0, n1, rfl⟩ | ⟨h1, rfl, _⟩ | ⟨h1, n0, n1, rfl⟩
  · have e := (clampN_spec n (-2147483648) 2147483647 (by omega)).2.2.1 n0 n1
    subst hk; subst h1
    simp only [getTyped, valB, if_true]
    rw [getFix_fixB b r n hb hr, e]
    simp only [List.length_append, fixB_len, Int.natCast_add]
    rfl
  · have e : varN n = n := (clampN_spec n (-1000000000000000) 1000000000000000 (by omega)).2.2.1 n0 n1
    subst hk; subst h1
    simp only [getTyped, valB, if_true, show ¬ ((2 : Int) = 1) by decide, if_false]
    rw [getVar_varB b r n, e]
  · subst hk; subst h1
    simp only [getTyped, valB, if_true, show ¬ ((3 : Int) = 1) by decide, show ¬ ((3 : Int) = 2) by decide, if_false]
    rw [getEsc_escB b (bytesOf s) r, strOfNums_bytesOf]
  · subst hk; subst h1
    simp only [getTyped, valB, if_true, show ¬ ((4 : Int) = 1) by decide, show ¬ ((4 : Int) = 2) by decide, show ¬ ((4 : Int) = 3) by decide, if_false]
    rw [if_pos (by simp only [List.length_append, List.length_cons, List.length_nil]; omega)]
    have e : n % 256 = n := by omega
    rw [e, List.append_assoc, List.singleton_append, rd_append]
    simp only [List.length_append, List.length_cons, List.length_nil]
    simp
theorem fitR_ok {t : Int} {null : Bool} {k n : Int} {s : ByteArray} {q : Int} (h : fitsB t null k n s = true) : fitR t null (k, n, s, q, true) = (k, n, s, q, true) := by
  unfold fitR; rw [if_pos ⟨rfl, h⟩]
theorem getBare_bareB (b r : List Int) (hb : IsB b) (hr : IsB r) {t : Int} {null : Bool} {k n : Int} {s : ByteArray} (h : fitsB t null k n s = true) (ht : 1 ≤ t ∧ t ≤ 4) :
    getBare (b ++ bareB null k n s ++ r) t null (b.length : Int) = (k, n, s, ((b ++ bareB null k n s).length : Int), true) := by
  unfold getBare bareB
  cases hn : null with
  | false =>
    subst hn
    have hk : k = t := by
      rcases fits_cases h ht with ⟨h0, _⟩ | ⟨h1, _⟩
      · cases h0
      · exact h1
    simp only [headB, Bool.false_eq_true, if_false, List.nil_append]
    rw [getTyped_valB b r hb hr h ht hk, fitR_ok h]
  | true =>
    subst hn
    by_cases hk : k = 0
    · obtain ⟨_, _, rfl, rfl⟩ | ⟨h1, _⟩ := fits_cases h ht
      · subst hk
        simp only [headB, if_true, valB, show ¬ ((0 : Int) = 1) by decide, show ¬ ((0 : Int) = 2) by decide, show ¬ ((0 : Int) = 3) by decide, show ¬ ((0 : Int) = 4) by decide, if_false, List.append_nil]
        rw [List.append_assoc, List.singleton_append, rd_append]
        simp
      · omega
    · have hk2 : k = t := by
        rcases fits_cases h ht with ⟨_, h0, _⟩ | ⟨h1, _⟩
        · exact absurd h0 hk
        · exact h1
      simp only [headB, if_true, hk, if_false]
      have e1 : rd (b ++ ([1] ++ valB k n s) ++ r) (b.length : Int) = 1 := by
        rw [List.append_assoc, List.append_assoc, List.singleton_append, rd_append]
      rw [e1, if_neg (by decide), if_pos rfl]
      have e2 := getTyped_valB (b ++ [1]) r (hb.append (IsB.cons (by omega) (by omega) IsB.nil)) hr h ht hk2
      have e3 : ((b ++ [1]).length : Int) = (b.length : Int) + 1 := by simp
      rw [e3] at e2
      rw [← List.append_assoc b [1], e2, fitR_ok h]
theorem getPart_putPart (b r : List Int) (hb : IsB b) (hr : IsB r) {c t : Int} {null desc : Bool} {k n : Int} {s : ByteArray} (h : okPV c t null k n s = true) :
    getPart (b ++ putPart c t null desc k n s ++ r) c t null desc (b.length : Int) = (k, n, s, ((b ++ putPart c t null desc k n s).length : Int), true) := by
  have h' := h
  unfold okPV at h'
  rw [Bool.and_eq_true] at h'
  have ht := partOk_t h'.1
  have hpos := bareB_pos h
  have e : putPart c t null desc k n s = turnB desc (bareB null k n s) := by unfold putPart partB; rw [if_pos h]
  unfold getPart
  rw [if_pos ⟨h'.1, by omega, by rw [e]; simp only [List.length_append, turnB_len]; omega⟩, e]
  cases desc with
  | false =>
    simp only [Bool.false_eq_true, if_false, turnB]
    exact getBare_bareB b r hb hr h'.2 ht
  | true =>
    simp only [if_true, turnB]
    rw [List.append_assoc, flipB_at, turnL_append, turnL_turnL, ← List.append_assoc, getBare_bareB b (turnL r) hb (turnL_isB hr) h'.2 ht]
    simp only [List.length_append, turnL_len]
end Go.Proofs.YtnfmpopmigbkoaaM

/- Plain words and lemmas of this seat that this statement's pure text names (out of M, B, O, K by trim.py). No Go in sight. -/
import Derived.Test.YtnfmpopmigbkoaaV
import Derived.Laws.BitsAllLaws
import Derived.Laws.Bits128
import Derived.Lib.Bytes
namespace Go.Proofs.YtnfmpopmigbkoaaM
open Go.RowKit Go.Proofs.YtnfmpopmigbkoaaW.PrintWords
theorem w64 {x : Int} (h1 : -9223372036854775808 ≤ x) (h2 : x ≤ 9223372036854775807) : wrap64 x = x := by unfold wrap64; omega
theorem wsucc {i : Nat} (h : i < 9223372036854775807) : wrap64 ((i : Int) + 1) = ((i + 1 : Nat) : Int) := by unfold wrap64; omega
theorem ev_succ {α : Type} {g : Nat → Option α} {r : α} (h : Ev (fun k => g (k + 1)) r) : Ev g r := Ev.step (fun _ => rfl) h
theorem ev_some {α : Type} (r : α) : Ev (fun _ => some r) r := Ev.now r
theorem up_ind (n : Nat) (P : Nat → Prop) (hn : P n) (hs : ∀ i, i < n → P (i + 1) → P i) : ∀ i, i ≤ n → P i := by
  intro i hi
  obtain ⟨d, rfl⟩ : ∃ d, n = i + d := ⟨n - i, by omega⟩
  induction d generalizing i with
  | zero => exact hn
  | succ d ih => exact hs i (by omega) (ih (i + 1) (by rw [show i + 1 + d = i + (d + 1) by omega]; exact hn) (fun j hj => hs j (by omega)) (by omega))
theorem take_set_succ {α : Type} (xs : List α) (i : Nat) (v : α) (h : i < xs.length) : (xs.set i v).take (i + 1) = xs.take i ++ [v] := by
  rw [List.take_succ_eq_append_getElem (by simpa using h)]
  simp [List.take_set_of_le]
theorem rd_nat (xs : List Int) (i : Nat) (h : i < xs.length) : rd xs (i : Int) = xs[i] := by
  unfold rd; simp [List.getD_eq_getElem?_getD, h]
def inB (x lo hi : Int) : Bool := decide (lo ≤ x ∧ x ≤ hi)
theorem in_ite (x lo hi : Int) : (if x ≥ lo then some (decide (x ≤ hi)) else some false) = some (inB x lo hi) := by
  unfold inB
  split <;> rename_i h
  · by_cases h2 : x ≤ hi <;> simp [h2] <;> omega
  · simp; omega
def isE (s : ByteArray) : Bool := s.toList == ([] : List UInt8)
def valOkB (k n : Int) (s : ByteArray) : Bool :=
  if k = 0 then decide (n = 0) && isE s else if k = 1 then inB n (-2147483648) 2147483647 && isE s else if k = 2 then inB n (-1000000000000000) 1000000000000000 && isE s
  else if k = 3 then decide (n = 0) && decide ((s.size : Int) ≤ 30) else if k = 4 then inB n 0 1 && isE s else false
def partOkB (c t : Int) : Bool := inB c 0 9 && inB t 1 4
def fitsB (t : Int) (null : Bool) (k n : Int) (s : ByteArray) : Bool := valOkB k n s && (if k = 0 then null else decide (k = t))
def lessVB (k n : Int) (s : ByteArray) (k' n' : Int) (s' : ByteArray) : Bool :=
  if k = k' then (if n = n' then Op.bytesLess s.toList s'.toList else decide (n < n')) else decide (k < k')
def lessPB (desc : Bool) (k n : Int) (s : ByteArray) (k' n' : Int) (s' : ByteArray) : Bool := if desc = true then lessVB k' n' s' k n s else lessVB k n s k' n' s'
end Go.Proofs.YtnfmpopmigbkoaaM
namespace Go.Proofs.YtnfmpopmigbkoaaM
set_option linter.unusedVariables false
set_option linter.unusedSimpArgs false
open Go.RowKit Go.Proofs.YtnfmpopmigbkoaaW.PrintWords Go.Proofs.YtnfmpopmigbkoaaW.PrintMore
def IsB (l : List Int) : Prop := ∀ x ∈ l, 0 ≤ x ∧ x ≤ 255
theorem IsB.get {l : List Int} (h : IsB l) (i : Nat) (hi : i < l.length) : 0 ≤ l[i] ∧ l[i] ≤ 255 := h _ (List.getElem_mem hi)
theorem IsB.append {a b : List Int} (ha : IsB a) (hb : IsB b) : IsB (a ++ b) := fun x hx => (List.mem_append.1 hx).elim (ha x) (hb x)
theorem IsB.nil : IsB [] := fun x hx => by cases hx
theorem IsB.cons {x : Int} {l : List Int} (h0 : 0 ≤ x) (h1 : x ≤ 255) (hl : IsB l) : IsB (x :: l) := fun y hy => by
  rcases List.mem_cons.1 hy with rfl | hy
  · exact ⟨h0, h1⟩
  · exact hl y hy
theorem IsB.take {l : List Int} (h : IsB l) (n : Nat) : IsB (l.take n) := fun x hx => h x (List.mem_of_mem_take hx)
theorem IsB.drop {l : List Int} (h : IsB l) (n : Nat) : IsB (l.drop n) := fun x hx => h x (List.mem_of_mem_drop hx)
theorem wraps_i64 (n : Int) (h0 : 0 ≤ n) (h1 : n < 2 ^ 63) : IntKind.i64.wrap n = n := by rw [IntKind.wrap_i64]; omega
theorem and255 (n : Int) : bits .and .i64 n 255 = n % 256 := by
  have h127 : (BitVec.ofInt 64 255).toNat = 2 ^ 8 - 1 := by decide
  have key : (BitVec.ofInt 64 n &&& BitVec.ofInt 64 255).toNat = (n % ((2 ^ 64 : Nat) : Int)).toNat % 2 ^ 8 := by
    rw [BitVec.toNat_and, BitVec.toNat_ofInt, h127, Nat.and_two_pow_sub_one_eq_mod]
  show IntKind.i64.wrap ((BitVec.ofInt 64 n &&& BitVec.ofInt 64 255).toNat : Nat) = n % 256
  rw [key, IntKind.wrap_i64]
  omega
theorem nxor255 : ∀ n : Fin 256, 255 ^^^ n.val = 255 - n.val := by decide +kernel
theorem xor255 (x : Int) (h0 : 0 ≤ x) (h1 : x ≤ 255) : bits .xor .u8 255 x = 255 - x := by
  rw [u8_xor 255 x (by omega) (by omega) h0 (by omega)]
  obtain ⟨n, rfl⟩ := Int.eq_ofNat_of_zero_le h0
  have := nxor255 ⟨n, by omega⟩
  simp only [Int.toNat_natCast]
  rw [show (255 : Int).toNat = 255 from rfl, this]
  simp only []
  omega
theorem xor0 (x : Int) (h0 : 0 ≤ x) (h1 : x ≤ 255) : bits .xor .u8 x 0 = x := by
  rw [u8_xor x 0 h0 (by omega) (by omega) (by omega)]
  simp; omega
theorem xor_255 (x : Int) (h0 : 0 ≤ x) (h1 : x ≤ 255) : bits .xor .u8 x 255 = 255 - x := by
  rw [← xor255 x h0 h1]
  simp only [bits, BitVec.xor_comm]
theorem or_hi_lo (x y : Int) (h0 : 0 ≤ x) (h1 : x < 36028797018963968) (h2 : 0 ≤ y) (h3 : y ≤ 255) : bits .or .i64 (x * 256) y = x * 256 + y :=
  bits_join .i64 63 (by decide) wraps_i64 8 (x * 256) y (by omega) (by omega) (by omega) h2 (by omega) (by omega)
def clampN (n lo hi : Int) : Int := mx lo (mn n hi)
theorem clampN_spec (n lo hi : Int) (h : lo ≤ hi) : lo ≤ clampN n lo hi ∧ clampN n lo hi ≤ hi ∧ (lo ≤ n → n ≤ hi → clampN n lo hi = n) ∧ (n < lo → clampN n lo hi = lo) ∧ (hi < n → clampN n lo hi = hi) := by
  unfold clampN mx mn
  split <;> split <;> omega
theorem e0 : (128 : Int) ^ 0 = 1 := rfl
theorem e1 : (128 : Int) ^ (0 + 1) = 128 := rfl
theorem e2 : (128 : Int) ^ (0 + 1 + 1) = 16384 := rfl
def flipB (l : List Int) (p : Int) : List Int := l.take p.toNat ++ (l.drop p.toNat).map fun x => 255 - x
theorem flipB_len (l : List Int) (p : Int) : (flipB l p).length = l.length := by simp [flipB]; omega
theorem flipB_isB {l : List Int} (h : IsB l) (p : Int) : IsB (flipB l p) := (h.take _).append fun x hx => by
  obtain ⟨y, hy, rfl⟩ := List.mem_map.1 hx
  have := h y (List.mem_of_mem_drop hy)
  omega
theorem toList_strOfNums (l : List Int) : (strOfNums l).toList = l.map fun n => UInt8.ofNat n.toNat := by
  rw [ByteArray.toList_eq]; rfl
theorem u8_inj {x y : Int} (hx : 0 ≤ x ∧ x ≤ 255) (hy : 0 ≤ y ∧ y ≤ 255) : UInt8.ofNat x.toNat = UInt8.ofNat y.toNat ↔ x = y := by
  constructor
  · intro h
    have := congrArg UInt8.toNat h
    simp only [UInt8.toNat_ofNat'] at this
    omega
  · rintro rfl; rfl
theorem bytesOf_isB (s : ByteArray) : IsB (bytesOf s) := fun x hx => by
  obtain ⟨b, _, rfl⟩ := List.mem_map.1 hx
  have := b.toNat_lt
  omega
theorem bytesOf_len (s : ByteArray) : (bytesOf s).length = s.size := by
  unfold bytesOf
  rw [List.length_map, Array.length_toList]; rfl
theorem bytesOf_strOfNums {l : List Int} (h : IsB l) : bytesOf (strOfNums l) = l := by
  unfold bytesOf strOfNums
  rw [List.map_map]
  conv => rhs; rw [← List.map_id l]
  apply List.map_congr_left
  intro x hx
  have := h x hx
  simp only [Function.comp, UInt8.toNat_ofNat', id]
  omega
theorem strOfNums_bytesOf (s : ByteArray) : strOfNums (bytesOf s) = s := by
  unfold bytesOf strOfNums
  rw [List.map_map]
  have : (s.data.toList.map ((fun n : Int => UInt8.ofNat n.toNat) ∘ fun b => (b.toNat : Int))) = s.data.toList := by
    conv => rhs; rw [← List.map_id s.data.toList]
    apply List.map_congr_left
    intro x _
    simp
  rw [this]
theorem str_eq_iff (s t : ByteArray) : s.toList = t.toList ↔ bytesOf s = bytesOf t := by
  rw [ByteArray.toList_eq, ByteArray.toList_eq]
  constructor
  · intro h; unfold bytesOf; rw [h]
  · intro h
    have := congrArg strOfNums h
    rw [strOfNums_bytesOf, strOfNums_bytesOf] at this
    rw [this]
theorem bt_get (s : ByteArray) (i : Nat) (h : i < s.size) : bt s (i : Int) = (bytesOf s)[i]'(by rw [bytesOf_len]; exact h) := by
  unfold bt bytesOf
  simp only [Int.toNat_natCast, h, dif_pos, List.getElem_map]
  rfl
def crcStep (x : Nat) : Nat := if x % 2 = 1 then x / 2 ^^^ 2197175160 else x / 2
def crcN : Nat → Nat → Nat
  | 0, x => x
  | j + 1, x => crcN j (crcStep x)
def crcByte (x b : Nat) : Nat := crcN 8 (x ^^^ b)
attribute [irreducible] crcByte
def escB : List Int → List Int
  | [] => [0, 1]
  | x :: l => if x = 0 then 0 :: 255 :: escB l else x :: escB l
theorem escB_len (l : List Int) : 2 ≤ (escB l).length ∧ (escB l).length ≤ 2 * l.length + 2 := by
  induction l with
  | nil => simp [escB]
  | cons x l ih =>
    rw [escB]
    split <;> simp only [List.length_cons] <;> omega
theorem escB_isB {l : List Int} (h : IsB l) : IsB (escB l) := by
  induction l with
  | nil => exact IsB.cons (by omega) (by omega) (IsB.cons (by omega) (by omega) IsB.nil)
  | cons x l ih =>
    have hx := h x (by simp)
    have hl := ih (fun y hy => h y (by simp [hy]))
    rw [escB]
    split
    · exact IsB.cons (by omega) (by omega) (IsB.cons (by omega) (by omega) hl)
    · exact IsB.cons hx.1 hx.2 hl
def getEB : List Int → Nat → List Int → Option (List Int × Nat)
  | _, _, [] => none
  | _, _, [x] => none
  | o, p, x :: y :: l => if x = 0 then (if y = 1 then some (o, p + 2) else if y = 255 then getEB (o ++ [0]) (p + 2) l else none) else getEB (o ++ [x]) (p + 1) (y :: l)
termination_by _ _ l => l.length
def getER : Option (List Int × Nat) → ByteArray × Int × Bool
  | some (o, p) => (strOfNums o, (p : Int), true)
  | none => ((⟨#[]⟩ : ByteArray), 0, false)
def getEsc (l : List Int) (p : Int) : ByteArray × Int × Bool := if 0 ≤ p then getER (getEB [] p.toNat (l.drop p.toNat)) else ((⟨#[]⟩ : ByteArray), 0, false)
theorem getEB_cons (o : List Int) (p : Nat) (x y : Int) (l : List Int) : getEB o p (x :: y :: l) = if x = 0 then (if y = 1 then some (o, p + 2) else if y = 255 then getEB (o ++ [0]) (p + 2) l else none) else getEB (o ++ [x]) (p + 1) (y :: l) := by
  rw [getEB]
theorem getEB_one (o : List Int) (p : Nat) (x : Int) : getEB o p [x] = none := by rw [getEB]
theorem getEB_ne (o : List Int) (p : Nat) (x : Int) (l : List Int) (h : x ≠ 0) : getEB o p (x :: l) = getEB (o ++ [x]) (p + 1) l := by
  cases l with
  | nil => rw [getEB, getEB]
  | cons y l => rw [getEB_cons, if_neg h]
theorem getEB_nil (o : List Int) (p : Nat) : getEB o p [] = none := by rw [getEB]
def fixB (n : Int) : List Int :=
  let m := clampN n (-2147483648) 2147483647 + 2147483648
  [m / 16777216 % 256, m / 65536 % 256, m / 256 % 256, m % 256]
theorem fixB_len (n : Int) : (fixB n).length = 4 := rfl
theorem fixB_isB (n : Int) : IsB (fixB n) := by
  unfold fixB
  exact IsB.cons (by omega) (by omega) (IsB.cons (by omega) (by omega) (IsB.cons (by omega) (by omega) (IsB.cons (by omega) (by omega) IsB.nil)))
def nB (n : Nat) : Nat := if h : n = 0 then 0 else nB (n / 256) + 1
termination_by n
decreasing_by omega
def beB (n : Nat) : Nat → List Int
  | 0 => []
  | k + 1 => ((n / 256 ^ k % 256 : Nat) : Int) :: beB n k
theorem beB_len (n k : Nat) : (beB n k).length = k := by induction k with
  | zero => rfl
  | succ k ih => rw [beB, List.length_cons, ih]
theorem beB_isB (n k : Nat) : IsB (beB n k) := by induction k with
  | zero => exact IsB.nil
  | succ k ih => rw [beB]; exact IsB.cons (by omega) (by omega) ih
theorem nB_zero : nB 0 = 0 := by rw [nB]; rfl
theorem nB_pos {n : Nat} (h : n ≠ 0) : nB n = nB (n / 256) + 1 := by rw [nB, dif_neg h]
theorem nB_le (n : Nat) (k : Nat) (h : n < 256 ^ k) : nB n ≤ k := by
  induction k generalizing n with
  | zero => rw [show n = 0 by simpa using h, nB_zero]; omega
  | succ k ih =>
    by_cases h0 : n = 0
    · rw [h0, nB_zero]; omega
    · rw [nB_pos h0]
      have := ih (n / 256) (by rw [Nat.pow_succ] at h; omega)
      omega
def varN (n : Int) : Int := clampN n (-1000000000000000) 1000000000000000
def varB (n : Int) : List Int :=
  let m := varN n
  if 0 ≤ m then (128 + (nB m.toNat : Int)) :: beB m.toNat (nB m.toNat) else (127 - (nB (-1 - m).toNat : Int)) :: (beB (-1 - m).toNat (nB (-1 - m).toNat)).map fun x => 255 - x
theorem varN_spec (n : Int) : -1000000000000000 ≤ varN n ∧ varN n ≤ 1000000000000000 := by
  have := clampN_spec n (-1000000000000000) 1000000000000000 (by omega)
  unfold varN; omega
theorem nB_7 {n : Nat} (h : n ≤ 1000000000000000) : nB n ≤ 7 := nB_le n 7 (by omega)
theorem varB_len (n : Int) : 1 ≤ (varB n).length ∧ (varB n).length ≤ 8 := by
  have h := varN_spec n
  have h1 := nB_7 (n := (varN n).toNat) (by omega)
  unfold varB
  simp only
  split
  · rw [List.length_cons, beB_len]; omega
  · have h2 := nB_7 (n := (-1 - varN n).toNat) (by omega)
    rw [List.length_cons, List.length_map, beB_len]; omega
theorem varB_isB (n : Int) : IsB (varB n) := by
  have h := varN_spec n
  unfold varB
  simp only
  split
  · have h1 := nB_7 (n := (varN n).toNat) (by omega)
    exact IsB.cons (by omega) (by omega) (beB_isB _ _)
  · have h2 := nB_7 (n := (-1 - varN n).toNat) (by omega)
    refine IsB.cons (by omega) (by omega) (fun x hx => ?_)
    obtain ⟨y, hy, rfl⟩ := List.mem_map.1 hx
    have := beB_isB _ _ y hy
    omega
def beN : Nat → List Int → Nat
  | x, [] => x
  | x, b :: l => beN (x * 256 + b.toNat) l
theorem beN_lt (l : List Int) (x : Nat) (h : IsB l) : beN x l < (x + 1) * 256 ^ l.length := by
  induction l generalizing x with
  | nil => simp [beN]
  | cons b l ih =>
    have hb := h b (by simp)
    rw [beN, List.length_cons, Nat.pow_succ]
    have := ih (x * 256 + b.toNat) (fun y hy => h y (by simp [hy]))
    have h2 : (x * 256 + b.toNat + 1) * 256 ^ l.length ≤ ((x + 1) * 256) * 256 ^ l.length := Nat.mul_le_mul_right _ (by omega)
    rw [Nat.mul_comm (256 ^ l.length) 256, ← Nat.mul_assoc]
    omega
def readB (l : List Int) (p : Int) (c : Nat) (t : Bool) : Option Nat := if 0 ≤ p ∧ p + c ≤ l.length then some (beN 0 (((l.drop p.toNat).take c).map fun x => if t = true then 255 - x else x)) else none
theorem readB_pos {l : List Int} {p : Int} {c : Nat} {t : Bool} (h0 : 0 ≤ p) (h1 : p + c ≤ l.length) : readB l p c t = some (beN 0 (((l.drop p.toNat).take c).map fun x => if t = true then 255 - x else x)) := if_pos ⟨h0, h1⟩
theorem readB_neg {l : List Int} {p : Int} {c : Nat} {t : Bool} (h : ¬ (0 ≤ p ∧ p + c ≤ l.length)) : readB l p c t = none := if_neg h
def readR : Option Nat → Int × Bool
  | some n => ((n : Int), true)
  | none => (0, false)
theorem readB_some {l : List Int} {p : Int} {c : Nat} {t : Bool} {n : Nat} (hb : IsB l) (h : readB l p c t = some n) : 0 ≤ p ∧ p + c ≤ l.length ∧ n < 256 ^ c := by
  unfold readB at h
  split at h
  · rename_i h0
    refine ⟨h0.1, h0.2, ?_⟩
    obtain rfl := Option.some.inj h
    have := beN_lt (((l.drop p.toNat).take c).map fun x => if t = true then 255 - x else x) 0 (fun x hx => by
      obtain ⟨y, hy, rfl⟩ := List.mem_map.1 hx
      have hy2 := hb y (List.mem_of_mem_drop (List.mem_of_mem_take hy))
      cases t <;> simp only [if_true, Bool.false_eq_true, if_false] <;> omega)
    rw [List.length_map, List.length_take, List.length_drop, Nat.min_eq_left (by omega)] at this
    simpa using this
  · cases h
def getFix (l : List Int) (p : Int) : Int × Int × Bool := match readB l p 4 false with
  | some n => ((n : Int) - 2147483648, p + 4, true)
  | none => (0, 0, false)
theorem beB_snoc (n k : Nat) : beB n (k + 1) = beB (n / 256) k ++ [((n % 256 : Nat) : Int)] := by
  induction k with
  | zero => simp [beB]
  | succ k ih =>
    rw [beB, ih, beB, List.cons_append, Nat.div_div_eq_div_mul, Nat.pow_succ, Nat.mul_comm 256]
def getVarR (p : Int) (c : Nat) (t : Bool) : Option Nat → Int × Int × Bool
  | none => (0, 0, false)
  | some n => if nB n = c ∧ inB (if t = true then -1 - (n : Int) else (n : Int)) (-1000000000000000) 1000000000000000 = true then ((if t = true then -1 - (n : Int) else (n : Int)), p + 1 + c, true) else (0, 0, false)
def getVar (l : List Int) (p : Int) : Int × Int × Bool :=
  if 0 ≤ p ∧ p < l.length then
    (if 128 ≤ rd l p ∧ rd l p ≤ 135 then getVarR p (rd l p - 128).toNat false (readB l (p + 1) (rd l p - 128).toNat false)
    else if 120 ≤ rd l p ∧ rd l p ≤ 127 then getVarR p (127 - rd l p).toNat true (readB l (p + 1) (127 - rd l p).toNat true) else (0, 0, false))
  else (0, 0, false)
theorem rd_isB {l : List Int} (h : IsB l) (p : Int) : 0 ≤ rd l p ∧ rd l p ≤ 255 := by
  unfold rd
  rw [List.getD_eq_getElem?_getD]
  cases hq : l[p.toNat]? with
  | none => simp
  | some v => simp; exact h v (List.mem_of_getElem? hq)
theorem varB_length (n : Int) (h : inB n (-1000000000000000) 1000000000000000 = true) : (varB n).length = nB (if 0 ≤ n then n.toNat else (-1 - n).toNat) + 1 := by
  unfold inB at h
  have h' := of_decide_eq_true h
  have e : varN n = n := (clampN_spec n (-1000000000000000) 1000000000000000 (by omega)).2.2.1 h'.1 h'.2
  unfold varB
  simp only [e]
  split
  · rw [List.length_cons, beB_len]
  · rw [List.length_cons, List.length_map, beB_len]
end Go.Proofs.YtnfmpopmigbkoaaM
namespace Go.Proofs.YtnfmpopmigbkoaaM
set_option linter.unusedVariables false
set_option linter.unusedSimpArgs false
open Go.RowKit Go.Proofs.YtnfmpopmigbkoaaW.PrintWords Go.Proofs.YtnfmpopmigbkoaaW.PrintMore
def ltB : List Int → List Int → Bool
  | _, [] => false
  | [], _ :: _ => true
  | a :: x, b :: y => decide (a < b) || (decide (a = b) && ltB x y)
theorem ltB_nil_r (x : List Int) : ltB x [] = false := by cases x <;> rfl
theorem ltB_cons (a b : Int) (x y : List Int) : ltB (a :: x) (b :: y) = (decide (a < b) || (decide (a = b) && ltB x y)) := rfl
theorem u8_lt {x y : Int} (hx : 0 ≤ x ∧ x ≤ 255) (hy : 0 ≤ y ∧ y ≤ 255) : decide (UInt8.ofNat x.toNat < UInt8.ofNat y.toNat) = decide (x < y) := by
  apply decide_eq_decide.2
  rw [UInt8.lt_iff_toNat_lt]
  simp only [UInt8.toNat_ofNat']
  omega
theorem bytesLess_nums {a b : List Int} (ha : IsB a) (hb : IsB b) : Op.bytesLess (a.map fun n => UInt8.ofNat n.toNat) (b.map fun n => UInt8.ofNat n.toNat) = ltB a b := by
  induction a generalizing b with
  | nil => cases b <;> rfl
  | cons x a ih =>
    cases b with
    | nil => rfl
    | cons y b =>
      have hx := ha x (by simp)
      have hy := hb y (by simp)
      rw [List.map_cons, List.map_cons, Op.bytesLess, ltB_cons, ih (fun z hz => ha z (by simp [hz])) (fun z hz => hb z (by simp [hz])), u8_lt hx hy]
      congr 2
      rw [Bool.eq_iff_iff, beq_iff_eq, decide_eq_true_eq, u8_inj hx hy]
theorem bytesLess_str {a b : List Int} (ha : IsB a) (hb : IsB b) : Op.bytesLess (strOfNums a).toList (strOfNums b).toList = ltB a b := by
  rw [toList_strOfNums, toList_strOfNums, bytesLess_nums ha hb]
theorem bytesLess_bytesOf (s t : ByteArray) : Op.bytesLess s.toList t.toList = ltB (bytesOf s) (bytesOf t) := by
  rw [← bytesLess_str (bytesOf_isB s) (bytesOf_isB t), strOfNums_bytesOf, strOfNums_bytesOf]
def Lt (u w : List Int) : Prop := ∃ (p : List Int) (c d : Int) (u' w' : List Int), u = p ++ c :: u' ∧ w = p ++ d :: w' ∧ c < d
theorem Lt.append {u w : List Int} (h : Lt u w) (r s : List Int) : Lt (u ++ r) (w ++ s) := by
  obtain ⟨p, c, d, u', w', rfl, rfl, hcd⟩ := h
  exact ⟨p, c, d, u' ++ r, w' ++ s, by simp, by simp, hcd⟩
theorem Lt.left {u w : List Int} (h : Lt u w) (p : List Int) : Lt (p ++ u) (p ++ w) := by
  obtain ⟨q, c, d, u', w', rfl, rfl, hcd⟩ := h
  exact ⟨p ++ q, c, d, u', w', by simp, by simp, hcd⟩
theorem Lt.head {c d : Int} (h : c < d) (u w : List Int) : Lt (c :: u) (d :: w) := ⟨[], c, d, u, w, rfl, rfl, h⟩
theorem Lt.cons {u w : List Int} (h : Lt u w) (x : Int) : Lt (x :: u) (x :: w) := h.left [x]
theorem Lt.ltB {u w : List Int} (h : Lt u w) : ltB u w = true := by
  obtain ⟨p, c, d, u', w', rfl, rfl, hcd⟩ := h
  induction p with
  | nil => simp [Go.Proofs.YtnfmpopmigbkoaaM.ltB_cons, hcd]
  | cons x p ih => simp only [List.cons_append, Go.Proofs.YtnfmpopmigbkoaaM.ltB_cons, ih]; simp
theorem Lt.ltB' {u w : List Int} (h : Lt u w) : Go.Proofs.YtnfmpopmigbkoaaM.ltB w u = false := by
  obtain ⟨p, c, d, u', w', rfl, rfl, hcd⟩ := h
  induction p with
  | nil =>
    simp only [List.nil_append, Go.Proofs.YtnfmpopmigbkoaaM.ltB_cons]
    rw [decide_eq_false (by omega), decide_eq_false (by omega)]; rfl
  | cons x p ih => simp only [List.cons_append, Go.Proofs.YtnfmpopmigbkoaaM.ltB_cons, ih]; simp
theorem ltB_cases (u w : List Int) (h : ltB u w = true) : (∃ v x, w = u ++ x :: v) ∨ Lt u w := by
  induction u generalizing w with
  | nil =>
    cases w with
    | nil => cases h
    | cons y w => exact .inl ⟨w, y, rfl⟩
  | cons x u ih =>
    cases w with
    | nil => rw [ltB_nil_r] at h; cases h
    | cons y w =>
      rw [ltB_cons] at h
      by_cases hxy : x < y
      · exact .inr (Lt.head hxy u w)
      · rw [decide_eq_false hxy, Bool.false_or, Bool.and_eq_true, decide_eq_true_eq] at h
        obtain ⟨rfl, h⟩ := h
        rcases ih w h with ⟨v, z, rfl⟩ | hl
        · exact .inl ⟨v, z, rfl⟩
        · exact .inr (hl.cons x)
theorem ltB_asymm (u w : List Int) (h : ltB u w = true) : ltB w u = false := by
  rcases ltB_cases u w h with ⟨v, x, rfl⟩ | hl
  · clear h
    induction u with
    | nil => rfl
    | cons y u ih => rw [List.cons_append, ltB_cons, ih]; simp
  · exact hl.ltB'
theorem fixB_beB (n : Int) : fixB n = beB (clampN n (-2147483648) 2147483647 + 2147483648).toNat 4 := by
  have hc := clampN_spec n (-2147483648) 2147483647 (by omega)
  unfold fixB
  simp only [beB, List.cons.injEq, and_true, Nat.pow_zero, Nat.pow_one]
  omega
end Go.Proofs.YtnfmpopmigbkoaaM
namespace Go.Proofs.YtnfmpopmigbkoaaM
set_option linter.unusedVariables false
set_option linter.unusedSimpArgs false
open Go.RowKit Go.Proofs.YtnfmpopmigbkoaaW.PrintWords Go.Proofs.YtnfmpopmigbkoaaW.PrintMore
theorem getEB_spec (d : Nat) : ∀ (l o : List Int) (p : Nat) (o' : List Int) (q : Nat), l.length = d → getEB o p l = some (o', q) → ∃ s r, o' = o ++ s ∧ l = escB s ++ r ∧ q = p + (escB s).length := by
  induction d using Nat.strongRecOn with
  | _ d ih =>
    intro l o p o' q hd h
    match l, hd, h with
    | [], _, h => rw [getEB_nil] at h; cases h
    | [x], _, h => rw [getEB_one] at h; cases h
    | x :: y :: l, hd, h =>
      by_cases hx : x = 0
      · subst hx
        rw [getEB_cons, if_pos rfl] at h
        by_cases h1 : y = 1
        · rw [if_pos h1] at h
          simp only [Option.some.injEq, Prod.mk.injEq] at h
          obtain ⟨rfl, rfl⟩ := h
          subst h1
          exact ⟨[], l, by simp, rfl, rfl⟩
        · rw [if_neg h1] at h
          by_cases h2 : y = 255
          · rw [if_pos h2] at h
            subst h2
            obtain ⟨s, r, rfl, rfl, rfl⟩ := ih l.length (by simp only [List.length_cons] at hd; omega) l (o ++ [0]) (p + 2) o' q rfl h
            refine ⟨0 :: s, r, by simp, by simp [escB], ?_⟩
            simp only [escB, if_true, List.length_cons]; omega
          · rw [if_neg h2] at h; cases h
      · rw [getEB_ne _ _ _ _ hx] at h
        obtain ⟨s, r, rfl, hl, rfl⟩ := ih (y :: l).length (by simp only [List.length_cons] at hd ⊢; omega) (y :: l) (o ++ [x]) (p + 1) o' q rfl h
        refine ⟨x :: s, r, by simp, by rw [hl, escB, if_neg hx]; rfl, ?_⟩
        rw [escB, if_neg hx, List.length_cons]; omega
theorem escB_ge (u : List Int) : u.length ≤ (escB u).length := by
  induction u with
  | nil => simp
  | cons x u ih => rw [escB]; split <;> simp only [List.length_cons] <;> omega
theorem escB_back (u : List Int) (h1 : IsB (escB u)) : IsB u := by
  induction u with
  | nil => exact IsB.nil
  | cons x u ih =>
    rw [escB] at h1
    by_cases hx : x = 0
    · rw [if_pos hx] at h1
      exact IsB.cons (by omega) (by omega) (ih (fun y hy => h1 y (by simp [hy])))
    · rw [if_neg hx] at h1
      have := h1 x (by simp)
      exact IsB.cons this.1 this.2 (ih (fun y hy => h1 y (by simp [hy])))
theorem getEsc_spec {l : List Int} {p : Int} {s : ByteArray} {q : Int} (hb : IsB l) (h : getEsc l p = (s, q, true)) : 0 ≤ p ∧ p ≤ q ∧ q ≤ l.length ∧ s.size ≤ l.length ∧ escB (bytesOf s) = (l.take q.toNat).drop p.toNat := by
  unfold getEsc at h
  by_cases h0 : 0 ≤ p
  · rw [if_pos h0] at h
    cases hg : getEB [] p.toNat (l.drop p.toNat) with
    | none => rw [hg] at h; simp [getER] at h
    | some r =>
      obtain ⟨o, q'⟩ := r
      rw [hg] at h
      simp only [getER, Prod.mk.injEq, and_true] at h
      obtain ⟨rfl, rfl⟩ := h
      obtain ⟨u, r, hu, hl, rfl⟩ := getEB_spec _ _ _ _ _ _ rfl hg
      rw [List.nil_append] at hu
      subst o
      have hlen := congrArg List.length hl
      rw [List.length_drop, List.length_append] at hlen
      have hel := escB_len u
      have hun := escB_ge u
      have hub : IsB u := escB_back u (fun x hx => hb x (List.mem_of_mem_drop (by rw [hl]; exact List.mem_append_left _ hx)))
      refine ⟨h0, by omega, by omega, by rw [strOfNums_size]; omega, ?_⟩
      rw [bytesOf_strOfNums hub, Int.toNat_natCast, List.drop_take, hl, show p.toNat + (escB u).length - p.toNat = (escB u).length by omega, List.take_left]
  · rw [if_neg h0] at h; simp at h
def valB (k n : Int) (s : ByteArray) : List Int := if k = 1 then fixB n else if k = 2 then varB n else if k = 3 then escB (bytesOf s) else if k = 4 then [n % 256] else []
def headB (null : Bool) (k : Int) : List Int := if null = true then (if k = 0 then [0] else [1]) else []
def turnL (l : List Int) : List Int := l.map fun x => 255 - x
def turnB (desc : Bool) (l : List Int) : List Int := if desc = true then turnL l else l
def bareB (null : Bool) (k n : Int) (s : ByteArray) : List Int := headB null k ++ valB k n s
def partB (null desc : Bool) (k n : Int) (s : ByteArray) : List Int := turnB desc (bareB null k n s)
def okPV (c t : Int) (null : Bool) (k n : Int) (s : ByteArray) : Bool := partOkB c t && fitsB t null k n s
def putPart (c t : Int) (null desc : Bool) (k n : Int) (s : ByteArray) : List Int := if okPV c t null k n s = true then partB null desc k n s else []
theorem turnL_isB {l : List Int} (h : IsB l) : IsB (turnL l) := fun x hx => by
  obtain ⟨y, hy, rfl⟩ := List.mem_map.1 hx
  have := h y hy
  omega
theorem turnL_turnL (l : List Int) : turnL (turnL l) = l := by
  unfold turnL
  rw [List.map_map]
  have : ((fun x : Int => 255 - x) ∘ fun x => 255 - x) = id := by funext x; simp only [Function.comp, id]; omega
  rw [this, List.map_id]
theorem turnB_len (d : Bool) (l : List Int) : (turnB d l).length = l.length := by unfold turnB; split <;> simp [turnL]
theorem turnB_isB (d : Bool) {l : List Int} (h : IsB l) : IsB (turnB d l) := by
  cases d
  · exact h
  · exact turnL_isB h
theorem valB_isB (k n : Int) (s : ByteArray) : IsB (valB k n s) := by
  unfold valB
  split
  · exact fixB_isB n
  split
  · exact varB_isB n
  split
  · exact escB_isB (bytesOf_isB s)
  split
  · exact IsB.cons (by omega) (by omega) IsB.nil
  · exact IsB.nil
theorem headB_isB (null : Bool) (k : Int) : IsB (headB null k) := by
  unfold headB
  split
  · split
    · exact IsB.cons (by omega) (by omega) IsB.nil
    · exact IsB.cons (by omega) (by omega) IsB.nil
  · exact IsB.nil
theorem partB_isB (null desc : Bool) (k n : Int) (s : ByteArray) : IsB (partB null desc k n s) := turnB_isB desc ((headB_isB null k).append (valB_isB k n s))
theorem isE_bytes {s : ByteArray} (h : isE s = true) : s = ⟨#[]⟩ := by
  have h1 : s.toList = [] := by unfold isE at h; exact eq_of_beq h
  have h2 : bytesOf s = [] := by
    have := (str_eq_iff s ⟨#[]⟩).1 (by rw [h1, ByteArray.toList_eq])
    rw [this]
    apply List.eq_nil_of_length_eq_zero
    rw [bytesOf_len]; rfl
  rw [← strOfNums_bytesOf s, h2]; rfl
theorem fits_cases {t : Int} {null : Bool} {k n : Int} {s : ByteArray} (h : fitsB t null k n s = true) (ht : 1 ≤ t ∧ t ≤ 4) :
    (null = true ∧ k = 0 ∧ n = 0 ∧ s = ⟨#[]⟩) ∨ (k = t ∧ ((k = 1 ∧ -2147483648 ≤ n ∧ n ≤ 2147483647 ∧ s = ⟨#[]⟩) ∨ (k = 2 ∧ -1000000000000000 ≤ n ∧ n ≤ 1000000000000000 ∧ s = ⟨#[]⟩) ∨ (k = 3 ∧ n = 0 ∧ s.size ≤ 30) ∨ (k = 4 ∧ 0 ≤ n ∧ n ≤ 1 ∧ s = ⟨#[]⟩))) := by
  unfold fitsB at h
  rw [Bool.and_eq_true] at h
  obtain ⟨h1, h2⟩ := h
  unfold valOkB at h1
  by_cases k0 : k = 0
  · rw [if_pos k0] at h1 h2
    rw [Bool.and_eq_true] at h1
    exact .inl ⟨h2, k0, of_decide_eq_true h1.1, isE_bytes h1.2⟩
  rw [if_neg k0] at h1 h2
  have hk := of_decide_eq_true h2
  refine .inr ⟨hk, ?_⟩
  by_cases k1 : k = 1
  · rw [if_pos k1, Bool.and_eq_true] at h1
    have := of_decide_eq_true h1.1
    exact .inl ⟨k1, this.1, this.2, isE_bytes h1.2⟩
  rw [if_neg k1] at h1
  by_cases k2 : k = 2
  · rw [if_pos k2, Bool.and_eq_true] at h1
    have := of_decide_eq_true h1.1
    exact .inr (.inl ⟨k2, this.1, this.2, isE_bytes h1.2⟩)
  rw [if_neg k2] at h1
  by_cases k3 : k = 3
  · rw [if_pos k3, Bool.and_eq_true] at h1
    have := of_decide_eq_true h1.1
    have h4 := of_decide_eq_true h1.2
    exact .inr (.inr (.inl ⟨k3, this, by omega⟩))
  rw [if_neg k3] at h1
  have k4 : k = 4 := by omega
  rw [if_pos k4, Bool.and_eq_true] at h1
  have := of_decide_eq_true h1.1
  exact .inr (.inr (.inr ⟨k4, this.1, this.2, isE_bytes h1.2⟩))
theorem partOk_t {c t : Int} (h : partOkB c t = true) : 1 ≤ t ∧ t ≤ 4 := by
  unfold partOkB at h
  rw [Bool.and_eq_true] at h
  exact of_decide_eq_true h.2
theorem valB_len (k n : Int) (s : ByteArray) (h : s.size ≤ 30) : (valB k n s).length ≤ 62 := by
  unfold valB
  split
  · rw [fixB_len]; omega
  split
  · have := varB_len n; omega
  split
  · have := escB_len (bytesOf s); rw [bytesOf_len] at this; omega
  split <;> simp
theorem bareB_len (null : Bool) (k n : Int) (s : ByteArray) (h : s.size ≤ 30) : (bareB null k n s).length ≤ 63 := by
  have := valB_len k n s h
  unfold bareB headB
  rw [List.length_append]
  split
  · split <;> simp only [List.length_cons, List.length_nil] <;> omega
  · simp only [List.length_nil]; omega
theorem okPV_size {c t : Int} {null : Bool} {k n : Int} {s : ByteArray} (h : okPV c t null k n s = true) : s.size ≤ 30 := by
  unfold okPV at h
  rw [Bool.and_eq_true] at h
  rcases fits_cases h.2 (partOk_t h.1) with ⟨_, _, _, rfl⟩ | ⟨_, ⟨_, _, _, rfl⟩ | ⟨_, _, _, rfl⟩ | ⟨_, _, h⟩ | ⟨_, _, _, rfl⟩⟩
  · decide
  · decide
  · decide
  · exact h
  · decide
theorem putPart_len (c t : Int) (null desc : Bool) (k n : Int) (s : ByteArray) : (putPart c t null desc k n s).length ≤ 63 := by
  unfold putPart
  split
  · rename_i h
    unfold partB
    rw [turnB_len]
    exact bareB_len null k n s (okPV_size h)
  · simp
theorem putPart_isB (c t : Int) (null desc : Bool) (k n : Int) (s : ByteArray) : IsB (putPart c t null desc k n s) := by
  unfold putPart
  split
  · exact partB_isB _ _ _ _ _
  · exact IsB.nil
theorem flipB_at (b x : List Int) : flipB (b ++ x) (b.length : Int) = b ++ turnL x := by
  unfold flipB turnL
  rw [Int.toNat_natCast, List.take_left, List.drop_left]
def getTyped (l : List Int) (t p : Int) : Int × Int × ByteArray × Int × Bool :=
  if t = 1 then (t, (getFix l p).1, ⟨#[]⟩, (getFix l p).2.1, (getFix l p).2.2)
  else if t = 2 then (t, (getVar l p).1, ⟨#[]⟩, (getVar l p).2.1, (getVar l p).2.2)
  else if t = 3 then (t, 0, (getEsc l p).1, (getEsc l p).2.1, (getEsc l p).2.2)
  else if t = 4 then (if 0 ≤ p ∧ p < l.length then (t, rd l p, ⟨#[]⟩, p + 1, true) else (t, 0, ⟨#[]⟩, 0, false))
  else (t, 0, ⟨#[]⟩, 0, false)
def noPart : Int × Int × ByteArray × Int × Bool := (0, 0, ⟨#[]⟩, 0, false)
def fitR (t : Int) (null : Bool) (r : Int × Int × ByteArray × Int × Bool) : Int × Int × ByteArray × Int × Bool :=
  if r.2.2.2.2 = true ∧ fitsB t null r.1 r.2.1 r.2.2.1 = true then r else noPart
def getBare (l : List Int) (t : Int) (null : Bool) (p : Int) : Int × Int × ByteArray × Int × Bool :=
  if null = true then (if rd l p = 0 then (0, 0, ⟨#[]⟩, p + 1, true) else if rd l p = 1 then fitR t null (getTyped l t (p + 1)) else noPart) else fitR t null (getTyped l t p)
def getPart (l : List Int) (c t : Int) (null desc : Bool) (p : Int) : Int × Int × ByteArray × Int × Bool :=
  if partOkB c t = true ∧ 0 ≤ p ∧ p < l.length then getBare (if desc = true then flipB l p else l) t null p else noPart
theorem beB_beN (l : List Int) (x : Nat) (h : IsB l) : beB (beN x l) l.length = l := by
  induction l generalizing x with
  | nil => rfl
  | cons b l ih =>
    have hb := h b (by simp)
    have hl : IsB l := fun y hy => h y (by simp [hy])
    rw [beN, List.length_cons, beB, ih _ hl]
    have h1 : ∀ (u : List Int) (y : Nat), IsB u → beN y u / 256 ^ u.length = y := by
      intro u
      induction u with
      | nil => intro y _; simp [beN]
      | cons v u ih2 =>
        intro y hu
        have hv := hu v (by simp)
        rw [beN, List.length_cons, Nat.pow_succ, ← Nat.div_div_eq_div_mul, ih2 _ (fun z hz => hu z (by simp [hz]))]
        omega
    rw [h1 l _ hl]
    congr 1
    omega
theorem getFix_spec {l : List Int} (hb : IsB l) {p n q : Int} (h : getFix l p = (n, q, true)) : 0 ≤ p ∧ q = p + 4 ∧ q ≤ l.length ∧ -2147483648 ≤ n ∧ n ≤ 2147483647 ∧ fixB n = (l.take q.toNat).drop p.toNat := by
  unfold getFix at h
  cases hr : readB l p 4 false with
  | none => rw [hr] at h; simp at h
  | some m =>
    rw [hr] at h
    simp only [Prod.mk.injEq, and_true] at h
    obtain ⟨rfl, rfl⟩ := h
    obtain ⟨h0, h1, h2⟩ := readB_some hb hr
    have h1' : p + 4 ≤ l.length := h1
    rw [readB_pos h0 h1] at hr
    have hm := Option.some.inj hr
    simp only [Bool.false_eq_true, if_false, List.map_id'] at hm
    have h3 : (256 : Nat) ^ 4 = 4294967296 := by decide
    refine ⟨h0, rfl, h1', by omega, by omega, ?_⟩
    rw [fixB_beB]
    have e := (clampN_spec ((m : Int) - 2147483648) (-2147483648) 2147483647 (by omega)).2.2.1 (by omega) (by omega)
    rw [e, show ((m : Int) - 2147483648 + 2147483648).toNat = m by omega, ← hm]
    have hbt : IsB ((l.drop p.toNat).take 4) := (hb.drop _).take _
    have hlen : ((l.drop p.toNat).take 4).length = 4 := by rw [List.length_take, List.length_drop]; omega
    have := beB_beN _ 0 hbt
    rw [hlen] at this
    rw [this, List.drop_take]
    congr 1
    omega
theorem getVar_spec {l : List Int} (hb : IsB l) {p n q : Int} (h : getVar l p = (n, q, true)) : 0 ≤ p ∧ p < q ∧ q ≤ l.length ∧ -1000000000000000 ≤ n ∧ n ≤ 1000000000000000 ∧ varB n = (l.take q.toNat).drop p.toNat := by
  unfold getVar at h
  by_cases hp : 0 ≤ p ∧ p < l.length
  · rw [if_pos hp] at h
    have hget : ∀ c : Nat, p + 1 + c ≤ l.length → (l.take (p + 1 + (c : Int)).toNat).drop p.toNat = rd l p :: (l.drop (p + 1).toNat).take c := by
      intro c hc
      obtain ⟨i, rfl⟩ := Int.eq_ofNat_of_zero_le hp.1
      have hi : i < l.length := by omega
      rw [rd_nat l i hi, List.drop_take]
      have e1 : ((i : Int) + 1 + (c : Int)).toNat - (i : Int).toNat = c + 1 := by omega
      have e2 : ((i : Int) + 1).toNat = i + 1 := by omega
      rw [e1, e2, Int.toNat_natCast, List.drop_eq_getElem_cons hi, List.take_succ_cons]
    have key : ∀ (c : Nat) (t : Bool) (x : Int), getVarR p c t (readB l (p + 1) c t) = (n, q, true) → x = rd l p → (if t = true then x = 127 - (c : Int) else x = 128 + (c : Int)) →
        0 ≤ p ∧ p < q ∧ q ≤ l.length ∧ -1000000000000000 ≤ n ∧ n ≤ 1000000000000000 ∧ varB n = (l.take q.toNat).drop p.toNat := by
      intro c t x hv hx hxc
      cases hr : readB l (p + 1) c t with
      | none => rw [hr] at hv; simp [getVarR] at hv
      | some m =>
        rw [hr] at hv
        simp only [getVarR] at hv
        obtain ⟨g0, g1, g2⟩ := readB_some hb hr
        by_cases hc : nB m = c ∧ inB (if t = true then -1 - (m : Int) else (m : Int)) (-1000000000000000) 1000000000000000 = true
        · rw [if_pos hc] at hv
          obtain ⟨hc1, hc2⟩ := hc
          simp only [Prod.mk.injEq, and_true] at hv
          obtain ⟨hv1, rfl⟩ := hv
          rw [hv1] at hc2
          have hn := of_decide_eq_true hc2
          refine ⟨hp.1, by omega, by omega, hn.1, hn.2, ?_⟩
          rw [hget c g1, ← hx]
          rw [readB_pos g0 g1] at hr
          have hm := Option.some.inj hr
          have e : varN n = n := (clampN_spec n (-1000000000000000) 1000000000000000 (by omega)).2.2.1 hn.1 hn.2
          have hbt : IsB ((l.drop (p + 1).toNat).take c) := (hb.drop _).take _
          have hlen : ((l.drop (p + 1).toNat).take c).length = c := by rw [List.length_take, List.length_drop]; omega
          cases t with
          | false =>
            simp only [Bool.false_eq_true, if_false, List.map_id'] at hm hv1 hxc
            unfold varB
            simp only [e]
            rw [if_pos (by omega), ← hv1, Int.toNat_natCast, hc1, hxc, ← hm]
            congr 1
            have := beB_beN _ 0 hbt
            rw [hlen] at this
            exact this
          | true =>
            simp only [if_true] at hm hv1 hxc
            unfold varB
            simp only [e]
            rw [if_neg (by omega), ← hv1, show (-1 - (-1 - (m : Int))).toNat = m by omega, hc1, hxc, ← hm]
            congr 1
            have hbt2 : IsB (((l.drop (p + 1).toNat).take c).map fun x => 255 - x) := turnL_isB hbt
            have := beB_beN _ 0 hbt2
            rw [List.length_map, hlen] at this
            rw [this]
            exact turnL_turnL _
        · rw [if_neg hc] at hv; simp at hv
    have hrd := rd_isB hb p
    split at h
    · rename_i hx
      exact key _ false (rd l p) h rfl (by simp only [Bool.false_eq_true, if_false]; omega)
    · split at h
      · rename_i hx
        exact key _ true (rd l p) h rfl (by simp only [if_true]; omega)
      · simp at h
  · rw [if_neg hp] at h; simp at h
theorem flipB_drop (l : List Int) (p q : Nat) (h : p ≤ q) : (flipB l (p : Int)).drop q = (l.drop q).map fun x => 255 - x := by
  unfold flipB
  rw [Int.toNat_natCast]
  by_cases hp : p ≤ l.length
  · rw [List.drop_append, List.length_take, Nat.min_eq_left hp, List.drop_eq_nil_of_le (by rw [List.length_take]; omega), List.nil_append, ← List.map_drop, List.drop_drop, show p + (q - p) = q by omega]
  · rw [List.drop_eq_nil_of_le (show l.length ≤ p by omega), List.map_nil, List.append_nil, List.drop_eq_nil_of_le (by rw [List.length_take]; omega), List.drop_eq_nil_of_le (show l.length ≤ q by omega)]
    rfl
theorem readB_congr {l l' : List Int} {q : Int} {c : Nat} {t : Bool} (hl : l.length = l'.length) (hd : l.drop q.toNat = l'.drop q.toNat) : readB l q c t = readB l' q c t := by
  unfold readB; rw [hl, hd]
theorem rd_congr {l l' : List Int} {q : Int} (hd : l.drop q.toNat = l'.drop q.toNat) : rd l q = rd l' q := by
  unfold rd
  rw [List.getD_eq_getElem?_getD, List.getD_eq_getElem?_getD]
  have h1 : (l.drop q.toNat)[0]? = l[q.toNat]? := by rw [List.getElem?_drop]; rfl
  have h2 : (l'.drop q.toNat)[0]? = l'[q.toNat]? := by rw [List.getElem?_drop]; rfl
  rw [← h1, ← h2, hd]
theorem drop_succ_congr {l l' : List Int} {q : Int} (hq : 0 ≤ q) (hd : l.drop q.toNat = l'.drop q.toNat) : l.drop (q + 1).toNat = l'.drop (q + 1).toNat := by
  rw [show (q + 1).toNat = q.toNat + 1 by omega, ← List.drop_drop, hd, List.drop_drop]
theorem getTyped_congr {l l' : List Int} {t q : Int} (hq : 0 ≤ q) (hl : l.length = l'.length) (hd : l.drop q.toNat = l'.drop q.toNat) : getTyped l t q = getTyped l' t q := by
  have h1 : getFix l q = getFix l' q := by unfold getFix; rw [readB_congr hl hd]
  have h2 : getVar l q = getVar l' q := by
    have hd2 := drop_succ_congr hq hd
    have hr := rd_congr hd
    unfold getVar
    rw [hl, hr, readB_congr (c := (rd l' q - 128).toNat) (t := false) hl hd2, readB_congr (c := (127 - rd l' q).toNat) (t := true) hl hd2]
  have h3 : getEsc l q = getEsc l' q := by unfold getEsc; rw [hd]
  unfold getTyped
  rw [h1, h2, h3, hl, rd_congr hd]
theorem getTyped_end (l : List Int) (t : Int) : (getTyped l t (l.length : Int)).2.2.2.2 = false := by
  have h1 : getFix l (l.length : Int) = (0, 0, false) := by unfold getFix; rw [readB_neg (by omega)]
  have h2 : getVar l (l.length : Int) = (0, 0, false) := by unfold getVar; rw [if_neg (by omega)]
  have h3 : getEsc l (l.length : Int) = (⟨#[]⟩, 0, false) := by
    unfold getEsc
    rw [if_pos (by omega), Int.toNat_natCast, List.drop_eq_nil_of_le (Nat.le_refl _), getEB_nil]
    rfl
  unfold getTyped
  rw [h1, h2, h3]
  split
  · rfl
  split
  · rfl
  split
  · rfl
  split
  · rw [if_neg (by omega)]
  · rfl
theorem getTyped_fst (l : List Int) (t p : Int) : (getTyped l t p).1 = t := by
  unfold getTyped
  split
  · rfl
  split
  · rfl
  split
  · rfl
  split
  · split <;> rfl
  · rfl
theorem fits_valOk {t n : Int} {null : Bool} {s : ByteArray} (ht : 1 ≤ t) : fitsB t null t n s = valOkB t n s := by
  unfold fitsB
  rw [if_neg (by omega), decide_eq_true rfl, Bool.and_true]
theorem take_drop_cons (l : List Int) (p q : Int) (h0 : 0 ≤ p) (h1 : p < q) (h2 : q ≤ l.length) : (l.take q.toNat).drop p.toNat = rd l p :: (l.take q.toNat).drop (p + 1).toNat := by
  obtain ⟨i, rfl⟩ := Int.eq_ofNat_of_zero_le h0
  obtain ⟨j, rfl⟩ := Int.eq_ofNat_of_zero_le (show 0 ≤ q by omega)
  have hi : i < l.length := by omega
  rw [show ((i : Int) + 1).toNat = i + 1 by omega, Int.toNat_natCast, Int.toNat_natCast, rd_nat l i hi, List.drop_eq_getElem_cons (by rw [List.length_take]; omega), List.getElem_take]
theorem getTyped_spec {l : List Int} (hb : IsB l) {t p k n q : Int} {s : ByteArray} (ht : 1 ≤ t ∧ t ≤ 4) (h : getTyped l t p = (k, n, s, q, true)) :
    k = t ∧ 0 ≤ p ∧ p < q ∧ q ≤ l.length ∧ valB k n s = (l.take q.toNat).drop p.toNat := by
  unfold getTyped at h
  by_cases t1 : t = 1
  · rw [if_pos t1] at h
    simp only [Prod.mk.injEq] at h
    obtain ⟨rfl, rfl, rfl, rfl, h5⟩ := h
    obtain ⟨g0, g1, g2, _, _, g3⟩ := getFix_spec hb (show getFix l p = ((getFix l p).1, (getFix l p).2.1, true) by rw [← h5])
    refine ⟨rfl, g0, by omega, g2, ?_⟩
    unfold valB; rw [if_pos t1]; exact g3
  rw [if_neg t1] at h
  by_cases t2 : t = 2
  · rw [if_pos t2] at h
    simp only [Prod.mk.injEq] at h
    obtain ⟨rfl, rfl, rfl, rfl, h5⟩ := h
    obtain ⟨g0, g1, g2, _, _, g3⟩ := getVar_spec hb (show getVar l p = ((getVar l p).1, (getVar l p).2.1, true) by rw [← h5])
    refine ⟨rfl, g0, by omega, g2, ?_⟩
    unfold valB; rw [if_neg t1, if_pos t2]; exact g3
  rw [if_neg t2] at h
  by_cases t3 : t = 3
  · rw [if_pos t3] at h
    simp only [Prod.mk.injEq] at h
    obtain ⟨rfl, rfl, rfl, rfl, h5⟩ := h
    obtain ⟨g0, g1, g2, _, g3⟩ := getEsc_spec hb (show getEsc l p = ((getEsc l p).1, (getEsc l p).2.1, true) by rw [← h5])
    have hlen := congrArg List.length g3
    have he := escB_len (bytesOf (getEsc l p).1)
    rw [List.length_drop, List.length_take] at hlen
    refine ⟨rfl, g0, by omega, g2, ?_⟩
    unfold valB; rw [if_neg t1, if_neg t2, if_pos t3]; exact g3
  have t4 : t = 4 := by omega
  rw [if_neg t3, if_pos t4] at h
  by_cases hp : 0 ≤ p ∧ p < l.length
  · rw [if_pos hp] at h
    simp only [Prod.mk.injEq, and_true] at h
    obtain ⟨rfl, rfl, rfl, rfl⟩ := h
    refine ⟨rfl, hp.1, by omega, by omega, ?_⟩
    have hr := rd_isB hb p
    unfold valB; rw [if_neg t1, if_neg t2, if_neg t3, if_pos t4, take_drop_cons l p (p + 1) hp.1 (by omega) (by omega), List.drop_eq_nil_of_le (by rw [List.length_take]; omega), show rd l p % 256 = rd l p by omega]
  · rw [if_neg hp] at h; simp at h
theorem fitR_spec {t : Int} {null : Bool} {r : Int × Int × ByteArray × Int × Bool} {k n q : Int} {s : ByteArray} (h : fitR t null r = (k, n, s, q, true)) : r = (k, n, s, q, true) ∧ fitsB t null k n s = true := by
  unfold fitR at h
  by_cases hc : r.2.2.2.2 = true ∧ fitsB t null r.1 r.2.1 r.2.2.1 = true
  · rw [if_pos hc] at h
    refine ⟨h, ?_⟩
    have := hc.2
    rw [h] at this
    exact this
  · rw [if_neg hc] at h; simp [noPart] at h
theorem getBare_spec {l : List Int} (hb : IsB l) {t p k n q : Int} {s : ByteArray} {null : Bool} (ht : 1 ≤ t ∧ t ≤ 4) (hp : 0 ≤ p ∧ p < l.length) (h : getBare l t null p = (k, n, s, q, true)) :
    fitsB t null k n s = true ∧ p < q ∧ q ≤ l.length ∧ bareB null k n s = (l.take q.toNat).drop p.toNat := by
  unfold getBare at h
  cases hn : null with
  | true =>
    subst hn
    rw [if_pos rfl] at h
    by_cases r0 : rd l p = 0
    · rw [if_pos r0] at h
      simp only [Prod.mk.injEq, and_true] at h
      obtain ⟨rfl, rfl, rfl, rfl⟩ := h
      refine ⟨by unfold fitsB valOkB isE; simp, by omega, by omega, ?_⟩
      rw [take_drop_cons l p (p + 1) hp.1 (by omega) (by omega), List.drop_eq_nil_of_le (by rw [List.length_take]; omega), r0]
      unfold bareB headB valB; simp
    · rw [if_neg r0] at h
      by_cases r1 : rd l p = 1
      · rw [if_pos r1] at h
        obtain ⟨h1, h2⟩ := fitR_spec h
        obtain ⟨rfl, g0, g1, g2, g3⟩ := getTyped_spec hb ht h1
        refine ⟨h2, by omega, g2, ?_⟩
        rw [take_drop_cons l p q hp.1 (by omega) g2, r1, ← g3]
        unfold bareB headB
        rw [if_pos rfl, if_neg (by omega)]; rfl
      · rw [if_neg r1] at h; simp [noPart] at h
  | false =>
    subst hn
    rw [if_neg (by decide)] at h
    obtain ⟨h1, h2⟩ := fitR_spec h
    obtain ⟨rfl, g0, g1, g2, g3⟩ := getTyped_spec hb ht h1
    refine ⟨h2, g1, g2, ?_⟩
    rw [← g3]
    unfold bareB headB
    rw [if_neg (by decide)]; rfl
theorem getPart_spec {l : List Int} (hb : IsB l) {c t p k n q : Int} {s : ByteArray} {null desc : Bool} (h : getPart l c t null desc p = (k, n, s, q, true)) :
    okPV c t null k n s = true ∧ 0 ≤ p ∧ p < q ∧ q ≤ l.length ∧ putPart c t null desc k n s = (l.take q.toNat).drop p.toNat := by
  unfold getPart at h
  by_cases hc : partOkB c t = true ∧ 0 ≤ p ∧ p < l.length
  · rw [if_pos hc] at h
    obtain ⟨hok, h0, h1⟩ := hc
    have ht := partOk_t hok
    cases hd : desc with
    | false =>
      subst hd
      rw [if_neg (by decide)] at h
      obtain ⟨g0, g1, g2, g3⟩ := getBare_spec hb ht ⟨h0, h1⟩ h
      have hv : okPV c t null k n s = true := by unfold okPV; rw [hok, g0]; rfl
      refine ⟨hv, h0, g1, g2, ?_⟩
      unfold putPart partB turnB
      rw [if_pos hv, if_neg (by decide)]; exact g3
    | true =>
      subst hd
      rw [if_pos rfl] at h
      have hl := flipB_len l p
      obtain ⟨g0, g1, g2, g3⟩ := getBare_spec (flipB_isB hb p) ht ⟨h0, by rw [hl]; exact h1⟩ h
      rw [hl] at g2
      have hv : okPV c t null k n s = true := by unfold okPV; rw [hok, g0]; rfl
      refine ⟨hv, h0, g1, g2, ?_⟩
      unfold putPart partB turnB
      rw [if_pos hv, if_pos rfl, g3]
      obtain ⟨i, rfl⟩ := Int.eq_ofNat_of_zero_le h0
      rw [Int.toNat_natCast, List.drop_take, List.drop_take, flipB_drop l i i (Nat.le_refl _)]
      unfold turnL
      rw [List.map_take, List.map_map]
      have : ((fun x : Int => 255 - x) ∘ fun x => 255 - x) = id := by funext x; simp only [Function.comp, id]; omega
      rw [this, List.map_id]
  · rw [if_neg hc] at h; simp [noPart] at h
end Go.Proofs.YtnfmpopmigbkoaaM

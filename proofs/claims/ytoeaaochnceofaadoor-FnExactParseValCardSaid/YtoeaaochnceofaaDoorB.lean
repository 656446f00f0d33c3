/- Bytes as lists of whole numbers: the bits that the functions use, numbers in groups of seven bits, the sum, bytes with their bits turned, texts that end. No Go in sight. -/
import Derived.Test.YtoeaaochnceofaaDoorM
import Derived.Laws.BitsAllLaws
import Derived.Laws.Bits128
import Derived.Lib.Bytes
namespace Go.Proofs.YtoeaaochnceofaaDoorM
set_option linter.unusedVariables false
set_option linter.unusedSimpArgs false
open Go.RowKit Go.Proofs.YtoeaaochnceofaaDoorW.PrintWords Go.Proofs.YtoeaaochnceofaaDoorW.PrintMore

def IsB (l : List Int) : Prop := ∀ x ∈ l, 0 ≤ x ∧ x ≤ 255
theorem isB_wf {l : List Int} (h : ∀ x ∈ l, (Lit.int .u8 x).wf = true) : IsB l := fun x hx => wf_u8 (h x hx)
theorem IsB.get {l : List Int} (h : IsB l) (i : Nat) (hi : i < l.length) : 0 ≤ l[i] ∧ l[i] ≤ 255 := h _ (List.getElem_mem hi)
theorem IsB.append {a b : List Int} (ha : IsB a) (hb : IsB b) : IsB (a ++ b) := fun x hx => (List.mem_append.1 hx).elim (ha x) (hb x)
theorem IsB.nil : IsB [] := fun x hx => by cases hx
theorem IsB.cons {x : Int} {l : List Int} (h0 : 0 ≤ x) (h1 : x ≤ 255) (hl : IsB l) : IsB (x :: l) := fun y hy => by
  rcases List.mem_cons.1 hy with rfl | hy
  · exact ⟨h0, h1⟩
  · exact hl y hy
theorem IsB.take {l : List Int} (h : IsB l) (n : Nat) : IsB (l.take n) := fun x hx => h x (List.mem_of_mem_take hx)
theorem IsB.drop {l : List Int} (h : IsB l) (n : Nat) : IsB (l.drop n) := fun x hx => h x (List.mem_of_mem_drop hx)

/-! ### bits -/
theorem wraps_i64 (n : Int) (h0 : 0 ≤ n) (h1 : n < 2 ^ 63) : IntKind.i64.wrap n = n := by rw [IntKind.wrap_i64]; omega
theorem and255 (n : Int) : bits .and .i64 n 255 = n % 256 := by
  have h127 : (BitVec.ofInt 64 255).toNat = 2 ^ 8 - 1 := by decide
  have key : (BitVec.ofInt 64 n &&& BitVec.ofInt 64 255).toNat = (n % ((2 ^ 64 : Nat) : Int)).toNat % 2 ^ 8 := by
    rw [BitVec.toNat_and, BitVec.toNat_ofInt, h127, Nat.and_two_pow_sub_one_eq_mod]
  show IntKind.i64.wrap ((BitVec.ofInt 64 n &&& BitVec.ofInt 64 255).toNat : Nat) = n % 256
  rw [key, IntKind.wrap_i64]
  omega
theorem and1 (n : Int) : bits .and .i64 n 1 = n % 2 := by
  have h127 : (BitVec.ofInt 64 1).toNat = 2 ^ 1 - 1 := by decide
  have key : (BitVec.ofInt 64 n &&& BitVec.ofInt 64 1).toNat = (n % ((2 ^ 64 : Nat) : Int)).toNat % 2 ^ 1 := by
    rw [BitVec.toNat_and, BitVec.toNat_ofInt, h127, Nat.and_two_pow_sub_one_eq_mod]
  show IntKind.i64.wrap ((BitVec.ofInt 64 n &&& BitVec.ofInt 64 1).toNat : Nat) = n % 2
  rw [key, IntKind.wrap_i64]
  omega
theorem nxor255 : ∀ n : Fin 256, 255 ^^^ n.val = 255 - n.val := by decide +kernel
theorem xor255 (x : Int) (h0 : 0 ≤ x) (h1 : x ≤ 255) : bits .xor .u8 255 x = 255 - x := by
  rw [u8_xor 255 x (by omega) (by omega) h0 (by omega)]
  obtain ⟨n, rfl⟩ := Int.eq_ofNat_of_zero_le h0
  have := nxor255 ⟨n, by omega⟩
  simp only [Int.toNat_natCast]
  rw [show (255 : Int).toNat = 255 from rfl, this]
  simp only []
  omega
theorem xor0 (x : Int) (h0 : 0 ≤ x) (h1 : x ≤ 255) : bits .xor .u8 x 0 = x := by
  rw [u8_xor x 0 h0 (by omega) (by omega) (by omega)]
  simp; omega
theorem xor_255 (x : Int) (h0 : 0 ≤ x) (h1 : x ≤ 255) : bits .xor .u8 x 255 = 255 - x := by
  rw [← xor255 x h0 h1]
  simp only [bits, BitVec.xor_comm]
theorem or_hi_lo (x y : Int) (h0 : 0 ≤ x) (h1 : x < 36028797018963968) (h2 : 0 ≤ y) (h3 : y ≤ 255) : bits .or .i64 (x * 256) y = x * 256 + y :=
  bits_join .i64 63 (by decide) wraps_i64 8 (x * 256) y (by omega) (by omega) (by omega) h2 (by omega) (by omega)
theorem or_comm' (x y : Int) : bits .or .i64 x y = bits .or .i64 y x := by simp only [bits, BitVec.or_comm]
theorem or128 (x : Int) (h0 : 0 ≤ x) (h1 : x < 128) : bits .or .i64 x 128 = x + 128 := by
  rw [or_comm', bits_join .i64 63 (by decide) wraps_i64 7 128 x (by omega) (by omega) (by omega) h0 (by omega) (by omega)]
  omega

/-! ### the nearest number that is kept -/
def clampN (n lo hi : Int) : Int := mx lo (mn n hi)
theorem clampN_spec (n lo hi : Int) (h : lo ≤ hi) : lo ≤ clampN n lo hi ∧ clampN n lo hi ≤ hi ∧ (lo ≤ n → n ≤ hi → clampN n lo hi = n) ∧ (n < lo → clampN n lo hi = lo) ∧ (hi < n → clampN n lo hi = hi) := by
  unfold clampN mx mn
  split <;> split <;> omega

/-! ### numbers in groups of seven bits -/
def putU (n : Nat) : List Int := if n ≤ 127 then [(n : Int)] else ((n % 128 + 128 : Nat) : Int) :: putU (n / 128)
termination_by n
decreasing_by omega
theorem putU_small {n : Nat} (h : n ≤ 127) : putU n = [(n : Int)] := by rw [putU, if_pos h]
theorem putU_big {n : Nat} (h : ¬ n ≤ 127) : putU n = ((n % 128 + 128 : Nat) : Int) :: putU (n / 128) := by rw [putU, if_neg h]
theorem putU_isB (n : Nat) : IsB (putU n) := by
  induction n using Nat.strongRecOn with
  | _ n ih =>
    by_cases h : n ≤ 127
    · rw [putU_small h]; exact IsB.cons (by omega) (by omega) IsB.nil
    · rw [putU_big h]; exact IsB.cons (by omega) (by omega) (ih _ (by omega))
theorem putU_len (n : Nat) : 1 ≤ (putU n).length ∧ (putU n).length ≤ n + 1 := by
  induction n using Nat.strongRecOn with
  | _ n ih =>
    by_cases h : n ≤ 127
    · rw [putU_small h]; simp
    · rw [putU_big h]
      have := ih (n / 128) (by omega)
      simp only [List.length_cons]; omega
def clampU (n : Int) : Nat := (clampN n 0 1000000).toNat
theorem clampU_cast (n : Int) : ((clampU n : Nat) : Int) = clampN n 0 1000000 := by
  have := clampN_spec n 0 1000000 (by omega)
  unfold clampU; omega
theorem clampU_le (n : Int) : clampU n ≤ 1000000 := by
  have := clampN_spec n 0 1000000 (by omega)
  unfold clampU; omega
/-- so many bytes more may be read · the number so far, of so many groups · the bytes from here on -/
def getUB : Nat → Nat → Int → List Int → Option (Int × Nat)
  | 0, _, _, _ => none
  | _ + 1, _, _, [] => none
  | f + 1, k, n, x :: xs => if x ≥ 128 then getUB f (k + 1) (n + x % 128 * 128 ^ k) xs else if (x = 0 ∧ 0 < k) ∨ n + x % 128 * 128 ^ k > 1000000 then none else some (n + x % 128 * 128 ^ k, k + 1)
def getUR (p : Int) : Option (Int × Nat) → Int × Int × Bool
  | some (n, c) => (n, p + c, true)
  | none => (0, 0, false)
def getU (l : List Int) (p : Int) : Int × Int × Bool := if 0 ≤ p then getUR p (getUB 3 0 0 (l.drop p.toNat)) else (0, 0, false)
theorem getUB_bounds : ∀ (f k : Nat) (n : Int) (l : List Int), 0 ≤ n → IsB l → ∀ m c, getUB f k n l = some (m, c) → 0 ≤ m ∧ m ≤ 1000000 ∧ k < c ∧ c ≤ k + l.length
  | 0, _, _, _, _, _, _, _, h => by simp [getUB] at h
  | _ + 1, _, _, [], _, _, _, _, h => by simp [getUB] at h
  | f + 1, k, n, x :: xs, h0, hb, m, c, h => by
    have hx := hb x (by simp)
    have hm : 0 ≤ n + x % 128 * 128 ^ k := by
      have : (0 : Int) ≤ x % 128 * 128 ^ k := Int.mul_nonneg (by omega) (Int.pow_nonneg (by omega))
      omega
    rw [getUB] at h
    split at h
    · have := getUB_bounds f (k + 1) _ xs hm (fun y hy => hb y (by simp [hy])) m c h
      simp only [List.length_cons]; omega
    · split at h
      · cases h
      · rename_i hc
        simp only [Option.some.injEq, Prod.mk.injEq] at h
        obtain ⟨rfl, rfl⟩ := h
        simp only [List.length_cons]
        omega
theorem getU_bounds (l : List Int) (p : Int) (hb : IsB l) (hp : 0 ≤ p) : 0 ≤ (getU l p).1 ∧ (getU l p).1 ≤ 1000000 ∧ 0 ≤ (getU l p).2.1 ∧ ((getU l p).2.2 = true → (getU l p).2.1 ≤ l.length) := by
  unfold getU
  rw [if_pos hp]
  cases h : getUB 3 0 0 (l.drop p.toNat) with
  | none => simp [getUR]
  | some r =>
    obtain ⟨m, c⟩ := r
    have := getUB_bounds 3 0 0 _ (by omega) (hb.drop _) m c h
    rw [List.length_drop] at this
    simp only [getUR]
    refine ⟨by omega, by omega, by omega, fun _ => by omega⟩
theorem getUB_cons (f k : Nat) (n x : Int) (xs : List Int) : getUB (f + 1) k n (x :: xs) = if x ≥ 128 then getUB f (k + 1) (n + x % 128 * 128 ^ k) xs else if (x = 0 ∧ 0 < k) ∨ n + x % 128 * 128 ^ k > 1000000 then none else some (n + x % 128 * 128 ^ k, k + 1) := rfl
theorem e0 : (128 : Int) ^ 0 = 1 := rfl
theorem e1 : (128 : Int) ^ (0 + 1) = 128 := rfl
theorem e2 : (128 : Int) ^ (0 + 1 + 1) = 16384 := rfl
theorem getUB_putU (n : Nat) (h : n ≤ 1000000) (rest : List Int) : getUB 3 0 0 (putU n ++ rest) = some ((n : Int), (putU n).length) := by
  by_cases h1 : n ≤ 127
  · rw [putU_small h1]
    rw [show [(n : Int)] ++ rest = (n : Int) :: rest from rfl, getUB_cons, e0]
    rw [if_neg (by omega), if_neg (by omega)]
    simp only [Option.some.injEq, Prod.mk.injEq, List.length_cons, List.length_nil]
    refine ⟨by omega, trivial⟩
  · rw [putU_big h1]
    by_cases h2 : n / 128 ≤ 127
    · rw [putU_small h2]
      rw [show (((n % 128 + 128 : Nat) : Int) :: [((n / 128 : Nat) : Int)]) ++ rest = ((n % 128 + 128 : Nat) : Int) :: ((n / 128 : Nat) : Int) :: rest from rfl, getUB_cons, getUB_cons, e0, e1]
      rw [if_pos (by omega), if_neg (by omega), if_neg (by omega)]
      simp only [Option.some.injEq, Prod.mk.injEq, List.length_cons, List.length_nil]
      refine ⟨by omega, trivial⟩
    · rw [putU_big h2, putU_small (show n / 128 / 128 ≤ 127 by omega)]
      rw [show (((n % 128 + 128 : Nat) : Int) :: ((n / 128 % 128 + 128 : Nat) : Int) :: [((n / 128 / 128 : Nat) : Int)]) ++ rest = ((n % 128 + 128 : Nat) : Int) :: ((n / 128 % 128 + 128 : Nat) : Int) :: ((n / 128 / 128 : Nat) : Int) :: rest from rfl, getUB_cons, getUB_cons, getUB_cons, e0, e1, e2]
      rw [if_pos (by omega), if_pos (by omega), if_neg (by omega), if_neg (by omega)]
      simp only [Option.some.injEq, Prod.mk.injEq, List.length_cons, List.length_nil]
      refine ⟨by omega, trivial⟩
theorem getUB_cut (n : Nat) (h : n ≤ 1000000) : getUB 3 0 0 (putU n).dropLast = none := by
  by_cases h1 : n ≤ 127
  · rw [putU_small h1]; rfl
  · rw [putU_big h1]
    by_cases h2 : n / 128 ≤ 127
    · rw [putU_small h2]
      rw [show (((n % 128 + 128 : Nat) : Int) :: [((n / 128 : Nat) : Int)]).dropLast = [((n % 128 + 128 : Nat) : Int)] from rfl, getUB_cons]
      rw [if_pos (by omega)]; rfl
    · rw [putU_big h2, putU_small (show n / 128 / 128 ≤ 127 by omega)]
      rw [show (((n % 128 + 128 : Nat) : Int) :: ((n / 128 % 128 + 128 : Nat) : Int) :: [((n / 128 / 128 : Nat) : Int)]).dropLast = ((n % 128 + 128 : Nat) : Int) :: [((n / 128 % 128 + 128 : Nat) : Int)] from rfl, getUB_cons, getUB_cons]
      rw [if_pos (by omega), if_pos (by omega)]; rfl

theorem shl7 (x : Int) (j : Nat) (hj : j < 3) (h0 : 0 ≤ x) (h1 : x ≤ 127) : shl .i64 x (7 * (j : Int)) = x * 128 ^ j := by
  have : j = 0 ∨ j = 1 ∨ j = 2 := by omega
  unfold shl
  rcases this with rfl | rfl | rfl
  · rw [IntKind.wrap_i64]
    simp [IntKind.bits]; omega
  · rw [IntKind.wrap_i64]
    simp [IntKind.bits]; omega
  · rw [IntKind.wrap_i64]
    simp [IntKind.bits]; omega
theorem pow128 (j : Nat) (hj : j < 3) : (1 : Int) ≤ 128 ^ j ∧ (128 : Int) ^ j ≤ 16384 ∧ (128 : Int) ^ (j + 1) = 128 ^ j * 128 := by
  have : j = 0 ∨ j = 1 ∨ j = 2 := by omega
  rcases this with rfl | rfl | rfl <;> decide
theorem grp_bounds (x n : Int) (j : Nat) (hj : j < 3) (h0 : 0 ≤ n) (h1 : n < 128 ^ j) (hx0 : 0 ≤ x) (hx1 : x ≤ 255) : 0 ≤ x % 128 * 128 ^ j ∧ n + x % 128 * 128 ^ j < 128 ^ (j + 1) ∧ n + x % 128 * 128 ^ j < 2097152 := by
  have : j = 0 ∨ j = 1 ∨ j = 2 := by omega
  rcases this with rfl | rfl | rfl
  · simp only [Int.pow_zero, Nat.zero_add, Int.pow_succ] at *; omega
  · simp only [Int.pow_zero, Nat.zero_add, Int.pow_succ] at *; omega
  · simp only [Int.pow_zero, Nat.zero_add, Int.pow_succ] at *; omega
theorem grp_w (x n : Int) (j : Nat) (hj : j < 3) (h0 : 0 ≤ n) (h1 : n < 128 ^ j) (hx0 : 0 ≤ x) (hx1 : x ≤ 255) : wrap64 (n + x % 128 * 128 ^ j) = n + x % 128 * 128 ^ j := by
  obtain ⟨g0, g1, g2⟩ := grp_bounds x n j hj h0 h1 hx0 hx1
  clear g1 h1
  exact w64 (by omega) (by omega)

/-! ### texts -/
def getTextR (l : List Int) : Int × Int × Bool → ByteArray × Int × Bool
  | (_, _, false) => ((⟨#[]⟩ : ByteArray), 0, false)
  | (n, q, true) => if n > (l.length : Int) - q then ((⟨#[]⟩ : ByteArray), 0, false) else (strOfNums ((l.take (q + n).toNat).drop q.toNat), q + n, true)
def getText (l : List Int) (p : Int) : ByteArray × Int × Bool := getTextR l (getU l p)

/-! ### marks -/
def marks (a : Int) (n : Nat) : List Int := (List.range n).map fun i : Nat => (a + (i : Int)) % 256
theorem marks_len (a : Int) (n : Nat) : (marks a n).length = n := by simp [marks]
theorem marks_get (a : Int) (n i : Nat) (h : i < (marks a n).length) : (marks a n)[i] = (a + i) % 256 := by simp [marks]

/-! ### bits turned from a place on -/
def flipB (l : List Int) (p : Int) : List Int := l.take p.toNat ++ (l.drop p.toNat).map fun x => 255 - x
theorem flipB_len (l : List Int) (p : Int) : (flipB l p).length = l.length := by simp [flipB]; omega
theorem flipB_isB {l : List Int} (h : IsB l) (p : Int) : IsB (flipB l p) := (h.take _).append fun x hx => by
  obtain ⟨y, hy, rfl⟩ := List.mem_map.1 hx
  have := h y (List.mem_of_mem_drop hy)
  omega

/-! ### texts as lists of numbers -/
theorem toList_strOfNums (l : List Int) : (strOfNums l).toList = l.map fun n => UInt8.ofNat n.toNat := by
  rw [ByteArray.toList_eq]; rfl
theorem u8_inj {x y : Int} (hx : 0 ≤ x ∧ x ≤ 255) (hy : 0 ≤ y ∧ y ≤ 255) : UInt8.ofNat x.toNat = UInt8.ofNat y.toNat ↔ x = y := by
  constructor
  · intro h
    have := congrArg UInt8.toNat h
    simp only [UInt8.toNat_ofNat'] at this
    omega
  · rintro rfl; rfl
theorem map_u8_inj {a b : List Int} (ha : IsB a) (hb : IsB b) : (a.map fun n => UInt8.ofNat n.toNat) = (b.map fun n => UInt8.ofNat n.toNat) ↔ a = b := by
  induction a generalizing b with
  | nil => cases b <;> simp
  | cons x a ih =>
    cases b with
    | nil => simp
    | cons y b =>
      simp only [List.map_cons, List.cons.injEq]
      rw [u8_inj (ha x (by simp)) (hb y (by simp)), ih (fun z hz => ha z (by simp [hz])) (fun z hz => hb z (by simp [hz]))]
theorem strOfNums_inj {a b : List Int} (ha : IsB a) (hb : IsB b) : (strOfNums a).toList = (strOfNums b).toList ↔ a = b := by
  rw [toList_strOfNums, toList_strOfNums, map_u8_inj ha hb]
theorem bytesOf_isB (s : ByteArray) : IsB (bytesOf s) := fun x hx => by
  obtain ⟨b, _, rfl⟩ := List.mem_map.1 hx
  have := b.toNat_lt
  omega
theorem bytesOf_len (s : ByteArray) : (bytesOf s).length = s.size := by
  unfold bytesOf
  rw [List.length_map, Array.length_toList]; rfl
theorem bytesOf_strOfNums {l : List Int} (h : IsB l) : bytesOf (strOfNums l) = l := by
  unfold bytesOf strOfNums
  rw [List.map_map]
  conv => rhs; rw [← List.map_id l]
  apply List.map_congr_left
  intro x hx
  have := h x hx
  simp only [Function.comp, UInt8.toNat_ofNat', id]
  omega
theorem strOfNums_bytesOf (s : ByteArray) : strOfNums (bytesOf s) = s := by
  unfold bytesOf strOfNums
  rw [List.map_map]
  have : (s.data.toList.map ((fun n : Int => UInt8.ofNat n.toNat) ∘ fun b => (b.toNat : Int))) = s.data.toList := by
    conv => rhs; rw [← List.map_id s.data.toList]
    apply List.map_congr_left
    intro x _
    simp
  rw [this]
theorem str_eq_iff (s t : ByteArray) : s.toList = t.toList ↔ bytesOf s = bytesOf t := by
  rw [ByteArray.toList_eq, ByteArray.toList_eq]
  constructor
  · intro h; unfold bytesOf; rw [h]
  · intro h
    have := congrArg strOfNums h
    rw [strOfNums_bytesOf, strOfNums_bytesOf] at this
    rw [this]
theorem bt_get (s : ByteArray) (i : Nat) (h : i < s.size) : bt s (i : Int) = (bytesOf s)[i]'(by rw [bytesOf_len]; exact h) := by
  unfold bt bytesOf
  simp only [Int.toNat_natCast, h, dif_pos, List.getElem_map]
  rfl

/-! ### the sum -/
def crcStep (x : Nat) : Nat := if x % 2 = 1 then x / 2 ^^^ 2197175160 else x / 2
def crcN : Nat → Nat → Nat
  | 0, x => x
  | j + 1, x => crcN j (crcStep x)
def crcByte (x b : Nat) : Nat := crcN 8 (x ^^^ b)
def crcL : Nat → List Int → Nat
  | x, [] => x
  | x, b :: l => crcL (crcByte x b.toNat) l
def crc (l : List Int) : Nat := crcL 4294967295 l ^^^ 4294967295
theorem crcStep_lt {x : Nat} (h : x < 4294967296) : crcStep x < 4294967296 := by
  unfold crcStep
  split
  · exact Nat.xor_lt_two_pow (n := 32) (by omega) (by omega)
  · omega
theorem crcN_lt : ∀ (j : Nat) {x : Nat}, x < 4294967296 → crcN j x < 4294967296
  | 0, _, h => h
  | j + 1, _, h => crcN_lt j (crcStep_lt h)
theorem crcByte_lt {x b : Nat} (hx : x < 4294967296) (hb : b < 256) : crcByte x b < 4294967296 := crcN_lt 8 (Nat.xor_lt_two_pow (n := 32) (by omega) (by omega))
theorem xor_inj {a b c : Nat} (h : a ^^^ c = b ^^^ c) : a = b := by
  have := congrArg (· ^^^ c) h
  simpa [Nat.xor_assoc] using this
theorem crcStep_inj {a b : Nat} (ha : a < 4294967296) (hb : b < 4294967296) (h : crcStep a = crcStep b) : a = b := by
  unfold crcStep at h
  have mixed : ∀ x y : Nat, x < 2147483648 → y < 2147483648 → x ^^^ 2197175160 ≠ y := by
    intro x y hx hy e
    have h31 : (x ^^^ 2197175160).testBit 31 = y.testBit 31 := by rw [e]
    rw [Nat.testBit_xor, Nat.testBit_lt_two_pow (show x < 2 ^ 31 by omega), Nat.testBit_lt_two_pow (show y < 2 ^ 31 by omega)] at h31
    revert h31; decide
  split at h <;> split at h
  · have := xor_inj h; omega
  · exact absurd h (mixed _ _ (by omega) (by omega))
  · exact absurd h.symm (mixed _ _ (by omega) (by omega))
  · omega
theorem crcN_inj : ∀ (j : Nat) {a b : Nat}, a < 4294967296 → b < 4294967296 → crcN j a = crcN j b → a = b
  | 0, _, _, _, _, h => h
  | j + 1, _, _, ha, hb, h => crcStep_inj ha hb (crcN_inj j (crcStep_lt ha) (crcStep_lt hb) h)
theorem crcByte_inj {a b c d : Nat} (ha : a < 4294967296) (hb : b < 4294967296) (hc : c < 256) (hd : d < 256) (h : crcByte a c = crcByte b d) : a ^^^ c = b ^^^ d :=
  crcN_inj 8 (Nat.xor_lt_two_pow (n := 32) (by omega) (by omega)) (Nat.xor_lt_two_pow (n := 32) (by omega) (by omega)) h
theorem crcByte_eq (x b : Nat) : crcByte x b = crcN 8 (x ^^^ b) := rfl
attribute [irreducible] crcByte
theorem crcL_cons (x : Nat) (b : Int) (l : List Int) : crcL x (b :: l) = crcL (crcByte x b.toNat) l := rfl
theorem crcL_lt (l : List Int) {x : Nat} (h : x < 4294967296) (hb : IsB l) : crcL x l < 4294967296 := by
  induction l generalizing x with
  | nil => exact h
  | cons b l ih =>
    have hb0 := hb b (by simp)
    rw [crcL_cons]
    exact ih (crcByte_lt h (by omega)) (fun y hy => hb y (by simp [hy]))
theorem crc_lt (l : List Int) (h : IsB l) : crc l < 4294967296 := Nat.xor_lt_two_pow (n := 32) (crcL_lt l (by omega) h) (by omega)
theorem crcL_inj (l : List Int) {a b : Nat} (ha : a < 4294967296) (hb : b < 4294967296) (hc : IsB l) (h : crcL a l = crcL b l) : a = b := by
  induction l generalizing a b with
  | nil => exact h
  | cons c l ih =>
    have hc0 := hc c (by simp)
    rw [crcL_cons, crcL_cons] at h
    have h1 := ih (crcByte_lt ha (show c.toNat < 256 by omega)) (crcByte_lt hb (by omega)) (fun y hy => hc y (by simp [hy])) h
    exact xor_inj (crcByte_inj (a := a) (b := b) (c := c.toNat) (d := c.toNat) ha hb (by omega) (by omega) h1)
theorem crcL_append (a b : List Int) (x : Nat) : crcL x (a ++ b) = crcL (crcL x a) b := by
  induction a generalizing x with
  | nil => rfl
  | cons c a ih => rw [List.cons_append, crcL_cons, crcL_cons, ih]
/-- One byte turned into another one: another sum. -/
theorem crc_set_ne (l : List Int) (i : Nat) (h : i < l.length) (v : Int) (hl : IsB l) (hv : 0 ≤ v ∧ v ≤ 255) (hne : v ≠ l[i]) : crc (l.set i v) ≠ crc l := by
  intro e
  have e1 := xor_inj e
  have hs : l.set i v = l.take i ++ v :: l.drop (i + 1) := List.set_eq_take_append_cons_drop .. |>.trans (by rw [if_pos h])
  have hl' : l = l.take i ++ l[i] :: l.drop (i + 1) := by rw [← List.drop_eq_getElem_cons h, List.take_append_drop]
  have e2 : crcL (crcL 4294967295 (l.take i)) (v :: l.drop (i + 1)) = crcL (crcL 4294967295 (l.take i)) (l[i] :: l.drop (i + 1)) := by
    rw [← crcL_append, ← crcL_append, ← hs, ← hl']; exact e1
  rw [crcL_cons, crcL_cons] at e2
  have hx : crcL 4294967295 (l.take i) < 4294967296 := crcL_lt _ (by omega) (hl.take i)
  have hli := hl.get i h
  have e3 := crcByte_inj hx hx (by omega) (by omega) (crcL_inj _ (crcByte_lt hx (show v.toNat < 256 by omega)) (crcByte_lt hx (show l[i].toNat < 256 by omega)) (hl.drop _) e2)
  rw [Nat.xor_comm _ v.toNat, Nat.xor_comm _ l[i].toNat] at e3
  have e4 := xor_inj e3
  omega
def sum4 (x : Nat) : List Int := [(x : Int) / 16777216 % 256, (x : Int) / 65536 % 256, (x : Int) / 256 % 256, (x : Int) % 256]
theorem sum4_isB (x : Nat) : IsB (sum4 x) := by
  unfold sum4
  exact IsB.cons (by omega) (by omega) (IsB.cons (by omega) (by omega) (IsB.cons (by omega) (by omega) (IsB.cons (by omega) (by omega) IsB.nil)))
theorem sum4_inj {x y : Nat} (hx : x < 4294967296) (hy : y < 4294967296) (h : sum4 x = sum4 y) : x = y := by
  unfold sum4 at h
  simp only [List.cons.injEq, and_true] at h
  omega
def putSum (l : List Int) : List Int := l ++ sum4 (crc l)
theorem putSum_isB {l : List Int} (h : IsB l) : IsB (putSum l) := h.append (sum4_isB _)
theorem putSum_len (l : List Int) : (putSum l).length = l.length + 4 := by simp [putSum, sum4]
def getSum (l : List Int) : List Int × Bool := if l.length < 4 then ([], false) else if putSum (l.take (l.length - 4)) = l then (l.take (l.length - 4), true) else ([], false)

/-! ### texts that end -/
def escB : List Int → List Int
  | [] => [0, 1]
  | x :: l => if x = 0 then 0 :: 255 :: escB l else x :: escB l
theorem escB_len (l : List Int) : 2 ≤ (escB l).length ∧ (escB l).length ≤ 2 * l.length + 2 := by
  induction l with
  | nil => simp [escB]
  | cons x l ih =>
    rw [escB]
    split <;> simp only [List.length_cons] <;> omega
theorem escB_isB {l : List Int} (h : IsB l) : IsB (escB l) := by
  induction l with
  | nil => exact IsB.cons (by omega) (by omega) (IsB.cons (by omega) (by omega) IsB.nil)
  | cons x l ih =>
    have hx := h x (by simp)
    have hl := ih (fun y hy => h y (by simp [hy]))
    rw [escB]
    split
    · exact IsB.cons (by omega) (by omega) (IsB.cons (by omega) (by omega) hl)
    · exact IsB.cons hx.1 hx.2 hl
/-- what is read so far · where we stand · the bytes from here on -/
def getEB : List Int → Nat → List Int → Option (List Int × Nat)
  | _, _, [] => none
  | _, _, [x] => none
  | o, p, x :: y :: l => if x = 0 then (if y = 1 then some (o, p + 2) else if y = 255 then getEB (o ++ [0]) (p + 2) l else none) else getEB (o ++ [x]) (p + 1) (y :: l)
termination_by _ _ l => l.length
def getER : Option (List Int × Nat) → ByteArray × Int × Bool
  | some (o, p) => (strOfNums o, (p : Int), true)
  | none => ((⟨#[]⟩ : ByteArray), 0, false)
def getEsc (l : List Int) (p : Int) : ByteArray × Int × Bool := if 0 ≤ p then getER (getEB [] p.toNat (l.drop p.toNat)) else ((⟨#[]⟩ : ByteArray), 0, false)
theorem getEB_cons (o : List Int) (p : Nat) (x y : Int) (l : List Int) : getEB o p (x :: y :: l) = if x = 0 then (if y = 1 then some (o, p + 2) else if y = 255 then getEB (o ++ [0]) (p + 2) l else none) else getEB (o ++ [x]) (p + 1) (y :: l) := by
  rw [getEB]
theorem getEB_one (o : List Int) (p : Nat) (x : Int) : getEB o p [x] = none := by rw [getEB]
theorem getEB_ne (o : List Int) (p : Nat) (x : Int) (l : List Int) (h : x ≠ 0) : getEB o p (x :: l) = getEB (o ++ [x]) (p + 1) l := by
  cases l with
  | nil => rw [getEB, getEB]
  | cons y l => rw [getEB_cons, if_neg h]
theorem getEB_nil (o : List Int) (p : Nat) : getEB o p [] = none := by rw [getEB]

/-! ### numbers in order -/
def fixB (n : Int) : List Int :=
  let m := clampN n (-2147483648) 2147483647 + 2147483648
  [m / 16777216 % 256, m / 65536 % 256, m / 256 % 256, m % 256]
theorem fixB_len (n : Int) : (fixB n).length = 4 := rfl
theorem fixB_isB (n : Int) : IsB (fixB n) := by
  unfold fixB
  exact IsB.cons (by omega) (by omega) (IsB.cons (by omega) (by omega) (IsB.cons (by omega) (by omega) (IsB.cons (by omega) (by omega) IsB.nil)))
/-- how many bytes a number has -/
def nB (n : Nat) : Nat := if h : n = 0 then 0 else nB (n / 256) + 1
termination_by n
decreasing_by omega
/-- so many bytes of a number, the highest first -/
def beB (n : Nat) : Nat → List Int
  | 0 => []
  | k + 1 => ((n / 256 ^ k % 256 : Nat) : Int) :: beB n k
theorem beB_len (n k : Nat) : (beB n k).length = k := by induction k with
  | zero => rfl
  | succ k ih => rw [beB, List.length_cons, ih]
theorem beB_isB (n k : Nat) : IsB (beB n k) := by induction k with
  | zero => exact IsB.nil
  | succ k ih => rw [beB]; exact IsB.cons (by omega) (by omega) ih
theorem nB_zero : nB 0 = 0 := by rw [nB]; rfl
theorem nB_pos {n : Nat} (h : n ≠ 0) : nB n = nB (n / 256) + 1 := by rw [nB, dif_neg h]
theorem nB_le (n : Nat) (k : Nat) (h : n < 256 ^ k) : nB n ≤ k := by
  induction k generalizing n with
  | zero => rw [show n = 0 by simpa using h, nB_zero]; omega
  | succ k ih =>
    by_cases h0 : n = 0
    · rw [h0, nB_zero]; omega
    · rw [nB_pos h0]
      have := ih (n / 256) (by rw [Nat.pow_succ] at h; omega)
      omega
theorem nB_lt (n : Nat) : n < 256 ^ nB n := by
  induction n using Nat.strongRecOn with
  | _ n ih =>
    by_cases h0 : n = 0
    · rw [h0, nB_zero]; decide
    · rw [nB_pos h0, Nat.pow_succ]
      have := ih (n / 256) (by omega)
      omega
def varN (n : Int) : Int := clampN n (-1000000000000000) 1000000000000000
def varB (n : Int) : List Int :=
  let m := varN n
  if 0 ≤ m then (128 + (nB m.toNat : Int)) :: beB m.toNat (nB m.toNat) else (127 - (nB (-1 - m).toNat : Int)) :: (beB (-1 - m).toNat (nB (-1 - m).toNat)).map fun x => 255 - x
theorem varN_spec (n : Int) : -1000000000000000 ≤ varN n ∧ varN n ≤ 1000000000000000 := by
  have := clampN_spec n (-1000000000000000) 1000000000000000 (by omega)
  unfold varN; omega
theorem nB_7 {n : Nat} (h : n ≤ 1000000000000000) : nB n ≤ 7 := nB_le n 7 (by omega)
theorem varB_len (n : Int) : 1 ≤ (varB n).length ∧ (varB n).length ≤ 8 := by
  have h := varN_spec n
  have h1 := nB_7 (n := (varN n).toNat) (by omega)
  unfold varB
  simp only
  split
  · rw [List.length_cons, beB_len]; omega
  · have h2 := nB_7 (n := (-1 - varN n).toNat) (by omega)
    rw [List.length_cons, List.length_map, beB_len]; omega
theorem varB_isB (n : Int) : IsB (varB n) := by
  have h := varN_spec n
  unfold varB
  simp only
  split
  · have h1 := nB_7 (n := (varN n).toNat) (by omega)
    exact IsB.cons (by omega) (by omega) (beB_isB _ _)
  · have h2 := nB_7 (n := (-1 - varN n).toNat) (by omega)
    refine IsB.cons (by omega) (by omega) (fun x hx => ?_)
    obtain ⟨y, hy, rfl⟩ := List.mem_map.1 hx
    have := beB_isB _ _ y hy
    omega
/-- bytes as a number, the highest first -/
def beN : Nat → List Int → Nat
  | x, [] => x
  | x, b :: l => beN (x * 256 + b.toNat) l
theorem beN_beB (n k x : Nat) : beN x (beB n k) = x * 256 ^ k + n % 256 ^ k := by
  induction k generalizing x with
  | zero => simp [beB, beN, Nat.mod_one]
  | succ k ih =>
    rw [beB, beN, ih]
    simp only [Int.toNat_natCast]
    rw [Nat.pow_succ, Nat.mul_comm (256 ^ k) 256, Nat.add_mul, Nat.mul_assoc, Nat.add_assoc]
    congr 1
    rw [Nat.mul_comm 256 (256 ^ k), Nat.mod_mul, Nat.mul_comm (256 ^ k)]
    omega
theorem beN_lt (l : List Int) (x : Nat) (h : IsB l) : beN x l < (x + 1) * 256 ^ l.length := by
  induction l generalizing x with
  | nil => simp [beN]
  | cons b l ih =>
    have hb := h b (by simp)
    rw [beN, List.length_cons, Nat.pow_succ]
    have := ih (x * 256 + b.toNat) (fun y hy => h y (by simp [hy]))
    have h2 : (x * 256 + b.toNat + 1) * 256 ^ l.length ≤ ((x + 1) * 256) * 256 ^ l.length := Nat.mul_le_mul_right _ (by omega)
    rw [Nat.mul_comm (256 ^ l.length) 256, ← Nat.mul_assoc]
    omega
/-- so many bytes from a place on, turned or not, as a number -/
def readB (l : List Int) (p : Int) (c : Nat) (t : Bool) : Option Nat := if 0 ≤ p ∧ p + c ≤ l.length then some (beN 0 (((l.drop p.toNat).take c).map fun x => if t = true then 255 - x else x)) else none
theorem readB_pos {l : List Int} {p : Int} {c : Nat} {t : Bool} (h0 : 0 ≤ p) (h1 : p + c ≤ l.length) : readB l p c t = some (beN 0 (((l.drop p.toNat).take c).map fun x => if t = true then 255 - x else x)) := if_pos ⟨h0, h1⟩
theorem readB_neg {l : List Int} {p : Int} {c : Nat} {t : Bool} (h : ¬ (0 ≤ p ∧ p + c ≤ l.length)) : readB l p c t = none := if_neg h
def readR : Option Nat → Int × Bool
  | some n => ((n : Int), true)
  | none => (0, false)
theorem readB_some {l : List Int} {p : Int} {c : Nat} {t : Bool} {n : Nat} (hb : IsB l) (h : readB l p c t = some n) : 0 ≤ p ∧ p + c ≤ l.length ∧ n < 256 ^ c := by
  unfold readB at h
  split at h
  · rename_i h0
    refine ⟨h0.1, h0.2, ?_⟩
    obtain rfl := Option.some.inj h
    have := beN_lt (((l.drop p.toNat).take c).map fun x => if t = true then 255 - x else x) 0 (fun x hx => by
      obtain ⟨y, hy, rfl⟩ := List.mem_map.1 hx
      have hy2 := hb y (List.mem_of_mem_drop (List.mem_of_mem_take hy))
      cases t <;> simp only [if_true, Bool.false_eq_true, if_false] <;> omega)
    rw [List.length_map, List.length_take, List.length_drop, Nat.min_eq_left (by omega)] at this
    simpa using this
  · cases h
def getFix (l : List Int) (p : Int) : Int × Int × Bool := match readB l p 4 false with
  | some n => ((n : Int) - 2147483648, p + 4, true)
  | none => (0, 0, false)
theorem beB_snoc (n k : Nat) : beB n (k + 1) = beB (n / 256) k ++ [((n % 256 : Nat) : Int)] := by
  induction k with
  | zero => simp [beB]
  | succ k ih =>
    rw [beB, ih, beB, List.cons_append, Nat.div_div_eq_div_mul, Nat.pow_succ, Nat.mul_comm 256]
def getVarR (p : Int) (c : Nat) (t : Bool) : Option Nat → Int × Int × Bool
  | none => (0, 0, false)
  | some n => if nB n = c ∧ inB (if t = true then -1 - (n : Int) else (n : Int)) (-1000000000000000) 1000000000000000 = true then ((if t = true then -1 - (n : Int) else (n : Int)), p + 1 + c, true) else (0, 0, false)
def getVar (l : List Int) (p : Int) : Int × Int × Bool :=
  if 0 ≤ p ∧ p < l.length then
    (if 128 ≤ rd l p ∧ rd l p ≤ 135 then getVarR p (rd l p - 128).toNat false (readB l (p + 1) (rd l p - 128).toNat false)
    else if 120 ≤ rd l p ∧ rd l p ≤ 127 then getVarR p (127 - rd l p).toNat true (readB l (p + 1) (127 - rd l p).toNat true) else (0, 0, false))
  else (0, 0, false)
theorem rd_isB {l : List Int} (h : IsB l) (p : Int) : 0 ≤ rd l p ∧ rd l p ≤ 255 := by
  unfold rd
  rw [List.getD_eq_getElem?_getD]
  cases hq : l[p.toNat]? with
  | none => simp
  | some v => simp; exact h v (List.mem_of_getElem? hq)
theorem varB_length (n : Int) (h : inB n (-1000000000000000) 1000000000000000 = true) : (varB n).length = nB (if 0 ≤ n then n.toNat else (-1 - n).toNat) + 1 := by
  unfold inB at h
  have h' := of_decide_eq_true h
  have e : varN n = n := (clampN_spec n (-1000000000000000) 1000000000000000 (by omega)).2.2.1 h'.1 h'.2
  unfold varB
  simp only [e]
  split
  · rw [List.length_cons, beB_len]
  · rw [List.length_cons, List.length_map, beB_len]
end Go.Proofs.YtoeaaochnceofaaDoorM

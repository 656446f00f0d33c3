/- Plain words and lemmas that the pure statements of this seat share: rounds that are enough, numbers in 64 bits, what is asked of values and of parts. No Go in sight. -/
import Derived.Test.YtoeaaochnceofaaDoorWMore
namespace Go.Proofs.YtoeaaochnceofaaDoorM
open Go.RowKit Go.Proofs.YtoeaaochnceofaaDoorW.PrintWords

theorem w64 {x : Int} (h1 : -9223372036854775808 ≤ x) (h2 : x ≤ 9223372036854775807) : wrap64 x = x := by unfold wrap64; omega
theorem wsucc {i : Nat} (h : i < 9223372036854775807) : wrap64 ((i : Int) + 1) = ((i + 1 : Nat) : Int) := by unfold wrap64; omega
theorem ev_succ {α : Type} {g : Nat → Option α} {r : α} (h : Ev (fun k => g (k + 1)) r) : Ev g r := Ev.step (fun _ => rfl) h
theorem ev_some {α : Type} (r : α) : Ev (fun _ => some r) r := Ev.now r
theorem wf_i64 {x : Int} (h : (Lit.int .i64 x).wf = true) : -9223372036854775808 ≤ x ∧ x ≤ 9223372036854775807 := by
  simp [Lit.wf, IntKind.min, IntKind.max, IntKind.signed, IntKind.bits] at h; omega
theorem wf_u8 {x : Int} (h : (Lit.int .u8 x).wf = true) : 0 ≤ x ∧ x ≤ 255 := by
  simp [Lit.wf, IntKind.min, IntKind.max, IntKind.signed, IntKind.bits] at h; omega
/-- From the last index down. -/
theorem up_ind (n : Nat) (P : Nat → Prop) (hn : P n) (hs : ∀ i, i < n → P (i + 1) → P i) : ∀ i, i ≤ n → P i := by
  intro i hi
  obtain ⟨d, rfl⟩ : ∃ d, n = i + d := ⟨n - i, by omega⟩
  induction d generalizing i with
  | zero => exact hn
  | succ d ih => exact hs i (by omega) (ih (i + 1) (by rw [show i + 1 + d = i + (d + 1) by omega]; exact hn) (fun j hj => hs j (by omega)) (by omega))

theorem take_set_succ {α : Type} (xs : List α) (i : Nat) (v : α) (h : i < xs.length) : (xs.set i v).take (i + 1) = xs.take i ++ [v] := by
  rw [List.take_succ_eq_append_getElem (by simpa using h)]
  simp [List.take_set_of_le]
theorem rd_nat (xs : List Int) (i : Nat) (h : i < xs.length) : rd xs (i : Int) = xs[i] := by
  unfold rd; simp [List.getD_eq_getElem?_getD, h]
def inB (x lo hi : Int) : Bool := decide (lo ≤ x ∧ x ≤ hi)
theorem in_ite (x lo hi : Int) : (if x ≥ lo then some (decide (x ≤ hi)) else some false) = some (inB x lo hi) := by
  unfold inB
  split <;> rename_i h
  · by_cases h2 : x ≤ hi <;> simp [h2] <;> omega
  · simp; omega
def isE (s : ByteArray) : Bool := s.toList == ([] : List UInt8)
def valOkB (k n : Int) (s : ByteArray) : Bool :=
  if k = 0 then decide (n = 0) && isE s else if k = 1 then inB n (-2147483648) 2147483647 && isE s else if k = 2 then inB n (-1000000000000000) 1000000000000000 && isE s
  else if k = 3 then decide (n = 0) && decide ((s.size : Int) ≤ 30) else if k = 4 then inB n 0 1 && isE s else false
def partOkB (c t : Int) : Bool := inB c 0 9 && inB t 1 4
def fitsB (t : Int) (null : Bool) (k n : Int) (s : ByteArray) : Bool := valOkB k n s && (if k = 0 then null else decide (k = t))
def lessVB (k n : Int) (s : ByteArray) (k' n' : Int) (s' : ByteArray) : Bool :=
  if k = k' then (if n = n' then Op.bytesLess s.toList s'.toList else decide (n < n')) else decide (k < k')
def lessPB (desc : Bool) (k n : Int) (s : ByteArray) (k' n' : Int) (s' : ByteArray) : Bool := if desc = true then lessVB k' n' s' k n s else lessVB k n s k' n' s'
def sameVB (k n : Int) (s : ByteArray) (k' n' : Int) (s' : ByteArray) : Bool := k == k' && (n == n' && (s.toList == s'.toList))
end Go.Proofs.YtoeaaochnceofaaDoorM

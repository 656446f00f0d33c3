/- The library's table of powers of ten as it is laid, and strconv.Itoa by its contract off the shelf: the number's decimal numeral. -/
import Derived.Test.YtoeaaochnceofaaDoorShelf
import Derived.Test.YtoeaaochnceofaaDoorWMore
import Derived.Lib.SmallJoins
import Derived.Lib.AppendIntMem
namespace Go.Proofs.YtoeaaochnceofaaDoorW.PrintWords
open Go.RowKit
/-- the table lies as the library's text lays it -/
def TabAt (w : World) : Prop := Go.Lib.TabIs Tryd.prog w "internal/strconv.uint64pow10" .u64 Go.Lib.pow10Tab
theorem TabAt.below {w W : World} (h : TabAt w) (hb : Aside0 (Below w.heap.size w W)) : TabAt W := Go.Joins.tab_stays (P := Tryd.prog) (g := 2) (by kernel_rfl) h hb.out (Nat.le_refl _)
theorem TabAt.drewN {W : World} (m : Nat) (h : TabAt W) : TabAt (W.drewN m) := h
def strconv_Itoa.f (a0 : Int) : Option ByteArray := if -9223372036854775808 ≤ a0 ∧ a0 ≤ 9223372036854775807 then some ⟨(Go.Lib.itoa a0).toArray⟩ else none
theorem strconv_Itoa.calls (a0 : Int) (r : ByteArray) (w : World) (h : strconv_Itoa.f a0 = some r) (htab0 : TabAt w := by first | assumption | exact TabAt.below (by assumption) (by assumption) | exact TabAt.drewN _ (by assumption) | exact TabAt.drewN _ (TabAt.below (by assumption) (by assumption))) :
    Calls Tryd.prog 23 #[.int .i64 a0] w fun e w' => e = .returned (.string r) ∧ Below w.heap.size w w' := by
  unfold strconv_Itoa.f at h
  by_cases hb : -9223372036854775808 ≤ a0 ∧ a0 ≤ 9223372036854775807
  · rw [if_pos hb] at h
    obtain rfl := Option.some.inj h
    refine (Go.Proofs.Tryd.strconv_Itoa a0 hb.1 hb.2 w htab0).mono ?_
    rintro e w' ⟨rfl, k, os, rfl⟩
    exact ⟨rfl, Go.Lib.below_grow _ w (Nat.le_refl _) k os⟩
  · rw [if_neg hb] at h; cases h
end Go.Proofs.YtoeaaochnceofaaDoorW.PrintWords

/- The library's table of powers of ten as it is laid, and strconv.Itoa by its contract off the shelf: the number's decimal numeral. -/
import Derived.Test.YtoeaaochnceofaaDoorShelf
import Derived.Test.YtoeaaochnceofaaDoorV
import Derived.Lib.SmallJoins
import Derived.Lib.AppendIntMem
import Derived.Lib.AtoiAllCases
namespace Go.Proofs.YtoeaaochnceofaaDoorW.PrintWords
open Go.RowKit
/-- the table lies as the library's text lays it; the two variables of strconv's errors hold an error each -/
structure TabAt (w : World) : Prop where
  tab : Go.Lib.TabIs Tryd.prog w "internal/strconv.uint64pow10" .u64 Go.Lib.pow10Tab
  syn : ∃ tp p, w.var? Tryd.prog "strconv.ErrSyntax" = some #[.iface tp p]
  rng : ∃ tp p, w.var? Tryd.prog "strconv.ErrRange" = some #[.iface tp p]
theorem TabAt.below' {w W : World} (h : TabAt w) (hb : Below w.heap.size w W) : TabAt W :=
  ⟨Go.Joins.tab_stays (P := Tryd.prog) (g := 2) (by kernel_rfl) h.tab hb (Nat.le_refl _),
   h.syn.imp fun _ => Exists.imp fun _ hv => Go.Joins.var_stays (P := Tryd.prog) (g := 0) (by kernel_rfl) hv hb (Nat.le_refl _),
   h.rng.imp fun _ => Exists.imp fun _ hv => Go.Joins.var_stays (P := Tryd.prog) (g := 1) (by kernel_rfl) hv hb (Nat.le_refl _)⟩
theorem TabAt.below {w W : World} (h : TabAt w) (hb : Aside0 (Below w.heap.size w W)) : TabAt W := h.below' hb.out
theorem TabAt.drewN {W : World} (m : Nat) (h : TabAt W) : TabAt (W.drewN m) := ⟨h.tab, h.syn, h.rng⟩
def strconv_Itoa.f (a0 : Int) : Option ByteArray := if -9223372036854775808 ≤ a0 ∧ a0 ≤ 9223372036854775807 then some ⟨(Go.Lib.itoa a0).toArray⟩ else none
theorem strconv_Itoa.calls (a0 : Int) (r : ByteArray) (w : World) (h : strconv_Itoa.f a0 = some r) (htab0 : TabAt w := by first | assumption | exact TabAt.below (by assumption) (by assumption) | exact TabAt.drewN _ (by assumption) | exact TabAt.drewN _ (TabAt.below (by assumption) (by assumption)) | exact TabAt.below' (by assumption) (by repeat (first | (with_reducible first | exact Aside0.out (by assumption) | apply below_alloc | apply pw_below_drewN | apply below_drew1 | refine below_set ?_ (Aside0.out (by assumption))) | exact Aside0.out (by assumption)))) :
    Calls Tryd.prog 23 #[.int .i64 a0] w fun e w' => e = .returned (.string r) ∧ Below w.heap.size w w' := by
  unfold strconv_Itoa.f at h
  by_cases hb : -9223372036854775808 ≤ a0 ∧ a0 ≤ 9223372036854775807
  · rw [if_pos hb] at h
    obtain rfl := Option.some.inj h
    refine (Go.Proofs.Tryd.strconv_Itoa a0 hb.1 hb.2 w htab0.tab).mono ?_
    rintro e w' ⟨rfl, k, os, rfl⟩
    exact ⟨rfl, Go.Lib.below_grow _ w (Nat.le_refl _) k os⟩
  · rw [if_neg hb] at h; cases h
/-- what strconv.Atoi hands back as its error: nil, or a *NumError somewhere -/
def errX : Option Int → Value → Value
  | none, _ => .nilIface
  | some _, v => .iface 61 v
theorem errX_none (v : Value) : errX none v = .nilIface := rfl
theorem errX_some (c : Int) (v : Value) : errX (some c) v = .iface 61 v := rfl
def strconv_Atoi.f (a0 : ByteArray) : Option (Int × Option Int) := if a0.size ≤ 281474976710656 then (match Go.Lib.atoiAll a0.data.toList with | .ok v => some (v, none) | .range => some (Go.Lib.atoiSat a0.data.toList, some 0) | _ => some (0, some 0)) else none
theorem strconv_Atoi.calls (a0 : ByteArray) (r1 : Int) (r2 : Option Int) (w : World) (h : strconv_Atoi.f a0 = some (r1, r2)) (htab0 : TabAt w := by first | assumption | exact TabAt.below (by assumption) (by assumption) | exact TabAt.drewN _ (by assumption) | exact TabAt.drewN _ (TabAt.below (by assumption) (by assumption)) | exact TabAt.below' (by assumption) (by repeat (first | (with_reducible first | exact Aside0.out (by assumption) | apply below_alloc | apply pw_below_drewN | apply below_drew1 | refine below_set ?_ (Aside0.out (by assumption))) | exact Aside0.out (by assumption)))) :
    Calls Tryd.prog 20 #[.string a0] w fun e w' => ∃ er, e = .returned (.tuple #[.int .i64 r1, errX r2 er]) ∧ Below w.heap.size w w' := by
  unfold strconv_Atoi.f at h
  by_cases hs : a0.size ≤ 281474976710656
  · rw [if_pos hs] at h
    cases ha : Go.Lib.atoiAll a0.data.toList with
    | ok v =>
      rw [ha] at h
      obtain ⟨rfl, rfl⟩ := Prod.mk.inj (Option.some.inj h)
      refine (Go.Proofs.Tryd.strconv_Atoi_ok a0 (by omega) _ ha w).mono ?_
      rintro e w' ⟨rfl, hw⟩
      refine ⟨.nilIface, rfl, ?_⟩
      rcases hw with rfl | ⟨t, rfl⟩
      · exact Below.refl _ _
      · exact Go.Joins.below_bytesWorld _ w 5 t (Nat.le_refl _)
    | range =>
      rw [ha] at h
      obtain ⟨rfl, rfl⟩ := Prod.mk.inj (Option.some.inj h)
      obtain ⟨tp, p, hv⟩ := htab0.rng
      refine (Go.Proofs.Tryd.strconv_Atoi_range_var a0 hs ha tp p w hv).mono ?_
      rintro e w' ⟨N, rfl, _, _, hb⟩
      exact ⟨_, rfl, hb⟩
    | _ =>
      rw [ha] at h
      obtain ⟨rfl, rfl⟩ := Prod.mk.inj (Option.some.inj h)
      obtain ⟨tp, p, hv⟩ := htab0.syn
      refine (Go.Proofs.Tryd.strconv_Atoi_syntax_var a0 hs ha tp p w hv).mono ?_
      rintro e w' ⟨N, rfl, _, _, hb⟩
      exact ⟨_, rfl, hb⟩
  · rw [if_neg hs] at h; cases h
end Go.Proofs.YtoeaaochnceofaaDoorW.PrintWords

-- Written by mkprint.py, a program of this session (the printer with additions of its own)
import Derived.Test.YtnfmpopmigbkoaaPFnPartsReadx0
import Derived.Test.YtnfmpopmigbkoaaPFnPartsReadx5
import Derived.Test.YtnfmpopmigbkoaaPFnPartsReadx6
namespace Go.Proofs.Ytnfmpopmigbkoaa.PFnPartsRead
open Go.RowKit Go.Proofs.YtnfmpopmigbkoaaW.PrintWords Go.Proofs.YtnfmpopmigbkoaaW.PrintLast Go.Proofs.YtnfmpopmigbkoaaW.PrintMore
attribute [local go_sem] max2_int min2_int max_two min_two max_three min_three max_four min_four   -- for this text's walks alone
set_option linter.unusedVariables false
set_option linter.unusedSimpArgs false

/-! ### laws_big: function 25 -/
def laws_big.f (l0 : List Int) : Option (Bool) := some (decide ((l0.length : Int) > 1048576))
set_option maxHeartbeats 8000000 in
set_option maxRecDepth 100000 in
theorem laws_big.calls (A0 : Option Addr) (c0 : Nat) (l0 : List Int) (r : Bool) (w : World) (hr0 : Kd.C (Kd.int .u8) w A0 l0.length l0) (hc0 : l0.length ≤ c0) (h : laws_big.f l0 = some r) :
  Calls Try.prog 25 #[.slice A0 l0.length c0] w fun e w' => e = .returned (.bool r) ∧ Drawn0 w w' := by
 have HR0 := zA hr0
 have HC0 := zA hc0
 clear hr0 hc0
 have H : (some (decide ((l0.length : Int) > 1048576))) = some r := h
 clear h
 obtain rfl := Option.some.inj H
 go_enter Try.func25, Try.ntmps25
 go_wp2
 go_ret
 exact ⟨zx, zz34⟩

/-! ### laws_sameBytes: function 29 -/
def laws_sameBytes.l0 : Nat → List Int → List Int → Int → Option (Bool)
  | 0, _, _, _ => none
  | k + 1, x0, x1, x5 => if x5 < (x0.length : Int) then (if 0 ≤ x5 then (if x5 < (x1.length : Int) then (if (rd x0 x5) = (rd x1 x5) then (laws_sameBytes.l0 k x0 x1 (wrap64 (x5 + 1))) else (some false)) else (none)) else (none)) else (some true)
def laws_sameBytes.f (k : Nat) (l0 : List Int) (l1 : List Int) : Option (Bool) := if (l0.length : Int) = (l1.length : Int) then (laws_sameBytes.l0 k l0 l1 0) else (some false)
theorem laws_sameBytes.mono_l : ∀ k, (∀ y0 y1 y2, LeO (laws_sameBytes.l0 k y0 y1 y2) (laws_sameBytes.l0 (k + 1) y0 y1 y2))
  | 0 => fun _ _ _ r h => by simp [laws_sameBytes.l0] at h
  | k + 1 => by
    have ih0 := laws_sameBytes.mono_l k
    · intro y0 y1 y2
      unfold laws_sameBytes.l0
      repeat' first
      | (with_reducible exact ih0 _ _ _)
      | (with_reducible exact LeO.refl _)
      | (with_reducible exact LeO.none _)
      | (with_reducible refine LeO.ite ?_ ?_)
      | (with_reducible refine LeO.bind ?_ (fun _ => ?_))
      | exact ih0 _ _ _
      | exact LeO.none _
      | refine LeO.ite ?_ ?_
      | refine LeO.bind ?_ (fun _ => ?_)
theorem laws_sameBytes.mono : ∀ a0 a1 k, LeO (laws_sameBytes.f k a0 a1) (laws_sameBytes.f (k + 1) a0 a1) := by
  intro a0 a1 k
  have ih0 := laws_sameBytes.mono_l k
  unfold laws_sameBytes.f
  repeat' first
      | (with_reducible exact ih0 _ _ _)
      | (with_reducible exact LeO.refl _)
      | (with_reducible exact LeO.none _)
      | (with_reducible refine LeO.ite ?_ ?_)
      | (with_reducible refine LeO.bind ?_ (fun _ => ?_))
      | exact ih0 _ _ _
      | exact LeO.none _
      | refine LeO.ite ?_ ?_
      | refine LeO.bind ?_ (fun _ => ?_)
set_option maxHeartbeats 8000000 in
set_option maxRecDepth 100000 in
theorem laws_sameBytes.calls (k : Nat) (A0 : Option Addr) (c0 : Nat) (l0 : List Int) (A1 : Option Addr) (c1 : Nat) (l1 : List Int) (r : Bool) (w : World) (hr0 : Kd.C (Kd.int .u8) w A0 l0.length l0) (hc0 : l0.length ≤ c0) (hr1 : Kd.C (Kd.int .u8) w A1 l1.length l1) (hc1 : l1.length ≤ c1) (h : laws_sameBytes.f k l0 l1 = some r) :
  Calls Try.prog 29 #[.slice A0 l0.length c0, .slice A1 l1.length c1] w fun e w' => e = .returned (.bool r) ∧ Drawn0 w w' := by
 have HR0 := zA hr0
 have HC0 := zA hc0
 clear hr0 hc0
 have HR1 := zA hr1
 have HC1 := zA hc1
 clear hr1 hc1
 have H : (if (l0.length : Int) = (l1.length : Int) then (laws_sameBytes.l0 k l0 l1 0) else (some false)) = some r := h
 clear h
 by_cases c3 : (l0.length : Int) = (l1.length : Int)
 ·rw [if_pos c3] at H
  have c3b0 : ((l0.length : Int) == (l1.length : Int)) = true := beq_iff_eq.mpr c3
  have c3b1 : ((l0.length : Int) != (l1.length : Int)) = false := bne_eq_false_iff_eq.mpr c3
  have c3b2 : (l0.length == l1.length) = true := by first | simpa using c3 | (simp at c3 ⊢; omega)
  clear c3
  have H' := zA H
  clear H
  go_enter Try.func29, Try.ntmps29
  go_wp2
  repeat (go_quiet (fail); try go_wp2)
  go_loopg [5] k (fun kq v5 w' => ∃ (x5_1 : Int), v5 = .int .i64 x5_1 ∧ Aside0 (laws_sameBytes.l0 kq l0 l1 x5_1 = some r) ∧ Aside0 (kq ≤ k) ∧ Drawn0 w w')
  case atStart => exact ⟨(0), zx, H', ⟨Nat.le_refl _⟩, zz34⟩
  case round =>
   clear H'
   try clear c3; try clear c3b0; try clear c3b1; try clear c3b2
   obtain ⟨x5_1, rfl, HA, HK1, ⟨m1, rfl⟩⟩ := hrel
   cases gk with
   | zero => exact absurd HA.out (by simp [laws_sameBytes.l0])
   | succ k1 =>
    have H := HA.out
    clear HA
    simp only [laws_sameBytes.l0] at H
    by_cases c4 : x5_1 < (l0.length : Int)
    ·rw [if_pos c4] at H
     have c4b0 : decide (x5_1 < (l0.length : Int)) = true := decide_eq_true c4
     clear c4
     by_cases c5 : 0 ≤ x5_1
     ·rw [if_pos c5] at H
      have c5b0 : decide (0 ≤ x5_1) = true := decide_eq_true c5
      clear c5
      by_cases c6 : x5_1 < (l1.length : Int)
      ·rw [if_pos c6] at H
       have c6b0 : decide (x5_1 < (l1.length : Int)) = true := decide_eq_true c6
       clear c6
       by_cases c7 : (rd l0 x5_1) = (rd l1 x5_1)
       ·rw [if_pos c7] at H
        have c7b0 : ((rd l0 x5_1) == (rd l1 x5_1)) = true := beq_iff_eq.mpr c7
        have c7b1 : ((rd l0 x5_1) != (rd l1 x5_1)) = false := bne_eq_false_iff_eq.mpr c7
        clear c7
        have H' := zA H
        clear H
        have p385 : 0 ≤ (x5_1 : Int) := of_decide_eq_true za
        have q385 : x5_1 < (l0.length : Int) := of_decide_eq_true za
        obtain ⟨ad385, e385, hx385_0⟩ := Kd.at_int HR0.out x5_1 p385 q385
        cases e385
        replace p385 := eq_true p385
        replace q385 := eq_true q385
        have p386 : 0 ≤ (x5_1 : Int) := of_decide_eq_true za
        have q386 : x5_1 < (l1.length : Int) := of_decide_eq_true za
        obtain ⟨ad386, e386, hx386_0⟩ := Kd.at_int HR1.out x5_1 p386 q386
        cases e386
        replace p386 := eq_true p386
        replace q386 := eq_true q386
        go_wp2
        repeat (go_quiet (fail); try go_wp2)
        go_roundg k1
        case measure => have := HK1.out; omega
        case rel => exact ⟨(wrap64 (x5_1 + 1)), zx, H', ⟨zz95⟩, zz34⟩
       ·rw [if_neg c7] at H
        have c7b0 : ((rd l0 x5_1) == (rd l1 x5_1)) = false := beq_eq_false_iff_ne.mpr c7
        have c7b1 : ((rd l0 x5_1) != (rd l1 x5_1)) = true := bne_iff_ne.mpr c7
        obtain rfl := Option.some.inj H
        have p385 : 0 ≤ (x5_1 : Int) := of_decide_eq_true za
        have q385 : x5_1 < (l0.length : Int) := of_decide_eq_true za
        obtain ⟨ad385, e385, hx385_0⟩ := Kd.at_int HR0.out x5_1 p385 q385
        cases e385
        replace p385 := eq_true p385
        replace q385 := eq_true q385
        have p386 : 0 ≤ (x5_1 : Int) := of_decide_eq_true za
        have q386 : x5_1 < (l1.length : Int) := of_decide_eq_true za
        obtain ⟨ad386, e386, hx386_0⟩ := Kd.at_int HR1.out x5_1 p386 q386
        cases e386
        replace p386 := eq_true p386
        replace q386 := eq_true q386
        go_wp2
        repeat (go_quiet (fail); try go_wp2)
        go_ret
        exact ⟨zx, zz34⟩
      ·rw [if_neg c6] at H
       exact absurd H (by simp)
     ·rw [if_neg c5] at H
      exact absurd H (by simp)
    ·rw [if_neg c4] at H
     have c4b0 : decide (x5_1 < (l0.length : Int)) = false := decide_eq_false c4
     clear c4
     obtain rfl := Option.some.inj H
     go_wp2
     repeat (go_quiet (fail); try go_wp2)
     go_ret
     exact ⟨zx, zz34⟩
 ·rw [if_neg c3] at H
  have c3b0 : ((l0.length : Int) == (l1.length : Int)) = false := beq_eq_false_iff_ne.mpr c3
  have c3b1 : ((l0.length : Int) != (l1.length : Int)) = true := bne_iff_ne.mpr c3
  have c3b2 : (l0.length == l1.length) = false := by first | simpa using c3 | (simp at c3 ⊢; omega)
  obtain rfl := Option.some.inj H
  go_enter Try.func29, Try.ntmps29
  go_wp2
  repeat (go_quiet (fail); try go_wp2)
  go_ret
  exact ⟨zx, zz34⟩

/-! ### spec_Fits: function 28 -/
def spec_Fits.f (a0_0 : Int) (a0_1 : Int) (a0_2 : Bool) (a0_3 : Bool) (a1_0 : Int) (a1_1 : Int) (a1_2 : ByteArray) : Option (Bool) := (spec_ValOk.f a1_0 a1_1 a1_2).bind fun t389 => (if t389 = true then (if a1_0 = a0_1 then (if a1_0 = 0 then (some a0_2) else (some true)) else (if a1_0 = 0 then (some a0_2) else (some false))) else (some false))
set_option maxHeartbeats 8000000 in
set_option maxRecDepth 100000 in
theorem spec_Fits.calls (a0_0 : Int) (a0_1 : Int) (a0_2 : Bool) (a0_3 : Bool) (a1_0 : Int) (a1_1 : Int) (a1_2 : ByteArray) (r : Bool) (w : World) (h : spec_Fits.f a0_0 a0_1 a0_2 a0_3 a1_0 a1_1 a1_2 = some r) :
  Calls Try.prog 28 #[.agg #[.int .i64 a0_0, .int .i64 a0_1, .bool a0_2, .bool a0_3], .agg #[.int .i64 a1_0, .int .i64 a1_1, .string a1_2]] w fun e w' => e = .returned (.bool r) ∧ Below w.heap.size w w' := by
 have hu30 := Try.underlying30
 have hu32 := Try.underlying32
 have HB := zA (Below.refl w.heap.size w)
 have H : ((spec_ValOk.f a1_0 a1_1 a1_2).bind fun t389 => (if t389 = true then (if a1_0 = a0_1 then (if a1_0 = 0 then (some a0_2) else (some true)) else (if a1_0 = 0 then (some a0_2) else (some false))) else (some false))) = some r := h
 clear h
 replace H := zI H
 obtain ⟨t389, A3, H⟩ := H
 by_cases c4 : t389 = true
 ·subst c4
  rw [if_pos rfl] at H
  by_cases c5 : a1_0 = a0_1
  ·rw [if_pos c5] at H
   have c5b0 : (a1_0 == a0_1) = true := beq_iff_eq.mpr c5
   have c5b1 : (a1_0 != a0_1) = false := bne_eq_false_iff_eq.mpr c5
   clear c5
   by_cases c6 : a1_0 = 0
   ·rw [if_pos c6] at H
    have c6b0 : (a1_0 == 0) = true := beq_iff_eq.mpr c6
    have c6b1 : (a1_0 != 0) = false := bne_eq_false_iff_eq.mpr c6
    clear c6
    obtain rfl := Option.some.inj H
    go_enter Try.func28, Try.ntmps28
    go_wp2_with (first | ((with_reducible refine zt 2 ?_); refine zn #[.int .i64 a0_0, .int .i64 a0_1, .bool a0_2, .bool a0_3] 30 ?_; intro gb387 hg w7 hbox hb; have BK387 := zA hbox; have GW387 := zG hg; have GE387 := zG hg; replace HB := zS hb; clear hb hbox hg) | ((with_reducible refine zt 3 ?_); refine zn #[.int .i64 a1_0, .int .i64 a1_1, .string a1_2] 32 ?_; intro gb388 hg w8 hbox hb; have BK388 := zA hbox; have GW388 := zG hg (zb1 GE387); have GE388 := zG hg (zb1 GE387); replace HB := zS hb (zb1 GE387); have NB387_388 := zX BK387 hg; have NB388_387 := zY BK387 hg; replace BK387 := zB BK387 hb; clear hb hbox hg; have hnb9 := NB388_387.out; have hnc9 := NB387_388.out; obtain ⟨hcz10_0, hcz10_1, hcz10_2, hfz10_0, hfz10_1, hfz10_2⟩ := zh3 BK388) | ((with_reducible refine zg 72 ?_); refine gL (some 6) Try.func72 #[.agg #[.int .i64 a1_0, .int .i64 a1_1, .string a1_2]] ?_; (with_reducible refine (spec_ValOk.calls a1_0 a1_1 a1_2 true _ A3.out).mono ?_); rintro e w11 ⟨rfl, hb⟩; refine ⟨_, rfl, ?_⟩; replace BK387 := zB BK387 hb; replace BK388 := zB BK388 hb; replace HB := zS hb (zb2 GE387 GE388); (try clear hb); obtain ⟨hcz12_0, hcz12_1, hcz12_2, hfz12_0, hfz12_1, hfz12_2⟩ := zh3 BK388; obtain ⟨hcz13_0, hcz13_1, hcz13_2, hcz13_3, hfz13_0, hfz13_1, hfz13_2, hfz13_3⟩ := zh4 BK387))
    go_ret
    exact ⟨zw, zb2 GE387 GE388⟩
   ·rw [if_neg c6] at H
    have c6b0 : (a1_0 == 0) = false := beq_eq_false_iff_ne.mpr c6
    have c6b1 : (a1_0 != 0) = true := bne_iff_ne.mpr c6
    obtain rfl := Option.some.inj H
    go_enter Try.func28, Try.ntmps28
    go_wp2_with (first | ((with_reducible refine zt 2 ?_); refine zn #[.int .i64 a0_0, .int .i64 a0_1, .bool a0_2, .bool a0_3] 30 ?_; intro gb387 hg w14 hbox hb; have BK387 := zA hbox; have GW387 := zG hg; have GE387 := zG hg; replace HB := zS hb; clear hb hbox hg) | ((with_reducible refine zt 3 ?_); refine zn #[.int .i64 a1_0, .int .i64 a1_1, .string a1_2] 32 ?_; intro gb388 hg w15 hbox hb; have BK388 := zA hbox; have GW388 := zG hg (zb1 GE387); have GE388 := zG hg (zb1 GE387); replace HB := zS hb (zb1 GE387); have NB387_388 := zX BK387 hg; have NB388_387 := zY BK387 hg; replace BK387 := zB BK387 hb; clear hb hbox hg; have hnb16 := NB388_387.out; have hnc16 := NB387_388.out; obtain ⟨hcz17_0, hcz17_1, hcz17_2, hfz17_0, hfz17_1, hfz17_2⟩ := zh3 BK388) | ((with_reducible refine zg 72 ?_); refine gL (some 6) Try.func72 #[.agg #[.int .i64 a1_0, .int .i64 a1_1, .string a1_2]] ?_; (with_reducible refine (spec_ValOk.calls a1_0 a1_1 a1_2 true _ A3.out).mono ?_); rintro e w18 ⟨rfl, hb⟩; refine ⟨_, rfl, ?_⟩; replace BK387 := zB BK387 hb; replace BK388 := zB BK388 hb; replace HB := zS hb (zb2 GE387 GE388); (try clear hb); obtain ⟨hcz19_0, hcz19_1, hcz19_2, hfz19_0, hfz19_1, hfz19_2⟩ := zh3 BK388; obtain ⟨hcz20_0, hcz20_1, hcz20_2, hcz20_3, hfz20_0, hfz20_1, hfz20_2, hfz20_3⟩ := zh4 BK387))
    go_ret
    exact ⟨zw, zb2 GE387 GE388⟩
  ·rw [if_neg c5] at H
   have c5b0 : (a1_0 == a0_1) = false := beq_eq_false_iff_ne.mpr c5
   have c5b1 : (a1_0 != a0_1) = true := bne_iff_ne.mpr c5
   by_cases c21 : a1_0 = 0
   ·rw [if_pos c21] at H
    have c21b0 : (a1_0 == 0) = true := beq_iff_eq.mpr c21
    have c21b1 : (a1_0 != 0) = false := bne_eq_false_iff_eq.mpr c21
    clear c21
    obtain rfl := Option.some.inj H
    go_enter Try.func28, Try.ntmps28
    go_wp2_with (first | ((with_reducible refine zt 2 ?_); refine zn #[.int .i64 a0_0, .int .i64 a0_1, .bool a0_2, .bool a0_3] 30 ?_; intro gb387 hg w22 hbox hb; have BK387 := zA hbox; have GW387 := zG hg; have GE387 := zG hg; replace HB := zS hb; clear hb hbox hg) | ((with_reducible refine zt 3 ?_); refine zn #[.int .i64 a1_0, .int .i64 a1_1, .string a1_2] 32 ?_; intro gb388 hg w23 hbox hb; have BK388 := zA hbox; have GW388 := zG hg (zb1 GE387); have GE388 := zG hg (zb1 GE387); replace HB := zS hb (zb1 GE387); have NB387_388 := zX BK387 hg; have NB388_387 := zY BK387 hg; replace BK387 := zB BK387 hb; clear hb hbox hg; have hnb24 := NB388_387.out; have hnc24 := NB387_388.out; obtain ⟨hcz25_0, hcz25_1, hcz25_2, hfz25_0, hfz25_1, hfz25_2⟩ := zh3 BK388) | ((with_reducible refine zg 72 ?_); refine gL (some 6) Try.func72 #[.agg #[.int .i64 a1_0, .int .i64 a1_1, .string a1_2]] ?_; (with_reducible refine (spec_ValOk.calls a1_0 a1_1 a1_2 true _ A3.out).mono ?_); rintro e w26 ⟨rfl, hb⟩; refine ⟨_, rfl, ?_⟩; replace BK387 := zB BK387 hb; replace BK388 := zB BK388 hb; replace HB := zS hb (zb2 GE387 GE388); (try clear hb); obtain ⟨hcz27_0, hcz27_1, hcz27_2, hfz27_0, hfz27_1, hfz27_2⟩ := zh3 BK388; obtain ⟨hcz28_0, hcz28_1, hcz28_2, hcz28_3, hfz28_0, hfz28_1, hfz28_2, hfz28_3⟩ := zh4 BK387))
    go_ret
    exact ⟨zw, zb2 GE387 GE388⟩
   ·rw [if_neg c21] at H
    have c21b0 : (a1_0 == 0) = false := beq_eq_false_iff_ne.mpr c21
    have c21b1 : (a1_0 != 0) = true := bne_iff_ne.mpr c21
    obtain rfl := Option.some.inj H
    go_enter Try.func28, Try.ntmps28
    go_wp2_with (first | ((with_reducible refine zt 2 ?_); refine zn #[.int .i64 a0_0, .int .i64 a0_1, .bool a0_2, .bool a0_3] 30 ?_; intro gb387 hg w29 hbox hb; have BK387 := zA hbox; have GW387 := zG hg; have GE387 := zG hg; replace HB := zS hb; clear hb hbox hg) | ((with_reducible refine zt 3 ?_); refine zn #[.int .i64 a1_0, .int .i64 a1_1, .string a1_2] 32 ?_; intro gb388 hg w30 hbox hb; have BK388 := zA hbox; have GW388 := zG hg (zb1 GE387); have GE388 := zG hg (zb1 GE387); replace HB := zS hb (zb1 GE387); have NB387_388 := zX BK387 hg; have NB388_387 := zY BK387 hg; replace BK387 := zB BK387 hb; clear hb hbox hg; have hnb31 := NB388_387.out; have hnc31 := NB387_388.out; obtain ⟨hcz32_0, hcz32_1, hcz32_2, hfz32_0, hfz32_1, hfz32_2⟩ := zh3 BK388) | ((with_reducible refine zg 72 ?_); refine gL (some 6) Try.func72 #[.agg #[.int .i64 a1_0, .int .i64 a1_1, .string a1_2]] ?_; (with_reducible refine (spec_ValOk.calls a1_0 a1_1 a1_2 true _ A3.out).mono ?_); rintro e w33 ⟨rfl, hb⟩; refine ⟨_, rfl, ?_⟩; replace BK387 := zB BK387 hb; replace BK388 := zB BK388 hb; replace HB := zS hb (zb2 GE387 GE388); (try clear hb); obtain ⟨hcz34_0, hcz34_1, hcz34_2, hfz34_0, hfz34_1, hfz34_2⟩ := zh3 BK388; obtain ⟨hcz35_0, hcz35_1, hcz35_2, hcz35_3, hfz35_0, hfz35_1, hfz35_2, hfz35_3⟩ := zh4 BK387))
    go_ret
    exact ⟨zw, zb2 GE387 GE388⟩
 ·replace c4 := Bool.eq_false_iff.mpr c4
  subst c4
  rw [if_neg (Bool.false_ne_true)] at H
  obtain rfl := Option.some.inj H
  go_enter Try.func28, Try.ntmps28
  go_wp2_with (first | ((with_reducible refine zt 2 ?_); refine zn #[.int .i64 a0_0, .int .i64 a0_1, .bool a0_2, .bool a0_3] 30 ?_; intro gb387 hg w36 hbox hb; have BK387 := zA hbox; have GW387 := zG hg; have GE387 := zG hg; replace HB := zS hb; clear hb hbox hg) | ((with_reducible refine zt 3 ?_); refine zn #[.int .i64 a1_0, .int .i64 a1_1, .string a1_2] 32 ?_; intro gb388 hg w37 hbox hb; have BK388 := zA hbox; have GW388 := zG hg (zb1 GE387); have GE388 := zG hg (zb1 GE387); replace HB := zS hb (zb1 GE387); have NB387_388 := zX BK387 hg; have NB388_387 := zY BK387 hg; replace BK387 := zB BK387 hb; clear hb hbox hg; have hnb38 := NB388_387.out; have hnc38 := NB387_388.out; obtain ⟨hcz39_0, hcz39_1, hcz39_2, hfz39_0, hfz39_1, hfz39_2⟩ := zh3 BK388) | ((with_reducible refine zg 72 ?_); refine gL (some 6) Try.func72 #[.agg #[.int .i64 a1_0, .int .i64 a1_1, .string a1_2]] ?_; (with_reducible refine (spec_ValOk.calls a1_0 a1_1 a1_2 false _ A3.out).mono ?_); rintro e w40 ⟨rfl, hb⟩; refine ⟨_, rfl, ?_⟩; replace BK387 := zB BK387 hb; replace BK388 := zB BK388 hb; replace HB := zS hb (zb2 GE387 GE388); (try clear hb)))
  go_ret
  exact ⟨zw, zb2 GE387 GE388⟩

/-! ### spec_PutFix: function 94 -/
def spec_PutFix.f (l0 : List Int) (a1 : Int) : Option (List Int) := if a1 > 2147483647 then ((some (([] : List Int) : List Int)).bind fun y390 => (if y390.length + l0.length < 140737488355328 then ((some (y390 ++ l0 : List Int)).bind fun y393 => ((some (([(2147483647 + 2147483648) / 16777216, ((2147483647 + 2147483648) / 65536) % 256, ((2147483647 + 2147483648) / 256) % 256, (2147483647 + 2147483648) % 256] : List Int) : List Int)).bind fun y396 => (if y393.length + y396.length < 140737488355328 then (some (y393 ++ y396)) else (none)))) else (none))) else (if a1 < (-2147483648) then ((some (([] : List Int) : List Int)).bind fun y402 => (if y402.length + l0.length < 140737488355328 then ((some (y402 ++ l0 : List Int)).bind fun y405 => ((some (([((-2147483648) + 2147483648) / 16777216, ((-2147483648) + 2147483648) / 65536, ((-2147483648) + 2147483648) / 256, (-2147483648) + 2147483648] : List Int) : List Int)).bind fun y408 => (if y405.length + y408.length < 140737488355328 then (some (y405 ++ y408)) else (none)))) else (none))) else ((some (([] : List Int) : List Int)).bind fun y414 => (if y414.length + l0.length < 140737488355328 then ((some (y414 ++ l0 : List Int)).bind fun y417 => ((some (([((wrap64 (a1 + 2147483648)) / 16777216) % 256, ((wrap64 (a1 + 2147483648)) / 65536) % 256, ((wrap64 (a1 + 2147483648)) / 256) % 256, (wrap64 (a1 + 2147483648)) % 256] : List Int) : List Int)).bind fun y420 => (if y417.length + y420.length < 140737488355328 then (some (y417 ++ y420)) else (none)))) else (none))))
set_option maxHeartbeats 8000000 in
set_option maxRecDepth 100000 in
theorem spec_PutFix.calls (A0 : Option Addr) (c0 : Nat) (l0 : List Int) (a1 : Int) (r : List Int) (w : World) (hr0 : Kd.C (Kd.int .u8) w A0 l0.length l0) (hc0 : l0.length ≤ c0) (h : spec_PutFix.f l0 a1 = some r) :
  Calls Try.prog 94 #[.slice A0 l0.length c0, .int .i64 a1] w fun e w' => ∃ v0_ : Value, e = .returned (v0_) ∧ Kd.R (Kd.int .u8) 5 w' w.heap.size (fun _ => True) v0_ r ∧ Below w.heap.size w w' := by
 have HR0 := zA hr0
 have HC0 := zA hc0
 clear hr0 hc0
 have HB := zA (Below.refl w.heap.size w)
 have H : (if a1 > 2147483647 then ((some (([] : List Int) : List Int)).bind fun y390 => (if y390.length + l0.length < 140737488355328 then ((some (y390 ++ l0 : List Int)).bind fun y393 => ((some (([(2147483647 + 2147483648) / 16777216, ((2147483647 + 2147483648) / 65536) % 256, ((2147483647 + 2147483648) / 256) % 256, (2147483647 + 2147483648) % 256] : List Int) : List Int)).bind fun y396 => (if y393.length + y396.length < 140737488355328 then (some (y393 ++ y396)) else (none)))) else (none))) else (if a1 < (-2147483648) then ((some (([] : List Int) : List Int)).bind fun y402 => (if y402.length + l0.length < 140737488355328 then ((some (y402 ++ l0 : List Int)).bind fun y405 => ((some (([((-2147483648) + 2147483648) / 16777216, ((-2147483648) + 2147483648) / 65536, ((-2147483648) + 2147483648) / 256, (-2147483648) + 2147483648] : List Int) : List Int)).bind fun y408 => (if y405.length + y408.length < 140737488355328 then (some (y405 ++ y408)) else (none)))) else (none))) else ((some (([] : List Int) : List Int)).bind fun y414 => (if y414.length + l0.length < 140737488355328 then ((some (y414 ++ l0 : List Int)).bind fun y417 => ((some (([((wrap64 (a1 + 2147483648)) / 16777216) % 256, ((wrap64 (a1 + 2147483648)) / 65536) % 256, ((wrap64 (a1 + 2147483648)) / 256) % 256, (wrap64 (a1 + 2147483648)) % 256] : List Int) : List Int)).bind fun y420 => (if y417.length + y420.length < 140737488355328 then (some (y417 ++ y420)) else (none)))) else (none))))) = some r := h
 clear h
 by_cases c3 : a1 > 2147483647
 ·rw [if_pos c3] at H
  have c3b0 : decide (2147483647 < a1) = true := decide_eq_true c3
  clear c3
  obtain ⟨y390, hy390⟩ : ∃ y_ : List Int, y_ = (([] : List Int)) := ⟨_, rfl⟩
  replace H : (if y390.length + l0.length < 140737488355328 then ((some (y390 ++ l0 : List Int)).bind fun y393 => ((some (([(2147483647 + 2147483648) / 16777216, ((2147483647 + 2147483648) / 65536) % 256, ((2147483647 + 2147483648) / 256) % 256, (2147483647 + 2147483648) % 256] : List Int) : List Int)).bind fun y396 => (if y393.length + y396.length < 140737488355328 then (some (y393 ++ y396)) else (none)))) else (none)) = some r := by first | (rw [hy390]; with_reducible exact H) | (have H2_ := (Option.bind_some _ _).symm.trans H; rw [hy390]; with_reducible exact H2_) | (have H2_ := (Option.bind_some _ _).symm.trans H; with_reducible exact H2_) | with_reducible exact H | (rw [hy390]; exact H) | exact H
  have Ny390 := zA hy390
  clear hy390
  by_cases c4 : y390.length + l0.length < 140737488355328
  ·rw [if_pos c4] at H
   have LMc4 := zA c4
   clear c4
   obtain ⟨y393, hy393⟩ : ∃ y_ : List Int, y_ = (y390 ++ l0) := ⟨_, rfl⟩
   replace H : ((some (([(2147483647 + 2147483648) / 16777216, ((2147483647 + 2147483648) / 65536) % 256, ((2147483647 + 2147483648) / 256) % 256, (2147483647 + 2147483648) % 256] : List Int) : List Int)).bind fun y396 => (if y393.length + y396.length < 140737488355328 then (some (y393 ++ y396)) else (none))) = some r := by first | (rw [hy393]; with_reducible exact H) | (have H2_ := (Option.bind_some _ _).symm.trans H; rw [hy393]; with_reducible exact H2_) | (have H2_ := (Option.bind_some _ _).symm.trans H; with_reducible exact H2_) | with_reducible exact H | (rw [hy393]; exact H) | exact H
   have Ny393 := zA hy393
   clear hy393
   obtain ⟨y396, hy396⟩ : ∃ y_ : List Int, y_ = (([(2147483647 + 2147483648) / 16777216, ((2147483647 + 2147483648) / 65536) % 256, ((2147483647 + 2147483648) / 256) % 256, (2147483647 + 2147483648) % 256] : List Int)) := ⟨_, rfl⟩
   replace H : (if y393.length + y396.length < 140737488355328 then (some (y393 ++ y396)) else (none)) = some r := by first | (rw [hy396]; with_reducible exact H) | (have H2_ := (Option.bind_some _ _).symm.trans H; rw [hy396]; with_reducible exact H2_) | (have H2_ := (Option.bind_some _ _).symm.trans H; with_reducible exact H2_) | with_reducible exact H | (rw [hy396]; exact H) | exact H
   have Ny396 := zA hy396
   clear hy396
   by_cases c5 : y393.length + y396.length < 140737488355328
   ·rw [if_pos c5] at H
    have LMc5 := zA c5
    clear c5
    obtain ⟨y399, hy399⟩ : ∃ y_ : List Int, y_ = (y393 ++ y396) := ⟨_, rfl⟩
    replace H : (some y399) = some r := by first | (rw [hy399]; with_reducible exact H) | (have H2_ := (Option.bind_some _ _).symm.trans H; rw [hy399]; with_reducible exact H2_) | (have H2_ := (Option.bind_some _ _).symm.trans H; with_reducible exact H2_) | with_reducible exact H | (rw [hy399]; exact H) | exact H
    have Ny399 := zA hy399
    clear hy399
    obtain rfl := Option.some.inj H
    go_enter Try.func94, Try.ntmps94
    go_wp2_with (first | ((with_reducible refine zt 11 ?_); refine Kd.R_lit (Kd.int .u8) _ 5 ?hg (N := 11) ?hd (xs := ([] : List Int)) (inner := []) (ok := fun _ => True) (okp := fun _ => True) ?hr ?hp (fun _ hk => hk) trivial (Below.refl _ _) (Nat.le_refl _) (by simp) ?_; (case hd => rfl); (case hg => rfl); (case hr => exact zz35); (case hp => exact (Reps.none _ _)); intro v391 w6 ho7 hb hg_ hnew_; clear hg_ hnew_; (first | rw [← Ny390.out] at ho7 | (simp only [Int.reduceToNat] at ho7; rw [← Ny390.out] at ho7)); have HO392 := zL ho7; replace HB := zS hb; clear hb ho7) | ((with_reducible refine gate_builtin (b := .append) (xs := #[.tmp 11, .tmp 12]) rfl ?_); at_builtin; refine Kd.R_append_rows (Kd.int .u8) (w0 := w) w.heap.size rfl (.tmp 11) (.tmp 12) 22 5 (.int .u8 0) 1 rfl Try.underlying22 info5 rfl (by decide) (by omega) v391 y390 l0 _ _ _ (fun _ => True) (fun _ => False) rfl rfl ?aO ?aR (fun _ _ h => h) (fun _ h => h.elim) ?aF ?aB ?aS ?aL ?_; (case aR => exact zd HR0); (case aB => exact zb); (case aF => exact (fun _ _ => trivial)); (case aO => exact (zr HO392)); (case aS => exact (below_size zb)); (case aL => have := LMc4.out; omega); intro v394 w8 ho hb hg hat; rw [← Ny393.out] at ho; replace HB := zA hb; have HO395 := zA ho; clear HO392 ho hb hg hat) | ((with_reducible refine zt 25 ?_); refine Kd.R_lit (Kd.int .u8) _ 5 ?hg (N := 25) ?hd (xs := ([(2147483647 + 2147483648) / 16777216, ((2147483647 + 2147483648) / 65536) % 256, ((2147483647 + 2147483648) / 256) % 256, (2147483647 + 2147483648) % 256] : List Int)) (inner := [.int .u8 ((2147483647 + 2147483648) / 16777216), .int .u8 (((2147483647 + 2147483648) / 65536) % 256), .int .u8 (((2147483647 + 2147483648) / 256) % 256), .int .u8 ((2147483647 + 2147483648) % 256)]) (ok := fun _ => True) (okp := fun _ => True) ?hr ?hp (fun _ hk => hk) trivial (Below.refl _ _) (Nat.le_refl _) (by simp) ?_; (case hd => rfl); (case hg => rfl); (case hr => exact zz35); (case hp => exact (Reps.one (show Kd.M (Kd.int .u8) _ _ _ ((2147483647 + 2147483648) / 16777216) [.int .u8 ((2147483647 + 2147483648) / 16777216)] from rfl) (Reps.one (show Kd.M (Kd.int .u8) _ _ _ (((2147483647 + 2147483648) / 65536) % 256) [.int .u8 (((2147483647 + 2147483648) / 65536) % 256)] from rfl) (Reps.one (show Kd.M (Kd.int .u8) _ _ _ (((2147483647 + 2147483648) / 256) % 256) [.int .u8 (((2147483647 + 2147483648) / 256) % 256)] from rfl) (Reps.one (show Kd.M (Kd.int .u8) _ _ _ ((2147483647 + 2147483648) % 256) [.int .u8 ((2147483647 + 2147483648) % 256)] from rfl) (Reps.none _ _)))))); intro v397 w9 ho10 hb hg_ hnew_; clear hg_ hnew_; (first | rw [← Ny396.out] at ho10 | (simp only [Int.reduceToNat] at ho10; rw [← Ny396.out] at ho10)); have HO398 := zL (zN ho10 HO395); replace HO395 := zE HO395 ho10 hb; replace HB := zS hb; clear hb ho10; obtain ⟨Ao12, co12, eo12⟩ := Kd.R_slice HO398.out; subst eo12) | ((with_reducible refine gate_builtin (b := .append) (xs := #[.tmp 13, .tmp 25]) rfl ?_); at_builtin; refine Kd.R_append_rows (Kd.int .u8) (w0 := w) w.heap.size rfl (.tmp 13) (.tmp 25) 22 5 (.int .u8 0) 1 rfl Try.underlying22 info5 rfl (by decide) (by omega) v394 y393 y396 _ _ _ (fun k_ => some k_ ≠ (.slice Ao12 y396.length co12 : Value).ownBlock) (fun _ => False) rfl rfl ?aO ?aR (fun _ _ h => h) (fun _ h => h.elim) ?aF ?aB ?aS ?aL ?_; (case aR => exact ze HO398); (case aB => exact zb); (case aF => exact (fun k_ hk => Kd.fresh' (Kd.R_lt (zr HO398)) k_ hk)); (case aO => exact (by (with_reducible repeat (first | apply Kd.R_alloc | apply Kd.R_drewN | apply Kd.R_drew)); exact Kd.R_mono HO395.out (fun _ hk => hk.2))); (case aS => exact (below_size zb)); (case aL => have := LMc5.out; omega); intro v400 w11 ho hb hg hat; rw [← Ny399.out] at ho; replace HO398 := zA (Kd.R_after (ok := (fun _ => True)) (zr HO398) hg hat); replace HB := zA hb; have HO401 := zA ho; clear HO395 ho hb hg hat))
    go_ret
    exact ⟨_, zw, by (with_reducible repeat (first | apply Kd.R_alloc | apply Kd.R_drewN | apply Kd.R_drew)); exact Kd.R_mono HO401.out (fun _ hk => trivial), zb⟩
   ·rw [if_neg c5] at H
    exact absurd H (by simp)
  ·rw [if_neg c4] at H
   exact absurd H (by simp)
 ·rw [if_neg c3] at H
  have c3b0 : decide (2147483647 < a1) = false := decide_eq_false c3
  clear c3
  by_cases c13 : a1 < (-2147483648)
  ·rw [if_pos c13] at H
   have c13b0 : decide (a1 < (-2147483648)) = true := decide_eq_true c13
   clear c13
   obtain ⟨y402, hy402⟩ : ∃ y_ : List Int, y_ = (([] : List Int)) := ⟨_, rfl⟩
   replace H : (if y402.length + l0.length < 140737488355328 then ((some (y402 ++ l0 : List Int)).bind fun y405 => ((some (([((-2147483648) + 2147483648) / 16777216, ((-2147483648) + 2147483648) / 65536, ((-2147483648) + 2147483648) / 256, (-2147483648) + 2147483648] : List Int) : List Int)).bind fun y408 => (if y405.length + y408.length < 140737488355328 then (some (y405 ++ y408)) else (none)))) else (none)) = some r := by first | (rw [hy402]; with_reducible exact H) | (have H2_ := (Option.bind_some _ _).symm.trans H; rw [hy402]; with_reducible exact H2_) | (have H2_ := (Option.bind_some _ _).symm.trans H; with_reducible exact H2_) | with_reducible exact H | (rw [hy402]; exact H) | exact H
   have Ny402 := zA hy402
   clear hy402
   by_cases c14 : y402.length + l0.length < 140737488355328
   ·rw [if_pos c14] at H
    have LMc14 := zA c14
    clear c14
    obtain ⟨y405, hy405⟩ : ∃ y_ : List Int, y_ = (y402 ++ l0) := ⟨_, rfl⟩
    replace H : ((some (([((-2147483648) + 2147483648) / 16777216, ((-2147483648) + 2147483648) / 65536, ((-2147483648) + 2147483648) / 256, (-2147483648) + 2147483648] : List Int) : List Int)).bind fun y408 => (if y405.length + y408.length < 140737488355328 then (some (y405 ++ y408)) else (none))) = some r := by first | (rw [hy405]; with_reducible exact H) | (have H2_ := (Option.bind_some _ _).symm.trans H; rw [hy405]; with_reducible exact H2_) | (have H2_ := (Option.bind_some _ _).symm.trans H; with_reducible exact H2_) | with_reducible exact H | (rw [hy405]; exact H) | exact H
    have Ny405 := zA hy405
    clear hy405
    obtain ⟨y408, hy408⟩ : ∃ y_ : List Int, y_ = (([((-2147483648) + 2147483648) / 16777216, ((-2147483648) + 2147483648) / 65536, ((-2147483648) + 2147483648) / 256, (-2147483648) + 2147483648] : List Int)) := ⟨_, rfl⟩
    replace H : (if y405.length + y408.length < 140737488355328 then (some (y405 ++ y408)) else (none)) = some r := by first | (rw [hy408]; with_reducible exact H) | (have H2_ := (Option.bind_some _ _).symm.trans H; rw [hy408]; with_reducible exact H2_) | (have H2_ := (Option.bind_some _ _).symm.trans H; with_reducible exact H2_) | with_reducible exact H | (rw [hy408]; exact H) | exact H
    have Ny408 := zA hy408
    clear hy408
    by_cases c15 : y405.length + y408.length < 140737488355328
    ·rw [if_pos c15] at H
     have LMc15 := zA c15
     clear c15
     obtain ⟨y411, hy411⟩ : ∃ y_ : List Int, y_ = (y405 ++ y408) := ⟨_, rfl⟩
     replace H : (some y411) = some r := by first | (rw [hy411]; with_reducible exact H) | (have H2_ := (Option.bind_some _ _).symm.trans H; rw [hy411]; with_reducible exact H2_) | (have H2_ := (Option.bind_some _ _).symm.trans H; with_reducible exact H2_) | with_reducible exact H | (rw [hy411]; exact H) | exact H
     have Ny411 := zA hy411
     clear hy411
     obtain rfl := Option.some.inj H
     go_enter Try.func94, Try.ntmps94
     go_wp2_with (first | ((with_reducible refine zt 11 ?_); refine Kd.R_lit (Kd.int .u8) _ 5 ?hg (N := 11) ?hd (xs := ([] : List Int)) (inner := []) (ok := fun _ => True) (okp := fun _ => True) ?hr ?hp (fun _ hk => hk) trivial (Below.refl _ _) (Nat.le_refl _) (by simp) ?_; (case hd => rfl); (case hg => rfl); (case hr => exact zz35); (case hp => exact (Reps.none _ _)); intro v403 w16 ho17 hb hg_ hnew_; clear hg_ hnew_; (first | rw [← Ny402.out] at ho17 | (simp only [Int.reduceToNat] at ho17; rw [← Ny402.out] at ho17)); have HO404 := zL ho17; replace HB := zS hb; clear hb ho17) | ((with_reducible refine gate_builtin (b := .append) (xs := #[.tmp 11, .tmp 12]) rfl ?_); at_builtin; refine Kd.R_append_rows (Kd.int .u8) (w0 := w) w.heap.size rfl (.tmp 11) (.tmp 12) 22 5 (.int .u8 0) 1 rfl Try.underlying22 info5 rfl (by decide) (by omega) v403 y402 l0 _ _ _ (fun _ => True) (fun _ => False) rfl rfl ?aO ?aR (fun _ _ h => h) (fun _ h => h.elim) ?aF ?aB ?aS ?aL ?_; (case aR => exact zd HR0); (case aB => exact zb); (case aF => exact (fun _ _ => trivial)); (case aO => exact (zr HO404)); (case aS => exact (below_size zb)); (case aL => have := LMc14.out; omega); intro v406 w18 ho hb hg hat; rw [← Ny405.out] at ho; replace HB := zA hb; have HO407 := zA ho; clear HO404 ho hb hg hat) | ((with_reducible refine zt 25 ?_); refine Kd.R_lit (Kd.int .u8) _ 5 ?hg (N := 25) ?hd (xs := ([((-2147483648) + 2147483648) / 16777216, ((-2147483648) + 2147483648) / 65536, ((-2147483648) + 2147483648) / 256, (-2147483648) + 2147483648] : List Int)) (inner := [.int .u8 (((-2147483648) + 2147483648) / 16777216), .int .u8 (((-2147483648) + 2147483648) / 65536), .int .u8 (((-2147483648) + 2147483648) / 256), .int .u8 ((-2147483648) + 2147483648)]) (ok := fun _ => True) (okp := fun _ => True) ?hr ?hp (fun _ hk => hk) trivial (Below.refl _ _) (Nat.le_refl _) (by simp) ?_; (case hd => rfl); (case hg => rfl); (case hr => exact zz35); (case hp => exact (Reps.one (show Kd.M (Kd.int .u8) _ _ _ (((-2147483648) + 2147483648) / 16777216) [.int .u8 (((-2147483648) + 2147483648) / 16777216)] from rfl) (Reps.one (show Kd.M (Kd.int .u8) _ _ _ (((-2147483648) + 2147483648) / 65536) [.int .u8 (((-2147483648) + 2147483648) / 65536)] from rfl) (Reps.one (show Kd.M (Kd.int .u8) _ _ _ (((-2147483648) + 2147483648) / 256) [.int .u8 (((-2147483648) + 2147483648) / 256)] from rfl) (Reps.one (show Kd.M (Kd.int .u8) _ _ _ ((-2147483648) + 2147483648) [.int .u8 ((-2147483648) + 2147483648)] from rfl) (Reps.none _ _)))))); intro v409 w19 ho20 hb hg_ hnew_; clear hg_ hnew_; (first | rw [← Ny408.out] at ho20 | (simp only [Int.reduceToNat] at ho20; rw [← Ny408.out] at ho20)); have HO410 := zL (zN ho20 HO407); replace HO407 := zE HO407 ho20 hb; replace HB := zS hb; clear hb ho20; obtain ⟨Ao22, co22, eo22⟩ := Kd.R_slice HO410.out; subst eo22) | ((with_reducible refine gate_builtin (b := .append) (xs := #[.tmp 13, .tmp 25]) rfl ?_); at_builtin; refine Kd.R_append_rows (Kd.int .u8) (w0 := w) w.heap.size rfl (.tmp 13) (.tmp 25) 22 5 (.int .u8 0) 1 rfl Try.underlying22 info5 rfl (by decide) (by omega) v406 y405 y408 _ _ _ (fun k_ => some k_ ≠ (.slice Ao22 y408.length co22 : Value).ownBlock) (fun _ => False) rfl rfl ?aO ?aR (fun _ _ h => h) (fun _ h => h.elim) ?aF ?aB ?aS ?aL ?_; (case aR => exact ze HO410); (case aB => exact zb); (case aF => exact (fun k_ hk => Kd.fresh' (Kd.R_lt (zr HO410)) k_ hk)); (case aO => exact (by (with_reducible repeat (first | apply Kd.R_alloc | apply Kd.R_drewN | apply Kd.R_drew)); exact Kd.R_mono HO407.out (fun _ hk => hk.2))); (case aS => exact (below_size zb)); (case aL => have := LMc15.out; omega); intro v412 w21 ho hb hg hat; rw [← Ny411.out] at ho; replace HO410 := zA (Kd.R_after (ok := (fun _ => True)) (zr HO410) hg hat); replace HB := zA hb; have HO413 := zA ho; clear HO407 ho hb hg hat))
     go_ret
     exact ⟨_, zw, by (with_reducible repeat (first | apply Kd.R_alloc | apply Kd.R_drewN | apply Kd.R_drew)); exact Kd.R_mono HO413.out (fun _ hk => trivial), zb⟩
    ·rw [if_neg c15] at H
     exact absurd H (by simp)
   ·rw [if_neg c14] at H
    exact absurd H (by simp)
  ·rw [if_neg c13] at H
   have c13b0 : decide (a1 < (-2147483648)) = false := decide_eq_false c13
   clear c13
   obtain ⟨y414, hy414⟩ : ∃ y_ : List Int, y_ = (([] : List Int)) := ⟨_, rfl⟩
   replace H : (if y414.length + l0.length < 140737488355328 then ((some (y414 ++ l0 : List Int)).bind fun y417 => ((some (([((wrap64 (a1 + 2147483648)) / 16777216) % 256, ((wrap64 (a1 + 2147483648)) / 65536) % 256, ((wrap64 (a1 + 2147483648)) / 256) % 256, (wrap64 (a1 + 2147483648)) % 256] : List Int) : List Int)).bind fun y420 => (if y417.length + y420.length < 140737488355328 then (some (y417 ++ y420)) else (none)))) else (none)) = some r := by first | (rw [hy414]; with_reducible exact H) | (have H2_ := (Option.bind_some _ _).symm.trans H; rw [hy414]; with_reducible exact H2_) | (have H2_ := (Option.bind_some _ _).symm.trans H; with_reducible exact H2_) | with_reducible exact H | (rw [hy414]; exact H) | exact H
   have Ny414 := zA hy414
   clear hy414
   by_cases c23 : y414.length + l0.length < 140737488355328
   ·rw [if_pos c23] at H
    have LMc23 := zA c23
    clear c23
    obtain ⟨y417, hy417⟩ : ∃ y_ : List Int, y_ = (y414 ++ l0) := ⟨_, rfl⟩
    replace H : ((some (([((wrap64 (a1 + 2147483648)) / 16777216) % 256, ((wrap64 (a1 + 2147483648)) / 65536) % 256, ((wrap64 (a1 + 2147483648)) / 256) % 256, (wrap64 (a1 + 2147483648)) % 256] : List Int) : List Int)).bind fun y420 => (if y417.length + y420.length < 140737488355328 then (some (y417 ++ y420)) else (none))) = some r := by first | (rw [hy417]; with_reducible exact H) | (have H2_ := (Option.bind_some _ _).symm.trans H; rw [hy417]; with_reducible exact H2_) | (have H2_ := (Option.bind_some _ _).symm.trans H; with_reducible exact H2_) | with_reducible exact H | (rw [hy417]; exact H) | exact H
    have Ny417 := zA hy417
    clear hy417
    obtain ⟨y420, hy420⟩ : ∃ y_ : List Int, y_ = (([((wrap64 (a1 + 2147483648)) / 16777216) % 256, ((wrap64 (a1 + 2147483648)) / 65536) % 256, ((wrap64 (a1 + 2147483648)) / 256) % 256, (wrap64 (a1 + 2147483648)) % 256] : List Int)) := ⟨_, rfl⟩
    replace H : (if y417.length + y420.length < 140737488355328 then (some (y417 ++ y420)) else (none)) = some r := by first | (rw [hy420]; with_reducible exact H) | (have H2_ := (Option.bind_some _ _).symm.trans H; rw [hy420]; with_reducible exact H2_) | (have H2_ := (Option.bind_some _ _).symm.trans H; with_reducible exact H2_) | with_reducible exact H | (rw [hy420]; exact H) | exact H
    have Ny420 := zA hy420
    clear hy420
    by_cases c24 : y417.length + y420.length < 140737488355328
    ·rw [if_pos c24] at H
     have LMc24 := zA c24
     clear c24
     obtain ⟨y423, hy423⟩ : ∃ y_ : List Int, y_ = (y417 ++ y420) := ⟨_, rfl⟩
     replace H : (some y423) = some r := by first | (rw [hy423]; with_reducible exact H) | (have H2_ := (Option.bind_some _ _).symm.trans H; rw [hy423]; with_reducible exact H2_) | (have H2_ := (Option.bind_some _ _).symm.trans H; with_reducible exact H2_) | with_reducible exact H | (rw [hy423]; exact H) | exact H
     have Ny423 := zA hy423
     clear hy423
     obtain rfl := Option.some.inj H
     go_enter Try.func94, Try.ntmps94
     go_wp2_with (first | ((with_reducible refine zt 11 ?_); refine Kd.R_lit (Kd.int .u8) _ 5 ?hg (N := 11) ?hd (xs := ([] : List Int)) (inner := []) (ok := fun _ => True) (okp := fun _ => True) ?hr ?hp (fun _ hk => hk) trivial (Below.refl _ _) (Nat.le_refl _) (by simp) ?_; (case hd => rfl); (case hg => rfl); (case hr => exact zz35); (case hp => exact (Reps.none _ _)); intro v415 w25 ho26 hb hg_ hnew_; clear hg_ hnew_; (first | rw [← Ny414.out] at ho26 | (simp only [Int.reduceToNat] at ho26; rw [← Ny414.out] at ho26)); have HO416 := zL ho26; replace HB := zS hb; clear hb ho26) | ((with_reducible refine gate_builtin (b := .append) (xs := #[.tmp 11, .tmp 12]) rfl ?_); at_builtin; refine Kd.R_append_rows (Kd.int .u8) (w0 := w) w.heap.size rfl (.tmp 11) (.tmp 12) 22 5 (.int .u8 0) 1 rfl Try.underlying22 info5 rfl (by decide) (by omega) v415 y414 l0 _ _ _ (fun _ => True) (fun _ => False) rfl rfl ?aO ?aR (fun _ _ h => h) (fun _ h => h.elim) ?aF ?aB ?aS ?aL ?_; (case aR => exact zd HR0); (case aB => exact zb); (case aF => exact (fun _ _ => trivial)); (case aO => exact (zr HO416)); (case aS => exact (below_size zb)); (case aL => have := LMc23.out; omega); intro v418 w27 ho hb hg hat; rw [← Ny417.out] at ho; replace HB := zA hb; have HO419 := zA ho; clear HO416 ho hb hg hat) | ((with_reducible refine zt 25 ?_); refine Kd.R_lit (Kd.int .u8) _ 5 ?hg (N := 25) ?hd (xs := ([((wrap64 (a1 + 2147483648)) / 16777216) % 256, ((wrap64 (a1 + 2147483648)) / 65536) % 256, ((wrap64 (a1 + 2147483648)) / 256) % 256, (wrap64 (a1 + 2147483648)) % 256] : List Int)) (inner := [.int .u8 (((wrap64 (a1 + 2147483648)) / 16777216) % 256), .int .u8 (((wrap64 (a1 + 2147483648)) / 65536) % 256), .int .u8 (((wrap64 (a1 + 2147483648)) / 256) % 256), .int .u8 ((wrap64 (a1 + 2147483648)) % 256)]) (ok := fun _ => True) (okp := fun _ => True) ?hr ?hp (fun _ hk => hk) trivial (Below.refl _ _) (Nat.le_refl _) (by simp) ?_; (case hd => rfl); (case hg => rfl); (case hr => exact zz35); (case hp => exact (Reps.one (show Kd.M (Kd.int .u8) _ _ _ (((wrap64 (a1 + 2147483648)) / 16777216) % 256) [.int .u8 (((wrap64 (a1 + 2147483648)) / 16777216) % 256)] from rfl) (Reps.one (show Kd.M (Kd.int .u8) _ _ _ (((wrap64 (a1 + 2147483648)) / 65536) % 256) [.int .u8 (((wrap64 (a1 + 2147483648)) / 65536) % 256)] from rfl) (Reps.one (show Kd.M (Kd.int .u8) _ _ _ (((wrap64 (a1 + 2147483648)) / 256) % 256) [.int .u8 (((wrap64 (a1 + 2147483648)) / 256) % 256)] from rfl) (Reps.one (show Kd.M (Kd.int .u8) _ _ _ ((wrap64 (a1 + 2147483648)) % 256) [.int .u8 ((wrap64 (a1 + 2147483648)) % 256)] from rfl) (Reps.none _ _)))))); intro v421 w28 ho29 hb hg_ hnew_; clear hg_ hnew_; (first | rw [← Ny420.out] at ho29 | (simp only [Int.reduceToNat] at ho29; rw [← Ny420.out] at ho29)); have HO422 := zL (zN ho29 HO419); replace HO419 := zE HO419 ho29 hb; replace HB := zS hb; clear hb ho29; obtain ⟨Ao31, co31, eo31⟩ := Kd.R_slice HO422.out; subst eo31) | ((with_reducible refine gate_builtin (b := .append) (xs := #[.tmp 13, .tmp 25]) rfl ?_); at_builtin; refine Kd.R_append_rows (Kd.int .u8) (w0 := w) w.heap.size rfl (.tmp 13) (.tmp 25) 22 5 (.int .u8 0) 1 rfl Try.underlying22 info5 rfl (by decide) (by omega) v418 y417 y420 _ _ _ (fun k_ => some k_ ≠ (.slice Ao31 y420.length co31 : Value).ownBlock) (fun _ => False) rfl rfl ?aO ?aR (fun _ _ h => h) (fun _ h => h.elim) ?aF ?aB ?aS ?aL ?_; (case aR => exact ze HO422); (case aB => exact zb); (case aF => exact (fun k_ hk => Kd.fresh' (Kd.R_lt (zr HO422)) k_ hk)); (case aO => exact (by (with_reducible repeat (first | apply Kd.R_alloc | apply Kd.R_drewN | apply Kd.R_drew)); exact Kd.R_mono HO419.out (fun _ hk => hk.2))); (case aS => exact (below_size zb)); (case aL => have := LMc24.out; omega); intro v424 w30 ho hb hg hat; rw [← Ny423.out] at ho; replace HO422 := zA (Kd.R_after (ok := (fun _ => True)) (zr HO422) hg hat); replace HB := zA hb; have HO425 := zA ho; clear HO419 ho hb hg hat))
     go_ret
     exact ⟨_, zw, by (with_reducible repeat (first | apply Kd.R_alloc | apply Kd.R_drewN | apply Kd.R_drew)); exact Kd.R_mono HO425.out (fun _ hk => trivial), zb⟩
    ·rw [if_neg c24] at H
     exact absurd H (by simp)
   ·rw [if_neg c23] at H
    exact absurd H (by simp)

/-! ### spec_PutEsc: function 96 -/
def spec_PutEsc.l0 : Nat → ByteArray → List Int → Int → Option (List Int)
  | 0, _, _, _ => none
  | k + 1, x1, x5, x6 => if x6 < (x1.size : Int) then (if 0 ≤ x6 then (if x5.length < 140737488355328 then ((some (x5 ++ [bt x1 x6] : List Int)).bind fun y432 => (if (bt x1 x6) = 0 then (if y432.length < 140737488355328 then (spec_PutEsc.l0 k x1 (y432 ++ [255]) (wrap64 (x6 + 1))) else (none)) else (spec_PutEsc.l0 k x1 y432 (wrap64 (x6 + 1))))) else (none)) else (none)) else ((some (([0, 1] : List Int) : List Int)).bind fun y438 => (if x5.length + y438.length < 140737488355328 then (some (x5 ++ y438)) else (none)))
def spec_PutEsc.f (k : Nat) (l0 : List Int) (a1 : ByteArray) : Option (List Int) := (some (([] : List Int) : List Int)).bind fun y426 => (if y426.length + l0.length < 140737488355328 then (spec_PutEsc.l0 k a1 (y426 ++ l0) 0) else (none))
theorem spec_PutEsc.mono_l : ∀ k, (∀ y0 y1 y2, LeO (spec_PutEsc.l0 k y0 y1 y2) (spec_PutEsc.l0 (k + 1) y0 y1 y2))
  | 0 => fun _ _ _ r h => by simp [spec_PutEsc.l0] at h
  | k + 1 => by
    have ih0 := spec_PutEsc.mono_l k
    · intro y0 y1 y2
      unfold spec_PutEsc.l0
      repeat' first
      | (with_reducible exact ih0 _ _ _)
      | (with_reducible exact LeO.refl _)
      | (with_reducible exact LeO.none _)
      | (with_reducible refine LeO.ite ?_ ?_)
      | (with_reducible refine LeO.bind ?_ (fun _ => ?_))
      | exact ih0 _ _ _
      | exact LeO.none _
      | refine LeO.ite ?_ ?_
      | refine LeO.bind ?_ (fun _ => ?_)
theorem spec_PutEsc.mono : ∀ a0 a1 k, LeO (spec_PutEsc.f k a0 a1) (spec_PutEsc.f (k + 1) a0 a1) := by
  intro a0 a1 k
  have ih0 := spec_PutEsc.mono_l k
  unfold spec_PutEsc.f
  repeat' first
      | (with_reducible exact ih0 _ _ _)
      | (with_reducible exact LeO.refl _)
      | (with_reducible exact LeO.none _)
      | (with_reducible refine LeO.ite ?_ ?_)
      | (with_reducible refine LeO.bind ?_ (fun _ => ?_))
      | exact ih0 _ _ _
      | exact LeO.none _
      | refine LeO.ite ?_ ?_
      | refine LeO.bind ?_ (fun _ => ?_)
set_option maxHeartbeats 8000000 in
set_option maxRecDepth 100000 in
theorem spec_PutEsc.calls (k : Nat) (A0 : Option Addr) (c0 : Nat) (l0 : List Int) (a1 : ByteArray) (r : List Int) (w : World) (hr0 : Kd.C (Kd.int .u8) w A0 l0.length l0) (hc0 : l0.length ≤ c0) (h : spec_PutEsc.f k l0 a1 = some r) :
  Calls Try.prog 96 #[.slice A0 l0.length c0, .string a1] w fun e w' => ∃ v0_ : Value, e = .returned (v0_) ∧ Kd.R (Kd.int .u8) 5 w' w.heap.size (fun _ => True) v0_ r ∧ Below w.heap.size w w' := by
 have HR0 := zA hr0
 have HC0 := zA hc0
 clear hr0 hc0
 have HB := zA (Below.refl w.heap.size w)
 have H : ((some (([] : List Int) : List Int)).bind fun y426 => (if y426.length + l0.length < 140737488355328 then (spec_PutEsc.l0 k a1 (y426 ++ l0) 0) else (none))) = some r := h
 clear h
 obtain ⟨y426, hy426⟩ : ∃ y_ : List Int, y_ = (([] : List Int)) := ⟨_, rfl⟩
 replace H : (if y426.length + l0.length < 140737488355328 then (spec_PutEsc.l0 k a1 (y426 ++ l0) 0) else (none)) = some r := by first | (rw [hy426]; with_reducible exact H) | (have H2_ := (Option.bind_some _ _).symm.trans H; rw [hy426]; with_reducible exact H2_) | (have H2_ := (Option.bind_some _ _).symm.trans H; with_reducible exact H2_) | with_reducible exact H | (rw [hy426]; exact H) | exact H
 have Ny426 := zA hy426
 clear hy426
 by_cases c3 : y426.length + l0.length < 140737488355328
 ·rw [if_pos c3] at H
  have LMc3 := zA c3
  clear c3
  obtain ⟨y429, hy429⟩ : ∃ y_ : List Int, y_ = (y426 ++ l0) := ⟨_, rfl⟩
  replace H : (spec_PutEsc.l0 k a1 y429 0) = some r := by first | (rw [hy429]; with_reducible exact H) | (have H2_ := (Option.bind_some _ _).symm.trans H; rw [hy429]; with_reducible exact H2_) | (have H2_ := (Option.bind_some _ _).symm.trans H; with_reducible exact H2_) | with_reducible exact H | (rw [hy429]; exact H) | exact H
  have Ny429 := zA hy429
  clear hy429
  have H' := zA H
  clear H
  go_enter Try.func96, Try.ntmps96
  go_wp2_with (first | ((with_reducible refine zt 7 ?_); refine Kd.R_lit (Kd.int .u8) _ 5 ?hg (N := 7) ?hd (xs := ([] : List Int)) (inner := []) (ok := fun _ => True) (okp := fun _ => True) ?hr ?hp (fun _ hk => hk) trivial (Below.refl _ _) (Nat.le_refl _) (by simp) ?_; (case hd => rfl); (case hg => rfl); (case hr => exact zz35); (case hp => exact (Reps.none _ _)); intro v427 w4 ho5 hb hg_ hnew_; clear hg_ hnew_; (first | rw [← Ny426.out] at ho5 | (simp only [Int.reduceToNat] at ho5; rw [← Ny426.out] at ho5)); have HO428 := zL ho5; replace HB := zS hb; clear hb ho5) | ((with_reducible refine gate_builtin (b := .append) (xs := #[.tmp 7, .tmp 8]) rfl ?_); at_builtin; refine Kd.R_append_rows (Kd.int .u8) (w0 := w) w.heap.size rfl (.tmp 7) (.tmp 8) 22 5 (.int .u8 0) 1 rfl Try.underlying22 info5 rfl (by decide) (by omega) v427 y426 l0 _ _ _ (fun _ => True) (fun _ => False) rfl rfl ?aO ?aR (fun _ _ h => h) (fun _ h => h.elim) ?aF ?aB ?aS ?aL ?_; (case aR => exact zd HR0); (case aB => exact zb); (case aF => exact (fun _ _ => trivial)); (case aO => exact (zr HO428)); (case aS => exact (below_size zb)); (case aL => have := LMc3.out; omega); intro v430 w6 ho hb hg hat; rw [← Ny429.out] at ho; replace HB := zA hb; have HO431 := zA ho; clear HO428 ho hb hg hat))
  go_loopg [5, 6] k (fun kq v5 v6 w' => ∃ (x5_1 : List Int) (x6_1 : Int), v6 = .int .i64 x6_1 ∧ Aside0 (spec_PutEsc.l0 kq a1 x5_1 x6_1 = some r) ∧ Aside0 (kq ≤ k) ∧ Aside0 (Kd.R (Kd.int .u8) 5 w' w.heap.size (fun _ => True) v5 x5_1) ∧ Aside0 (Below w.heap.size w w'))
  case atStart => exact ⟨(y429), (0), zx, H', ⟨Nat.le_refl _⟩, ⟨zr HO431⟩, ⟨zb⟩⟩
  case round =>
   clear H'
   try clear c3
   obtain ⟨x5_1, x6_1, rfl, HA, HK1, HO_5, HB⟩ := hrel
   cases gk with
   | zero => exact absurd HA.out (by simp [spec_PutEsc.l0])
   | succ k1 =>
    have H := HA.out
    clear HA
    simp only [spec_PutEsc.l0] at H
    by_cases c7 : x6_1 < (a1.size : Int)
    ·rw [if_pos c7] at H
     have c7b0 : decide (x6_1 < (a1.size : Int)) = true := decide_eq_true c7
     clear c7
     by_cases c8 : 0 ≤ x6_1
     ·rw [if_pos c8] at H
      have c8b0 : decide (0 ≤ x6_1) = true := decide_eq_true c8
      clear c8
      by_cases c10 : x5_1.length < 140737488355328
      ·rw [if_pos c10] at H
       have LMc10 := zA c10
       clear c10
       obtain ⟨y432, hy432⟩ : ∃ y_ : List Int, y_ = (x5_1 ++ [bt a1 x6_1]) := ⟨_, rfl⟩
       replace H : (if (bt a1 x6_1) = 0 then (if y432.length < 140737488355328 then (spec_PutEsc.l0 k1 a1 (y432 ++ [255]) (wrap64 (x6_1 + 1))) else (none)) else (spec_PutEsc.l0 k1 a1 y432 (wrap64 (x6_1 + 1)))) = some r := by first | (rw [hy432]; with_reducible exact H) | (have H2_ := (Option.bind_some _ _).symm.trans H; rw [hy432]; with_reducible exact H2_) | (have H2_ := (Option.bind_some _ _).symm.trans H; with_reducible exact H2_) | with_reducible exact H | (rw [hy432]; exact H) | exact H
       have Ny432 := zA hy432
       clear hy432
       by_cases c12 : (bt a1 x6_1) = 0
       ·rw [if_pos c12] at H
        have c12b0 : ((bt a1 x6_1) == 0) = true := beq_iff_eq.mpr c12
        have c12b1 : ((bt a1 x6_1) != 0) = false := bne_eq_false_iff_eq.mpr c12
        clear c12
        by_cases c13 : y432.length < 140737488355328
        ·rw [if_pos c13] at H
         have LMc13 := zA c13
         clear c13
         obtain ⟨y435, hy435⟩ : ∃ y_ : List Int, y_ = (y432 ++ [255]) := ⟨_, rfl⟩
         replace H : (spec_PutEsc.l0 k1 a1 y435 (wrap64 (x6_1 + 1))) = some r := by first | (rw [hy435]; with_reducible exact H) | (have H2_ := (Option.bind_some _ _).symm.trans H; rw [hy435]; with_reducible exact H2_) | (have H2_ := (Option.bind_some _ _).symm.trans H; with_reducible exact H2_) | with_reducible exact H | (rw [hy435]; exact H) | exact H
         have Ny435 := zA hy435
         clear hy435
         have H' := zA H
         clear H
         have p9 : 0 ≤ (x6_1 : Int) := of_decide_eq_true za
         have q9 : x6_1 < (a1.size : Int) := of_decide_eq_true za
         have hx9 := bt_at a1 x6_1
         replace p9 := eq_true p9
         replace q9 := eq_true q9
         go_wp2_with (first | ((with_reducible refine gate_builtin (b := .append) (xs := #[.tmp 16, .tmp 20]) rfl ?_); at_builtin; refine Kd.R_append (Kd.int .u8) (w0 := w) w.heap.size rfl (.tmp 16) (.tmp 20) 22 5 (.int .u8 0) 1 rfl Try.underlying22 info5 rfl (by decide) (by omega) u5 x5_1 (bt a1 x6_1) [.int .u8 (bt a1 x6_1)] (fun _ => True) (fun _ => False) rfl rfl ?aP (fun _ hk => hk.elim) ?aF ?aO ?aB ?aS ?aL ?_; (case aP => exact rfl); (case aB => exact zb); (case aF => exact (fun _ _ => trivial)); (case aO => exact (zr HO_5)); (case aS => exact (below_size zb)); (case aL => have := LMc10.out; omega); intro v433 w14 ho hb hg hat; rw [← Ny432.out] at ho; replace HB := zA hb; have HO434 := zA ho; clear HO_5 ho hb hg hat; have p11 : 0 ≤ (x6_1 : Int) := of_decide_eq_true za; have q11 : x6_1 < (a1.size : Int) := of_decide_eq_true za; have hx11 := bt_at a1 x6_1; replace p11 := eq_true p11; replace q11 := eq_true q11) | ((with_reducible refine gate_builtin (b := .append) (xs := #[.tmp 26, .tmp 27]) rfl ?_); at_builtin; refine Kd.R_append (Kd.int .u8) (w0 := w) w.heap.size rfl (.tmp 26) (.tmp 27) 22 5 (.int .u8 0) 1 rfl Try.underlying22 info5 rfl (by decide) (by omega) v433 y432 255 [.int .u8 255] (fun _ => True) (fun _ => False) rfl rfl ?aP (fun _ hk => hk.elim) ?aF ?aO ?aB ?aS ?aL ?_; (case aP => exact rfl); (case aB => exact zb); (case aF => exact (fun _ _ => trivial)); (case aO => exact (zr HO434)); (case aS => exact (below_size zb)); (case aL => have := LMc13.out; omega); intro v436 w15 ho hb hg hat; rw [← Ny435.out] at ho; replace HB := zA hb; have HO437 := zA ho; clear HO434 ho hb hg hat))
         go_roundg k1
         case measure => have := HK1.out; omega
         case rel => exact ⟨(y435), (wrap64 (x6_1 + 1)), zx, H', ⟨zz95⟩, ⟨zr HO437⟩, ⟨zb⟩⟩
        ·rw [if_neg c13] at H
         exact absurd H (by simp)
       ·rw [if_neg c12] at H
        have c12b0 : ((bt a1 x6_1) == 0) = false := beq_eq_false_iff_ne.mpr c12
        have c12b1 : ((bt a1 x6_1) != 0) = true := bne_iff_ne.mpr c12
        have H' := zA H
        clear H
        have p9 : 0 ≤ (x6_1 : Int) := of_decide_eq_true za
        have q9 : x6_1 < (a1.size : Int) := of_decide_eq_true za
        have hx9 := bt_at a1 x6_1
        replace p9 := eq_true p9
        replace q9 := eq_true q9
        go_wp2_with (first | ((with_reducible refine gate_builtin (b := .append) (xs := #[.tmp 16, .tmp 20]) rfl ?_); at_builtin; refine Kd.R_append (Kd.int .u8) (w0 := w) w.heap.size rfl (.tmp 16) (.tmp 20) 22 5 (.int .u8 0) 1 rfl Try.underlying22 info5 rfl (by decide) (by omega) u5 x5_1 (bt a1 x6_1) [.int .u8 (bt a1 x6_1)] (fun _ => True) (fun _ => False) rfl rfl ?aP (fun _ hk => hk.elim) ?aF ?aO ?aB ?aS ?aL ?_; (case aP => exact rfl); (case aB => exact zb); (case aF => exact (fun _ _ => trivial)); (case aO => exact (zr HO_5)); (case aS => exact (below_size zb)); (case aL => have := LMc10.out; omega); intro v433 w16 ho hb hg hat; rw [← Ny432.out] at ho; replace HB := zA hb; have HO434 := zA ho; clear HO_5 ho hb hg hat; have p11 : 0 ≤ (x6_1 : Int) := of_decide_eq_true za; have q11 : x6_1 < (a1.size : Int) := of_decide_eq_true za; have hx11 := bt_at a1 x6_1; replace p11 := eq_true p11; replace q11 := eq_true q11))
        go_roundg k1
        case measure => have := HK1.out; omega
        case rel => exact ⟨(y432), (wrap64 (x6_1 + 1)), zx, H', ⟨zz95⟩, ⟨zr HO434⟩, ⟨zb⟩⟩
      ·rw [if_neg c10] at H
       exact absurd H (by simp)
     ·rw [if_neg c8] at H
      exact absurd H (by simp)
    ·rw [if_neg c7] at H
     have c7b0 : decide (x6_1 < (a1.size : Int)) = false := decide_eq_false c7
     clear c7
     obtain ⟨y438, hy438⟩ : ∃ y_ : List Int, y_ = (([0, 1] : List Int)) := ⟨_, rfl⟩
     replace H : (if x5_1.length + y438.length < 140737488355328 then (some (x5_1 ++ y438)) else (none)) = some r := by first | (rw [hy438]; with_reducible exact H) | (have H2_ := (Option.bind_some _ _).symm.trans H; rw [hy438]; with_reducible exact H2_) | (have H2_ := (Option.bind_some _ _).symm.trans H; with_reducible exact H2_) | with_reducible exact H | (rw [hy438]; exact H) | exact H
     have Ny438 := zA hy438
     clear hy438
     by_cases c17 : x5_1.length + y438.length < 140737488355328
     ·rw [if_pos c17] at H
      have LMc17 := zA c17
      clear c17
      obtain ⟨y441, hy441⟩ : ∃ y_ : List Int, y_ = (x5_1 ++ y438) := ⟨_, rfl⟩
      replace H : (some y441) = some r := by first | (rw [hy441]; with_reducible exact H) | (have H2_ := (Option.bind_some _ _).symm.trans H; rw [hy441]; with_reducible exact H2_) | (have H2_ := (Option.bind_some _ _).symm.trans H; with_reducible exact H2_) | with_reducible exact H | (rw [hy441]; exact H) | exact H
      have Ny441 := zA hy441
      clear hy441
      obtain rfl := Option.some.inj H
      go_wp2_with (first | ((with_reducible refine zt 30 ?_); refine Kd.R_lit (Kd.int .u8) _ 5 ?hg (N := 30) ?hd (xs := ([0, 1] : List Int)) (inner := [.int .u8 0, .int .u8 1]) (ok := fun _ => True) (okp := fun _ => True) ?hr ?hp (fun _ hk => hk) trivial (Below.refl _ _) (Nat.le_refl _) (by simp) ?_; (case hd => rfl); (case hg => rfl); (case hr => exact zz35); (case hp => exact (Reps.one (show Kd.M (Kd.int .u8) _ _ _ 0 [.int .u8 0] from rfl) (Reps.one (show Kd.M (Kd.int .u8) _ _ _ 1 [.int .u8 1] from rfl) (Reps.none _ _)))); intro v439 w18 ho19 hb hg_ hnew_; clear hg_ hnew_; (first | rw [← Ny438.out] at ho19 | (simp only [Int.reduceToNat] at ho19; rw [← Ny438.out] at ho19)); have HO440 := zL (zN ho19 HO_5); replace HO_5 := zE HO_5 ho19 hb; replace HB := zS hb; clear hb ho19; obtain ⟨Ao21, co21, eo21⟩ := Kd.R_slice HO440.out; subst eo21) | ((with_reducible refine gate_builtin (b := .append) (xs := #[.tmp 29, .tmp 30]) rfl ?_); at_builtin; refine Kd.R_append_rows (Kd.int .u8) (w0 := w) w.heap.size rfl (.tmp 29) (.tmp 30) 22 5 (.int .u8 0) 1 rfl Try.underlying22 info5 rfl (by decide) (by omega) u5 x5_1 y438 _ _ _ (fun k_ => some k_ ≠ (.slice Ao21 y438.length co21 : Value).ownBlock) (fun _ => False) rfl rfl ?aO ?aR (fun _ _ h => h) (fun _ h => h.elim) ?aF ?aB ?aS ?aL ?_; (case aR => exact ze HO440); (case aB => exact zb); (case aF => exact (fun k_ hk => Kd.fresh' (Kd.R_lt (zr HO440)) k_ hk)); (case aO => exact (by (with_reducible repeat (first | apply Kd.R_alloc | apply Kd.R_drewN | apply Kd.R_drew)); exact Kd.R_mono HO_5.out (fun _ hk => hk.2))); (case aS => exact (below_size zb)); (case aL => have := LMc17.out; omega); intro v442 w20 ho hb hg hat; rw [← Ny441.out] at ho; replace HO440 := zA (Kd.R_after (ok := (fun _ => True)) (zr HO440) hg hat); replace HB := zA hb; have HO443 := zA ho; clear HO_5 ho hb hg hat))
      go_ret
      exact ⟨_, zw, by (with_reducible repeat (first | apply Kd.R_alloc | apply Kd.R_drewN | apply Kd.R_drew)); exact Kd.R_mono HO443.out (fun _ hk => trivial), zb⟩
     ·rw [if_neg c17] at H
      exact absurd H (by simp)
 ·rw [if_neg c3] at H
  exact absurd H (by simp)

/-! ### spec_l5Value: function 67 -/
def spec_l5Value.f (k : Nat) (l0 : List Int) (a1_0 : Int) (a1_1 : Int) (a1_2 : ByteArray) : Option (List Int) := if a1_0 = 1 then ((spec_PutFix.f l0 a1_1).bind fun t445 => (some t445)) else (if a1_0 = 2 then ((spec_PutVar.f k l0 a1_1).bind fun t448 => (some t448)) else (if a1_0 = 3 then ((spec_PutEsc.f k l0 a1_2).bind fun t451 => (some t451)) else ((some (([] : List Int) : List Int)).bind fun y454 => (if y454.length + l0.length < 140737488355328 then ((some (y454 ++ l0 : List Int)).bind fun y457 => ((some (([(a1_1) % 256] : List Int) : List Int)).bind fun y460 => (if y457.length + y460.length < 140737488355328 then (some (y457 ++ y460)) else (none)))) else (none)))))
theorem spec_l5Value.mono : ∀ a0 a1 a2 a3 k, LeO (spec_l5Value.f k a0 a1 a2 a3) (spec_l5Value.f (k + 1) a0 a1 a2 a3) := by
  intro a0 a1 a2 a3 k
  unfold spec_l5Value.f
  repeat' first
      | (with_reducible exact spec_PutEsc.mono _ _ _)
      | (with_reducible exact spec_PutVar.mono _ _ _)
      | (with_reducible exact LeO.refl _)
      | (with_reducible exact LeO.none _)
      | (with_reducible refine LeO.ite ?_ ?_)
      | (with_reducible refine LeO.bind ?_ (fun _ => ?_))
      | exact spec_PutEsc.mono _ _ _
      | exact spec_PutVar.mono _ _ _
      | exact LeO.none _
      | refine LeO.ite ?_ ?_
      | refine LeO.bind ?_ (fun _ => ?_)
def spec_l5Value.T8 : Bool × List (List Nat × List Nat) := (true, [([], []), ([], []), ([0, 1], [0, 1]), ([], []), ([3], [3]), ([4], [4]), ([5], [5]), ([2, 6, 2], [2, 6]), ([7, 7, 0, 1, 2, 3, 4, 5, 6, 7], [7])])
def spec_l5Value.B8 : List Nat := [0, 0, 3, 0, 8, 24, 56, 127, 255]
theorem spec_l5Value.tab8 : rtab .any (opsOf Try.f67 8) = spec_l5Value.T8 := by kernel_rfl
theorem spec_l5Value.bits8 : waitsOk spec_l5Value.T8.2 spec_l5Value.B8 = true := by kernel_rfl
set_option maxHeartbeats 8000000 in
set_option maxRecDepth 100000 in
theorem spec_l5Value.calls (k : Nat) (A0 : Option Addr) (c0 : Nat) (l0 : List Int) (a1_0 : Int) (a1_1 : Int) (a1_2 : ByteArray) (r : List Int) (w : World) (hr0 : Kd.C (Kd.int .u8) w A0 l0.length l0) (hc0 : l0.length ≤ c0) (h : spec_l5Value.f k l0 a1_0 a1_1 a1_2 = some r) :
  Calls Try.prog 67 #[.slice A0 l0.length c0, .agg #[.int .i64 a1_0, .int .i64 a1_1, .string a1_2]] w fun e w' => ∃ v0_ : Value, e = .returned (v0_) ∧ Kd.R (Kd.int .u8) 5 w' w.heap.size (fun _ => True) v0_ r ∧ Below w.heap.size w w' := by
 have hu32 := Try.underlying32
 have HR0 := zA hr0
 have HC0 := zA hc0
 clear hr0 hc0
 have HB := zA (Below.refl w.heap.size w)
 have H : (if a1_0 = 1 then ((spec_PutFix.f l0 a1_1).bind fun t445 => (some t445)) else (if a1_0 = 2 then ((spec_PutVar.f k l0 a1_1).bind fun t448 => (some t448)) else (if a1_0 = 3 then ((spec_PutEsc.f k l0 a1_2).bind fun t451 => (some t451)) else ((some (([] : List Int) : List Int)).bind fun y454 => (if y454.length + l0.length < 140737488355328 then ((some (y454 ++ l0 : List Int)).bind fun y457 => ((some (([(a1_1) % 256] : List Int) : List Int)).bind fun y460 => (if y457.length + y460.length < 140737488355328 then (some (y457 ++ y460)) else (none)))) else (none)))))) = some r := h
 clear h
 by_cases c3 : a1_0 = 1
 ·rw [if_pos c3] at H
  have c3b0 : (a1_0 == 1) = true := beq_iff_eq.mpr c3
  have c3b1 : (a1_0 != 1) = false := bne_eq_false_iff_eq.mpr c3
  clear c3
  replace H := zI H
  obtain ⟨t445, A4, H⟩ := H
  obtain rfl := Option.some.inj H
  go_enter Try.func67, Try.ntmps67
  go_wp2_with (first | ((with_reducible refine zt 3 ?_); refine zn #[.int .i64 a1_0, .int .i64 a1_1, .string a1_2] 32 ?_; intro gb444 hg w5 hbox hb; have BK444 := zA hbox; have GW444 := zG hg; have GE444 := zG hg; replace HB := zS hb; clear hb hbox hg; obtain ⟨hcz6_0, hcz6_1, hcz6_2, hfz6_0, hfz6_1, hfz6_2⟩ := zh3 BK444) | ((with_reducible refine zg 94 ?_); refine gL (some 12) Try.func94 #[.slice A0 l0.length c0, .int .i64 a1_1] ?_; (with_reducible refine (spec_PutFix.calls _ _ l0 a1_1 t445 _ ?z1 ?z2 A4.out).mono ?_); (case z1 => exact zd HR0); (case z2 => exact HC0.out); rintro e w7 ⟨v446, rfl, ho0, hb⟩; refine ⟨_, rfl, ?_⟩; have HO447 := zL ho0 (zb1 GE444); replace BK444 := zB BK444 hb; replace HB := zS hb (zb1 GE444); clear hb ho0))
  go_ret
  exact ⟨_, zw, zr HO447, zb1 GE444⟩
 ·rw [if_neg c3] at H
  have c3b0 : (a1_0 == 1) = false := beq_eq_false_iff_ne.mpr c3
  have c3b1 : (a1_0 != 1) = true := bne_iff_ne.mpr c3
  by_cases c8 : a1_0 = 2
  ·rw [if_pos c8] at H
   have c8b0 : (a1_0 == 2) = true := beq_iff_eq.mpr c8
   have c8b1 : (a1_0 != 2) = false := bne_eq_false_iff_eq.mpr c8
   clear c8
   replace H := zI H
   obtain ⟨t448, A9, H⟩ := H
   obtain rfl := Option.some.inj H
   go_enter Try.func67, Try.ntmps67
   go_wp2_with (first | ((with_reducible refine zt 3 ?_); refine zn #[.int .i64 a1_0, .int .i64 a1_1, .string a1_2] 32 ?_; intro gb444 hg w10 hbox hb; have BK444 := zA hbox; have GW444 := zG hg; have GE444 := zG hg; replace HB := zS hb; clear hb hbox hg; obtain ⟨hcz11_0, hcz11_1, hcz11_2, hfz11_0, hfz11_1, hfz11_2⟩ := zh3 BK444) | ((with_reducible refine zg 95 ?_); refine gL (some 18) Try.func95 #[.slice A0 l0.length c0, .int .i64 a1_1] ?_; (with_reducible refine (spec_PutVar.calls k _ _ l0 a1_1 t448 _ ?z1 ?z2 A9.out).mono ?_); (case z1 => exact zd HR0); (case z2 => exact HC0.out); rintro e w12 ⟨v449, rfl, ho0, hb⟩; refine ⟨_, rfl, ?_⟩; have HO450 := zL ho0 (zb1 GE444); replace BK444 := zB BK444 hb; replace HB := zS hb (zb1 GE444); clear hb ho0))
   go_ret
   exact ⟨_, zw, zr HO450, zb1 GE444⟩
  ·rw [if_neg c8] at H
   have c8b0 : (a1_0 == 2) = false := beq_eq_false_iff_ne.mpr c8
   have c8b1 : (a1_0 != 2) = true := bne_iff_ne.mpr c8
   by_cases c13 : a1_0 = 3
   ·rw [if_pos c13] at H
    have c13b0 : (a1_0 == 3) = true := beq_iff_eq.mpr c13
    have c13b1 : (a1_0 != 3) = false := bne_eq_false_iff_eq.mpr c13
    clear c13
    replace H := zI H
    obtain ⟨t451, A14, H⟩ := H
    obtain rfl := Option.some.inj H
    go_enter Try.func67, Try.ntmps67
    go_wp2_with (first | ((with_reducible refine zt 3 ?_); refine zn #[.int .i64 a1_0, .int .i64 a1_1, .string a1_2] 32 ?_; intro gb444 hg w15 hbox hb; have BK444 := zA hbox; have GW444 := zG hg; have GE444 := zG hg; replace HB := zS hb; clear hb hbox hg; obtain ⟨hcz16_0, hcz16_1, hcz16_2, hfz16_0, hfz16_1, hfz16_2⟩ := zh3 BK444) | ((with_reducible refine zg 96 ?_); refine gL (some 24) Try.func96 #[.slice A0 l0.length c0, .string a1_2] ?_; (with_reducible refine (spec_PutEsc.calls k _ _ l0 a1_2 t451 _ ?z1 ?z2 A14.out).mono ?_); (case z1 => exact zd HR0); (case z2 => exact HC0.out); rintro e w17 ⟨v452, rfl, ho0, hb⟩; refine ⟨_, rfl, ?_⟩; have HO453 := zL ho0 (zb1 GE444); replace BK444 := zB BK444 hb; replace HB := zS hb (zb1 GE444); clear hb ho0))
    go_ret
    exact ⟨_, zw, zr HO453, zb1 GE444⟩
   ·rw [if_neg c13] at H
    have c13b0 : (a1_0 == 3) = false := beq_eq_false_iff_ne.mpr c13
    have c13b1 : (a1_0 != 3) = true := bne_iff_ne.mpr c13
    obtain ⟨y454, hy454⟩ : ∃ y_ : List Int, y_ = (([] : List Int)) := ⟨_, rfl⟩
    replace H : (if y454.length + l0.length < 140737488355328 then ((some (y454 ++ l0 : List Int)).bind fun y457 => ((some (([(a1_1) % 256] : List Int) : List Int)).bind fun y460 => (if y457.length + y460.length < 140737488355328 then (some (y457 ++ y460)) else (none)))) else (none)) = some r := by first | (rw [hy454]; with_reducible exact H) | (have H2_ := (Option.bind_some _ _).symm.trans H; rw [hy454]; with_reducible exact H2_) | (have H2_ := (Option.bind_some _ _).symm.trans H; with_reducible exact H2_) | with_reducible exact H | (rw [hy454]; exact H) | exact H
    have Ny454 := zA hy454
    clear hy454
    by_cases c18 : y454.length + l0.length < 140737488355328
    ·rw [if_pos c18] at H
     have LMc18 := zA c18
     clear c18
     obtain ⟨y457, hy457⟩ : ∃ y_ : List Int, y_ = (y454 ++ l0) := ⟨_, rfl⟩
     replace H : ((some (([(a1_1) % 256] : List Int) : List Int)).bind fun y460 => (if y457.length + y460.length < 140737488355328 then (some (y457 ++ y460)) else (none))) = some r := by first | (rw [hy457]; with_reducible exact H) | (have H2_ := (Option.bind_some _ _).symm.trans H; rw [hy457]; with_reducible exact H2_) | (have H2_ := (Option.bind_some _ _).symm.trans H; with_reducible exact H2_) | with_reducible exact H | (rw [hy457]; exact H) | exact H
     have Ny457 := zA hy457
     clear hy457
     obtain ⟨y460, hy460⟩ : ∃ y_ : List Int, y_ = (([(a1_1) % 256] : List Int)) := ⟨_, rfl⟩
     replace H : (if y457.length + y460.length < 140737488355328 then (some (y457 ++ y460)) else (none)) = some r := by first | (rw [hy460]; with_reducible exact H) | (have H2_ := (Option.bind_some _ _).symm.trans H; rw [hy460]; with_reducible exact H2_) | (have H2_ := (Option.bind_some _ _).symm.trans H; with_reducible exact H2_) | with_reducible exact H | (rw [hy460]; exact H) | exact H
     have Ny460 := zA hy460
     clear hy460
     by_cases c19 : y457.length + y460.length < 140737488355328
     ·rw [if_pos c19] at H
      have LMc19 := zA c19
      clear c19
      obtain ⟨y463, hy463⟩ : ∃ y_ : List Int, y_ = (y457 ++ y460) := ⟨_, rfl⟩
      replace H : (some y463) = some r := by first | (rw [hy463]; with_reducible exact H) | (have H2_ := (Option.bind_some _ _).symm.trans H; rw [hy463]; with_reducible exact H2_) | (have H2_ := (Option.bind_some _ _).symm.trans H; with_reducible exact H2_) | with_reducible exact H | (rw [hy463]; exact H) | exact H
      have Ny463 := zA hy463
      clear hy463
      obtain rfl := Option.some.inj H
      go_enter Try.func67, Try.ntmps67
      try go_wp2_with (first | ((with_reducible refine zt 3 ?_); refine zn #[.int .i64 a1_0, .int .i64 a1_1, .string a1_2] 32 ?_; intro gb444 hg w20 hbox hb; have BK444 := zA hbox; have GW444 := zG hg; have GE444 := zG hg; replace HB := zS hb; clear hb hbox hg; obtain ⟨hcz21_0, hcz21_1, hcz21_2, hfz21_0, hfz21_1, hfz21_2⟩ := zh3 BK444))
      have n0_ := zA (blk_drew BK444.out)
      have n1_ := zA (below_drew1 HB.out)
      clear BK444 HB
      have BK444 := n0_; have HB := n1_
      clear n0_ n1_
      refine start_ (n := 9) (S := fun w' => w'.cell? ⟨gb444, 0, none⟩ = some (.int .i64 a1_0) ∧ w'.cell? ⟨gb444, 1, none⟩ = some (.int .i64 a1_1) ∧ w'.cell? ⟨gb444, 2, none⟩ = some (.string a1_2)) (ds := []) #[false, false, false, false, false, false, false, false, false] (by kernel_rfl) rfl rfl ⟨(blk_cell BK444.out 0).trans rfl, (blk_cell BK444.out 1).trans rfl, (blk_cell BK444.out 2).trans rfl⟩ (fun hHeld => ?_); refine with_tabW spec_l5Value.tab8 spec_l5Value.bits8 (fun HT_ HW_ => ?_)
      generalize w20.drew = w22 at BK444 HB hHeld ⊢
      refine pure_ (i := 1) (N := some 26) (v := ?_) (a' := ?_) #[false, true, false, false, false, false, false, false, false] rfl rfl (any_of HT_.out (by kernel_rfl)) (fun _ _ _ h => h) (Or.inl ⟨by rfl, ?_⟩) ?_ ?_; rotate_left
      ·intro w'; go_simp; with_reducible rfl
      rotate_left
      ·simp only [Act.put, List.setIfInBounds_toArray, List.set_cons_zero, List.set_cons_succ, i64_w, i32_w]; rfl
      refine pure_ (i := 3) (N := some 28) (v := ?_) (a' := ?_) #[false, true, false, true, false, false, false, false, false] rfl rfl (any_of HT_.out (by kernel_rfl)) (fun _ _ _ h => h) (Or.inl ⟨by rfl, ?_⟩) ?_ ?_; rotate_left
      ·intro w'; go_simp; with_reducible rfl
      rotate_left
      ·simp only [Act.put, List.setIfInBounds_toArray, List.set_cons_zero, List.set_cons_succ, i64_w, i32_w]; rfl
      refine take_ (i := 4) (N := some 29) (v := ?_) (a' := ?_) #[false, true, false, true, true, false, false, false, false] rfl rfl (take_ofW HT_.out HW_.out (by kernel_rfl)) (fun _ _ _ h => h) (Or.inl ⟨by rfl, ?_⟩) hHeld ?_ ?_; rotate_left
      ·rintro w' ⟨s0, s1, s2⟩
       go_simp
       with_reducible rfl
      rotate_left
      ·simp only [Act.put, List.setIfInBounds_toArray, List.set_cons_zero, List.set_cons_succ, i64_w, i32_w]; rfl
      refine pure_ (i := 5) (N := some 30) (v := ?_) (a' := ?_) #[false, true, false, true, true, true, false, false, false] rfl rfl (any_of HT_.out (by kernel_rfl)) (fun _ _ _ h => h) (Or.inl ⟨by rfl, ?_⟩) ?_ ?_; rotate_left
      ·intro w'; go_simp; with_reducible rfl
      rotate_left
      ·simp only [Act.put, List.setIfInBounds_toArray, List.set_cons_zero, List.set_cons_succ, i64_w, i32_w]; rfl
      refine join_ (σ := Value × Value × Value) 2 #[true, true, true, true, true, true, true, false, false] (fun s_ => [(25, s_.1), (27, s_.2.1), (31, s_.2.2)]) (fun s_ w' => (w'.cell? ⟨gb444, 0, none⟩ = some (.int .i64 a1_0) ∧ w'.cell? ⟨gb444, 1, none⟩ = some (.int .i64 a1_1) ∧ w'.cell? ⟨gb444, 2, none⟩ = some (.string a1_2)) ∧ (Kd.R (Kd.int .u8) 5 w' w.heap.size (fun k_ => some k_ ≠ (s_.2.2 : Value).ownBlock) s_.2.1 y457) ∧ (Kd.R (Kd.int .u8) 5 w' w.heap.size (fun k_ => some k_ ≠ (s_.2.1 : Value).ownBlock) s_.2.2 y460) ∧ (w'.heap[gb444]? = some (.cells #[.int .i64 a1_0, .int .i64 a1_1, .string a1_2] 32 (0, 0))) ∧ (Below w.heap.size w w')) ?_ ?_
      rotate_left
      ·intro hCont
       refine two_ (i := 0) (j := 6) (Ni := some 25) (Nj := some 31) #[true, true, false, true, true, true, false, false, false] #[false, true, false, true, true, true, true, false, false] rfl rfl rfl rfl (two_of HT_.out (by kernel_rfl)) (by decide) (by decide) (fun K hK => ?_) (fun K hK => ?_)
       ·skip
        refine Kd.R_lit_step (Kd.int .u8) _ 5 ?hg (N := 25) ?hd (xs := ([] : List Int)) (inner := []) (ok := fun _ => True) (okp := fun _ => True) ?hr ?hp (fun _ hk => hk) trivial (Below.refl _ _) (Nat.le_refl _) (by simp) ?_; (case hd => rfl); (case hg => rfl); (case hr => exact zz35); (case hp => exact (Reps.none _ _))
        intro v455 w23 ho24 hb hg_ hnew_
        clear hg_ hnew_
        (first | rw [← Ny454.out] at ho24 | (simp only [Int.reduceToNat] at ho24; rw [← Ny454.out] at ho24))
        have n0_ := zL ho24 (zb1 GE444)
        have n1_ := zB BK444 hb
        have n2_ := zS hb (zb1 GE444)
        clear BK444 HB
        have HO456 := n0_; have BK444 := n1_; have HB := n2_
        clear n0_ n1_ n2_ hb ho24
        refine hK.out _ _ ⟨(blk_cell BK444.out 0).trans rfl, (blk_cell BK444.out 1).trans rfl, (blk_cell BK444.out 2).trans rfl⟩ (fun hHeld => ?_)
        clear hK K
        refine norm_ (a' := ?_) ?_ ?_; rotate_left
        ·show Act.put _ (some 25) _ = _
         simp only [Act.put, List.setIfInBounds_toArray, List.set_cons_zero, List.set_cons_succ, i64_w, i32_w]
         rfl
        refine two_ (i := 2) (j := 6) (Ni := some 27) (Nj := some 31) #[true, true, true, true, true, true, false, false, false] #[true, true, false, true, true, true, true, false, false] rfl rfl rfl rfl (two_of HT_.out (by kernel_rfl)) (by decide) (by decide) (fun K hK => ?_) (fun K hK => ?_)
        ·skip
         refine Kd.R_append_rows_step (Kd.int .u8) (w0 := w) w.heap.size (by rfl) (.tmp 25) (.tmp 26) 22 5 (.int .u8 0) 1 rfl Try.underlying22 info5 rfl (by decide) (by omega) v455 y454 l0 _ _ _ (fun _ => True) (fun _ => False) rfl rfl ?aO ?aR (fun _ _ h => h) (fun _ h => h.elim) ?aF ?aB ?aS ?aL ?_
         (case aR => exact zd HR0)
         (case aB => exact (zb1 GE444))
         (case aF => exact (fun _ _ => trivial))
         (case aO => exact (zr HO456))
         (case aS => exact (below_size (zb1 GE444)))
         (case aL => have := LMc18.out; omega)
         intro v458 w25 ho hb hg hat
         rw [← Ny457.out] at ho
         have n0_ := zA (blk_grown (g := gb444) (o := .cells #[.int .i64 a1_0, .int .i64 a1_1, .string a1_2] 32 (0, 0)) (zk BK444) hg (Kd.R_ne HO456.out BK444.out (by decide)))
         have n1_ := zA hb
         have n2_ := zA ho
         clear BK444 HB HO456
         have BK444 := n0_; have HB := n1_; have HO459 := n2_
         clear n0_ n1_ n2_ ho hb hg hat
         refine hK.out _ _ ⟨(blk_cell BK444.out 0).trans rfl, (blk_cell BK444.out 1).trans rfl, (blk_cell BK444.out 2).trans rfl⟩ (fun hHeld => ?_)
         clear hK K
         refine norm_ (a' := ?_) ?_ ?_; rotate_left
         ·show Act.put _ (some 27) _ = _
          simp only [Act.put, List.setIfInBounds_toArray, List.set_cons_zero, List.set_cons_succ, i64_w, i32_w]
          rfl
         refine one_ (i := 6) (N := some 31) #[true, true, true, true, true, true, true, false, false] rfl rfl (one_of HT_.out (by kernel_rfl)) (by decide) (fun K hK => ?_)
         refine Kd.R_lit_step (Kd.int .u8) _ 5 ?hg (N := 31) ?hd (xs := ([(a1_1) % 256] : List Int)) (inner := [.int .u8 ((a1_1) % 256)]) (ok := fun _ => True) (okp := fun _ => True) ?hr ?hp (fun _ hk => hk) trivial (Below.refl _ _) (Nat.le_refl _) (by simp) ?_; (case hd => rfl); (case hg => rfl); (case hr => exact zz35); (case hp => exact (Reps.one (show Kd.M (Kd.int .u8) _ _ _ ((a1_1) % 256) [.int .u8 ((a1_1) % 256)] from rfl) (Reps.none _ _)))
         intro v461 w26 ho27 hb hg_ hnew_
         clear hg_ hnew_
         (first | rw [← Ny460.out] at ho27 | (simp only [Int.reduceToNat] at ho27; rw [← Ny460.out] at ho27))
         have n0_ := zE HO459 ho27 hb
         have n1_ := zL (zN ho27 HO459) (zb1 GE444)
         have n2_ := zB BK444 hb
         have n3_ := zS hb (zb1 GE444)
         clear HO459 BK444 HB
         have HO459 := n0_; have HO462 := n1_; have BK444 := n2_; have HB := n3_
         clear n0_ n1_ n2_ n3_ hb ho27
         refine hK.out _ _ ⟨(blk_cell BK444.out 0).trans rfl, (blk_cell BK444.out 1).trans rfl, (blk_cell BK444.out 2).trans rfl⟩ (fun hHeld => ?_)
         clear hK K
         refine norm_ (a' := ?_) ?_ ?_; rotate_left
         ·show Act.put _ (some 31) _ = _
          simp only [Act.put, List.setIfInBounds_toArray, List.set_cons_zero, List.set_cons_succ, i64_w, i32_w]
          rfl
         exact norm_ zz89 (hCont (v455, v458, v461) _ ⟨hHeld, (by (with_reducible repeat (first | apply Kd.R_alloc | apply Kd.R_drewN | apply Kd.R_drew)); exact Kd.R_mono HO459.out (fun _ hk => hk.2)), zz92, (zk BK444), (zb1 GE444)⟩)
        ·skip
         refine Kd.R_lit_step (Kd.int .u8) _ 5 ?hg (N := 31) ?hd (xs := ([(a1_1) % 256] : List Int)) (inner := [.int .u8 ((a1_1) % 256)]) (ok := fun _ => True) (okp := fun _ => True) ?hr ?hp (fun _ hk => hk) trivial (Below.refl _ _) (Nat.le_refl _) (by simp) ?_; (case hd => rfl); (case hg => rfl); (case hr => exact zz35); (case hp => exact (Reps.one (show Kd.M (Kd.int .u8) _ _ _ ((a1_1) % 256) [.int .u8 ((a1_1) % 256)] from rfl) (Reps.none _ _)))
         intro v461 w25 ho26 hb hg_ hnew_
         clear hg_ hnew_
         (first | rw [← Ny460.out] at ho26 | (simp only [Int.reduceToNat] at ho26; rw [← Ny460.out] at ho26))
         have n0_ := zE HO456 ho26 hb
         have n1_ := zL (zN ho26 HO456) (zb1 GE444)
         have n2_ := zB BK444 hb
         have n3_ := zS hb (zb1 GE444)
         clear HO456 BK444 HB
         have HO456 := n0_; have HO462 := n1_; have BK444 := n2_; have HB := n3_
         clear n0_ n1_ n2_ n3_ hb ho26
         refine hK.out _ _ ⟨(blk_cell BK444.out 0).trans rfl, (blk_cell BK444.out 1).trans rfl, (blk_cell BK444.out 2).trans rfl⟩ (fun hHeld => ?_)
         clear hK K
         refine norm_ (a' := ?_) ?_ ?_; rotate_left
         ·show Act.put _ (some 31) _ = _
          simp only [Act.put, List.setIfInBounds_toArray, List.set_cons_zero, List.set_cons_succ, i64_w, i32_w]
          rfl
         refine one_ (i := 2) (N := some 27) #[true, true, true, true, true, true, true, false, false] rfl rfl (one_of HT_.out (by kernel_rfl)) (by decide) (fun K hK => ?_)
         refine Kd.R_append_rows_step (Kd.int .u8) (w0 := w) w.heap.size (by rfl) (.tmp 25) (.tmp 26) 22 5 (.int .u8 0) 1 rfl Try.underlying22 info5 rfl (by decide) (by omega) v455 y454 l0 _ _ _ (fun k_ => some k_ ≠ (v461 : Value).ownBlock) (fun _ => False) rfl rfl ?aO ?aR (fun _ _ h => h) (fun _ h => h.elim) ?aF ?aB ?aS ?aL ?_
         (case aR => exact zd HR0)
         (case aB => exact (zb1 GE444))
         (case aF => exact (fun k_ hk => Kd.fresh' (Kd.R_lt (zr HO462)) k_ hk))
         (case aO => exact zz97)
         (case aS => exact (below_size (zb1 GE444)))
         (case aL => have := LMc18.out; omega)
         intro v458 w27 ho hb hg hat
         rw [← Ny457.out] at ho
         have n0_ := zA (blk_grown (g := gb444) (o := .cells #[.int .i64 a1_0, .int .i64 a1_1, .string a1_2] 32 (0, 0)) (zk BK444) hg (Kd.R_ne HO456.out BK444.out (by decide)))
         have n1_ := zA (Kd.R_after (ok := (fun _ => True)) (zr HO462) hg hat)
         have n2_ := zA hb
         have n3_ := zA ho
         clear BK444 HO462 HB HO456
         have BK444 := n0_; have HO462 := n1_; have HB := n2_; have HO459 := n3_
         clear n0_ n1_ n2_ n3_ ho hb hg hat
         refine hK.out _ _ ⟨(blk_cell BK444.out 0).trans rfl, (blk_cell BK444.out 1).trans rfl, (blk_cell BK444.out 2).trans rfl⟩ (fun hHeld => ?_)
         clear hK K
         refine norm_ (a' := ?_) ?_ ?_; rotate_left
         ·show Act.put _ (some 27) _ = _
          simp only [Act.put, List.setIfInBounds_toArray, List.set_cons_zero, List.set_cons_succ, i64_w, i32_w]
          rfl
         exact norm_ zz89 (hCont (v455, v458, v461) _ ⟨hHeld, (zr HO459), zz92, (zk BK444), (zb1 GE444)⟩)
       ·skip
        refine Kd.R_lit_step (Kd.int .u8) _ 5 ?hg (N := 31) ?hd (xs := ([(a1_1) % 256] : List Int)) (inner := [.int .u8 ((a1_1) % 256)]) (ok := fun _ => True) (okp := fun _ => True) ?hr ?hp (fun _ hk => hk) trivial (Below.refl _ _) (Nat.le_refl _) (by simp) ?_; (case hd => rfl); (case hg => rfl); (case hr => exact zz35); (case hp => exact (Reps.one (show Kd.M (Kd.int .u8) _ _ _ ((a1_1) % 256) [.int .u8 ((a1_1) % 256)] from rfl) (Reps.none _ _)))
        intro v461 w23 ho24 hb hg_ hnew_
        clear hg_ hnew_
        (first | rw [← Ny460.out] at ho24 | (simp only [Int.reduceToNat] at ho24; rw [← Ny460.out] at ho24))
        have n0_ := zL ho24 (zb1 GE444)
        have n1_ := zB BK444 hb
        have n2_ := zS hb (zb1 GE444)
        clear BK444 HB
        have HO462 := n0_; have BK444 := n1_; have HB := n2_
        clear n0_ n1_ n2_ hb ho24
        refine hK.out _ _ ⟨(blk_cell BK444.out 0).trans rfl, (blk_cell BK444.out 1).trans rfl, (blk_cell BK444.out 2).trans rfl⟩ (fun hHeld => ?_)
        clear hK K
        refine norm_ (a' := ?_) ?_ ?_; rotate_left
        ·show Act.put _ (some 31) _ = _
         simp only [Act.put, List.setIfInBounds_toArray, List.set_cons_zero, List.set_cons_succ, i64_w, i32_w]
         rfl
        refine one_ (i := 0) (N := some 25) #[true, true, false, true, true, true, true, false, false] rfl rfl (one_of HT_.out (by kernel_rfl)) (by decide) (fun K hK => ?_)
        refine Kd.R_lit_step (Kd.int .u8) _ 5 ?hg (N := 25) ?hd (xs := ([] : List Int)) (inner := []) (ok := fun _ => True) (okp := fun _ => True) ?hr ?hp (fun _ hk => hk) trivial (Below.refl _ _) (Nat.le_refl _) (by simp) ?_; (case hd => rfl); (case hg => rfl); (case hr => exact zz35); (case hp => exact (Reps.none _ _))
        intro v455 w25 ho26 hb hg_ hnew_
        clear hg_ hnew_
        (first | rw [← Ny454.out] at ho26 | (simp only [Int.reduceToNat] at ho26; rw [← Ny454.out] at ho26))
        have n0_ := zE HO462 ho26 hb
        have n1_ := zL (zN ho26 HO462) (zb1 GE444)
        have n2_ := zB BK444 hb
        have n3_ := zS hb (zb1 GE444)
        clear HO462 BK444 HB
        have HO462 := n0_; have HO456 := n1_; have BK444 := n2_; have HB := n3_
        clear n0_ n1_ n2_ n3_ hb ho26
        refine hK.out _ _ ⟨(blk_cell BK444.out 0).trans rfl, (blk_cell BK444.out 1).trans rfl, (blk_cell BK444.out 2).trans rfl⟩ (fun hHeld => ?_)
        clear hK K
        refine norm_ (a' := ?_) ?_ ?_; rotate_left
        ·show Act.put _ (some 25) _ = _
         simp only [Act.put, List.setIfInBounds_toArray, List.set_cons_zero, List.set_cons_succ, i64_w, i32_w]
         rfl
        refine one_ (i := 2) (N := some 27) #[true, true, true, true, true, true, true, false, false] rfl rfl (one_of HT_.out (by kernel_rfl)) (by decide) (fun K hK => ?_)
        refine Kd.R_append_rows_step (Kd.int .u8) (w0 := w) w.heap.size (by rfl) (.tmp 25) (.tmp 26) 22 5 (.int .u8 0) 1 rfl Try.underlying22 info5 rfl (by decide) (by omega) v455 y454 l0 _ _ _ (fun k_ => some k_ ≠ (v461 : Value).ownBlock) (fun _ => False) rfl rfl ?aO ?aR (fun _ _ h => h) (fun _ h => h.elim) ?aF ?aB ?aS ?aL ?_
        (case aR => exact zd HR0)
        (case aB => exact (zb1 GE444))
        (case aF => exact (fun k_ hk => Kd.fresh' (Kd.R_lt (zr HO462)) k_ hk))
        (case aO => exact zz97)
        (case aS => exact (below_size (zb1 GE444)))
        (case aL => have := LMc18.out; omega)
        intro v458 w27 ho hb hg hat
        rw [← Ny457.out] at ho
        have n0_ := zA (blk_grown (g := gb444) (o := .cells #[.int .i64 a1_0, .int .i64 a1_1, .string a1_2] 32 (0, 0)) (zk BK444) hg (Kd.R_ne HO456.out BK444.out (by decide)))
        have n1_ := zA (Kd.R_after (ok := (fun _ => True)) (zr HO462) hg hat)
        have n2_ := zA hb
        have n3_ := zA ho
        clear BK444 HO462 HB HO456
        have BK444 := n0_; have HO462 := n1_; have HB := n2_; have HO459 := n3_
        clear n0_ n1_ n2_ n3_ ho hb hg hat
        refine hK.out _ _ ⟨(blk_cell BK444.out 0).trans rfl, (blk_cell BK444.out 1).trans rfl, (blk_cell BK444.out 2).trans rfl⟩ (fun hHeld => ?_)
        clear hK K
        refine norm_ (a' := ?_) ?_ ?_; rotate_left
        ·show Act.put _ (some 27) _ = _
         simp only [Act.put, List.setIfInBounds_toArray, List.set_cons_zero, List.set_cons_succ, i64_w, i32_w]
         rfl
        exact norm_ zz89 (hCont (v455, v458, v461) _ ⟨hHeld, (zr HO459), zz92, (zk BK444), (zb1 GE444)⟩)
      rintro ⟨v455, v458, v461⟩ w28 ⟨hS_, h0_, h1_, h2_, h3_⟩
      have n0_ : Aside0 (Kd.R (Kd.int .u8) 5 w28 w.heap.size (fun k_ => some k_ ≠ (v461 : Value).ownBlock) v458 y457) := ⟨h0_⟩
      have n1_ : Aside0 (Kd.R (Kd.int .u8) 5 w28 w.heap.size (fun k_ => some k_ ≠ (v458 : Value).ownBlock) v461 y460) := ⟨h1_⟩
      have n2_ : Aside0 (w28.heap[gb444]? = some (.cells #[.int .i64 a1_0, .int .i64 a1_1, .string a1_2] 32 (0, 0))) := ⟨h2_⟩
      have n3_ : Aside0 (Below w.heap.size w w28) := ⟨h3_⟩
      clear BK444 HB h0_ h1_ h2_ h3_
      have HO459 := n0_; have HO462 := n1_; have BK444 := n2_; have HB := n3_
      clear n0_ n1_ n2_ n3_
      have hHeld : w28.cell? ⟨gb444, 0, none⟩ = some (.int .i64 a1_0) ∧ w28.cell? ⟨gb444, 1, none⟩ = some (.int .i64 a1_1) ∧ w28.cell? ⟨gb444, 2, none⟩ = some (.string a1_2) := hS_
      obtain ⟨Ao30, co30, eo30⟩ := Kd.R_slice HO462.out
      (first | subst eo30 | (injection eo30 with f1_ f2_ f3_; have f4_ := f1_.symm; have f5_ := f3_.symm; clear f1_ f2_ f3_; subst f4_; subst f5_))
      refine norm_ (a' := ?_) ?_ ?_; rotate_left
      ·simp only [putAll, Act.put, List.setIfInBounds_toArray, List.set_cons_zero, List.set_cons_succ]
       rfl
      refine one_ (i := 7) (N := some 32) #[true, true, true, true, true, true, true, true, false] rfl rfl (one_of HT_.out (by kernel_rfl)) (by decide) (fun K hK => ?_)
      refine Kd.R_append_rows_step (Kd.int .u8) (w0 := w) w.heap.size (by rfl) (.tmp 27) (.tmp 31) 22 5 (.int .u8 0) 1 rfl Try.underlying22 info5 rfl (by decide) (by omega) v458 y457 y460 _ _ _ (fun k_ => some k_ ≠ (.slice Ao30 y460.length co30 : Value).ownBlock) (fun _ => False) rfl rfl ?aO ?aR (fun _ _ h => h) (fun _ h => h.elim) ?aF ?aB ?aS ?aL ?_
      (case aR => exact ze HO462)
      (case aB => exact (zb1 GE444))
      (case aF => exact (fun k_ hk => Kd.fresh' (Kd.R_lt (zr HO462)) k_ hk))
      (case aO => exact (zr HO459))
      (case aS => exact (below_size (zb1 GE444)))
      (case aL => have := LMc19.out; omega)
      intro v464 w29 ho hb hg hat
      rw [← Ny463.out] at ho
      have n0_ := zA (blk_grown (g := gb444) (o := .cells #[.int .i64 a1_0, .int .i64 a1_1, .string a1_2] 32 (0, 0)) (zk BK444) hg (Kd.R_ne HO459.out BK444.out (by decide)))
      have n1_ := zA (Kd.R_after (ok := (fun _ => True)) (by (with_reducible repeat (first | apply Kd.R_alloc | apply Kd.R_drewN | apply Kd.R_drew)); exact Kd.R_mono HO462.out (fun _ hk => ⟨trivial, hk⟩)) hg hat)
      have n2_ := zA hb
      have n3_ := zA ho
      clear BK444 HO462 HB HO459
      have BK444 := n0_; have HO462 := n1_; have HB := n2_; have HO465 := n3_
      clear n0_ n1_ n2_ n3_ ho hb hg hat
      refine hK.out _ _ ⟨(blk_cell BK444.out 0).trans rfl, (blk_cell BK444.out 1).trans rfl, (blk_cell BK444.out 2).trans rfl⟩ (fun hHeld => ?_)
      clear hK K
      refine norm_ (a' := ?_) ?_ ?_; rotate_left
      ·show Act.put _ (some 32) _ = _
       simp only [Act.put, List.setIfInBounds_toArray, List.set_cons_zero, List.set_cons_succ, i64_w, i32_w]
       rfl
      refine pure_ (i := 8) (N := some 4) (v := ?_) (a' := ?_) #[true, true, true, true, true, true, true, true, true] rfl rfl (any_of HT_.out (by kernel_rfl)) (fun _ _ _ h => h) (Or.inl ⟨by rfl, ?_⟩) ?_ ?_; rotate_left
      ·intro w'; go_simp; with_reducible rfl
      rotate_left
      ·simp only [Act.put, List.setIfInBounds_toArray, List.set_cons_zero, List.set_cons_succ, i64_w, i32_w]; rfl
      refine done_ (done_of HT_.out (by kernel_rfl)) ?_
      try go_wp2
      go_ret
      exact ⟨_, zw, by (with_reducible repeat (first | apply Kd.R_alloc | apply Kd.R_drewN | apply Kd.R_drew)); exact Kd.R_mono HO465.out (fun _ hk => trivial), zb1 GE444⟩
     ·rw [if_neg c19] at H
      exact absurd H (by simp)
    ·rw [if_neg c18] at H
     exact absurd H (by simp)

end Go.Proofs.Ytnfmpopmigbkoaa.PFnPartsRead

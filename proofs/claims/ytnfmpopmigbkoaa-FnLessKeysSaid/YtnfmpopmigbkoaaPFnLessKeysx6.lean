-- Written by mkprint.py, a program of this session (the printer with additions of its own)
import Derived.Test.YtnfmpopmigbkoaaPFnLessKeysx0
import Derived.Test.YtnfmpopmigbkoaaPFnLessKeysx5
namespace Go.Proofs.Ytnfmpopmigbkoaa.PFnLessKeys
open Go.RowKit Go.Proofs.YtnfmpopmigbkoaaW.PrintWords Go.Proofs.YtnfmpopmigbkoaaW.PrintLast Go.Proofs.YtnfmpopmigbkoaaW.PrintMore
attribute [local go_sem] max2_int min2_int max_two min_two max_three min_three max_four min_four   -- for this text's walks alone
set_option linter.unusedVariables false
set_option linter.unusedSimpArgs false

/-! ### impl_ValOk: function 81 -/
def impl_ValOk.f (a0_0 : Int) (a0_1 : Int) (a0_2 : ByteArray) : Option (Bool) := if a0_0 = 0 then (if a0_1 = 0 then (some (a0_2.toList == ([] : List UInt8))) else (some false)) else (if a0_0 = 1 then ((impl_in.f a0_1 (-2147483648) 2147483647).bind fun t286 => (if t286 = true then (some (a0_2.toList == ([] : List UInt8))) else (some false))) else (if a0_0 = 2 then ((impl_in.f a0_1 (-1000000000000000) 1000000000000000).bind fun t287 => (if t287 = true then (some (a0_2.toList == ([] : List UInt8))) else (some false))) else (if a0_0 = 3 then (if a0_1 = 0 then (some (decide ((a0_2.size : Int) ≤ 30))) else (some false)) else (if a0_0 = 4 then ((impl_in.f a0_1 0 1).bind fun t288 => (if t288 = true then (some (a0_2.toList == ([] : List UInt8))) else (some false))) else (some false)))))
set_option maxHeartbeats 8000000 in
set_option maxRecDepth 100000 in
theorem impl_ValOk.calls (a0_0 : Int) (a0_1 : Int) (a0_2 : ByteArray) (r : Bool) (w : World) (h : impl_ValOk.f a0_0 a0_1 a0_2 = some r) :
  Calls Try.prog 81 #[.agg #[.int .i64 a0_0, .int .i64 a0_1, .string a0_2]] w fun e w' => e = .returned (.bool r) ∧ Below w.heap.size w w' := by
 have hu32 := Try.underlying32
 have HB := zA (Below.refl w.heap.size w)
 have H : (if a0_0 = 0 then (if a0_1 = 0 then (some (a0_2.toList == ([] : List UInt8))) else (some false)) else (if a0_0 = 1 then ((impl_in.f a0_1 (-2147483648) 2147483647).bind fun t286 => (if t286 = true then (some (a0_2.toList == ([] : List UInt8))) else (some false))) else (if a0_0 = 2 then ((impl_in.f a0_1 (-1000000000000000) 1000000000000000).bind fun t287 => (if t287 = true then (some (a0_2.toList == ([] : List UInt8))) else (some false))) else (if a0_0 = 3 then (if a0_1 = 0 then (some (decide ((a0_2.size : Int) ≤ 30))) else (some false)) else (if a0_0 = 4 then ((impl_in.f a0_1 0 1).bind fun t288 => (if t288 = true then (some (a0_2.toList == ([] : List UInt8))) else (some false))) else (some false)))))) = some r := h
 clear h
 by_cases c2 : a0_0 = 0
 ·rw [if_pos c2] at H
  have c2b0 : (a0_0 == 0) = true := beq_iff_eq.mpr c2
  have c2b1 : (a0_0 != 0) = false := bne_eq_false_iff_eq.mpr c2
  clear c2
  by_cases c3 : a0_1 = 0
  ·rw [if_pos c3] at H
   have c3b0 : (a0_1 == 0) = true := beq_iff_eq.mpr c3
   have c3b1 : (a0_1 != 0) = false := bne_eq_false_iff_eq.mpr c3
   clear c3
   obtain rfl := Option.some.inj H
   go_enter Try.func81, Try.ntmps81
   go_wp2_with (first | ((with_reducible refine zt 1 ?_); (try (refine gate_guard (by rfl) ?_; dsimp only)); refine zn #[.int .i64 a0_0, .int .i64 a0_1, .string a0_2] 32 ?_; intro gb285 hg w4 hbox hb; have BK285 := zA hbox; have GW285 := zG hg; have GE285 := zG hg; replace HB := zS hb; clear hb hbox hg; obtain ⟨hcz5_0, hcz5_1, hcz5_2, hfz5_0, hfz5_1, hfz5_2⟩ := zh3 BK285))
   go_ret
   exact ⟨zw, zb1 GE285⟩
  ·rw [if_neg c3] at H
   have c3b0 : (a0_1 == 0) = false := beq_eq_false_iff_ne.mpr c3
   have c3b1 : (a0_1 != 0) = true := bne_iff_ne.mpr c3
   obtain rfl := Option.some.inj H
   go_enter Try.func81, Try.ntmps81
   go_wp2_with (first | ((with_reducible refine zt 1 ?_); (try (refine gate_guard (by rfl) ?_; dsimp only)); refine zn #[.int .i64 a0_0, .int .i64 a0_1, .string a0_2] 32 ?_; intro gb285 hg w6 hbox hb; have BK285 := zA hbox; have GW285 := zG hg; have GE285 := zG hg; replace HB := zS hb; clear hb hbox hg; obtain ⟨hcz7_0, hcz7_1, hcz7_2, hfz7_0, hfz7_1, hfz7_2⟩ := zh3 BK285))
   go_ret
   exact ⟨zw, zb1 GE285⟩
 ·rw [if_neg c2] at H
  have c2b0 : (a0_0 == 0) = false := beq_eq_false_iff_ne.mpr c2
  have c2b1 : (a0_0 != 0) = true := bne_iff_ne.mpr c2
  by_cases c8 : a0_0 = 1
  ·rw [if_pos c8] at H
   have c8b0 : (a0_0 == 1) = true := beq_iff_eq.mpr c8
   have c8b1 : (a0_0 != 1) = false := bne_eq_false_iff_eq.mpr c8
   clear c8
   replace H := zI H
   obtain ⟨t286, A9, H⟩ := H
   by_cases c10 : t286 = true
   ·subst c10
    rw [if_pos rfl] at H
    obtain rfl := Option.some.inj H
    go_enter Try.func81, Try.ntmps81
    go_wp2_with (first | ((with_reducible refine zt 1 ?_); (try (refine gate_guard (by rfl) ?_; dsimp only)); refine zn #[.int .i64 a0_0, .int .i64 a0_1, .string a0_2] 32 ?_; intro gb285 hg w11 hbox hb; have BK285 := zA hbox; have GW285 := zG hg; have GE285 := zG hg; replace HB := zS hb; clear hb hbox hg; obtain ⟨hcz12_0, hcz12_1, hcz12_2, hfz12_0, hfz12_1, hfz12_2⟩ := zh3 BK285) | ((with_reducible refine zg 80 ?_); refine gL (some 19) Try.func80 #[.int .i64 a0_1, .int .i64 (-2147483648), .int .i64 2147483647] ?_; (with_reducible refine (impl_in.calls a0_1 (-2147483648) 2147483647 true _ A9.out).mono ?_); rintro e w' ⟨rfl, ⟨nd, rfl⟩⟩; refine ⟨_, rfl, ?_⟩))
    go_ret
    exact ⟨zw, zb1 GE285⟩
   ·replace c10 := Bool.eq_false_iff.mpr c10
    subst c10
    rw [if_neg (Bool.false_ne_true)] at H
    obtain rfl := Option.some.inj H
    go_enter Try.func81, Try.ntmps81
    go_wp2_with (first | ((with_reducible refine zt 1 ?_); (try (refine gate_guard (by rfl) ?_; dsimp only)); refine zn #[.int .i64 a0_0, .int .i64 a0_1, .string a0_2] 32 ?_; intro gb285 hg w13 hbox hb; have BK285 := zA hbox; have GW285 := zG hg; have GE285 := zG hg; replace HB := zS hb; clear hb hbox hg; obtain ⟨hcz14_0, hcz14_1, hcz14_2, hfz14_0, hfz14_1, hfz14_2⟩ := zh3 BK285) | ((with_reducible refine zg 80 ?_); refine gL (some 19) Try.func80 #[.int .i64 a0_1, .int .i64 (-2147483648), .int .i64 2147483647] ?_; (with_reducible refine (impl_in.calls a0_1 (-2147483648) 2147483647 false _ A9.out).mono ?_); rintro e w' ⟨rfl, ⟨nd, rfl⟩⟩; refine ⟨_, rfl, ?_⟩))
    go_ret
    exact ⟨zw, zb1 GE285⟩
  ·rw [if_neg c8] at H
   have c8b0 : (a0_0 == 1) = false := beq_eq_false_iff_ne.mpr c8
   have c8b1 : (a0_0 != 1) = true := bne_iff_ne.mpr c8
   by_cases c15 : a0_0 = 2
   ·rw [if_pos c15] at H
    have c15b0 : (a0_0 == 2) = true := beq_iff_eq.mpr c15
    have c15b1 : (a0_0 != 2) = false := bne_eq_false_iff_eq.mpr c15
    clear c15
    replace H := zI H
    obtain ⟨t287, A16, H⟩ := H
    by_cases c17 : t287 = true
    ·subst c17
     rw [if_pos rfl] at H
     obtain rfl := Option.some.inj H
     go_enter Try.func81, Try.ntmps81
     go_wp2_with (first | ((with_reducible refine zt 1 ?_); (try (refine gate_guard (by rfl) ?_; dsimp only)); refine zn #[.int .i64 a0_0, .int .i64 a0_1, .string a0_2] 32 ?_; intro gb285 hg w18 hbox hb; have BK285 := zA hbox; have GW285 := zG hg; have GE285 := zG hg; replace HB := zS hb; clear hb hbox hg; obtain ⟨hcz19_0, hcz19_1, hcz19_2, hfz19_0, hfz19_1, hfz19_2⟩ := zh3 BK285) | ((with_reducible refine zg 80 ?_); refine gL (some 29) Try.func80 #[.int .i64 a0_1, .int .i64 (-1000000000000000), .int .i64 1000000000000000] ?_; (with_reducible refine (impl_in.calls a0_1 (-1000000000000000) 1000000000000000 true _ A16.out).mono ?_); rintro e w' ⟨rfl, ⟨nd, rfl⟩⟩; refine ⟨_, rfl, ?_⟩))
     go_ret
     exact ⟨zw, zb1 GE285⟩
    ·replace c17 := Bool.eq_false_iff.mpr c17
     subst c17
     rw [if_neg (Bool.false_ne_true)] at H
     obtain rfl := Option.some.inj H
     go_enter Try.func81, Try.ntmps81
     go_wp2_with (first | ((with_reducible refine zt 1 ?_); (try (refine gate_guard (by rfl) ?_; dsimp only)); refine zn #[.int .i64 a0_0, .int .i64 a0_1, .string a0_2] 32 ?_; intro gb285 hg w20 hbox hb; have BK285 := zA hbox; have GW285 := zG hg; have GE285 := zG hg; replace HB := zS hb; clear hb hbox hg; obtain ⟨hcz21_0, hcz21_1, hcz21_2, hfz21_0, hfz21_1, hfz21_2⟩ := zh3 BK285) | ((with_reducible refine zg 80 ?_); refine gL (some 29) Try.func80 #[.int .i64 a0_1, .int .i64 (-1000000000000000), .int .i64 1000000000000000] ?_; (with_reducible refine (impl_in.calls a0_1 (-1000000000000000) 1000000000000000 false _ A16.out).mono ?_); rintro e w' ⟨rfl, ⟨nd, rfl⟩⟩; refine ⟨_, rfl, ?_⟩))
     go_ret
     exact ⟨zw, zb1 GE285⟩
   ·rw [if_neg c15] at H
    have c15b0 : (a0_0 == 2) = false := beq_eq_false_iff_ne.mpr c15
    have c15b1 : (a0_0 != 2) = true := bne_iff_ne.mpr c15
    by_cases c22 : a0_0 = 3
    ·rw [if_pos c22] at H
     have c22b0 : (a0_0 == 3) = true := beq_iff_eq.mpr c22
     have c22b1 : (a0_0 != 3) = false := bne_eq_false_iff_eq.mpr c22
     clear c22
     by_cases c23 : a0_1 = 0
     ·rw [if_pos c23] at H
      have c23b0 : (a0_1 == 0) = true := beq_iff_eq.mpr c23
      have c23b1 : (a0_1 != 0) = false := bne_eq_false_iff_eq.mpr c23
      clear c23
      obtain rfl := Option.some.inj H
      go_enter Try.func81, Try.ntmps81
      go_wp2_with (first | ((with_reducible refine zt 1 ?_); (try (refine gate_guard (by rfl) ?_; dsimp only)); refine zn #[.int .i64 a0_0, .int .i64 a0_1, .string a0_2] 32 ?_; intro gb285 hg w24 hbox hb; have BK285 := zA hbox; have GW285 := zG hg; have GE285 := zG hg; replace HB := zS hb; clear hb hbox hg; obtain ⟨hcz25_0, hcz25_1, hcz25_2, hfz25_0, hfz25_1, hfz25_2⟩ := zh3 BK285))
      go_ret
      exact ⟨zw, zb1 GE285⟩
     ·rw [if_neg c23] at H
      have c23b0 : (a0_1 == 0) = false := beq_eq_false_iff_ne.mpr c23
      have c23b1 : (a0_1 != 0) = true := bne_iff_ne.mpr c23
      obtain rfl := Option.some.inj H
      go_enter Try.func81, Try.ntmps81
      go_wp2_with (first | ((with_reducible refine zt 1 ?_); (try (refine gate_guard (by rfl) ?_; dsimp only)); refine zn #[.int .i64 a0_0, .int .i64 a0_1, .string a0_2] 32 ?_; intro gb285 hg w26 hbox hb; have BK285 := zA hbox; have GW285 := zG hg; have GE285 := zG hg; replace HB := zS hb; clear hb hbox hg; obtain ⟨hcz27_0, hcz27_1, hcz27_2, hfz27_0, hfz27_1, hfz27_2⟩ := zh3 BK285))
      go_ret
      exact ⟨zw, zb1 GE285⟩
    ·rw [if_neg c22] at H
     have c22b0 : (a0_0 == 3) = false := beq_eq_false_iff_ne.mpr c22
     have c22b1 : (a0_0 != 3) = true := bne_iff_ne.mpr c22
     by_cases c28 : a0_0 = 4
     ·rw [if_pos c28] at H
      have c28b0 : (a0_0 == 4) = true := beq_iff_eq.mpr c28
      have c28b1 : (a0_0 != 4) = false := bne_eq_false_iff_eq.mpr c28
      clear c28
      replace H := zI H
      obtain ⟨t288, A29, H⟩ := H
      by_cases c30 : t288 = true
      ·subst c30
       rw [if_pos rfl] at H
       obtain rfl := Option.some.inj H
       go_enter Try.func81, Try.ntmps81
       go_wp2_with (first | ((with_reducible refine zt 1 ?_); (try (refine gate_guard (by rfl) ?_; dsimp only)); refine zn #[.int .i64 a0_0, .int .i64 a0_1, .string a0_2] 32 ?_; intro gb285 hg w31 hbox hb; have BK285 := zA hbox; have GW285 := zG hg; have GE285 := zG hg; replace HB := zS hb; clear hb hbox hg; obtain ⟨hcz32_0, hcz32_1, hcz32_2, hfz32_0, hfz32_1, hfz32_2⟩ := zh3 BK285) | ((with_reducible refine zg 80 ?_); refine gL (some 50) Try.func80 #[.int .i64 a0_1, .int .i64 0, .int .i64 1] ?_; (with_reducible refine (impl_in.calls a0_1 0 1 true _ A29.out).mono ?_); rintro e w' ⟨rfl, ⟨nd, rfl⟩⟩; refine ⟨_, rfl, ?_⟩))
       go_ret
       exact ⟨zw, zb1 GE285⟩
      ·replace c30 := Bool.eq_false_iff.mpr c30
       subst c30
       rw [if_neg (Bool.false_ne_true)] at H
       obtain rfl := Option.some.inj H
       go_enter Try.func81, Try.ntmps81
       go_wp2_with (first | ((with_reducible refine zt 1 ?_); (try (refine gate_guard (by rfl) ?_; dsimp only)); refine zn #[.int .i64 a0_0, .int .i64 a0_1, .string a0_2] 32 ?_; intro gb285 hg w33 hbox hb; have BK285 := zA hbox; have GW285 := zG hg; have GE285 := zG hg; replace HB := zS hb; clear hb hbox hg; obtain ⟨hcz34_0, hcz34_1, hcz34_2, hfz34_0, hfz34_1, hfz34_2⟩ := zh3 BK285) | ((with_reducible refine zg 80 ?_); refine gL (some 50) Try.func80 #[.int .i64 a0_1, .int .i64 0, .int .i64 1] ?_; (with_reducible refine (impl_in.calls a0_1 0 1 false _ A29.out).mono ?_); rintro e w' ⟨rfl, ⟨nd, rfl⟩⟩; refine ⟨_, rfl, ?_⟩))
       go_ret
       exact ⟨zw, zb1 GE285⟩
     ·rw [if_neg c28] at H
      have c28b0 : (a0_0 == 4) = false := beq_eq_false_iff_ne.mpr c28
      have c28b1 : (a0_0 != 4) = true := bne_iff_ne.mpr c28
      obtain rfl := Option.some.inj H
      go_enter Try.func81, Try.ntmps81
      go_wp2_with (first | ((with_reducible refine zt 1 ?_); (try (refine gate_guard (by rfl) ?_; dsimp only)); refine zn #[.int .i64 a0_0, .int .i64 a0_1, .string a0_2] 32 ?_; intro gb285 hg w35 hbox hb; have BK285 := zA hbox; have GW285 := zG hg; have GE285 := zG hg; replace HB := zS hb; clear hb hbox hg; obtain ⟨hcz36_0, hcz36_1, hcz36_2, hfz36_0, hfz36_1, hfz36_2⟩ := zh3 BK285))
      go_ret
      exact ⟨zw, zb1 GE285⟩

/-! ### impl_Fits: function 31 -/
def impl_Fits.f (a0_0 : Int) (a0_1 : Int) (a0_2 : Bool) (a0_3 : Bool) (a1_0 : Int) (a1_1 : Int) (a1_2 : ByteArray) : Option (Bool) := (impl_ValOk.f a1_0 a1_1 a1_2).bind fun t291 => (if t291 = true then (if a1_0 = a0_1 then (if a1_0 = 0 then (some a0_2) else (some true)) else (if a1_0 = 0 then (some a0_2) else (some false))) else (some false))
set_option maxHeartbeats 8000000 in
set_option maxRecDepth 100000 in
theorem impl_Fits.calls (a0_0 : Int) (a0_1 : Int) (a0_2 : Bool) (a0_3 : Bool) (a1_0 : Int) (a1_1 : Int) (a1_2 : ByteArray) (r : Bool) (w : World) (h : impl_Fits.f a0_0 a0_1 a0_2 a0_3 a1_0 a1_1 a1_2 = some r) :
  Calls Try.prog 31 #[.agg #[.int .i64 a0_0, .int .i64 a0_1, .bool a0_2, .bool a0_3], .agg #[.int .i64 a1_0, .int .i64 a1_1, .string a1_2]] w fun e w' => e = .returned (.bool r) ∧ Below w.heap.size w w' := by
 have hu30 := Try.underlying30
 have hu32 := Try.underlying32
 have HB := zA (Below.refl w.heap.size w)
 have H : ((impl_ValOk.f a1_0 a1_1 a1_2).bind fun t291 => (if t291 = true then (if a1_0 = a0_1 then (if a1_0 = 0 then (some a0_2) else (some true)) else (if a1_0 = 0 then (some a0_2) else (some false))) else (some false))) = some r := h
 clear h
 replace H := zI H
 obtain ⟨t291, A3, H⟩ := H
 by_cases c4 : t291 = true
 ·subst c4
  rw [if_pos rfl] at H
  by_cases c5 : a1_0 = a0_1
  ·rw [if_pos c5] at H
   have c5b0 : (a1_0 == a0_1) = true := beq_iff_eq.mpr c5
   have c5b1 : (a1_0 != a0_1) = false := bne_eq_false_iff_eq.mpr c5
   clear c5
   by_cases c6 : a1_0 = 0
   ·rw [if_pos c6] at H
    have c6b0 : (a1_0 == 0) = true := beq_iff_eq.mpr c6
    have c6b1 : (a1_0 != 0) = false := bne_eq_false_iff_eq.mpr c6
    clear c6
    obtain rfl := Option.some.inj H
    go_enter Try.func31, Try.ntmps31
    go_wp2_with (first | ((with_reducible refine zt 2 ?_); refine zn #[.int .i64 a0_0, .int .i64 a0_1, .bool a0_2, .bool a0_3] 30 ?_; intro gb289 hg w7 hbox hb; have BK289 := zA hbox; have GW289 := zG hg; have GE289 := zG hg; replace HB := zS hb; clear hb hbox hg) | ((with_reducible refine zt 3 ?_); refine zn #[.int .i64 a1_0, .int .i64 a1_1, .string a1_2] 32 ?_; intro gb290 hg w8 hbox hb; have BK290 := zA hbox; have GW290 := zG hg (zb1 GE289); have GE290 := zG hg (zb1 GE289); replace HB := zS hb (zb1 GE289); have NB289_290 := zX BK289 hg; have NB290_289 := zY BK289 hg; replace BK289 := zB BK289 hb; clear hb hbox hg; have hnb9 := NB290_289.out; have hnc9 := NB289_290.out; obtain ⟨hcz10_0, hcz10_1, hcz10_2, hfz10_0, hfz10_1, hfz10_2⟩ := zh3 BK290) | ((with_reducible refine zg 81 ?_); refine gL (some 6) Try.func81 #[.agg #[.int .i64 a1_0, .int .i64 a1_1, .string a1_2]] ?_; (with_reducible refine (impl_ValOk.calls a1_0 a1_1 a1_2 true _ A3.out).mono ?_); rintro e w11 ⟨rfl, hb⟩; refine ⟨_, rfl, ?_⟩; replace BK289 := zB BK289 hb; replace BK290 := zB BK290 hb; replace HB := zS hb (zb2 GE289 GE290); (try clear hb); obtain ⟨hcz12_0, hcz12_1, hcz12_2, hfz12_0, hfz12_1, hfz12_2⟩ := zh3 BK290; obtain ⟨hcz13_0, hcz13_1, hcz13_2, hcz13_3, hfz13_0, hfz13_1, hfz13_2, hfz13_3⟩ := zh4 BK289))
    go_ret
    exact ⟨zw, zb2 GE289 GE290⟩
   ·rw [if_neg c6] at H
    have c6b0 : (a1_0 == 0) = false := beq_eq_false_iff_ne.mpr c6
    have c6b1 : (a1_0 != 0) = true := bne_iff_ne.mpr c6
    obtain rfl := Option.some.inj H
    go_enter Try.func31, Try.ntmps31
    go_wp2_with (first | ((with_reducible refine zt 2 ?_); refine zn #[.int .i64 a0_0, .int .i64 a0_1, .bool a0_2, .bool a0_3] 30 ?_; intro gb289 hg w14 hbox hb; have BK289 := zA hbox; have GW289 := zG hg; have GE289 := zG hg; replace HB := zS hb; clear hb hbox hg) | ((with_reducible refine zt 3 ?_); refine zn #[.int .i64 a1_0, .int .i64 a1_1, .string a1_2] 32 ?_; intro gb290 hg w15 hbox hb; have BK290 := zA hbox; have GW290 := zG hg (zb1 GE289); have GE290 := zG hg (zb1 GE289); replace HB := zS hb (zb1 GE289); have NB289_290 := zX BK289 hg; have NB290_289 := zY BK289 hg; replace BK289 := zB BK289 hb; clear hb hbox hg; have hnb16 := NB290_289.out; have hnc16 := NB289_290.out; obtain ⟨hcz17_0, hcz17_1, hcz17_2, hfz17_0, hfz17_1, hfz17_2⟩ := zh3 BK290) | ((with_reducible refine zg 81 ?_); refine gL (some 6) Try.func81 #[.agg #[.int .i64 a1_0, .int .i64 a1_1, .string a1_2]] ?_; (with_reducible refine (impl_ValOk.calls a1_0 a1_1 a1_2 true _ A3.out).mono ?_); rintro e w18 ⟨rfl, hb⟩; refine ⟨_, rfl, ?_⟩; replace BK289 := zB BK289 hb; replace BK290 := zB BK290 hb; replace HB := zS hb (zb2 GE289 GE290); (try clear hb); obtain ⟨hcz19_0, hcz19_1, hcz19_2, hfz19_0, hfz19_1, hfz19_2⟩ := zh3 BK290; obtain ⟨hcz20_0, hcz20_1, hcz20_2, hcz20_3, hfz20_0, hfz20_1, hfz20_2, hfz20_3⟩ := zh4 BK289))
    go_ret
    exact ⟨zw, zb2 GE289 GE290⟩
  ·rw [if_neg c5] at H
   have c5b0 : (a1_0 == a0_1) = false := beq_eq_false_iff_ne.mpr c5
   have c5b1 : (a1_0 != a0_1) = true := bne_iff_ne.mpr c5
   by_cases c21 : a1_0 = 0
   ·rw [if_pos c21] at H
    have c21b0 : (a1_0 == 0) = true := beq_iff_eq.mpr c21
    have c21b1 : (a1_0 != 0) = false := bne_eq_false_iff_eq.mpr c21
    clear c21
    obtain rfl := Option.some.inj H
    go_enter Try.func31, Try.ntmps31
    go_wp2_with (first | ((with_reducible refine zt 2 ?_); refine zn #[.int .i64 a0_0, .int .i64 a0_1, .bool a0_2, .bool a0_3] 30 ?_; intro gb289 hg w22 hbox hb; have BK289 := zA hbox; have GW289 := zG hg; have GE289 := zG hg; replace HB := zS hb; clear hb hbox hg) | ((with_reducible refine zt 3 ?_); refine zn #[.int .i64 a1_0, .int .i64 a1_1, .string a1_2] 32 ?_; intro gb290 hg w23 hbox hb; have BK290 := zA hbox; have GW290 := zG hg (zb1 GE289); have GE290 := zG hg (zb1 GE289); replace HB := zS hb (zb1 GE289); have NB289_290 := zX BK289 hg; have NB290_289 := zY BK289 hg; replace BK289 := zB BK289 hb; clear hb hbox hg; have hnb24 := NB290_289.out; have hnc24 := NB289_290.out; obtain ⟨hcz25_0, hcz25_1, hcz25_2, hfz25_0, hfz25_1, hfz25_2⟩ := zh3 BK290) | ((with_reducible refine zg 81 ?_); refine gL (some 6) Try.func81 #[.agg #[.int .i64 a1_0, .int .i64 a1_1, .string a1_2]] ?_; (with_reducible refine (impl_ValOk.calls a1_0 a1_1 a1_2 true _ A3.out).mono ?_); rintro e w26 ⟨rfl, hb⟩; refine ⟨_, rfl, ?_⟩; replace BK289 := zB BK289 hb; replace BK290 := zB BK290 hb; replace HB := zS hb (zb2 GE289 GE290); (try clear hb); obtain ⟨hcz27_0, hcz27_1, hcz27_2, hfz27_0, hfz27_1, hfz27_2⟩ := zh3 BK290; obtain ⟨hcz28_0, hcz28_1, hcz28_2, hcz28_3, hfz28_0, hfz28_1, hfz28_2, hfz28_3⟩ := zh4 BK289))
    go_ret
    exact ⟨zw, zb2 GE289 GE290⟩
   ·rw [if_neg c21] at H
    have c21b0 : (a1_0 == 0) = false := beq_eq_false_iff_ne.mpr c21
    have c21b1 : (a1_0 != 0) = true := bne_iff_ne.mpr c21
    obtain rfl := Option.some.inj H
    go_enter Try.func31, Try.ntmps31
    go_wp2_with (first | ((with_reducible refine zt 2 ?_); refine zn #[.int .i64 a0_0, .int .i64 a0_1, .bool a0_2, .bool a0_3] 30 ?_; intro gb289 hg w29 hbox hb; have BK289 := zA hbox; have GW289 := zG hg; have GE289 := zG hg; replace HB := zS hb; clear hb hbox hg) | ((with_reducible refine zt 3 ?_); refine zn #[.int .i64 a1_0, .int .i64 a1_1, .string a1_2] 32 ?_; intro gb290 hg w30 hbox hb; have BK290 := zA hbox; have GW290 := zG hg (zb1 GE289); have GE290 := zG hg (zb1 GE289); replace HB := zS hb (zb1 GE289); have NB289_290 := zX BK289 hg; have NB290_289 := zY BK289 hg; replace BK289 := zB BK289 hb; clear hb hbox hg; have hnb31 := NB290_289.out; have hnc31 := NB289_290.out; obtain ⟨hcz32_0, hcz32_1, hcz32_2, hfz32_0, hfz32_1, hfz32_2⟩ := zh3 BK290) | ((with_reducible refine zg 81 ?_); refine gL (some 6) Try.func81 #[.agg #[.int .i64 a1_0, .int .i64 a1_1, .string a1_2]] ?_; (with_reducible refine (impl_ValOk.calls a1_0 a1_1 a1_2 true _ A3.out).mono ?_); rintro e w33 ⟨rfl, hb⟩; refine ⟨_, rfl, ?_⟩; replace BK289 := zB BK289 hb; replace BK290 := zB BK290 hb; replace HB := zS hb (zb2 GE289 GE290); (try clear hb); obtain ⟨hcz34_0, hcz34_1, hcz34_2, hfz34_0, hfz34_1, hfz34_2⟩ := zh3 BK290; obtain ⟨hcz35_0, hcz35_1, hcz35_2, hcz35_3, hfz35_0, hfz35_1, hfz35_2, hfz35_3⟩ := zh4 BK289))
    go_ret
    exact ⟨zw, zb2 GE289 GE290⟩
 ·replace c4 := Bool.eq_false_iff.mpr c4
  subst c4
  rw [if_neg (Bool.false_ne_true)] at H
  obtain rfl := Option.some.inj H
  go_enter Try.func31, Try.ntmps31
  go_wp2_with (first | ((with_reducible refine zt 2 ?_); refine zn #[.int .i64 a0_0, .int .i64 a0_1, .bool a0_2, .bool a0_3] 30 ?_; intro gb289 hg w36 hbox hb; have BK289 := zA hbox; have GW289 := zG hg; have GE289 := zG hg; replace HB := zS hb; clear hb hbox hg) | ((with_reducible refine zt 3 ?_); refine zn #[.int .i64 a1_0, .int .i64 a1_1, .string a1_2] 32 ?_; intro gb290 hg w37 hbox hb; have BK290 := zA hbox; have GW290 := zG hg (zb1 GE289); have GE290 := zG hg (zb1 GE289); replace HB := zS hb (zb1 GE289); have NB289_290 := zX BK289 hg; have NB290_289 := zY BK289 hg; replace BK289 := zB BK289 hb; clear hb hbox hg; have hnb38 := NB290_289.out; have hnc38 := NB289_290.out; obtain ⟨hcz39_0, hcz39_1, hcz39_2, hfz39_0, hfz39_1, hfz39_2⟩ := zh3 BK290) | ((with_reducible refine zg 81 ?_); refine gL (some 6) Try.func81 #[.agg #[.int .i64 a1_0, .int .i64 a1_1, .string a1_2]] ?_; (with_reducible refine (impl_ValOk.calls a1_0 a1_1 a1_2 false _ A3.out).mono ?_); rintro e w40 ⟨rfl, hb⟩; refine ⟨_, rfl, ?_⟩; replace BK289 := zB BK289 hb; replace BK290 := zB BK290 hb; replace HB := zS hb (zb2 GE289 GE290); (try clear hb)))
  go_ret
  exact ⟨zw, zb2 GE289 GE290⟩

/-! ### impl_FitsAll: function 52 -/
def impl_FitsAll.l0 : Nat → List (S30) → List (S32) → Int → Int → Option (Bool)
  | 0, _, _, _, _ => none
  | k + 1, x0, x12, x13, x14 => if x14 < x13 then (if 0 ≤ x14 then (if x14 < (x12.length : Int) then (if x14 < (x0.length : Int) then ((impl_Fits.f ((rd_T30 x0 x14).f0) ((rd_T30 x0 x14).f1) ((rd_T30 x0 x14).f2) ((rd_T30 x0 x14).f3) ((rd_T32 x12 x14).f0) ((rd_T32 x12 x14).f1) ((rd_T32 x12 x14).f2)).bind fun t295 => (if t295 = true then (impl_FitsAll.l0 k x0 x12 x13 (wrap64 (x14 + 1))) else (some false))) else (none)) else (none)) else (none)) else (some true)
def impl_FitsAll.f (k : Nat) (l0 : List (S30)) (l1 : List (S32)) : Option (Bool) := if (l1.length : Int) > (l0.length : Int) then (some false) else (impl_FitsAll.l0 k l0 l1 (l1.length : Int) 0)
theorem impl_FitsAll.mono_l : ∀ k, (∀ y0 y1 y2 y3, LeO (impl_FitsAll.l0 k y0 y1 y2 y3) (impl_FitsAll.l0 (k + 1) y0 y1 y2 y3))
  | 0 => fun _ _ _ _ r h => by simp [impl_FitsAll.l0] at h
  | k + 1 => by
    have ih0 := impl_FitsAll.mono_l k
    · intro y0 y1 y2 y3
      unfold impl_FitsAll.l0
      repeat' first
      | (with_reducible exact ih0 _ _ _ _)
      | (with_reducible exact LeO.refl _)
      | (with_reducible exact LeO.none _)
      | (with_reducible refine LeO.ite ?_ ?_)
      | (with_reducible refine LeO.bind ?_ (fun _ => ?_))
      | exact ih0 _ _ _ _
      | exact LeO.none _
      | refine LeO.ite ?_ ?_
      | refine LeO.bind ?_ (fun _ => ?_)
theorem impl_FitsAll.mono : ∀ a0 a1 k, LeO (impl_FitsAll.f k a0 a1) (impl_FitsAll.f (k + 1) a0 a1) := by
  intro a0 a1 k
  have ih0 := impl_FitsAll.mono_l k
  unfold impl_FitsAll.f
  repeat' first
      | (with_reducible exact ih0 _ _ _ _)
      | (with_reducible exact LeO.refl _)
      | (with_reducible exact LeO.none _)
      | (with_reducible refine LeO.ite ?_ ?_)
      | (with_reducible refine LeO.bind ?_ (fun _ => ?_))
      | exact ih0 _ _ _ _
      | exact LeO.none _
      | refine LeO.ite ?_ ?_
      | refine LeO.bind ?_ (fun _ => ?_)
set_option maxHeartbeats 8000000 in
set_option maxRecDepth 100000 in
theorem impl_FitsAll.calls (k : Nat) (A0 : Option Addr) (c0 : Nat) (l0 : List (S30)) (A1 : Option Addr) (c1 : Nat) (l1 : List (S32)) (r : Bool) (w : World) (hr0 : Kd.C k30 w A0 l0.length l0) (hc0 : l0.length ≤ c0) (hr1 : Kd.C k32 w A1 l1.length l1) (hc1 : l1.length ≤ c1) (h : impl_FitsAll.f k l0 l1 = some r) :
  Calls Try.prog 52 #[.slice A0 l0.length c0, .slice A1 l1.length c1] w fun e w' => e = .returned (.bool r) ∧ Below w.heap.size w w' := by
 have hu32 := Try.underlying32
 have hu30 := Try.underlying30
 have HR0 := zA hr0
 have HC0 := zA hc0
 clear hr0 hc0
 have HR1 := zA hr1
 have HC1 := zA hc1
 clear hr1 hc1
 have HB := zA (Below.refl w.heap.size w)
 have H : (if (l1.length : Int) > (l0.length : Int) then (some false) else (impl_FitsAll.l0 k l0 l1 (l1.length : Int) 0)) = some r := h
 clear h
 by_cases c3 : (l1.length : Int) > (l0.length : Int)
 ·rw [if_pos c3] at H
  have c3b0 : decide ((l0.length : Int) < (l1.length : Int)) = true := decide_eq_true c3
  have c3b1 : decide (l0.length < l1.length) = true := decide_eq_true (Int.ofNat_lt.mp c3)
  clear c3
  obtain rfl := Option.some.inj H
  go_enter Try.func52, Try.ntmps52
  go_wp2
  go_ret
  exact ⟨zw, zb⟩
 ·rw [if_neg c3] at H
  have c3b0 : decide ((l0.length : Int) < (l1.length : Int)) = false := decide_eq_false c3
  have c3b1 : decide (l0.length < l1.length) = false := decide_eq_false (fun h => c3 (Int.ofNat_lt.mpr h))
  clear c3
  have H' := zA H
  clear H
  go_enter Try.func52, Try.ntmps52
  go_wp2
  go_loopg [14] k (fun kq v14 w' => ∃ (x14_1 : Int), v14 = .int .i64 x14_1 ∧ Aside0 (impl_FitsAll.l0 kq l0 l1 (l1.length : Int) x14_1 = some r) ∧ Aside0 (kq ≤ k) ∧ Aside0 (Below w.heap.size w w'))
  case atStart => exact ⟨(0), zx, H', ⟨Nat.le_refl _⟩, ⟨zb⟩⟩
  case round =>
   clear H'
   try clear c3; try clear c3b0; try clear c3b1
   obtain ⟨x14_1, rfl, HA, HK1, HB⟩ := hrel
   cases gk with
   | zero => exact absurd HA.out (by simp [impl_FitsAll.l0])
   | succ k1 =>
    have H := HA.out
    clear HA
    simp only [impl_FitsAll.l0] at H
    by_cases c4 : x14_1 < (l1.length : Int)
    ·rw [if_pos c4] at H
     have c4b0 : decide (x14_1 < (l1.length : Int)) = true := decide_eq_true c4
     clear c4
     by_cases c5 : 0 ≤ x14_1
     ·rw [if_pos c5] at H
      have c5b0 : decide (0 ≤ x14_1) = true := decide_eq_true c5
      clear c5
      by_cases c6 : x14_1 < (l1.length : Int)
      ·rw [if_pos c6] at H
       have c6b0 : decide (x14_1 < (l1.length : Int)) = true := decide_eq_true c6
       clear c6
       by_cases c7 : x14_1 < (l0.length : Int)
       ·rw [if_pos c7] at H
        have c7b0 : decide (x14_1 < (l0.length : Int)) = true := decide_eq_true c7
        clear c7
        replace H := zI H
        obtain ⟨t295, A8, H⟩ := H
        by_cases c9 : t295 = true
        ·subst c9
         rw [if_pos rfl] at H
         have H' := zA H
         clear H
         have p292 : 0 ≤ (x14_1 : Int) := of_decide_eq_true za
         have q292 : x14_1 < (l1.length : Int) := of_decide_eq_true za
         obtain ⟨ad292, e292, hx292_0, hx292_1, hx292_2⟩ := at_T32 HR1.out x14_1 p292 q292
         cases e292
         replace hx292_0 := (HB.out.cell (World.block_lt_of_cell? w _ hx292_0)).trans hx292_0
         replace hx292_1 := (HB.out.cell (World.block_lt_of_cell? w _ hx292_1)).trans hx292_1
         replace hx292_2 := (HB.out.cell (World.block_lt_of_cell? w _ hx292_2)).trans hx292_2
         replace p292 := eq_true p292
         replace q292 := eq_true q292
         try go_wp2_with (first | ((with_reducible refine zt 6 ?_); refine zn #[.int .i64 0, .int .i64 0, .string (⟨#[]⟩ : ByteArray)] 32 ?_; intro gb293 hg w10 hbox hb; have BK293 := zA hbox; have GW293 := zG hg; have GE293 := zG hg; replace HB := zS hb; clear hb hbox hg; obtain ⟨hcz11_0, hcz11_1, hcz11_2, hfz11_0, hfz11_1, hfz11_2⟩ := zh3 BK293))
         have n0_ : Aside0 ((((w10.setCell ⟨gb293, 0, none⟩ (.int .i64 ((rd_T32 l1 x14_1).f0))).setCell ⟨gb293, 1, none⟩ (.int .i64 ((rd_T32 l1 x14_1).f1))).setCell ⟨gb293, 2, none⟩ (.string ((rd_T32 l1 x14_1).f2))).heap[gb293]? = some (.cells #[.int .i64 ((rd_T32 l1 x14_1).f0), .int .i64 ((rd_T32 l1 x14_1).f1), .string ((rd_T32 l1 x14_1).f2)] 32 (0, 0))) := ⟨zz23⟩
         have n1_ : Aside0 (Below w.heap.size w (((w10.setCell ⟨gb293, 0, none⟩ (.int .i64 ((rd_T32 l1 x14_1).f0))).setCell ⟨gb293, 1, none⟩ (.int .i64 ((rd_T32 l1 x14_1).f1))).setCell ⟨gb293, 2, none⟩ (.string ((rd_T32 l1 x14_1).f2)))) := ⟨zb1 GE293⟩
         (try clear BK293)
         (try clear HB)
         generalize (((w10.setCell ⟨gb293, 0, none⟩ (.int .i64 ((rd_T32 l1 x14_1).f0))).setCell ⟨gb293, 1, none⟩ (.int .i64 ((rd_T32 l1 x14_1).f1))).setCell ⟨gb293, 2, none⟩ (.string ((rd_T32 l1 x14_1).f2))) = w12 at n0_ n1_ ⊢
         have BK293 := n0_; have HB := n1_
         clear n0_ n1_
         have n0_ := zA (blk_drew BK293.out)
         have n1_ := zA (below_drew1 HB.out)
         clear BK293 HB
         have BK293 := n0_; have HB := n1_
         clear n0_ n1_
         have p294 : 0 ≤ (x14_1 : Int) := of_decide_eq_true za
         have q294 : x14_1 < (l0.length : Int) := of_decide_eq_true za
         obtain ⟨ad294, e294, hx294_0, hx294_1, hx294_2, hx294_3⟩ := at_T30 HR0.out x14_1 p294 q294
         have hw294_3 := hx294_3
         have hw294_2 := hx294_2
         have hw294_1 := hx294_1
         have hw294_0 := hx294_0
         cases e294
         replace hx294_0 := (HB.out.cell (World.block_lt_of_cell? w _ hx294_0)).trans hx294_0
         replace hx294_1 := (HB.out.cell (World.block_lt_of_cell? w _ hx294_1)).trans hx294_1
         replace hx294_2 := (HB.out.cell (World.block_lt_of_cell? w _ hx294_2)).trans hx294_2
         replace hx294_3 := (HB.out.cell (World.block_lt_of_cell? w _ hx294_3)).trans hx294_3
         replace p294 := eq_true p294
         replace q294 := eq_true q294
         refine start_ (n := 7) (S := fun w' => w'.cell? ⟨gb293, 0, none⟩ = some (.int .i64 ((rd_T32 l1 x14_1).f0)) ∧ w'.cell? ⟨gb293, 1, none⟩ = some (.int .i64 ((rd_T32 l1 x14_1).f1)) ∧ w'.cell? ⟨gb293, 2, none⟩ = some (.string ((rd_T32 l1 x14_1).f2)) ∧ w'.cell? (ad294.add ((x14_1).toNat * 4)) = some (.int .i64 ((rd_T30 l0 x14_1).f0)) ∧ w'.cell? ⟨(ad294.add ((x14_1).toNat * 4)).block, (ad294.add ((x14_1).toNat * 4)).off + 1, none⟩ = some (.int .i64 ((rd_T30 l0 x14_1).f1)) ∧ w'.cell? ⟨(ad294.add ((x14_1).toNat * 4)).block, (ad294.add ((x14_1).toNat * 4)).off + 2, none⟩ = some (.bool ((rd_T30 l0 x14_1).f2)) ∧ w'.cell? ⟨(ad294.add ((x14_1).toNat * 4)).block, (ad294.add ((x14_1).toNat * 4)).off + 3, none⟩ = some (.bool ((rd_T30 l0 x14_1).f3))) (ds := []) #[false, false, false, false, false, false, false] (by kernel_rfl) rfl rfl ⟨(blk_cell BK293.out 0).trans rfl, (blk_cell BK293.out 1).trans rfl, (blk_cell BK293.out 2).trans rfl, ((HB.out.cell (World.block_lt_of_cell? w _ hw294_0)).trans hw294_0), ((HB.out.cell (World.block_lt_of_cell? w _ hw294_1)).trans hw294_1), ((HB.out.cell (World.block_lt_of_cell? w _ hw294_2)).trans hw294_2), ((HB.out.cell (World.block_lt_of_cell? w _ hw294_3)).trans hw294_3)⟩ (fun hHeld => ?_)
         generalize w12.drew = w13 at BK293 HB hx294_0 hx294_1 hx294_2 hx294_3 hHeld ⊢
         refine pure_ (i := 0) (N := some 19) (v := ?_) (a' := ?_) #[true, false, false, false, false, false, false] rfl rfl (by kernel_rfl) (fun _ _ _ h => h) (Or.inl ⟨by rfl, ?_⟩) ?_ ?_; rotate_left
         ·intro w'; go_simp; with_reducible rfl
         rotate_left
         ·simp only [Act.put, List.setIfInBounds_toArray, List.set_cons_zero, List.set_cons_succ, i64_w, i32_w]; rfl
         refine pure_ (i := 1) (N := some 20) (v := ?_) (a' := ?_) #[true, true, false, false, false, false, false] rfl rfl (by kernel_rfl) (fun _ _ _ h => h) (Or.inl ⟨by rfl, ?_⟩) ?_ ?_; rotate_left
         ·intro w'; go_simp; with_reducible rfl
         rotate_left
         ·simp only [Act.put, List.setIfInBounds_toArray, List.set_cons_zero, List.set_cons_succ, i64_w, i32_w]; rfl
         refine pure_ (i := 2) (N := some 21) (v := ?_) (a' := ?_) #[true, true, true, false, false, false, false] rfl rfl (by kernel_rfl) (fun _ _ _ h => h) (Or.inl ⟨by rfl, ?_⟩) ?_ ?_; rotate_left
         ·intro w'; go_simp; with_reducible rfl
         rotate_left
         ·simp only [Act.put, List.setIfInBounds_toArray, List.set_cons_zero, List.set_cons_succ, i64_w, i32_w]; rfl
         refine take_ (i := 3) (N := some 22) (v := ?_) (a' := ?_) #[true, true, true, true, false, false, false] rfl rfl (by kernel_rfl) (fun _ _ _ h => h) (Or.inl ⟨by rfl, ?_⟩) hHeld ?_ ?_; rotate_left
         ·rintro w' ⟨s0, s1, s2, s3, s4, s5, s6⟩
          go_simp
          with_reducible rfl
         rotate_left
         ·simp only [Act.put, List.setIfInBounds_toArray, List.set_cons_zero, List.set_cons_succ, i64_w, i32_w]; rfl
         refine take_ (i := 4) (N := some 23) (v := ?_) (a' := ?_) #[true, true, true, true, true, false, false] rfl rfl (by kernel_rfl) (fun _ _ _ h => h) (Or.inl ⟨by rfl, ?_⟩) hHeld ?_ ?_; rotate_left
         ·rintro w' ⟨s0, s1, s2, s3, s4, s5, s6⟩
          go_simp
          with_reducible rfl
         rotate_left
         ·simp only [Act.put, List.setIfInBounds_toArray, List.set_cons_zero, List.set_cons_succ, i64_w, i32_w]; rfl
         refine one_ (i := 5) (N := some 24) #[true, true, true, true, true, true, false] rfl rfl (by kernel_rfl) (by decide) (fun K hK => ?_)
         refine goes_ Try.func31 (by kernel_rfl) rfl #[.agg #[.int .i64 ((rd_T30 l0 x14_1).f0), .int .i64 ((rd_T30 l0 x14_1).f1), .bool ((rd_T30 l0 x14_1).f2), .bool ((rd_T30 l0 x14_1).f3)], .agg #[.int .i64 ((rd_T32 l1 x14_1).f0), .int .i64 ((rd_T32 l1 x14_1).f1), .string ((rd_T32 l1 x14_1).f2)]] (by rfl) rfl rfl zz21 ?_
         with_reducible refine (impl_Fits.calls ((rd_T30 l0 x14_1).f0) ((rd_T30 l0 x14_1).f1) ((rd_T30 l0 x14_1).f2) ((rd_T30 l0 x14_1).f3) ((rd_T32 l1 x14_1).f0) ((rd_T32 l1 x14_1).f1) ((rd_T32 l1 x14_1).f2) true _ A8.out).mono ?_
         rintro e w14 ⟨rfl, hb⟩
         refine ⟨_, rfl, ?_⟩
         have n0_ := zB BK293 hb
         have n1_ := zS hb (zb1 GE293)
         clear BK293 HB
         have BK293 := n0_; have HB := n1_
         clear n0_ n1_
         (try clear hb)
         (try clear hb2)
         (try clear hk)
         (try clear hi)
         refine hK.out _ _ ⟨(blk_cell BK293.out 0).trans rfl, (blk_cell BK293.out 1).trans rfl, (blk_cell BK293.out 2).trans rfl, ((HB.out.cell (World.block_lt_of_cell? w _ hw294_0)).trans hw294_0), ((HB.out.cell (World.block_lt_of_cell? w _ hw294_1)).trans hw294_1), ((HB.out.cell (World.block_lt_of_cell? w _ hw294_2)).trans hw294_2), ((HB.out.cell (World.block_lt_of_cell? w _ hw294_3)).trans hw294_3)⟩ (fun hHeld => ?_)
         clear hK K
         refine norm_ (a' := ?_) ?_ ?_; rotate_left
         ·show Act.put _ (some 24) _ = _
          simp only [Act.put, List.setIfInBounds_toArray, List.set_cons_zero, List.set_cons_succ, i64_w, i32_w]
          rfl
         refine pure_ (i := 6) (N := some 25) (v := ?_) (a' := ?_) #[true, true, true, true, true, true, true] rfl rfl (by kernel_rfl) (fun _ _ _ h => h) (Or.inl ⟨by rfl, ?_⟩) ?_ ?_; rotate_left
         ·intro w'; go_simp; with_reducible rfl
         rotate_left
         ·simp only [Act.put, List.setIfInBounds_toArray, List.set_cons_zero, List.set_cons_succ, i64_w, i32_w]; rfl
         refine done_ (by kernel_rfl) ?_
         try go_wp2
         go_roundg k1
         case measure => have := HK1.out; omega
         case rel => exact ⟨(wrap64 (x14_1 + 1)), zx, H', ⟨zz41⟩, ⟨zb1 GE293⟩⟩
        ·replace c9 := Bool.eq_false_iff.mpr c9
         subst c9
         rw [if_neg (Bool.false_ne_true)] at H
         obtain rfl := Option.some.inj H
         have p292 : 0 ≤ (x14_1 : Int) := of_decide_eq_true za
         have q292 : x14_1 < (l1.length : Int) := of_decide_eq_true za
         obtain ⟨ad292, e292, hx292_0, hx292_1, hx292_2⟩ := at_T32 HR1.out x14_1 p292 q292
         cases e292
         replace hx292_0 := (HB.out.cell (World.block_lt_of_cell? w _ hx292_0)).trans hx292_0
         replace hx292_1 := (HB.out.cell (World.block_lt_of_cell? w _ hx292_1)).trans hx292_1
         replace hx292_2 := (HB.out.cell (World.block_lt_of_cell? w _ hx292_2)).trans hx292_2
         replace p292 := eq_true p292
         replace q292 := eq_true q292
         try go_wp2_with (first | ((with_reducible refine zt 6 ?_); refine zn #[.int .i64 0, .int .i64 0, .string (⟨#[]⟩ : ByteArray)] 32 ?_; intro gb293 hg w15 hbox hb; have BK293 := zA hbox; have GW293 := zG hg; have GE293 := zG hg; replace HB := zS hb; clear hb hbox hg; obtain ⟨hcz16_0, hcz16_1, hcz16_2, hfz16_0, hfz16_1, hfz16_2⟩ := zh3 BK293))
         have n0_ : Aside0 ((((w15.setCell ⟨gb293, 0, none⟩ (.int .i64 ((rd_T32 l1 x14_1).f0))).setCell ⟨gb293, 1, none⟩ (.int .i64 ((rd_T32 l1 x14_1).f1))).setCell ⟨gb293, 2, none⟩ (.string ((rd_T32 l1 x14_1).f2))).heap[gb293]? = some (.cells #[.int .i64 ((rd_T32 l1 x14_1).f0), .int .i64 ((rd_T32 l1 x14_1).f1), .string ((rd_T32 l1 x14_1).f2)] 32 (0, 0))) := ⟨zz23⟩
         have n1_ : Aside0 (Below w.heap.size w (((w15.setCell ⟨gb293, 0, none⟩ (.int .i64 ((rd_T32 l1 x14_1).f0))).setCell ⟨gb293, 1, none⟩ (.int .i64 ((rd_T32 l1 x14_1).f1))).setCell ⟨gb293, 2, none⟩ (.string ((rd_T32 l1 x14_1).f2)))) := ⟨zb1 GE293⟩
         (try clear BK293)
         (try clear HB)
         generalize (((w15.setCell ⟨gb293, 0, none⟩ (.int .i64 ((rd_T32 l1 x14_1).f0))).setCell ⟨gb293, 1, none⟩ (.int .i64 ((rd_T32 l1 x14_1).f1))).setCell ⟨gb293, 2, none⟩ (.string ((rd_T32 l1 x14_1).f2))) = w17 at n0_ n1_ ⊢
         have BK293 := n0_; have HB := n1_
         clear n0_ n1_
         have n0_ := zA (blk_drew BK293.out)
         have n1_ := zA (below_drew1 HB.out)
         clear BK293 HB
         have BK293 := n0_; have HB := n1_
         clear n0_ n1_
         have p294 : 0 ≤ (x14_1 : Int) := of_decide_eq_true za
         have q294 : x14_1 < (l0.length : Int) := of_decide_eq_true za
         obtain ⟨ad294, e294, hx294_0, hx294_1, hx294_2, hx294_3⟩ := at_T30 HR0.out x14_1 p294 q294
         have hw294_3 := hx294_3
         have hw294_2 := hx294_2
         have hw294_1 := hx294_1
         have hw294_0 := hx294_0
         cases e294
         replace hx294_0 := (HB.out.cell (World.block_lt_of_cell? w _ hx294_0)).trans hx294_0
         replace hx294_1 := (HB.out.cell (World.block_lt_of_cell? w _ hx294_1)).trans hx294_1
         replace hx294_2 := (HB.out.cell (World.block_lt_of_cell? w _ hx294_2)).trans hx294_2
         replace hx294_3 := (HB.out.cell (World.block_lt_of_cell? w _ hx294_3)).trans hx294_3
         replace p294 := eq_true p294
         replace q294 := eq_true q294
         refine start_ (n := 7) (S := fun w' => w'.cell? ⟨gb293, 0, none⟩ = some (.int .i64 ((rd_T32 l1 x14_1).f0)) ∧ w'.cell? ⟨gb293, 1, none⟩ = some (.int .i64 ((rd_T32 l1 x14_1).f1)) ∧ w'.cell? ⟨gb293, 2, none⟩ = some (.string ((rd_T32 l1 x14_1).f2)) ∧ w'.cell? (ad294.add ((x14_1).toNat * 4)) = some (.int .i64 ((rd_T30 l0 x14_1).f0)) ∧ w'.cell? ⟨(ad294.add ((x14_1).toNat * 4)).block, (ad294.add ((x14_1).toNat * 4)).off + 1, none⟩ = some (.int .i64 ((rd_T30 l0 x14_1).f1)) ∧ w'.cell? ⟨(ad294.add ((x14_1).toNat * 4)).block, (ad294.add ((x14_1).toNat * 4)).off + 2, none⟩ = some (.bool ((rd_T30 l0 x14_1).f2)) ∧ w'.cell? ⟨(ad294.add ((x14_1).toNat * 4)).block, (ad294.add ((x14_1).toNat * 4)).off + 3, none⟩ = some (.bool ((rd_T30 l0 x14_1).f3))) (ds := []) #[false, false, false, false, false, false, false] (by kernel_rfl) rfl rfl ⟨(blk_cell BK293.out 0).trans rfl, (blk_cell BK293.out 1).trans rfl, (blk_cell BK293.out 2).trans rfl, ((HB.out.cell (World.block_lt_of_cell? w _ hw294_0)).trans hw294_0), ((HB.out.cell (World.block_lt_of_cell? w _ hw294_1)).trans hw294_1), ((HB.out.cell (World.block_lt_of_cell? w _ hw294_2)).trans hw294_2), ((HB.out.cell (World.block_lt_of_cell? w _ hw294_3)).trans hw294_3)⟩ (fun hHeld => ?_)
         generalize w17.drew = w18 at BK293 HB hx294_0 hx294_1 hx294_2 hx294_3 hHeld ⊢
         refine pure_ (i := 0) (N := some 19) (v := ?_) (a' := ?_) #[true, false, false, false, false, false, false] rfl rfl (by kernel_rfl) (fun _ _ _ h => h) (Or.inl ⟨by rfl, ?_⟩) ?_ ?_; rotate_left
         ·intro w'; go_simp; with_reducible rfl
         rotate_left
         ·simp only [Act.put, List.setIfInBounds_toArray, List.set_cons_zero, List.set_cons_succ, i64_w, i32_w]; rfl
         refine pure_ (i := 1) (N := some 20) (v := ?_) (a' := ?_) #[true, true, false, false, false, false, false] rfl rfl (by kernel_rfl) (fun _ _ _ h => h) (Or.inl ⟨by rfl, ?_⟩) ?_ ?_; rotate_left
         ·intro w'; go_simp; with_reducible rfl
         rotate_left
         ·simp only [Act.put, List.setIfInBounds_toArray, List.set_cons_zero, List.set_cons_succ, i64_w, i32_w]; rfl
         refine pure_ (i := 2) (N := some 21) (v := ?_) (a' := ?_) #[true, true, true, false, false, false, false] rfl rfl (by kernel_rfl) (fun _ _ _ h => h) (Or.inl ⟨by rfl, ?_⟩) ?_ ?_; rotate_left
         ·intro w'; go_simp; with_reducible rfl
         rotate_left
         ·simp only [Act.put, List.setIfInBounds_toArray, List.set_cons_zero, List.set_cons_succ, i64_w, i32_w]; rfl
         refine take_ (i := 3) (N := some 22) (v := ?_) (a' := ?_) #[true, true, true, true, false, false, false] rfl rfl (by kernel_rfl) (fun _ _ _ h => h) (Or.inl ⟨by rfl, ?_⟩) hHeld ?_ ?_; rotate_left
         ·rintro w' ⟨s0, s1, s2, s3, s4, s5, s6⟩
          go_simp
          with_reducible rfl
         rotate_left
         ·simp only [Act.put, List.setIfInBounds_toArray, List.set_cons_zero, List.set_cons_succ, i64_w, i32_w]; rfl
         refine take_ (i := 4) (N := some 23) (v := ?_) (a' := ?_) #[true, true, true, true, true, false, false] rfl rfl (by kernel_rfl) (fun _ _ _ h => h) (Or.inl ⟨by rfl, ?_⟩) hHeld ?_ ?_; rotate_left
         ·rintro w' ⟨s0, s1, s2, s3, s4, s5, s6⟩
          go_simp
          with_reducible rfl
         rotate_left
         ·simp only [Act.put, List.setIfInBounds_toArray, List.set_cons_zero, List.set_cons_succ, i64_w, i32_w]; rfl
         refine one_ (i := 5) (N := some 24) #[true, true, true, true, true, true, false] rfl rfl (by kernel_rfl) (by decide) (fun K hK => ?_)
         refine goes_ Try.func31 (by kernel_rfl) rfl #[.agg #[.int .i64 ((rd_T30 l0 x14_1).f0), .int .i64 ((rd_T30 l0 x14_1).f1), .bool ((rd_T30 l0 x14_1).f2), .bool ((rd_T30 l0 x14_1).f3)], .agg #[.int .i64 ((rd_T32 l1 x14_1).f0), .int .i64 ((rd_T32 l1 x14_1).f1), .string ((rd_T32 l1 x14_1).f2)]] (by rfl) rfl rfl zz21 ?_
         with_reducible refine (impl_Fits.calls ((rd_T30 l0 x14_1).f0) ((rd_T30 l0 x14_1).f1) ((rd_T30 l0 x14_1).f2) ((rd_T30 l0 x14_1).f3) ((rd_T32 l1 x14_1).f0) ((rd_T32 l1 x14_1).f1) ((rd_T32 l1 x14_1).f2) false _ A8.out).mono ?_
         rintro e w19 ⟨rfl, hb⟩
         refine ⟨_, rfl, ?_⟩
         have n0_ := zB BK293 hb
         have n1_ := zS hb (zb1 GE293)
         clear BK293 HB
         have BK293 := n0_; have HB := n1_
         clear n0_ n1_
         (try clear hb)
         (try clear hb2)
         (try clear hk)
         (try clear hi)
         refine hK.out _ _ ⟨(blk_cell BK293.out 0).trans rfl, (blk_cell BK293.out 1).trans rfl, (blk_cell BK293.out 2).trans rfl, ((HB.out.cell (World.block_lt_of_cell? w _ hw294_0)).trans hw294_0), ((HB.out.cell (World.block_lt_of_cell? w _ hw294_1)).trans hw294_1), ((HB.out.cell (World.block_lt_of_cell? w _ hw294_2)).trans hw294_2), ((HB.out.cell (World.block_lt_of_cell? w _ hw294_3)).trans hw294_3)⟩ (fun hHeld => ?_)
         clear hK K
         refine norm_ (a' := ?_) ?_ ?_; rotate_left
         ·show Act.put _ (some 24) _ = _
          simp only [Act.put, List.setIfInBounds_toArray, List.set_cons_zero, List.set_cons_succ, i64_w, i32_w]
          rfl
         refine pure_ (i := 6) (N := some 25) (v := ?_) (a' := ?_) #[true, true, true, true, true, true, true] rfl rfl (by kernel_rfl) (fun _ _ _ h => h) (Or.inl ⟨by rfl, ?_⟩) ?_ ?_; rotate_left
         ·intro w'; go_simp; with_reducible rfl
         rotate_left
         ·simp only [Act.put, List.setIfInBounds_toArray, List.set_cons_zero, List.set_cons_succ, i64_w, i32_w]; rfl
         refine done_ (by kernel_rfl) ?_
         try go_wp2
         go_ret
         exact ⟨zw, zb1 GE293⟩
       ·rw [if_neg c7] at H
        exact absurd H (by simp)
      ·rw [if_neg c6] at H
       exact absurd H (by simp)
     ·rw [if_neg c5] at H
      exact absurd H (by simp)
    ·rw [if_neg c4] at H
     have c4b0 : decide (x14_1 < (l1.length : Int)) = false := decide_eq_false c4
     clear c4
     obtain rfl := Option.some.inj H
     go_wp2
     go_ret
     exact ⟨zw, zb⟩

/-! ### impl_copyBytes: function 70 -/
def impl_copyBytes.f (l0 : List Int) : Option (List Int) := if ([] : List Int).length + l0.length < 140737488355328 then (some (([] : List Int) ++ l0)) else (none)
set_option maxHeartbeats 8000000 in
set_option maxRecDepth 100000 in
theorem impl_copyBytes.calls (A0 : Option Addr) (c0 : Nat) (l0 : List Int) (r : List Int) (w : World) (hr0 : Kd.C (Kd.int .u8) w A0 l0.length l0) (hc0 : l0.length ≤ c0) (h : impl_copyBytes.f l0 = some r) :
  Calls Try.prog 70 #[.slice A0 l0.length c0] w fun e w' => ∃ v0_ : Value, e = .returned (v0_) ∧ Kd.R (Kd.int .u8) 5 w' w.heap.size (fun _ => True) v0_ r ∧ Below w.heap.size w w' := by
 have HR0 := zA hr0
 have HC0 := zA hc0
 clear hr0 hc0
 have HB := zA (Below.refl w.heap.size w)
 have H : (if ([] : List Int).length + l0.length < 140737488355328 then (some (([] : List Int) ++ l0)) else (none)) = some r := h
 clear h
 by_cases c2 : ([] : List Int).length + l0.length < 140737488355328
 ·rw [if_pos c2] at H
  have LMc2 := zA c2
  clear c2
  obtain ⟨y296, hy296⟩ : ∃ y_ : List Int, y_ = (([] : List Int) ++ l0) := ⟨_, rfl⟩
  replace H : (some y296) = some r := by first | (rw [hy296]; with_reducible exact H) | (have H2_ := (Option.bind_some _ _).symm.trans H; rw [hy296]; with_reducible exact H2_) | (have H2_ := (Option.bind_some _ _).symm.trans H; with_reducible exact H2_) | with_reducible exact H | (rw [hy296]; exact H) | exact H
  have Ny296 := zA hy296
  clear hy296
  obtain rfl := Option.some.inj H
  go_enter Try.func70, Try.ntmps70
  go_wp2_with (first | ((with_reducible refine gate_builtin (b := .append) (xs := #[.const (.slice none 0 0), .tmp 3]) rfl ?_); at_builtin; refine Kd.R_append_rows (Kd.int .u8) (w0 := w) w.heap.size rfl (.const (.slice none 0 0)) (.tmp 3) 22 5 (.int .u8 0) 1 rfl Try.underlying22 info5 rfl (by decide) (by omega) (.slice none 0 0) ([] : List Int) l0 _ _ _ (fun _ => True) (fun _ => False) rfl rfl ?aO ?aR (fun _ _ h => h) (fun _ h => h.elim) ?aF ?aB ?aS ?aL ?_; (case aR => exact zc HR0.out); (case aB => exact zb); (case aF => exact (fun _ _ => trivial)); (case aO => exact ((Kd.R_nil _ _ _ _ (fun _ => True)))); (case aS => exact (below_size zb)); (case aL => have := LMc2.out; omega); intro v297 w3 ho hb hg hat; rw [← Ny296.out] at ho; replace HB := zA hb; have HO298 := zA ho; clear ho hb hg hat))
  go_ret
  exact ⟨_, zw, zr HO298, zb⟩
 ·rw [if_neg c2] at H
  exact absurd H (by simp)

/-! ### impl_Flip: function 73 -/
def impl_Flip.l0 : Nat → List Int → Int → Option (List Int)
  | 0, _, _ => none
  | k + 1, x5, x6 => if x6 < (x5.length : Int) then (if 0 ≤ x6 then (impl_Flip.l0 k (x5.set (x6 : Int).toNat (Go.bits .xor .u8 255 (rd x5 x6))) (wrap64 (x6 + 1))) else (none)) else (some x5)
def impl_Flip.f (k : Nat) (l0 : List Int) (a1 : Int) : Option (List Int) := (impl_copyBytes.f l0).bind fun t299 => (impl_Flip.l0 k t299 (mx a1 0))
theorem impl_Flip.mono_l : ∀ k, (∀ y0 y1, LeO (impl_Flip.l0 k y0 y1) (impl_Flip.l0 (k + 1) y0 y1))
  | 0 => fun _ _ r h => by simp [impl_Flip.l0] at h
  | k + 1 => by
    have ih0 := impl_Flip.mono_l k
    · intro y0 y1
      unfold impl_Flip.l0
      repeat' first
      | (with_reducible exact ih0 _ _)
      | (with_reducible exact LeO.refl _)
      | (with_reducible exact LeO.none _)
      | (with_reducible refine LeO.ite ?_ ?_)
      | (with_reducible refine LeO.bind ?_ (fun _ => ?_))
      | exact ih0 _ _
      | exact LeO.none _
      | refine LeO.ite ?_ ?_
      | refine LeO.bind ?_ (fun _ => ?_)
theorem impl_Flip.mono : ∀ a0 a1 k, LeO (impl_Flip.f k a0 a1) (impl_Flip.f (k + 1) a0 a1) := by
  intro a0 a1 k
  have ih0 := impl_Flip.mono_l k
  unfold impl_Flip.f
  repeat' first
      | (with_reducible exact ih0 _ _)
      | (with_reducible exact LeO.refl _)
      | (with_reducible exact LeO.none _)
      | (with_reducible refine LeO.ite ?_ ?_)
      | (with_reducible refine LeO.bind ?_ (fun _ => ?_))
      | exact ih0 _ _
      | exact LeO.none _
      | refine LeO.ite ?_ ?_
      | refine LeO.bind ?_ (fun _ => ?_)
set_option maxHeartbeats 8000000 in
set_option maxRecDepth 100000 in
theorem impl_Flip.calls (k : Nat) (A0 : Option Addr) (c0 : Nat) (l0 : List Int) (a1 : Int) (r : List Int) (w : World) (hr0 : Kd.C (Kd.int .u8) w A0 l0.length l0) (hc0 : l0.length ≤ c0) (h : impl_Flip.f k l0 a1 = some r) :
  Calls Try.prog 73 #[.slice A0 l0.length c0, .int .i64 a1] w fun e w' => ∃ v0_ : Value, e = .returned (v0_) ∧ Kd.R (Kd.int .u8) 5 w' w.heap.size (fun _ => True) v0_ r ∧ Below w.heap.size w w' := by
 have HR0 := zA hr0
 have HC0 := zA hc0
 clear hr0 hc0
 have HB := zA (Below.refl w.heap.size w)
 have H : ((impl_copyBytes.f l0).bind fun t299 => (impl_Flip.l0 k t299 (mx a1 0))) = some r := h
 clear h
 replace H := zI H
 obtain ⟨t299, A3, H⟩ := H
 obtain ⟨ji4, hji4⟩ : ∃ j_ : Int, (mx a1 0) = j_ := ⟨_, rfl⟩
 replace H : (impl_Flip.l0 k t299 ji4) = some r := by first | (rw [hji4] at H; exact H) | (simp only [hji4] at H ⊢; exact H)
 (try rw [hji4] at A3)
 (try (have hji4l : 0 ≤ ji4 := by (rw [← hji4]; unfold mx; (repeat' split) <;> omega)))
 (try (have hji4m : 0 ≤ ji4 := by omega))
 have hji4_ : (if a1 < 0 then 0 else a1) = ji4 := hji4
 have H' := zA H
 clear H
 go_enter Try.func73, Try.ntmps73
 go_wp2_with (first | ((with_reducible refine zg 70 ?_); refine gL (some 8) Try.func70 #[.slice A0 l0.length c0] ?_; (with_reducible refine (impl_copyBytes.calls _ _ l0 t299 _ ?z1 ?z2 A3.out).mono ?_); (case z1 => exact zc HR0.out); (case z2 => exact HC0.out); rintro e w5 ⟨v300, rfl, ho0, hb⟩; refine ⟨_, rfl, ?_⟩; have HO301 := zL ho0; replace HB := zS hb; clear hb ho0))
 go_loopg [6] k (fun kq v6 w' => ∃ (x5_1 : List Int) (x6_1 : Int), v6 = .int .i64 x6_1 ∧ Aside0 (impl_Flip.l0 kq x5_1 x6_1 = some r) ∧ Aside0 (kq ≤ k) ∧ Aside0 (Kd.R (Kd.int .u8) 5 w' w.heap.size (fun _ => True) v300 x5_1) ∧ Aside0 (Below w.heap.size w w'))
 case atStart => exact ⟨(t299), (ji4), (by first | rfl | (simp; done) | (simp only [← hji4] <;> (first | rfl | simp)) | (simp [*]; done)), H', ⟨Nat.le_refl _⟩, ⟨zr HO301⟩, ⟨zb⟩⟩
 case round =>
  clear H'
  obtain ⟨x5_1, x6_1, rfl, HA, HK1, HO_5, HB⟩ := hrel
  cases gk with
  | zero => exact absurd HA.out (by simp [impl_Flip.l0])
  | succ k1 =>
   have H := HA.out
   clear HA
   simp only [impl_Flip.l0] at H
   by_cases c6 : x6_1 < (x5_1.length : Int)
   ·rw [if_pos c6] at H
    have c6b0 : decide (x6_1 < (x5_1.length : Int)) = true := decide_eq_true c6
    clear c6
    by_cases c7 : 0 ≤ x6_1
    ·rw [if_pos c7] at H
     have c7b0 : decide (0 ≤ x6_1) = true := decide_eq_true c7
     clear c7
     obtain ⟨y303, hy303⟩ : ∃ y_ : List Int, y_ = (x5_1.set (x6_1 : Int).toNat (Go.bits .xor .u8 255 (rd x5_1 x6_1))) := ⟨_, rfl⟩
     replace H : (impl_Flip.l0 k1 y303 (wrap64 (x6_1 + 1))) = some r := by first | (rw [hy303]; with_reducible exact H) | (have H2_ := (Option.bind_some _ _).symm.trans H; rw [hy303]; with_reducible exact H2_) | (have H2_ := (Option.bind_some _ _).symm.trans H; with_reducible exact H2_) | with_reducible exact H | (rw [hy303]; exact H) | exact H
     have Ny303 := zA hy303
     clear hy303
     have H' := zA H
     clear H
     obtain ⟨Ao9, co9, eo9⟩ := Kd.R_slice HO_5.out
     subst eo9
     have p302 : 0 ≤ (x6_1 : Int) := of_decide_eq_true za
     have q302 : x6_1 < (x5_1.length : Int) := of_decide_eq_true za
     obtain ⟨ad302, e302, hx302_0⟩ := Kd.at_int (Kd.R_reads' HO_5.out).2.2 x6_1 p302 q302
     cases e302
     replace p302 := eq_true p302
     replace q302 := eq_true q302
     have p8 : 0 ≤ (x6_1 : Int) := of_decide_eq_true za
     have q8 : (x6_1 : Int) < ((x5_1.length : Int) : Int) := of_decide_eq_true za
     obtain ⟨go8, co8, eo8, gb8, gl8, cl8, HG8⟩ := Kd.R_form HO_5.out (by omega)
     (first | cases eo8 | (injection eo8 with ea_ en_ ec_; (first | subst ea_ | (injection ea_ with ea_; subst ea_)); subst ec_; clear en_))
     have GB8 := zA gb8
     have GG8 := zA HG8
     clear gb8 gl8 HG8
     (first | simp only [add_plain] at hx302_0 | skip)
     obtain ⟨hx8_0, hf8_0⟩ := Kd.R_celln 0 HO_5.out (x6_1 : Int) p8 q8
     replace p8 := eq_true p8
     replace q8 := eq_true q8
     have HP10 := Kd.R_putg HO_5.out (x6_1 : Int) (Go.bits .xor .u8 255 (rd x5_1 x6_1))
     go_wp2_with (first | ((with_reducible refine gate_store (t := 5) (p := 24) rfl ?_); refine store_event (t := 5) (p := 24) (v := ?vo_w11) (w1 := (wr.setCell ⟨go8, (x6_1 : Int).toNat, none⟩ (.int .u8 (Go.bits .xor .u8 255 (rd x5_1 x6_1))))) ?hg ?ho ?hn ?hr ?_; (case ho => rfl); (case hg => rfl); (case hn => rfl); (case hr => exact zz25); intro w11 hw; have hg : wr.grownBy w11 (some go8) := (by rw [hw]; exact HP10.2); have hp_ : Kd.R (Kd.int .u8) 5 w11 w.heap.size (fun _ => True) (.slice (some ⟨go8, 0, none⟩) x5_1.length co9) y303 := (by rw [hw, Ny303.out]; exact HP10.1); clear HP10; replace HO_5 := zA hp_; replace HB := zA ((by rw [hw]; exact below_set (HB.out) GB8.out : Below w.heap.size w w11)); clear hg hw hp_))
     go_roundg k1
     case measure => have := HK1.out; omega
     case rel => exact ⟨(y303), (wrap64 (x6_1 + 1)), zx, H', ⟨zz41⟩, ⟨zr HO_5⟩, ⟨zb⟩⟩
    ·rw [if_neg c7] at H
     exact absurd H (by simp)
   ·rw [if_neg c6] at H
    have c6b0 : decide (x6_1 < (x5_1.length : Int)) = false := decide_eq_false c6
    clear c6
    obtain rfl := Option.some.inj H
    obtain ⟨Ao12, co12, eo12⟩ := Kd.R_slice HO_5.out
    subst eo12
    go_wp2
    go_ret
    exact ⟨_, by first | rfl | (simp [errW_none, errW_some] <;> rfl) | (simp only [← hji4]; first | rfl | (simp [errW_none, errW_some] <;> rfl)) | (simp [*, errW_none, errW_some] <;> rfl), zr HO_5, zb⟩

/-! ### impl_addBytes: function 116 -/
def impl_addBytes.l0 : Nat → List Int → Int → Int → Int → Option (List Int)
  | 0, _, _, _, _ => none
  | k + 1, x0, x1, x3, x9 => if x9 ≥ 0 then (if 0 ≤ (wrap64 (8 * x9)) then (if x0.length < 140737488355328 then (impl_addBytes.l0 k (x0 ++ [Go.bits .xor .u8 ((shr .i64 x1 (wrap64 (8 * x9))) % 256) x3]) x1 x3 (wrap64 (x9 - 1))) else (none)) else (none)) else (some x0)
def impl_addBytes.f (k : Nat) (l0 : List Int) (a1 : Int) (a2 : Int) (a3 : Int) : Option (List Int) := impl_addBytes.l0 k l0 a1 a3 (wrap64 (a2 - 1))
theorem impl_addBytes.mono_l : ∀ k, (∀ y0 y1 y2 y3, LeO (impl_addBytes.l0 k y0 y1 y2 y3) (impl_addBytes.l0 (k + 1) y0 y1 y2 y3))
  | 0 => fun _ _ _ _ r h => by simp [impl_addBytes.l0] at h
  | k + 1 => by
    have ih0 := impl_addBytes.mono_l k
    · intro y0 y1 y2 y3
      unfold impl_addBytes.l0
      repeat' first
      | (with_reducible exact ih0 _ _ _ _)
      | (with_reducible exact LeO.refl _)
      | (with_reducible exact LeO.none _)
      | (with_reducible refine LeO.ite ?_ ?_)
      | (with_reducible refine LeO.bind ?_ (fun _ => ?_))
      | exact ih0 _ _ _ _
      | exact LeO.none _
      | refine LeO.ite ?_ ?_
      | refine LeO.bind ?_ (fun _ => ?_)
theorem impl_addBytes.mono : ∀ a0 a1 a2 a3 k, LeO (impl_addBytes.f k a0 a1 a2 a3) (impl_addBytes.f (k + 1) a0 a1 a2 a3) := by
  intro a0 a1 a2 a3 k
  have ih0 := impl_addBytes.mono_l k
  unfold impl_addBytes.f
  repeat' first
      | (with_reducible exact ih0 _ _ _ _)
      | (with_reducible exact LeO.refl _)
      | (with_reducible exact LeO.none _)
      | (with_reducible refine LeO.ite ?_ ?_)
      | (with_reducible refine LeO.bind ?_ (fun _ => ?_))
      | exact ih0 _ _ _ _
      | exact LeO.none _
      | refine LeO.ite ?_ ?_
      | refine LeO.bind ?_ (fun _ => ?_)
set_option maxHeartbeats 8000000 in
set_option maxRecDepth 100000 in
theorem impl_addBytes.calls (k : Nat) (P0_ : Nat → Prop) (u9000_ : Value) (l0 : List Int) (a1 : Int) (a2 : Int) (a3 : Int) (r : List Int) (w0 w : World) (hB : Below w0.heap.size w0 w) (ho0 : Kd.R (Kd.int .u8) 5 w w0.heap.size P0_ u9000_ l0) (h : impl_addBytes.f k l0 a1 a2 a3 = some r) :
  Calls Try.prog 116 #[u9000_, .int .i64 a1, .int .i64 a2, .int .u8 a3] w fun e w' => ∃ v0_ : Value, e = .returned (v0_) ∧ Kd.R (Kd.int .u8) 5 w' w0.heap.size (fun k_ => (P0_ k_ ∨ w.heap.size ≤ k_)) v0_ r ∧ Below w0.heap.size w0 w' ∧ Kept w w' (fun k_ => P0_ k_) := by
 have HO0 := zA (show Kd.R (Kd.int .u8) 5 w w0.heap.size (fun k_ => (P0_ k_ ∨ w.heap.size ≤ k_)) u9000_ l0 from Kd.R_mono ho0 (fun k_ hk => (.inl hk)))
 have HK := zA (Kept.refl w (fun k_ => P0_ k_))
 have HW0 := zA hB.size
 have HB := zA hB
 clear hB
 have H : (impl_addBytes.l0 k l0 a1 a3 (wrap64 (a2 - 1))) = some r := h
 clear h
 have H' := zA H
 clear H
 go_enter Try.func116, Try.ntmps116
 go_wp2
 go_loopg [0, 9] k (fun kq v0 v9 w' => ∃ (x0_1 : List Int) (x9_1 : Int), v9 = .int .i64 x9_1 ∧ Aside0 (impl_addBytes.l0 kq x0_1 a1 a3 x9_1 = some r) ∧ Aside0 (kq ≤ k) ∧ Aside0 (Kd.R (Kd.int .u8) 5 w' w0.heap.size (fun k_ => (P0_ k_ ∨ w.heap.size ≤ k_)) v0 x0_1) ∧ Aside0 (Kept w w' (fun k_ => P0_ k_)) ∧ Aside0 (Below w0.heap.size w0 w'))
 case atStart => exact ⟨(l0), (wrap64 (a2 - 1)), zx, H', ⟨Nat.le_refl _⟩, ⟨zr HO0⟩, ⟨zq⟩, ⟨zb⟩⟩
 case round =>
  clear H'
  obtain ⟨x0_1, x9_1, rfl, HA, HK1, HO_0, HK, HB⟩ := hrel
  cases gk with
  | zero => exact absurd HA.out (by simp [impl_addBytes.l0])
  | succ k1 =>
   have H := HA.out
   clear HA
   simp only [impl_addBytes.l0] at H
   by_cases c5 : x9_1 ≥ 0
   ·rw [if_pos c5] at H
    have c5b0 : decide (0 ≤ x9_1) = true := decide_eq_true c5
    clear c5
    obtain ⟨ji6, hji6⟩ : ∃ j_ : Int, (wrap64 (8 * x9_1)) = j_ := ⟨_, rfl⟩
    replace H : (if 0 ≤ (ji6) then (if x0_1.length < 140737488355328 then (impl_addBytes.l0 k1 (x0_1 ++ [Go.bits .xor .u8 ((shr .i64 a1 (ji6)) % 256) a3]) a1 a3 (wrap64 (x9_1 - 1))) else (none)) else (none)) = some r := by first | (rw [hji6] at H; exact H) | (simp only [hji6] at H ⊢; exact H)
    have hji6w : (IntKind.i64.wrap (8 * x9_1)) = ji6 := (i64_w _).trans hji6
    by_cases c7 : 0 ≤ (ji6)
    ·rw [if_pos c7] at H
     have c7b0 := eq_true c7
     have c7b1 : decide (0 ≤ (ji6)) = true := decide_eq_true c7
     clear c7
     obtain ⟨ji8, hji8⟩ : ∃ j_ : Int, (shr .i64 a1 (ji6)) = j_ := ⟨_, rfl⟩
     replace H : (if x0_1.length < 140737488355328 then (impl_addBytes.l0 k1 (x0_1 ++ [Go.bits .xor .u8 ((ji8) % 256) a3]) a1 a3 (wrap64 (x9_1 - 1))) else (none)) = some r := by first | (rw [hji8] at H; exact H) | (simp only [hji8] at H ⊢; exact H)
     have hji8_ : (a1 / 2 ^ min (ji6).toNat 64) = ji8 := hji8
     have hji8z : (ji6) ≤ 64 → (a1 / 2 ^ (ji6).toNat) = ji8 := shr_small hji8
     by_cases c9 : x0_1.length < 140737488355328
     ·rw [if_pos c9] at H
      have LMc9 := zA c9
      clear c9
      obtain ⟨y304, hy304⟩ : ∃ y_ : List Int, y_ = (x0_1 ++ [Go.bits .xor .u8 ((ji8) % 256) a3]) := ⟨_, rfl⟩
      replace H : (impl_addBytes.l0 k1 y304 a1 a3 (wrap64 (x9_1 - 1))) = some r := by first | (rw [hy304]; with_reducible exact H) | (have H2_ := (Option.bind_some _ _).symm.trans H; rw [hy304]; with_reducible exact H2_) | (have H2_ := (Option.bind_some _ _).symm.trans H; with_reducible exact H2_) | with_reducible exact H | (rw [hy304]; exact H) | exact H
      have Ny304 := zA hy304
      clear hy304
      have H' := zA H
      clear H
      go_wp2_with (first | ((with_reducible refine gate_builtin (b := .append) (xs := #[.tmp 16, .tmp 24]) rfl ?_); at_builtin; refine Kd.R_append (Kd.int .u8) (w0 := w0) w0.heap.size rfl (.tmp 16) (.tmp 24) 22 5 (.int .u8 0) 1 rfl Try.underlying22 info5 rfl (by decide) (by omega) u0 x0_1 (Go.bits .xor .u8 ((ji8) % 256) a3) [.int .u8 (Go.bits .xor .u8 ((ji8) % 256) a3)] (fun k_ => (P0_ k_ ∨ w.heap.size ≤ k_)) (fun _ => False) rfl rfl ?aP (fun _ hk => hk.elim) ?aF ?aO ?aB ?aS ?aL ?_; (case aP => exact rfl); (case aB => exact zb); (case aF => exact (fun k_ hk => (.inr (Nat.le_trans zz31 hk)))); (case aO => exact (zr HO_0)); (case aS => exact (below_size zb)); (case aL => have := LMc9.out; omega); intro v305 w10 ho hb hg hat; rw [← Ny304.out] at ho; replace HB := zA hb; replace HK := zA (Kept.of_grown (S := (fun k_ => P0_ k_)) hg zq (fun k_ e_ => (HO_0.out.1 k_ e_))); have HO306 := zA ho; clear HO_0 ho hb hg hat))
      go_roundg k1
      case measure => have := HK1.out; omega
      case rel => exact ⟨(y304), (wrap64 (x9_1 - 1)), zx, H', ⟨zz41⟩, ⟨zr HO306⟩, ⟨zq⟩, ⟨zb⟩⟩
     ·rw [if_neg c9] at H
      exact absurd H (by simp)
    ·rw [if_neg c7] at H
     exact absurd H (by simp)
   ·rw [if_neg c5] at H
    have c5b0 : decide (0 ≤ x9_1) = false := decide_eq_false c5
    clear c5
    obtain rfl := Option.some.inj H
    go_wp2
    go_ret
    exact ⟨_, zw, zr HO_0, zb, zq⟩

/-! ### impl_clamp: function 117 -/
def impl_clamp.f (a0 : Int) (a1 : Int) (a2 : Int) : Option (Int) := some (mx a1 (mn a0 a2))
set_option maxHeartbeats 8000000 in
set_option maxRecDepth 100000 in
theorem impl_clamp.calls (a0 : Int) (a1 : Int) (a2 : Int) (r : Int) (w : World) (h : impl_clamp.f a0 a1 a2 = some r) :
  Calls Try.prog 117 #[.int .i64 a0, .int .i64 a1, .int .i64 a2] w fun e w' => e = .returned (.int .i64 r) ∧ Below w.heap.size w w' := by
 have HB := zA (Below.refl w.heap.size w)
 have H : (some (mx a1 (mn a0 a2))) = some r := h
 clear h
 obtain ⟨ji4, hji4⟩ : ∃ j_ : Int, (mn a0 a2) = j_ := ⟨_, rfl⟩
 replace H : (some (mx a1 (ji4))) = some r := by first | (rw [hji4] at H; exact H) | (simp only [hji4] at H ⊢; exact H)
 have hji4_ : (if a2 < a0 then a2 else a0) = ji4 := hji4
 obtain ⟨ji5, hji5⟩ : ∃ j_ : Int, (mx a1 (ji4)) = j_ := ⟨_, rfl⟩
 replace H : (some ji5) = some r := by first | (rw [hji5] at H; exact H) | (simp only [hji5] at H ⊢; exact H)
 have hji5_ : (if a1 < (ji4) then (ji4) else a1) = ji5 := hji5
 obtain rfl := Option.some.inj H
 go_enter Try.func117, Try.ntmps117
 go_wp2
 go_ret
 exact ⟨by first | rfl | (simp [errW_none, errW_some] <;> rfl) | (simp only [← hji4, ← hji5]; first | rfl | (simp [errW_none, errW_some] <;> rfl)) | (simp [*, errW_none, errW_some] <;> rfl), zb⟩

/-! ### impl_addFix: function 97 -/
def impl_addFix.f (k : Nat) (l0 : List Int) (a1 : Int) : Option (List Int) := (impl_clamp.f a1 (-2147483648) 2147483647).bind fun t307 => ((impl_addBytes.f k l0 (wrap64 (t307 + 2147483648)) 4 0).bind fun t308 => (some t308))
theorem impl_addFix.mono : ∀ a0 a1 k, LeO (impl_addFix.f k a0 a1) (impl_addFix.f (k + 1) a0 a1) := by
  intro a0 a1 k
  unfold impl_addFix.f
  repeat' first
      | (with_reducible exact impl_addBytes.mono _ _ _ _ _)
      | (with_reducible exact LeO.refl _)
      | (with_reducible exact LeO.none _)
      | (with_reducible refine LeO.ite ?_ ?_)
      | (with_reducible refine LeO.bind ?_ (fun _ => ?_))
      | exact impl_addBytes.mono _ _ _ _ _
      | exact LeO.none _
      | refine LeO.ite ?_ ?_
      | refine LeO.bind ?_ (fun _ => ?_)
set_option maxHeartbeats 8000000 in
set_option maxRecDepth 100000 in
theorem impl_addFix.calls (k : Nat) (P0_ : Nat → Prop) (u9000_ : Value) (l0 : List Int) (a1 : Int) (r : List Int) (w0 w : World) (hB : Below w0.heap.size w0 w) (ho0 : Kd.R (Kd.int .u8) 5 w w0.heap.size P0_ u9000_ l0) (h : impl_addFix.f k l0 a1 = some r) :
  Calls Try.prog 97 #[u9000_, .int .i64 a1] w fun e w' => ∃ v0_ : Value, e = .returned (v0_) ∧ Kd.R (Kd.int .u8) 5 w' w0.heap.size (fun k_ => (P0_ k_ ∨ w.heap.size ≤ k_)) v0_ r ∧ Below w0.heap.size w0 w' ∧ Kept w w' (fun k_ => P0_ k_) := by
 have HO0 := zA (show Kd.R (Kd.int .u8) 5 w w0.heap.size (fun k_ => (P0_ k_ ∨ w.heap.size ≤ k_)) u9000_ l0 from Kd.R_mono ho0 (fun k_ hk => (.inl hk)))
 have HK := zA (Kept.refl w (fun k_ => P0_ k_))
 have HW0 := zA hB.size
 have HB := zA hB
 clear hB
 have H : ((impl_clamp.f a1 (-2147483648) 2147483647).bind fun t307 => ((impl_addBytes.f k l0 (wrap64 (t307 + 2147483648)) 4 0).bind fun t308 => (some t308))) = some r := h
 clear h
 replace H := zI H
 obtain ⟨t307, A3, H⟩ := H
 replace H := zI H
 obtain ⟨t308, A4, H⟩ := H
 obtain rfl := Option.some.inj H
 go_enter Try.func97, Try.ntmps97
 go_wp2_with (first | ((with_reducible refine zg 117 ?_); refine gL (some 7) Try.func117 #[.int .i64 a1, .int .i64 (-2147483648), .int .i64 2147483647] ?_; (with_reducible refine (impl_clamp.calls a1 (-2147483648) 2147483647 t307 _ A3.out).mono ?_); rintro e w5 ⟨rfl, hb⟩; refine ⟨_, rfl, ?_⟩; replace HO0 := zR HO0 hb; replace HK := zA (Kept.below (S := (fun k_ => P0_ k_)) zq hb); replace HB := zS hb; (try clear hb); obtain ⟨Ao6, co6, eo6⟩ := Kd.R_slice HO0.out; subst eo6) | ((with_reducible refine zg 116 ?_); refine gL (some 9) Try.func116 #[.slice Ao6 l0.length co6, .int .i64 (wrap64 (t307 + 2147483648)), .int .i64 4, .int .u8 0] ?_; (with_reducible refine (impl_addBytes.calls k (fun k_ => some k_ = (.slice Ao6 l0.length co6 : Value).ownBlock) (.slice Ao6 l0.length co6) l0 (wrap64 (t307 + 2147483648)) 4 0 t308 w0 _ ?z1 ?z2 A4.out).mono ?_); (case z1 => exact zb); (case z2 => exact Kd.R_tight rfl HO0.out); rintro e w7 ⟨v309, rfl, ho0, hb, hkp⟩; refine ⟨_, rfl, ?_⟩; have HO310 := zA (Kd.R_mono (ok' := fun k_ => (P0_ k_ ∨ w.heap.size ≤ k_)) ho0 (fun k_ hk_ => Or.elim hk_ (fun hs_ => (HO0.out.1 k_ (hs_).symm)) (fun hn_ => (.inr (Nat.le_trans zz31 hn_))))); replace HK := zA (Kept.then_ (S := (fun k_ => P0_ k_)) zq hkp (fun k_ hs_ => (fun e_ => (HO0.out.1 k_ e_.symm)) hs_)); replace HB := zA hb; clear HO0 hb hkp ho0))
 go_ret
 exact ⟨_, zw, zr HO310, zb, zq⟩

end Go.Proofs.Ytnfmpopmigbkoaa.PFnLessKeys

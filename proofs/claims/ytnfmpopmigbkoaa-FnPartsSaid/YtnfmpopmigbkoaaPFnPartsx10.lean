-- Written by mkprint.py, a program of this session (the printer with additions of its own)
import Derived.Test.YtnfmpopmigbkoaaPFnPartsx0
import Derived.Test.YtnfmpopmigbkoaaPFnPartsx1
import Derived.Test.YtnfmpopmigbkoaaPFnPartsx2
import Derived.Test.YtnfmpopmigbkoaaPFnPartsx5
import Derived.Test.YtnfmpopmigbkoaaPFnPartsx7
import Derived.Test.YtnfmpopmigbkoaaPFnPartsx8
import Derived.Test.YtnfmpopmigbkoaaPFnPartsx9
namespace Go.Proofs.Ytnfmpopmigbkoaa.PFnParts
open Go.RowKit Go.Proofs.YtnfmpopmigbkoaaW.PrintWords Go.Proofs.YtnfmpopmigbkoaaW.PrintLast Go.Proofs.YtnfmpopmigbkoaaW.PrintMore
attribute [local go_sem] max2_int min2_int max_two min_two max_three min_three max_four min_four   -- for this text's walks alone
set_option linter.unusedVariables false
set_option linter.unusedSimpArgs false

attribute [local go_sem high] eqA32
/-! ### spec_ValOk: function 72 -/
def spec_ValOk.f (a0_0 : Int) (a0_1 : Int) (a0_2 : ByteArray) : Option (Bool) := if a0_0 = 0 then (if a0_1 = 0 then (some (a0_2.toList == ([] : List UInt8))) else (some false)) else (if a0_0 = 1 then ((spec_l1In.f a0_1 (-2147483648) 2147483647).bind fun t464 => (if t464 = true then (some (a0_2.toList == ([] : List UInt8))) else (some false))) else (if a0_0 = 2 then ((spec_l1In.f a0_1 (-1000000000000000) 1000000000000000).bind fun t465 => (if t465 = true then (some (a0_2.toList == ([] : List UInt8))) else (some false))) else (if a0_0 = 3 then (if (a0_2.size : Int) ≤ 30 then (some (a0_1 == 0)) else (some false)) else (if a0_0 = 4 then ((spec_l1In.f a0_1 0 1).bind fun t466 => (if t466 = true then (some (a0_2.toList == ([] : List UInt8))) else (some false))) else (some false)))))
set_option maxHeartbeats 8000000 in
set_option maxRecDepth 100000 in
theorem spec_ValOk.calls (a0_0 : Int) (a0_1 : Int) (a0_2 : ByteArray) (r : Bool) (w : World) (h : spec_ValOk.f a0_0 a0_1 a0_2 = some r) :
    Calls Try.prog 72 #[.agg #[.int .i64 a0_0, .int .i64 a0_1, .string a0_2]] w fun e w' => e = .returned (.bool r) ∧ Below w.heap.size w w' := by
  have hu32 := Try.underlying32
  have HB := Aside0.mk (Below.refl w.heap.size w)
  have H : (if a0_0 = 0 then (if a0_1 = 0 then (some (a0_2.toList == ([] : List UInt8))) else (some false)) else (if a0_0 = 1 then ((spec_l1In.f a0_1 (-2147483648) 2147483647).bind fun t464 => (if t464 = true then (some (a0_2.toList == ([] : List UInt8))) else (some false))) else (if a0_0 = 2 then ((spec_l1In.f a0_1 (-1000000000000000) 1000000000000000).bind fun t465 => (if t465 = true then (some (a0_2.toList == ([] : List UInt8))) else (some false))) else (if a0_0 = 3 then (if (a0_2.size : Int) ≤ 30 then (some (a0_1 == 0)) else (some false)) else (if a0_0 = 4 then ((spec_l1In.f a0_1 0 1).bind fun t466 => (if t466 = true then (some (a0_2.toList == ([] : List UInt8))) else (some false))) else (some false)))))) = some r := h
  clear h
  by_cases c2 : a0_0 = 0
  · rw [if_pos c2] at H
    have c2b0 : (a0_0 == 0) = true := beq_iff_eq.mpr c2
    have c2b1 : (a0_0 != 0) = false := bne_eq_false_iff_eq.mpr c2
    clear c2
    by_cases c3 : a0_1 = 0
    · rw [if_pos c3] at H
      have c3b0 : (a0_1 == 0) = true := beq_iff_eq.mpr c3
      have c3b1 : (a0_1 != 0) = false := bne_eq_false_iff_eq.mpr c3
      clear c3
      obtain rfl := Option.some.inj H
      go_enter Try.func72, Try.ntmps72
      go_wp2_with (first | ((with_reducible refine gate_dst (N := 1) rfl ?_); refine box_event ?hg (N := 1) ?hd (cs := #[.int .i64 a0_0, .int .i64 a0_1, .string a0_2]) (t := 32) ?hr ?_; (case hd => rfl); (case hg => rfl); (case hr => first | (go_simp; done) | (go_simp; rfl)); intro gb463 hg w4 hbox hb; have n0_ := Aside0.mk (below_step HB.out hb); have n1_ := Aside0.mk (hbox); have n2_ := Aside0.mk ((by rw [hg]; exact (below_size HB.out) : w.heap.size ≤ gb463)); have n3_ := Aside0.mk ((by rw [hg]; exact (below_size HB.out) : w.heap.size ≤ gb463)); clear HB; have HB := n0_; have BK463 := n1_; have GW463 := n2_; have GE463 := n3_; clear n0_ n1_ n2_ n3_; clear hb hbox hg; have hcz5_0 : w4.cell? ⟨gb463, 0, none⟩ = some (.int .i64 a0_0) := (blk_cell BK463.out 0).trans rfl; have hcz5_1 : w4.cell? ⟨gb463, 1, none⟩ = some (.int .i64 a0_1) := (blk_cell BK463.out 1).trans rfl; have hcz5_2 : w4.cell? ⟨gb463, 2, none⟩ = some (.string a0_2) := (blk_cell BK463.out 2).trans rfl; have hfz5_0 := blk_frozen BK463.out 0; have hfz5_1 := blk_frozen BK463.out 1; have hfz5_2 := blk_frozen BK463.out 2))
      go_ret
      exact ⟨rfl, by repeat (first | (with_reducible first | exact HB.out | apply below_alloc | apply pw_below_drewN | apply below_drew1 | refine below_set ?_ GE463.out) | exact HB.out)⟩
    · rw [if_neg c3] at H
      have c3b0 : (a0_1 == 0) = false := beq_eq_false_iff_ne.mpr c3
      have c3b1 : (a0_1 != 0) = true := bne_iff_ne.mpr c3
      obtain rfl := Option.some.inj H
      go_enter Try.func72, Try.ntmps72
      go_wp2_with (first | ((with_reducible refine gate_dst (N := 1) rfl ?_); refine box_event ?hg (N := 1) ?hd (cs := #[.int .i64 a0_0, .int .i64 a0_1, .string a0_2]) (t := 32) ?hr ?_; (case hd => rfl); (case hg => rfl); (case hr => first | (go_simp; done) | (go_simp; rfl)); intro gb463 hg w6 hbox hb; have n0_ := Aside0.mk (below_step HB.out hb); have n1_ := Aside0.mk (hbox); have n2_ := Aside0.mk ((by rw [hg]; exact (below_size HB.out) : w.heap.size ≤ gb463)); have n3_ := Aside0.mk ((by rw [hg]; exact (below_size HB.out) : w.heap.size ≤ gb463)); clear HB; have HB := n0_; have BK463 := n1_; have GW463 := n2_; have GE463 := n3_; clear n0_ n1_ n2_ n3_; clear hb hbox hg; have hcz7_0 : w6.cell? ⟨gb463, 0, none⟩ = some (.int .i64 a0_0) := (blk_cell BK463.out 0).trans rfl; have hcz7_1 : w6.cell? ⟨gb463, 1, none⟩ = some (.int .i64 a0_1) := (blk_cell BK463.out 1).trans rfl; have hcz7_2 : w6.cell? ⟨gb463, 2, none⟩ = some (.string a0_2) := (blk_cell BK463.out 2).trans rfl; have hfz7_0 := blk_frozen BK463.out 0; have hfz7_1 := blk_frozen BK463.out 1; have hfz7_2 := blk_frozen BK463.out 2))
      go_ret
      exact ⟨rfl, by repeat (first | (with_reducible first | exact HB.out | apply below_alloc | apply pw_below_drewN | apply below_drew1 | refine below_set ?_ GE463.out) | exact HB.out)⟩
  · rw [if_neg c2] at H
    have c2b0 : (a0_0 == 0) = false := beq_eq_false_iff_ne.mpr c2
    have c2b1 : (a0_0 != 0) = true := bne_iff_ne.mpr c2
    by_cases c8 : a0_0 = 1
    · rw [if_pos c8] at H
      have c8b0 : (a0_0 == 1) = true := beq_iff_eq.mpr c8
      have c8b1 : (a0_0 != 1) = false := bne_eq_false_iff_eq.mpr c8
      clear c8
      replace H := Option.bind_eq_some_iff.mp H
      obtain ⟨t464, A90, H⟩ := H
      replace H : (if t464 = true then (some (a0_2.toList == ([] : List UInt8))) else (some false)) = some r := H
      have A9 := Aside0.mk A90
      clear A90
      by_cases c10 : t464 = true
      · subst c10
        have H1 : (some (a0_2.toList == ([] : List UInt8))) = some r := by rw [if_pos rfl] at H; exact H
        clear H
        have H := H1
        clear H1
        obtain rfl := Option.some.inj H
        go_enter Try.func72, Try.ntmps72
        go_wp2_with (first | ((with_reducible refine gate_dst (N := 1) rfl ?_); refine box_event ?hg (N := 1) ?hd (cs := #[.int .i64 a0_0, .int .i64 a0_1, .string a0_2]) (t := 32) ?hr ?_; (case hd => rfl); (case hg => rfl); (case hr => first | (go_simp; done) | (go_simp; rfl)); intro gb463 hg w11 hbox hb; have n0_ := Aside0.mk (below_step HB.out hb); have n1_ := Aside0.mk (hbox); have n2_ := Aside0.mk ((by rw [hg]; exact (below_size HB.out) : w.heap.size ≤ gb463)); have n3_ := Aside0.mk ((by rw [hg]; exact (below_size HB.out) : w.heap.size ≤ gb463)); clear HB; have HB := n0_; have BK463 := n1_; have GW463 := n2_; have GE463 := n3_; clear n0_ n1_ n2_ n3_; clear hb hbox hg; have hcz12_0 : w11.cell? ⟨gb463, 0, none⟩ = some (.int .i64 a0_0) := (blk_cell BK463.out 0).trans rfl; have hcz12_1 : w11.cell? ⟨gb463, 1, none⟩ = some (.int .i64 a0_1) := (blk_cell BK463.out 1).trans rfl; have hcz12_2 : w11.cell? ⟨gb463, 2, none⟩ = some (.string a0_2) := (blk_cell BK463.out 2).trans rfl; have hfz12_0 := blk_frozen BK463.out 0; have hfz12_1 := blk_frozen BK463.out 1; have hfz12_2 := blk_frozen BK463.out 2) | ((with_reducible refine gate_callee (f := 79) rfl ?_); refine gL (some 19) Try.func79 #[.int .i64 a0_1, .int .i64 (-2147483648), .int .i64 2147483647] ?_; (with_reducible refine (spec_l1In.calls a0_1 (-2147483648) 2147483647 true _ A9.out).mono ?_); rintro e w' ⟨rfl, ⟨nd, rfl⟩⟩; refine ⟨_, rfl, ?_⟩))
        go_ret
        exact ⟨rfl, by repeat (first | (with_reducible first | exact HB.out | apply below_alloc | apply pw_below_drewN | apply below_drew1 | refine below_set ?_ GE463.out) | exact HB.out)⟩
      · replace c10 := Bool.eq_false_iff.mpr c10
        subst c10
        have H1 : (some false) = some r := by rw [if_neg (show ¬ (false = true) by decide)] at H; exact H
        clear H
        have H := H1
        clear H1
        obtain rfl := Option.some.inj H
        go_enter Try.func72, Try.ntmps72
        go_wp2_with (first | ((with_reducible refine gate_dst (N := 1) rfl ?_); refine box_event ?hg (N := 1) ?hd (cs := #[.int .i64 a0_0, .int .i64 a0_1, .string a0_2]) (t := 32) ?hr ?_; (case hd => rfl); (case hg => rfl); (case hr => first | (go_simp; done) | (go_simp; rfl)); intro gb463 hg w13 hbox hb; have n0_ := Aside0.mk (below_step HB.out hb); have n1_ := Aside0.mk (hbox); have n2_ := Aside0.mk ((by rw [hg]; exact (below_size HB.out) : w.heap.size ≤ gb463)); have n3_ := Aside0.mk ((by rw [hg]; exact (below_size HB.out) : w.heap.size ≤ gb463)); clear HB; have HB := n0_; have BK463 := n1_; have GW463 := n2_; have GE463 := n3_; clear n0_ n1_ n2_ n3_; clear hb hbox hg; have hcz14_0 : w13.cell? ⟨gb463, 0, none⟩ = some (.int .i64 a0_0) := (blk_cell BK463.out 0).trans rfl; have hcz14_1 : w13.cell? ⟨gb463, 1, none⟩ = some (.int .i64 a0_1) := (blk_cell BK463.out 1).trans rfl; have hcz14_2 : w13.cell? ⟨gb463, 2, none⟩ = some (.string a0_2) := (blk_cell BK463.out 2).trans rfl; have hfz14_0 := blk_frozen BK463.out 0; have hfz14_1 := blk_frozen BK463.out 1; have hfz14_2 := blk_frozen BK463.out 2) | ((with_reducible refine gate_callee (f := 79) rfl ?_); refine gL (some 19) Try.func79 #[.int .i64 a0_1, .int .i64 (-2147483648), .int .i64 2147483647] ?_; (with_reducible refine (spec_l1In.calls a0_1 (-2147483648) 2147483647 false _ A9.out).mono ?_); rintro e w' ⟨rfl, ⟨nd, rfl⟩⟩; refine ⟨_, rfl, ?_⟩))
        go_ret
        exact ⟨rfl, by repeat (first | (with_reducible first | exact HB.out | apply below_alloc | apply pw_below_drewN | apply below_drew1 | refine below_set ?_ GE463.out) | exact HB.out)⟩
    · rw [if_neg c8] at H
      have c8b0 : (a0_0 == 1) = false := beq_eq_false_iff_ne.mpr c8
      have c8b1 : (a0_0 != 1) = true := bne_iff_ne.mpr c8
      by_cases c15 : a0_0 = 2
      · rw [if_pos c15] at H
        have c15b0 : (a0_0 == 2) = true := beq_iff_eq.mpr c15
        have c15b1 : (a0_0 != 2) = false := bne_eq_false_iff_eq.mpr c15
        clear c15
        replace H := Option.bind_eq_some_iff.mp H
        obtain ⟨t465, A160, H⟩ := H
        replace H : (if t465 = true then (some (a0_2.toList == ([] : List UInt8))) else (some false)) = some r := H
        have A16 := Aside0.mk A160
        clear A160
        by_cases c17 : t465 = true
        · subst c17
          have H1 : (some (a0_2.toList == ([] : List UInt8))) = some r := by rw [if_pos rfl] at H; exact H
          clear H
          have H := H1
          clear H1
          obtain rfl := Option.some.inj H
          go_enter Try.func72, Try.ntmps72
          go_wp2_with (first | ((with_reducible refine gate_dst (N := 1) rfl ?_); refine box_event ?hg (N := 1) ?hd (cs := #[.int .i64 a0_0, .int .i64 a0_1, .string a0_2]) (t := 32) ?hr ?_; (case hd => rfl); (case hg => rfl); (case hr => first | (go_simp; done) | (go_simp; rfl)); intro gb463 hg w18 hbox hb; have n0_ := Aside0.mk (below_step HB.out hb); have n1_ := Aside0.mk (hbox); have n2_ := Aside0.mk ((by rw [hg]; exact (below_size HB.out) : w.heap.size ≤ gb463)); have n3_ := Aside0.mk ((by rw [hg]; exact (below_size HB.out) : w.heap.size ≤ gb463)); clear HB; have HB := n0_; have BK463 := n1_; have GW463 := n2_; have GE463 := n3_; clear n0_ n1_ n2_ n3_; clear hb hbox hg; have hcz19_0 : w18.cell? ⟨gb463, 0, none⟩ = some (.int .i64 a0_0) := (blk_cell BK463.out 0).trans rfl; have hcz19_1 : w18.cell? ⟨gb463, 1, none⟩ = some (.int .i64 a0_1) := (blk_cell BK463.out 1).trans rfl; have hcz19_2 : w18.cell? ⟨gb463, 2, none⟩ = some (.string a0_2) := (blk_cell BK463.out 2).trans rfl; have hfz19_0 := blk_frozen BK463.out 0; have hfz19_1 := blk_frozen BK463.out 1; have hfz19_2 := blk_frozen BK463.out 2) | ((with_reducible refine gate_callee (f := 79) rfl ?_); refine gL (some 29) Try.func79 #[.int .i64 a0_1, .int .i64 (-1000000000000000), .int .i64 1000000000000000] ?_; (with_reducible refine (spec_l1In.calls a0_1 (-1000000000000000) 1000000000000000 true _ A16.out).mono ?_); rintro e w' ⟨rfl, ⟨nd, rfl⟩⟩; refine ⟨_, rfl, ?_⟩))
          go_ret
          exact ⟨rfl, by repeat (first | (with_reducible first | exact HB.out | apply below_alloc | apply pw_below_drewN | apply below_drew1 | refine below_set ?_ GE463.out) | exact HB.out)⟩
        · replace c17 := Bool.eq_false_iff.mpr c17
          subst c17
          have H1 : (some false) = some r := by rw [if_neg (show ¬ (false = true) by decide)] at H; exact H
          clear H
          have H := H1
          clear H1
          obtain rfl := Option.some.inj H
          go_enter Try.func72, Try.ntmps72
          go_wp2_with (first | ((with_reducible refine gate_dst (N := 1) rfl ?_); refine box_event ?hg (N := 1) ?hd (cs := #[.int .i64 a0_0, .int .i64 a0_1, .string a0_2]) (t := 32) ?hr ?_; (case hd => rfl); (case hg => rfl); (case hr => first | (go_simp; done) | (go_simp; rfl)); intro gb463 hg w20 hbox hb; have n0_ := Aside0.mk (below_step HB.out hb); have n1_ := Aside0.mk (hbox); have n2_ := Aside0.mk ((by rw [hg]; exact (below_size HB.out) : w.heap.size ≤ gb463)); have n3_ := Aside0.mk ((by rw [hg]; exact (below_size HB.out) : w.heap.size ≤ gb463)); clear HB; have HB := n0_; have BK463 := n1_; have GW463 := n2_; have GE463 := n3_; clear n0_ n1_ n2_ n3_; clear hb hbox hg; have hcz21_0 : w20.cell? ⟨gb463, 0, none⟩ = some (.int .i64 a0_0) := (blk_cell BK463.out 0).trans rfl; have hcz21_1 : w20.cell? ⟨gb463, 1, none⟩ = some (.int .i64 a0_1) := (blk_cell BK463.out 1).trans rfl; have hcz21_2 : w20.cell? ⟨gb463, 2, none⟩ = some (.string a0_2) := (blk_cell BK463.out 2).trans rfl; have hfz21_0 := blk_frozen BK463.out 0; have hfz21_1 := blk_frozen BK463.out 1; have hfz21_2 := blk_frozen BK463.out 2) | ((with_reducible refine gate_callee (f := 79) rfl ?_); refine gL (some 29) Try.func79 #[.int .i64 a0_1, .int .i64 (-1000000000000000), .int .i64 1000000000000000] ?_; (with_reducible refine (spec_l1In.calls a0_1 (-1000000000000000) 1000000000000000 false _ A16.out).mono ?_); rintro e w' ⟨rfl, ⟨nd, rfl⟩⟩; refine ⟨_, rfl, ?_⟩))
          go_ret
          exact ⟨rfl, by repeat (first | (with_reducible first | exact HB.out | apply below_alloc | apply pw_below_drewN | apply below_drew1 | refine below_set ?_ GE463.out) | exact HB.out)⟩
      · rw [if_neg c15] at H
        have c15b0 : (a0_0 == 2) = false := beq_eq_false_iff_ne.mpr c15
        have c15b1 : (a0_0 != 2) = true := bne_iff_ne.mpr c15
        by_cases c22 : a0_0 = 3
        · rw [if_pos c22] at H
          have c22b0 : (a0_0 == 3) = true := beq_iff_eq.mpr c22
          have c22b1 : (a0_0 != 3) = false := bne_eq_false_iff_eq.mpr c22
          clear c22
          by_cases c23 : (a0_2.size : Int) ≤ 30
          · rw [if_pos c23] at H
            have c23b0 : decide ((a0_2.size : Int) ≤ 30) = true := decide_eq_true c23
            have c23b1 : decide (a0_2.size ≤ 30) = true := decide_eq_true (by omega)
            clear c23
            obtain rfl := Option.some.inj H
            go_enter Try.func72, Try.ntmps72
            go_wp2_with (first | ((with_reducible refine gate_dst (N := 1) rfl ?_); refine box_event ?hg (N := 1) ?hd (cs := #[.int .i64 a0_0, .int .i64 a0_1, .string a0_2]) (t := 32) ?hr ?_; (case hd => rfl); (case hg => rfl); (case hr => first | (go_simp; done) | (go_simp; rfl)); intro gb463 hg w24 hbox hb; have n0_ := Aside0.mk (below_step HB.out hb); have n1_ := Aside0.mk (hbox); have n2_ := Aside0.mk ((by rw [hg]; exact (below_size HB.out) : w.heap.size ≤ gb463)); have n3_ := Aside0.mk ((by rw [hg]; exact (below_size HB.out) : w.heap.size ≤ gb463)); clear HB; have HB := n0_; have BK463 := n1_; have GW463 := n2_; have GE463 := n3_; clear n0_ n1_ n2_ n3_; clear hb hbox hg; have hcz25_0 : w24.cell? ⟨gb463, 0, none⟩ = some (.int .i64 a0_0) := (blk_cell BK463.out 0).trans rfl; have hcz25_1 : w24.cell? ⟨gb463, 1, none⟩ = some (.int .i64 a0_1) := (blk_cell BK463.out 1).trans rfl; have hcz25_2 : w24.cell? ⟨gb463, 2, none⟩ = some (.string a0_2) := (blk_cell BK463.out 2).trans rfl; have hfz25_0 := blk_frozen BK463.out 0; have hfz25_1 := blk_frozen BK463.out 1; have hfz25_2 := blk_frozen BK463.out 2))
            go_ret
            exact ⟨rfl, by repeat (first | (with_reducible first | exact HB.out | apply below_alloc | apply pw_below_drewN | apply below_drew1 | refine below_set ?_ GE463.out) | exact HB.out)⟩
          · rw [if_neg c23] at H
            have c23b0 : decide ((a0_2.size : Int) ≤ 30) = false := decide_eq_false c23
            have c23b1 : decide (a0_2.size ≤ 30) = false := decide_eq_false (by omega)
            clear c23
            obtain rfl := Option.some.inj H
            go_enter Try.func72, Try.ntmps72
            go_wp2_with (first | ((with_reducible refine gate_dst (N := 1) rfl ?_); refine box_event ?hg (N := 1) ?hd (cs := #[.int .i64 a0_0, .int .i64 a0_1, .string a0_2]) (t := 32) ?hr ?_; (case hd => rfl); (case hg => rfl); (case hr => first | (go_simp; done) | (go_simp; rfl)); intro gb463 hg w26 hbox hb; have n0_ := Aside0.mk (below_step HB.out hb); have n1_ := Aside0.mk (hbox); have n2_ := Aside0.mk ((by rw [hg]; exact (below_size HB.out) : w.heap.size ≤ gb463)); have n3_ := Aside0.mk ((by rw [hg]; exact (below_size HB.out) : w.heap.size ≤ gb463)); clear HB; have HB := n0_; have BK463 := n1_; have GW463 := n2_; have GE463 := n3_; clear n0_ n1_ n2_ n3_; clear hb hbox hg; have hcz27_0 : w26.cell? ⟨gb463, 0, none⟩ = some (.int .i64 a0_0) := (blk_cell BK463.out 0).trans rfl; have hcz27_1 : w26.cell? ⟨gb463, 1, none⟩ = some (.int .i64 a0_1) := (blk_cell BK463.out 1).trans rfl; have hcz27_2 : w26.cell? ⟨gb463, 2, none⟩ = some (.string a0_2) := (blk_cell BK463.out 2).trans rfl; have hfz27_0 := blk_frozen BK463.out 0; have hfz27_1 := blk_frozen BK463.out 1; have hfz27_2 := blk_frozen BK463.out 2))
            go_ret
            exact ⟨rfl, by repeat (first | (with_reducible first | exact HB.out | apply below_alloc | apply pw_below_drewN | apply below_drew1 | refine below_set ?_ GE463.out) | exact HB.out)⟩
        · rw [if_neg c22] at H
          have c22b0 : (a0_0 == 3) = false := beq_eq_false_iff_ne.mpr c22
          have c22b1 : (a0_0 != 3) = true := bne_iff_ne.mpr c22
          by_cases c28 : a0_0 = 4
          · rw [if_pos c28] at H
            have c28b0 : (a0_0 == 4) = true := beq_iff_eq.mpr c28
            have c28b1 : (a0_0 != 4) = false := bne_eq_false_iff_eq.mpr c28
            clear c28
            replace H := Option.bind_eq_some_iff.mp H
            obtain ⟨t466, A290, H⟩ := H
            replace H : (if t466 = true then (some (a0_2.toList == ([] : List UInt8))) else (some false)) = some r := H
            have A29 := Aside0.mk A290
            clear A290
            by_cases c30 : t466 = true
            · subst c30
              have H1 : (some (a0_2.toList == ([] : List UInt8))) = some r := by rw [if_pos rfl] at H; exact H
              clear H
              have H := H1
              clear H1
              obtain rfl := Option.some.inj H
              go_enter Try.func72, Try.ntmps72
              go_wp2_with (first | ((with_reducible refine gate_dst (N := 1) rfl ?_); refine box_event ?hg (N := 1) ?hd (cs := #[.int .i64 a0_0, .int .i64 a0_1, .string a0_2]) (t := 32) ?hr ?_; (case hd => rfl); (case hg => rfl); (case hr => first | (go_simp; done) | (go_simp; rfl)); intro gb463 hg w31 hbox hb; have n0_ := Aside0.mk (below_step HB.out hb); have n1_ := Aside0.mk (hbox); have n2_ := Aside0.mk ((by rw [hg]; exact (below_size HB.out) : w.heap.size ≤ gb463)); have n3_ := Aside0.mk ((by rw [hg]; exact (below_size HB.out) : w.heap.size ≤ gb463)); clear HB; have HB := n0_; have BK463 := n1_; have GW463 := n2_; have GE463 := n3_; clear n0_ n1_ n2_ n3_; clear hb hbox hg; have hcz32_0 : w31.cell? ⟨gb463, 0, none⟩ = some (.int .i64 a0_0) := (blk_cell BK463.out 0).trans rfl; have hcz32_1 : w31.cell? ⟨gb463, 1, none⟩ = some (.int .i64 a0_1) := (blk_cell BK463.out 1).trans rfl; have hcz32_2 : w31.cell? ⟨gb463, 2, none⟩ = some (.string a0_2) := (blk_cell BK463.out 2).trans rfl; have hfz32_0 := blk_frozen BK463.out 0; have hfz32_1 := blk_frozen BK463.out 1; have hfz32_2 := blk_frozen BK463.out 2) | ((with_reducible refine gate_callee (f := 79) rfl ?_); refine gL (some 50) Try.func79 #[.int .i64 a0_1, .int .i64 0, .int .i64 1] ?_; (with_reducible refine (spec_l1In.calls a0_1 0 1 true _ A29.out).mono ?_); rintro e w' ⟨rfl, ⟨nd, rfl⟩⟩; refine ⟨_, rfl, ?_⟩))
              go_ret
              exact ⟨rfl, by repeat (first | (with_reducible first | exact HB.out | apply below_alloc | apply pw_below_drewN | apply below_drew1 | refine below_set ?_ GE463.out) | exact HB.out)⟩
            · replace c30 := Bool.eq_false_iff.mpr c30
              subst c30
              have H1 : (some false) = some r := by rw [if_neg (show ¬ (false = true) by decide)] at H; exact H
              clear H
              have H := H1
              clear H1
              obtain rfl := Option.some.inj H
              go_enter Try.func72, Try.ntmps72
              go_wp2_with (first | ((with_reducible refine gate_dst (N := 1) rfl ?_); refine box_event ?hg (N := 1) ?hd (cs := #[.int .i64 a0_0, .int .i64 a0_1, .string a0_2]) (t := 32) ?hr ?_; (case hd => rfl); (case hg => rfl); (case hr => first | (go_simp; done) | (go_simp; rfl)); intro gb463 hg w33 hbox hb; have n0_ := Aside0.mk (below_step HB.out hb); have n1_ := Aside0.mk (hbox); have n2_ := Aside0.mk ((by rw [hg]; exact (below_size HB.out) : w.heap.size ≤ gb463)); have n3_ := Aside0.mk ((by rw [hg]; exact (below_size HB.out) : w.heap.size ≤ gb463)); clear HB; have HB := n0_; have BK463 := n1_; have GW463 := n2_; have GE463 := n3_; clear n0_ n1_ n2_ n3_; clear hb hbox hg; have hcz34_0 : w33.cell? ⟨gb463, 0, none⟩ = some (.int .i64 a0_0) := (blk_cell BK463.out 0).trans rfl; have hcz34_1 : w33.cell? ⟨gb463, 1, none⟩ = some (.int .i64 a0_1) := (blk_cell BK463.out 1).trans rfl; have hcz34_2 : w33.cell? ⟨gb463, 2, none⟩ = some (.string a0_2) := (blk_cell BK463.out 2).trans rfl; have hfz34_0 := blk_frozen BK463.out 0; have hfz34_1 := blk_frozen BK463.out 1; have hfz34_2 := blk_frozen BK463.out 2) | ((with_reducible refine gate_callee (f := 79) rfl ?_); refine gL (some 50) Try.func79 #[.int .i64 a0_1, .int .i64 0, .int .i64 1] ?_; (with_reducible refine (spec_l1In.calls a0_1 0 1 false _ A29.out).mono ?_); rintro e w' ⟨rfl, ⟨nd, rfl⟩⟩; refine ⟨_, rfl, ?_⟩))
              go_ret
              exact ⟨rfl, by repeat (first | (with_reducible first | exact HB.out | apply below_alloc | apply pw_below_drewN | apply below_drew1 | refine below_set ?_ GE463.out) | exact HB.out)⟩
          · rw [if_neg c28] at H
            have c28b0 : (a0_0 == 4) = false := beq_eq_false_iff_ne.mpr c28
            have c28b1 : (a0_0 != 4) = true := bne_iff_ne.mpr c28
            obtain rfl := Option.some.inj H
            go_enter Try.func72, Try.ntmps72
            go_wp2_with (first | ((with_reducible refine gate_dst (N := 1) rfl ?_); refine box_event ?hg (N := 1) ?hd (cs := #[.int .i64 a0_0, .int .i64 a0_1, .string a0_2]) (t := 32) ?hr ?_; (case hd => rfl); (case hg => rfl); (case hr => first | (go_simp; done) | (go_simp; rfl)); intro gb463 hg w35 hbox hb; have n0_ := Aside0.mk (below_step HB.out hb); have n1_ := Aside0.mk (hbox); have n2_ := Aside0.mk ((by rw [hg]; exact (below_size HB.out) : w.heap.size ≤ gb463)); have n3_ := Aside0.mk ((by rw [hg]; exact (below_size HB.out) : w.heap.size ≤ gb463)); clear HB; have HB := n0_; have BK463 := n1_; have GW463 := n2_; have GE463 := n3_; clear n0_ n1_ n2_ n3_; clear hb hbox hg; have hcz36_0 : w35.cell? ⟨gb463, 0, none⟩ = some (.int .i64 a0_0) := (blk_cell BK463.out 0).trans rfl; have hcz36_1 : w35.cell? ⟨gb463, 1, none⟩ = some (.int .i64 a0_1) := (blk_cell BK463.out 1).trans rfl; have hcz36_2 : w35.cell? ⟨gb463, 2, none⟩ = some (.string a0_2) := (blk_cell BK463.out 2).trans rfl; have hfz36_0 := blk_frozen BK463.out 0; have hfz36_1 := blk_frozen BK463.out 1; have hfz36_2 := blk_frozen BK463.out 2))
            go_ret
            exact ⟨rfl, by repeat (first | (with_reducible first | exact HB.out | apply below_alloc | apply pw_below_drewN | apply below_drew1 | refine below_set ?_ GE463.out) | exact HB.out)⟩

/-! ### spec_Fits: function 28 -/
def spec_Fits.f (a0_0 : Int) (a0_1 : Int) (a0_2 : Bool) (a0_3 : Bool) (a1_0 : Int) (a1_1 : Int) (a1_2 : ByteArray) : Option (Bool) := (spec_ValOk.f a1_0 a1_1 a1_2).bind fun t469 => (if t469 = true then (if a1_0 = a0_1 then (if a1_0 = 0 then (some a0_2) else (some true)) else (if a1_0 = 0 then (some a0_2) else (some false))) else (some false))
set_option maxHeartbeats 8000000 in
set_option maxRecDepth 100000 in
theorem spec_Fits.calls (a0_0 : Int) (a0_1 : Int) (a0_2 : Bool) (a0_3 : Bool) (a1_0 : Int) (a1_1 : Int) (a1_2 : ByteArray) (r : Bool) (w : World) (h : spec_Fits.f a0_0 a0_1 a0_2 a0_3 a1_0 a1_1 a1_2 = some r) :
    Calls Try.prog 28 #[.agg #[.int .i64 a0_0, .int .i64 a0_1, .bool a0_2, .bool a0_3], .agg #[.int .i64 a1_0, .int .i64 a1_1, .string a1_2]] w fun e w' => e = .returned (.bool r) ∧ Below w.heap.size w w' := by
  have hu30 := Try.underlying30
  have hu32 := Try.underlying32
  have HB := Aside0.mk (Below.refl w.heap.size w)
  have H : ((spec_ValOk.f a1_0 a1_1 a1_2).bind fun t469 => (if t469 = true then (if a1_0 = a0_1 then (if a1_0 = 0 then (some a0_2) else (some true)) else (if a1_0 = 0 then (some a0_2) else (some false))) else (some false))) = some r := h
  clear h
  replace H := Option.bind_eq_some_iff.mp H
  obtain ⟨t469, A30, H⟩ := H
  replace H : (if t469 = true then (if a1_0 = a0_1 then (if a1_0 = 0 then (some a0_2) else (some true)) else (if a1_0 = 0 then (some a0_2) else (some false))) else (some false)) = some r := H
  have A3 := Aside0.mk A30
  clear A30
  by_cases c4 : t469 = true
  · subst c4
    have H1 : (if a1_0 = a0_1 then (if a1_0 = 0 then (some a0_2) else (some true)) else (if a1_0 = 0 then (some a0_2) else (some false))) = some r := by rw [if_pos rfl] at H; exact H
    clear H
    have H := H1
    clear H1
    by_cases c5 : a1_0 = a0_1
    · rw [if_pos c5] at H
      have c5b0 : (a1_0 == a0_1) = true := beq_iff_eq.mpr c5
      have c5b1 : (a1_0 != a0_1) = false := bne_eq_false_iff_eq.mpr c5
      clear c5
      by_cases c6 : a1_0 = 0
      · rw [if_pos c6] at H
        have c6b0 : (a1_0 == 0) = true := beq_iff_eq.mpr c6
        have c6b1 : (a1_0 != 0) = false := bne_eq_false_iff_eq.mpr c6
        clear c6
        obtain rfl := Option.some.inj H
        go_enter Try.func28, Try.ntmps28
        go_wp2_with (first | ((with_reducible refine gate_dst (N := 2) rfl ?_); refine box_event ?hg (N := 2) ?hd (cs := #[.int .i64 a0_0, .int .i64 a0_1, .bool a0_2, .bool a0_3]) (t := 30) ?hr ?_; (case hd => rfl); (case hg => rfl); (case hr => first | (go_simp; done) | (go_simp; rfl)); intro gb467 hg w7 hbox hb; have n0_ := Aside0.mk (below_step HB.out hb); have n1_ := Aside0.mk (hbox); have n2_ := Aside0.mk ((by rw [hg]; exact (below_size HB.out) : w.heap.size ≤ gb467)); have n3_ := Aside0.mk ((by rw [hg]; exact (below_size HB.out) : w.heap.size ≤ gb467)); clear HB; have HB := n0_; have BK467 := n1_; have GW467 := n2_; have GE467 := n3_; clear n0_ n1_ n2_ n3_; clear hb hbox hg) | ((with_reducible refine gate_dst (N := 3) rfl ?_); refine box_event ?hg (N := 3) ?hd (cs := #[.int .i64 a1_0, .int .i64 a1_1, .string a1_2]) (t := 32) ?hr ?_; (case hd => rfl); (case hg => rfl); (case hr => first | (go_simp; done) | (go_simp; rfl)); intro gb468 hg w8 hbox hb; have n0_ := Aside0.mk (blk_below BK467.out hb); have n1_ := Aside0.mk (below_step HB.out hb); have n2_ := Aside0.mk (hbox); have n3_ := Aside0.mk ((by rw [hg]; exact (below_size HB.out) : w.heap.size ≤ gb468)); have n4_ := Aside0.mk ((by rw [hg]; exact (below_size HB.out) : w.heap.size ≤ gb468)); have n5_ := Aside0.mk ((by rw [hg]; exact Nat.ne_of_lt (blk_lt BK467.out) : gb467 ≠ gb468)); have n6_ := Aside0.mk ((by rw [hg]; exact Nat.ne_of_gt (blk_lt BK467.out) : gb468 ≠ gb467)); clear BK467 HB; have BK467 := n0_; have HB := n1_; have BK468 := n2_; have GW468 := n3_; have GE468 := n4_; have NB467_468 := n5_; have NB468_467 := n6_; clear n0_ n1_ n2_ n3_ n4_ n5_ n6_; clear hb hbox hg; have hnb9 := NB468_467.out; have hnc9 := NB467_468.out; have hcz10_0 : w8.cell? ⟨gb468, 0, none⟩ = some (.int .i64 a1_0) := (blk_cell BK468.out 0).trans rfl; have hcz10_1 : w8.cell? ⟨gb468, 1, none⟩ = some (.int .i64 a1_1) := (blk_cell BK468.out 1).trans rfl; have hcz10_2 : w8.cell? ⟨gb468, 2, none⟩ = some (.string a1_2) := (blk_cell BK468.out 2).trans rfl; have hfz10_0 := blk_frozen BK468.out 0; have hfz10_1 := blk_frozen BK468.out 1; have hfz10_2 := blk_frozen BK468.out 2) | ((with_reducible refine gate_callee (f := 72) rfl ?_); refine gL (some 6) Try.func72 #[.agg #[.int .i64 a1_0, .int .i64 a1_1, .string a1_2]] ?_; (with_reducible refine (spec_ValOk.calls a1_0 a1_1 a1_2 true _ A3.out).mono ?_); rintro e w11 ⟨rfl, hb⟩; refine ⟨_, rfl, ?_⟩; have n0_ := Aside0.mk (blk_below BK467.out hb); have n1_ := Aside0.mk (blk_below BK468.out hb); have n2_ := Aside0.mk (below_step HB.out hb); clear BK467 BK468 HB; have BK467 := n0_; have BK468 := n1_; have HB := n2_; clear n0_ n1_ n2_; have hcz12_0 : w11.cell? ⟨gb468, 0, none⟩ = some (.int .i64 a1_0) := (blk_cell BK468.out 0).trans rfl; have hcz12_1 : w11.cell? ⟨gb468, 1, none⟩ = some (.int .i64 a1_1) := (blk_cell BK468.out 1).trans rfl; have hcz12_2 : w11.cell? ⟨gb468, 2, none⟩ = some (.string a1_2) := (blk_cell BK468.out 2).trans rfl; have hfz12_0 := blk_frozen BK468.out 0; have hfz12_1 := blk_frozen BK468.out 1; have hfz12_2 := blk_frozen BK468.out 2; have hcz13_0 : w11.cell? ⟨gb467, 0, none⟩ = some (.int .i64 a0_0) := (blk_cell BK467.out 0).trans rfl; have hcz13_1 : w11.cell? ⟨gb467, 1, none⟩ = some (.int .i64 a0_1) := (blk_cell BK467.out 1).trans rfl; have hcz13_2 : w11.cell? ⟨gb467, 2, none⟩ = some (.bool a0_2) := (blk_cell BK467.out 2).trans rfl; have hcz13_3 : w11.cell? ⟨gb467, 3, none⟩ = some (.bool a0_3) := (blk_cell BK467.out 3).trans rfl; have hfz13_0 := blk_frozen BK467.out 0; have hfz13_1 := blk_frozen BK467.out 1; have hfz13_2 := blk_frozen BK467.out 2; have hfz13_3 := blk_frozen BK467.out 3))
        go_ret
        exact ⟨rfl, by repeat (first | (with_reducible first | exact HB.out | apply below_alloc | apply pw_below_drewN | apply below_drew1 | refine below_set ?_ GE467.out | refine below_set ?_ GE468.out) | exact HB.out)⟩
      · rw [if_neg c6] at H
        have c6b0 : (a1_0 == 0) = false := beq_eq_false_iff_ne.mpr c6
        have c6b1 : (a1_0 != 0) = true := bne_iff_ne.mpr c6
        obtain rfl := Option.some.inj H
        go_enter Try.func28, Try.ntmps28
        go_wp2_with (first | ((with_reducible refine gate_dst (N := 2) rfl ?_); refine box_event ?hg (N := 2) ?hd (cs := #[.int .i64 a0_0, .int .i64 a0_1, .bool a0_2, .bool a0_3]) (t := 30) ?hr ?_; (case hd => rfl); (case hg => rfl); (case hr => first | (go_simp; done) | (go_simp; rfl)); intro gb467 hg w14 hbox hb; have n0_ := Aside0.mk (below_step HB.out hb); have n1_ := Aside0.mk (hbox); have n2_ := Aside0.mk ((by rw [hg]; exact (below_size HB.out) : w.heap.size ≤ gb467)); have n3_ := Aside0.mk ((by rw [hg]; exact (below_size HB.out) : w.heap.size ≤ gb467)); clear HB; have HB := n0_; have BK467 := n1_; have GW467 := n2_; have GE467 := n3_; clear n0_ n1_ n2_ n3_; clear hb hbox hg) | ((with_reducible refine gate_dst (N := 3) rfl ?_); refine box_event ?hg (N := 3) ?hd (cs := #[.int .i64 a1_0, .int .i64 a1_1, .string a1_2]) (t := 32) ?hr ?_; (case hd => rfl); (case hg => rfl); (case hr => first | (go_simp; done) | (go_simp; rfl)); intro gb468 hg w15 hbox hb; have n0_ := Aside0.mk (blk_below BK467.out hb); have n1_ := Aside0.mk (below_step HB.out hb); have n2_ := Aside0.mk (hbox); have n3_ := Aside0.mk ((by rw [hg]; exact (below_size HB.out) : w.heap.size ≤ gb468)); have n4_ := Aside0.mk ((by rw [hg]; exact (below_size HB.out) : w.heap.size ≤ gb468)); have n5_ := Aside0.mk ((by rw [hg]; exact Nat.ne_of_lt (blk_lt BK467.out) : gb467 ≠ gb468)); have n6_ := Aside0.mk ((by rw [hg]; exact Nat.ne_of_gt (blk_lt BK467.out) : gb468 ≠ gb467)); clear BK467 HB; have BK467 := n0_; have HB := n1_; have BK468 := n2_; have GW468 := n3_; have GE468 := n4_; have NB467_468 := n5_; have NB468_467 := n6_; clear n0_ n1_ n2_ n3_ n4_ n5_ n6_; clear hb hbox hg; have hnb16 := NB468_467.out; have hnc16 := NB467_468.out; have hcz17_0 : w15.cell? ⟨gb468, 0, none⟩ = some (.int .i64 a1_0) := (blk_cell BK468.out 0).trans rfl; have hcz17_1 : w15.cell? ⟨gb468, 1, none⟩ = some (.int .i64 a1_1) := (blk_cell BK468.out 1).trans rfl; have hcz17_2 : w15.cell? ⟨gb468, 2, none⟩ = some (.string a1_2) := (blk_cell BK468.out 2).trans rfl; have hfz17_0 := blk_frozen BK468.out 0; have hfz17_1 := blk_frozen BK468.out 1; have hfz17_2 := blk_frozen BK468.out 2) | ((with_reducible refine gate_callee (f := 72) rfl ?_); refine gL (some 6) Try.func72 #[.agg #[.int .i64 a1_0, .int .i64 a1_1, .string a1_2]] ?_; (with_reducible refine (spec_ValOk.calls a1_0 a1_1 a1_2 true _ A3.out).mono ?_); rintro e w18 ⟨rfl, hb⟩; refine ⟨_, rfl, ?_⟩; have n0_ := Aside0.mk (blk_below BK467.out hb); have n1_ := Aside0.mk (blk_below BK468.out hb); have n2_ := Aside0.mk (below_step HB.out hb); clear BK467 BK468 HB; have BK467 := n0_; have BK468 := n1_; have HB := n2_; clear n0_ n1_ n2_; have hcz19_0 : w18.cell? ⟨gb468, 0, none⟩ = some (.int .i64 a1_0) := (blk_cell BK468.out 0).trans rfl; have hcz19_1 : w18.cell? ⟨gb468, 1, none⟩ = some (.int .i64 a1_1) := (blk_cell BK468.out 1).trans rfl; have hcz19_2 : w18.cell? ⟨gb468, 2, none⟩ = some (.string a1_2) := (blk_cell BK468.out 2).trans rfl; have hfz19_0 := blk_frozen BK468.out 0; have hfz19_1 := blk_frozen BK468.out 1; have hfz19_2 := blk_frozen BK468.out 2; have hcz20_0 : w18.cell? ⟨gb467, 0, none⟩ = some (.int .i64 a0_0) := (blk_cell BK467.out 0).trans rfl; have hcz20_1 : w18.cell? ⟨gb467, 1, none⟩ = some (.int .i64 a0_1) := (blk_cell BK467.out 1).trans rfl; have hcz20_2 : w18.cell? ⟨gb467, 2, none⟩ = some (.bool a0_2) := (blk_cell BK467.out 2).trans rfl; have hcz20_3 : w18.cell? ⟨gb467, 3, none⟩ = some (.bool a0_3) := (blk_cell BK467.out 3).trans rfl; have hfz20_0 := blk_frozen BK467.out 0; have hfz20_1 := blk_frozen BK467.out 1; have hfz20_2 := blk_frozen BK467.out 2; have hfz20_3 := blk_frozen BK467.out 3))
        go_ret
        exact ⟨rfl, by repeat (first | (with_reducible first | exact HB.out | apply below_alloc | apply pw_below_drewN | apply below_drew1 | refine below_set ?_ GE467.out | refine below_set ?_ GE468.out) | exact HB.out)⟩
    · rw [if_neg c5] at H
      have c5b0 : (a1_0 == a0_1) = false := beq_eq_false_iff_ne.mpr c5
      have c5b1 : (a1_0 != a0_1) = true := bne_iff_ne.mpr c5
      by_cases c21 : a1_0 = 0
      · rw [if_pos c21] at H
        have c21b0 : (a1_0 == 0) = true := beq_iff_eq.mpr c21
        have c21b1 : (a1_0 != 0) = false := bne_eq_false_iff_eq.mpr c21
        clear c21
        obtain rfl := Option.some.inj H
        go_enter Try.func28, Try.ntmps28
        go_wp2_with (first | ((with_reducible refine gate_dst (N := 2) rfl ?_); refine box_event ?hg (N := 2) ?hd (cs := #[.int .i64 a0_0, .int .i64 a0_1, .bool a0_2, .bool a0_3]) (t := 30) ?hr ?_; (case hd => rfl); (case hg => rfl); (case hr => first | (go_simp; done) | (go_simp; rfl)); intro gb467 hg w22 hbox hb; have n0_ := Aside0.mk (below_step HB.out hb); have n1_ := Aside0.mk (hbox); have n2_ := Aside0.mk ((by rw [hg]; exact (below_size HB.out) : w.heap.size ≤ gb467)); have n3_ := Aside0.mk ((by rw [hg]; exact (below_size HB.out) : w.heap.size ≤ gb467)); clear HB; have HB := n0_; have BK467 := n1_; have GW467 := n2_; have GE467 := n3_; clear n0_ n1_ n2_ n3_; clear hb hbox hg) | ((with_reducible refine gate_dst (N := 3) rfl ?_); refine box_event ?hg (N := 3) ?hd (cs := #[.int .i64 a1_0, .int .i64 a1_1, .string a1_2]) (t := 32) ?hr ?_; (case hd => rfl); (case hg => rfl); (case hr => first | (go_simp; done) | (go_simp; rfl)); intro gb468 hg w23 hbox hb; have n0_ := Aside0.mk (blk_below BK467.out hb); have n1_ := Aside0.mk (below_step HB.out hb); have n2_ := Aside0.mk (hbox); have n3_ := Aside0.mk ((by rw [hg]; exact (below_size HB.out) : w.heap.size ≤ gb468)); have n4_ := Aside0.mk ((by rw [hg]; exact (below_size HB.out) : w.heap.size ≤ gb468)); have n5_ := Aside0.mk ((by rw [hg]; exact Nat.ne_of_lt (blk_lt BK467.out) : gb467 ≠ gb468)); have n6_ := Aside0.mk ((by rw [hg]; exact Nat.ne_of_gt (blk_lt BK467.out) : gb468 ≠ gb467)); clear BK467 HB; have BK467 := n0_; have HB := n1_; have BK468 := n2_; have GW468 := n3_; have GE468 := n4_; have NB467_468 := n5_; have NB468_467 := n6_; clear n0_ n1_ n2_ n3_ n4_ n5_ n6_; clear hb hbox hg; have hnb24 := NB468_467.out; have hnc24 := NB467_468.out; have hcz25_0 : w23.cell? ⟨gb468, 0, none⟩ = some (.int .i64 a1_0) := (blk_cell BK468.out 0).trans rfl; have hcz25_1 : w23.cell? ⟨gb468, 1, none⟩ = some (.int .i64 a1_1) := (blk_cell BK468.out 1).trans rfl; have hcz25_2 : w23.cell? ⟨gb468, 2, none⟩ = some (.string a1_2) := (blk_cell BK468.out 2).trans rfl; have hfz25_0 := blk_frozen BK468.out 0; have hfz25_1 := blk_frozen BK468.out 1; have hfz25_2 := blk_frozen BK468.out 2) | ((with_reducible refine gate_callee (f := 72) rfl ?_); refine gL (some 6) Try.func72 #[.agg #[.int .i64 a1_0, .int .i64 a1_1, .string a1_2]] ?_; (with_reducible refine (spec_ValOk.calls a1_0 a1_1 a1_2 true _ A3.out).mono ?_); rintro e w26 ⟨rfl, hb⟩; refine ⟨_, rfl, ?_⟩; have n0_ := Aside0.mk (blk_below BK467.out hb); have n1_ := Aside0.mk (blk_below BK468.out hb); have n2_ := Aside0.mk (below_step HB.out hb); clear BK467 BK468 HB; have BK467 := n0_; have BK468 := n1_; have HB := n2_; clear n0_ n1_ n2_; have hcz27_0 : w26.cell? ⟨gb468, 0, none⟩ = some (.int .i64 a1_0) := (blk_cell BK468.out 0).trans rfl; have hcz27_1 : w26.cell? ⟨gb468, 1, none⟩ = some (.int .i64 a1_1) := (blk_cell BK468.out 1).trans rfl; have hcz27_2 : w26.cell? ⟨gb468, 2, none⟩ = some (.string a1_2) := (blk_cell BK468.out 2).trans rfl; have hfz27_0 := blk_frozen BK468.out 0; have hfz27_1 := blk_frozen BK468.out 1; have hfz27_2 := blk_frozen BK468.out 2; have hcz28_0 : w26.cell? ⟨gb467, 0, none⟩ = some (.int .i64 a0_0) := (blk_cell BK467.out 0).trans rfl; have hcz28_1 : w26.cell? ⟨gb467, 1, none⟩ = some (.int .i64 a0_1) := (blk_cell BK467.out 1).trans rfl; have hcz28_2 : w26.cell? ⟨gb467, 2, none⟩ = some (.bool a0_2) := (blk_cell BK467.out 2).trans rfl; have hcz28_3 : w26.cell? ⟨gb467, 3, none⟩ = some (.bool a0_3) := (blk_cell BK467.out 3).trans rfl; have hfz28_0 := blk_frozen BK467.out 0; have hfz28_1 := blk_frozen BK467.out 1; have hfz28_2 := blk_frozen BK467.out 2; have hfz28_3 := blk_frozen BK467.out 3))
        go_ret
        exact ⟨rfl, by repeat (first | (with_reducible first | exact HB.out | apply below_alloc | apply pw_below_drewN | apply below_drew1 | refine below_set ?_ GE467.out | refine below_set ?_ GE468.out) | exact HB.out)⟩
      · rw [if_neg c21] at H
        have c21b0 : (a1_0 == 0) = false := beq_eq_false_iff_ne.mpr c21
        have c21b1 : (a1_0 != 0) = true := bne_iff_ne.mpr c21
        obtain rfl := Option.some.inj H
        go_enter Try.func28, Try.ntmps28
        go_wp2_with (first | ((with_reducible refine gate_dst (N := 2) rfl ?_); refine box_event ?hg (N := 2) ?hd (cs := #[.int .i64 a0_0, .int .i64 a0_1, .bool a0_2, .bool a0_3]) (t := 30) ?hr ?_; (case hd => rfl); (case hg => rfl); (case hr => first | (go_simp; done) | (go_simp; rfl)); intro gb467 hg w29 hbox hb; have n0_ := Aside0.mk (below_step HB.out hb); have n1_ := Aside0.mk (hbox); have n2_ := Aside0.mk ((by rw [hg]; exact (below_size HB.out) : w.heap.size ≤ gb467)); have n3_ := Aside0.mk ((by rw [hg]; exact (below_size HB.out) : w.heap.size ≤ gb467)); clear HB; have HB := n0_; have BK467 := n1_; have GW467 := n2_; have GE467 := n3_; clear n0_ n1_ n2_ n3_; clear hb hbox hg) | ((with_reducible refine gate_dst (N := 3) rfl ?_); refine box_event ?hg (N := 3) ?hd (cs := #[.int .i64 a1_0, .int .i64 a1_1, .string a1_2]) (t := 32) ?hr ?_; (case hd => rfl); (case hg => rfl); (case hr => first | (go_simp; done) | (go_simp; rfl)); intro gb468 hg w30 hbox hb; have n0_ := Aside0.mk (blk_below BK467.out hb); have n1_ := Aside0.mk (below_step HB.out hb); have n2_ := Aside0.mk (hbox); have n3_ := Aside0.mk ((by rw [hg]; exact (below_size HB.out) : w.heap.size ≤ gb468)); have n4_ := Aside0.mk ((by rw [hg]; exact (below_size HB.out) : w.heap.size ≤ gb468)); have n5_ := Aside0.mk ((by rw [hg]; exact Nat.ne_of_lt (blk_lt BK467.out) : gb467 ≠ gb468)); have n6_ := Aside0.mk ((by rw [hg]; exact Nat.ne_of_gt (blk_lt BK467.out) : gb468 ≠ gb467)); clear BK467 HB; have BK467 := n0_; have HB := n1_; have BK468 := n2_; have GW468 := n3_; have GE468 := n4_; have NB467_468 := n5_; have NB468_467 := n6_; clear n0_ n1_ n2_ n3_ n4_ n5_ n6_; clear hb hbox hg; have hnb31 := NB468_467.out; have hnc31 := NB467_468.out; have hcz32_0 : w30.cell? ⟨gb468, 0, none⟩ = some (.int .i64 a1_0) := (blk_cell BK468.out 0).trans rfl; have hcz32_1 : w30.cell? ⟨gb468, 1, none⟩ = some (.int .i64 a1_1) := (blk_cell BK468.out 1).trans rfl; have hcz32_2 : w30.cell? ⟨gb468, 2, none⟩ = some (.string a1_2) := (blk_cell BK468.out 2).trans rfl; have hfz32_0 := blk_frozen BK468.out 0; have hfz32_1 := blk_frozen BK468.out 1; have hfz32_2 := blk_frozen BK468.out 2) | ((with_reducible refine gate_callee (f := 72) rfl ?_); refine gL (some 6) Try.func72 #[.agg #[.int .i64 a1_0, .int .i64 a1_1, .string a1_2]] ?_; (with_reducible refine (spec_ValOk.calls a1_0 a1_1 a1_2 true _ A3.out).mono ?_); rintro e w33 ⟨rfl, hb⟩; refine ⟨_, rfl, ?_⟩; have n0_ := Aside0.mk (blk_below BK467.out hb); have n1_ := Aside0.mk (blk_below BK468.out hb); have n2_ := Aside0.mk (below_step HB.out hb); clear BK467 BK468 HB; have BK467 := n0_; have BK468 := n1_; have HB := n2_; clear n0_ n1_ n2_; have hcz34_0 : w33.cell? ⟨gb468, 0, none⟩ = some (.int .i64 a1_0) := (blk_cell BK468.out 0).trans rfl; have hcz34_1 : w33.cell? ⟨gb468, 1, none⟩ = some (.int .i64 a1_1) := (blk_cell BK468.out 1).trans rfl; have hcz34_2 : w33.cell? ⟨gb468, 2, none⟩ = some (.string a1_2) := (blk_cell BK468.out 2).trans rfl; have hfz34_0 := blk_frozen BK468.out 0; have hfz34_1 := blk_frozen BK468.out 1; have hfz34_2 := blk_frozen BK468.out 2; have hcz35_0 : w33.cell? ⟨gb467, 0, none⟩ = some (.int .i64 a0_0) := (blk_cell BK467.out 0).trans rfl; have hcz35_1 : w33.cell? ⟨gb467, 1, none⟩ = some (.int .i64 a0_1) := (blk_cell BK467.out 1).trans rfl; have hcz35_2 : w33.cell? ⟨gb467, 2, none⟩ = some (.bool a0_2) := (blk_cell BK467.out 2).trans rfl; have hcz35_3 : w33.cell? ⟨gb467, 3, none⟩ = some (.bool a0_3) := (blk_cell BK467.out 3).trans rfl; have hfz35_0 := blk_frozen BK467.out 0; have hfz35_1 := blk_frozen BK467.out 1; have hfz35_2 := blk_frozen BK467.out 2; have hfz35_3 := blk_frozen BK467.out 3))
        go_ret
        exact ⟨rfl, by repeat (first | (with_reducible first | exact HB.out | apply below_alloc | apply pw_below_drewN | apply below_drew1 | refine below_set ?_ GE467.out | refine below_set ?_ GE468.out) | exact HB.out)⟩
  · replace c4 := Bool.eq_false_iff.mpr c4
    subst c4
    have H1 : (some false) = some r := by rw [if_neg (show ¬ (false = true) by decide)] at H; exact H
    clear H
    have H := H1
    clear H1
    obtain rfl := Option.some.inj H
    go_enter Try.func28, Try.ntmps28
    go_wp2_with (first | ((with_reducible refine gate_dst (N := 2) rfl ?_); refine box_event ?hg (N := 2) ?hd (cs := #[.int .i64 a0_0, .int .i64 a0_1, .bool a0_2, .bool a0_3]) (t := 30) ?hr ?_; (case hd => rfl); (case hg => rfl); (case hr => first | (go_simp; done) | (go_simp; rfl)); intro gb467 hg w36 hbox hb; have n0_ := Aside0.mk (below_step HB.out hb); have n1_ := Aside0.mk (hbox); have n2_ := Aside0.mk ((by rw [hg]; exact (below_size HB.out) : w.heap.size ≤ gb467)); have n3_ := Aside0.mk ((by rw [hg]; exact (below_size HB.out) : w.heap.size ≤ gb467)); clear HB; have HB := n0_; have BK467 := n1_; have GW467 := n2_; have GE467 := n3_; clear n0_ n1_ n2_ n3_; clear hb hbox hg) | ((with_reducible refine gate_dst (N := 3) rfl ?_); refine box_event ?hg (N := 3) ?hd (cs := #[.int .i64 a1_0, .int .i64 a1_1, .string a1_2]) (t := 32) ?hr ?_; (case hd => rfl); (case hg => rfl); (case hr => first | (go_simp; done) | (go_simp; rfl)); intro gb468 hg w37 hbox hb; have n0_ := Aside0.mk (blk_below BK467.out hb); have n1_ := Aside0.mk (below_step HB.out hb); have n2_ := Aside0.mk (hbox); have n3_ := Aside0.mk ((by rw [hg]; exact (below_size HB.out) : w.heap.size ≤ gb468)); have n4_ := Aside0.mk ((by rw [hg]; exact (below_size HB.out) : w.heap.size ≤ gb468)); have n5_ := Aside0.mk ((by rw [hg]; exact Nat.ne_of_lt (blk_lt BK467.out) : gb467 ≠ gb468)); have n6_ := Aside0.mk ((by rw [hg]; exact Nat.ne_of_gt (blk_lt BK467.out) : gb468 ≠ gb467)); clear BK467 HB; have BK467 := n0_; have HB := n1_; have BK468 := n2_; have GW468 := n3_; have GE468 := n4_; have NB467_468 := n5_; have NB468_467 := n6_; clear n0_ n1_ n2_ n3_ n4_ n5_ n6_; clear hb hbox hg; have hnb38 := NB468_467.out; have hnc38 := NB467_468.out; have hcz39_0 : w37.cell? ⟨gb468, 0, none⟩ = some (.int .i64 a1_0) := (blk_cell BK468.out 0).trans rfl; have hcz39_1 : w37.cell? ⟨gb468, 1, none⟩ = some (.int .i64 a1_1) := (blk_cell BK468.out 1).trans rfl; have hcz39_2 : w37.cell? ⟨gb468, 2, none⟩ = some (.string a1_2) := (blk_cell BK468.out 2).trans rfl; have hfz39_0 := blk_frozen BK468.out 0; have hfz39_1 := blk_frozen BK468.out 1; have hfz39_2 := blk_frozen BK468.out 2) | ((with_reducible refine gate_callee (f := 72) rfl ?_); refine gL (some 6) Try.func72 #[.agg #[.int .i64 a1_0, .int .i64 a1_1, .string a1_2]] ?_; (with_reducible refine (spec_ValOk.calls a1_0 a1_1 a1_2 false _ A3.out).mono ?_); rintro e w40 ⟨rfl, hb⟩; refine ⟨_, rfl, ?_⟩; have n0_ := Aside0.mk (blk_below BK467.out hb); have n1_ := Aside0.mk (blk_below BK468.out hb); have n2_ := Aside0.mk (below_step HB.out hb); clear BK467 BK468 HB; have BK467 := n0_; have BK468 := n1_; have HB := n2_; clear n0_ n1_ n2_))
    go_ret
    exact ⟨rfl, by repeat (first | (with_reducible first | exact HB.out | apply below_alloc | apply pw_below_drewN | apply below_drew1 | refine below_set ?_ GE467.out | refine below_set ?_ GE468.out) | exact HB.out)⟩

/-! ### laws_sameBytes: function 29 -/
def laws_sameBytes.l0 : Nat → List Int → List Int → Int → Option (Bool)
  | 0, _, _, _ => none
  | k + 1, x0, x1, x5 => if x5 < (x0.length : Int) then (if 0 ≤ x5 then (if x5 < (x1.length : Int) then (if (rd x0 x5) = (rd x1 x5) then (laws_sameBytes.l0 k x0 x1 (wrap64 (x5 + 1))) else (some false)) else (none)) else (none)) else (some true)
def laws_sameBytes.f (k : Nat) (l0 : List Int) (l1 : List Int) : Option (Bool) := if (l0.length : Int) = (l1.length : Int) then (laws_sameBytes.l0 k l0 l1 0) else (some false)
theorem laws_sameBytes.mono_l : ∀ k, (∀ y0 y1 y2, LeO (laws_sameBytes.l0 k y0 y1 y2) (laws_sameBytes.l0 (k + 1) y0 y1 y2))
  | 0 => fun _ _ _ r h => by simp [laws_sameBytes.l0] at h
  | k + 1 => by
    have ih0 := laws_sameBytes.mono_l k
    · intro y0 y1 y2
      unfold laws_sameBytes.l0
      repeat' first
      | (with_reducible exact ih0 _ _ _)
      | (with_reducible exact LeO.refl _)
      | (with_reducible exact LeO.none _)
      | (with_reducible refine LeO.ite ?_ ?_)
      | (with_reducible refine LeO.bind ?_ (fun _ => ?_))
      | exact ih0 _ _ _
      | exact LeO.none _
      | refine LeO.ite ?_ ?_
      | refine LeO.bind ?_ (fun _ => ?_)
theorem laws_sameBytes.mono : ∀ a0 a1 k, LeO (laws_sameBytes.f k a0 a1) (laws_sameBytes.f (k + 1) a0 a1) := by
  intro a0 a1 k
  have ih0 := laws_sameBytes.mono_l k
  unfold laws_sameBytes.f
  repeat' first
      | (with_reducible exact ih0 _ _ _)
      | (with_reducible exact LeO.refl _)
      | (with_reducible exact LeO.none _)
      | (with_reducible refine LeO.ite ?_ ?_)
      | (with_reducible refine LeO.bind ?_ (fun _ => ?_))
      | exact ih0 _ _ _
      | exact LeO.none _
      | refine LeO.ite ?_ ?_
      | refine LeO.bind ?_ (fun _ => ?_)
set_option maxHeartbeats 8000000 in
set_option maxRecDepth 100000 in
theorem laws_sameBytes.calls (k : Nat) (A0 : Option Addr) (c0 : Nat) (l0 : List Int) (A1 : Option Addr) (c1 : Nat) (l1 : List Int) (r : Bool) (w : World) (hr0 : Kd.C (Kd.int .u8) w A0 l0.length l0) (hc0 : l0.length ≤ c0) (hr1 : Kd.C (Kd.int .u8) w A1 l1.length l1) (hc1 : l1.length ≤ c1) (h : laws_sameBytes.f k l0 l1 = some r) :
    Calls Try.prog 29 #[.slice A0 l0.length c0, .slice A1 l1.length c1] w fun e w' => e = .returned (.bool r) ∧ Drawn0 w w' := by
  have HR0 := Aside0.mk hr0
  have HC0 := Aside0.mk hc0
  clear hr0 hc0
  have HR1 := Aside0.mk hr1
  have HC1 := Aside0.mk hc1
  clear hr1 hc1
  have H : (if (l0.length : Int) = (l1.length : Int) then (laws_sameBytes.l0 k l0 l1 0) else (some false)) = some r := h
  clear h
  by_cases c3 : (l0.length : Int) = (l1.length : Int)
  · rw [if_pos c3] at H
    have c3b0 : ((l0.length : Int) == (l1.length : Int)) = true := beq_iff_eq.mpr c3
    have c3b1 : ((l0.length : Int) != (l1.length : Int)) = false := bne_eq_false_iff_eq.mpr c3
    have c3b2 : (l0.length == l1.length) = true := by first | simpa using c3 | (simp at c3 ⊢; omega)
    clear c3
    have H' := Aside0.mk H
    clear H
    go_enter Try.func29, Try.ntmps29
    go_wp2
    repeat (go_quiet (fail); try go_wp2)
    go_loopg [5] k (fun kq v5 w' => ∃ (x5_1 : Int), v5 = .int .i64 x5_1 ∧ Aside0 (laws_sameBytes.l0 kq l0 l1 x5_1 = some r) ∧ Aside0 (kq ≤ k) ∧ Drawn0 w w')
    case atStart => exact ⟨(0), (by first | rfl | (simp; done) | (simp [*]; done)), H', ⟨Nat.le_refl _⟩, by repeat (first | exact Drawn0.refl _ | apply Drawn0.step)⟩
    case round =>
      clear H'
      try clear c1
      try clear c2
      try clear p2
      try clear c3
      try clear c3b0
      try clear c3b1
      try clear c3b2
      obtain ⟨x5_1, rfl, HA, HK1, ⟨m1, rfl⟩⟩ := hrel
      cases gk with
      | zero => exact absurd HA.out (by simp [laws_sameBytes.l0])
      | succ k1 =>
        have H := HA.out
        clear HA
        simp only [laws_sameBytes.l0] at H
        by_cases c4 : x5_1 < (l0.length : Int)
        · rw [if_pos c4] at H
          have c4b0 : decide (x5_1 < (l0.length : Int)) = true := decide_eq_true c4
          clear c4
          by_cases c5 : 0 ≤ x5_1
          · rw [if_pos c5] at H
            have c5b0 : decide (0 ≤ x5_1) = true := decide_eq_true c5
            clear c5
            by_cases c6 : x5_1 < (l1.length : Int)
            · rw [if_pos c6] at H
              have c6b0 : decide (x5_1 < (l1.length : Int)) = true := decide_eq_true c6
              clear c6
              by_cases c7 : (rd l0 x5_1) = (rd l1 x5_1)
              · rw [if_pos c7] at H
                have c7b0 : ((rd l0 x5_1) == (rd l1 x5_1)) = true := beq_iff_eq.mpr c7
                have c7b1 : ((rd l0 x5_1) != (rd l1 x5_1)) = false := bne_eq_false_iff_eq.mpr c7
                clear c7
                have H' := Aside0.mk H
                clear H
                have p470 : 0 ≤ (x5_1 : Int) := of_decide_eq_true (by first | (with_reducible assumption) | assumption)
                have q470 : x5_1 < (l0.length : Int) := of_decide_eq_true (by first | (with_reducible assumption) | assumption)
                obtain ⟨ad470, e470, hx470_0⟩ := Kd.at_int HR0.out x5_1 p470 q470
                cases e470
                replace p470 := eq_true p470
                replace q470 := eq_true q470
                have p471 : 0 ≤ (x5_1 : Int) := of_decide_eq_true (by first | (with_reducible assumption) | assumption)
                have q471 : x5_1 < (l1.length : Int) := of_decide_eq_true (by first | (with_reducible assumption) | assumption)
                obtain ⟨ad471, e471, hx471_0⟩ := Kd.at_int HR1.out x5_1 p471 q471
                cases e471
                replace p471 := eq_true p471
                replace q471 := eq_true q471
                go_wp2
                repeat (go_quiet (fail); try go_wp2)
                go_roundg k1
                case measure => have := HK1.out; omega
                case rel => exact ⟨(wrap64 (x5_1 + 1)), (by first | rfl | (simp; done) | (simp [*]; done)), H', ⟨by have := HK1.out; omega⟩, by repeat (first | exact Drawn0.refl _ | apply Drawn0.step)⟩
              · rw [if_neg c7] at H
                have c7b0 : ((rd l0 x5_1) == (rd l1 x5_1)) = false := beq_eq_false_iff_ne.mpr c7
                have c7b1 : ((rd l0 x5_1) != (rd l1 x5_1)) = true := bne_iff_ne.mpr c7
                obtain rfl := Option.some.inj H
                have p470 : 0 ≤ (x5_1 : Int) := of_decide_eq_true (by first | (with_reducible assumption) | assumption)
                have q470 : x5_1 < (l0.length : Int) := of_decide_eq_true (by first | (with_reducible assumption) | assumption)
                obtain ⟨ad470, e470, hx470_0⟩ := Kd.at_int HR0.out x5_1 p470 q470
                cases e470
                replace p470 := eq_true p470
                replace q470 := eq_true q470
                have p471 : 0 ≤ (x5_1 : Int) := of_decide_eq_true (by first | (with_reducible assumption) | assumption)
                have q471 : x5_1 < (l1.length : Int) := of_decide_eq_true (by first | (with_reducible assumption) | assumption)
                obtain ⟨ad471, e471, hx471_0⟩ := Kd.at_int HR1.out x5_1 p471 q471
                cases e471
                replace p471 := eq_true p471
                replace q471 := eq_true q471
                go_wp2
                repeat (go_quiet (fail); try go_wp2)
                go_ret
                exact ⟨by first | rfl | (simp; done) | (simp [*]; done), by repeat (first | exact Drawn0.refl _ | apply Drawn0.step)⟩
            · rw [if_neg c6] at H
              exact absurd H (by simp)
          · rw [if_neg c5] at H
            exact absurd H (by simp)
        · rw [if_neg c4] at H
          have c4b0 : decide (x5_1 < (l0.length : Int)) = false := decide_eq_false c4
          clear c4
          obtain rfl := Option.some.inj H
          go_wp2
          repeat (go_quiet (fail); try go_wp2)
          go_ret
          exact ⟨by first | rfl | (simp; done) | (simp [*]; done), by repeat (first | exact Drawn0.refl _ | apply Drawn0.step)⟩
  · rw [if_neg c3] at H
    have c3b0 : ((l0.length : Int) == (l1.length : Int)) = false := beq_eq_false_iff_ne.mpr c3
    have c3b1 : ((l0.length : Int) != (l1.length : Int)) = true := bne_iff_ne.mpr c3
    have c3b2 : (l0.length == l1.length) = false := by first | simpa using c3 | (simp at c3 ⊢; omega)
    obtain rfl := Option.some.inj H
    go_enter Try.func29, Try.ntmps29
    go_wp2
    repeat (go_quiet (fail); try go_wp2)
    go_ret
    exact ⟨by first | rfl | (simp; done) | (simp [*]; done), by repeat (first | exact Drawn0.refl _ | apply Drawn0.step)⟩

/-! ### laws_FnParts: function 5 -/
def laws_FnParts.j0 : Nat → List Int → List Int → Bool → Int → Int → Bool → Bool → Int → Int → ByteArray → Option (Bool)
  | 0, _, _, _, _, _, _, _, _, _, _ => none
  | k + 1, x3, x6, x30, x484000, x484001, x484002, x484003, x485000, x485001, x485002 => if x30 = true then ((laws_sameBytes.f k x6 x3).bind fun t490 => (if t490 = true then ((impl_PartOk.f x484000 x484001 x484002 x484003).bind fun t491 => (if t491 = true then ((impl_Fits.f x484000 x484001 x484002 x484003 x485000 x485001 x485002).bind fun t492 => (some (!t492))) else (some (!false)))) else (some false))) else ((impl_GetPart.f k x6 x484000 x484001 x484002 x484003 (x3.length : Int)).bind fun bt493 => (if bt493.2.2.2.2 = true then (if (bt493.1 == x485000 && (bt493.2.1 == x485001 && (bt493.2.2.1.toList == x485002.toList))) = true then (if bt493.2.2.2.1 = (x6.length : Int) then ((impl_PartOk.f x484000 x484001 x484002 x484003).bind fun t499 => (if t499 = true then ((impl_Fits.f x484000 x484001 x484002 x484003 x485000 x485001 x485002).bind fun t500 => (if t500 = true then (some (decide ((x6.length : Int) > (x3.length : Int)))) else (some false))) else (some false))) else (some false)) else (some false)) else (some false)))
def laws_FnParts.f (k : Nat) (l0 : List Int) : Option (Bool) := (laws_big.f l0).bind fun t472 => (if t472 = true then (some true) else ((spec_DrawPutPart.f k l0).bind fun bt473 => ((impl_PutPart.f k bt473.1 bt473.2.1 bt473.2.2.1 bt473.2.2.2.1 bt473.2.2.2.2.1 bt473.2.2.2.2.2.1 bt473.2.2.2.2.2.2.1 bt473.2.2.2.2.2.2.2).bind fun t485 => ((spec_PartOk.f bt473.2.1 bt473.2.2.1 bt473.2.2.2.1 bt473.2.2.2.2.1).bind fun t488 => (if t488 = true then ((spec_Fits.f bt473.2.1 bt473.2.2.1 bt473.2.2.2.1 bt473.2.2.2.2.1 bt473.2.2.2.2.2.1 bt473.2.2.2.2.2.2.1 bt473.2.2.2.2.2.2.2).bind fun t489 => (laws_FnParts.j0 k bt473.1 t485 (!t489) bt473.2.1 bt473.2.2.1 bt473.2.2.2.1 bt473.2.2.2.2.1 bt473.2.2.2.2.2.1 bt473.2.2.2.2.2.2.1 bt473.2.2.2.2.2.2.2)) else (laws_FnParts.j0 k bt473.1 t485 true bt473.2.1 bt473.2.2.1 bt473.2.2.2.1 bt473.2.2.2.2.1 bt473.2.2.2.2.2.1 bt473.2.2.2.2.2.2.1 bt473.2.2.2.2.2.2.2))))))
theorem laws_FnParts.mono_l : ∀ k, (∀ y0 y1 y2 y3 y4 y5 y6 y7 y8 y9, LeO (laws_FnParts.j0 k y0 y1 y2 y3 y4 y5 y6 y7 y8 y9) (laws_FnParts.j0 (k + 1) y0 y1 y2 y3 y4 y5 y6 y7 y8 y9))
  | 0 => fun _ _ _ _ _ _ _ _ _ _ r h => by simp [laws_FnParts.j0] at h
  | k + 1 => by
    have ih0 := laws_FnParts.mono_l k
    · intro y0 y1 y2 y3 y4 y5 y6 y7 y8 y9
      unfold laws_FnParts.j0
      repeat' first
      | (with_reducible exact ih0 _ _ _ _ _ _ _ _ _ _)
      | (with_reducible exact impl_GetPart.mono _ _ _ _ _ _ _)
      | (with_reducible exact impl_PutPart.mono _ _ _ _ _ _ _ _ _)
      | (with_reducible exact laws_sameBytes.mono _ _ _)
      | (with_reducible exact spec_DrawPutPart.mono _ _)
      | (with_reducible exact LeO.refl _)
      | (with_reducible exact LeO.none _)
      | (with_reducible refine LeO.ite ?_ ?_)
      | (with_reducible refine LeO.bind ?_ (fun _ => ?_))
      | exact ih0 _ _ _ _ _ _ _ _ _ _
      | exact impl_GetPart.mono _ _ _ _ _ _ _
      | exact impl_PutPart.mono _ _ _ _ _ _ _ _ _
      | exact laws_sameBytes.mono _ _ _
      | exact spec_DrawPutPart.mono _ _
      | exact LeO.none _
      | refine LeO.ite ?_ ?_
      | refine LeO.bind ?_ (fun _ => ?_)
theorem laws_FnParts.mono : ∀ a0 k, LeO (laws_FnParts.f k a0) (laws_FnParts.f (k + 1) a0) := by
  intro a0 k
  have ih0 := laws_FnParts.mono_l k
  unfold laws_FnParts.f
  repeat' first
      | (with_reducible exact ih0 _ _ _ _ _ _ _ _ _ _)
      | (with_reducible exact impl_GetPart.mono _ _ _ _ _ _ _)
      | (with_reducible exact impl_PutPart.mono _ _ _ _ _ _ _ _ _)
      | (with_reducible exact laws_sameBytes.mono _ _ _)
      | (with_reducible exact spec_DrawPutPart.mono _ _)
      | (with_reducible exact LeO.refl _)
      | (with_reducible exact LeO.none _)
      | (with_reducible refine LeO.ite ?_ ?_)
      | (with_reducible refine LeO.bind ?_ (fun _ => ?_))
      | exact ih0 _ _ _ _ _ _ _ _ _ _
      | exact impl_GetPart.mono _ _ _ _ _ _ _
      | exact impl_PutPart.mono _ _ _ _ _ _ _ _ _
      | exact laws_sameBytes.mono _ _ _
      | exact spec_DrawPutPart.mono _ _
      | exact LeO.none _
      | refine LeO.ite ?_ ?_
      | refine LeO.bind ?_ (fun _ => ?_)
set_option maxHeartbeats 8000000 in
set_option maxRecDepth 100000 in
theorem laws_FnParts.calls (k : Nat) (A0 : Option Addr) (c0 : Nat) (l0 : List Int) (r : Bool) (w : World) (hr0 : Kd.C (Kd.int .u8) w A0 l0.length l0) (hc0 : l0.length ≤ c0) (h : laws_FnParts.f k l0 = some r) :
    Calls Try.prog 5 #[.slice A0 l0.length c0] w fun e w' => e = .returned (.bool r) ∧ Below w.heap.size w w' := by
  have hu30 := Try.underlying30
  have hu32 := Try.underlying32
  have HR0 := Aside0.mk hr0
  have HC0 := Aside0.mk hc0
  clear hr0 hc0
  have HB := Aside0.mk (Below.refl w.heap.size w)
  have H : ((laws_big.f l0).bind fun t472 => (if t472 = true then (some true) else ((spec_DrawPutPart.f k l0).bind fun bt473 => ((impl_PutPart.f k bt473.1 bt473.2.1 bt473.2.2.1 bt473.2.2.2.1 bt473.2.2.2.2.1 bt473.2.2.2.2.2.1 bt473.2.2.2.2.2.2.1 bt473.2.2.2.2.2.2.2).bind fun t485 => ((spec_PartOk.f bt473.2.1 bt473.2.2.1 bt473.2.2.2.1 bt473.2.2.2.2.1).bind fun t488 => (if t488 = true then ((spec_Fits.f bt473.2.1 bt473.2.2.1 bt473.2.2.2.1 bt473.2.2.2.2.1 bt473.2.2.2.2.2.1 bt473.2.2.2.2.2.2.1 bt473.2.2.2.2.2.2.2).bind fun t489 => (laws_FnParts.j0 k bt473.1 t485 (!t489) bt473.2.1 bt473.2.2.1 bt473.2.2.2.1 bt473.2.2.2.2.1 bt473.2.2.2.2.2.1 bt473.2.2.2.2.2.2.1 bt473.2.2.2.2.2.2.2)) else (laws_FnParts.j0 k bt473.1 t485 true bt473.2.1 bt473.2.2.1 bt473.2.2.2.1 bt473.2.2.2.2.1 bt473.2.2.2.2.2.1 bt473.2.2.2.2.2.2.1 bt473.2.2.2.2.2.2.2))))))) = some r := h
  clear h
  replace H := Option.bind_eq_some_iff.mp H
  obtain ⟨t472, A20, H⟩ := H
  replace H : (if t472 = true then (some true) else ((spec_DrawPutPart.f k l0).bind fun bt473 => ((impl_PutPart.f k bt473.1 bt473.2.1 bt473.2.2.1 bt473.2.2.2.1 bt473.2.2.2.2.1 bt473.2.2.2.2.2.1 bt473.2.2.2.2.2.2.1 bt473.2.2.2.2.2.2.2).bind fun t485 => ((spec_PartOk.f bt473.2.1 bt473.2.2.1 bt473.2.2.2.1 bt473.2.2.2.2.1).bind fun t488 => (if t488 = true then ((spec_Fits.f bt473.2.1 bt473.2.2.1 bt473.2.2.2.1 bt473.2.2.2.2.1 bt473.2.2.2.2.2.1 bt473.2.2.2.2.2.2.1 bt473.2.2.2.2.2.2.2).bind fun t489 => (laws_FnParts.j0 k bt473.1 t485 (!t489) bt473.2.1 bt473.2.2.1 bt473.2.2.2.1 bt473.2.2.2.2.1 bt473.2.2.2.2.2.1 bt473.2.2.2.2.2.2.1 bt473.2.2.2.2.2.2.2)) else (laws_FnParts.j0 k bt473.1 t485 true bt473.2.1 bt473.2.2.1 bt473.2.2.2.1 bt473.2.2.2.2.1 bt473.2.2.2.2.2.1 bt473.2.2.2.2.2.2.1 bt473.2.2.2.2.2.2.2)))))) = some r := H
  have A2 := Aside0.mk A20
  clear A20
  by_cases c3 : t472 = true
  · subst c3
    have H1 : (some true) = some r := by rw [if_pos rfl] at H; exact H
    clear H
    have H := H1
    clear H1
    obtain rfl := Option.some.inj H
    go_enter Try.func5, Try.ntmps5
    go_wp2_with (first | ((with_reducible refine gate_callee (f := 25) rfl ?_); refine gL (some 11) Try.func25 #[.slice A0 l0.length c0] ?_; (with_reducible refine (laws_big.calls _ _ l0 true _ ?side1 ?side2 A2.out).mono ?_); (case side1 => repeat (first | exact HR0.out | (with_reducible refine Kd.C_alloc ?_ _) | (with_reducible refine Kd.C_drewN ?_ _) | (with_reducible refine Kd.C_drew ?_))); (case side2 => exact HC0.out); rintro e w' ⟨rfl, ⟨nd, rfl⟩⟩; refine ⟨_, rfl, ?_⟩))
    go_ret
    exact ⟨by first | rfl | (simp [errW_none, errW_some] <;> rfl) | (simp [*, errW_none, errW_some] <;> rfl), by repeat (first | (with_reducible first | exact HB.out | apply below_alloc | apply pw_below_drewN | apply below_drew1) | exact HB.out)⟩
  · replace c3 := Bool.eq_false_iff.mpr c3
    subst c3
    have H1 : ((spec_DrawPutPart.f k l0).bind fun bt473 => ((impl_PutPart.f k bt473.1 bt473.2.1 bt473.2.2.1 bt473.2.2.2.1 bt473.2.2.2.2.1 bt473.2.2.2.2.2.1 bt473.2.2.2.2.2.2.1 bt473.2.2.2.2.2.2.2).bind fun t485 => ((spec_PartOk.f bt473.2.1 bt473.2.2.1 bt473.2.2.2.1 bt473.2.2.2.2.1).bind fun t488 => (if t488 = true then ((spec_Fits.f bt473.2.1 bt473.2.2.1 bt473.2.2.2.1 bt473.2.2.2.2.1 bt473.2.2.2.2.2.1 bt473.2.2.2.2.2.2.1 bt473.2.2.2.2.2.2.2).bind fun t489 => (laws_FnParts.j0 k bt473.1 t485 (!t489) bt473.2.1 bt473.2.2.1 bt473.2.2.2.1 bt473.2.2.2.2.1 bt473.2.2.2.2.2.1 bt473.2.2.2.2.2.2.1 bt473.2.2.2.2.2.2.2)) else (laws_FnParts.j0 k bt473.1 t485 true bt473.2.1 bt473.2.2.1 bt473.2.2.2.1 bt473.2.2.2.2.1 bt473.2.2.2.2.2.1 bt473.2.2.2.2.2.2.1 bt473.2.2.2.2.2.2.2))))) = some r := by rw [if_neg (show ¬ (false = true) by decide)] at H; exact H
    clear H
    have H := H1
    clear H1
    replace H := Option.bind_eq_some_iff.mp H
    obtain ⟨⟨t473, t476, t477, t478, t479, t480, t481, t482⟩, A40, H⟩ := H
    replace H : ((impl_PutPart.f k t473 t476 t477 t478 t479 t480 t481 t482).bind fun t485 => ((spec_PartOk.f t476 t477 t478 t479).bind fun t488 => (if t488 = true then ((spec_Fits.f t476 t477 t478 t479 t480 t481 t482).bind fun t489 => (laws_FnParts.j0 k t473 t485 (!t489) t476 t477 t478 t479 t480 t481 t482)) else (laws_FnParts.j0 k t473 t485 true t476 t477 t478 t479 t480 t481 t482)))) = some r := H
    have A4 := Aside0.mk A40
    clear A40
    replace H := Option.bind_eq_some_iff.mp H
    obtain ⟨t485, A50, H⟩ := H
    replace H : ((spec_PartOk.f t476 t477 t478 t479).bind fun t488 => (if t488 = true then ((spec_Fits.f t476 t477 t478 t479 t480 t481 t482).bind fun t489 => (laws_FnParts.j0 k t473 t485 (!t489) t476 t477 t478 t479 t480 t481 t482)) else (laws_FnParts.j0 k t473 t485 true t476 t477 t478 t479 t480 t481 t482))) = some r := H
    have A5 := Aside0.mk A50
    clear A50
    have HC6 := Aside0.mk H
    clear H
    go_enter Try.func5, Try.ntmps5
    go_upto_region 5 with (first | ((with_reducible refine gate_callee (f := 25) rfl ?_); refine gL (some 11) Try.func25 #[.slice A0 l0.length c0] ?_; (with_reducible refine (laws_big.calls _ _ l0 false _ ?side1 ?side2 A2.out).mono ?_); (case side1 => repeat (first | exact HR0.out | (with_reducible refine Kd.C_alloc ?_ _) | (with_reducible refine Kd.C_drewN ?_ _) | (with_reducible refine Kd.C_drew ?_))); (case side2 => exact HC0.out); rintro e w' ⟨rfl, ⟨nd, rfl⟩⟩; refine ⟨_, rfl, ?_⟩) | ((with_reducible refine gate_callee (f := 26) rfl ?_); refine gL (some 14) Try.func26 #[.slice A0 l0.length c0] ?_; (with_reducible refine (spec_DrawPutPart.calls k _ _ l0 t473 t476 t477 t478 t479 t480 t481 t482 _ ?side1 ?side2 A4.out).mono ?_); (case side1 => repeat (first | exact HR0.out | (with_reducible refine Kd.C_alloc ?_ _) | (with_reducible refine Kd.C_drewN ?_ _) | (with_reducible refine Kd.C_drew ?_))); (case side2 => exact HC0.out); rintro e w7 ⟨v474, rfl, ho0, hb⟩; refine ⟨_, rfl, ?_⟩; have n0_ := Aside0.mk (Kd.R_lower ho0 (below_size (by repeat (first | (with_reducible first | exact HB.out | apply below_alloc | apply pw_below_drewN | apply below_drew1) | exact HB.out)))); have n1_ := Aside0.mk (below_step (by repeat (first | (with_reducible first | exact HB.out | apply below_alloc | apply pw_below_drewN | apply below_drew1) | exact HB.out)) hb); clear HB; have HO475 := n0_; have HB := n1_; clear n0_ n1_; (try clear hb); (try clear hb2); (try clear hk); (try clear hi); (try clear ho0)) | ((with_reducible refine gate_dst (N := 4) rfl ?_); (try (refine gate_guard (by rfl) ?_; dsimp only)); refine box_event ?hg (N := 4) ?hd (cs := #[.int .i64 0, .int .i64 0, .bool false, .bool false]) (t := 30) ?hr ?_; (case hd => rfl); (case hg => rfl); (case hr => first | (go_simp; done) | (go_simp; rfl)); intro gb483 hg w8 hbox hb; have n0_ := Aside0.mk (Kd.R_below (by (with_reducible repeat (first | apply Kd.R_alloc | apply Kd.R_drewN | apply Kd.R_drew)); exact HO475.out) hb); have n1_ := Aside0.mk (below_step (by repeat (first | (with_reducible first | exact HB.out | apply below_alloc | apply pw_below_drewN | apply below_drew1) | exact HB.out)) hb); have n2_ := Aside0.mk (hbox); have n3_ := Aside0.mk ((by rw [hg]; exact (below_size (by repeat (first | (with_reducible first | exact HB.out | apply below_alloc | apply pw_below_drewN | apply below_drew1) | exact HB.out))) : w.heap.size ≤ gb483)); have n4_ := Aside0.mk ((by rw [hg]; exact (below_size (by repeat (first | (with_reducible first | exact HB.out | apply below_alloc | apply pw_below_drewN | apply below_drew1) | exact HB.out))) : w.heap.size ≤ gb483)); clear HO475; clear HB; have HO475 := n0_; have HB := n1_; have BK483 := n2_; have GW483 := n3_; have GE483 := n4_; clear n0_ n1_ n2_ n3_ n4_; clear hb hbox hg) | ((with_reducible refine gate_dst (N := 5) rfl ?_); (try (refine gate_guard (by rfl) ?_; dsimp only)); refine box_event ?hg (N := 5) ?hd (cs := #[.int .i64 0, .int .i64 0, .string (⟨#[]⟩ : ByteArray)]) (t := 32) ?hr ?_; (case hd => rfl); (case hg => rfl); (case hr => first | (go_simp; done) | (go_simp; rfl)); intro gb484 hg w9 hbox hb; have n0_ := Aside0.mk (Kd.R_below (by (with_reducible repeat (first | apply Kd.R_alloc | apply Kd.R_drewN | apply Kd.R_drew)); exact HO475.out) hb); have n1_ := Aside0.mk (blk_below (g := gb483) (o := .cells #[.int .i64 0, .int .i64 0, .bool false, .bool false] 30 (0, 0)) (by (with_reducible repeat (first | refine blk_drewN ?_ _ | refine blk_drew ?_ | refine blk_alloc ?_ _)); exact BK483.out) hb); have n2_ := Aside0.mk (below_step (by repeat (first | (with_reducible first | exact HB.out | apply below_alloc | apply pw_below_drewN | apply below_drew1 | refine below_set ?_ GE483.out) | exact HB.out)) hb); have n3_ := Aside0.mk (hbox); have n4_ := Aside0.mk ((by rw [hg]; exact (below_size (by repeat (first | (with_reducible first | exact HB.out | apply below_alloc | apply pw_below_drewN | apply below_drew1 | refine below_set ?_ GE483.out) | exact HB.out))) : w.heap.size ≤ gb484)); have n5_ := Aside0.mk ((by rw [hg]; exact (below_size (by repeat (first | (with_reducible first | exact HB.out | apply below_alloc | apply pw_below_drewN | apply below_drew1 | refine below_set ?_ GE483.out) | exact HB.out))) : w.heap.size ≤ gb484)); have n6_ := Aside0.mk ((by rw [hg]; exact Nat.ne_of_lt (blk_lt (g := gb483) (o := .cells #[.int .i64 0, .int .i64 0, .bool false, .bool false] 30 (0, 0)) (by (with_reducible repeat (first | refine blk_drewN ?_ _ | refine blk_drew ?_ | refine blk_alloc ?_ _)); exact BK483.out)) : gb483 ≠ gb484)); have n7_ := Aside0.mk ((by rw [hg]; exact Nat.ne_of_gt (blk_lt (g := gb483) (o := .cells #[.int .i64 0, .int .i64 0, .bool false, .bool false] 30 (0, 0)) (by (with_reducible repeat (first | refine blk_drewN ?_ _ | refine blk_drew ?_ | refine blk_alloc ?_ _)); exact BK483.out)) : gb484 ≠ gb483)); clear HO475; clear BK483; clear HB; have HO475 := n0_; have BK483 := n1_; have HB := n2_; have BK484 := n3_; have GW484 := n4_; have GE484 := n5_; have NB483_484 := n6_; have NB484_483 := n7_; clear n0_ n1_ n2_ n3_ n4_ n5_ n6_ n7_; clear hb hbox hg; have hnb10 := NB483_484.out; have hnc10 := NB484_483.out; have hcz11_0 : w9.cell? ⟨gb483, 0, none⟩ = some (.int .i64 0) := (blk_cell BK483.out 0).trans rfl; have hcz11_1 : w9.cell? ⟨gb483, 1, none⟩ = some (.int .i64 0) := (blk_cell BK483.out 1).trans rfl; have hcz11_2 : w9.cell? ⟨gb483, 2, none⟩ = some (.bool false) := (blk_cell BK483.out 2).trans rfl; have hcz11_3 : w9.cell? ⟨gb483, 3, none⟩ = some (.bool false) := (blk_cell BK483.out 3).trans rfl; have hfz11_0 := blk_frozen BK483.out 0; have hfz11_1 := blk_frozen BK483.out 1; have hfz11_2 := blk_frozen BK483.out 2; have hfz11_3 := blk_frozen BK483.out 3; have hcz12_0 : w9.cell? ⟨gb484, 0, none⟩ = some (.int .i64 0) := (blk_cell BK484.out 0).trans rfl; have hcz12_1 : w9.cell? ⟨gb484, 1, none⟩ = some (.int .i64 0) := (blk_cell BK484.out 1).trans rfl; have hcz12_2 : w9.cell? ⟨gb484, 2, none⟩ = some (.string (⟨#[]⟩ : ByteArray)) := (blk_cell BK484.out 2).trans rfl; have hfz12_0 := blk_frozen BK484.out 0; have hfz12_1 := blk_frozen BK484.out 1; have hfz12_2 := blk_frozen BK484.out 2; obtain ⟨Ao13, co13, eo13⟩ := Kd.R_slice HO475.out; subst eo13) | ((with_reducible refine gate_callee (f := 18) rfl ?_); refine gL (some 21) Try.func18 #[.slice Ao13 t473.length co13, .agg #[.int .i64 t476, .int .i64 t477, .bool t478, .bool t479], .agg #[.int .i64 t480, .int .i64 t481, .string t482]] ?_; (with_reducible refine (impl_PutPart.calls k _ _ t473 t476 t477 t478 t479 t480 t481 t482 t485 _ ?side1 ?side2 A5.out).mono ?_); (case side1 => refine (Kd.R_reads' (e := 5) (base := w.heap.size) (ok := fun k_ => True) (n := t473.length) (c := co13) ?_).2.2; exact (by (with_reducible repeat (first | apply Kd.R_alloc | apply Kd.R_drewN | apply Kd.R_drew)); exact (Kd.R_mono (Kd.R_mono (Kd.R_far (p := ⟨gb484, 2, none⟩) (Kd.R_far (p := ⟨gb484, 1, none⟩) (Kd.R_far (p := ⟨gb484, 0, none⟩) (Kd.R_far (p := ⟨gb483, 3, none⟩) (Kd.R_far (p := ⟨gb483, 2, none⟩) (Kd.R_far (p := ⟨gb483, 1, none⟩) (Kd.R_far (p := ⟨gb483, 0, none⟩) (Kd.R_types (Kd.R_types HO475.out BK483.out (by decide)) BK484.out (by decide)) (fun _ hk => hk.1.2) (.int .i64 t476)) (fun _ hk => hk.1.2) (.int .i64 t477)) (fun _ hk => hk.1.2) (.bool t478)) (fun _ hk => hk.1.2) (.bool t479)) (fun _ hk => hk.2) (.int .i64 t480)) (fun _ hk => hk.2) (.int .i64 t481)) (fun _ hk => hk.2) (.string t482)) (fun _ h_ => h_.1)) (fun _ h_ => h_.1)))); (case side2 => exact (Kd.R_reads' HO475.out).2.1); rintro e w14 ⟨v486, rfl, ho0, hb⟩; refine ⟨_, rfl, ?_⟩; have n0_ := Aside0.mk (Kd.R_elder' (by (with_reducible repeat (first | apply Kd.R_alloc | apply Kd.R_drewN | apply Kd.R_drew)); exact (Kd.R_mono (Kd.R_mono (Kd.R_far (p := ⟨gb484, 2, none⟩) (Kd.R_far (p := ⟨gb484, 1, none⟩) (Kd.R_far (p := ⟨gb484, 0, none⟩) (Kd.R_far (p := ⟨gb483, 3, none⟩) (Kd.R_far (p := ⟨gb483, 2, none⟩) (Kd.R_far (p := ⟨gb483, 1, none⟩) (Kd.R_far (p := ⟨gb483, 0, none⟩) (Kd.R_types (Kd.R_types HO475.out BK483.out (by decide)) BK484.out (by decide)) (fun _ hk => hk.1.2) (.int .i64 t476)) (fun _ hk => hk.1.2) (.int .i64 t477)) (fun _ hk => hk.1.2) (.bool t478)) (fun _ hk => hk.1.2) (.bool t479)) (fun _ hk => hk.2) (.int .i64 t480)) (fun _ hk => hk.2) (.int .i64 t481)) (fun _ hk => hk.2) (.string t482)) (fun _ h_ => h_.1)) (fun _ h_ => h_.1))) (Kd.R_base ho0) hb); have n1_ := Aside0.mk (Kd.R_lower (Kd.R_new' ho0 (Kd.R_lt (by (with_reducible repeat (first | apply Kd.R_alloc | apply Kd.R_drewN | apply Kd.R_drew)); exact (Kd.R_mono (Kd.R_mono (Kd.R_far (p := ⟨gb484, 2, none⟩) (Kd.R_far (p := ⟨gb484, 1, none⟩) (Kd.R_far (p := ⟨gb484, 0, none⟩) (Kd.R_far (p := ⟨gb483, 3, none⟩) (Kd.R_far (p := ⟨gb483, 2, none⟩) (Kd.R_far (p := ⟨gb483, 1, none⟩) (Kd.R_far (p := ⟨gb483, 0, none⟩) (Kd.R_types (Kd.R_types HO475.out BK483.out (by decide)) BK484.out (by decide)) (fun _ hk => hk.1.2) (.int .i64 t476)) (fun _ hk => hk.1.2) (.int .i64 t477)) (fun _ hk => hk.1.2) (.bool t478)) (fun _ hk => hk.1.2) (.bool t479)) (fun _ hk => hk.2) (.int .i64 t480)) (fun _ hk => hk.2) (.int .i64 t481)) (fun _ hk => hk.2) (.string t482)) (fun _ h_ => h_.1)) (fun _ h_ => h_.1))))) (below_size (by repeat (first | (with_reducible first | exact HB.out | apply below_alloc | apply pw_below_drewN | apply below_drew1 | refine below_set ?_ GE483.out | refine below_set ?_ GE484.out) | exact HB.out)))); have n2_ := Aside0.mk (blk_below (g := gb483) (o := .cells #[.int .i64 t476, .int .i64 t477, .bool t478, .bool t479] 30 (0, 0)) (by (with_reducible repeat (first | refine blk_drewN ?_ _ | refine blk_drew ?_ | refine blk_alloc ?_ _)); refine blk_far ?_ NB483_484.out _; (with_reducible repeat (first | refine blk_drewN ?_ _ | refine blk_drew ?_ | refine blk_alloc ?_ _)); refine blk_far ?_ NB483_484.out _; (with_reducible repeat (first | refine blk_drewN ?_ _ | refine blk_drew ?_ | refine blk_alloc ?_ _)); refine blk_far ?_ NB483_484.out _; (with_reducible repeat (first | refine blk_drewN ?_ _ | refine blk_drew ?_ | refine blk_alloc ?_ _)); refine blk_put (cs := #[.int .i64 t476, .int .i64 t477, .bool t478, .bool false]) ?_ 3 _ rfl; (with_reducible repeat (first | refine blk_drewN ?_ _ | refine blk_drew ?_ | refine blk_alloc ?_ _)); refine blk_put (cs := #[.int .i64 t476, .int .i64 t477, .bool false, .bool false]) ?_ 2 _ rfl; (with_reducible repeat (first | refine blk_drewN ?_ _ | refine blk_drew ?_ | refine blk_alloc ?_ _)); refine blk_put (cs := #[.int .i64 t476, .int .i64 0, .bool false, .bool false]) ?_ 1 _ rfl; (with_reducible repeat (first | refine blk_drewN ?_ _ | refine blk_drew ?_ | refine blk_alloc ?_ _)); refine blk_put (cs := #[.int .i64 0, .int .i64 0, .bool false, .bool false]) ?_ 0 _ rfl; (with_reducible repeat (first | refine blk_drewN ?_ _ | refine blk_drew ?_ | refine blk_alloc ?_ _)); exact BK483.out) hb); have n3_ := Aside0.mk (blk_below (g := gb484) (o := .cells #[.int .i64 t480, .int .i64 t481, .string t482] 32 (0, 0)) (by (with_reducible repeat (first | refine blk_drewN ?_ _ | refine blk_drew ?_ | refine blk_alloc ?_ _)); refine blk_put (cs := #[.int .i64 t480, .int .i64 t481, .string (⟨#[]⟩ : ByteArray)]) ?_ 2 _ rfl; (with_reducible repeat (first | refine blk_drewN ?_ _ | refine blk_drew ?_ | refine blk_alloc ?_ _)); refine blk_put (cs := #[.int .i64 t480, .int .i64 0, .string (⟨#[]⟩ : ByteArray)]) ?_ 1 _ rfl; (with_reducible repeat (first | refine blk_drewN ?_ _ | refine blk_drew ?_ | refine blk_alloc ?_ _)); refine blk_put (cs := #[.int .i64 0, .int .i64 0, .string (⟨#[]⟩ : ByteArray)]) ?_ 0 _ rfl; (with_reducible repeat (first | refine blk_drewN ?_ _ | refine blk_drew ?_ | refine blk_alloc ?_ _)); refine blk_far ?_ NB484_483.out _; (with_reducible repeat (first | refine blk_drewN ?_ _ | refine blk_drew ?_ | refine blk_alloc ?_ _)); refine blk_far ?_ NB484_483.out _; (with_reducible repeat (first | refine blk_drewN ?_ _ | refine blk_drew ?_ | refine blk_alloc ?_ _)); refine blk_far ?_ NB484_483.out _; (with_reducible repeat (first | refine blk_drewN ?_ _ | refine blk_drew ?_ | refine blk_alloc ?_ _)); refine blk_far ?_ NB484_483.out _; (with_reducible repeat (first | refine blk_drewN ?_ _ | refine blk_drew ?_ | refine blk_alloc ?_ _)); exact BK484.out) hb); have n4_ := Aside0.mk (below_step (by repeat (first | (with_reducible first | exact HB.out | apply below_alloc | apply pw_below_drewN | apply below_drew1 | refine below_set ?_ GE483.out | refine below_set ?_ GE484.out) | exact HB.out)) hb); clear HO475; clear BK483; clear BK484; clear HB; have HO475 := n0_; have HO487 := n1_; have BK483 := n2_; have BK484 := n3_; have HB := n4_; clear n0_ n1_ n2_ n3_ n4_; (try clear hb); (try clear hb2); (try clear hk); (try clear hi); (try clear ho0)))
    (try simp only [Act.put, List.setIfInBounds_toArray, List.set_cons_zero, List.set_cons_succ])
    go_cut [30] (fun v30 wc => ∃ (kq : Nat) (x30_5 : Bool), v30 = .bool x30_5 ∧ Aside0 (laws_FnParts.j0 kq t473 t485 x30_5 t476 t477 t478 t479 t480 t481 t482 = some r) ∧ Aside0 (kq ≤ k) ∧ Aside0 (Kd.R (Kd.int .u8) 5 wc w.heap.size (fun k_ => some k_ ≠ (v486 : Value).ownBlock) (.slice Ao13 t473.length co13) t473) ∧ Aside0 (Kd.R (Kd.int .u8) 5 wc w.heap.size (fun k_ => some k_ ≠ ((.slice Ao13 t473.length co13) : Value).ownBlock) v486 t485) ∧ Aside0 (wc.heap[gb483]? = some (.cells #[.int .i64 t476, .int .i64 t477, .bool t478, .bool t479] 30 (0, 0))) ∧ Aside0 (wc.heap[gb484]? = some (.cells #[.int .i64 t480, .int .i64 t481, .string t482] 32 (0, 0))) ∧ Aside0 (Below w.heap.size w wc))
    case first =>
      have H := HC6.out
      clear HC6
      replace H := Option.bind_eq_some_iff.mp H
      obtain ⟨t488, A150, H⟩ := H
      replace H : (if t488 = true then ((spec_Fits.f t476 t477 t478 t479 t480 t481 t482).bind fun t489 => (laws_FnParts.j0 k t473 t485 (!t489) t476 t477 t478 t479 t480 t481 t482)) else (laws_FnParts.j0 k t473 t485 true t476 t477 t478 t479 t480 t481 t482)) = some r := H
      have A15 := Aside0.mk A150
      clear A150
      by_cases c16 : t488 = true
      · subst c16
        have H1 : ((spec_Fits.f t476 t477 t478 t479 t480 t481 t482).bind fun t489 => (laws_FnParts.j0 k t473 t485 (!t489) t476 t477 t478 t479 t480 t481 t482)) = some r := by rw [if_pos rfl] at H; exact H
        clear H
        have H := H1
        clear H1
        replace H := Option.bind_eq_some_iff.mp H
        obtain ⟨t489, A170, H⟩ := H
        replace H : (laws_FnParts.j0 k t473 t485 (!t489) t476 t477 t478 t479 t480 t481 t482) = some r := H
        have A17 := Aside0.mk A170
        clear A170
        have H' := Aside0.mk H
        clear H
        have hnb18 := NB483_484.out
        have hnc18 := NB484_483.out
        have hcz19_0 : w14.cell? ⟨gb483, 0, none⟩ = some (.int .i64 t476) := (blk_cell BK483.out 0).trans rfl
        have hcz19_1 : w14.cell? ⟨gb483, 1, none⟩ = some (.int .i64 t477) := (blk_cell BK483.out 1).trans rfl
        have hcz19_2 : w14.cell? ⟨gb483, 2, none⟩ = some (.bool t478) := (blk_cell BK483.out 2).trans rfl
        have hcz19_3 : w14.cell? ⟨gb483, 3, none⟩ = some (.bool t479) := (blk_cell BK483.out 3).trans rfl
        have hfz19_0 := blk_frozen BK483.out 0
        have hfz19_1 := blk_frozen BK483.out 1
        have hfz19_2 := blk_frozen BK483.out 2
        have hfz19_3 := blk_frozen BK483.out 3
        go_wp2_with (first | ((with_reducible refine gate_callee (f := 27) rfl ?_); refine gL (some 23) Try.func27 #[.agg #[.int .i64 t476, .int .i64 t477, .bool t478, .bool t479]] ?_; (with_reducible refine (spec_PartOk.calls t476 t477 t478 t479 true _ A15.out).mono ?_); rintro e w20 ⟨rfl, hb⟩; refine ⟨_, rfl, ?_⟩; have n0_ := Aside0.mk (Kd.R_below (by (with_reducible repeat (first | apply Kd.R_alloc | apply Kd.R_drewN | apply Kd.R_drew)); exact HO475.out) hb); have n1_ := Aside0.mk (Kd.R_below (by (with_reducible repeat (first | apply Kd.R_alloc | apply Kd.R_drewN | apply Kd.R_drew)); exact HO487.out) hb); have n2_ := Aside0.mk (blk_below (g := gb483) (o := .cells #[.int .i64 t476, .int .i64 t477, .bool t478, .bool t479] 30 (0, 0)) (by (with_reducible repeat (first | refine blk_drewN ?_ _ | refine blk_drew ?_ | refine blk_alloc ?_ _)); exact BK483.out) hb); have n3_ := Aside0.mk (blk_below (g := gb484) (o := .cells #[.int .i64 t480, .int .i64 t481, .string t482] 32 (0, 0)) (by (with_reducible repeat (first | refine blk_drewN ?_ _ | refine blk_drew ?_ | refine blk_alloc ?_ _)); exact BK484.out) hb); have n4_ := Aside0.mk (below_step (by repeat (first | (with_reducible first | exact HB.out | apply below_alloc | apply pw_below_drewN | apply below_drew1 | refine below_set ?_ GE483.out | refine below_set ?_ GE484.out) | exact HB.out)) hb); clear HO475; clear HO487; clear BK483; clear BK484; clear HB; have HO475 := n0_; have HO487 := n1_; have BK483 := n2_; have BK484 := n3_; have HB := n4_; clear n0_ n1_ n2_ n3_ n4_; (try clear hb); (try clear hb2); (try clear hk); (try clear hi); have hcz21_0 : w20.cell? ⟨gb483, 0, none⟩ = some (.int .i64 t476) := (blk_cell BK483.out 0).trans rfl; have hcz21_1 : w20.cell? ⟨gb483, 1, none⟩ = some (.int .i64 t477) := (blk_cell BK483.out 1).trans rfl; have hcz21_2 : w20.cell? ⟨gb483, 2, none⟩ = some (.bool t478) := (blk_cell BK483.out 2).trans rfl; have hcz21_3 : w20.cell? ⟨gb483, 3, none⟩ = some (.bool t479) := (blk_cell BK483.out 3).trans rfl; have hfz21_0 := blk_frozen BK483.out 0; have hfz21_1 := blk_frozen BK483.out 1; have hfz21_2 := blk_frozen BK483.out 2; have hfz21_3 := blk_frozen BK483.out 3; have hcz22_0 : w20.cell? ⟨gb484, 0, none⟩ = some (.int .i64 t480) := (blk_cell BK484.out 0).trans rfl; have hcz22_1 : w20.cell? ⟨gb484, 1, none⟩ = some (.int .i64 t481) := (blk_cell BK484.out 1).trans rfl; have hcz22_2 : w20.cell? ⟨gb484, 2, none⟩ = some (.string t482) := (blk_cell BK484.out 2).trans rfl; have hfz22_0 := blk_frozen BK484.out 0; have hfz22_1 := blk_frozen BK484.out 1; have hfz22_2 := blk_frozen BK484.out 2) | (go_at_call 28; (with_reducible refine (spec_Fits.calls t476 t477 t478 t479 t480 t481 t482 t489 _ A17.out).mono ?_); rintro e w23 ⟨rfl, hb⟩; have n0_ := Aside0.mk (Kd.R_below (by (with_reducible repeat (first | apply Kd.R_alloc | apply Kd.R_drewN | apply Kd.R_drew)); exact HO475.out) hb); have n1_ := Aside0.mk (Kd.R_below (by (with_reducible repeat (first | apply Kd.R_alloc | apply Kd.R_drewN | apply Kd.R_drew)); exact HO487.out) hb); have n2_ := Aside0.mk (blk_below (g := gb483) (o := .cells #[.int .i64 t476, .int .i64 t477, .bool t478, .bool t479] 30 (0, 0)) (by (with_reducible repeat (first | refine blk_drewN ?_ _ | refine blk_drew ?_ | refine blk_alloc ?_ _)); exact BK483.out) hb); have n3_ := Aside0.mk (blk_below (g := gb484) (o := .cells #[.int .i64 t480, .int .i64 t481, .string t482] 32 (0, 0)) (by (with_reducible repeat (first | refine blk_drewN ?_ _ | refine blk_drew ?_ | refine blk_alloc ?_ _)); exact BK484.out) hb); have n4_ := Aside0.mk (below_step (by repeat (first | (with_reducible first | exact HB.out | apply below_alloc | apply pw_below_drewN | apply below_drew1 | refine below_set ?_ GE483.out | refine below_set ?_ GE484.out) | exact HB.out)) hb); clear HO475; clear HO487; clear BK483; clear BK484; clear HB; have HO475 := n0_; have HO487 := n1_; have BK483 := n2_; have BK484 := n3_; have HB := n4_; clear n0_ n1_ n2_ n3_ n4_; (try clear hb); (try clear hb2); (try clear hk); (try clear hi)))
        go_meet
        case rel => exact ⟨_, (!t489), (by first | rfl | (simp; done) | (simp [*]; done)), H', ⟨by first | omega | exact Nat.le_refl _⟩, ⟨by (with_reducible repeat (first | apply Kd.R_alloc | apply Kd.R_drewN | apply Kd.R_drew)); exact Kd.R_mono HO475.out (fun _ hk => hk.2)⟩, ⟨by (with_reducible repeat (first | apply Kd.R_alloc | apply Kd.R_drewN | apply Kd.R_drew)); exact Kd.R_mono HO487.out (fun _ hk => hk.2)⟩, ⟨by (with_reducible repeat (first | refine blk_drewN ?_ _ | refine blk_drew ?_ | refine blk_alloc ?_ _)); exact BK483.out⟩, ⟨by (with_reducible repeat (first | refine blk_drewN ?_ _ | refine blk_drew ?_ | refine blk_alloc ?_ _)); exact BK484.out⟩, ⟨by repeat (first | (with_reducible first | exact HB.out | apply below_alloc | apply pw_below_drewN | apply below_drew1 | refine below_set ?_ GE483.out | refine below_set ?_ GE484.out) | exact HB.out)⟩⟩
      · replace c16 := Bool.eq_false_iff.mpr c16
        subst c16
        have H1 : (laws_FnParts.j0 k t473 t485 true t476 t477 t478 t479 t480 t481 t482) = some r := by rw [if_neg (show ¬ (false = true) by decide)] at H; exact H
        clear H
        have H := H1
        clear H1
        have H' := Aside0.mk H
        clear H
        have hnb24 := NB483_484.out
        have hnc24 := NB484_483.out
        have hcz25_0 : w14.cell? ⟨gb483, 0, none⟩ = some (.int .i64 t476) := (blk_cell BK483.out 0).trans rfl
        have hcz25_1 : w14.cell? ⟨gb483, 1, none⟩ = some (.int .i64 t477) := (blk_cell BK483.out 1).trans rfl
        have hcz25_2 : w14.cell? ⟨gb483, 2, none⟩ = some (.bool t478) := (blk_cell BK483.out 2).trans rfl
        have hcz25_3 : w14.cell? ⟨gb483, 3, none⟩ = some (.bool t479) := (blk_cell BK483.out 3).trans rfl
        have hfz25_0 := blk_frozen BK483.out 0
        have hfz25_1 := blk_frozen BK483.out 1
        have hfz25_2 := blk_frozen BK483.out 2
        have hfz25_3 := blk_frozen BK483.out 3
        go_wp2_with (first | ((with_reducible refine gate_callee (f := 27) rfl ?_); refine gL (some 23) Try.func27 #[.agg #[.int .i64 t476, .int .i64 t477, .bool t478, .bool t479]] ?_; (with_reducible refine (spec_PartOk.calls t476 t477 t478 t479 false _ A15.out).mono ?_); rintro e w26 ⟨rfl, hb⟩; refine ⟨_, rfl, ?_⟩; have n0_ := Aside0.mk (Kd.R_below (by (with_reducible repeat (first | apply Kd.R_alloc | apply Kd.R_drewN | apply Kd.R_drew)); exact HO475.out) hb); have n1_ := Aside0.mk (Kd.R_below (by (with_reducible repeat (first | apply Kd.R_alloc | apply Kd.R_drewN | apply Kd.R_drew)); exact HO487.out) hb); have n2_ := Aside0.mk (blk_below (g := gb483) (o := .cells #[.int .i64 t476, .int .i64 t477, .bool t478, .bool t479] 30 (0, 0)) (by (with_reducible repeat (first | refine blk_drewN ?_ _ | refine blk_drew ?_ | refine blk_alloc ?_ _)); exact BK483.out) hb); have n3_ := Aside0.mk (blk_below (g := gb484) (o := .cells #[.int .i64 t480, .int .i64 t481, .string t482] 32 (0, 0)) (by (with_reducible repeat (first | refine blk_drewN ?_ _ | refine blk_drew ?_ | refine blk_alloc ?_ _)); exact BK484.out) hb); have n4_ := Aside0.mk (below_step (by repeat (first | (with_reducible first | exact HB.out | apply below_alloc | apply pw_below_drewN | apply below_drew1 | refine below_set ?_ GE483.out | refine below_set ?_ GE484.out) | exact HB.out)) hb); clear HO475; clear HO487; clear BK483; clear BK484; clear HB; have HO475 := n0_; have HO487 := n1_; have BK483 := n2_; have BK484 := n3_; have HB := n4_; clear n0_ n1_ n2_ n3_ n4_; (try clear hb); (try clear hb2); (try clear hk); (try clear hi)))
        go_meet
        case rel => exact ⟨_, (true), (by first | rfl | (simp; done) | (simp [*]; done)), H', ⟨by first | omega | exact Nat.le_refl _⟩, ⟨by (with_reducible repeat (first | apply Kd.R_alloc | apply Kd.R_drewN | apply Kd.R_drew)); exact Kd.R_mono HO475.out (fun _ hk => hk.2)⟩, ⟨by (with_reducible repeat (first | apply Kd.R_alloc | apply Kd.R_drewN | apply Kd.R_drew)); exact Kd.R_mono HO487.out (fun _ hk => hk.2)⟩, ⟨by (with_reducible repeat (first | refine blk_drewN ?_ _ | refine blk_drew ?_ | refine blk_alloc ?_ _)); exact BK483.out⟩, ⟨by (with_reducible repeat (first | refine blk_drewN ?_ _ | refine blk_drew ?_ | refine blk_alloc ?_ _)); exact BK484.out⟩, ⟨by repeat (first | (with_reducible first | exact HB.out | apply below_alloc | apply pw_below_drewN | apply below_drew1 | refine below_set ?_ GE483.out | refine below_set ?_ GE484.out) | exact HB.out)⟩⟩
    case rest =>
      clear HC6
      try clear c1
      try clear c2
      try clear p2
      try clear c3
      try clear c5
      try clear c10
      try clear c16
      try clear c18
      try clear c24
      try clear c25
      try clear c26
      try clear hcz11_0
      try clear hcz11_1
      try clear hcz11_2
      try clear hcz11_3
      try clear hcz12_0
      try clear hcz12_1
      try clear hcz12_2
      try clear hcz19_0
      try clear hcz19_1
      try clear hcz19_2
      try clear hcz19_3
      try clear hcz21_0
      try clear hcz21_1
      try clear hcz21_2
      try clear hcz21_3
      try clear hcz22_0
      try clear hcz22_1
      try clear hcz22_2
      try clear hcz25_0
      try clear hcz25_1
      try clear hcz25_2
      try clear hcz25_3
      try clear hfz11_0
      try clear hfz11_1
      try clear hfz11_2
      try clear hfz11_3
      try clear hfz12_0
      try clear hfz12_1
      try clear hfz12_2
      try clear hfz19_0
      try clear hfz19_1
      try clear hfz19_2
      try clear hfz19_3
      try clear hfz21_0
      try clear hfz21_1
      try clear hfz21_2
      try clear hfz21_3
      try clear hfz22_0
      try clear hfz22_1
      try clear hfz22_2
      try clear hfz25_0
      try clear hfz25_1
      try clear hfz25_2
      try clear hfz25_3
      obtain ⟨kq, x30_5, rfl, HA, HJ5, HO_3, HO_6, BK483, BK484, HB⟩ := hcut
      cases kq with
      | zero => exact absurd HA.out (by simp [laws_FnParts.j0])
      | succ kj5 =>
        have H := HA.out
        clear HA
        simp only [laws_FnParts.j0] at H
        by_cases c27 : x30_5 = true
        · subst c27
          have H1 : ((laws_sameBytes.f kj5 t485 t473).bind fun t490 => (if t490 = true then ((impl_PartOk.f t476 t477 t478 t479).bind fun t491 => (if t491 = true then ((impl_Fits.f t476 t477 t478 t479 t480 t481 t482).bind fun t492 => (some (!t492))) else (some (!false)))) else (some false))) = some r := by rw [if_pos rfl] at H; exact H
          clear H
          have H := H1
          clear H1
          replace H := Option.bind_eq_some_iff.mp H
          obtain ⟨t490, A280, H⟩ := H
          replace H : (if t490 = true then ((impl_PartOk.f t476 t477 t478 t479).bind fun t491 => (if t491 = true then ((impl_Fits.f t476 t477 t478 t479 t480 t481 t482).bind fun t492 => (some (!t492))) else (some (!false)))) else (some false)) = some r := H
          have A28 := Aside0.mk A280
          clear A280
          by_cases c29 : t490 = true
          · subst c29
            have H1 : ((impl_PartOk.f t476 t477 t478 t479).bind fun t491 => (if t491 = true then ((impl_Fits.f t476 t477 t478 t479 t480 t481 t482).bind fun t492 => (some (!t492))) else (some (!false)))) = some r := by rw [if_pos rfl] at H; exact H
            clear H
            have H := H1
            clear H1
            replace H := Option.bind_eq_some_iff.mp H
            obtain ⟨t491, A300, H⟩ := H
            replace H : (if t491 = true then ((impl_Fits.f t476 t477 t478 t479 t480 t481 t482).bind fun t492 => (some (!t492))) else (some (!false))) = some r := H
            have A30 := Aside0.mk A300
            clear A300
            by_cases c31 : t491 = true
            · subst c31
              have H1 : ((impl_Fits.f t476 t477 t478 t479 t480 t481 t482).bind fun t492 => (some (!t492))) = some r := by rw [if_pos rfl] at H; exact H
              clear H
              have H := H1
              clear H1
              replace H := Option.bind_eq_some_iff.mp H
              obtain ⟨t492, A320, H⟩ := H
              replace H : (some (!t492)) = some r := H
              have A32 := Aside0.mk A320
              clear A320
              obtain rfl := Option.some.inj H
              obtain ⟨Ao33, co33, eo33⟩ := Kd.R_slice HO_6.out
              subst eo33
              go_wp2_with (first | ((with_reducible refine gate_callee (f := 29) rfl ?_); refine gL (some 33) Try.func29 #[.slice Ao33 t485.length co33, .slice Ao13 t473.length co13] ?_; (with_reducible refine (laws_sameBytes.calls kj5 _ _ t485 _ _ t473 true _ ?side1 ?side2 ?side3 ?side4 A28.out).mono ?_); (case side1 => repeat (first | exact (Kd.R_reads' HO_6.out).2.2 | (with_reducible refine Kd.C_alloc ?_ _) | (with_reducible refine Kd.C_drewN ?_ _) | (with_reducible refine Kd.C_drew ?_))); (case side2 => exact (Kd.R_reads' HO_6.out).2.1); (case side3 => repeat (first | exact (Kd.R_reads' HO_3.out).2.2 | (with_reducible refine Kd.C_alloc ?_ _) | (with_reducible refine Kd.C_drewN ?_ _) | (with_reducible refine Kd.C_drew ?_))); (case side4 => exact (Kd.R_reads' HO_3.out).2.1); rintro e w' ⟨rfl, ⟨nd, rfl⟩⟩; refine ⟨_, rfl, ?_⟩; have hnb34 := NB483_484.out; have hnc34 := NB484_483.out; have hcz35_0 : wc.cell? ⟨gb483, 0, none⟩ = some (.int .i64 t476) := (blk_cell BK483.out 0).trans rfl; have hcz35_1 : wc.cell? ⟨gb483, 1, none⟩ = some (.int .i64 t477) := (blk_cell BK483.out 1).trans rfl; have hcz35_2 : wc.cell? ⟨gb483, 2, none⟩ = some (.bool t478) := (blk_cell BK483.out 2).trans rfl; have hcz35_3 : wc.cell? ⟨gb483, 3, none⟩ = some (.bool t479) := (blk_cell BK483.out 3).trans rfl; have hfz35_0 := blk_frozen BK483.out 0; have hfz35_1 := blk_frozen BK483.out 1; have hfz35_2 := blk_frozen BK483.out 2; have hfz35_3 := blk_frozen BK483.out 3) | (go_at_call 30; (with_reducible refine (impl_PartOk.calls t476 t477 t478 t479 true _ A30.out).mono ?_); rintro e w36 ⟨rfl, hb⟩; have n0_ := Aside0.mk (Kd.R_below (by (with_reducible repeat (first | apply Kd.R_alloc | apply Kd.R_drewN | apply Kd.R_drew)); exact HO_3.out) hb); have n1_ := Aside0.mk (Kd.R_below (by (with_reducible repeat (first | apply Kd.R_alloc | apply Kd.R_drewN | apply Kd.R_drew)); exact HO_6.out) hb); have n2_ := Aside0.mk (blk_below (g := gb483) (o := .cells #[.int .i64 t476, .int .i64 t477, .bool t478, .bool t479] 30 (0, 0)) (by (with_reducible repeat (first | refine blk_drewN ?_ _ | refine blk_drew ?_ | refine blk_alloc ?_ _)); exact BK483.out) hb); have n3_ := Aside0.mk (blk_below (g := gb484) (o := .cells #[.int .i64 t480, .int .i64 t481, .string t482] 32 (0, 0)) (by (with_reducible repeat (first | refine blk_drewN ?_ _ | refine blk_drew ?_ | refine blk_alloc ?_ _)); exact BK484.out) hb); have n4_ := Aside0.mk (below_step (by repeat (first | (with_reducible first | exact HB.out | apply below_alloc | apply pw_below_drewN | apply below_drew1 | refine below_set ?_ GE483.out | refine below_set ?_ GE484.out) | exact HB.out)) hb); clear HO_3; clear HO_6; clear BK483; clear BK484; clear HB; have HO_3 := n0_; have HO_6 := n1_; have BK483 := n2_; have BK484 := n3_; have HB := n4_; clear n0_ n1_ n2_ n3_ n4_; (try clear hb); (try clear hb2); (try clear hk); (try clear hi); have hcz37_0 : w36.cell? ⟨gb483, 0, none⟩ = some (.int .i64 t476) := (blk_cell BK483.out 0).trans rfl; have hcz37_1 : w36.cell? ⟨gb483, 1, none⟩ = some (.int .i64 t477) := (blk_cell BK483.out 1).trans rfl; have hcz37_2 : w36.cell? ⟨gb483, 2, none⟩ = some (.bool t478) := (blk_cell BK483.out 2).trans rfl; have hcz37_3 : w36.cell? ⟨gb483, 3, none⟩ = some (.bool t479) := (blk_cell BK483.out 3).trans rfl; have hfz37_0 := blk_frozen BK483.out 0; have hfz37_1 := blk_frozen BK483.out 1; have hfz37_2 := blk_frozen BK483.out 2; have hfz37_3 := blk_frozen BK483.out 3; have hcz38_0 : w36.cell? ⟨gb484, 0, none⟩ = some (.int .i64 t480) := (blk_cell BK484.out 0).trans rfl; have hcz38_1 : w36.cell? ⟨gb484, 1, none⟩ = some (.int .i64 t481) := (blk_cell BK484.out 1).trans rfl; have hcz38_2 : w36.cell? ⟨gb484, 2, none⟩ = some (.string t482) := (blk_cell BK484.out 2).trans rfl; have hfz38_0 := blk_frozen BK484.out 0; have hfz38_1 := blk_frozen BK484.out 1; have hfz38_2 := blk_frozen BK484.out 2) | (go_at_call 31; (with_reducible refine (impl_Fits.calls t476 t477 t478 t479 t480 t481 t482 t492 _ A32.out).mono ?_); rintro e w39 ⟨rfl, hb⟩; have n0_ := Aside0.mk (Kd.R_below (by (with_reducible repeat (first | apply Kd.R_alloc | apply Kd.R_drewN | apply Kd.R_drew)); exact HO_3.out) hb); have n1_ := Aside0.mk (Kd.R_below (by (with_reducible repeat (first | apply Kd.R_alloc | apply Kd.R_drewN | apply Kd.R_drew)); exact HO_6.out) hb); have n2_ := Aside0.mk (blk_below (g := gb483) (o := .cells #[.int .i64 t476, .int .i64 t477, .bool t478, .bool t479] 30 (0, 0)) (by (with_reducible repeat (first | refine blk_drewN ?_ _ | refine blk_drew ?_ | refine blk_alloc ?_ _)); exact BK483.out) hb); have n3_ := Aside0.mk (blk_below (g := gb484) (o := .cells #[.int .i64 t480, .int .i64 t481, .string t482] 32 (0, 0)) (by (with_reducible repeat (first | refine blk_drewN ?_ _ | refine blk_drew ?_ | refine blk_alloc ?_ _)); exact BK484.out) hb); have n4_ := Aside0.mk (below_step (by repeat (first | (with_reducible first | exact HB.out | apply below_alloc | apply pw_below_drewN | apply below_drew1 | refine below_set ?_ GE483.out | refine below_set ?_ GE484.out) | exact HB.out)) hb); clear HO_3; clear HO_6; clear BK483; clear BK484; clear HB; have HO_3 := n0_; have HO_6 := n1_; have BK483 := n2_; have BK484 := n3_; have HB := n4_; clear n0_ n1_ n2_ n3_ n4_; (try clear hb); (try clear hb2); (try clear hk); (try clear hi)))
              go_ret
              exact ⟨by first | rfl | (simp [errW_none, errW_some] <;> rfl) | (simp [*, errW_none, errW_some] <;> rfl), by repeat (first | (with_reducible first | exact HB.out | apply below_alloc | apply pw_below_drewN | apply below_drew1 | refine below_set ?_ GE483.out | refine below_set ?_ GE484.out) | exact HB.out)⟩
            · replace c31 := Bool.eq_false_iff.mpr c31
              subst c31
              have H1 : (some (!false)) = some r := by rw [if_neg (show ¬ (false = true) by decide)] at H; exact H
              clear H
              have H := H1
              clear H1
              obtain rfl := Option.some.inj H
              obtain ⟨Ao40, co40, eo40⟩ := Kd.R_slice HO_6.out
              subst eo40
              go_wp2_with (first | ((with_reducible refine gate_callee (f := 29) rfl ?_); refine gL (some 33) Try.func29 #[.slice Ao40 t485.length co40, .slice Ao13 t473.length co13] ?_; (with_reducible refine (laws_sameBytes.calls kj5 _ _ t485 _ _ t473 true _ ?side1 ?side2 ?side3 ?side4 A28.out).mono ?_); (case side1 => repeat (first | exact (Kd.R_reads' HO_6.out).2.2 | (with_reducible refine Kd.C_alloc ?_ _) | (with_reducible refine Kd.C_drewN ?_ _) | (with_reducible refine Kd.C_drew ?_))); (case side2 => exact (Kd.R_reads' HO_6.out).2.1); (case side3 => repeat (first | exact (Kd.R_reads' HO_3.out).2.2 | (with_reducible refine Kd.C_alloc ?_ _) | (with_reducible refine Kd.C_drewN ?_ _) | (with_reducible refine Kd.C_drew ?_))); (case side4 => exact (Kd.R_reads' HO_3.out).2.1); rintro e w' ⟨rfl, ⟨nd, rfl⟩⟩; refine ⟨_, rfl, ?_⟩; have hnb41 := NB483_484.out; have hnc41 := NB484_483.out; have hcz42_0 : wc.cell? ⟨gb483, 0, none⟩ = some (.int .i64 t476) := (blk_cell BK483.out 0).trans rfl; have hcz42_1 : wc.cell? ⟨gb483, 1, none⟩ = some (.int .i64 t477) := (blk_cell BK483.out 1).trans rfl; have hcz42_2 : wc.cell? ⟨gb483, 2, none⟩ = some (.bool t478) := (blk_cell BK483.out 2).trans rfl; have hcz42_3 : wc.cell? ⟨gb483, 3, none⟩ = some (.bool t479) := (blk_cell BK483.out 3).trans rfl; have hfz42_0 := blk_frozen BK483.out 0; have hfz42_1 := blk_frozen BK483.out 1; have hfz42_2 := blk_frozen BK483.out 2; have hfz42_3 := blk_frozen BK483.out 3) | (go_at_call 30; (with_reducible refine (impl_PartOk.calls t476 t477 t478 t479 false _ A30.out).mono ?_); rintro e w43 ⟨rfl, hb⟩; have n0_ := Aside0.mk (Kd.R_below (by (with_reducible repeat (first | apply Kd.R_alloc | apply Kd.R_drewN | apply Kd.R_drew)); exact HO_3.out) hb); have n1_ := Aside0.mk (Kd.R_below (by (with_reducible repeat (first | apply Kd.R_alloc | apply Kd.R_drewN | apply Kd.R_drew)); exact HO_6.out) hb); have n2_ := Aside0.mk (blk_below (g := gb483) (o := .cells #[.int .i64 t476, .int .i64 t477, .bool t478, .bool t479] 30 (0, 0)) (by (with_reducible repeat (first | refine blk_drewN ?_ _ | refine blk_drew ?_ | refine blk_alloc ?_ _)); exact BK483.out) hb); have n3_ := Aside0.mk (blk_below (g := gb484) (o := .cells #[.int .i64 t480, .int .i64 t481, .string t482] 32 (0, 0)) (by (with_reducible repeat (first | refine blk_drewN ?_ _ | refine blk_drew ?_ | refine blk_alloc ?_ _)); exact BK484.out) hb); have n4_ := Aside0.mk (below_step (by repeat (first | (with_reducible first | exact HB.out | apply below_alloc | apply pw_below_drewN | apply below_drew1 | refine below_set ?_ GE483.out | refine below_set ?_ GE484.out) | exact HB.out)) hb); clear HO_3; clear HO_6; clear BK483; clear BK484; clear HB; have HO_3 := n0_; have HO_6 := n1_; have BK483 := n2_; have BK484 := n3_; have HB := n4_; clear n0_ n1_ n2_ n3_ n4_; (try clear hb); (try clear hb2); (try clear hk); (try clear hi)))
              go_ret
              exact ⟨by first | rfl | (simp [errW_none, errW_some] <;> rfl) | (simp [*, errW_none, errW_some] <;> rfl), by repeat (first | (with_reducible first | exact HB.out | apply below_alloc | apply pw_below_drewN | apply below_drew1 | refine below_set ?_ GE483.out | refine below_set ?_ GE484.out) | exact HB.out)⟩
          · replace c29 := Bool.eq_false_iff.mpr c29
            subst c29
            have H1 : (some false) = some r := by rw [if_neg (show ¬ (false = true) by decide)] at H; exact H
            clear H
            have H := H1
            clear H1
            obtain rfl := Option.some.inj H
            obtain ⟨Ao44, co44, eo44⟩ := Kd.R_slice HO_6.out
            subst eo44
            go_wp2_with (first | ((with_reducible refine gate_callee (f := 29) rfl ?_); refine gL (some 33) Try.func29 #[.slice Ao44 t485.length co44, .slice Ao13 t473.length co13] ?_; (with_reducible refine (laws_sameBytes.calls kj5 _ _ t485 _ _ t473 false _ ?side1 ?side2 ?side3 ?side4 A28.out).mono ?_); (case side1 => repeat (first | exact (Kd.R_reads' HO_6.out).2.2 | (with_reducible refine Kd.C_alloc ?_ _) | (with_reducible refine Kd.C_drewN ?_ _) | (with_reducible refine Kd.C_drew ?_))); (case side2 => exact (Kd.R_reads' HO_6.out).2.1); (case side3 => repeat (first | exact (Kd.R_reads' HO_3.out).2.2 | (with_reducible refine Kd.C_alloc ?_ _) | (with_reducible refine Kd.C_drewN ?_ _) | (with_reducible refine Kd.C_drew ?_))); (case side4 => exact (Kd.R_reads' HO_3.out).2.1); rintro e w' ⟨rfl, ⟨nd, rfl⟩⟩; refine ⟨_, rfl, ?_⟩))
            go_ret
            exact ⟨by first | rfl | (simp [errW_none, errW_some] <;> rfl) | (simp [*, errW_none, errW_some] <;> rfl), by repeat (first | (with_reducible first | exact HB.out | apply below_alloc | apply pw_below_drewN | apply below_drew1 | refine below_set ?_ GE483.out | refine below_set ?_ GE484.out) | exact HB.out)⟩
        · replace c27 := Bool.eq_false_iff.mpr c27
          subst c27
          have H1 : ((impl_GetPart.f kj5 t485 t476 t477 t478 t479 (t473.length : Int)).bind fun bt493 => (if bt493.2.2.2.2 = true then (if (bt493.1 == t480 && (bt493.2.1 == t481 && (bt493.2.2.1.toList == t482.toList))) = true then (if bt493.2.2.2.1 = (t485.length : Int) then ((impl_PartOk.f t476 t477 t478 t479).bind fun t499 => (if t499 = true then ((impl_Fits.f t476 t477 t478 t479 t480 t481 t482).bind fun t500 => (if t500 = true then (some (decide ((t485.length : Int) > (t473.length : Int)))) else (some false))) else (some false))) else (some false)) else (some false)) else (some false))) = some r := by rw [if_neg (show ¬ (false = true) by decide)] at H; exact H
          clear H
          have H := H1
          clear H1
          replace H := Option.bind_eq_some_iff.mp H
          obtain ⟨⟨t493, t494, t495, t496, t497⟩, A450, H⟩ := H
          replace H : (if t497 = true then (if (t493 == t480 && (t494 == t481 && (t495.toList == t482.toList))) = true then (if t496 = (t485.length : Int) then ((impl_PartOk.f t476 t477 t478 t479).bind fun t499 => (if t499 = true then ((impl_Fits.f t476 t477 t478 t479 t480 t481 t482).bind fun t500 => (if t500 = true then (some (decide ((t485.length : Int) > (t473.length : Int)))) else (some false))) else (some false))) else (some false)) else (some false)) else (some false)) = some r := H
          have A45 := Aside0.mk A450
          clear A450
          by_cases c46 : t497 = true
          · subst c46
            have H1 : (if (t493 == t480 && (t494 == t481 && (t495.toList == t482.toList))) = true then (if t496 = (t485.length : Int) then ((impl_PartOk.f t476 t477 t478 t479).bind fun t499 => (if t499 = true then ((impl_Fits.f t476 t477 t478 t479 t480 t481 t482).bind fun t500 => (if t500 = true then (some (decide ((t485.length : Int) > (t473.length : Int)))) else (some false))) else (some false))) else (some false)) else (some false)) = some r := by rw [if_pos rfl] at H; exact H
            clear H
            have H := H1
            clear H1
            by_cases c47 : (t493 == t480 && (t494 == t481 && (t495.toList == t482.toList))) = true
            · rw [if_pos c47] at H
              have c47b0 : (t493 == t480 && (t494 == t481 && (t495.toList == t482.toList))) = true := c47
              (try (have c47b1 : decide (t493 = t480 && (t494 == t481 && (t495.toList == t482.toList))) = true := by simpa using c47))
              (try (have c47b2 : (t493 == t480 && (t494 == t481 && (t495.toList == t482.toList))) = true := by simpa using c47))
              clear c47
              by_cases c48 : t496 = (t485.length : Int)
              · rw [if_pos c48] at H
                have c48b0 : (t496 == (t485.length : Int)) = true := beq_iff_eq.mpr c48
                have c48b1 : (t496 != (t485.length : Int)) = false := bne_eq_false_iff_eq.mpr c48
                clear c48
                replace H := Option.bind_eq_some_iff.mp H
                obtain ⟨t499, A490, H⟩ := H
                replace H : (if t499 = true then ((impl_Fits.f t476 t477 t478 t479 t480 t481 t482).bind fun t500 => (if t500 = true then (some (decide ((t485.length : Int) > (t473.length : Int)))) else (some false))) else (some false)) = some r := H
                have A49 := Aside0.mk A490
                clear A490
                by_cases c50 : t499 = true
                · subst c50
                  have H1 : ((impl_Fits.f t476 t477 t478 t479 t480 t481 t482).bind fun t500 => (if t500 = true then (some (decide ((t485.length : Int) > (t473.length : Int)))) else (some false))) = some r := by rw [if_pos rfl] at H; exact H
                  clear H
                  have H := H1
                  clear H1
                  replace H := Option.bind_eq_some_iff.mp H
                  obtain ⟨t500, A510, H⟩ := H
                  replace H : (if t500 = true then (some (decide ((t485.length : Int) > (t473.length : Int)))) else (some false)) = some r := H
                  have A51 := Aside0.mk A510
                  clear A510
                  by_cases c52 : t500 = true
                  · subst c52
                    have H1 : (some (decide ((t485.length : Int) > (t473.length : Int)))) = some r := by rw [if_pos rfl] at H; exact H
                    clear H
                    have H := H1
                    clear H1
                    obtain rfl := Option.some.inj H
                    have hnb53 := NB483_484.out
                    have hnc53 := NB484_483.out
                    have hcz54_0 : wc.cell? ⟨gb483, 0, none⟩ = some (.int .i64 t476) := (blk_cell BK483.out 0).trans rfl
                    have hcz54_1 : wc.cell? ⟨gb483, 1, none⟩ = some (.int .i64 t477) := (blk_cell BK483.out 1).trans rfl
                    have hcz54_2 : wc.cell? ⟨gb483, 2, none⟩ = some (.bool t478) := (blk_cell BK483.out 2).trans rfl
                    have hcz54_3 : wc.cell? ⟨gb483, 3, none⟩ = some (.bool t479) := (blk_cell BK483.out 3).trans rfl
                    have hfz54_0 := blk_frozen BK483.out 0
                    have hfz54_1 := blk_frozen BK483.out 1
                    have hfz54_2 := blk_frozen BK483.out 2
                    have hfz54_3 := blk_frozen BK483.out 3
                    obtain ⟨Ao55, co55, eo55⟩ := Kd.R_slice HO_6.out
                    subst eo55
                    go_wp2_with (first | ((with_reducible refine gate_callee (f := 23) rfl ?_); refine gL (some 49) Try.func23 #[.slice Ao55 t485.length co55, .agg #[.int .i64 t476, .int .i64 t477, .bool t478, .bool t479], .int .i64 (t473.length : Int)] ?_; (with_reducible refine (impl_GetPart.calls kj5 _ _ t485 t476 t477 t478 t479 (t473.length : Int) t493 t494 t495 t496 true _ ?side1 ?side2 A45.out).mono ?_); (case side1 => repeat (first | exact (Kd.R_reads' HO_6.out).2.2 | (with_reducible refine Kd.C_alloc ?_ _) | (with_reducible refine Kd.C_drewN ?_ _) | (with_reducible refine Kd.C_drew ?_))); (case side2 => exact (Kd.R_reads' HO_6.out).2.1); rintro e w56 ⟨rfl, hb⟩; refine ⟨_, rfl, ?_⟩; have n0_ := Aside0.mk (Kd.R_below (by (with_reducible repeat (first | apply Kd.R_alloc | apply Kd.R_drewN | apply Kd.R_drew)); exact HO_3.out) hb); have n1_ := Aside0.mk (Kd.R_below (by (with_reducible repeat (first | apply Kd.R_alloc | apply Kd.R_drewN | apply Kd.R_drew)); exact HO_6.out) hb); have n2_ := Aside0.mk (blk_below (g := gb483) (o := .cells #[.int .i64 t476, .int .i64 t477, .bool t478, .bool t479] 30 (0, 0)) (by (with_reducible repeat (first | refine blk_drewN ?_ _ | refine blk_drew ?_ | refine blk_alloc ?_ _)); exact BK483.out) hb); have n3_ := Aside0.mk (blk_below (g := gb484) (o := .cells #[.int .i64 t480, .int .i64 t481, .string t482] 32 (0, 0)) (by (with_reducible repeat (first | refine blk_drewN ?_ _ | refine blk_drew ?_ | refine blk_alloc ?_ _)); exact BK484.out) hb); have n4_ := Aside0.mk (below_step (by repeat (first | (with_reducible first | exact HB.out | apply below_alloc | apply pw_below_drewN | apply below_drew1 | refine below_set ?_ GE483.out | refine below_set ?_ GE484.out) | exact HB.out)) hb); clear HO_3; clear HO_6; clear BK483; clear BK484; clear HB; have HO_3 := n0_; have HO_6 := n1_; have BK483 := n2_; have BK484 := n3_; have HB := n4_; clear n0_ n1_ n2_ n3_ n4_; (try clear hb); (try clear hb2); (try clear hk); (try clear hi)) | ((with_reducible refine gate_dst (N := 7) rfl ?_); (try (refine gate_guard (by rfl) ?_; dsimp only)); refine box_event ?hg (N := 7) ?hd (cs := #[.int .i64 0, .int .i64 0, .string (⟨#[]⟩ : ByteArray)]) (t := 32) ?hr ?_; (case hd => rfl); (case hg => rfl); (case hr => first | (go_simp; done) | (go_simp; rfl)); intro gb498 hg w57 hbox hb; have n0_ := Aside0.mk (Kd.R_below (by (with_reducible repeat (first | apply Kd.R_alloc | apply Kd.R_drewN | apply Kd.R_drew)); exact HO_3.out) hb); have n1_ := Aside0.mk (Kd.R_below (by (with_reducible repeat (first | apply Kd.R_alloc | apply Kd.R_drewN | apply Kd.R_drew)); exact HO_6.out) hb); have n2_ := Aside0.mk (blk_below (g := gb483) (o := .cells #[.int .i64 t476, .int .i64 t477, .bool t478, .bool t479] 30 (0, 0)) (by (with_reducible repeat (first | refine blk_drewN ?_ _ | refine blk_drew ?_ | refine blk_alloc ?_ _)); exact BK483.out) hb); have n3_ := Aside0.mk (blk_below (g := gb484) (o := .cells #[.int .i64 t480, .int .i64 t481, .string t482] 32 (0, 0)) (by (with_reducible repeat (first | refine blk_drewN ?_ _ | refine blk_drew ?_ | refine blk_alloc ?_ _)); exact BK484.out) hb); have n4_ := Aside0.mk (below_step (by repeat (first | (with_reducible first | exact HB.out | apply below_alloc | apply pw_below_drewN | apply below_drew1 | refine below_set ?_ GE483.out | refine below_set ?_ GE484.out) | exact HB.out)) hb); have n5_ := Aside0.mk (hbox); have n6_ := Aside0.mk ((by rw [hg]; exact (below_size (by repeat (first | (with_reducible first | exact HB.out | apply below_alloc | apply pw_below_drewN | apply below_drew1 | refine below_set ?_ GE483.out | refine below_set ?_ GE484.out) | exact HB.out))) : w.heap.size ≤ gb498)); have n7_ := Aside0.mk ((by rw [hg]; exact (below_size (by repeat (first | (with_reducible first | exact HB.out | apply below_alloc | apply pw_below_drewN | apply below_drew1 | refine below_set ?_ GE483.out | refine below_set ?_ GE484.out) | exact HB.out))) : w.heap.size ≤ gb498)); have n8_ := Aside0.mk ((by rw [hg]; exact Nat.ne_of_lt (blk_lt (g := gb483) (o := .cells #[.int .i64 t476, .int .i64 t477, .bool t478, .bool t479] 30 (0, 0)) (by (with_reducible repeat (first | refine blk_drewN ?_ _ | refine blk_drew ?_ | refine blk_alloc ?_ _)); exact BK483.out)) : gb483 ≠ gb498)); have n9_ := Aside0.mk ((by rw [hg]; exact Nat.ne_of_gt (blk_lt (g := gb483) (o := .cells #[.int .i64 t476, .int .i64 t477, .bool t478, .bool t479] 30 (0, 0)) (by (with_reducible repeat (first | refine blk_drewN ?_ _ | refine blk_drew ?_ | refine blk_alloc ?_ _)); exact BK483.out)) : gb498 ≠ gb483)); have n10_ := Aside0.mk ((by rw [hg]; exact Nat.ne_of_lt (blk_lt (g := gb484) (o := .cells #[.int .i64 t480, .int .i64 t481, .string t482] 32 (0, 0)) (by (with_reducible repeat (first | refine blk_drewN ?_ _ | refine blk_drew ?_ | refine blk_alloc ?_ _)); exact BK484.out)) : gb484 ≠ gb498)); have n11_ := Aside0.mk ((by rw [hg]; exact Nat.ne_of_gt (blk_lt (g := gb484) (o := .cells #[.int .i64 t480, .int .i64 t481, .string t482] 32 (0, 0)) (by (with_reducible repeat (first | refine blk_drewN ?_ _ | refine blk_drew ?_ | refine blk_alloc ?_ _)); exact BK484.out)) : gb498 ≠ gb484)); clear HO_3; clear HO_6; clear BK483; clear BK484; clear HB; have HO_3 := n0_; have HO_6 := n1_; have BK483 := n2_; have BK484 := n3_; have HB := n4_; have BK498 := n5_; have GW498 := n6_; have GE498 := n7_; have NB483_498 := n8_; have NB498_483 := n9_; have NB484_498 := n10_; have NB498_484 := n11_; clear n0_ n1_ n2_ n3_ n4_ n5_ n6_ n7_ n8_ n9_ n10_ n11_; clear hb hbox hg; have hnb58 := NB498_483.out; have hnc58 := NB483_498.out; have hnb59 := NB498_484.out; have hnc59 := NB484_498.out; have hcz60_0 : w57.cell? ⟨gb498, 0, none⟩ = some (.int .i64 0) := (blk_cell BK498.out 0).trans rfl; have hcz60_1 : w57.cell? ⟨gb498, 1, none⟩ = some (.int .i64 0) := (blk_cell BK498.out 1).trans rfl; have hcz60_2 : w57.cell? ⟨gb498, 2, none⟩ = some (.string (⟨#[]⟩ : ByteArray)) := (blk_cell BK498.out 2).trans rfl; have hfz60_0 := blk_frozen BK498.out 0; have hfz60_1 := blk_frozen BK498.out 1; have hfz60_2 := blk_frozen BK498.out 2; have hcz61_0 : w57.cell? ⟨gb484, 0, none⟩ = some (.int .i64 t480) := (blk_cell BK484.out 0).trans rfl; have hcz61_1 : w57.cell? ⟨gb484, 1, none⟩ = some (.int .i64 t481) := (blk_cell BK484.out 1).trans rfl; have hcz61_2 : w57.cell? ⟨gb484, 2, none⟩ = some (.string t482) := (blk_cell BK484.out 2).trans rfl; have hfz61_0 := blk_frozen BK484.out 0; have hfz61_1 := blk_frozen BK484.out 1; have hfz61_2 := blk_frozen BK484.out 2; have hcz62_0 : w57.cell? ⟨gb483, 0, none⟩ = some (.int .i64 t476) := (blk_cell BK483.out 0).trans rfl; have hcz62_1 : w57.cell? ⟨gb483, 1, none⟩ = some (.int .i64 t477) := (blk_cell BK483.out 1).trans rfl; have hcz62_2 : w57.cell? ⟨gb483, 2, none⟩ = some (.bool t478) := (blk_cell BK483.out 2).trans rfl; have hcz62_3 : w57.cell? ⟨gb483, 3, none⟩ = some (.bool t479) := (blk_cell BK483.out 3).trans rfl; have hfz62_0 := blk_frozen BK483.out 0; have hfz62_1 := blk_frozen BK483.out 1; have hfz62_2 := blk_frozen BK483.out 2; have hfz62_3 := blk_frozen BK483.out 3) | (go_at_call 30; (with_reducible refine (impl_PartOk.calls t476 t477 t478 t479 true _ A49.out).mono ?_); rintro e w63 ⟨rfl, hb⟩; have n0_ := Aside0.mk (Kd.R_below (by (with_reducible repeat (first | apply Kd.R_alloc | apply Kd.R_drewN | apply Kd.R_drew)); exact (Kd.R_mono (Kd.R_far (p := ⟨gb498, 2, none⟩) (Kd.R_far (p := ⟨gb498, 1, none⟩) (Kd.R_far (p := ⟨gb498, 0, none⟩) (Kd.R_types HO_3.out BK498.out (by decide)) (fun _ hk => hk.2) (.int .i64 t493)) (fun _ hk => hk.2) (.int .i64 t494)) (fun _ hk => hk.2) (.string t495)) (fun _ h_ => h_.1))) hb); have n1_ := Aside0.mk (Kd.R_below (by (with_reducible repeat (first | apply Kd.R_alloc | apply Kd.R_drewN | apply Kd.R_drew)); exact (Kd.R_mono (Kd.R_far (p := ⟨gb498, 2, none⟩) (Kd.R_far (p := ⟨gb498, 1, none⟩) (Kd.R_far (p := ⟨gb498, 0, none⟩) (Kd.R_types HO_6.out BK498.out (by decide)) (fun _ hk => hk.2) (.int .i64 t493)) (fun _ hk => hk.2) (.int .i64 t494)) (fun _ hk => hk.2) (.string t495)) (fun _ h_ => h_.1))) hb); have n2_ := Aside0.mk (blk_below (g := gb483) (o := .cells #[.int .i64 t476, .int .i64 t477, .bool t478, .bool t479] 30 (0, 0)) (by (with_reducible repeat (first | refine blk_drewN ?_ _ | refine blk_drew ?_ | refine blk_alloc ?_ _)); refine blk_far ?_ NB483_498.out _; (with_reducible repeat (first | refine blk_drewN ?_ _ | refine blk_drew ?_ | refine blk_alloc ?_ _)); refine blk_far ?_ NB483_498.out _; (with_reducible repeat (first | refine blk_drewN ?_ _ | refine blk_drew ?_ | refine blk_alloc ?_ _)); refine blk_far ?_ NB483_498.out _; (with_reducible repeat (first | refine blk_drewN ?_ _ | refine blk_drew ?_ | refine blk_alloc ?_ _)); exact BK483.out) hb); have n3_ := Aside0.mk (blk_below (g := gb484) (o := .cells #[.int .i64 t480, .int .i64 t481, .string t482] 32 (0, 0)) (by (with_reducible repeat (first | refine blk_drewN ?_ _ | refine blk_drew ?_ | refine blk_alloc ?_ _)); refine blk_far ?_ NB484_498.out _; (with_reducible repeat (first | refine blk_drewN ?_ _ | refine blk_drew ?_ | refine blk_alloc ?_ _)); refine blk_far ?_ NB484_498.out _; (with_reducible repeat (first | refine blk_drewN ?_ _ | refine blk_drew ?_ | refine blk_alloc ?_ _)); refine blk_far ?_ NB484_498.out _; (with_reducible repeat (first | refine blk_drewN ?_ _ | refine blk_drew ?_ | refine blk_alloc ?_ _)); exact BK484.out) hb); have n4_ := Aside0.mk (blk_below (g := gb498) (o := .cells #[.int .i64 t493, .int .i64 t494, .string t495] 32 (0, 0)) (by (with_reducible repeat (first | refine blk_drewN ?_ _ | refine blk_drew ?_ | refine blk_alloc ?_ _)); refine blk_put (cs := #[.int .i64 t493, .int .i64 t494, .string (⟨#[]⟩ : ByteArray)]) ?_ 2 _ rfl; (with_reducible repeat (first | refine blk_drewN ?_ _ | refine blk_drew ?_ | refine blk_alloc ?_ _)); refine blk_put (cs := #[.int .i64 t493, .int .i64 0, .string (⟨#[]⟩ : ByteArray)]) ?_ 1 _ rfl; (with_reducible repeat (first | refine blk_drewN ?_ _ | refine blk_drew ?_ | refine blk_alloc ?_ _)); refine blk_put (cs := #[.int .i64 0, .int .i64 0, .string (⟨#[]⟩ : ByteArray)]) ?_ 0 _ rfl; (with_reducible repeat (first | refine blk_drewN ?_ _ | refine blk_drew ?_ | refine blk_alloc ?_ _)); exact BK498.out) hb); have n5_ := Aside0.mk (below_step (by repeat (first | (with_reducible first | exact HB.out | apply below_alloc | apply pw_below_drewN | apply below_drew1 | refine below_set ?_ GE483.out | refine below_set ?_ GE484.out | refine below_set ?_ GE498.out) | exact HB.out)) hb); clear HO_3; clear HO_6; clear BK483; clear BK484; clear BK498; clear HB; have HO_3 := n0_; have HO_6 := n1_; have BK483 := n2_; have BK484 := n3_; have BK498 := n4_; have HB := n5_; clear n0_ n1_ n2_ n3_ n4_ n5_; (try clear hb); (try clear hb2); (try clear hk); (try clear hi); have hcz64_0 : w63.cell? ⟨gb483, 0, none⟩ = some (.int .i64 t476) := (blk_cell BK483.out 0).trans rfl; have hcz64_1 : w63.cell? ⟨gb483, 1, none⟩ = some (.int .i64 t477) := (blk_cell BK483.out 1).trans rfl; have hcz64_2 : w63.cell? ⟨gb483, 2, none⟩ = some (.bool t478) := (blk_cell BK483.out 2).trans rfl; have hcz64_3 : w63.cell? ⟨gb483, 3, none⟩ = some (.bool t479) := (blk_cell BK483.out 3).trans rfl; have hfz64_0 := blk_frozen BK483.out 0; have hfz64_1 := blk_frozen BK483.out 1; have hfz64_2 := blk_frozen BK483.out 2; have hfz64_3 := blk_frozen BK483.out 3; have hcz65_0 : w63.cell? ⟨gb484, 0, none⟩ = some (.int .i64 t480) := (blk_cell BK484.out 0).trans rfl; have hcz65_1 : w63.cell? ⟨gb484, 1, none⟩ = some (.int .i64 t481) := (blk_cell BK484.out 1).trans rfl; have hcz65_2 : w63.cell? ⟨gb484, 2, none⟩ = some (.string t482) := (blk_cell BK484.out 2).trans rfl; have hfz65_0 := blk_frozen BK484.out 0; have hfz65_1 := blk_frozen BK484.out 1; have hfz65_2 := blk_frozen BK484.out 2) | (go_at_call 31; (with_reducible refine (impl_Fits.calls t476 t477 t478 t479 t480 t481 t482 true _ A51.out).mono ?_); rintro e w66 ⟨rfl, hb⟩; have n0_ := Aside0.mk (Kd.R_below (by (with_reducible repeat (first | apply Kd.R_alloc | apply Kd.R_drewN | apply Kd.R_drew)); exact HO_3.out) hb); have n1_ := Aside0.mk (Kd.R_below (by (with_reducible repeat (first | apply Kd.R_alloc | apply Kd.R_drewN | apply Kd.R_drew)); exact HO_6.out) hb); have n2_ := Aside0.mk (blk_below (g := gb483) (o := .cells #[.int .i64 t476, .int .i64 t477, .bool t478, .bool t479] 30 (0, 0)) (by (with_reducible repeat (first | refine blk_drewN ?_ _ | refine blk_drew ?_ | refine blk_alloc ?_ _)); exact BK483.out) hb); have n3_ := Aside0.mk (blk_below (g := gb484) (o := .cells #[.int .i64 t480, .int .i64 t481, .string t482] 32 (0, 0)) (by (with_reducible repeat (first | refine blk_drewN ?_ _ | refine blk_drew ?_ | refine blk_alloc ?_ _)); exact BK484.out) hb); have n4_ := Aside0.mk (blk_below (g := gb498) (o := .cells #[.int .i64 t493, .int .i64 t494, .string t495] 32 (0, 0)) (by (with_reducible repeat (first | refine blk_drewN ?_ _ | refine blk_drew ?_ | refine blk_alloc ?_ _)); exact BK498.out) hb); have n5_ := Aside0.mk (below_step (by repeat (first | (with_reducible first | exact HB.out | apply below_alloc | apply pw_below_drewN | apply below_drew1 | refine below_set ?_ GE483.out | refine below_set ?_ GE484.out | refine below_set ?_ GE498.out) | exact HB.out)) hb); clear HO_3; clear HO_6; clear BK483; clear BK484; clear BK498; clear HB; have HO_3 := n0_; have HO_6 := n1_; have BK483 := n2_; have BK484 := n3_; have BK498 := n4_; have HB := n5_; clear n0_ n1_ n2_ n3_ n4_ n5_; (try clear hb); (try clear hb2); (try clear hk); (try clear hi)))
                    go_ret
                    exact ⟨by first | rfl | (simp [errW_none, errW_some] <;> rfl) | (simp [*, errW_none, errW_some] <;> rfl), by repeat (first | (with_reducible first | exact HB.out | apply below_alloc | apply pw_below_drewN | apply below_drew1 | refine below_set ?_ GE483.out | refine below_set ?_ GE484.out | refine below_set ?_ GE498.out) | exact HB.out)⟩
                  · replace c52 := Bool.eq_false_iff.mpr c52
                    subst c52
                    have H1 : (some false) = some r := by rw [if_neg (show ¬ (false = true) by decide)] at H; exact H
                    clear H
                    have H := H1
                    clear H1
                    obtain rfl := Option.some.inj H
                    have hnb67 := NB483_484.out
                    have hnc67 := NB484_483.out
                    have hcz68_0 : wc.cell? ⟨gb483, 0, none⟩ = some (.int .i64 t476) := (blk_cell BK483.out 0).trans rfl
                    have hcz68_1 : wc.cell? ⟨gb483, 1, none⟩ = some (.int .i64 t477) := (blk_cell BK483.out 1).trans rfl
                    have hcz68_2 : wc.cell? ⟨gb483, 2, none⟩ = some (.bool t478) := (blk_cell BK483.out 2).trans rfl
                    have hcz68_3 : wc.cell? ⟨gb483, 3, none⟩ = some (.bool t479) := (blk_cell BK483.out 3).trans rfl
                    have hfz68_0 := blk_frozen BK483.out 0
                    have hfz68_1 := blk_frozen BK483.out 1
                    have hfz68_2 := blk_frozen BK483.out 2
                    have hfz68_3 := blk_frozen BK483.out 3
                    obtain ⟨Ao69, co69, eo69⟩ := Kd.R_slice HO_6.out
                    subst eo69
                    go_wp2_with (first | ((with_reducible refine gate_callee (f := 23) rfl ?_); refine gL (some 49) Try.func23 #[.slice Ao69 t485.length co69, .agg #[.int .i64 t476, .int .i64 t477, .bool t478, .bool t479], .int .i64 (t473.length : Int)] ?_; (with_reducible refine (impl_GetPart.calls kj5 _ _ t485 t476 t477 t478 t479 (t473.length : Int) t493 t494 t495 t496 true _ ?side1 ?side2 A45.out).mono ?_); (case side1 => repeat (first | exact (Kd.R_reads' HO_6.out).2.2 | (with_reducible refine Kd.C_alloc ?_ _) | (with_reducible refine Kd.C_drewN ?_ _) | (with_reducible refine Kd.C_drew ?_))); (case side2 => exact (Kd.R_reads' HO_6.out).2.1); rintro e w70 ⟨rfl, hb⟩; refine ⟨_, rfl, ?_⟩; have n0_ := Aside0.mk (Kd.R_below (by (with_reducible repeat (first | apply Kd.R_alloc | apply Kd.R_drewN | apply Kd.R_drew)); exact HO_3.out) hb); have n1_ := Aside0.mk (Kd.R_below (by (with_reducible repeat (first | apply Kd.R_alloc | apply Kd.R_drewN | apply Kd.R_drew)); exact HO_6.out) hb); have n2_ := Aside0.mk (blk_below (g := gb483) (o := .cells #[.int .i64 t476, .int .i64 t477, .bool t478, .bool t479] 30 (0, 0)) (by (with_reducible repeat (first | refine blk_drewN ?_ _ | refine blk_drew ?_ | refine blk_alloc ?_ _)); exact BK483.out) hb); have n3_ := Aside0.mk (blk_below (g := gb484) (o := .cells #[.int .i64 t480, .int .i64 t481, .string t482] 32 (0, 0)) (by (with_reducible repeat (first | refine blk_drewN ?_ _ | refine blk_drew ?_ | refine blk_alloc ?_ _)); exact BK484.out) hb); have n4_ := Aside0.mk (below_step (by repeat (first | (with_reducible first | exact HB.out | apply below_alloc | apply pw_below_drewN | apply below_drew1 | refine below_set ?_ GE483.out | refine below_set ?_ GE484.out) | exact HB.out)) hb); clear HO_3; clear HO_6; clear BK483; clear BK484; clear HB; have HO_3 := n0_; have HO_6 := n1_; have BK483 := n2_; have BK484 := n3_; have HB := n4_; clear n0_ n1_ n2_ n3_ n4_; (try clear hb); (try clear hb2); (try clear hk); (try clear hi)) | ((with_reducible refine gate_dst (N := 7) rfl ?_); (try (refine gate_guard (by rfl) ?_; dsimp only)); refine box_event ?hg (N := 7) ?hd (cs := #[.int .i64 0, .int .i64 0, .string (⟨#[]⟩ : ByteArray)]) (t := 32) ?hr ?_; (case hd => rfl); (case hg => rfl); (case hr => first | (go_simp; done) | (go_simp; rfl)); intro gb498 hg w71 hbox hb; have n0_ := Aside0.mk (Kd.R_below (by (with_reducible repeat (first | apply Kd.R_alloc | apply Kd.R_drewN | apply Kd.R_drew)); exact HO_3.out) hb); have n1_ := Aside0.mk (Kd.R_below (by (with_reducible repeat (first | apply Kd.R_alloc | apply Kd.R_drewN | apply Kd.R_drew)); exact HO_6.out) hb); have n2_ := Aside0.mk (blk_below (g := gb483) (o := .cells #[.int .i64 t476, .int .i64 t477, .bool t478, .bool t479] 30 (0, 0)) (by (with_reducible repeat (first | refine blk_drewN ?_ _ | refine blk_drew ?_ | refine blk_alloc ?_ _)); exact BK483.out) hb); have n3_ := Aside0.mk (blk_below (g := gb484) (o := .cells #[.int .i64 t480, .int .i64 t481, .string t482] 32 (0, 0)) (by (with_reducible repeat (first | refine blk_drewN ?_ _ | refine blk_drew ?_ | refine blk_alloc ?_ _)); exact BK484.out) hb); have n4_ := Aside0.mk (below_step (by repeat (first | (with_reducible first | exact HB.out | apply below_alloc | apply pw_below_drewN | apply below_drew1 | refine below_set ?_ GE483.out | refine below_set ?_ GE484.out) | exact HB.out)) hb); have n5_ := Aside0.mk (hbox); have n6_ := Aside0.mk ((by rw [hg]; exact (below_size (by repeat (first | (with_reducible first | exact HB.out | apply below_alloc | apply pw_below_drewN | apply below_drew1 | refine below_set ?_ GE483.out | refine below_set ?_ GE484.out) | exact HB.out))) : w.heap.size ≤ gb498)); have n7_ := Aside0.mk ((by rw [hg]; exact (below_size (by repeat (first | (with_reducible first | exact HB.out | apply below_alloc | apply pw_below_drewN | apply below_drew1 | refine below_set ?_ GE483.out | refine below_set ?_ GE484.out) | exact HB.out))) : w.heap.size ≤ gb498)); have n8_ := Aside0.mk ((by rw [hg]; exact Nat.ne_of_lt (blk_lt (g := gb483) (o := .cells #[.int .i64 t476, .int .i64 t477, .bool t478, .bool t479] 30 (0, 0)) (by (with_reducible repeat (first | refine blk_drewN ?_ _ | refine blk_drew ?_ | refine blk_alloc ?_ _)); exact BK483.out)) : gb483 ≠ gb498)); have n9_ := Aside0.mk ((by rw [hg]; exact Nat.ne_of_gt (blk_lt (g := gb483) (o := .cells #[.int .i64 t476, .int .i64 t477, .bool t478, .bool t479] 30 (0, 0)) (by (with_reducible repeat (first | refine blk_drewN ?_ _ | refine blk_drew ?_ | refine blk_alloc ?_ _)); exact BK483.out)) : gb498 ≠ gb483)); have n10_ := Aside0.mk ((by rw [hg]; exact Nat.ne_of_lt (blk_lt (g := gb484) (o := .cells #[.int .i64 t480, .int .i64 t481, .string t482] 32 (0, 0)) (by (with_reducible repeat (first | refine blk_drewN ?_ _ | refine blk_drew ?_ | refine blk_alloc ?_ _)); exact BK484.out)) : gb484 ≠ gb498)); have n11_ := Aside0.mk ((by rw [hg]; exact Nat.ne_of_gt (blk_lt (g := gb484) (o := .cells #[.int .i64 t480, .int .i64 t481, .string t482] 32 (0, 0)) (by (with_reducible repeat (first | refine blk_drewN ?_ _ | refine blk_drew ?_ | refine blk_alloc ?_ _)); exact BK484.out)) : gb498 ≠ gb484)); clear HO_3; clear HO_6; clear BK483; clear BK484; clear HB; have HO_3 := n0_; have HO_6 := n1_; have BK483 := n2_; have BK484 := n3_; have HB := n4_; have BK498 := n5_; have GW498 := n6_; have GE498 := n7_; have NB483_498 := n8_; have NB498_483 := n9_; have NB484_498 := n10_; have NB498_484 := n11_; clear n0_ n1_ n2_ n3_ n4_ n5_ n6_ n7_ n8_ n9_ n10_ n11_; clear hb hbox hg; have hnb72 := NB498_483.out; have hnc72 := NB483_498.out; have hnb73 := NB498_484.out; have hnc73 := NB484_498.out; have hcz74_0 : w71.cell? ⟨gb498, 0, none⟩ = some (.int .i64 0) := (blk_cell BK498.out 0).trans rfl; have hcz74_1 : w71.cell? ⟨gb498, 1, none⟩ = some (.int .i64 0) := (blk_cell BK498.out 1).trans rfl; have hcz74_2 : w71.cell? ⟨gb498, 2, none⟩ = some (.string (⟨#[]⟩ : ByteArray)) := (blk_cell BK498.out 2).trans rfl; have hfz74_0 := blk_frozen BK498.out 0; have hfz74_1 := blk_frozen BK498.out 1; have hfz74_2 := blk_frozen BK498.out 2; have hcz75_0 : w71.cell? ⟨gb484, 0, none⟩ = some (.int .i64 t480) := (blk_cell BK484.out 0).trans rfl; have hcz75_1 : w71.cell? ⟨gb484, 1, none⟩ = some (.int .i64 t481) := (blk_cell BK484.out 1).trans rfl; have hcz75_2 : w71.cell? ⟨gb484, 2, none⟩ = some (.string t482) := (blk_cell BK484.out 2).trans rfl; have hfz75_0 := blk_frozen BK484.out 0; have hfz75_1 := blk_frozen BK484.out 1; have hfz75_2 := blk_frozen BK484.out 2; have hcz76_0 : w71.cell? ⟨gb483, 0, none⟩ = some (.int .i64 t476) := (blk_cell BK483.out 0).trans rfl; have hcz76_1 : w71.cell? ⟨gb483, 1, none⟩ = some (.int .i64 t477) := (blk_cell BK483.out 1).trans rfl; have hcz76_2 : w71.cell? ⟨gb483, 2, none⟩ = some (.bool t478) := (blk_cell BK483.out 2).trans rfl; have hcz76_3 : w71.cell? ⟨gb483, 3, none⟩ = some (.bool t479) := (blk_cell BK483.out 3).trans rfl; have hfz76_0 := blk_frozen BK483.out 0; have hfz76_1 := blk_frozen BK483.out 1; have hfz76_2 := blk_frozen BK483.out 2; have hfz76_3 := blk_frozen BK483.out 3) | (go_at_call 30; (with_reducible refine (impl_PartOk.calls t476 t477 t478 t479 true _ A49.out).mono ?_); rintro e w77 ⟨rfl, hb⟩; have n0_ := Aside0.mk (Kd.R_below (by (with_reducible repeat (first | apply Kd.R_alloc | apply Kd.R_drewN | apply Kd.R_drew)); exact (Kd.R_mono (Kd.R_far (p := ⟨gb498, 2, none⟩) (Kd.R_far (p := ⟨gb498, 1, none⟩) (Kd.R_far (p := ⟨gb498, 0, none⟩) (Kd.R_types HO_3.out BK498.out (by decide)) (fun _ hk => hk.2) (.int .i64 t493)) (fun _ hk => hk.2) (.int .i64 t494)) (fun _ hk => hk.2) (.string t495)) (fun _ h_ => h_.1))) hb); have n1_ := Aside0.mk (Kd.R_below (by (with_reducible repeat (first | apply Kd.R_alloc | apply Kd.R_drewN | apply Kd.R_drew)); exact (Kd.R_mono (Kd.R_far (p := ⟨gb498, 2, none⟩) (Kd.R_far (p := ⟨gb498, 1, none⟩) (Kd.R_far (p := ⟨gb498, 0, none⟩) (Kd.R_types HO_6.out BK498.out (by decide)) (fun _ hk => hk.2) (.int .i64 t493)) (fun _ hk => hk.2) (.int .i64 t494)) (fun _ hk => hk.2) (.string t495)) (fun _ h_ => h_.1))) hb); have n2_ := Aside0.mk (blk_below (g := gb483) (o := .cells #[.int .i64 t476, .int .i64 t477, .bool t478, .bool t479] 30 (0, 0)) (by (with_reducible repeat (first | refine blk_drewN ?_ _ | refine blk_drew ?_ | refine blk_alloc ?_ _)); refine blk_far ?_ NB483_498.out _; (with_reducible repeat (first | refine blk_drewN ?_ _ | refine blk_drew ?_ | refine blk_alloc ?_ _)); refine blk_far ?_ NB483_498.out _; (with_reducible repeat (first | refine blk_drewN ?_ _ | refine blk_drew ?_ | refine blk_alloc ?_ _)); refine blk_far ?_ NB483_498.out _; (with_reducible repeat (first | refine blk_drewN ?_ _ | refine blk_drew ?_ | refine blk_alloc ?_ _)); exact BK483.out) hb); have n3_ := Aside0.mk (blk_below (g := gb484) (o := .cells #[.int .i64 t480, .int .i64 t481, .string t482] 32 (0, 0)) (by (with_reducible repeat (first | refine blk_drewN ?_ _ | refine blk_drew ?_ | refine blk_alloc ?_ _)); refine blk_far ?_ NB484_498.out _; (with_reducible repeat (first | refine blk_drewN ?_ _ | refine blk_drew ?_ | refine blk_alloc ?_ _)); refine blk_far ?_ NB484_498.out _; (with_reducible repeat (first | refine blk_drewN ?_ _ | refine blk_drew ?_ | refine blk_alloc ?_ _)); refine blk_far ?_ NB484_498.out _; (with_reducible repeat (first | refine blk_drewN ?_ _ | refine blk_drew ?_ | refine blk_alloc ?_ _)); exact BK484.out) hb); have n4_ := Aside0.mk (blk_below (g := gb498) (o := .cells #[.int .i64 t493, .int .i64 t494, .string t495] 32 (0, 0)) (by (with_reducible repeat (first | refine blk_drewN ?_ _ | refine blk_drew ?_ | refine blk_alloc ?_ _)); refine blk_put (cs := #[.int .i64 t493, .int .i64 t494, .string (⟨#[]⟩ : ByteArray)]) ?_ 2 _ rfl; (with_reducible repeat (first | refine blk_drewN ?_ _ | refine blk_drew ?_ | refine blk_alloc ?_ _)); refine blk_put (cs := #[.int .i64 t493, .int .i64 0, .string (⟨#[]⟩ : ByteArray)]) ?_ 1 _ rfl; (with_reducible repeat (first | refine blk_drewN ?_ _ | refine blk_drew ?_ | refine blk_alloc ?_ _)); refine blk_put (cs := #[.int .i64 0, .int .i64 0, .string (⟨#[]⟩ : ByteArray)]) ?_ 0 _ rfl; (with_reducible repeat (first | refine blk_drewN ?_ _ | refine blk_drew ?_ | refine blk_alloc ?_ _)); exact BK498.out) hb); have n5_ := Aside0.mk (below_step (by repeat (first | (with_reducible first | exact HB.out | apply below_alloc | apply pw_below_drewN | apply below_drew1 | refine below_set ?_ GE483.out | refine below_set ?_ GE484.out | refine below_set ?_ GE498.out) | exact HB.out)) hb); clear HO_3; clear HO_6; clear BK483; clear BK484; clear BK498; clear HB; have HO_3 := n0_; have HO_6 := n1_; have BK483 := n2_; have BK484 := n3_; have BK498 := n4_; have HB := n5_; clear n0_ n1_ n2_ n3_ n4_ n5_; (try clear hb); (try clear hb2); (try clear hk); (try clear hi); have hcz78_0 : w77.cell? ⟨gb483, 0, none⟩ = some (.int .i64 t476) := (blk_cell BK483.out 0).trans rfl; have hcz78_1 : w77.cell? ⟨gb483, 1, none⟩ = some (.int .i64 t477) := (blk_cell BK483.out 1).trans rfl; have hcz78_2 : w77.cell? ⟨gb483, 2, none⟩ = some (.bool t478) := (blk_cell BK483.out 2).trans rfl; have hcz78_3 : w77.cell? ⟨gb483, 3, none⟩ = some (.bool t479) := (blk_cell BK483.out 3).trans rfl; have hfz78_0 := blk_frozen BK483.out 0; have hfz78_1 := blk_frozen BK483.out 1; have hfz78_2 := blk_frozen BK483.out 2; have hfz78_3 := blk_frozen BK483.out 3; have hcz79_0 : w77.cell? ⟨gb484, 0, none⟩ = some (.int .i64 t480) := (blk_cell BK484.out 0).trans rfl; have hcz79_1 : w77.cell? ⟨gb484, 1, none⟩ = some (.int .i64 t481) := (blk_cell BK484.out 1).trans rfl; have hcz79_2 : w77.cell? ⟨gb484, 2, none⟩ = some (.string t482) := (blk_cell BK484.out 2).trans rfl; have hfz79_0 := blk_frozen BK484.out 0; have hfz79_1 := blk_frozen BK484.out 1; have hfz79_2 := blk_frozen BK484.out 2) | (go_at_call 31; (with_reducible refine (impl_Fits.calls t476 t477 t478 t479 t480 t481 t482 false _ A51.out).mono ?_); rintro e w80 ⟨rfl, hb⟩; have n0_ := Aside0.mk (Kd.R_below (by (with_reducible repeat (first | apply Kd.R_alloc | apply Kd.R_drewN | apply Kd.R_drew)); exact HO_3.out) hb); have n1_ := Aside0.mk (Kd.R_below (by (with_reducible repeat (first | apply Kd.R_alloc | apply Kd.R_drewN | apply Kd.R_drew)); exact HO_6.out) hb); have n2_ := Aside0.mk (blk_below (g := gb483) (o := .cells #[.int .i64 t476, .int .i64 t477, .bool t478, .bool t479] 30 (0, 0)) (by (with_reducible repeat (first | refine blk_drewN ?_ _ | refine blk_drew ?_ | refine blk_alloc ?_ _)); exact BK483.out) hb); have n3_ := Aside0.mk (blk_below (g := gb484) (o := .cells #[.int .i64 t480, .int .i64 t481, .string t482] 32 (0, 0)) (by (with_reducible repeat (first | refine blk_drewN ?_ _ | refine blk_drew ?_ | refine blk_alloc ?_ _)); exact BK484.out) hb); have n4_ := Aside0.mk (blk_below (g := gb498) (o := .cells #[.int .i64 t493, .int .i64 t494, .string t495] 32 (0, 0)) (by (with_reducible repeat (first | refine blk_drewN ?_ _ | refine blk_drew ?_ | refine blk_alloc ?_ _)); exact BK498.out) hb); have n5_ := Aside0.mk (below_step (by repeat (first | (with_reducible first | exact HB.out | apply below_alloc | apply pw_below_drewN | apply below_drew1 | refine below_set ?_ GE483.out | refine below_set ?_ GE484.out | refine below_set ?_ GE498.out) | exact HB.out)) hb); clear HO_3; clear HO_6; clear BK483; clear BK484; clear BK498; clear HB; have HO_3 := n0_; have HO_6 := n1_; have BK483 := n2_; have BK484 := n3_; have BK498 := n4_; have HB := n5_; clear n0_ n1_ n2_ n3_ n4_ n5_; (try clear hb); (try clear hb2); (try clear hk); (try clear hi)))
                    go_ret
                    exact ⟨by first | rfl | (simp [errW_none, errW_some] <;> rfl) | (simp [*, errW_none, errW_some] <;> rfl), by repeat (first | (with_reducible first | exact HB.out | apply below_alloc | apply pw_below_drewN | apply below_drew1 | refine below_set ?_ GE483.out | refine below_set ?_ GE484.out | refine below_set ?_ GE498.out) | exact HB.out)⟩
                · replace c50 := Bool.eq_false_iff.mpr c50
                  subst c50
                  have H1 : (some false) = some r := by rw [if_neg (show ¬ (false = true) by decide)] at H; exact H
                  clear H
                  have H := H1
                  clear H1
                  obtain rfl := Option.some.inj H
                  have hnb81 := NB483_484.out
                  have hnc81 := NB484_483.out
                  have hcz82_0 : wc.cell? ⟨gb483, 0, none⟩ = some (.int .i64 t476) := (blk_cell BK483.out 0).trans rfl
                  have hcz82_1 : wc.cell? ⟨gb483, 1, none⟩ = some (.int .i64 t477) := (blk_cell BK483.out 1).trans rfl
                  have hcz82_2 : wc.cell? ⟨gb483, 2, none⟩ = some (.bool t478) := (blk_cell BK483.out 2).trans rfl
                  have hcz82_3 : wc.cell? ⟨gb483, 3, none⟩ = some (.bool t479) := (blk_cell BK483.out 3).trans rfl
                  have hfz82_0 := blk_frozen BK483.out 0
                  have hfz82_1 := blk_frozen BK483.out 1
                  have hfz82_2 := blk_frozen BK483.out 2
                  have hfz82_3 := blk_frozen BK483.out 3
                  obtain ⟨Ao83, co83, eo83⟩ := Kd.R_slice HO_6.out
                  subst eo83
                  go_wp2_with (first | ((with_reducible refine gate_callee (f := 23) rfl ?_); refine gL (some 49) Try.func23 #[.slice Ao83 t485.length co83, .agg #[.int .i64 t476, .int .i64 t477, .bool t478, .bool t479], .int .i64 (t473.length : Int)] ?_; (with_reducible refine (impl_GetPart.calls kj5 _ _ t485 t476 t477 t478 t479 (t473.length : Int) t493 t494 t495 t496 true _ ?side1 ?side2 A45.out).mono ?_); (case side1 => repeat (first | exact (Kd.R_reads' HO_6.out).2.2 | (with_reducible refine Kd.C_alloc ?_ _) | (with_reducible refine Kd.C_drewN ?_ _) | (with_reducible refine Kd.C_drew ?_))); (case side2 => exact (Kd.R_reads' HO_6.out).2.1); rintro e w84 ⟨rfl, hb⟩; refine ⟨_, rfl, ?_⟩; have n0_ := Aside0.mk (Kd.R_below (by (with_reducible repeat (first | apply Kd.R_alloc | apply Kd.R_drewN | apply Kd.R_drew)); exact HO_3.out) hb); have n1_ := Aside0.mk (Kd.R_below (by (with_reducible repeat (first | apply Kd.R_alloc | apply Kd.R_drewN | apply Kd.R_drew)); exact HO_6.out) hb); have n2_ := Aside0.mk (blk_below (g := gb483) (o := .cells #[.int .i64 t476, .int .i64 t477, .bool t478, .bool t479] 30 (0, 0)) (by (with_reducible repeat (first | refine blk_drewN ?_ _ | refine blk_drew ?_ | refine blk_alloc ?_ _)); exact BK483.out) hb); have n3_ := Aside0.mk (blk_below (g := gb484) (o := .cells #[.int .i64 t480, .int .i64 t481, .string t482] 32 (0, 0)) (by (with_reducible repeat (first | refine blk_drewN ?_ _ | refine blk_drew ?_ | refine blk_alloc ?_ _)); exact BK484.out) hb); have n4_ := Aside0.mk (below_step (by repeat (first | (with_reducible first | exact HB.out | apply below_alloc | apply pw_below_drewN | apply below_drew1 | refine below_set ?_ GE483.out | refine below_set ?_ GE484.out) | exact HB.out)) hb); clear HO_3; clear HO_6; clear BK483; clear BK484; clear HB; have HO_3 := n0_; have HO_6 := n1_; have BK483 := n2_; have BK484 := n3_; have HB := n4_; clear n0_ n1_ n2_ n3_ n4_; (try clear hb); (try clear hb2); (try clear hk); (try clear hi)) | ((with_reducible refine gate_dst (N := 7) rfl ?_); (try (refine gate_guard (by rfl) ?_; dsimp only)); refine box_event ?hg (N := 7) ?hd (cs := #[.int .i64 0, .int .i64 0, .string (⟨#[]⟩ : ByteArray)]) (t := 32) ?hr ?_; (case hd => rfl); (case hg => rfl); (case hr => first | (go_simp; done) | (go_simp; rfl)); intro gb498 hg w85 hbox hb; have n0_ := Aside0.mk (Kd.R_below (by (with_reducible repeat (first | apply Kd.R_alloc | apply Kd.R_drewN | apply Kd.R_drew)); exact HO_3.out) hb); have n1_ := Aside0.mk (Kd.R_below (by (with_reducible repeat (first | apply Kd.R_alloc | apply Kd.R_drewN | apply Kd.R_drew)); exact HO_6.out) hb); have n2_ := Aside0.mk (blk_below (g := gb483) (o := .cells #[.int .i64 t476, .int .i64 t477, .bool t478, .bool t479] 30 (0, 0)) (by (with_reducible repeat (first | refine blk_drewN ?_ _ | refine blk_drew ?_ | refine blk_alloc ?_ _)); exact BK483.out) hb); have n3_ := Aside0.mk (blk_below (g := gb484) (o := .cells #[.int .i64 t480, .int .i64 t481, .string t482] 32 (0, 0)) (by (with_reducible repeat (first | refine blk_drewN ?_ _ | refine blk_drew ?_ | refine blk_alloc ?_ _)); exact BK484.out) hb); have n4_ := Aside0.mk (below_step (by repeat (first | (with_reducible first | exact HB.out | apply below_alloc | apply pw_below_drewN | apply below_drew1 | refine below_set ?_ GE483.out | refine below_set ?_ GE484.out) | exact HB.out)) hb); have n5_ := Aside0.mk (hbox); have n6_ := Aside0.mk ((by rw [hg]; exact (below_size (by repeat (first | (with_reducible first | exact HB.out | apply below_alloc | apply pw_below_drewN | apply below_drew1 | refine below_set ?_ GE483.out | refine below_set ?_ GE484.out) | exact HB.out))) : w.heap.size ≤ gb498)); have n7_ := Aside0.mk ((by rw [hg]; exact (below_size (by repeat (first | (with_reducible first | exact HB.out | apply below_alloc | apply pw_below_drewN | apply below_drew1 | refine below_set ?_ GE483.out | refine below_set ?_ GE484.out) | exact HB.out))) : w.heap.size ≤ gb498)); have n8_ := Aside0.mk ((by rw [hg]; exact Nat.ne_of_lt (blk_lt (g := gb483) (o := .cells #[.int .i64 t476, .int .i64 t477, .bool t478, .bool t479] 30 (0, 0)) (by (with_reducible repeat (first | refine blk_drewN ?_ _ | refine blk_drew ?_ | refine blk_alloc ?_ _)); exact BK483.out)) : gb483 ≠ gb498)); have n9_ := Aside0.mk ((by rw [hg]; exact Nat.ne_of_gt (blk_lt (g := gb483) (o := .cells #[.int .i64 t476, .int .i64 t477, .bool t478, .bool t479] 30 (0, 0)) (by (with_reducible repeat (first | refine blk_drewN ?_ _ | refine blk_drew ?_ | refine blk_alloc ?_ _)); exact BK483.out)) : gb498 ≠ gb483)); have n10_ := Aside0.mk ((by rw [hg]; exact Nat.ne_of_lt (blk_lt (g := gb484) (o := .cells #[.int .i64 t480, .int .i64 t481, .string t482] 32 (0, 0)) (by (with_reducible repeat (first | refine blk_drewN ?_ _ | refine blk_drew ?_ | refine blk_alloc ?_ _)); exact BK484.out)) : gb484 ≠ gb498)); have n11_ := Aside0.mk ((by rw [hg]; exact Nat.ne_of_gt (blk_lt (g := gb484) (o := .cells #[.int .i64 t480, .int .i64 t481, .string t482] 32 (0, 0)) (by (with_reducible repeat (first | refine blk_drewN ?_ _ | refine blk_drew ?_ | refine blk_alloc ?_ _)); exact BK484.out)) : gb498 ≠ gb484)); clear HO_3; clear HO_6; clear BK483; clear BK484; clear HB; have HO_3 := n0_; have HO_6 := n1_; have BK483 := n2_; have BK484 := n3_; have HB := n4_; have BK498 := n5_; have GW498 := n6_; have GE498 := n7_; have NB483_498 := n8_; have NB498_483 := n9_; have NB484_498 := n10_; have NB498_484 := n11_; clear n0_ n1_ n2_ n3_ n4_ n5_ n6_ n7_ n8_ n9_ n10_ n11_; clear hb hbox hg; have hnb86 := NB498_483.out; have hnc86 := NB483_498.out; have hnb87 := NB498_484.out; have hnc87 := NB484_498.out; have hcz88_0 : w85.cell? ⟨gb498, 0, none⟩ = some (.int .i64 0) := (blk_cell BK498.out 0).trans rfl; have hcz88_1 : w85.cell? ⟨gb498, 1, none⟩ = some (.int .i64 0) := (blk_cell BK498.out 1).trans rfl; have hcz88_2 : w85.cell? ⟨gb498, 2, none⟩ = some (.string (⟨#[]⟩ : ByteArray)) := (blk_cell BK498.out 2).trans rfl; have hfz88_0 := blk_frozen BK498.out 0; have hfz88_1 := blk_frozen BK498.out 1; have hfz88_2 := blk_frozen BK498.out 2; have hcz89_0 : w85.cell? ⟨gb484, 0, none⟩ = some (.int .i64 t480) := (blk_cell BK484.out 0).trans rfl; have hcz89_1 : w85.cell? ⟨gb484, 1, none⟩ = some (.int .i64 t481) := (blk_cell BK484.out 1).trans rfl; have hcz89_2 : w85.cell? ⟨gb484, 2, none⟩ = some (.string t482) := (blk_cell BK484.out 2).trans rfl; have hfz89_0 := blk_frozen BK484.out 0; have hfz89_1 := blk_frozen BK484.out 1; have hfz89_2 := blk_frozen BK484.out 2; have hcz90_0 : w85.cell? ⟨gb483, 0, none⟩ = some (.int .i64 t476) := (blk_cell BK483.out 0).trans rfl; have hcz90_1 : w85.cell? ⟨gb483, 1, none⟩ = some (.int .i64 t477) := (blk_cell BK483.out 1).trans rfl; have hcz90_2 : w85.cell? ⟨gb483, 2, none⟩ = some (.bool t478) := (blk_cell BK483.out 2).trans rfl; have hcz90_3 : w85.cell? ⟨gb483, 3, none⟩ = some (.bool t479) := (blk_cell BK483.out 3).trans rfl; have hfz90_0 := blk_frozen BK483.out 0; have hfz90_1 := blk_frozen BK483.out 1; have hfz90_2 := blk_frozen BK483.out 2; have hfz90_3 := blk_frozen BK483.out 3) | (go_at_call 30; (with_reducible refine (impl_PartOk.calls t476 t477 t478 t479 false _ A49.out).mono ?_); rintro e w91 ⟨rfl, hb⟩; have n0_ := Aside0.mk (Kd.R_below (by (with_reducible repeat (first | apply Kd.R_alloc | apply Kd.R_drewN | apply Kd.R_drew)); exact (Kd.R_mono (Kd.R_far (p := ⟨gb498, 2, none⟩) (Kd.R_far (p := ⟨gb498, 1, none⟩) (Kd.R_far (p := ⟨gb498, 0, none⟩) (Kd.R_types HO_3.out BK498.out (by decide)) (fun _ hk => hk.2) (.int .i64 t493)) (fun _ hk => hk.2) (.int .i64 t494)) (fun _ hk => hk.2) (.string t495)) (fun _ h_ => h_.1))) hb); have n1_ := Aside0.mk (Kd.R_below (by (with_reducible repeat (first | apply Kd.R_alloc | apply Kd.R_drewN | apply Kd.R_drew)); exact (Kd.R_mono (Kd.R_far (p := ⟨gb498, 2, none⟩) (Kd.R_far (p := ⟨gb498, 1, none⟩) (Kd.R_far (p := ⟨gb498, 0, none⟩) (Kd.R_types HO_6.out BK498.out (by decide)) (fun _ hk => hk.2) (.int .i64 t493)) (fun _ hk => hk.2) (.int .i64 t494)) (fun _ hk => hk.2) (.string t495)) (fun _ h_ => h_.1))) hb); have n2_ := Aside0.mk (blk_below (g := gb483) (o := .cells #[.int .i64 t476, .int .i64 t477, .bool t478, .bool t479] 30 (0, 0)) (by (with_reducible repeat (first | refine blk_drewN ?_ _ | refine blk_drew ?_ | refine blk_alloc ?_ _)); refine blk_far ?_ NB483_498.out _; (with_reducible repeat (first | refine blk_drewN ?_ _ | refine blk_drew ?_ | refine blk_alloc ?_ _)); refine blk_far ?_ NB483_498.out _; (with_reducible repeat (first | refine blk_drewN ?_ _ | refine blk_drew ?_ | refine blk_alloc ?_ _)); refine blk_far ?_ NB483_498.out _; (with_reducible repeat (first | refine blk_drewN ?_ _ | refine blk_drew ?_ | refine blk_alloc ?_ _)); exact BK483.out) hb); have n3_ := Aside0.mk (blk_below (g := gb484) (o := .cells #[.int .i64 t480, .int .i64 t481, .string t482] 32 (0, 0)) (by (with_reducible repeat (first | refine blk_drewN ?_ _ | refine blk_drew ?_ | refine blk_alloc ?_ _)); refine blk_far ?_ NB484_498.out _; (with_reducible repeat (first | refine blk_drewN ?_ _ | refine blk_drew ?_ | refine blk_alloc ?_ _)); refine blk_far ?_ NB484_498.out _; (with_reducible repeat (first | refine blk_drewN ?_ _ | refine blk_drew ?_ | refine blk_alloc ?_ _)); refine blk_far ?_ NB484_498.out _; (with_reducible repeat (first | refine blk_drewN ?_ _ | refine blk_drew ?_ | refine blk_alloc ?_ _)); exact BK484.out) hb); have n4_ := Aside0.mk (blk_below (g := gb498) (o := .cells #[.int .i64 t493, .int .i64 t494, .string t495] 32 (0, 0)) (by (with_reducible repeat (first | refine blk_drewN ?_ _ | refine blk_drew ?_ | refine blk_alloc ?_ _)); refine blk_put (cs := #[.int .i64 t493, .int .i64 t494, .string (⟨#[]⟩ : ByteArray)]) ?_ 2 _ rfl; (with_reducible repeat (first | refine blk_drewN ?_ _ | refine blk_drew ?_ | refine blk_alloc ?_ _)); refine blk_put (cs := #[.int .i64 t493, .int .i64 0, .string (⟨#[]⟩ : ByteArray)]) ?_ 1 _ rfl; (with_reducible repeat (first | refine blk_drewN ?_ _ | refine blk_drew ?_ | refine blk_alloc ?_ _)); refine blk_put (cs := #[.int .i64 0, .int .i64 0, .string (⟨#[]⟩ : ByteArray)]) ?_ 0 _ rfl; (with_reducible repeat (first | refine blk_drewN ?_ _ | refine blk_drew ?_ | refine blk_alloc ?_ _)); exact BK498.out) hb); have n5_ := Aside0.mk (below_step (by repeat (first | (with_reducible first | exact HB.out | apply below_alloc | apply pw_below_drewN | apply below_drew1 | refine below_set ?_ GE483.out | refine below_set ?_ GE484.out | refine below_set ?_ GE498.out) | exact HB.out)) hb); clear HO_3; clear HO_6; clear BK483; clear BK484; clear BK498; clear HB; have HO_3 := n0_; have HO_6 := n1_; have BK483 := n2_; have BK484 := n3_; have BK498 := n4_; have HB := n5_; clear n0_ n1_ n2_ n3_ n4_ n5_; (try clear hb); (try clear hb2); (try clear hk); (try clear hi)))
                  go_ret
                  exact ⟨by first | rfl | (simp [errW_none, errW_some] <;> rfl) | (simp [*, errW_none, errW_some] <;> rfl), by repeat (first | (with_reducible first | exact HB.out | apply below_alloc | apply pw_below_drewN | apply below_drew1 | refine below_set ?_ GE483.out | refine below_set ?_ GE484.out | refine below_set ?_ GE498.out) | exact HB.out)⟩
              · rw [if_neg c48] at H
                have c48b0 : (t496 == (t485.length : Int)) = false := beq_eq_false_iff_ne.mpr c48
                have c48b1 : (t496 != (t485.length : Int)) = true := bne_iff_ne.mpr c48
                obtain rfl := Option.some.inj H
                have hnb92 := NB483_484.out
                have hnc92 := NB484_483.out
                have hcz93_0 : wc.cell? ⟨gb483, 0, none⟩ = some (.int .i64 t476) := (blk_cell BK483.out 0).trans rfl
                have hcz93_1 : wc.cell? ⟨gb483, 1, none⟩ = some (.int .i64 t477) := (blk_cell BK483.out 1).trans rfl
                have hcz93_2 : wc.cell? ⟨gb483, 2, none⟩ = some (.bool t478) := (blk_cell BK483.out 2).trans rfl
                have hcz93_3 : wc.cell? ⟨gb483, 3, none⟩ = some (.bool t479) := (blk_cell BK483.out 3).trans rfl
                have hfz93_0 := blk_frozen BK483.out 0
                have hfz93_1 := blk_frozen BK483.out 1
                have hfz93_2 := blk_frozen BK483.out 2
                have hfz93_3 := blk_frozen BK483.out 3
                obtain ⟨Ao94, co94, eo94⟩ := Kd.R_slice HO_6.out
                subst eo94
                go_wp2_with (first | ((with_reducible refine gate_callee (f := 23) rfl ?_); refine gL (some 49) Try.func23 #[.slice Ao94 t485.length co94, .agg #[.int .i64 t476, .int .i64 t477, .bool t478, .bool t479], .int .i64 (t473.length : Int)] ?_; (with_reducible refine (impl_GetPart.calls kj5 _ _ t485 t476 t477 t478 t479 (t473.length : Int) t493 t494 t495 t496 true _ ?side1 ?side2 A45.out).mono ?_); (case side1 => repeat (first | exact (Kd.R_reads' HO_6.out).2.2 | (with_reducible refine Kd.C_alloc ?_ _) | (with_reducible refine Kd.C_drewN ?_ _) | (with_reducible refine Kd.C_drew ?_))); (case side2 => exact (Kd.R_reads' HO_6.out).2.1); rintro e w95 ⟨rfl, hb⟩; refine ⟨_, rfl, ?_⟩; have n0_ := Aside0.mk (Kd.R_below (by (with_reducible repeat (first | apply Kd.R_alloc | apply Kd.R_drewN | apply Kd.R_drew)); exact HO_3.out) hb); have n1_ := Aside0.mk (Kd.R_below (by (with_reducible repeat (first | apply Kd.R_alloc | apply Kd.R_drewN | apply Kd.R_drew)); exact HO_6.out) hb); have n2_ := Aside0.mk (blk_below (g := gb483) (o := .cells #[.int .i64 t476, .int .i64 t477, .bool t478, .bool t479] 30 (0, 0)) (by (with_reducible repeat (first | refine blk_drewN ?_ _ | refine blk_drew ?_ | refine blk_alloc ?_ _)); exact BK483.out) hb); have n3_ := Aside0.mk (blk_below (g := gb484) (o := .cells #[.int .i64 t480, .int .i64 t481, .string t482] 32 (0, 0)) (by (with_reducible repeat (first | refine blk_drewN ?_ _ | refine blk_drew ?_ | refine blk_alloc ?_ _)); exact BK484.out) hb); have n4_ := Aside0.mk (below_step (by repeat (first | (with_reducible first | exact HB.out | apply below_alloc | apply pw_below_drewN | apply below_drew1 | refine below_set ?_ GE483.out | refine below_set ?_ GE484.out) | exact HB.out)) hb); clear HO_3; clear HO_6; clear BK483; clear BK484; clear HB; have HO_3 := n0_; have HO_6 := n1_; have BK483 := n2_; have BK484 := n3_; have HB := n4_; clear n0_ n1_ n2_ n3_ n4_; (try clear hb); (try clear hb2); (try clear hk); (try clear hi)) | ((with_reducible refine gate_dst (N := 7) rfl ?_); (try (refine gate_guard (by rfl) ?_; dsimp only)); refine box_event ?hg (N := 7) ?hd (cs := #[.int .i64 0, .int .i64 0, .string (⟨#[]⟩ : ByteArray)]) (t := 32) ?hr ?_; (case hd => rfl); (case hg => rfl); (case hr => first | (go_simp; done) | (go_simp; rfl)); intro gb498 hg w96 hbox hb; have n0_ := Aside0.mk (Kd.R_below (by (with_reducible repeat (first | apply Kd.R_alloc | apply Kd.R_drewN | apply Kd.R_drew)); exact HO_3.out) hb); have n1_ := Aside0.mk (Kd.R_below (by (with_reducible repeat (first | apply Kd.R_alloc | apply Kd.R_drewN | apply Kd.R_drew)); exact HO_6.out) hb); have n2_ := Aside0.mk (blk_below (g := gb483) (o := .cells #[.int .i64 t476, .int .i64 t477, .bool t478, .bool t479] 30 (0, 0)) (by (with_reducible repeat (first | refine blk_drewN ?_ _ | refine blk_drew ?_ | refine blk_alloc ?_ _)); exact BK483.out) hb); have n3_ := Aside0.mk (blk_below (g := gb484) (o := .cells #[.int .i64 t480, .int .i64 t481, .string t482] 32 (0, 0)) (by (with_reducible repeat (first | refine blk_drewN ?_ _ | refine blk_drew ?_ | refine blk_alloc ?_ _)); exact BK484.out) hb); have n4_ := Aside0.mk (below_step (by repeat (first | (with_reducible first | exact HB.out | apply below_alloc | apply pw_below_drewN | apply below_drew1 | refine below_set ?_ GE483.out | refine below_set ?_ GE484.out) | exact HB.out)) hb); have n5_ := Aside0.mk (hbox); have n6_ := Aside0.mk ((by rw [hg]; exact (below_size (by repeat (first | (with_reducible first | exact HB.out | apply below_alloc | apply pw_below_drewN | apply below_drew1 | refine below_set ?_ GE483.out | refine below_set ?_ GE484.out) | exact HB.out))) : w.heap.size ≤ gb498)); have n7_ := Aside0.mk ((by rw [hg]; exact (below_size (by repeat (first | (with_reducible first | exact HB.out | apply below_alloc | apply pw_below_drewN | apply below_drew1 | refine below_set ?_ GE483.out | refine below_set ?_ GE484.out) | exact HB.out))) : w.heap.size ≤ gb498)); have n8_ := Aside0.mk ((by rw [hg]; exact Nat.ne_of_lt (blk_lt (g := gb483) (o := .cells #[.int .i64 t476, .int .i64 t477, .bool t478, .bool t479] 30 (0, 0)) (by (with_reducible repeat (first | refine blk_drewN ?_ _ | refine blk_drew ?_ | refine blk_alloc ?_ _)); exact BK483.out)) : gb483 ≠ gb498)); have n9_ := Aside0.mk ((by rw [hg]; exact Nat.ne_of_gt (blk_lt (g := gb483) (o := .cells #[.int .i64 t476, .int .i64 t477, .bool t478, .bool t479] 30 (0, 0)) (by (with_reducible repeat (first | refine blk_drewN ?_ _ | refine blk_drew ?_ | refine blk_alloc ?_ _)); exact BK483.out)) : gb498 ≠ gb483)); have n10_ := Aside0.mk ((by rw [hg]; exact Nat.ne_of_lt (blk_lt (g := gb484) (o := .cells #[.int .i64 t480, .int .i64 t481, .string t482] 32 (0, 0)) (by (with_reducible repeat (first | refine blk_drewN ?_ _ | refine blk_drew ?_ | refine blk_alloc ?_ _)); exact BK484.out)) : gb484 ≠ gb498)); have n11_ := Aside0.mk ((by rw [hg]; exact Nat.ne_of_gt (blk_lt (g := gb484) (o := .cells #[.int .i64 t480, .int .i64 t481, .string t482] 32 (0, 0)) (by (with_reducible repeat (first | refine blk_drewN ?_ _ | refine blk_drew ?_ | refine blk_alloc ?_ _)); exact BK484.out)) : gb498 ≠ gb484)); clear HO_3; clear HO_6; clear BK483; clear BK484; clear HB; have HO_3 := n0_; have HO_6 := n1_; have BK483 := n2_; have BK484 := n3_; have HB := n4_; have BK498 := n5_; have GW498 := n6_; have GE498 := n7_; have NB483_498 := n8_; have NB498_483 := n9_; have NB484_498 := n10_; have NB498_484 := n11_; clear n0_ n1_ n2_ n3_ n4_ n5_ n6_ n7_ n8_ n9_ n10_ n11_; clear hb hbox hg; have hnb97 := NB498_483.out; have hnc97 := NB483_498.out; have hnb98 := NB498_484.out; have hnc98 := NB484_498.out; have hcz99_0 : w96.cell? ⟨gb498, 0, none⟩ = some (.int .i64 0) := (blk_cell BK498.out 0).trans rfl; have hcz99_1 : w96.cell? ⟨gb498, 1, none⟩ = some (.int .i64 0) := (blk_cell BK498.out 1).trans rfl; have hcz99_2 : w96.cell? ⟨gb498, 2, none⟩ = some (.string (⟨#[]⟩ : ByteArray)) := (blk_cell BK498.out 2).trans rfl; have hfz99_0 := blk_frozen BK498.out 0; have hfz99_1 := blk_frozen BK498.out 1; have hfz99_2 := blk_frozen BK498.out 2; have hcz100_0 : w96.cell? ⟨gb484, 0, none⟩ = some (.int .i64 t480) := (blk_cell BK484.out 0).trans rfl; have hcz100_1 : w96.cell? ⟨gb484, 1, none⟩ = some (.int .i64 t481) := (blk_cell BK484.out 1).trans rfl; have hcz100_2 : w96.cell? ⟨gb484, 2, none⟩ = some (.string t482) := (blk_cell BK484.out 2).trans rfl; have hfz100_0 := blk_frozen BK484.out 0; have hfz100_1 := blk_frozen BK484.out 1; have hfz100_2 := blk_frozen BK484.out 2))
                go_ret
                exact ⟨by first | rfl | (simp [errW_none, errW_some] <;> rfl) | (simp [*, errW_none, errW_some] <;> rfl), by repeat (first | (with_reducible first | exact HB.out | apply below_alloc | apply pw_below_drewN | apply below_drew1 | refine below_set ?_ GE483.out | refine below_set ?_ GE484.out | refine below_set ?_ GE498.out) | exact HB.out)⟩
            · rw [if_neg c47] at H
              have c47b0 : (t493 == t480 && (t494 == t481 && (t495.toList == t482.toList))) = false := by simpa using c47
              (try (have c47b1 : decide (t493 = t480 && (t494 == t481 && (t495.toList == t482.toList))) = false := by simpa using c47))
              (try (have c47b2 : (t493 == t480 && (t494 == t481 && (t495.toList == t482.toList))) = false := by simpa using c47))
              (try (have c47b3 : ¬ (t493 = t480 && (t494 == t481 && (t495.toList == t482.toList))) := by simpa using c47))
              clear c47
              obtain rfl := Option.some.inj H
              have hnb101 := NB483_484.out
              have hnc101 := NB484_483.out
              have hcz102_0 : wc.cell? ⟨gb483, 0, none⟩ = some (.int .i64 t476) := (blk_cell BK483.out 0).trans rfl
              have hcz102_1 : wc.cell? ⟨gb483, 1, none⟩ = some (.int .i64 t477) := (blk_cell BK483.out 1).trans rfl
              have hcz102_2 : wc.cell? ⟨gb483, 2, none⟩ = some (.bool t478) := (blk_cell BK483.out 2).trans rfl
              have hcz102_3 : wc.cell? ⟨gb483, 3, none⟩ = some (.bool t479) := (blk_cell BK483.out 3).trans rfl
              have hfz102_0 := blk_frozen BK483.out 0
              have hfz102_1 := blk_frozen BK483.out 1
              have hfz102_2 := blk_frozen BK483.out 2
              have hfz102_3 := blk_frozen BK483.out 3
              obtain ⟨Ao103, co103, eo103⟩ := Kd.R_slice HO_6.out
              subst eo103
              go_wp2_with (first | ((with_reducible refine gate_callee (f := 23) rfl ?_); refine gL (some 49) Try.func23 #[.slice Ao103 t485.length co103, .agg #[.int .i64 t476, .int .i64 t477, .bool t478, .bool t479], .int .i64 (t473.length : Int)] ?_; (with_reducible refine (impl_GetPart.calls kj5 _ _ t485 t476 t477 t478 t479 (t473.length : Int) t493 t494 t495 t496 true _ ?side1 ?side2 A45.out).mono ?_); (case side1 => repeat (first | exact (Kd.R_reads' HO_6.out).2.2 | (with_reducible refine Kd.C_alloc ?_ _) | (with_reducible refine Kd.C_drewN ?_ _) | (with_reducible refine Kd.C_drew ?_))); (case side2 => exact (Kd.R_reads' HO_6.out).2.1); rintro e w104 ⟨rfl, hb⟩; refine ⟨_, rfl, ?_⟩; have n0_ := Aside0.mk (Kd.R_below (by (with_reducible repeat (first | apply Kd.R_alloc | apply Kd.R_drewN | apply Kd.R_drew)); exact HO_3.out) hb); have n1_ := Aside0.mk (Kd.R_below (by (with_reducible repeat (first | apply Kd.R_alloc | apply Kd.R_drewN | apply Kd.R_drew)); exact HO_6.out) hb); have n2_ := Aside0.mk (blk_below (g := gb483) (o := .cells #[.int .i64 t476, .int .i64 t477, .bool t478, .bool t479] 30 (0, 0)) (by (with_reducible repeat (first | refine blk_drewN ?_ _ | refine blk_drew ?_ | refine blk_alloc ?_ _)); exact BK483.out) hb); have n3_ := Aside0.mk (blk_below (g := gb484) (o := .cells #[.int .i64 t480, .int .i64 t481, .string t482] 32 (0, 0)) (by (with_reducible repeat (first | refine blk_drewN ?_ _ | refine blk_drew ?_ | refine blk_alloc ?_ _)); exact BK484.out) hb); have n4_ := Aside0.mk (below_step (by repeat (first | (with_reducible first | exact HB.out | apply below_alloc | apply pw_below_drewN | apply below_drew1 | refine below_set ?_ GE483.out | refine below_set ?_ GE484.out) | exact HB.out)) hb); clear HO_3; clear HO_6; clear BK483; clear BK484; clear HB; have HO_3 := n0_; have HO_6 := n1_; have BK483 := n2_; have BK484 := n3_; have HB := n4_; clear n0_ n1_ n2_ n3_ n4_; (try clear hb); (try clear hb2); (try clear hk); (try clear hi)) | ((with_reducible refine gate_dst (N := 7) rfl ?_); (try (refine gate_guard (by rfl) ?_; dsimp only)); refine box_event ?hg (N := 7) ?hd (cs := #[.int .i64 0, .int .i64 0, .string (⟨#[]⟩ : ByteArray)]) (t := 32) ?hr ?_; (case hd => rfl); (case hg => rfl); (case hr => first | (go_simp; done) | (go_simp; rfl)); intro gb498 hg w105 hbox hb; have n0_ := Aside0.mk (Kd.R_below (by (with_reducible repeat (first | apply Kd.R_alloc | apply Kd.R_drewN | apply Kd.R_drew)); exact HO_3.out) hb); have n1_ := Aside0.mk (Kd.R_below (by (with_reducible repeat (first | apply Kd.R_alloc | apply Kd.R_drewN | apply Kd.R_drew)); exact HO_6.out) hb); have n2_ := Aside0.mk (blk_below (g := gb483) (o := .cells #[.int .i64 t476, .int .i64 t477, .bool t478, .bool t479] 30 (0, 0)) (by (with_reducible repeat (first | refine blk_drewN ?_ _ | refine blk_drew ?_ | refine blk_alloc ?_ _)); exact BK483.out) hb); have n3_ := Aside0.mk (blk_below (g := gb484) (o := .cells #[.int .i64 t480, .int .i64 t481, .string t482] 32 (0, 0)) (by (with_reducible repeat (first | refine blk_drewN ?_ _ | refine blk_drew ?_ | refine blk_alloc ?_ _)); exact BK484.out) hb); have n4_ := Aside0.mk (below_step (by repeat (first | (with_reducible first | exact HB.out | apply below_alloc | apply pw_below_drewN | apply below_drew1 | refine below_set ?_ GE483.out | refine below_set ?_ GE484.out) | exact HB.out)) hb); have n5_ := Aside0.mk (hbox); have n6_ := Aside0.mk ((by rw [hg]; exact (below_size (by repeat (first | (with_reducible first | exact HB.out | apply below_alloc | apply pw_below_drewN | apply below_drew1 | refine below_set ?_ GE483.out | refine below_set ?_ GE484.out) | exact HB.out))) : w.heap.size ≤ gb498)); have n7_ := Aside0.mk ((by rw [hg]; exact (below_size (by repeat (first | (with_reducible first | exact HB.out | apply below_alloc | apply pw_below_drewN | apply below_drew1 | refine below_set ?_ GE483.out | refine below_set ?_ GE484.out) | exact HB.out))) : w.heap.size ≤ gb498)); have n8_ := Aside0.mk ((by rw [hg]; exact Nat.ne_of_lt (blk_lt (g := gb483) (o := .cells #[.int .i64 t476, .int .i64 t477, .bool t478, .bool t479] 30 (0, 0)) (by (with_reducible repeat (first | refine blk_drewN ?_ _ | refine blk_drew ?_ | refine blk_alloc ?_ _)); exact BK483.out)) : gb483 ≠ gb498)); have n9_ := Aside0.mk ((by rw [hg]; exact Nat.ne_of_gt (blk_lt (g := gb483) (o := .cells #[.int .i64 t476, .int .i64 t477, .bool t478, .bool t479] 30 (0, 0)) (by (with_reducible repeat (first | refine blk_drewN ?_ _ | refine blk_drew ?_ | refine blk_alloc ?_ _)); exact BK483.out)) : gb498 ≠ gb483)); have n10_ := Aside0.mk ((by rw [hg]; exact Nat.ne_of_lt (blk_lt (g := gb484) (o := .cells #[.int .i64 t480, .int .i64 t481, .string t482] 32 (0, 0)) (by (with_reducible repeat (first | refine blk_drewN ?_ _ | refine blk_drew ?_ | refine blk_alloc ?_ _)); exact BK484.out)) : gb484 ≠ gb498)); have n11_ := Aside0.mk ((by rw [hg]; exact Nat.ne_of_gt (blk_lt (g := gb484) (o := .cells #[.int .i64 t480, .int .i64 t481, .string t482] 32 (0, 0)) (by (with_reducible repeat (first | refine blk_drewN ?_ _ | refine blk_drew ?_ | refine blk_alloc ?_ _)); exact BK484.out)) : gb498 ≠ gb484)); clear HO_3; clear HO_6; clear BK483; clear BK484; clear HB; have HO_3 := n0_; have HO_6 := n1_; have BK483 := n2_; have BK484 := n3_; have HB := n4_; have BK498 := n5_; have GW498 := n6_; have GE498 := n7_; have NB483_498 := n8_; have NB498_483 := n9_; have NB484_498 := n10_; have NB498_484 := n11_; clear n0_ n1_ n2_ n3_ n4_ n5_ n6_ n7_ n8_ n9_ n10_ n11_; clear hb hbox hg; have hnb106 := NB498_483.out; have hnc106 := NB483_498.out; have hnb107 := NB498_484.out; have hnc107 := NB484_498.out; have hcz108_0 : w105.cell? ⟨gb498, 0, none⟩ = some (.int .i64 0) := (blk_cell BK498.out 0).trans rfl; have hcz108_1 : w105.cell? ⟨gb498, 1, none⟩ = some (.int .i64 0) := (blk_cell BK498.out 1).trans rfl; have hcz108_2 : w105.cell? ⟨gb498, 2, none⟩ = some (.string (⟨#[]⟩ : ByteArray)) := (blk_cell BK498.out 2).trans rfl; have hfz108_0 := blk_frozen BK498.out 0; have hfz108_1 := blk_frozen BK498.out 1; have hfz108_2 := blk_frozen BK498.out 2; have hcz109_0 : w105.cell? ⟨gb484, 0, none⟩ = some (.int .i64 t480) := (blk_cell BK484.out 0).trans rfl; have hcz109_1 : w105.cell? ⟨gb484, 1, none⟩ = some (.int .i64 t481) := (blk_cell BK484.out 1).trans rfl; have hcz109_2 : w105.cell? ⟨gb484, 2, none⟩ = some (.string t482) := (blk_cell BK484.out 2).trans rfl; have hfz109_0 := blk_frozen BK484.out 0; have hfz109_1 := blk_frozen BK484.out 1; have hfz109_2 := blk_frozen BK484.out 2))
              go_ret
              exact ⟨by first | rfl | (simp [errW_none, errW_some] <;> rfl) | (simp [*, errW_none, errW_some] <;> rfl), by repeat (first | (with_reducible first | exact HB.out | apply below_alloc | apply pw_below_drewN | apply below_drew1 | refine below_set ?_ GE483.out | refine below_set ?_ GE484.out | refine below_set ?_ GE498.out) | exact HB.out)⟩
          · replace c46 := Bool.eq_false_iff.mpr c46
            subst c46
            have H1 : (some false) = some r := by rw [if_neg (show ¬ (false = true) by decide)] at H; exact H
            clear H
            have H := H1
            clear H1
            obtain rfl := Option.some.inj H
            have hnb110 := NB483_484.out
            have hnc110 := NB484_483.out
            have hcz111_0 : wc.cell? ⟨gb483, 0, none⟩ = some (.int .i64 t476) := (blk_cell BK483.out 0).trans rfl
            have hcz111_1 : wc.cell? ⟨gb483, 1, none⟩ = some (.int .i64 t477) := (blk_cell BK483.out 1).trans rfl
            have hcz111_2 : wc.cell? ⟨gb483, 2, none⟩ = some (.bool t478) := (blk_cell BK483.out 2).trans rfl
            have hcz111_3 : wc.cell? ⟨gb483, 3, none⟩ = some (.bool t479) := (blk_cell BK483.out 3).trans rfl
            have hfz111_0 := blk_frozen BK483.out 0
            have hfz111_1 := blk_frozen BK483.out 1
            have hfz111_2 := blk_frozen BK483.out 2
            have hfz111_3 := blk_frozen BK483.out 3
            obtain ⟨Ao112, co112, eo112⟩ := Kd.R_slice HO_6.out
            subst eo112
            go_wp2_with (first | ((with_reducible refine gate_callee (f := 23) rfl ?_); refine gL (some 49) Try.func23 #[.slice Ao112 t485.length co112, .agg #[.int .i64 t476, .int .i64 t477, .bool t478, .bool t479], .int .i64 (t473.length : Int)] ?_; (with_reducible refine (impl_GetPart.calls kj5 _ _ t485 t476 t477 t478 t479 (t473.length : Int) t493 t494 t495 t496 false _ ?side1 ?side2 A45.out).mono ?_); (case side1 => repeat (first | exact (Kd.R_reads' HO_6.out).2.2 | (with_reducible refine Kd.C_alloc ?_ _) | (with_reducible refine Kd.C_drewN ?_ _) | (with_reducible refine Kd.C_drew ?_))); (case side2 => exact (Kd.R_reads' HO_6.out).2.1); rintro e w113 ⟨rfl, hb⟩; refine ⟨_, rfl, ?_⟩; have n0_ := Aside0.mk (Kd.R_below (by (with_reducible repeat (first | apply Kd.R_alloc | apply Kd.R_drewN | apply Kd.R_drew)); exact HO_3.out) hb); have n1_ := Aside0.mk (Kd.R_below (by (with_reducible repeat (first | apply Kd.R_alloc | apply Kd.R_drewN | apply Kd.R_drew)); exact HO_6.out) hb); have n2_ := Aside0.mk (blk_below (g := gb483) (o := .cells #[.int .i64 t476, .int .i64 t477, .bool t478, .bool t479] 30 (0, 0)) (by (with_reducible repeat (first | refine blk_drewN ?_ _ | refine blk_drew ?_ | refine blk_alloc ?_ _)); exact BK483.out) hb); have n3_ := Aside0.mk (blk_below (g := gb484) (o := .cells #[.int .i64 t480, .int .i64 t481, .string t482] 32 (0, 0)) (by (with_reducible repeat (first | refine blk_drewN ?_ _ | refine blk_drew ?_ | refine blk_alloc ?_ _)); exact BK484.out) hb); have n4_ := Aside0.mk (below_step (by repeat (first | (with_reducible first | exact HB.out | apply below_alloc | apply pw_below_drewN | apply below_drew1 | refine below_set ?_ GE483.out | refine below_set ?_ GE484.out) | exact HB.out)) hb); clear HO_3; clear HO_6; clear BK483; clear BK484; clear HB; have HO_3 := n0_; have HO_6 := n1_; have BK483 := n2_; have BK484 := n3_; have HB := n4_; clear n0_ n1_ n2_ n3_ n4_; (try clear hb); (try clear hb2); (try clear hk); (try clear hi)) | ((with_reducible refine gate_dst (N := 7) rfl ?_); (try (refine gate_guard (by rfl) ?_; dsimp only)); refine box_event ?hg (N := 7) ?hd (cs := #[.int .i64 0, .int .i64 0, .string (⟨#[]⟩ : ByteArray)]) (t := 32) ?hr ?_; (case hd => rfl); (case hg => rfl); (case hr => first | (go_simp; done) | (go_simp; rfl)); intro gb498 hg w114 hbox hb; have n0_ := Aside0.mk (Kd.R_below (by (with_reducible repeat (first | apply Kd.R_alloc | apply Kd.R_drewN | apply Kd.R_drew)); exact HO_3.out) hb); have n1_ := Aside0.mk (Kd.R_below (by (with_reducible repeat (first | apply Kd.R_alloc | apply Kd.R_drewN | apply Kd.R_drew)); exact HO_6.out) hb); have n2_ := Aside0.mk (blk_below (g := gb483) (o := .cells #[.int .i64 t476, .int .i64 t477, .bool t478, .bool t479] 30 (0, 0)) (by (with_reducible repeat (first | refine blk_drewN ?_ _ | refine blk_drew ?_ | refine blk_alloc ?_ _)); exact BK483.out) hb); have n3_ := Aside0.mk (blk_below (g := gb484) (o := .cells #[.int .i64 t480, .int .i64 t481, .string t482] 32 (0, 0)) (by (with_reducible repeat (first | refine blk_drewN ?_ _ | refine blk_drew ?_ | refine blk_alloc ?_ _)); exact BK484.out) hb); have n4_ := Aside0.mk (below_step (by repeat (first | (with_reducible first | exact HB.out | apply below_alloc | apply pw_below_drewN | apply below_drew1 | refine below_set ?_ GE483.out | refine below_set ?_ GE484.out) | exact HB.out)) hb); have n5_ := Aside0.mk (hbox); have n6_ := Aside0.mk ((by rw [hg]; exact (below_size (by repeat (first | (with_reducible first | exact HB.out | apply below_alloc | apply pw_below_drewN | apply below_drew1 | refine below_set ?_ GE483.out | refine below_set ?_ GE484.out) | exact HB.out))) : w.heap.size ≤ gb498)); have n7_ := Aside0.mk ((by rw [hg]; exact (below_size (by repeat (first | (with_reducible first | exact HB.out | apply below_alloc | apply pw_below_drewN | apply below_drew1 | refine below_set ?_ GE483.out | refine below_set ?_ GE484.out) | exact HB.out))) : w.heap.size ≤ gb498)); have n8_ := Aside0.mk ((by rw [hg]; exact Nat.ne_of_lt (blk_lt (g := gb483) (o := .cells #[.int .i64 t476, .int .i64 t477, .bool t478, .bool t479] 30 (0, 0)) (by (with_reducible repeat (first | refine blk_drewN ?_ _ | refine blk_drew ?_ | refine blk_alloc ?_ _)); exact BK483.out)) : gb483 ≠ gb498)); have n9_ := Aside0.mk ((by rw [hg]; exact Nat.ne_of_gt (blk_lt (g := gb483) (o := .cells #[.int .i64 t476, .int .i64 t477, .bool t478, .bool t479] 30 (0, 0)) (by (with_reducible repeat (first | refine blk_drewN ?_ _ | refine blk_drew ?_ | refine blk_alloc ?_ _)); exact BK483.out)) : gb498 ≠ gb483)); have n10_ := Aside0.mk ((by rw [hg]; exact Nat.ne_of_lt (blk_lt (g := gb484) (o := .cells #[.int .i64 t480, .int .i64 t481, .string t482] 32 (0, 0)) (by (with_reducible repeat (first | refine blk_drewN ?_ _ | refine blk_drew ?_ | refine blk_alloc ?_ _)); exact BK484.out)) : gb484 ≠ gb498)); have n11_ := Aside0.mk ((by rw [hg]; exact Nat.ne_of_gt (blk_lt (g := gb484) (o := .cells #[.int .i64 t480, .int .i64 t481, .string t482] 32 (0, 0)) (by (with_reducible repeat (first | refine blk_drewN ?_ _ | refine blk_drew ?_ | refine blk_alloc ?_ _)); exact BK484.out)) : gb498 ≠ gb484)); clear HO_3; clear HO_6; clear BK483; clear BK484; clear HB; have HO_3 := n0_; have HO_6 := n1_; have BK483 := n2_; have BK484 := n3_; have HB := n4_; have BK498 := n5_; have GW498 := n6_; have GE498 := n7_; have NB483_498 := n8_; have NB498_483 := n9_; have NB484_498 := n10_; have NB498_484 := n11_; clear n0_ n1_ n2_ n3_ n4_ n5_ n6_ n7_ n8_ n9_ n10_ n11_; clear hb hbox hg; have hnb115 := NB498_483.out; have hnc115 := NB483_498.out; have hnb116 := NB498_484.out; have hnc116 := NB484_498.out; have hcz117_0 : w114.cell? ⟨gb498, 0, none⟩ = some (.int .i64 0) := (blk_cell BK498.out 0).trans rfl; have hcz117_1 : w114.cell? ⟨gb498, 1, none⟩ = some (.int .i64 0) := (blk_cell BK498.out 1).trans rfl; have hcz117_2 : w114.cell? ⟨gb498, 2, none⟩ = some (.string (⟨#[]⟩ : ByteArray)) := (blk_cell BK498.out 2).trans rfl; have hfz117_0 := blk_frozen BK498.out 0; have hfz117_1 := blk_frozen BK498.out 1; have hfz117_2 := blk_frozen BK498.out 2))
            go_ret
            exact ⟨by first | rfl | (simp [errW_none, errW_some] <;> rfl) | (simp [*, errW_none, errW_some] <;> rfl), by repeat (first | (with_reducible first | exact HB.out | apply below_alloc | apply pw_below_drewN | apply below_drew1 | refine below_set ?_ GE483.out | refine below_set ?_ GE484.out | refine below_set ?_ GE498.out) | exact HB.out)⟩

/-- THE ONE PURE STATEMENT of laws_FnParts: yours. -/
def laws_FnParts.Pure : Prop := ∀ (l0 : List Int), l0.length ≤ maxLen → l0.length * 1 ≤ 140737488351232 → (∀ x ∈ l0, (Lit.int .u8 x).wf = true) → ∃ k, laws_FnParts.f k l0 = some true
theorem laws_FnParts.walk (P : laws_FnParts.Pure) (a0 : Option Addr) (len0 cap0 : Nat) (z0 : List Int) (w : World) (w0 : (a0 = none ∧ len0 = 0 ∧ cap0 = 0 ∧ z0 = []) ∨ ∃ x, a0 = some x ∧ len0 ≤ cap0 ∧ cap0 ≤ maxLen ∧ z0.length = cap0 ∧ (∀ i, i < z0.length → w.cell? (x.add i) = some (.int .u8 (z0.getD i 0))) ∧ ∀ n ∈ z0, (Lit.int .u8 n).wf = true) (y0 : len0 * 1 ≤ 140737488351232) :
    Calls Try.prog 5 #[.slice a0 len0 cap0] w fun e w' => e = .returned (.bool true) ∧ Below w.heap.size w w' := by
  obtain ⟨l0, rfl, hr0, hm0, hw0, hc0⟩ := ReadsInt.ofRowC w0
  obtain ⟨k, h⟩ := P l0 hm0 y0 hw0
  refine (laws_FnParts.calls k _ _ l0 true w (Kd.C_of_reads (d := (0 : Int)) (h1 := fun _ => rfl) hr0) hc0 h).mono ?_
  rintro e w' ⟨rfl, hd⟩
  exact ⟨rfl, hd⟩

end Go.Proofs.Ytnfmpopmigbkoaa.PFnParts

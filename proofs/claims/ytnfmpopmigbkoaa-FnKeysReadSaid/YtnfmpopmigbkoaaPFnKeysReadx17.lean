-- Written by mkprint.py, a program of this session (the printer with additions of its own)
import Derived.Test.YtnfmpopmigbkoaaPFnKeysReadx0
import Derived.Test.YtnfmpopmigbkoaaPFnKeysReadx10
import Derived.Test.YtnfmpopmigbkoaaPFnKeysReadx15
import Derived.Test.YtnfmpopmigbkoaaPFnKeysReadx16
namespace Go.Proofs.Ytnfmpopmigbkoaa.PFnKeysRead
open Go.RowKit Go.Proofs.YtnfmpopmigbkoaaW.PrintWords Go.Proofs.YtnfmpopmigbkoaaW.PrintLast Go.Proofs.YtnfmpopmigbkoaaW.PrintMore
attribute [local go_sem] max2_int min2_int max_two min_two max_three min_three max_four min_four   -- for this text's walks alone
set_option linter.unusedVariables false
set_option linter.unusedSimpArgs false

/-! ### spec_l2Of: function 112 -/
def spec_l2Of.j0 : Nat → Int → Bool → List Int → Int → Int → Option (Int × Int × ByteArray × Int × Int)
  | 0, _, _, _, _, _ => none
  | k + 1, x1, x12, x1000, x1001, x1002 => if x12 = true then (some (0, 0, (⟨#[]⟩ : ByteArray), x1001, x1002)) else (if x1 = 1 then ((spec_l1Int.f x1000 x1001 x1002 (([0, 1, 2, 3, (-1), 255, 256, 2147483647, (-2147483648)] : List Int))).bind fun bt690 => (some (x1, bt690.1, (⟨#[]⟩ : ByteArray), bt690.2.1, bt690.2.2))) else (if x1 = 2 then ((spec_l1Below.f x1000 x1001 x1002 100000).bind fun bt693 => ((spec_l1Int.f x1000 bt693.2.1 bt693.2.2 (([0, 1, (-1), 255, 256, (-256), (-257), 65535, 1000000000000000, (-1000000000000000), wrap64 (-bt693.1)] : List Int))).bind fun bt699 => (some (x1, bt699.1, (⟨#[]⟩ : ByteArray), bt699.2.1, bt699.2.2)))) else (if x1 = 3 then ((spec_l2Text.f x1000 x1001 x1002).bind fun bt702 => (some (x1, 0, bt702.1, bt702.2.1, bt702.2.2))) else ((spec_l1Below.f x1000 x1001 x1002 2).bind fun bt705 => (some (x1, bt705.1, (⟨#[]⟩ : ByteArray), bt705.2.1, bt705.2.2))))))
def spec_l2Of.f (k : Nat) (s0_0 : List Int) (s0_1 : Int) (s0_2 : Int) (a1 : Int) (a2 : Bool) : Option (Int × Int × ByteArray × Int × Int) := if a2 = true then ((spec_l1Once.f s0_0 s0_1 s0_2 4).bind fun bt683 => (spec_l2Of.j0 k a1 bt683.1 s0_0 bt683.2.1 bt683.2.2)) else (spec_l2Of.j0 k a1 false s0_0 s0_1 s0_2)
set_option maxHeartbeats 8000000 in
set_option maxRecDepth 100000 in
theorem spec_l2Of.calls (k : Nat) (g : Nat) (s0_0 : List Int) (s0_1 : Int) (s0_2 : Int) (a1 : Int) (a2 : Bool) (r1 : Int) (r2 : Int) (r3 : ByteArray) (r4 : Int) (r5 : Int) (w0 w : World) (hI : IsS102 w0 w g s0_0 s0_1 s0_2) (hB : Below w0.heap.size w0 w) (h : spec_l2Of.f k s0_0 s0_1 s0_2 a1 a2 = some (r1, r2, r3, r4, r5)) :
  Calls Try.prog 112 #[.pointer (some ⟨g, 0, none⟩), .int .i64 a1, .bool a2] w fun e w' => e = .returned (.agg #[.int .i64 r1, .int .i64 r2, .string r3]) ∧ IsS102 w0 w' g s0_0 r4 r5 ∧ Below w0.heap.size w0 w' ∧ KeepBut w w' g none := by
 have hu32 := Try.underlying32
 have HI0 := zA hI
 have HK := zA (KeepBut.refl w g none)
 have HL := zA hB.size
 clear hI
 have HW0 := zA hB.size
 have HB := zA hB
 clear hB
 have H : (if a2 = true then ((spec_l1Once.f s0_0 s0_1 s0_2 4).bind fun bt683 => (spec_l2Of.j0 k a1 bt683.1 s0_0 bt683.2.1 bt683.2.2)) else (spec_l2Of.j0 k a1 false s0_0 s0_1 s0_2)) = some (r1, r2, r3, r4, r5) := h
 clear h
 have HC4 := zA H
 clear H
 go_enter Try.func112, Try.ntmps112
 go_upto_region 1 with (first | ((with_reducible refine zt 6 ?_); refine zn #[.int .i64 0, .int .i64 0, .string (⟨#[]⟩ : ByteArray)] 32 ?_; intro gb682 hg w5 hbox hb; replace HB := zS hb zz1; have BK682 := zA hbox; have GW682 := zA ((zz46 : w.heap.size ≤ gb682)); have GE682 := zA ((Nat.le_trans HW0.out (zz46 : w.heap.size ≤ gb682) : w0.heap.size ≤ gb682)); replace HK := zT (KeepBut.of_below hb g none); have NB0_682 := zA ((zz95 : g ≠ gb682)); have NB682_0 := zA ((zz96 : gb682 ≠ g)); replace HI0 := zA (IsS102.below zz0 hb); clear hb hbox hg))
 (try simp only [Act.put, List.setIfInBounds_toArray, List.set_cons_zero, List.set_cons_succ])
 go_cut [12] (fun v12 wc => ∃ (kq : Nat) (x12_3 : Bool) (x1001_3 : Int) (x1002_3 : Int), v12 = .bool x12_3 ∧ Aside0 (spec_l2Of.j0 kq a1 x12_3 s0_0 x1001_3 x1002_3 = some (r1, r2, r3, r4, r5)) ∧ Aside0 (kq ≤ k) ∧ Aside0 (wc.heap[gb682]? = some (.cells #[.int .i64 0, .int .i64 0, .string (⟨#[]⟩ : ByteArray)] 32 (0, 0))) ∧ Aside0 (IsS102 w0 wc g s0_0 x1001_3 x1002_3) ∧ Aside0 (KeepBut w wc g none) ∧ Aside0 (Below w0.heap.size w0 wc))
 case first =>
  have H := HC4.out
  clear HC4
  by_cases c6 : a2 = true
  ·subst c6
   rw [if_pos rfl] at H
   replace H := zI H
   obtain ⟨⟨t683, t684, t685⟩, A7, H⟩ := H
   try dsimp only at H
   have H' := zA H
   clear H
   go_wp2_with (first | (go_at_call 110; (with_reducible refine (spec_l1Once.calls g s0_0 s0_1 s0_2 4 t683 t684 t685 w0 _ ?z1 ?z2 A7.out).mono ?_); (case z1 => exact zz12); (case z2 => exact zz35); rintro e w8 ⟨rfl, hi, hb, hk⟩; replace BK682 := zV hk BK682 NB682_0; replace HK := zT hk (zf1 GW682); replace HB := zA hb; replace HI0 := zA hi; clear hb hk hi))
   go_meet
   case rel => exact ⟨_, (t683), (t684), (t685), zx, H', ⟨zo⟩, ⟨zk BK682⟩, ⟨zz12⟩, ⟨zf1 GW682⟩, ⟨zz35⟩⟩
  ·replace c6 := Bool.eq_false_iff.mpr c6
   subst c6
   rw [if_neg (Bool.false_ne_true)] at H
   have H' := zA H
   clear H
   go_wp2
   go_meet
   case rel => exact ⟨_, (false), (s0_1), (s0_2), zx, H', ⟨zo⟩, ⟨zk BK682⟩, ⟨zz12⟩, ⟨zf1 GW682⟩, ⟨zz35⟩⟩
 case rest =>
  clear HC4
  obtain ⟨kq, x12_3, x1001_3, x1002_3, rfl, HA, HJ3, BK682, HI0, HK, HB⟩ := hcut
  cases kq with
  | zero => exact absurd HA.out (by simp [spec_l2Of.j0])
  | succ kj3 =>
   have H := HA.out
   clear HA
   simp only [spec_l2Of.j0] at H
   by_cases c9 : x12_3 = true
   ·subst c9
    rw [if_pos rfl] at H
    simp only [Option.some.injEq, Prod.mk.injEq] at H
    obtain ⟨rfl, rfl, rfl, rfl, rfl⟩ := H
    have hnb10 := NB682_0.out
    have hnc10 := NB0_682.out
    obtain ⟨hcz11_0, hcz11_1, hcz11_2, hfz11_0, hfz11_1, hfz11_2⟩ := zh3 BK682
    go_wp2
    refine bodyPost_ret (results_cell_row rfl _ _ gb682 32 #[.int .i64 0, .int .i64 0, .string (⟨#[]⟩ : ByteArray)] (0, 0) _ rfl (by (with_reducible repeat (first | refine blk_drewN ?_ _ | refine blk_drew ?_ | refine blk_alloc ?_ _)); refine blk_put (cs := #[.int .i64 0, .int .i64 0, .string (⟨#[]⟩ : ByteArray)]) ?_ 2 _ rfl; (with_reducible repeat (first | refine blk_drewN ?_ _ | refine blk_drew ?_ | refine blk_alloc ?_ _)); refine blk_put (cs := #[.int .i64 0, .int .i64 0, .string (⟨#[]⟩ : ByteArray)]) ?_ 1 _ rfl; (with_reducible repeat (first | refine blk_drewN ?_ _ | refine blk_drew ?_ | refine blk_alloc ?_ _)); refine blk_put (cs := #[.int .i64 0, .int .i64 0, .string (⟨#[]⟩ : ByteArray)]) ?_ 0 _ rfl; (with_reducible repeat (first | refine blk_drewN ?_ _ | refine blk_drew ?_ | refine blk_alloc ?_ _)); exact BK682.out) Try.underlying32 rfl (by kernel_rfl)) rfl ?_
    exact ⟨zw, zz12, zz35, zf1 GW682⟩
   ·replace c9 := Bool.eq_false_iff.mpr c9
    subst c9
    rw [if_neg (Bool.false_ne_true)] at H
    by_cases c12 : a1 = 1
    ·rw [if_pos c12] at H
     have c12b0 : (a1 == 1) = true := beq_iff_eq.mpr c12
     have c12b1 : (a1 != 1) = false := bne_eq_false_iff_eq.mpr c12
     clear c12
     obtain ⟨y687, hy687⟩ : ∃ y_ : List Int, y_ = (([0, 1, 2, 3, (-1), 255, 256, 2147483647, (-2147483648)] : List Int)) := ⟨_, rfl⟩
     replace H : ((spec_l1Int.f s0_0 x1001_3 x1002_3 y687).bind fun bt690 => (some (a1, bt690.1, (⟨#[]⟩ : ByteArray), bt690.2.1, bt690.2.2))) = some (r1, r2, r3, r4, r5) := zy hy687
     have Ny687 := zA hy687
     clear hy687
     replace H := zI H
     obtain ⟨⟨t690, t691, t692⟩, A13, H⟩ := H
     try dsimp only at H
     simp only [Option.some.injEq, Prod.mk.injEq] at H
     obtain ⟨rfl, rfl, rfl, rfl, rfl⟩ := H
     go_wp2_with (first | ((with_reducible refine zt 7 ?_); refine zn #[.int .i64 0, .int .i64 0, .string (⟨#[]⟩ : ByteArray)] 32 ?_; intro gb686 hg w14 hbox hb; replace HB := zS hb zz35; have BK686 := zA hbox; have GW686 := zA ((zz80 : w.heap.size ≤ gb686)); have GE686 := zA ((Nat.le_trans HW0.out (zz80 : w.heap.size ≤ gb686) : w0.heap.size ≤ gb686)); replace HK := zT (KeepBut.of_below hb g none) (zf1 GW682); have NB682_686 := zX BK682 hg; have NB686_682 := zY BK682 hg; replace BK682 := zB BK682 hb; have NB0_686 := zA ((zz101 : g ≠ gb686)); have NB686_0 := zA ((zz102 : gb686 ≠ g)); replace HI0 := zA (IsS102.below zz12 hb); clear hb hbox hg; have hnb15 := NB686_682.out; have hnc15 := NB682_686.out; have hnb16 := NB686_0.out; have hnc16 := NB0_686.out; obtain ⟨hcz17_0, hcz17_1, hcz17_2, hfz17_0, hfz17_1, hfz17_2⟩ := zh3 BK686) | ((with_reducible refine zt 23 ?_); refine Kd.R_lit (Kd.int .i64) _ 3 ?hg (N := 23) ?hd (xs := ([0, 1, 2, 3, (-1), 255, 256, 2147483647, (-2147483648)] : List Int)) (inner := [.int .i64 0, .int .i64 1, .int .i64 2, .int .i64 3, .int .i64 (-1), .int .i64 255, .int .i64 256, .int .i64 2147483647, .int .i64 (-2147483648)]) (ok := fun _ => True) (okp := fun _ => True) ?hr ?hp (fun _ hk => hk) trivial (Below.refl _ _) (Nat.le_refl _) (by simp) ?_; (case hd => rfl); (case hg => rfl); (case hr => exact zz16); (case hp => exact (Reps.one (show Kd.M (Kd.int .i64) _ _ _ 0 [.int .i64 0] from rfl) (Reps.one (show Kd.M (Kd.int .i64) _ _ _ 1 [.int .i64 1] from rfl) (Reps.one (show Kd.M (Kd.int .i64) _ _ _ 2 [.int .i64 2] from rfl) (Reps.one (show Kd.M (Kd.int .i64) _ _ _ 3 [.int .i64 3] from rfl) (Reps.one (show Kd.M (Kd.int .i64) _ _ _ (-1) [.int .i64 (-1)] from rfl) (Reps.one (show Kd.M (Kd.int .i64) _ _ _ 255 [.int .i64 255] from rfl) (Reps.one (show Kd.M (Kd.int .i64) _ _ _ 256 [.int .i64 256] from rfl) (Reps.one (show Kd.M (Kd.int .i64) _ _ _ 2147483647 [.int .i64 2147483647] from rfl) (Reps.one (show Kd.M (Kd.int .i64) _ _ _ (-2147483648) [.int .i64 (-2147483648)] from rfl) (Reps.none _ _))))))))))); intro v688 w18 ho19 hb hg_ hnew_; clear hg_ hnew_; (first | rw [← Ny687.out] at ho19 | (simp only [Int.reduceToNat] at ho19; rw [← Ny687.out] at ho19)); have HO689 := zA (Kd.R_lower ho19 (keep_size (w := w) (g := g) (row := none) (zf2 GW682 GW686))); replace BK682 := zA (blk_below (g := gb682) (o := .cells #[.int .i64 0, .int .i64 0, .string (⟨#[]⟩ : ByteArray)] 32 (0, 0)) zz27 hb); replace BK686 := zA (blk_below (g := gb686) (o := .cells #[.int .i64 a1, .int .i64 0, .string (⟨#[]⟩ : ByteArray)] 32 (0, 0)) zz20 hb); replace HK := zT (KeepBut.of_below hb g none) (zf2 GW682 GW686); replace HB := zS hb zz24; replace HI0 := zA (IsS102.below (show IsS102 w0 (((w14.setCell ⟨gb686, 0, none⟩ (.int .i64 a1)).setCell ⟨gb686, 1, none⟩ (.int .i64 0)).setCell ⟨gb686, 2, none⟩ (.string (⟨#[]⟩ : ByteArray))) g s0_0 x1001_3 x1002_3 from zz13) hb); clear hb ho19; obtain ⟨Ao20, co20, eo20⟩ := Kd.R_slice HO689.out; subst eo20) | ((with_reducible refine zg 108 ?_); refine gL (some 24) Try.func108 #[.pointer (some ⟨g, 0, none⟩), .slice Ao20 y687.length co20] ?_; (with_reducible refine (spec_l1Int.calls g s0_0 x1001_3 x1002_3 _ _ y687 t690 t691 t692 w0 _ ?z1 ?z2 ?z3 ?z4 ?z5 A13.out).mono ?_); (case z1 => exact zz13); (case z2 => exact zz24); (case z3 => exact ze HO689); (case z4 => exact zl HO689); (case z5 => exact far_slice (IsS102.own_ne HI0.out HO689.out (by decide))); rintro e w21 ⟨rfl, hi, hb, hk⟩; refine ⟨_, rfl, ?_⟩; replace BK682 := zV hk BK682 NB682_0; replace BK686 := zV hk BK686 NB686_0; replace HO689 := zA (Kd.R_mono (Kd.R_keep (IsS102.apart (show IsS102 w0 _ g s0_0 x1001_3 x1002_3 from zz13) (zr HO689) (by decide)) hk (fun _ h => h.2)) (fun _ h => h.1)); replace HK := zT hk (zf2 GW682 GW686); replace HB := zA hb; replace HI0 := zA hi; clear hb hk hi; obtain ⟨hcz22_0, hcz22_1, hcz22_2, hfz22_0, hfz22_1, hfz22_2⟩ := zh3 BK686; have hnb23 := NB682_0.out; have hnc23 := NB0_682.out; obtain ⟨hcz24_0, hcz24_1, hcz24_2, hfz24_0, hfz24_1, hfz24_2⟩ := zh3 BK682))
     refine bodyPost_ret (results_cell_row rfl _ _ gb682 32 #[.int .i64 a1, .int .i64 t690, .string (⟨#[]⟩ : ByteArray)] (0, 0) _ rfl (by (with_reducible repeat (first | refine blk_drewN ?_ _ | refine blk_drew ?_ | refine blk_alloc ?_ _)); refine blk_put (cs := #[.int .i64 a1, .int .i64 t690, .string (⟨#[]⟩ : ByteArray)]) ?_ 2 _ rfl; (with_reducible repeat (first | refine blk_drewN ?_ _ | refine blk_drew ?_ | refine blk_alloc ?_ _)); refine blk_put (cs := #[.int .i64 a1, .int .i64 0, .string (⟨#[]⟩ : ByteArray)]) ?_ 1 _ rfl; (with_reducible repeat (first | refine blk_drewN ?_ _ | refine blk_drew ?_ | refine blk_alloc ?_ _)); refine blk_put (cs := #[.int .i64 0, .int .i64 0, .string (⟨#[]⟩ : ByteArray)]) ?_ 0 _ rfl; (with_reducible repeat (first | refine blk_drewN ?_ _ | refine blk_drew ?_ | refine blk_alloc ?_ _)); refine blk_far ?_ NB682_686.out _; (with_reducible repeat (first | refine blk_drewN ?_ _ | refine blk_drew ?_ | refine blk_alloc ?_ _)); exact BK682.out) Try.underlying32 rfl (by kernel_rfl)) rfl ?_
     exact ⟨zw, zz13, zz24, zf2 GW682 GW686⟩
    ·rw [if_neg c12] at H
     have c12b0 : (a1 == 1) = false := beq_eq_false_iff_ne.mpr c12
     have c12b1 : (a1 != 1) = true := bne_iff_ne.mpr c12
     by_cases c25 : a1 = 2
     ·rw [if_pos c25] at H
      have c25b0 : (a1 == 2) = true := beq_iff_eq.mpr c25
      have c25b1 : (a1 != 2) = false := bne_eq_false_iff_eq.mpr c25
      clear c25
      replace H := zI H
      obtain ⟨⟨t693, t694, t695⟩, A26, H⟩ := H
      try dsimp only at H
      obtain ⟨y696, hy696⟩ : ∃ y_ : List Int, y_ = (([0, 1, (-1), 255, 256, (-256), (-257), 65535, 1000000000000000, (-1000000000000000), wrap64 (-t693)] : List Int)) := ⟨_, rfl⟩
      replace H : ((spec_l1Int.f s0_0 t694 t695 y696).bind fun bt699 => (some (a1, bt699.1, (⟨#[]⟩ : ByteArray), bt699.2.1, bt699.2.2))) = some (r1, r2, r3, r4, r5) := zy hy696
      have Ny696 := zA hy696
      clear hy696
      replace H := zI H
      obtain ⟨⟨t699, t700, t701⟩, A27, H⟩ := H
      try dsimp only at H
      simp only [Option.some.injEq, Prod.mk.injEq] at H
      obtain ⟨rfl, rfl, rfl, rfl, rfl⟩ := H
      go_wp2_with (first | ((with_reducible refine zt 7 ?_); refine zn #[.int .i64 0, .int .i64 0, .string (⟨#[]⟩ : ByteArray)] 32 ?_; intro gb686 hg w28 hbox hb; replace HB := zS hb zz35; have BK686 := zA hbox; have GW686 := zA ((zz80 : w.heap.size ≤ gb686)); have GE686 := zA ((Nat.le_trans HW0.out (zz80 : w.heap.size ≤ gb686) : w0.heap.size ≤ gb686)); replace HK := zT (KeepBut.of_below hb g none) (zf1 GW682); have NB682_686 := zX BK682 hg; have NB686_682 := zY BK682 hg; replace BK682 := zB BK682 hb; have NB0_686 := zA ((zz101 : g ≠ gb686)); have NB686_0 := zA ((zz102 : gb686 ≠ g)); replace HI0 := zA (IsS102.below zz12 hb); clear hb hbox hg; have hnb29 := NB686_682.out; have hnc29 := NB682_686.out; have hnb30 := NB686_0.out; have hnc30 := NB0_686.out; obtain ⟨hcz31_0, hcz31_1, hcz31_2, hfz31_0, hfz31_1, hfz31_2⟩ := zh3 BK686) | ((with_reducible refine zg 107 ?_); refine gL (some 30) Try.func107 #[.pointer (some ⟨g, 0, none⟩), .int .i64 100000] ?_; (with_reducible refine (spec_l1Below.calls g s0_0 x1001_3 x1002_3 100000 t693 t694 t695 w0 _ ?z1 ?z2 A26.out).mono ?_); (case z1 => exact zz13); (case z2 => exact zz24); rintro e w32 ⟨rfl, hi, hb, hk⟩; refine ⟨_, rfl, ?_⟩; replace BK682 := zA (KeepBut.blk hk (g' := gb682) (o := .cells #[.int .i64 0, .int .i64 0, .string (⟨#[]⟩ : ByteArray)] 32 (0, 0)) zz27 NB682_0.out (by simp)); replace BK686 := zA (KeepBut.blk hk (g' := gb686) (o := .cells #[.int .i64 a1, .int .i64 0, .string (⟨#[]⟩ : ByteArray)] 32 (0, 0)) zz20 NB686_0.out (by simp)); replace HK := zT hk (zf2 GW682 GW686); replace HB := zA hb; replace HI0 := zA hi; clear hb hk hi) | ((with_reducible refine zt 32 ?_); refine Kd.R_lit (Kd.int .i64) _ 3 ?hg (N := 32) ?hd (xs := ([0, 1, (-1), 255, 256, (-256), (-257), 65535, 1000000000000000, (-1000000000000000), wrap64 (-t693)] : List Int)) (inner := [.int .i64 0, .int .i64 1, .int .i64 (-1), .int .i64 255, .int .i64 256, .int .i64 (-256), .int .i64 (-257), .int .i64 65535, .int .i64 1000000000000000, .int .i64 (-1000000000000000), .int .i64 (wrap64 (-t693))]) (ok := fun _ => True) (okp := fun _ => True) ?hr ?hp (fun _ hk => hk) trivial (Below.refl _ _) (Nat.le_refl _) (by simp) ?_; (case hd => rfl); (case hg => rfl); (case hr => exact zz16); (case hp => exact (Reps.one (show Kd.M (Kd.int .i64) _ _ _ 0 [.int .i64 0] from rfl) (Reps.one (show Kd.M (Kd.int .i64) _ _ _ 1 [.int .i64 1] from rfl) (Reps.one (show Kd.M (Kd.int .i64) _ _ _ (-1) [.int .i64 (-1)] from rfl) (Reps.one (show Kd.M (Kd.int .i64) _ _ _ 255 [.int .i64 255] from rfl) (Reps.one (show Kd.M (Kd.int .i64) _ _ _ 256 [.int .i64 256] from rfl) (Reps.one (show Kd.M (Kd.int .i64) _ _ _ (-256) [.int .i64 (-256)] from rfl) (Reps.one (show Kd.M (Kd.int .i64) _ _ _ (-257) [.int .i64 (-257)] from rfl) (Reps.one (show Kd.M (Kd.int .i64) _ _ _ 65535 [.int .i64 65535] from rfl) (Reps.one (show Kd.M (Kd.int .i64) _ _ _ 1000000000000000 [.int .i64 1000000000000000] from rfl) (Reps.one (show Kd.M (Kd.int .i64) _ _ _ (-1000000000000000) [.int .i64 (-1000000000000000)] from rfl) (Reps.one (show Kd.M (Kd.int .i64) _ _ _ (wrap64 (-t693)) [.int .i64 (wrap64 (-t693))] from rfl) (Reps.none _ _))))))))))))); intro v697 w33 ho34 hb hg_ hnew_; clear hg_ hnew_; (first | rw [← Ny696.out] at ho34 | (simp only [Int.reduceToNat] at ho34; rw [← Ny696.out] at ho34)); have HO698 := zA (Kd.R_lower ho34 (keep_size (w := w) (g := g) (row := none) (zf2 GW682 GW686))); replace BK682 := zB BK682 hb; replace BK686 := zB BK686 hb; replace HK := zT (KeepBut.of_below hb g none) (zf2 GW682 GW686); replace HB := zS hb zz24; replace HI0 := zA (IsS102.below zz13 hb); clear hb ho34; obtain ⟨Ao35, co35, eo35⟩ := Kd.R_slice HO698.out; subst eo35) | ((with_reducible refine zg 108 ?_); refine gL (some 33) Try.func108 #[.pointer (some ⟨g, 0, none⟩), .slice Ao35 y696.length co35] ?_; (with_reducible refine (spec_l1Int.calls g s0_0 t694 t695 _ _ y696 t699 t700 t701 w0 _ ?z1 ?z2 ?z3 ?z4 ?z5 A27.out).mono ?_); (case z1 => exact zz13); (case z2 => exact zz24); (case z3 => exact ze HO698); (case z4 => exact zl HO698); (case z5 => exact far_slice (IsS102.own_ne HI0.out HO698.out (by decide))); rintro e w36 ⟨rfl, hi, hb, hk⟩; refine ⟨_, rfl, ?_⟩; replace BK682 := zV hk BK682 NB682_0; replace BK686 := zV hk BK686 NB686_0; replace HO698 := zA (Kd.R_mono (Kd.R_keep (IsS102.apart (show IsS102 w0 _ g s0_0 t694 t695 from zz13) (zr HO698) (by decide)) hk (fun _ h => h.2)) (fun _ h => h.1)); replace HK := zT hk (zf2 GW682 GW686); replace HB := zA hb; replace HI0 := zA hi; clear hb hk hi; obtain ⟨hcz37_0, hcz37_1, hcz37_2, hfz37_0, hfz37_1, hfz37_2⟩ := zh3 BK686; have hnb38 := NB682_0.out; have hnc38 := NB0_682.out; obtain ⟨hcz39_0, hcz39_1, hcz39_2, hfz39_0, hfz39_1, hfz39_2⟩ := zh3 BK682))
      refine bodyPost_ret (results_cell_row rfl _ _ gb682 32 #[.int .i64 a1, .int .i64 t699, .string (⟨#[]⟩ : ByteArray)] (0, 0) _ rfl (by (with_reducible repeat (first | refine blk_drewN ?_ _ | refine blk_drew ?_ | refine blk_alloc ?_ _)); refine blk_put (cs := #[.int .i64 a1, .int .i64 t699, .string (⟨#[]⟩ : ByteArray)]) ?_ 2 _ rfl; (with_reducible repeat (first | refine blk_drewN ?_ _ | refine blk_drew ?_ | refine blk_alloc ?_ _)); refine blk_put (cs := #[.int .i64 a1, .int .i64 0, .string (⟨#[]⟩ : ByteArray)]) ?_ 1 _ rfl; (with_reducible repeat (first | refine blk_drewN ?_ _ | refine blk_drew ?_ | refine blk_alloc ?_ _)); refine blk_put (cs := #[.int .i64 0, .int .i64 0, .string (⟨#[]⟩ : ByteArray)]) ?_ 0 _ rfl; (with_reducible repeat (first | refine blk_drewN ?_ _ | refine blk_drew ?_ | refine blk_alloc ?_ _)); refine blk_far ?_ NB682_686.out _; (with_reducible repeat (first | refine blk_drewN ?_ _ | refine blk_drew ?_ | refine blk_alloc ?_ _)); exact BK682.out) Try.underlying32 rfl (by kernel_rfl)) rfl ?_
      exact ⟨zw, zz13, zz24, zf2 GW682 GW686⟩
     ·rw [if_neg c25] at H
      have c25b0 : (a1 == 2) = false := beq_eq_false_iff_ne.mpr c25
      have c25b1 : (a1 != 2) = true := bne_iff_ne.mpr c25
      by_cases c40 : a1 = 3
      ·rw [if_pos c40] at H
       have c40b0 : (a1 == 3) = true := beq_iff_eq.mpr c40
       have c40b1 : (a1 != 3) = false := bne_eq_false_iff_eq.mpr c40
       clear c40
       replace H := zI H
       obtain ⟨⟨t702, t703, t704⟩, A41, H⟩ := H
       try dsimp only at H
       simp only [Option.some.injEq, Prod.mk.injEq] at H
       obtain ⟨rfl, rfl, rfl, rfl, rfl⟩ := H
       go_wp2_with (first | ((with_reducible refine zt 7 ?_); refine zn #[.int .i64 0, .int .i64 0, .string (⟨#[]⟩ : ByteArray)] 32 ?_; intro gb686 hg w42 hbox hb; replace HB := zS hb zz35; have BK686 := zA hbox; have GW686 := zA ((zz80 : w.heap.size ≤ gb686)); have GE686 := zA ((Nat.le_trans HW0.out (zz80 : w.heap.size ≤ gb686) : w0.heap.size ≤ gb686)); replace HK := zT (KeepBut.of_below hb g none) (zf1 GW682); have NB682_686 := zX BK682 hg; have NB686_682 := zY BK682 hg; replace BK682 := zB BK682 hb; have NB0_686 := zA ((zz101 : g ≠ gb686)); have NB686_0 := zA ((zz102 : gb686 ≠ g)); replace HI0 := zA (IsS102.below zz12 hb); clear hb hbox hg; have hnb43 := NB686_682.out; have hnc43 := NB682_686.out; have hnb44 := NB686_0.out; have hnc44 := NB0_686.out; obtain ⟨hcz45_0, hcz45_1, hcz45_2, hfz45_0, hfz45_1, hfz45_2⟩ := zh3 BK686) | ((with_reducible refine zg 122 ?_); refine gL (some 38) Try.func122 #[.pointer (some ⟨g, 0, none⟩)] ?_; (with_reducible refine (spec_l2Text.calls g s0_0 x1001_3 x1002_3 t702 t703 t704 w0 _ ?z1 ?z2 A41.out).mono ?_); (case z1 => exact zz13); (case z2 => exact zz24); rintro e w46 ⟨rfl, hi, hb, hk⟩; refine ⟨_, rfl, ?_⟩; replace BK682 := zA (KeepBut.blk hk (g' := gb682) (o := .cells #[.int .i64 0, .int .i64 0, .string (⟨#[]⟩ : ByteArray)] 32 (0, 0)) zz27 NB682_0.out (by simp)); replace BK686 := zA (KeepBut.blk hk (g' := gb686) (o := .cells #[.int .i64 a1, .int .i64 0, .string (⟨#[]⟩ : ByteArray)] 32 (0, 0)) zz20 NB686_0.out (by simp)); replace HK := zT hk (zf2 GW682 GW686); replace HB := zA hb; replace HI0 := zA hi; clear hb hk hi; obtain ⟨hcz47_0, hcz47_1, hcz47_2, hfz47_0, hfz47_1, hfz47_2⟩ := zh3 BK686; have hnb48 := NB682_0.out; have hnc48 := NB0_682.out; obtain ⟨hcz49_0, hcz49_1, hcz49_2, hfz49_0, hfz49_1, hfz49_2⟩ := zh3 BK682))
       refine bodyPost_ret (results_cell_row rfl _ _ gb682 32 #[.int .i64 a1, .int .i64 0, .string t702] (0, 0) _ rfl (by (with_reducible repeat (first | refine blk_drewN ?_ _ | refine blk_drew ?_ | refine blk_alloc ?_ _)); refine blk_put (cs := #[.int .i64 a1, .int .i64 0, .string (⟨#[]⟩ : ByteArray)]) ?_ 2 _ rfl; (with_reducible repeat (first | refine blk_drewN ?_ _ | refine blk_drew ?_ | refine blk_alloc ?_ _)); refine blk_put (cs := #[.int .i64 a1, .int .i64 0, .string (⟨#[]⟩ : ByteArray)]) ?_ 1 _ rfl; (with_reducible repeat (first | refine blk_drewN ?_ _ | refine blk_drew ?_ | refine blk_alloc ?_ _)); refine blk_put (cs := #[.int .i64 0, .int .i64 0, .string (⟨#[]⟩ : ByteArray)]) ?_ 0 _ rfl; (with_reducible repeat (first | refine blk_drewN ?_ _ | refine blk_drew ?_ | refine blk_alloc ?_ _)); refine blk_far ?_ NB682_686.out _; (with_reducible repeat (first | refine blk_drewN ?_ _ | refine blk_drew ?_ | refine blk_alloc ?_ _)); exact BK682.out) Try.underlying32 rfl (by kernel_rfl)) rfl ?_
       exact ⟨zw, zz13, zz24, zf2 GW682 GW686⟩
      ·rw [if_neg c40] at H
       have c40b0 : (a1 == 3) = false := beq_eq_false_iff_ne.mpr c40
       have c40b1 : (a1 != 3) = true := bne_iff_ne.mpr c40
       replace H := zI H
       obtain ⟨⟨t705, t706, t707⟩, A50, H⟩ := H
       try dsimp only at H
       simp only [Option.some.injEq, Prod.mk.injEq] at H
       obtain ⟨rfl, rfl, rfl, rfl, rfl⟩ := H
       go_wp2_with (first | ((with_reducible refine zt 7 ?_); refine zn #[.int .i64 0, .int .i64 0, .string (⟨#[]⟩ : ByteArray)] 32 ?_; intro gb686 hg w51 hbox hb; replace HB := zS hb zz35; have BK686 := zA hbox; have GW686 := zA ((zz80 : w.heap.size ≤ gb686)); have GE686 := zA ((Nat.le_trans HW0.out (zz80 : w.heap.size ≤ gb686) : w0.heap.size ≤ gb686)); replace HK := zT (KeepBut.of_below hb g none) (zf1 GW682); have NB682_686 := zX BK682 hg; have NB686_682 := zY BK682 hg; replace BK682 := zB BK682 hb; have NB0_686 := zA ((zz101 : g ≠ gb686)); have NB686_0 := zA ((zz102 : gb686 ≠ g)); replace HI0 := zA (IsS102.below zz12 hb); clear hb hbox hg; have hnb52 := NB686_682.out; have hnc52 := NB682_686.out; have hnb53 := NB686_0.out; have hnc53 := NB0_686.out; obtain ⟨hcz54_0, hcz54_1, hcz54_2, hfz54_0, hfz54_1, hfz54_2⟩ := zh3 BK686) | ((with_reducible refine zg 107 ?_); refine gL (some 18) Try.func107 #[.pointer (some ⟨g, 0, none⟩), .int .i64 2] ?_; (with_reducible refine (spec_l1Below.calls g s0_0 x1001_3 x1002_3 2 t705 t706 t707 w0 _ ?z1 ?z2 A50.out).mono ?_); (case z1 => exact zz13); (case z2 => exact zz24); rintro e w55 ⟨rfl, hi, hb, hk⟩; refine ⟨_, rfl, ?_⟩; replace BK682 := zA (KeepBut.blk hk (g' := gb682) (o := .cells #[.int .i64 0, .int .i64 0, .string (⟨#[]⟩ : ByteArray)] 32 (0, 0)) zz27 NB682_0.out (by simp)); replace BK686 := zA (KeepBut.blk hk (g' := gb686) (o := .cells #[.int .i64 a1, .int .i64 0, .string (⟨#[]⟩ : ByteArray)] 32 (0, 0)) zz20 NB686_0.out (by simp)); replace HK := zT hk (zf2 GW682 GW686); replace HB := zA hb; replace HI0 := zA hi; clear hb hk hi; obtain ⟨hcz56_0, hcz56_1, hcz56_2, hfz56_0, hfz56_1, hfz56_2⟩ := zh3 BK686; have hnb57 := NB682_0.out; have hnc57 := NB0_682.out; obtain ⟨hcz58_0, hcz58_1, hcz58_2, hfz58_0, hfz58_1, hfz58_2⟩ := zh3 BK682))
       refine bodyPost_ret (results_cell_row rfl _ _ gb682 32 #[.int .i64 a1, .int .i64 t705, .string (⟨#[]⟩ : ByteArray)] (0, 0) _ rfl (by (with_reducible repeat (first | refine blk_drewN ?_ _ | refine blk_drew ?_ | refine blk_alloc ?_ _)); refine blk_put (cs := #[.int .i64 a1, .int .i64 t705, .string (⟨#[]⟩ : ByteArray)]) ?_ 2 _ rfl; (with_reducible repeat (first | refine blk_drewN ?_ _ | refine blk_drew ?_ | refine blk_alloc ?_ _)); refine blk_put (cs := #[.int .i64 a1, .int .i64 0, .string (⟨#[]⟩ : ByteArray)]) ?_ 1 _ rfl; (with_reducible repeat (first | refine blk_drewN ?_ _ | refine blk_drew ?_ | refine blk_alloc ?_ _)); refine blk_put (cs := #[.int .i64 0, .int .i64 0, .string (⟨#[]⟩ : ByteArray)]) ?_ 0 _ rfl; (with_reducible repeat (first | refine blk_drewN ?_ _ | refine blk_drew ?_ | refine blk_alloc ?_ _)); refine blk_far ?_ NB682_686.out _; (with_reducible repeat (first | refine blk_drewN ?_ _ | refine blk_drew ?_ | refine blk_alloc ?_ _)); exact BK682.out) Try.underlying32 rfl (by kernel_rfl)) rfl ?_
       exact ⟨zw, zz13, zz24, zf2 GW682 GW686⟩

/-! ### spec_l6Vals: function 89 -/
def spec_l6Vals.l0 : Nat → List (S30) → Int → List (S32) → Int → List Int → Int → Int → Option ((List (S32)) × Int × Int)
  | 0, _, _, _, _, _, _, _ => none
  | k + 1, x1, x2, x7, x8, x1000, x1001, x1002 => if x8 < x2 then (if x8 < (x1.length : Int) then (if 0 ≤ x8 then ((spec_l2Of.f k x1000 x1001 x1002 ((rd_T30 x1 x8).f1) ((rd_T30 x1 x8).f2)).bind fun bt713 => (if x7.length < 4398046511104 then (spec_l6Vals.l0 k x1 x2 (x7 ++ [(⟨bt713.1, bt713.2.1, bt713.2.2.1⟩ : S32)]) (wrap64 (x8 + 1)) x1000 bt713.2.2.2.1 bt713.2.2.2.2) else (none))) else (none)) else (some (x7, x1001, x1002))) else (some (x7, x1001, x1002))
def spec_l6Vals.f (k : Nat) (s0_0 : List Int) (s0_1 : Int) (s0_2 : Int) (l1 : List (S30)) (a2 : Int) : Option ((List (S32)) × Int × Int) := spec_l6Vals.l0 k l1 a2 (([] : List (S32))) 0 s0_0 s0_1 s0_2
def spec_l6Vals.T5 : Bool × List (List Nat × List Nat) := (true, [([], []), ([], []), ([], []), ([], []), ([2, 3], [2, 3]), ([4], [4]), ([5], [5]), ([], []), ([], []), ([7, 8], [7, 8]), ([9], [9]), ([10], [10]), ([1, 6, 11], [1, 6, 11]), ([12], [12]), ([0, 13, 12], [0, 13]), ([14, 14, 0, 1, 2, 3, 4, 5, 6, 7, 8, 9, 10, 11, 12, 13, 14], [0, 14])])
def spec_l6Vals.B5 : List Nat := [0, 0, 0, 0, 12, 28, 60, 0, 0, 384, 896, 1920, 4094, 8190, 16383, 32767]
theorem spec_l6Vals.tab5 : rtab .any (opsOf Try.f89 5) = spec_l6Vals.T5 := by kernel_rfl
theorem spec_l6Vals.bits5 : waitsOk spec_l6Vals.T5.2 spec_l6Vals.B5 = true := by kernel_rfl
set_option maxHeartbeats 8000000 in
set_option maxRecDepth 100000 in
theorem spec_l6Vals.calls (k : Nat) (g : Nat) (s0_0 : List Int) (s0_1 : Int) (s0_2 : Int) (A1 : Option Addr) (c1 : Nat) (l1 : List (S30)) (a2 : Int) (r1 : List (S32)) (r2 : Int) (r3 : Int) (w0 w : World) (hI : IsS102 w0 w g s0_0 s0_1 s0_2) (hB : Below w0.heap.size w0 w) (hr1 : ∀ W_, KeepBut w W_ g none → Kd.C k30 W_ A1 l1.length l1) (hc1 : l1.length ≤ c1) (h : spec_l6Vals.f k s0_0 s0_1 s0_2 l1 a2 = some (r1, r2, r3)) :
  Calls Try.prog 89 #[.pointer (some ⟨g, 0, none⟩), .slice A1 l1.length c1, .int .i64 a2] w fun e w' => ∃ v0_ : Value, e = .returned (v0_) ∧ Kd.R k32 32 w' w.heap.size (fun _ => True) v0_ r1 ∧ IsS102 w0 w' g s0_0 r2 r3 ∧ Below w0.heap.size w0 w' ∧ KeepBut w w' g none := by
 have HR1 := zA hr1
 have HC1 := zA hc1
 clear hr1 hc1
 have HI0 := zA hI
 have HK := zA (KeepBut.refl w g none)
 have HL := zA hB.size
 clear hI
 have HW0 := zA hB.size
 have HB := zA hB
 clear hB
 have H : (spec_l6Vals.l0 k l1 a2 (([] : List (S32))) 0 s0_0 s0_1 s0_2) = some (r1, r2, r3) := h
 clear h
 obtain ⟨y708, hy708⟩ : ∃ y_ : List (S32), y_ = (([] : List (S32))) := ⟨_, rfl⟩
 replace H : (spec_l6Vals.l0 k l1 a2 y708 0 s0_0 s0_1 s0_2) = some (r1, r2, r3) := zy hy708
 have Ny708 := zA hy708
 clear hy708
 have H' := zA H
 clear H
 go_enter Try.func89, Try.ntmps89
 go_wp2_with (first | ((with_reducible refine zt 9 ?_); (try (refine gate_guard (by rfl) ?_; dsimp only)); refine Kd.R_lit k32 _ 32 ?hg (N := 9) ?hd (xs := ([] : List (S32))) (inner := []) (ok := fun _ => True) (okp := fun _ => True) ?hr ?hp (fun _ hk => hk) trivial (Below.refl _ _) (Nat.le_refl _) (by simp) ?_; (case hd => rfl); (case hg => rfl); (case hr => exact zz16); (case hp => exact (Reps.none _ _)); intro v709 w4 ho5 hb hg_ hnew_; clear hg_ hnew_; (first | rw [← Ny708.out] at ho5 | (simp only [Int.reduceToNat] at ho5; rw [← Ny708.out] at ho5)); have HO710 := zA (Kd.R_lower ho5 (keep_size (w := w) (g := g) (row := none) zf)); replace HK := zT (KeepBut.of_below hb g none); replace HB := zS hb zz1; replace HI0 := zA (IsS102.below zz0 hb); clear hb ho5))
 go_loopg [7, 8] k (fun kq v7 v8 w' => ∃ (x7_1 : List (S32)) (x8_1 : Int) (x1001_1 : Int) (x1002_1 : Int), v8 = .int .i64 x8_1 ∧ Aside0 (spec_l6Vals.l0 kq l1 a2 x7_1 x8_1 s0_0 x1001_1 x1002_1 = some (r1, r2, r3)) ∧ Aside0 (kq ≤ k) ∧ Aside0 (Kd.R k32 32 w' w.heap.size (fun _ => True) v7 x7_1) ∧ Aside0 (IsS102 w0 w' g s0_0 x1001_1 x1002_1) ∧ Aside0 (KeepBut w w' g none) ∧ Aside0 (Below w0.heap.size w0 w'))
 case atStart => exact ⟨(y708), (0), (s0_1), (s0_2), zx, H', ⟨Nat.le_refl _⟩, ⟨zr HO710⟩, ⟨zz0⟩, ⟨zf⟩, ⟨zz1⟩⟩
 case round =>
  clear H'
  obtain ⟨x7_1, x8_1, x1001_1, x1002_1, rfl, HA, HK1, HO_7, HI0, HK, HB⟩ := hrel
  cases gk with
  | zero => exact absurd HA.out (by simp [spec_l6Vals.l0])
  | succ k1 =>
   have H := HA.out
   clear HA
   simp only [spec_l6Vals.l0] at H
   by_cases c6 : x8_1 < a2
   ·rw [if_pos c6] at H
    have c6b0 : decide (x8_1 < a2) = true := decide_eq_true c6
    clear c6
    by_cases c7 : x8_1 < (l1.length : Int)
    ·rw [if_pos c7] at H
     have c7b0 : decide (x8_1 < (l1.length : Int)) = true := decide_eq_true c7
     clear c7
     by_cases c8 : 0 ≤ x8_1
     ·rw [if_pos c8] at H
      have c8b0 : decide (0 ≤ x8_1) = true := decide_eq_true c8
      clear c8
      replace H := zI H
      obtain ⟨⟨t713, t714, t715, t716, t717⟩, A9, H⟩ := H
      try dsimp only at H
      by_cases c10 : x7_1.length < 4398046511104
      ·rw [if_pos c10] at H
       have LMc10 := zA c10
       clear c10
       obtain ⟨y718, hy718⟩ : ∃ y_ : List (S32), y_ = (x7_1 ++ [(⟨t713, t714, t715⟩ : S32)]) := ⟨_, rfl⟩
       replace H : (spec_l6Vals.l0 k1 l1 a2 y718 (wrap64 (x8_1 + 1)) s0_0 t716 t717) = some (r1, r2, r3) := zy hy718
       have Ny718 := zA hy718
       clear hy718
       have H' := zA H
       clear H
       try go_wp2
       have n0_ := zA (Kd.R_drew HO_7.out)
       have n1_ := zA (IsS102.drew HI0.out)
       have n2_ := zA (keep_drew HK.out)
       have n3_ := zA (below_drew1 HB.out)
       clear HO_7 HI0 HK HB
       have HO_7 := n0_; have HI0 := n1_; have HK := n2_; have HB := n3_
       clear n0_ n1_ n2_ n3_
       have p711 : 0 ≤ (x8_1 : Int) := of_decide_eq_true za
       have q711 : x8_1 < (l1.length : Int) := of_decide_eq_true za
       obtain ⟨ad711, e711, hx711_0, hx711_1, hx711_2, hx711_3⟩ := at_T30 (Kd.C_foot_now HR1.out HK.out) x8_1 p711 q711
       have hw711_3 := hx711_3
       have hw711_2 := hx711_2
       have hw711_1 := hx711_1
       have hw711_0 := hx711_0
       cases e711
       have hne711_3 := (show (⟨(ad711.add ((x8_1).toNat * 4)).block, (ad711.add ((x8_1).toNat * 4)).off + 3, none⟩ : Addr).block ≠ g from by first | (rw [add_block]; exact Kd.foot_ne HR1.out (by omega) (by decide)) | (show (Addr.add _ _).block ≠ _; rw [add_block]; exact Kd.foot_ne HR1.out (by omega) (by decide)) | exact Kd.foot_ne HR1.out (by omega) (by decide) | (dsimp only; exact Kd.foot_ne HR1.out (by omega) (by decide)))
       have hlt711_3 := (Kd.foot_lt HR1.out (by omega) (by decide))
       have hne711_2 := (show (⟨(ad711.add ((x8_1).toNat * 4)).block, (ad711.add ((x8_1).toNat * 4)).off + 2, none⟩ : Addr).block ≠ g from by first | (rw [add_block]; exact Kd.foot_ne HR1.out (by omega) (by decide)) | (show (Addr.add _ _).block ≠ _; rw [add_block]; exact Kd.foot_ne HR1.out (by omega) (by decide)) | exact Kd.foot_ne HR1.out (by omega) (by decide) | (dsimp only; exact Kd.foot_ne HR1.out (by omega) (by decide)))
       have hlt711_2 := (Kd.foot_lt HR1.out (by omega) (by decide))
       have hne711_1 := (show (⟨(ad711.add ((x8_1).toNat * 4)).block, (ad711.add ((x8_1).toNat * 4)).off + 1, none⟩ : Addr).block ≠ g from by first | (rw [add_block]; exact Kd.foot_ne HR1.out (by omega) (by decide)) | (show (Addr.add _ _).block ≠ _; rw [add_block]; exact Kd.foot_ne HR1.out (by omega) (by decide)) | exact Kd.foot_ne HR1.out (by omega) (by decide) | (dsimp only; exact Kd.foot_ne HR1.out (by omega) (by decide)))
       have hlt711_1 := (Kd.foot_lt HR1.out (by omega) (by decide))
       have hne711_0 := (show ((ad711.add ((x8_1).toNat * 4)) : Addr).block ≠ g from by first | (rw [add_block]; exact Kd.foot_ne HR1.out (by omega) (by decide)) | (show (Addr.add _ _).block ≠ _; rw [add_block]; exact Kd.foot_ne HR1.out (by omega) (by decide)) | exact Kd.foot_ne HR1.out (by omega) (by decide) | (dsimp only; exact Kd.foot_ne HR1.out (by omega) (by decide)))
       have hlt711_0 := (Kd.foot_lt HR1.out (by omega) (by decide))
       replace p711 := eq_true p711
       replace q711 := eq_true q711
       have p712 : 0 ≤ (x8_1 : Int) := of_decide_eq_true za
       have q712 : x8_1 < (l1.length : Int) := of_decide_eq_true za
       obtain ⟨ad712, e712, hx712_0, hx712_1, hx712_2, hx712_3⟩ := at_T30 (Kd.C_foot_now HR1.out HK.out) x8_1 p712 q712
       have hw712_3 := hx712_3
       have hw712_2 := hx712_2
       have hw712_1 := hx712_1
       have hw712_0 := hx712_0
       obtain rfl : ad711 = ad712 := (by injection e712)
       have hne712_3 := (show (⟨(ad711.add ((x8_1).toNat * 4)).block, (ad711.add ((x8_1).toNat * 4)).off + 3, none⟩ : Addr).block ≠ g from by first | (rw [add_block]; exact Kd.foot_ne HR1.out (by omega) (by decide)) | (show (Addr.add _ _).block ≠ _; rw [add_block]; exact Kd.foot_ne HR1.out (by omega) (by decide)) | exact Kd.foot_ne HR1.out (by omega) (by decide) | (dsimp only; exact Kd.foot_ne HR1.out (by omega) (by decide)))
       have hlt712_3 := (Kd.foot_lt HR1.out (by omega) (by decide))
       have hne712_2 := (show (⟨(ad711.add ((x8_1).toNat * 4)).block, (ad711.add ((x8_1).toNat * 4)).off + 2, none⟩ : Addr).block ≠ g from by first | (rw [add_block]; exact Kd.foot_ne HR1.out (by omega) (by decide)) | (show (Addr.add _ _).block ≠ _; rw [add_block]; exact Kd.foot_ne HR1.out (by omega) (by decide)) | exact Kd.foot_ne HR1.out (by omega) (by decide) | (dsimp only; exact Kd.foot_ne HR1.out (by omega) (by decide)))
       have hlt712_2 := (Kd.foot_lt HR1.out (by omega) (by decide))
       have hne712_1 := (show (⟨(ad711.add ((x8_1).toNat * 4)).block, (ad711.add ((x8_1).toNat * 4)).off + 1, none⟩ : Addr).block ≠ g from by first | (rw [add_block]; exact Kd.foot_ne HR1.out (by omega) (by decide)) | (show (Addr.add _ _).block ≠ _; rw [add_block]; exact Kd.foot_ne HR1.out (by omega) (by decide)) | exact Kd.foot_ne HR1.out (by omega) (by decide) | (dsimp only; exact Kd.foot_ne HR1.out (by omega) (by decide)))
       have hlt712_1 := (Kd.foot_lt HR1.out (by omega) (by decide))
       have hne712_0 := (show ((ad711.add ((x8_1).toNat * 4)) : Addr).block ≠ g from by first | (rw [add_block]; exact Kd.foot_ne HR1.out (by omega) (by decide)) | (show (Addr.add _ _).block ≠ _; rw [add_block]; exact Kd.foot_ne HR1.out (by omega) (by decide)) | exact Kd.foot_ne HR1.out (by omega) (by decide) | (dsimp only; exact Kd.foot_ne HR1.out (by omega) (by decide)))
       have hlt712_0 := (Kd.foot_lt HR1.out (by omega) (by decide))
       replace p712 := eq_true p712
       replace q712 := eq_true q712
       refine start_ (n := 16) (S := fun w' => w'.cell? (ad711.add ((x8_1).toNat * 4)) = some (.int .i64 ((rd_T30 l1 x8_1).f0)) ∧ w'.cell? ⟨(ad711.add ((x8_1).toNat * 4)).block, (ad711.add ((x8_1).toNat * 4)).off + 1, none⟩ = some (.int .i64 ((rd_T30 l1 x8_1).f1)) ∧ w'.cell? ⟨(ad711.add ((x8_1).toNat * 4)).block, (ad711.add ((x8_1).toNat * 4)).off + 2, none⟩ = some (.bool ((rd_T30 l1 x8_1).f2)) ∧ w'.cell? ⟨(ad711.add ((x8_1).toNat * 4)).block, (ad711.add ((x8_1).toNat * 4)).off + 3, none⟩ = some (.bool ((rd_T30 l1 x8_1).f3)) ∧ w'.cell? (ad711.add ((x8_1).toNat * 4)) = some (.int .i64 ((rd_T30 l1 x8_1).f0)) ∧ w'.cell? ⟨(ad711.add ((x8_1).toNat * 4)).block, (ad711.add ((x8_1).toNat * 4)).off + 1, none⟩ = some (.int .i64 ((rd_T30 l1 x8_1).f1)) ∧ w'.cell? ⟨(ad711.add ((x8_1).toNat * 4)).block, (ad711.add ((x8_1).toNat * 4)).off + 2, none⟩ = some (.bool ((rd_T30 l1 x8_1).f2)) ∧ w'.cell? ⟨(ad711.add ((x8_1).toNat * 4)).block, (ad711.add ((x8_1).toNat * 4)).off + 3, none⟩ = some (.bool ((rd_T30 l1 x8_1).f3))) (ds := [13, 14]) #[false, false, false, false, false, false, false, false, false, false, false, false, false, false, false, false] (by kernel_rfl) rfl rfl ⟨hx711_0, hx711_1, hx711_2, hx711_3, hx712_0, hx712_1, hx712_2, hx712_3⟩ (fun hHeld => ?_); refine with_tabW spec_l6Vals.tab5 spec_l6Vals.bits5 (fun HT_ HW_ => ?_)
       generalize wr.drew = w11 at HO_7 HI0 HK HB hx711_0 hx711_1 hx711_2 hx711_3 hx712_0 hx712_1 hx712_2 hx712_3 hHeld ⊢
       refine pure_ (i := 0) (N := some 21) (v := ?_) (a' := ?_) #[true, false, false, false, false, false, false, false, false, false, false, false, false, false, false, false] rfl rfl (any_of HT_.out (by kernel_rfl)) (fun _ _ _ h => h) (Or.inl ⟨by rfl, ?_⟩) ?_ ?_; rotate_left
       ·intro w'; go_simp; with_reducible rfl
       rotate_left
       ·simp only [Act.put, List.setIfInBounds_toArray, List.set_cons_zero, List.set_cons_succ, i64_w, i32_w]; rfl
       refine pure_ (i := 1) (N := some 22) (v := ?_) (a' := ?_) #[true, true, false, false, false, false, false, false, false, false, false, false, false, false, false, false] rfl rfl (any_of HT_.out (by kernel_rfl)) (fun _ _ _ h => h) (Or.inl ⟨by rfl, ?_⟩) ?_ ?_; rotate_left
       ·intro w'; go_simp; with_reducible rfl
       rotate_left
       ·simp only [Act.put, List.setIfInBounds_toArray, List.set_cons_zero, List.set_cons_succ, i64_w, i32_w]; rfl
       refine pure_ (i := 2) (N := some 23) (v := ?_) (a' := ?_) #[true, true, true, false, false, false, false, false, false, false, false, false, false, false, false, false] rfl rfl (any_of HT_.out (by kernel_rfl)) (fun _ _ _ h => h) (Or.inl ⟨by rfl, ?_⟩) ?_ ?_; rotate_left
       ·intro w'; go_simp; with_reducible rfl
       rotate_left
       ·simp only [Act.put, List.setIfInBounds_toArray, List.set_cons_zero, List.set_cons_succ, i64_w, i32_w]; rfl
       refine pure_ (i := 3) (N := some 24) (v := ?_) (a' := ?_) #[true, true, true, true, false, false, false, false, false, false, false, false, false, false, false, false] rfl rfl (any_of HT_.out (by kernel_rfl)) (fun _ _ _ h => h) (Or.inl ⟨by rfl, ?_⟩) ?_ ?_; rotate_left
       ·intro w'; go_simp; with_reducible rfl
       rotate_left
       ·simp only [Act.put, List.setIfInBounds_toArray, List.set_cons_zero, List.set_cons_succ, i64_w, i32_w]; rfl
       refine pure_ (i := 4) (N := some 25) (v := ?_) (a' := ?_) #[true, true, true, true, true, false, false, false, false, false, false, false, false, false, false, false] rfl rfl (any_of HT_.out (by kernel_rfl)) (fun _ _ _ h => h) (Or.inl ⟨by rfl, ?_⟩) ?_ ?_; rotate_left
       ·intro w'; go_simp; with_reducible rfl
       rotate_left
       ·simp only [Act.put, List.setIfInBounds_toArray, List.set_cons_zero, List.set_cons_succ, i64_w, i32_w]; rfl
       refine pure_ (i := 5) (N := some 26) (v := ?_) (a' := ?_) #[true, true, true, true, true, true, false, false, false, false, false, false, false, false, false, false] rfl rfl (any_of HT_.out (by kernel_rfl)) (fun _ _ _ h => h) (Or.inl ⟨by rfl, ?_⟩) ?_ ?_; rotate_left
       ·intro w'; go_simp; with_reducible rfl
       rotate_left
       ·simp only [Act.put, List.setIfInBounds_toArray, List.set_cons_zero, List.set_cons_succ, i64_w, i32_w]; rfl
       refine pure_ (i := 7) (N := some 28) (v := ?_) (a' := ?_) #[true, true, true, true, true, true, false, true, false, false, false, false, false, false, false, false] rfl rfl (any_of HT_.out (by kernel_rfl)) (fun _ _ _ h => h) (Or.inl ⟨by rfl, ?_⟩) ?_ ?_; rotate_left
       ·intro w'; go_simp; with_reducible rfl
       rotate_left
       ·simp only [Act.put, List.setIfInBounds_toArray, List.set_cons_zero, List.set_cons_succ, i64_w, i32_w]; rfl
       refine pure_ (i := 8) (N := some 29) (v := ?_) (a' := ?_) #[true, true, true, true, true, true, false, true, true, false, false, false, false, false, false, false] rfl rfl (any_of HT_.out (by kernel_rfl)) (fun _ _ _ h => h) (Or.inl ⟨by rfl, ?_⟩) ?_ ?_; rotate_left
       ·intro w'; go_simp; with_reducible rfl
       rotate_left
       ·simp only [Act.put, List.setIfInBounds_toArray, List.set_cons_zero, List.set_cons_succ, i64_w, i32_w]; rfl
       refine pure_ (i := 9) (N := some 30) (v := ?_) (a' := ?_) #[true, true, true, true, true, true, false, true, true, true, false, false, false, false, false, false] rfl rfl (any_of HT_.out (by kernel_rfl)) (fun _ _ _ h => h) (Or.inl ⟨by rfl, ?_⟩) ?_ ?_; rotate_left
       ·intro w'; go_simp; with_reducible rfl
       rotate_left
       ·simp only [Act.put, List.setIfInBounds_toArray, List.set_cons_zero, List.set_cons_succ, i64_w, i32_w]; rfl
       refine pure_ (i := 10) (N := some 31) (v := ?_) (a' := ?_) #[true, true, true, true, true, true, false, true, true, true, true, false, false, false, false, false] rfl rfl (any_of HT_.out (by kernel_rfl)) (fun _ _ _ h => h) (Or.inl ⟨by rfl, ?_⟩) ?_ ?_; rotate_left
       ·intro w'; go_simp; with_reducible rfl
       rotate_left
       ·simp only [Act.put, List.setIfInBounds_toArray, List.set_cons_zero, List.set_cons_succ, i64_w, i32_w]; rfl
       refine take_ (i := 6) (N := some 27) (v := ?_) (a' := ?_) #[true, true, true, true, true, true, true, true, true, true, true, false, false, false, false, false] rfl rfl (take_ofW HT_.out HW_.out (by kernel_rfl)) (fun _ _ _ h => h) (Or.inl ⟨by rfl, ?_⟩) hHeld ?_ ?_; rotate_left
       ·rintro w' ⟨s0, s1, s2, s3, s4, s5, s6, s7⟩
        go_simp
        with_reducible rfl
       rotate_left
       ·simp only [Act.put, List.setIfInBounds_toArray, List.set_cons_zero, List.set_cons_succ, i64_w, i32_w]; rfl
       refine take_ (i := 11) (N := some 32) (v := ?_) (a' := ?_) #[true, true, true, true, true, true, true, true, true, true, true, true, false, false, false, false] rfl rfl (take_ofW HT_.out HW_.out (by kernel_rfl)) (fun _ _ _ h => h) (Or.inl ⟨by rfl, ?_⟩) hHeld ?_ ?_; rotate_left
       ·rintro w' ⟨s0, s1, s2, s3, s4, s5, s6, s7⟩
        go_simp
        with_reducible rfl
       rotate_left
       ·simp only [Act.put, List.setIfInBounds_toArray, List.set_cons_zero, List.set_cons_succ, i64_w, i32_w]; rfl
       refine one_ (i := 12) (N := some 33) #[true, true, true, true, true, true, true, true, true, true, true, true, true, false, false, false] rfl rfl (one_of HT_.out (by kernel_rfl)) (by decide) (fun K hK => ?_)
       refine goes_ Try.func112 (by kernel_rfl) rfl #[.pointer (some ⟨g, 0, none⟩), .int .i64 ((rd_T30 l1 x8_1).f1), .bool ((rd_T30 l1 x8_1).f2)] (by rfl) rfl rfl zz64 ?_
       with_reducible refine (spec_l2Of.calls k1 g s0_0 x1001_1 x1002_1 ((rd_T30 l1 x8_1).f1) ((rd_T30 l1 x8_1).f2) t713 t714 t715 t716 t717 w0 _ ?z1 ?z2 A9.out).mono ?_
       (case z1 => exact zz0)
       (case z2 => exact zz1)
       rintro e w12 ⟨rfl, hi, hb, hk⟩
       have HS0_ := keep_cell hk (hHeld.1) (by first | (rw [add_block]; exact hne711_0) | (show (Addr.add _ _).block ≠ _; rw [add_block]; exact hne711_0) | exact hne711_0 | (dsimp only; exact hne711_0) | (dsimp only; rw [add_block]; exact hne711_0))
       have HS1_ := keep_cell hk (hHeld.2.1) (by first | (rw [add_block]; exact hne711_1) | (show (Addr.add _ _).block ≠ _; rw [add_block]; exact hne711_1) | exact hne711_1 | (dsimp only; exact hne711_1) | (dsimp only; rw [add_block]; exact hne711_1))
       have HS2_ := keep_cell hk (hHeld.2.2.1) (by first | (rw [add_block]; exact hne711_2) | (show (Addr.add _ _).block ≠ _; rw [add_block]; exact hne711_2) | exact hne711_2 | (dsimp only; exact hne711_2) | (dsimp only; rw [add_block]; exact hne711_2))
       have HS3_ := keep_cell hk (hHeld.2.2.2.1) (by first | (rw [add_block]; exact hne711_3) | (show (Addr.add _ _).block ≠ _; rw [add_block]; exact hne711_3) | exact hne711_3 | (dsimp only; exact hne711_3) | (dsimp only; rw [add_block]; exact hne711_3))
       have HS4_ := keep_cell hk (hHeld.2.2.2.2.1) (by first | (rw [add_block]; exact hne712_0) | (show (Addr.add _ _).block ≠ _; rw [add_block]; exact hne712_0) | exact hne712_0 | (dsimp only; exact hne712_0) | (dsimp only; rw [add_block]; exact hne712_0))
       have HS5_ := keep_cell hk (hHeld.2.2.2.2.2.1) (by first | (rw [add_block]; exact hne712_1) | (show (Addr.add _ _).block ≠ _; rw [add_block]; exact hne712_1) | exact hne712_1 | (dsimp only; exact hne712_1) | (dsimp only; rw [add_block]; exact hne712_1))
       have HS6_ := keep_cell hk (hHeld.2.2.2.2.2.2.1) (by first | (rw [add_block]; exact hne712_2) | (show (Addr.add _ _).block ≠ _; rw [add_block]; exact hne712_2) | exact hne712_2 | (dsimp only; exact hne712_2) | (dsimp only; rw [add_block]; exact hne712_2))
       have HS7_ := keep_cell hk (hHeld.2.2.2.2.2.2.2) (by first | (rw [add_block]; exact hne712_3) | (show (Addr.add _ _).block ≠ _; rw [add_block]; exact hne712_3) | exact hne712_3 | (dsimp only; exact hne712_3) | (dsimp only; rw [add_block]; exact hne712_3))
       refine ⟨_, rfl, ?_⟩
       have n0_ := zA (Kd.R_mono (Kd.R_keep (IsS102.apart (show IsS102 w0 _ g s0_0 x1001_1 x1002_1 from zz0) (zr HO_7) (by decide)) hk (fun _ h => h.2)) (fun _ h => h.1))
       have n1_ := zT hk
       have n2_ := zA hb
       have n3_ := zA hi
       clear HO_7 HK HB HI0
       have HO_7 := n0_; have HK := n1_; have HB := n2_; have HI0 := n3_
       clear n0_ n1_ n2_ n3_
       (try clear hb)
       (try clear hb2)
       (try clear hk)
       (try clear hi)
       refine hK.out _ _ ⟨HS0_, HS1_, HS2_, HS3_, HS4_, HS5_, HS6_, HS7_⟩ (fun hHeld => ?_)
       clear hK K
       refine norm_ (a' := ?_) ?_ ?_; rotate_left
       ·show Act.put _ (some 33) _ = _
        simp only [Act.put, List.setIfInBounds_toArray, List.set_cons_zero, List.set_cons_succ, i64_w, i32_w]
        rfl
       refine last_ (i := 13) (N := some 34) #[true, true, true, true, true, true, true, true, true, true, true, true, true, true, false, false] rfl rfl (one_of HT_.out (by kernel_rfl)) (by decide) (fun K hK => ?_)
       refine value_ (w1 := ?_) (v := ?_) (by rfl) rfl ?_ ?_
       rotate_left 2
       ·go_simp
        constructor
        ·rfl
        ·rfl
       refine hK.out _ _ ?_
       clear hK K
       refine norm_ (a' := ?_) ?_ ?_; rotate_left
       ·show Act.put _ (some 34) _ = _
        simp only [Act.put, List.setIfInBounds_toArray, List.set_cons_zero, List.set_cons_succ, i64_w, i32_w]
        rfl
       refine last_ (i := 14) (N := some 35) #[true, true, true, true, true, true, true, true, true, true, true, true, true, true, true, false] rfl rfl (one_of HT_.out (by kernel_rfl)) (by decide) (fun K hK => ?_)
       refine Kd.R_append_step k32 w.heap.size (by rfl) (.tmp 21) (.tmp 34) 58 32 (.agg #[(.int .i64 0), (.int .i64 0), (.string ⟨#[]⟩)]) 32 rfl Try.underlying58 info32 rfl (by decide) (by omega) u7 x7_1 (⟨t713, t714, t715⟩ : S32) [.int .i64 t713, .int .i64 t714, .string t715] (fun _ => True) (fun _ => False) rfl rfl ?aP (fun _ hk => hk.elim) ?aF ?aO (Below.refl _ _) ?aS ?aL ?_
       (case aP => exact k32_mkM _ _ _ (⟨t713, t714, t715⟩ : S32))
       (case aF => exact (fun _ _ => trivial))
       (case aO => exact (zr HO_7))
       (case aS => exact (keep_size (w := w) (g := g) (row := none) zf))
       (case aL => have := LMc10.out; omega)
       intro v719 w13 ho hb hg hat
       rw [← Ny718.out] at ho
       have n0_ := zA (IsS102.grown zz0 hg (IsS102.own_ne HI0.out HO_7.out (by decide)))
       have n1_ := zA (below_weaken zz1 HL.out hb)
       have n2_ := zA (KeepBut.trans zf (KeepBut.of_grown hg g) (Kd.R_base2 HO_7.out))
       have n3_ := zA ho
       clear HI0 HB HK HO_7
       have HI0 := n0_; have HB := n1_; have HK := n2_; have HO720 := n3_
       clear n0_ n1_ n2_ n3_ ho hb hg hat
       refine hK.out _ _ ?_
       clear hK K
       refine norm_ (a' := ?_) ?_ ?_; rotate_left
       ·show Act.put _ (some 35) _ = _
        simp only [Act.put, List.setIfInBounds_toArray, List.set_cons_zero, List.set_cons_succ, i64_w, i32_w]
        rfl
       refine pure_ (i := 15) (N := some 7) (v := ?_) (a' := ?_) #[true, true, true, true, true, true, true, true, true, true, true, true, true, true, true, true] rfl rfl (any_of HT_.out (by kernel_rfl)) (fun _ _ _ h => h) (Or.inl ⟨by rfl, ?_⟩) ?_ ?_; rotate_left
       ·intro w'; go_simp; with_reducible rfl
       rotate_left
       ·simp only [Act.put, List.setIfInBounds_toArray, List.set_cons_zero, List.set_cons_succ, i64_w, i32_w]; rfl
       refine done_ (done_of HT_.out (by kernel_rfl)) ?_
       try go_wp2
       go_roundg k1
       case measure => have := HK1.out; omega
       case rel => exact ⟨(y718), (wrap64 (x8_1 + 1)), (t716), (t717), zx, H', ⟨zz79⟩, ⟨zr HO720⟩, ⟨zz0⟩, ⟨zf⟩, ⟨zz1⟩⟩
      ·rw [if_neg c10] at H
       exact absurd H (by simp)
     ·rw [if_neg c8] at H
      exact absurd H (by simp)
    ·rw [if_neg c7] at H
     have c7b0 : decide (x8_1 < (l1.length : Int)) = false := decide_eq_false c7
     clear c7
     simp only [Option.some.injEq, Prod.mk.injEq] at H
     obtain ⟨rfl, rfl, rfl⟩ := H
     go_wp2
     go_ret
     exact ⟨_, zw, zr HO_7, zz0, zz1, zf⟩
   ·rw [if_neg c6] at H
    have c6b0 : decide (x8_1 < a2) = false := decide_eq_false c6
    clear c6
    simp only [Option.some.injEq, Prod.mk.injEq] at H
    obtain ⟨rfl, rfl, rfl⟩ := H
    go_wp2
    go_ret
    exact ⟨_, zw, zr HO_7, zz0, zz1, zf⟩

/-! ### spec_l2Draw: function 111 -/
def spec_l2Draw.f (k : Nat) (s0_0 : List Int) (s0_1 : Int) (s0_2 : Int) : Option (Int × Int × ByteArray × Int × Int) := (spec_l1Below.f s0_0 s0_1 s0_2 4).bind fun bt722 => ((spec_l2Of.f k s0_0 bt722.2.1 bt722.2.2 (wrap64 (1 + bt722.1)) true).bind fun bt725 => (some (bt725.1, bt725.2.1, bt725.2.2.1, bt725.2.2.2.1, bt725.2.2.2.2)))
set_option maxHeartbeats 8000000 in
set_option maxRecDepth 100000 in
theorem spec_l2Draw.calls (k : Nat) (g : Nat) (s0_0 : List Int) (s0_1 : Int) (s0_2 : Int) (r1 : Int) (r2 : Int) (r3 : ByteArray) (r4 : Int) (r5 : Int) (w0 w : World) (hI : IsS102 w0 w g s0_0 s0_1 s0_2) (hB : Below w0.heap.size w0 w) (h : spec_l2Draw.f k s0_0 s0_1 s0_2 = some (r1, r2, r3, r4, r5)) :
  Calls Try.prog 111 #[.pointer (some ⟨g, 0, none⟩)] w fun e w' => e = .returned (.agg #[.int .i64 r1, .int .i64 r2, .string r3]) ∧ IsS102 w0 w' g s0_0 r4 r5 ∧ Below w0.heap.size w0 w' ∧ KeepBut w w' g none := by
 have hu32 := Try.underlying32
 have HI0 := zA hI
 have HK := zA (KeepBut.refl w g none)
 have HL := zA hB.size
 clear hI
 have HW0 := zA hB.size
 have HB := zA hB
 clear hB
 have H : ((spec_l1Below.f s0_0 s0_1 s0_2 4).bind fun bt722 => ((spec_l2Of.f k s0_0 bt722.2.1 bt722.2.2 (wrap64 (1 + bt722.1)) true).bind fun bt725 => (some (bt725.1, bt725.2.1, bt725.2.2.1, bt725.2.2.2.1, bt725.2.2.2.2)))) = some (r1, r2, r3, r4, r5) := h
 clear h
 replace H := zI H
 obtain ⟨⟨t722, t723, t724⟩, A2, H⟩ := H
 try dsimp only at H
 replace H := zI H
 obtain ⟨⟨t725, t726, t727, t728, t729⟩, A3, H⟩ := H
 try dsimp only at H
 simp only [Option.some.injEq, Prod.mk.injEq] at H
 obtain ⟨rfl, rfl, rfl, rfl, rfl⟩ := H
 go_enter Try.func111, Try.ntmps111
 go_wp2_with (first | ((with_reducible refine zt 2 ?_); refine zn #[.int .i64 0, .int .i64 0, .string (⟨#[]⟩ : ByteArray)] 32 ?_; intro gb721 hg w4 hbox hb; replace HB := zS hb zz1; have BK721 := zA hbox; have GW721 := zA ((zz46 : w.heap.size ≤ gb721)); have GE721 := zA ((Nat.le_trans HW0.out (zz46 : w.heap.size ≤ gb721) : w0.heap.size ≤ gb721)); replace HK := zT (KeepBut.of_below hb g none); have NB0_721 := zA ((zz95 : g ≠ gb721)); have NB721_0 := zA ((zz96 : gb721 ≠ g)); replace HI0 := zA (IsS102.below zz0 hb); clear hb hbox hg) | ((with_reducible refine zg 107 ?_); refine gL (some 5) Try.func107 #[.pointer (some ⟨g, 0, none⟩), .int .i64 4] ?_; (with_reducible refine (spec_l1Below.calls g s0_0 s0_1 s0_2 4 t722 t723 t724 w0 _ ?z1 ?z2 A2.out).mono ?_); (case z1 => exact zz76); (case z2 => exact zz78); rintro e w5 ⟨rfl, hi, hb, hk⟩; refine ⟨_, rfl, ?_⟩; replace BK721 := zV hk BK721 NB721_0; replace HK := zT hk (zf1 GW721); replace HB := zA hb; replace HI0 := zA hi; clear hb hk hi) | ((with_reducible refine zg 112 ?_); refine gL (some 7) Try.func112 #[.pointer (some ⟨g, 0, none⟩), .int .i64 (wrap64 (1 + t722)), .bool true] ?_; (with_reducible refine (spec_l2Of.calls k g s0_0 t723 t724 (wrap64 (1 + t722)) true t725 t726 t727 t728 t729 w0 _ ?z1 ?z2 A3.out).mono ?_); (case z1 => exact zz76); (case z2 => exact zz78); rintro e w6 ⟨rfl, hi, hb, hk⟩; refine ⟨_, rfl, ?_⟩; replace BK721 := zV hk BK721 NB721_0; replace HK := zT hk (zf1 GW721); replace HB := zA hb; replace HI0 := zA hi; clear hb hk hi; have hnb7 := NB721_0.out; have hnc7 := NB0_721.out; obtain ⟨hcz8_0, hcz8_1, hcz8_2, hfz8_0, hfz8_1, hfz8_2⟩ := zh3 BK721))
 refine bodyPost_ret (results_cell_row rfl _ _ gb721 32 #[.int .i64 t725, .int .i64 t726, .string t727] (0, 0) _ rfl (by (with_reducible repeat (first | refine blk_drewN ?_ _ | refine blk_drew ?_ | refine blk_alloc ?_ _)); refine blk_put (cs := #[.int .i64 t725, .int .i64 t726, .string (⟨#[]⟩ : ByteArray)]) ?_ 2 _ rfl; (with_reducible repeat (first | refine blk_drewN ?_ _ | refine blk_drew ?_ | refine blk_alloc ?_ _)); refine blk_put (cs := #[.int .i64 t725, .int .i64 0, .string (⟨#[]⟩ : ByteArray)]) ?_ 1 _ rfl; (with_reducible repeat (first | refine blk_drewN ?_ _ | refine blk_drew ?_ | refine blk_alloc ?_ _)); refine blk_put (cs := #[.int .i64 0, .int .i64 0, .string (⟨#[]⟩ : ByteArray)]) ?_ 0 _ rfl; (with_reducible repeat (first | refine blk_drewN ?_ _ | refine blk_drew ?_ | refine blk_alloc ?_ _)); exact BK721.out) Try.underlying32 rfl (by kernel_rfl)) rfl ?_
 exact ⟨zw, zz76, zz78, zf1 GW721⟩

/-! ### spec_l1Num: function 113 -/
def spec_l1Num.f (s0_0 : List Int) (s0_1 : Int) (s0_2 : Int) : Option (Int × Int × Int) := (spec_l1Below.f s0_0 s0_1 s0_2 100000).bind fun bt730 => ((spec_l1Below.f s0_0 bt730.2.1 bt730.2.2 100000).bind fun bt733 => ((spec_l1Int.f s0_0 bt733.2.1 bt733.2.2 (([0, 1, (-1), 63, 127, 128, 255, 256, 65535, 65536, 2147483647, (-2147483648), 2147483648, (-2147483649), 1000000000000000, (-1000000000000000), 1000000000000001, 9223372036854775807, (-9223372036854775808), bt730.1, wrap64 (-bt733.1)] : List Int))).bind fun bt739 => (some (bt739.1, bt739.2.1, bt739.2.2))))
set_option maxHeartbeats 8000000 in
set_option maxRecDepth 100000 in
theorem spec_l1Num.calls (g : Nat) (s0_0 : List Int) (s0_1 : Int) (s0_2 : Int) (r1 : Int) (r2 : Int) (r3 : Int) (w0 w : World) (hI : IsS102 w0 w g s0_0 s0_1 s0_2) (hB : Below w0.heap.size w0 w) (h : spec_l1Num.f s0_0 s0_1 s0_2 = some (r1, r2, r3)) :
  Calls Try.prog 113 #[.pointer (some ⟨g, 0, none⟩)] w fun e w' => e = .returned (.int .i64 r1) ∧ IsS102 w0 w' g s0_0 r2 r3 ∧ Below w0.heap.size w0 w' ∧ KeepBut w w' g none := by
 have HI0 := zA hI
 have HK := zA (KeepBut.refl w g none)
 have HL := zA hB.size
 clear hI
 have HW0 := zA hB.size
 have HB := zA hB
 clear hB
 have H : ((spec_l1Below.f s0_0 s0_1 s0_2 100000).bind fun bt730 => ((spec_l1Below.f s0_0 bt730.2.1 bt730.2.2 100000).bind fun bt733 => ((spec_l1Int.f s0_0 bt733.2.1 bt733.2.2 (([0, 1, (-1), 63, 127, 128, 255, 256, 65535, 65536, 2147483647, (-2147483648), 2147483648, (-2147483649), 1000000000000000, (-1000000000000000), 1000000000000001, 9223372036854775807, (-9223372036854775808), bt730.1, wrap64 (-bt733.1)] : List Int))).bind fun bt739 => (some (bt739.1, bt739.2.1, bt739.2.2))))) = some (r1, r2, r3) := h
 clear h
 replace H := zI H
 obtain ⟨⟨t730, t731, t732⟩, A2, H⟩ := H
 try dsimp only at H
 replace H := zI H
 obtain ⟨⟨t733, t734, t735⟩, A3, H⟩ := H
 try dsimp only at H
 obtain ⟨y736, hy736⟩ : ∃ y_ : List Int, y_ = (([0, 1, (-1), 63, 127, 128, 255, 256, 65535, 65536, 2147483647, (-2147483648), 2147483648, (-2147483649), 1000000000000000, (-1000000000000000), 1000000000000001, 9223372036854775807, (-9223372036854775808), t730, wrap64 (-t733)] : List Int)) := ⟨_, rfl⟩
 replace H : ((spec_l1Int.f s0_0 t734 t735 y736).bind fun bt739 => (some (bt739.1, bt739.2.1, bt739.2.2))) = some (r1, r2, r3) := zy hy736
 have Ny736 := zA hy736
 clear hy736
 replace H := zI H
 obtain ⟨⟨t739, t740, t741⟩, A4, H⟩ := H
 try dsimp only at H
 simp only [Option.some.injEq, Prod.mk.injEq] at H
 obtain ⟨rfl, rfl, rfl⟩ := H
 go_enter Try.func113, Try.ntmps113
 go_wp2_with (first | ((with_reducible refine zg 107 ?_); refine gL (some 5) Try.func107 #[.pointer (some ⟨g, 0, none⟩), .int .i64 100000] ?_; (with_reducible refine (spec_l1Below.calls g s0_0 s0_1 s0_2 100000 t730 t731 t732 w0 _ ?z1 ?z2 A2.out).mono ?_); (case z1 => exact zz0); (case z2 => exact zz1); rintro e w5 ⟨rfl, hi, hb, hk⟩; refine ⟨_, rfl, ?_⟩; replace HK := zT hk; replace HB := zA hb; replace HI0 := zA hi; clear hb hk hi) | ((with_reducible refine zg 107 ?_); refine gL (some 7) Try.func107 #[.pointer (some ⟨g, 0, none⟩), .int .i64 100000] ?_; (with_reducible refine (spec_l1Below.calls g s0_0 t731 t732 100000 t733 t734 t735 w0 _ ?z1 ?z2 A3.out).mono ?_); (case z1 => exact zz0); (case z2 => exact zz1); rintro e w6 ⟨rfl, hi, hb, hk⟩; refine ⟨_, rfl, ?_⟩; replace HK := zT hk; replace HB := zA hb; replace HI0 := zA hi; clear hb hk hi) | ((with_reducible refine zt 9 ?_); refine Kd.R_lit (Kd.int .i64) _ 3 ?hg (N := 9) ?hd (xs := ([0, 1, (-1), 63, 127, 128, 255, 256, 65535, 65536, 2147483647, (-2147483648), 2147483648, (-2147483649), 1000000000000000, (-1000000000000000), 1000000000000001, 9223372036854775807, (-9223372036854775808), t730, wrap64 (-t733)] : List Int)) (inner := [.int .i64 0, .int .i64 1, .int .i64 (-1), .int .i64 63, .int .i64 127, .int .i64 128, .int .i64 255, .int .i64 256, .int .i64 65535, .int .i64 65536, .int .i64 2147483647, .int .i64 (-2147483648), .int .i64 2147483648, .int .i64 (-2147483649), .int .i64 1000000000000000, .int .i64 (-1000000000000000), .int .i64 1000000000000001, .int .i64 9223372036854775807, .int .i64 (-9223372036854775808), .int .i64 t730, .int .i64 (wrap64 (-t733))]) (ok := fun _ => True) (okp := fun _ => True) ?hr ?hp (fun _ hk => hk) trivial (Below.refl _ _) (Nat.le_refl _) (by simp) ?_; (case hd => rfl); (case hg => rfl); (case hr => exact zz16); (case hp => exact (Reps.one (show Kd.M (Kd.int .i64) _ _ _ 0 [.int .i64 0] from rfl) (Reps.one (show Kd.M (Kd.int .i64) _ _ _ 1 [.int .i64 1] from rfl) (Reps.one (show Kd.M (Kd.int .i64) _ _ _ (-1) [.int .i64 (-1)] from rfl) (Reps.one (show Kd.M (Kd.int .i64) _ _ _ 63 [.int .i64 63] from rfl) (Reps.one (show Kd.M (Kd.int .i64) _ _ _ 127 [.int .i64 127] from rfl) (Reps.one (show Kd.M (Kd.int .i64) _ _ _ 128 [.int .i64 128] from rfl) (Reps.one (show Kd.M (Kd.int .i64) _ _ _ 255 [.int .i64 255] from rfl) (Reps.one (show Kd.M (Kd.int .i64) _ _ _ 256 [.int .i64 256] from rfl) (Reps.one (show Kd.M (Kd.int .i64) _ _ _ 65535 [.int .i64 65535] from rfl) (Reps.one (show Kd.M (Kd.int .i64) _ _ _ 65536 [.int .i64 65536] from rfl) (Reps.one (show Kd.M (Kd.int .i64) _ _ _ 2147483647 [.int .i64 2147483647] from rfl) (Reps.one (show Kd.M (Kd.int .i64) _ _ _ (-2147483648) [.int .i64 (-2147483648)] from rfl) (Reps.one (show Kd.M (Kd.int .i64) _ _ _ 2147483648 [.int .i64 2147483648] from rfl) (Reps.one (show Kd.M (Kd.int .i64) _ _ _ (-2147483649) [.int .i64 (-2147483649)] from rfl) (Reps.one (show Kd.M (Kd.int .i64) _ _ _ 1000000000000000 [.int .i64 1000000000000000] from rfl) (Reps.one (show Kd.M (Kd.int .i64) _ _ _ (-1000000000000000) [.int .i64 (-1000000000000000)] from rfl) (Reps.one (show Kd.M (Kd.int .i64) _ _ _ 1000000000000001 [.int .i64 1000000000000001] from rfl) (Reps.one (show Kd.M (Kd.int .i64) _ _ _ 9223372036854775807 [.int .i64 9223372036854775807] from rfl) (Reps.one (show Kd.M (Kd.int .i64) _ _ _ (-9223372036854775808) [.int .i64 (-9223372036854775808)] from rfl) (Reps.one (show Kd.M (Kd.int .i64) _ _ _ t730 [.int .i64 t730] from rfl) (Reps.one (show Kd.M (Kd.int .i64) _ _ _ (wrap64 (-t733)) [.int .i64 (wrap64 (-t733))] from rfl) (Reps.none _ _))))))))))))))))))))))); intro v737 w7 ho8 hb hg_ hnew_; clear hg_ hnew_; (first | rw [← Ny736.out] at ho8 | (simp only [Int.reduceToNat] at ho8; rw [← Ny736.out] at ho8)); have HO738 := zA (Kd.R_lower ho8 (keep_size (w := w) (g := g) (row := none) zf)); replace HK := zT (KeepBut.of_below hb g none); replace HB := zS hb zz1; replace HI0 := zA (IsS102.below zz0 hb); clear hb ho8; obtain ⟨Ao9, co9, eo9⟩ := Kd.R_slice HO738.out; subst eo9) | ((with_reducible refine zg 108 ?_); refine gL (some 10) Try.func108 #[.pointer (some ⟨g, 0, none⟩), .slice Ao9 y736.length co9] ?_; (with_reducible refine (spec_l1Int.calls g s0_0 t734 t735 _ _ y736 t739 t740 t741 w0 _ ?z1 ?z2 ?z3 ?z4 ?z5 A4.out).mono ?_); (case z1 => exact zz0); (case z2 => exact zz1); (case z3 => exact ze HO738); (case z4 => exact zl HO738); (case z5 => exact far_slice (IsS102.own_ne HI0.out HO738.out (by decide))); rintro e w10 ⟨rfl, hi, hb, hk⟩; refine ⟨_, rfl, ?_⟩; replace HO738 := zA (Kd.R_mono (Kd.R_keep (IsS102.apart (show IsS102 w0 _ g s0_0 t734 t735 from zz0) (zr HO738) (by decide)) hk (fun _ h => h.2)) (fun _ h => h.1)); replace HK := zT hk; replace HB := zA hb; replace HI0 := zA hi; clear hb hk hi))
 go_ret
 exact ⟨zw, zz0, zz1, zf⟩

/-! ### spec_l2Any: function 93 -/
def spec_l2Any.f (k : Nat) (s0_0 : List Int) (s0_1 : Int) (s0_2 : Int) : Option (Int × Int × ByteArray × Int × Int) := (spec_l2Draw.f k s0_0 s0_1 s0_2).bind fun bt743 => ((spec_l1Below.f s0_0 bt743.2.2.2.1 bt743.2.2.2.2 10).bind fun bt749 => (if bt749.1 = 0 then ((spec_l1Below.f s0_0 bt749.2.1 bt749.2.2 6).bind fun bt752 => (some (bt752.1, bt743.2.1, bt743.2.2.1, bt752.2.1, bt752.2.2))) else (if bt749.1 = 1 then ((spec_l1Num.f s0_0 bt749.2.1 bt749.2.2).bind fun bt755 => (some (bt743.1, bt755.1, bt743.2.2.1, bt755.2.1, bt755.2.2))) else (if bt749.1 = 2 then ((spec_l1Below.f s0_0 bt749.2.1 bt749.2.2 2).bind fun bt758 => (if 0 ≤ (wrap64 (30 + bt758.1)) then (if (wrap64 (30 + bt758.1) : Int).toNat ≤ 281474976710656 then (some (bt743.1, bt743.2.1, strOfNums (List.replicate (wrap64 (30 + bt758.1) : Int).toNat 0), bt758.2.1, bt758.2.2)) else (none)) else (none))) else (if bt749.1 = 3 then ((spec_l1Str.f s0_0 bt749.2.1 bt749.2.2 (([(⟨#[105, 116, 39, 115]⟩ : ByteArray), (⟨#[97, 32, 98]⟩ : ByteArray), (⟨#[126]⟩ : ByteArray), (⟨#[127]⟩ : ByteArray)] : List ByteArray))).bind fun bt767 => (some (bt743.1, bt743.2.1, bt767.1, bt767.2.1, bt767.2.2))) else (some (bt743.1, bt743.2.1, bt743.2.2.1, bt749.2.1, bt749.2.2)))))))
set_option maxHeartbeats 8000000 in
set_option maxRecDepth 100000 in
theorem spec_l2Any.calls (k : Nat) (g : Nat) (s0_0 : List Int) (s0_1 : Int) (s0_2 : Int) (r1 : Int) (r2 : Int) (r3 : ByteArray) (r4 : Int) (r5 : Int) (w0 w : World) (hI : IsS102 w0 w g s0_0 s0_1 s0_2) (hB : Below w0.heap.size w0 w) (h : spec_l2Any.f k s0_0 s0_1 s0_2 = some (r1, r2, r3, r4, r5)) :
  Calls Try.prog 93 #[.pointer (some ⟨g, 0, none⟩)] w fun e w' => e = .returned (.agg #[.int .i64 r1, .int .i64 r2, .string r3]) ∧ IsS102 w0 w' g s0_0 r4 r5 ∧ Below w0.heap.size w0 w' ∧ KeepBut w w' g none := by
 have hu32 := Try.underlying32
 have HI0 := zA hI
 have HK := zA (KeepBut.refl w g none)
 have HL := zA hB.size
 clear hI
 have HW0 := zA hB.size
 have HB := zA hB
 clear hB
 have H : ((spec_l2Draw.f k s0_0 s0_1 s0_2).bind fun bt743 => ((spec_l1Below.f s0_0 bt743.2.2.2.1 bt743.2.2.2.2 10).bind fun bt749 => (if bt749.1 = 0 then ((spec_l1Below.f s0_0 bt749.2.1 bt749.2.2 6).bind fun bt752 => (some (bt752.1, bt743.2.1, bt743.2.2.1, bt752.2.1, bt752.2.2))) else (if bt749.1 = 1 then ((spec_l1Num.f s0_0 bt749.2.1 bt749.2.2).bind fun bt755 => (some (bt743.1, bt755.1, bt743.2.2.1, bt755.2.1, bt755.2.2))) else (if bt749.1 = 2 then ((spec_l1Below.f s0_0 bt749.2.1 bt749.2.2 2).bind fun bt758 => (if 0 ≤ (wrap64 (30 + bt758.1)) then (if (wrap64 (30 + bt758.1) : Int).toNat ≤ 281474976710656 then (some (bt743.1, bt743.2.1, strOfNums (List.replicate (wrap64 (30 + bt758.1) : Int).toNat 0), bt758.2.1, bt758.2.2)) else (none)) else (none))) else (if bt749.1 = 3 then ((spec_l1Str.f s0_0 bt749.2.1 bt749.2.2 (([(⟨#[105, 116, 39, 115]⟩ : ByteArray), (⟨#[97, 32, 98]⟩ : ByteArray), (⟨#[126]⟩ : ByteArray), (⟨#[127]⟩ : ByteArray)] : List ByteArray))).bind fun bt767 => (some (bt743.1, bt743.2.1, bt767.1, bt767.2.1, bt767.2.2))) else (some (bt743.1, bt743.2.1, bt743.2.2.1, bt749.2.1, bt749.2.2)))))))) = some (r1, r2, r3, r4, r5) := h
 clear h
 replace H := zI H
 obtain ⟨⟨t743, t744, t745, t746, t747⟩, A2, H⟩ := H
 try dsimp only at H
 replace H := zI H
 obtain ⟨⟨t749, t750, t751⟩, A3, H⟩ := H
 try dsimp only at H
 by_cases c4 : t749 = 0
 ·rw [if_pos c4] at H
  have c4b0 : (t749 == 0) = true := beq_iff_eq.mpr c4
  have c4b1 : (t749 != 0) = false := bne_eq_false_iff_eq.mpr c4
  clear c4
  replace H := zI H
  obtain ⟨⟨t752, t753, t754⟩, A5, H⟩ := H
  try dsimp only at H
  simp only [Option.some.injEq, Prod.mk.injEq] at H
  obtain ⟨rfl, rfl, rfl, rfl, rfl⟩ := H
  go_enter Try.func93, Try.ntmps93
  go_wp2_with (first | ((with_reducible refine zt 2 ?_); refine zn #[.int .i64 0, .int .i64 0, .string (⟨#[]⟩ : ByteArray)] 32 ?_; intro gb742 hg w6 hbox hb; replace HB := zS hb zz1; have BK742 := zA hbox; have GW742 := zA ((zz46 : w.heap.size ≤ gb742)); have GE742 := zA ((Nat.le_trans HW0.out (zz46 : w.heap.size ≤ gb742) : w0.heap.size ≤ gb742)); replace HK := zT (KeepBut.of_below hb g none); have NB0_742 := zA ((zz95 : g ≠ gb742)); have NB742_0 := zA ((zz96 : gb742 ≠ g)); replace HI0 := zA (IsS102.below zz0 hb); clear hb hbox hg) | ((with_reducible refine zg 111 ?_); refine gL (some 5) Try.func111 #[.pointer (some ⟨g, 0, none⟩)] ?_; (with_reducible refine (spec_l2Draw.calls k g s0_0 s0_1 s0_2 t743 t744 t745 t746 t747 w0 _ ?z1 ?z2 A2.out).mono ?_); (case z1 => exact zz4); (case z2 => exact zz29); rintro e w7 ⟨rfl, hi, hb, hk⟩; refine ⟨_, rfl, ?_⟩; replace BK742 := zV hk BK742 NB742_0; replace HK := zT hk (zf1 GW742); replace HB := zA hb; replace HI0 := zA hi; clear hb hk hi) | ((with_reducible refine zt 3 ?_); refine zn #[.int .i64 0, .int .i64 0, .string (⟨#[]⟩ : ByteArray)] 32 ?_; intro gb748 hg w8 hbox hb; replace HB := zS hb zz29; have BK748 := zA hbox; have GW748 := zA ((zz75 : w.heap.size ≤ gb748)); have GE748 := zA ((Nat.le_trans HW0.out (zz75 : w.heap.size ≤ gb748) : w0.heap.size ≤ gb748)); replace HK := zT (KeepBut.of_below hb g none) (zf1 GW742); have NB742_748 := zX BK742 hg; have NB748_742 := zY BK742 hg; replace BK742 := zB BK742 hb; have NB0_748 := zA ((zz97 : g ≠ gb748)); have NB748_0 := zA ((zz98 : gb748 ≠ g)); replace HI0 := zA (IsS102.below zz4 hb); clear hb hbox hg; have hnb9 := NB748_742.out; have hnc9 := NB742_748.out; have hnb10 := NB748_0.out; have hnc10 := NB0_748.out; obtain ⟨hcz11_0, hcz11_1, hcz11_2, hfz11_0, hfz11_1, hfz11_2⟩ := zh3 BK748) | ((with_reducible refine zg 107 ?_); refine gL (some 7) Try.func107 #[.pointer (some ⟨g, 0, none⟩), .int .i64 10] ?_; (with_reducible refine (spec_l1Below.calls g s0_0 t746 t747 10 t749 t750 t751 w0 _ ?z1 ?z2 A3.out).mono ?_); (case z1 => exact zz5); (case z2 => exact zz7); rintro e w12 ⟨rfl, hi, hb, hk⟩; refine ⟨_, rfl, ?_⟩; replace BK742 := zA (KeepBut.blk hk (g' := gb742) (o := .cells #[.int .i64 0, .int .i64 0, .string (⟨#[]⟩ : ByteArray)] 32 (0, 0)) zz23 NB742_0.out (by simp)); replace BK748 := zA (KeepBut.blk hk (g' := gb748) (o := .cells #[.int .i64 t743, .int .i64 t744, .string t745] 32 (0, 0)) zz9 NB748_0.out (by simp)); replace HK := zT hk (zf2 GW742 GW748); replace HB := zA hb; replace HI0 := zA hi; clear hb hk hi) | ((with_reducible refine zg 107 ?_); refine gL (some 11) Try.func107 #[.pointer (some ⟨g, 0, none⟩), .int .i64 6] ?_; (with_reducible refine (spec_l1Below.calls g s0_0 t750 t751 6 t752 t753 t754 w0 _ ?z1 ?z2 A5.out).mono ?_); (case z1 => exact zz5); (case z2 => exact zz7); rintro e w13 ⟨rfl, hi, hb, hk⟩; refine ⟨_, rfl, ?_⟩; replace BK742 := zV hk BK742 NB742_0; replace BK748 := zV hk BK748 NB748_0; replace HK := zT hk (zf2 GW742 GW748); replace HB := zA hb; replace HI0 := zA hi; clear hb hk hi; obtain ⟨hcz14_0, hcz14_1, hcz14_2, hfz14_0, hfz14_1, hfz14_2⟩ := zh3 BK748; have hnb15 := NB742_0.out; have hnc15 := NB0_742.out; obtain ⟨hcz16_0, hcz16_1, hcz16_2, hfz16_0, hfz16_1, hfz16_2⟩ := zh3 BK742))
  refine bodyPost_ret (results_cell_row rfl _ _ gb742 32 #[.int .i64 t752, .int .i64 t744, .string t745] (0, 0) _ rfl (by (with_reducible repeat (first | refine blk_drewN ?_ _ | refine blk_drew ?_ | refine blk_alloc ?_ _)); refine blk_put (cs := #[.int .i64 t752, .int .i64 t744, .string (⟨#[]⟩ : ByteArray)]) ?_ 2 _ rfl; (with_reducible repeat (first | refine blk_drewN ?_ _ | refine blk_drew ?_ | refine blk_alloc ?_ _)); refine blk_put (cs := #[.int .i64 t752, .int .i64 0, .string (⟨#[]⟩ : ByteArray)]) ?_ 1 _ rfl; (with_reducible repeat (first | refine blk_drewN ?_ _ | refine blk_drew ?_ | refine blk_alloc ?_ _)); refine blk_put (cs := #[.int .i64 0, .int .i64 0, .string (⟨#[]⟩ : ByteArray)]) ?_ 0 _ rfl; (with_reducible repeat (first | refine blk_drewN ?_ _ | refine blk_drew ?_ | refine blk_alloc ?_ _)); refine blk_far ?_ NB742_748.out _; (with_reducible repeat (first | refine blk_drewN ?_ _ | refine blk_drew ?_ | refine blk_alloc ?_ _)); exact BK742.out) Try.underlying32 rfl (by kernel_rfl)) rfl ?_
  exact ⟨zw, zz5, zz7, zf2 GW742 GW748⟩
 ·rw [if_neg c4] at H
  have c4b0 : (t749 == 0) = false := beq_eq_false_iff_ne.mpr c4
  have c4b1 : (t749 != 0) = true := bne_iff_ne.mpr c4
  by_cases c17 : t749 = 1
  ·rw [if_pos c17] at H
   have c17b0 : (t749 == 1) = true := beq_iff_eq.mpr c17
   have c17b1 : (t749 != 1) = false := bne_eq_false_iff_eq.mpr c17
   clear c17
   replace H := zI H
   obtain ⟨⟨t755, t756, t757⟩, A18, H⟩ := H
   try dsimp only at H
   simp only [Option.some.injEq, Prod.mk.injEq] at H
   obtain ⟨rfl, rfl, rfl, rfl, rfl⟩ := H
   go_enter Try.func93, Try.ntmps93
   go_wp2_with (first | ((with_reducible refine zt 2 ?_); refine zn #[.int .i64 0, .int .i64 0, .string (⟨#[]⟩ : ByteArray)] 32 ?_; intro gb742 hg w19 hbox hb; replace HB := zS hb zz1; have BK742 := zA hbox; have GW742 := zA ((zz46 : w.heap.size ≤ gb742)); have GE742 := zA ((Nat.le_trans HW0.out (zz46 : w.heap.size ≤ gb742) : w0.heap.size ≤ gb742)); replace HK := zT (KeepBut.of_below hb g none); have NB0_742 := zA ((zz95 : g ≠ gb742)); have NB742_0 := zA ((zz96 : gb742 ≠ g)); replace HI0 := zA (IsS102.below zz0 hb); clear hb hbox hg) | ((with_reducible refine zg 111 ?_); refine gL (some 5) Try.func111 #[.pointer (some ⟨g, 0, none⟩)] ?_; (with_reducible refine (spec_l2Draw.calls k g s0_0 s0_1 s0_2 t743 t744 t745 t746 t747 w0 _ ?z1 ?z2 A2.out).mono ?_); (case z1 => exact zz4); (case z2 => exact zz29); rintro e w20 ⟨rfl, hi, hb, hk⟩; refine ⟨_, rfl, ?_⟩; replace BK742 := zV hk BK742 NB742_0; replace HK := zT hk (zf1 GW742); replace HB := zA hb; replace HI0 := zA hi; clear hb hk hi) | ((with_reducible refine zt 3 ?_); refine zn #[.int .i64 0, .int .i64 0, .string (⟨#[]⟩ : ByteArray)] 32 ?_; intro gb748 hg w21 hbox hb; replace HB := zS hb zz29; have BK748 := zA hbox; have GW748 := zA ((zz75 : w.heap.size ≤ gb748)); have GE748 := zA ((Nat.le_trans HW0.out (zz75 : w.heap.size ≤ gb748) : w0.heap.size ≤ gb748)); replace HK := zT (KeepBut.of_below hb g none) (zf1 GW742); have NB742_748 := zX BK742 hg; have NB748_742 := zY BK742 hg; replace BK742 := zB BK742 hb; have NB0_748 := zA ((zz97 : g ≠ gb748)); have NB748_0 := zA ((zz98 : gb748 ≠ g)); replace HI0 := zA (IsS102.below zz4 hb); clear hb hbox hg; have hnb22 := NB748_742.out; have hnc22 := NB742_748.out; have hnb23 := NB748_0.out; have hnc23 := NB0_748.out; obtain ⟨hcz24_0, hcz24_1, hcz24_2, hfz24_0, hfz24_1, hfz24_2⟩ := zh3 BK748) | ((with_reducible refine zg 107 ?_); refine gL (some 7) Try.func107 #[.pointer (some ⟨g, 0, none⟩), .int .i64 10] ?_; (with_reducible refine (spec_l1Below.calls g s0_0 t746 t747 10 t749 t750 t751 w0 _ ?z1 ?z2 A3.out).mono ?_); (case z1 => exact zz5); (case z2 => exact zz7); rintro e w25 ⟨rfl, hi, hb, hk⟩; refine ⟨_, rfl, ?_⟩; replace BK742 := zA (KeepBut.blk hk (g' := gb742) (o := .cells #[.int .i64 0, .int .i64 0, .string (⟨#[]⟩ : ByteArray)] 32 (0, 0)) zz23 NB742_0.out (by simp)); replace BK748 := zA (KeepBut.blk hk (g' := gb748) (o := .cells #[.int .i64 t743, .int .i64 t744, .string t745] 32 (0, 0)) zz9 NB748_0.out (by simp)); replace HK := zT hk (zf2 GW742 GW748); replace HB := zA hb; replace HI0 := zA hi; clear hb hk hi) | ((with_reducible refine zg 113 ?_); refine gL (some 16) Try.func113 #[.pointer (some ⟨g, 0, none⟩)] ?_; (with_reducible refine (spec_l1Num.calls g s0_0 t750 t751 t755 t756 t757 w0 _ ?z1 ?z2 A18.out).mono ?_); (case z1 => exact zz5); (case z2 => exact zz7); rintro e w26 ⟨rfl, hi, hb, hk⟩; refine ⟨_, rfl, ?_⟩; replace BK742 := zV hk BK742 NB742_0; replace BK748 := zV hk BK748 NB748_0; replace HK := zT hk (zf2 GW742 GW748); replace HB := zA hb; replace HI0 := zA hi; clear hb hk hi; obtain ⟨hcz27_0, hcz27_1, hcz27_2, hfz27_0, hfz27_1, hfz27_2⟩ := zh3 BK748; have hnb28 := NB742_0.out; have hnc28 := NB0_742.out; obtain ⟨hcz29_0, hcz29_1, hcz29_2, hfz29_0, hfz29_1, hfz29_2⟩ := zh3 BK742))
   refine bodyPost_ret (results_cell_row rfl _ _ gb742 32 #[.int .i64 t743, .int .i64 t755, .string t745] (0, 0) _ rfl (by (with_reducible repeat (first | refine blk_drewN ?_ _ | refine blk_drew ?_ | refine blk_alloc ?_ _)); refine blk_put (cs := #[.int .i64 t743, .int .i64 t755, .string (⟨#[]⟩ : ByteArray)]) ?_ 2 _ rfl; (with_reducible repeat (first | refine blk_drewN ?_ _ | refine blk_drew ?_ | refine blk_alloc ?_ _)); refine blk_put (cs := #[.int .i64 t743, .int .i64 0, .string (⟨#[]⟩ : ByteArray)]) ?_ 1 _ rfl; (with_reducible repeat (first | refine blk_drewN ?_ _ | refine blk_drew ?_ | refine blk_alloc ?_ _)); refine blk_put (cs := #[.int .i64 0, .int .i64 0, .string (⟨#[]⟩ : ByteArray)]) ?_ 0 _ rfl; (with_reducible repeat (first | refine blk_drewN ?_ _ | refine blk_drew ?_ | refine blk_alloc ?_ _)); refine blk_far ?_ NB742_748.out _; (with_reducible repeat (first | refine blk_drewN ?_ _ | refine blk_drew ?_ | refine blk_alloc ?_ _)); exact BK742.out) Try.underlying32 rfl (by kernel_rfl)) rfl ?_
   exact ⟨zw, zz5, zz7, zf2 GW742 GW748⟩
  ·rw [if_neg c17] at H
   have c17b0 : (t749 == 1) = false := beq_eq_false_iff_ne.mpr c17
   have c17b1 : (t749 != 1) = true := bne_iff_ne.mpr c17
   by_cases c30 : t749 = 2
   ·rw [if_pos c30] at H
    have c30b0 : (t749 == 2) = true := beq_iff_eq.mpr c30
    have c30b1 : (t749 != 2) = false := bne_eq_false_iff_eq.mpr c30
    clear c30
    replace H := zI H
    obtain ⟨⟨t758, t759, t760⟩, A31, H⟩ := H
    try dsimp only at H
    obtain ⟨ji32, hji32⟩ : ∃ j_ : Int, (wrap64 (30 + t758)) = j_ := ⟨_, rfl⟩
    replace H : (if 0 ≤ (ji32) then (if (ji32 : Int).toNat ≤ 281474976710656 then (some (t743, t744, strOfNums (List.replicate (ji32 : Int).toNat 0), t759, t760)) else (none)) else (none)) = some (r1, r2, r3, r4, r5) := by first | (rw [hji32] at H; exact H) | (simp only [hji32] at H ⊢; exact H)
    (try rw [hji32] at A2)
    (try rw [hji32] at A3)
    (try rw [hji32] at A31)
    have hji32w : (IntKind.i64.wrap (30 + t758)) = ji32 := (i64_w _).trans hji32
    by_cases c33 : 0 ≤ (ji32)
    ·rw [if_pos c33] at H
     have c33b0 := eq_true c33
     have c33b1 : decide (0 ≤ (ji32)) = true := decide_eq_true c33
     clear c33
     by_cases c34 : (ji32 : Int).toNat ≤ 281474976710656
     ·rw [if_pos c34] at H
      have c34b0 := eq_true c34
      have c34b1 : decide ((ji32 : Int).toNat ≤ 281474976710656) = true := decide_eq_true c34
      clear c34
      obtain ⟨y761, hy761⟩ : ∃ y_ : List Int, y_ = (List.replicate (ji32 : Int).toNat 0) := ⟨_, rfl⟩
      replace H : (some (t743, t744, strOfNums y761, t759, t760)) = some (r1, r2, r3, r4, r5) := zy hy761
      have Ny761 := zA hy761
      clear hy761
      simp only [Option.some.injEq, Prod.mk.injEq] at H
      obtain ⟨rfl, rfl, rfl, rfl, rfl⟩ := H
      go_enter Try.func93, Try.ntmps93
      go_wp2_with (first | ((with_reducible refine zt 2 ?_); refine zn #[.int .i64 0, .int .i64 0, .string (⟨#[]⟩ : ByteArray)] 32 ?_; intro gb742 hg w35 hbox hb; replace HB := zS hb zz1; have BK742 := zA hbox; have GW742 := zA ((zz46 : w.heap.size ≤ gb742)); have GE742 := zA ((Nat.le_trans HW0.out (zz46 : w.heap.size ≤ gb742) : w0.heap.size ≤ gb742)); replace HK := zT (KeepBut.of_below hb g none); have NB0_742 := zA ((zz95 : g ≠ gb742)); have NB742_0 := zA ((zz96 : gb742 ≠ g)); replace HI0 := zA (IsS102.below zz0 hb); clear hb hbox hg) | ((with_reducible refine zg 111 ?_); refine gL (some 5) Try.func111 #[.pointer (some ⟨g, 0, none⟩)] ?_; (with_reducible refine (spec_l2Draw.calls k g s0_0 s0_1 s0_2 t743 t744 t745 t746 t747 w0 _ ?z1 ?z2 A2.out).mono ?_); (case z1 => exact zz4); (case z2 => exact zz29); rintro e w36 ⟨rfl, hi, hb, hk⟩; refine ⟨_, rfl, ?_⟩; replace BK742 := zV hk BK742 NB742_0; replace HK := zT hk (zf1 GW742); replace HB := zA hb; replace HI0 := zA hi; clear hb hk hi) | ((with_reducible refine zt 3 ?_); refine zn #[.int .i64 0, .int .i64 0, .string (⟨#[]⟩ : ByteArray)] 32 ?_; intro gb748 hg w37 hbox hb; replace HB := zS hb zz29; have BK748 := zA hbox; have GW748 := zA ((zz75 : w.heap.size ≤ gb748)); have GE748 := zA ((Nat.le_trans HW0.out (zz75 : w.heap.size ≤ gb748) : w0.heap.size ≤ gb748)); replace HK := zT (KeepBut.of_below hb g none) (zf1 GW742); have NB742_748 := zX BK742 hg; have NB748_742 := zY BK742 hg; replace BK742 := zB BK742 hb; have NB0_748 := zA ((zz97 : g ≠ gb748)); have NB748_0 := zA ((zz98 : gb748 ≠ g)); replace HI0 := zA (IsS102.below zz4 hb); clear hb hbox hg; have hnb38 := NB748_742.out; have hnc38 := NB742_748.out; have hnb39 := NB748_0.out; have hnc39 := NB0_748.out; obtain ⟨hcz40_0, hcz40_1, hcz40_2, hfz40_0, hfz40_1, hfz40_2⟩ := zh3 BK748) | ((with_reducible refine zg 107 ?_); refine gL (some 7) Try.func107 #[.pointer (some ⟨g, 0, none⟩), .int .i64 10] ?_; (with_reducible refine (spec_l1Below.calls g s0_0 t746 t747 10 t749 t750 t751 w0 _ ?z1 ?z2 A3.out).mono ?_); (case z1 => exact zz5); (case z2 => exact zz7); rintro e w41 ⟨rfl, hi, hb, hk⟩; refine ⟨_, rfl, ?_⟩; replace BK742 := zA (KeepBut.blk hk (g' := gb742) (o := .cells #[.int .i64 0, .int .i64 0, .string (⟨#[]⟩ : ByteArray)] 32 (0, 0)) zz23 NB742_0.out (by simp)); replace BK748 := zA (KeepBut.blk hk (g' := gb748) (o := .cells #[.int .i64 t743, .int .i64 t744, .string t745] 32 (0, 0)) zz9 NB748_0.out (by simp)); replace HK := zT hk (zf2 GW742 GW748); replace HB := zA hb; replace HI0 := zA hi; clear hb hk hi) | ((with_reducible refine zg 107 ?_); refine gL (some 21) Try.func107 #[.pointer (some ⟨g, 0, none⟩), .int .i64 2] ?_; (with_reducible refine (spec_l1Below.calls g s0_0 t750 t751 2 t758 t759 t760 w0 _ ?z1 ?z2 A31.out).mono ?_); (case z1 => exact zz5); (case z2 => exact zz7); rintro e w42 ⟨rfl, hi, hb, hk⟩; refine ⟨_, rfl, ?_⟩; replace BK742 := zV hk BK742 NB742_0; replace BK748 := zV hk BK748 NB748_0; replace HK := zT hk (zf2 GW742 GW748); replace HB := zA hb; replace HI0 := zA hi; clear hb hk hi) | ((with_reducible refine zt 23 ?_); refine Kd.R_make (Kd.int .u8) _ 5 rfl (N := 23) rfl 22 _ _ rfl ji32 rfl rfl Try.underlying22 (.int .u8 0) 1 info5 rfl (by decide) (by omega) 0 (ok := fun _ => True) (okp := fun _ => True) rfl (fun _ hk => hk) trivial (of_decide_eq_true za) (Nat.le_trans (Nat.mul_le_mul_right _ (of_decide_eq_true za : ji32.toNat ≤ 281474976710656)) (by omega)) (Below.refl _ _) (Nat.le_refl _) ?_; intro v762 w43 ho44 hb hg_ hnew_; clear hg_ hnew_; (first | rw [← Ny761.out] at ho44 | (simp only [Int.reduceToNat] at ho44; rw [← Ny761.out] at ho44)); have HO763 := zA (Kd.R_lower ho44 (keep_size (w := w) (g := g) (row := none) (zf2 GW742 GW748))); replace BK742 := zB BK742 hb; replace BK748 := zB BK748 hb; replace HK := zT (KeepBut.of_below hb g none) (zf2 GW742 GW748); replace HB := zS hb zz7; replace HI0 := zA (IsS102.below zz5 hb); clear hb ho44; have hcv45 := own_string (P := Try.prog) Try.underlying22 Try.underlying5 Try.underlying9 (Kd.own_of_R HO763.out); obtain ⟨hcz46_0, hcz46_1, hcz46_2, hfz46_0, hfz46_1, hfz46_2⟩ := zh3 BK748; have hnb47 := NB742_0.out; have hnc47 := NB0_742.out; obtain ⟨hcz48_0, hcz48_1, hcz48_2, hfz48_0, hfz48_1, hfz48_2⟩ := zh3 BK742))
      refine bodyPost_ret (results_cell_row rfl _ _ gb742 32 #[.int .i64 t743, .int .i64 t744, .string (strOfNums y761)] (0, 0) _ rfl zz34 Try.underlying32 rfl (by kernel_rfl)) rfl ?_
      exact ⟨by first | rfl | (simp [errW_none, errW_some] <;> rfl) | (simp only [← hji32]; first | rfl | (simp [errW_none, errW_some] <;> rfl)) | (simp [*, errW_none, errW_some] <;> rfl), zz5, zz7, zf2 GW742 GW748⟩
     ·rw [if_neg c34] at H
      exact absurd H (by simp)
    ·rw [if_neg c33] at H
     exact absurd H (by simp)
   ·rw [if_neg c30] at H
    have c30b0 : (t749 == 2) = false := beq_eq_false_iff_ne.mpr c30
    have c30b1 : (t749 != 2) = true := bne_iff_ne.mpr c30
    by_cases c49 : t749 = 3
    ·rw [if_pos c49] at H
     have c49b0 : (t749 == 3) = true := beq_iff_eq.mpr c49
     have c49b1 : (t749 != 3) = false := bne_eq_false_iff_eq.mpr c49
     clear c49
     obtain ⟨y764, hy764⟩ : ∃ y_ : List ByteArray, y_ = (([(⟨#[105, 116, 39, 115]⟩ : ByteArray), (⟨#[97, 32, 98]⟩ : ByteArray), (⟨#[126]⟩ : ByteArray), (⟨#[127]⟩ : ByteArray)] : List ByteArray)) := ⟨_, rfl⟩
     replace H : ((spec_l1Str.f s0_0 t750 t751 y764).bind fun bt767 => (some (t743, t744, bt767.1, bt767.2.1, bt767.2.2))) = some (r1, r2, r3, r4, r5) := zy hy764
     have Ny764 := zA hy764
     clear hy764
     replace H := zI H
     obtain ⟨⟨t767, t768, t769⟩, A50, H⟩ := H
     try dsimp only at H
     simp only [Option.some.injEq, Prod.mk.injEq] at H
     obtain ⟨rfl, rfl, rfl, rfl, rfl⟩ := H
     go_enter Try.func93, Try.ntmps93
     go_wp2_with (first | ((with_reducible refine zt 2 ?_); refine zn #[.int .i64 0, .int .i64 0, .string (⟨#[]⟩ : ByteArray)] 32 ?_; intro gb742 hg w51 hbox hb; replace HB := zS hb zz1; have BK742 := zA hbox; have GW742 := zA ((zz46 : w.heap.size ≤ gb742)); have GE742 := zA ((Nat.le_trans HW0.out (zz46 : w.heap.size ≤ gb742) : w0.heap.size ≤ gb742)); replace HK := zT (KeepBut.of_below hb g none); have NB0_742 := zA ((zz95 : g ≠ gb742)); have NB742_0 := zA ((zz96 : gb742 ≠ g)); replace HI0 := zA (IsS102.below zz0 hb); clear hb hbox hg) | ((with_reducible refine zg 111 ?_); refine gL (some 5) Try.func111 #[.pointer (some ⟨g, 0, none⟩)] ?_; (with_reducible refine (spec_l2Draw.calls k g s0_0 s0_1 s0_2 t743 t744 t745 t746 t747 w0 _ ?z1 ?z2 A2.out).mono ?_); (case z1 => exact zz4); (case z2 => exact zz29); rintro e w52 ⟨rfl, hi, hb, hk⟩; refine ⟨_, rfl, ?_⟩; replace BK742 := zV hk BK742 NB742_0; replace HK := zT hk (zf1 GW742); replace HB := zA hb; replace HI0 := zA hi; clear hb hk hi) | ((with_reducible refine zt 3 ?_); refine zn #[.int .i64 0, .int .i64 0, .string (⟨#[]⟩ : ByteArray)] 32 ?_; intro gb748 hg w53 hbox hb; replace HB := zS hb zz29; have BK748 := zA hbox; have GW748 := zA ((zz75 : w.heap.size ≤ gb748)); have GE748 := zA ((Nat.le_trans HW0.out (zz75 : w.heap.size ≤ gb748) : w0.heap.size ≤ gb748)); replace HK := zT (KeepBut.of_below hb g none) (zf1 GW742); have NB742_748 := zX BK742 hg; have NB748_742 := zY BK742 hg; replace BK742 := zB BK742 hb; have NB0_748 := zA ((zz97 : g ≠ gb748)); have NB748_0 := zA ((zz98 : gb748 ≠ g)); replace HI0 := zA (IsS102.below zz4 hb); clear hb hbox hg; have hnb54 := NB748_742.out; have hnc54 := NB742_748.out; have hnb55 := NB748_0.out; have hnc55 := NB0_748.out; obtain ⟨hcz56_0, hcz56_1, hcz56_2, hfz56_0, hfz56_1, hfz56_2⟩ := zh3 BK748) | ((with_reducible refine zg 107 ?_); refine gL (some 7) Try.func107 #[.pointer (some ⟨g, 0, none⟩), .int .i64 10] ?_; (with_reducible refine (spec_l1Below.calls g s0_0 t746 t747 10 t749 t750 t751 w0 _ ?z1 ?z2 A3.out).mono ?_); (case z1 => exact zz5); (case z2 => exact zz7); rintro e w57 ⟨rfl, hi, hb, hk⟩; refine ⟨_, rfl, ?_⟩; replace BK742 := zA (KeepBut.blk hk (g' := gb742) (o := .cells #[.int .i64 0, .int .i64 0, .string (⟨#[]⟩ : ByteArray)] 32 (0, 0)) zz23 NB742_0.out (by simp)); replace BK748 := zA (KeepBut.blk hk (g' := gb748) (o := .cells #[.int .i64 t743, .int .i64 t744, .string t745] 32 (0, 0)) zz9 NB748_0.out (by simp)); replace HK := zT hk (zf2 GW742 GW748); replace HB := zA hb; replace HI0 := zA hi; clear hb hk hi) | ((with_reducible refine zt 29 ?_); refine Kd.R_lit Kd.string _ 9 ?hg (N := 29) ?hd (xs := ([(⟨#[105, 116, 39, 115]⟩ : ByteArray), (⟨#[97, 32, 98]⟩ : ByteArray), (⟨#[126]⟩ : ByteArray), (⟨#[127]⟩ : ByteArray)] : List ByteArray)) (inner := [.string (⟨#[105, 116, 39, 115]⟩ : ByteArray), .string (⟨#[97, 32, 98]⟩ : ByteArray), .string (⟨#[126]⟩ : ByteArray), .string (⟨#[127]⟩ : ByteArray)]) (ok := fun _ => True) (okp := fun _ => True) ?hr ?hp (fun _ hk => hk) trivial (Below.refl _ _) (Nat.le_refl _) (by simp) ?_; (case hd => rfl); (case hg => rfl); (case hr => exact zz16); (case hp => exact (Reps.one (show Kd.M Kd.string _ _ _ (⟨#[105, 116, 39, 115]⟩ : ByteArray) [.string (⟨#[105, 116, 39, 115]⟩ : ByteArray)] from rfl) (Reps.one (show Kd.M Kd.string _ _ _ (⟨#[97, 32, 98]⟩ : ByteArray) [.string (⟨#[97, 32, 98]⟩ : ByteArray)] from rfl) (Reps.one (show Kd.M Kd.string _ _ _ (⟨#[126]⟩ : ByteArray) [.string (⟨#[126]⟩ : ByteArray)] from rfl) (Reps.one (show Kd.M Kd.string _ _ _ (⟨#[127]⟩ : ByteArray) [.string (⟨#[127]⟩ : ByteArray)] from rfl) (Reps.none _ _)))))); intro v765 w58 ho59 hb hg_ hnew_; clear hg_ hnew_; (first | rw [← Ny764.out] at ho59 | (simp only [Int.reduceToNat] at ho59; rw [← Ny764.out] at ho59)); have HO766 := zA (Kd.R_lower ho59 (keep_size (w := w) (g := g) (row := none) (zf2 GW742 GW748))); replace BK742 := zB BK742 hb; replace BK748 := zB BK748 hb; replace HK := zT (KeepBut.of_below hb g none) (zf2 GW742 GW748); replace HB := zS hb zz7; replace HI0 := zA (IsS102.below zz5 hb); clear hb ho59; obtain ⟨Ao60, co60, eo60⟩ := Kd.R_slice HO766.out; subst eo60) | ((with_reducible refine zg 114 ?_); refine gL (some 30) Try.func114 #[.pointer (some ⟨g, 0, none⟩), .slice Ao60 y764.length co60] ?_; (with_reducible refine (spec_l1Str.calls g s0_0 t750 t751 _ _ y764 t767 t768 t769 w0 _ ?z1 ?z2 ?z3 ?z4 ?z5 A50.out).mono ?_); (case z1 => exact zz5); (case z2 => exact zz7); (case z3 => exact ze HO766); (case z4 => exact zl HO766); (case z5 => exact far_slice (IsS102.own_ne HI0.out HO766.out (by decide))); rintro e w61 ⟨rfl, hi, hb, hk⟩; refine ⟨_, rfl, ?_⟩; replace BK742 := zV hk BK742 NB742_0; replace BK748 := zV hk BK748 NB748_0; replace HO766 := zA (Kd.R_mono (Kd.R_keep (IsS102.apart (show IsS102 w0 _ g s0_0 t750 t751 from zz5) (zr HO766) (by decide)) hk (fun _ h => h.2)) (fun _ h => h.1)); replace HK := zT hk (zf2 GW742 GW748); replace HB := zA hb; replace HI0 := zA hi; clear hb hk hi; obtain ⟨hcz62_0, hcz62_1, hcz62_2, hfz62_0, hfz62_1, hfz62_2⟩ := zh3 BK748; have hnb63 := NB742_0.out; have hnc63 := NB0_742.out; obtain ⟨hcz64_0, hcz64_1, hcz64_2, hfz64_0, hfz64_1, hfz64_2⟩ := zh3 BK742))
     refine bodyPost_ret (results_cell_row rfl _ _ gb742 32 #[.int .i64 t743, .int .i64 t744, .string t767] (0, 0) _ rfl zz34 Try.underlying32 rfl (by kernel_rfl)) rfl ?_
     exact ⟨zw, zz5, zz7, zf2 GW742 GW748⟩
    ·rw [if_neg c49] at H
     have c49b0 : (t749 == 3) = false := beq_eq_false_iff_ne.mpr c49
     have c49b1 : (t749 != 3) = true := bne_iff_ne.mpr c49
     simp only [Option.some.injEq, Prod.mk.injEq] at H
     obtain ⟨rfl, rfl, rfl, rfl, rfl⟩ := H
     go_enter Try.func93, Try.ntmps93
     go_wp2_with (first | ((with_reducible refine zt 2 ?_); refine zn #[.int .i64 0, .int .i64 0, .string (⟨#[]⟩ : ByteArray)] 32 ?_; intro gb742 hg w65 hbox hb; replace HB := zS hb zz1; have BK742 := zA hbox; have GW742 := zA ((zz46 : w.heap.size ≤ gb742)); have GE742 := zA ((Nat.le_trans HW0.out (zz46 : w.heap.size ≤ gb742) : w0.heap.size ≤ gb742)); replace HK := zT (KeepBut.of_below hb g none); have NB0_742 := zA ((zz95 : g ≠ gb742)); have NB742_0 := zA ((zz96 : gb742 ≠ g)); replace HI0 := zA (IsS102.below zz0 hb); clear hb hbox hg) | ((with_reducible refine zg 111 ?_); refine gL (some 5) Try.func111 #[.pointer (some ⟨g, 0, none⟩)] ?_; (with_reducible refine (spec_l2Draw.calls k g s0_0 s0_1 s0_2 t743 t744 t745 t746 t747 w0 _ ?z1 ?z2 A2.out).mono ?_); (case z1 => exact zz4); (case z2 => exact zz29); rintro e w66 ⟨rfl, hi, hb, hk⟩; refine ⟨_, rfl, ?_⟩; replace BK742 := zV hk BK742 NB742_0; replace HK := zT hk (zf1 GW742); replace HB := zA hb; replace HI0 := zA hi; clear hb hk hi) | ((with_reducible refine zt 3 ?_); refine zn #[.int .i64 0, .int .i64 0, .string (⟨#[]⟩ : ByteArray)] 32 ?_; intro gb748 hg w67 hbox hb; replace HB := zS hb zz29; have BK748 := zA hbox; have GW748 := zA ((zz75 : w.heap.size ≤ gb748)); have GE748 := zA ((Nat.le_trans HW0.out (zz75 : w.heap.size ≤ gb748) : w0.heap.size ≤ gb748)); replace HK := zT (KeepBut.of_below hb g none) (zf1 GW742); have NB742_748 := zX BK742 hg; have NB748_742 := zY BK742 hg; replace BK742 := zB BK742 hb; have NB0_748 := zA ((zz97 : g ≠ gb748)); have NB748_0 := zA ((zz98 : gb748 ≠ g)); replace HI0 := zA (IsS102.below zz4 hb); clear hb hbox hg; have hnb68 := NB748_742.out; have hnc68 := NB742_748.out; have hnb69 := NB748_0.out; have hnc69 := NB0_748.out; obtain ⟨hcz70_0, hcz70_1, hcz70_2, hfz70_0, hfz70_1, hfz70_2⟩ := zh3 BK748) | ((with_reducible refine zg 107 ?_); refine gL (some 7) Try.func107 #[.pointer (some ⟨g, 0, none⟩), .int .i64 10] ?_; (with_reducible refine (spec_l1Below.calls g s0_0 t746 t747 10 t749 t750 t751 w0 _ ?z1 ?z2 A3.out).mono ?_); (case z1 => exact zz5); (case z2 => exact zz7); rintro e w71 ⟨rfl, hi, hb, hk⟩; refine ⟨_, rfl, ?_⟩; replace BK742 := zA (KeepBut.blk hk (g' := gb742) (o := .cells #[.int .i64 0, .int .i64 0, .string (⟨#[]⟩ : ByteArray)] 32 (0, 0)) zz23 NB742_0.out (by simp)); replace BK748 := zA (KeepBut.blk hk (g' := gb748) (o := .cells #[.int .i64 t743, .int .i64 t744, .string t745] 32 (0, 0)) zz9 NB748_0.out (by simp)); replace HK := zT hk (zf2 GW742 GW748); replace HB := zA hb; replace HI0 := zA hi; clear hb hk hi; obtain ⟨hcz72_0, hcz72_1, hcz72_2, hfz72_0, hfz72_1, hfz72_2⟩ := zh3 BK748; have hnb73 := NB742_0.out; have hnc73 := NB0_742.out; obtain ⟨hcz74_0, hcz74_1, hcz74_2, hfz74_0, hfz74_1, hfz74_2⟩ := zh3 BK742))
     refine bodyPost_ret (results_cell_row rfl _ _ gb742 32 #[.int .i64 t743, .int .i64 t744, .string t745] (0, 0) _ rfl (by (with_reducible repeat (first | refine blk_drewN ?_ _ | refine blk_drew ?_ | refine blk_alloc ?_ _)); refine blk_put (cs := #[.int .i64 t743, .int .i64 t744, .string (⟨#[]⟩ : ByteArray)]) ?_ 2 _ rfl; (with_reducible repeat (first | refine blk_drewN ?_ _ | refine blk_drew ?_ | refine blk_alloc ?_ _)); refine blk_put (cs := #[.int .i64 t743, .int .i64 0, .string (⟨#[]⟩ : ByteArray)]) ?_ 1 _ rfl; (with_reducible repeat (first | refine blk_drewN ?_ _ | refine blk_drew ?_ | refine blk_alloc ?_ _)); refine blk_put (cs := #[.int .i64 0, .int .i64 0, .string (⟨#[]⟩ : ByteArray)]) ?_ 0 _ rfl; (with_reducible repeat (first | refine blk_drewN ?_ _ | refine blk_drew ?_ | refine blk_alloc ?_ _)); exact BK742.out) Try.underlying32 rfl (by kernel_rfl)) rfl ?_
     exact ⟨zw, zz5, zz7, zf2 GW742 GW748⟩

/-! ### spec_l6Tuple: function 91 -/
def spec_l6Tuple.f (k : Nat) (s0_0 : List Int) (s0_1 : Int) (s0_2 : Int) (l1 : List (S30)) : Option ((List (S32)) × Int × Int) := (spec_l1Once.f s0_0 s0_1 s0_2 10).bind fun bt770 => (if bt770.1 = true then ((spec_l2Any.f k s0_0 bt770.2.1 bt770.2.2).bind fun bt773 => (some ((([(⟨bt773.1, bt773.2.1, bt773.2.2.1⟩ : S32)] : List (S32))), bt773.2.2.2.1, bt773.2.2.2.2))) else ((spec_PlanOk.f k l1).bind fun t781 => (if t781 = true then ((spec_l1Below.f s0_0 bt770.2.1 bt770.2.2 (wrap64 ((l1.length : Int) + 1))).bind fun bt782 => ((spec_l1Int.f s0_0 bt782.2.1 bt782.2.2 (([(l1.length : Int), (l1.length : Int), (l1.length : Int), bt782.1] : List Int))).bind fun bt788 => ((spec_l6Vals.f k s0_0 bt788.2.1 bt788.2.2 l1 bt788.1).bind fun bt791 => (some (bt791.1, bt791.2.1, bt791.2.2))))) else ((spec_l2Draw.f k s0_0 bt770.2.1 bt770.2.2).bind fun bt796 => ((spec_l2Draw.f k s0_0 bt796.2.2.2.1 bt796.2.2.2.2).bind fun bt801 => (some ((([(⟨bt796.1, bt796.2.1, bt796.2.2.1⟩ : S32), (⟨bt801.1, bt801.2.1, bt801.2.2.1⟩ : S32)] : List (S32))), bt801.2.2.2.1, bt801.2.2.2.2)))))))
set_option maxHeartbeats 8000000 in
set_option maxRecDepth 100000 in
theorem spec_l6Tuple.calls (k : Nat) (g : Nat) (s0_0 : List Int) (s0_1 : Int) (s0_2 : Int) (A1 : Option Addr) (c1 : Nat) (l1 : List (S30)) (r1 : List (S32)) (r2 : Int) (r3 : Int) (w0 w : World) (hI : IsS102 w0 w g s0_0 s0_1 s0_2) (hB : Below w0.heap.size w0 w) (hr1 : ∀ W_, KeepBut w W_ g none → Kd.C k30 W_ A1 l1.length l1) (hc1 : l1.length ≤ c1) (h : spec_l6Tuple.f k s0_0 s0_1 s0_2 l1 = some (r1, r2, r3)) :
  Calls Try.prog 91 #[.pointer (some ⟨g, 0, none⟩), .slice A1 l1.length c1] w fun e w' => ∃ v0_ : Value, e = .returned (v0_) ∧ Kd.R k32 32 w' w.heap.size (fun _ => True) v0_ r1 ∧ IsS102 w0 w' g s0_0 r2 r3 ∧ Below w0.heap.size w0 w' ∧ KeepBut w w' g none := by
 have HR1 := zA hr1
 have HC1 := zA hc1
 clear hr1 hc1
 have HI0 := zA hI
 have HK := zA (KeepBut.refl w g none)
 have HL := zA hB.size
 clear hI
 have HW0 := zA hB.size
 have HB := zA hB
 clear hB
 have H : ((spec_l1Once.f s0_0 s0_1 s0_2 10).bind fun bt770 => (if bt770.1 = true then ((spec_l2Any.f k s0_0 bt770.2.1 bt770.2.2).bind fun bt773 => (some ((([(⟨bt773.1, bt773.2.1, bt773.2.2.1⟩ : S32)] : List (S32))), bt773.2.2.2.1, bt773.2.2.2.2))) else ((spec_PlanOk.f k l1).bind fun t781 => (if t781 = true then ((spec_l1Below.f s0_0 bt770.2.1 bt770.2.2 (wrap64 ((l1.length : Int) + 1))).bind fun bt782 => ((spec_l1Int.f s0_0 bt782.2.1 bt782.2.2 (([(l1.length : Int), (l1.length : Int), (l1.length : Int), bt782.1] : List Int))).bind fun bt788 => ((spec_l6Vals.f k s0_0 bt788.2.1 bt788.2.2 l1 bt788.1).bind fun bt791 => (some (bt791.1, bt791.2.1, bt791.2.2))))) else ((spec_l2Draw.f k s0_0 bt770.2.1 bt770.2.2).bind fun bt796 => ((spec_l2Draw.f k s0_0 bt796.2.2.2.1 bt796.2.2.2.2).bind fun bt801 => (some ((([(⟨bt796.1, bt796.2.1, bt796.2.2.1⟩ : S32), (⟨bt801.1, bt801.2.1, bt801.2.2.1⟩ : S32)] : List (S32))), bt801.2.2.2.1, bt801.2.2.2.2)))))))) = some (r1, r2, r3) := h
 clear h
 replace H := zI H
 obtain ⟨⟨t770, t771, t772⟩, A3, H⟩ := H
 try dsimp only at H
 by_cases c4 : t770 = true
 ·subst c4
  rw [if_pos rfl] at H
  replace H := zI H
  obtain ⟨⟨t773, t774, t775, t776, t777⟩, A5, H⟩ := H
  try dsimp only at H
  obtain ⟨y778, hy778⟩ : ∃ y_ : List (S32), y_ = (([(⟨t773, t774, t775⟩ : S32)] : List (S32))) := ⟨_, rfl⟩
  replace H : (some (y778, t776, t777)) = some (r1, r2, r3) := zy hy778
  have Ny778 := zA hy778
  clear hy778
  simp only [Option.some.injEq, Prod.mk.injEq] at H
  obtain ⟨rfl, rfl, rfl⟩ := H
  go_enter Try.func91, Try.ntmps91
  go_wp2_with (first | ((with_reducible refine zg 110 ?_); refine gL (some 6) Try.func110 #[.pointer (some ⟨g, 0, none⟩), .int .i64 10] ?_; (with_reducible refine (spec_l1Once.calls g s0_0 s0_1 s0_2 10 true t771 t772 w0 _ ?z1 ?z2 A3.out).mono ?_); (case z1 => exact zz0); (case z2 => exact zz1); rintro e w6 ⟨rfl, hi, hb, hk⟩; refine ⟨_, rfl, ?_⟩; replace HK := zT hk; replace HB := zA hb; replace HI0 := zA hi; clear hb hk hi) | ((with_reducible refine zg 93 ?_); refine gL (some 8) Try.func93 #[.pointer (some ⟨g, 0, none⟩)] ?_; (with_reducible refine (spec_l2Any.calls k g s0_0 t771 t772 t773 t774 t775 t776 t777 w0 _ ?z1 ?z2 A5.out).mono ?_); (case z1 => exact zz0); (case z2 => exact zz1); rintro e w7 ⟨rfl, hi, hb, hk⟩; refine ⟨_, rfl, ?_⟩; replace HK := zT hk; replace HB := zA hb; replace HI0 := zA hi; clear hb hk hi) | ((with_reducible refine zt 9 ?_); refine Kd.R_lit k32 _ 32 ?hg (N := 9) ?hd (xs := ([(⟨t773, t774, t775⟩ : S32)] : List (S32))) (inner := [.int .i64 t773, .int .i64 t774, .string t775]) (ok := fun _ => True) (okp := fun _ => True) ?hr ?hp (fun _ hk => hk) trivial (Below.refl _ _) (Nat.le_refl _) (by simp) ?_; (case hd => rfl); (case hg => rfl); (case hr => exact zz16); (case hp => exact (Reps.c3 (show Kd.M k32 _ _ _ (⟨t773, t774, t775⟩ : S32) [.int .i64 t773, .int .i64 t774, .string t775] from (k32_mkM _ _ _ (⟨t773, t774, t775⟩ : S32) )) (Reps.none _ _))); intro v779 w8 ho9 hb hg_ hnew_; clear hg_ hnew_; (first | rw [← Ny778.out] at ho9 | (simp only [Int.reduceToNat] at ho9; rw [← Ny778.out] at ho9)); have HO780 := zA (Kd.R_lower ho9 (keep_size (w := w) (g := g) (row := none) zf)); replace HK := zT (KeepBut.of_below hb g none); replace HB := zS hb zz1; replace HI0 := zA (IsS102.below zz0 hb); clear hb ho9))
  go_ret
  exact ⟨_, zw, zr HO780, zz0, zz1, zf⟩
 ·replace c4 := Bool.eq_false_iff.mpr c4
  subst c4
  rw [if_neg (Bool.false_ne_true)] at H
  replace H := zI H
  obtain ⟨t781, A10, H⟩ := H
  by_cases c11 : t781 = true
  ·subst c11
   rw [if_pos rfl] at H
   replace H := zI H
   obtain ⟨⟨t782, t783, t784⟩, A12, H⟩ := H
   try dsimp only at H
   obtain ⟨y785, hy785⟩ : ∃ y_ : List Int, y_ = (([(l1.length : Int), (l1.length : Int), (l1.length : Int), t782] : List Int)) := ⟨_, rfl⟩
   replace H : ((spec_l1Int.f s0_0 t783 t784 y785).bind fun bt788 => ((spec_l6Vals.f k s0_0 bt788.2.1 bt788.2.2 l1 bt788.1).bind fun bt791 => (some (bt791.1, bt791.2.1, bt791.2.2)))) = some (r1, r2, r3) := zy hy785
   have Ny785 := zA hy785
   clear hy785
   replace H := zI H
   obtain ⟨⟨t788, t789, t790⟩, A13, H⟩ := H
   try dsimp only at H
   replace H := zI H
   obtain ⟨⟨t791, t794, t795⟩, A14, H⟩ := H
   try dsimp only at H
   simp only [Option.some.injEq, Prod.mk.injEq] at H
   obtain ⟨rfl, rfl, rfl⟩ := H
   go_enter Try.func91, Try.ntmps91
   go_wp2_with (first | ((with_reducible refine zg 110 ?_); refine gL (some 6) Try.func110 #[.pointer (some ⟨g, 0, none⟩), .int .i64 10] ?_; (with_reducible refine (spec_l1Once.calls g s0_0 s0_1 s0_2 10 false t771 t772 w0 _ ?z1 ?z2 A3.out).mono ?_); (case z1 => exact zz0); (case z2 => exact zz1); rintro e w15 ⟨rfl, hi, hb, hk⟩; refine ⟨_, rfl, ?_⟩; replace HK := zT hk; replace HB := zA hb; replace HI0 := zA hi; clear hb hk hi) | ((with_reducible refine zg 62 ?_); refine gL (some 11) Try.func62 #[.slice A1 l1.length c1] ?_; (with_reducible refine (spec_PlanOk.calls k _ _ l1 true _ ?z1 ?z2 A10.out).mono ?_); (case z1 => exact Kd.C_foot_now HR1.out zf); (case z2 => exact HC1.out); rintro e w16 ⟨rfl, hb⟩; refine ⟨_, rfl, ?_⟩; replace HK := zT (KeepBut.of_below hb g none); replace HB := zS hb zz1; replace HI0 := zA (IsS102.below zz0 hb); (try clear hb)) | ((with_reducible refine zg 107 ?_); refine gL (some 31) Try.func107 #[.pointer (some ⟨g, 0, none⟩), .int .i64 (wrap64 ((l1.length : Int) + 1))] ?_; (with_reducible refine (spec_l1Below.calls g s0_0 t771 t772 (wrap64 ((l1.length : Int) + 1)) t782 t783 t784 w0 _ ?z1 ?z2 A12.out).mono ?_); (case z1 => exact zz0); (case z2 => exact zz1); rintro e w17 ⟨rfl, hi, hb, hk⟩; refine ⟨_, rfl, ?_⟩; replace HK := zT hk; replace HB := zA hb; replace HI0 := zA hi; clear hb hk hi) | ((with_reducible refine zt 32 ?_); refine Kd.R_lit (Kd.int .i64) _ 3 ?hg (N := 32) ?hd (xs := ([(l1.length : Int), (l1.length : Int), (l1.length : Int), t782] : List Int)) (inner := [.int .i64 (l1.length : Int), .int .i64 (l1.length : Int), .int .i64 (l1.length : Int), .int .i64 t782]) (ok := fun _ => True) (okp := fun _ => True) ?hr ?hp (fun _ hk => hk) trivial (Below.refl _ _) (Nat.le_refl _) (by simp) ?_; (case hd => rfl); (case hg => rfl); (case hr => exact zz16); (case hp => exact (Reps.one (show Kd.M (Kd.int .i64) _ _ _ (l1.length : Int) [.int .i64 (l1.length : Int)] from rfl) (Reps.one (show Kd.M (Kd.int .i64) _ _ _ (l1.length : Int) [.int .i64 (l1.length : Int)] from rfl) (Reps.one (show Kd.M (Kd.int .i64) _ _ _ (l1.length : Int) [.int .i64 (l1.length : Int)] from rfl) (Reps.one (show Kd.M (Kd.int .i64) _ _ _ t782 [.int .i64 t782] from rfl) (Reps.none _ _)))))); intro v786 w18 ho19 hb hg_ hnew_; clear hg_ hnew_; (first | rw [← Ny785.out] at ho19 | (simp only [Int.reduceToNat] at ho19; rw [← Ny785.out] at ho19)); have HO787 := zA (Kd.R_lower ho19 (keep_size (w := w) (g := g) (row := none) zf)); replace HK := zT (KeepBut.of_below hb g none); replace HB := zS hb zz1; replace HI0 := zA (IsS102.below zz0 hb); clear hb ho19; obtain ⟨Ao20, co20, eo20⟩ := Kd.R_slice HO787.out; subst eo20) | ((with_reducible refine zg 108 ?_); refine gL (some 33) Try.func108 #[.pointer (some ⟨g, 0, none⟩), .slice Ao20 y785.length co20] ?_; (with_reducible refine (spec_l1Int.calls g s0_0 t783 t784 _ _ y785 t788 t789 t790 w0 _ ?z1 ?z2 ?z3 ?z4 ?z5 A13.out).mono ?_); (case z1 => exact zz0); (case z2 => exact zz1); (case z3 => exact ze HO787); (case z4 => exact zl HO787); (case z5 => exact far_slice (IsS102.own_ne HI0.out HO787.out (by decide))); rintro e w21 ⟨rfl, hi, hb, hk⟩; refine ⟨_, rfl, ?_⟩; replace HO787 := zA (Kd.R_mono (Kd.R_keep (IsS102.apart (show IsS102 w0 _ g s0_0 t783 t784 from zz0) (zr HO787) (by decide)) hk (fun _ h => h.2)) (fun _ h => h.1)); replace HK := zT hk; replace HB := zA hb; replace HI0 := zA hi; clear hb hk hi) | ((with_reducible refine zg 89 ?_); refine gL (some 34) Try.func89 #[.pointer (some ⟨g, 0, none⟩), .slice A1 l1.length c1, .int .i64 t788] ?_; (with_reducible refine (spec_l6Vals.calls k g s0_0 t789 t790 _ _ l1 t788 t791 t794 t795 w0 _ ?z1 ?z2 ?z3 ?z4 A14.out).mono ?_); (case z1 => exact zz0); (case z2 => exact zz1); (case z3 => exact Kd.C_foot_step HR1.out zf); (case z4 => exact HC1.out); rintro e w22 ⟨v792, rfl, ho0, hi, hb, hk⟩; refine ⟨_, rfl, ?_⟩; replace HO787 := zA (Kd.R_mono (Kd.R_keep (IsS102.apart (show IsS102 w0 _ g s0_0 t789 t790 from zz0) (zr HO787) (by decide)) hk (fun _ h => h.2)) (fun _ h => h.1)); have HO793 := zA (Kd.R_lower ho0 (keep_size (w := w) (g := g) (row := none) zf)); replace HK := zT hk; replace HB := zA hb; replace HI0 := zA hi; clear hb hk hi ho0))
   go_ret
   exact ⟨_, zw, zr HO793, zz0, zz1, zf⟩
  ·replace c11 := Bool.eq_false_iff.mpr c11
   subst c11
   rw [if_neg (Bool.false_ne_true)] at H
   replace H := zI H
   obtain ⟨⟨t796, t797, t798, t799, t800⟩, A23, H⟩ := H
   try dsimp only at H
   replace H := zI H
   obtain ⟨⟨t801, t802, t803, t804, t805⟩, A24, H⟩ := H
   try dsimp only at H
   obtain ⟨y806, hy806⟩ : ∃ y_ : List (S32), y_ = (([(⟨t796, t797, t798⟩ : S32), (⟨t801, t802, t803⟩ : S32)] : List (S32))) := ⟨_, rfl⟩
   replace H : (some (y806, t804, t805)) = some (r1, r2, r3) := zy hy806
   have Ny806 := zA hy806
   clear hy806
   simp only [Option.some.injEq, Prod.mk.injEq] at H
   obtain ⟨rfl, rfl, rfl⟩ := H
   go_enter Try.func91, Try.ntmps91
   go_wp2_with (first | ((with_reducible refine zg 110 ?_); refine gL (some 6) Try.func110 #[.pointer (some ⟨g, 0, none⟩), .int .i64 10] ?_; (with_reducible refine (spec_l1Once.calls g s0_0 s0_1 s0_2 10 false t771 t772 w0 _ ?z1 ?z2 A3.out).mono ?_); (case z1 => exact zz0); (case z2 => exact zz1); rintro e w25 ⟨rfl, hi, hb, hk⟩; refine ⟨_, rfl, ?_⟩; replace HK := zT hk; replace HB := zA hb; replace HI0 := zA hi; clear hb hk hi) | ((with_reducible refine zg 62 ?_); refine gL (some 11) Try.func62 #[.slice A1 l1.length c1] ?_; (with_reducible refine (spec_PlanOk.calls k _ _ l1 false _ ?z1 ?z2 A10.out).mono ?_); (case z1 => exact Kd.C_foot_now HR1.out zf); (case z2 => exact HC1.out); rintro e w26 ⟨rfl, hb⟩; refine ⟨_, rfl, ?_⟩; replace HK := zT (KeepBut.of_below hb g none); replace HB := zS hb zz1; replace HI0 := zA (IsS102.below zz0 hb); (try clear hb)) | ((with_reducible refine zg 111 ?_); refine gL (some 14) Try.func111 #[.pointer (some ⟨g, 0, none⟩)] ?_; (with_reducible refine (spec_l2Draw.calls k g s0_0 t771 t772 t796 t797 t798 t799 t800 w0 _ ?z1 ?z2 A23.out).mono ?_); (case z1 => exact zz0); (case z2 => exact zz1); rintro e w27 ⟨rfl, hi, hb, hk⟩; refine ⟨_, rfl, ?_⟩; replace HK := zT hk; replace HB := zA hb; replace HI0 := zA hi; clear hb hk hi) | ((with_reducible refine zg 111 ?_); refine gL (some 16) Try.func111 #[.pointer (some ⟨g, 0, none⟩)] ?_; (with_reducible refine (spec_l2Draw.calls k g s0_0 t799 t800 t801 t802 t803 t804 t805 w0 _ ?z1 ?z2 A24.out).mono ?_); (case z1 => exact zz0); (case z2 => exact zz1); rintro e w28 ⟨rfl, hi, hb, hk⟩; refine ⟨_, rfl, ?_⟩; replace HK := zT hk; replace HB := zA hb; replace HI0 := zA hi; clear hb hk hi) | ((with_reducible refine zt 17 ?_); refine Kd.R_lit k32 _ 32 ?hg (N := 17) ?hd (xs := ([(⟨t796, t797, t798⟩ : S32), (⟨t801, t802, t803⟩ : S32)] : List (S32))) (inner := [.int .i64 t796, .int .i64 t797, .string t798, .int .i64 t801, .int .i64 t802, .string t803]) (ok := fun _ => True) (okp := fun _ => True) ?hr ?hp (fun _ hk => hk) trivial (Below.refl _ _) (Nat.le_refl _) (by simp) ?_; (case hd => rfl); (case hg => rfl); (case hr => exact zz16); (case hp => exact (Reps.c3 (show Kd.M k32 _ _ _ (⟨t796, t797, t798⟩ : S32) [.int .i64 t796, .int .i64 t797, .string t798] from (k32_mkM _ _ _ (⟨t796, t797, t798⟩ : S32) )) (Reps.c3 (show Kd.M k32 _ _ _ (⟨t801, t802, t803⟩ : S32) [.int .i64 t801, .int .i64 t802, .string t803] from (k32_mkM _ _ _ (⟨t801, t802, t803⟩ : S32) )) (Reps.none _ _)))); intro v807 w29 ho30 hb hg_ hnew_; clear hg_ hnew_; (first | rw [← Ny806.out] at ho30 | (simp only [Int.reduceToNat] at ho30; rw [← Ny806.out] at ho30)); have HO808 := zA (Kd.R_lower ho30 (keep_size (w := w) (g := g) (row := none) zf)); replace HK := zT (KeepBut.of_below hb g none); replace HB := zS hb zz1; replace HI0 := zA (IsS102.below zz0 hb); clear hb ho30))
   go_ret
   exact ⟨_, zw, zr HO808, zz0, zz1, zf⟩

end Go.Proofs.Ytnfmpopmigbkoaa.PFnKeysRead

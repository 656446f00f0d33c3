-- Written by mkprint.py, a program of this session (the printer with additions of its own)
import Derived.Test.YtnfmpopmigbkoaaPFnKeysReadx0
import Derived.Test.YtnfmpopmigbkoaaPFnKeysReadx2
namespace Go.Proofs.Ytnfmpopmigbkoaa.PFnKeysRead
open Go.RowKit Go.Proofs.YtnfmpopmigbkoaaW.PrintWords Go.Proofs.YtnfmpopmigbkoaaW.PrintLast Go.Proofs.YtnfmpopmigbkoaaW.PrintMore
attribute [local go_sem] max2_int min2_int max_two min_two max_three min_three max_four min_four   -- for this text's walks alone
set_option linter.unusedVariables false
set_option linter.unusedSimpArgs false

/-! ### impl_FitsAll: function 52 -/
def impl_FitsAll.l0 : Nat → List (S30) → List (S32) → Int → Int → Option (Bool)
  | 0, _, _, _, _ => none
  | k + 1, x0, x12, x13, x14 => if x14 < x13 then (if 0 ≤ x14 then (if x14 < (x12.length : Int) then (if x14 < (x0.length : Int) then ((impl_Fits.f ((rd_T30 x0 x14).f0) ((rd_T30 x0 x14).f1) ((rd_T30 x0 x14).f2) ((rd_T30 x0 x14).f3) ((rd_T32 x12 x14).f0) ((rd_T32 x12 x14).f1) ((rd_T32 x12 x14).f2)).bind fun t119 => (if t119 = true then (impl_FitsAll.l0 k x0 x12 x13 (wrap64 (x14 + 1))) else (some false))) else (none)) else (none)) else (none)) else (some true)
def impl_FitsAll.f (k : Nat) (l0 : List (S30)) (l1 : List (S32)) : Option (Bool) := if (l1.length : Int) > (l0.length : Int) then (some false) else (impl_FitsAll.l0 k l0 l1 (l1.length : Int) 0)
set_option maxHeartbeats 8000000 in
set_option maxRecDepth 100000 in
theorem impl_FitsAll.calls (k : Nat) (A0 : Option Addr) (c0 : Nat) (l0 : List (S30)) (A1 : Option Addr) (c1 : Nat) (l1 : List (S32)) (r : Bool) (w : World) (hr0 : Kd.C k30 w A0 l0.length l0) (hc0 : l0.length ≤ c0) (hr1 : Kd.C k32 w A1 l1.length l1) (hc1 : l1.length ≤ c1) (h : impl_FitsAll.f k l0 l1 = some r) :
  Calls Try.prog 52 #[.slice A0 l0.length c0, .slice A1 l1.length c1] w fun e w' => e = .returned (.bool r) ∧ Below w.heap.size w w' := by
 have hu32 := Try.underlying32
 have hu30 := Try.underlying30
 have HR0 := zA hr0
 have HC0 := zA hc0
 clear hr0 hc0
 have HR1 := zA hr1
 have HC1 := zA hc1
 clear hr1 hc1
 have HB := zA (Below.refl w.heap.size w)
 have H : (if (l1.length : Int) > (l0.length : Int) then (some false) else (impl_FitsAll.l0 k l0 l1 (l1.length : Int) 0)) = some r := h
 clear h
 by_cases c3 : (l1.length : Int) > (l0.length : Int)
 ·rw [if_pos c3] at H
  have c3b0 : decide ((l0.length : Int) < (l1.length : Int)) = true := decide_eq_true c3
  have c3b1 : decide (l0.length < l1.length) = true := decide_eq_true (Int.ofNat_lt.mp c3)
  clear c3
  obtain rfl := Option.some.inj H
  go_enter Try.func52, Try.ntmps52
  go_wp2
  go_ret
  exact ⟨zw, zb⟩
 ·rw [if_neg c3] at H
  have c3b0 : decide ((l0.length : Int) < (l1.length : Int)) = false := decide_eq_false c3
  have c3b1 : decide (l0.length < l1.length) = false := decide_eq_false (fun h => c3 (Int.ofNat_lt.mpr h))
  clear c3
  have H' := zA H
  clear H
  go_enter Try.func52, Try.ntmps52
  go_wp2
  go_loopg [14] k (fun kq v14 w' => ∃ (x14_1 : Int), v14 = .int .i64 x14_1 ∧ Aside0 (impl_FitsAll.l0 kq l0 l1 (l1.length : Int) x14_1 = some r) ∧ Aside0 (kq ≤ k) ∧ Aside0 (Below w.heap.size w w'))
  case atStart => exact ⟨(0), zx, H', ⟨Nat.le_refl _⟩, ⟨zb⟩⟩
  case round =>
   clear H'
   try clear c3; try clear c3b0; try clear c3b1
   obtain ⟨x14_1, rfl, HA, HK1, HB⟩ := hrel
   cases gk with
   | zero => exact absurd HA.out (by simp [impl_FitsAll.l0])
   | succ k1 =>
    have H := HA.out
    clear HA
    simp only [impl_FitsAll.l0] at H
    by_cases c4 : x14_1 < (l1.length : Int)
    ·rw [if_pos c4] at H
     have c4b0 : decide (x14_1 < (l1.length : Int)) = true := decide_eq_true c4
     clear c4
     by_cases c5 : 0 ≤ x14_1
     ·rw [if_pos c5] at H
      have c5b0 : decide (0 ≤ x14_1) = true := decide_eq_true c5
      clear c5
      by_cases c6 : x14_1 < (l1.length : Int)
      ·rw [if_pos c6] at H
       have c6b0 : decide (x14_1 < (l1.length : Int)) = true := decide_eq_true c6
       clear c6
       by_cases c7 : x14_1 < (l0.length : Int)
       ·rw [if_pos c7] at H
        have c7b0 : decide (x14_1 < (l0.length : Int)) = true := decide_eq_true c7
        clear c7
        replace H := zI H
        obtain ⟨t119, A8, H⟩ := H
        by_cases c9 : t119 = true
        ·subst c9
         rw [if_pos rfl] at H
         have H' := zA H
         clear H
         have p116 : 0 ≤ (x14_1 : Int) := of_decide_eq_true za
         have q116 : x14_1 < (l1.length : Int) := of_decide_eq_true za
         obtain ⟨ad116, e116, hx116_0, hx116_1, hx116_2⟩ := at_T32 HR1.out x14_1 p116 q116
         cases e116
         replace hx116_0 := zj hx116_0
         replace hx116_1 := zj hx116_1
         replace hx116_2 := zj hx116_2
         replace p116 := eq_true p116
         replace q116 := eq_true q116
         try go_wp2_with (first | ((with_reducible refine zt 6 ?_); refine zn #[.int .i64 0, .int .i64 0, .string (⟨#[]⟩ : ByteArray)] 32 ?_; intro gb117 hg w10 hbox hb; have BK117 := zA hbox; have GW117 := zG hg; have GE117 := zG hg; replace HB := zS hb; clear hb hbox hg; obtain ⟨hcz11_0, hcz11_1, hcz11_2, hfz11_0, hfz11_1, hfz11_2⟩ := zh3 BK117))
         have n0_ : Aside0 ((((w10.setCell ⟨gb117, 0, none⟩ (.int .i64 ((rd_T32 l1 x14_1).f0))).setCell ⟨gb117, 1, none⟩ (.int .i64 ((rd_T32 l1 x14_1).f1))).setCell ⟨gb117, 2, none⟩ (.string ((rd_T32 l1 x14_1).f2))).heap[gb117]? = some (.cells #[.int .i64 ((rd_T32 l1 x14_1).f0), .int .i64 ((rd_T32 l1 x14_1).f1), .string ((rd_T32 l1 x14_1).f2)] 32 (0, 0))) := ⟨zz36⟩
         have n1_ : Aside0 (Below w.heap.size w (((w10.setCell ⟨gb117, 0, none⟩ (.int .i64 ((rd_T32 l1 x14_1).f0))).setCell ⟨gb117, 1, none⟩ (.int .i64 ((rd_T32 l1 x14_1).f1))).setCell ⟨gb117, 2, none⟩ (.string ((rd_T32 l1 x14_1).f2)))) := ⟨zb1 GE117⟩
         (try clear BK117)
         (try clear HB)
         generalize (((w10.setCell ⟨gb117, 0, none⟩ (.int .i64 ((rd_T32 l1 x14_1).f0))).setCell ⟨gb117, 1, none⟩ (.int .i64 ((rd_T32 l1 x14_1).f1))).setCell ⟨gb117, 2, none⟩ (.string ((rd_T32 l1 x14_1).f2))) = w12 at n0_ n1_ ⊢
         have BK117 := n0_; have HB := n1_
         clear n0_ n1_
         have n0_ := zA (blk_drew BK117.out)
         have n1_ := zA (below_drew1 HB.out)
         clear BK117 HB
         have BK117 := n0_; have HB := n1_
         clear n0_ n1_
         have p118 : 0 ≤ (x14_1 : Int) := of_decide_eq_true za
         have q118 : x14_1 < (l0.length : Int) := of_decide_eq_true za
         obtain ⟨ad118, e118, hx118_0, hx118_1, hx118_2, hx118_3⟩ := at_T30 HR0.out x14_1 p118 q118
         have hw118_3 := hx118_3
         have hw118_2 := hx118_2
         have hw118_1 := hx118_1
         have hw118_0 := hx118_0
         cases e118
         replace hx118_0 := zj hx118_0
         replace hx118_1 := zj hx118_1
         replace hx118_2 := zj hx118_2
         replace hx118_3 := zj hx118_3
         replace p118 := eq_true p118
         replace q118 := eq_true q118
         refine start_ (n := 7) (S := fun w' => w'.cell? ⟨gb117, 0, none⟩ = some (.int .i64 ((rd_T32 l1 x14_1).f0)) ∧ w'.cell? ⟨gb117, 1, none⟩ = some (.int .i64 ((rd_T32 l1 x14_1).f1)) ∧ w'.cell? ⟨gb117, 2, none⟩ = some (.string ((rd_T32 l1 x14_1).f2)) ∧ w'.cell? (ad118.add ((x14_1).toNat * 4)) = some (.int .i64 ((rd_T30 l0 x14_1).f0)) ∧ w'.cell? ⟨(ad118.add ((x14_1).toNat * 4)).block, (ad118.add ((x14_1).toNat * 4)).off + 1, none⟩ = some (.int .i64 ((rd_T30 l0 x14_1).f1)) ∧ w'.cell? ⟨(ad118.add ((x14_1).toNat * 4)).block, (ad118.add ((x14_1).toNat * 4)).off + 2, none⟩ = some (.bool ((rd_T30 l0 x14_1).f2)) ∧ w'.cell? ⟨(ad118.add ((x14_1).toNat * 4)).block, (ad118.add ((x14_1).toNat * 4)).off + 3, none⟩ = some (.bool ((rd_T30 l0 x14_1).f3))) (ds := []) #[false, false, false, false, false, false, false] (by kernel_rfl) rfl rfl ⟨(blk_cell BK117.out 0).trans rfl, (blk_cell BK117.out 1).trans rfl, (blk_cell BK117.out 2).trans rfl, ((HB.out.cell (World.block_lt_of_cell? w _ hw118_0)).trans hw118_0), ((HB.out.cell (World.block_lt_of_cell? w _ hw118_1)).trans hw118_1), ((HB.out.cell (World.block_lt_of_cell? w _ hw118_2)).trans hw118_2), ((HB.out.cell (World.block_lt_of_cell? w _ hw118_3)).trans hw118_3)⟩ (fun hHeld => ?_)
         generalize w12.drew = w13 at BK117 HB hx118_0 hx118_1 hx118_2 hx118_3 hHeld ⊢
         refine pure_ (i := 0) (N := some 19) (v := ?_) (a' := ?_) #[true, false, false, false, false, false, false] rfl rfl (by kernel_rfl) (fun _ _ _ h => h) (Or.inl ⟨by rfl, ?_⟩) ?_ ?_; rotate_left
         ·intro w'; go_simp; with_reducible rfl
         rotate_left
         ·simp only [Act.put, List.setIfInBounds_toArray, List.set_cons_zero, List.set_cons_succ, i64_w, i32_w]; rfl
         refine pure_ (i := 1) (N := some 20) (v := ?_) (a' := ?_) #[true, true, false, false, false, false, false] rfl rfl (by kernel_rfl) (fun _ _ _ h => h) (Or.inl ⟨by rfl, ?_⟩) ?_ ?_; rotate_left
         ·intro w'; go_simp; with_reducible rfl
         rotate_left
         ·simp only [Act.put, List.setIfInBounds_toArray, List.set_cons_zero, List.set_cons_succ, i64_w, i32_w]; rfl
         refine pure_ (i := 2) (N := some 21) (v := ?_) (a' := ?_) #[true, true, true, false, false, false, false] rfl rfl (by kernel_rfl) (fun _ _ _ h => h) (Or.inl ⟨by rfl, ?_⟩) ?_ ?_; rotate_left
         ·intro w'; go_simp; with_reducible rfl
         rotate_left
         ·simp only [Act.put, List.setIfInBounds_toArray, List.set_cons_zero, List.set_cons_succ, i64_w, i32_w]; rfl
         refine take_ (i := 3) (N := some 22) (v := ?_) (a' := ?_) #[true, true, true, true, false, false, false] rfl rfl (by kernel_rfl) (fun _ _ _ h => h) (Or.inl ⟨by rfl, ?_⟩) hHeld ?_ ?_; rotate_left
         ·rintro w' ⟨s0, s1, s2, s3, s4, s5, s6⟩
          go_simp
          with_reducible rfl
         rotate_left
         ·simp only [Act.put, List.setIfInBounds_toArray, List.set_cons_zero, List.set_cons_succ, i64_w, i32_w]; rfl
         refine take_ (i := 4) (N := some 23) (v := ?_) (a' := ?_) #[true, true, true, true, true, false, false] rfl rfl (by kernel_rfl) (fun _ _ _ h => h) (Or.inl ⟨by rfl, ?_⟩) hHeld ?_ ?_; rotate_left
         ·rintro w' ⟨s0, s1, s2, s3, s4, s5, s6⟩
          go_simp
          with_reducible rfl
         rotate_left
         ·simp only [Act.put, List.setIfInBounds_toArray, List.set_cons_zero, List.set_cons_succ, i64_w, i32_w]; rfl
         refine one_ (i := 5) (N := some 24) #[true, true, true, true, true, true, false] rfl rfl (by kernel_rfl) (by decide) (fun K hK => ?_)
         refine goes_ Try.func31 (by kernel_rfl) rfl #[.agg #[.int .i64 ((rd_T30 l0 x14_1).f0), .int .i64 ((rd_T30 l0 x14_1).f1), .bool ((rd_T30 l0 x14_1).f2), .bool ((rd_T30 l0 x14_1).f3)], .agg #[.int .i64 ((rd_T32 l1 x14_1).f0), .int .i64 ((rd_T32 l1 x14_1).f1), .string ((rd_T32 l1 x14_1).f2)]] (by rfl) rfl rfl zz64 ?_
         with_reducible refine (impl_Fits.calls ((rd_T30 l0 x14_1).f0) ((rd_T30 l0 x14_1).f1) ((rd_T30 l0 x14_1).f2) ((rd_T30 l0 x14_1).f3) ((rd_T32 l1 x14_1).f0) ((rd_T32 l1 x14_1).f1) ((rd_T32 l1 x14_1).f2) true _ A8.out).mono ?_
         rintro e w14 ⟨rfl, hb⟩
         refine ⟨_, rfl, ?_⟩
         have n0_ := zB BK117 hb
         have n1_ := zS hb (zb1 GE117)
         clear BK117 HB
         have BK117 := n0_; have HB := n1_
         clear n0_ n1_
         (try clear hb)
         (try clear hb2)
         (try clear hk)
         (try clear hi)
         refine hK.out _ _ ⟨(blk_cell BK117.out 0).trans rfl, (blk_cell BK117.out 1).trans rfl, (blk_cell BK117.out 2).trans rfl, ((HB.out.cell (World.block_lt_of_cell? w _ hw118_0)).trans hw118_0), ((HB.out.cell (World.block_lt_of_cell? w _ hw118_1)).trans hw118_1), ((HB.out.cell (World.block_lt_of_cell? w _ hw118_2)).trans hw118_2), ((HB.out.cell (World.block_lt_of_cell? w _ hw118_3)).trans hw118_3)⟩ (fun hHeld => ?_)
         clear hK K
         refine norm_ (a' := ?_) ?_ ?_; rotate_left
         ·show Act.put _ (some 24) _ = _
          simp only [Act.put, List.setIfInBounds_toArray, List.set_cons_zero, List.set_cons_succ, i64_w, i32_w]
          rfl
         refine pure_ (i := 6) (N := some 25) (v := ?_) (a' := ?_) #[true, true, true, true, true, true, true] rfl rfl (by kernel_rfl) (fun _ _ _ h => h) (Or.inl ⟨by rfl, ?_⟩) ?_ ?_; rotate_left
         ·intro w'; go_simp; with_reducible rfl
         rotate_left
         ·simp only [Act.put, List.setIfInBounds_toArray, List.set_cons_zero, List.set_cons_succ, i64_w, i32_w]; rfl
         refine done_ (by kernel_rfl) ?_
         try go_wp2
         go_roundg k1
         case measure => have := HK1.out; omega
         case rel => exact ⟨(wrap64 (x14_1 + 1)), zx, H', ⟨zz79⟩, ⟨zb1 GE117⟩⟩
        ·replace c9 := Bool.eq_false_iff.mpr c9
         subst c9
         rw [if_neg (Bool.false_ne_true)] at H
         obtain rfl := Option.some.inj H
         have p116 : 0 ≤ (x14_1 : Int) := of_decide_eq_true za
         have q116 : x14_1 < (l1.length : Int) := of_decide_eq_true za
         obtain ⟨ad116, e116, hx116_0, hx116_1, hx116_2⟩ := at_T32 HR1.out x14_1 p116 q116
         cases e116
         replace hx116_0 := zj hx116_0
         replace hx116_1 := zj hx116_1
         replace hx116_2 := zj hx116_2
         replace p116 := eq_true p116
         replace q116 := eq_true q116
         try go_wp2_with (first | ((with_reducible refine zt 6 ?_); refine zn #[.int .i64 0, .int .i64 0, .string (⟨#[]⟩ : ByteArray)] 32 ?_; intro gb117 hg w15 hbox hb; have BK117 := zA hbox; have GW117 := zG hg; have GE117 := zG hg; replace HB := zS hb; clear hb hbox hg; obtain ⟨hcz16_0, hcz16_1, hcz16_2, hfz16_0, hfz16_1, hfz16_2⟩ := zh3 BK117))
         have n0_ : Aside0 ((((w15.setCell ⟨gb117, 0, none⟩ (.int .i64 ((rd_T32 l1 x14_1).f0))).setCell ⟨gb117, 1, none⟩ (.int .i64 ((rd_T32 l1 x14_1).f1))).setCell ⟨gb117, 2, none⟩ (.string ((rd_T32 l1 x14_1).f2))).heap[gb117]? = some (.cells #[.int .i64 ((rd_T32 l1 x14_1).f0), .int .i64 ((rd_T32 l1 x14_1).f1), .string ((rd_T32 l1 x14_1).f2)] 32 (0, 0))) := ⟨zz36⟩
         have n1_ : Aside0 (Below w.heap.size w (((w15.setCell ⟨gb117, 0, none⟩ (.int .i64 ((rd_T32 l1 x14_1).f0))).setCell ⟨gb117, 1, none⟩ (.int .i64 ((rd_T32 l1 x14_1).f1))).setCell ⟨gb117, 2, none⟩ (.string ((rd_T32 l1 x14_1).f2)))) := ⟨zb1 GE117⟩
         (try clear BK117)
         (try clear HB)
         generalize (((w15.setCell ⟨gb117, 0, none⟩ (.int .i64 ((rd_T32 l1 x14_1).f0))).setCell ⟨gb117, 1, none⟩ (.int .i64 ((rd_T32 l1 x14_1).f1))).setCell ⟨gb117, 2, none⟩ (.string ((rd_T32 l1 x14_1).f2))) = w17 at n0_ n1_ ⊢
         have BK117 := n0_; have HB := n1_
         clear n0_ n1_
         have n0_ := zA (blk_drew BK117.out)
         have n1_ := zA (below_drew1 HB.out)
         clear BK117 HB
         have BK117 := n0_; have HB := n1_
         clear n0_ n1_
         have p118 : 0 ≤ (x14_1 : Int) := of_decide_eq_true za
         have q118 : x14_1 < (l0.length : Int) := of_decide_eq_true za
         obtain ⟨ad118, e118, hx118_0, hx118_1, hx118_2, hx118_3⟩ := at_T30 HR0.out x14_1 p118 q118
         have hw118_3 := hx118_3
         have hw118_2 := hx118_2
         have hw118_1 := hx118_1
         have hw118_0 := hx118_0
         cases e118
         replace hx118_0 := zj hx118_0
         replace hx118_1 := zj hx118_1
         replace hx118_2 := zj hx118_2
         replace hx118_3 := zj hx118_3
         replace p118 := eq_true p118
         replace q118 := eq_true q118
         refine start_ (n := 7) (S := fun w' => w'.cell? ⟨gb117, 0, none⟩ = some (.int .i64 ((rd_T32 l1 x14_1).f0)) ∧ w'.cell? ⟨gb117, 1, none⟩ = some (.int .i64 ((rd_T32 l1 x14_1).f1)) ∧ w'.cell? ⟨gb117, 2, none⟩ = some (.string ((rd_T32 l1 x14_1).f2)) ∧ w'.cell? (ad118.add ((x14_1).toNat * 4)) = some (.int .i64 ((rd_T30 l0 x14_1).f0)) ∧ w'.cell? ⟨(ad118.add ((x14_1).toNat * 4)).block, (ad118.add ((x14_1).toNat * 4)).off + 1, none⟩ = some (.int .i64 ((rd_T30 l0 x14_1).f1)) ∧ w'.cell? ⟨(ad118.add ((x14_1).toNat * 4)).block, (ad118.add ((x14_1).toNat * 4)).off + 2, none⟩ = some (.bool ((rd_T30 l0 x14_1).f2)) ∧ w'.cell? ⟨(ad118.add ((x14_1).toNat * 4)).block, (ad118.add ((x14_1).toNat * 4)).off + 3, none⟩ = some (.bool ((rd_T30 l0 x14_1).f3))) (ds := []) #[false, false, false, false, false, false, false] (by kernel_rfl) rfl rfl ⟨(blk_cell BK117.out 0).trans rfl, (blk_cell BK117.out 1).trans rfl, (blk_cell BK117.out 2).trans rfl, ((HB.out.cell (World.block_lt_of_cell? w _ hw118_0)).trans hw118_0), ((HB.out.cell (World.block_lt_of_cell? w _ hw118_1)).trans hw118_1), ((HB.out.cell (World.block_lt_of_cell? w _ hw118_2)).trans hw118_2), ((HB.out.cell (World.block_lt_of_cell? w _ hw118_3)).trans hw118_3)⟩ (fun hHeld => ?_)
         generalize w17.drew = w18 at BK117 HB hx118_0 hx118_1 hx118_2 hx118_3 hHeld ⊢
         refine pure_ (i := 0) (N := some 19) (v := ?_) (a' := ?_) #[true, false, false, false, false, false, false] rfl rfl (by kernel_rfl) (fun _ _ _ h => h) (Or.inl ⟨by rfl, ?_⟩) ?_ ?_; rotate_left
         ·intro w'; go_simp; with_reducible rfl
         rotate_left
         ·simp only [Act.put, List.setIfInBounds_toArray, List.set_cons_zero, List.set_cons_succ, i64_w, i32_w]; rfl
         refine pure_ (i := 1) (N := some 20) (v := ?_) (a' := ?_) #[true, true, false, false, false, false, false] rfl rfl (by kernel_rfl) (fun _ _ _ h => h) (Or.inl ⟨by rfl, ?_⟩) ?_ ?_; rotate_left
         ·intro w'; go_simp; with_reducible rfl
         rotate_left
         ·simp only [Act.put, List.setIfInBounds_toArray, List.set_cons_zero, List.set_cons_succ, i64_w, i32_w]; rfl
         refine pure_ (i := 2) (N := some 21) (v := ?_) (a' := ?_) #[true, true, true, false, false, false, false] rfl rfl (by kernel_rfl) (fun _ _ _ h => h) (Or.inl ⟨by rfl, ?_⟩) ?_ ?_; rotate_left
         ·intro w'; go_simp; with_reducible rfl
         rotate_left
         ·simp only [Act.put, List.setIfInBounds_toArray, List.set_cons_zero, List.set_cons_succ, i64_w, i32_w]; rfl
         refine take_ (i := 3) (N := some 22) (v := ?_) (a' := ?_) #[true, true, true, true, false, false, false] rfl rfl (by kernel_rfl) (fun _ _ _ h => h) (Or.inl ⟨by rfl, ?_⟩) hHeld ?_ ?_; rotate_left
         ·rintro w' ⟨s0, s1, s2, s3, s4, s5, s6⟩
          go_simp
          with_reducible rfl
         rotate_left
         ·simp only [Act.put, List.setIfInBounds_toArray, List.set_cons_zero, List.set_cons_succ, i64_w, i32_w]; rfl
         refine take_ (i := 4) (N := some 23) (v := ?_) (a' := ?_) #[true, true, true, true, true, false, false] rfl rfl (by kernel_rfl) (fun _ _ _ h => h) (Or.inl ⟨by rfl, ?_⟩) hHeld ?_ ?_; rotate_left
         ·rintro w' ⟨s0, s1, s2, s3, s4, s5, s6⟩
          go_simp
          with_reducible rfl
         rotate_left
         ·simp only [Act.put, List.setIfInBounds_toArray, List.set_cons_zero, List.set_cons_succ, i64_w, i32_w]; rfl
         refine one_ (i := 5) (N := some 24) #[true, true, true, true, true, true, false] rfl rfl (by kernel_rfl) (by decide) (fun K hK => ?_)
         refine goes_ Try.func31 (by kernel_rfl) rfl #[.agg #[.int .i64 ((rd_T30 l0 x14_1).f0), .int .i64 ((rd_T30 l0 x14_1).f1), .bool ((rd_T30 l0 x14_1).f2), .bool ((rd_T30 l0 x14_1).f3)], .agg #[.int .i64 ((rd_T32 l1 x14_1).f0), .int .i64 ((rd_T32 l1 x14_1).f1), .string ((rd_T32 l1 x14_1).f2)]] (by rfl) rfl rfl zz64 ?_
         with_reducible refine (impl_Fits.calls ((rd_T30 l0 x14_1).f0) ((rd_T30 l0 x14_1).f1) ((rd_T30 l0 x14_1).f2) ((rd_T30 l0 x14_1).f3) ((rd_T32 l1 x14_1).f0) ((rd_T32 l1 x14_1).f1) ((rd_T32 l1 x14_1).f2) false _ A8.out).mono ?_
         rintro e w19 ⟨rfl, hb⟩
         refine ⟨_, rfl, ?_⟩
         have n0_ := zB BK117 hb
         have n1_ := zS hb (zb1 GE117)
         clear BK117 HB
         have BK117 := n0_; have HB := n1_
         clear n0_ n1_
         (try clear hb)
         (try clear hb2)
         (try clear hk)
         (try clear hi)
         refine hK.out _ _ ⟨(blk_cell BK117.out 0).trans rfl, (blk_cell BK117.out 1).trans rfl, (blk_cell BK117.out 2).trans rfl, ((HB.out.cell (World.block_lt_of_cell? w _ hw118_0)).trans hw118_0), ((HB.out.cell (World.block_lt_of_cell? w _ hw118_1)).trans hw118_1), ((HB.out.cell (World.block_lt_of_cell? w _ hw118_2)).trans hw118_2), ((HB.out.cell (World.block_lt_of_cell? w _ hw118_3)).trans hw118_3)⟩ (fun hHeld => ?_)
         clear hK K
         refine norm_ (a' := ?_) ?_ ?_; rotate_left
         ·show Act.put _ (some 24) _ = _
          simp only [Act.put, List.setIfInBounds_toArray, List.set_cons_zero, List.set_cons_succ, i64_w, i32_w]
          rfl
         refine pure_ (i := 6) (N := some 25) (v := ?_) (a' := ?_) #[true, true, true, true, true, true, true] rfl rfl (by kernel_rfl) (fun _ _ _ h => h) (Or.inl ⟨by rfl, ?_⟩) ?_ ?_; rotate_left
         ·intro w'; go_simp; with_reducible rfl
         rotate_left
         ·simp only [Act.put, List.setIfInBounds_toArray, List.set_cons_zero, List.set_cons_succ, i64_w, i32_w]; rfl
         refine done_ (by kernel_rfl) ?_
         try go_wp2
         go_ret
         exact ⟨zw, zb1 GE117⟩
       ·rw [if_neg c7] at H
        exact absurd H (by simp)
      ·rw [if_neg c6] at H
       exact absurd H (by simp)
     ·rw [if_neg c5] at H
      exact absurd H (by simp)
    ·rw [if_neg c4] at H
     have c4b0 : decide (x14_1 < (l1.length : Int)) = false := decide_eq_false c4
     clear c4
     obtain rfl := Option.some.inj H
     go_wp2
     go_ret
     exact ⟨zw, zb⟩

/-! ### impl_copyBytes: function 70 -/
def impl_copyBytes.f (l0 : List Int) : Option (List Int) := if ([] : List Int).length + l0.length < 140737488355328 then (some (([] : List Int) ++ l0)) else (none)
set_option maxHeartbeats 8000000 in
set_option maxRecDepth 100000 in
theorem impl_copyBytes.calls (A0 : Option Addr) (c0 : Nat) (l0 : List Int) (r : List Int) (w : World) (hr0 : Kd.C (Kd.int .u8) w A0 l0.length l0) (hc0 : l0.length ≤ c0) (h : impl_copyBytes.f l0 = some r) :
  Calls Try.prog 70 #[.slice A0 l0.length c0] w fun e w' => ∃ v0_ : Value, e = .returned (v0_) ∧ Kd.R (Kd.int .u8) 5 w' w.heap.size (fun _ => True) v0_ r ∧ Below w.heap.size w w' := by
 have HR0 := zA hr0
 have HC0 := zA hc0
 clear hr0 hc0
 have HB := zA (Below.refl w.heap.size w)
 have H : (if ([] : List Int).length + l0.length < 140737488355328 then (some (([] : List Int) ++ l0)) else (none)) = some r := h
 clear h
 by_cases c2 : ([] : List Int).length + l0.length < 140737488355328
 ·rw [if_pos c2] at H
  have LMc2 := zA c2
  clear c2
  obtain ⟨y120, hy120⟩ : ∃ y_ : List Int, y_ = (([] : List Int) ++ l0) := ⟨_, rfl⟩
  replace H : (some y120) = some r := zy hy120
  have Ny120 := zA hy120
  clear hy120
  obtain rfl := Option.some.inj H
  go_enter Try.func70, Try.ntmps70
  go_wp2_with (first | ((with_reducible refine gate_builtin (b := .append) (xs := #[.const (.slice none 0 0), .tmp 3]) rfl ?_); at_builtin; refine Kd.R_append_rows (Kd.int .u8) (w0 := w) w.heap.size rfl (.const (.slice none 0 0)) (.tmp 3) 22 5 (.int .u8 0) 1 rfl Try.underlying22 info5 rfl (by decide) (by omega) (.slice none 0 0) ([] : List Int) l0 _ _ _ (fun _ => True) (fun _ => False) rfl rfl ?aO ?aR (fun _ _ h => h) (fun _ h => h.elim) ?aF ?aB ?aS ?aL ?_; (case aR => exact zc HR0.out); (case aB => exact zb); (case aF => exact (fun _ _ => trivial)); (case aO => exact ((Kd.R_nil _ _ _ _ (fun _ => True)))); (case aS => exact (below_size zb)); (case aL => have := LMc2.out; omega); intro v121 w3 ho hb hg hat; rw [← Ny120.out] at ho; replace HB := zA hb; have HO122 := zA ho; clear ho hb hg hat))
  go_ret
  exact ⟨_, zw, zr HO122, zb⟩
 ·rw [if_neg c2] at H
  exact absurd H (by simp)

/-! ### impl_Flip: function 73 -/
def impl_Flip.l0 : Nat → List Int → Int → Option (List Int)
  | 0, _, _ => none
  | k + 1, x5, x6 => if x6 < (x5.length : Int) then (if 0 ≤ x6 then (impl_Flip.l0 k (x5.set (x6 : Int).toNat (Go.bits .xor .u8 255 (rd x5 x6))) (wrap64 (x6 + 1))) else (none)) else (some x5)
def impl_Flip.f (k : Nat) (l0 : List Int) (a1 : Int) : Option (List Int) := (impl_copyBytes.f l0).bind fun t123 => (impl_Flip.l0 k t123 (mx a1 0))
set_option maxHeartbeats 8000000 in
set_option maxRecDepth 100000 in
theorem impl_Flip.calls (k : Nat) (A0 : Option Addr) (c0 : Nat) (l0 : List Int) (a1 : Int) (r : List Int) (w : World) (hr0 : Kd.C (Kd.int .u8) w A0 l0.length l0) (hc0 : l0.length ≤ c0) (h : impl_Flip.f k l0 a1 = some r) :
  Calls Try.prog 73 #[.slice A0 l0.length c0, .int .i64 a1] w fun e w' => ∃ v0_ : Value, e = .returned (v0_) ∧ Kd.R (Kd.int .u8) 5 w' w.heap.size (fun _ => True) v0_ r ∧ Below w.heap.size w w' := by
 have HR0 := zA hr0
 have HC0 := zA hc0
 clear hr0 hc0
 have HB := zA (Below.refl w.heap.size w)
 have H : ((impl_copyBytes.f l0).bind fun t123 => (impl_Flip.l0 k t123 (mx a1 0))) = some r := h
 clear h
 replace H := zI H
 obtain ⟨t123, A3, H⟩ := H
 obtain ⟨ji4, hji4⟩ : ∃ j_ : Int, (mx a1 0) = j_ := ⟨_, rfl⟩
 replace H : (impl_Flip.l0 k t123 ji4) = some r := by first | (rw [hji4] at H; exact H) | (simp only [hji4] at H ⊢; exact H)
 (try rw [hji4] at A3)
 (try (have hji4l : 0 ≤ ji4 := by (rw [← hji4]; unfold mx; (repeat' split) <;> omega)))
 (try (have hji4m : 0 ≤ ji4 := by omega))
 have hji4_ : (if a1 < 0 then 0 else a1) = ji4 := hji4
 have H' := zA H
 clear H
 go_enter Try.func73, Try.ntmps73
 go_wp2_with (first | ((with_reducible refine zg 70 ?_); refine gL (some 8) Try.func70 #[.slice A0 l0.length c0] ?_; (with_reducible refine (impl_copyBytes.calls _ _ l0 t123 _ ?z1 ?z2 A3.out).mono ?_); (case z1 => exact zc HR0.out); (case z2 => exact HC0.out); rintro e w5 ⟨v124, rfl, ho0, hb⟩; refine ⟨_, rfl, ?_⟩; have HO125 := zL ho0; replace HB := zS hb; clear hb ho0))
 go_loopg [6] k (fun kq v6 w' => ∃ (x5_1 : List Int) (x6_1 : Int), v6 = .int .i64 x6_1 ∧ Aside0 (impl_Flip.l0 kq x5_1 x6_1 = some r) ∧ Aside0 (kq ≤ k) ∧ Aside0 (Kd.R (Kd.int .u8) 5 w' w.heap.size (fun _ => True) v124 x5_1) ∧ Aside0 (Below w.heap.size w w'))
 case atStart => exact ⟨(t123), (ji4), (by first | rfl | (simp; done) | (simp only [← hji4] <;> (first | rfl | simp)) | (simp [*]; done)), H', ⟨Nat.le_refl _⟩, ⟨zr HO125⟩, ⟨zb⟩⟩
 case round =>
  clear H'
  obtain ⟨x5_1, x6_1, rfl, HA, HK1, HO_5, HB⟩ := hrel
  cases gk with
  | zero => exact absurd HA.out (by simp [impl_Flip.l0])
  | succ k1 =>
   have H := HA.out
   clear HA
   simp only [impl_Flip.l0] at H
   by_cases c6 : x6_1 < (x5_1.length : Int)
   ·rw [if_pos c6] at H
    have c6b0 : decide (x6_1 < (x5_1.length : Int)) = true := decide_eq_true c6
    clear c6
    by_cases c7 : 0 ≤ x6_1
    ·rw [if_pos c7] at H
     have c7b0 : decide (0 ≤ x6_1) = true := decide_eq_true c7
     clear c7
     obtain ⟨y127, hy127⟩ : ∃ y_ : List Int, y_ = (x5_1.set (x6_1 : Int).toNat (Go.bits .xor .u8 255 (rd x5_1 x6_1))) := ⟨_, rfl⟩
     replace H : (impl_Flip.l0 k1 y127 (wrap64 (x6_1 + 1))) = some r := zy hy127
     have Ny127 := zA hy127
     clear hy127
     have H' := zA H
     clear H
     obtain ⟨Ao9, co9, eo9⟩ := Kd.R_slice HO_5.out
     subst eo9
     have p126 : 0 ≤ (x6_1 : Int) := of_decide_eq_true za
     have q126 : x6_1 < (x5_1.length : Int) := of_decide_eq_true za
     obtain ⟨ad126, e126, hx126_0⟩ := Kd.at_int (Kd.R_reads' HO_5.out).2.2 x6_1 p126 q126
     cases e126
     replace p126 := eq_true p126
     replace q126 := eq_true q126
     have p8 : 0 ≤ (x6_1 : Int) := of_decide_eq_true za
     have q8 : (x6_1 : Int) < ((x5_1.length : Int) : Int) := of_decide_eq_true za
     obtain ⟨go8, co8, eo8, gb8, gl8, cl8, HG8⟩ := Kd.R_form HO_5.out (by omega)
     (first | cases eo8 | (injection eo8 with ea_ en_ ec_; (first | subst ea_ | (injection ea_ with ea_; subst ea_)); subst ec_; clear en_))
     have GB8 := zA gb8
     have GG8 := zA HG8
     clear gb8 gl8 HG8
     (first | simp only [add_plain] at hx126_0 | skip)
     obtain ⟨hx8_0, hf8_0⟩ := Kd.R_celln 0 HO_5.out (x6_1 : Int) p8 q8
     replace p8 := eq_true p8
     replace q8 := eq_true q8
     have HP10 := Kd.R_putg HO_5.out (x6_1 : Int) (Go.bits .xor .u8 255 (rd x5_1 x6_1))
     go_wp2_with (first | ((with_reducible refine gate_store (t := 5) (p := 24) rfl ?_); refine store_event (t := 5) (p := 24) (v := ?vo_w11) (w1 := (wr.setCell ⟨go8, (x6_1 : Int).toNat, none⟩ (.int .u8 (Go.bits .xor .u8 255 (rd x5_1 x6_1))))) ?hg ?ho ?hn ?hr ?_; (case ho => rfl); (case hg => rfl); (case hn => rfl); (case hr => exact zz16); intro w11 hw; have hg : wr.grownBy w11 (some go8) := (by rw [hw]; exact HP10.2); have hp_ : Kd.R (Kd.int .u8) 5 w11 w.heap.size (fun _ => True) (.slice (some ⟨go8, 0, none⟩) x5_1.length co9) y127 := (by rw [hw, Ny127.out]; exact HP10.1); clear HP10; replace HO_5 := zA hp_; replace HB := zA ((by rw [hw]; exact below_set (HB.out) GB8.out : Below w.heap.size w w11)); clear hg hw hp_))
     go_roundg k1
     case measure => have := HK1.out; omega
     case rel => exact ⟨(y127), (wrap64 (x6_1 + 1)), zx, H', ⟨zz79⟩, ⟨zr HO_5⟩, ⟨zb⟩⟩
    ·rw [if_neg c7] at H
     exact absurd H (by simp)
   ·rw [if_neg c6] at H
    have c6b0 : decide (x6_1 < (x5_1.length : Int)) = false := decide_eq_false c6
    clear c6
    obtain rfl := Option.some.inj H
    obtain ⟨Ao12, co12, eo12⟩ := Kd.R_slice HO_5.out
    subst eo12
    go_wp2
    go_ret
    exact ⟨_, by first | rfl | (simp [errW_none, errW_some] <;> rfl) | (simp only [← hji4]; first | rfl | (simp [errW_none, errW_some] <;> rfl)) | (simp [*, errW_none, errW_some] <;> rfl), zr HO_5, zb⟩

/-! ### impl_addBytes: function 116 -/
def impl_addBytes.l0 : Nat → List Int → Int → Int → Int → Option (List Int)
  | 0, _, _, _, _ => none
  | k + 1, x0, x1, x3, x9 => if x9 ≥ 0 then (if 0 ≤ (wrap64 (8 * x9)) then (if x0.length < 140737488355328 then (impl_addBytes.l0 k (x0 ++ [Go.bits .xor .u8 ((shr .i64 x1 (wrap64 (8 * x9))) % 256) x3]) x1 x3 (wrap64 (x9 - 1))) else (none)) else (none)) else (some x0)
def impl_addBytes.f (k : Nat) (l0 : List Int) (a1 : Int) (a2 : Int) (a3 : Int) : Option (List Int) := impl_addBytes.l0 k l0 a1 a3 (wrap64 (a2 - 1))
set_option maxHeartbeats 8000000 in
set_option maxRecDepth 100000 in
theorem impl_addBytes.calls (k : Nat) (P0_ : Nat → Prop) (u9000_ : Value) (l0 : List Int) (a1 : Int) (a2 : Int) (a3 : Int) (r : List Int) (w0 w : World) (hB : Below w0.heap.size w0 w) (ho0 : Kd.R (Kd.int .u8) 5 w w0.heap.size P0_ u9000_ l0) (h : impl_addBytes.f k l0 a1 a2 a3 = some r) :
  Calls Try.prog 116 #[u9000_, .int .i64 a1, .int .i64 a2, .int .u8 a3] w fun e w' => ∃ v0_ : Value, e = .returned (v0_) ∧ Kd.R (Kd.int .u8) 5 w' w0.heap.size (fun k_ => (P0_ k_ ∨ w.heap.size ≤ k_)) v0_ r ∧ Below w0.heap.size w0 w' ∧ Kept w w' (fun k_ => P0_ k_) := by
 have HO0 := zA (show Kd.R (Kd.int .u8) 5 w w0.heap.size (fun k_ => (P0_ k_ ∨ w.heap.size ≤ k_)) u9000_ l0 from Kd.R_mono ho0 (fun k_ hk => (.inl hk)))
 have HK := zA (Kept.refl w (fun k_ => P0_ k_))
 have HW0 := zA hB.size
 have HB := zA hB
 clear hB
 have H : (impl_addBytes.l0 k l0 a1 a3 (wrap64 (a2 - 1))) = some r := h
 clear h
 have H' := zA H
 clear H
 go_enter Try.func116, Try.ntmps116
 go_wp2
 go_loopg [0, 9] k (fun kq v0 v9 w' => ∃ (x0_1 : List Int) (x9_1 : Int), v9 = .int .i64 x9_1 ∧ Aside0 (impl_addBytes.l0 kq x0_1 a1 a3 x9_1 = some r) ∧ Aside0 (kq ≤ k) ∧ Aside0 (Kd.R (Kd.int .u8) 5 w' w0.heap.size (fun k_ => (P0_ k_ ∨ w.heap.size ≤ k_)) v0 x0_1) ∧ Aside0 (Kept w w' (fun k_ => P0_ k_)) ∧ Aside0 (Below w0.heap.size w0 w'))
 case atStart => exact ⟨(l0), (wrap64 (a2 - 1)), zx, H', ⟨Nat.le_refl _⟩, ⟨zr HO0⟩, ⟨zq⟩, ⟨zb⟩⟩
 case round =>
  clear H'
  obtain ⟨x0_1, x9_1, rfl, HA, HK1, HO_0, HK, HB⟩ := hrel
  cases gk with
  | zero => exact absurd HA.out (by simp [impl_addBytes.l0])
  | succ k1 =>
   have H := HA.out
   clear HA
   simp only [impl_addBytes.l0] at H
   by_cases c5 : x9_1 ≥ 0
   ·rw [if_pos c5] at H
    have c5b0 : decide (0 ≤ x9_1) = true := decide_eq_true c5
    clear c5
    obtain ⟨ji6, hji6⟩ : ∃ j_ : Int, (wrap64 (8 * x9_1)) = j_ := ⟨_, rfl⟩
    replace H : (if 0 ≤ (ji6) then (if x0_1.length < 140737488355328 then (impl_addBytes.l0 k1 (x0_1 ++ [Go.bits .xor .u8 ((shr .i64 a1 (ji6)) % 256) a3]) a1 a3 (wrap64 (x9_1 - 1))) else (none)) else (none)) = some r := by first | (rw [hji6] at H; exact H) | (simp only [hji6] at H ⊢; exact H)
    have hji6w : (IntKind.i64.wrap (8 * x9_1)) = ji6 := (i64_w _).trans hji6
    by_cases c7 : 0 ≤ (ji6)
    ·rw [if_pos c7] at H
     have c7b0 := eq_true c7
     have c7b1 : decide (0 ≤ (ji6)) = true := decide_eq_true c7
     clear c7
     obtain ⟨ji8, hji8⟩ : ∃ j_ : Int, (shr .i64 a1 (ji6)) = j_ := ⟨_, rfl⟩
     replace H : (if x0_1.length < 140737488355328 then (impl_addBytes.l0 k1 (x0_1 ++ [Go.bits .xor .u8 ((ji8) % 256) a3]) a1 a3 (wrap64 (x9_1 - 1))) else (none)) = some r := by first | (rw [hji8] at H; exact H) | (simp only [hji8] at H ⊢; exact H)
     have hji8_ : (a1 / 2 ^ min (ji6).toNat 64) = ji8 := hji8
     have hji8z : (ji6) ≤ 64 → (a1 / 2 ^ (ji6).toNat) = ji8 := shr_small hji8
     by_cases c9 : x0_1.length < 140737488355328
     ·rw [if_pos c9] at H
      have LMc9 := zA c9
      clear c9
      obtain ⟨y128, hy128⟩ : ∃ y_ : List Int, y_ = (x0_1 ++ [Go.bits .xor .u8 ((ji8) % 256) a3]) := ⟨_, rfl⟩
      replace H : (impl_addBytes.l0 k1 y128 a1 a3 (wrap64 (x9_1 - 1))) = some r := zy hy128
      have Ny128 := zA hy128
      clear hy128
      have H' := zA H
      clear H
      go_wp2_with (first | ((with_reducible refine gate_builtin (b := .append) (xs := #[.tmp 16, .tmp 24]) rfl ?_); at_builtin; refine Kd.R_append (Kd.int .u8) (w0 := w0) w0.heap.size rfl (.tmp 16) (.tmp 24) 22 5 (.int .u8 0) 1 rfl Try.underlying22 info5 rfl (by decide) (by omega) u0 x0_1 (Go.bits .xor .u8 ((ji8) % 256) a3) [.int .u8 (Go.bits .xor .u8 ((ji8) % 256) a3)] (fun k_ => (P0_ k_ ∨ w.heap.size ≤ k_)) (fun _ => False) rfl rfl ?aP (fun _ hk => hk.elim) ?aF ?aO ?aB ?aS ?aL ?_; (case aP => exact rfl); (case aB => exact zb); (case aF => exact (fun k_ hk => (.inr (Nat.le_trans zz67 hk)))); (case aO => exact (zr HO_0)); (case aS => exact (below_size zb)); (case aL => have := LMc9.out; omega); intro v129 w10 ho hb hg hat; rw [← Ny128.out] at ho; replace HB := zA hb; replace HK := zA (Kept.of_grown (S := (fun k_ => P0_ k_)) hg zq (fun k_ e_ => (HO_0.out.1 k_ e_))); have HO130 := zA ho; clear HO_0 ho hb hg hat))
      go_roundg k1
      case measure => have := HK1.out; omega
      case rel => exact ⟨(y128), (wrap64 (x9_1 - 1)), zx, H', ⟨zz79⟩, ⟨zr HO130⟩, ⟨zq⟩, ⟨zb⟩⟩
     ·rw [if_neg c9] at H
      exact absurd H (by simp)
    ·rw [if_neg c7] at H
     exact absurd H (by simp)
   ·rw [if_neg c5] at H
    have c5b0 : decide (0 ≤ x9_1) = false := decide_eq_false c5
    clear c5
    obtain rfl := Option.some.inj H
    go_wp2
    go_ret
    exact ⟨_, zw, zr HO_0, zb, zq⟩

/-! ### impl_clamp: function 117 -/
def impl_clamp.f (a0 : Int) (a1 : Int) (a2 : Int) : Option (Int) := some (mx a1 (mn a0 a2))
set_option maxHeartbeats 8000000 in
set_option maxRecDepth 100000 in
theorem impl_clamp.calls (a0 : Int) (a1 : Int) (a2 : Int) (r : Int) (w : World) (h : impl_clamp.f a0 a1 a2 = some r) :
  Calls Try.prog 117 #[.int .i64 a0, .int .i64 a1, .int .i64 a2] w fun e w' => e = .returned (.int .i64 r) ∧ Below w.heap.size w w' := by
 have HB := zA (Below.refl w.heap.size w)
 have H : (some (mx a1 (mn a0 a2))) = some r := h
 clear h
 obtain ⟨ji4, hji4⟩ : ∃ j_ : Int, (mn a0 a2) = j_ := ⟨_, rfl⟩
 replace H : (some (mx a1 (ji4))) = some r := by first | (rw [hji4] at H; exact H) | (simp only [hji4] at H ⊢; exact H)
 have hji4_ : (if a2 < a0 then a2 else a0) = ji4 := hji4
 obtain ⟨ji5, hji5⟩ : ∃ j_ : Int, (mx a1 (ji4)) = j_ := ⟨_, rfl⟩
 replace H : (some ji5) = some r := by first | (rw [hji5] at H; exact H) | (simp only [hji5] at H ⊢; exact H)
 have hji5_ : (if a1 < (ji4) then (ji4) else a1) = ji5 := hji5
 obtain rfl := Option.some.inj H
 go_enter Try.func117, Try.ntmps117
 go_wp2
 go_ret
 exact ⟨by first | rfl | (simp [errW_none, errW_some] <;> rfl) | (simp only [← hji4, ← hji5]; first | rfl | (simp [errW_none, errW_some] <;> rfl)) | (simp [*, errW_none, errW_some] <;> rfl), zb⟩

/-! ### impl_addFix: function 97 -/
def impl_addFix.f (k : Nat) (l0 : List Int) (a1 : Int) : Option (List Int) := (impl_clamp.f a1 (-2147483648) 2147483647).bind fun t131 => ((impl_addBytes.f k l0 (wrap64 (t131 + 2147483648)) 4 0).bind fun t132 => (some t132))
set_option maxHeartbeats 8000000 in
set_option maxRecDepth 100000 in
theorem impl_addFix.calls (k : Nat) (P0_ : Nat → Prop) (u9000_ : Value) (l0 : List Int) (a1 : Int) (r : List Int) (w0 w : World) (hB : Below w0.heap.size w0 w) (ho0 : Kd.R (Kd.int .u8) 5 w w0.heap.size P0_ u9000_ l0) (h : impl_addFix.f k l0 a1 = some r) :
  Calls Try.prog 97 #[u9000_, .int .i64 a1] w fun e w' => ∃ v0_ : Value, e = .returned (v0_) ∧ Kd.R (Kd.int .u8) 5 w' w0.heap.size (fun k_ => (P0_ k_ ∨ w.heap.size ≤ k_)) v0_ r ∧ Below w0.heap.size w0 w' ∧ Kept w w' (fun k_ => P0_ k_) := by
 have HO0 := zA (show Kd.R (Kd.int .u8) 5 w w0.heap.size (fun k_ => (P0_ k_ ∨ w.heap.size ≤ k_)) u9000_ l0 from Kd.R_mono ho0 (fun k_ hk => (.inl hk)))
 have HK := zA (Kept.refl w (fun k_ => P0_ k_))
 have HW0 := zA hB.size
 have HB := zA hB
 clear hB
 have H : ((impl_clamp.f a1 (-2147483648) 2147483647).bind fun t131 => ((impl_addBytes.f k l0 (wrap64 (t131 + 2147483648)) 4 0).bind fun t132 => (some t132))) = some r := h
 clear h
 replace H := zI H
 obtain ⟨t131, A3, H⟩ := H
 replace H := zI H
 obtain ⟨t132, A4, H⟩ := H
 obtain rfl := Option.some.inj H
 go_enter Try.func97, Try.ntmps97
 go_wp2_with (first | ((with_reducible refine zg 117 ?_); refine gL (some 7) Try.func117 #[.int .i64 a1, .int .i64 (-2147483648), .int .i64 2147483647] ?_; (with_reducible refine (impl_clamp.calls a1 (-2147483648) 2147483647 t131 _ A3.out).mono ?_); rintro e w5 ⟨rfl, hb⟩; refine ⟨_, rfl, ?_⟩; replace HO0 := zR HO0 hb; replace HK := zA (Kept.below (S := (fun k_ => P0_ k_)) zq hb); replace HB := zS hb; (try clear hb); obtain ⟨Ao6, co6, eo6⟩ := Kd.R_slice HO0.out; subst eo6) | ((with_reducible refine zg 116 ?_); refine gL (some 9) Try.func116 #[.slice Ao6 l0.length co6, .int .i64 (wrap64 (t131 + 2147483648)), .int .i64 4, .int .u8 0] ?_; (with_reducible refine (impl_addBytes.calls k (fun k_ => some k_ = (.slice Ao6 l0.length co6 : Value).ownBlock) (.slice Ao6 l0.length co6) l0 (wrap64 (t131 + 2147483648)) 4 0 t132 w0 _ ?z1 ?z2 A4.out).mono ?_); (case z1 => exact zb); (case z2 => exact Kd.R_tight rfl HO0.out); rintro e w7 ⟨v133, rfl, ho0, hb, hkp⟩; refine ⟨_, rfl, ?_⟩; have HO134 := zA (Kd.R_mono (ok' := fun k_ => (P0_ k_ ∨ w.heap.size ≤ k_)) ho0 (fun k_ hk_ => Or.elim hk_ (fun hs_ => (HO0.out.1 k_ (hs_).symm)) (fun hn_ => (.inr (Nat.le_trans zz67 hn_))))); replace HK := zA (Kept.then_ (S := (fun k_ => P0_ k_)) zq hkp (fun k_ hs_ => (fun e_ => (HO0.out.1 k_ e_.symm)) hs_)); replace HB := zA hb; clear HO0 hb hkp ho0))
 go_ret
 exact ⟨_, zw, zr HO134, zb, zq⟩

/-! ### impl_bytesOf: function 118 -/
def impl_bytesOf.l0 : Nat → Int → Int → Option (Int)
  | 0, _, _ => none
  | k + 1, x0, x3 => if x0 > 0 then (impl_bytesOf.l0 k (x0 / 256) (wrap64 (x3 + 1))) else (some x3)
def impl_bytesOf.f (k : Nat) (a0 : Int) : Option (Int) := impl_bytesOf.l0 k a0 0
set_option maxHeartbeats 8000000 in
set_option maxRecDepth 100000 in
theorem impl_bytesOf.calls (k : Nat) (a0 : Int) (r : Int) (w : World) (h : impl_bytesOf.f k a0 = some r) :
  Calls Try.prog 118 #[.int .i64 a0] w fun e w' => e = .returned (.int .i64 r) ∧ Drawn0 w w' := by
 have H : (impl_bytesOf.l0 k a0 0) = some r := h
 clear h
 have H' := zA H
 clear H
 go_enter Try.func118, Try.ntmps118
 go_wp2
 go_loopg [0, 3] k (fun kq v0 v3 w' => ∃ (x0_1 : Int) (x3_1 : Int), v0 = .int .i64 x0_1 ∧ v3 = .int .i64 x3_1 ∧ Aside0 (impl_bytesOf.l0 kq x0_1 x3_1 = some r) ∧ Aside0 (kq ≤ k) ∧ Drawn0 w w')
 case atStart => exact ⟨(a0), (0), zx, zx, H', ⟨Nat.le_refl _⟩, zz21⟩
 case round =>
  clear H'
  obtain ⟨x0_1, x3_1, rfl, rfl, HA, HK1, ⟨m1, rfl⟩⟩ := hrel
  cases gk with
  | zero => exact absurd HA.out (by simp [impl_bytesOf.l0])
  | succ k1 =>
   have H := HA.out
   clear HA
   simp only [impl_bytesOf.l0] at H
   by_cases c2 : x0_1 > 0
   ·rw [if_pos c2] at H
    have c2b0 : decide (0 < x0_1) = true := decide_eq_true c2
    clear c2
    have H' := zA H
    clear H
    go_wp2
    go_roundg k1
    case measure => have := HK1.out; omega
    case rel => exact ⟨(x0_1 / 256), (wrap64 (x3_1 + 1)), zx, zx, H', ⟨zz79⟩, zz21⟩
   ·rw [if_neg c2] at H
    have c2b0 : decide (0 < x0_1) = false := decide_eq_false c2
    clear c2
    obtain rfl := Option.some.inj H
    go_wp2
    go_ret
    exact ⟨zx, zz21⟩

/-! ### impl_addVar: function 98 -/
def impl_addVar.f (k : Nat) (l0 : List Int) (a1 : Int) : Option (List Int) := (impl_clamp.f a1 (-1000000000000000) 1000000000000000).bind fun t135 => (if t135 ≥ 0 then ((impl_bytesOf.f k t135).bind fun t136 => (if l0.length < 140737488355328 then ((impl_addBytes.f k (l0 ++ [(wrap64 (128 + t136)) % 256]) t135 t136 0).bind fun t140 => (some t140)) else (none))) else ((impl_bytesOf.f k (wrap64 ((-1) - t135))).bind fun t143 => (if l0.length < 140737488355328 then ((impl_addBytes.f k (l0 ++ [(wrap64 (127 - t143)) % 256]) (wrap64 ((-1) - t135)) t143 255).bind fun t147 => (some t147)) else (none))))
set_option maxHeartbeats 8000000 in
set_option maxRecDepth 100000 in
theorem impl_addVar.calls (k : Nat) (P0_ : Nat → Prop) (u9000_ : Value) (l0 : List Int) (a1 : Int) (r : List Int) (w0 w : World) (hB : Below w0.heap.size w0 w) (ho0 : Kd.R (Kd.int .u8) 5 w w0.heap.size P0_ u9000_ l0) (h : impl_addVar.f k l0 a1 = some r) :
  Calls Try.prog 98 #[u9000_, .int .i64 a1] w fun e w' => ∃ v0_ : Value, e = .returned (v0_) ∧ Kd.R (Kd.int .u8) 5 w' w0.heap.size (fun k_ => (P0_ k_ ∨ w.heap.size ≤ k_)) v0_ r ∧ Below w0.heap.size w0 w' ∧ Kept w w' (fun k_ => P0_ k_) := by
 have HO0 := zA (show Kd.R (Kd.int .u8) 5 w w0.heap.size (fun k_ => (P0_ k_ ∨ w.heap.size ≤ k_)) u9000_ l0 from Kd.R_mono ho0 (fun k_ hk => (.inl hk)))
 have HK := zA (Kept.refl w (fun k_ => P0_ k_))
 have HW0 := zA hB.size
 have HB := zA hB
 clear hB
 have H : ((impl_clamp.f a1 (-1000000000000000) 1000000000000000).bind fun t135 => (if t135 ≥ 0 then ((impl_bytesOf.f k t135).bind fun t136 => (if l0.length < 140737488355328 then ((impl_addBytes.f k (l0 ++ [(wrap64 (128 + t136)) % 256]) t135 t136 0).bind fun t140 => (some t140)) else (none))) else ((impl_bytesOf.f k (wrap64 ((-1) - t135))).bind fun t143 => (if l0.length < 140737488355328 then ((impl_addBytes.f k (l0 ++ [(wrap64 (127 - t143)) % 256]) (wrap64 ((-1) - t135)) t143 255).bind fun t147 => (some t147)) else (none))))) = some r := h
 clear h
 replace H := zI H
 obtain ⟨t135, A3, H⟩ := H
 by_cases c4 : t135 ≥ 0
 ·rw [if_pos c4] at H
  have c4b0 : decide (0 ≤ t135) = true := decide_eq_true c4
  clear c4
  replace H := zI H
  obtain ⟨t136, A5, H⟩ := H
  by_cases c6 : l0.length < 140737488355328
  ·rw [if_pos c6] at H
   have LMc6 := zA c6
   clear c6
   obtain ⟨y137, hy137⟩ : ∃ y_ : List Int, y_ = (l0 ++ [(wrap64 (128 + t136)) % 256]) := ⟨_, rfl⟩
   replace H : ((impl_addBytes.f k y137 t135 t136 0).bind fun t140 => (some t140)) = some r := zy hy137
   have Ny137 := zA hy137
   clear hy137
   replace H := zI H
   obtain ⟨t140, A7, H⟩ := H
   obtain rfl := Option.some.inj H
   go_enter Try.func98, Try.ntmps98
   go_wp2_with (first | ((with_reducible refine zg 117 ?_); refine gL (some 8) Try.func117 #[.int .i64 a1, .int .i64 (-1000000000000000), .int .i64 1000000000000000] ?_; (with_reducible refine (impl_clamp.calls a1 (-1000000000000000) 1000000000000000 t135 _ A3.out).mono ?_); rintro e w8 ⟨rfl, hb⟩; refine ⟨_, rfl, ?_⟩; replace HO0 := zR HO0 hb; replace HK := zA (Kept.below (S := (fun k_ => P0_ k_)) zq hb); replace HB := zS hb; (try clear hb)) | ((with_reducible refine zg 118 ?_); refine gL (some 12) Try.func118 #[.int .i64 t135] ?_; (with_reducible refine (impl_bytesOf.calls k t135 t136 _ A5.out).mono ?_); rintro e w' ⟨rfl, ⟨nd, rfl⟩⟩; refine ⟨_, rfl, ?_⟩) | ((with_reducible refine gate_builtin (b := .append) (xs := #[.tmp 13, .tmp 17]) rfl ?_); at_builtin; refine Kd.R_append (Kd.int .u8) (w0 := w0) w0.heap.size rfl (.tmp 13) (.tmp 17) 22 5 (.int .u8 0) 1 rfl Try.underlying22 info5 rfl (by decide) (by omega) u9000_ l0 ((wrap64 (128 + t136)) % 256) [.int .u8 ((wrap64 (128 + t136)) % 256)] (fun k_ => (P0_ k_ ∨ w.heap.size ≤ k_)) (fun _ => False) rfl rfl ?aP (fun _ hk => hk.elim) ?aF ?aO ?aB ?aS ?aL ?_; (case aP => exact rfl); (case aB => exact zb); (case aF => exact (fun k_ hk => (.inr (Nat.le_trans zz67 hk)))); (case aO => exact (zr HO0)); (case aS => exact (below_size zb)); (case aL => have := LMc6.out; omega); intro v138 w9 ho hb hg hat; rw [← Ny137.out] at ho; replace HB := zA hb; replace HK := zA (Kept.of_grown (S := (fun k_ => P0_ k_)) hg zq (fun k_ e_ => (HO0.out.1 k_ e_))); have HO139 := zA ho; clear HO0 ho hb hg hat; obtain ⟨Ao10, co10, eo10⟩ := Kd.R_slice HO139.out; subst eo10) | ((with_reducible refine zg 116 ?_); refine gL (some 21) Try.func116 #[.slice Ao10 y137.length co10, .int .i64 t135, .int .i64 t136, .int .u8 0] ?_; (with_reducible refine (impl_addBytes.calls k (fun k_ => some k_ = (.slice Ao10 y137.length co10 : Value).ownBlock) (.slice Ao10 y137.length co10) y137 t135 t136 0 t140 w0 _ ?z1 ?z2 A7.out).mono ?_); (case z1 => exact zb); (case z2 => exact Kd.R_tight rfl HO139.out); rintro e w11 ⟨v141, rfl, ho0, hb, hkp⟩; refine ⟨_, rfl, ?_⟩; have HO142 := zA (Kd.R_mono (ok' := fun k_ => (P0_ k_ ∨ w.heap.size ≤ k_)) ho0 (fun k_ hk_ => Or.elim hk_ (fun hs_ => (HO139.out.1 k_ (hs_).symm)) (fun hn_ => (.inr (Nat.le_trans zz67 hn_))))); replace HK := zA (Kept.then_ (S := (fun k_ => P0_ k_)) zq hkp (fun k_ hs_ => (fun e_ => (HO139.out.1 k_ e_.symm)) hs_)); replace HB := zA hb; clear HO139 hb hkp ho0))
   go_ret
   exact ⟨_, zw, zr HO142, zb, zq⟩
  ·rw [if_neg c6] at H
   exact absurd H (by simp)
 ·rw [if_neg c4] at H
  have c4b0 : decide (0 ≤ t135) = false := decide_eq_false c4
  clear c4
  replace H := zI H
  obtain ⟨t143, A12, H⟩ := H
  by_cases c13 : l0.length < 140737488355328
  ·rw [if_pos c13] at H
   have LMc13 := zA c13
   clear c13
   obtain ⟨y144, hy144⟩ : ∃ y_ : List Int, y_ = (l0 ++ [(wrap64 (127 - t143)) % 256]) := ⟨_, rfl⟩
   replace H : ((impl_addBytes.f k y144 (wrap64 ((-1) - t135)) t143 255).bind fun t147 => (some t147)) = some r := zy hy144
   have Ny144 := zA hy144
   clear hy144
   replace H := zI H
   obtain ⟨t147, A14, H⟩ := H
   obtain rfl := Option.some.inj H
   go_enter Try.func98, Try.ntmps98
   go_wp2_with (first | ((with_reducible refine zg 117 ?_); refine gL (some 8) Try.func117 #[.int .i64 a1, .int .i64 (-1000000000000000), .int .i64 1000000000000000] ?_; (with_reducible refine (impl_clamp.calls a1 (-1000000000000000) 1000000000000000 t135 _ A3.out).mono ?_); rintro e w15 ⟨rfl, hb⟩; refine ⟨_, rfl, ?_⟩; replace HO0 := zR HO0 hb; replace HK := zA (Kept.below (S := (fun k_ => P0_ k_)) zq hb); replace HB := zS hb; (try clear hb)) | ((with_reducible refine zg 118 ?_); refine gL (some 24) Try.func118 #[.int .i64 (wrap64 ((-1) - t135))] ?_; (with_reducible refine (impl_bytesOf.calls k (wrap64 ((-1) - t135)) t143 _ A12.out).mono ?_); rintro e w' ⟨rfl, ⟨nd, rfl⟩⟩; refine ⟨_, rfl, ?_⟩) | ((with_reducible refine gate_builtin (b := .append) (xs := #[.tmp 25, .tmp 29]) rfl ?_); at_builtin; refine Kd.R_append (Kd.int .u8) (w0 := w0) w0.heap.size rfl (.tmp 25) (.tmp 29) 22 5 (.int .u8 0) 1 rfl Try.underlying22 info5 rfl (by decide) (by omega) u9000_ l0 ((wrap64 (127 - t143)) % 256) [.int .u8 ((wrap64 (127 - t143)) % 256)] (fun k_ => (P0_ k_ ∨ w.heap.size ≤ k_)) (fun _ => False) rfl rfl ?aP (fun _ hk => hk.elim) ?aF ?aO ?aB ?aS ?aL ?_; (case aP => exact rfl); (case aB => exact zb); (case aF => exact (fun k_ hk => (.inr (Nat.le_trans zz67 hk)))); (case aO => exact (zr HO0)); (case aS => exact (below_size zb)); (case aL => have := LMc13.out; omega); intro v145 w16 ho hb hg hat; rw [← Ny144.out] at ho; replace HB := zA hb; replace HK := zA (Kept.of_grown (S := (fun k_ => P0_ k_)) hg zq (fun k_ e_ => (HO0.out.1 k_ e_))); have HO146 := zA ho; clear HO0 ho hb hg hat; obtain ⟨Ao17, co17, eo17⟩ := Kd.R_slice HO146.out; subst eo17) | ((with_reducible refine zg 116 ?_); refine gL (some 34) Try.func116 #[.slice Ao17 y144.length co17, .int .i64 (wrap64 ((-1) - t135)), .int .i64 t143, .int .u8 255] ?_; (with_reducible refine (impl_addBytes.calls k (fun k_ => some k_ = (.slice Ao17 y144.length co17 : Value).ownBlock) (.slice Ao17 y144.length co17) y144 (wrap64 ((-1) - t135)) t143 255 t147 w0 _ ?z1 ?z2 A14.out).mono ?_); (case z1 => exact zb); (case z2 => exact Kd.R_tight rfl HO146.out); rintro e w18 ⟨v148, rfl, ho0, hb, hkp⟩; refine ⟨_, rfl, ?_⟩; have HO149 := zA (Kd.R_mono (ok' := fun k_ => (P0_ k_ ∨ w.heap.size ≤ k_)) ho0 (fun k_ hk_ => Or.elim hk_ (fun hs_ => (HO146.out.1 k_ (hs_).symm)) (fun hn_ => (.inr (Nat.le_trans zz67 hn_))))); replace HK := zA (Kept.then_ (S := (fun k_ => P0_ k_)) zq hkp (fun k_ hs_ => (fun e_ => (HO146.out.1 k_ e_.symm)) hs_)); replace HB := zA hb; clear HO146 hb hkp ho0))
   go_ret
   exact ⟨_, zw, zr HO149, zb, zq⟩
  ·rw [if_neg c13] at H
   exact absurd H (by simp)

end Go.Proofs.Ytnfmpopmigbkoaa.PFnKeysRead

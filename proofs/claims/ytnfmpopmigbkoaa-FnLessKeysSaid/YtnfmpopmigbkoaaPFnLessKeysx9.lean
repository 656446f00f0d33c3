-- Written by mkprint.py, a program of this session (the printer with additions of its own)
import Derived.Test.YtnfmpopmigbkoaaPFnLessKeysx0
import Derived.Test.YtnfmpopmigbkoaaPFnLessKeysx5
import Derived.Test.YtnfmpopmigbkoaaPFnLessKeysx6
import Derived.Test.YtnfmpopmigbkoaaPFnLessKeysx8
namespace Go.Proofs.Ytnfmpopmigbkoaa.PFnLessKeys
open Go.RowKit Go.Proofs.YtnfmpopmigbkoaaW.PrintWords Go.Proofs.YtnfmpopmigbkoaaW.PrintLast Go.Proofs.YtnfmpopmigbkoaaW.PrintMore
attribute [local go_sem] max2_int min2_int max_two min_two max_three min_three max_four min_four   -- for this text's walks alone
set_option linter.unusedVariables false
set_option linter.unusedSimpArgs false

/-! ### impl_EncodeKey: function 41 -/
mutual
def impl_EncodeKey.j0 : Nat → List (S30) → List (S32) → Bool → Option (List Int)
  | 0, _, _, _ => none
  | k + 1, x0, x1, x16 => if x16 = true then (some ([] : List Int)) else (impl_EncodeKey.l0 k x0 ([] : List Int) x1 (x1.length : Int) 0)
def impl_EncodeKey.l0 : Nat → List (S30) → List Int → List (S32) → Int → Int → Option (List Int)
  | 0, _, _, _, _, _ => none
  | k + 1, x0, x5, x17, x18, x19 => if x19 < x18 then (if 0 ≤ x19 then (if x19 < (x17.length : Int) then (if x19 < (x0.length : Int) then ((impl_addPart.f k x5 ((rd_T30 x0 x19).f0) ((rd_T30 x0 x19).f1) ((rd_T30 x0 x19).f2) ((rd_T30 x0 x19).f3) ((rd_T32 x17 x19).f0) ((rd_T32 x17 x19).f1) ((rd_T32 x17 x19).f2)).bind fun t380 => (impl_EncodeKey.l0 k x0 t380 x17 x18 (wrap64 (x19 + 1)))) else (none)) else (none)) else (none)) else (some x5)
end
def impl_EncodeKey.f (k : Nat) (l0 : List (S30)) (l1 : List (S32)) : Option (List Int) := (impl_PlanOk.f k l0).bind fun t375 => (if t375 = true then ((impl_FitsAll.f k l0 l1).bind fun t376 => (impl_EncodeKey.j0 k l0 l1 (!t376))) else (impl_EncodeKey.j0 k l0 l1 true))
theorem impl_EncodeKey.mono_l : ∀ k, (∀ y0 y1 y2, LeO (impl_EncodeKey.j0 k y0 y1 y2) (impl_EncodeKey.j0 (k + 1) y0 y1 y2)) ∧ (∀ y0 y1 y2 y3 y4, LeO (impl_EncodeKey.l0 k y0 y1 y2 y3 y4) (impl_EncodeKey.l0 (k + 1) y0 y1 y2 y3 y4))
  | 0 => ⟨fun _ _ _ r h => by simp [impl_EncodeKey.j0] at h, fun _ _ _ _ _ r h => by simp [impl_EncodeKey.l0] at h⟩
  | k + 1 => by
    obtain ⟨ih0, ih1⟩ := impl_EncodeKey.mono_l k
    refine ⟨?_, ?_⟩
    · intro y0 y1 y2
      unfold impl_EncodeKey.j0
      repeat' first
      | (with_reducible exact ih0 _ _ _)
      | (with_reducible exact ih1 _ _ _ _ _)
      | (with_reducible exact impl_FitsAll.mono _ _ _)
      | (with_reducible exact impl_PlanOk.mono _ _)
      | (with_reducible exact impl_addPart.mono _ _ _ _ _ _ _ _ _)
      | (with_reducible exact LeO.refl _)
      | (with_reducible exact LeO.none _)
      | (with_reducible refine LeO.ite ?_ ?_)
      | (with_reducible refine LeO.bind ?_ (fun _ => ?_))
      | exact ih0 _ _ _
      | exact ih1 _ _ _ _ _
      | exact impl_FitsAll.mono _ _ _
      | exact impl_PlanOk.mono _ _
      | exact impl_addPart.mono _ _ _ _ _ _ _ _ _
      | exact LeO.none _
      | refine LeO.ite ?_ ?_
      | refine LeO.bind ?_ (fun _ => ?_)
    · intro y0 y1 y2 y3 y4
      unfold impl_EncodeKey.l0
      repeat' first
      | (with_reducible exact ih0 _ _ _)
      | (with_reducible exact ih1 _ _ _ _ _)
      | (with_reducible exact impl_FitsAll.mono _ _ _)
      | (with_reducible exact impl_PlanOk.mono _ _)
      | (with_reducible exact impl_addPart.mono _ _ _ _ _ _ _ _ _)
      | (with_reducible exact LeO.refl _)
      | (with_reducible exact LeO.none _)
      | (with_reducible refine LeO.ite ?_ ?_)
      | (with_reducible refine LeO.bind ?_ (fun _ => ?_))
      | exact ih0 _ _ _
      | exact ih1 _ _ _ _ _
      | exact impl_FitsAll.mono _ _ _
      | exact impl_PlanOk.mono _ _
      | exact impl_addPart.mono _ _ _ _ _ _ _ _ _
      | exact LeO.none _
      | refine LeO.ite ?_ ?_
      | refine LeO.bind ?_ (fun _ => ?_)
theorem impl_EncodeKey.mono : ∀ a0 a1 k, LeO (impl_EncodeKey.f k a0 a1) (impl_EncodeKey.f (k + 1) a0 a1) := by
  intro a0 a1 k
  obtain ⟨ih0, ih1⟩ := impl_EncodeKey.mono_l k
  unfold impl_EncodeKey.f
  repeat' first
      | (with_reducible exact ih0 _ _ _)
      | (with_reducible exact ih1 _ _ _ _ _)
      | (with_reducible exact impl_FitsAll.mono _ _ _)
      | (with_reducible exact impl_PlanOk.mono _ _)
      | (with_reducible exact impl_addPart.mono _ _ _ _ _ _ _ _ _)
      | (with_reducible exact LeO.refl _)
      | (with_reducible exact LeO.none _)
      | (with_reducible refine LeO.ite ?_ ?_)
      | (with_reducible refine LeO.bind ?_ (fun _ => ?_))
      | exact ih0 _ _ _
      | exact ih1 _ _ _ _ _
      | exact impl_FitsAll.mono _ _ _
      | exact impl_PlanOk.mono _ _
      | exact impl_addPart.mono _ _ _ _ _ _ _ _ _
      | exact LeO.none _
      | refine LeO.ite ?_ ?_
      | refine LeO.bind ?_ (fun _ => ?_)
def impl_EncodeKey.T7 : Bool × List (List Nat × List Nat) := (true, [([], []), ([], []), ([], []), ([1, 2], [1, 2]), ([3], [3]), ([], []), ([0, 4, 5], [0, 4, 5]), ([6, 6, 0, 1, 2, 3, 4, 5, 6], [0, 6])])
def impl_EncodeKey.B7 : List Nat := [0, 0, 0, 6, 14, 0, 63, 127]
theorem impl_EncodeKey.tab7 : rtab .any (opsOf Try.f41 7) = impl_EncodeKey.T7 := by kernel_rfl
theorem impl_EncodeKey.bits7 : waitsOk impl_EncodeKey.T7.2 impl_EncodeKey.B7 = true := by kernel_rfl
set_option maxHeartbeats 8000000 in
set_option maxRecDepth 100000 in
theorem impl_EncodeKey.calls (k : Nat) (A0 : Option Addr) (c0 : Nat) (l0 : List (S30)) (A1 : Option Addr) (c1 : Nat) (l1 : List (S32)) (r : List Int) (w : World) (hr0 : Kd.C k30 w A0 l0.length l0) (hc0 : l0.length ≤ c0) (hr1 : Kd.C k32 w A1 l1.length l1) (hc1 : l1.length ≤ c1) (h : impl_EncodeKey.f k l0 l1 = some r) :
  Calls Try.prog 41 #[.slice A0 l0.length c0, .slice A1 l1.length c1] w fun e w' => ∃ v0_ : Value, e = .returned (v0_) ∧ Kd.R (Kd.int .u8) 5 w' w.heap.size (fun _ => True) v0_ r ∧ Below w.heap.size w w' := by
 have hu32 := Try.underlying32
 have hu30 := Try.underlying30
 have HR0 := zA hr0
 have HC0 := zA hc0
 clear hr0 hc0
 have HR1 := zA hr1
 have HC1 := zA hc1
 clear hr1 hc1
 have HB := zA (Below.refl w.heap.size w)
 have H : ((impl_PlanOk.f k l0).bind fun t375 => (if t375 = true then ((impl_FitsAll.f k l0 l1).bind fun t376 => (impl_EncodeKey.j0 k l0 l1 (!t376))) else (impl_EncodeKey.j0 k l0 l1 true))) = some r := h
 clear h
 have HC3 := zA H
 clear H
 go_enter Try.func41, Try.ntmps41
 go_upto_region 1 with (fail)
 go_cut [16] (fun v16 wc => ∃ (kq : Nat) (x16_2 : Bool), v16 = .bool x16_2 ∧ Aside0 (impl_EncodeKey.j0 kq l0 l1 x16_2 = some r) ∧ Aside0 (kq ≤ k) ∧ Aside0 (Below w.heap.size w wc))
 case first =>
  have H := HC3.out
  clear HC3
  replace H := zI H
  obtain ⟨t375, A4, H⟩ := H
  by_cases c5 : t375 = true
  ·subst c5
   rw [if_pos rfl] at H
   replace H := zI H
   obtain ⟨t376, A6, H⟩ := H
   have H' := zA H
   clear H
   go_wp2_with (first | ((with_reducible refine zg 51 ?_); refine gL (some 9) Try.func51 #[.slice A0 l0.length c0] ?_; (with_reducible refine (impl_PlanOk.calls k _ _ l0 true _ ?z1 ?z2 A4.out).mono ?_); (case z1 => exact zd HR0); (case z2 => exact HC0.out); rintro e w7 ⟨rfl, hb⟩; refine ⟨_, rfl, ?_⟩; replace HB := zS hb; (try clear hb)) | (go_at_call 52; (with_reducible refine (impl_FitsAll.calls k _ _ l0 _ _ l1 t376 _ ?z1 ?z2 ?z3 ?z4 A6.out).mono ?_); (case z1 => exact zd HR0); (case z2 => exact HC0.out); (case z3 => exact zd HR1); (case z4 => exact HC1.out); rintro e w8 ⟨rfl, hb⟩; replace HB := zS hb; (try clear hb)))
   go_meet
   case rel => exact ⟨_, (!t376), zx, H', ⟨zo⟩, ⟨zb⟩⟩
  ·replace c5 := Bool.eq_false_iff.mpr c5
   subst c5
   rw [if_neg (Bool.false_ne_true)] at H
   have H' := zA H
   clear H
   go_wp2_with (first | ((with_reducible refine zg 51 ?_); refine gL (some 9) Try.func51 #[.slice A0 l0.length c0] ?_; (with_reducible refine (impl_PlanOk.calls k _ _ l0 false _ ?z1 ?z2 A4.out).mono ?_); (case z1 => exact zd HR0); (case z2 => exact HC0.out); rintro e w9 ⟨rfl, hb⟩; refine ⟨_, rfl, ?_⟩; replace HB := zS hb; (try clear hb)))
   go_meet
   case rel => exact ⟨_, (true), zx, H', ⟨zo⟩, ⟨zb⟩⟩
 case rest =>
  clear HC3
  obtain ⟨kq, x16_2, rfl, HA, HJ2, HB⟩ := hcut
  cases kq with
  | zero => exact absurd HA.out (by simp [impl_EncodeKey.j0])
  | succ kj2 =>
   have H := HA.out
   clear HA
   simp only [impl_EncodeKey.j0] at H
   by_cases c10 : x16_2 = true
   ·subst c10
    rw [if_pos rfl] at H
    obtain rfl := Option.some.inj H
    go_wp2
    go_ret
    exact ⟨_, zw, zz44, zb⟩
   ·replace c10 := Bool.eq_false_iff.mpr c10
    subst c10
    rw [if_neg (Bool.false_ne_true)] at H
    have H' := zA H
    clear H
    go_wp2
    go_loopg [5, 19] kj2 (fun kq v5 v19 w' => ∃ (x5_2 : List Int) (x19_2 : Int), v19 = .int .i64 x19_2 ∧ Aside0 (impl_EncodeKey.l0 kq l0 x5_2 l1 (l1.length : Int) x19_2 = some r) ∧ Aside0 (kq ≤ kj2) ∧ Aside0 (Kd.R (Kd.int .u8) 5 w' w.heap.size (fun _ => True) v5 x5_2) ∧ Aside0 (Below w.heap.size w w'))
    case atStart => exact ⟨(([] : List Int)), (0), zx, H', ⟨Nat.le_refl _⟩, ⟨zz44⟩, ⟨zb⟩⟩
    case round =>
     clear H'
     try clear c10
     obtain ⟨x5_2, x19_2, rfl, HA, HK2, HO_5, HB⟩ := hrel
     cases gk with
     | zero => exact absurd HA.out (by simp [impl_EncodeKey.l0])
     | succ k2 =>
      have H := HA.out
      clear HA
      simp only [impl_EncodeKey.l0] at H
      by_cases c11 : x19_2 < (l1.length : Int)
      ·rw [if_pos c11] at H
       have c11b0 : decide (x19_2 < (l1.length : Int)) = true := decide_eq_true c11
       clear c11
       by_cases c12 : 0 ≤ x19_2
       ·rw [if_pos c12] at H
        have c12b0 : decide (0 ≤ x19_2) = true := decide_eq_true c12
        clear c12
        by_cases c13 : x19_2 < (l1.length : Int)
        ·rw [if_pos c13] at H
         have c13b0 : decide (x19_2 < (l1.length : Int)) = true := decide_eq_true c13
         clear c13
         by_cases c14 : x19_2 < (l0.length : Int)
         ·rw [if_pos c14] at H
          have c14b0 : decide (x19_2 < (l0.length : Int)) = true := decide_eq_true c14
          clear c14
          replace H := zI H
          obtain ⟨t380, A15, H⟩ := H
          have H' := zA H
          clear H
          have p377 : 0 ≤ (x19_2 : Int) := of_decide_eq_true za
          have q377 : x19_2 < (l1.length : Int) := of_decide_eq_true za
          obtain ⟨ad377, e377, hx377_0, hx377_1, hx377_2⟩ := at_T32 HR1.out x19_2 p377 q377
          cases e377
          replace hx377_0 := (HB.out.cell (World.block_lt_of_cell? w _ hx377_0)).trans hx377_0
          replace hx377_1 := (HB.out.cell (World.block_lt_of_cell? w _ hx377_1)).trans hx377_1
          replace hx377_2 := (HB.out.cell (World.block_lt_of_cell? w _ hx377_2)).trans hx377_2
          replace p377 := eq_true p377
          replace q377 := eq_true q377
          try go_wp2_with (first | ((with_reducible refine zt 7 ?_); refine zn #[.int .i64 0, .int .i64 0, .string (⟨#[]⟩ : ByteArray)] 32 ?_; intro gb378 hg w16 hbox hb; replace HO_5 := zR HO_5 hb; have BK378 := zA hbox; have GW378 := zG hg; have GE378 := zG hg; replace HB := zS hb; clear hb hbox hg; obtain ⟨hcz17_0, hcz17_1, hcz17_2, hfz17_0, hfz17_1, hfz17_2⟩ := zh3 BK378))
          have n0_ : Aside0 (Kd.R (Kd.int .u8) 5 (((w16.setCell ⟨gb378, 0, none⟩ (.int .i64 ((rd_T32 l1 x19_2).f0))).setCell ⟨gb378, 1, none⟩ (.int .i64 ((rd_T32 l1 x19_2).f1))).setCell ⟨gb378, 2, none⟩ (.string ((rd_T32 l1 x19_2).f2))) w.heap.size (fun _ => True) u5 x5_2) := ⟨by (with_reducible repeat (first | apply Kd.R_alloc | apply Kd.R_drewN | apply Kd.R_drew)); exact Kd.R_mono (Kd.R_far (p := ⟨gb378, 2, none⟩) (Kd.R_far (p := ⟨gb378, 1, none⟩) (Kd.R_far (p := ⟨gb378, 0, none⟩) (Kd.R_types HO_5.out BK378.out (by decide)) (fun _ hk => hk.2) (.int .i64 ((rd_T32 l1 x19_2).f0))) (fun _ hk => hk.2) (.int .i64 ((rd_T32 l1 x19_2).f1))) (fun _ hk => hk.2) (.string ((rd_T32 l1 x19_2).f2))) (fun _ hk => trivial)⟩
          have n1_ : Aside0 ((((w16.setCell ⟨gb378, 0, none⟩ (.int .i64 ((rd_T32 l1 x19_2).f0))).setCell ⟨gb378, 1, none⟩ (.int .i64 ((rd_T32 l1 x19_2).f1))).setCell ⟨gb378, 2, none⟩ (.string ((rd_T32 l1 x19_2).f2))).heap[gb378]? = some (.cells #[.int .i64 ((rd_T32 l1 x19_2).f0), .int .i64 ((rd_T32 l1 x19_2).f1), .string ((rd_T32 l1 x19_2).f2)] 32 (0, 0))) := ⟨by (with_reducible repeat (first | refine blk_drewN ?_ _ | refine blk_drew ?_ | refine blk_alloc ?_ _)); refine blk_put (cs := #[.int .i64 ((rd_T32 l1 x19_2).f0), .int .i64 ((rd_T32 l1 x19_2).f1), .string (⟨#[]⟩ : ByteArray)]) ?_ 2 _ rfl; (with_reducible repeat (first | refine blk_drewN ?_ _ | refine blk_drew ?_ | refine blk_alloc ?_ _)); refine blk_put (cs := #[.int .i64 ((rd_T32 l1 x19_2).f0), .int .i64 0, .string (⟨#[]⟩ : ByteArray)]) ?_ 1 _ rfl; (with_reducible repeat (first | refine blk_drewN ?_ _ | refine blk_drew ?_ | refine blk_alloc ?_ _)); refine blk_put (cs := #[.int .i64 0, .int .i64 0, .string (⟨#[]⟩ : ByteArray)]) ?_ 0 _ rfl; (with_reducible repeat (first | refine blk_drewN ?_ _ | refine blk_drew ?_ | refine blk_alloc ?_ _)); exact BK378.out⟩
          have n2_ : Aside0 (Below w.heap.size w (((w16.setCell ⟨gb378, 0, none⟩ (.int .i64 ((rd_T32 l1 x19_2).f0))).setCell ⟨gb378, 1, none⟩ (.int .i64 ((rd_T32 l1 x19_2).f1))).setCell ⟨gb378, 2, none⟩ (.string ((rd_T32 l1 x19_2).f2)))) := ⟨zb1 GE378⟩
          (try clear HO_5)
          (try clear BK378)
          (try clear HB)
          generalize (((w16.setCell ⟨gb378, 0, none⟩ (.int .i64 ((rd_T32 l1 x19_2).f0))).setCell ⟨gb378, 1, none⟩ (.int .i64 ((rd_T32 l1 x19_2).f1))).setCell ⟨gb378, 2, none⟩ (.string ((rd_T32 l1 x19_2).f2))) = w18 at n0_ n1_ n2_ ⊢
          have HO_5 := n0_; have BK378 := n1_; have HB := n2_
          clear n0_ n1_ n2_
          have n0_ := zA (Kd.R_drew HO_5.out)
          have n1_ := zA (blk_drew BK378.out)
          have n2_ := zA (below_drew1 HB.out)
          clear HO_5 BK378 HB
          have HO_5 := n0_; have BK378 := n1_; have HB := n2_
          clear n0_ n1_ n2_
          have p379 : 0 ≤ (x19_2 : Int) := of_decide_eq_true za
          have q379 : x19_2 < (l0.length : Int) := of_decide_eq_true za
          obtain ⟨ad379, e379, hx379_0, hx379_1, hx379_2, hx379_3⟩ := at_T30 HR0.out x19_2 p379 q379
          have hw379_3 := hx379_3
          have hw379_2 := hx379_2
          have hw379_1 := hx379_1
          have hw379_0 := hx379_0
          cases e379
          replace hx379_0 := (HB.out.cell (World.block_lt_of_cell? w _ hx379_0)).trans hx379_0
          replace hx379_1 := (HB.out.cell (World.block_lt_of_cell? w _ hx379_1)).trans hx379_1
          replace hx379_2 := (HB.out.cell (World.block_lt_of_cell? w _ hx379_2)).trans hx379_2
          replace hx379_3 := (HB.out.cell (World.block_lt_of_cell? w _ hx379_3)).trans hx379_3
          replace p379 := eq_true p379
          replace q379 := eq_true q379
          obtain ⟨Ao20, co20, eo20⟩ := Kd.R_slice HO_5.out
          (first | subst eo20 | (injection eo20 with f1_ f2_ f3_; have f4_ := f1_.symm; have f5_ := f3_.symm; clear f1_ f2_ f3_; subst f4_; subst f5_))
          refine start_ (n := 8) (S := fun w' => w'.cell? ⟨gb378, 0, none⟩ = some (.int .i64 ((rd_T32 l1 x19_2).f0)) ∧ w'.cell? ⟨gb378, 1, none⟩ = some (.int .i64 ((rd_T32 l1 x19_2).f1)) ∧ w'.cell? ⟨gb378, 2, none⟩ = some (.string ((rd_T32 l1 x19_2).f2)) ∧ w'.cell? (ad379.add ((x19_2).toNat * 4)) = some (.int .i64 ((rd_T30 l0 x19_2).f0)) ∧ w'.cell? ⟨(ad379.add ((x19_2).toNat * 4)).block, (ad379.add ((x19_2).toNat * 4)).off + 1, none⟩ = some (.int .i64 ((rd_T30 l0 x19_2).f1)) ∧ w'.cell? ⟨(ad379.add ((x19_2).toNat * 4)).block, (ad379.add ((x19_2).toNat * 4)).off + 2, none⟩ = some (.bool ((rd_T30 l0 x19_2).f2)) ∧ w'.cell? ⟨(ad379.add ((x19_2).toNat * 4)).block, (ad379.add ((x19_2).toNat * 4)).off + 3, none⟩ = some (.bool ((rd_T30 l0 x19_2).f3))) (ds := []) #[false, false, false, false, false, false, false, false] (by kernel_rfl) rfl rfl ⟨(blk_cell BK378.out 0).trans rfl, (blk_cell BK378.out 1).trans rfl, (blk_cell BK378.out 2).trans rfl, ((HB.out.cell (World.block_lt_of_cell? w _ hw379_0)).trans hw379_0), ((HB.out.cell (World.block_lt_of_cell? w _ hw379_1)).trans hw379_1), ((HB.out.cell (World.block_lt_of_cell? w _ hw379_2)).trans hw379_2), ((HB.out.cell (World.block_lt_of_cell? w _ hw379_3)).trans hw379_3)⟩ (fun hHeld => ?_); refine with_tabW impl_EncodeKey.tab7 impl_EncodeKey.bits7 (fun HT_ HW_ => ?_)
          generalize w18.drew = w19 at HO_5 BK378 HB hx379_0 hx379_1 hx379_2 hx379_3 hHeld ⊢
          refine pure_ (i := 0) (N := some 24) (v := ?_) (a' := ?_) #[true, false, false, false, false, false, false, false] rfl rfl (any_of HT_.out (by kernel_rfl)) (fun _ _ _ h => h) (Or.inl ⟨by rfl, ?_⟩) ?_ ?_; rotate_left
          ·intro w'; go_simp; with_reducible rfl
          rotate_left
          ·simp only [Act.put, List.setIfInBounds_toArray, List.set_cons_zero, List.set_cons_succ, i64_w, i32_w]; rfl
          refine pure_ (i := 1) (N := some 25) (v := ?_) (a' := ?_) #[true, true, false, false, false, false, false, false] rfl rfl (any_of HT_.out (by kernel_rfl)) (fun _ _ _ h => h) (Or.inl ⟨by rfl, ?_⟩) ?_ ?_; rotate_left
          ·intro w'; go_simp; with_reducible rfl
          rotate_left
          ·simp only [Act.put, List.setIfInBounds_toArray, List.set_cons_zero, List.set_cons_succ, i64_w, i32_w]; rfl
          refine pure_ (i := 2) (N := some 26) (v := ?_) (a' := ?_) #[true, true, true, false, false, false, false, false] rfl rfl (any_of HT_.out (by kernel_rfl)) (fun _ _ _ h => h) (Or.inl ⟨by rfl, ?_⟩) ?_ ?_; rotate_left
          ·intro w'; go_simp; with_reducible rfl
          rotate_left
          ·simp only [Act.put, List.setIfInBounds_toArray, List.set_cons_zero, List.set_cons_succ, i64_w, i32_w]; rfl
          refine pure_ (i := 3) (N := some 27) (v := ?_) (a' := ?_) #[true, true, true, true, false, false, false, false] rfl rfl (any_of HT_.out (by kernel_rfl)) (fun _ _ _ h => h) (Or.inl ⟨by rfl, ?_⟩) ?_ ?_; rotate_left
          ·intro w'; go_simp; with_reducible rfl
          rotate_left
          ·simp only [Act.put, List.setIfInBounds_toArray, List.set_cons_zero, List.set_cons_succ, i64_w, i32_w]; rfl
          refine take_ (i := 4) (N := some 28) (v := ?_) (a' := ?_) #[true, true, true, true, true, false, false, false] rfl rfl (take_ofW HT_.out HW_.out (by kernel_rfl)) (fun _ _ _ h => h) (Or.inl ⟨by rfl, ?_⟩) hHeld ?_ ?_; rotate_left
          ·rintro w' ⟨s0, s1, s2, s3, s4, s5, s6⟩
           go_simp
           with_reducible rfl
          rotate_left
          ·simp only [Act.put, List.setIfInBounds_toArray, List.set_cons_zero, List.set_cons_succ, i64_w, i32_w]; rfl
          refine take_ (i := 5) (N := some 29) (v := ?_) (a' := ?_) #[true, true, true, true, true, true, false, false] rfl rfl (take_ofW HT_.out HW_.out (by kernel_rfl)) (fun _ _ _ h => h) (Or.inl ⟨by rfl, ?_⟩) hHeld ?_ ?_; rotate_left
          ·rintro w' ⟨s0, s1, s2, s3, s4, s5, s6⟩
           go_simp
           with_reducible rfl
          rotate_left
          ·simp only [Act.put, List.setIfInBounds_toArray, List.set_cons_zero, List.set_cons_succ, i64_w, i32_w]; rfl
          refine one_ (i := 6) (N := some 30) #[true, true, true, true, true, true, true, false] rfl rfl (one_of HT_.out (by kernel_rfl)) (by decide) (fun K hK => ?_)
          refine goes_ Try.func69 (by kernel_rfl) rfl #[.slice Ao20 x5_2.length co20, .agg #[.int .i64 ((rd_T30 l0 x19_2).f0), .int .i64 ((rd_T30 l0 x19_2).f1), .bool ((rd_T30 l0 x19_2).f2), .bool ((rd_T30 l0 x19_2).f3)], .agg #[.int .i64 ((rd_T32 l1 x19_2).f0), .int .i64 ((rd_T32 l1 x19_2).f1), .string ((rd_T32 l1 x19_2).f2)]] (by rfl) rfl rfl zz21 ?_
          with_reducible refine (impl_addPart.calls k2 (fun k_ => some k_ = (.slice Ao20 x5_2.length co20 : Value).ownBlock) (.slice Ao20 x5_2.length co20) x5_2 ((rd_T30 l0 x19_2).f0) ((rd_T30 l0 x19_2).f1) ((rd_T30 l0 x19_2).f2) ((rd_T30 l0 x19_2).f3) ((rd_T32 l1 x19_2).f0) ((rd_T32 l1 x19_2).f1) ((rd_T32 l1 x19_2).f2) t380 w _ ?z1 ?z2 A15.out).mono ?_
          (case z1 => exact zb1 GE378)
          (case z2 => exact Kd.R_tight rfl HO_5.out)
          rintro e w21 ⟨v381, rfl, ho0, hb, hkp⟩
          refine ⟨_, rfl, ?_⟩
          have n0_ := zA (blk_kept (zk BK378) hkp (fun hs_ => (fun e_ => (Kd.R_ne HO_5.out BK378.out (by decide)) e_) hs_))
          have n1_ := zA (Kd.R_mono (ok' := fun k_ => True) ho0 (fun k_ hk_ => trivial))
          have n2_ := zA hb
          clear BK378 HB HO_5
          have BK378 := n0_; have HO382 := n1_; have HB := n2_
          clear n0_ n1_ n2_
          (try clear hb)
          (try clear hkp)
          (try clear ho0)
          refine hK.out _ _ ⟨(blk_cell BK378.out 0).trans rfl, (blk_cell BK378.out 1).trans rfl, (blk_cell BK378.out 2).trans rfl, ((HB.out.cell (World.block_lt_of_cell? w _ hw379_0)).trans hw379_0), ((HB.out.cell (World.block_lt_of_cell? w _ hw379_1)).trans hw379_1), ((HB.out.cell (World.block_lt_of_cell? w _ hw379_2)).trans hw379_2), ((HB.out.cell (World.block_lt_of_cell? w _ hw379_3)).trans hw379_3)⟩ (fun hHeld => ?_)
          clear hK K
          refine norm_ (a' := ?_) ?_ ?_; rotate_left
          ·show Act.put _ (some 30) _ = _
           simp only [Act.put, List.setIfInBounds_toArray, List.set_cons_zero, List.set_cons_succ, i64_w, i32_w]
           rfl
          refine pure_ (i := 7) (N := some 5) (v := ?_) (a' := ?_) #[true, true, true, true, true, true, true, true] rfl rfl (any_of HT_.out (by kernel_rfl)) (fun _ _ _ h => h) (Or.inl ⟨by rfl, ?_⟩) ?_ ?_; rotate_left
          ·intro w'; go_simp; with_reducible rfl
          rotate_left
          ·simp only [Act.put, List.setIfInBounds_toArray, List.set_cons_zero, List.set_cons_succ, i64_w, i32_w]; rfl
          refine done_ (done_of HT_.out (by kernel_rfl)) ?_
          try go_wp2
          go_roundg k2
          case measure => have := HJ2.out; have := HK2.out; omega
          case rel => exact ⟨(t380), (wrap64 (x19_2 + 1)), zx, H', ⟨by have := HJ2.out; have := HK2.out; omega⟩, ⟨zr HO382⟩, ⟨zb1 GE378⟩⟩
         ·rw [if_neg c14] at H
          exact absurd H (by simp)
        ·rw [if_neg c13] at H
         exact absurd H (by simp)
       ·rw [if_neg c12] at H
        exact absurd H (by simp)
      ·rw [if_neg c11] at H
       have c11b0 : decide (x19_2 < (l1.length : Int)) = false := decide_eq_false c11
       clear c11
       obtain rfl := Option.some.inj H
       go_wp2
       go_ret
       exact ⟨_, zw, zr HO_5, zb⟩

/-! ### impl_LessVal: function 84 -/
def impl_LessVal.f (a0_0 : Int) (a0_1 : Int) (a0_2 : ByteArray) (a1_0 : Int) (a1_1 : Int) (a1_2 : ByteArray) : Option (Bool) := if a0_0 = a1_0 then (if a0_1 = a1_1 then (some (Op.bytesLess a0_2.toList a1_2.toList)) else (some (decide (a0_1 < a1_1)))) else (some (decide (a0_0 < a1_0)))
set_option maxHeartbeats 8000000 in
set_option maxRecDepth 100000 in
theorem impl_LessVal.calls (a0_0 : Int) (a0_1 : Int) (a0_2 : ByteArray) (a1_0 : Int) (a1_1 : Int) (a1_2 : ByteArray) (r : Bool) (w : World) (h : impl_LessVal.f a0_0 a0_1 a0_2 a1_0 a1_1 a1_2 = some r) :
  Calls Try.prog 84 #[.agg #[.int .i64 a0_0, .int .i64 a0_1, .string a0_2], .agg #[.int .i64 a1_0, .int .i64 a1_1, .string a1_2]] w fun e w' => e = .returned (.bool r) ∧ Below w.heap.size w w' := by
 have hu32 := Try.underlying32
 have HB := zA (Below.refl w.heap.size w)
 have H : (if a0_0 = a1_0 then (if a0_1 = a1_1 then (some (Op.bytesLess a0_2.toList a1_2.toList)) else (some (decide (a0_1 < a1_1)))) else (some (decide (a0_0 < a1_0)))) = some r := h
 clear h
 by_cases c3 : a0_0 = a1_0
 ·rw [if_pos c3] at H
  have c3b0 : (a0_0 == a1_0) = true := beq_iff_eq.mpr c3
  have c3b1 : (a0_0 != a1_0) = false := bne_eq_false_iff_eq.mpr c3
  clear c3
  by_cases c4 : a0_1 = a1_1
  ·rw [if_pos c4] at H
   have c4b0 : (a0_1 == a1_1) = true := beq_iff_eq.mpr c4
   have c4b1 : (a0_1 != a1_1) = false := bne_eq_false_iff_eq.mpr c4
   clear c4
   obtain rfl := Option.some.inj H
   go_enter Try.func84, Try.ntmps84
   go_wp2_with (first | ((with_reducible refine zt 2 ?_); refine zn #[.int .i64 a0_0, .int .i64 a0_1, .string a0_2] 32 ?_; intro gb383 hg w5 hbox hb; have BK383 := zA hbox; have GW383 := zG hg; have GE383 := zG hg; replace HB := zS hb; clear hb hbox hg) | ((with_reducible refine zt 3 ?_); refine zn #[.int .i64 a1_0, .int .i64 a1_1, .string a1_2] 32 ?_; intro gb384 hg w6 hbox hb; have BK384 := zA hbox; have GW384 := zG hg (zb1 GE383); have GE384 := zG hg (zb1 GE383); replace HB := zS hb (zb1 GE383); have NB383_384 := zX BK383 hg; have NB384_383 := zY BK383 hg; replace BK383 := zB BK383 hb; clear hb hbox hg; have hnb7 := NB383_384.out; have hnc7 := NB384_383.out; obtain ⟨hcz8_0, hcz8_1, hcz8_2, hfz8_0, hfz8_1, hfz8_2⟩ := zh3 BK383; obtain ⟨hcz9_0, hcz9_1, hcz9_2, hfz9_0, hfz9_1, hfz9_2⟩ := zh3 BK384))
   go_ret
   exact ⟨zw, zb2 GE383 GE384⟩
  ·rw [if_neg c4] at H
   have c4b0 : (a0_1 == a1_1) = false := beq_eq_false_iff_ne.mpr c4
   have c4b1 : (a0_1 != a1_1) = true := bne_iff_ne.mpr c4
   obtain rfl := Option.some.inj H
   go_enter Try.func84, Try.ntmps84
   go_wp2_with (first | ((with_reducible refine zt 2 ?_); refine zn #[.int .i64 a0_0, .int .i64 a0_1, .string a0_2] 32 ?_; intro gb383 hg w10 hbox hb; have BK383 := zA hbox; have GW383 := zG hg; have GE383 := zG hg; replace HB := zS hb; clear hb hbox hg) | ((with_reducible refine zt 3 ?_); refine zn #[.int .i64 a1_0, .int .i64 a1_1, .string a1_2] 32 ?_; intro gb384 hg w11 hbox hb; have BK384 := zA hbox; have GW384 := zG hg (zb1 GE383); have GE384 := zG hg (zb1 GE383); replace HB := zS hb (zb1 GE383); have NB383_384 := zX BK383 hg; have NB384_383 := zY BK383 hg; replace BK383 := zB BK383 hb; clear hb hbox hg; have hnb12 := NB383_384.out; have hnc12 := NB384_383.out; obtain ⟨hcz13_0, hcz13_1, hcz13_2, hfz13_0, hfz13_1, hfz13_2⟩ := zh3 BK383; obtain ⟨hcz14_0, hcz14_1, hcz14_2, hfz14_0, hfz14_1, hfz14_2⟩ := zh3 BK384))
   go_ret
   exact ⟨zw, zb2 GE383 GE384⟩
 ·rw [if_neg c3] at H
  have c3b0 : (a0_0 == a1_0) = false := beq_eq_false_iff_ne.mpr c3
  have c3b1 : (a0_0 != a1_0) = true := bne_iff_ne.mpr c3
  obtain rfl := Option.some.inj H
  go_enter Try.func84, Try.ntmps84
  go_wp2_with (first | ((with_reducible refine zt 2 ?_); refine zn #[.int .i64 a0_0, .int .i64 a0_1, .string a0_2] 32 ?_; intro gb383 hg w15 hbox hb; have BK383 := zA hbox; have GW383 := zG hg; have GE383 := zG hg; replace HB := zS hb; clear hb hbox hg) | ((with_reducible refine zt 3 ?_); refine zn #[.int .i64 a1_0, .int .i64 a1_1, .string a1_2] 32 ?_; intro gb384 hg w16 hbox hb; have BK384 := zA hbox; have GW384 := zG hg (zb1 GE383); have GE384 := zG hg (zb1 GE383); replace HB := zS hb (zb1 GE383); have NB383_384 := zX BK383 hg; have NB384_383 := zY BK383 hg; replace BK383 := zB BK383 hb; clear hb hbox hg; have hnb17 := NB383_384.out; have hnc17 := NB384_383.out; obtain ⟨hcz18_0, hcz18_1, hcz18_2, hfz18_0, hfz18_1, hfz18_2⟩ := zh3 BK383; obtain ⟨hcz19_0, hcz19_1, hcz19_2, hfz19_0, hfz19_1, hfz19_2⟩ := zh3 BK384))
  go_ret
  exact ⟨zw, zb2 GE383 GE384⟩

/-! ### impl_LessPart: function 34 -/
def impl_LessPart.f (a0_0 : Int) (a0_1 : Int) (a0_2 : Bool) (a0_3 : Bool) (a1_0 : Int) (a1_1 : Int) (a1_2 : ByteArray) (a2_0 : Int) (a2_1 : Int) (a2_2 : ByteArray) : Option (Bool) := if a0_3 = true then ((impl_LessVal.f a2_0 a2_1 a2_2 a1_0 a1_1 a1_2).bind fun t388 => (some t388)) else ((impl_LessVal.f a1_0 a1_1 a1_2 a2_0 a2_1 a2_2).bind fun t389 => (some t389))
set_option maxHeartbeats 8000000 in
set_option maxRecDepth 100000 in
theorem impl_LessPart.calls (a0_0 : Int) (a0_1 : Int) (a0_2 : Bool) (a0_3 : Bool) (a1_0 : Int) (a1_1 : Int) (a1_2 : ByteArray) (a2_0 : Int) (a2_1 : Int) (a2_2 : ByteArray) (r : Bool) (w : World) (h : impl_LessPart.f a0_0 a0_1 a0_2 a0_3 a1_0 a1_1 a1_2 a2_0 a2_1 a2_2 = some r) :
  Calls Try.prog 34 #[.agg #[.int .i64 a0_0, .int .i64 a0_1, .bool a0_2, .bool a0_3], .agg #[.int .i64 a1_0, .int .i64 a1_1, .string a1_2], .agg #[.int .i64 a2_0, .int .i64 a2_1, .string a2_2]] w fun e w' => e = .returned (.bool r) ∧ Below w.heap.size w w' := by
 have hu30 := Try.underlying30
 have hu32 := Try.underlying32
 have HB := zA (Below.refl w.heap.size w)
 have H : (if a0_3 = true then ((impl_LessVal.f a2_0 a2_1 a2_2 a1_0 a1_1 a1_2).bind fun t388 => (some t388)) else ((impl_LessVal.f a1_0 a1_1 a1_2 a2_0 a2_1 a2_2).bind fun t389 => (some t389))) = some r := h
 clear h
 by_cases c4 : a0_3 = true
 ·subst c4
  rw [if_pos rfl] at H
  replace H := zI H
  obtain ⟨t388, A5, H⟩ := H
  obtain rfl := Option.some.inj H
  go_enter Try.func34, Try.ntmps34
  go_wp2_with (first | ((with_reducible refine zt 3 ?_); refine zn #[.int .i64 a0_0, .int .i64 a0_1, .bool a0_2, .bool true] 30 ?_; intro gb385 hg w6 hbox hb; have BK385 := zA hbox; have GW385 := zG hg; have GE385 := zG hg; replace HB := zS hb; clear hb hbox hg) | ((with_reducible refine zt 4 ?_); refine zn #[.int .i64 a1_0, .int .i64 a1_1, .string a1_2] 32 ?_; intro gb386 hg w7 hbox hb; have BK386 := zA hbox; have GW386 := zG hg (zb1 GE385); have GE386 := zG hg (zb1 GE385); replace HB := zS hb (zb1 GE385); have NB385_386 := zX BK385 hg; have NB386_385 := zY BK385 hg; replace BK385 := zB BK385 hb; clear hb hbox hg) | ((with_reducible refine zt 5 ?_); refine zn #[.int .i64 a2_0, .int .i64 a2_1, .string a2_2] 32 ?_; intro gb387 hg w8 hbox hb; have BK387 := zA hbox; have GW387 := zG hg (zb2 GE385 GE386); have GE387 := zG hg (zb2 GE385 GE386); replace HB := zS hb (zb2 GE385 GE386); have NB385_387 := zX BK385 hg; have NB387_385 := zY BK385 hg; replace BK385 := zB BK385 hb; have NB386_387 := zX BK386 hg; have NB387_386 := zY BK386 hg; replace BK386 := zB BK386 hb; clear hb hbox hg; have hnb9 := NB385_386.out; have hnc9 := NB386_385.out; have hnb10 := NB385_387.out; have hnc10 := NB387_385.out; obtain ⟨hcz11_0, hcz11_1, hcz11_2, hcz11_3, hfz11_0, hfz11_1, hfz11_2, hfz11_3⟩ := zh4 BK385; have hnb12 := NB387_386.out; have hnc12 := NB386_387.out; obtain ⟨hcz13_0, hcz13_1, hcz13_2, hfz13_0, hfz13_1, hfz13_2⟩ := zh3 BK387; obtain ⟨hcz14_0, hcz14_1, hcz14_2, hfz14_0, hfz14_1, hfz14_2⟩ := zh3 BK386) | ((with_reducible refine zg 84 ?_); refine gL (some 11) Try.func84 #[.agg #[.int .i64 a2_0, .int .i64 a2_1, .string a2_2], .agg #[.int .i64 a1_0, .int .i64 a1_1, .string a1_2]] ?_; (with_reducible refine (impl_LessVal.calls a2_0 a2_1 a2_2 a1_0 a1_1 a1_2 t388 _ A5.out).mono ?_); rintro e w15 ⟨rfl, hb⟩; refine ⟨_, rfl, ?_⟩; replace BK385 := zB BK385 hb; replace BK386 := zB BK386 hb; replace BK387 := zB BK387 hb; replace HB := zS hb zz30; (try clear hb)))
  go_ret
  exact ⟨zw, zz30⟩
 ·replace c4 := Bool.eq_false_iff.mpr c4
  subst c4
  rw [if_neg (Bool.false_ne_true)] at H
  replace H := zI H
  obtain ⟨t389, A16, H⟩ := H
  obtain rfl := Option.some.inj H
  go_enter Try.func34, Try.ntmps34
  go_wp2_with (first | ((with_reducible refine zt 3 ?_); refine zn #[.int .i64 a0_0, .int .i64 a0_1, .bool a0_2, .bool false] 30 ?_; intro gb385 hg w17 hbox hb; have BK385 := zA hbox; have GW385 := zG hg; have GE385 := zG hg; replace HB := zS hb; clear hb hbox hg) | ((with_reducible refine zt 4 ?_); refine zn #[.int .i64 a1_0, .int .i64 a1_1, .string a1_2] 32 ?_; intro gb386 hg w18 hbox hb; have BK386 := zA hbox; have GW386 := zG hg (zb1 GE385); have GE386 := zG hg (zb1 GE385); replace HB := zS hb (zb1 GE385); have NB385_386 := zX BK385 hg; have NB386_385 := zY BK385 hg; replace BK385 := zB BK385 hb; clear hb hbox hg) | ((with_reducible refine zt 5 ?_); refine zn #[.int .i64 a2_0, .int .i64 a2_1, .string a2_2] 32 ?_; intro gb387 hg w19 hbox hb; have BK387 := zA hbox; have GW387 := zG hg (zb2 GE385 GE386); have GE387 := zG hg (zb2 GE385 GE386); replace HB := zS hb (zb2 GE385 GE386); have NB385_387 := zX BK385 hg; have NB387_385 := zY BK385 hg; replace BK385 := zB BK385 hb; have NB386_387 := zX BK386 hg; have NB387_386 := zY BK386 hg; replace BK386 := zB BK386 hb; clear hb hbox hg; have hnb20 := NB385_386.out; have hnc20 := NB386_385.out; have hnb21 := NB385_387.out; have hnc21 := NB387_385.out; obtain ⟨hcz22_0, hcz22_1, hcz22_2, hcz22_3, hfz22_0, hfz22_1, hfz22_2, hfz22_3⟩ := zh4 BK385; have hnb23 := NB386_387.out; have hnc23 := NB387_386.out; obtain ⟨hcz24_0, hcz24_1, hcz24_2, hfz24_0, hfz24_1, hfz24_2⟩ := zh3 BK386; obtain ⟨hcz25_0, hcz25_1, hcz25_2, hfz25_0, hfz25_1, hfz25_2⟩ := zh3 BK387) | ((with_reducible refine zg 84 ?_); refine gL (some 14) Try.func84 #[.agg #[.int .i64 a1_0, .int .i64 a1_1, .string a1_2], .agg #[.int .i64 a2_0, .int .i64 a2_1, .string a2_2]] ?_; (with_reducible refine (impl_LessVal.calls a1_0 a1_1 a1_2 a2_0 a2_1 a2_2 t389 _ A16.out).mono ?_); rintro e w26 ⟨rfl, hb⟩; refine ⟨_, rfl, ?_⟩; replace BK385 := zB BK385 hb; replace BK386 := zB BK386 hb; replace BK387 := zB BK387 hb; replace HB := zS hb zz30; (try clear hb)))
  go_ret
  exact ⟨zw, zz30⟩

end Go.Proofs.Ytnfmpopmigbkoaa.PFnLessKeys

-- Written by mkprint.py, a program of this session (the printer with additions of its own)
import Derived.Test.YtnfmpopmigbkoaaPFnKeysReadx0
import Derived.Test.YtnfmpopmigbkoaaPFnKeysReadx2
import Derived.Test.YtnfmpopmigbkoaaPFnKeysReadx3
import Derived.Test.YtnfmpopmigbkoaaPFnKeysReadx5
namespace Go.Proofs.Ytnfmpopmigbkoaa.PFnKeysRead
open Go.RowKit Go.Proofs.YtnfmpopmigbkoaaW.PrintWords Go.Proofs.YtnfmpopmigbkoaaW.PrintLast Go.Proofs.YtnfmpopmigbkoaaW.PrintMore
attribute [local go_sem] max2_int min2_int max_two min_two max_three min_three max_four min_four   -- for this text's walks alone
set_option linter.unusedVariables false
set_option linter.unusedSimpArgs false

/-! ### impl_EncodeKey: function 41 -/
mutual
def impl_EncodeKey.j0 : Nat → List (S30) → List (S32) → Bool → Option (List Int)
  | 0, _, _, _ => none
  | k + 1, x0, x1, x16 => if x16 = true then (some ([] : List Int)) else (impl_EncodeKey.l0 k x0 ([] : List Int) x1 (x1.length : Int) 0)
def impl_EncodeKey.l0 : Nat → List (S30) → List Int → List (S32) → Int → Int → Option (List Int)
  | 0, _, _, _, _, _ => none
  | k + 1, x0, x5, x17, x18, x19 => if x19 < x18 then (if 0 ≤ x19 then (if x19 < (x17.length : Int) then (if x19 < (x0.length : Int) then ((impl_addPart.f k x5 ((rd_T30 x0 x19).f0) ((rd_T30 x0 x19).f1) ((rd_T30 x0 x19).f2) ((rd_T30 x0 x19).f3) ((rd_T32 x17 x19).f0) ((rd_T32 x17 x19).f1) ((rd_T32 x17 x19).f2)).bind fun t204 => (impl_EncodeKey.l0 k x0 t204 x17 x18 (wrap64 (x19 + 1)))) else (none)) else (none)) else (none)) else (some x5)
end
def impl_EncodeKey.f (k : Nat) (l0 : List (S30)) (l1 : List (S32)) : Option (List Int) := (impl_PlanOk.f k l0).bind fun t199 => (if t199 = true then ((impl_FitsAll.f k l0 l1).bind fun t200 => (impl_EncodeKey.j0 k l0 l1 (!t200))) else (impl_EncodeKey.j0 k l0 l1 true))
def impl_EncodeKey.T7 : Bool × List (List Nat × List Nat) := (true, [([], []), ([], []), ([], []), ([1, 2], [1, 2]), ([3], [3]), ([], []), ([0, 4, 5], [0, 4, 5]), ([6, 6, 0, 1, 2, 3, 4, 5, 6], [0, 6])])
def impl_EncodeKey.B7 : List Nat := [0, 0, 0, 6, 14, 0, 63, 127]
theorem impl_EncodeKey.tab7 : rtab .any (opsOf Try.f41 7) = impl_EncodeKey.T7 := by kernel_rfl
theorem impl_EncodeKey.bits7 : waitsOk impl_EncodeKey.T7.2 impl_EncodeKey.B7 = true := by kernel_rfl
set_option maxHeartbeats 8000000 in
set_option maxRecDepth 100000 in
theorem impl_EncodeKey.calls (k : Nat) (A0 : Option Addr) (c0 : Nat) (l0 : List (S30)) (A1 : Option Addr) (c1 : Nat) (l1 : List (S32)) (r : List Int) (w : World) (hr0 : Kd.C k30 w A0 l0.length l0) (hc0 : l0.length ≤ c0) (hr1 : Kd.C k32 w A1 l1.length l1) (hc1 : l1.length ≤ c1) (h : impl_EncodeKey.f k l0 l1 = some r) :
  Calls Try.prog 41 #[.slice A0 l0.length c0, .slice A1 l1.length c1] w fun e w' => ∃ v0_ : Value, e = .returned (v0_) ∧ Kd.R (Kd.int .u8) 5 w' w.heap.size (fun _ => True) v0_ r ∧ Below w.heap.size w w' := by
 have hu32 := Try.underlying32
 have hu30 := Try.underlying30
 have HR0 := zA hr0
 have HC0 := zA hc0
 clear hr0 hc0
 have HR1 := zA hr1
 have HC1 := zA hc1
 clear hr1 hc1
 have HB := zA (Below.refl w.heap.size w)
 have H : ((impl_PlanOk.f k l0).bind fun t199 => (if t199 = true then ((impl_FitsAll.f k l0 l1).bind fun t200 => (impl_EncodeKey.j0 k l0 l1 (!t200))) else (impl_EncodeKey.j0 k l0 l1 true))) = some r := h
 clear h
 have HC3 := zA H
 clear H
 go_enter Try.func41, Try.ntmps41
 go_upto_region 1 with (fail)
 go_cut [16] (fun v16 wc => ∃ (kq : Nat) (x16_2 : Bool), v16 = .bool x16_2 ∧ Aside0 (impl_EncodeKey.j0 kq l0 l1 x16_2 = some r) ∧ Aside0 (kq ≤ k) ∧ Aside0 (Below w.heap.size w wc))
 case first =>
  have H := HC3.out
  clear HC3
  replace H := zI H
  obtain ⟨t199, A4, H⟩ := H
  by_cases c5 : t199 = true
  ·subst c5
   rw [if_pos rfl] at H
   replace H := zI H
   obtain ⟨t200, A6, H⟩ := H
   have H' := zA H
   clear H
   go_wp2_with (first | ((with_reducible refine zg 51 ?_); refine gL (some 9) Try.func51 #[.slice A0 l0.length c0] ?_; (with_reducible refine (impl_PlanOk.calls k _ _ l0 true _ ?z1 ?z2 A4.out).mono ?_); (case z1 => exact zd HR0); (case z2 => exact HC0.out); rintro e w7 ⟨rfl, hb⟩; refine ⟨_, rfl, ?_⟩; replace HB := zS hb; (try clear hb)) | (go_at_call 52; (with_reducible refine (impl_FitsAll.calls k _ _ l0 _ _ l1 t200 _ ?z1 ?z2 ?z3 ?z4 A6.out).mono ?_); (case z1 => exact zd HR0); (case z2 => exact HC0.out); (case z3 => exact zd HR1); (case z4 => exact HC1.out); rintro e w8 ⟨rfl, hb⟩; replace HB := zS hb; (try clear hb)))
   go_meet
   case rel => exact ⟨_, (!t200), zx, H', ⟨zo⟩, ⟨zb⟩⟩
  ·replace c5 := Bool.eq_false_iff.mpr c5
   subst c5
   rw [if_neg (Bool.false_ne_true)] at H
   have H' := zA H
   clear H
   go_wp2_with (first | ((with_reducible refine zg 51 ?_); refine gL (some 9) Try.func51 #[.slice A0 l0.length c0] ?_; (with_reducible refine (impl_PlanOk.calls k _ _ l0 false _ ?z1 ?z2 A4.out).mono ?_); (case z1 => exact zd HR0); (case z2 => exact HC0.out); rintro e w9 ⟨rfl, hb⟩; refine ⟨_, rfl, ?_⟩; replace HB := zS hb; (try clear hb)))
   go_meet
   case rel => exact ⟨_, (true), zx, H', ⟨zo⟩, ⟨zb⟩⟩
 case rest =>
  clear HC3
  obtain ⟨kq, x16_2, rfl, HA, HJ2, HB⟩ := hcut
  cases kq with
  | zero => exact absurd HA.out (by simp [impl_EncodeKey.j0])
  | succ kj2 =>
   have H := HA.out
   clear HA
   simp only [impl_EncodeKey.j0] at H
   by_cases c10 : x16_2 = true
   ·subst c10
    rw [if_pos rfl] at H
    obtain rfl := Option.some.inj H
    go_wp2
    go_ret
    exact ⟨_, zw, zz52, zb⟩
   ·replace c10 := Bool.eq_false_iff.mpr c10
    subst c10
    rw [if_neg (Bool.false_ne_true)] at H
    have H' := zA H
    clear H
    go_wp2
    go_loopg [5, 19] kj2 (fun kq v5 v19 w' => ∃ (x5_2 : List Int) (x19_2 : Int), v19 = .int .i64 x19_2 ∧ Aside0 (impl_EncodeKey.l0 kq l0 x5_2 l1 (l1.length : Int) x19_2 = some r) ∧ Aside0 (kq ≤ kj2) ∧ Aside0 (Kd.R (Kd.int .u8) 5 w' w.heap.size (fun _ => True) v5 x5_2) ∧ Aside0 (Below w.heap.size w w'))
    case atStart => exact ⟨(([] : List Int)), (0), zx, H', ⟨Nat.le_refl _⟩, ⟨zz52⟩, ⟨zb⟩⟩
    case round =>
     clear H'
     try clear c10
     obtain ⟨x5_2, x19_2, rfl, HA, HK2, HO_5, HB⟩ := hrel
     cases gk with
     | zero => exact absurd HA.out (by simp [impl_EncodeKey.l0])
     | succ k2 =>
      have H := HA.out
      clear HA
      simp only [impl_EncodeKey.l0] at H
      by_cases c11 : x19_2 < (l1.length : Int)
      ·rw [if_pos c11] at H
       have c11b0 : decide (x19_2 < (l1.length : Int)) = true := decide_eq_true c11
       clear c11
       by_cases c12 : 0 ≤ x19_2
       ·rw [if_pos c12] at H
        have c12b0 : decide (0 ≤ x19_2) = true := decide_eq_true c12
        clear c12
        by_cases c13 : x19_2 < (l1.length : Int)
        ·rw [if_pos c13] at H
         have c13b0 : decide (x19_2 < (l1.length : Int)) = true := decide_eq_true c13
         clear c13
         by_cases c14 : x19_2 < (l0.length : Int)
         ·rw [if_pos c14] at H
          have c14b0 : decide (x19_2 < (l0.length : Int)) = true := decide_eq_true c14
          clear c14
          replace H := zI H
          obtain ⟨t204, A15, H⟩ := H
          have H' := zA H
          clear H
          have p201 : 0 ≤ (x19_2 : Int) := of_decide_eq_true za
          have q201 : x19_2 < (l1.length : Int) := of_decide_eq_true za
          obtain ⟨ad201, e201, hx201_0, hx201_1, hx201_2⟩ := at_T32 HR1.out x19_2 p201 q201
          cases e201
          replace hx201_0 := zj hx201_0
          replace hx201_1 := zj hx201_1
          replace hx201_2 := zj hx201_2
          replace p201 := eq_true p201
          replace q201 := eq_true q201
          try go_wp2_with (first | ((with_reducible refine zt 7 ?_); refine zn #[.int .i64 0, .int .i64 0, .string (⟨#[]⟩ : ByteArray)] 32 ?_; intro gb202 hg w16 hbox hb; replace HO_5 := zR HO_5 hb; have BK202 := zA hbox; have GW202 := zG hg; have GE202 := zG hg; replace HB := zS hb; clear hb hbox hg; obtain ⟨hcz17_0, hcz17_1, hcz17_2, hfz17_0, hfz17_1, hfz17_2⟩ := zh3 BK202))
          have n0_ : Aside0 (Kd.R (Kd.int .u8) 5 (((w16.setCell ⟨gb202, 0, none⟩ (.int .i64 ((rd_T32 l1 x19_2).f0))).setCell ⟨gb202, 1, none⟩ (.int .i64 ((rd_T32 l1 x19_2).f1))).setCell ⟨gb202, 2, none⟩ (.string ((rd_T32 l1 x19_2).f2))) w.heap.size (fun _ => True) u5 x5_2) := ⟨by (with_reducible repeat (first | apply Kd.R_alloc | apply Kd.R_drewN | apply Kd.R_drew)); exact Kd.R_mono (Kd.R_far (p := ⟨gb202, 2, none⟩) (Kd.R_far (p := ⟨gb202, 1, none⟩) (Kd.R_far (p := ⟨gb202, 0, none⟩) (Kd.R_types HO_5.out BK202.out (by decide)) (fun _ hk => hk.2) (.int .i64 ((rd_T32 l1 x19_2).f0))) (fun _ hk => hk.2) (.int .i64 ((rd_T32 l1 x19_2).f1))) (fun _ hk => hk.2) (.string ((rd_T32 l1 x19_2).f2))) (fun _ hk => trivial)⟩
          have n1_ : Aside0 ((((w16.setCell ⟨gb202, 0, none⟩ (.int .i64 ((rd_T32 l1 x19_2).f0))).setCell ⟨gb202, 1, none⟩ (.int .i64 ((rd_T32 l1 x19_2).f1))).setCell ⟨gb202, 2, none⟩ (.string ((rd_T32 l1 x19_2).f2))).heap[gb202]? = some (.cells #[.int .i64 ((rd_T32 l1 x19_2).f0), .int .i64 ((rd_T32 l1 x19_2).f1), .string ((rd_T32 l1 x19_2).f2)] 32 (0, 0))) := ⟨by (with_reducible repeat (first | refine blk_drewN ?_ _ | refine blk_drew ?_ | refine blk_alloc ?_ _)); refine blk_put (cs := #[.int .i64 ((rd_T32 l1 x19_2).f0), .int .i64 ((rd_T32 l1 x19_2).f1), .string (⟨#[]⟩ : ByteArray)]) ?_ 2 _ rfl; (with_reducible repeat (first | refine blk_drewN ?_ _ | refine blk_drew ?_ | refine blk_alloc ?_ _)); refine blk_put (cs := #[.int .i64 ((rd_T32 l1 x19_2).f0), .int .i64 0, .string (⟨#[]⟩ : ByteArray)]) ?_ 1 _ rfl; (with_reducible repeat (first | refine blk_drewN ?_ _ | refine blk_drew ?_ | refine blk_alloc ?_ _)); refine blk_put (cs := #[.int .i64 0, .int .i64 0, .string (⟨#[]⟩ : ByteArray)]) ?_ 0 _ rfl; (with_reducible repeat (first | refine blk_drewN ?_ _ | refine blk_drew ?_ | refine blk_alloc ?_ _)); exact BK202.out⟩
          have n2_ : Aside0 (Below w.heap.size w (((w16.setCell ⟨gb202, 0, none⟩ (.int .i64 ((rd_T32 l1 x19_2).f0))).setCell ⟨gb202, 1, none⟩ (.int .i64 ((rd_T32 l1 x19_2).f1))).setCell ⟨gb202, 2, none⟩ (.string ((rd_T32 l1 x19_2).f2)))) := ⟨zb1 GE202⟩
          (try clear HO_5)
          (try clear BK202)
          (try clear HB)
          generalize (((w16.setCell ⟨gb202, 0, none⟩ (.int .i64 ((rd_T32 l1 x19_2).f0))).setCell ⟨gb202, 1, none⟩ (.int .i64 ((rd_T32 l1 x19_2).f1))).setCell ⟨gb202, 2, none⟩ (.string ((rd_T32 l1 x19_2).f2))) = w18 at n0_ n1_ n2_ ⊢
          have HO_5 := n0_; have BK202 := n1_; have HB := n2_
          clear n0_ n1_ n2_
          have n0_ := zA (Kd.R_drew HO_5.out)
          have n1_ := zA (blk_drew BK202.out)
          have n2_ := zA (below_drew1 HB.out)
          clear HO_5 BK202 HB
          have HO_5 := n0_; have BK202 := n1_; have HB := n2_
          clear n0_ n1_ n2_
          have p203 : 0 ≤ (x19_2 : Int) := of_decide_eq_true za
          have q203 : x19_2 < (l0.length : Int) := of_decide_eq_true za
          obtain ⟨ad203, e203, hx203_0, hx203_1, hx203_2, hx203_3⟩ := at_T30 HR0.out x19_2 p203 q203
          have hw203_3 := hx203_3
          have hw203_2 := hx203_2
          have hw203_1 := hx203_1
          have hw203_0 := hx203_0
          cases e203
          replace hx203_0 := zj hx203_0
          replace hx203_1 := zj hx203_1
          replace hx203_2 := zj hx203_2
          replace hx203_3 := zj hx203_3
          replace p203 := eq_true p203
          replace q203 := eq_true q203
          obtain ⟨Ao20, co20, eo20⟩ := Kd.R_slice HO_5.out
          (first | subst eo20 | (injection eo20 with f1_ f2_ f3_; have f4_ := f1_.symm; have f5_ := f3_.symm; clear f1_ f2_ f3_; subst f4_; subst f5_))
          refine start_ (n := 8) (S := fun w' => w'.cell? ⟨gb202, 0, none⟩ = some (.int .i64 ((rd_T32 l1 x19_2).f0)) ∧ w'.cell? ⟨gb202, 1, none⟩ = some (.int .i64 ((rd_T32 l1 x19_2).f1)) ∧ w'.cell? ⟨gb202, 2, none⟩ = some (.string ((rd_T32 l1 x19_2).f2)) ∧ w'.cell? (ad203.add ((x19_2).toNat * 4)) = some (.int .i64 ((rd_T30 l0 x19_2).f0)) ∧ w'.cell? ⟨(ad203.add ((x19_2).toNat * 4)).block, (ad203.add ((x19_2).toNat * 4)).off + 1, none⟩ = some (.int .i64 ((rd_T30 l0 x19_2).f1)) ∧ w'.cell? ⟨(ad203.add ((x19_2).toNat * 4)).block, (ad203.add ((x19_2).toNat * 4)).off + 2, none⟩ = some (.bool ((rd_T30 l0 x19_2).f2)) ∧ w'.cell? ⟨(ad203.add ((x19_2).toNat * 4)).block, (ad203.add ((x19_2).toNat * 4)).off + 3, none⟩ = some (.bool ((rd_T30 l0 x19_2).f3))) (ds := []) #[false, false, false, false, false, false, false, false] (by kernel_rfl) rfl rfl ⟨(blk_cell BK202.out 0).trans rfl, (blk_cell BK202.out 1).trans rfl, (blk_cell BK202.out 2).trans rfl, ((HB.out.cell (World.block_lt_of_cell? w _ hw203_0)).trans hw203_0), ((HB.out.cell (World.block_lt_of_cell? w _ hw203_1)).trans hw203_1), ((HB.out.cell (World.block_lt_of_cell? w _ hw203_2)).trans hw203_2), ((HB.out.cell (World.block_lt_of_cell? w _ hw203_3)).trans hw203_3)⟩ (fun hHeld => ?_); refine with_tabW impl_EncodeKey.tab7 impl_EncodeKey.bits7 (fun HT_ HW_ => ?_)
          generalize w18.drew = w19 at HO_5 BK202 HB hx203_0 hx203_1 hx203_2 hx203_3 hHeld ⊢
          refine pure_ (i := 0) (N := some 24) (v := ?_) (a' := ?_) #[true, false, false, false, false, false, false, false] rfl rfl (any_of HT_.out (by kernel_rfl)) (fun _ _ _ h => h) (Or.inl ⟨by rfl, ?_⟩) ?_ ?_; rotate_left
          ·intro w'; go_simp; with_reducible rfl
          rotate_left
          ·simp only [Act.put, List.setIfInBounds_toArray, List.set_cons_zero, List.set_cons_succ, i64_w, i32_w]; rfl
          refine pure_ (i := 1) (N := some 25) (v := ?_) (a' := ?_) #[true, true, false, false, false, false, false, false] rfl rfl (any_of HT_.out (by kernel_rfl)) (fun _ _ _ h => h) (Or.inl ⟨by rfl, ?_⟩) ?_ ?_; rotate_left
          ·intro w'; go_simp; with_reducible rfl
          rotate_left
          ·simp only [Act.put, List.setIfInBounds_toArray, List.set_cons_zero, List.set_cons_succ, i64_w, i32_w]; rfl
          refine pure_ (i := 2) (N := some 26) (v := ?_) (a' := ?_) #[true, true, true, false, false, false, false, false] rfl rfl (any_of HT_.out (by kernel_rfl)) (fun _ _ _ h => h) (Or.inl ⟨by rfl, ?_⟩) ?_ ?_; rotate_left
          ·intro w'; go_simp; with_reducible rfl
          rotate_left
          ·simp only [Act.put, List.setIfInBounds_toArray, List.set_cons_zero, List.set_cons_succ, i64_w, i32_w]; rfl
          refine pure_ (i := 3) (N := some 27) (v := ?_) (a' := ?_) #[true, true, true, true, false, false, false, false] rfl rfl (any_of HT_.out (by kernel_rfl)) (fun _ _ _ h => h) (Or.inl ⟨by rfl, ?_⟩) ?_ ?_; rotate_left
          ·intro w'; go_simp; with_reducible rfl
          rotate_left
          ·simp only [Act.put, List.setIfInBounds_toArray, List.set_cons_zero, List.set_cons_succ, i64_w, i32_w]; rfl
          refine take_ (i := 4) (N := some 28) (v := ?_) (a' := ?_) #[true, true, true, true, true, false, false, false] rfl rfl (take_ofW HT_.out HW_.out (by kernel_rfl)) (fun _ _ _ h => h) (Or.inl ⟨by rfl, ?_⟩) hHeld ?_ ?_; rotate_left
          ·rintro w' ⟨s0, s1, s2, s3, s4, s5, s6⟩
           go_simp
           with_reducible rfl
          rotate_left
          ·simp only [Act.put, List.setIfInBounds_toArray, List.set_cons_zero, List.set_cons_succ, i64_w, i32_w]; rfl
          refine take_ (i := 5) (N := some 29) (v := ?_) (a' := ?_) #[true, true, true, true, true, true, false, false] rfl rfl (take_ofW HT_.out HW_.out (by kernel_rfl)) (fun _ _ _ h => h) (Or.inl ⟨by rfl, ?_⟩) hHeld ?_ ?_; rotate_left
          ·rintro w' ⟨s0, s1, s2, s3, s4, s5, s6⟩
           go_simp
           with_reducible rfl
          rotate_left
          ·simp only [Act.put, List.setIfInBounds_toArray, List.set_cons_zero, List.set_cons_succ, i64_w, i32_w]; rfl
          refine one_ (i := 6) (N := some 30) #[true, true, true, true, true, true, true, false] rfl rfl (one_of HT_.out (by kernel_rfl)) (by decide) (fun K hK => ?_)
          refine goes_ Try.func69 (by kernel_rfl) rfl #[.slice Ao20 x5_2.length co20, .agg #[.int .i64 ((rd_T30 l0 x19_2).f0), .int .i64 ((rd_T30 l0 x19_2).f1), .bool ((rd_T30 l0 x19_2).f2), .bool ((rd_T30 l0 x19_2).f3)], .agg #[.int .i64 ((rd_T32 l1 x19_2).f0), .int .i64 ((rd_T32 l1 x19_2).f1), .string ((rd_T32 l1 x19_2).f2)]] (by rfl) rfl rfl zz64 ?_
          with_reducible refine (impl_addPart.calls k2 (fun k_ => some k_ = (.slice Ao20 x5_2.length co20 : Value).ownBlock) (.slice Ao20 x5_2.length co20) x5_2 ((rd_T30 l0 x19_2).f0) ((rd_T30 l0 x19_2).f1) ((rd_T30 l0 x19_2).f2) ((rd_T30 l0 x19_2).f3) ((rd_T32 l1 x19_2).f0) ((rd_T32 l1 x19_2).f1) ((rd_T32 l1 x19_2).f2) t204 w _ ?z1 ?z2 A15.out).mono ?_
          (case z1 => exact zb1 GE202)
          (case z2 => exact Kd.R_tight rfl HO_5.out)
          rintro e w21 ⟨v205, rfl, ho0, hb, hkp⟩
          refine ⟨_, rfl, ?_⟩
          have n0_ := zA (blk_kept (zk BK202) hkp (fun hs_ => (fun e_ => (Kd.R_ne HO_5.out BK202.out (by decide)) e_) hs_))
          have n1_ := zA (Kd.R_mono (ok' := fun k_ => True) ho0 (fun k_ hk_ => trivial))
          have n2_ := zA hb
          clear BK202 HB HO_5
          have BK202 := n0_; have HO206 := n1_; have HB := n2_
          clear n0_ n1_ n2_
          (try clear hb)
          (try clear hkp)
          (try clear ho0)
          refine hK.out _ _ ⟨(blk_cell BK202.out 0).trans rfl, (blk_cell BK202.out 1).trans rfl, (blk_cell BK202.out 2).trans rfl, ((HB.out.cell (World.block_lt_of_cell? w _ hw203_0)).trans hw203_0), ((HB.out.cell (World.block_lt_of_cell? w _ hw203_1)).trans hw203_1), ((HB.out.cell (World.block_lt_of_cell? w _ hw203_2)).trans hw203_2), ((HB.out.cell (World.block_lt_of_cell? w _ hw203_3)).trans hw203_3)⟩ (fun hHeld => ?_)
          clear hK K
          refine norm_ (a' := ?_) ?_ ?_; rotate_left
          ·show Act.put _ (some 30) _ = _
           simp only [Act.put, List.setIfInBounds_toArray, List.set_cons_zero, List.set_cons_succ, i64_w, i32_w]
           rfl
          refine pure_ (i := 7) (N := some 5) (v := ?_) (a' := ?_) #[true, true, true, true, true, true, true, true] rfl rfl (any_of HT_.out (by kernel_rfl)) (fun _ _ _ h => h) (Or.inl ⟨by rfl, ?_⟩) ?_ ?_; rotate_left
          ·intro w'; go_simp; with_reducible rfl
          rotate_left
          ·simp only [Act.put, List.setIfInBounds_toArray, List.set_cons_zero, List.set_cons_succ, i64_w, i32_w]; rfl
          refine done_ (done_of HT_.out (by kernel_rfl)) ?_
          try go_wp2
          go_roundg k2
          case measure => have := HJ2.out; have := HK2.out; omega
          case rel => exact ⟨(t204), (wrap64 (x19_2 + 1)), zx, H', ⟨by have := HJ2.out; have := HK2.out; omega⟩, ⟨zr HO206⟩, ⟨zb1 GE202⟩⟩
         ·rw [if_neg c14] at H
          exact absurd H (by simp)
        ·rw [if_neg c13] at H
         exact absurd H (by simp)
       ·rw [if_neg c12] at H
        exact absurd H (by simp)
      ·rw [if_neg c11] at H
       have c11b0 : decide (x19_2 < (l1.length : Int)) = false := decide_eq_false c11
       clear c11
       obtain rfl := Option.some.inj H
       go_wp2
       go_ret
       exact ⟨_, zw, zr HO_5, zb⟩

/-! ### spec_l1In: function 79 -/
def spec_l1In.f (a0 : Int) (a1 : Int) (a2 : Int) : Option (Bool) := if a0 ≥ a1 then (some (decide (a0 ≤ a2))) else (some false)
set_option maxHeartbeats 8000000 in
set_option maxRecDepth 100000 in
theorem spec_l1In.calls (a0 : Int) (a1 : Int) (a2 : Int) (r : Bool) (w : World) (h : spec_l1In.f a0 a1 a2 = some r) :
  Calls Try.prog 79 #[.int .i64 a0, .int .i64 a1, .int .i64 a2] w fun e w' => e = .returned (.bool r) ∧ Drawn0 w w' := by
 have H : (if a0 ≥ a1 then (some (decide (a0 ≤ a2))) else (some false)) = some r := h
 clear h
 by_cases c4 : a0 ≥ a1
 ·rw [if_pos c4] at H
  have c4b0 : decide (a1 ≤ a0) = true := decide_eq_true c4
  clear c4
  obtain rfl := Option.some.inj H
  go_enter Try.func79, Try.ntmps79
  go_wp2
  go_ret
  exact ⟨zx, zz21⟩
 ·rw [if_neg c4] at H
  have c4b0 : decide (a1 ≤ a0) = false := decide_eq_false c4
  clear c4
  obtain rfl := Option.some.inj H
  go_enter Try.func79, Try.ntmps79
  go_wp2
  go_ret
  exact ⟨zx, zz21⟩

/-! ### spec_PartOk: function 27 -/
def spec_PartOk.f (a0_0 : Int) (a0_1 : Int) (a0_2 : Bool) (a0_3 : Bool) : Option (Bool) := (spec_l1In.f a0_0 0 9).bind fun t208 => (if t208 = true then ((spec_l1In.f a0_1 1 4).bind fun t209 => (some t209)) else (some false))
set_option maxHeartbeats 8000000 in
set_option maxRecDepth 100000 in
theorem spec_PartOk.calls (a0_0 : Int) (a0_1 : Int) (a0_2 : Bool) (a0_3 : Bool) (r : Bool) (w : World) (h : spec_PartOk.f a0_0 a0_1 a0_2 a0_3 = some r) :
  Calls Try.prog 27 #[.agg #[.int .i64 a0_0, .int .i64 a0_1, .bool a0_2, .bool a0_3]] w fun e w' => e = .returned (.bool r) ∧ Below w.heap.size w w' := by
 have hu30 := Try.underlying30
 have HB := zA (Below.refl w.heap.size w)
 have H : ((spec_l1In.f a0_0 0 9).bind fun t208 => (if t208 = true then ((spec_l1In.f a0_1 1 4).bind fun t209 => (some t209)) else (some false))) = some r := h
 clear h
 replace H := zI H
 obtain ⟨t208, A2, H⟩ := H
 by_cases c3 : t208 = true
 ·subst c3
  rw [if_pos rfl] at H
  replace H := zI H
  obtain ⟨t209, A4, H⟩ := H
  obtain rfl := Option.some.inj H
  go_enter Try.func27, Try.ntmps27
  go_wp2_with (first | ((with_reducible refine zt 1 ?_); refine zn #[.int .i64 a0_0, .int .i64 a0_1, .bool a0_2, .bool a0_3] 30 ?_; intro gb207 hg w5 hbox hb; have BK207 := zA hbox; have GW207 := zG hg; have GE207 := zG hg; replace HB := zS hb; clear hb hbox hg; obtain ⟨hcz6_0, hcz6_1, hcz6_2, hcz6_3, hfz6_0, hfz6_1, hfz6_2, hfz6_3⟩ := zh4 BK207) | ((with_reducible refine zg 79 ?_); refine gL (some 5) Try.func79 #[.int .i64 a0_0, .int .i64 0, .int .i64 9] ?_; (with_reducible refine (spec_l1In.calls a0_0 0 9 true _ A2.out).mono ?_); rintro e w' ⟨rfl, ⟨nd, rfl⟩⟩; refine ⟨_, rfl, ?_⟩) | (go_at_call 79; (with_reducible refine (spec_l1In.calls a0_1 1 4 t209 _ A4.out).mono ?_); rintro e w' ⟨rfl, ⟨nd, rfl⟩⟩))
  go_ret
  exact ⟨zw, zb1 GE207⟩
 ·replace c3 := Bool.eq_false_iff.mpr c3
  subst c3
  rw [if_neg (Bool.false_ne_true)] at H
  obtain rfl := Option.some.inj H
  go_enter Try.func27, Try.ntmps27
  go_wp2_with (first | ((with_reducible refine zt 1 ?_); refine zn #[.int .i64 a0_0, .int .i64 a0_1, .bool a0_2, .bool a0_3] 30 ?_; intro gb207 hg w7 hbox hb; have BK207 := zA hbox; have GW207 := zG hg; have GE207 := zG hg; replace HB := zS hb; clear hb hbox hg; obtain ⟨hcz8_0, hcz8_1, hcz8_2, hcz8_3, hfz8_0, hfz8_1, hfz8_2, hfz8_3⟩ := zh4 BK207) | ((with_reducible refine zg 79 ?_); refine gL (some 5) Try.func79 #[.int .i64 a0_0, .int .i64 0, .int .i64 9] ?_; (with_reducible refine (spec_l1In.calls a0_0 0 9 false _ A2.out).mono ?_); rintro e w' ⟨rfl, ⟨nd, rfl⟩⟩; refine ⟨_, rfl, ?_⟩))
  go_ret
  exact ⟨zw, zb1 GE207⟩

/-! ### spec_Flip: function 68 -/
def spec_Flip.l0 : Nat → Int → List Int → Int → Option (List Int)
  | 0, _, _, _ => none
  | k + 1, x1, x5, x6 => if x6 < (x5.length : Int) then (if x6 ≥ x1 then (if 0 ≤ x6 then (spec_Flip.l0 k x1 (x5.set (x6 : Int).toNat (Go.bits .xor .u8 255 (rd x5 x6))) (wrap64 (x6 + 1))) else (none)) else (spec_Flip.l0 k x1 x5 (wrap64 (x6 + 1)))) else (some x5)
def spec_Flip.f (k : Nat) (l0 : List Int) (a1 : Int) : Option (List Int) := (some (([] : List Int) : List Int)).bind fun y210 => (if y210.length + l0.length < 140737488355328 then (spec_Flip.l0 k a1 (y210 ++ l0) 0) else (none))
set_option maxHeartbeats 8000000 in
set_option maxRecDepth 100000 in
theorem spec_Flip.calls (k : Nat) (A0 : Option Addr) (c0 : Nat) (l0 : List Int) (a1 : Int) (r : List Int) (w : World) (hr0 : Kd.C (Kd.int .u8) w A0 l0.length l0) (hc0 : l0.length ≤ c0) (h : spec_Flip.f k l0 a1 = some r) :
  Calls Try.prog 68 #[.slice A0 l0.length c0, .int .i64 a1] w fun e w' => ∃ v0_ : Value, e = .returned (v0_) ∧ Kd.R (Kd.int .u8) 5 w' w.heap.size (fun _ => True) v0_ r ∧ Below w.heap.size w w' := by
 have HR0 := zA hr0
 have HC0 := zA hc0
 clear hr0 hc0
 have HB := zA (Below.refl w.heap.size w)
 have H : ((some (([] : List Int) : List Int)).bind fun y210 => (if y210.length + l0.length < 140737488355328 then (spec_Flip.l0 k a1 (y210 ++ l0) 0) else (none))) = some r := h
 clear h
 obtain ⟨y210, hy210⟩ : ∃ y_ : List Int, y_ = (([] : List Int)) := ⟨_, rfl⟩
 replace H : (if y210.length + l0.length < 140737488355328 then (spec_Flip.l0 k a1 (y210 ++ l0) 0) else (none)) = some r := zy hy210
 have Ny210 := zA hy210
 clear hy210
 by_cases c3 : y210.length + l0.length < 140737488355328
 ·rw [if_pos c3] at H
  have LMc3 := zA c3
  clear c3
  obtain ⟨y213, hy213⟩ : ∃ y_ : List Int, y_ = (y210 ++ l0) := ⟨_, rfl⟩
  replace H : (spec_Flip.l0 k a1 y213 0) = some r := zy hy213
  have Ny213 := zA hy213
  clear hy213
  have H' := zA H
  clear H
  go_enter Try.func68, Try.ntmps68
  go_wp2_with (first | ((with_reducible refine zt 7 ?_); refine Kd.R_lit (Kd.int .u8) _ 5 ?hg (N := 7) ?hd (xs := ([] : List Int)) (inner := []) (ok := fun _ => True) (okp := fun _ => True) ?hr ?hp (fun _ hk => hk) trivial (Below.refl _ _) (Nat.le_refl _) (by simp) ?_; (case hd => rfl); (case hg => rfl); (case hr => exact zz16); (case hp => exact (Reps.none _ _)); intro v211 w4 ho5 hb hg_ hnew_; clear hg_ hnew_; (first | rw [← Ny210.out] at ho5 | (simp only [Int.reduceToNat] at ho5; rw [← Ny210.out] at ho5)); have HO212 := zL ho5; replace HB := zS hb; clear hb ho5) | ((with_reducible refine gate_builtin (b := .append) (xs := #[.tmp 7, .tmp 8]) rfl ?_); at_builtin; refine Kd.R_append_rows (Kd.int .u8) (w0 := w) w.heap.size rfl (.tmp 7) (.tmp 8) 22 5 (.int .u8 0) 1 rfl Try.underlying22 info5 rfl (by decide) (by omega) v211 y210 l0 _ _ _ (fun _ => True) (fun _ => False) rfl rfl ?aO ?aR (fun _ _ h => h) (fun _ h => h.elim) ?aF ?aB ?aS ?aL ?_; (case aR => exact zd HR0); (case aB => exact zb); (case aF => exact (fun _ _ => trivial)); (case aO => exact (zr HO212)); (case aS => exact (below_size zb)); (case aL => have := LMc3.out; omega); intro v214 w6 ho hb hg hat; rw [← Ny213.out] at ho; replace HB := zA hb; have HO215 := zA ho; clear HO212 ho hb hg hat))
  go_loopg [6] k (fun kq v6 w' => ∃ (x5_1 : List Int) (x6_1 : Int), v6 = .int .i64 x6_1 ∧ Aside0 (spec_Flip.l0 kq a1 x5_1 x6_1 = some r) ∧ Aside0 (kq ≤ k) ∧ Aside0 (Kd.R (Kd.int .u8) 5 w' w.heap.size (fun _ => True) v214 x5_1) ∧ Aside0 (Below w.heap.size w w'))
  case atStart => exact ⟨(y213), (0), zx, H', ⟨Nat.le_refl _⟩, ⟨zr HO215⟩, ⟨zb⟩⟩
  case round =>
   clear H'
   try clear c3
   obtain ⟨x5_1, x6_1, rfl, HA, HK1, HO_5, HB⟩ := hrel
   cases gk with
   | zero => exact absurd HA.out (by simp [spec_Flip.l0])
   | succ k1 =>
    have H := HA.out
    clear HA
    simp only [spec_Flip.l0] at H
    by_cases c7 : x6_1 < (x5_1.length : Int)
    ·rw [if_pos c7] at H
     have c7b0 : decide (x6_1 < (x5_1.length : Int)) = true := decide_eq_true c7
     clear c7
     by_cases c8 : x6_1 ≥ a1
     ·rw [if_pos c8] at H
      have c8b0 : decide (a1 ≤ x6_1) = true := decide_eq_true c8
      clear c8
      by_cases c9 : 0 ≤ x6_1
      ·rw [if_pos c9] at H
       have c9b0 : decide (0 ≤ x6_1) = true := decide_eq_true c9
       clear c9
       obtain ⟨y217, hy217⟩ : ∃ y_ : List Int, y_ = (x5_1.set (x6_1 : Int).toNat (Go.bits .xor .u8 255 (rd x5_1 x6_1))) := ⟨_, rfl⟩
       replace H : (spec_Flip.l0 k1 a1 y217 (wrap64 (x6_1 + 1))) = some r := zy hy217
       have Ny217 := zA hy217
       clear hy217
       have H' := zA H
       clear H
       obtain ⟨Ao11, co11, eo11⟩ := Kd.R_slice HO_5.out
       subst eo11
       have p216 : 0 ≤ (x6_1 : Int) := of_decide_eq_true za
       have q216 : x6_1 < (x5_1.length : Int) := of_decide_eq_true za
       obtain ⟨ad216, e216, hx216_0⟩ := Kd.at_int (Kd.R_reads' HO_5.out).2.2 x6_1 p216 q216
       cases e216
       replace p216 := eq_true p216
       replace q216 := eq_true q216
       have p10 : 0 ≤ (x6_1 : Int) := of_decide_eq_true za
       have q10 : (x6_1 : Int) < ((x5_1.length : Int) : Int) := of_decide_eq_true za
       obtain ⟨go10, co10, eo10, gb10, gl10, cl10, HG10⟩ := Kd.R_form HO_5.out (by omega)
       (first | cases eo10 | (injection eo10 with ea_ en_ ec_; (first | subst ea_ | (injection ea_ with ea_; subst ea_)); subst ec_; clear en_))
       have GB10 := zA gb10
       have GG10 := zA HG10
       clear gb10 gl10 HG10
       (first | simp only [add_plain] at hx216_0 | skip)
       obtain ⟨hx10_0, hf10_0⟩ := Kd.R_celln 0 HO_5.out (x6_1 : Int) p10 q10
       replace p10 := eq_true p10
       replace q10 := eq_true q10
       have HP12 := Kd.R_putg HO_5.out (x6_1 : Int) (Go.bits .xor .u8 255 (rd x5_1 x6_1))
       go_wp2_with (first | ((with_reducible refine gate_store (t := 5) (p := 26) rfl ?_); refine store_event (t := 5) (p := 26) (v := ?vo_w13) (w1 := (wr.setCell ⟨go10, (x6_1 : Int).toNat, none⟩ (.int .u8 (Go.bits .xor .u8 255 (rd x5_1 x6_1))))) ?hg ?ho ?hn ?hr ?_; (case ho => rfl); (case hg => rfl); (case hn => rfl); (case hr => exact zz16); intro w13 hw; have hg : wr.grownBy w13 (some go10) := (by rw [hw]; exact HP12.2); have hp_ : Kd.R (Kd.int .u8) 5 w13 w.heap.size (fun _ => True) (.slice (some ⟨go10, 0, none⟩) x5_1.length co11) y217 := (by rw [hw, Ny217.out]; exact HP12.1); clear HP12; replace HO_5 := zA hp_; replace HB := zA ((by rw [hw]; exact below_set (HB.out) GB10.out : Below w.heap.size w w13)); clear hg hw hp_))
       go_roundg k1
       case measure => have := HK1.out; omega
       case rel => exact ⟨(y217), (wrap64 (x6_1 + 1)), zx, H', ⟨zz79⟩, ⟨zr HO_5⟩, ⟨zb⟩⟩
      ·rw [if_neg c9] at H
       exact absurd H (by simp)
     ·rw [if_neg c8] at H
      have c8b0 : decide (a1 ≤ x6_1) = false := decide_eq_false c8
      clear c8
      have H' := zA H
      clear H
      obtain ⟨Ao14, co14, eo14⟩ := Kd.R_slice HO_5.out
      subst eo14
      go_wp2
      go_roundg k1
      case measure => have := HK1.out; omega
      case rel => exact ⟨(x5_1), (wrap64 (x6_1 + 1)), zx, H', ⟨zz79⟩, ⟨zr HO_5⟩, ⟨zb⟩⟩
    ·rw [if_neg c7] at H
     have c7b0 : decide (x6_1 < (x5_1.length : Int)) = false := decide_eq_false c7
     clear c7
     obtain rfl := Option.some.inj H
     obtain ⟨Ao15, co15, eo15⟩ := Kd.R_slice HO_5.out
     subst eo15
     go_wp2
     go_ret
     exact ⟨_, zw, zr HO_5, zb⟩
 ·rw [if_neg c3] at H
  exact absurd H (by simp)

/-! ### spec_l4Read: function 119 -/
mutual
def spec_l4Read.j0 : Nat → List Int → Int → Int → Bool → Int → Bool → Option (Int × Bool)
  | 0, _, _, _, _, _, _ => none
  | k + 1, x0, x1, x2, x3, x10, x28 => if x28 = true then (some (0, false)) else (spec_l4Read.l0 k x0 x1 x2 x3 x10 0)
def spec_l4Read.l0 : Nat → List Int → Int → Int → Bool → Int → Int → Option (Int × Bool)
  | 0, _, _, _, _, _, _ => none
  | k + 1, x0, x1, x2, x3, x10, x11 => if x11 < x2 then (if 0 ≤ (wrap64 (x1 + x11)) then (if (wrap64 (x1 + x11)) < (x0.length : Int) then (if x3 = true then (spec_l4Read.l0 k x0 x1 x2 x3 (Go.bits .or .i64 (wrap64 (x10 * 256)) (wrap64 (Go.bits .xor .u8 255 (rd x0 (wrap64 (x1 + x11)))))) (wrap64 (x11 + 1))) else (spec_l4Read.l0 k x0 x1 x2 x3 (Go.bits .or .i64 (wrap64 (x10 * 256)) (wrap64 (rd x0 (wrap64 (x1 + x11))))) (wrap64 (x11 + 1)))) else (none)) else (none)) else (some (x10, true))
end
def spec_l4Read.f (k : Nat) (l0 : List Int) (a1 : Int) (a2 : Int) (a3 : Bool) : Option (Int × Bool) := if a1 < 0 then (spec_l4Read.j0 k l0 a1 a2 a3 0 true) else (if a1 > (l0.length : Int) then (spec_l4Read.j0 k l0 a1 a2 a3 0 true) else (spec_l4Read.j0 k l0 a1 a2 a3 0 (decide (a2 > (wrap64 ((l0.length : Int) - a1))))))
set_option maxHeartbeats 8000000 in
set_option maxRecDepth 100000 in
theorem spec_l4Read.calls (k : Nat) (A0 : Option Addr) (c0 : Nat) (l0 : List Int) (a1 : Int) (a2 : Int) (a3 : Bool) (r1 : Int) (r2 : Bool) (w : World) (hr0 : Kd.C (Kd.int .u8) w A0 l0.length l0) (hc0 : l0.length ≤ c0) (h : spec_l4Read.f k l0 a1 a2 a3 = some (r1, r2)) :
  Calls Try.prog 119 #[.slice A0 l0.length c0, .int .i64 a1, .int .i64 a2, .bool a3] w fun e w' => e = .returned (.tuple #[.int .i64 r1, .bool r2]) ∧ Drawn0 w w' := by
 have HR0 := zA hr0
 have HC0 := zA hc0
 clear hr0 hc0
 have H : (if a1 < 0 then (spec_l4Read.j0 k l0 a1 a2 a3 0 true) else (if a1 > (l0.length : Int) then (spec_l4Read.j0 k l0 a1 a2 a3 0 true) else (spec_l4Read.j0 k l0 a1 a2 a3 0 (decide (a2 > (wrap64 ((l0.length : Int) - a1))))))) = some (r1, r2) := h
 clear h
 have HC5 := zA H
 clear H
 go_enter Try.func119, Try.ntmps119
 go_upto_region 2 with (fail)
 go_cut [28] (fun v28 wc => ∃ (kq : Nat) (x28_4 : Bool), v28 = .bool x28_4 ∧ Aside0 (spec_l4Read.j0 kq l0 a1 a2 a3 0 x28_4 = some (r1, r2)) ∧ Aside0 (kq ≤ k) ∧ Drawn0 w wc)
 case first =>
  have H := HC5.out
  clear HC5
  by_cases c6 : a1 < 0
  ·rw [if_pos c6] at H
   have c6b0 : decide (a1 < 0) = true := decide_eq_true c6
   clear c6
   (first | rw [c6b0] | (simp only [i64_w, i32_w]; rw [c6b0]) | skip)
   have H' := zA H
   clear H
   go_wp2
   go_meet
   case rel => exact ⟨_, (true), zx, H', ⟨zo⟩, zz21⟩
  ·rw [if_neg c6] at H
   have c6b0 : decide (a1 < 0) = false := decide_eq_false c6
   clear c6
   (first | rw [c6b0] | (simp only [i64_w, i32_w]; rw [c6b0]) | skip)
   by_cases c7 : a1 > (l0.length : Int)
   ·rw [if_pos c7] at H
    have c7b0 : decide ((l0.length : Int) < a1) = true := decide_eq_true c7
    clear c7
    have H' := zA H
    clear H
    go_wp2
    go_meet
    case rel => exact ⟨_, (true), zx, H', ⟨zo⟩, zz21⟩
   ·rw [if_neg c7] at H
    have c7b0 : decide ((l0.length : Int) < a1) = false := decide_eq_false c7
    clear c7
    have H' := zA H
    clear H
    go_wp2
    go_meet
    case rel => exact ⟨_, (decide (a2 > (wrap64 ((l0.length : Int) - a1)))), zx, H', ⟨zo⟩, zz21⟩
 case rest =>
  clear HC5
  obtain ⟨kq, x28_4, rfl, HA, HJ4, ⟨mc4, rfl⟩⟩ := hcut
  cases kq with
  | zero => exact absurd HA.out (by simp [spec_l4Read.j0])
  | succ kj4 =>
   have H := HA.out
   clear HA
   simp only [spec_l4Read.j0] at H
   by_cases c8 : x28_4 = true
   ·subst c8
    rw [if_pos rfl] at H
    simp only [Option.some.injEq, Prod.mk.injEq] at H
    obtain ⟨rfl, rfl⟩ := H
    go_wp2
    go_ret2
    exact ⟨zx, zz21⟩
   ·replace c8 := Bool.eq_false_iff.mpr c8
    subst c8
    rw [if_neg (Bool.false_ne_true)] at H
    have H' := zA H
    clear H
    go_wp2
    go_loopg [10, 11] kj4 (fun kq v10 v11 w' => ∃ (x10_2 : Int) (x11_2 : Int), v10 = .int .i64 x10_2 ∧ v11 = .int .i64 x11_2 ∧ Aside0 (spec_l4Read.l0 kq l0 a1 a2 a3 x10_2 x11_2 = some (r1, r2)) ∧ Aside0 (kq ≤ kj4) ∧ Drawn0 w w')
    case atStart => exact ⟨(0), (0), zx, zx, H', ⟨Nat.le_refl _⟩, zz21⟩
    case round =>
     clear H'
     try clear c8
     obtain ⟨x10_2, x11_2, rfl, rfl, HA, HK2, ⟨m2, rfl⟩⟩ := hrel
     cases gk with
     | zero => exact absurd HA.out (by simp [spec_l4Read.l0])
     | succ k2 =>
      have H := HA.out
      clear HA
      simp only [spec_l4Read.l0] at H
      by_cases c9 : x11_2 < a2
      ·rw [if_pos c9] at H
       have c9b0 : decide (x11_2 < a2) = true := decide_eq_true c9
       clear c9
       obtain ⟨ji10, hji10⟩ : ∃ j_ : Int, (wrap64 (a1 + x11_2)) = j_ := ⟨_, rfl⟩
       replace H : (if 0 ≤ (ji10) then (if (ji10) < (l0.length : Int) then (if a3 = true then (spec_l4Read.l0 k2 l0 a1 a2 a3 (Go.bits .or .i64 (wrap64 (x10_2 * 256)) (wrap64 (Go.bits .xor .u8 255 (rd l0 (ji10))))) (wrap64 (x11_2 + 1))) else (spec_l4Read.l0 k2 l0 a1 a2 a3 (Go.bits .or .i64 (wrap64 (x10_2 * 256)) (wrap64 (rd l0 (ji10)))) (wrap64 (x11_2 + 1)))) else (none)) else (none)) = some (r1, r2) := by first | (rw [hji10] at H; exact H) | (simp only [hji10] at H ⊢; exact H)
       have hji10w : (IntKind.i64.wrap (a1 + x11_2)) = ji10 := (i64_w _).trans hji10
       by_cases c11 : 0 ≤ (ji10)
       ·rw [if_pos c11] at H
        have c11b0 : decide (0 ≤ (ji10)) = true := decide_eq_true c11
        clear c11
        by_cases c12 : (ji10) < (l0.length : Int)
        ·rw [if_pos c12] at H
         have c12b0 : decide ((ji10) < (l0.length : Int)) = true := decide_eq_true c12
         clear c12
         by_cases c13 : a3 = true
         ·subst c13
          rw [if_pos rfl] at H
          have H' := zA H
          clear H
          have p218 : 0 ≤ ((ji10) : Int) := of_decide_eq_true za
          have q218 : (ji10) < (l0.length : Int) := of_decide_eq_true za
          obtain ⟨ad218, e218, hx218_0⟩ := Kd.at_int HR0.out (ji10) p218 q218
          cases e218
          replace p218 := eq_true p218
          replace q218 := eq_true q218
          go_wp2
          go_roundg k2
          case measure => have := HJ4.out; have := HK2.out; omega
          case rel => exact ⟨(Go.bits .or .i64 (wrap64 (x10_2 * 256)) (wrap64 (Go.bits .xor .u8 255 (rd l0 (ji10))))), (wrap64 (x11_2 + 1)), zz88, zx, H', ⟨zz94⟩, zz21⟩
         ·replace c13 := Bool.eq_false_iff.mpr c13
          subst c13
          rw [if_neg (Bool.false_ne_true)] at H
          have H' := zA H
          clear H
          have p218 : 0 ≤ ((ji10) : Int) := of_decide_eq_true za
          have q218 : (ji10) < (l0.length : Int) := of_decide_eq_true za
          obtain ⟨ad218, e218, hx218_0⟩ := Kd.at_int HR0.out (ji10) p218 q218
          cases e218
          replace p218 := eq_true p218
          replace q218 := eq_true q218
          go_wp2
          go_roundg k2
          case measure => have := HJ4.out; have := HK2.out; omega
          case rel => exact ⟨(Go.bits .or .i64 (wrap64 (x10_2 * 256)) (wrap64 (rd l0 (ji10)))), (wrap64 (x11_2 + 1)), zz88, zx, H', ⟨zz94⟩, zz21⟩
        ·rw [if_neg c12] at H
         exact absurd H (by simp)
       ·rw [if_neg c11] at H
        exact absurd H (by simp)
      ·rw [if_neg c9] at H
       have c9b0 : decide (x11_2 < a2) = false := decide_eq_false c9
       clear c9
       simp only [Option.some.injEq, Prod.mk.injEq] at H
       obtain ⟨rfl, rfl⟩ := H
       go_wp2
       go_ret2
       exact ⟨zx, zz21⟩

/-! ### spec_GetFix: function 100 -/
def spec_GetFix.f (k : Nat) (l0 : List Int) (a1 : Int) : Option (Int × Int × Bool) := (spec_l4Read.f k l0 a1 4 false).bind fun bt219 => (if bt219.2 = true then (some (wrap64 (bt219.1 - 2147483648), wrap64 (a1 + 4), true)) else (some (0, 0, false)))
set_option maxHeartbeats 8000000 in
set_option maxRecDepth 100000 in
theorem spec_GetFix.calls (k : Nat) (A0 : Option Addr) (c0 : Nat) (l0 : List Int) (a1 : Int) (r1 : Int) (r2 : Int) (r3 : Bool) (w : World) (hr0 : Kd.C (Kd.int .u8) w A0 l0.length l0) (hc0 : l0.length ≤ c0) (h : spec_GetFix.f k l0 a1 = some (r1, r2, r3)) :
  Calls Try.prog 100 #[.slice A0 l0.length c0, .int .i64 a1] w fun e w' => e = .returned (.tuple #[.int .i64 r1, .int .i64 r2, .bool r3]) ∧ Drawn0 w w' := by
 have HR0 := zA hr0
 have HC0 := zA hc0
 clear hr0 hc0
 have H : ((spec_l4Read.f k l0 a1 4 false).bind fun bt219 => (if bt219.2 = true then (some (wrap64 (bt219.1 - 2147483648), wrap64 (a1 + 4), true)) else (some (0, 0, false)))) = some (r1, r2, r3) := h
 clear h
 replace H := zI H
 obtain ⟨⟨t219, t220⟩, A3, H⟩ := H
 try dsimp only at H
 by_cases c4 : t220 = true
 ·subst c4
  rw [if_pos rfl] at H
  simp only [Option.some.injEq, Prod.mk.injEq] at H
  obtain ⟨rfl, rfl, rfl⟩ := H
  go_enter Try.func100, Try.ntmps100
  go_wp2_with (first | ((with_reducible refine zg 119 ?_); refine gL (some 12) Try.func119 #[.slice A0 l0.length c0, .int .i64 a1, .int .i64 4, .bool false] ?_; (with_reducible refine (spec_l4Read.calls k _ _ l0 a1 4 false t219 true _ ?z1 ?z2 A3.out).mono ?_); (case z1 => exact zc HR0.out); (case z2 => exact HC0.out); rintro e w' ⟨rfl, ⟨nd, rfl⟩⟩; refine ⟨_, rfl, ?_⟩))
  go_ret3
  exact ⟨zx, zz21⟩
 ·replace c4 := Bool.eq_false_iff.mpr c4
  subst c4
  rw [if_neg (Bool.false_ne_true)] at H
  simp only [Option.some.injEq, Prod.mk.injEq] at H
  obtain ⟨rfl, rfl, rfl⟩ := H
  go_enter Try.func100, Try.ntmps100
  go_wp2_with (first | ((with_reducible refine zg 119 ?_); refine gL (some 12) Try.func119 #[.slice A0 l0.length c0, .int .i64 a1, .int .i64 4, .bool false] ?_; (with_reducible refine (spec_l4Read.calls k _ _ l0 a1 4 false t219 false _ ?z1 ?z2 A3.out).mono ?_); (case z1 => exact zc HR0.out); (case z2 => exact HC0.out); rintro e w' ⟨rfl, ⟨nd, rfl⟩⟩; refine ⟨_, rfl, ?_⟩))
  go_ret3
  exact ⟨zx, zz21⟩

end Go.Proofs.Ytnfmpopmigbkoaa.PFnKeysRead

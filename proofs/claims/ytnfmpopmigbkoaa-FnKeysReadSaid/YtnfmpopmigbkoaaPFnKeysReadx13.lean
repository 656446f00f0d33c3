-- Written by mkprint.py, a program of this session (the printer with additions of its own)
import Derived.Test.YtnfmpopmigbkoaaPFnKeysReadx0
import Derived.Test.YtnfmpopmigbkoaaPFnKeysReadx2
import Derived.Test.YtnfmpopmigbkoaaPFnKeysReadx8
import Derived.Test.YtnfmpopmigbkoaaPFnKeysReadx12
namespace Go.Proofs.Ytnfmpopmigbkoaa.PFnKeysRead
open Go.RowKit Go.Proofs.YtnfmpopmigbkoaaW.PrintWords Go.Proofs.YtnfmpopmigbkoaaW.PrintLast Go.Proofs.YtnfmpopmigbkoaaW.PrintMore
attribute [local go_sem] max2_int min2_int max_two min_two max_three min_three max_four min_four   -- for this text's walks alone
set_option linter.unusedVariables false
set_option linter.unusedSimpArgs false

/-! ### impl_DecodeKey: function 47 -/
def impl_DecodeKey.l0 : Nat → List Int → List (S32) → Int → List (S30) → Int → Int → Option ((List (S32)) × Bool)
  | 0, _, _, _, _, _, _ => none
  | k + 1, x1, x6, x7, x16, x17, x18 => if x18 < x17 then (if 0 ≤ x18 then (if x18 < (x16.length : Int) then ((impl_GetPart.f k x1 ((rd_T30 x16 x18).f0) ((rd_T30 x16 x18).f1) ((rd_T30 x16 x18).f2) ((rd_T30 x16 x18).f3) x7).bind fun bt423 => (if bt423.2.2.2.2 = true then (if x6.length < 4398046511104 then (impl_DecodeKey.l0 k x1 (x6 ++ [(⟨bt423.1, bt423.2.1, bt423.2.2.1⟩ : S32)]) bt423.2.2.2.1 x16 x17 (wrap64 (x18 + 1))) else (none)) else (some (([] : List (S32)), false)))) else (none)) else (none)) else (if x7 = (x1.length : Int) then (some (x6, true)) else (some (([] : List (S32)), false)))
def impl_DecodeKey.f (k : Nat) (l0 : List (S30)) (l1 : List Int) : Option ((List (S32)) × Bool) := (impl_PlanOk.f k l0).bind fun t420 => (if t420 = true then (impl_DecodeKey.l0 k l1 ([] : List (S32)) 0 l0 (l0.length : Int) 0) else (some (([] : List (S32)), false)))
set_option maxHeartbeats 8000000 in
set_option maxRecDepth 100000 in
theorem impl_DecodeKey.calls (k : Nat) (A0 : Option Addr) (c0 : Nat) (l0 : List (S30)) (A1 : Option Addr) (c1 : Nat) (l1 : List Int) (r1 : List (S32)) (r2 : Bool) (w : World) (hr0 : Kd.C k30 w A0 l0.length l0) (hc0 : l0.length ≤ c0) (hr1 : Kd.C (Kd.int .u8) w A1 l1.length l1) (hc1 : l1.length ≤ c1) (h : impl_DecodeKey.f k l0 l1 = some (r1, r2)) :
  Calls Try.prog 47 #[.slice A0 l0.length c0, .slice A1 l1.length c1] w fun e w' => ∃ v0_ : Value, e = .returned (.tuple #[v0_, .bool r2]) ∧ Kd.R k32 32 w' w.heap.size (fun _ => True) v0_ r1 ∧ Below w.heap.size w w' := by
 have hu30 := Try.underlying30
 have hu32 := Try.underlying32
 have HR0 := zA hr0
 have HC0 := zA hc0
 clear hr0 hc0
 have HR1 := zA hr1
 have HC1 := zA hc1
 clear hr1 hc1
 have HB := zA (Below.refl w.heap.size w)
 have H : ((impl_PlanOk.f k l0).bind fun t420 => (if t420 = true then (impl_DecodeKey.l0 k l1 ([] : List (S32)) 0 l0 (l0.length : Int) 0) else (some (([] : List (S32)), false)))) = some (r1, r2) := h
 clear h
 replace H := zI H
 obtain ⟨t420, A3, H⟩ := H
 by_cases c4 : t420 = true
 ·subst c4
  rw [if_pos rfl] at H
  have H' := zA H
  clear H
  go_enter Try.func47, Try.ntmps47
  go_wp2_with (first | ((with_reducible refine zg 51 ?_); refine gL (some 14) Try.func51 #[.slice A0 l0.length c0] ?_; (with_reducible refine (impl_PlanOk.calls k _ _ l0 true _ ?z1 ?z2 A3.out).mono ?_); (case z1 => exact zc HR0.out); (case z2 => exact HC0.out); rintro e w5 ⟨rfl, hb⟩; refine ⟨_, rfl, ?_⟩; replace HB := zS hb; (try clear hb)))
  go_loopg [6, 7, 18] k (fun kq v6 v7 v18 w' => ∃ (x6_1 : List (S32)) (x7_1 : Int) (x18_1 : Int), v7 = .int .i64 x7_1 ∧ v18 = .int .i64 x18_1 ∧ Aside0 (impl_DecodeKey.l0 kq l1 x6_1 x7_1 l0 (l0.length : Int) x18_1 = some (r1, r2)) ∧ Aside0 (kq ≤ k) ∧ Aside0 (Kd.R k32 32 w' w.heap.size (fun _ => True) v6 x6_1) ∧ Aside0 (Below w.heap.size w w'))
  case atStart => exact ⟨(([] : List (S32))), (0), (0), zx, zx, H', ⟨Nat.le_refl _⟩, ⟨zz52⟩, ⟨zb⟩⟩
  case round =>
   clear H'
   try clear c4
   obtain ⟨x6_1, x7_1, x18_1, rfl, rfl, HA, HK1, HO_6, HB⟩ := hrel
   cases gk with
   | zero => exact absurd HA.out (by simp [impl_DecodeKey.l0])
   | succ k1 =>
    have H := HA.out
    clear HA
    simp only [impl_DecodeKey.l0] at H
    by_cases c6 : x18_1 < (l0.length : Int)
    ·rw [if_pos c6] at H
     have c6b0 : decide (x18_1 < (l0.length : Int)) = true := decide_eq_true c6
     clear c6
     by_cases c7 : 0 ≤ x18_1
     ·rw [if_pos c7] at H
      have c7b0 : decide (0 ≤ x18_1) = true := decide_eq_true c7
      clear c7
      by_cases c8 : x18_1 < (l0.length : Int)
      ·rw [if_pos c8] at H
       have c8b0 : decide (x18_1 < (l0.length : Int)) = true := decide_eq_true c8
       clear c8
       replace H := zI H
       obtain ⟨⟨t423, t424, t425, t426, t427⟩, A9, H⟩ := H
       try dsimp only at H
       by_cases c10 : t427 = true
       ·subst c10
        rw [if_pos rfl] at H
        by_cases c11 : x6_1.length < 4398046511104
        ·rw [if_pos c11] at H
         have LMc11 := zA c11
         clear c11
         obtain ⟨y429, hy429⟩ : ∃ y_ : List (S32), y_ = (x6_1 ++ [(⟨t423, t424, t425⟩ : S32)]) := ⟨_, rfl⟩
         replace H : (impl_DecodeKey.l0 k1 l1 y429 t426 l0 (l0.length : Int) (wrap64 (x18_1 + 1))) = some (r1, r2) := zy hy429
         have Ny429 := zA hy429
         clear hy429
         have H' := zA H
         clear H
         have p421 : 0 ≤ (x18_1 : Int) := of_decide_eq_true za
         have q421 : x18_1 < (l0.length : Int) := of_decide_eq_true za
         obtain ⟨ad421, e421, hx421_0, hx421_1, hx421_2, hx421_3⟩ := at_T30 HR0.out x18_1 p421 q421
         cases e421
         replace hx421_0 := zj hx421_0
         replace hx421_1 := zj hx421_1
         replace hx421_2 := zj hx421_2
         replace hx421_3 := zj hx421_3
         replace p421 := eq_true p421
         replace q421 := eq_true q421
         go_wp2_with (first | ((with_reducible refine zt 9 ?_); refine zn #[.int .i64 0, .int .i64 0, .bool false, .bool false] 30 ?_; intro gb422 hg w12 hbox hb; replace HO_6 := zR HO_6 hb; have BK422 := zA hbox; have GW422 := zG hg; have GE422 := zG hg; replace HB := zS hb; clear hb hbox hg; obtain ⟨hcz13_0, hcz13_1, hcz13_2, hcz13_3, hfz13_0, hfz13_1, hfz13_2, hfz13_3⟩ := zh4 BK422) | ((with_reducible refine zg 23 ?_); refine gL (some 26) Try.func23 #[.slice A1 l1.length c1, .agg #[.int .i64 ((rd_T30 l0 x18_1).f0), .int .i64 ((rd_T30 l0 x18_1).f1), .bool ((rd_T30 l0 x18_1).f2), .bool ((rd_T30 l0 x18_1).f3)], .int .i64 x7_1] ?_; (with_reducible refine (impl_GetPart.calls k1 _ _ l1 ((rd_T30 l0 x18_1).f0) ((rd_T30 l0 x18_1).f1) ((rd_T30 l0 x18_1).f2) ((rd_T30 l0 x18_1).f3) x7_1 t423 t424 t425 t426 true _ ?z1 ?z2 A9.out).mono ?_); (case z1 => exact Kd.C_below HR1.out (zb1 GE422)); (case z2 => exact HC1.out); rintro e w14 ⟨rfl, hb⟩; refine ⟨_, rfl, ?_⟩; replace HO_6 := zA (Kd.R_below (by (with_reducible repeat (first | apply Kd.R_alloc | apply Kd.R_drewN | apply Kd.R_drew)); exact (Kd.R_mono (Kd.R_far (p := ⟨gb422, 3, none⟩) (Kd.R_far (p := ⟨gb422, 2, none⟩) (Kd.R_far (p := ⟨gb422, 1, none⟩) (Kd.R_far (p := ⟨gb422, 0, none⟩) (Kd.R_types HO_6.out BK422.out (by decide)) (fun _ hk => hk.2) (.int .i64 ((rd_T30 l0 x18_1).f0))) (fun _ hk => hk.2) (.int .i64 ((rd_T30 l0 x18_1).f1))) (fun _ hk => hk.2) (.bool ((rd_T30 l0 x18_1).f2))) (fun _ hk => hk.2) (.bool ((rd_T30 l0 x18_1).f3))) (fun _ h_ => h_.1))) hb); replace BK422 := zA (blk_below (g := gb422) (o := .cells #[.int .i64 ((rd_T30 l0 x18_1).f0), .int .i64 ((rd_T30 l0 x18_1).f1), .bool ((rd_T30 l0 x18_1).f2), .bool ((rd_T30 l0 x18_1).f3)] 30 (0, 0)) zz30 hb); replace HB := zS hb (zb1 GE422); (try clear hb)) | ((with_reducible refine zt 10 ?_); refine zn #[.int .i64 0, .int .i64 0, .string (⟨#[]⟩ : ByteArray)] 32 ?_; intro gb428 hg w15 hbox hb; replace HO_6 := zA (Kd.R_below (Kd.R_elderB (zr HO_6) gb428 (Nat.le_of_eq hg.symm)) hb); have BK428 := zA hbox; have GW428 := zG hg (zb1 GE422); have GE428 := zG hg (zb1 GE422); replace HB := zS hb (zb1 GE422); have NB422_428 := zX BK422 hg; have NB428_422 := zY BK422 hg; replace BK422 := zB BK422 hb; clear hb hbox hg; have hnb16 := NB428_422.out; have hnc16 := NB422_428.out; obtain ⟨hcz17_0, hcz17_1, hcz17_2, hfz17_0, hfz17_1, hfz17_2⟩ := zh3 BK428) | ((with_reducible refine gate_builtin (b := .append) (xs := #[.tmp 32, .tmp 34]) rfl ?_); at_builtin; refine Kd.R_append k32 (w0 := w) w.heap.size rfl (.tmp 32) (.tmp 34) 58 32 (.agg #[(.int .i64 0), (.int .i64 0), (.string ⟨#[]⟩)]) 32 rfl Try.underlying58 info32 rfl (by decide) (by omega) u6 x6_1 (⟨t423, t424, t425⟩ : S32) [.int .i64 t423, .int .i64 t424, .string t425] (fun k_ => k_ ≠ gb428) (fun _ => False) rfl zz16 ?aP (fun _ hk => hk.elim) ?aF ?aO ?aB ?aS ?aL ?_; (case aP => exact k32_mkM _ _ _ (⟨t423, t424, t425⟩ : S32)); (case aB => exact (zb2 GE422 GE428)); (case aF => exact (fun k_ hk => Kd.freshB (g := gb428) (o := .cells #[.int .i64 t423, .int .i64 t424, .string t425] 32 (0, 0)) zz40 k_ hk)); (case aO => exact (by (with_reducible repeat (first | apply Kd.R_alloc | apply Kd.R_drewN | apply Kd.R_drew)); exact Kd.R_mono (Kd.R_far (p := ⟨gb428, 2, none⟩) (Kd.R_far (p := ⟨gb428, 1, none⟩) (Kd.R_far (p := ⟨gb428, 0, none⟩) (Kd.R_mono HO_6.out (fun k_ hk => (⟨hk, hk.2⟩ : _ ∧ k_ ≠ gb428))) (fun _ hk => hk.2) (.int .i64 t423)) (fun _ hk => hk.2) (.int .i64 t424)) (fun _ hk => hk.2) (.string t425)) (fun _ hk => hk.1.2))); (case aS => exact (below_size (zb2 GE422 GE428))); (case aL => have := LMc11.out; omega); intro v430 w18 ho hb hg hat; rw [← Ny429.out] at ho; replace BK422 := zA (blk_grown (g := gb422) (o := .cells #[.int .i64 ((rd_T30 l0 x18_1).f0), .int .i64 ((rd_T30 l0 x18_1).f1), .bool ((rd_T30 l0 x18_1).f2), .bool ((rd_T30 l0 x18_1).f3)] 30 (0, 0)) (by (with_reducible repeat (first | refine blk_drewN ?_ _ | refine blk_drew ?_ | refine blk_alloc ?_ _)); refine blk_far ?_ NB422_428.out _; (with_reducible repeat (first | refine blk_drewN ?_ _ | refine blk_drew ?_ | refine blk_alloc ?_ _)); refine blk_far ?_ NB422_428.out _; (with_reducible repeat (first | refine blk_drewN ?_ _ | refine blk_drew ?_ | refine blk_alloc ?_ _)); refine blk_far ?_ NB422_428.out _; (with_reducible repeat (first | refine blk_drewN ?_ _ | refine blk_drew ?_ | refine blk_alloc ?_ _)); exact BK422.out) hg (Kd.R_ne HO_6.out BK422.out (by decide))); replace BK428 := zA (blk_grown (g := gb428) (o := .cells #[.int .i64 t423, .int .i64 t424, .string t425] 32 (0, 0)) zz40 hg (Kd.R_away HO_6.out (fun _ hk => hk.2))); replace HB := zA hb; have HO431 := zA ho; clear HO_6 ho hb hg hat))
         go_roundg k1
         case measure => have := HK1.out; omega
         case rel => exact ⟨(y429), (t426), (wrap64 (x18_1 + 1)), zx, zx, H', ⟨zz79⟩, ⟨by (with_reducible repeat (first | apply Kd.R_alloc | apply Kd.R_drewN | apply Kd.R_drew)); exact Kd.R_mono HO431.out (fun _ hk => trivial)⟩, ⟨zb2 GE422 GE428⟩⟩
        ·rw [if_neg c11] at H
         exact absurd H (by simp)
       ·replace c10 := Bool.eq_false_iff.mpr c10
        subst c10
        rw [if_neg (Bool.false_ne_true)] at H
        simp only [Option.some.injEq, Prod.mk.injEq] at H
        obtain ⟨rfl, rfl⟩ := H
        have p421 : 0 ≤ (x18_1 : Int) := of_decide_eq_true za
        have q421 : x18_1 < (l0.length : Int) := of_decide_eq_true za
        obtain ⟨ad421, e421, hx421_0, hx421_1, hx421_2, hx421_3⟩ := at_T30 HR0.out x18_1 p421 q421
        cases e421
        replace hx421_0 := zj hx421_0
        replace hx421_1 := zj hx421_1
        replace hx421_2 := zj hx421_2
        replace hx421_3 := zj hx421_3
        replace p421 := eq_true p421
        replace q421 := eq_true q421
        go_wp2_with (first | ((with_reducible refine zt 9 ?_); refine zn #[.int .i64 0, .int .i64 0, .bool false, .bool false] 30 ?_; intro gb422 hg w19 hbox hb; replace HO_6 := zR HO_6 hb; have BK422 := zA hbox; have GW422 := zG hg; have GE422 := zG hg; replace HB := zS hb; clear hb hbox hg; obtain ⟨hcz20_0, hcz20_1, hcz20_2, hcz20_3, hfz20_0, hfz20_1, hfz20_2, hfz20_3⟩ := zh4 BK422) | ((with_reducible refine zg 23 ?_); refine gL (some 26) Try.func23 #[.slice A1 l1.length c1, .agg #[.int .i64 ((rd_T30 l0 x18_1).f0), .int .i64 ((rd_T30 l0 x18_1).f1), .bool ((rd_T30 l0 x18_1).f2), .bool ((rd_T30 l0 x18_1).f3)], .int .i64 x7_1] ?_; (with_reducible refine (impl_GetPart.calls k1 _ _ l1 ((rd_T30 l0 x18_1).f0) ((rd_T30 l0 x18_1).f1) ((rd_T30 l0 x18_1).f2) ((rd_T30 l0 x18_1).f3) x7_1 t423 t424 t425 t426 false _ ?z1 ?z2 A9.out).mono ?_); (case z1 => exact Kd.C_below HR1.out (zb1 GE422)); (case z2 => exact HC1.out); rintro e w21 ⟨rfl, hb⟩; refine ⟨_, rfl, ?_⟩; replace HO_6 := zA (Kd.R_below (by (with_reducible repeat (first | apply Kd.R_alloc | apply Kd.R_drewN | apply Kd.R_drew)); exact (Kd.R_mono (Kd.R_far (p := ⟨gb422, 3, none⟩) (Kd.R_far (p := ⟨gb422, 2, none⟩) (Kd.R_far (p := ⟨gb422, 1, none⟩) (Kd.R_far (p := ⟨gb422, 0, none⟩) (Kd.R_types HO_6.out BK422.out (by decide)) (fun _ hk => hk.2) (.int .i64 ((rd_T30 l0 x18_1).f0))) (fun _ hk => hk.2) (.int .i64 ((rd_T30 l0 x18_1).f1))) (fun _ hk => hk.2) (.bool ((rd_T30 l0 x18_1).f2))) (fun _ hk => hk.2) (.bool ((rd_T30 l0 x18_1).f3))) (fun _ h_ => h_.1))) hb); replace BK422 := zA (blk_below (g := gb422) (o := .cells #[.int .i64 ((rd_T30 l0 x18_1).f0), .int .i64 ((rd_T30 l0 x18_1).f1), .bool ((rd_T30 l0 x18_1).f2), .bool ((rd_T30 l0 x18_1).f3)] 30 (0, 0)) zz30 hb); replace HB := zS hb (zb1 GE422); (try clear hb)) | ((with_reducible refine zt 10 ?_); refine zn #[.int .i64 0, .int .i64 0, .string (⟨#[]⟩ : ByteArray)] 32 ?_; intro gb428 hg w22 hbox hb; replace HO_6 := zA (Kd.R_below (Kd.R_elderB (zr HO_6) gb428 (Nat.le_of_eq hg.symm)) hb); have BK428 := zA hbox; have GW428 := zG hg (zb1 GE422); have GE428 := zG hg (zb1 GE422); replace HB := zS hb (zb1 GE422); have NB422_428 := zX BK422 hg; have NB428_422 := zY BK422 hg; replace BK422 := zB BK422 hb; clear hb hbox hg; have hnb23 := NB428_422.out; have hnc23 := NB422_428.out; obtain ⟨hcz24_0, hcz24_1, hcz24_2, hfz24_0, hfz24_1, hfz24_2⟩ := zh3 BK428))
        go_ret2
        exact ⟨_, zw, zz52, zb2 GE422 GE428⟩
      ·rw [if_neg c8] at H
       exact absurd H (by simp)
     ·rw [if_neg c7] at H
      exact absurd H (by simp)
    ·rw [if_neg c6] at H
     have c6b0 : decide (x18_1 < (l0.length : Int)) = false := decide_eq_false c6
     clear c6
     by_cases c25 : x7_1 = (l1.length : Int)
     ·rw [if_pos c25] at H
      have c25b0 : (x7_1 == (l1.length : Int)) = true := beq_iff_eq.mpr c25
      have c25b1 : (x7_1 != (l1.length : Int)) = false := bne_eq_false_iff_eq.mpr c25
      clear c25
      simp only [Option.some.injEq, Prod.mk.injEq] at H
      obtain ⟨rfl, rfl⟩ := H
      go_wp2
      go_ret2
      exact ⟨_, zw, zr HO_6, zb⟩
     ·rw [if_neg c25] at H
      have c25b0 : (x7_1 == (l1.length : Int)) = false := beq_eq_false_iff_ne.mpr c25
      have c25b1 : (x7_1 != (l1.length : Int)) = true := bne_iff_ne.mpr c25
      simp only [Option.some.injEq, Prod.mk.injEq] at H
      obtain ⟨rfl, rfl⟩ := H
      go_wp2
      go_ret2
      exact ⟨_, zw, zz52, zb⟩
 ·replace c4 := Bool.eq_false_iff.mpr c4
  subst c4
  rw [if_neg (Bool.false_ne_true)] at H
  simp only [Option.some.injEq, Prod.mk.injEq] at H
  obtain ⟨rfl, rfl⟩ := H
  go_enter Try.func47, Try.ntmps47
  go_wp2_with (first | ((with_reducible refine zg 51 ?_); refine gL (some 14) Try.func51 #[.slice A0 l0.length c0] ?_; (with_reducible refine (impl_PlanOk.calls k _ _ l0 false _ ?z1 ?z2 A3.out).mono ?_); (case z1 => exact zc HR0.out); (case z2 => exact HC0.out); rintro e w26 ⟨rfl, hb⟩; refine ⟨_, rfl, ?_⟩; replace HB := zS hb; (try clear hb)))
  go_ret2
  exact ⟨_, zw, zz52, zb⟩

/-! ### spec_Fits: function 28 -/
def spec_Fits.f (a0_0 : Int) (a0_1 : Int) (a0_2 : Bool) (a0_3 : Bool) (a1_0 : Int) (a1_1 : Int) (a1_2 : ByteArray) : Option (Bool) := (spec_ValOk.f a1_0 a1_1 a1_2).bind fun t434 => (if t434 = true then (if a1_0 = a0_1 then (if a1_0 = 0 then (some a0_2) else (some true)) else (if a1_0 = 0 then (some a0_2) else (some false))) else (some false))
set_option maxHeartbeats 8000000 in
set_option maxRecDepth 100000 in
theorem spec_Fits.calls (a0_0 : Int) (a0_1 : Int) (a0_2 : Bool) (a0_3 : Bool) (a1_0 : Int) (a1_1 : Int) (a1_2 : ByteArray) (r : Bool) (w : World) (h : spec_Fits.f a0_0 a0_1 a0_2 a0_3 a1_0 a1_1 a1_2 = some r) :
  Calls Try.prog 28 #[.agg #[.int .i64 a0_0, .int .i64 a0_1, .bool a0_2, .bool a0_3], .agg #[.int .i64 a1_0, .int .i64 a1_1, .string a1_2]] w fun e w' => e = .returned (.bool r) ∧ Below w.heap.size w w' := by
 have hu30 := Try.underlying30
 have hu32 := Try.underlying32
 have HB := zA (Below.refl w.heap.size w)
 have H : ((spec_ValOk.f a1_0 a1_1 a1_2).bind fun t434 => (if t434 = true then (if a1_0 = a0_1 then (if a1_0 = 0 then (some a0_2) else (some true)) else (if a1_0 = 0 then (some a0_2) else (some false))) else (some false))) = some r := h
 clear h
 replace H := zI H
 obtain ⟨t434, A3, H⟩ := H
 by_cases c4 : t434 = true
 ·subst c4
  rw [if_pos rfl] at H
  by_cases c5 : a1_0 = a0_1
  ·rw [if_pos c5] at H
   have c5b0 : (a1_0 == a0_1) = true := beq_iff_eq.mpr c5
   have c5b1 : (a1_0 != a0_1) = false := bne_eq_false_iff_eq.mpr c5
   clear c5
   by_cases c6 : a1_0 = 0
   ·rw [if_pos c6] at H
    have c6b0 : (a1_0 == 0) = true := beq_iff_eq.mpr c6
    have c6b1 : (a1_0 != 0) = false := bne_eq_false_iff_eq.mpr c6
    clear c6
    obtain rfl := Option.some.inj H
    go_enter Try.func28, Try.ntmps28
    go_wp2_with (first | ((with_reducible refine zt 2 ?_); refine zn #[.int .i64 a0_0, .int .i64 a0_1, .bool a0_2, .bool a0_3] 30 ?_; intro gb432 hg w7 hbox hb; have BK432 := zA hbox; have GW432 := zG hg; have GE432 := zG hg; replace HB := zS hb; clear hb hbox hg) | ((with_reducible refine zt 3 ?_); refine zn #[.int .i64 a1_0, .int .i64 a1_1, .string a1_2] 32 ?_; intro gb433 hg w8 hbox hb; have BK433 := zA hbox; have GW433 := zG hg (zb1 GE432); have GE433 := zG hg (zb1 GE432); replace HB := zS hb (zb1 GE432); have NB432_433 := zX BK432 hg; have NB433_432 := zY BK432 hg; replace BK432 := zB BK432 hb; clear hb hbox hg; have hnb9 := NB433_432.out; have hnc9 := NB432_433.out; obtain ⟨hcz10_0, hcz10_1, hcz10_2, hfz10_0, hfz10_1, hfz10_2⟩ := zh3 BK433) | ((with_reducible refine zg 72 ?_); refine gL (some 6) Try.func72 #[.agg #[.int .i64 a1_0, .int .i64 a1_1, .string a1_2]] ?_; (with_reducible refine (spec_ValOk.calls a1_0 a1_1 a1_2 true _ A3.out).mono ?_); rintro e w11 ⟨rfl, hb⟩; refine ⟨_, rfl, ?_⟩; replace BK432 := zB BK432 hb; replace BK433 := zB BK433 hb; replace HB := zS hb (zb2 GE432 GE433); (try clear hb); obtain ⟨hcz12_0, hcz12_1, hcz12_2, hfz12_0, hfz12_1, hfz12_2⟩ := zh3 BK433; obtain ⟨hcz13_0, hcz13_1, hcz13_2, hcz13_3, hfz13_0, hfz13_1, hfz13_2, hfz13_3⟩ := zh4 BK432))
    go_ret
    exact ⟨zw, zb2 GE432 GE433⟩
   ·rw [if_neg c6] at H
    have c6b0 : (a1_0 == 0) = false := beq_eq_false_iff_ne.mpr c6
    have c6b1 : (a1_0 != 0) = true := bne_iff_ne.mpr c6
    obtain rfl := Option.some.inj H
    go_enter Try.func28, Try.ntmps28
    go_wp2_with (first | ((with_reducible refine zt 2 ?_); refine zn #[.int .i64 a0_0, .int .i64 a0_1, .bool a0_2, .bool a0_3] 30 ?_; intro gb432 hg w14 hbox hb; have BK432 := zA hbox; have GW432 := zG hg; have GE432 := zG hg; replace HB := zS hb; clear hb hbox hg) | ((with_reducible refine zt 3 ?_); refine zn #[.int .i64 a1_0, .int .i64 a1_1, .string a1_2] 32 ?_; intro gb433 hg w15 hbox hb; have BK433 := zA hbox; have GW433 := zG hg (zb1 GE432); have GE433 := zG hg (zb1 GE432); replace HB := zS hb (zb1 GE432); have NB432_433 := zX BK432 hg; have NB433_432 := zY BK432 hg; replace BK432 := zB BK432 hb; clear hb hbox hg; have hnb16 := NB433_432.out; have hnc16 := NB432_433.out; obtain ⟨hcz17_0, hcz17_1, hcz17_2, hfz17_0, hfz17_1, hfz17_2⟩ := zh3 BK433) | ((with_reducible refine zg 72 ?_); refine gL (some 6) Try.func72 #[.agg #[.int .i64 a1_0, .int .i64 a1_1, .string a1_2]] ?_; (with_reducible refine (spec_ValOk.calls a1_0 a1_1 a1_2 true _ A3.out).mono ?_); rintro e w18 ⟨rfl, hb⟩; refine ⟨_, rfl, ?_⟩; replace BK432 := zB BK432 hb; replace BK433 := zB BK433 hb; replace HB := zS hb (zb2 GE432 GE433); (try clear hb); obtain ⟨hcz19_0, hcz19_1, hcz19_2, hfz19_0, hfz19_1, hfz19_2⟩ := zh3 BK433; obtain ⟨hcz20_0, hcz20_1, hcz20_2, hcz20_3, hfz20_0, hfz20_1, hfz20_2, hfz20_3⟩ := zh4 BK432))
    go_ret
    exact ⟨zw, zb2 GE432 GE433⟩
  ·rw [if_neg c5] at H
   have c5b0 : (a1_0 == a0_1) = false := beq_eq_false_iff_ne.mpr c5
   have c5b1 : (a1_0 != a0_1) = true := bne_iff_ne.mpr c5
   by_cases c21 : a1_0 = 0
   ·rw [if_pos c21] at H
    have c21b0 : (a1_0 == 0) = true := beq_iff_eq.mpr c21
    have c21b1 : (a1_0 != 0) = false := bne_eq_false_iff_eq.mpr c21
    clear c21
    obtain rfl := Option.some.inj H
    go_enter Try.func28, Try.ntmps28
    go_wp2_with (first | ((with_reducible refine zt 2 ?_); refine zn #[.int .i64 a0_0, .int .i64 a0_1, .bool a0_2, .bool a0_3] 30 ?_; intro gb432 hg w22 hbox hb; have BK432 := zA hbox; have GW432 := zG hg; have GE432 := zG hg; replace HB := zS hb; clear hb hbox hg) | ((with_reducible refine zt 3 ?_); refine zn #[.int .i64 a1_0, .int .i64 a1_1, .string a1_2] 32 ?_; intro gb433 hg w23 hbox hb; have BK433 := zA hbox; have GW433 := zG hg (zb1 GE432); have GE433 := zG hg (zb1 GE432); replace HB := zS hb (zb1 GE432); have NB432_433 := zX BK432 hg; have NB433_432 := zY BK432 hg; replace BK432 := zB BK432 hb; clear hb hbox hg; have hnb24 := NB433_432.out; have hnc24 := NB432_433.out; obtain ⟨hcz25_0, hcz25_1, hcz25_2, hfz25_0, hfz25_1, hfz25_2⟩ := zh3 BK433) | ((with_reducible refine zg 72 ?_); refine gL (some 6) Try.func72 #[.agg #[.int .i64 a1_0, .int .i64 a1_1, .string a1_2]] ?_; (with_reducible refine (spec_ValOk.calls a1_0 a1_1 a1_2 true _ A3.out).mono ?_); rintro e w26 ⟨rfl, hb⟩; refine ⟨_, rfl, ?_⟩; replace BK432 := zB BK432 hb; replace BK433 := zB BK433 hb; replace HB := zS hb (zb2 GE432 GE433); (try clear hb); obtain ⟨hcz27_0, hcz27_1, hcz27_2, hfz27_0, hfz27_1, hfz27_2⟩ := zh3 BK433; obtain ⟨hcz28_0, hcz28_1, hcz28_2, hcz28_3, hfz28_0, hfz28_1, hfz28_2, hfz28_3⟩ := zh4 BK432))
    go_ret
    exact ⟨zw, zb2 GE432 GE433⟩
   ·rw [if_neg c21] at H
    have c21b0 : (a1_0 == 0) = false := beq_eq_false_iff_ne.mpr c21
    have c21b1 : (a1_0 != 0) = true := bne_iff_ne.mpr c21
    obtain rfl := Option.some.inj H
    go_enter Try.func28, Try.ntmps28
    go_wp2_with (first | ((with_reducible refine zt 2 ?_); refine zn #[.int .i64 a0_0, .int .i64 a0_1, .bool a0_2, .bool a0_3] 30 ?_; intro gb432 hg w29 hbox hb; have BK432 := zA hbox; have GW432 := zG hg; have GE432 := zG hg; replace HB := zS hb; clear hb hbox hg) | ((with_reducible refine zt 3 ?_); refine zn #[.int .i64 a1_0, .int .i64 a1_1, .string a1_2] 32 ?_; intro gb433 hg w30 hbox hb; have BK433 := zA hbox; have GW433 := zG hg (zb1 GE432); have GE433 := zG hg (zb1 GE432); replace HB := zS hb (zb1 GE432); have NB432_433 := zX BK432 hg; have NB433_432 := zY BK432 hg; replace BK432 := zB BK432 hb; clear hb hbox hg; have hnb31 := NB433_432.out; have hnc31 := NB432_433.out; obtain ⟨hcz32_0, hcz32_1, hcz32_2, hfz32_0, hfz32_1, hfz32_2⟩ := zh3 BK433) | ((with_reducible refine zg 72 ?_); refine gL (some 6) Try.func72 #[.agg #[.int .i64 a1_0, .int .i64 a1_1, .string a1_2]] ?_; (with_reducible refine (spec_ValOk.calls a1_0 a1_1 a1_2 true _ A3.out).mono ?_); rintro e w33 ⟨rfl, hb⟩; refine ⟨_, rfl, ?_⟩; replace BK432 := zB BK432 hb; replace BK433 := zB BK433 hb; replace HB := zS hb (zb2 GE432 GE433); (try clear hb); obtain ⟨hcz34_0, hcz34_1, hcz34_2, hfz34_0, hfz34_1, hfz34_2⟩ := zh3 BK433; obtain ⟨hcz35_0, hcz35_1, hcz35_2, hcz35_3, hfz35_0, hfz35_1, hfz35_2, hfz35_3⟩ := zh4 BK432))
    go_ret
    exact ⟨zw, zb2 GE432 GE433⟩
 ·replace c4 := Bool.eq_false_iff.mpr c4
  subst c4
  rw [if_neg (Bool.false_ne_true)] at H
  obtain rfl := Option.some.inj H
  go_enter Try.func28, Try.ntmps28
  go_wp2_with (first | ((with_reducible refine zt 2 ?_); refine zn #[.int .i64 a0_0, .int .i64 a0_1, .bool a0_2, .bool a0_3] 30 ?_; intro gb432 hg w36 hbox hb; have BK432 := zA hbox; have GW432 := zG hg; have GE432 := zG hg; replace HB := zS hb; clear hb hbox hg) | ((with_reducible refine zt 3 ?_); refine zn #[.int .i64 a1_0, .int .i64 a1_1, .string a1_2] 32 ?_; intro gb433 hg w37 hbox hb; have BK433 := zA hbox; have GW433 := zG hg (zb1 GE432); have GE433 := zG hg (zb1 GE432); replace HB := zS hb (zb1 GE432); have NB432_433 := zX BK432 hg; have NB433_432 := zY BK432 hg; replace BK432 := zB BK432 hb; clear hb hbox hg; have hnb38 := NB433_432.out; have hnc38 := NB432_433.out; obtain ⟨hcz39_0, hcz39_1, hcz39_2, hfz39_0, hfz39_1, hfz39_2⟩ := zh3 BK433) | ((with_reducible refine zg 72 ?_); refine gL (some 6) Try.func72 #[.agg #[.int .i64 a1_0, .int .i64 a1_1, .string a1_2]] ?_; (with_reducible refine (spec_ValOk.calls a1_0 a1_1 a1_2 false _ A3.out).mono ?_); rintro e w40 ⟨rfl, hb⟩; refine ⟨_, rfl, ?_⟩; replace BK432 := zB BK432 hb; replace BK433 := zB BK433 hb; replace HB := zS hb (zb2 GE432 GE433); (try clear hb)))
  go_ret
  exact ⟨zw, zb2 GE432 GE433⟩

/-! ### spec_PutFix: function 94 -/
def spec_PutFix.f (l0 : List Int) (a1 : Int) : Option (List Int) := if a1 > 2147483647 then ((some (([] : List Int) : List Int)).bind fun y435 => (if y435.length + l0.length < 140737488355328 then ((some (y435 ++ l0 : List Int)).bind fun y438 => ((some (([(2147483647 + 2147483648) / 16777216, ((2147483647 + 2147483648) / 65536) % 256, ((2147483647 + 2147483648) / 256) % 256, (2147483647 + 2147483648) % 256] : List Int) : List Int)).bind fun y441 => (if y438.length + y441.length < 140737488355328 then (some (y438 ++ y441)) else (none)))) else (none))) else (if a1 < (-2147483648) then ((some (([] : List Int) : List Int)).bind fun y447 => (if y447.length + l0.length < 140737488355328 then ((some (y447 ++ l0 : List Int)).bind fun y450 => ((some (([((-2147483648) + 2147483648) / 16777216, ((-2147483648) + 2147483648) / 65536, ((-2147483648) + 2147483648) / 256, (-2147483648) + 2147483648] : List Int) : List Int)).bind fun y453 => (if y450.length + y453.length < 140737488355328 then (some (y450 ++ y453)) else (none)))) else (none))) else ((some (([] : List Int) : List Int)).bind fun y459 => (if y459.length + l0.length < 140737488355328 then ((some (y459 ++ l0 : List Int)).bind fun y462 => ((some (([((wrap64 (a1 + 2147483648)) / 16777216) % 256, ((wrap64 (a1 + 2147483648)) / 65536) % 256, ((wrap64 (a1 + 2147483648)) / 256) % 256, (wrap64 (a1 + 2147483648)) % 256] : List Int) : List Int)).bind fun y465 => (if y462.length + y465.length < 140737488355328 then (some (y462 ++ y465)) else (none)))) else (none))))
set_option maxHeartbeats 8000000 in
set_option maxRecDepth 100000 in
theorem spec_PutFix.calls (A0 : Option Addr) (c0 : Nat) (l0 : List Int) (a1 : Int) (r : List Int) (w : World) (hr0 : Kd.C (Kd.int .u8) w A0 l0.length l0) (hc0 : l0.length ≤ c0) (h : spec_PutFix.f l0 a1 = some r) :
  Calls Try.prog 94 #[.slice A0 l0.length c0, .int .i64 a1] w fun e w' => ∃ v0_ : Value, e = .returned (v0_) ∧ Kd.R (Kd.int .u8) 5 w' w.heap.size (fun _ => True) v0_ r ∧ Below w.heap.size w w' := by
 have HR0 := zA hr0
 have HC0 := zA hc0
 clear hr0 hc0
 have HB := zA (Below.refl w.heap.size w)
 have H : (if a1 > 2147483647 then ((some (([] : List Int) : List Int)).bind fun y435 => (if y435.length + l0.length < 140737488355328 then ((some (y435 ++ l0 : List Int)).bind fun y438 => ((some (([(2147483647 + 2147483648) / 16777216, ((2147483647 + 2147483648) / 65536) % 256, ((2147483647 + 2147483648) / 256) % 256, (2147483647 + 2147483648) % 256] : List Int) : List Int)).bind fun y441 => (if y438.length + y441.length < 140737488355328 then (some (y438 ++ y441)) else (none)))) else (none))) else (if a1 < (-2147483648) then ((some (([] : List Int) : List Int)).bind fun y447 => (if y447.length + l0.length < 140737488355328 then ((some (y447 ++ l0 : List Int)).bind fun y450 => ((some (([((-2147483648) + 2147483648) / 16777216, ((-2147483648) + 2147483648) / 65536, ((-2147483648) + 2147483648) / 256, (-2147483648) + 2147483648] : List Int) : List Int)).bind fun y453 => (if y450.length + y453.length < 140737488355328 then (some (y450 ++ y453)) else (none)))) else (none))) else ((some (([] : List Int) : List Int)).bind fun y459 => (if y459.length + l0.length < 140737488355328 then ((some (y459 ++ l0 : List Int)).bind fun y462 => ((some (([((wrap64 (a1 + 2147483648)) / 16777216) % 256, ((wrap64 (a1 + 2147483648)) / 65536) % 256, ((wrap64 (a1 + 2147483648)) / 256) % 256, (wrap64 (a1 + 2147483648)) % 256] : List Int) : List Int)).bind fun y465 => (if y462.length + y465.length < 140737488355328 then (some (y462 ++ y465)) else (none)))) else (none))))) = some r := h
 clear h
 by_cases c3 : a1 > 2147483647
 ·rw [if_pos c3] at H
  have c3b0 : decide (2147483647 < a1) = true := decide_eq_true c3
  clear c3
  obtain ⟨y435, hy435⟩ : ∃ y_ : List Int, y_ = (([] : List Int)) := ⟨_, rfl⟩
  replace H : (if y435.length + l0.length < 140737488355328 then ((some (y435 ++ l0 : List Int)).bind fun y438 => ((some (([(2147483647 + 2147483648) / 16777216, ((2147483647 + 2147483648) / 65536) % 256, ((2147483647 + 2147483648) / 256) % 256, (2147483647 + 2147483648) % 256] : List Int) : List Int)).bind fun y441 => (if y438.length + y441.length < 140737488355328 then (some (y438 ++ y441)) else (none)))) else (none)) = some r := zy hy435
  have Ny435 := zA hy435
  clear hy435
  by_cases c4 : y435.length + l0.length < 140737488355328
  ·rw [if_pos c4] at H
   have LMc4 := zA c4
   clear c4
   obtain ⟨y438, hy438⟩ : ∃ y_ : List Int, y_ = (y435 ++ l0) := ⟨_, rfl⟩
   replace H : ((some (([(2147483647 + 2147483648) / 16777216, ((2147483647 + 2147483648) / 65536) % 256, ((2147483647 + 2147483648) / 256) % 256, (2147483647 + 2147483648) % 256] : List Int) : List Int)).bind fun y441 => (if y438.length + y441.length < 140737488355328 then (some (y438 ++ y441)) else (none))) = some r := zy hy438
   have Ny438 := zA hy438
   clear hy438
   obtain ⟨y441, hy441⟩ : ∃ y_ : List Int, y_ = (([(2147483647 + 2147483648) / 16777216, ((2147483647 + 2147483648) / 65536) % 256, ((2147483647 + 2147483648) / 256) % 256, (2147483647 + 2147483648) % 256] : List Int)) := ⟨_, rfl⟩
   replace H : (if y438.length + y441.length < 140737488355328 then (some (y438 ++ y441)) else (none)) = some r := zy hy441
   have Ny441 := zA hy441
   clear hy441
   by_cases c5 : y438.length + y441.length < 140737488355328
   ·rw [if_pos c5] at H
    have LMc5 := zA c5
    clear c5
    obtain ⟨y444, hy444⟩ : ∃ y_ : List Int, y_ = (y438 ++ y441) := ⟨_, rfl⟩
    replace H : (some y444) = some r := zy hy444
    have Ny444 := zA hy444
    clear hy444
    obtain rfl := Option.some.inj H
    go_enter Try.func94, Try.ntmps94
    go_wp2_with (first | ((with_reducible refine zt 11 ?_); refine Kd.R_lit (Kd.int .u8) _ 5 ?hg (N := 11) ?hd (xs := ([] : List Int)) (inner := []) (ok := fun _ => True) (okp := fun _ => True) ?hr ?hp (fun _ hk => hk) trivial (Below.refl _ _) (Nat.le_refl _) (by simp) ?_; (case hd => rfl); (case hg => rfl); (case hr => exact zz16); (case hp => exact (Reps.none _ _)); intro v436 w6 ho7 hb hg_ hnew_; clear hg_ hnew_; (first | rw [← Ny435.out] at ho7 | (simp only [Int.reduceToNat] at ho7; rw [← Ny435.out] at ho7)); have HO437 := zL ho7; replace HB := zS hb; clear hb ho7) | ((with_reducible refine gate_builtin (b := .append) (xs := #[.tmp 11, .tmp 12]) rfl ?_); at_builtin; refine Kd.R_append_rows (Kd.int .u8) (w0 := w) w.heap.size rfl (.tmp 11) (.tmp 12) 22 5 (.int .u8 0) 1 rfl Try.underlying22 info5 rfl (by decide) (by omega) v436 y435 l0 _ _ _ (fun _ => True) (fun _ => False) rfl rfl ?aO ?aR (fun _ _ h => h) (fun _ h => h.elim) ?aF ?aB ?aS ?aL ?_; (case aR => exact zd HR0); (case aB => exact zb); (case aF => exact (fun _ _ => trivial)); (case aO => exact (zr HO437)); (case aS => exact (below_size zb)); (case aL => have := LMc4.out; omega); intro v439 w8 ho hb hg hat; rw [← Ny438.out] at ho; replace HB := zA hb; have HO440 := zA ho; clear HO437 ho hb hg hat) | ((with_reducible refine zt 25 ?_); refine Kd.R_lit (Kd.int .u8) _ 5 ?hg (N := 25) ?hd (xs := ([(2147483647 + 2147483648) / 16777216, ((2147483647 + 2147483648) / 65536) % 256, ((2147483647 + 2147483648) / 256) % 256, (2147483647 + 2147483648) % 256] : List Int)) (inner := [.int .u8 ((2147483647 + 2147483648) / 16777216), .int .u8 (((2147483647 + 2147483648) / 65536) % 256), .int .u8 (((2147483647 + 2147483648) / 256) % 256), .int .u8 ((2147483647 + 2147483648) % 256)]) (ok := fun _ => True) (okp := fun _ => True) ?hr ?hp (fun _ hk => hk) trivial (Below.refl _ _) (Nat.le_refl _) (by simp) ?_; (case hd => rfl); (case hg => rfl); (case hr => exact zz16); (case hp => exact (Reps.one (show Kd.M (Kd.int .u8) _ _ _ ((2147483647 + 2147483648) / 16777216) [.int .u8 ((2147483647 + 2147483648) / 16777216)] from rfl) (Reps.one (show Kd.M (Kd.int .u8) _ _ _ (((2147483647 + 2147483648) / 65536) % 256) [.int .u8 (((2147483647 + 2147483648) / 65536) % 256)] from rfl) (Reps.one (show Kd.M (Kd.int .u8) _ _ _ (((2147483647 + 2147483648) / 256) % 256) [.int .u8 (((2147483647 + 2147483648) / 256) % 256)] from rfl) (Reps.one (show Kd.M (Kd.int .u8) _ _ _ ((2147483647 + 2147483648) % 256) [.int .u8 ((2147483647 + 2147483648) % 256)] from rfl) (Reps.none _ _)))))); intro v442 w9 ho10 hb hg_ hnew_; clear hg_ hnew_; (first | rw [← Ny441.out] at ho10 | (simp only [Int.reduceToNat] at ho10; rw [← Ny441.out] at ho10)); have HO443 := zL (zN ho10 HO440); replace HO440 := zE HO440 ho10 hb; replace HB := zS hb; clear hb ho10; obtain ⟨Ao12, co12, eo12⟩ := Kd.R_slice HO443.out; subst eo12) | ((with_reducible refine gate_builtin (b := .append) (xs := #[.tmp 13, .tmp 25]) rfl ?_); at_builtin; refine Kd.R_append_rows (Kd.int .u8) (w0 := w) w.heap.size rfl (.tmp 13) (.tmp 25) 22 5 (.int .u8 0) 1 rfl Try.underlying22 info5 rfl (by decide) (by omega) v439 y438 y441 _ _ _ (fun k_ => some k_ ≠ (.slice Ao12 y441.length co12 : Value).ownBlock) (fun _ => False) rfl rfl ?aO ?aR (fun _ _ h => h) (fun _ h => h.elim) ?aF ?aB ?aS ?aL ?_; (case aR => exact ze HO443); (case aB => exact zb); (case aF => exact (fun k_ hk => Kd.fresh' (Kd.R_lt (zr HO443)) k_ hk)); (case aO => exact (by (with_reducible repeat (first | apply Kd.R_alloc | apply Kd.R_drewN | apply Kd.R_drew)); exact Kd.R_mono HO440.out (fun _ hk => hk.2))); (case aS => exact (below_size zb)); (case aL => have := LMc5.out; omega); intro v445 w11 ho hb hg hat; rw [← Ny444.out] at ho; replace HO443 := zA (Kd.R_after (ok := (fun _ => True)) (zr HO443) hg hat); replace HB := zA hb; have HO446 := zA ho; clear HO440 ho hb hg hat))
    go_ret
    exact ⟨_, zw, by (with_reducible repeat (first | apply Kd.R_alloc | apply Kd.R_drewN | apply Kd.R_drew)); exact Kd.R_mono HO446.out (fun _ hk => trivial), zb⟩
   ·rw [if_neg c5] at H
    exact absurd H (by simp)
  ·rw [if_neg c4] at H
   exact absurd H (by simp)
 ·rw [if_neg c3] at H
  have c3b0 : decide (2147483647 < a1) = false := decide_eq_false c3
  clear c3
  by_cases c13 : a1 < (-2147483648)
  ·rw [if_pos c13] at H
   have c13b0 : decide (a1 < (-2147483648)) = true := decide_eq_true c13
   clear c13
   obtain ⟨y447, hy447⟩ : ∃ y_ : List Int, y_ = (([] : List Int)) := ⟨_, rfl⟩
   replace H : (if y447.length + l0.length < 140737488355328 then ((some (y447 ++ l0 : List Int)).bind fun y450 => ((some (([((-2147483648) + 2147483648) / 16777216, ((-2147483648) + 2147483648) / 65536, ((-2147483648) + 2147483648) / 256, (-2147483648) + 2147483648] : List Int) : List Int)).bind fun y453 => (if y450.length + y453.length < 140737488355328 then (some (y450 ++ y453)) else (none)))) else (none)) = some r := zy hy447
   have Ny447 := zA hy447
   clear hy447
   by_cases c14 : y447.length + l0.length < 140737488355328
   ·rw [if_pos c14] at H
    have LMc14 := zA c14
    clear c14
    obtain ⟨y450, hy450⟩ : ∃ y_ : List Int, y_ = (y447 ++ l0) := ⟨_, rfl⟩
    replace H : ((some (([((-2147483648) + 2147483648) / 16777216, ((-2147483648) + 2147483648) / 65536, ((-2147483648) + 2147483648) / 256, (-2147483648) + 2147483648] : List Int) : List Int)).bind fun y453 => (if y450.length + y453.length < 140737488355328 then (some (y450 ++ y453)) else (none))) = some r := zy hy450
    have Ny450 := zA hy450
    clear hy450
    obtain ⟨y453, hy453⟩ : ∃ y_ : List Int, y_ = (([((-2147483648) + 2147483648) / 16777216, ((-2147483648) + 2147483648) / 65536, ((-2147483648) + 2147483648) / 256, (-2147483648) + 2147483648] : List Int)) := ⟨_, rfl⟩
    replace H : (if y450.length + y453.length < 140737488355328 then (some (y450 ++ y453)) else (none)) = some r := zy hy453
    have Ny453 := zA hy453
    clear hy453
    by_cases c15 : y450.length + y453.length < 140737488355328
    ·rw [if_pos c15] at H
     have LMc15 := zA c15
     clear c15
     obtain ⟨y456, hy456⟩ : ∃ y_ : List Int, y_ = (y450 ++ y453) := ⟨_, rfl⟩
     replace H : (some y456) = some r := zy hy456
     have Ny456 := zA hy456
     clear hy456
     obtain rfl := Option.some.inj H
     go_enter Try.func94, Try.ntmps94
     go_wp2_with (first | ((with_reducible refine zt 11 ?_); refine Kd.R_lit (Kd.int .u8) _ 5 ?hg (N := 11) ?hd (xs := ([] : List Int)) (inner := []) (ok := fun _ => True) (okp := fun _ => True) ?hr ?hp (fun _ hk => hk) trivial (Below.refl _ _) (Nat.le_refl _) (by simp) ?_; (case hd => rfl); (case hg => rfl); (case hr => exact zz16); (case hp => exact (Reps.none _ _)); intro v448 w16 ho17 hb hg_ hnew_; clear hg_ hnew_; (first | rw [← Ny447.out] at ho17 | (simp only [Int.reduceToNat] at ho17; rw [← Ny447.out] at ho17)); have HO449 := zL ho17; replace HB := zS hb; clear hb ho17) | ((with_reducible refine gate_builtin (b := .append) (xs := #[.tmp 11, .tmp 12]) rfl ?_); at_builtin; refine Kd.R_append_rows (Kd.int .u8) (w0 := w) w.heap.size rfl (.tmp 11) (.tmp 12) 22 5 (.int .u8 0) 1 rfl Try.underlying22 info5 rfl (by decide) (by omega) v448 y447 l0 _ _ _ (fun _ => True) (fun _ => False) rfl rfl ?aO ?aR (fun _ _ h => h) (fun _ h => h.elim) ?aF ?aB ?aS ?aL ?_; (case aR => exact zd HR0); (case aB => exact zb); (case aF => exact (fun _ _ => trivial)); (case aO => exact (zr HO449)); (case aS => exact (below_size zb)); (case aL => have := LMc14.out; omega); intro v451 w18 ho hb hg hat; rw [← Ny450.out] at ho; replace HB := zA hb; have HO452 := zA ho; clear HO449 ho hb hg hat) | ((with_reducible refine zt 25 ?_); refine Kd.R_lit (Kd.int .u8) _ 5 ?hg (N := 25) ?hd (xs := ([((-2147483648) + 2147483648) / 16777216, ((-2147483648) + 2147483648) / 65536, ((-2147483648) + 2147483648) / 256, (-2147483648) + 2147483648] : List Int)) (inner := [.int .u8 (((-2147483648) + 2147483648) / 16777216), .int .u8 (((-2147483648) + 2147483648) / 65536), .int .u8 (((-2147483648) + 2147483648) / 256), .int .u8 ((-2147483648) + 2147483648)]) (ok := fun _ => True) (okp := fun _ => True) ?hr ?hp (fun _ hk => hk) trivial (Below.refl _ _) (Nat.le_refl _) (by simp) ?_; (case hd => rfl); (case hg => rfl); (case hr => exact zz16); (case hp => exact (Reps.one (show Kd.M (Kd.int .u8) _ _ _ (((-2147483648) + 2147483648) / 16777216) [.int .u8 (((-2147483648) + 2147483648) / 16777216)] from rfl) (Reps.one (show Kd.M (Kd.int .u8) _ _ _ (((-2147483648) + 2147483648) / 65536) [.int .u8 (((-2147483648) + 2147483648) / 65536)] from rfl) (Reps.one (show Kd.M (Kd.int .u8) _ _ _ (((-2147483648) + 2147483648) / 256) [.int .u8 (((-2147483648) + 2147483648) / 256)] from rfl) (Reps.one (show Kd.M (Kd.int .u8) _ _ _ ((-2147483648) + 2147483648) [.int .u8 ((-2147483648) + 2147483648)] from rfl) (Reps.none _ _)))))); intro v454 w19 ho20 hb hg_ hnew_; clear hg_ hnew_; (first | rw [← Ny453.out] at ho20 | (simp only [Int.reduceToNat] at ho20; rw [← Ny453.out] at ho20)); have HO455 := zL (zN ho20 HO452); replace HO452 := zE HO452 ho20 hb; replace HB := zS hb; clear hb ho20; obtain ⟨Ao22, co22, eo22⟩ := Kd.R_slice HO455.out; subst eo22) | ((with_reducible refine gate_builtin (b := .append) (xs := #[.tmp 13, .tmp 25]) rfl ?_); at_builtin; refine Kd.R_append_rows (Kd.int .u8) (w0 := w) w.heap.size rfl (.tmp 13) (.tmp 25) 22 5 (.int .u8 0) 1 rfl Try.underlying22 info5 rfl (by decide) (by omega) v451 y450 y453 _ _ _ (fun k_ => some k_ ≠ (.slice Ao22 y453.length co22 : Value).ownBlock) (fun _ => False) rfl rfl ?aO ?aR (fun _ _ h => h) (fun _ h => h.elim) ?aF ?aB ?aS ?aL ?_; (case aR => exact ze HO455); (case aB => exact zb); (case aF => exact (fun k_ hk => Kd.fresh' (Kd.R_lt (zr HO455)) k_ hk)); (case aO => exact (by (with_reducible repeat (first | apply Kd.R_alloc | apply Kd.R_drewN | apply Kd.R_drew)); exact Kd.R_mono HO452.out (fun _ hk => hk.2))); (case aS => exact (below_size zb)); (case aL => have := LMc15.out; omega); intro v457 w21 ho hb hg hat; rw [← Ny456.out] at ho; replace HO455 := zA (Kd.R_after (ok := (fun _ => True)) (zr HO455) hg hat); replace HB := zA hb; have HO458 := zA ho; clear HO452 ho hb hg hat))
     go_ret
     exact ⟨_, zw, by (with_reducible repeat (first | apply Kd.R_alloc | apply Kd.R_drewN | apply Kd.R_drew)); exact Kd.R_mono HO458.out (fun _ hk => trivial), zb⟩
    ·rw [if_neg c15] at H
     exact absurd H (by simp)
   ·rw [if_neg c14] at H
    exact absurd H (by simp)
  ·rw [if_neg c13] at H
   have c13b0 : decide (a1 < (-2147483648)) = false := decide_eq_false c13
   clear c13
   obtain ⟨y459, hy459⟩ : ∃ y_ : List Int, y_ = (([] : List Int)) := ⟨_, rfl⟩
   replace H : (if y459.length + l0.length < 140737488355328 then ((some (y459 ++ l0 : List Int)).bind fun y462 => ((some (([((wrap64 (a1 + 2147483648)) / 16777216) % 256, ((wrap64 (a1 + 2147483648)) / 65536) % 256, ((wrap64 (a1 + 2147483648)) / 256) % 256, (wrap64 (a1 + 2147483648)) % 256] : List Int) : List Int)).bind fun y465 => (if y462.length + y465.length < 140737488355328 then (some (y462 ++ y465)) else (none)))) else (none)) = some r := zy hy459
   have Ny459 := zA hy459
   clear hy459
   by_cases c23 : y459.length + l0.length < 140737488355328
   ·rw [if_pos c23] at H
    have LMc23 := zA c23
    clear c23
    obtain ⟨y462, hy462⟩ : ∃ y_ : List Int, y_ = (y459 ++ l0) := ⟨_, rfl⟩
    replace H : ((some (([((wrap64 (a1 + 2147483648)) / 16777216) % 256, ((wrap64 (a1 + 2147483648)) / 65536) % 256, ((wrap64 (a1 + 2147483648)) / 256) % 256, (wrap64 (a1 + 2147483648)) % 256] : List Int) : List Int)).bind fun y465 => (if y462.length + y465.length < 140737488355328 then (some (y462 ++ y465)) else (none))) = some r := zy hy462
    have Ny462 := zA hy462
    clear hy462
    obtain ⟨y465, hy465⟩ : ∃ y_ : List Int, y_ = (([((wrap64 (a1 + 2147483648)) / 16777216) % 256, ((wrap64 (a1 + 2147483648)) / 65536) % 256, ((wrap64 (a1 + 2147483648)) / 256) % 256, (wrap64 (a1 + 2147483648)) % 256] : List Int)) := ⟨_, rfl⟩
    replace H : (if y462.length + y465.length < 140737488355328 then (some (y462 ++ y465)) else (none)) = some r := zy hy465
    have Ny465 := zA hy465
    clear hy465
    by_cases c24 : y462.length + y465.length < 140737488355328
    ·rw [if_pos c24] at H
     have LMc24 := zA c24
     clear c24
     obtain ⟨y468, hy468⟩ : ∃ y_ : List Int, y_ = (y462 ++ y465) := ⟨_, rfl⟩
     replace H : (some y468) = some r := zy hy468
     have Ny468 := zA hy468
     clear hy468
     obtain rfl := Option.some.inj H
     go_enter Try.func94, Try.ntmps94
     go_wp2_with (first | ((with_reducible refine zt 11 ?_); refine Kd.R_lit (Kd.int .u8) _ 5 ?hg (N := 11) ?hd (xs := ([] : List Int)) (inner := []) (ok := fun _ => True) (okp := fun _ => True) ?hr ?hp (fun _ hk => hk) trivial (Below.refl _ _) (Nat.le_refl _) (by simp) ?_; (case hd => rfl); (case hg => rfl); (case hr => exact zz16); (case hp => exact (Reps.none _ _)); intro v460 w25 ho26 hb hg_ hnew_; clear hg_ hnew_; (first | rw [← Ny459.out] at ho26 | (simp only [Int.reduceToNat] at ho26; rw [← Ny459.out] at ho26)); have HO461 := zL ho26; replace HB := zS hb; clear hb ho26) | ((with_reducible refine gate_builtin (b := .append) (xs := #[.tmp 11, .tmp 12]) rfl ?_); at_builtin; refine Kd.R_append_rows (Kd.int .u8) (w0 := w) w.heap.size rfl (.tmp 11) (.tmp 12) 22 5 (.int .u8 0) 1 rfl Try.underlying22 info5 rfl (by decide) (by omega) v460 y459 l0 _ _ _ (fun _ => True) (fun _ => False) rfl rfl ?aO ?aR (fun _ _ h => h) (fun _ h => h.elim) ?aF ?aB ?aS ?aL ?_; (case aR => exact zd HR0); (case aB => exact zb); (case aF => exact (fun _ _ => trivial)); (case aO => exact (zr HO461)); (case aS => exact (below_size zb)); (case aL => have := LMc23.out; omega); intro v463 w27 ho hb hg hat; rw [← Ny462.out] at ho; replace HB := zA hb; have HO464 := zA ho; clear HO461 ho hb hg hat) | ((with_reducible refine zt 25 ?_); refine Kd.R_lit (Kd.int .u8) _ 5 ?hg (N := 25) ?hd (xs := ([((wrap64 (a1 + 2147483648)) / 16777216) % 256, ((wrap64 (a1 + 2147483648)) / 65536) % 256, ((wrap64 (a1 + 2147483648)) / 256) % 256, (wrap64 (a1 + 2147483648)) % 256] : List Int)) (inner := [.int .u8 (((wrap64 (a1 + 2147483648)) / 16777216) % 256), .int .u8 (((wrap64 (a1 + 2147483648)) / 65536) % 256), .int .u8 (((wrap64 (a1 + 2147483648)) / 256) % 256), .int .u8 ((wrap64 (a1 + 2147483648)) % 256)]) (ok := fun _ => True) (okp := fun _ => True) ?hr ?hp (fun _ hk => hk) trivial (Below.refl _ _) (Nat.le_refl _) (by simp) ?_; (case hd => rfl); (case hg => rfl); (case hr => exact zz16); (case hp => exact (Reps.one (show Kd.M (Kd.int .u8) _ _ _ (((wrap64 (a1 + 2147483648)) / 16777216) % 256) [.int .u8 (((wrap64 (a1 + 2147483648)) / 16777216) % 256)] from rfl) (Reps.one (show Kd.M (Kd.int .u8) _ _ _ (((wrap64 (a1 + 2147483648)) / 65536) % 256) [.int .u8 (((wrap64 (a1 + 2147483648)) / 65536) % 256)] from rfl) (Reps.one (show Kd.M (Kd.int .u8) _ _ _ (((wrap64 (a1 + 2147483648)) / 256) % 256) [.int .u8 (((wrap64 (a1 + 2147483648)) / 256) % 256)] from rfl) (Reps.one (show Kd.M (Kd.int .u8) _ _ _ ((wrap64 (a1 + 2147483648)) % 256) [.int .u8 ((wrap64 (a1 + 2147483648)) % 256)] from rfl) (Reps.none _ _)))))); intro v466 w28 ho29 hb hg_ hnew_; clear hg_ hnew_; (first | rw [← Ny465.out] at ho29 | (simp only [Int.reduceToNat] at ho29; rw [← Ny465.out] at ho29)); have HO467 := zL (zN ho29 HO464); replace HO464 := zE HO464 ho29 hb; replace HB := zS hb; clear hb ho29; obtain ⟨Ao31, co31, eo31⟩ := Kd.R_slice HO467.out; subst eo31) | ((with_reducible refine gate_builtin (b := .append) (xs := #[.tmp 13, .tmp 25]) rfl ?_); at_builtin; refine Kd.R_append_rows (Kd.int .u8) (w0 := w) w.heap.size rfl (.tmp 13) (.tmp 25) 22 5 (.int .u8 0) 1 rfl Try.underlying22 info5 rfl (by decide) (by omega) v463 y462 y465 _ _ _ (fun k_ => some k_ ≠ (.slice Ao31 y465.length co31 : Value).ownBlock) (fun _ => False) rfl rfl ?aO ?aR (fun _ _ h => h) (fun _ h => h.elim) ?aF ?aB ?aS ?aL ?_; (case aR => exact ze HO467); (case aB => exact zb); (case aF => exact (fun k_ hk => Kd.fresh' (Kd.R_lt (zr HO467)) k_ hk)); (case aO => exact (by (with_reducible repeat (first | apply Kd.R_alloc | apply Kd.R_drewN | apply Kd.R_drew)); exact Kd.R_mono HO464.out (fun _ hk => hk.2))); (case aS => exact (below_size zb)); (case aL => have := LMc24.out; omega); intro v469 w30 ho hb hg hat; rw [← Ny468.out] at ho; replace HO467 := zA (Kd.R_after (ok := (fun _ => True)) (zr HO467) hg hat); replace HB := zA hb; have HO470 := zA ho; clear HO464 ho hb hg hat))
     go_ret
     exact ⟨_, zw, by (with_reducible repeat (first | apply Kd.R_alloc | apply Kd.R_drewN | apply Kd.R_drew)); exact Kd.R_mono HO470.out (fun _ hk => trivial), zb⟩
    ·rw [if_neg c24] at H
     exact absurd H (by simp)
   ·rw [if_neg c23] at H
    exact absurd H (by simp)

/-! ### spec_PutEsc: function 96 -/
def spec_PutEsc.l0 : Nat → ByteArray → List Int → Int → Option (List Int)
  | 0, _, _, _ => none
  | k + 1, x1, x5, x6 => if x6 < (x1.size : Int) then (if 0 ≤ x6 then (if x5.length < 140737488355328 then ((some (x5 ++ [bt x1 x6] : List Int)).bind fun y477 => (if (bt x1 x6) = 0 then (if y477.length < 140737488355328 then (spec_PutEsc.l0 k x1 (y477 ++ [255]) (wrap64 (x6 + 1))) else (none)) else (spec_PutEsc.l0 k x1 y477 (wrap64 (x6 + 1))))) else (none)) else (none)) else ((some (([0, 1] : List Int) : List Int)).bind fun y483 => (if x5.length + y483.length < 140737488355328 then (some (x5 ++ y483)) else (none)))
def spec_PutEsc.f (k : Nat) (l0 : List Int) (a1 : ByteArray) : Option (List Int) := (some (([] : List Int) : List Int)).bind fun y471 => (if y471.length + l0.length < 140737488355328 then (spec_PutEsc.l0 k a1 (y471 ++ l0) 0) else (none))
set_option maxHeartbeats 8000000 in
set_option maxRecDepth 100000 in
theorem spec_PutEsc.calls (k : Nat) (A0 : Option Addr) (c0 : Nat) (l0 : List Int) (a1 : ByteArray) (r : List Int) (w : World) (hr0 : Kd.C (Kd.int .u8) w A0 l0.length l0) (hc0 : l0.length ≤ c0) (h : spec_PutEsc.f k l0 a1 = some r) :
  Calls Try.prog 96 #[.slice A0 l0.length c0, .string a1] w fun e w' => ∃ v0_ : Value, e = .returned (v0_) ∧ Kd.R (Kd.int .u8) 5 w' w.heap.size (fun _ => True) v0_ r ∧ Below w.heap.size w w' := by
 have HR0 := zA hr0
 have HC0 := zA hc0
 clear hr0 hc0
 have HB := zA (Below.refl w.heap.size w)
 have H : ((some (([] : List Int) : List Int)).bind fun y471 => (if y471.length + l0.length < 140737488355328 then (spec_PutEsc.l0 k a1 (y471 ++ l0) 0) else (none))) = some r := h
 clear h
 obtain ⟨y471, hy471⟩ : ∃ y_ : List Int, y_ = (([] : List Int)) := ⟨_, rfl⟩
 replace H : (if y471.length + l0.length < 140737488355328 then (spec_PutEsc.l0 k a1 (y471 ++ l0) 0) else (none)) = some r := zy hy471
 have Ny471 := zA hy471
 clear hy471
 by_cases c3 : y471.length + l0.length < 140737488355328
 ·rw [if_pos c3] at H
  have LMc3 := zA c3
  clear c3
  obtain ⟨y474, hy474⟩ : ∃ y_ : List Int, y_ = (y471 ++ l0) := ⟨_, rfl⟩
  replace H : (spec_PutEsc.l0 k a1 y474 0) = some r := zy hy474
  have Ny474 := zA hy474
  clear hy474
  have H' := zA H
  clear H
  go_enter Try.func96, Try.ntmps96
  go_wp2_with (first | ((with_reducible refine zt 7 ?_); refine Kd.R_lit (Kd.int .u8) _ 5 ?hg (N := 7) ?hd (xs := ([] : List Int)) (inner := []) (ok := fun _ => True) (okp := fun _ => True) ?hr ?hp (fun _ hk => hk) trivial (Below.refl _ _) (Nat.le_refl _) (by simp) ?_; (case hd => rfl); (case hg => rfl); (case hr => exact zz16); (case hp => exact (Reps.none _ _)); intro v472 w4 ho5 hb hg_ hnew_; clear hg_ hnew_; (first | rw [← Ny471.out] at ho5 | (simp only [Int.reduceToNat] at ho5; rw [← Ny471.out] at ho5)); have HO473 := zL ho5; replace HB := zS hb; clear hb ho5) | ((with_reducible refine gate_builtin (b := .append) (xs := #[.tmp 7, .tmp 8]) rfl ?_); at_builtin; refine Kd.R_append_rows (Kd.int .u8) (w0 := w) w.heap.size rfl (.tmp 7) (.tmp 8) 22 5 (.int .u8 0) 1 rfl Try.underlying22 info5 rfl (by decide) (by omega) v472 y471 l0 _ _ _ (fun _ => True) (fun _ => False) rfl rfl ?aO ?aR (fun _ _ h => h) (fun _ h => h.elim) ?aF ?aB ?aS ?aL ?_; (case aR => exact zd HR0); (case aB => exact zb); (case aF => exact (fun _ _ => trivial)); (case aO => exact (zr HO473)); (case aS => exact (below_size zb)); (case aL => have := LMc3.out; omega); intro v475 w6 ho hb hg hat; rw [← Ny474.out] at ho; replace HB := zA hb; have HO476 := zA ho; clear HO473 ho hb hg hat))
  go_loopg [5, 6] k (fun kq v5 v6 w' => ∃ (x5_1 : List Int) (x6_1 : Int), v6 = .int .i64 x6_1 ∧ Aside0 (spec_PutEsc.l0 kq a1 x5_1 x6_1 = some r) ∧ Aside0 (kq ≤ k) ∧ Aside0 (Kd.R (Kd.int .u8) 5 w' w.heap.size (fun _ => True) v5 x5_1) ∧ Aside0 (Below w.heap.size w w'))
  case atStart => exact ⟨(y474), (0), zx, H', ⟨Nat.le_refl _⟩, ⟨zr HO476⟩, ⟨zb⟩⟩
  case round =>
   clear H'
   try clear c3
   obtain ⟨x5_1, x6_1, rfl, HA, HK1, HO_5, HB⟩ := hrel
   cases gk with
   | zero => exact absurd HA.out (by simp [spec_PutEsc.l0])
   | succ k1 =>
    have H := HA.out
    clear HA
    simp only [spec_PutEsc.l0] at H
    by_cases c7 : x6_1 < (a1.size : Int)
    ·rw [if_pos c7] at H
     have c7b0 : decide (x6_1 < (a1.size : Int)) = true := decide_eq_true c7
     clear c7
     by_cases c8 : 0 ≤ x6_1
     ·rw [if_pos c8] at H
      have c8b0 : decide (0 ≤ x6_1) = true := decide_eq_true c8
      clear c8
      by_cases c10 : x5_1.length < 140737488355328
      ·rw [if_pos c10] at H
       have LMc10 := zA c10
       clear c10
       obtain ⟨y477, hy477⟩ : ∃ y_ : List Int, y_ = (x5_1 ++ [bt a1 x6_1]) := ⟨_, rfl⟩
       replace H : (if (bt a1 x6_1) = 0 then (if y477.length < 140737488355328 then (spec_PutEsc.l0 k1 a1 (y477 ++ [255]) (wrap64 (x6_1 + 1))) else (none)) else (spec_PutEsc.l0 k1 a1 y477 (wrap64 (x6_1 + 1)))) = some r := zy hy477
       have Ny477 := zA hy477
       clear hy477
       by_cases c12 : (bt a1 x6_1) = 0
       ·rw [if_pos c12] at H
        have c12b0 : ((bt a1 x6_1) == 0) = true := beq_iff_eq.mpr c12
        have c12b1 : ((bt a1 x6_1) != 0) = false := bne_eq_false_iff_eq.mpr c12
        clear c12
        by_cases c13 : y477.length < 140737488355328
        ·rw [if_pos c13] at H
         have LMc13 := zA c13
         clear c13
         obtain ⟨y480, hy480⟩ : ∃ y_ : List Int, y_ = (y477 ++ [255]) := ⟨_, rfl⟩
         replace H : (spec_PutEsc.l0 k1 a1 y480 (wrap64 (x6_1 + 1))) = some r := zy hy480
         have Ny480 := zA hy480
         clear hy480
         have H' := zA H
         clear H
         have p9 : 0 ≤ (x6_1 : Int) := of_decide_eq_true za
         have q9 : x6_1 < (a1.size : Int) := of_decide_eq_true za
         have hx9 := bt_at a1 x6_1
         replace p9 := eq_true p9
         replace q9 := eq_true q9
         go_wp2_with (first | ((with_reducible refine gate_builtin (b := .append) (xs := #[.tmp 16, .tmp 20]) rfl ?_); at_builtin; refine Kd.R_append (Kd.int .u8) (w0 := w) w.heap.size rfl (.tmp 16) (.tmp 20) 22 5 (.int .u8 0) 1 rfl Try.underlying22 info5 rfl (by decide) (by omega) u5 x5_1 (bt a1 x6_1) [.int .u8 (bt a1 x6_1)] (fun _ => True) (fun _ => False) rfl rfl ?aP (fun _ hk => hk.elim) ?aF ?aO ?aB ?aS ?aL ?_; (case aP => exact rfl); (case aB => exact zb); (case aF => exact (fun _ _ => trivial)); (case aO => exact (zr HO_5)); (case aS => exact (below_size zb)); (case aL => have := LMc10.out; omega); intro v478 w14 ho hb hg hat; rw [← Ny477.out] at ho; replace HB := zA hb; have HO479 := zA ho; clear HO_5 ho hb hg hat; have p11 : 0 ≤ (x6_1 : Int) := of_decide_eq_true za; have q11 : x6_1 < (a1.size : Int) := of_decide_eq_true za; have hx11 := bt_at a1 x6_1; replace p11 := eq_true p11; replace q11 := eq_true q11) | ((with_reducible refine gate_builtin (b := .append) (xs := #[.tmp 26, .tmp 27]) rfl ?_); at_builtin; refine Kd.R_append (Kd.int .u8) (w0 := w) w.heap.size rfl (.tmp 26) (.tmp 27) 22 5 (.int .u8 0) 1 rfl Try.underlying22 info5 rfl (by decide) (by omega) v478 y477 255 [.int .u8 255] (fun _ => True) (fun _ => False) rfl rfl ?aP (fun _ hk => hk.elim) ?aF ?aO ?aB ?aS ?aL ?_; (case aP => exact rfl); (case aB => exact zb); (case aF => exact (fun _ _ => trivial)); (case aO => exact (zr HO479)); (case aS => exact (below_size zb)); (case aL => have := LMc13.out; omega); intro v481 w15 ho hb hg hat; rw [← Ny480.out] at ho; replace HB := zA hb; have HO482 := zA ho; clear HO479 ho hb hg hat))
         go_roundg k1
         case measure => have := HK1.out; omega
         case rel => exact ⟨(y480), (wrap64 (x6_1 + 1)), zx, H', ⟨zz79⟩, ⟨zr HO482⟩, ⟨zb⟩⟩
        ·rw [if_neg c13] at H
         exact absurd H (by simp)
       ·rw [if_neg c12] at H
        have c12b0 : ((bt a1 x6_1) == 0) = false := beq_eq_false_iff_ne.mpr c12
        have c12b1 : ((bt a1 x6_1) != 0) = true := bne_iff_ne.mpr c12
        have H' := zA H
        clear H
        have p9 : 0 ≤ (x6_1 : Int) := of_decide_eq_true za
        have q9 : x6_1 < (a1.size : Int) := of_decide_eq_true za
        have hx9 := bt_at a1 x6_1
        replace p9 := eq_true p9
        replace q9 := eq_true q9
        go_wp2_with (first | ((with_reducible refine gate_builtin (b := .append) (xs := #[.tmp 16, .tmp 20]) rfl ?_); at_builtin; refine Kd.R_append (Kd.int .u8) (w0 := w) w.heap.size rfl (.tmp 16) (.tmp 20) 22 5 (.int .u8 0) 1 rfl Try.underlying22 info5 rfl (by decide) (by omega) u5 x5_1 (bt a1 x6_1) [.int .u8 (bt a1 x6_1)] (fun _ => True) (fun _ => False) rfl rfl ?aP (fun _ hk => hk.elim) ?aF ?aO ?aB ?aS ?aL ?_; (case aP => exact rfl); (case aB => exact zb); (case aF => exact (fun _ _ => trivial)); (case aO => exact (zr HO_5)); (case aS => exact (below_size zb)); (case aL => have := LMc10.out; omega); intro v478 w16 ho hb hg hat; rw [← Ny477.out] at ho; replace HB := zA hb; have HO479 := zA ho; clear HO_5 ho hb hg hat; have p11 : 0 ≤ (x6_1 : Int) := of_decide_eq_true za; have q11 : x6_1 < (a1.size : Int) := of_decide_eq_true za; have hx11 := bt_at a1 x6_1; replace p11 := eq_true p11; replace q11 := eq_true q11))
        go_roundg k1
        case measure => have := HK1.out; omega
        case rel => exact ⟨(y477), (wrap64 (x6_1 + 1)), zx, H', ⟨zz79⟩, ⟨zr HO479⟩, ⟨zb⟩⟩
      ·rw [if_neg c10] at H
       exact absurd H (by simp)
     ·rw [if_neg c8] at H
      exact absurd H (by simp)
    ·rw [if_neg c7] at H
     have c7b0 : decide (x6_1 < (a1.size : Int)) = false := decide_eq_false c7
     clear c7
     obtain ⟨y483, hy483⟩ : ∃ y_ : List Int, y_ = (([0, 1] : List Int)) := ⟨_, rfl⟩
     replace H : (if x5_1.length + y483.length < 140737488355328 then (some (x5_1 ++ y483)) else (none)) = some r := zy hy483
     have Ny483 := zA hy483
     clear hy483
     by_cases c17 : x5_1.length + y483.length < 140737488355328
     ·rw [if_pos c17] at H
      have LMc17 := zA c17
      clear c17
      obtain ⟨y486, hy486⟩ : ∃ y_ : List Int, y_ = (x5_1 ++ y483) := ⟨_, rfl⟩
      replace H : (some y486) = some r := zy hy486
      have Ny486 := zA hy486
      clear hy486
      obtain rfl := Option.some.inj H
      go_wp2_with (first | ((with_reducible refine zt 30 ?_); refine Kd.R_lit (Kd.int .u8) _ 5 ?hg (N := 30) ?hd (xs := ([0, 1] : List Int)) (inner := [.int .u8 0, .int .u8 1]) (ok := fun _ => True) (okp := fun _ => True) ?hr ?hp (fun _ hk => hk) trivial (Below.refl _ _) (Nat.le_refl _) (by simp) ?_; (case hd => rfl); (case hg => rfl); (case hr => exact zz16); (case hp => exact (Reps.one (show Kd.M (Kd.int .u8) _ _ _ 0 [.int .u8 0] from rfl) (Reps.one (show Kd.M (Kd.int .u8) _ _ _ 1 [.int .u8 1] from rfl) (Reps.none _ _)))); intro v484 w18 ho19 hb hg_ hnew_; clear hg_ hnew_; (first | rw [← Ny483.out] at ho19 | (simp only [Int.reduceToNat] at ho19; rw [← Ny483.out] at ho19)); have HO485 := zL (zN ho19 HO_5); replace HO_5 := zE HO_5 ho19 hb; replace HB := zS hb; clear hb ho19; obtain ⟨Ao21, co21, eo21⟩ := Kd.R_slice HO485.out; subst eo21) | ((with_reducible refine gate_builtin (b := .append) (xs := #[.tmp 29, .tmp 30]) rfl ?_); at_builtin; refine Kd.R_append_rows (Kd.int .u8) (w0 := w) w.heap.size rfl (.tmp 29) (.tmp 30) 22 5 (.int .u8 0) 1 rfl Try.underlying22 info5 rfl (by decide) (by omega) u5 x5_1 y483 _ _ _ (fun k_ => some k_ ≠ (.slice Ao21 y483.length co21 : Value).ownBlock) (fun _ => False) rfl rfl ?aO ?aR (fun _ _ h => h) (fun _ h => h.elim) ?aF ?aB ?aS ?aL ?_; (case aR => exact ze HO485); (case aB => exact zb); (case aF => exact (fun k_ hk => Kd.fresh' (Kd.R_lt (zr HO485)) k_ hk)); (case aO => exact zz83); (case aS => exact (below_size zb)); (case aL => have := LMc17.out; omega); intro v487 w20 ho hb hg hat; rw [← Ny486.out] at ho; replace HO485 := zA (Kd.R_after (ok := (fun _ => True)) (zr HO485) hg hat); replace HB := zA hb; have HO488 := zA ho; clear HO_5 ho hb hg hat))
      go_ret
      exact ⟨_, zw, by (with_reducible repeat (first | apply Kd.R_alloc | apply Kd.R_drewN | apply Kd.R_drew)); exact Kd.R_mono HO488.out (fun _ hk => trivial), zb⟩
     ·rw [if_neg c17] at H
      exact absurd H (by simp)
 ·rw [if_neg c3] at H
  exact absurd H (by simp)

end Go.Proofs.Ytnfmpopmigbkoaa.PFnKeysRead

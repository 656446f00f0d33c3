-- Written by mkprint.py, a program of this session (the printer with additions of its own)
import Derived.Test.YtnfmpopmigbkoaaPFnPartsReadx0
import Derived.Test.YtnfmpopmigbkoaaPFnPartsReadx4
import Derived.Test.YtnfmpopmigbkoaaPFnPartsReadx5
namespace Go.Proofs.Ytnfmpopmigbkoaa.PFnPartsRead
open Go.RowKit Go.Proofs.YtnfmpopmigbkoaaW.PrintWords Go.Proofs.YtnfmpopmigbkoaaW.PrintLast Go.Proofs.YtnfmpopmigbkoaaW.PrintMore
attribute [local go_sem] max2_int min2_int max_two min_two max_three min_three max_four min_four   -- for this text's walks alone
set_option linter.unusedVariables false
set_option linter.unusedSimpArgs false

/-! ### spec_GetEsc: function 102 -/
mutual
def spec_GetEsc.l0 : Nat → List Int → Int → List Int → Option (ByteArray × Int × Bool)
  | 0, _, _, _ => none
  | k + 1, x0, x1, x7 => if x1 < (x0.length : Int) then (if 0 ≤ x1 then (if (rd x0 x1) = 0 then (if (wrap64 (x1 + 1)) = (x0.length : Int) then (spec_GetEsc.j1 k x0 x1 x7 true) else (if 0 ≤ (wrap64 (x1 + 1)) then (if (wrap64 (x1 + 1)) < (x0.length : Int) then (if (rd x0 (wrap64 (x1 + 1))) = 1 then (spec_GetEsc.j1 k x0 x1 x7 false) else (spec_GetEsc.j1 k x0 x1 x7 ((rd x0 (wrap64 (x1 + 1))) != 255))) else (none)) else (none))) else (if x7.length < 140737488355328 then (spec_GetEsc.l0 k x0 (wrap64 (x1 + 1)) (x7 ++ [rd x0 x1])) else (none))) else (none)) else (some ((⟨#[]⟩ : ByteArray), 0, false))
def spec_GetEsc.j1 : Nat → List Int → Int → List Int → Bool → Option (ByteArray × Int × Bool)
  | 0, _, _, _, _ => none
  | k + 1, x0, x1, x7, x48 => if x48 = true then (some ((⟨#[]⟩ : ByteArray), 0, false)) else (if 0 ≤ (wrap64 (x1 + 1)) then (if (wrap64 (x1 + 1)) < (x0.length : Int) then (if (rd x0 (wrap64 (x1 + 1))) = 1 then (some (strOfNums x7, wrap64 (x1 + 2), true)) else (if x7.length < 140737488355328 then (spec_GetEsc.l0 k x0 (wrap64 (x1 + 2)) (x7 ++ [0])) else (none))) else (none)) else (none))
end
def spec_GetEsc.f (k : Nat) (l0 : List Int) (a1 : Int) : Option (ByteArray × Int × Bool) := if a1 < 0 then (some ((⟨#[]⟩ : ByteArray), 0, false)) else (spec_GetEsc.l0 k l0 a1 (([] : List Int)))
theorem spec_GetEsc.mono_l : ∀ k, (∀ y0 y1 y2, LeO (spec_GetEsc.l0 k y0 y1 y2) (spec_GetEsc.l0 (k + 1) y0 y1 y2)) ∧ (∀ y0 y1 y2 y3, LeO (spec_GetEsc.j1 k y0 y1 y2 y3) (spec_GetEsc.j1 (k + 1) y0 y1 y2 y3))
  | 0 => ⟨fun _ _ _ r h => by simp [spec_GetEsc.l0] at h, fun _ _ _ _ r h => by simp [spec_GetEsc.j1] at h⟩
  | k + 1 => by
    obtain ⟨ih0, ih1⟩ := spec_GetEsc.mono_l k
    refine ⟨?_, ?_⟩
    · intro y0 y1 y2
      unfold spec_GetEsc.l0
      repeat' first
      | (with_reducible exact ih0 _ _ _)
      | (with_reducible exact ih1 _ _ _ _)
      | (with_reducible exact LeO.refl _)
      | (with_reducible exact LeO.none _)
      | (with_reducible refine LeO.ite ?_ ?_)
      | (with_reducible refine LeO.bind ?_ (fun _ => ?_))
      | exact ih0 _ _ _
      | exact ih1 _ _ _ _
      | exact LeO.none _
      | refine LeO.ite ?_ ?_
      | refine LeO.bind ?_ (fun _ => ?_)
    · intro y0 y1 y2 y3
      unfold spec_GetEsc.j1
      repeat' first
      | (with_reducible exact ih0 _ _ _)
      | (with_reducible exact ih1 _ _ _ _)
      | (with_reducible exact LeO.refl _)
      | (with_reducible exact LeO.none _)
      | (with_reducible refine LeO.ite ?_ ?_)
      | (with_reducible refine LeO.bind ?_ (fun _ => ?_))
      | exact ih0 _ _ _
      | exact ih1 _ _ _ _
      | exact LeO.none _
      | refine LeO.ite ?_ ?_
      | refine LeO.bind ?_ (fun _ => ?_)
theorem spec_GetEsc.mono : ∀ a0 a1 k, LeO (spec_GetEsc.f k a0 a1) (spec_GetEsc.f (k + 1) a0 a1) := by
  intro a0 a1 k
  obtain ⟨ih0, ih1⟩ := spec_GetEsc.mono_l k
  unfold spec_GetEsc.f
  repeat' first
      | (with_reducible exact ih0 _ _ _)
      | (with_reducible exact ih1 _ _ _ _)
      | (with_reducible exact LeO.refl _)
      | (with_reducible exact LeO.none _)
      | (with_reducible refine LeO.ite ?_ ?_)
      | (with_reducible refine LeO.bind ?_ (fun _ => ?_))
      | exact ih0 _ _ _
      | exact ih1 _ _ _ _
      | exact LeO.none _
      | refine LeO.ite ?_ ?_
      | refine LeO.bind ?_ (fun _ => ?_)
set_option maxHeartbeats 8000000 in
set_option maxRecDepth 100000 in
theorem spec_GetEsc.calls (k : Nat) (A0 : Option Addr) (c0 : Nat) (l0 : List Int) (a1 : Int) (r1 : ByteArray) (r2 : Int) (r3 : Bool) (w : World) (hr0 : Kd.C (Kd.int .u8) w A0 l0.length l0) (hc0 : l0.length ≤ c0) (h : spec_GetEsc.f k l0 a1 = some (r1, r2, r3)) :
  Calls Try.prog 102 #[.slice A0 l0.length c0, .int .i64 a1] w fun e w' => e = .returned (.tuple #[.string r1, .int .i64 r2, .bool r3]) ∧ Below w.heap.size w w' := by
 have HR0 := zA hr0
 have HC0 := zA hc0
 clear hr0 hc0
 have HB := zA (Below.refl w.heap.size w)
 have H : (if a1 < 0 then (some ((⟨#[]⟩ : ByteArray), 0, false)) else (spec_GetEsc.l0 k l0 a1 (([] : List Int)))) = some (r1, r2, r3) := h
 clear h
 obtain ⟨y275, hy275⟩ : ∃ y_ : List Int, y_ = (([] : List Int)) := ⟨_, rfl⟩
 replace H : (if a1 < 0 then (some ((⟨#[]⟩ : ByteArray), 0, false)) else (spec_GetEsc.l0 k l0 a1 y275)) = some (r1, r2, r3) := by first | (rw [hy275]; with_reducible exact H) | (have H2_ := (Option.bind_some _ _).symm.trans H; rw [hy275]; with_reducible exact H2_) | (have H2_ := (Option.bind_some _ _).symm.trans H; with_reducible exact H2_) | with_reducible exact H | (rw [hy275]; exact H) | exact H
 have Ny275 := zA hy275
 clear hy275
 by_cases c3 : a1 < 0
 ·rw [if_pos c3] at H
  have c3b0 : decide (a1 < 0) = true := decide_eq_true c3
  clear c3
  simp only [Option.some.injEq, Prod.mk.injEq] at H
  obtain ⟨rfl, rfl, rfl⟩ := H
  go_enter Try.func102, Try.ntmps102
  go_wp2_with (first | ((with_reducible refine zt 9 ?_); refine Kd.R_lit (Kd.int .u8) _ 5 ?hg (N := 9) ?hd (xs := ([] : List Int)) (inner := []) (ok := fun _ => True) (okp := fun _ => True) ?hr ?hp (fun _ hk => hk) trivial (Below.refl _ _) (Nat.le_refl _) (by simp) ?_; (case hd => rfl); (case hg => rfl); (case hr => exact zz35); (case hp => exact (Reps.none _ _)); intro v276 w4 ho5 hb hg_ hnew_; clear hg_ hnew_; (first | rw [← Ny275.out] at ho5 | (simp only [Int.reduceToNat] at ho5; rw [← Ny275.out] at ho5)); have HO277 := zL ho5; replace HB := zS hb; clear hb ho5))
  go_ret3
  exact ⟨zw, zb⟩
 ·rw [if_neg c3] at H
  have c3b0 : decide (a1 < 0) = false := decide_eq_false c3
  clear c3
  have H' := zA H
  clear H
  go_enter Try.func102, Try.ntmps102
  go_wp2_with (first | ((with_reducible refine zt 9 ?_); refine Kd.R_lit (Kd.int .u8) _ 5 ?hg (N := 9) ?hd (xs := ([] : List Int)) (inner := []) (ok := fun _ => True) (okp := fun _ => True) ?hr ?hp (fun _ hk => hk) trivial (Below.refl _ _) (Nat.le_refl _) (by simp) ?_; (case hd => rfl); (case hg => rfl); (case hr => exact zz35); (case hp => exact (Reps.none _ _)); intro v276 w6 ho7 hb hg_ hnew_; clear hg_ hnew_; (first | rw [← Ny275.out] at ho7 | (simp only [Int.reduceToNat] at ho7; rw [← Ny275.out] at ho7)); have HO277 := zL ho7; replace HB := zS hb; clear hb ho7))
  go_loopg [1, 7] k (fun kq v1 v7 w' => ∃ (x1_1 : Int) (x7_1 : List Int), v1 = .int .i64 x1_1 ∧ Aside0 (spec_GetEsc.l0 kq l0 x1_1 x7_1 = some (r1, r2, r3)) ∧ Aside0 (kq ≤ k) ∧ Aside0 (Kd.R (Kd.int .u8) 5 w' w.heap.size (fun _ => True) v7 x7_1) ∧ Aside0 (Below w.heap.size w w'))
  case atStart => exact ⟨(a1), (y275), zx, H', ⟨Nat.le_refl _⟩, ⟨zr HO277⟩, ⟨zb⟩⟩
  case round =>
   clear H'
   try clear c3; try clear c3b0
   obtain ⟨x1_1, x7_1, rfl, HA, HK1, HO_7, HB⟩ := hrel
   cases gk with
   | zero => exact absurd HA.out (by simp [spec_GetEsc.l0])
   | succ k1 =>
    have H := HA.out
    clear HA
    simp only [spec_GetEsc.l0] at H
    by_cases c8 : x1_1 < (l0.length : Int)
    ·rw [if_pos c8] at H
     have c8b0 : decide (x1_1 < (l0.length : Int)) = true := decide_eq_true c8
     clear c8
     by_cases c9 : 0 ≤ x1_1
     ·rw [if_pos c9] at H
      have c9b0 : decide (0 ≤ x1_1) = true := decide_eq_true c9
      clear c9
      by_cases c10 : (rd l0 x1_1) = 0
      ·rw [if_pos c10] at H
       have c10b0 : ((rd l0 x1_1) == 0) = true := beq_iff_eq.mpr c10
       have c10b1 : ((rd l0 x1_1) != 0) = false := bne_eq_false_iff_eq.mpr c10
       clear c10
       have HC11 := zA H
       clear H
       have p278 : 0 ≤ (x1_1 : Int) := of_decide_eq_true za
       have q278 : x1_1 < (l0.length : Int) := of_decide_eq_true za
       obtain ⟨ad278, e278, hx278_0⟩ := Kd.at_int HR0.out x1_1 p278 q278
       cases e278
       replace hx278_0 := (HB.out.cell (World.block_lt_of_cell? w _ hx278_0)).trans hx278_0
       replace p278 := eq_true p278
       replace q278 := eq_true q278
       go_upto_region 9 with (fail)
       go_cut [48] (fun v48 wc => ∃ (kq : Nat) (x48_10 : Bool), v48 = .bool x48_10 ∧ Aside0 (spec_GetEsc.j1 kq l0 x1_1 x7_1 x48_10 = some (r1, r2, r3)) ∧ Aside0 (kq ≤ k1) ∧ Aside0 (Kd.R (Kd.int .u8) 5 wc w.heap.size (fun _ => True) u7 x7_1) ∧ Aside0 (Below w.heap.size w wc))
       case first =>
        have H := HC11.out
        clear HC11
        by_cases c12 : (wrap64 (x1_1 + 1)) = (l0.length : Int)
        ·rw [if_pos c12] at H
         have c12b0 : ((wrap64 (x1_1 + 1)) == (l0.length : Int)) = true := beq_iff_eq.mpr c12
         have c12b1 : ((wrap64 (x1_1 + 1)) != (l0.length : Int)) = false := bne_eq_false_iff_eq.mpr c12
         clear c12
         (first | rw [c12b0] | (simp only [i64_w, i32_w]; rw [c12b0]) | skip)
         have H' := zA H
         clear H
         go_wp2
         go_meet
         case rel => exact ⟨_, (true), zx, H', ⟨zz98⟩, ⟨zr HO_7⟩, ⟨zb⟩⟩
        ·rw [if_neg c12] at H
         have c12b0 : ((wrap64 (x1_1 + 1)) == (l0.length : Int)) = false := beq_eq_false_iff_ne.mpr c12
         have c12b1 : ((wrap64 (x1_1 + 1)) != (l0.length : Int)) = true := bne_iff_ne.mpr c12
         (first | rw [c12b0] | (simp only [i64_w, i32_w]; rw [c12b0]) | skip)
         obtain ⟨ji13, hji13⟩ : ∃ j_ : Int, (wrap64 (x1_1 + 1)) = j_ := ⟨_, rfl⟩
         replace H : (if 0 ≤ (ji13) then (if (ji13) < (l0.length : Int) then (if (rd l0 (ji13)) = 1 then (spec_GetEsc.j1 k1 l0 x1_1 x7_1 false) else (spec_GetEsc.j1 k1 l0 x1_1 x7_1 ((rd l0 (ji13)) != 255))) else (none)) else (none)) = some (r1, r2, r3) := by first | (rw [hji13] at H; exact H) | (simp only [hji13] at H ⊢; exact H)
         (try rw [hji13] at c12b0)
         (try rw [hji13] at c12b1)
         have hji13w : (IntKind.i64.wrap (x1_1 + 1)) = ji13 := (i64_w _).trans hji13
         by_cases c14 : 0 ≤ (ji13)
         ·rw [if_pos c14] at H
          have c14b0 : decide (0 ≤ (ji13)) = true := decide_eq_true c14
          clear c14
          by_cases c15 : (ji13) < (l0.length : Int)
          ·rw [if_pos c15] at H
           have c15b0 : decide ((ji13) < (l0.length : Int)) = true := decide_eq_true c15
           clear c15
           by_cases c16 : (rd l0 (ji13)) = 1
           ·rw [if_pos c16] at H
            have c16b0 : ((rd l0 (ji13)) == 1) = true := beq_iff_eq.mpr c16
            have c16b1 : ((rd l0 (ji13)) != 1) = false := bne_eq_false_iff_eq.mpr c16
            clear c16
            have H' := zA H
            clear H
            have p282 : 0 ≤ ((ji13) : Int) := of_decide_eq_true za
            have q282 : (ji13) < (l0.length : Int) := of_decide_eq_true za
            obtain ⟨ad282, e282, hx282_0⟩ := Kd.at_int HR0.out (ji13) p282 q282
            obtain rfl : ad278 = ad282 := (by injection e282)
            replace hx282_0 := (HB.out.cell (World.block_lt_of_cell? w _ hx282_0)).trans hx282_0
            replace p282 := eq_true p282
            replace q282 := eq_true q282
            go_wp2
            go_meet
            case rel => exact ⟨_, (false), zx, H', ⟨zz98⟩, ⟨zr HO_7⟩, ⟨zb⟩⟩
           ·rw [if_neg c16] at H
            have c16b0 : ((rd l0 (ji13)) == 1) = false := beq_eq_false_iff_ne.mpr c16
            have c16b1 : ((rd l0 (ji13)) != 1) = true := bne_iff_ne.mpr c16
            have H' := zA H
            clear H
            have p282 : 0 ≤ ((ji13) : Int) := of_decide_eq_true za
            have q282 : (ji13) < (l0.length : Int) := of_decide_eq_true za
            obtain ⟨ad282, e282, hx282_0⟩ := Kd.at_int HR0.out (ji13) p282 q282
            obtain rfl : ad278 = ad282 := (by injection e282)
            replace hx282_0 := (HB.out.cell (World.block_lt_of_cell? w _ hx282_0)).trans hx282_0
            replace p282 := eq_true p282
            replace q282 := eq_true q282
            have p283 : 0 ≤ ((ji13) : Int) := of_decide_eq_true za
            have q283 : (ji13) < (l0.length : Int) := of_decide_eq_true za
            obtain ⟨ad283, e283, hx283_0⟩ := Kd.at_int HR0.out (ji13) p283 q283
            obtain rfl : ad278 = ad283 := (by injection e283)
            replace hx283_0 := (HB.out.cell (World.block_lt_of_cell? w _ hx283_0)).trans hx283_0
            replace p283 := eq_true p283
            replace q283 := eq_true q283
            go_wp2
            go_meet
            case rel => exact ⟨_, (((rd l0 (ji13)) != 255)), (by first | rfl | (simp; done) | (simp only [← hji13] <;> (first | rfl | simp)) | (simp [*]; done)), H', ⟨zz98⟩, ⟨zr HO_7⟩, ⟨zb⟩⟩
          ·rw [if_neg c15] at H
           exact absurd H (by simp)
         ·rw [if_neg c14] at H
          exact absurd H (by simp)
       case rest =>
        clear HC11
        try clear c3; try clear c3b0; try clear c8; try clear c8b0; try clear c9; try clear c9b0; try clear c10; try clear c10b0; try clear c10b1; try clear hx278_0; try clear p278; try clear q278
        obtain ⟨kq, x48_10, rfl, HA, HJ10, HO_7, HB⟩ := hcut
        cases kq with
        | zero => exact absurd HA.out (by simp [spec_GetEsc.j1])
        | succ kj10 =>
         have H := HA.out
         clear HA
         simp only [spec_GetEsc.j1] at H
         by_cases c17 : x48_10 = true
         ·subst c17
          rw [if_pos rfl] at H
          simp only [Option.some.injEq, Prod.mk.injEq] at H
          obtain ⟨rfl, rfl, rfl⟩ := H
          go_wp2
          go_ret3
          exact ⟨zw, zb⟩
         ·replace c17 := Bool.eq_false_iff.mpr c17
          subst c17
          rw [if_neg (Bool.false_ne_true)] at H
          obtain ⟨ji18, hji18⟩ : ∃ j_ : Int, (wrap64 (x1_1 + 1)) = j_ := ⟨_, rfl⟩
          replace H : (if 0 ≤ (ji18) then (if (ji18) < (l0.length : Int) then (if (rd l0 (ji18)) = 1 then (some (strOfNums x7_1, wrap64 (x1_1 + 2), true)) else (if x7_1.length < 140737488355328 then (spec_GetEsc.l0 kj10 l0 (wrap64 (x1_1 + 2)) (x7_1 ++ [0])) else (none))) else (none)) else (none)) = some (r1, r2, r3) := by first | (rw [hji18] at H; exact H) | (simp only [hji18] at H ⊢; exact H)
          have hji18w : (IntKind.i64.wrap (x1_1 + 1)) = ji18 := (i64_w _).trans hji18
          by_cases c19 : 0 ≤ (ji18)
          ·rw [if_pos c19] at H
           have c19b0 : decide (0 ≤ (ji18)) = true := decide_eq_true c19
           clear c19
           by_cases c20 : (ji18) < (l0.length : Int)
           ·rw [if_pos c20] at H
            have c20b0 : decide ((ji18) < (l0.length : Int)) = true := decide_eq_true c20
            clear c20
            by_cases c21 : (rd l0 (ji18)) = 1
            ·rw [if_pos c21] at H
             have c21b0 : ((rd l0 (ji18)) == 1) = true := beq_iff_eq.mpr c21
             have c21b1 : ((rd l0 (ji18)) != 1) = false := bne_eq_false_iff_eq.mpr c21
             clear c21
             simp only [Option.some.injEq, Prod.mk.injEq] at H
             obtain ⟨rfl, rfl, rfl⟩ := H
             have p284 : 0 ≤ ((ji18) : Int) := of_decide_eq_true za
             have q284 : (ji18) < (l0.length : Int) := of_decide_eq_true za
             obtain ⟨ad284, e284, hx284_0⟩ := Kd.at_int HR0.out (ji18) p284 q284
             obtain rfl : ad278 = ad284 := (by injection e284)
             replace hx284_0 := (HB.out.cell (World.block_lt_of_cell? w _ hx284_0)).trans hx284_0
             replace p284 := eq_true p284
             replace q284 := eq_true q284
             have hcv22 := own_string (P := Try.prog) Try.underlying22 Try.underlying5 Try.underlying9 (Kd.own_of_R HO_7.out)
             go_wp2
             go_ret3
             exact ⟨by first | rfl | (simp [errW_none, errW_some] <;> rfl) | (simp only [← hji18]; first | rfl | (simp [errW_none, errW_some] <;> rfl)) | (simp [*, errW_none, errW_some] <;> rfl), zb⟩
            ·rw [if_neg c21] at H
             have c21b0 : ((rd l0 (ji18)) == 1) = false := beq_eq_false_iff_ne.mpr c21
             have c21b1 : ((rd l0 (ji18)) != 1) = true := bne_iff_ne.mpr c21
             by_cases c23 : x7_1.length < 140737488355328
             ·rw [if_pos c23] at H
              have LMc23 := zA c23
              clear c23
              obtain ⟨y285, hy285⟩ : ∃ y_ : List Int, y_ = (x7_1 ++ [0]) := ⟨_, rfl⟩
              replace H : (spec_GetEsc.l0 kj10 l0 (wrap64 (x1_1 + 2)) y285) = some (r1, r2, r3) := by first | (rw [hy285]; with_reducible exact H) | (have H2_ := (Option.bind_some _ _).symm.trans H; rw [hy285]; with_reducible exact H2_) | (have H2_ := (Option.bind_some _ _).symm.trans H; with_reducible exact H2_) | with_reducible exact H | (rw [hy285]; exact H) | exact H
              have Ny285 := zA hy285
              clear hy285
              have H' := zA H
              clear H
              have p284 : 0 ≤ ((ji18) : Int) := of_decide_eq_true za
              have q284 : (ji18) < (l0.length : Int) := of_decide_eq_true za
              obtain ⟨ad284, e284, hx284_0⟩ := Kd.at_int HR0.out (ji18) p284 q284
              obtain rfl : ad278 = ad284 := (by injection e284)
              replace hx284_0 := (HB.out.cell (World.block_lt_of_cell? w _ hx284_0)).trans hx284_0
              replace p284 := eq_true p284
              replace q284 := eq_true q284
              go_wp2_with (first | ((with_reducible refine gate_builtin (b := .append) (xs := #[.tmp 59, .tmp 60]) rfl ?_); at_builtin; refine Kd.R_append (Kd.int .u8) (w0 := w) w.heap.size rfl (.tmp 59) (.tmp 60) 22 5 (.int .u8 0) 1 rfl Try.underlying22 info5 rfl (by decide) (by omega) u7 x7_1 0 [.int .u8 0] (fun _ => True) (fun _ => False) rfl rfl ?aP (fun _ hk => hk.elim) ?aF ?aO ?aB ?aS ?aL ?_; (case aP => exact rfl); (case aB => exact zb); (case aF => exact (fun _ _ => trivial)); (case aO => exact (zr HO_7)); (case aS => exact (below_size zb)); (case aL => have := LMc23.out; omega); intro v286 w24 ho hb hg hat; rw [← Ny285.out] at ho; replace HB := zA hb; have HO287 := zA ho; clear HO_7 ho hb hg hat))
              go_roundg kj10
              case measure => have := HK1.out; have := HJ10.out; omega
              case rel => exact ⟨(wrap64 (x1_1 + 2)), (y285), zx, H', ⟨by have := HK1.out; have := HJ10.out; omega⟩, ⟨zr HO287⟩, ⟨zb⟩⟩
             ·rw [if_neg c23] at H
              exact absurd H (by simp)
           ·rw [if_neg c20] at H
            exact absurd H (by simp)
          ·rw [if_neg c19] at H
           exact absurd H (by simp)
      ·rw [if_neg c10] at H
       have c10b0 : ((rd l0 x1_1) == 0) = false := beq_eq_false_iff_ne.mpr c10
       have c10b1 : ((rd l0 x1_1) != 0) = true := bne_iff_ne.mpr c10
       by_cases c25 : x7_1.length < 140737488355328
       ·rw [if_pos c25] at H
        have LMc25 := zA c25
        clear c25
        obtain ⟨y279, hy279⟩ : ∃ y_ : List Int, y_ = (x7_1 ++ [rd l0 x1_1]) := ⟨_, rfl⟩
        replace H : (spec_GetEsc.l0 k1 l0 (wrap64 (x1_1 + 1)) y279) = some (r1, r2, r3) := by first | (rw [hy279]; with_reducible exact H) | (have H2_ := (Option.bind_some _ _).symm.trans H; rw [hy279]; with_reducible exact H2_) | (have H2_ := (Option.bind_some _ _).symm.trans H; with_reducible exact H2_) | with_reducible exact H | (rw [hy279]; exact H) | exact H
        have Ny279 := zA hy279
        clear hy279
        have H' := zA H
        clear H
        have p278 : 0 ≤ (x1_1 : Int) := of_decide_eq_true za
        have q278 : x1_1 < (l0.length : Int) := of_decide_eq_true za
        obtain ⟨ad278, e278, hx278_0⟩ := Kd.at_int HR0.out x1_1 p278 q278
        cases e278
        replace hx278_0 := (HB.out.cell (World.block_lt_of_cell? w _ hx278_0)).trans hx278_0
        replace p278 := eq_true p278
        replace q278 := eq_true q278
        go_wp2_with (first | ((with_reducible refine gate_builtin (b := .append) (xs := #[.tmp 22, .tmp 24]) rfl ?_); at_builtin; refine Kd.R_append (Kd.int .u8) (w0 := w) w.heap.size rfl (.tmp 22) (.tmp 24) 22 5 (.int .u8 0) 1 rfl Try.underlying22 info5 rfl (by decide) (by omega) u7 x7_1 (rd l0 x1_1) [.int .u8 (rd l0 x1_1)] (fun _ => True) (fun _ => False) rfl rfl ?aP (fun _ hk => hk.elim) ?aF ?aO ?aB ?aS ?aL ?_; (case aP => exact rfl); (case aB => exact zb); (case aF => exact (fun _ _ => trivial)); (case aO => exact (zr HO_7)); (case aS => exact (below_size zb)); (case aL => have := LMc25.out; omega); intro v280 w26 ho hb hg hat; rw [← Ny279.out] at ho; replace HB := zA hb; have HO281 := zA ho; clear HO_7 ho hb hg hat))
        go_roundg k1
        case measure => have := HK1.out; omega
        case rel => exact ⟨(wrap64 (x1_1 + 1)), (y279), zx, H', ⟨zz95⟩, ⟨zr HO281⟩, ⟨zb⟩⟩
       ·rw [if_neg c25] at H
        exact absurd H (by simp)
     ·rw [if_neg c9] at H
      exact absurd H (by simp)
    ·rw [if_neg c8] at H
     have c8b0 : decide (x1_1 < (l0.length : Int)) = false := decide_eq_false c8
     clear c8
     simp only [Option.some.injEq, Prod.mk.injEq] at H
     obtain ⟨rfl, rfl, rfl⟩ := H
     go_wp2
     go_ret3
     exact ⟨zw, zb⟩

/-! ### spec_l5Get: function 71 -/
def spec_l5Get.f (k : Nat) (l0 : List Int) (a1 : Int) (a2 : Int) : Option (Int × Int × ByteArray × Int × Bool) := if a1 = 1 then ((spec_GetFix.f k l0 a2).bind fun bt290 => (some (a1, bt290.1, (⟨#[]⟩ : ByteArray), bt290.2.1, bt290.2.2))) else (if a1 = 2 then ((spec_GetVar.f k l0 a2).bind fun bt293 => (some (a1, bt293.1, (⟨#[]⟩ : ByteArray), bt293.2.1, bt293.2.2))) else (if a1 = 3 then ((spec_GetEsc.f k l0 a2).bind fun bt296 => (some (a1, 0, bt296.1, bt296.2.1, bt296.2.2))) else (if a2 ≥ 0 then (if a2 < (l0.length : Int) then (if 0 ≤ a2 then (some (a1, wrap64 (rd l0 a2), (⟨#[]⟩ : ByteArray), wrap64 (a2 + 1), true)) else (none)) else (some (a1, 0, (⟨#[]⟩ : ByteArray), 0, false))) else (some (a1, 0, (⟨#[]⟩ : ByteArray), 0, false)))))
theorem spec_l5Get.mono : ∀ a0 a1 a2 k, LeO (spec_l5Get.f k a0 a1 a2) (spec_l5Get.f (k + 1) a0 a1 a2) := by
  intro a0 a1 a2 k
  unfold spec_l5Get.f
  repeat' first
      | (with_reducible exact spec_GetEsc.mono _ _ _)
      | (with_reducible exact spec_GetFix.mono _ _ _)
      | (with_reducible exact spec_GetVar.mono _ _ _)
      | (with_reducible exact LeO.refl _)
      | (with_reducible exact LeO.none _)
      | (with_reducible refine LeO.ite ?_ ?_)
      | (with_reducible refine LeO.bind ?_ (fun _ => ?_))
      | exact spec_GetEsc.mono _ _ _
      | exact spec_GetFix.mono _ _ _
      | exact spec_GetVar.mono _ _ _
      | exact LeO.none _
      | refine LeO.ite ?_ ?_
      | refine LeO.bind ?_ (fun _ => ?_)
set_option maxHeartbeats 8000000 in
set_option maxRecDepth 100000 in
theorem spec_l5Get.calls (k : Nat) (A0 : Option Addr) (c0 : Nat) (l0 : List Int) (a1 : Int) (a2 : Int) (r1 : Int) (r2 : Int) (r3 : ByteArray) (r4 : Int) (r5 : Bool) (w : World) (hr0 : Kd.C (Kd.int .u8) w A0 l0.length l0) (hc0 : l0.length ≤ c0) (h : spec_l5Get.f k l0 a1 a2 = some (r1, r2, r3, r4, r5)) :
  Calls Try.prog 71 #[.slice A0 l0.length c0, .int .i64 a1, .int .i64 a2] w fun e w' => e = .returned (.tuple #[.agg #[.int .i64 r1, .int .i64 r2, .string r3], .int .i64 r4, .bool r5]) ∧ Below w.heap.size w w' := by
 have hu32 := Try.underlying32
 have HR0 := zA hr0
 have HC0 := zA hc0
 clear hr0 hc0
 have HB := zA (Below.refl w.heap.size w)
 have H : (if a1 = 1 then ((spec_GetFix.f k l0 a2).bind fun bt290 => (some (a1, bt290.1, (⟨#[]⟩ : ByteArray), bt290.2.1, bt290.2.2))) else (if a1 = 2 then ((spec_GetVar.f k l0 a2).bind fun bt293 => (some (a1, bt293.1, (⟨#[]⟩ : ByteArray), bt293.2.1, bt293.2.2))) else (if a1 = 3 then ((spec_GetEsc.f k l0 a2).bind fun bt296 => (some (a1, 0, bt296.1, bt296.2.1, bt296.2.2))) else (if a2 ≥ 0 then (if a2 < (l0.length : Int) then (if 0 ≤ a2 then (some (a1, wrap64 (rd l0 a2), (⟨#[]⟩ : ByteArray), wrap64 (a2 + 1), true)) else (none)) else (some (a1, 0, (⟨#[]⟩ : ByteArray), 0, false))) else (some (a1, 0, (⟨#[]⟩ : ByteArray), 0, false)))))) = some (r1, r2, r3, r4, r5) := h
 clear h
 by_cases c4 : a1 = 1
 ·rw [if_pos c4] at H
  have c4b0 : (a1 == 1) = true := beq_iff_eq.mpr c4
  have c4b1 : (a1 != 1) = false := bne_eq_false_iff_eq.mpr c4
  clear c4
  replace H := zI H
  obtain ⟨⟨t290, t291, t292⟩, A5, H⟩ := H
  try dsimp only at H
  simp only [Option.some.injEq, Prod.mk.injEq] at H
  obtain ⟨rfl, rfl, rfl, rfl, rfl⟩ := H
  go_enter Try.func71, Try.ntmps71
  go_wp2_with (first | ((with_reducible refine zt 6 ?_); (try (refine gate_guard (by rfl) ?_; dsimp only)); refine zn #[.int .i64 0, .int .i64 0, .string (⟨#[]⟩ : ByteArray)] 32 ?_; intro gb288 hg w6 hbox hb; have BK288 := zA hbox; have GW288 := zG hg; have GE288 := zG hg; replace HB := zS hb; clear hb hbox hg) | ((with_reducible refine zt 9 ?_); (try (refine gate_guard (by rfl) ?_; dsimp only)); refine zn #[.int .i64 0, .int .i64 0, .string (⟨#[]⟩ : ByteArray)] 32 ?_; intro gb289 hg w7 hbox hb; have BK289 := zA hbox; have GW289 := zG hg (zb1 GE288); have GE289 := zG hg (zb1 GE288); replace HB := zS hb (zb1 GE288); have NB288_289 := zX BK288 hg; have NB289_288 := zY BK288 hg; replace BK288 := zB BK288 hb; clear hb hbox hg; have hnb8 := NB289_288.out; have hnc8 := NB288_289.out; obtain ⟨hcz9_0, hcz9_1, hcz9_2, hfz9_0, hfz9_1, hfz9_2⟩ := zh3 BK289) | ((with_reducible refine gate_store (t := 32) (p := 9) rfl ?_); refine store_event (t := 32) (p := 9) (v := ?vo_w10) (w1 := (((w7.setCell ⟨gb289, 0, none⟩ (.int .i64 a1)).setCell ⟨gb289, 1, none⟩ (.int .i64 0)).setCell ⟨gb289, 2, none⟩ (.string (⟨#[]⟩ : ByteArray)))) ?hg ?ho ?hn ?hr ?_; (case ho => rfl); (case hg => rfl); (case hn => rfl); (case hr => exact zz35); intro w10 hw; replace BK288 : Aside0 (w10.heap[gb288]? = some (.cells #[.int .i64 0, .int .i64 0, .string (⟨#[]⟩ : ByteArray)] 32 (0, 0))) := ⟨(by rw [hw]; exact zz23)⟩; replace BK289 : Aside0 (w10.heap[gb289]? = some (.cells #[.int .i64 a1, .int .i64 0, .string (⟨#[]⟩ : ByteArray)] 32 (0, 0))) := ⟨(by rw [hw]; exact zz12)⟩; replace HB : Aside0 (Below w.heap.size w w10) := ⟨zz99⟩; clear hw) | ((with_reducible refine zg 100 ?_); refine gL (some 36) Try.func100 #[.slice A0 l0.length c0, .int .i64 a2] ?_; (with_reducible refine (spec_GetFix.calls k _ _ l0 a2 t290 t291 t292 _ ?z1 ?z2 A5.out).mono ?_); (case z1 => exact zd HR0); (case z2 => exact HC0.out); rintro e w' ⟨rfl, ⟨nd, rfl⟩⟩; refine ⟨_, rfl, ?_⟩; (try (rw [drewN_self w10]; generalize hq_ : World.drewN w10 _ = w10; replace BK288 : Aside0 (w10.heap[gb288]? = some (.cells #[.int .i64 0, .int .i64 0, .string (⟨#[]⟩ : ByteArray)] 32 (0, 0))) := ⟨by rw [← hq_]; exact (zk BK288)⟩; replace BK289 : Aside0 (w10.heap[gb289]? = some (.cells #[.int .i64 a1, .int .i64 0, .string (⟨#[]⟩ : ByteArray)] 32 (0, 0))) := ⟨by rw [← hq_]; exact (zk BK289)⟩; replace HB : Aside0 (Below w.heap.size w w10) := ⟨by rw [← hq_]; exact (zb2 GE288 GE289)⟩; clear hq_)); obtain ⟨hcz11_0, hcz11_1, hcz11_2, hfz11_0, hfz11_1, hfz11_2⟩ := zh3 BK289) | ((with_reducible refine gate_store (t := 3) (p := 40) rfl ?_); refine store_event (t := 3) (p := 40) (v := ?vo_w12) (w1 := (w10.setCell ⟨gb289, 1, none⟩ (.int .i64 t290))) ?hg ?ho ?hn ?hr ?_; (case ho => rfl); (case hg => rfl); (case hn => rfl); (case hr => exact zz35); intro w12 hw; replace BK288 : Aside0 (w12.heap[gb288]? = some (.cells #[.int .i64 0, .int .i64 0, .string (⟨#[]⟩ : ByteArray)] 32 (0, 0))) := ⟨(by rw [hw]; exact zz67)⟩; replace BK289 : Aside0 (w12.heap[gb289]? = some (.cells #[.int .i64 a1, .int .i64 t290, .string (⟨#[]⟩ : ByteArray)] 32 (0, 0))) := ⟨(by rw [hw]; exact zz70)⟩; replace HB : Aside0 (Below w.heap.size w w12) := ⟨zz99⟩; clear hw; obtain ⟨hcz13_0, hcz13_1, hcz13_2, hfz13_0, hfz13_1, hfz13_2⟩ := zh3 BK289; obtain ⟨hcz14_0, hcz14_1, hcz14_2, hfz14_0, hfz14_1, hfz14_2⟩ := zh3 BK288))
  refine bodyPost_ret (results_ctt rfl _ _ gb288 32 #[.int .i64 a1, .int .i64 t290, .string (⟨#[]⟩ : ByteArray)] (0, 0) _ rfl (by (with_reducible repeat (first | refine blk_drewN ?_ _ | refine blk_drew ?_ | refine blk_alloc ?_ _)); refine blk_put (cs := #[.int .i64 a1, .int .i64 t290, .string (⟨#[]⟩ : ByteArray)]) ?_ 2 _ rfl; (with_reducible repeat (first | refine blk_drewN ?_ _ | refine blk_drew ?_ | refine blk_alloc ?_ _)); refine blk_put (cs := #[.int .i64 a1, .int .i64 0, .string (⟨#[]⟩ : ByteArray)]) ?_ 1 _ rfl; (with_reducible repeat (first | refine blk_drewN ?_ _ | refine blk_drew ?_ | refine blk_alloc ?_ _)); refine blk_put (cs := #[.int .i64 0, .int .i64 0, .string (⟨#[]⟩ : ByteArray)]) ?_ 0 _ rfl; (with_reducible repeat (first | refine blk_drewN ?_ _ | refine blk_drew ?_ | refine blk_alloc ?_ _)); exact BK288.out) Try.underlying32 rfl (by kernel_rfl)) rfl ?_
  exact ⟨zw, zb2 GE288 GE289⟩
 ·rw [if_neg c4] at H
  have c4b0 : (a1 == 1) = false := beq_eq_false_iff_ne.mpr c4
  have c4b1 : (a1 != 1) = true := bne_iff_ne.mpr c4
  by_cases c15 : a1 = 2
  ·rw [if_pos c15] at H
   have c15b0 : (a1 == 2) = true := beq_iff_eq.mpr c15
   have c15b1 : (a1 != 2) = false := bne_eq_false_iff_eq.mpr c15
   clear c15
   replace H := zI H
   obtain ⟨⟨t293, t294, t295⟩, A16, H⟩ := H
   try dsimp only at H
   simp only [Option.some.injEq, Prod.mk.injEq] at H
   obtain ⟨rfl, rfl, rfl, rfl, rfl⟩ := H
   go_enter Try.func71, Try.ntmps71
   go_wp2_with (first | ((with_reducible refine zt 6 ?_); (try (refine gate_guard (by rfl) ?_; dsimp only)); refine zn #[.int .i64 0, .int .i64 0, .string (⟨#[]⟩ : ByteArray)] 32 ?_; intro gb288 hg w17 hbox hb; have BK288 := zA hbox; have GW288 := zG hg; have GE288 := zG hg; replace HB := zS hb; clear hb hbox hg) | ((with_reducible refine zt 9 ?_); (try (refine gate_guard (by rfl) ?_; dsimp only)); refine zn #[.int .i64 0, .int .i64 0, .string (⟨#[]⟩ : ByteArray)] 32 ?_; intro gb289 hg w18 hbox hb; have BK289 := zA hbox; have GW289 := zG hg (zb1 GE288); have GE289 := zG hg (zb1 GE288); replace HB := zS hb (zb1 GE288); have NB288_289 := zX BK288 hg; have NB289_288 := zY BK288 hg; replace BK288 := zB BK288 hb; clear hb hbox hg; have hnb19 := NB289_288.out; have hnc19 := NB288_289.out; obtain ⟨hcz20_0, hcz20_1, hcz20_2, hfz20_0, hfz20_1, hfz20_2⟩ := zh3 BK289) | ((with_reducible refine zg 101 ?_); refine gL (some 46) Try.func101 #[.slice A0 l0.length c0, .int .i64 a2] ?_; (with_reducible refine (spec_GetVar.calls k _ _ l0 a2 t293 t294 t295 _ ?z1 ?z2 A16.out).mono ?_); (case z1 => exact Kd.C_below HR0.out (zb2 GE288 GE289)); (case z2 => exact HC0.out); rintro e w21 ⟨rfl, hb⟩; refine ⟨_, rfl, ?_⟩; replace BK288 := zA (blk_below (g := gb288) (o := .cells #[.int .i64 0, .int .i64 0, .string (⟨#[]⟩ : ByteArray)] 32 (0, 0)) zz23 hb); replace BK289 := zA (blk_below (g := gb289) (o := .cells #[.int .i64 a1, .int .i64 0, .string (⟨#[]⟩ : ByteArray)] 32 (0, 0)) zz12 hb); replace HB := zS hb (zb2 GE288 GE289); (try clear hb); obtain ⟨hcz22_0, hcz22_1, hcz22_2, hfz22_0, hfz22_1, hfz22_2⟩ := zh3 BK289) | ((with_reducible refine gate_store (t := 3) (p := 50) rfl ?_); refine store_event (t := 3) (p := 50) (v := ?vo_w23) (w1 := (w21.setCell ⟨gb289, 1, none⟩ (.int .i64 t293))) ?hg ?ho ?hn ?hr ?_; (case ho => rfl); (case hg => rfl); (case hn => rfl); (case hr => exact zz35); intro w23 hw; replace BK288 : Aside0 (w23.heap[gb288]? = some (.cells #[.int .i64 0, .int .i64 0, .string (⟨#[]⟩ : ByteArray)] 32 (0, 0))) := ⟨(by rw [hw]; exact zz67)⟩; replace BK289 : Aside0 (w23.heap[gb289]? = some (.cells #[.int .i64 a1, .int .i64 t293, .string (⟨#[]⟩ : ByteArray)] 32 (0, 0))) := ⟨(by rw [hw]; exact zz70)⟩; replace HB : Aside0 (Below w.heap.size w w23) := ⟨zz99⟩; clear hw; obtain ⟨hcz24_0, hcz24_1, hcz24_2, hfz24_0, hfz24_1, hfz24_2⟩ := zh3 BK289; obtain ⟨hcz25_0, hcz25_1, hcz25_2, hfz25_0, hfz25_1, hfz25_2⟩ := zh3 BK288))
   refine bodyPost_ret (results_ctt rfl _ _ gb288 32 #[.int .i64 a1, .int .i64 t293, .string (⟨#[]⟩ : ByteArray)] (0, 0) _ rfl (by (with_reducible repeat (first | refine blk_drewN ?_ _ | refine blk_drew ?_ | refine blk_alloc ?_ _)); refine blk_put (cs := #[.int .i64 a1, .int .i64 t293, .string (⟨#[]⟩ : ByteArray)]) ?_ 2 _ rfl; (with_reducible repeat (first | refine blk_drewN ?_ _ | refine blk_drew ?_ | refine blk_alloc ?_ _)); refine blk_put (cs := #[.int .i64 a1, .int .i64 0, .string (⟨#[]⟩ : ByteArray)]) ?_ 1 _ rfl; (with_reducible repeat (first | refine blk_drewN ?_ _ | refine blk_drew ?_ | refine blk_alloc ?_ _)); refine blk_put (cs := #[.int .i64 0, .int .i64 0, .string (⟨#[]⟩ : ByteArray)]) ?_ 0 _ rfl; (with_reducible repeat (first | refine blk_drewN ?_ _ | refine blk_drew ?_ | refine blk_alloc ?_ _)); exact BK288.out) Try.underlying32 rfl (by kernel_rfl)) rfl ?_
   exact ⟨zw, zb2 GE288 GE289⟩
  ·rw [if_neg c15] at H
   have c15b0 : (a1 == 2) = false := beq_eq_false_iff_ne.mpr c15
   have c15b1 : (a1 != 2) = true := bne_iff_ne.mpr c15
   by_cases c26 : a1 = 3
   ·rw [if_pos c26] at H
    have c26b0 : (a1 == 3) = true := beq_iff_eq.mpr c26
    have c26b1 : (a1 != 3) = false := bne_eq_false_iff_eq.mpr c26
    clear c26
    replace H := zI H
    obtain ⟨⟨t296, t297, t298⟩, A27, H⟩ := H
    try dsimp only at H
    simp only [Option.some.injEq, Prod.mk.injEq] at H
    obtain ⟨rfl, rfl, rfl, rfl, rfl⟩ := H
    go_enter Try.func71, Try.ntmps71
    go_wp2_with (first | ((with_reducible refine zt 6 ?_); (try (refine gate_guard (by rfl) ?_; dsimp only)); refine zn #[.int .i64 0, .int .i64 0, .string (⟨#[]⟩ : ByteArray)] 32 ?_; intro gb288 hg w28 hbox hb; have BK288 := zA hbox; have GW288 := zG hg; have GE288 := zG hg; replace HB := zS hb; clear hb hbox hg) | ((with_reducible refine zt 9 ?_); (try (refine gate_guard (by rfl) ?_; dsimp only)); refine zn #[.int .i64 0, .int .i64 0, .string (⟨#[]⟩ : ByteArray)] 32 ?_; intro gb289 hg w29 hbox hb; have BK289 := zA hbox; have GW289 := zG hg (zb1 GE288); have GE289 := zG hg (zb1 GE288); replace HB := zS hb (zb1 GE288); have NB288_289 := zX BK288 hg; have NB289_288 := zY BK288 hg; replace BK288 := zB BK288 hb; clear hb hbox hg; have hnb30 := NB289_288.out; have hnc30 := NB288_289.out; obtain ⟨hcz31_0, hcz31_1, hcz31_2, hfz31_0, hfz31_1, hfz31_2⟩ := zh3 BK289) | ((with_reducible refine zg 102 ?_); refine gL (some 56) Try.func102 #[.slice A0 l0.length c0, .int .i64 a2] ?_; (with_reducible refine (spec_GetEsc.calls k _ _ l0 a2 t296 t297 t298 _ ?z1 ?z2 A27.out).mono ?_); (case z1 => exact Kd.C_below HR0.out (zb2 GE288 GE289)); (case z2 => exact HC0.out); rintro e w32 ⟨rfl, hb⟩; refine ⟨_, rfl, ?_⟩; replace BK288 := zA (blk_below (g := gb288) (o := .cells #[.int .i64 0, .int .i64 0, .string (⟨#[]⟩ : ByteArray)] 32 (0, 0)) zz23 hb); replace BK289 := zA (blk_below (g := gb289) (o := .cells #[.int .i64 a1, .int .i64 0, .string (⟨#[]⟩ : ByteArray)] 32 (0, 0)) zz12 hb); replace HB := zS hb (zb2 GE288 GE289); (try clear hb); obtain ⟨hcz33_0, hcz33_1, hcz33_2, hfz33_0, hfz33_1, hfz33_2⟩ := zh3 BK289) | ((with_reducible refine gate_store (t := 9) (p := 60) rfl ?_); refine store_event (t := 9) (p := 60) (v := ?vo_w34) (w1 := (w32.setCell ⟨gb289, 2, none⟩ (.string t296))) ?hg ?ho ?hn ?hr ?_; (case ho => rfl); (case hg => rfl); (case hn => rfl); (case hr => exact zz35); intro w34 hw; replace BK288 : Aside0 (w34.heap[gb288]? = some (.cells #[.int .i64 0, .int .i64 0, .string (⟨#[]⟩ : ByteArray)] 32 (0, 0))) := ⟨(by rw [hw]; exact zz67)⟩; replace BK289 : Aside0 (w34.heap[gb289]? = some (.cells #[.int .i64 a1, .int .i64 0, .string t296] 32 (0, 0))) := ⟨(by rw [hw]; exact (by (with_reducible repeat (first | refine blk_drewN ?_ _ | refine blk_drew ?_ | refine blk_alloc ?_ _)); refine blk_put (cs := #[.int .i64 a1, .int .i64 0, .string (⟨#[]⟩ : ByteArray)]) ?_ 2 _ rfl; (with_reducible repeat (first | refine blk_drewN ?_ _ | refine blk_drew ?_ | refine blk_alloc ?_ _)); exact BK289.out))⟩; replace HB : Aside0 (Below w.heap.size w w34) := ⟨zz99⟩; clear hw; obtain ⟨hcz35_0, hcz35_1, hcz35_2, hfz35_0, hfz35_1, hfz35_2⟩ := zh3 BK289; obtain ⟨hcz36_0, hcz36_1, hcz36_2, hfz36_0, hfz36_1, hfz36_2⟩ := zh3 BK288))
    refine bodyPost_ret (results_ctt rfl _ _ gb288 32 #[.int .i64 a1, .int .i64 0, .string t296] (0, 0) _ rfl zz38 Try.underlying32 rfl (by kernel_rfl)) rfl ?_
    exact ⟨zw, zb2 GE288 GE289⟩
   ·rw [if_neg c26] at H
    have c26b0 : (a1 == 3) = false := beq_eq_false_iff_ne.mpr c26
    have c26b1 : (a1 != 3) = true := bne_iff_ne.mpr c26
    by_cases c37 : a2 ≥ 0
    ·rw [if_pos c37] at H
     have c37b0 : decide (0 ≤ a2) = true := decide_eq_true c37
     clear c37
     by_cases c38 : a2 < (l0.length : Int)
     ·rw [if_pos c38] at H
      have c38b0 : decide (a2 < (l0.length : Int)) = true := decide_eq_true c38
      clear c38
      by_cases c39 : 0 ≤ a2
      ·rw [if_pos c39] at H
       have c39b0 : decide (0 ≤ a2) = true := decide_eq_true c39
       clear c39
       simp only [Option.some.injEq, Prod.mk.injEq] at H
       obtain ⟨rfl, rfl, rfl, rfl, rfl⟩ := H
       go_enter Try.func71, Try.ntmps71
       go_wp2_with (first | ((with_reducible refine zt 6 ?_); (try (refine gate_guard (by rfl) ?_; dsimp only)); refine zn #[.int .i64 0, .int .i64 0, .string (⟨#[]⟩ : ByteArray)] 32 ?_; intro gb288 hg w40 hbox hb; have BK288 := zA hbox; have GW288 := zG hg; have GE288 := zG hg; replace HB := zS hb; clear hb hbox hg) | ((with_reducible refine zt 9 ?_); (try (refine gate_guard (by rfl) ?_; dsimp only)); refine zn #[.int .i64 0, .int .i64 0, .string (⟨#[]⟩ : ByteArray)] 32 ?_; intro gb289 hg w41 hbox hb; have BK289 := zA hbox; have GW289 := zG hg (zb1 GE288); have GE289 := zG hg (zb1 GE288); replace HB := zS hb (zb1 GE288); have NB288_289 := zX BK288 hg; have NB289_288 := zY BK288 hg; replace BK288 := zB BK288 hb; clear hb hbox hg; have hnb42 := NB289_288.out; have hnc42 := NB288_289.out; obtain ⟨hcz43_0, hcz43_1, hcz43_2, hfz43_0, hfz43_1, hfz43_2⟩ := zh3 BK289) | ((with_reducible refine gate_store (t := 32) (p := 9) rfl ?_); refine store_event (t := 32) (p := 9) (v := ?vo_w44) (w1 := (((w41.setCell ⟨gb289, 0, none⟩ (.int .i64 a1)).setCell ⟨gb289, 1, none⟩ (.int .i64 0)).setCell ⟨gb289, 2, none⟩ (.string (⟨#[]⟩ : ByteArray)))) ?hg ?ho ?hn ?hr ?_; (case ho => rfl); (case hg => rfl); (case hn => rfl); (case hr => exact zz35); intro w44 hw; replace BK288 : Aside0 (w44.heap[gb288]? = some (.cells #[.int .i64 0, .int .i64 0, .string (⟨#[]⟩ : ByteArray)] 32 (0, 0))) := ⟨(by rw [hw]; exact zz23)⟩; replace BK289 : Aside0 (w44.heap[gb289]? = some (.cells #[.int .i64 a1, .int .i64 0, .string (⟨#[]⟩ : ByteArray)] 32 (0, 0))) := ⟨(by rw [hw]; exact zz12)⟩; replace HB : Aside0 (Below w.heap.size w w44) := ⟨zz99⟩; clear hw; have p299 : 0 ≤ (a2 : Int) := of_decide_eq_true za; have q299 : a2 < (l0.length : Int) := of_decide_eq_true za; obtain ⟨ad299, e299, hx299_0⟩ := Kd.at_int HR0.out a2 p299 q299; cases e299; replace hx299_0 := (HB.out.cell (World.block_lt_of_cell? w _ hx299_0)).trans hx299_0; replace p299 := eq_true p299; replace q299 := eq_true q299; obtain ⟨hcz45_0, hcz45_1, hcz45_2, hfz45_0, hfz45_1, hfz45_2⟩ := zh3 BK289) | ((with_reducible refine gate_store (t := 3) (p := 28) rfl ?_); refine store_event (t := 3) (p := 28) (v := ?vo_w46) (w1 := (w44.setCell ⟨gb289, 1, none⟩ (.int .i64 (wrap64 (rd l0 a2))))) ?hg ?ho ?hn ?hr ?_; (case ho => rfl); (case hg => rfl); (case hn => rfl); (case hr => exact zz35); intro w46 hw; replace BK288 : Aside0 (w46.heap[gb288]? = some (.cells #[.int .i64 0, .int .i64 0, .string (⟨#[]⟩ : ByteArray)] 32 (0, 0))) := ⟨(by rw [hw]; exact zz67)⟩; replace BK289 : Aside0 (w46.heap[gb289]? = some (.cells #[.int .i64 a1, .int .i64 (wrap64 (rd l0 a2)), .string (⟨#[]⟩ : ByteArray)] 32 (0, 0))) := ⟨(by rw [hw]; exact zz70)⟩; replace HB : Aside0 (Below w.heap.size w w46) := ⟨zz99⟩; clear hw; obtain ⟨hcz47_0, hcz47_1, hcz47_2, hfz47_0, hfz47_1, hfz47_2⟩ := zh3 BK289; obtain ⟨hcz48_0, hcz48_1, hcz48_2, hfz48_0, hfz48_1, hfz48_2⟩ := zh3 BK288))
       refine bodyPost_ret (results_ctt rfl _ _ gb288 32 #[.int .i64 a1, .int .i64 (wrap64 (rd l0 a2)), .string (⟨#[]⟩ : ByteArray)] (0, 0) _ rfl (by (with_reducible repeat (first | refine blk_drewN ?_ _ | refine blk_drew ?_ | refine blk_alloc ?_ _)); refine blk_put (cs := #[.int .i64 a1, .int .i64 (wrap64 (rd l0 a2)), .string (⟨#[]⟩ : ByteArray)]) ?_ 2 _ rfl; (with_reducible repeat (first | refine blk_drewN ?_ _ | refine blk_drew ?_ | refine blk_alloc ?_ _)); refine blk_put (cs := #[.int .i64 a1, .int .i64 0, .string (⟨#[]⟩ : ByteArray)]) ?_ 1 _ rfl; (with_reducible repeat (first | refine blk_drewN ?_ _ | refine blk_drew ?_ | refine blk_alloc ?_ _)); refine blk_put (cs := #[.int .i64 0, .int .i64 0, .string (⟨#[]⟩ : ByteArray)]) ?_ 0 _ rfl; (with_reducible repeat (first | refine blk_drewN ?_ _ | refine blk_drew ?_ | refine blk_alloc ?_ _)); exact BK288.out) Try.underlying32 rfl (by kernel_rfl)) rfl ?_
       exact ⟨zw, zb2 GE288 GE289⟩
      ·rw [if_neg c39] at H
       exact absurd H (by simp)
     ·rw [if_neg c38] at H
      have c38b0 : decide (a2 < (l0.length : Int)) = false := decide_eq_false c38
      clear c38
      simp only [Option.some.injEq, Prod.mk.injEq] at H
      obtain ⟨rfl, rfl, rfl, rfl, rfl⟩ := H
      go_enter Try.func71, Try.ntmps71
      go_wp2_with (first | ((with_reducible refine zt 6 ?_); (try (refine gate_guard (by rfl) ?_; dsimp only)); refine zn #[.int .i64 0, .int .i64 0, .string (⟨#[]⟩ : ByteArray)] 32 ?_; intro gb288 hg w49 hbox hb; have BK288 := zA hbox; have GW288 := zG hg; have GE288 := zG hg; replace HB := zS hb; clear hb hbox hg) | ((with_reducible refine zt 9 ?_); (try (refine gate_guard (by rfl) ?_; dsimp only)); refine zn #[.int .i64 0, .int .i64 0, .string (⟨#[]⟩ : ByteArray)] 32 ?_; intro gb289 hg w50 hbox hb; have BK289 := zA hbox; have GW289 := zG hg (zb1 GE288); have GE289 := zG hg (zb1 GE288); replace HB := zS hb (zb1 GE288); have NB288_289 := zX BK288 hg; have NB289_288 := zY BK288 hg; replace BK288 := zB BK288 hb; clear hb hbox hg; have hnb51 := NB289_288.out; have hnc51 := NB288_289.out; obtain ⟨hcz52_0, hcz52_1, hcz52_2, hfz52_0, hfz52_1, hfz52_2⟩ := zh3 BK289) | ((with_reducible refine gate_store (t := 32) (p := 9) rfl ?_); refine store_event (t := 32) (p := 9) (v := ?vo_w53) (w1 := (((w50.setCell ⟨gb289, 0, none⟩ (.int .i64 a1)).setCell ⟨gb289, 1, none⟩ (.int .i64 0)).setCell ⟨gb289, 2, none⟩ (.string (⟨#[]⟩ : ByteArray)))) ?hg ?ho ?hn ?hr ?_; (case ho => rfl); (case hg => rfl); (case hn => rfl); (case hr => exact zz35); intro w53 hw; replace BK288 : Aside0 (w53.heap[gb288]? = some (.cells #[.int .i64 0, .int .i64 0, .string (⟨#[]⟩ : ByteArray)] 32 (0, 0))) := ⟨(by rw [hw]; exact zz23)⟩; replace BK289 : Aside0 (w53.heap[gb289]? = some (.cells #[.int .i64 a1, .int .i64 0, .string (⟨#[]⟩ : ByteArray)] 32 (0, 0))) := ⟨(by rw [hw]; exact zz12)⟩; replace HB : Aside0 (Below w.heap.size w w53) := ⟨zz99⟩; clear hw; obtain ⟨hcz54_0, hcz54_1, hcz54_2, hfz54_0, hfz54_1, hfz54_2⟩ := zh3 BK289; obtain ⟨hcz55_0, hcz55_1, hcz55_2, hfz55_0, hfz55_1, hfz55_2⟩ := zh3 BK288))
      refine bodyPost_ret (results_ctt rfl _ _ gb288 32 #[.int .i64 a1, .int .i64 0, .string (⟨#[]⟩ : ByteArray)] (0, 0) _ rfl zz38 Try.underlying32 rfl (by kernel_rfl)) rfl ?_
      exact ⟨zw, zb2 GE288 GE289⟩
    ·rw [if_neg c37] at H
     have c37b0 : decide (0 ≤ a2) = false := decide_eq_false c37
     clear c37
     simp only [Option.some.injEq, Prod.mk.injEq] at H
     obtain ⟨rfl, rfl, rfl, rfl, rfl⟩ := H
     go_enter Try.func71, Try.ntmps71
     go_wp2_with (first | ((with_reducible refine zt 6 ?_); (try (refine gate_guard (by rfl) ?_; dsimp only)); refine zn #[.int .i64 0, .int .i64 0, .string (⟨#[]⟩ : ByteArray)] 32 ?_; intro gb288 hg w56 hbox hb; have BK288 := zA hbox; have GW288 := zG hg; have GE288 := zG hg; replace HB := zS hb; clear hb hbox hg) | ((with_reducible refine zt 9 ?_); (try (refine gate_guard (by rfl) ?_; dsimp only)); refine zn #[.int .i64 0, .int .i64 0, .string (⟨#[]⟩ : ByteArray)] 32 ?_; intro gb289 hg w57 hbox hb; have BK289 := zA hbox; have GW289 := zG hg (zb1 GE288); have GE289 := zG hg (zb1 GE288); replace HB := zS hb (zb1 GE288); have NB288_289 := zX BK288 hg; have NB289_288 := zY BK288 hg; replace BK288 := zB BK288 hb; clear hb hbox hg; have hnb58 := NB289_288.out; have hnc58 := NB288_289.out; obtain ⟨hcz59_0, hcz59_1, hcz59_2, hfz59_0, hfz59_1, hfz59_2⟩ := zh3 BK289) | ((with_reducible refine gate_store (t := 32) (p := 9) rfl ?_); refine store_event (t := 32) (p := 9) (v := ?vo_w60) (w1 := (((w57.setCell ⟨gb289, 0, none⟩ (.int .i64 a1)).setCell ⟨gb289, 1, none⟩ (.int .i64 0)).setCell ⟨gb289, 2, none⟩ (.string (⟨#[]⟩ : ByteArray)))) ?hg ?ho ?hn ?hr ?_; (case ho => rfl); (case hg => rfl); (case hn => rfl); (case hr => exact zz35); intro w60 hw; replace BK288 : Aside0 (w60.heap[gb288]? = some (.cells #[.int .i64 0, .int .i64 0, .string (⟨#[]⟩ : ByteArray)] 32 (0, 0))) := ⟨(by rw [hw]; exact zz23)⟩; replace BK289 : Aside0 (w60.heap[gb289]? = some (.cells #[.int .i64 a1, .int .i64 0, .string (⟨#[]⟩ : ByteArray)] 32 (0, 0))) := ⟨(by rw [hw]; exact zz12)⟩; replace HB : Aside0 (Below w.heap.size w w60) := ⟨zz99⟩; clear hw; obtain ⟨hcz61_0, hcz61_1, hcz61_2, hfz61_0, hfz61_1, hfz61_2⟩ := zh3 BK289; obtain ⟨hcz62_0, hcz62_1, hcz62_2, hfz62_0, hfz62_1, hfz62_2⟩ := zh3 BK288))
     refine bodyPost_ret (results_ctt rfl _ _ gb288 32 #[.int .i64 a1, .int .i64 0, .string (⟨#[]⟩ : ByteArray)] (0, 0) _ rfl zz38 Try.underlying32 rfl (by kernel_rfl)) rfl ?_
     exact ⟨zw, zb2 GE288 GE289⟩

/-! ### spec_ValOk: function 72 -/
def spec_ValOk.f (a0_0 : Int) (a0_1 : Int) (a0_2 : ByteArray) : Option (Bool) := if a0_0 = 0 then (if a0_1 = 0 then (some (a0_2.toList == ([] : List UInt8))) else (some false)) else (if a0_0 = 1 then ((spec_l1In.f a0_1 (-2147483648) 2147483647).bind fun t301 => (if t301 = true then (some (a0_2.toList == ([] : List UInt8))) else (some false))) else (if a0_0 = 2 then ((spec_l1In.f a0_1 (-1000000000000000) 1000000000000000).bind fun t302 => (if t302 = true then (some (a0_2.toList == ([] : List UInt8))) else (some false))) else (if a0_0 = 3 then (if (a0_2.size : Int) ≤ 30 then (some (a0_1 == 0)) else (some false)) else (if a0_0 = 4 then ((spec_l1In.f a0_1 0 1).bind fun t303 => (if t303 = true then (some (a0_2.toList == ([] : List UInt8))) else (some false))) else (some false)))))
set_option maxHeartbeats 8000000 in
set_option maxRecDepth 100000 in
theorem spec_ValOk.calls (a0_0 : Int) (a0_1 : Int) (a0_2 : ByteArray) (r : Bool) (w : World) (h : spec_ValOk.f a0_0 a0_1 a0_2 = some r) :
  Calls Try.prog 72 #[.agg #[.int .i64 a0_0, .int .i64 a0_1, .string a0_2]] w fun e w' => e = .returned (.bool r) ∧ Below w.heap.size w w' := by
 have hu32 := Try.underlying32
 have HB := zA (Below.refl w.heap.size w)
 have H : (if a0_0 = 0 then (if a0_1 = 0 then (some (a0_2.toList == ([] : List UInt8))) else (some false)) else (if a0_0 = 1 then ((spec_l1In.f a0_1 (-2147483648) 2147483647).bind fun t301 => (if t301 = true then (some (a0_2.toList == ([] : List UInt8))) else (some false))) else (if a0_0 = 2 then ((spec_l1In.f a0_1 (-1000000000000000) 1000000000000000).bind fun t302 => (if t302 = true then (some (a0_2.toList == ([] : List UInt8))) else (some false))) else (if a0_0 = 3 then (if (a0_2.size : Int) ≤ 30 then (some (a0_1 == 0)) else (some false)) else (if a0_0 = 4 then ((spec_l1In.f a0_1 0 1).bind fun t303 => (if t303 = true then (some (a0_2.toList == ([] : List UInt8))) else (some false))) else (some false)))))) = some r := h
 clear h
 by_cases c2 : a0_0 = 0
 ·rw [if_pos c2] at H
  have c2b0 : (a0_0 == 0) = true := beq_iff_eq.mpr c2
  have c2b1 : (a0_0 != 0) = false := bne_eq_false_iff_eq.mpr c2
  clear c2
  by_cases c3 : a0_1 = 0
  ·rw [if_pos c3] at H
   have c3b0 : (a0_1 == 0) = true := beq_iff_eq.mpr c3
   have c3b1 : (a0_1 != 0) = false := bne_eq_false_iff_eq.mpr c3
   clear c3
   obtain rfl := Option.some.inj H
   go_enter Try.func72, Try.ntmps72
   go_wp2_with (first | ((with_reducible refine zt 1 ?_); refine zn #[.int .i64 a0_0, .int .i64 a0_1, .string a0_2] 32 ?_; intro gb300 hg w4 hbox hb; have BK300 := zA hbox; have GW300 := zG hg; have GE300 := zG hg; replace HB := zS hb; clear hb hbox hg; obtain ⟨hcz5_0, hcz5_1, hcz5_2, hfz5_0, hfz5_1, hfz5_2⟩ := zh3 BK300))
   go_ret
   exact ⟨zw, zb1 GE300⟩
  ·rw [if_neg c3] at H
   have c3b0 : (a0_1 == 0) = false := beq_eq_false_iff_ne.mpr c3
   have c3b1 : (a0_1 != 0) = true := bne_iff_ne.mpr c3
   obtain rfl := Option.some.inj H
   go_enter Try.func72, Try.ntmps72
   go_wp2_with (first | ((with_reducible refine zt 1 ?_); refine zn #[.int .i64 a0_0, .int .i64 a0_1, .string a0_2] 32 ?_; intro gb300 hg w6 hbox hb; have BK300 := zA hbox; have GW300 := zG hg; have GE300 := zG hg; replace HB := zS hb; clear hb hbox hg; obtain ⟨hcz7_0, hcz7_1, hcz7_2, hfz7_0, hfz7_1, hfz7_2⟩ := zh3 BK300))
   go_ret
   exact ⟨zw, zb1 GE300⟩
 ·rw [if_neg c2] at H
  have c2b0 : (a0_0 == 0) = false := beq_eq_false_iff_ne.mpr c2
  have c2b1 : (a0_0 != 0) = true := bne_iff_ne.mpr c2
  by_cases c8 : a0_0 = 1
  ·rw [if_pos c8] at H
   have c8b0 : (a0_0 == 1) = true := beq_iff_eq.mpr c8
   have c8b1 : (a0_0 != 1) = false := bne_eq_false_iff_eq.mpr c8
   clear c8
   replace H := zI H
   obtain ⟨t301, A9, H⟩ := H
   by_cases c10 : t301 = true
   ·subst c10
    rw [if_pos rfl] at H
    obtain rfl := Option.some.inj H
    go_enter Try.func72, Try.ntmps72
    go_wp2_with (first | ((with_reducible refine zt 1 ?_); refine zn #[.int .i64 a0_0, .int .i64 a0_1, .string a0_2] 32 ?_; intro gb300 hg w11 hbox hb; have BK300 := zA hbox; have GW300 := zG hg; have GE300 := zG hg; replace HB := zS hb; clear hb hbox hg; obtain ⟨hcz12_0, hcz12_1, hcz12_2, hfz12_0, hfz12_1, hfz12_2⟩ := zh3 BK300) | ((with_reducible refine zg 79 ?_); refine gL (some 19) Try.func79 #[.int .i64 a0_1, .int .i64 (-2147483648), .int .i64 2147483647] ?_; (with_reducible refine (spec_l1In.calls a0_1 (-2147483648) 2147483647 true _ A9.out).mono ?_); rintro e w' ⟨rfl, ⟨nd, rfl⟩⟩; refine ⟨_, rfl, ?_⟩))
    go_ret
    exact ⟨zw, zb1 GE300⟩
   ·replace c10 := Bool.eq_false_iff.mpr c10
    subst c10
    rw [if_neg (Bool.false_ne_true)] at H
    obtain rfl := Option.some.inj H
    go_enter Try.func72, Try.ntmps72
    go_wp2_with (first | ((with_reducible refine zt 1 ?_); refine zn #[.int .i64 a0_0, .int .i64 a0_1, .string a0_2] 32 ?_; intro gb300 hg w13 hbox hb; have BK300 := zA hbox; have GW300 := zG hg; have GE300 := zG hg; replace HB := zS hb; clear hb hbox hg; obtain ⟨hcz14_0, hcz14_1, hcz14_2, hfz14_0, hfz14_1, hfz14_2⟩ := zh3 BK300) | ((with_reducible refine zg 79 ?_); refine gL (some 19) Try.func79 #[.int .i64 a0_1, .int .i64 (-2147483648), .int .i64 2147483647] ?_; (with_reducible refine (spec_l1In.calls a0_1 (-2147483648) 2147483647 false _ A9.out).mono ?_); rintro e w' ⟨rfl, ⟨nd, rfl⟩⟩; refine ⟨_, rfl, ?_⟩))
    go_ret
    exact ⟨zw, zb1 GE300⟩
  ·rw [if_neg c8] at H
   have c8b0 : (a0_0 == 1) = false := beq_eq_false_iff_ne.mpr c8
   have c8b1 : (a0_0 != 1) = true := bne_iff_ne.mpr c8
   by_cases c15 : a0_0 = 2
   ·rw [if_pos c15] at H
    have c15b0 : (a0_0 == 2) = true := beq_iff_eq.mpr c15
    have c15b1 : (a0_0 != 2) = false := bne_eq_false_iff_eq.mpr c15
    clear c15
    replace H := zI H
    obtain ⟨t302, A16, H⟩ := H
    by_cases c17 : t302 = true
    ·subst c17
     rw [if_pos rfl] at H
     obtain rfl := Option.some.inj H
     go_enter Try.func72, Try.ntmps72
     go_wp2_with (first | ((with_reducible refine zt 1 ?_); refine zn #[.int .i64 a0_0, .int .i64 a0_1, .string a0_2] 32 ?_; intro gb300 hg w18 hbox hb; have BK300 := zA hbox; have GW300 := zG hg; have GE300 := zG hg; replace HB := zS hb; clear hb hbox hg; obtain ⟨hcz19_0, hcz19_1, hcz19_2, hfz19_0, hfz19_1, hfz19_2⟩ := zh3 BK300) | ((with_reducible refine zg 79 ?_); refine gL (some 29) Try.func79 #[.int .i64 a0_1, .int .i64 (-1000000000000000), .int .i64 1000000000000000] ?_; (with_reducible refine (spec_l1In.calls a0_1 (-1000000000000000) 1000000000000000 true _ A16.out).mono ?_); rintro e w' ⟨rfl, ⟨nd, rfl⟩⟩; refine ⟨_, rfl, ?_⟩))
     go_ret
     exact ⟨zw, zb1 GE300⟩
    ·replace c17 := Bool.eq_false_iff.mpr c17
     subst c17
     rw [if_neg (Bool.false_ne_true)] at H
     obtain rfl := Option.some.inj H
     go_enter Try.func72, Try.ntmps72
     go_wp2_with (first | ((with_reducible refine zt 1 ?_); refine zn #[.int .i64 a0_0, .int .i64 a0_1, .string a0_2] 32 ?_; intro gb300 hg w20 hbox hb; have BK300 := zA hbox; have GW300 := zG hg; have GE300 := zG hg; replace HB := zS hb; clear hb hbox hg; obtain ⟨hcz21_0, hcz21_1, hcz21_2, hfz21_0, hfz21_1, hfz21_2⟩ := zh3 BK300) | ((with_reducible refine zg 79 ?_); refine gL (some 29) Try.func79 #[.int .i64 a0_1, .int .i64 (-1000000000000000), .int .i64 1000000000000000] ?_; (with_reducible refine (spec_l1In.calls a0_1 (-1000000000000000) 1000000000000000 false _ A16.out).mono ?_); rintro e w' ⟨rfl, ⟨nd, rfl⟩⟩; refine ⟨_, rfl, ?_⟩))
     go_ret
     exact ⟨zw, zb1 GE300⟩
   ·rw [if_neg c15] at H
    have c15b0 : (a0_0 == 2) = false := beq_eq_false_iff_ne.mpr c15
    have c15b1 : (a0_0 != 2) = true := bne_iff_ne.mpr c15
    by_cases c22 : a0_0 = 3
    ·rw [if_pos c22] at H
     have c22b0 : (a0_0 == 3) = true := beq_iff_eq.mpr c22
     have c22b1 : (a0_0 != 3) = false := bne_eq_false_iff_eq.mpr c22
     clear c22
     by_cases c23 : (a0_2.size : Int) ≤ 30
     ·rw [if_pos c23] at H
      have c23b0 : decide ((a0_2.size : Int) ≤ 30) = true := decide_eq_true c23
      have c23b1 : decide (a0_2.size ≤ 30) = true := decide_eq_true (by omega)
      clear c23
      obtain rfl := Option.some.inj H
      go_enter Try.func72, Try.ntmps72
      go_wp2_with (first | ((with_reducible refine zt 1 ?_); refine zn #[.int .i64 a0_0, .int .i64 a0_1, .string a0_2] 32 ?_; intro gb300 hg w24 hbox hb; have BK300 := zA hbox; have GW300 := zG hg; have GE300 := zG hg; replace HB := zS hb; clear hb hbox hg; obtain ⟨hcz25_0, hcz25_1, hcz25_2, hfz25_0, hfz25_1, hfz25_2⟩ := zh3 BK300))
      go_ret
      exact ⟨zw, zb1 GE300⟩
     ·rw [if_neg c23] at H
      have c23b0 : decide ((a0_2.size : Int) ≤ 30) = false := decide_eq_false c23
      have c23b1 : decide (a0_2.size ≤ 30) = false := decide_eq_false (by omega)
      clear c23
      obtain rfl := Option.some.inj H
      go_enter Try.func72, Try.ntmps72
      go_wp2_with (first | ((with_reducible refine zt 1 ?_); refine zn #[.int .i64 a0_0, .int .i64 a0_1, .string a0_2] 32 ?_; intro gb300 hg w26 hbox hb; have BK300 := zA hbox; have GW300 := zG hg; have GE300 := zG hg; replace HB := zS hb; clear hb hbox hg; obtain ⟨hcz27_0, hcz27_1, hcz27_2, hfz27_0, hfz27_1, hfz27_2⟩ := zh3 BK300))
      go_ret
      exact ⟨zw, zb1 GE300⟩
    ·rw [if_neg c22] at H
     have c22b0 : (a0_0 == 3) = false := beq_eq_false_iff_ne.mpr c22
     have c22b1 : (a0_0 != 3) = true := bne_iff_ne.mpr c22
     by_cases c28 : a0_0 = 4
     ·rw [if_pos c28] at H
      have c28b0 : (a0_0 == 4) = true := beq_iff_eq.mpr c28
      have c28b1 : (a0_0 != 4) = false := bne_eq_false_iff_eq.mpr c28
      clear c28
      replace H := zI H
      obtain ⟨t303, A29, H⟩ := H
      by_cases c30 : t303 = true
      ·subst c30
       rw [if_pos rfl] at H
       obtain rfl := Option.some.inj H
       go_enter Try.func72, Try.ntmps72
       go_wp2_with (first | ((with_reducible refine zt 1 ?_); refine zn #[.int .i64 a0_0, .int .i64 a0_1, .string a0_2] 32 ?_; intro gb300 hg w31 hbox hb; have BK300 := zA hbox; have GW300 := zG hg; have GE300 := zG hg; replace HB := zS hb; clear hb hbox hg; obtain ⟨hcz32_0, hcz32_1, hcz32_2, hfz32_0, hfz32_1, hfz32_2⟩ := zh3 BK300) | ((with_reducible refine zg 79 ?_); refine gL (some 50) Try.func79 #[.int .i64 a0_1, .int .i64 0, .int .i64 1] ?_; (with_reducible refine (spec_l1In.calls a0_1 0 1 true _ A29.out).mono ?_); rintro e w' ⟨rfl, ⟨nd, rfl⟩⟩; refine ⟨_, rfl, ?_⟩))
       go_ret
       exact ⟨zw, zb1 GE300⟩
      ·replace c30 := Bool.eq_false_iff.mpr c30
       subst c30
       rw [if_neg (Bool.false_ne_true)] at H
       obtain rfl := Option.some.inj H
       go_enter Try.func72, Try.ntmps72
       go_wp2_with (first | ((with_reducible refine zt 1 ?_); refine zn #[.int .i64 a0_0, .int .i64 a0_1, .string a0_2] 32 ?_; intro gb300 hg w33 hbox hb; have BK300 := zA hbox; have GW300 := zG hg; have GE300 := zG hg; replace HB := zS hb; clear hb hbox hg; obtain ⟨hcz34_0, hcz34_1, hcz34_2, hfz34_0, hfz34_1, hfz34_2⟩ := zh3 BK300) | ((with_reducible refine zg 79 ?_); refine gL (some 50) Try.func79 #[.int .i64 a0_1, .int .i64 0, .int .i64 1] ?_; (with_reducible refine (spec_l1In.calls a0_1 0 1 false _ A29.out).mono ?_); rintro e w' ⟨rfl, ⟨nd, rfl⟩⟩; refine ⟨_, rfl, ?_⟩))
       go_ret
       exact ⟨zw, zb1 GE300⟩
     ·rw [if_neg c28] at H
      have c28b0 : (a0_0 == 4) = false := beq_eq_false_iff_ne.mpr c28
      have c28b1 : (a0_0 != 4) = true := bne_iff_ne.mpr c28
      obtain rfl := Option.some.inj H
      go_enter Try.func72, Try.ntmps72
      go_wp2_with (first | ((with_reducible refine zt 1 ?_); refine zn #[.int .i64 a0_0, .int .i64 a0_1, .string a0_2] 32 ?_; intro gb300 hg w35 hbox hb; have BK300 := zA hbox; have GW300 := zG hg; have GE300 := zG hg; replace HB := zS hb; clear hb hbox hg; obtain ⟨hcz36_0, hcz36_1, hcz36_2, hfz36_0, hfz36_1, hfz36_2⟩ := zh3 BK300))
      go_ret
      exact ⟨zw, zb1 GE300⟩

end Go.Proofs.Ytnfmpopmigbkoaa.PFnPartsRead

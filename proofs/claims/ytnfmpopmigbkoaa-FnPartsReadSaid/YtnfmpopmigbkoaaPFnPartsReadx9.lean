-- Written by mkprint.py, a program of this session (the printer with additions of its own)
import Derived.Test.YtnfmpopmigbkoaaPFnPartsReadx0
import Derived.Test.YtnfmpopmigbkoaaPFnPartsReadx8
namespace Go.Proofs.Ytnfmpopmigbkoaa.PFnPartsRead
open Go.RowKit Go.Proofs.YtnfmpopmigbkoaaW.PrintWords Go.Proofs.YtnfmpopmigbkoaaW.PrintLast Go.Proofs.YtnfmpopmigbkoaaW.PrintMore
attribute [local go_sem] max2_int min2_int max_two min_two max_three min_three max_four min_four   -- for this text's walks alone
set_option linter.unusedVariables false
set_option linter.unusedSimpArgs false

/-! ### impl_GetEsc: function 105 -/
mutual
def impl_GetEsc.l0 : Nat → List Int → List Int → Int → Option (ByteArray × Int × Bool)
  | 0, _, _, _ => none
  | k + 1, x0, x7, x8 => if x8 ≥ 0 then (impl_GetEsc.j1 k x0 x7 x8 (decide (x8 < (x0.length : Int)))) else (impl_GetEsc.j1 k x0 x7 x8 false)
def impl_GetEsc.j1 : Nat → List Int → List Int → Int → Bool → Option (ByteArray × Int × Bool)
  | 0, _, _, _, _ => none
  | k + 1, x0, x7, x8, x17 => if x17 = true then (if 0 ≤ x8 then (if x8 < (x0.length : Int) then (if (rd x0 x8) = 0 then (if (wrap64 (x8 + 1)) ≥ (x0.length : Int) then (some ((⟨#[]⟩ : ByteArray), 0, false)) else (if 0 ≤ (wrap64 (x8 + 1)) then (if (wrap64 (x8 + 1)) < (x0.length : Int) then (if (rd x0 (wrap64 (x8 + 1))) = 1 then (some (strOfNums x7, wrap64 ((wrap64 (x8 + 1)) + 1), true)) else (if (rd x0 (wrap64 (x8 + 1))) = 255 then (if x7.length < 140737488355328 then (impl_GetEsc.l0 k x0 (x7 ++ [0]) (wrap64 ((wrap64 (x8 + 1)) + 1))) else (none)) else (some ((⟨#[]⟩ : ByteArray), 0, false)))) else (none)) else (none))) else (if x7.length < 140737488355328 then (impl_GetEsc.l0 k x0 (x7 ++ [rd x0 x8]) (wrap64 (x8 + 1))) else (none))) else (none)) else (none)) else (some ((⟨#[]⟩ : ByteArray), 0, false))
end
def impl_GetEsc.f (k : Nat) (l0 : List Int) (a1 : Int) : Option (ByteArray × Int × Bool) := impl_GetEsc.l0 k l0 ([] : List Int) a1
theorem impl_GetEsc.mono_l : ∀ k, (∀ y0 y1 y2, LeO (impl_GetEsc.l0 k y0 y1 y2) (impl_GetEsc.l0 (k + 1) y0 y1 y2)) ∧ (∀ y0 y1 y2 y3, LeO (impl_GetEsc.j1 k y0 y1 y2 y3) (impl_GetEsc.j1 (k + 1) y0 y1 y2 y3))
  | 0 => ⟨fun _ _ _ r h => by simp [impl_GetEsc.l0] at h, fun _ _ _ _ r h => by simp [impl_GetEsc.j1] at h⟩
  | k + 1 => by
    obtain ⟨ih0, ih1⟩ := impl_GetEsc.mono_l k
    refine ⟨?_, ?_⟩
    · intro y0 y1 y2
      unfold impl_GetEsc.l0
      repeat' first
      | (with_reducible exact ih0 _ _ _)
      | (with_reducible exact ih1 _ _ _ _)
      | (with_reducible exact LeO.refl _)
      | (with_reducible exact LeO.none _)
      | (with_reducible refine LeO.ite ?_ ?_)
      | (with_reducible refine LeO.bind ?_ (fun _ => ?_))
      | exact ih0 _ _ _
      | exact ih1 _ _ _ _
      | exact LeO.none _
      | refine LeO.ite ?_ ?_
      | refine LeO.bind ?_ (fun _ => ?_)
    · intro y0 y1 y2 y3
      unfold impl_GetEsc.j1
      repeat' first
      | (with_reducible exact ih0 _ _ _)
      | (with_reducible exact ih1 _ _ _ _)
      | (with_reducible exact LeO.refl _)
      | (with_reducible exact LeO.none _)
      | (with_reducible refine LeO.ite ?_ ?_)
      | (with_reducible refine LeO.bind ?_ (fun _ => ?_))
      | exact ih0 _ _ _
      | exact ih1 _ _ _ _
      | exact LeO.none _
      | refine LeO.ite ?_ ?_
      | refine LeO.bind ?_ (fun _ => ?_)
theorem impl_GetEsc.mono : ∀ a0 a1 k, LeO (impl_GetEsc.f k a0 a1) (impl_GetEsc.f (k + 1) a0 a1) := by
  intro a0 a1 k
  obtain ⟨ih0, ih1⟩ := impl_GetEsc.mono_l k
  unfold impl_GetEsc.f
  repeat' first
      | (with_reducible exact ih0 _ _ _)
      | (with_reducible exact ih1 _ _ _ _)
      | (with_reducible exact LeO.refl _)
      | (with_reducible exact LeO.none _)
      | (with_reducible refine LeO.ite ?_ ?_)
      | (with_reducible refine LeO.bind ?_ (fun _ => ?_))
      | exact ih0 _ _ _
      | exact ih1 _ _ _ _
      | exact LeO.none _
      | refine LeO.ite ?_ ?_
      | refine LeO.bind ?_ (fun _ => ?_)
set_option maxHeartbeats 8000000 in
set_option maxRecDepth 100000 in
theorem impl_GetEsc.calls (k : Nat) (A0 : Option Addr) (c0 : Nat) (l0 : List Int) (a1 : Int) (r1 : ByteArray) (r2 : Int) (r3 : Bool) (w : World) (hr0 : Kd.C (Kd.int .u8) w A0 l0.length l0) (hc0 : l0.length ≤ c0) (h : impl_GetEsc.f k l0 a1 = some (r1, r2, r3)) :
  Calls Try.prog 105 #[.slice A0 l0.length c0, .int .i64 a1] w fun e w' => e = .returned (.tuple #[.string r1, .int .i64 r2, .bool r3]) ∧ Below w.heap.size w w' := by
 have HR0 := zA hr0
 have HC0 := zA hc0
 clear hr0 hc0
 have HB := zA (Below.refl w.heap.size w)
 have H : (impl_GetEsc.l0 k l0 ([] : List Int) a1) = some (r1, r2, r3) := h
 clear h
 have H' := zA H
 clear H
 go_enter Try.func105, Try.ntmps105
 go_wp2
 go_loopg [7, 8] k (fun kq v7 v8 w' => ∃ (x7_1 : List Int) (x8_1 : Int), v8 = .int .i64 x8_1 ∧ Aside0 (impl_GetEsc.l0 kq l0 x7_1 x8_1 = some (r1, r2, r3)) ∧ Aside0 (kq ≤ k) ∧ Aside0 (Kd.R (Kd.int .u8) 5 w' w.heap.size (fun _ => True) v7 x7_1) ∧ Aside0 (Below w.heap.size w w'))
 case atStart => exact ⟨(([] : List Int)), (a1), zx, H', ⟨Nat.le_refl _⟩, ⟨by first | exact Kd.R_nil _ _ _ _ _ | exact Kd.N_nil _ _ _ _ _ | exact Kd.V_nil _ _ _ _ _ | exact Kd.Q_nil _ _ _ _ _ | exact Kd.S_nil _ _ _ _ _⟩, ⟨zb⟩⟩
 case round =>
  clear H'
  obtain ⟨x7_1, x8_1, rfl, HA, HK1, HO_7, HB⟩ := hrel
  cases gk with
  | zero => exact absurd HA.out (by simp [impl_GetEsc.l0])
  | succ k1 =>
   have H := HA.out
   clear HA
   simp only [impl_GetEsc.l0] at H
   have HC3 := zA H
   clear H
   go_upto_region 3 with (fail)
   go_cut [17] (fun v17 wc => ∃ (kq : Nat) (x17_2 : Bool), v17 = .bool x17_2 ∧ Aside0 (impl_GetEsc.j1 kq l0 x7_1 x8_1 x17_2 = some (r1, r2, r3)) ∧ Aside0 (kq ≤ k1) ∧ Aside0 (Kd.R (Kd.int .u8) 5 wc w.heap.size (fun _ => True) u7 x7_1) ∧ Aside0 (Below w.heap.size w wc))
   case first =>
    have H := HC3.out
    clear HC3
    by_cases c4 : x8_1 ≥ 0
    ·rw [if_pos c4] at H
     have c4b0 : decide (0 ≤ x8_1) = true := decide_eq_true c4
     clear c4
     (first | rw [c4b0] | (simp only [i64_w, i32_w]; rw [c4b0]) | skip)
     have H' := zA H
     clear H
     go_wp2
     go_meet
     case rel => exact ⟨_, (decide (x8_1 < (l0.length : Int))), zx, H', ⟨zz98⟩, ⟨zr HO_7⟩, ⟨zb⟩⟩
    ·rw [if_neg c4] at H
     have c4b0 : decide (0 ≤ x8_1) = false := decide_eq_false c4
     clear c4
     (first | rw [c4b0] | (simp only [i64_w, i32_w]; rw [c4b0]) | skip)
     have H' := zA H
     clear H
     go_wp2
     go_meet
     case rel => exact ⟨_, (false), zx, H', ⟨zz98⟩, ⟨zr HO_7⟩, ⟨zb⟩⟩
   case rest =>
    clear HC3
    obtain ⟨kq, x17_2, rfl, HA, HJ2, HO_7, HB⟩ := hcut
    cases kq with
    | zero => exact absurd HA.out (by simp [impl_GetEsc.j1])
    | succ kj2 =>
     have H := HA.out
     clear HA
     simp only [impl_GetEsc.j1] at H
     by_cases c5 : x17_2 = true
     ·subst c5
      rw [if_pos rfl] at H
      by_cases c6 : 0 ≤ x8_1
      ·rw [if_pos c6] at H
       have c6b0 : decide (0 ≤ x8_1) = true := decide_eq_true c6
       clear c6
       by_cases c7 : x8_1 < (l0.length : Int)
       ·rw [if_pos c7] at H
        have c7b0 : decide (x8_1 < (l0.length : Int)) = true := decide_eq_true c7
        clear c7
        by_cases c8 : (rd l0 x8_1) = 0
        ·rw [if_pos c8] at H
         have c8b0 : ((rd l0 x8_1) == 0) = true := beq_iff_eq.mpr c8
         have c8b1 : ((rd l0 x8_1) != 0) = false := bne_eq_false_iff_eq.mpr c8
         clear c8
         by_cases c9 : (wrap64 (x8_1 + 1)) ≥ (l0.length : Int)
         ·rw [if_pos c9] at H
          have c9b0 : decide ((l0.length : Int) ≤ (wrap64 (x8_1 + 1))) = true := decide_eq_true c9
          clear c9
          simp only [Option.some.injEq, Prod.mk.injEq] at H
          obtain ⟨rfl, rfl, rfl⟩ := H
          have p342 : 0 ≤ (x8_1 : Int) := of_decide_eq_true za
          have q342 : x8_1 < (l0.length : Int) := of_decide_eq_true za
          obtain ⟨ad342, e342, hx342_0⟩ := Kd.at_int HR0.out x8_1 p342 q342
          cases e342
          replace hx342_0 := (HB.out.cell (World.block_lt_of_cell? w _ hx342_0)).trans hx342_0
          replace p342 := eq_true p342
          replace q342 := eq_true q342
          go_wp2
          go_ret3
          exact ⟨zw, zb⟩
         ·rw [if_neg c9] at H
          have c9b0 : decide ((l0.length : Int) ≤ (wrap64 (x8_1 + 1))) = false := decide_eq_false c9
          clear c9
          obtain ⟨ji10, hji10⟩ : ∃ j_ : Int, (wrap64 (x8_1 + 1)) = j_ := ⟨_, rfl⟩
          replace H : (if 0 ≤ (ji10) then (if (ji10) < (l0.length : Int) then (if (rd l0 (ji10)) = 1 then (some (strOfNums x7_1, wrap64 ((ji10) + 1), true)) else (if (rd l0 (ji10)) = 255 then (if x7_1.length < 140737488355328 then (impl_GetEsc.l0 kj2 l0 (x7_1 ++ [0]) (wrap64 ((ji10) + 1))) else (none)) else (some ((⟨#[]⟩ : ByteArray), 0, false)))) else (none)) else (none)) = some (r1, r2, r3) := by first | (rw [hji10] at H; exact H) | (simp only [hji10] at H ⊢; exact H)
          (try rw [hji10] at c9b0)
          have hji10w : (IntKind.i64.wrap (x8_1 + 1)) = ji10 := (i64_w _).trans hji10
          by_cases c11 : 0 ≤ (ji10)
          ·rw [if_pos c11] at H
           have c11b0 : decide (0 ≤ (ji10)) = true := decide_eq_true c11
           clear c11
           by_cases c12 : (ji10) < (l0.length : Int)
           ·rw [if_pos c12] at H
            have c12b0 : decide ((ji10) < (l0.length : Int)) = true := decide_eq_true c12
            clear c12
            by_cases c13 : (rd l0 (ji10)) = 1
            ·rw [if_pos c13] at H
             have c13b0 : ((rd l0 (ji10)) == 1) = true := beq_iff_eq.mpr c13
             have c13b1 : ((rd l0 (ji10)) != 1) = false := bne_eq_false_iff_eq.mpr c13
             clear c13
             simp only [Option.some.injEq, Prod.mk.injEq] at H
             obtain ⟨rfl, rfl, rfl⟩ := H
             have p342 : 0 ≤ (x8_1 : Int) := of_decide_eq_true za
             have q342 : x8_1 < (l0.length : Int) := of_decide_eq_true za
             obtain ⟨ad342, e342, hx342_0⟩ := Kd.at_int HR0.out x8_1 p342 q342
             cases e342
             replace hx342_0 := (HB.out.cell (World.block_lt_of_cell? w _ hx342_0)).trans hx342_0
             replace p342 := eq_true p342
             replace q342 := eq_true q342
             have p347 : 0 ≤ ((ji10) : Int) := of_decide_eq_true za
             have q347 : (ji10) < (l0.length : Int) := of_decide_eq_true za
             obtain ⟨ad347, e347, hx347_0⟩ := Kd.at_int HR0.out (ji10) p347 q347
             obtain rfl : ad342 = ad347 := (by injection e347)
             replace hx347_0 := (HB.out.cell (World.block_lt_of_cell? w _ hx347_0)).trans hx347_0
             replace p347 := eq_true p347
             replace q347 := eq_true q347
             have hcv14 := own_string (P := Try.prog) Try.underlying22 Try.underlying5 Try.underlying9 (Kd.own_of_R HO_7.out)
             go_wp2
             go_ret3
             exact ⟨zz93, zb⟩
            ·rw [if_neg c13] at H
             have c13b0 : ((rd l0 (ji10)) == 1) = false := beq_eq_false_iff_ne.mpr c13
             have c13b1 : ((rd l0 (ji10)) != 1) = true := bne_iff_ne.mpr c13
             by_cases c15 : (rd l0 (ji10)) = 255
             ·rw [if_pos c15] at H
              have c15b0 : ((rd l0 (ji10)) == 255) = true := beq_iff_eq.mpr c15
              have c15b1 : ((rd l0 (ji10)) != 255) = false := bne_eq_false_iff_eq.mpr c15
              clear c15
              by_cases c16 : x7_1.length < 140737488355328
              ·rw [if_pos c16] at H
               have LMc16 := zA c16
               clear c16
               obtain ⟨y348, hy348⟩ : ∃ y_ : List Int, y_ = (x7_1 ++ [0]) := ⟨_, rfl⟩
               replace H : (impl_GetEsc.l0 kj2 l0 y348 (wrap64 ((ji10) + 1))) = some (r1, r2, r3) := by first | (rw [hy348]; with_reducible exact H) | (have H2_ := (Option.bind_some _ _).symm.trans H; rw [hy348]; with_reducible exact H2_) | (have H2_ := (Option.bind_some _ _).symm.trans H; with_reducible exact H2_) | with_reducible exact H | (rw [hy348]; exact H) | exact H
               have Ny348 := zA hy348
               clear hy348
               have H' := zA H
               clear H
               have p342 : 0 ≤ (x8_1 : Int) := of_decide_eq_true za
               have q342 : x8_1 < (l0.length : Int) := of_decide_eq_true za
               obtain ⟨ad342, e342, hx342_0⟩ := Kd.at_int HR0.out x8_1 p342 q342
               cases e342
               replace hx342_0 := (HB.out.cell (World.block_lt_of_cell? w _ hx342_0)).trans hx342_0
               replace p342 := eq_true p342
               replace q342 := eq_true q342
               have p347 : 0 ≤ ((ji10) : Int) := of_decide_eq_true za
               have q347 : (ji10) < (l0.length : Int) := of_decide_eq_true za
               obtain ⟨ad347, e347, hx347_0⟩ := Kd.at_int HR0.out (ji10) p347 q347
               obtain rfl : ad342 = ad347 := (by injection e347)
               replace hx347_0 := (HB.out.cell (World.block_lt_of_cell? w _ hx347_0)).trans hx347_0
               replace p347 := eq_true p347
               replace q347 := eq_true q347
               go_wp2_with (first | ((with_reducible refine gate_builtin (b := .append) (xs := #[.tmp 50, .tmp 51]) rfl ?_); (try (refine gate_guard (by rfl) ?_; dsimp only)); at_builtin; refine Kd.R_append (Kd.int .u8) (w0 := w) w.heap.size rfl (.tmp 50) (.tmp 51) 22 5 (.int .u8 0) 1 rfl Try.underlying22 info5 rfl (by decide) (by omega) u7 x7_1 0 [.int .u8 0] (fun _ => True) (fun _ => False) rfl rfl ?aP (fun _ hk => hk.elim) ?aF ?aO ?aB ?aS ?aL ?_; (case aP => exact rfl); (case aB => exact zb); (case aF => exact (fun _ _ => trivial)); (case aO => exact (zr HO_7)); (case aS => exact (below_size zb)); (case aL => have := LMc16.out; omega); intro v349 w17 ho hb hg hat; rw [← Ny348.out] at ho; replace HB := zA hb; have HO350 := zA ho; clear HO_7 ho hb hg hat))
               go_roundg kj2
               case measure => have := HK1.out; have := HJ2.out; omega
               case rel => exact ⟨(y348), (wrap64 ((ji10) + 1)), zz96, H', ⟨by have := HK1.out; have := HJ2.out; omega⟩, ⟨zr HO350⟩, ⟨zb⟩⟩
              ·rw [if_neg c16] at H
               exact absurd H (by simp)
             ·rw [if_neg c15] at H
              have c15b0 : ((rd l0 (ji10)) == 255) = false := beq_eq_false_iff_ne.mpr c15
              have c15b1 : ((rd l0 (ji10)) != 255) = true := bne_iff_ne.mpr c15
              simp only [Option.some.injEq, Prod.mk.injEq] at H
              obtain ⟨rfl, rfl, rfl⟩ := H
              have p342 : 0 ≤ (x8_1 : Int) := of_decide_eq_true za
              have q342 : x8_1 < (l0.length : Int) := of_decide_eq_true za
              obtain ⟨ad342, e342, hx342_0⟩ := Kd.at_int HR0.out x8_1 p342 q342
              cases e342
              replace hx342_0 := (HB.out.cell (World.block_lt_of_cell? w _ hx342_0)).trans hx342_0
              replace p342 := eq_true p342
              replace q342 := eq_true q342
              have p347 : 0 ≤ ((ji10) : Int) := of_decide_eq_true za
              have q347 : (ji10) < (l0.length : Int) := of_decide_eq_true za
              obtain ⟨ad347, e347, hx347_0⟩ := Kd.at_int HR0.out (ji10) p347 q347
              obtain rfl : ad342 = ad347 := (by injection e347)
              replace hx347_0 := (HB.out.cell (World.block_lt_of_cell? w _ hx347_0)).trans hx347_0
              replace p347 := eq_true p347
              replace q347 := eq_true q347
              go_wp2
              go_ret3
              exact ⟨zz93, zb⟩
           ·rw [if_neg c12] at H
            exact absurd H (by simp)
          ·rw [if_neg c11] at H
           exact absurd H (by simp)
        ·rw [if_neg c8] at H
         have c8b0 : ((rd l0 x8_1) == 0) = false := beq_eq_false_iff_ne.mpr c8
         have c8b1 : ((rd l0 x8_1) != 0) = true := bne_iff_ne.mpr c8
         by_cases c18 : x7_1.length < 140737488355328
         ·rw [if_pos c18] at H
          have LMc18 := zA c18
          clear c18
          obtain ⟨y344, hy344⟩ : ∃ y_ : List Int, y_ = (x7_1 ++ [rd l0 x8_1]) := ⟨_, rfl⟩
          replace H : (impl_GetEsc.l0 kj2 l0 y344 (wrap64 (x8_1 + 1))) = some (r1, r2, r3) := by first | (rw [hy344]; with_reducible exact H) | (have H2_ := (Option.bind_some _ _).symm.trans H; rw [hy344]; with_reducible exact H2_) | (have H2_ := (Option.bind_some _ _).symm.trans H; with_reducible exact H2_) | with_reducible exact H | (rw [hy344]; exact H) | exact H
          have Ny344 := zA hy344
          clear hy344
          have H' := zA H
          clear H
          have p342 : 0 ≤ (x8_1 : Int) := of_decide_eq_true za
          have q342 : x8_1 < (l0.length : Int) := of_decide_eq_true za
          obtain ⟨ad342, e342, hx342_0⟩ := Kd.at_int HR0.out x8_1 p342 q342
          cases e342
          replace hx342_0 := (HB.out.cell (World.block_lt_of_cell? w _ hx342_0)).trans hx342_0
          replace p342 := eq_true p342
          replace q342 := eq_true q342
          have p343 : 0 ≤ (x8_1 : Int) := of_decide_eq_true za
          have q343 : x8_1 < (l0.length : Int) := of_decide_eq_true za
          obtain ⟨ad343, e343, hx343_0⟩ := Kd.at_int HR0.out x8_1 p343 q343
          obtain rfl : ad342 = ad343 := (by injection e343)
          replace hx343_0 := (HB.out.cell (World.block_lt_of_cell? w _ hx343_0)).trans hx343_0
          replace p343 := eq_true p343
          replace q343 := eq_true q343
          go_wp2_with (first | ((with_reducible refine gate_builtin (b := .append) (xs := #[.tmp 25, .tmp 30]) rfl ?_); (try (refine gate_guard (by rfl) ?_; dsimp only)); at_builtin; refine Kd.R_append (Kd.int .u8) (w0 := w) w.heap.size rfl (.tmp 25) (.tmp 30) 22 5 (.int .u8 0) 1 rfl Try.underlying22 info5 rfl (by decide) (by omega) u7 x7_1 (rd l0 x8_1) [.int .u8 (rd l0 x8_1)] (fun _ => True) (fun _ => False) rfl rfl ?aP (fun _ hk => hk.elim) ?aF ?aO ?aB ?aS ?aL ?_; (case aP => exact rfl); (case aB => exact zb); (case aF => exact (fun _ _ => trivial)); (case aO => exact (zr HO_7)); (case aS => exact (below_size zb)); (case aL => have := LMc18.out; omega); intro v345 w19 ho hb hg hat; rw [← Ny344.out] at ho; replace HB := zA hb; have HO346 := zA ho; clear HO_7 ho hb hg hat))
          go_roundg kj2
          case measure => have := HK1.out; have := HJ2.out; omega
          case rel => exact ⟨(y344), (wrap64 (x8_1 + 1)), zx, H', ⟨by have := HK1.out; have := HJ2.out; omega⟩, ⟨zr HO346⟩, ⟨zb⟩⟩
         ·rw [if_neg c18] at H
          exact absurd H (by simp)
       ·rw [if_neg c7] at H
        exact absurd H (by simp)
      ·rw [if_neg c6] at H
       exact absurd H (by simp)
     ·replace c5 := Bool.eq_false_iff.mpr c5
      subst c5
      rw [if_neg (Bool.false_ne_true)] at H
      simp only [Option.some.injEq, Prod.mk.injEq] at H
      obtain ⟨rfl, rfl, rfl⟩ := H
      go_wp2
      go_ret3
      exact ⟨zw, zb⟩

/-! ### impl_typedAt: function 74 -/
def impl_typedAt.f (k : Nat) (l0 : List Int) (a1 : Int) (a2 : Int) : Option (Int × Int × ByteArray × Int × Bool) := if a1 = 1 then ((impl_GetFix.f k l0 a2).bind fun bt353 => (some (a1, bt353.1, (⟨#[]⟩ : ByteArray), bt353.2.1, bt353.2.2))) else (if a1 = 2 then ((impl_GetVar.f k l0 a2).bind fun bt356 => (some (a1, bt356.1, (⟨#[]⟩ : ByteArray), bt356.2.1, bt356.2.2))) else (if a1 = 3 then ((impl_GetEsc.f k l0 a2).bind fun bt359 => (some (a1, 0, bt359.1, bt359.2.1, bt359.2.2))) else (if a1 = 4 then (if a2 ≥ 0 then (if a2 < (l0.length : Int) then (if 0 ≤ a2 then (some (a1, wrap64 (rd l0 a2), (⟨#[]⟩ : ByteArray), wrap64 (a2 + 1), true)) else (none)) else (some (a1, 0, (⟨#[]⟩ : ByteArray), 0, false))) else (some (a1, 0, (⟨#[]⟩ : ByteArray), 0, false))) else (some (a1, 0, (⟨#[]⟩ : ByteArray), 0, false)))))
theorem impl_typedAt.mono : ∀ a0 a1 a2 k, LeO (impl_typedAt.f k a0 a1 a2) (impl_typedAt.f (k + 1) a0 a1 a2) := by
  intro a0 a1 a2 k
  unfold impl_typedAt.f
  repeat' first
      | (with_reducible exact impl_GetEsc.mono _ _ _)
      | (with_reducible exact impl_GetFix.mono _ _ _)
      | (with_reducible exact impl_GetVar.mono _ _ _)
      | (with_reducible exact LeO.refl _)
      | (with_reducible exact LeO.none _)
      | (with_reducible refine LeO.ite ?_ ?_)
      | (with_reducible refine LeO.bind ?_ (fun _ => ?_))
      | exact impl_GetEsc.mono _ _ _
      | exact impl_GetFix.mono _ _ _
      | exact impl_GetVar.mono _ _ _
      | exact LeO.none _
      | refine LeO.ite ?_ ?_
      | refine LeO.bind ?_ (fun _ => ?_)
set_option maxHeartbeats 8000000 in
set_option maxRecDepth 100000 in
theorem impl_typedAt.calls (k : Nat) (A0 : Option Addr) (c0 : Nat) (l0 : List Int) (a1 : Int) (a2 : Int) (r1 : Int) (r2 : Int) (r3 : ByteArray) (r4 : Int) (r5 : Bool) (w : World) (hr0 : Kd.C (Kd.int .u8) w A0 l0.length l0) (hc0 : l0.length ≤ c0) (h : impl_typedAt.f k l0 a1 a2 = some (r1, r2, r3, r4, r5)) :
  Calls Try.prog 74 #[.slice A0 l0.length c0, .int .i64 a1, .int .i64 a2] w fun e w' => e = .returned (.tuple #[.agg #[.int .i64 r1, .int .i64 r2, .string r3], .int .i64 r4, .bool r5]) ∧ Below w.heap.size w w' := by
 have hu32 := Try.underlying32
 have HR0 := zA hr0
 have HC0 := zA hc0
 clear hr0 hc0
 have HB := zA (Below.refl w.heap.size w)
 have H : (if a1 = 1 then ((impl_GetFix.f k l0 a2).bind fun bt353 => (some (a1, bt353.1, (⟨#[]⟩ : ByteArray), bt353.2.1, bt353.2.2))) else (if a1 = 2 then ((impl_GetVar.f k l0 a2).bind fun bt356 => (some (a1, bt356.1, (⟨#[]⟩ : ByteArray), bt356.2.1, bt356.2.2))) else (if a1 = 3 then ((impl_GetEsc.f k l0 a2).bind fun bt359 => (some (a1, 0, bt359.1, bt359.2.1, bt359.2.2))) else (if a1 = 4 then (if a2 ≥ 0 then (if a2 < (l0.length : Int) then (if 0 ≤ a2 then (some (a1, wrap64 (rd l0 a2), (⟨#[]⟩ : ByteArray), wrap64 (a2 + 1), true)) else (none)) else (some (a1, 0, (⟨#[]⟩ : ByteArray), 0, false))) else (some (a1, 0, (⟨#[]⟩ : ByteArray), 0, false))) else (some (a1, 0, (⟨#[]⟩ : ByteArray), 0, false)))))) = some (r1, r2, r3, r4, r5) := h
 clear h
 by_cases c4 : a1 = 1
 ·rw [if_pos c4] at H
  have c4b0 : (a1 == 1) = true := beq_iff_eq.mpr c4
  have c4b1 : (a1 != 1) = false := bne_eq_false_iff_eq.mpr c4
  clear c4
  replace H := zI H
  obtain ⟨⟨t353, t354, t355⟩, A5, H⟩ := H
  try dsimp only at H
  simp only [Option.some.injEq, Prod.mk.injEq] at H
  obtain ⟨rfl, rfl, rfl, rfl, rfl⟩ := H
  go_enter Try.func74, Try.ntmps74
  go_wp2_with (first | ((with_reducible refine zt 6 ?_); (try (refine gate_guard (by rfl) ?_; dsimp only)); refine zn #[.int .i64 0, .int .i64 0, .string (⟨#[]⟩ : ByteArray)] 32 ?_; intro gb351 hg w6 hbox hb; have BK351 := zA hbox; have GW351 := zG hg; have GE351 := zG hg; replace HB := zS hb; clear hb hbox hg) | ((with_reducible refine zt 9 ?_); (try (refine gate_guard (by rfl) ?_; dsimp only)); refine zn #[.int .i64 0, .int .i64 0, .string (⟨#[]⟩ : ByteArray)] 32 ?_; intro gb352 hg w7 hbox hb; have BK352 := zA hbox; have GW352 := zG hg (zb1 GE351); have GE352 := zG hg (zb1 GE351); replace HB := zS hb (zb1 GE351); have NB351_352 := zX BK351 hg; have NB352_351 := zY BK351 hg; replace BK351 := zB BK351 hb; clear hb hbox hg; have hnb8 := NB352_351.out; have hnc8 := NB351_352.out; obtain ⟨hcz9_0, hcz9_1, hcz9_2, hfz9_0, hfz9_1, hfz9_2⟩ := zh3 BK352) | ((with_reducible refine gate_store (t := 32) (p := 9) rfl ?_); refine store_event (t := 32) (p := 9) (v := ?vo_w10) (w1 := (((w7.setCell ⟨gb352, 0, none⟩ (.int .i64 a1)).setCell ⟨gb352, 1, none⟩ (.int .i64 0)).setCell ⟨gb352, 2, none⟩ (.string (⟨#[]⟩ : ByteArray)))) ?hg ?ho ?hn ?hr ?_; (case ho => rfl); (case hg => rfl); (case hn => rfl); (case hr => exact zz35); intro w10 hw; replace BK351 : Aside0 (w10.heap[gb351]? = some (.cells #[.int .i64 0, .int .i64 0, .string (⟨#[]⟩ : ByteArray)] 32 (0, 0))) := ⟨zz115⟩; replace BK352 : Aside0 (w10.heap[gb352]? = some (.cells #[.int .i64 a1, .int .i64 0, .string (⟨#[]⟩ : ByteArray)] 32 (0, 0))) := ⟨zz116⟩; replace HB : Aside0 (Below w.heap.size w w10) := ⟨zz94⟩; clear hw) | ((with_reducible refine zg 103 ?_); refine gL (some 20) Try.func103 #[.slice A0 l0.length c0, .int .i64 a2] ?_; (with_reducible refine (impl_GetFix.calls k _ _ l0 a2 t353 t354 t355 _ ?z1 ?z2 A5.out).mono ?_); (case z1 => exact zd HR0); (case z2 => exact HC0.out); rintro e w' ⟨rfl, ⟨nd, rfl⟩⟩; refine ⟨_, rfl, ?_⟩; (try (rw [drewN_self w10]; generalize hq_ : World.drewN w10 _ = w10; replace BK351 : Aside0 (w10.heap[gb351]? = some (.cells #[.int .i64 0, .int .i64 0, .string (⟨#[]⟩ : ByteArray)] 32 (0, 0))) := ⟨by rw [← hq_]; exact (zk BK351)⟩; replace BK352 : Aside0 (w10.heap[gb352]? = some (.cells #[.int .i64 a1, .int .i64 0, .string (⟨#[]⟩ : ByteArray)] 32 (0, 0))) := ⟨by rw [← hq_]; exact (zk BK352)⟩; replace HB : Aside0 (Below w.heap.size w w10) := ⟨by rw [← hq_]; exact (zb2 GE351 GE352)⟩; clear hq_)); obtain ⟨hcz11_0, hcz11_1, hcz11_2, hfz11_0, hfz11_1, hfz11_2⟩ := zh3 BK352) | ((with_reducible refine gate_store (t := 3) (p := 24) rfl ?_); refine store_event (t := 3) (p := 24) (v := ?vo_w12) (w1 := (w10.setCell ⟨gb352, 1, none⟩ (.int .i64 t353))) ?hg ?ho ?hn ?hr ?_; (case ho => rfl); (case hg => rfl); (case hn => rfl); (case hr => exact zz35); intro w12 hw; replace BK351 : Aside0 (w12.heap[gb351]? = some (.cells #[.int .i64 0, .int .i64 0, .string (⟨#[]⟩ : ByteArray)] 32 (0, 0))) := ⟨(by rw [hw]; exact zz68)⟩; replace BK352 : Aside0 (w12.heap[gb352]? = some (.cells #[.int .i64 a1, .int .i64 t353, .string (⟨#[]⟩ : ByteArray)] 32 (0, 0))) := ⟨(by rw [hw]; exact zz71)⟩; replace HB : Aside0 (Below w.heap.size w w12) := ⟨zz94⟩; clear hw; obtain ⟨hcz13_0, hcz13_1, hcz13_2, hfz13_0, hfz13_1, hfz13_2⟩ := zh3 BK352; obtain ⟨hcz14_0, hcz14_1, hcz14_2, hfz14_0, hfz14_1, hfz14_2⟩ := zh3 BK351))
  refine bodyPost_ret (results_ctt rfl _ _ gb351 32 #[.int .i64 a1, .int .i64 t353, .string (⟨#[]⟩ : ByteArray)] (0, 0) _ rfl (by (with_reducible repeat (first | refine blk_drewN ?_ _ | refine blk_drew ?_ | refine blk_alloc ?_ _)); refine blk_put (cs := #[.int .i64 a1, .int .i64 t353, .string (⟨#[]⟩ : ByteArray)]) ?_ 2 _ rfl; (with_reducible repeat (first | refine blk_drewN ?_ _ | refine blk_drew ?_ | refine blk_alloc ?_ _)); refine blk_put (cs := #[.int .i64 a1, .int .i64 0, .string (⟨#[]⟩ : ByteArray)]) ?_ 1 _ rfl; (with_reducible repeat (first | refine blk_drewN ?_ _ | refine blk_drew ?_ | refine blk_alloc ?_ _)); refine blk_put (cs := #[.int .i64 0, .int .i64 0, .string (⟨#[]⟩ : ByteArray)]) ?_ 0 _ rfl; (with_reducible repeat (first | refine blk_drewN ?_ _ | refine blk_drew ?_ | refine blk_alloc ?_ _)); exact BK351.out) Try.underlying32 rfl (by kernel_rfl)) rfl ?_
  exact ⟨zw, zb2 GE351 GE352⟩
 ·rw [if_neg c4] at H
  have c4b0 : (a1 == 1) = false := beq_eq_false_iff_ne.mpr c4
  have c4b1 : (a1 != 1) = true := bne_iff_ne.mpr c4
  by_cases c15 : a1 = 2
  ·rw [if_pos c15] at H
   have c15b0 : (a1 == 2) = true := beq_iff_eq.mpr c15
   have c15b1 : (a1 != 2) = false := bne_eq_false_iff_eq.mpr c15
   clear c15
   replace H := zI H
   obtain ⟨⟨t356, t357, t358⟩, A16, H⟩ := H
   try dsimp only at H
   simp only [Option.some.injEq, Prod.mk.injEq] at H
   obtain ⟨rfl, rfl, rfl, rfl, rfl⟩ := H
   go_enter Try.func74, Try.ntmps74
   go_wp2_with (first | ((with_reducible refine zt 6 ?_); (try (refine gate_guard (by rfl) ?_; dsimp only)); refine zn #[.int .i64 0, .int .i64 0, .string (⟨#[]⟩ : ByteArray)] 32 ?_; intro gb351 hg w17 hbox hb; have BK351 := zA hbox; have GW351 := zG hg; have GE351 := zG hg; replace HB := zS hb; clear hb hbox hg) | ((with_reducible refine zt 9 ?_); (try (refine gate_guard (by rfl) ?_; dsimp only)); refine zn #[.int .i64 0, .int .i64 0, .string (⟨#[]⟩ : ByteArray)] 32 ?_; intro gb352 hg w18 hbox hb; have BK352 := zA hbox; have GW352 := zG hg (zb1 GE351); have GE352 := zG hg (zb1 GE351); replace HB := zS hb (zb1 GE351); have NB351_352 := zX BK351 hg; have NB352_351 := zY BK351 hg; replace BK351 := zB BK351 hb; clear hb hbox hg; have hnb19 := NB352_351.out; have hnc19 := NB351_352.out; obtain ⟨hcz20_0, hcz20_1, hcz20_2, hfz20_0, hfz20_1, hfz20_2⟩ := zh3 BK352) | ((with_reducible refine gate_store (t := 32) (p := 9) rfl ?_); refine store_event (t := 32) (p := 9) (v := ?vo_w21) (w1 := (((w18.setCell ⟨gb352, 0, none⟩ (.int .i64 a1)).setCell ⟨gb352, 1, none⟩ (.int .i64 0)).setCell ⟨gb352, 2, none⟩ (.string (⟨#[]⟩ : ByteArray)))) ?hg ?ho ?hn ?hr ?_; (case ho => rfl); (case hg => rfl); (case hn => rfl); (case hr => exact zz35); intro w21 hw; replace BK351 : Aside0 (w21.heap[gb351]? = some (.cells #[.int .i64 0, .int .i64 0, .string (⟨#[]⟩ : ByteArray)] 32 (0, 0))) := ⟨zz115⟩; replace BK352 : Aside0 (w21.heap[gb352]? = some (.cells #[.int .i64 a1, .int .i64 0, .string (⟨#[]⟩ : ByteArray)] 32 (0, 0))) := ⟨zz116⟩; replace HB : Aside0 (Below w.heap.size w w21) := ⟨zz94⟩; clear hw) | ((with_reducible refine zg 104 ?_); refine gL (some 30) Try.func104 #[.slice A0 l0.length c0, .int .i64 a2] ?_; (with_reducible refine (impl_GetVar.calls k _ _ l0 a2 t356 t357 t358 _ ?z1 ?z2 A16.out).mono ?_); (case z1 => exact zd HR0); (case z2 => exact HC0.out); rintro e w' ⟨rfl, ⟨nd, rfl⟩⟩; refine ⟨_, rfl, ?_⟩; (try (rw [drewN_self w21]; generalize hq_ : World.drewN w21 _ = w21; replace BK351 : Aside0 (w21.heap[gb351]? = some (.cells #[.int .i64 0, .int .i64 0, .string (⟨#[]⟩ : ByteArray)] 32 (0, 0))) := ⟨by rw [← hq_]; exact (zk BK351)⟩; replace BK352 : Aside0 (w21.heap[gb352]? = some (.cells #[.int .i64 a1, .int .i64 0, .string (⟨#[]⟩ : ByteArray)] 32 (0, 0))) := ⟨by rw [← hq_]; exact (zk BK352)⟩; replace HB : Aside0 (Below w.heap.size w w21) := ⟨by rw [← hq_]; exact (zb2 GE351 GE352)⟩; clear hq_)); obtain ⟨hcz22_0, hcz22_1, hcz22_2, hfz22_0, hfz22_1, hfz22_2⟩ := zh3 BK352) | ((with_reducible refine gate_store (t := 3) (p := 34) rfl ?_); refine store_event (t := 3) (p := 34) (v := ?vo_w23) (w1 := (w21.setCell ⟨gb352, 1, none⟩ (.int .i64 t356))) ?hg ?ho ?hn ?hr ?_; (case ho => rfl); (case hg => rfl); (case hn => rfl); (case hr => exact zz35); intro w23 hw; replace BK351 : Aside0 (w23.heap[gb351]? = some (.cells #[.int .i64 0, .int .i64 0, .string (⟨#[]⟩ : ByteArray)] 32 (0, 0))) := ⟨(by rw [hw]; exact zz68)⟩; replace BK352 : Aside0 (w23.heap[gb352]? = some (.cells #[.int .i64 a1, .int .i64 t356, .string (⟨#[]⟩ : ByteArray)] 32 (0, 0))) := ⟨(by rw [hw]; exact zz71)⟩; replace HB : Aside0 (Below w.heap.size w w23) := ⟨zz94⟩; clear hw; obtain ⟨hcz24_0, hcz24_1, hcz24_2, hfz24_0, hfz24_1, hfz24_2⟩ := zh3 BK352; obtain ⟨hcz25_0, hcz25_1, hcz25_2, hfz25_0, hfz25_1, hfz25_2⟩ := zh3 BK351))
   refine bodyPost_ret (results_ctt rfl _ _ gb351 32 #[.int .i64 a1, .int .i64 t356, .string (⟨#[]⟩ : ByteArray)] (0, 0) _ rfl (by (with_reducible repeat (first | refine blk_drewN ?_ _ | refine blk_drew ?_ | refine blk_alloc ?_ _)); refine blk_put (cs := #[.int .i64 a1, .int .i64 t356, .string (⟨#[]⟩ : ByteArray)]) ?_ 2 _ rfl; (with_reducible repeat (first | refine blk_drewN ?_ _ | refine blk_drew ?_ | refine blk_alloc ?_ _)); refine blk_put (cs := #[.int .i64 a1, .int .i64 0, .string (⟨#[]⟩ : ByteArray)]) ?_ 1 _ rfl; (with_reducible repeat (first | refine blk_drewN ?_ _ | refine blk_drew ?_ | refine blk_alloc ?_ _)); refine blk_put (cs := #[.int .i64 0, .int .i64 0, .string (⟨#[]⟩ : ByteArray)]) ?_ 0 _ rfl; (with_reducible repeat (first | refine blk_drewN ?_ _ | refine blk_drew ?_ | refine blk_alloc ?_ _)); exact BK351.out) Try.underlying32 rfl (by kernel_rfl)) rfl ?_
   exact ⟨zw, zb2 GE351 GE352⟩
  ·rw [if_neg c15] at H
   have c15b0 : (a1 == 2) = false := beq_eq_false_iff_ne.mpr c15
   have c15b1 : (a1 != 2) = true := bne_iff_ne.mpr c15
   by_cases c26 : a1 = 3
   ·rw [if_pos c26] at H
    have c26b0 : (a1 == 3) = true := beq_iff_eq.mpr c26
    have c26b1 : (a1 != 3) = false := bne_eq_false_iff_eq.mpr c26
    clear c26
    replace H := zI H
    obtain ⟨⟨t359, t360, t361⟩, A27, H⟩ := H
    try dsimp only at H
    simp only [Option.some.injEq, Prod.mk.injEq] at H
    obtain ⟨rfl, rfl, rfl, rfl, rfl⟩ := H
    go_enter Try.func74, Try.ntmps74
    go_wp2_with (first | ((with_reducible refine zt 6 ?_); (try (refine gate_guard (by rfl) ?_; dsimp only)); refine zn #[.int .i64 0, .int .i64 0, .string (⟨#[]⟩ : ByteArray)] 32 ?_; intro gb351 hg w28 hbox hb; have BK351 := zA hbox; have GW351 := zG hg; have GE351 := zG hg; replace HB := zS hb; clear hb hbox hg) | ((with_reducible refine zt 9 ?_); (try (refine gate_guard (by rfl) ?_; dsimp only)); refine zn #[.int .i64 0, .int .i64 0, .string (⟨#[]⟩ : ByteArray)] 32 ?_; intro gb352 hg w29 hbox hb; have BK352 := zA hbox; have GW352 := zG hg (zb1 GE351); have GE352 := zG hg (zb1 GE351); replace HB := zS hb (zb1 GE351); have NB351_352 := zX BK351 hg; have NB352_351 := zY BK351 hg; replace BK351 := zB BK351 hb; clear hb hbox hg; have hnb30 := NB352_351.out; have hnc30 := NB351_352.out; obtain ⟨hcz31_0, hcz31_1, hcz31_2, hfz31_0, hfz31_1, hfz31_2⟩ := zh3 BK352) | ((with_reducible refine zg 105 ?_); refine gL (some 40) Try.func105 #[.slice A0 l0.length c0, .int .i64 a2] ?_; (with_reducible refine (impl_GetEsc.calls k _ _ l0 a2 t359 t360 t361 _ ?z1 ?z2 A27.out).mono ?_); (case z1 => exact Kd.C_below HR0.out (zb2 GE351 GE352)); (case z2 => exact HC0.out); rintro e w32 ⟨rfl, hb⟩; refine ⟨_, rfl, ?_⟩; replace BK351 := zA (blk_below (g := gb351) (o := .cells #[.int .i64 0, .int .i64 0, .string (⟨#[]⟩ : ByteArray)] 32 (0, 0)) zz14 hb); replace BK352 := zA (blk_below (g := gb352) (o := .cells #[.int .i64 a1, .int .i64 0, .string (⟨#[]⟩ : ByteArray)] 32 (0, 0)) zz6 hb); replace HB := zS hb (zb2 GE351 GE352); (try clear hb); obtain ⟨hcz33_0, hcz33_1, hcz33_2, hfz33_0, hfz33_1, hfz33_2⟩ := zh3 BK352) | ((with_reducible refine gate_store (t := 9) (p := 44) rfl ?_); refine store_event (t := 9) (p := 44) (v := ?vo_w34) (w1 := (w32.setCell ⟨gb352, 2, none⟩ (.string t359))) ?hg ?ho ?hn ?hr ?_; (case ho => rfl); (case hg => rfl); (case hn => rfl); (case hr => exact zz35); intro w34 hw; replace BK351 : Aside0 (w34.heap[gb351]? = some (.cells #[.int .i64 0, .int .i64 0, .string (⟨#[]⟩ : ByteArray)] 32 (0, 0))) := ⟨(by rw [hw]; exact zz68)⟩; replace BK352 : Aside0 (w34.heap[gb352]? = some (.cells #[.int .i64 a1, .int .i64 0, .string t359] 32 (0, 0))) := ⟨(by rw [hw]; exact (by (with_reducible repeat (first | refine blk_drewN ?_ _ | refine blk_drew ?_ | refine blk_alloc ?_ _)); refine blk_put (cs := #[.int .i64 a1, .int .i64 0, .string (⟨#[]⟩ : ByteArray)]) ?_ 2 _ rfl; (with_reducible repeat (first | refine blk_drewN ?_ _ | refine blk_drew ?_ | refine blk_alloc ?_ _)); exact BK352.out))⟩; replace HB : Aside0 (Below w.heap.size w w34) := ⟨zz94⟩; clear hw; obtain ⟨hcz35_0, hcz35_1, hcz35_2, hfz35_0, hfz35_1, hfz35_2⟩ := zh3 BK352; obtain ⟨hcz36_0, hcz36_1, hcz36_2, hfz36_0, hfz36_1, hfz36_2⟩ := zh3 BK351))
    refine bodyPost_ret (results_ctt rfl _ _ gb351 32 #[.int .i64 a1, .int .i64 0, .string t359] (0, 0) _ rfl zz27 Try.underlying32 rfl (by kernel_rfl)) rfl ?_
    exact ⟨zw, zb2 GE351 GE352⟩
   ·rw [if_neg c26] at H
    have c26b0 : (a1 == 3) = false := beq_eq_false_iff_ne.mpr c26
    have c26b1 : (a1 != 3) = true := bne_iff_ne.mpr c26
    by_cases c37 : a1 = 4
    ·rw [if_pos c37] at H
     have c37b0 : (a1 == 4) = true := beq_iff_eq.mpr c37
     have c37b1 : (a1 != 4) = false := bne_eq_false_iff_eq.mpr c37
     clear c37
     by_cases c38 : a2 ≥ 0
     ·rw [if_pos c38] at H
      have c38b0 : decide (0 ≤ a2) = true := decide_eq_true c38
      clear c38
      by_cases c39 : a2 < (l0.length : Int)
      ·rw [if_pos c39] at H
       have c39b0 : decide (a2 < (l0.length : Int)) = true := decide_eq_true c39
       clear c39
       by_cases c40 : 0 ≤ a2
       ·rw [if_pos c40] at H
        have c40b0 : decide (0 ≤ a2) = true := decide_eq_true c40
        clear c40
        simp only [Option.some.injEq, Prod.mk.injEq] at H
        obtain ⟨rfl, rfl, rfl, rfl, rfl⟩ := H
        go_enter Try.func74, Try.ntmps74
        go_wp2_with (first | ((with_reducible refine zt 6 ?_); (try (refine gate_guard (by rfl) ?_; dsimp only)); refine zn #[.int .i64 0, .int .i64 0, .string (⟨#[]⟩ : ByteArray)] 32 ?_; intro gb351 hg w41 hbox hb; have BK351 := zA hbox; have GW351 := zG hg; have GE351 := zG hg; replace HB := zS hb; clear hb hbox hg) | ((with_reducible refine zt 9 ?_); (try (refine gate_guard (by rfl) ?_; dsimp only)); refine zn #[.int .i64 0, .int .i64 0, .string (⟨#[]⟩ : ByteArray)] 32 ?_; intro gb352 hg w42 hbox hb; have BK352 := zA hbox; have GW352 := zG hg (zb1 GE351); have GE352 := zG hg (zb1 GE351); replace HB := zS hb (zb1 GE351); have NB351_352 := zX BK351 hg; have NB352_351 := zY BK351 hg; replace BK351 := zB BK351 hb; clear hb hbox hg; have hnb43 := NB352_351.out; have hnc43 := NB351_352.out; obtain ⟨hcz44_0, hcz44_1, hcz44_2, hfz44_0, hfz44_1, hfz44_2⟩ := zh3 BK352) | ((with_reducible refine gate_store (t := 32) (p := 9) rfl ?_); refine store_event (t := 32) (p := 9) (v := ?vo_w45) (w1 := (((w42.setCell ⟨gb352, 0, none⟩ (.int .i64 a1)).setCell ⟨gb352, 1, none⟩ (.int .i64 0)).setCell ⟨gb352, 2, none⟩ (.string (⟨#[]⟩ : ByteArray)))) ?hg ?ho ?hn ?hr ?_; (case ho => rfl); (case hg => rfl); (case hn => rfl); (case hr => exact zz35); intro w45 hw; replace BK351 : Aside0 (w45.heap[gb351]? = some (.cells #[.int .i64 0, .int .i64 0, .string (⟨#[]⟩ : ByteArray)] 32 (0, 0))) := ⟨zz115⟩; replace BK352 : Aside0 (w45.heap[gb352]? = some (.cells #[.int .i64 a1, .int .i64 0, .string (⟨#[]⟩ : ByteArray)] 32 (0, 0))) := ⟨zz116⟩; replace HB : Aside0 (Below w.heap.size w w45) := ⟨zz94⟩; clear hw; have p362 : 0 ≤ (a2 : Int) := of_decide_eq_true za; have q362 : a2 < (l0.length : Int) := of_decide_eq_true za; obtain ⟨ad362, e362, hx362_0⟩ := Kd.at_int HR0.out a2 p362 q362; cases e362; replace hx362_0 := (HB.out.cell (World.block_lt_of_cell? w _ hx362_0)).trans hx362_0; replace p362 := eq_true p362; replace q362 := eq_true q362; obtain ⟨hcz46_0, hcz46_1, hcz46_2, hfz46_0, hfz46_1, hfz46_2⟩ := zh3 BK352) | ((with_reducible refine gate_store (t := 3) (p := 62) rfl ?_); refine store_event (t := 3) (p := 62) (v := ?vo_w47) (w1 := (w45.setCell ⟨gb352, 1, none⟩ (.int .i64 (wrap64 (rd l0 a2))))) ?hg ?ho ?hn ?hr ?_; (case ho => rfl); (case hg => rfl); (case hn => rfl); (case hr => exact zz35); intro w47 hw; replace BK351 : Aside0 (w47.heap[gb351]? = some (.cells #[.int .i64 0, .int .i64 0, .string (⟨#[]⟩ : ByteArray)] 32 (0, 0))) := ⟨(by rw [hw]; exact zz68)⟩; replace BK352 : Aside0 (w47.heap[gb352]? = some (.cells #[.int .i64 a1, .int .i64 (wrap64 (rd l0 a2)), .string (⟨#[]⟩ : ByteArray)] 32 (0, 0))) := ⟨(by rw [hw]; exact zz71)⟩; replace HB : Aside0 (Below w.heap.size w w47) := ⟨zz94⟩; clear hw; obtain ⟨hcz48_0, hcz48_1, hcz48_2, hfz48_0, hfz48_1, hfz48_2⟩ := zh3 BK352; obtain ⟨hcz49_0, hcz49_1, hcz49_2, hfz49_0, hfz49_1, hfz49_2⟩ := zh3 BK351))
        refine bodyPost_ret (results_ctt rfl _ _ gb351 32 #[.int .i64 a1, .int .i64 (wrap64 (rd l0 a2)), .string (⟨#[]⟩ : ByteArray)] (0, 0) _ rfl (by (with_reducible repeat (first | refine blk_drewN ?_ _ | refine blk_drew ?_ | refine blk_alloc ?_ _)); refine blk_put (cs := #[.int .i64 a1, .int .i64 (wrap64 (rd l0 a2)), .string (⟨#[]⟩ : ByteArray)]) ?_ 2 _ rfl; (with_reducible repeat (first | refine blk_drewN ?_ _ | refine blk_drew ?_ | refine blk_alloc ?_ _)); refine blk_put (cs := #[.int .i64 a1, .int .i64 0, .string (⟨#[]⟩ : ByteArray)]) ?_ 1 _ rfl; (with_reducible repeat (first | refine blk_drewN ?_ _ | refine blk_drew ?_ | refine blk_alloc ?_ _)); refine blk_put (cs := #[.int .i64 0, .int .i64 0, .string (⟨#[]⟩ : ByteArray)]) ?_ 0 _ rfl; (with_reducible repeat (first | refine blk_drewN ?_ _ | refine blk_drew ?_ | refine blk_alloc ?_ _)); exact BK351.out) Try.underlying32 rfl (by kernel_rfl)) rfl ?_
        exact ⟨zw, zb2 GE351 GE352⟩
       ·rw [if_neg c40] at H
        exact absurd H (by simp)
      ·rw [if_neg c39] at H
       have c39b0 : decide (a2 < (l0.length : Int)) = false := decide_eq_false c39
       clear c39
       simp only [Option.some.injEq, Prod.mk.injEq] at H
       obtain ⟨rfl, rfl, rfl, rfl, rfl⟩ := H
       go_enter Try.func74, Try.ntmps74
       go_wp2_with (first | ((with_reducible refine zt 6 ?_); (try (refine gate_guard (by rfl) ?_; dsimp only)); refine zn #[.int .i64 0, .int .i64 0, .string (⟨#[]⟩ : ByteArray)] 32 ?_; intro gb351 hg w50 hbox hb; have BK351 := zA hbox; have GW351 := zG hg; have GE351 := zG hg; replace HB := zS hb; clear hb hbox hg) | ((with_reducible refine zt 9 ?_); (try (refine gate_guard (by rfl) ?_; dsimp only)); refine zn #[.int .i64 0, .int .i64 0, .string (⟨#[]⟩ : ByteArray)] 32 ?_; intro gb352 hg w51 hbox hb; have BK352 := zA hbox; have GW352 := zG hg (zb1 GE351); have GE352 := zG hg (zb1 GE351); replace HB := zS hb (zb1 GE351); have NB351_352 := zX BK351 hg; have NB352_351 := zY BK351 hg; replace BK351 := zB BK351 hb; clear hb hbox hg; have hnb52 := NB352_351.out; have hnc52 := NB351_352.out; obtain ⟨hcz53_0, hcz53_1, hcz53_2, hfz53_0, hfz53_1, hfz53_2⟩ := zh3 BK352) | ((with_reducible refine gate_store (t := 32) (p := 9) rfl ?_); refine store_event (t := 32) (p := 9) (v := ?vo_w54) (w1 := (((w51.setCell ⟨gb352, 0, none⟩ (.int .i64 a1)).setCell ⟨gb352, 1, none⟩ (.int .i64 0)).setCell ⟨gb352, 2, none⟩ (.string (⟨#[]⟩ : ByteArray)))) ?hg ?ho ?hn ?hr ?_; (case ho => rfl); (case hg => rfl); (case hn => rfl); (case hr => exact zz35); intro w54 hw; replace BK351 : Aside0 (w54.heap[gb351]? = some (.cells #[.int .i64 0, .int .i64 0, .string (⟨#[]⟩ : ByteArray)] 32 (0, 0))) := ⟨zz115⟩; replace BK352 : Aside0 (w54.heap[gb352]? = some (.cells #[.int .i64 a1, .int .i64 0, .string (⟨#[]⟩ : ByteArray)] 32 (0, 0))) := ⟨zz116⟩; replace HB : Aside0 (Below w.heap.size w w54) := ⟨zz94⟩; clear hw; obtain ⟨hcz55_0, hcz55_1, hcz55_2, hfz55_0, hfz55_1, hfz55_2⟩ := zh3 BK352; obtain ⟨hcz56_0, hcz56_1, hcz56_2, hfz56_0, hfz56_1, hfz56_2⟩ := zh3 BK351))
       refine bodyPost_ret (results_ctt rfl _ _ gb351 32 #[.int .i64 a1, .int .i64 0, .string (⟨#[]⟩ : ByteArray)] (0, 0) _ rfl zz27 Try.underlying32 rfl (by kernel_rfl)) rfl ?_
       exact ⟨zw, zb2 GE351 GE352⟩
     ·rw [if_neg c38] at H
      have c38b0 : decide (0 ≤ a2) = false := decide_eq_false c38
      clear c38
      simp only [Option.some.injEq, Prod.mk.injEq] at H
      obtain ⟨rfl, rfl, rfl, rfl, rfl⟩ := H
      go_enter Try.func74, Try.ntmps74
      go_wp2_with (first | ((with_reducible refine zt 6 ?_); (try (refine gate_guard (by rfl) ?_; dsimp only)); refine zn #[.int .i64 0, .int .i64 0, .string (⟨#[]⟩ : ByteArray)] 32 ?_; intro gb351 hg w57 hbox hb; have BK351 := zA hbox; have GW351 := zG hg; have GE351 := zG hg; replace HB := zS hb; clear hb hbox hg) | ((with_reducible refine zt 9 ?_); (try (refine gate_guard (by rfl) ?_; dsimp only)); refine zn #[.int .i64 0, .int .i64 0, .string (⟨#[]⟩ : ByteArray)] 32 ?_; intro gb352 hg w58 hbox hb; have BK352 := zA hbox; have GW352 := zG hg (zb1 GE351); have GE352 := zG hg (zb1 GE351); replace HB := zS hb (zb1 GE351); have NB351_352 := zX BK351 hg; have NB352_351 := zY BK351 hg; replace BK351 := zB BK351 hb; clear hb hbox hg; have hnb59 := NB352_351.out; have hnc59 := NB351_352.out; obtain ⟨hcz60_0, hcz60_1, hcz60_2, hfz60_0, hfz60_1, hfz60_2⟩ := zh3 BK352) | ((with_reducible refine gate_store (t := 32) (p := 9) rfl ?_); refine store_event (t := 32) (p := 9) (v := ?vo_w61) (w1 := (((w58.setCell ⟨gb352, 0, none⟩ (.int .i64 a1)).setCell ⟨gb352, 1, none⟩ (.int .i64 0)).setCell ⟨gb352, 2, none⟩ (.string (⟨#[]⟩ : ByteArray)))) ?hg ?ho ?hn ?hr ?_; (case ho => rfl); (case hg => rfl); (case hn => rfl); (case hr => exact zz35); intro w61 hw; replace BK351 : Aside0 (w61.heap[gb351]? = some (.cells #[.int .i64 0, .int .i64 0, .string (⟨#[]⟩ : ByteArray)] 32 (0, 0))) := ⟨zz115⟩; replace BK352 : Aside0 (w61.heap[gb352]? = some (.cells #[.int .i64 a1, .int .i64 0, .string (⟨#[]⟩ : ByteArray)] 32 (0, 0))) := ⟨zz116⟩; replace HB : Aside0 (Below w.heap.size w w61) := ⟨zz94⟩; clear hw; obtain ⟨hcz62_0, hcz62_1, hcz62_2, hfz62_0, hfz62_1, hfz62_2⟩ := zh3 BK352; obtain ⟨hcz63_0, hcz63_1, hcz63_2, hfz63_0, hfz63_1, hfz63_2⟩ := zh3 BK351))
      refine bodyPost_ret (results_ctt rfl _ _ gb351 32 #[.int .i64 a1, .int .i64 0, .string (⟨#[]⟩ : ByteArray)] (0, 0) _ rfl zz27 Try.underlying32 rfl (by kernel_rfl)) rfl ?_
      exact ⟨zw, zb2 GE351 GE352⟩
    ·rw [if_neg c37] at H
     have c37b0 : (a1 == 4) = false := beq_eq_false_iff_ne.mpr c37
     have c37b1 : (a1 != 4) = true := bne_iff_ne.mpr c37
     simp only [Option.some.injEq, Prod.mk.injEq] at H
     obtain ⟨rfl, rfl, rfl, rfl, rfl⟩ := H
     go_enter Try.func74, Try.ntmps74
     go_wp2_with (first | ((with_reducible refine zt 6 ?_); (try (refine gate_guard (by rfl) ?_; dsimp only)); refine zn #[.int .i64 0, .int .i64 0, .string (⟨#[]⟩ : ByteArray)] 32 ?_; intro gb351 hg w64 hbox hb; have BK351 := zA hbox; have GW351 := zG hg; have GE351 := zG hg; replace HB := zS hb; clear hb hbox hg) | ((with_reducible refine zt 9 ?_); (try (refine gate_guard (by rfl) ?_; dsimp only)); refine zn #[.int .i64 0, .int .i64 0, .string (⟨#[]⟩ : ByteArray)] 32 ?_; intro gb352 hg w65 hbox hb; have BK352 := zA hbox; have GW352 := zG hg (zb1 GE351); have GE352 := zG hg (zb1 GE351); replace HB := zS hb (zb1 GE351); have NB351_352 := zX BK351 hg; have NB352_351 := zY BK351 hg; replace BK351 := zB BK351 hb; clear hb hbox hg; have hnb66 := NB352_351.out; have hnc66 := NB351_352.out; obtain ⟨hcz67_0, hcz67_1, hcz67_2, hfz67_0, hfz67_1, hfz67_2⟩ := zh3 BK352) | ((with_reducible refine gate_store (t := 32) (p := 9) rfl ?_); refine store_event (t := 32) (p := 9) (v := ?vo_w68) (w1 := (((w65.setCell ⟨gb352, 0, none⟩ (.int .i64 a1)).setCell ⟨gb352, 1, none⟩ (.int .i64 0)).setCell ⟨gb352, 2, none⟩ (.string (⟨#[]⟩ : ByteArray)))) ?hg ?ho ?hn ?hr ?_; (case ho => rfl); (case hg => rfl); (case hn => rfl); (case hr => exact zz35); intro w68 hw; replace BK351 : Aside0 (w68.heap[gb351]? = some (.cells #[.int .i64 0, .int .i64 0, .string (⟨#[]⟩ : ByteArray)] 32 (0, 0))) := ⟨zz115⟩; replace BK352 : Aside0 (w68.heap[gb352]? = some (.cells #[.int .i64 a1, .int .i64 0, .string (⟨#[]⟩ : ByteArray)] 32 (0, 0))) := ⟨zz116⟩; replace HB : Aside0 (Below w.heap.size w w68) := ⟨zz94⟩; clear hw; obtain ⟨hcz69_0, hcz69_1, hcz69_2, hfz69_0, hfz69_1, hfz69_2⟩ := zh3 BK352; obtain ⟨hcz70_0, hcz70_1, hcz70_2, hfz70_0, hfz70_1, hfz70_2⟩ := zh3 BK351))
     refine bodyPost_ret (results_ctt rfl _ _ gb351 32 #[.int .i64 a1, .int .i64 0, .string (⟨#[]⟩ : ByteArray)] (0, 0) _ rfl zz27 Try.underlying32 rfl (by kernel_rfl)) rfl ?_
     exact ⟨zw, zb2 GE351 GE352⟩

end Go.Proofs.Ytnfmpopmigbkoaa.PFnPartsRead

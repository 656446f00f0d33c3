-- Written by mkprint.py, a program of this session (the printer with additions of its own)
import Derived.Test.YtnfmpopmigbkoaaPFnPartsReadx0
import Derived.Test.YtnfmpopmigbkoaaPFnPartsReadx4
namespace Go.Proofs.Ytnfmpopmigbkoaa.PFnPartsRead
open Go.RowKit Go.Proofs.YtnfmpopmigbkoaaW.PrintWords Go.Proofs.YtnfmpopmigbkoaaW.PrintLast Go.Proofs.YtnfmpopmigbkoaaW.PrintMore
attribute [local go_sem] max2_int min2_int max_two min_two max_three min_three max_four min_four   -- for this text's walks alone
set_option linter.unusedVariables false
set_option linter.unusedSimpArgs false

/-! ### spec_PutVar: function 95 -/
mutual
def spec_PutVar.j0 : Nat → List Int → Int → Option (List Int)
  | 0, _, _ => none
  | k + 1, x0, x1 => if x1 < (-1000000000000000) then (spec_PutVar.j1 k x0 (-1000000000000000)) else (spec_PutVar.j1 k x0 x1)
def spec_PutVar.j1 : Nat → List Int → Int → Option (List Int)
  | 0, _, _ => none
  | k + 1, x0, x1 => if x1 ≥ 0 then ((spec_l4Bytes.f k x1).bind fun t221 => ((some (([] : List Int) : List Int)).bind fun y224 => (if y224.length + x0.length < 140737488355328 then ((some (y224 ++ x0 : List Int)).bind fun y227 => (if y227.length < 140737488355328 then ((some (y227 ++ [(wrap64 (128 + (t221.length : Int))) % 256] : List Int)).bind fun y230 => (if y230.length + t221.length < 140737488355328 then (some (y230 ++ t221)) else (none))) else (none))) else (none)))) else ((spec_l4Bytes.f k (wrap64 ((-1) - x1))).bind fun t236 => ((some (([] : List Int) : List Int)).bind fun y239 => (if y239.length + x0.length < 140737488355328 then ((some (y239 ++ x0 : List Int)).bind fun y242 => (if y242.length < 140737488355328 then ((some (y242 ++ [(wrap64 (127 - (t236.length : Int))) % 256] : List Int)).bind fun y245 => ((spec_Flip.f k t236 0).bind fun t248 => (if y245.length + t248.length < 140737488355328 then (some (y245 ++ t248)) else (none)))) else (none))) else (none))))
end
def spec_PutVar.f (k : Nat) (l0 : List Int) (a1 : Int) : Option (List Int) := if a1 > 1000000000000000 then (spec_PutVar.j0 k l0 1000000000000000) else (spec_PutVar.j0 k l0 a1)
theorem spec_PutVar.mono_l : ∀ k, (∀ y0 y1, LeO (spec_PutVar.j0 k y0 y1) (spec_PutVar.j0 (k + 1) y0 y1)) ∧ (∀ y0 y1, LeO (spec_PutVar.j1 k y0 y1) (spec_PutVar.j1 (k + 1) y0 y1))
  | 0 => ⟨fun _ _ r h => by simp [spec_PutVar.j0] at h, fun _ _ r h => by simp [spec_PutVar.j1] at h⟩
  | k + 1 => by
    obtain ⟨ih0, ih1⟩ := spec_PutVar.mono_l k
    refine ⟨?_, ?_⟩
    · intro y0 y1
      unfold spec_PutVar.j0
      repeat' first
      | (with_reducible exact ih0 _ _)
      | (with_reducible exact ih1 _ _)
      | (with_reducible exact spec_Flip.mono _ _ _)
      | (with_reducible exact spec_l4Bytes.mono _ _)
      | (with_reducible exact LeO.refl _)
      | (with_reducible exact LeO.none _)
      | (with_reducible refine LeO.ite ?_ ?_)
      | (with_reducible refine LeO.bind ?_ (fun _ => ?_))
      | exact ih0 _ _
      | exact ih1 _ _
      | exact spec_Flip.mono _ _ _
      | exact spec_l4Bytes.mono _ _
      | exact LeO.none _
      | refine LeO.ite ?_ ?_
      | refine LeO.bind ?_ (fun _ => ?_)
    · intro y0 y1
      unfold spec_PutVar.j1
      repeat' first
      | (with_reducible exact ih0 _ _)
      | (with_reducible exact ih1 _ _)
      | (with_reducible exact spec_Flip.mono _ _ _)
      | (with_reducible exact spec_l4Bytes.mono _ _)
      | (with_reducible exact LeO.refl _)
      | (with_reducible exact LeO.none _)
      | (with_reducible refine LeO.ite ?_ ?_)
      | (with_reducible refine LeO.bind ?_ (fun _ => ?_))
      | exact ih0 _ _
      | exact ih1 _ _
      | exact spec_Flip.mono _ _ _
      | exact spec_l4Bytes.mono _ _
      | exact LeO.none _
      | refine LeO.ite ?_ ?_
      | refine LeO.bind ?_ (fun _ => ?_)
theorem spec_PutVar.mono : ∀ a0 a1 k, LeO (spec_PutVar.f k a0 a1) (spec_PutVar.f (k + 1) a0 a1) := by
  intro a0 a1 k
  obtain ⟨ih0, ih1⟩ := spec_PutVar.mono_l k
  unfold spec_PutVar.f
  repeat' first
      | (with_reducible exact ih0 _ _)
      | (with_reducible exact ih1 _ _)
      | (with_reducible exact spec_Flip.mono _ _ _)
      | (with_reducible exact spec_l4Bytes.mono _ _)
      | (with_reducible exact LeO.refl _)
      | (with_reducible exact LeO.none _)
      | (with_reducible refine LeO.ite ?_ ?_)
      | (with_reducible refine LeO.bind ?_ (fun _ => ?_))
      | exact ih0 _ _
      | exact ih1 _ _
      | exact spec_Flip.mono _ _ _
      | exact spec_l4Bytes.mono _ _
      | exact LeO.none _
      | refine LeO.ite ?_ ?_
      | refine LeO.bind ?_ (fun _ => ?_)
set_option maxHeartbeats 8000000 in
set_option maxRecDepth 100000 in
theorem spec_PutVar.calls (k : Nat) (A0 : Option Addr) (c0 : Nat) (l0 : List Int) (a1 : Int) (r : List Int) (w : World) (hr0 : Kd.C (Kd.int .u8) w A0 l0.length l0) (hc0 : l0.length ≤ c0) (h : spec_PutVar.f k l0 a1 = some r) :
  Calls Try.prog 95 #[.slice A0 l0.length c0, .int .i64 a1] w fun e w' => ∃ v0_ : Value, e = .returned (v0_) ∧ Kd.R (Kd.int .u8) 5 w' w.heap.size (fun _ => True) v0_ r ∧ Below w.heap.size w w' := by
 have HR0 := zA hr0
 have HC0 := zA hc0
 clear hr0 hc0
 have HB := zA (Below.refl w.heap.size w)
 have H : (if a1 > 1000000000000000 then (spec_PutVar.j0 k l0 1000000000000000) else (spec_PutVar.j0 k l0 a1)) = some r := h
 clear h
 have HC3 := zA H
 clear H
 go_enter Try.func95, Try.ntmps95
 go_upto_if 8 with (fail)
 go_cut [1] (fun v1 wc => ∃ (kq : Nat) (x1_2 : Int), v1 = .int .i64 x1_2 ∧ Aside0 (spec_PutVar.j0 kq l0 x1_2 = some r) ∧ Aside0 (kq ≤ k) ∧ Aside0 (Below w.heap.size w wc))
 case first =>
  have H := HC3.out
  clear HC3
  by_cases c4 : a1 > 1000000000000000
  ·rw [if_pos c4] at H
   have c4b0 : decide (1000000000000000 < a1) = true := decide_eq_true c4
   clear c4
   (first | rw [c4b0] | (simp only [i64_w, i32_w]; rw [c4b0]) | skip)
   have H' := zA H
   clear H
   go_wp2
   go_meet
   case rel => exact ⟨_, (1000000000000000), zx, H', ⟨zo⟩, ⟨zb⟩⟩
  ·rw [if_neg c4] at H
   have c4b0 : decide (1000000000000000 < a1) = false := decide_eq_false c4
   clear c4
   (first | rw [c4b0] | (simp only [i64_w, i32_w]; rw [c4b0]) | skip)
   have H' := zA H
   clear H
   go_wp2
   go_meet
   case rel => exact ⟨_, (a1), zx, H', ⟨zo⟩, ⟨zb⟩⟩
 case rest =>
  clear HC3
  obtain ⟨kq, x1_2, rfl, HA, HJ2, HB⟩ := hcut
  cases kq with
  | zero => exact absurd HA.out (by simp [spec_PutVar.j0])
  | succ kj2 =>
   have H := HA.out
   clear HA
   simp only [spec_PutVar.j0] at H
   have HC5 := zA H
   clear H
   go_upto_if 10 with (fail)
   go_cut [1] (fun v1 wc => ∃ (kq : Nat) (x1_4 : Int), v1 = .int .i64 x1_4 ∧ Aside0 (spec_PutVar.j1 kq l0 x1_4 = some r) ∧ Aside0 (kq ≤ kj2) ∧ Aside0 (Below w.heap.size w wc))
   case first =>
    have H := HC5.out
    clear HC5
    by_cases c6 : x1_2 < (-1000000000000000)
    ·rw [if_pos c6] at H
     have c6b0 : decide (x1_2 < (-1000000000000000)) = true := decide_eq_true c6
     clear c6
     (first | rw [c6b0] | (simp only [i64_w, i32_w]; rw [c6b0]) | skip)
     have H' := zA H
     clear H
     go_wp2
     go_meet
     case rel => exact ⟨_, ((-1000000000000000)), zx, H', ⟨zz101⟩, ⟨zb⟩⟩
    ·rw [if_neg c6] at H
     have c6b0 : decide (x1_2 < (-1000000000000000)) = false := decide_eq_false c6
     clear c6
     (first | rw [c6b0] | (simp only [i64_w, i32_w]; rw [c6b0]) | skip)
     have H' := zA H
     clear H
     go_wp2
     go_meet
     case rel => exact ⟨_, (x1_2), zx, H', ⟨zz101⟩, ⟨zb⟩⟩
   case rest =>
    clear HC5
    obtain ⟨kq, x1_4, rfl, HA, HJ4, HB⟩ := hcut
    cases kq with
    | zero => exact absurd HA.out (by simp [spec_PutVar.j1])
    | succ kj4 =>
     have H := HA.out
     clear HA
     simp only [spec_PutVar.j1] at H
     by_cases c7 : x1_4 ≥ 0
     ·rw [if_pos c7] at H
      have c7b0 : decide (0 ≤ x1_4) = true := decide_eq_true c7
      clear c7
      replace H := zI H
      obtain ⟨t221, A8, H⟩ := H
      obtain ⟨y224, hy224⟩ : ∃ y_ : List Int, y_ = (([] : List Int)) := ⟨_, rfl⟩
      replace H : (if y224.length + l0.length < 140737488355328 then ((some (y224 ++ l0 : List Int)).bind fun y227 => (if y227.length < 140737488355328 then ((some (y227 ++ [(wrap64 (128 + (t221.length : Int))) % 256] : List Int)).bind fun y230 => (if y230.length + t221.length < 140737488355328 then (some (y230 ++ t221)) else (none))) else (none))) else (none)) = some r := by first | (rw [hy224]; with_reducible exact H) | (have H2_ := (Option.bind_some _ _).symm.trans H; rw [hy224]; with_reducible exact H2_) | (have H2_ := (Option.bind_some _ _).symm.trans H; with_reducible exact H2_) | with_reducible exact H | (rw [hy224]; exact H) | exact H
      have Ny224 := zA hy224
      clear hy224
      by_cases c9 : y224.length + l0.length < 140737488355328
      ·rw [if_pos c9] at H
       have LMc9 := zA c9
       clear c9
       obtain ⟨y227, hy227⟩ : ∃ y_ : List Int, y_ = (y224 ++ l0) := ⟨_, rfl⟩
       replace H : (if y227.length < 140737488355328 then ((some (y227 ++ [(wrap64 (128 + (t221.length : Int))) % 256] : List Int)).bind fun y230 => (if y230.length + t221.length < 140737488355328 then (some (y230 ++ t221)) else (none))) else (none)) = some r := by first | (rw [hy227]; with_reducible exact H) | (have H2_ := (Option.bind_some _ _).symm.trans H; rw [hy227]; with_reducible exact H2_) | (have H2_ := (Option.bind_some _ _).symm.trans H; with_reducible exact H2_) | with_reducible exact H | (rw [hy227]; exact H) | exact H
       have Ny227 := zA hy227
       clear hy227
       by_cases c10 : y227.length < 140737488355328
       ·rw [if_pos c10] at H
        have LMc10 := zA c10
        clear c10
        obtain ⟨y230, hy230⟩ : ∃ y_ : List Int, y_ = (y227 ++ [(wrap64 (128 + (t221.length : Int))) % 256]) := ⟨_, rfl⟩
        replace H : (if y230.length + t221.length < 140737488355328 then (some (y230 ++ t221)) else (none)) = some r := by first | (rw [hy230]; with_reducible exact H) | (have H2_ := (Option.bind_some _ _).symm.trans H; rw [hy230]; with_reducible exact H2_) | (have H2_ := (Option.bind_some _ _).symm.trans H; with_reducible exact H2_) | with_reducible exact H | (rw [hy230]; exact H) | exact H
        have Ny230 := zA hy230
        clear hy230
        by_cases c11 : y230.length + t221.length < 140737488355328
        ·rw [if_pos c11] at H
         have LMc11 := zA c11
         clear c11
         obtain ⟨y233, hy233⟩ : ∃ y_ : List Int, y_ = (y230 ++ t221) := ⟨_, rfl⟩
         replace H : (some y233) = some r := by first | (rw [hy233]; with_reducible exact H) | (have H2_ := (Option.bind_some _ _).symm.trans H; rw [hy233]; with_reducible exact H2_) | (have H2_ := (Option.bind_some _ _).symm.trans H; with_reducible exact H2_) | with_reducible exact H | (rw [hy233]; exact H) | exact H
         have Ny233 := zA hy233
         clear hy233
         obtain rfl := Option.some.inj H
         go_wp2_with (first | ((with_reducible refine zg 115 ?_); refine gL (some 14) Try.func115 #[.int .i64 x1_4] ?_; (with_reducible refine (spec_l4Bytes.calls kj4 x1_4 t221 _ A8.out).mono ?_); rintro e w12 ⟨v222, rfl, ho0, hb⟩; refine ⟨_, rfl, ?_⟩; have HO223 := zL ho0; replace HB := zS hb; clear hb ho0) | ((with_reducible refine zt 15 ?_); refine Kd.R_lit (Kd.int .u8) _ 5 ?hg (N := 15) ?hd (xs := ([] : List Int)) (inner := []) (ok := fun _ => True) (okp := fun _ => True) ?hr ?hp (fun _ hk => hk) trivial (Below.refl _ _) (Nat.le_refl _) (by simp) ?_; (case hd => rfl); (case hg => rfl); (case hr => exact zz35); (case hp => exact (Reps.none _ _)); intro v225 w13 ho14 hb hg_ hnew_; clear hg_ hnew_; (first | rw [← Ny224.out] at ho14 | (simp only [Int.reduceToNat] at ho14; rw [← Ny224.out] at ho14)); have HO226 := zL (zN ho14 HO223); replace HO223 := zE HO223 ho14 hb; replace HB := zS hb; clear hb ho14) | ((with_reducible refine gate_builtin (b := .append) (xs := #[.tmp 15, .tmp 16]) rfl ?_); at_builtin; refine Kd.R_append_rows (Kd.int .u8) (w0 := w) w.heap.size rfl (.tmp 15) (.tmp 16) 22 5 (.int .u8 0) 1 rfl Try.underlying22 info5 rfl (by decide) (by omega) v225 y224 l0 _ _ _ (fun k_ => some k_ ≠ (v222 : Value).ownBlock) (fun _ => False) rfl rfl ?aO ?aR (fun _ _ h => h) (fun _ h => h.elim) ?aF ?aB ?aS ?aL ?_; (case aR => exact zd HR0); (case aB => exact zb); (case aF => exact (fun k_ hk => Kd.fresh' (Kd.R_lt (zr HO223)) k_ hk)); (case aO => exact (by (with_reducible repeat (first | apply Kd.R_alloc | apply Kd.R_drewN | apply Kd.R_drew)); exact Kd.R_mono HO226.out (fun _ hk => hk.2))); (case aS => exact (below_size zb)); (case aL => have := LMc9.out; omega); intro v228 w15 ho hb hg hat; rw [← Ny227.out] at ho; replace HO223 := zA (Kd.R_after (ok := (fun _ => True)) (zr HO223) hg hat); replace HB := zA hb; have HO229 := zA ho; clear HO226 ho hb hg hat; obtain ⟨Ao16, co16, eo16⟩ := Kd.R_slice HO223.out; subst eo16) | ((with_reducible refine gate_builtin (b := .append) (xs := #[.tmp 17, .tmp 22]) rfl ?_); at_builtin; refine Kd.R_append (Kd.int .u8) (w0 := w) w.heap.size rfl (.tmp 17) (.tmp 22) 22 5 (.int .u8 0) 1 rfl Try.underlying22 info5 rfl (by decide) (by omega) v228 y227 ((wrap64 (128 + (t221.length : Int))) % 256) [.int .u8 ((wrap64 (128 + (t221.length : Int))) % 256)] (fun k_ => some k_ ≠ (.slice Ao16 t221.length co16 : Value).ownBlock) (fun _ => False) rfl rfl ?aP (fun _ hk => hk.elim) ?aF ?aO ?aB ?aS ?aL ?_; (case aP => exact rfl); (case aB => exact zb); (case aF => exact (fun k_ hk => Kd.fresh' (Kd.R_lt (zr HO223)) k_ hk)); (case aO => exact (zr HO229)); (case aS => exact (below_size zb)); (case aL => have := LMc10.out; omega); intro v231 w17 ho hb hg hat; rw [← Ny230.out] at ho; replace HO223 := zA (Kd.R_after (ok := (fun _ => True)) (zr HO223) hg hat); replace HB := zA hb; have HO232 := zA ho; clear HO229 ho hb hg hat) | ((with_reducible refine gate_builtin (b := .append) (xs := #[.tmp 23, .tmp 24]) rfl ?_); at_builtin; refine Kd.R_append_rows (Kd.int .u8) (w0 := w) w.heap.size rfl (.tmp 23) (.tmp 24) 22 5 (.int .u8 0) 1 rfl Try.underlying22 info5 rfl (by decide) (by omega) v231 y230 t221 _ _ _ (fun k_ => some k_ ≠ (.slice Ao16 t221.length co16 : Value).ownBlock) (fun _ => False) rfl rfl ?aO ?aR (fun _ _ h => h) (fun _ h => h.elim) ?aF ?aB ?aS ?aL ?_; (case aR => exact ze HO223); (case aB => exact zb); (case aF => exact (fun k_ hk => Kd.fresh' (Kd.R_lt (zr HO223)) k_ hk)); (case aO => exact (zr HO232)); (case aS => exact (below_size zb)); (case aL => have := LMc11.out; omega); intro v234 w18 ho hb hg hat; rw [← Ny233.out] at ho; replace HO223 := zA (Kd.R_after (ok := (fun _ => True)) (zr HO223) hg hat); replace HB := zA hb; have HO235 := zA ho; clear HO232 ho hb hg hat))
         go_ret
         exact ⟨_, zw, by (with_reducible repeat (first | apply Kd.R_alloc | apply Kd.R_drewN | apply Kd.R_drew)); exact Kd.R_mono HO235.out (fun _ hk => trivial), zb⟩
        ·rw [if_neg c11] at H
         exact absurd H (by simp)
       ·rw [if_neg c10] at H
        exact absurd H (by simp)
      ·rw [if_neg c9] at H
       exact absurd H (by simp)
     ·rw [if_neg c7] at H
      have c7b0 : decide (0 ≤ x1_4) = false := decide_eq_false c7
      clear c7
      replace H := zI H
      obtain ⟨t236, A19, H⟩ := H
      obtain ⟨y239, hy239⟩ : ∃ y_ : List Int, y_ = (([] : List Int)) := ⟨_, rfl⟩
      replace H : (if y239.length + l0.length < 140737488355328 then ((some (y239 ++ l0 : List Int)).bind fun y242 => (if y242.length < 140737488355328 then ((some (y242 ++ [(wrap64 (127 - (t236.length : Int))) % 256] : List Int)).bind fun y245 => ((spec_Flip.f kj4 t236 0).bind fun t248 => (if y245.length + t248.length < 140737488355328 then (some (y245 ++ t248)) else (none)))) else (none))) else (none)) = some r := by first | (rw [hy239]; with_reducible exact H) | (have H2_ := (Option.bind_some _ _).symm.trans H; rw [hy239]; with_reducible exact H2_) | (have H2_ := (Option.bind_some _ _).symm.trans H; with_reducible exact H2_) | with_reducible exact H | (rw [hy239]; exact H) | exact H
      have Ny239 := zA hy239
      clear hy239
      by_cases c20 : y239.length + l0.length < 140737488355328
      ·rw [if_pos c20] at H
       have LMc20 := zA c20
       clear c20
       obtain ⟨y242, hy242⟩ : ∃ y_ : List Int, y_ = (y239 ++ l0) := ⟨_, rfl⟩
       replace H : (if y242.length < 140737488355328 then ((some (y242 ++ [(wrap64 (127 - (t236.length : Int))) % 256] : List Int)).bind fun y245 => ((spec_Flip.f kj4 t236 0).bind fun t248 => (if y245.length + t248.length < 140737488355328 then (some (y245 ++ t248)) else (none)))) else (none)) = some r := by first | (rw [hy242]; with_reducible exact H) | (have H2_ := (Option.bind_some _ _).symm.trans H; rw [hy242]; with_reducible exact H2_) | (have H2_ := (Option.bind_some _ _).symm.trans H; with_reducible exact H2_) | with_reducible exact H | (rw [hy242]; exact H) | exact H
       have Ny242 := zA hy242
       clear hy242
       by_cases c21 : y242.length < 140737488355328
       ·rw [if_pos c21] at H
        have LMc21 := zA c21
        clear c21
        obtain ⟨y245, hy245⟩ : ∃ y_ : List Int, y_ = (y242 ++ [(wrap64 (127 - (t236.length : Int))) % 256]) := ⟨_, rfl⟩
        replace H : ((spec_Flip.f kj4 t236 0).bind fun t248 => (if y245.length + t248.length < 140737488355328 then (some (y245 ++ t248)) else (none))) = some r := by first | (rw [hy245]; with_reducible exact H) | (have H2_ := (Option.bind_some _ _).symm.trans H; rw [hy245]; with_reducible exact H2_) | (have H2_ := (Option.bind_some _ _).symm.trans H; with_reducible exact H2_) | with_reducible exact H | (rw [hy245]; exact H) | exact H
        have Ny245 := zA hy245
        clear hy245
        replace H := zI H
        obtain ⟨t248, A22, H⟩ := H
        by_cases c23 : y245.length + t248.length < 140737488355328
        ·rw [if_pos c23] at H
         have LMc23 := zA c23
         clear c23
         obtain ⟨y251, hy251⟩ : ∃ y_ : List Int, y_ = (y245 ++ t248) := ⟨_, rfl⟩
         replace H : (some y251) = some r := by first | (rw [hy251]; with_reducible exact H) | (have H2_ := (Option.bind_some _ _).symm.trans H; rw [hy251]; with_reducible exact H2_) | (have H2_ := (Option.bind_some _ _).symm.trans H; with_reducible exact H2_) | with_reducible exact H | (rw [hy251]; exact H) | exact H
         have Ny251 := zA hy251
         clear hy251
         obtain rfl := Option.some.inj H
         go_wp2_with (first | ((with_reducible refine zg 115 ?_); refine gL (some 28) Try.func115 #[.int .i64 (wrap64 ((-1) - x1_4))] ?_; (with_reducible refine (spec_l4Bytes.calls kj4 (wrap64 ((-1) - x1_4)) t236 _ A19.out).mono ?_); rintro e w24 ⟨v237, rfl, ho0, hb⟩; refine ⟨_, rfl, ?_⟩; have HO238 := zL ho0; replace HB := zS hb; clear hb ho0) | ((with_reducible refine zt 29 ?_); refine Kd.R_lit (Kd.int .u8) _ 5 ?hg (N := 29) ?hd (xs := ([] : List Int)) (inner := []) (ok := fun _ => True) (okp := fun _ => True) ?hr ?hp (fun _ hk => hk) trivial (Below.refl _ _) (Nat.le_refl _) (by simp) ?_; (case hd => rfl); (case hg => rfl); (case hr => exact zz35); (case hp => exact (Reps.none _ _)); intro v240 w25 ho26 hb hg_ hnew_; clear hg_ hnew_; (first | rw [← Ny239.out] at ho26 | (simp only [Int.reduceToNat] at ho26; rw [← Ny239.out] at ho26)); have HO241 := zL (zN ho26 HO238); replace HO238 := zE HO238 ho26 hb; replace HB := zS hb; clear hb ho26) | ((with_reducible refine gate_builtin (b := .append) (xs := #[.tmp 29, .tmp 30]) rfl ?_); at_builtin; refine Kd.R_append_rows (Kd.int .u8) (w0 := w) w.heap.size rfl (.tmp 29) (.tmp 30) 22 5 (.int .u8 0) 1 rfl Try.underlying22 info5 rfl (by decide) (by omega) v240 y239 l0 _ _ _ (fun k_ => some k_ ≠ (v237 : Value).ownBlock) (fun _ => False) rfl rfl ?aO ?aR (fun _ _ h => h) (fun _ h => h.elim) ?aF ?aB ?aS ?aL ?_; (case aR => exact zd HR0); (case aB => exact zb); (case aF => exact (fun k_ hk => Kd.fresh' (Kd.R_lt (zr HO238)) k_ hk)); (case aO => exact (by (with_reducible repeat (first | apply Kd.R_alloc | apply Kd.R_drewN | apply Kd.R_drew)); exact Kd.R_mono HO241.out (fun _ hk => hk.2))); (case aS => exact (below_size zb)); (case aL => have := LMc20.out; omega); intro v243 w27 ho hb hg hat; rw [← Ny242.out] at ho; replace HO238 := zA (Kd.R_after (ok := (fun _ => True)) (zr HO238) hg hat); replace HB := zA hb; have HO244 := zA ho; clear HO241 ho hb hg hat; obtain ⟨Ao28, co28, eo28⟩ := Kd.R_slice HO238.out; subst eo28) | ((with_reducible refine gate_builtin (b := .append) (xs := #[.tmp 31, .tmp 36]) rfl ?_); at_builtin; refine Kd.R_append (Kd.int .u8) (w0 := w) w.heap.size rfl (.tmp 31) (.tmp 36) 22 5 (.int .u8 0) 1 rfl Try.underlying22 info5 rfl (by decide) (by omega) v243 y242 ((wrap64 (127 - (t236.length : Int))) % 256) [.int .u8 ((wrap64 (127 - (t236.length : Int))) % 256)] (fun k_ => some k_ ≠ (.slice Ao28 t236.length co28 : Value).ownBlock) (fun _ => False) rfl rfl ?aP (fun _ hk => hk.elim) ?aF ?aO ?aB ?aS ?aL ?_; (case aP => exact rfl); (case aB => exact zb); (case aF => exact (fun k_ hk => Kd.fresh' (Kd.R_lt (zr HO238)) k_ hk)); (case aO => exact (zr HO244)); (case aS => exact (below_size zb)); (case aL => have := LMc21.out; omega); intro v246 w29 ho hb hg hat; rw [← Ny245.out] at ho; replace HO238 := zA (Kd.R_after (ok := (fun _ => True)) (zr HO238) hg hat); replace HB := zA hb; have HO247 := zA ho; clear HO244 ho hb hg hat) | ((with_reducible refine zg 68 ?_); refine gL (some 39) Try.func68 #[.slice Ao28 t236.length co28, .int .i64 0] ?_; (with_reducible refine (spec_Flip.calls kj4 _ _ t236 0 t248 _ ?z1 ?z2 A22.out).mono ?_); (case z1 => exact ze HO238); (case z2 => exact zl HO238); rintro e w30 ⟨v249, rfl, ho0, hb⟩; refine ⟨_, rfl, ?_⟩; have HO250 := zL (zN (zN ho0 HO238) HO247); replace HO238 := zE HO238 ho0 hb; replace HO247 := zE HO247 ho0 hb; replace HB := zS hb; clear hb ho0; obtain ⟨Ao32, co32, eo32⟩ := Kd.R_slice HO250.out; subst eo32) | ((with_reducible refine gate_builtin (b := .append) (xs := #[.tmp 37, .tmp 39]) rfl ?_); at_builtin; refine Kd.R_append_rows (Kd.int .u8) (w0 := w) w.heap.size rfl (.tmp 37) (.tmp 39) 22 5 (.int .u8 0) 1 rfl Try.underlying22 info5 rfl (by decide) (by omega) v246 y245 t248 _ _ _ (fun k_ => some k_ ≠ (.slice Ao28 t236.length co28 : Value).ownBlock ∧ some k_ ≠ (.slice Ao32 t248.length co32 : Value).ownBlock) (fun _ => False) rfl rfl ?aO ?aR (fun _ _ h => h) (fun _ h => h.elim) ?aF ?aB ?aS ?aL ?_; (case aR => exact ze HO250); (case aB => exact zb); (case aF => exact (fun k_ hk => ⟨Kd.fresh' (Kd.R_lt (zr HO238)) k_ hk, Kd.fresh' (Kd.R_lt (zr HO250)) k_ hk⟩)); (case aO => exact (zr HO247)); (case aS => exact (below_size zb)); (case aL => have := LMc23.out; omega); intro v252 w31 ho hb hg hat; rw [← Ny251.out] at ho; replace HO238 := zA (Kd.R_after (ok := (fun k_ => some k_ ≠ (.slice Ao32 t248.length co32 : Value).ownBlock)) (by (with_reducible repeat (first | apply Kd.R_alloc | apply Kd.R_drewN | apply Kd.R_drew)); exact Kd.R_mono HO238.out (fun _ hk => ⟨hk.2, hk.1.2⟩)) hg hat); replace HO250 := zA (Kd.R_after (ok := (fun k_ => some k_ ≠ (.slice Ao28 t236.length co28 : Value).ownBlock)) (by (with_reducible repeat (first | apply Kd.R_alloc | apply Kd.R_drewN | apply Kd.R_drew)); exact Kd.R_mono HO250.out (fun _ hk => ⟨hk.1.2, hk.2⟩)) hg hat); replace HB := zA hb; have HO253 := zA ho; clear HO247 ho hb hg hat))
         go_ret
         exact ⟨_, zw, by (with_reducible repeat (first | apply Kd.R_alloc | apply Kd.R_drewN | apply Kd.R_drew)); exact Kd.R_mono HO253.out (fun _ hk => trivial), zb⟩
        ·rw [if_neg c23] at H
         exact absurd H (by simp)
       ·rw [if_neg c21] at H
        exact absurd H (by simp)
      ·rw [if_neg c20] at H
       exact absurd H (by simp)

/-! ### spec_GetVar: function 101 -/
def spec_GetVar.j0 : Nat → List Int → Int → Bool → Option (Int × Int × Bool)
  | 0, _, _, _ => none
  | k + 1, x0, x1, x27 => if x27 = true then (some (0, 0, false)) else (if 0 ≤ x1 then (if x1 < (x0.length : Int) then (if (wrap64 ((wrap64 (rd x0 x1)) - 128)) < 0 then ((spec_l4Read.f k x0 (wrap64 (x1 + 1)) (wrap64 ((-1) - (wrap64 ((wrap64 (rd x0 x1)) - 128)))) true).bind fun bt257 => (if bt257.2 = true then ((spec_l1In.f (wrap64 ((-1) - bt257.1)) (-1000000000000000) 1000000000000000).bind fun t259 => (if t259 = true then ((spec_PutVar.f k (([] : List Int)) (wrap64 ((-1) - bt257.1))).bind fun t263 => (if (t263.length : Int) = (wrap64 ((wrap64 ((-1) - (wrap64 ((wrap64 (rd x0 x1)) - 128)))) + 1)) then (some (wrap64 ((-1) - bt257.1), wrap64 ((wrap64 (x1 + 1)) + (wrap64 ((-1) - (wrap64 ((wrap64 (rd x0 x1)) - 128))))), true)) else (some (0, 0, false)))) else (some (0, 0, false)))) else (some (0, 0, false)))) else ((spec_l4Read.f k x0 (wrap64 (x1 + 1)) (wrap64 ((wrap64 (rd x0 x1)) - 128)) false).bind fun bt266 => (if bt266.2 = true then ((spec_l1In.f bt266.1 (-1000000000000000) 1000000000000000).bind fun t268 => (if t268 = true then ((spec_PutVar.f k (([] : List Int)) bt266.1).bind fun t272 => (if (t272.length : Int) = (wrap64 ((wrap64 ((wrap64 (rd x0 x1)) - 128)) + 1)) then (some (bt266.1, wrap64 ((wrap64 (x1 + 1)) + (wrap64 ((wrap64 (rd x0 x1)) - 128))), true)) else (some (0, 0, false)))) else (some (0, 0, false)))) else (some (0, 0, false))))) else (none)) else (none))
def spec_GetVar.f (k : Nat) (l0 : List Int) (a1 : Int) : Option (Int × Int × Bool) := if a1 < 0 then (spec_GetVar.j0 k l0 a1 true) else (if a1 ≥ (l0.length : Int) then (spec_GetVar.j0 k l0 a1 true) else (if 0 ≤ a1 then (if a1 < (l0.length : Int) then ((spec_l1In.f (wrap64 (rd l0 a1)) 120 135).bind fun t255 => (spec_GetVar.j0 k l0 a1 (!t255))) else (none)) else (none)))
theorem spec_GetVar.mono_l : ∀ k, (∀ y0 y1 y2, LeO (spec_GetVar.j0 k y0 y1 y2) (spec_GetVar.j0 (k + 1) y0 y1 y2))
  | 0 => fun _ _ _ r h => by simp [spec_GetVar.j0] at h
  | k + 1 => by
    have ih0 := spec_GetVar.mono_l k
    · intro y0 y1 y2
      unfold spec_GetVar.j0
      repeat' first
      | (with_reducible exact ih0 _ _ _)
      | (with_reducible exact spec_PutVar.mono _ _ _)
      | (with_reducible exact spec_l4Read.mono _ _ _ _ _)
      | (with_reducible exact LeO.refl _)
      | (with_reducible exact LeO.none _)
      | (with_reducible refine LeO.ite ?_ ?_)
      | (with_reducible refine LeO.bind ?_ (fun _ => ?_))
      | exact ih0 _ _ _
      | exact spec_PutVar.mono _ _ _
      | exact spec_l4Read.mono _ _ _ _ _
      | exact LeO.none _
      | refine LeO.ite ?_ ?_
      | refine LeO.bind ?_ (fun _ => ?_)
theorem spec_GetVar.mono : ∀ a0 a1 k, LeO (spec_GetVar.f k a0 a1) (spec_GetVar.f (k + 1) a0 a1) := by
  intro a0 a1 k
  have ih0 := spec_GetVar.mono_l k
  unfold spec_GetVar.f
  repeat' first
      | (with_reducible exact ih0 _ _ _)
      | (with_reducible exact spec_PutVar.mono _ _ _)
      | (with_reducible exact spec_l4Read.mono _ _ _ _ _)
      | (with_reducible exact LeO.refl _)
      | (with_reducible exact LeO.none _)
      | (with_reducible refine LeO.ite ?_ ?_)
      | (with_reducible refine LeO.bind ?_ (fun _ => ?_))
      | exact ih0 _ _ _
      | exact spec_PutVar.mono _ _ _
      | exact spec_l4Read.mono _ _ _ _ _
      | exact LeO.none _
      | refine LeO.ite ?_ ?_
      | refine LeO.bind ?_ (fun _ => ?_)
set_option maxHeartbeats 8000000 in
set_option maxRecDepth 100000 in
theorem spec_GetVar.calls (k : Nat) (A0 : Option Addr) (c0 : Nat) (l0 : List Int) (a1 : Int) (r1 : Int) (r2 : Int) (r3 : Bool) (w : World) (hr0 : Kd.C (Kd.int .u8) w A0 l0.length l0) (hc0 : l0.length ≤ c0) (h : spec_GetVar.f k l0 a1 = some (r1, r2, r3)) :
  Calls Try.prog 101 #[.slice A0 l0.length c0, .int .i64 a1] w fun e w' => e = .returned (.tuple #[.int .i64 r1, .int .i64 r2, .bool r3]) ∧ Below w.heap.size w w' := by
 have HR0 := zA hr0
 have HC0 := zA hc0
 clear hr0 hc0
 have HB := zA (Below.refl w.heap.size w)
 have H : (if a1 < 0 then (spec_GetVar.j0 k l0 a1 true) else (if a1 ≥ (l0.length : Int) then (spec_GetVar.j0 k l0 a1 true) else (if 0 ≤ a1 then (if a1 < (l0.length : Int) then ((spec_l1In.f (wrap64 (rd l0 a1)) 120 135).bind fun t255 => (spec_GetVar.j0 k l0 a1 (!t255))) else (none)) else (none)))) = some (r1, r2, r3) := h
 clear h
 have HC3 := zA H
 clear H
 go_enter Try.func101, Try.ntmps101
 go_upto_region 1 with (fail)
 go_cut [27] (fun v27 wc => ∃ (kq : Nat) (x27_2 : Bool), v27 = .bool x27_2 ∧ Aside0 (spec_GetVar.j0 kq l0 a1 x27_2 = some (r1, r2, r3)) ∧ Aside0 (kq ≤ k) ∧ Aside0 (Below w.heap.size w wc))
 case first =>
  have H := HC3.out
  clear HC3
  by_cases c4 : a1 < 0
  ·rw [if_pos c4] at H
   have c4b0 : decide (a1 < 0) = true := decide_eq_true c4
   clear c4
   (first | rw [c4b0] | (simp only [i64_w, i32_w]; rw [c4b0]) | skip)
   have H' := zA H
   clear H
   go_wp2
   go_meet
   case rel => exact ⟨_, (true), zx, H', ⟨zo⟩, ⟨zb⟩⟩
  ·rw [if_neg c4] at H
   have c4b0 : decide (a1 < 0) = false := decide_eq_false c4
   clear c4
   (first | rw [c4b0] | (simp only [i64_w, i32_w]; rw [c4b0]) | skip)
   by_cases c5 : a1 ≥ (l0.length : Int)
   ·rw [if_pos c5] at H
    have c5b0 : decide ((l0.length : Int) ≤ a1) = true := decide_eq_true c5
    clear c5
    have H' := zA H
    clear H
    go_wp2
    go_meet
    case rel => exact ⟨_, (true), zx, H', ⟨zo⟩, ⟨zb⟩⟩
   ·rw [if_neg c5] at H
    have c5b0 : decide ((l0.length : Int) ≤ a1) = false := decide_eq_false c5
    clear c5
    by_cases c6 : 0 ≤ a1
    ·rw [if_pos c6] at H
     have c6b0 : decide (0 ≤ a1) = true := decide_eq_true c6
     clear c6
     by_cases c7 : a1 < (l0.length : Int)
     ·rw [if_pos c7] at H
      have c7b0 : decide (a1 < (l0.length : Int)) = true := decide_eq_true c7
      clear c7
      replace H := zI H
      obtain ⟨t255, A8, H⟩ := H
      have H' := zA H
      clear H
      have p254 : 0 ≤ (a1 : Int) := of_decide_eq_true za
      have q254 : a1 < (l0.length : Int) := of_decide_eq_true za
      obtain ⟨ad254, e254, hx254_0⟩ := Kd.at_int HR0.out a1 p254 q254
      cases e254
      replace hx254_0 := (HB.out.cell (World.block_lt_of_cell? w _ hx254_0)).trans hx254_0
      replace p254 := eq_true p254
      replace q254 := eq_true q254
      go_wp2_with (first | (go_at_call 79; (with_reducible refine (spec_l1In.calls (wrap64 (rd l0 a1)) 120 135 t255 _ A8.out).mono ?_); rintro e w' ⟨rfl, ⟨nd, rfl⟩⟩))
      go_meet
      case rel => exact ⟨_, (!t255), zx, H', ⟨zo⟩, ⟨zb⟩⟩
     ·rw [if_neg c7] at H
      exact absurd H (by simp)
    ·rw [if_neg c6] at H
     exact absurd H (by simp)
 case rest =>
  clear HC3
  obtain ⟨kq, x27_2, rfl, HA, HJ2, HB⟩ := hcut
  cases kq with
  | zero => exact absurd HA.out (by simp [spec_GetVar.j0])
  | succ kj2 =>
   have H := HA.out
   clear HA
   simp only [spec_GetVar.j0] at H
   by_cases c9 : x27_2 = true
   ·subst c9
    rw [if_pos rfl] at H
    simp only [Option.some.injEq, Prod.mk.injEq] at H
    obtain ⟨rfl, rfl, rfl⟩ := H
    go_wp2
    go_ret3
    exact ⟨zw, zb⟩
   ·replace c9 := Bool.eq_false_iff.mpr c9
    subst c9
    rw [if_neg (Bool.false_ne_true)] at H
    by_cases c10 : 0 ≤ a1
    ·rw [if_pos c10] at H
     have c10b0 : decide (0 ≤ a1) = true := decide_eq_true c10
     clear c10
     by_cases c11 : a1 < (l0.length : Int)
     ·rw [if_pos c11] at H
      have c11b0 : decide (a1 < (l0.length : Int)) = true := decide_eq_true c11
      clear c11
      by_cases c12 : (wrap64 ((wrap64 (rd l0 a1)) - 128)) < 0
      ·rw [if_pos c12] at H
       have c12b0 : decide ((wrap64 ((wrap64 (rd l0 a1)) - 128)) < 0) = true := decide_eq_true c12
       clear c12
       replace H := zI H
       obtain ⟨⟨t257, t258⟩, A13, H⟩ := H
       try dsimp only at H
       by_cases c14 : t258 = true
       ·subst c14
        rw [if_pos rfl] at H
        replace H := zI H
        obtain ⟨t259, A15, H⟩ := H
        by_cases c16 : t259 = true
        ·subst c16
         rw [if_pos rfl] at H
         obtain ⟨y260, hy260⟩ : ∃ y_ : List Int, y_ = (([] : List Int)) := ⟨_, rfl⟩
         replace H : ((spec_PutVar.f kj2 y260 (wrap64 ((-1) - t257))).bind fun t263 => (if (t263.length : Int) = (wrap64 ((wrap64 ((-1) - (wrap64 ((wrap64 (rd l0 a1)) - 128)))) + 1)) then (some (wrap64 ((-1) - t257), wrap64 ((wrap64 (a1 + 1)) + (wrap64 ((-1) - (wrap64 ((wrap64 (rd l0 a1)) - 128))))), true)) else (some (0, 0, false)))) = some (r1, r2, r3) := by first | (rw [hy260]; with_reducible exact H) | (have H2_ := (Option.bind_some _ _).symm.trans H; rw [hy260]; with_reducible exact H2_) | (have H2_ := (Option.bind_some _ _).symm.trans H; with_reducible exact H2_) | with_reducible exact H | (rw [hy260]; exact H) | exact H
         have Ny260 := zA hy260
         clear hy260
         replace H := zI H
         obtain ⟨t263, A17, H⟩ := H
         by_cases c18 : (t263.length : Int) = (wrap64 ((wrap64 ((-1) - (wrap64 ((wrap64 (rd l0 a1)) - 128)))) + 1))
         ·rw [if_pos c18] at H
          have c18b0 : ((t263.length : Int) == (wrap64 ((wrap64 ((-1) - (wrap64 ((wrap64 (rd l0 a1)) - 128)))) + 1))) = true := beq_iff_eq.mpr c18
          have c18b1 : ((t263.length : Int) != (wrap64 ((wrap64 ((-1) - (wrap64 ((wrap64 (rd l0 a1)) - 128)))) + 1))) = false := bne_eq_false_iff_eq.mpr c18
          clear c18
          simp only [Option.some.injEq, Prod.mk.injEq] at H
          obtain ⟨rfl, rfl, rfl⟩ := H
          have p256 : 0 ≤ (a1 : Int) := of_decide_eq_true za
          have q256 : a1 < (l0.length : Int) := of_decide_eq_true za
          obtain ⟨ad256, e256, hx256_0⟩ := Kd.at_int HR0.out a1 p256 q256
          cases e256
          replace hx256_0 := (HB.out.cell (World.block_lt_of_cell? w _ hx256_0)).trans hx256_0
          replace p256 := eq_true p256
          replace q256 := eq_true q256
          go_wp2_with (first | ((with_reducible refine zg 119 ?_); refine gL (some 45) Try.func119 #[.slice (some ad256) l0.length c0, .int .i64 (wrap64 (a1 + 1)), .int .i64 (wrap64 ((-1) - (wrap64 ((wrap64 (rd l0 a1)) - 128)))), .bool true] ?_; (with_reducible refine (spec_l4Read.calls kj2 _ _ l0 (wrap64 (a1 + 1)) (wrap64 ((-1) - (wrap64 ((wrap64 (rd l0 a1)) - 128)))) true t257 true _ ?z1 ?z2 A13.out).mono ?_); (case z1 => exact zd HR0); (case z2 => exact HC0.out); rintro e w' ⟨rfl, ⟨nd, rfl⟩⟩; refine ⟨_, rfl, ?_⟩) | (go_at_call 79; (with_reducible refine (spec_l1In.calls (wrap64 ((-1) - t257)) (-1000000000000000) 1000000000000000 true _ A15.out).mono ?_); rintro e w' ⟨rfl, ⟨nd, rfl⟩⟩) | ((with_reducible refine zt 59 ?_); (try (refine gate_guard (by rfl) ?_; dsimp only)); refine Kd.R_lit (Kd.int .u8) _ 5 ?hg (N := 59) ?hd (xs := ([] : List Int)) (inner := []) (ok := fun _ => True) (okp := fun _ => True) ?hr ?hp (fun _ hk => hk) trivial (Below.refl _ _) (Nat.le_refl _) (by simp) ?_; (case hd => rfl); (case hg => rfl); (case hr => exact zz35); (case hp => exact (Reps.none _ _)); intro v261 w19 ho20 hb hg_ hnew_; clear hg_ hnew_; (first | rw [← Ny260.out] at ho20 | (simp only [Int.reduceToNat] at ho20; rw [← Ny260.out] at ho20)); have HO262 := zL ho20; replace HB := zS hb; clear hb ho20; obtain ⟨Ao21, co21, eo21⟩ := Kd.R_slice HO262.out; subst eo21) | (go_at_call 95; (with_reducible refine (spec_PutVar.calls kj2 _ _ y260 (wrap64 ((-1) - t257)) t263 _ ?z1 ?z2 A17.out).mono ?_); (case z1 => exact ze HO262); (case z2 => exact zl HO262); rintro e w22 ⟨v264, rfl, ho0, hb⟩; have HO265 := zL (zN ho0 HO262); replace HO262 := zE HO262 ho0 hb; replace HB := zS hb; clear hb ho0; obtain ⟨Ao23, co23, eo23⟩ := Kd.R_slice HO265.out; subst eo23))
          go_ret3
          exact ⟨zw, zb⟩
         ·rw [if_neg c18] at H
          have c18b0 : ((t263.length : Int) == (wrap64 ((wrap64 ((-1) - (wrap64 ((wrap64 (rd l0 a1)) - 128)))) + 1))) = false := beq_eq_false_iff_ne.mpr c18
          have c18b1 : ((t263.length : Int) != (wrap64 ((wrap64 ((-1) - (wrap64 ((wrap64 (rd l0 a1)) - 128)))) + 1))) = true := bne_iff_ne.mpr c18
          simp only [Option.some.injEq, Prod.mk.injEq] at H
          obtain ⟨rfl, rfl, rfl⟩ := H
          have p256 : 0 ≤ (a1 : Int) := of_decide_eq_true za
          have q256 : a1 < (l0.length : Int) := of_decide_eq_true za
          obtain ⟨ad256, e256, hx256_0⟩ := Kd.at_int HR0.out a1 p256 q256
          cases e256
          replace hx256_0 := (HB.out.cell (World.block_lt_of_cell? w _ hx256_0)).trans hx256_0
          replace p256 := eq_true p256
          replace q256 := eq_true q256
          go_wp2_with (first | ((with_reducible refine zg 119 ?_); refine gL (some 45) Try.func119 #[.slice (some ad256) l0.length c0, .int .i64 (wrap64 (a1 + 1)), .int .i64 (wrap64 ((-1) - (wrap64 ((wrap64 (rd l0 a1)) - 128)))), .bool true] ?_; (with_reducible refine (spec_l4Read.calls kj2 _ _ l0 (wrap64 (a1 + 1)) (wrap64 ((-1) - (wrap64 ((wrap64 (rd l0 a1)) - 128)))) true t257 true _ ?z1 ?z2 A13.out).mono ?_); (case z1 => exact zd HR0); (case z2 => exact HC0.out); rintro e w' ⟨rfl, ⟨nd, rfl⟩⟩; refine ⟨_, rfl, ?_⟩) | (go_at_call 79; (with_reducible refine (spec_l1In.calls (wrap64 ((-1) - t257)) (-1000000000000000) 1000000000000000 true _ A15.out).mono ?_); rintro e w' ⟨rfl, ⟨nd, rfl⟩⟩) | ((with_reducible refine zt 59 ?_); (try (refine gate_guard (by rfl) ?_; dsimp only)); refine Kd.R_lit (Kd.int .u8) _ 5 ?hg (N := 59) ?hd (xs := ([] : List Int)) (inner := []) (ok := fun _ => True) (okp := fun _ => True) ?hr ?hp (fun _ hk => hk) trivial (Below.refl _ _) (Nat.le_refl _) (by simp) ?_; (case hd => rfl); (case hg => rfl); (case hr => exact zz35); (case hp => exact (Reps.none _ _)); intro v261 w24 ho25 hb hg_ hnew_; clear hg_ hnew_; (first | rw [← Ny260.out] at ho25 | (simp only [Int.reduceToNat] at ho25; rw [← Ny260.out] at ho25)); have HO262 := zL ho25; replace HB := zS hb; clear hb ho25; obtain ⟨Ao26, co26, eo26⟩ := Kd.R_slice HO262.out; subst eo26) | (go_at_call 95; (with_reducible refine (spec_PutVar.calls kj2 _ _ y260 (wrap64 ((-1) - t257)) t263 _ ?z1 ?z2 A17.out).mono ?_); (case z1 => exact ze HO262); (case z2 => exact zl HO262); rintro e w27 ⟨v264, rfl, ho0, hb⟩; have HO265 := zL (zN ho0 HO262); replace HO262 := zE HO262 ho0 hb; replace HB := zS hb; clear hb ho0; obtain ⟨Ao28, co28, eo28⟩ := Kd.R_slice HO265.out; subst eo28))
          go_ret3
          exact ⟨zw, zb⟩
        ·replace c16 := Bool.eq_false_iff.mpr c16
         subst c16
         rw [if_neg (Bool.false_ne_true)] at H
         simp only [Option.some.injEq, Prod.mk.injEq] at H
         obtain ⟨rfl, rfl, rfl⟩ := H
         have p256 : 0 ≤ (a1 : Int) := of_decide_eq_true za
         have q256 : a1 < (l0.length : Int) := of_decide_eq_true za
         obtain ⟨ad256, e256, hx256_0⟩ := Kd.at_int HR0.out a1 p256 q256
         cases e256
         replace hx256_0 := (HB.out.cell (World.block_lt_of_cell? w _ hx256_0)).trans hx256_0
         replace p256 := eq_true p256
         replace q256 := eq_true q256
         go_wp2_with (first | ((with_reducible refine zg 119 ?_); refine gL (some 45) Try.func119 #[.slice (some ad256) l0.length c0, .int .i64 (wrap64 (a1 + 1)), .int .i64 (wrap64 ((-1) - (wrap64 ((wrap64 (rd l0 a1)) - 128)))), .bool true] ?_; (with_reducible refine (spec_l4Read.calls kj2 _ _ l0 (wrap64 (a1 + 1)) (wrap64 ((-1) - (wrap64 ((wrap64 (rd l0 a1)) - 128)))) true t257 true _ ?z1 ?z2 A13.out).mono ?_); (case z1 => exact zd HR0); (case z2 => exact HC0.out); rintro e w' ⟨rfl, ⟨nd, rfl⟩⟩; refine ⟨_, rfl, ?_⟩) | (go_at_call 79; (with_reducible refine (spec_l1In.calls (wrap64 ((-1) - t257)) (-1000000000000000) 1000000000000000 false _ A15.out).mono ?_); rintro e w' ⟨rfl, ⟨nd, rfl⟩⟩))
         go_ret3
         exact ⟨zw, zb⟩
       ·replace c14 := Bool.eq_false_iff.mpr c14
        subst c14
        rw [if_neg (Bool.false_ne_true)] at H
        simp only [Option.some.injEq, Prod.mk.injEq] at H
        obtain ⟨rfl, rfl, rfl⟩ := H
        have p256 : 0 ≤ (a1 : Int) := of_decide_eq_true za
        have q256 : a1 < (l0.length : Int) := of_decide_eq_true za
        obtain ⟨ad256, e256, hx256_0⟩ := Kd.at_int HR0.out a1 p256 q256
        cases e256
        replace hx256_0 := (HB.out.cell (World.block_lt_of_cell? w _ hx256_0)).trans hx256_0
        replace p256 := eq_true p256
        replace q256 := eq_true q256
        go_wp2_with (first | ((with_reducible refine zg 119 ?_); refine gL (some 45) Try.func119 #[.slice (some ad256) l0.length c0, .int .i64 (wrap64 (a1 + 1)), .int .i64 (wrap64 ((-1) - (wrap64 ((wrap64 (rd l0 a1)) - 128)))), .bool true] ?_; (with_reducible refine (spec_l4Read.calls kj2 _ _ l0 (wrap64 (a1 + 1)) (wrap64 ((-1) - (wrap64 ((wrap64 (rd l0 a1)) - 128)))) true t257 false _ ?z1 ?z2 A13.out).mono ?_); (case z1 => exact zd HR0); (case z2 => exact HC0.out); rintro e w' ⟨rfl, ⟨nd, rfl⟩⟩; refine ⟨_, rfl, ?_⟩))
        go_ret3
        exact ⟨zw, zb⟩
      ·rw [if_neg c12] at H
       have c12b0 : decide ((wrap64 ((wrap64 (rd l0 a1)) - 128)) < 0) = false := decide_eq_false c12
       clear c12
       replace H := zI H
       obtain ⟨⟨t266, t267⟩, A29, H⟩ := H
       try dsimp only at H
       by_cases c30 : t267 = true
       ·subst c30
        rw [if_pos rfl] at H
        replace H := zI H
        obtain ⟨t268, A31, H⟩ := H
        by_cases c32 : t268 = true
        ·subst c32
         rw [if_pos rfl] at H
         obtain ⟨y269, hy269⟩ : ∃ y_ : List Int, y_ = (([] : List Int)) := ⟨_, rfl⟩
         replace H : ((spec_PutVar.f kj2 y269 t266).bind fun t272 => (if (t272.length : Int) = (wrap64 ((wrap64 ((wrap64 (rd l0 a1)) - 128)) + 1)) then (some (t266, wrap64 ((wrap64 (a1 + 1)) + (wrap64 ((wrap64 (rd l0 a1)) - 128))), true)) else (some (0, 0, false)))) = some (r1, r2, r3) := by first | (rw [hy269]; with_reducible exact H) | (have H2_ := (Option.bind_some _ _).symm.trans H; rw [hy269]; with_reducible exact H2_) | (have H2_ := (Option.bind_some _ _).symm.trans H; with_reducible exact H2_) | with_reducible exact H | (rw [hy269]; exact H) | exact H
         have Ny269 := zA hy269
         clear hy269
         replace H := zI H
         obtain ⟨t272, A33, H⟩ := H
         by_cases c34 : (t272.length : Int) = (wrap64 ((wrap64 ((wrap64 (rd l0 a1)) - 128)) + 1))
         ·rw [if_pos c34] at H
          have c34b0 : ((t272.length : Int) == (wrap64 ((wrap64 ((wrap64 (rd l0 a1)) - 128)) + 1))) = true := beq_iff_eq.mpr c34
          have c34b1 : ((t272.length : Int) != (wrap64 ((wrap64 ((wrap64 (rd l0 a1)) - 128)) + 1))) = false := bne_eq_false_iff_eq.mpr c34
          clear c34
          simp only [Option.some.injEq, Prod.mk.injEq] at H
          obtain ⟨rfl, rfl, rfl⟩ := H
          have p256 : 0 ≤ (a1 : Int) := of_decide_eq_true za
          have q256 : a1 < (l0.length : Int) := of_decide_eq_true za
          obtain ⟨ad256, e256, hx256_0⟩ := Kd.at_int HR0.out a1 p256 q256
          cases e256
          replace hx256_0 := (HB.out.cell (World.block_lt_of_cell? w _ hx256_0)).trans hx256_0
          replace p256 := eq_true p256
          replace q256 := eq_true q256
          go_wp2_with (first | ((with_reducible refine zg 119 ?_); refine gL (some 45) Try.func119 #[.slice (some ad256) l0.length c0, .int .i64 (wrap64 (a1 + 1)), .int .i64 (wrap64 ((wrap64 (rd l0 a1)) - 128)), .bool false] ?_; (with_reducible refine (spec_l4Read.calls kj2 _ _ l0 (wrap64 (a1 + 1)) (wrap64 ((wrap64 (rd l0 a1)) - 128)) false t266 true _ ?z1 ?z2 A29.out).mono ?_); (case z1 => exact zd HR0); (case z2 => exact HC0.out); rintro e w' ⟨rfl, ⟨nd, rfl⟩⟩; refine ⟨_, rfl, ?_⟩) | (go_at_call 79; (with_reducible refine (spec_l1In.calls t266 (-1000000000000000) 1000000000000000 true _ A31.out).mono ?_); rintro e w' ⟨rfl, ⟨nd, rfl⟩⟩) | ((with_reducible refine zt 59 ?_); (try (refine gate_guard (by rfl) ?_; dsimp only)); refine Kd.R_lit (Kd.int .u8) _ 5 ?hg (N := 59) ?hd (xs := ([] : List Int)) (inner := []) (ok := fun _ => True) (okp := fun _ => True) ?hr ?hp (fun _ hk => hk) trivial (Below.refl _ _) (Nat.le_refl _) (by simp) ?_; (case hd => rfl); (case hg => rfl); (case hr => exact zz35); (case hp => exact (Reps.none _ _)); intro v270 w35 ho36 hb hg_ hnew_; clear hg_ hnew_; (first | rw [← Ny269.out] at ho36 | (simp only [Int.reduceToNat] at ho36; rw [← Ny269.out] at ho36)); have HO271 := zL ho36; replace HB := zS hb; clear hb ho36; obtain ⟨Ao37, co37, eo37⟩ := Kd.R_slice HO271.out; subst eo37) | (go_at_call 95; (with_reducible refine (spec_PutVar.calls kj2 _ _ y269 t266 t272 _ ?z1 ?z2 A33.out).mono ?_); (case z1 => exact ze HO271); (case z2 => exact zl HO271); rintro e w38 ⟨v273, rfl, ho0, hb⟩; have HO274 := zL (zN ho0 HO271); replace HO271 := zE HO271 ho0 hb; replace HB := zS hb; clear hb ho0; obtain ⟨Ao39, co39, eo39⟩ := Kd.R_slice HO274.out; subst eo39))
          go_ret3
          exact ⟨zw, zb⟩
         ·rw [if_neg c34] at H
          have c34b0 : ((t272.length : Int) == (wrap64 ((wrap64 ((wrap64 (rd l0 a1)) - 128)) + 1))) = false := beq_eq_false_iff_ne.mpr c34
          have c34b1 : ((t272.length : Int) != (wrap64 ((wrap64 ((wrap64 (rd l0 a1)) - 128)) + 1))) = true := bne_iff_ne.mpr c34
          simp only [Option.some.injEq, Prod.mk.injEq] at H
          obtain ⟨rfl, rfl, rfl⟩ := H
          have p256 : 0 ≤ (a1 : Int) := of_decide_eq_true za
          have q256 : a1 < (l0.length : Int) := of_decide_eq_true za
          obtain ⟨ad256, e256, hx256_0⟩ := Kd.at_int HR0.out a1 p256 q256
          cases e256
          replace hx256_0 := (HB.out.cell (World.block_lt_of_cell? w _ hx256_0)).trans hx256_0
          replace p256 := eq_true p256
          replace q256 := eq_true q256
          go_wp2_with (first | ((with_reducible refine zg 119 ?_); refine gL (some 45) Try.func119 #[.slice (some ad256) l0.length c0, .int .i64 (wrap64 (a1 + 1)), .int .i64 (wrap64 ((wrap64 (rd l0 a1)) - 128)), .bool false] ?_; (with_reducible refine (spec_l4Read.calls kj2 _ _ l0 (wrap64 (a1 + 1)) (wrap64 ((wrap64 (rd l0 a1)) - 128)) false t266 true _ ?z1 ?z2 A29.out).mono ?_); (case z1 => exact zd HR0); (case z2 => exact HC0.out); rintro e w' ⟨rfl, ⟨nd, rfl⟩⟩; refine ⟨_, rfl, ?_⟩) | (go_at_call 79; (with_reducible refine (spec_l1In.calls t266 (-1000000000000000) 1000000000000000 true _ A31.out).mono ?_); rintro e w' ⟨rfl, ⟨nd, rfl⟩⟩) | ((with_reducible refine zt 59 ?_); (try (refine gate_guard (by rfl) ?_; dsimp only)); refine Kd.R_lit (Kd.int .u8) _ 5 ?hg (N := 59) ?hd (xs := ([] : List Int)) (inner := []) (ok := fun _ => True) (okp := fun _ => True) ?hr ?hp (fun _ hk => hk) trivial (Below.refl _ _) (Nat.le_refl _) (by simp) ?_; (case hd => rfl); (case hg => rfl); (case hr => exact zz35); (case hp => exact (Reps.none _ _)); intro v270 w40 ho41 hb hg_ hnew_; clear hg_ hnew_; (first | rw [← Ny269.out] at ho41 | (simp only [Int.reduceToNat] at ho41; rw [← Ny269.out] at ho41)); have HO271 := zL ho41; replace HB := zS hb; clear hb ho41; obtain ⟨Ao42, co42, eo42⟩ := Kd.R_slice HO271.out; subst eo42) | (go_at_call 95; (with_reducible refine (spec_PutVar.calls kj2 _ _ y269 t266 t272 _ ?z1 ?z2 A33.out).mono ?_); (case z1 => exact ze HO271); (case z2 => exact zl HO271); rintro e w43 ⟨v273, rfl, ho0, hb⟩; have HO274 := zL (zN ho0 HO271); replace HO271 := zE HO271 ho0 hb; replace HB := zS hb; clear hb ho0; obtain ⟨Ao44, co44, eo44⟩ := Kd.R_slice HO274.out; subst eo44))
          go_ret3
          exact ⟨zw, zb⟩
        ·replace c32 := Bool.eq_false_iff.mpr c32
         subst c32
         rw [if_neg (Bool.false_ne_true)] at H
         simp only [Option.some.injEq, Prod.mk.injEq] at H
         obtain ⟨rfl, rfl, rfl⟩ := H
         have p256 : 0 ≤ (a1 : Int) := of_decide_eq_true za
         have q256 : a1 < (l0.length : Int) := of_decide_eq_true za
         obtain ⟨ad256, e256, hx256_0⟩ := Kd.at_int HR0.out a1 p256 q256
         cases e256
         replace hx256_0 := (HB.out.cell (World.block_lt_of_cell? w _ hx256_0)).trans hx256_0
         replace p256 := eq_true p256
         replace q256 := eq_true q256
         go_wp2_with (first | ((with_reducible refine zg 119 ?_); refine gL (some 45) Try.func119 #[.slice (some ad256) l0.length c0, .int .i64 (wrap64 (a1 + 1)), .int .i64 (wrap64 ((wrap64 (rd l0 a1)) - 128)), .bool false] ?_; (with_reducible refine (spec_l4Read.calls kj2 _ _ l0 (wrap64 (a1 + 1)) (wrap64 ((wrap64 (rd l0 a1)) - 128)) false t266 true _ ?z1 ?z2 A29.out).mono ?_); (case z1 => exact zd HR0); (case z2 => exact HC0.out); rintro e w' ⟨rfl, ⟨nd, rfl⟩⟩; refine ⟨_, rfl, ?_⟩) | (go_at_call 79; (with_reducible refine (spec_l1In.calls t266 (-1000000000000000) 1000000000000000 false _ A31.out).mono ?_); rintro e w' ⟨rfl, ⟨nd, rfl⟩⟩))
         go_ret3
         exact ⟨zw, zb⟩
       ·replace c30 := Bool.eq_false_iff.mpr c30
        subst c30
        rw [if_neg (Bool.false_ne_true)] at H
        simp only [Option.some.injEq, Prod.mk.injEq] at H
        obtain ⟨rfl, rfl, rfl⟩ := H
        have p256 : 0 ≤ (a1 : Int) := of_decide_eq_true za
        have q256 : a1 < (l0.length : Int) := of_decide_eq_true za
        obtain ⟨ad256, e256, hx256_0⟩ := Kd.at_int HR0.out a1 p256 q256
        cases e256
        replace hx256_0 := (HB.out.cell (World.block_lt_of_cell? w _ hx256_0)).trans hx256_0
        replace p256 := eq_true p256
        replace q256 := eq_true q256
        go_wp2_with (first | ((with_reducible refine zg 119 ?_); refine gL (some 45) Try.func119 #[.slice (some ad256) l0.length c0, .int .i64 (wrap64 (a1 + 1)), .int .i64 (wrap64 ((wrap64 (rd l0 a1)) - 128)), .bool false] ?_; (with_reducible refine (spec_l4Read.calls kj2 _ _ l0 (wrap64 (a1 + 1)) (wrap64 ((wrap64 (rd l0 a1)) - 128)) false t266 false _ ?z1 ?z2 A29.out).mono ?_); (case z1 => exact zd HR0); (case z2 => exact HC0.out); rintro e w' ⟨rfl, ⟨nd, rfl⟩⟩; refine ⟨_, rfl, ?_⟩))
        go_ret3
        exact ⟨zw, zb⟩
     ·rw [if_neg c11] at H
      exact absurd H (by simp)
    ·rw [if_neg c10] at H
     exact absurd H (by simp)

end Go.Proofs.Ytnfmpopmigbkoaa.PFnPartsRead

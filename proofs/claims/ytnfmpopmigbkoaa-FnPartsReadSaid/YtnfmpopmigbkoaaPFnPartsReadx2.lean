-- Written by mkprint.py, a program of this session (the printer with additions of its own)
import Derived.Test.YtnfmpopmigbkoaaPFnPartsReadx0
namespace Go.Proofs.Ytnfmpopmigbkoaa.PFnPartsRead
open Go.RowKit Go.Proofs.YtnfmpopmigbkoaaW.PrintWords Go.Proofs.YtnfmpopmigbkoaaW.PrintLast Go.Proofs.YtnfmpopmigbkoaaW.PrintMore
attribute [local go_sem] max2_int min2_int max_two min_two max_three min_three max_four min_four   -- for this text's walks alone
set_option linter.unusedVariables false
set_option linter.unusedSimpArgs false

/-! ### impl_addEsc: function 99 -/
def impl_addEsc.l0 : Nat → List Int → ByteArray → Int → Option (List Int)
  | 0, _, _, _ => none
  | k + 1, x0, x1, x5 => if x5 < (x1.size : Int) then (if 0 ≤ x5 then (if x0.length < 140737488355328 then ((some (x0 ++ [bt x1 x5] : List Int)).bind fun y141 => (if (bt x1 x5) = 0 then (if y141.length < 140737488355328 then (impl_addEsc.l0 k (y141 ++ [255]) x1 (wrap64 (x5 + 1))) else (none)) else (impl_addEsc.l0 k y141 x1 (wrap64 (x5 + 1))))) else (none)) else (none)) else ((some (([0, 1] : List Int) : List Int)).bind fun y147 => (if x0.length + y147.length < 140737488355328 then (some (x0 ++ y147)) else (none)))
def impl_addEsc.f (k : Nat) (l0 : List Int) (a1 : ByteArray) : Option (List Int) := impl_addEsc.l0 k l0 a1 0
theorem impl_addEsc.mono_l : ∀ k, (∀ y0 y1 y2, LeO (impl_addEsc.l0 k y0 y1 y2) (impl_addEsc.l0 (k + 1) y0 y1 y2))
  | 0 => fun _ _ _ r h => by simp [impl_addEsc.l0] at h
  | k + 1 => by
    have ih0 := impl_addEsc.mono_l k
    · intro y0 y1 y2
      unfold impl_addEsc.l0
      repeat' first
      | (with_reducible exact ih0 _ _ _)
      | (with_reducible exact LeO.refl _)
      | (with_reducible exact LeO.none _)
      | (with_reducible refine LeO.ite ?_ ?_)
      | (with_reducible refine LeO.bind ?_ (fun _ => ?_))
      | exact ih0 _ _ _
      | exact LeO.none _
      | refine LeO.ite ?_ ?_
      | refine LeO.bind ?_ (fun _ => ?_)
theorem impl_addEsc.mono : ∀ a0 a1 k, LeO (impl_addEsc.f k a0 a1) (impl_addEsc.f (k + 1) a0 a1) := by
  intro a0 a1 k
  have ih0 := impl_addEsc.mono_l k
  unfold impl_addEsc.f
  repeat' first
      | (with_reducible exact ih0 _ _ _)
      | (with_reducible exact LeO.refl _)
      | (with_reducible exact LeO.none _)
      | (with_reducible refine LeO.ite ?_ ?_)
      | (with_reducible refine LeO.bind ?_ (fun _ => ?_))
      | exact ih0 _ _ _
      | exact LeO.none _
      | refine LeO.ite ?_ ?_
      | refine LeO.bind ?_ (fun _ => ?_)
set_option maxHeartbeats 8000000 in
set_option maxRecDepth 100000 in
theorem impl_addEsc.calls (k : Nat) (P0_ : Nat → Prop) (u9000_ : Value) (l0 : List Int) (a1 : ByteArray) (r : List Int) (w0 w : World) (hB : Below w0.heap.size w0 w) (ho0 : Kd.R (Kd.int .u8) 5 w w0.heap.size P0_ u9000_ l0) (h : impl_addEsc.f k l0 a1 = some r) :
  Calls Try.prog 99 #[u9000_, .string a1] w fun e w' => ∃ v0_ : Value, e = .returned (v0_) ∧ Kd.R (Kd.int .u8) 5 w' w0.heap.size (fun k_ => (P0_ k_ ∨ w.heap.size ≤ k_)) v0_ r ∧ Below w0.heap.size w0 w' ∧ Kept w w' (fun k_ => P0_ k_) := by
 have HO0 := zA (show Kd.R (Kd.int .u8) 5 w w0.heap.size (fun k_ => (P0_ k_ ∨ w.heap.size ≤ k_)) u9000_ l0 from Kd.R_mono ho0 (fun k_ hk => (.inl hk)))
 have HK := zA (Kept.refl w (fun k_ => P0_ k_))
 have HW0 := zA hB.size
 have HB := zA hB
 clear hB
 have H : (impl_addEsc.l0 k l0 a1 0) = some r := h
 clear h
 have H' := zA H
 clear H
 go_enter Try.func99, Try.ntmps99
 go_wp2
 go_loopg [0, 5] k (fun kq v0 v5 w' => ∃ (x0_1 : List Int) (x5_1 : Int), v5 = .int .i64 x5_1 ∧ Aside0 (impl_addEsc.l0 kq x0_1 a1 x5_1 = some r) ∧ Aside0 (kq ≤ k) ∧ Aside0 (Kd.R (Kd.int .u8) 5 w' w0.heap.size (fun k_ => (P0_ k_ ∨ w.heap.size ≤ k_)) v0 x0_1) ∧ Aside0 (Kept w w' (fun k_ => P0_ k_)) ∧ Aside0 (Below w0.heap.size w0 w'))
 case atStart => exact ⟨(l0), (0), zx, H', ⟨Nat.le_refl _⟩, ⟨zr HO0⟩, ⟨zq⟩, ⟨zb⟩⟩
 case round =>
  clear H'
  obtain ⟨x0_1, x5_1, rfl, HA, HK1, HO_0, HK, HB⟩ := hrel
  cases gk with
  | zero => exact absurd HA.out (by simp [impl_addEsc.l0])
  | succ k1 =>
   have H := HA.out
   clear HA
   simp only [impl_addEsc.l0] at H
   by_cases c3 : x5_1 < (a1.size : Int)
   ·rw [if_pos c3] at H
    have c3b0 : decide (x5_1 < (a1.size : Int)) = true := decide_eq_true c3
    clear c3
    by_cases c4 : 0 ≤ x5_1
    ·rw [if_pos c4] at H
     have c4b0 : decide (0 ≤ x5_1) = true := decide_eq_true c4
     clear c4
     by_cases c6 : x0_1.length < 140737488355328
     ·rw [if_pos c6] at H
      have LMc6 := zA c6
      clear c6
      obtain ⟨y141, hy141⟩ : ∃ y_ : List Int, y_ = (x0_1 ++ [bt a1 x5_1]) := ⟨_, rfl⟩
      replace H : (if (bt a1 x5_1) = 0 then (if y141.length < 140737488355328 then (impl_addEsc.l0 k1 (y141 ++ [255]) a1 (wrap64 (x5_1 + 1))) else (none)) else (impl_addEsc.l0 k1 y141 a1 (wrap64 (x5_1 + 1)))) = some r := by first | (rw [hy141]; with_reducible exact H) | (have H2_ := (Option.bind_some _ _).symm.trans H; rw [hy141]; with_reducible exact H2_) | (have H2_ := (Option.bind_some _ _).symm.trans H; with_reducible exact H2_) | with_reducible exact H | (rw [hy141]; exact H) | exact H
      have Ny141 := zA hy141
      clear hy141
      by_cases c8 : (bt a1 x5_1) = 0
      ·rw [if_pos c8] at H
       have c8b0 : ((bt a1 x5_1) == 0) = true := beq_iff_eq.mpr c8
       have c8b1 : ((bt a1 x5_1) != 0) = false := bne_eq_false_iff_eq.mpr c8
       clear c8
       by_cases c9 : y141.length < 140737488355328
       ·rw [if_pos c9] at H
        have LMc9 := zA c9
        clear c9
        obtain ⟨y144, hy144⟩ : ∃ y_ : List Int, y_ = (y141 ++ [255]) := ⟨_, rfl⟩
        replace H : (impl_addEsc.l0 k1 y144 a1 (wrap64 (x5_1 + 1))) = some r := by first | (rw [hy144]; with_reducible exact H) | (have H2_ := (Option.bind_some _ _).symm.trans H; rw [hy144]; with_reducible exact H2_) | (have H2_ := (Option.bind_some _ _).symm.trans H; with_reducible exact H2_) | with_reducible exact H | (rw [hy144]; exact H) | exact H
        have Ny144 := zA hy144
        clear hy144
        have H' := zA H
        clear H
        have p5 : 0 ≤ (x5_1 : Int) := of_decide_eq_true za
        have q5 : x5_1 < (a1.size : Int) := of_decide_eq_true za
        have hx5 := bt_at a1 x5_1
        replace p5 := eq_true p5
        replace q5 := eq_true q5
        go_wp2_with (first | ((with_reducible refine gate_builtin (b := .append) (xs := #[.tmp 12, .tmp 16]) rfl ?_); at_builtin; refine Kd.R_append (Kd.int .u8) (w0 := w0) w0.heap.size rfl (.tmp 12) (.tmp 16) 22 5 (.int .u8 0) 1 rfl Try.underlying22 info5 rfl (by decide) (by omega) u0 x0_1 (bt a1 x5_1) [.int .u8 (bt a1 x5_1)] (fun k_ => (P0_ k_ ∨ w.heap.size ≤ k_)) (fun _ => False) rfl rfl ?aP (fun _ hk => hk.elim) ?aF ?aO ?aB ?aS ?aL ?_; (case aP => exact rfl); (case aB => exact zb); (case aF => exact (fun k_ hk => (.inr (Nat.le_trans zz74 hk)))); (case aO => exact (zr HO_0)); (case aS => exact (below_size zb)); (case aL => have := LMc6.out; omega); intro v142 w10 ho hb hg hat; rw [← Ny141.out] at ho; replace HB := zA hb; replace HK := zA (Kept.of_grown (S := (fun k_ => P0_ k_)) hg zq (fun k_ e_ => (HO_0.out.1 k_ e_))); have HO143 := zA ho; clear HO_0 ho hb hg hat; have p7 : 0 ≤ (x5_1 : Int) := of_decide_eq_true za; have q7 : x5_1 < (a1.size : Int) := of_decide_eq_true za; have hx7 := bt_at a1 x5_1; replace p7 := eq_true p7; replace q7 := eq_true q7) | ((with_reducible refine gate_builtin (b := .append) (xs := #[.tmp 22, .tmp 23]) rfl ?_); at_builtin; refine Kd.R_append (Kd.int .u8) (w0 := w0) w0.heap.size rfl (.tmp 22) (.tmp 23) 22 5 (.int .u8 0) 1 rfl Try.underlying22 info5 rfl (by decide) (by omega) v142 y141 255 [.int .u8 255] (fun k_ => (P0_ k_ ∨ w.heap.size ≤ k_)) (fun _ => False) rfl rfl ?aP (fun _ hk => hk.elim) ?aF ?aO ?aB ?aS ?aL ?_; (case aP => exact rfl); (case aB => exact zb); (case aF => exact (fun k_ hk => (.inr (Nat.le_trans zz74 hk)))); (case aO => exact (zr HO143)); (case aS => exact (below_size zb)); (case aL => have := LMc9.out; omega); intro v145 w11 ho hb hg hat; rw [← Ny144.out] at ho; replace HB := zA hb; replace HK := zA (Kept.of_grown (S := (fun k_ => P0_ k_)) hg zq (fun k_ e_ => (HO143.out.1 k_ e_))); have HO146 := zA ho; clear HO143 ho hb hg hat))
        go_roundg k1
        case measure => have := HK1.out; omega
        case rel => exact ⟨(y144), (wrap64 (x5_1 + 1)), zx, H', ⟨zz95⟩, ⟨zr HO146⟩, ⟨zq⟩, ⟨zb⟩⟩
       ·rw [if_neg c9] at H
        exact absurd H (by simp)
      ·rw [if_neg c8] at H
       have c8b0 : ((bt a1 x5_1) == 0) = false := beq_eq_false_iff_ne.mpr c8
       have c8b1 : ((bt a1 x5_1) != 0) = true := bne_iff_ne.mpr c8
       have H' := zA H
       clear H
       have p5 : 0 ≤ (x5_1 : Int) := of_decide_eq_true za
       have q5 : x5_1 < (a1.size : Int) := of_decide_eq_true za
       have hx5 := bt_at a1 x5_1
       replace p5 := eq_true p5
       replace q5 := eq_true q5
       go_wp2_with (first | ((with_reducible refine gate_builtin (b := .append) (xs := #[.tmp 12, .tmp 16]) rfl ?_); at_builtin; refine Kd.R_append (Kd.int .u8) (w0 := w0) w0.heap.size rfl (.tmp 12) (.tmp 16) 22 5 (.int .u8 0) 1 rfl Try.underlying22 info5 rfl (by decide) (by omega) u0 x0_1 (bt a1 x5_1) [.int .u8 (bt a1 x5_1)] (fun k_ => (P0_ k_ ∨ w.heap.size ≤ k_)) (fun _ => False) rfl rfl ?aP (fun _ hk => hk.elim) ?aF ?aO ?aB ?aS ?aL ?_; (case aP => exact rfl); (case aB => exact zb); (case aF => exact (fun k_ hk => (.inr (Nat.le_trans zz74 hk)))); (case aO => exact (zr HO_0)); (case aS => exact (below_size zb)); (case aL => have := LMc6.out; omega); intro v142 w12 ho hb hg hat; rw [← Ny141.out] at ho; replace HB := zA hb; replace HK := zA (Kept.of_grown (S := (fun k_ => P0_ k_)) hg zq (fun k_ e_ => (HO_0.out.1 k_ e_))); have HO143 := zA ho; clear HO_0 ho hb hg hat; have p7 : 0 ≤ (x5_1 : Int) := of_decide_eq_true za; have q7 : x5_1 < (a1.size : Int) := of_decide_eq_true za; have hx7 := bt_at a1 x5_1; replace p7 := eq_true p7; replace q7 := eq_true q7))
       go_roundg k1
       case measure => have := HK1.out; omega
       case rel => exact ⟨(y141), (wrap64 (x5_1 + 1)), zx, H', ⟨zz95⟩, ⟨zr HO143⟩, ⟨zq⟩, ⟨zb⟩⟩
     ·rw [if_neg c6] at H
      exact absurd H (by simp)
    ·rw [if_neg c4] at H
     exact absurd H (by simp)
   ·rw [if_neg c3] at H
    have c3b0 : decide (x5_1 < (a1.size : Int)) = false := decide_eq_false c3
    clear c3
    obtain ⟨y147, hy147⟩ : ∃ y_ : List Int, y_ = (([0, 1] : List Int)) := ⟨_, rfl⟩
    replace H : (if x0_1.length + y147.length < 140737488355328 then (some (x0_1 ++ y147)) else (none)) = some r := by first | (rw [hy147]; with_reducible exact H) | (have H2_ := (Option.bind_some _ _).symm.trans H; rw [hy147]; with_reducible exact H2_) | (have H2_ := (Option.bind_some _ _).symm.trans H; with_reducible exact H2_) | with_reducible exact H | (rw [hy147]; exact H) | exact H
    have Ny147 := zA hy147
    clear hy147
    by_cases c13 : x0_1.length + y147.length < 140737488355328
    ·rw [if_pos c13] at H
     have LMc13 := zA c13
     clear c13
     obtain ⟨y150, hy150⟩ : ∃ y_ : List Int, y_ = (x0_1 ++ y147) := ⟨_, rfl⟩
     replace H : (some y150) = some r := by first | (rw [hy150]; with_reducible exact H) | (have H2_ := (Option.bind_some _ _).symm.trans H; rw [hy150]; with_reducible exact H2_) | (have H2_ := (Option.bind_some _ _).symm.trans H; with_reducible exact H2_) | with_reducible exact H | (rw [hy150]; exact H) | exact H
     have Ny150 := zA hy150
     clear hy150
     obtain rfl := Option.some.inj H
     go_wp2_with (first | ((with_reducible refine zt 26 ?_); refine Kd.R_lit (Kd.int .u8) _ 5 ?hg (N := 26) ?hd (xs := ([0, 1] : List Int)) (inner := [.int .u8 0, .int .u8 1]) (ok := fun _ => True) (okp := fun _ => True) ?hr ?hp (fun _ hk => hk) trivial (Below.refl _ _) (Nat.le_refl _) (by simp) ?_; (case hd => rfl); (case hg => rfl); (case hr => exact zz35); (case hp => exact (Reps.one (show Kd.M (Kd.int .u8) _ _ _ 0 [.int .u8 0] from rfl) (Reps.one (show Kd.M (Kd.int .u8) _ _ _ 1 [.int .u8 1] from rfl) (Reps.none _ _)))); intro v148 w14 ho15 hb hg_ hnew_; clear hg_ hnew_; (first | rw [← Ny147.out] at ho15 | (simp only [Int.reduceToNat] at ho15; rw [← Ny147.out] at ho15)); have HO149 := zL (zN (Kd.R_newM (M := fun k_ => (P0_ k_ ∨ w.heap.size ≤ k_)) ho15 zz74 (fun k_ h_ => .inr h_)) HO_0); replace HO_0 := zE HO_0 ho15 hb; replace HK := zA (Kept.below (S := (fun k_ => P0_ k_)) zq hb); replace HB := zS hb; clear hb ho15; obtain ⟨Ao17, co17, eo17⟩ := Kd.R_slice HO149.out; subst eo17) | ((with_reducible refine gate_builtin (b := .append) (xs := #[.tmp 25, .tmp 26]) rfl ?_); at_builtin; refine Kd.R_append_rows (Kd.int .u8) (w0 := w0) w0.heap.size rfl (.tmp 25) (.tmp 26) 22 5 (.int .u8 0) 1 rfl Try.underlying22 info5 rfl (by decide) (by omega) u0 x0_1 y147 _ _ _ (fun k_ => (P0_ k_ ∨ w.heap.size ≤ k_) ∧ some k_ ≠ (.slice Ao17 y147.length co17 : Value).ownBlock) (fun _ => False) rfl rfl ?aO ?aR (fun _ _ h => h) (fun _ h => h.elim) ?aF ?aB ?aS ?aL ?_; (case aR => exact ze HO149); (case aB => exact zb); (case aF => exact (fun k_ hk => ⟨(.inr (Nat.le_trans zz74 hk)), Kd.fresh' (Kd.R_lt (zr HO149)) k_ hk⟩)); (case aO => exact (zr HO_0)); (case aS => exact (below_size zb)); (case aL => have := LMc13.out; omega); intro v151 w16 ho hb hg hat; rw [← Ny150.out] at ho; replace HO149 := zA (Kd.R_after (ok := (fun k_ => (P0_ k_ ∨ w.heap.size ≤ k_))) (by (with_reducible repeat (first | apply Kd.R_alloc | apply Kd.R_drewN | apply Kd.R_drew)); exact Kd.R_mono HO149.out (fun _ hk => ⟨hk.1.1, hk.2⟩)) hg hat); replace HB := zA hb; replace HK := zA (Kept.of_grown (S := (fun k_ => P0_ k_)) hg zq (fun k_ e_ => (HO_0.out.1 k_ e_).1)); have HO152 := zA ho; clear HO_0 ho hb hg hat))
     go_ret
     exact ⟨_, zw, by (with_reducible repeat (first | apply Kd.R_alloc | apply Kd.R_drewN | apply Kd.R_drew)); exact Kd.R_mono HO152.out (fun _ hk => hk.1), zb, zq⟩
    ·rw [if_neg c13] at H
     exact absurd H (by simp)

end Go.Proofs.Ytnfmpopmigbkoaa.PFnPartsRead

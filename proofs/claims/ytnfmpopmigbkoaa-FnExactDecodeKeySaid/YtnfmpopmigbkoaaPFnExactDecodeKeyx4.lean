-- Written by mkprint.py, a program of this session (the printer with additions of its own)
import Derived.Test.YtnfmpopmigbkoaaPFnExactDecodeKeyx0
import Derived.Test.YtnfmpopmigbkoaaPFnExactDecodeKeyx3
namespace Go.Proofs.Ytnfmpopmigbkoaa.PFnExactDecodeKey
open Go.RowKit Go.Proofs.YtnfmpopmigbkoaaW.PrintWords Go.Proofs.YtnfmpopmigbkoaaW.PrintLast Go.Proofs.YtnfmpopmigbkoaaW.PrintMore
attribute [local go_sem] max2_int min2_int max_two min_two max_three min_three max_four min_four   -- for this text's walks alone
set_option linter.unusedVariables false
set_option linter.unusedSimpArgs false

/-! ### spec_PutVar: function 95 -/
mutual
def spec_PutVar.j0 : Nat → List Int → Int → Option (List Int)
  | 0, _, _ => none
  | k + 1, x0, x1 => if x1 < (-1000000000000000) then (spec_PutVar.j1 k x0 (-1000000000000000)) else (spec_PutVar.j1 k x0 x1)
def spec_PutVar.j1 : Nat → List Int → Int → Option (List Int)
  | 0, _, _ => none
  | k + 1, x0, x1 => if x1 ≥ 0 then ((spec_l4Bytes.f k x1).bind fun t165 => ((some (([] : List Int) : List Int)).bind fun y168 => (if y168.length + x0.length < 140737488355328 then ((some (y168 ++ x0 : List Int)).bind fun y171 => (if y171.length < 140737488355328 then ((some (y171 ++ [(wrap64 (128 + (t165.length : Int))) % 256] : List Int)).bind fun y174 => (if y174.length + t165.length < 140737488355328 then (some (y174 ++ t165)) else (none))) else (none))) else (none)))) else ((spec_l4Bytes.f k (wrap64 ((-1) - x1))).bind fun t180 => ((some (([] : List Int) : List Int)).bind fun y183 => (if y183.length + x0.length < 140737488355328 then ((some (y183 ++ x0 : List Int)).bind fun y186 => (if y186.length < 140737488355328 then ((some (y186 ++ [(wrap64 (127 - (t180.length : Int))) % 256] : List Int)).bind fun y189 => ((spec_Flip.f k t180 0).bind fun t192 => (if y189.length + t192.length < 140737488355328 then (some (y189 ++ t192)) else (none)))) else (none))) else (none))))
end
def spec_PutVar.f (k : Nat) (l0 : List Int) (a1 : Int) : Option (List Int) := if a1 > 1000000000000000 then (spec_PutVar.j0 k l0 1000000000000000) else (spec_PutVar.j0 k l0 a1)
theorem spec_PutVar.mono_l : ∀ k, (∀ y0 y1, LeO (spec_PutVar.j0 k y0 y1) (spec_PutVar.j0 (k + 1) y0 y1)) ∧ (∀ y0 y1, LeO (spec_PutVar.j1 k y0 y1) (spec_PutVar.j1 (k + 1) y0 y1))
  | 0 => ⟨fun _ _ r h => by simp [spec_PutVar.j0] at h, fun _ _ r h => by simp [spec_PutVar.j1] at h⟩
  | k + 1 => by
    obtain ⟨ih0, ih1⟩ := spec_PutVar.mono_l k
    refine ⟨?_, ?_⟩
    · intro y0 y1
      unfold spec_PutVar.j0
      repeat' first
      | (with_reducible exact ih0 _ _)
      | (with_reducible exact ih1 _ _)
      | (with_reducible exact spec_Flip.mono _ _ _)
      | (with_reducible exact spec_l4Bytes.mono _ _)
      | (with_reducible exact LeO.refl _)
      | (with_reducible exact LeO.none _)
      | (with_reducible refine LeO.ite ?_ ?_)
      | (with_reducible refine LeO.bind ?_ (fun _ => ?_))
      | exact ih0 _ _
      | exact ih1 _ _
      | exact spec_Flip.mono _ _ _
      | exact spec_l4Bytes.mono _ _
      | exact LeO.none _
      | refine LeO.ite ?_ ?_
      | refine LeO.bind ?_ (fun _ => ?_)
    · intro y0 y1
      unfold spec_PutVar.j1
      repeat' first
      | (with_reducible exact ih0 _ _)
      | (with_reducible exact ih1 _ _)
      | (with_reducible exact spec_Flip.mono _ _ _)
      | (with_reducible exact spec_l4Bytes.mono _ _)
      | (with_reducible exact LeO.refl _)
      | (with_reducible exact LeO.none _)
      | (with_reducible refine LeO.ite ?_ ?_)
      | (with_reducible refine LeO.bind ?_ (fun _ => ?_))
      | exact ih0 _ _
      | exact ih1 _ _
      | exact spec_Flip.mono _ _ _
      | exact spec_l4Bytes.mono _ _
      | exact LeO.none _
      | refine LeO.ite ?_ ?_
      | refine LeO.bind ?_ (fun _ => ?_)
theorem spec_PutVar.mono : ∀ a0 a1 k, LeO (spec_PutVar.f k a0 a1) (spec_PutVar.f (k + 1) a0 a1) := by
  intro a0 a1 k
  obtain ⟨ih0, ih1⟩ := spec_PutVar.mono_l k
  unfold spec_PutVar.f
  repeat' first
      | (with_reducible exact ih0 _ _)
      | (with_reducible exact ih1 _ _)
      | (with_reducible exact spec_Flip.mono _ _ _)
      | (with_reducible exact spec_l4Bytes.mono _ _)
      | (with_reducible exact LeO.refl _)
      | (with_reducible exact LeO.none _)
      | (with_reducible refine LeO.ite ?_ ?_)
      | (with_reducible refine LeO.bind ?_ (fun _ => ?_))
      | exact ih0 _ _
      | exact ih1 _ _
      | exact spec_Flip.mono _ _ _
      | exact spec_l4Bytes.mono _ _
      | exact LeO.none _
      | refine LeO.ite ?_ ?_
      | refine LeO.bind ?_ (fun _ => ?_)
set_option maxHeartbeats 8000000 in
set_option maxRecDepth 100000 in
theorem spec_PutVar.calls (k : Nat) (A0 : Option Addr) (c0 : Nat) (l0 : List Int) (a1 : Int) (r : List Int) (w : World) (hr0 : Kd.C (Kd.int .u8) w A0 l0.length l0) (hc0 : l0.length ≤ c0) (h : spec_PutVar.f k l0 a1 = some r) :
    Calls Try.prog 95 #[.slice A0 l0.length c0, .int .i64 a1] w fun e w' => ∃ v0_ : Value, e = .returned (v0_) ∧ Kd.R (Kd.int .u8) 5 w' w.heap.size (fun _ => True) v0_ r ∧ Below w.heap.size w w' := by
  have HR0 := Aside0.mk hr0
  have HC0 := Aside0.mk hc0
  clear hr0 hc0
  have HB := Aside0.mk (Below.refl w.heap.size w)
  have H : (if a1 > 1000000000000000 then (spec_PutVar.j0 k l0 1000000000000000) else (spec_PutVar.j0 k l0 a1)) = some r := h
  clear h
  have HC3 := Aside0.mk H
  clear H
  go_enter Try.func95, Try.ntmps95
  go_upto_if 8 with (fail)
  go_cut [1] (fun v1 wc => ∃ (kq : Nat) (x1_2 : Int), v1 = .int .i64 x1_2 ∧ Aside0 (spec_PutVar.j0 kq l0 x1_2 = some r) ∧ Aside0 (kq ≤ k) ∧ Aside0 (Below w.heap.size w wc))
  case first =>
    have H := HC3.out
    clear HC3
    by_cases c4 : a1 > 1000000000000000
    · rw [if_pos c4] at H
      have c4b0 : decide (1000000000000000 < a1) = true := decide_eq_true c4
      clear c4
      (first | rw [c4b0] | (simp only [i64_w, i32_w]; rw [c4b0]) | skip)
      have H' := Aside0.mk H
      clear H
      go_wp2
      go_meet
      case rel => exact ⟨_, (1000000000000000), (by first | rfl | (simp; done) | (simp [*]; done)), H', ⟨by first | omega | exact Nat.le_refl _⟩, ⟨by repeat (first | (with_reducible first | exact HB.out | apply below_alloc | apply pw_below_drewN | apply below_drew1) | exact HB.out)⟩⟩
    · rw [if_neg c4] at H
      have c4b0 : decide (1000000000000000 < a1) = false := decide_eq_false c4
      clear c4
      (first | rw [c4b0] | (simp only [i64_w, i32_w]; rw [c4b0]) | skip)
      have H' := Aside0.mk H
      clear H
      go_wp2
      go_meet
      case rel => exact ⟨_, (a1), (by first | rfl | (simp; done) | (simp [*]; done)), H', ⟨by first | omega | exact Nat.le_refl _⟩, ⟨by repeat (first | (with_reducible first | exact HB.out | apply below_alloc | apply pw_below_drewN | apply below_drew1) | exact HB.out)⟩⟩
  case rest =>
    clear HC3
    try clear p2
    try clear c4
    try clear c4b0
    obtain ⟨kq, x1_2, rfl, HA, HJ2, HB⟩ := hcut
    cases kq with
    | zero => exact absurd HA.out (by simp [spec_PutVar.j0])
    | succ kj2 =>
      have H := HA.out
      clear HA
      simp only [spec_PutVar.j0] at H
      have HC5 := Aside0.mk H
      clear H
      go_upto_if 10 with (fail)
      go_cut [1] (fun v1 wc => ∃ (kq : Nat) (x1_4 : Int), v1 = .int .i64 x1_4 ∧ Aside0 (spec_PutVar.j1 kq l0 x1_4 = some r) ∧ Aside0 (kq ≤ kj2) ∧ Aside0 (Below w.heap.size w wc))
      case first =>
        have H := HC5.out
        clear HC5
        by_cases c6 : x1_2 < (-1000000000000000)
        · rw [if_pos c6] at H
          have c6b0 : decide (x1_2 < (-1000000000000000)) = true := decide_eq_true c6
          clear c6
          (first | rw [c6b0] | (simp only [i64_w, i32_w]; rw [c6b0]) | skip)
          have H' := Aside0.mk H
          clear H
          go_wp2
          go_meet
          case rel => exact ⟨_, ((-1000000000000000)), (by first | rfl | (simp; done) | (simp [*]; done)), H', ⟨by have := HJ2.out; first | omega | exact Nat.le_refl _⟩, ⟨by repeat (first | (with_reducible first | exact HB.out | apply below_alloc | apply pw_below_drewN | apply below_drew1) | exact HB.out)⟩⟩
        · rw [if_neg c6] at H
          have c6b0 : decide (x1_2 < (-1000000000000000)) = false := decide_eq_false c6
          clear c6
          (first | rw [c6b0] | (simp only [i64_w, i32_w]; rw [c6b0]) | skip)
          have H' := Aside0.mk H
          clear H
          go_wp2
          go_meet
          case rel => exact ⟨_, (x1_2), (by first | rfl | (simp; done) | (simp [*]; done)), H', ⟨by have := HJ2.out; first | omega | exact Nat.le_refl _⟩, ⟨by repeat (first | (with_reducible first | exact HB.out | apply below_alloc | apply pw_below_drewN | apply below_drew1) | exact HB.out)⟩⟩
      case rest =>
        clear HC5
        try clear p2
        try clear c4
        try clear c4b0
        try clear c6
        try clear c6b0
        try clear p2
        obtain ⟨kq, x1_4, rfl, HA, HJ4, HB⟩ := hcut
        cases kq with
        | zero => exact absurd HA.out (by simp [spec_PutVar.j1])
        | succ kj4 =>
          have H := HA.out
          clear HA
          simp only [spec_PutVar.j1] at H
          by_cases c7 : x1_4 ≥ 0
          · rw [if_pos c7] at H
            have c7b0 : decide (0 ≤ x1_4) = true := decide_eq_true c7
            clear c7
            replace H := Option.bind_eq_some_iff.mp H
            obtain ⟨t165, A80, H⟩ := H
            replace H : ((some (([] : List Int) : List Int)).bind fun y168 => (if y168.length + l0.length < 140737488355328 then ((some (y168 ++ l0 : List Int)).bind fun y171 => (if y171.length < 140737488355328 then ((some (y171 ++ [(wrap64 (128 + (t165.length : Int))) % 256] : List Int)).bind fun y174 => (if y174.length + t165.length < 140737488355328 then (some (y174 ++ t165)) else (none))) else (none))) else (none))) = some r := H
            have A8 := Aside0.mk A80
            clear A80
            obtain ⟨y168, hy168⟩ : ∃ y_ : List Int, y_ = (([] : List Int)) := ⟨_, rfl⟩
            replace H : (if y168.length + l0.length < 140737488355328 then ((some (y168 ++ l0 : List Int)).bind fun y171 => (if y171.length < 140737488355328 then ((some (y171 ++ [(wrap64 (128 + (t165.length : Int))) % 256] : List Int)).bind fun y174 => (if y174.length + t165.length < 140737488355328 then (some (y174 ++ t165)) else (none))) else (none))) else (none)) = some r := by rw [hy168]; exact H
            have Ny168 := Aside0.mk hy168
            clear hy168
            by_cases c9 : y168.length + l0.length < 140737488355328
            · rw [if_pos c9] at H
              have LMc9 := Aside0.mk c9
              clear c9
              obtain ⟨y171, hy171⟩ : ∃ y_ : List Int, y_ = (y168 ++ l0) := ⟨_, rfl⟩
              replace H : (if y171.length < 140737488355328 then ((some (y171 ++ [(wrap64 (128 + (t165.length : Int))) % 256] : List Int)).bind fun y174 => (if y174.length + t165.length < 140737488355328 then (some (y174 ++ t165)) else (none))) else (none)) = some r := by rw [hy171]; exact H
              have Ny171 := Aside0.mk hy171
              clear hy171
              by_cases c10 : y171.length < 140737488355328
              · rw [if_pos c10] at H
                have LMc10 := Aside0.mk c10
                clear c10
                obtain ⟨y174, hy174⟩ : ∃ y_ : List Int, y_ = (y171 ++ [(wrap64 (128 + (t165.length : Int))) % 256]) := ⟨_, rfl⟩
                replace H : (if y174.length + t165.length < 140737488355328 then (some (y174 ++ t165)) else (none)) = some r := by rw [hy174]; exact H
                have Ny174 := Aside0.mk hy174
                clear hy174
                by_cases c11 : y174.length + t165.length < 140737488355328
                · rw [if_pos c11] at H
                  have LMc11 := Aside0.mk c11
                  clear c11
                  obtain ⟨y177, hy177⟩ : ∃ y_ : List Int, y_ = (y174 ++ t165) := ⟨_, rfl⟩
                  replace H : (some y177) = some r := by rw [hy177]; exact H
                  have Ny177 := Aside0.mk hy177
                  clear hy177
                  obtain rfl := Option.some.inj H
                  go_wp2_with (first | ((with_reducible refine gate_callee (f := 115) rfl ?_); refine gL (some 14) Try.func115 #[.int .i64 x1_4] ?_; (with_reducible refine (spec_l4Bytes.calls kj4 x1_4 t165 _ A8.out).mono ?_); rintro e w12 ⟨v166, rfl, ho0, hb⟩; refine ⟨_, rfl, ?_⟩; have n0_ := Aside0.mk (Kd.R_lower ho0 (below_size HB.out)); have n1_ := Aside0.mk (below_step HB.out hb); clear HB; have HO167 := n0_; have HB := n1_; clear n0_ n1_; (try clear ho0)) | ((with_reducible refine gate_dst (N := 15) rfl ?_); refine Kd.R_lit (Kd.int .u8) _ 5 ?hg (N := 15) ?hd (xs := ([] : List Int)) (inner := []) (ok := fun _ => True) (okp := fun _ => True) ?hr ?hp (fun _ hk => hk) trivial (Below.refl _ _) (Nat.le_refl _) (by simp) ?_; (case hd => rfl); (case hg => rfl); (case hr => first | (go_simp; done) | (go_simp; rfl)); (case hp => exact (Reps.none _ _)); intro v169 w13 ho14 hb hg_ hnew_; clear hg_ hnew_; rw [← Ny168.out] at ho14; have n0_ := Aside0.mk (Kd.R_elder' HO167.out (Kd.R_base ho14) hb); have n1_ := Aside0.mk (Kd.R_lower (Kd.R_new' ho14 (Kd.R_lt HO167.out)) (below_size HB.out)); have n2_ := Aside0.mk (below_step HB.out hb); clear HO167 HB; have HO167 := n0_; have HO170 := n1_; have HB := n2_; clear n0_ n1_ n2_; clear hb ho14) | ((with_reducible refine gate_builtin (b := .append) (xs := #[.tmp 15, .tmp 16]) rfl ?_); at_builtin; refine Kd.R_append_rows (Kd.int .u8) (w0 := w) w.heap.size rfl (.tmp 15) (.tmp 16) 22 5 (.int .u8 0) 1 rfl Try.underlying22 info5 rfl (by decide) (by omega) v169 y168 l0 _ _ _ (fun k_ => some k_ ≠ (v166 : Value).ownBlock) (fun _ => False) rfl rfl ?aO ?aR (fun _ _ h => h) (fun _ h => h.elim) ?aF ?aB ?aS ?aL ?_; (case aR => repeat (first | exact (Kd.C_below HR0.out HB.out) | (with_reducible refine Kd.C_alloc ?_ _) | (with_reducible refine Kd.C_drewN ?_ _) | (with_reducible refine Kd.C_drew ?_))); (case aB => exact HB.out); (case aF => exact (fun k_ hk => Kd.fresh' (Kd.R_lt HO167.out) k_ hk)); (case aO => exact (by (with_reducible repeat (first | apply Kd.R_alloc | apply Kd.R_drewN | apply Kd.R_drew)); exact Kd.R_mono HO170.out (fun _ hk => hk.2))); (case aS => exact (below_size HB.out)); (case aL => have := LMc9.out; omega); intro v172 w15 ho hb hg hat; rw [← Ny171.out] at ho; have n0_ := Aside0.mk (Kd.R_after (ok := (fun _ => True)) HO167.out hg hat); have n1_ := Aside0.mk (hb); have n2_ := Aside0.mk (ho); clear HO167 HB HO170; have HO167 := n0_; have HB := n1_; have HO173 := n2_; clear n0_ n1_ n2_; clear ho hb hg hat; obtain ⟨Ao16, co16, eo16⟩ := Kd.R_slice HO167.out; subst eo16) | ((with_reducible refine gate_builtin (b := .append) (xs := #[.tmp 17, .tmp 22]) rfl ?_); at_builtin; refine Kd.R_append (Kd.int .u8) (w0 := w) w.heap.size rfl (.tmp 17) (.tmp 22) 22 5 (.int .u8 0) 1 rfl Try.underlying22 info5 rfl (by decide) (by omega) v172 y171 ((wrap64 (128 + (t165.length : Int))) % 256) [.int .u8 ((wrap64 (128 + (t165.length : Int))) % 256)] (fun k_ => some k_ ≠ (.slice Ao16 t165.length co16 : Value).ownBlock) (fun _ => False) rfl rfl ?aP (fun _ hk => hk.elim) ?aF ?aO ?aB ?aS ?aL ?_; (case aP => exact rfl); (case aB => exact HB.out); (case aF => exact (fun k_ hk => Kd.fresh' (Kd.R_lt HO167.out) k_ hk)); (case aO => exact HO173.out); (case aS => exact (below_size HB.out)); (case aL => have := LMc10.out; omega); intro v175 w17 ho hb hg hat; rw [← Ny174.out] at ho; have n0_ := Aside0.mk (Kd.R_after (ok := (fun _ => True)) HO167.out hg hat); have n1_ := Aside0.mk (hb); have n2_ := Aside0.mk (ho); clear HO167 HB HO173; have HO167 := n0_; have HB := n1_; have HO176 := n2_; clear n0_ n1_ n2_; clear ho hb hg hat) | ((with_reducible refine gate_builtin (b := .append) (xs := #[.tmp 23, .tmp 24]) rfl ?_); at_builtin; refine Kd.R_append_rows (Kd.int .u8) (w0 := w) w.heap.size rfl (.tmp 23) (.tmp 24) 22 5 (.int .u8 0) 1 rfl Try.underlying22 info5 rfl (by decide) (by omega) v175 y174 t165 _ _ _ (fun k_ => some k_ ≠ (.slice Ao16 t165.length co16 : Value).ownBlock) (fun _ => False) rfl rfl ?aO ?aR (fun _ _ h => h) (fun _ h => h.elim) ?aF ?aB ?aS ?aL ?_; (case aR => repeat (first | exact (Kd.R_reads' HO167.out).2.2 | (with_reducible refine Kd.C_alloc ?_ _) | (with_reducible refine Kd.C_drewN ?_ _) | (with_reducible refine Kd.C_drew ?_))); (case aB => exact HB.out); (case aF => exact (fun k_ hk => Kd.fresh' (Kd.R_lt HO167.out) k_ hk)); (case aO => exact HO176.out); (case aS => exact (below_size HB.out)); (case aL => have := LMc11.out; omega); intro v178 w18 ho hb hg hat; rw [← Ny177.out] at ho; have n0_ := Aside0.mk (Kd.R_after (ok := (fun _ => True)) HO167.out hg hat); have n1_ := Aside0.mk (hb); have n2_ := Aside0.mk (ho); clear HO167 HB HO176; have HO167 := n0_; have HB := n1_; have HO179 := n2_; clear n0_ n1_ n2_; clear ho hb hg hat))
                  go_ret
                  exact ⟨_, rfl, by (with_reducible repeat (first | apply Kd.R_alloc | apply Kd.R_drewN | apply Kd.R_drew)); exact Kd.R_mono HO179.out (fun _ hk => trivial), by repeat (first | (with_reducible first | exact HB.out | apply below_alloc | apply pw_below_drewN | apply below_drew1) | exact HB.out)⟩
                · rw [if_neg c11] at H
                  exact absurd H (by simp)
              · rw [if_neg c10] at H
                exact absurd H (by simp)
            · rw [if_neg c9] at H
              exact absurd H (by simp)
          · rw [if_neg c7] at H
            have c7b0 : decide (0 ≤ x1_4) = false := decide_eq_false c7
            clear c7
            replace H := Option.bind_eq_some_iff.mp H
            obtain ⟨t180, A190, H⟩ := H
            replace H : ((some (([] : List Int) : List Int)).bind fun y183 => (if y183.length + l0.length < 140737488355328 then ((some (y183 ++ l0 : List Int)).bind fun y186 => (if y186.length < 140737488355328 then ((some (y186 ++ [(wrap64 (127 - (t180.length : Int))) % 256] : List Int)).bind fun y189 => ((spec_Flip.f kj4 t180 0).bind fun t192 => (if y189.length + t192.length < 140737488355328 then (some (y189 ++ t192)) else (none)))) else (none))) else (none))) = some r := H
            have A19 := Aside0.mk A190
            clear A190
            obtain ⟨y183, hy183⟩ : ∃ y_ : List Int, y_ = (([] : List Int)) := ⟨_, rfl⟩
            replace H : (if y183.length + l0.length < 140737488355328 then ((some (y183 ++ l0 : List Int)).bind fun y186 => (if y186.length < 140737488355328 then ((some (y186 ++ [(wrap64 (127 - (t180.length : Int))) % 256] : List Int)).bind fun y189 => ((spec_Flip.f kj4 t180 0).bind fun t192 => (if y189.length + t192.length < 140737488355328 then (some (y189 ++ t192)) else (none)))) else (none))) else (none)) = some r := by rw [hy183]; exact H
            have Ny183 := Aside0.mk hy183
            clear hy183
            by_cases c20 : y183.length + l0.length < 140737488355328
            · rw [if_pos c20] at H
              have LMc20 := Aside0.mk c20
              clear c20
              obtain ⟨y186, hy186⟩ : ∃ y_ : List Int, y_ = (y183 ++ l0) := ⟨_, rfl⟩
              replace H : (if y186.length < 140737488355328 then ((some (y186 ++ [(wrap64 (127 - (t180.length : Int))) % 256] : List Int)).bind fun y189 => ((spec_Flip.f kj4 t180 0).bind fun t192 => (if y189.length + t192.length < 140737488355328 then (some (y189 ++ t192)) else (none)))) else (none)) = some r := by rw [hy186]; exact H
              have Ny186 := Aside0.mk hy186
              clear hy186
              by_cases c21 : y186.length < 140737488355328
              · rw [if_pos c21] at H
                have LMc21 := Aside0.mk c21
                clear c21
                obtain ⟨y189, hy189⟩ : ∃ y_ : List Int, y_ = (y186 ++ [(wrap64 (127 - (t180.length : Int))) % 256]) := ⟨_, rfl⟩
                replace H : ((spec_Flip.f kj4 t180 0).bind fun t192 => (if y189.length + t192.length < 140737488355328 then (some (y189 ++ t192)) else (none))) = some r := by rw [hy189]; exact H
                have Ny189 := Aside0.mk hy189
                clear hy189
                replace H := Option.bind_eq_some_iff.mp H
                obtain ⟨t192, A220, H⟩ := H
                replace H : (if y189.length + t192.length < 140737488355328 then (some (y189 ++ t192)) else (none)) = some r := H
                have A22 := Aside0.mk A220
                clear A220
                by_cases c23 : y189.length + t192.length < 140737488355328
                · rw [if_pos c23] at H
                  have LMc23 := Aside0.mk c23
                  clear c23
                  obtain ⟨y195, hy195⟩ : ∃ y_ : List Int, y_ = (y189 ++ t192) := ⟨_, rfl⟩
                  replace H : (some y195) = some r := by rw [hy195]; exact H
                  have Ny195 := Aside0.mk hy195
                  clear hy195
                  obtain rfl := Option.some.inj H
                  go_wp2_with (first | ((with_reducible refine gate_callee (f := 115) rfl ?_); refine gL (some 28) Try.func115 #[.int .i64 (wrap64 ((-1) - x1_4))] ?_; (with_reducible refine (spec_l4Bytes.calls kj4 (wrap64 ((-1) - x1_4)) t180 _ A19.out).mono ?_); rintro e w24 ⟨v181, rfl, ho0, hb⟩; refine ⟨_, rfl, ?_⟩; have n0_ := Aside0.mk (Kd.R_lower ho0 (below_size HB.out)); have n1_ := Aside0.mk (below_step HB.out hb); clear HB; have HO182 := n0_; have HB := n1_; clear n0_ n1_; (try clear ho0)) | ((with_reducible refine gate_dst (N := 29) rfl ?_); refine Kd.R_lit (Kd.int .u8) _ 5 ?hg (N := 29) ?hd (xs := ([] : List Int)) (inner := []) (ok := fun _ => True) (okp := fun _ => True) ?hr ?hp (fun _ hk => hk) trivial (Below.refl _ _) (Nat.le_refl _) (by simp) ?_; (case hd => rfl); (case hg => rfl); (case hr => first | (go_simp; done) | (go_simp; rfl)); (case hp => exact (Reps.none _ _)); intro v184 w25 ho26 hb hg_ hnew_; clear hg_ hnew_; rw [← Ny183.out] at ho26; have n0_ := Aside0.mk (Kd.R_elder' HO182.out (Kd.R_base ho26) hb); have n1_ := Aside0.mk (Kd.R_lower (Kd.R_new' ho26 (Kd.R_lt HO182.out)) (below_size HB.out)); have n2_ := Aside0.mk (below_step HB.out hb); clear HO182 HB; have HO182 := n0_; have HO185 := n1_; have HB := n2_; clear n0_ n1_ n2_; clear hb ho26) | ((with_reducible refine gate_builtin (b := .append) (xs := #[.tmp 29, .tmp 30]) rfl ?_); at_builtin; refine Kd.R_append_rows (Kd.int .u8) (w0 := w) w.heap.size rfl (.tmp 29) (.tmp 30) 22 5 (.int .u8 0) 1 rfl Try.underlying22 info5 rfl (by decide) (by omega) v184 y183 l0 _ _ _ (fun k_ => some k_ ≠ (v181 : Value).ownBlock) (fun _ => False) rfl rfl ?aO ?aR (fun _ _ h => h) (fun _ h => h.elim) ?aF ?aB ?aS ?aL ?_; (case aR => repeat (first | exact (Kd.C_below HR0.out HB.out) | (with_reducible refine Kd.C_alloc ?_ _) | (with_reducible refine Kd.C_drewN ?_ _) | (with_reducible refine Kd.C_drew ?_))); (case aB => exact HB.out); (case aF => exact (fun k_ hk => Kd.fresh' (Kd.R_lt HO182.out) k_ hk)); (case aO => exact (by (with_reducible repeat (first | apply Kd.R_alloc | apply Kd.R_drewN | apply Kd.R_drew)); exact Kd.R_mono HO185.out (fun _ hk => hk.2))); (case aS => exact (below_size HB.out)); (case aL => have := LMc20.out; omega); intro v187 w27 ho hb hg hat; rw [← Ny186.out] at ho; have n0_ := Aside0.mk (Kd.R_after (ok := (fun _ => True)) HO182.out hg hat); have n1_ := Aside0.mk (hb); have n2_ := Aside0.mk (ho); clear HO182 HB HO185; have HO182 := n0_; have HB := n1_; have HO188 := n2_; clear n0_ n1_ n2_; clear ho hb hg hat; obtain ⟨Ao28, co28, eo28⟩ := Kd.R_slice HO182.out; subst eo28) | ((with_reducible refine gate_builtin (b := .append) (xs := #[.tmp 31, .tmp 36]) rfl ?_); at_builtin; refine Kd.R_append (Kd.int .u8) (w0 := w) w.heap.size rfl (.tmp 31) (.tmp 36) 22 5 (.int .u8 0) 1 rfl Try.underlying22 info5 rfl (by decide) (by omega) v187 y186 ((wrap64 (127 - (t180.length : Int))) % 256) [.int .u8 ((wrap64 (127 - (t180.length : Int))) % 256)] (fun k_ => some k_ ≠ (.slice Ao28 t180.length co28 : Value).ownBlock) (fun _ => False) rfl rfl ?aP (fun _ hk => hk.elim) ?aF ?aO ?aB ?aS ?aL ?_; (case aP => exact rfl); (case aB => exact HB.out); (case aF => exact (fun k_ hk => Kd.fresh' (Kd.R_lt HO182.out) k_ hk)); (case aO => exact HO188.out); (case aS => exact (below_size HB.out)); (case aL => have := LMc21.out; omega); intro v190 w29 ho hb hg hat; rw [← Ny189.out] at ho; have n0_ := Aside0.mk (Kd.R_after (ok := (fun _ => True)) HO182.out hg hat); have n1_ := Aside0.mk (hb); have n2_ := Aside0.mk (ho); clear HO182 HB HO188; have HO182 := n0_; have HB := n1_; have HO191 := n2_; clear n0_ n1_ n2_; clear ho hb hg hat) | ((with_reducible refine gate_callee (f := 68) rfl ?_); refine gL (some 39) Try.func68 #[.slice Ao28 t180.length co28, .int .i64 0] ?_; (with_reducible refine (spec_Flip.calls kj4 _ _ t180 0 t192 _ ?side1 ?side2 A22.out).mono ?_); (case side1 => exact (Kd.R_reads' HO182.out).2.2); (case side2 => exact (Kd.R_reads' HO182.out).2.1); rintro e w30 ⟨v193, rfl, ho0, hb⟩; refine ⟨_, rfl, ?_⟩; have n0_ := Aside0.mk (Kd.R_elder' HO182.out (Kd.R_base ho0) hb); have n1_ := Aside0.mk (Kd.R_elder' HO191.out (Kd.R_base ho0) hb); have n2_ := Aside0.mk (Kd.R_lower (Kd.R_new' (Kd.R_new' ho0 (Kd.R_lt HO182.out)) (Kd.R_lt HO191.out)) (below_size HB.out)); have n3_ := Aside0.mk (below_step HB.out hb); clear HO182 HO191 HB; have HO182 := n0_; have HO191 := n1_; have HO194 := n2_; have HB := n3_; clear n0_ n1_ n2_ n3_; (try clear ho0); obtain ⟨Ao32, co32, eo32⟩ := Kd.R_slice HO194.out; subst eo32) | ((with_reducible refine gate_builtin (b := .append) (xs := #[.tmp 37, .tmp 39]) rfl ?_); at_builtin; refine Kd.R_append_rows (Kd.int .u8) (w0 := w) w.heap.size rfl (.tmp 37) (.tmp 39) 22 5 (.int .u8 0) 1 rfl Try.underlying22 info5 rfl (by decide) (by omega) v190 y189 t192 _ _ _ (fun k_ => some k_ ≠ (.slice Ao28 t180.length co28 : Value).ownBlock ∧ some k_ ≠ (.slice Ao32 t192.length co32 : Value).ownBlock) (fun _ => False) rfl rfl ?aO ?aR (fun _ _ h => h) (fun _ h => h.elim) ?aF ?aB ?aS ?aL ?_; (case aR => repeat (first | exact (Kd.R_reads' HO194.out).2.2 | (with_reducible refine Kd.C_alloc ?_ _) | (with_reducible refine Kd.C_drewN ?_ _) | (with_reducible refine Kd.C_drew ?_))); (case aB => exact HB.out); (case aF => exact (fun k_ hk => ⟨Kd.fresh' (Kd.R_lt HO182.out) k_ hk, Kd.fresh' (Kd.R_lt HO194.out) k_ hk⟩)); (case aO => exact HO191.out); (case aS => exact (below_size HB.out)); (case aL => have := LMc23.out; omega); intro v196 w31 ho hb hg hat; rw [← Ny195.out] at ho; have n0_ := Aside0.mk (Kd.R_after (ok := (fun k_ => some k_ ≠ (.slice Ao32 t192.length co32 : Value).ownBlock)) (by (with_reducible repeat (first | apply Kd.R_alloc | apply Kd.R_drewN | apply Kd.R_drew)); exact Kd.R_mono HO182.out (fun _ hk => ⟨hk.2, hk.1.2⟩)) hg hat); have n1_ := Aside0.mk (Kd.R_after (ok := (fun k_ => some k_ ≠ (.slice Ao28 t180.length co28 : Value).ownBlock)) (by (with_reducible repeat (first | apply Kd.R_alloc | apply Kd.R_drewN | apply Kd.R_drew)); exact Kd.R_mono HO194.out (fun _ hk => ⟨hk.1.2, hk.2⟩)) hg hat); have n2_ := Aside0.mk (hb); have n3_ := Aside0.mk (ho); clear HO182 HO194 HB HO191; have HO182 := n0_; have HO194 := n1_; have HB := n2_; have HO197 := n3_; clear n0_ n1_ n2_ n3_; clear ho hb hg hat))
                  go_ret
                  exact ⟨_, rfl, by (with_reducible repeat (first | apply Kd.R_alloc | apply Kd.R_drewN | apply Kd.R_drew)); exact Kd.R_mono HO197.out (fun _ hk => trivial), by repeat (first | (with_reducible first | exact HB.out | apply below_alloc | apply pw_below_drewN | apply below_drew1) | exact HB.out)⟩
                · rw [if_neg c23] at H
                  exact absurd H (by simp)
              · rw [if_neg c21] at H
                exact absurd H (by simp)
            · rw [if_neg c20] at H
              exact absurd H (by simp)

/-! ### spec_GetVar: function 101 -/
def spec_GetVar.j0 : Nat → List Int → Int → Bool → Option (Int × Int × Bool)
  | 0, _, _, _ => none
  | k + 1, x0, x1, x27 => if x27 = true then (some (0, 0, false)) else (if 0 ≤ x1 then (if x1 < (x0.length : Int) then (if (wrap64 ((wrap64 (rd x0 x1)) - 128)) < 0 then ((spec_l4Read.f k x0 (wrap64 (x1 + 1)) (wrap64 ((-1) - (wrap64 ((wrap64 (rd x0 x1)) - 128)))) true).bind fun bt201 => (if bt201.2 = true then ((spec_l1In.f (wrap64 ((-1) - bt201.1)) (-1000000000000000) 1000000000000000).bind fun t203 => (if t203 = true then ((spec_PutVar.f k (([] : List Int)) (wrap64 ((-1) - bt201.1))).bind fun t207 => (if (t207.length : Int) = (wrap64 ((wrap64 ((-1) - (wrap64 ((wrap64 (rd x0 x1)) - 128)))) + 1)) then (some (wrap64 ((-1) - bt201.1), wrap64 ((wrap64 (x1 + 1)) + (wrap64 ((-1) - (wrap64 ((wrap64 (rd x0 x1)) - 128))))), true)) else (some (0, 0, false)))) else (some (0, 0, false)))) else (some (0, 0, false)))) else ((spec_l4Read.f k x0 (wrap64 (x1 + 1)) (wrap64 ((wrap64 (rd x0 x1)) - 128)) false).bind fun bt210 => (if bt210.2 = true then ((spec_l1In.f bt210.1 (-1000000000000000) 1000000000000000).bind fun t212 => (if t212 = true then ((spec_PutVar.f k (([] : List Int)) bt210.1).bind fun t216 => (if (t216.length : Int) = (wrap64 ((wrap64 ((wrap64 (rd x0 x1)) - 128)) + 1)) then (some (bt210.1, wrap64 ((wrap64 (x1 + 1)) + (wrap64 ((wrap64 (rd x0 x1)) - 128))), true)) else (some (0, 0, false)))) else (some (0, 0, false)))) else (some (0, 0, false))))) else (none)) else (none))
def spec_GetVar.f (k : Nat) (l0 : List Int) (a1 : Int) : Option (Int × Int × Bool) := if a1 < 0 then (spec_GetVar.j0 k l0 a1 true) else (if a1 ≥ (l0.length : Int) then (spec_GetVar.j0 k l0 a1 true) else (if 0 ≤ a1 then (if a1 < (l0.length : Int) then ((spec_l1In.f (wrap64 (rd l0 a1)) 120 135).bind fun t199 => (spec_GetVar.j0 k l0 a1 (!t199))) else (none)) else (none)))
theorem spec_GetVar.mono_l : ∀ k, (∀ y0 y1 y2, LeO (spec_GetVar.j0 k y0 y1 y2) (spec_GetVar.j0 (k + 1) y0 y1 y2))
  | 0 => fun _ _ _ r h => by simp [spec_GetVar.j0] at h
  | k + 1 => by
    have ih0 := spec_GetVar.mono_l k
    · intro y0 y1 y2
      unfold spec_GetVar.j0
      repeat' first
      | (with_reducible exact ih0 _ _ _)
      | (with_reducible exact spec_PutVar.mono _ _ _)
      | (with_reducible exact spec_l4Read.mono _ _ _ _ _)
      | (with_reducible exact LeO.refl _)
      | (with_reducible exact LeO.none _)
      | (with_reducible refine LeO.ite ?_ ?_)
      | (with_reducible refine LeO.bind ?_ (fun _ => ?_))
      | exact ih0 _ _ _
      | exact spec_PutVar.mono _ _ _
      | exact spec_l4Read.mono _ _ _ _ _
      | exact LeO.none _
      | refine LeO.ite ?_ ?_
      | refine LeO.bind ?_ (fun _ => ?_)
theorem spec_GetVar.mono : ∀ a0 a1 k, LeO (spec_GetVar.f k a0 a1) (spec_GetVar.f (k + 1) a0 a1) := by
  intro a0 a1 k
  have ih0 := spec_GetVar.mono_l k
  unfold spec_GetVar.f
  repeat' first
      | (with_reducible exact ih0 _ _ _)
      | (with_reducible exact spec_PutVar.mono _ _ _)
      | (with_reducible exact spec_l4Read.mono _ _ _ _ _)
      | (with_reducible exact LeO.refl _)
      | (with_reducible exact LeO.none _)
      | (with_reducible refine LeO.ite ?_ ?_)
      | (with_reducible refine LeO.bind ?_ (fun _ => ?_))
      | exact ih0 _ _ _
      | exact spec_PutVar.mono _ _ _
      | exact spec_l4Read.mono _ _ _ _ _
      | exact LeO.none _
      | refine LeO.ite ?_ ?_
      | refine LeO.bind ?_ (fun _ => ?_)
set_option maxHeartbeats 8000000 in
set_option maxRecDepth 100000 in
theorem spec_GetVar.calls (k : Nat) (A0 : Option Addr) (c0 : Nat) (l0 : List Int) (a1 : Int) (r1 : Int) (r2 : Int) (r3 : Bool) (w : World) (hr0 : Kd.C (Kd.int .u8) w A0 l0.length l0) (hc0 : l0.length ≤ c0) (h : spec_GetVar.f k l0 a1 = some (r1, r2, r3)) :
    Calls Try.prog 101 #[.slice A0 l0.length c0, .int .i64 a1] w fun e w' => e = .returned (.tuple #[.int .i64 r1, .int .i64 r2, .bool r3]) ∧ Below w.heap.size w w' := by
  have HR0 := Aside0.mk hr0
  have HC0 := Aside0.mk hc0
  clear hr0 hc0
  have HB := Aside0.mk (Below.refl w.heap.size w)
  have H : (if a1 < 0 then (spec_GetVar.j0 k l0 a1 true) else (if a1 ≥ (l0.length : Int) then (spec_GetVar.j0 k l0 a1 true) else (if 0 ≤ a1 then (if a1 < (l0.length : Int) then ((spec_l1In.f (wrap64 (rd l0 a1)) 120 135).bind fun t199 => (spec_GetVar.j0 k l0 a1 (!t199))) else (none)) else (none)))) = some (r1, r2, r3) := h
  clear h
  have HC3 := Aside0.mk H
  clear H
  go_enter Try.func101, Try.ntmps101
  go_upto_region 1 with (fail)
  go_cut [27] (fun v27 wc => ∃ (kq : Nat) (x27_2 : Bool), v27 = .bool x27_2 ∧ Aside0 (spec_GetVar.j0 kq l0 a1 x27_2 = some (r1, r2, r3)) ∧ Aside0 (kq ≤ k) ∧ Aside0 (Below w.heap.size w wc))
  case first =>
    have H := HC3.out
    clear HC3
    by_cases c4 : a1 < 0
    · rw [if_pos c4] at H
      have c4b0 : decide (a1 < 0) = true := decide_eq_true c4
      clear c4
      (first | rw [c4b0] | (simp only [i64_w, i32_w]; rw [c4b0]) | skip)
      have H' := Aside0.mk H
      clear H
      go_wp2
      go_meet
      case rel => exact ⟨_, (true), (by first | rfl | (simp; done) | (simp [*]; done)), H', ⟨by first | omega | exact Nat.le_refl _⟩, ⟨by repeat (first | (with_reducible first | exact HB.out | apply below_alloc | apply pw_below_drewN | apply below_drew1) | exact HB.out)⟩⟩
    · rw [if_neg c4] at H
      have c4b0 : decide (a1 < 0) = false := decide_eq_false c4
      clear c4
      (first | rw [c4b0] | (simp only [i64_w, i32_w]; rw [c4b0]) | skip)
      by_cases c5 : a1 ≥ (l0.length : Int)
      · rw [if_pos c5] at H
        have c5b0 : decide ((l0.length : Int) ≤ a1) = true := decide_eq_true c5
        clear c5
        have H' := Aside0.mk H
        clear H
        go_wp2
        go_meet
        case rel => exact ⟨_, (true), (by first | rfl | (simp; done) | (simp [*]; done)), H', ⟨by first | omega | exact Nat.le_refl _⟩, ⟨by repeat (first | (with_reducible first | exact HB.out | apply below_alloc | apply pw_below_drewN | apply below_drew1) | exact HB.out)⟩⟩
      · rw [if_neg c5] at H
        have c5b0 : decide ((l0.length : Int) ≤ a1) = false := decide_eq_false c5
        clear c5
        by_cases c6 : 0 ≤ a1
        · rw [if_pos c6] at H
          have c6b0 : decide (0 ≤ a1) = true := decide_eq_true c6
          clear c6
          by_cases c7 : a1 < (l0.length : Int)
          · rw [if_pos c7] at H
            have c7b0 : decide (a1 < (l0.length : Int)) = true := decide_eq_true c7
            clear c7
            replace H := Option.bind_eq_some_iff.mp H
            obtain ⟨t199, A80, H⟩ := H
            replace H : (spec_GetVar.j0 k l0 a1 (!t199)) = some (r1, r2, r3) := H
            have A8 := Aside0.mk A80
            clear A80
            have H' := Aside0.mk H
            clear H
            have p198 : 0 ≤ (a1 : Int) := of_decide_eq_true (by first | (with_reducible assumption) | assumption)
            have q198 : a1 < (l0.length : Int) := of_decide_eq_true (by first | (with_reducible assumption) | assumption)
            obtain ⟨ad198, e198, hx198_0⟩ := Kd.at_int HR0.out a1 p198 q198
            cases e198
            replace hx198_0 := (HB.out.cell (World.block_lt_of_cell? w _ hx198_0)).trans hx198_0
            replace p198 := eq_true p198
            replace q198 := eq_true q198
            go_wp2_with (first | (go_at_call 79; (with_reducible refine (spec_l1In.calls (wrap64 (rd l0 a1)) 120 135 t199 _ A8.out).mono ?_); rintro e w' ⟨rfl, ⟨nd, rfl⟩⟩))
            go_meet
            case rel => exact ⟨_, (!t199), (by first | rfl | (simp; done) | (simp [*]; done)), H', ⟨by first | omega | exact Nat.le_refl _⟩, ⟨by repeat (first | (with_reducible first | exact HB.out | apply below_alloc | apply pw_below_drewN | apply below_drew1) | exact HB.out)⟩⟩
          · rw [if_neg c7] at H
            exact absurd H (by simp)
        · rw [if_neg c6] at H
          exact absurd H (by simp)
  case rest =>
    clear HC3
    try clear c1
    try clear p1
    try clear q1
    try clear hx1
    try clear p2
    try clear c4
    try clear c4b0
    try clear c5
    try clear c5b0
    try clear c6
    try clear c6b0
    try clear p6
    try clear c7
    try clear c7b0
    try clear hx198_0
    try clear p198
    try clear q198
    obtain ⟨kq, x27_2, rfl, HA, HJ2, HB⟩ := hcut
    cases kq with
    | zero => exact absurd HA.out (by simp [spec_GetVar.j0])
    | succ kj2 =>
      have H := HA.out
      clear HA
      simp only [spec_GetVar.j0] at H
      by_cases c9 : x27_2 = true
      · subst c9
        have H1 : (some (0, 0, false)) = some (r1, r2, r3) := by rw [if_pos rfl] at H; exact H
        clear H
        have H := H1
        clear H1
        simp only [Option.some.injEq, Prod.mk.injEq] at H
        obtain ⟨rfl, rfl, rfl⟩ := H
        go_wp2
        go_ret3
        exact ⟨rfl, by repeat (first | (with_reducible first | exact HB.out | apply below_alloc | apply pw_below_drewN | apply below_drew1) | exact HB.out)⟩
      · replace c9 := Bool.eq_false_iff.mpr c9
        subst c9
        have H1 : (if 0 ≤ a1 then (if a1 < (l0.length : Int) then (if (wrap64 ((wrap64 (rd l0 a1)) - 128)) < 0 then ((spec_l4Read.f kj2 l0 (wrap64 (a1 + 1)) (wrap64 ((-1) - (wrap64 ((wrap64 (rd l0 a1)) - 128)))) true).bind fun bt201 => (if bt201.2 = true then ((spec_l1In.f (wrap64 ((-1) - bt201.1)) (-1000000000000000) 1000000000000000).bind fun t203 => (if t203 = true then ((spec_PutVar.f kj2 (([] : List Int)) (wrap64 ((-1) - bt201.1))).bind fun t207 => (if (t207.length : Int) = (wrap64 ((wrap64 ((-1) - (wrap64 ((wrap64 (rd l0 a1)) - 128)))) + 1)) then (some (wrap64 ((-1) - bt201.1), wrap64 ((wrap64 (a1 + 1)) + (wrap64 ((-1) - (wrap64 ((wrap64 (rd l0 a1)) - 128))))), true)) else (some (0, 0, false)))) else (some (0, 0, false)))) else (some (0, 0, false)))) else ((spec_l4Read.f kj2 l0 (wrap64 (a1 + 1)) (wrap64 ((wrap64 (rd l0 a1)) - 128)) false).bind fun bt210 => (if bt210.2 = true then ((spec_l1In.f bt210.1 (-1000000000000000) 1000000000000000).bind fun t212 => (if t212 = true then ((spec_PutVar.f kj2 (([] : List Int)) bt210.1).bind fun t216 => (if (t216.length : Int) = (wrap64 ((wrap64 ((wrap64 (rd l0 a1)) - 128)) + 1)) then (some (bt210.1, wrap64 ((wrap64 (a1 + 1)) + (wrap64 ((wrap64 (rd l0 a1)) - 128))), true)) else (some (0, 0, false)))) else (some (0, 0, false)))) else (some (0, 0, false))))) else (none)) else (none)) = some (r1, r2, r3) := by rw [if_neg (show ¬ (false = true) by decide)] at H; exact H
        clear H
        have H := H1
        clear H1
        by_cases c10 : 0 ≤ a1
        · rw [if_pos c10] at H
          have c10b0 : decide (0 ≤ a1) = true := decide_eq_true c10
          clear c10
          by_cases c11 : a1 < (l0.length : Int)
          · rw [if_pos c11] at H
            have c11b0 : decide (a1 < (l0.length : Int)) = true := decide_eq_true c11
            clear c11
            by_cases c12 : (wrap64 ((wrap64 (rd l0 a1)) - 128)) < 0
            · rw [if_pos c12] at H
              have c12b0 : decide ((wrap64 ((wrap64 (rd l0 a1)) - 128)) < 0) = true := decide_eq_true c12
              clear c12
              replace H := Option.bind_eq_some_iff.mp H
              obtain ⟨⟨t201, t202⟩, A130, H⟩ := H
              replace H : (if t202 = true then ((spec_l1In.f (wrap64 ((-1) - t201)) (-1000000000000000) 1000000000000000).bind fun t203 => (if t203 = true then ((spec_PutVar.f kj2 (([] : List Int)) (wrap64 ((-1) - t201))).bind fun t207 => (if (t207.length : Int) = (wrap64 ((wrap64 ((-1) - (wrap64 ((wrap64 (rd l0 a1)) - 128)))) + 1)) then (some (wrap64 ((-1) - t201), wrap64 ((wrap64 (a1 + 1)) + (wrap64 ((-1) - (wrap64 ((wrap64 (rd l0 a1)) - 128))))), true)) else (some (0, 0, false)))) else (some (0, 0, false)))) else (some (0, 0, false))) = some (r1, r2, r3) := H
              have A13 := Aside0.mk A130
              clear A130
              by_cases c14 : t202 = true
              · subst c14
                have H1 : ((spec_l1In.f (wrap64 ((-1) - t201)) (-1000000000000000) 1000000000000000).bind fun t203 => (if t203 = true then ((spec_PutVar.f kj2 (([] : List Int)) (wrap64 ((-1) - t201))).bind fun t207 => (if (t207.length : Int) = (wrap64 ((wrap64 ((-1) - (wrap64 ((wrap64 (rd l0 a1)) - 128)))) + 1)) then (some (wrap64 ((-1) - t201), wrap64 ((wrap64 (a1 + 1)) + (wrap64 ((-1) - (wrap64 ((wrap64 (rd l0 a1)) - 128))))), true)) else (some (0, 0, false)))) else (some (0, 0, false)))) = some (r1, r2, r3) := by rw [if_pos rfl] at H; exact H
                clear H
                have H := H1
                clear H1
                replace H := Option.bind_eq_some_iff.mp H
                obtain ⟨t203, A150, H⟩ := H
                replace H : (if t203 = true then ((spec_PutVar.f kj2 (([] : List Int)) (wrap64 ((-1) - t201))).bind fun t207 => (if (t207.length : Int) = (wrap64 ((wrap64 ((-1) - (wrap64 ((wrap64 (rd l0 a1)) - 128)))) + 1)) then (some (wrap64 ((-1) - t201), wrap64 ((wrap64 (a1 + 1)) + (wrap64 ((-1) - (wrap64 ((wrap64 (rd l0 a1)) - 128))))), true)) else (some (0, 0, false)))) else (some (0, 0, false))) = some (r1, r2, r3) := H
                have A15 := Aside0.mk A150
                clear A150
                by_cases c16 : t203 = true
                · subst c16
                  have H1 : ((spec_PutVar.f kj2 (([] : List Int)) (wrap64 ((-1) - t201))).bind fun t207 => (if (t207.length : Int) = (wrap64 ((wrap64 ((-1) - (wrap64 ((wrap64 (rd l0 a1)) - 128)))) + 1)) then (some (wrap64 ((-1) - t201), wrap64 ((wrap64 (a1 + 1)) + (wrap64 ((-1) - (wrap64 ((wrap64 (rd l0 a1)) - 128))))), true)) else (some (0, 0, false)))) = some (r1, r2, r3) := by rw [if_pos rfl] at H; exact H
                  clear H
                  have H := H1
                  clear H1
                  obtain ⟨y204, hy204⟩ : ∃ y_ : List Int, y_ = (([] : List Int)) := ⟨_, rfl⟩
                  replace H : ((spec_PutVar.f kj2 y204 (wrap64 ((-1) - t201))).bind fun t207 => (if (t207.length : Int) = (wrap64 ((wrap64 ((-1) - (wrap64 ((wrap64 (rd l0 a1)) - 128)))) + 1)) then (some (wrap64 ((-1) - t201), wrap64 ((wrap64 (a1 + 1)) + (wrap64 ((-1) - (wrap64 ((wrap64 (rd l0 a1)) - 128))))), true)) else (some (0, 0, false)))) = some (r1, r2, r3) := by rw [hy204]; exact H
                  have Ny204 := Aside0.mk hy204
                  clear hy204
                  replace H := Option.bind_eq_some_iff.mp H
                  obtain ⟨t207, A170, H⟩ := H
                  replace H : (if (t207.length : Int) = (wrap64 ((wrap64 ((-1) - (wrap64 ((wrap64 (rd l0 a1)) - 128)))) + 1)) then (some (wrap64 ((-1) - t201), wrap64 ((wrap64 (a1 + 1)) + (wrap64 ((-1) - (wrap64 ((wrap64 (rd l0 a1)) - 128))))), true)) else (some (0, 0, false))) = some (r1, r2, r3) := H
                  have A17 := Aside0.mk A170
                  clear A170
                  by_cases c18 : (t207.length : Int) = (wrap64 ((wrap64 ((-1) - (wrap64 ((wrap64 (rd l0 a1)) - 128)))) + 1))
                  · rw [if_pos c18] at H
                    have c18b0 : ((t207.length : Int) == (wrap64 ((wrap64 ((-1) - (wrap64 ((wrap64 (rd l0 a1)) - 128)))) + 1))) = true := beq_iff_eq.mpr c18
                    have c18b1 : ((t207.length : Int) != (wrap64 ((wrap64 ((-1) - (wrap64 ((wrap64 (rd l0 a1)) - 128)))) + 1))) = false := bne_eq_false_iff_eq.mpr c18
                    clear c18
                    simp only [Option.some.injEq, Prod.mk.injEq] at H
                    obtain ⟨rfl, rfl, rfl⟩ := H
                    have p200 : 0 ≤ (a1 : Int) := of_decide_eq_true (by first | (with_reducible assumption) | assumption)
                    have q200 : a1 < (l0.length : Int) := of_decide_eq_true (by first | (with_reducible assumption) | assumption)
                    obtain ⟨ad200, e200, hx200_0⟩ := Kd.at_int HR0.out a1 p200 q200
                    cases e200
                    replace hx200_0 := (HB.out.cell (World.block_lt_of_cell? w _ hx200_0)).trans hx200_0
                    replace p200 := eq_true p200
                    replace q200 := eq_true q200
                    go_wp2_with (first | ((with_reducible refine gate_callee (f := 119) rfl ?_); refine gL (some 45) Try.func119 #[.slice (some ad200) l0.length c0, .int .i64 (wrap64 (a1 + 1)), .int .i64 (wrap64 ((-1) - (wrap64 ((wrap64 (rd l0 a1)) - 128)))), .bool true] ?_; (with_reducible refine (spec_l4Read.calls kj2 _ _ l0 (wrap64 (a1 + 1)) (wrap64 ((-1) - (wrap64 ((wrap64 (rd l0 a1)) - 128)))) true t201 true _ ?side1 ?side2 A13.out).mono ?_); (case side1 => repeat (first | exact (Kd.C_below HR0.out HB.out) | (with_reducible refine Kd.C_alloc ?_ _) | (with_reducible refine Kd.C_drewN ?_ _) | (with_reducible refine Kd.C_drew ?_))); (case side2 => exact HC0.out); rintro e w' ⟨rfl, ⟨nd, rfl⟩⟩; refine ⟨_, rfl, ?_⟩) | (go_at_call 79; (with_reducible refine (spec_l1In.calls (wrap64 ((-1) - t201)) (-1000000000000000) 1000000000000000 true _ A15.out).mono ?_); rintro e w' ⟨rfl, ⟨nd, rfl⟩⟩) | ((with_reducible refine gate_dst (N := 59) rfl ?_); (try (refine gate_guard (by rfl) ?_; dsimp only)); refine Kd.R_lit (Kd.int .u8) _ 5 ?hg (N := 59) ?hd (xs := ([] : List Int)) (inner := []) (ok := fun _ => True) (okp := fun _ => True) ?hr ?hp (fun _ hk => hk) trivial (Below.refl _ _) (Nat.le_refl _) (by simp) ?_; (case hd => rfl); (case hg => rfl); (case hr => first | (go_simp; done) | (go_simp; rfl)); (case hp => exact (Reps.none _ _)); intro v205 w19 ho20 hb hg_ hnew_; clear hg_ hnew_; (first | rw [← Ny204.out] at ho20 | (simp only [Int.reduceToNat] at ho20; rw [← Ny204.out] at ho20)); have n0_ := Aside0.mk (Kd.R_lower ho20 (below_size (by repeat (first | (with_reducible first | exact HB.out | apply below_alloc | apply pw_below_drewN | apply below_drew1) | exact HB.out)))); have n1_ := Aside0.mk (below_step (by repeat (first | (with_reducible first | exact HB.out | apply below_alloc | apply pw_below_drewN | apply below_drew1) | exact HB.out)) hb); clear HB; have HO206 := n0_; have HB := n1_; clear n0_ n1_; clear hb ho20; obtain ⟨Ao21, co21, eo21⟩ := Kd.R_slice HO206.out; subst eo21) | (go_at_call 95; (with_reducible refine (spec_PutVar.calls kj2 _ _ y204 (wrap64 ((-1) - t201)) t207 _ ?side1 ?side2 A17.out).mono ?_); (case side1 => repeat (first | exact (Kd.R_reads' HO206.out).2.2 | (with_reducible refine Kd.C_alloc ?_ _) | (with_reducible refine Kd.C_drewN ?_ _) | (with_reducible refine Kd.C_drew ?_))); (case side2 => exact (Kd.R_reads' HO206.out).2.1); rintro e w22 ⟨v208, rfl, ho0, hb⟩; have n0_ := Aside0.mk (Kd.R_elder' (by (with_reducible repeat (first | apply Kd.R_alloc | apply Kd.R_drewN | apply Kd.R_drew)); exact HO206.out) (Kd.R_base ho0) hb); have n1_ := Aside0.mk (Kd.R_lower (Kd.R_new' ho0 (Kd.R_lt (by (with_reducible repeat (first | apply Kd.R_alloc | apply Kd.R_drewN | apply Kd.R_drew)); exact HO206.out))) (below_size (by repeat (first | (with_reducible first | exact HB.out | apply below_alloc | apply pw_below_drewN | apply below_drew1) | exact HB.out)))); have n2_ := Aside0.mk (below_step (by repeat (first | (with_reducible first | exact HB.out | apply below_alloc | apply pw_below_drewN | apply below_drew1) | exact HB.out)) hb); clear HO206; clear HB; have HO206 := n0_; have HO209 := n1_; have HB := n2_; clear n0_ n1_ n2_; (try clear hb); (try clear hb2); (try clear hk); (try clear hi); (try clear ho0); obtain ⟨Ao23, co23, eo23⟩ := Kd.R_slice HO209.out; subst eo23))
                    go_ret3
                    exact ⟨rfl, by repeat (first | (with_reducible first | exact HB.out | apply below_alloc | apply pw_below_drewN | apply below_drew1) | exact HB.out)⟩
                  · rw [if_neg c18] at H
                    have c18b0 : ((t207.length : Int) == (wrap64 ((wrap64 ((-1) - (wrap64 ((wrap64 (rd l0 a1)) - 128)))) + 1))) = false := beq_eq_false_iff_ne.mpr c18
                    have c18b1 : ((t207.length : Int) != (wrap64 ((wrap64 ((-1) - (wrap64 ((wrap64 (rd l0 a1)) - 128)))) + 1))) = true := bne_iff_ne.mpr c18
                    simp only [Option.some.injEq, Prod.mk.injEq] at H
                    obtain ⟨rfl, rfl, rfl⟩ := H
                    have p200 : 0 ≤ (a1 : Int) := of_decide_eq_true (by first | (with_reducible assumption) | assumption)
                    have q200 : a1 < (l0.length : Int) := of_decide_eq_true (by first | (with_reducible assumption) | assumption)
                    obtain ⟨ad200, e200, hx200_0⟩ := Kd.at_int HR0.out a1 p200 q200
                    cases e200
                    replace hx200_0 := (HB.out.cell (World.block_lt_of_cell? w _ hx200_0)).trans hx200_0
                    replace p200 := eq_true p200
                    replace q200 := eq_true q200
                    go_wp2_with (first | ((with_reducible refine gate_callee (f := 119) rfl ?_); refine gL (some 45) Try.func119 #[.slice (some ad200) l0.length c0, .int .i64 (wrap64 (a1 + 1)), .int .i64 (wrap64 ((-1) - (wrap64 ((wrap64 (rd l0 a1)) - 128)))), .bool true] ?_; (with_reducible refine (spec_l4Read.calls kj2 _ _ l0 (wrap64 (a1 + 1)) (wrap64 ((-1) - (wrap64 ((wrap64 (rd l0 a1)) - 128)))) true t201 true _ ?side1 ?side2 A13.out).mono ?_); (case side1 => repeat (first | exact (Kd.C_below HR0.out HB.out) | (with_reducible refine Kd.C_alloc ?_ _) | (with_reducible refine Kd.C_drewN ?_ _) | (with_reducible refine Kd.C_drew ?_))); (case side2 => exact HC0.out); rintro e w' ⟨rfl, ⟨nd, rfl⟩⟩; refine ⟨_, rfl, ?_⟩) | (go_at_call 79; (with_reducible refine (spec_l1In.calls (wrap64 ((-1) - t201)) (-1000000000000000) 1000000000000000 true _ A15.out).mono ?_); rintro e w' ⟨rfl, ⟨nd, rfl⟩⟩) | ((with_reducible refine gate_dst (N := 59) rfl ?_); (try (refine gate_guard (by rfl) ?_; dsimp only)); refine Kd.R_lit (Kd.int .u8) _ 5 ?hg (N := 59) ?hd (xs := ([] : List Int)) (inner := []) (ok := fun _ => True) (okp := fun _ => True) ?hr ?hp (fun _ hk => hk) trivial (Below.refl _ _) (Nat.le_refl _) (by simp) ?_; (case hd => rfl); (case hg => rfl); (case hr => first | (go_simp; done) | (go_simp; rfl)); (case hp => exact (Reps.none _ _)); intro v205 w24 ho25 hb hg_ hnew_; clear hg_ hnew_; (first | rw [← Ny204.out] at ho25 | (simp only [Int.reduceToNat] at ho25; rw [← Ny204.out] at ho25)); have n0_ := Aside0.mk (Kd.R_lower ho25 (below_size (by repeat (first | (with_reducible first | exact HB.out | apply below_alloc | apply pw_below_drewN | apply below_drew1) | exact HB.out)))); have n1_ := Aside0.mk (below_step (by repeat (first | (with_reducible first | exact HB.out | apply below_alloc | apply pw_below_drewN | apply below_drew1) | exact HB.out)) hb); clear HB; have HO206 := n0_; have HB := n1_; clear n0_ n1_; clear hb ho25; obtain ⟨Ao26, co26, eo26⟩ := Kd.R_slice HO206.out; subst eo26) | (go_at_call 95; (with_reducible refine (spec_PutVar.calls kj2 _ _ y204 (wrap64 ((-1) - t201)) t207 _ ?side1 ?side2 A17.out).mono ?_); (case side1 => repeat (first | exact (Kd.R_reads' HO206.out).2.2 | (with_reducible refine Kd.C_alloc ?_ _) | (with_reducible refine Kd.C_drewN ?_ _) | (with_reducible refine Kd.C_drew ?_))); (case side2 => exact (Kd.R_reads' HO206.out).2.1); rintro e w27 ⟨v208, rfl, ho0, hb⟩; have n0_ := Aside0.mk (Kd.R_elder' (by (with_reducible repeat (first | apply Kd.R_alloc | apply Kd.R_drewN | apply Kd.R_drew)); exact HO206.out) (Kd.R_base ho0) hb); have n1_ := Aside0.mk (Kd.R_lower (Kd.R_new' ho0 (Kd.R_lt (by (with_reducible repeat (first | apply Kd.R_alloc | apply Kd.R_drewN | apply Kd.R_drew)); exact HO206.out))) (below_size (by repeat (first | (with_reducible first | exact HB.out | apply below_alloc | apply pw_below_drewN | apply below_drew1) | exact HB.out)))); have n2_ := Aside0.mk (below_step (by repeat (first | (with_reducible first | exact HB.out | apply below_alloc | apply pw_below_drewN | apply below_drew1) | exact HB.out)) hb); clear HO206; clear HB; have HO206 := n0_; have HO209 := n1_; have HB := n2_; clear n0_ n1_ n2_; (try clear hb); (try clear hb2); (try clear hk); (try clear hi); (try clear ho0); obtain ⟨Ao28, co28, eo28⟩ := Kd.R_slice HO209.out; subst eo28))
                    go_ret3
                    exact ⟨rfl, by repeat (first | (with_reducible first | exact HB.out | apply below_alloc | apply pw_below_drewN | apply below_drew1) | exact HB.out)⟩
                · replace c16 := Bool.eq_false_iff.mpr c16
                  subst c16
                  have H1 : (some (0, 0, false)) = some (r1, r2, r3) := by rw [if_neg (show ¬ (false = true) by decide)] at H; exact H
                  clear H
                  have H := H1
                  clear H1
                  simp only [Option.some.injEq, Prod.mk.injEq] at H
                  obtain ⟨rfl, rfl, rfl⟩ := H
                  have p200 : 0 ≤ (a1 : Int) := of_decide_eq_true (by first | (with_reducible assumption) | assumption)
                  have q200 : a1 < (l0.length : Int) := of_decide_eq_true (by first | (with_reducible assumption) | assumption)
                  obtain ⟨ad200, e200, hx200_0⟩ := Kd.at_int HR0.out a1 p200 q200
                  cases e200
                  replace hx200_0 := (HB.out.cell (World.block_lt_of_cell? w _ hx200_0)).trans hx200_0
                  replace p200 := eq_true p200
                  replace q200 := eq_true q200
                  go_wp2_with (first | ((with_reducible refine gate_callee (f := 119) rfl ?_); refine gL (some 45) Try.func119 #[.slice (some ad200) l0.length c0, .int .i64 (wrap64 (a1 + 1)), .int .i64 (wrap64 ((-1) - (wrap64 ((wrap64 (rd l0 a1)) - 128)))), .bool true] ?_; (with_reducible refine (spec_l4Read.calls kj2 _ _ l0 (wrap64 (a1 + 1)) (wrap64 ((-1) - (wrap64 ((wrap64 (rd l0 a1)) - 128)))) true t201 true _ ?side1 ?side2 A13.out).mono ?_); (case side1 => repeat (first | exact (Kd.C_below HR0.out HB.out) | (with_reducible refine Kd.C_alloc ?_ _) | (with_reducible refine Kd.C_drewN ?_ _) | (with_reducible refine Kd.C_drew ?_))); (case side2 => exact HC0.out); rintro e w' ⟨rfl, ⟨nd, rfl⟩⟩; refine ⟨_, rfl, ?_⟩) | (go_at_call 79; (with_reducible refine (spec_l1In.calls (wrap64 ((-1) - t201)) (-1000000000000000) 1000000000000000 false _ A15.out).mono ?_); rintro e w' ⟨rfl, ⟨nd, rfl⟩⟩))
                  go_ret3
                  exact ⟨rfl, by repeat (first | (with_reducible first | exact HB.out | apply below_alloc | apply pw_below_drewN | apply below_drew1) | exact HB.out)⟩
              · replace c14 := Bool.eq_false_iff.mpr c14
                subst c14
                have H1 : (some (0, 0, false)) = some (r1, r2, r3) := by rw [if_neg (show ¬ (false = true) by decide)] at H; exact H
                clear H
                have H := H1
                clear H1
                simp only [Option.some.injEq, Prod.mk.injEq] at H
                obtain ⟨rfl, rfl, rfl⟩ := H
                have p200 : 0 ≤ (a1 : Int) := of_decide_eq_true (by first | (with_reducible assumption) | assumption)
                have q200 : a1 < (l0.length : Int) := of_decide_eq_true (by first | (with_reducible assumption) | assumption)
                obtain ⟨ad200, e200, hx200_0⟩ := Kd.at_int HR0.out a1 p200 q200
                cases e200
                replace hx200_0 := (HB.out.cell (World.block_lt_of_cell? w _ hx200_0)).trans hx200_0
                replace p200 := eq_true p200
                replace q200 := eq_true q200
                go_wp2_with (first | ((with_reducible refine gate_callee (f := 119) rfl ?_); refine gL (some 45) Try.func119 #[.slice (some ad200) l0.length c0, .int .i64 (wrap64 (a1 + 1)), .int .i64 (wrap64 ((-1) - (wrap64 ((wrap64 (rd l0 a1)) - 128)))), .bool true] ?_; (with_reducible refine (spec_l4Read.calls kj2 _ _ l0 (wrap64 (a1 + 1)) (wrap64 ((-1) - (wrap64 ((wrap64 (rd l0 a1)) - 128)))) true t201 false _ ?side1 ?side2 A13.out).mono ?_); (case side1 => exact (Kd.C_below HR0.out HB.out)); (case side2 => exact HC0.out); rintro e w' ⟨rfl, ⟨nd, rfl⟩⟩; refine ⟨_, rfl, ?_⟩))
                go_ret3
                exact ⟨rfl, by repeat (first | (with_reducible first | exact HB.out | apply below_alloc | apply pw_below_drewN | apply below_drew1) | exact HB.out)⟩
            · rw [if_neg c12] at H
              have c12b0 : decide ((wrap64 ((wrap64 (rd l0 a1)) - 128)) < 0) = false := decide_eq_false c12
              clear c12
              replace H := Option.bind_eq_some_iff.mp H
              obtain ⟨⟨t210, t211⟩, A290, H⟩ := H
              replace H : (if t211 = true then ((spec_l1In.f t210 (-1000000000000000) 1000000000000000).bind fun t212 => (if t212 = true then ((spec_PutVar.f kj2 (([] : List Int)) t210).bind fun t216 => (if (t216.length : Int) = (wrap64 ((wrap64 ((wrap64 (rd l0 a1)) - 128)) + 1)) then (some (t210, wrap64 ((wrap64 (a1 + 1)) + (wrap64 ((wrap64 (rd l0 a1)) - 128))), true)) else (some (0, 0, false)))) else (some (0, 0, false)))) else (some (0, 0, false))) = some (r1, r2, r3) := H
              have A29 := Aside0.mk A290
              clear A290
              by_cases c30 : t211 = true
              · subst c30
                have H1 : ((spec_l1In.f t210 (-1000000000000000) 1000000000000000).bind fun t212 => (if t212 = true then ((spec_PutVar.f kj2 (([] : List Int)) t210).bind fun t216 => (if (t216.length : Int) = (wrap64 ((wrap64 ((wrap64 (rd l0 a1)) - 128)) + 1)) then (some (t210, wrap64 ((wrap64 (a1 + 1)) + (wrap64 ((wrap64 (rd l0 a1)) - 128))), true)) else (some (0, 0, false)))) else (some (0, 0, false)))) = some (r1, r2, r3) := by rw [if_pos rfl] at H; exact H
                clear H
                have H := H1
                clear H1
                replace H := Option.bind_eq_some_iff.mp H
                obtain ⟨t212, A310, H⟩ := H
                replace H : (if t212 = true then ((spec_PutVar.f kj2 (([] : List Int)) t210).bind fun t216 => (if (t216.length : Int) = (wrap64 ((wrap64 ((wrap64 (rd l0 a1)) - 128)) + 1)) then (some (t210, wrap64 ((wrap64 (a1 + 1)) + (wrap64 ((wrap64 (rd l0 a1)) - 128))), true)) else (some (0, 0, false)))) else (some (0, 0, false))) = some (r1, r2, r3) := H
                have A31 := Aside0.mk A310
                clear A310
                by_cases c32 : t212 = true
                · subst c32
                  have H1 : ((spec_PutVar.f kj2 (([] : List Int)) t210).bind fun t216 => (if (t216.length : Int) = (wrap64 ((wrap64 ((wrap64 (rd l0 a1)) - 128)) + 1)) then (some (t210, wrap64 ((wrap64 (a1 + 1)) + (wrap64 ((wrap64 (rd l0 a1)) - 128))), true)) else (some (0, 0, false)))) = some (r1, r2, r3) := by rw [if_pos rfl] at H; exact H
                  clear H
                  have H := H1
                  clear H1
                  obtain ⟨y213, hy213⟩ : ∃ y_ : List Int, y_ = (([] : List Int)) := ⟨_, rfl⟩
                  replace H : ((spec_PutVar.f kj2 y213 t210).bind fun t216 => (if (t216.length : Int) = (wrap64 ((wrap64 ((wrap64 (rd l0 a1)) - 128)) + 1)) then (some (t210, wrap64 ((wrap64 (a1 + 1)) + (wrap64 ((wrap64 (rd l0 a1)) - 128))), true)) else (some (0, 0, false)))) = some (r1, r2, r3) := by rw [hy213]; exact H
                  have Ny213 := Aside0.mk hy213
                  clear hy213
                  replace H := Option.bind_eq_some_iff.mp H
                  obtain ⟨t216, A330, H⟩ := H
                  replace H : (if (t216.length : Int) = (wrap64 ((wrap64 ((wrap64 (rd l0 a1)) - 128)) + 1)) then (some (t210, wrap64 ((wrap64 (a1 + 1)) + (wrap64 ((wrap64 (rd l0 a1)) - 128))), true)) else (some (0, 0, false))) = some (r1, r2, r3) := H
                  have A33 := Aside0.mk A330
                  clear A330
                  by_cases c34 : (t216.length : Int) = (wrap64 ((wrap64 ((wrap64 (rd l0 a1)) - 128)) + 1))
                  · rw [if_pos c34] at H
                    have c34b0 : ((t216.length : Int) == (wrap64 ((wrap64 ((wrap64 (rd l0 a1)) - 128)) + 1))) = true := beq_iff_eq.mpr c34
                    have c34b1 : ((t216.length : Int) != (wrap64 ((wrap64 ((wrap64 (rd l0 a1)) - 128)) + 1))) = false := bne_eq_false_iff_eq.mpr c34
                    clear c34
                    simp only [Option.some.injEq, Prod.mk.injEq] at H
                    obtain ⟨rfl, rfl, rfl⟩ := H
                    have p200 : 0 ≤ (a1 : Int) := of_decide_eq_true (by first | (with_reducible assumption) | assumption)
                    have q200 : a1 < (l0.length : Int) := of_decide_eq_true (by first | (with_reducible assumption) | assumption)
                    obtain ⟨ad200, e200, hx200_0⟩ := Kd.at_int HR0.out a1 p200 q200
                    cases e200
                    replace hx200_0 := (HB.out.cell (World.block_lt_of_cell? w _ hx200_0)).trans hx200_0
                    replace p200 := eq_true p200
                    replace q200 := eq_true q200
                    go_wp2_with (first | ((with_reducible refine gate_callee (f := 119) rfl ?_); refine gL (some 45) Try.func119 #[.slice (some ad200) l0.length c0, .int .i64 (wrap64 (a1 + 1)), .int .i64 (wrap64 ((wrap64 (rd l0 a1)) - 128)), .bool false] ?_; (with_reducible refine (spec_l4Read.calls kj2 _ _ l0 (wrap64 (a1 + 1)) (wrap64 ((wrap64 (rd l0 a1)) - 128)) false t210 true _ ?side1 ?side2 A29.out).mono ?_); (case side1 => repeat (first | exact (Kd.C_below HR0.out HB.out) | (with_reducible refine Kd.C_alloc ?_ _) | (with_reducible refine Kd.C_drewN ?_ _) | (with_reducible refine Kd.C_drew ?_))); (case side2 => exact HC0.out); rintro e w' ⟨rfl, ⟨nd, rfl⟩⟩; refine ⟨_, rfl, ?_⟩) | (go_at_call 79; (with_reducible refine (spec_l1In.calls t210 (-1000000000000000) 1000000000000000 true _ A31.out).mono ?_); rintro e w' ⟨rfl, ⟨nd, rfl⟩⟩) | ((with_reducible refine gate_dst (N := 59) rfl ?_); (try (refine gate_guard (by rfl) ?_; dsimp only)); refine Kd.R_lit (Kd.int .u8) _ 5 ?hg (N := 59) ?hd (xs := ([] : List Int)) (inner := []) (ok := fun _ => True) (okp := fun _ => True) ?hr ?hp (fun _ hk => hk) trivial (Below.refl _ _) (Nat.le_refl _) (by simp) ?_; (case hd => rfl); (case hg => rfl); (case hr => first | (go_simp; done) | (go_simp; rfl)); (case hp => exact (Reps.none _ _)); intro v214 w35 ho36 hb hg_ hnew_; clear hg_ hnew_; (first | rw [← Ny213.out] at ho36 | (simp only [Int.reduceToNat] at ho36; rw [← Ny213.out] at ho36)); have n0_ := Aside0.mk (Kd.R_lower ho36 (below_size (by repeat (first | (with_reducible first | exact HB.out | apply below_alloc | apply pw_below_drewN | apply below_drew1) | exact HB.out)))); have n1_ := Aside0.mk (below_step (by repeat (first | (with_reducible first | exact HB.out | apply below_alloc | apply pw_below_drewN | apply below_drew1) | exact HB.out)) hb); clear HB; have HO215 := n0_; have HB := n1_; clear n0_ n1_; clear hb ho36; obtain ⟨Ao37, co37, eo37⟩ := Kd.R_slice HO215.out; subst eo37) | (go_at_call 95; (with_reducible refine (spec_PutVar.calls kj2 _ _ y213 t210 t216 _ ?side1 ?side2 A33.out).mono ?_); (case side1 => repeat (first | exact (Kd.R_reads' HO215.out).2.2 | (with_reducible refine Kd.C_alloc ?_ _) | (with_reducible refine Kd.C_drewN ?_ _) | (with_reducible refine Kd.C_drew ?_))); (case side2 => exact (Kd.R_reads' HO215.out).2.1); rintro e w38 ⟨v217, rfl, ho0, hb⟩; have n0_ := Aside0.mk (Kd.R_elder' (by (with_reducible repeat (first | apply Kd.R_alloc | apply Kd.R_drewN | apply Kd.R_drew)); exact HO215.out) (Kd.R_base ho0) hb); have n1_ := Aside0.mk (Kd.R_lower (Kd.R_new' ho0 (Kd.R_lt (by (with_reducible repeat (first | apply Kd.R_alloc | apply Kd.R_drewN | apply Kd.R_drew)); exact HO215.out))) (below_size (by repeat (first | (with_reducible first | exact HB.out | apply below_alloc | apply pw_below_drewN | apply below_drew1) | exact HB.out)))); have n2_ := Aside0.mk (below_step (by repeat (first | (with_reducible first | exact HB.out | apply below_alloc | apply pw_below_drewN | apply below_drew1) | exact HB.out)) hb); clear HO215; clear HB; have HO215 := n0_; have HO218 := n1_; have HB := n2_; clear n0_ n1_ n2_; (try clear hb); (try clear hb2); (try clear hk); (try clear hi); (try clear ho0); obtain ⟨Ao39, co39, eo39⟩ := Kd.R_slice HO218.out; subst eo39))
                    go_ret3
                    exact ⟨rfl, by repeat (first | (with_reducible first | exact HB.out | apply below_alloc | apply pw_below_drewN | apply below_drew1) | exact HB.out)⟩
                  · rw [if_neg c34] at H
                    have c34b0 : ((t216.length : Int) == (wrap64 ((wrap64 ((wrap64 (rd l0 a1)) - 128)) + 1))) = false := beq_eq_false_iff_ne.mpr c34
                    have c34b1 : ((t216.length : Int) != (wrap64 ((wrap64 ((wrap64 (rd l0 a1)) - 128)) + 1))) = true := bne_iff_ne.mpr c34
                    simp only [Option.some.injEq, Prod.mk.injEq] at H
                    obtain ⟨rfl, rfl, rfl⟩ := H
                    have p200 : 0 ≤ (a1 : Int) := of_decide_eq_true (by first | (with_reducible assumption) | assumption)
                    have q200 : a1 < (l0.length : Int) := of_decide_eq_true (by first | (with_reducible assumption) | assumption)
                    obtain ⟨ad200, e200, hx200_0⟩ := Kd.at_int HR0.out a1 p200 q200
                    cases e200
                    replace hx200_0 := (HB.out.cell (World.block_lt_of_cell? w _ hx200_0)).trans hx200_0
                    replace p200 := eq_true p200
                    replace q200 := eq_true q200
                    go_wp2_with (first | ((with_reducible refine gate_callee (f := 119) rfl ?_); refine gL (some 45) Try.func119 #[.slice (some ad200) l0.length c0, .int .i64 (wrap64 (a1 + 1)), .int .i64 (wrap64 ((wrap64 (rd l0 a1)) - 128)), .bool false] ?_; (with_reducible refine (spec_l4Read.calls kj2 _ _ l0 (wrap64 (a1 + 1)) (wrap64 ((wrap64 (rd l0 a1)) - 128)) false t210 true _ ?side1 ?side2 A29.out).mono ?_); (case side1 => repeat (first | exact (Kd.C_below HR0.out HB.out) | (with_reducible refine Kd.C_alloc ?_ _) | (with_reducible refine Kd.C_drewN ?_ _) | (with_reducible refine Kd.C_drew ?_))); (case side2 => exact HC0.out); rintro e w' ⟨rfl, ⟨nd, rfl⟩⟩; refine ⟨_, rfl, ?_⟩) | (go_at_call 79; (with_reducible refine (spec_l1In.calls t210 (-1000000000000000) 1000000000000000 true _ A31.out).mono ?_); rintro e w' ⟨rfl, ⟨nd, rfl⟩⟩) | ((with_reducible refine gate_dst (N := 59) rfl ?_); (try (refine gate_guard (by rfl) ?_; dsimp only)); refine Kd.R_lit (Kd.int .u8) _ 5 ?hg (N := 59) ?hd (xs := ([] : List Int)) (inner := []) (ok := fun _ => True) (okp := fun _ => True) ?hr ?hp (fun _ hk => hk) trivial (Below.refl _ _) (Nat.le_refl _) (by simp) ?_; (case hd => rfl); (case hg => rfl); (case hr => first | (go_simp; done) | (go_simp; rfl)); (case hp => exact (Reps.none _ _)); intro v214 w40 ho41 hb hg_ hnew_; clear hg_ hnew_; (first | rw [← Ny213.out] at ho41 | (simp only [Int.reduceToNat] at ho41; rw [← Ny213.out] at ho41)); have n0_ := Aside0.mk (Kd.R_lower ho41 (below_size (by repeat (first | (with_reducible first | exact HB.out | apply below_alloc | apply pw_below_drewN | apply below_drew1) | exact HB.out)))); have n1_ := Aside0.mk (below_step (by repeat (first | (with_reducible first | exact HB.out | apply below_alloc | apply pw_below_drewN | apply below_drew1) | exact HB.out)) hb); clear HB; have HO215 := n0_; have HB := n1_; clear n0_ n1_; clear hb ho41; obtain ⟨Ao42, co42, eo42⟩ := Kd.R_slice HO215.out; subst eo42) | (go_at_call 95; (with_reducible refine (spec_PutVar.calls kj2 _ _ y213 t210 t216 _ ?side1 ?side2 A33.out).mono ?_); (case side1 => repeat (first | exact (Kd.R_reads' HO215.out).2.2 | (with_reducible refine Kd.C_alloc ?_ _) | (with_reducible refine Kd.C_drewN ?_ _) | (with_reducible refine Kd.C_drew ?_))); (case side2 => exact (Kd.R_reads' HO215.out).2.1); rintro e w43 ⟨v217, rfl, ho0, hb⟩; have n0_ := Aside0.mk (Kd.R_elder' (by (with_reducible repeat (first | apply Kd.R_alloc | apply Kd.R_drewN | apply Kd.R_drew)); exact HO215.out) (Kd.R_base ho0) hb); have n1_ := Aside0.mk (Kd.R_lower (Kd.R_new' ho0 (Kd.R_lt (by (with_reducible repeat (first | apply Kd.R_alloc | apply Kd.R_drewN | apply Kd.R_drew)); exact HO215.out))) (below_size (by repeat (first | (with_reducible first | exact HB.out | apply below_alloc | apply pw_below_drewN | apply below_drew1) | exact HB.out)))); have n2_ := Aside0.mk (below_step (by repeat (first | (with_reducible first | exact HB.out | apply below_alloc | apply pw_below_drewN | apply below_drew1) | exact HB.out)) hb); clear HO215; clear HB; have HO215 := n0_; have HO218 := n1_; have HB := n2_; clear n0_ n1_ n2_; (try clear hb); (try clear hb2); (try clear hk); (try clear hi); (try clear ho0); obtain ⟨Ao44, co44, eo44⟩ := Kd.R_slice HO218.out; subst eo44))
                    go_ret3
                    exact ⟨rfl, by repeat (first | (with_reducible first | exact HB.out | apply below_alloc | apply pw_below_drewN | apply below_drew1) | exact HB.out)⟩
                · replace c32 := Bool.eq_false_iff.mpr c32
                  subst c32
                  have H1 : (some (0, 0, false)) = some (r1, r2, r3) := by rw [if_neg (show ¬ (false = true) by decide)] at H; exact H
                  clear H
                  have H := H1
                  clear H1
                  simp only [Option.some.injEq, Prod.mk.injEq] at H
                  obtain ⟨rfl, rfl, rfl⟩ := H
                  have p200 : 0 ≤ (a1 : Int) := of_decide_eq_true (by first | (with_reducible assumption) | assumption)
                  have q200 : a1 < (l0.length : Int) := of_decide_eq_true (by first | (with_reducible assumption) | assumption)
                  obtain ⟨ad200, e200, hx200_0⟩ := Kd.at_int HR0.out a1 p200 q200
                  cases e200
                  replace hx200_0 := (HB.out.cell (World.block_lt_of_cell? w _ hx200_0)).trans hx200_0
                  replace p200 := eq_true p200
                  replace q200 := eq_true q200
                  go_wp2_with (first | ((with_reducible refine gate_callee (f := 119) rfl ?_); refine gL (some 45) Try.func119 #[.slice (some ad200) l0.length c0, .int .i64 (wrap64 (a1 + 1)), .int .i64 (wrap64 ((wrap64 (rd l0 a1)) - 128)), .bool false] ?_; (with_reducible refine (spec_l4Read.calls kj2 _ _ l0 (wrap64 (a1 + 1)) (wrap64 ((wrap64 (rd l0 a1)) - 128)) false t210 true _ ?side1 ?side2 A29.out).mono ?_); (case side1 => repeat (first | exact (Kd.C_below HR0.out HB.out) | (with_reducible refine Kd.C_alloc ?_ _) | (with_reducible refine Kd.C_drewN ?_ _) | (with_reducible refine Kd.C_drew ?_))); (case side2 => exact HC0.out); rintro e w' ⟨rfl, ⟨nd, rfl⟩⟩; refine ⟨_, rfl, ?_⟩) | (go_at_call 79; (with_reducible refine (spec_l1In.calls t210 (-1000000000000000) 1000000000000000 false _ A31.out).mono ?_); rintro e w' ⟨rfl, ⟨nd, rfl⟩⟩))
                  go_ret3
                  exact ⟨rfl, by repeat (first | (with_reducible first | exact HB.out | apply below_alloc | apply pw_below_drewN | apply below_drew1) | exact HB.out)⟩
              · replace c30 := Bool.eq_false_iff.mpr c30
                subst c30
                have H1 : (some (0, 0, false)) = some (r1, r2, r3) := by rw [if_neg (show ¬ (false = true) by decide)] at H; exact H
                clear H
                have H := H1
                clear H1
                simp only [Option.some.injEq, Prod.mk.injEq] at H
                obtain ⟨rfl, rfl, rfl⟩ := H
                have p200 : 0 ≤ (a1 : Int) := of_decide_eq_true (by first | (with_reducible assumption) | assumption)
                have q200 : a1 < (l0.length : Int) := of_decide_eq_true (by first | (with_reducible assumption) | assumption)
                obtain ⟨ad200, e200, hx200_0⟩ := Kd.at_int HR0.out a1 p200 q200
                cases e200
                replace hx200_0 := (HB.out.cell (World.block_lt_of_cell? w _ hx200_0)).trans hx200_0
                replace p200 := eq_true p200
                replace q200 := eq_true q200
                go_wp2_with (first | ((with_reducible refine gate_callee (f := 119) rfl ?_); refine gL (some 45) Try.func119 #[.slice (some ad200) l0.length c0, .int .i64 (wrap64 (a1 + 1)), .int .i64 (wrap64 ((wrap64 (rd l0 a1)) - 128)), .bool false] ?_; (with_reducible refine (spec_l4Read.calls kj2 _ _ l0 (wrap64 (a1 + 1)) (wrap64 ((wrap64 (rd l0 a1)) - 128)) false t210 false _ ?side1 ?side2 A29.out).mono ?_); (case side1 => exact (Kd.C_below HR0.out HB.out)); (case side2 => exact HC0.out); rintro e w' ⟨rfl, ⟨nd, rfl⟩⟩; refine ⟨_, rfl, ?_⟩))
                go_ret3
                exact ⟨rfl, by repeat (first | (with_reducible first | exact HB.out | apply below_alloc | apply pw_below_drewN | apply below_drew1) | exact HB.out)⟩
          · rw [if_neg c11] at H
            exact absurd H (by simp)
        · rw [if_neg c10] at H
          exact absurd H (by simp)

end Go.Proofs.Ytnfmpopmigbkoaa.PFnExactDecodeKey

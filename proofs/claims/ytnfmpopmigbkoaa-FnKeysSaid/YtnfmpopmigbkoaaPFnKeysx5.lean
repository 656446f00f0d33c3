-- Written by mkprint.py, a program of this session (the printer with additions of its own)
import Derived.Test.YtnfmpopmigbkoaaPFnKeysx0
import Derived.Test.YtnfmpopmigbkoaaPFnKeysx2
import Derived.Test.YtnfmpopmigbkoaaPFnKeysx3
import Derived.Test.YtnfmpopmigbkoaaPFnKeysx4
namespace Go.Proofs.Ytnfmpopmigbkoaa.PFnKeys
open Go.RowKit Go.Proofs.YtnfmpopmigbkoaaW.PrintWords Go.Proofs.YtnfmpopmigbkoaaW.PrintLast Go.Proofs.YtnfmpopmigbkoaaW.PrintMore
attribute [local go_sem] max2_int min2_int max_two min_two max_three min_three max_four min_four   -- for this text's walks alone
set_option linter.unusedVariables false
set_option linter.unusedSimpArgs false

/-! ### impl_addPart: function 69 -/
mutual
def impl_addPart.j0 : Nat → List Int → Bool → Int → Int → Bool → Bool → Int → Int → ByteArray → Option (List Int)
  | 0, _, _, _, _, _, _, _, _, _ => none
  | k + 1, x0, x16, x163000, x163001, x163002, x163003, x164000, x164001, x164002 => if x16 = true then (some x0) else (if x163002 = true then (impl_addPart.j1 k x0 (x0.length : Int) (x164000 == 0) x163000 x163001 x163002 x163003 x164000 x164001 x164002) else (impl_addPart.j1 k x0 (x0.length : Int) false x163000 x163001 x163002 x163003 x164000 x164001 x164002))
def impl_addPart.j1 : Nat → List Int → Int → Bool → Int → Int → Bool → Bool → Int → Int → ByteArray → Option (List Int)
  | 0, _, _, _, _, _, _, _, _, _, _ => none
  | k + 1, x0, x7, x26, x163000, x163001, x163002, x163003, x164000, x164001, x164002 => if x26 = true then (if x0.length < 140737488355328 then (impl_addPart.j2 k (x0 ++ [0]) x7 x163000 x163001 x163002 x163003 x164000 x164001 x164002) else (none)) else (if x163002 = true then (if x0.length < 140737488355328 then (impl_addPart.j2 k (x0 ++ [1]) x7 x163000 x163001 x163002 x163003 x164000 x164001 x164002) else (none)) else (impl_addPart.j2 k x0 x7 x163000 x163001 x163002 x163003 x164000 x164001 x164002))
def impl_addPart.j2 : Nat → List Int → Int → Int → Int → Bool → Bool → Int → Int → ByteArray → Option (List Int)
  | 0, _, _, _, _, _, _, _, _, _ => none
  | k + 1, x0, x7, x163000, x163001, x163002, x163003, x164000, x164001, x164002 => if x164000 = 1 then ((impl_addFix.f k x0 x164001).bind fun t172 => (if x163003 = true then ((impl_Flip.f k t172 x7).bind fun t175 => (some t175)) else (some t172))) else (if x164000 = 2 then ((impl_addVar.f k x0 x164001).bind fun t178 => (if x163003 = true then ((impl_Flip.f k t178 x7).bind fun t181 => (some t181)) else (some t178))) else (if x164000 = 3 then ((impl_addEsc.f k x0 x164002).bind fun t184 => (if x163003 = true then ((impl_Flip.f k t184 x7).bind fun t187 => (some t187)) else (some t184))) else (if x164000 = 4 then (if x0.length < 140737488355328 then ((some (x0 ++ [(x164001) % 256] : List Int)).bind fun y190 => (if x163003 = true then ((impl_Flip.f k y190 x7).bind fun t193 => (some t193)) else (some y190))) else (none)) else (if x163003 = true then ((impl_Flip.f k x0 x7).bind fun t196 => (some t196)) else (some x0)))))
end
def impl_addPart.f (k : Nat) (l0 : List Int) (a1_0 : Int) (a1_1 : Int) (a1_2 : Bool) (a1_3 : Bool) (a2_0 : Int) (a2_1 : Int) (a2_2 : ByteArray) : Option (List Int) := (impl_PartOk.f a1_0 a1_1 a1_2 a1_3).bind fun t164 => (if t164 = true then ((impl_Fits.f a1_0 a1_1 a1_2 a1_3 a2_0 a2_1 a2_2).bind fun t165 => (impl_addPart.j0 k l0 (!t165) a1_0 a1_1 a1_2 a1_3 a2_0 a2_1 a2_2)) else (impl_addPart.j0 k l0 true a1_0 a1_1 a1_2 a1_3 a2_0 a2_1 a2_2))
theorem impl_addPart.mono_l : ∀ k, (∀ y0 y1 y2 y3 y4 y5 y6 y7 y8, LeO (impl_addPart.j0 k y0 y1 y2 y3 y4 y5 y6 y7 y8) (impl_addPart.j0 (k + 1) y0 y1 y2 y3 y4 y5 y6 y7 y8)) ∧ (∀ y0 y1 y2 y3 y4 y5 y6 y7 y8 y9, LeO (impl_addPart.j1 k y0 y1 y2 y3 y4 y5 y6 y7 y8 y9) (impl_addPart.j1 (k + 1) y0 y1 y2 y3 y4 y5 y6 y7 y8 y9)) ∧ (∀ y0 y1 y2 y3 y4 y5 y6 y7 y8, LeO (impl_addPart.j2 k y0 y1 y2 y3 y4 y5 y6 y7 y8) (impl_addPart.j2 (k + 1) y0 y1 y2 y3 y4 y5 y6 y7 y8))
  | 0 => ⟨fun _ _ _ _ _ _ _ _ _ r h => by simp [impl_addPart.j0] at h, fun _ _ _ _ _ _ _ _ _ _ r h => by simp [impl_addPart.j1] at h, fun _ _ _ _ _ _ _ _ _ r h => by simp [impl_addPart.j2] at h⟩
  | k + 1 => by
    obtain ⟨ih0, ih1, ih2⟩ := impl_addPart.mono_l k
    refine ⟨?_, ?_, ?_⟩
    · intro y0 y1 y2 y3 y4 y5 y6 y7 y8
      unfold impl_addPart.j0
      repeat' first
      | (with_reducible exact ih0 _ _ _ _ _ _ _ _ _)
      | (with_reducible exact ih1 _ _ _ _ _ _ _ _ _ _)
      | (with_reducible exact ih2 _ _ _ _ _ _ _ _ _)
      | (with_reducible exact impl_Flip.mono _ _ _)
      | (with_reducible exact impl_addEsc.mono _ _ _)
      | (with_reducible exact impl_addFix.mono _ _ _)
      | (with_reducible exact impl_addVar.mono _ _ _)
      | (with_reducible exact LeO.refl _)
      | (with_reducible exact LeO.none _)
      | (with_reducible refine LeO.ite ?_ ?_)
      | (with_reducible refine LeO.bind ?_ (fun _ => ?_))
      | exact ih0 _ _ _ _ _ _ _ _ _
      | exact ih1 _ _ _ _ _ _ _ _ _ _
      | exact ih2 _ _ _ _ _ _ _ _ _
      | exact impl_Flip.mono _ _ _
      | exact impl_addEsc.mono _ _ _
      | exact impl_addFix.mono _ _ _
      | exact impl_addVar.mono _ _ _
      | exact LeO.none _
      | refine LeO.ite ?_ ?_
      | refine LeO.bind ?_ (fun _ => ?_)
    · intro y0 y1 y2 y3 y4 y5 y6 y7 y8 y9
      unfold impl_addPart.j1
      repeat' first
      | (with_reducible exact ih0 _ _ _ _ _ _ _ _ _)
      | (with_reducible exact ih1 _ _ _ _ _ _ _ _ _ _)
      | (with_reducible exact ih2 _ _ _ _ _ _ _ _ _)
      | (with_reducible exact impl_Flip.mono _ _ _)
      | (with_reducible exact impl_addEsc.mono _ _ _)
      | (with_reducible exact impl_addFix.mono _ _ _)
      | (with_reducible exact impl_addVar.mono _ _ _)
      | (with_reducible exact LeO.refl _)
      | (with_reducible exact LeO.none _)
      | (with_reducible refine LeO.ite ?_ ?_)
      | (with_reducible refine LeO.bind ?_ (fun _ => ?_))
      | exact ih0 _ _ _ _ _ _ _ _ _
      | exact ih1 _ _ _ _ _ _ _ _ _ _
      | exact ih2 _ _ _ _ _ _ _ _ _
      | exact impl_Flip.mono _ _ _
      | exact impl_addEsc.mono _ _ _
      | exact impl_addFix.mono _ _ _
      | exact impl_addVar.mono _ _ _
      | exact LeO.none _
      | refine LeO.ite ?_ ?_
      | refine LeO.bind ?_ (fun _ => ?_)
    · intro y0 y1 y2 y3 y4 y5 y6 y7 y8
      unfold impl_addPart.j2
      repeat' first
      | (with_reducible exact ih0 _ _ _ _ _ _ _ _ _)
      | (with_reducible exact ih1 _ _ _ _ _ _ _ _ _ _)
      | (with_reducible exact ih2 _ _ _ _ _ _ _ _ _)
      | (with_reducible exact impl_Flip.mono _ _ _)
      | (with_reducible exact impl_addEsc.mono _ _ _)
      | (with_reducible exact impl_addFix.mono _ _ _)
      | (with_reducible exact impl_addVar.mono _ _ _)
      | (with_reducible exact LeO.refl _)
      | (with_reducible exact LeO.none _)
      | (with_reducible refine LeO.ite ?_ ?_)
      | (with_reducible refine LeO.bind ?_ (fun _ => ?_))
      | exact ih0 _ _ _ _ _ _ _ _ _
      | exact ih1 _ _ _ _ _ _ _ _ _ _
      | exact ih2 _ _ _ _ _ _ _ _ _
      | exact impl_Flip.mono _ _ _
      | exact impl_addEsc.mono _ _ _
      | exact impl_addFix.mono _ _ _
      | exact impl_addVar.mono _ _ _
      | exact LeO.none _
      | refine LeO.ite ?_ ?_
      | refine LeO.bind ?_ (fun _ => ?_)
theorem impl_addPart.mono : ∀ a0 a1 a2 a3 a4 a5 a6 a7 k, LeO (impl_addPart.f k a0 a1 a2 a3 a4 a5 a6 a7) (impl_addPart.f (k + 1) a0 a1 a2 a3 a4 a5 a6 a7) := by
  intro a0 a1 a2 a3 a4 a5 a6 a7 k
  obtain ⟨ih0, ih1, ih2⟩ := impl_addPart.mono_l k
  unfold impl_addPart.f
  repeat' first
      | (with_reducible exact ih0 _ _ _ _ _ _ _ _ _)
      | (with_reducible exact ih1 _ _ _ _ _ _ _ _ _ _)
      | (with_reducible exact ih2 _ _ _ _ _ _ _ _ _)
      | (with_reducible exact impl_Flip.mono _ _ _)
      | (with_reducible exact impl_addEsc.mono _ _ _)
      | (with_reducible exact impl_addFix.mono _ _ _)
      | (with_reducible exact impl_addVar.mono _ _ _)
      | (with_reducible exact LeO.refl _)
      | (with_reducible exact LeO.none _)
      | (with_reducible refine LeO.ite ?_ ?_)
      | (with_reducible refine LeO.bind ?_ (fun _ => ?_))
      | exact ih0 _ _ _ _ _ _ _ _ _
      | exact ih1 _ _ _ _ _ _ _ _ _ _
      | exact ih2 _ _ _ _ _ _ _ _ _
      | exact impl_Flip.mono _ _ _
      | exact impl_addEsc.mono _ _ _
      | exact impl_addFix.mono _ _ _
      | exact impl_addVar.mono _ _ _
      | exact LeO.none _
      | refine LeO.ite ?_ ?_
      | refine LeO.bind ?_ (fun _ => ?_)
set_option maxHeartbeats 8000000 in
set_option maxRecDepth 100000 in
theorem impl_addPart.calls (k : Nat) (P0_ : Nat → Prop) (u9000_ : Value) (l0 : List Int) (a1_0 : Int) (a1_1 : Int) (a1_2 : Bool) (a1_3 : Bool) (a2_0 : Int) (a2_1 : Int) (a2_2 : ByteArray) (r : List Int) (w0 w : World) (hB : Below w0.heap.size w0 w) (ho0 : Kd.R (Kd.int .u8) 5 w w0.heap.size P0_ u9000_ l0) (h : impl_addPart.f k l0 a1_0 a1_1 a1_2 a1_3 a2_0 a2_1 a2_2 = some r) :
    Calls Try.prog 69 #[u9000_, .agg #[.int .i64 a1_0, .int .i64 a1_1, .bool a1_2, .bool a1_3], .agg #[.int .i64 a2_0, .int .i64 a2_1, .string a2_2]] w fun e w' => ∃ v0_ : Value, e = .returned (v0_) ∧ Kd.R (Kd.int .u8) 5 w' w0.heap.size (fun k_ => (P0_ k_ ∨ w.heap.size ≤ k_)) v0_ r ∧ Below w0.heap.size w0 w' ∧ Kept w w' (fun k_ => P0_ k_) := by
  have hu30 := Try.underlying30
  have hu32 := Try.underlying32
  have HO0 := Aside0.mk (show Kd.R (Kd.int .u8) 5 w w0.heap.size (fun k_ => (P0_ k_ ∨ w.heap.size ≤ k_)) u9000_ l0 from Kd.R_mono ho0 (fun k_ hk => (.inl hk)))
  have HK := Aside0.mk (Kept.refl w (fun k_ => P0_ k_))
  have HW0 := Aside0.mk hB.size
  have HB := Aside0.mk hB
  clear hB
  have H : ((impl_PartOk.f a1_0 a1_1 a1_2 a1_3).bind fun t164 => (if t164 = true then ((impl_Fits.f a1_0 a1_1 a1_2 a1_3 a2_0 a2_1 a2_2).bind fun t165 => (impl_addPart.j0 k l0 (!t165) a1_0 a1_1 a1_2 a1_3 a2_0 a2_1 a2_2)) else (impl_addPart.j0 k l0 true a1_0 a1_1 a1_2 a1_3 a2_0 a2_1 a2_2))) = some r := h
  clear h
  have HC4 := Aside0.mk H
  clear H
  go_enter Try.func69, Try.ntmps69
  go_upto_region 1 with (first | ((with_reducible refine gate_dst (N := 4) rfl ?_); refine box_event ?hg (N := 4) ?hd (cs := #[.int .i64 a1_0, .int .i64 a1_1, .bool a1_2, .bool a1_3]) (t := 30) ?hr ?_; (case hd => rfl); (case hg => rfl); (case hr => first | (go_simp; done) | (go_simp; rfl)); intro gb162 hg w5 hbox hb; have n0_ := Aside0.mk (Kd.R_below HO0.out hb); have n1_ := Aside0.mk (Kept.below (S := (fun k_ => P0_ k_)) HK.out hb); have n2_ := Aside0.mk (below_step HB.out hb); have n3_ := Aside0.mk (hbox); have n4_ := Aside0.mk ((by rw [hg]; exact (by first | exact HK.out.1 | exact (show Kept w _ (fun k_ => P0_ k_) from by repeat (first | (with_reducible first | exact HK.out | apply Kept.alloc | apply Kept.drewN | apply Kept.drew) | exact HK.out)).1) : w.heap.size ≤ gb162)); have n5_ := Aside0.mk ((by rw [hg]; exact (below_size HB.out) : w0.heap.size ≤ gb162)); clear HO0 HK HB; have HO0 := n0_; have HK := n1_; have HB := n2_; have BK162 := n3_; have GW162 := n4_; have GE162 := n5_; clear n0_ n1_ n2_ n3_ n4_ n5_; clear hb hbox hg) | ((with_reducible refine gate_dst (N := 5) rfl ?_); refine box_event ?hg (N := 5) ?hd (cs := #[.int .i64 a2_0, .int .i64 a2_1, .string a2_2]) (t := 32) ?hr ?_; (case hd => rfl); (case hg => rfl); (case hr => first | (go_simp; done) | (go_simp; rfl)); intro gb163 hg w6 hbox hb; have n0_ := Aside0.mk (Kd.R_below HO0.out hb); have n1_ := Aside0.mk (blk_below BK162.out hb); have n2_ := Aside0.mk (Kept.below (S := (fun k_ => P0_ k_)) HK.out hb); have n3_ := Aside0.mk (below_step HB.out hb); have n4_ := Aside0.mk (hbox); have n5_ := Aside0.mk ((by rw [hg]; exact (by first | exact HK.out.1 | exact (show Kept w _ (fun k_ => P0_ k_) from by repeat (first | (with_reducible first | exact HK.out | apply Kept.alloc | apply Kept.drewN | apply Kept.drew | refine Kept.setCell ?_ (.inr GW162.out) _) | exact HK.out)).1) : w.heap.size ≤ gb163)); have n6_ := Aside0.mk ((by rw [hg]; exact (below_size HB.out) : w0.heap.size ≤ gb163)); have n7_ := Aside0.mk ((by rw [hg]; exact Nat.ne_of_lt (blk_lt BK162.out) : gb162 ≠ gb163)); have n8_ := Aside0.mk ((by rw [hg]; exact Nat.ne_of_gt (blk_lt BK162.out) : gb163 ≠ gb162)); clear HO0 BK162 HK HB; have HO0 := n0_; have BK162 := n1_; have HK := n2_; have HB := n3_; have BK163 := n4_; have GW163 := n5_; have GE163 := n6_; have NB162_163 := n7_; have NB163_162 := n8_; clear n0_ n1_ n2_ n3_ n4_ n5_ n6_ n7_ n8_; clear hb hbox hg))
  (try simp only [Act.put, List.setIfInBounds_toArray, List.set_cons_zero, List.set_cons_succ])
  go_cut [16] (fun v16 wc => ∃ (kq : Nat) (x16_3 : Bool), v16 = .bool x16_3 ∧ Aside0 (impl_addPart.j0 kq l0 x16_3 a1_0 a1_1 a1_2 a1_3 a2_0 a2_1 a2_2 = some r) ∧ Aside0 (kq ≤ k) ∧ Aside0 (Kd.R (Kd.int .u8) 5 wc w0.heap.size (fun k_ => (P0_ k_ ∨ w.heap.size ≤ k_)) u9000_ l0) ∧ Aside0 (wc.heap[gb162]? = some (.cells #[.int .i64 a1_0, .int .i64 a1_1, .bool a1_2, .bool a1_3] 30 (0, 0))) ∧ Aside0 (wc.heap[gb163]? = some (.cells #[.int .i64 a2_0, .int .i64 a2_1, .string a2_2] 32 (0, 0))) ∧ Aside0 (Kept w wc (fun k_ => P0_ k_)) ∧ Aside0 (Below w0.heap.size w0 wc))
  case first =>
    have H := HC4.out
    clear HC4
    replace H := Option.bind_eq_some_iff.mp H
    obtain ⟨t164, A70, H⟩ := H
    replace H : (if t164 = true then ((impl_Fits.f a1_0 a1_1 a1_2 a1_3 a2_0 a2_1 a2_2).bind fun t165 => (impl_addPart.j0 k l0 (!t165) a1_0 a1_1 a1_2 a1_3 a2_0 a2_1 a2_2)) else (impl_addPart.j0 k l0 true a1_0 a1_1 a1_2 a1_3 a2_0 a2_1 a2_2)) = some r := H
    have A7 := Aside0.mk A70
    clear A70
    by_cases c8 : t164 = true
    · subst c8
      have H1 : ((impl_Fits.f a1_0 a1_1 a1_2 a1_3 a2_0 a2_1 a2_2).bind fun t165 => (impl_addPart.j0 k l0 (!t165) a1_0 a1_1 a1_2 a1_3 a2_0 a2_1 a2_2)) = some r := by rw [if_pos rfl] at H; exact H
      clear H
      have H := H1
      clear H1
      replace H := Option.bind_eq_some_iff.mp H
      obtain ⟨t165, A90, H⟩ := H
      replace H : (impl_addPart.j0 k l0 (!t165) a1_0 a1_1 a1_2 a1_3 a2_0 a2_1 a2_2) = some r := H
      have A9 := Aside0.mk A90
      clear A90
      have H' := Aside0.mk H
      clear H
      have hnb10 := NB162_163.out
      have hnc10 := NB163_162.out
      have hcz11_0 : w6.cell? ⟨gb162, 0, none⟩ = some (.int .i64 a1_0) := (blk_cell BK162.out 0).trans rfl
      have hcz11_1 : w6.cell? ⟨gb162, 1, none⟩ = some (.int .i64 a1_1) := (blk_cell BK162.out 1).trans rfl
      have hcz11_2 : w6.cell? ⟨gb162, 2, none⟩ = some (.bool a1_2) := (blk_cell BK162.out 2).trans rfl
      have hcz11_3 : w6.cell? ⟨gb162, 3, none⟩ = some (.bool a1_3) := (blk_cell BK162.out 3).trans rfl
      have hfz11_0 := blk_frozen BK162.out 0
      have hfz11_1 := blk_frozen BK162.out 1
      have hfz11_2 := blk_frozen BK162.out 2
      have hfz11_3 := blk_frozen BK162.out 3
      go_wp2_with (first | ((with_reducible refine gate_callee (f := 30) rfl ?_); refine gL (some 9) Try.func30 #[.agg #[.int .i64 a1_0, .int .i64 a1_1, .bool a1_2, .bool a1_3]] ?_; (with_reducible refine (impl_PartOk.calls a1_0 a1_1 a1_2 a1_3 true _ A7.out).mono ?_); rintro e w12 ⟨rfl, hb⟩; refine ⟨_, rfl, ?_⟩; have n0_ := Aside0.mk (Kd.R_below HO0.out hb); have n1_ := Aside0.mk (blk_below BK162.out hb); have n2_ := Aside0.mk (blk_below BK163.out hb); have n3_ := Aside0.mk (Kept.below (S := (fun k_ => P0_ k_)) HK.out hb); have n4_ := Aside0.mk (below_step HB.out hb); clear HO0 BK162 BK163 HK HB; have HO0 := n0_; have BK162 := n1_; have BK163 := n2_; have HK := n3_; have HB := n4_; clear n0_ n1_ n2_ n3_ n4_; have hcz13_0 : w12.cell? ⟨gb162, 0, none⟩ = some (.int .i64 a1_0) := (blk_cell BK162.out 0).trans rfl; have hcz13_1 : w12.cell? ⟨gb162, 1, none⟩ = some (.int .i64 a1_1) := (blk_cell BK162.out 1).trans rfl; have hcz13_2 : w12.cell? ⟨gb162, 2, none⟩ = some (.bool a1_2) := (blk_cell BK162.out 2).trans rfl; have hcz13_3 : w12.cell? ⟨gb162, 3, none⟩ = some (.bool a1_3) := (blk_cell BK162.out 3).trans rfl; have hfz13_0 := blk_frozen BK162.out 0; have hfz13_1 := blk_frozen BK162.out 1; have hfz13_2 := blk_frozen BK162.out 2; have hfz13_3 := blk_frozen BK162.out 3; have hcz14_0 : w12.cell? ⟨gb163, 0, none⟩ = some (.int .i64 a2_0) := (blk_cell BK163.out 0).trans rfl; have hcz14_1 : w12.cell? ⟨gb163, 1, none⟩ = some (.int .i64 a2_1) := (blk_cell BK163.out 1).trans rfl; have hcz14_2 : w12.cell? ⟨gb163, 2, none⟩ = some (.string a2_2) := (blk_cell BK163.out 2).trans rfl; have hfz14_0 := blk_frozen BK163.out 0; have hfz14_1 := blk_frozen BK163.out 1; have hfz14_2 := blk_frozen BK163.out 2) | (go_at_call 31; (with_reducible refine (impl_Fits.calls a1_0 a1_1 a1_2 a1_3 a2_0 a2_1 a2_2 t165 _ A9.out).mono ?_); rintro e w15 ⟨rfl, hb⟩; have n0_ := Aside0.mk (Kd.R_below HO0.out hb); have n1_ := Aside0.mk (blk_below BK162.out hb); have n2_ := Aside0.mk (blk_below BK163.out hb); have n3_ := Aside0.mk (Kept.below (S := (fun k_ => P0_ k_)) HK.out hb); have n4_ := Aside0.mk (below_step HB.out hb); clear HO0 BK162 BK163 HK HB; have HO0 := n0_; have BK162 := n1_; have BK163 := n2_; have HK := n3_; have HB := n4_; clear n0_ n1_ n2_ n3_ n4_))
      go_meet
      case rel => exact ⟨_, (!t165), (by first | rfl | (simp; done) | (simp [*]; done)), H', ⟨by first | omega | exact Nat.le_refl _⟩, ⟨by (with_reducible repeat (first | apply Kd.R_alloc | apply Kd.R_drewN | apply Kd.R_drew)); exact HO0.out⟩, ⟨by (with_reducible repeat (first | refine blk_drewN ?_ _ | refine blk_drew ?_ | refine blk_alloc ?_ _)); exact BK162.out⟩, ⟨by (with_reducible repeat (first | refine blk_drewN ?_ _ | refine blk_drew ?_ | refine blk_alloc ?_ _)); exact BK163.out⟩, ⟨by repeat (first | (with_reducible first | exact HK.out | apply Kept.alloc | apply Kept.drewN | apply Kept.drew | refine Kept.setCell ?_ (.inr GW162.out) _ | refine Kept.setCell ?_ (.inr GW163.out) _) | exact HK.out)⟩, ⟨by repeat (first | (with_reducible first | exact HB.out | apply below_alloc | apply pw_below_drewN | apply below_drew1 | refine below_set ?_ GE162.out | refine below_set ?_ GE163.out) | exact HB.out)⟩⟩
    · replace c8 := Bool.eq_false_iff.mpr c8
      subst c8
      have H1 : (impl_addPart.j0 k l0 true a1_0 a1_1 a1_2 a1_3 a2_0 a2_1 a2_2) = some r := by rw [if_neg (show ¬ (false = true) by decide)] at H; exact H
      clear H
      have H := H1
      clear H1
      have H' := Aside0.mk H
      clear H
      have hnb16 := NB162_163.out
      have hnc16 := NB163_162.out
      have hcz17_0 : w6.cell? ⟨gb162, 0, none⟩ = some (.int .i64 a1_0) := (blk_cell BK162.out 0).trans rfl
      have hcz17_1 : w6.cell? ⟨gb162, 1, none⟩ = some (.int .i64 a1_1) := (blk_cell BK162.out 1).trans rfl
      have hcz17_2 : w6.cell? ⟨gb162, 2, none⟩ = some (.bool a1_2) := (blk_cell BK162.out 2).trans rfl
      have hcz17_3 : w6.cell? ⟨gb162, 3, none⟩ = some (.bool a1_3) := (blk_cell BK162.out 3).trans rfl
      have hfz17_0 := blk_frozen BK162.out 0
      have hfz17_1 := blk_frozen BK162.out 1
      have hfz17_2 := blk_frozen BK162.out 2
      have hfz17_3 := blk_frozen BK162.out 3
      go_wp2_with (first | ((with_reducible refine gate_callee (f := 30) rfl ?_); refine gL (some 9) Try.func30 #[.agg #[.int .i64 a1_0, .int .i64 a1_1, .bool a1_2, .bool a1_3]] ?_; (with_reducible refine (impl_PartOk.calls a1_0 a1_1 a1_2 a1_3 false _ A7.out).mono ?_); rintro e w18 ⟨rfl, hb⟩; refine ⟨_, rfl, ?_⟩; have n0_ := Aside0.mk (Kd.R_below HO0.out hb); have n1_ := Aside0.mk (blk_below BK162.out hb); have n2_ := Aside0.mk (blk_below BK163.out hb); have n3_ := Aside0.mk (Kept.below (S := (fun k_ => P0_ k_)) HK.out hb); have n4_ := Aside0.mk (below_step HB.out hb); clear HO0 BK162 BK163 HK HB; have HO0 := n0_; have BK162 := n1_; have BK163 := n2_; have HK := n3_; have HB := n4_; clear n0_ n1_ n2_ n3_ n4_))
      go_meet
      case rel => exact ⟨_, (true), (by first | rfl | (simp; done) | (simp [*]; done)), H', ⟨by first | omega | exact Nat.le_refl _⟩, ⟨by (with_reducible repeat (first | apply Kd.R_alloc | apply Kd.R_drewN | apply Kd.R_drew)); exact HO0.out⟩, ⟨by (with_reducible repeat (first | refine blk_drewN ?_ _ | refine blk_drew ?_ | refine blk_alloc ?_ _)); exact BK162.out⟩, ⟨by (with_reducible repeat (first | refine blk_drewN ?_ _ | refine blk_drew ?_ | refine blk_alloc ?_ _)); exact BK163.out⟩, ⟨by repeat (first | (with_reducible first | exact HK.out | apply Kept.alloc | apply Kept.drewN | apply Kept.drew | refine Kept.setCell ?_ (.inr GW162.out) _ | refine Kept.setCell ?_ (.inr GW163.out) _) | exact HK.out)⟩, ⟨by repeat (first | (with_reducible first | exact HB.out | apply below_alloc | apply pw_below_drewN | apply below_drew1 | refine below_set ?_ GE162.out | refine below_set ?_ GE163.out) | exact HB.out)⟩⟩
  case rest =>
    clear HC4
    try clear c1
    try clear p2
    try clear c3
    try clear c6
    try clear c8
    try clear c10
    try clear c16
    try clear hcz11_0
    try clear hcz11_1
    try clear hcz11_2
    try clear hcz11_3
    try clear hcz13_0
    try clear hcz13_1
    try clear hcz13_2
    try clear hcz13_3
    try clear hcz14_0
    try clear hcz14_1
    try clear hcz14_2
    try clear hcz17_0
    try clear hcz17_1
    try clear hcz17_2
    try clear hcz17_3
    try clear hfz11_0
    try clear hfz11_1
    try clear hfz11_2
    try clear hfz11_3
    try clear hfz13_0
    try clear hfz13_1
    try clear hfz13_2
    try clear hfz13_3
    try clear hfz14_0
    try clear hfz14_1
    try clear hfz14_2
    try clear hfz17_0
    try clear hfz17_1
    try clear hfz17_2
    try clear hfz17_3
    obtain ⟨kq, x16_3, rfl, HA, HJ3, HO_0, BK162, BK163, HK, HB⟩ := hcut
    cases kq with
    | zero => exact absurd HA.out (by simp [impl_addPart.j0])
    | succ kj3 =>
      have H := HA.out
      clear HA
      simp only [impl_addPart.j0] at H
      by_cases c19 : x16_3 = true
      · subst c19
        have H1 : (some l0) = some r := by rw [if_pos rfl] at H; exact H
        clear H
        have H := H1
        clear H1
        obtain rfl := Option.some.inj H
        go_wp2
        go_ret
        exact ⟨_, rfl, by (with_reducible repeat (first | apply Kd.R_alloc | apply Kd.R_drewN | apply Kd.R_drew)); exact HO_0.out, by repeat (first | (with_reducible first | exact HB.out | apply below_alloc | apply pw_below_drewN | apply below_drew1 | refine below_set ?_ GE162.out | refine below_set ?_ GE163.out) | exact HB.out), by repeat (first | (with_reducible first | exact HK.out | apply Kept.alloc | apply Kept.drewN | apply Kept.drew | refine Kept.setCell ?_ (.inr GW162.out) _ | refine Kept.setCell ?_ (.inr GW163.out) _) | exact HK.out)⟩
      · replace c19 := Bool.eq_false_iff.mpr c19
        subst c19
        have H1 : (if a1_2 = true then (impl_addPart.j1 kj3 l0 (l0.length : Int) (a2_0 == 0) a1_0 a1_1 a1_2 a1_3 a2_0 a2_1 a2_2) else (impl_addPart.j1 kj3 l0 (l0.length : Int) false a1_0 a1_1 a1_2 a1_3 a2_0 a2_1 a2_2)) = some r := by rw [if_neg (show ¬ (false = true) by decide)] at H; exact H
        clear H
        have H := H1
        clear H1
        have HC20 := Aside0.mk H
        clear H
        obtain ⟨Ao21, co21, eo21⟩ := Kd.R_slice HO_0.out
        subst eo21
        go_upto_region 4 with (fail)
        go_cut [26] (fun v26 wc => ∃ (kq : Nat) (x26_19 : Bool), v26 = .bool x26_19 ∧ Aside0 (impl_addPart.j1 kq l0 (l0.length : Int) x26_19 a1_0 a1_1 a1_2 a1_3 a2_0 a2_1 a2_2 = some r) ∧ Aside0 (kq ≤ kj3) ∧ Aside0 (Kd.R (Kd.int .u8) 5 wc w0.heap.size (fun k_ => (P0_ k_ ∨ w.heap.size ≤ k_)) (.slice Ao21 l0.length co21) l0) ∧ Aside0 (wc.heap[gb162]? = some (.cells #[.int .i64 a1_0, .int .i64 a1_1, .bool a1_2, .bool a1_3] 30 (0, 0))) ∧ Aside0 (wc.heap[gb163]? = some (.cells #[.int .i64 a2_0, .int .i64 a2_1, .string a2_2] 32 (0, 0))) ∧ Aside0 (Kept w wc (fun k_ => P0_ k_)) ∧ Aside0 (Below w0.heap.size w0 wc))
        case first =>
          have H := HC20.out
          clear HC20
          by_cases c22 : a1_2 = true
          · subst c22
            have H1 : (impl_addPart.j1 kj3 l0 (l0.length : Int) (a2_0 == 0) a1_0 a1_1 true a1_3 a2_0 a2_1 a2_2) = some r := by rw [if_pos rfl] at H; exact H
            clear H
            have H := H1
            clear H1
            have H' := Aside0.mk H
            clear H
            have hnb23 := NB162_163.out
            have hnc23 := NB163_162.out
            have hcz24_0 : wc.cell? ⟨gb162, 0, none⟩ = some (.int .i64 a1_0) := (blk_cell BK162.out 0).trans rfl
            have hcz24_1 : wc.cell? ⟨gb162, 1, none⟩ = some (.int .i64 a1_1) := (blk_cell BK162.out 1).trans rfl
            have hcz24_2 : wc.cell? ⟨gb162, 2, none⟩ = some (.bool true) := (blk_cell BK162.out 2).trans rfl
            have hcz24_3 : wc.cell? ⟨gb162, 3, none⟩ = some (.bool a1_3) := (blk_cell BK162.out 3).trans rfl
            have hfz24_0 := blk_frozen BK162.out 0
            have hfz24_1 := blk_frozen BK162.out 1
            have hfz24_2 := blk_frozen BK162.out 2
            have hfz24_3 := blk_frozen BK162.out 3
            have hcz25_0 : wc.cell? ⟨gb163, 0, none⟩ = some (.int .i64 a2_0) := (blk_cell BK163.out 0).trans rfl
            have hcz25_1 : wc.cell? ⟨gb163, 1, none⟩ = some (.int .i64 a2_1) := (blk_cell BK163.out 1).trans rfl
            have hcz25_2 : wc.cell? ⟨gb163, 2, none⟩ = some (.string a2_2) := (blk_cell BK163.out 2).trans rfl
            have hfz25_0 := blk_frozen BK163.out 0
            have hfz25_1 := blk_frozen BK163.out 1
            have hfz25_2 := blk_frozen BK163.out 2
            go_wp2
            go_meet
            case rel => exact ⟨_, ((a2_0 == 0)), (by first | rfl | (simp; done) | (simp [*]; done)), H', ⟨by have := HJ3.out; first | omega | exact Nat.le_refl _⟩, ⟨by (with_reducible repeat (first | apply Kd.R_alloc | apply Kd.R_drewN | apply Kd.R_drew)); exact HO_0.out⟩, ⟨by (with_reducible repeat (first | refine blk_drewN ?_ _ | refine blk_drew ?_ | refine blk_alloc ?_ _)); exact BK162.out⟩, ⟨by (with_reducible repeat (first | refine blk_drewN ?_ _ | refine blk_drew ?_ | refine blk_alloc ?_ _)); exact BK163.out⟩, ⟨by repeat (first | (with_reducible first | exact HK.out | apply Kept.alloc | apply Kept.drewN | apply Kept.drew | refine Kept.setCell ?_ (.inr GW162.out) _ | refine Kept.setCell ?_ (.inr GW163.out) _) | exact HK.out)⟩, ⟨by repeat (first | (with_reducible first | exact HB.out | apply below_alloc | apply pw_below_drewN | apply below_drew1 | refine below_set ?_ GE162.out | refine below_set ?_ GE163.out) | exact HB.out)⟩⟩
          · replace c22 := Bool.eq_false_iff.mpr c22
            subst c22
            have H1 : (impl_addPart.j1 kj3 l0 (l0.length : Int) false a1_0 a1_1 false a1_3 a2_0 a2_1 a2_2) = some r := by rw [if_neg (show ¬ (false = true) by decide)] at H; exact H
            clear H
            have H := H1
            clear H1
            have H' := Aside0.mk H
            clear H
            have hnb26 := NB162_163.out
            have hnc26 := NB163_162.out
            have hcz27_0 : wc.cell? ⟨gb162, 0, none⟩ = some (.int .i64 a1_0) := (blk_cell BK162.out 0).trans rfl
            have hcz27_1 : wc.cell? ⟨gb162, 1, none⟩ = some (.int .i64 a1_1) := (blk_cell BK162.out 1).trans rfl
            have hcz27_2 : wc.cell? ⟨gb162, 2, none⟩ = some (.bool false) := (blk_cell BK162.out 2).trans rfl
            have hcz27_3 : wc.cell? ⟨gb162, 3, none⟩ = some (.bool a1_3) := (blk_cell BK162.out 3).trans rfl
            have hfz27_0 := blk_frozen BK162.out 0
            have hfz27_1 := blk_frozen BK162.out 1
            have hfz27_2 := blk_frozen BK162.out 2
            have hfz27_3 := blk_frozen BK162.out 3
            go_wp2
            go_meet
            case rel => exact ⟨_, (false), (by first | rfl | (simp; done) | (simp [*]; done)), H', ⟨by have := HJ3.out; first | omega | exact Nat.le_refl _⟩, ⟨by (with_reducible repeat (first | apply Kd.R_alloc | apply Kd.R_drewN | apply Kd.R_drew)); exact HO_0.out⟩, ⟨by (with_reducible repeat (first | refine blk_drewN ?_ _ | refine blk_drew ?_ | refine blk_alloc ?_ _)); exact BK162.out⟩, ⟨by (with_reducible repeat (first | refine blk_drewN ?_ _ | refine blk_drew ?_ | refine blk_alloc ?_ _)); exact BK163.out⟩, ⟨by repeat (first | (with_reducible first | exact HK.out | apply Kept.alloc | apply Kept.drewN | apply Kept.drew | refine Kept.setCell ?_ (.inr GW162.out) _ | refine Kept.setCell ?_ (.inr GW163.out) _) | exact HK.out)⟩, ⟨by repeat (first | (with_reducible first | exact HB.out | apply below_alloc | apply pw_below_drewN | apply below_drew1 | refine below_set ?_ GE162.out | refine below_set ?_ GE163.out) | exact HB.out)⟩⟩
        case rest =>
          clear HC20
          try clear c1
          try clear c2
          try clear p2
          try clear c3
          try clear c6
          try clear c8
          try clear c10
          try clear c16
          try clear c19
          try clear c22
          try clear c23
          try clear c26
          try clear hcz11_0
          try clear hcz11_1
          try clear hcz11_2
          try clear hcz11_3
          try clear hcz13_0
          try clear hcz13_1
          try clear hcz13_2
          try clear hcz13_3
          try clear hcz14_0
          try clear hcz14_1
          try clear hcz14_2
          try clear hcz17_0
          try clear hcz17_1
          try clear hcz17_2
          try clear hcz17_3
          try clear hcz24_0
          try clear hcz24_1
          try clear hcz24_2
          try clear hcz24_3
          try clear hcz25_0
          try clear hcz25_1
          try clear hcz25_2
          try clear hcz27_0
          try clear hcz27_1
          try clear hcz27_2
          try clear hcz27_3
          try clear hfz11_0
          try clear hfz11_1
          try clear hfz11_2
          try clear hfz11_3
          try clear hfz13_0
          try clear hfz13_1
          try clear hfz13_2
          try clear hfz13_3
          try clear hfz14_0
          try clear hfz14_1
          try clear hfz14_2
          try clear hfz17_0
          try clear hfz17_1
          try clear hfz17_2
          try clear hfz17_3
          try clear hfz24_0
          try clear hfz24_1
          try clear hfz24_2
          try clear hfz24_3
          try clear hfz25_0
          try clear hfz25_1
          try clear hfz25_2
          try clear hfz27_0
          try clear hfz27_1
          try clear hfz27_2
          try clear hfz27_3
          try clear p2
          obtain ⟨kq, x26_19, rfl, HA, HJ19, HO_0, BK162, BK163, HK, HB⟩ := hcut
          cases kq with
          | zero => exact absurd HA.out (by simp [impl_addPart.j1])
          | succ kj19 =>
            have H := HA.out
            clear HA
            simp only [impl_addPart.j1] at H
            have HC28 := Aside0.mk H
            clear H
            go_upto_if 26 with (fail)
            go_cut [0] (fun v0 wc => ∃ (kq : Nat) (x0_27 : List Int), Aside0 (impl_addPart.j2 kq x0_27 (l0.length : Int) a1_0 a1_1 a1_2 a1_3 a2_0 a2_1 a2_2 = some r) ∧ Aside0 (kq ≤ kj19) ∧ Aside0 (Kd.R (Kd.int .u8) 5 wc w0.heap.size (fun k_ => (P0_ k_ ∨ w.heap.size ≤ k_)) v0 x0_27) ∧ Aside0 (wc.heap[gb162]? = some (.cells #[.int .i64 a1_0, .int .i64 a1_1, .bool a1_2, .bool a1_3] 30 (0, 0))) ∧ Aside0 (wc.heap[gb163]? = some (.cells #[.int .i64 a2_0, .int .i64 a2_1, .string a2_2] 32 (0, 0))) ∧ Aside0 (Kept w wc (fun k_ => P0_ k_)) ∧ Aside0 (Below w0.heap.size w0 wc))
            case first =>
              have H := HC28.out
              clear HC28
              by_cases c29 : x26_19 = true
              · subst c29
                have H1 : (if l0.length < 140737488355328 then (impl_addPart.j2 kj19 (l0 ++ [0]) (l0.length : Int) a1_0 a1_1 a1_2 a1_3 a2_0 a2_1 a2_2) else (none)) = some r := by rw [if_pos rfl] at H; exact H
                clear H
                have H := H1
                clear H1
                by_cases c30 : l0.length < 140737488355328
                · rw [if_pos c30] at H
                  have LMc30 := Aside0.mk c30
                  clear c30
                  obtain ⟨y166, hy166⟩ : ∃ y_ : List Int, y_ = (l0 ++ [0]) := ⟨_, rfl⟩
                  replace H : (impl_addPart.j2 kj19 y166 (l0.length : Int) a1_0 a1_1 a1_2 a1_3 a2_0 a2_1 a2_2) = some r := by rw [hy166]; exact H
                  have Ny166 := Aside0.mk hy166
                  clear hy166
                  have H' := Aside0.mk H
                  clear H
                  go_wp2_with (first | ((with_reducible refine gate_builtin (b := .append) (xs := #[.tmp 27, .tmp 28]) rfl ?_); at_builtin; refine Kd.R_append (Kd.int .u8) (w0 := w0) w0.heap.size rfl (.tmp 27) (.tmp 28) 22 5 (.int .u8 0) 1 rfl Try.underlying22 info5 rfl (by decide) (by omega) (.slice Ao21 l0.length co21) l0 0 [.int .u8 0] (fun k_ => (P0_ k_ ∨ w.heap.size ≤ k_)) (fun _ => False) rfl rfl ?aP (fun _ hk => hk.elim) ?aF ?aO ?aB ?aS ?aL ?_; (case aP => exact rfl); (case aB => exact HB.out); (case aF => exact (fun k_ hk => (.inr (Nat.le_trans (by first | exact HK.out.1 | exact (show Kept w _ (fun k_ => P0_ k_) from by repeat (first | (with_reducible first | exact HK.out | apply Kept.alloc | apply Kept.drewN | apply Kept.drew | refine Kept.setCell ?_ (.inr GW162.out) _ | refine Kept.setCell ?_ (.inr GW163.out) _) | exact HK.out)).1) hk)))); (case aO => exact HO_0.out); (case aS => exact (below_size HB.out)); (case aL => have := LMc30.out; omega); intro v167 w31 ho hb hg hat; rw [← Ny166.out] at ho; have n0_ := Aside0.mk (blk_grown (g := gb162) (o := .cells #[.int .i64 a1_0, .int .i64 a1_1, .bool a1_2, .bool a1_3] 30 (0, 0)) BK162.out hg (Kd.R_ne HO_0.out BK162.out (by decide))); have n1_ := Aside0.mk (blk_grown (g := gb163) (o := .cells #[.int .i64 a2_0, .int .i64 a2_1, .string a2_2] 32 (0, 0)) BK163.out hg (Kd.R_ne HO_0.out BK163.out (by decide))); have n2_ := Aside0.mk (hb); have n3_ := Aside0.mk (Kept.of_grown (S := (fun k_ => P0_ k_)) hg HK.out (fun k_ e_ => (HO_0.out.1 k_ e_))); have n4_ := Aside0.mk (ho); clear BK162 BK163 HB HK HO_0; have BK162 := n0_; have BK163 := n1_; have HB := n2_; have HK := n3_; have HO168 := n4_; clear n0_ n1_ n2_ n3_ n4_; clear ho hb hg hat))
                  go_meet
                  case rel => exact ⟨_, (y166), H', ⟨by have := HJ3.out; have := HJ19.out; first | omega | exact Nat.le_refl _⟩, ⟨by (with_reducible repeat (first | apply Kd.R_alloc | apply Kd.R_drewN | apply Kd.R_drew)); exact HO168.out⟩, ⟨by (with_reducible repeat (first | refine blk_drewN ?_ _ | refine blk_drew ?_ | refine blk_alloc ?_ _)); exact BK162.out⟩, ⟨by (with_reducible repeat (first | refine blk_drewN ?_ _ | refine blk_drew ?_ | refine blk_alloc ?_ _)); exact BK163.out⟩, ⟨by repeat (first | (with_reducible first | exact HK.out | apply Kept.alloc | apply Kept.drewN | apply Kept.drew | refine Kept.setCell ?_ (.inr GW162.out) _ | refine Kept.setCell ?_ (.inr GW163.out) _) | exact HK.out)⟩, ⟨by repeat (first | (with_reducible first | exact HB.out | apply below_alloc | apply pw_below_drewN | apply below_drew1 | refine below_set ?_ GE162.out | refine below_set ?_ GE163.out) | exact HB.out)⟩⟩
                · rw [if_neg c30] at H
                  exact absurd H (by simp)
              · replace c29 := Bool.eq_false_iff.mpr c29
                subst c29
                have H1 : (if a1_2 = true then (if l0.length < 140737488355328 then (impl_addPart.j2 kj19 (l0 ++ [1]) (l0.length : Int) a1_0 a1_1 a1_2 a1_3 a2_0 a2_1 a2_2) else (none)) else (impl_addPart.j2 kj19 l0 (l0.length : Int) a1_0 a1_1 a1_2 a1_3 a2_0 a2_1 a2_2)) = some r := by rw [if_neg (show ¬ (false = true) by decide)] at H; exact H
                clear H
                have H := H1
                clear H1
                by_cases c32 : a1_2 = true
                · subst c32
                  have H1 : (if l0.length < 140737488355328 then (impl_addPart.j2 kj19 (l0 ++ [1]) (l0.length : Int) a1_0 a1_1 true a1_3 a2_0 a2_1 a2_2) else (none)) = some r := by rw [if_pos rfl] at H; exact H
                  clear H
                  have H := H1
                  clear H1
                  by_cases c33 : l0.length < 140737488355328
                  · rw [if_pos c33] at H
                    have LMc33 := Aside0.mk c33
                    clear c33
                    obtain ⟨y169, hy169⟩ : ∃ y_ : List Int, y_ = (l0 ++ [1]) := ⟨_, rfl⟩
                    replace H : (impl_addPart.j2 kj19 y169 (l0.length : Int) a1_0 a1_1 true a1_3 a2_0 a2_1 a2_2) = some r := by rw [hy169]; exact H
                    have Ny169 := Aside0.mk hy169
                    clear hy169
                    have H' := Aside0.mk H
                    clear H
                    have hnb34 := NB162_163.out
                    have hnc34 := NB163_162.out
                    have hcz35_0 : wc.cell? ⟨gb162, 0, none⟩ = some (.int .i64 a1_0) := (blk_cell BK162.out 0).trans rfl
                    have hcz35_1 : wc.cell? ⟨gb162, 1, none⟩ = some (.int .i64 a1_1) := (blk_cell BK162.out 1).trans rfl
                    have hcz35_2 : wc.cell? ⟨gb162, 2, none⟩ = some (.bool true) := (blk_cell BK162.out 2).trans rfl
                    have hcz35_3 : wc.cell? ⟨gb162, 3, none⟩ = some (.bool a1_3) := (blk_cell BK162.out 3).trans rfl
                    have hfz35_0 := blk_frozen BK162.out 0
                    have hfz35_1 := blk_frozen BK162.out 1
                    have hfz35_2 := blk_frozen BK162.out 2
                    have hfz35_3 := blk_frozen BK162.out 3
                    go_wp2_with (first | ((with_reducible refine gate_builtin (b := .append) (xs := #[.tmp 32, .tmp 33]) rfl ?_); at_builtin; refine Kd.R_append (Kd.int .u8) (w0 := w0) w0.heap.size rfl (.tmp 32) (.tmp 33) 22 5 (.int .u8 0) 1 rfl Try.underlying22 info5 rfl (by decide) (by omega) (.slice Ao21 l0.length co21) l0 1 [.int .u8 1] (fun k_ => (P0_ k_ ∨ w.heap.size ≤ k_)) (fun _ => False) rfl rfl ?aP (fun _ hk => hk.elim) ?aF ?aO ?aB ?aS ?aL ?_; (case aP => exact rfl); (case aB => exact HB.out); (case aF => exact (fun k_ hk => (.inr (Nat.le_trans (by first | exact HK.out.1 | exact (show Kept w _ (fun k_ => P0_ k_) from by repeat (first | (with_reducible first | exact HK.out | apply Kept.alloc | apply Kept.drewN | apply Kept.drew | refine Kept.setCell ?_ (.inr GW162.out) _ | refine Kept.setCell ?_ (.inr GW163.out) _) | exact HK.out)).1) hk)))); (case aO => exact HO_0.out); (case aS => exact (below_size HB.out)); (case aL => have := LMc33.out; omega); intro v170 w36 ho hb hg hat; rw [← Ny169.out] at ho; have n0_ := Aside0.mk (blk_grown (g := gb162) (o := .cells #[.int .i64 a1_0, .int .i64 a1_1, .bool true, .bool a1_3] 30 (0, 0)) BK162.out hg (Kd.R_ne HO_0.out BK162.out (by decide))); have n1_ := Aside0.mk (blk_grown (g := gb163) (o := .cells #[.int .i64 a2_0, .int .i64 a2_1, .string a2_2] 32 (0, 0)) BK163.out hg (Kd.R_ne HO_0.out BK163.out (by decide))); have n2_ := Aside0.mk (hb); have n3_ := Aside0.mk (Kept.of_grown (S := (fun k_ => P0_ k_)) hg HK.out (fun k_ e_ => (HO_0.out.1 k_ e_))); have n4_ := Aside0.mk (ho); clear BK162 BK163 HB HK HO_0; have BK162 := n0_; have BK163 := n1_; have HB := n2_; have HK := n3_; have HO171 := n4_; clear n0_ n1_ n2_ n3_ n4_; clear ho hb hg hat))
                    go_meet
                    case rel => exact ⟨_, (y169), H', ⟨by have := HJ3.out; have := HJ19.out; first | omega | exact Nat.le_refl _⟩, ⟨by (with_reducible repeat (first | apply Kd.R_alloc | apply Kd.R_drewN | apply Kd.R_drew)); exact HO171.out⟩, ⟨by (with_reducible repeat (first | refine blk_drewN ?_ _ | refine blk_drew ?_ | refine blk_alloc ?_ _)); exact BK162.out⟩, ⟨by (with_reducible repeat (first | refine blk_drewN ?_ _ | refine blk_drew ?_ | refine blk_alloc ?_ _)); exact BK163.out⟩, ⟨by repeat (first | (with_reducible first | exact HK.out | apply Kept.alloc | apply Kept.drewN | apply Kept.drew | refine Kept.setCell ?_ (.inr GW162.out) _ | refine Kept.setCell ?_ (.inr GW163.out) _) | exact HK.out)⟩, ⟨by repeat (first | (with_reducible first | exact HB.out | apply below_alloc | apply pw_below_drewN | apply below_drew1 | refine below_set ?_ GE162.out | refine below_set ?_ GE163.out) | exact HB.out)⟩⟩
                  · rw [if_neg c33] at H
                    exact absurd H (by simp)
                · replace c32 := Bool.eq_false_iff.mpr c32
                  subst c32
                  have H1 : (impl_addPart.j2 kj19 l0 (l0.length : Int) a1_0 a1_1 false a1_3 a2_0 a2_1 a2_2) = some r := by rw [if_neg (show ¬ (false = true) by decide)] at H; exact H
                  clear H
                  have H := H1
                  clear H1
                  have H' := Aside0.mk H
                  clear H
                  have hnb37 := NB162_163.out
                  have hnc37 := NB163_162.out
                  have hcz38_0 : wc.cell? ⟨gb162, 0, none⟩ = some (.int .i64 a1_0) := (blk_cell BK162.out 0).trans rfl
                  have hcz38_1 : wc.cell? ⟨gb162, 1, none⟩ = some (.int .i64 a1_1) := (blk_cell BK162.out 1).trans rfl
                  have hcz38_2 : wc.cell? ⟨gb162, 2, none⟩ = some (.bool false) := (blk_cell BK162.out 2).trans rfl
                  have hcz38_3 : wc.cell? ⟨gb162, 3, none⟩ = some (.bool a1_3) := (blk_cell BK162.out 3).trans rfl
                  have hfz38_0 := blk_frozen BK162.out 0
                  have hfz38_1 := blk_frozen BK162.out 1
                  have hfz38_2 := blk_frozen BK162.out 2
                  have hfz38_3 := blk_frozen BK162.out 3
                  go_wp2
                  go_meet
                  case rel => exact ⟨_, (l0), H', ⟨by have := HJ3.out; have := HJ19.out; first | omega | exact Nat.le_refl _⟩, ⟨by (with_reducible repeat (first | apply Kd.R_alloc | apply Kd.R_drewN | apply Kd.R_drew)); exact HO_0.out⟩, ⟨by (with_reducible repeat (first | refine blk_drewN ?_ _ | refine blk_drew ?_ | refine blk_alloc ?_ _)); exact BK162.out⟩, ⟨by (with_reducible repeat (first | refine blk_drewN ?_ _ | refine blk_drew ?_ | refine blk_alloc ?_ _)); exact BK163.out⟩, ⟨by repeat (first | (with_reducible first | exact HK.out | apply Kept.alloc | apply Kept.drewN | apply Kept.drew | refine Kept.setCell ?_ (.inr GW162.out) _ | refine Kept.setCell ?_ (.inr GW163.out) _) | exact HK.out)⟩, ⟨by repeat (first | (with_reducible first | exact HB.out | apply below_alloc | apply pw_below_drewN | apply below_drew1 | refine below_set ?_ GE162.out | refine below_set ?_ GE163.out) | exact HB.out)⟩⟩
            case rest =>
              clear HC28
              try clear c1
              try clear c2
              try clear p2
              try clear c3
              try clear c6
              try clear c8
              try clear c10
              try clear c16
              try clear c19
              try clear c22
              try clear c23
              try clear c26
              try clear c29
              try clear c30
              try clear c32
              try clear c33
              try clear c34
              try clear c37
              try clear hcz11_0
              try clear hcz11_1
              try clear hcz11_2
              try clear hcz11_3
              try clear hcz13_0
              try clear hcz13_1
              try clear hcz13_2
              try clear hcz13_3
              try clear hcz14_0
              try clear hcz14_1
              try clear hcz14_2
              try clear hcz17_0
              try clear hcz17_1
              try clear hcz17_2
              try clear hcz17_3
              try clear hcz24_0
              try clear hcz24_1
              try clear hcz24_2
              try clear hcz24_3
              try clear hcz25_0
              try clear hcz25_1
              try clear hcz25_2
              try clear hcz27_0
              try clear hcz27_1
              try clear hcz27_2
              try clear hcz27_3
              try clear hcz35_0
              try clear hcz35_1
              try clear hcz35_2
              try clear hcz35_3
              try clear hcz38_0
              try clear hcz38_1
              try clear hcz38_2
              try clear hcz38_3
              try clear hfz11_0
              try clear hfz11_1
              try clear hfz11_2
              try clear hfz11_3
              try clear hfz13_0
              try clear hfz13_1
              try clear hfz13_2
              try clear hfz13_3
              try clear hfz14_0
              try clear hfz14_1
              try clear hfz14_2
              try clear hfz17_0
              try clear hfz17_1
              try clear hfz17_2
              try clear hfz17_3
              try clear hfz24_0
              try clear hfz24_1
              try clear hfz24_2
              try clear hfz24_3
              try clear hfz25_0
              try clear hfz25_1
              try clear hfz25_2
              try clear hfz27_0
              try clear hfz27_1
              try clear hfz27_2
              try clear hfz27_3
              try clear hfz35_0
              try clear hfz35_1
              try clear hfz35_2
              try clear hfz35_3
              try clear hfz38_0
              try clear hfz38_1
              try clear hfz38_2
              try clear hfz38_3
              try clear p2
              obtain ⟨kq, x0_27, HA, HJ27, HO_0, BK162, BK163, HK, HB⟩ := hcut
              cases kq with
              | zero => exact absurd HA.out (by simp [impl_addPart.j2])
              | succ kj27 =>
                have H := HA.out
                clear HA
                simp only [impl_addPart.j2] at H
                by_cases c39 : a2_0 = 1
                · rw [if_pos c39] at H
                  have c39b0 : (a2_0 == 1) = true := beq_iff_eq.mpr c39
                  have c39b1 : (a2_0 != 1) = false := bne_eq_false_iff_eq.mpr c39
                  clear c39
                  replace H := Option.bind_eq_some_iff.mp H
                  obtain ⟨t172, A400, H⟩ := H
                  replace H : (if a1_3 = true then ((impl_Flip.f kj27 t172 (l0.length : Int)).bind fun t175 => (some t175)) else (some t172)) = some r := H
                  have A40 := Aside0.mk A400
                  clear A400
                  by_cases c41 : a1_3 = true
                  · subst c41
                    have H1 : ((impl_Flip.f kj27 t172 (l0.length : Int)).bind fun t175 => (some t175)) = some r := by rw [if_pos rfl] at H; exact H
                    clear H
                    have H := H1
                    clear H1
                    replace H := Option.bind_eq_some_iff.mp H
                    obtain ⟨t175, A420, H⟩ := H
                    replace H : (some t175) = some r := H
                    have A42 := Aside0.mk A420
                    clear A420
                    obtain rfl := Option.some.inj H
                    have hnb43 := NB163_162.out
                    have hnc43 := NB162_163.out
                    have hcz44_0 : wc.cell? ⟨gb163, 0, none⟩ = some (.int .i64 a2_0) := (blk_cell BK163.out 0).trans rfl
                    have hcz44_1 : wc.cell? ⟨gb163, 1, none⟩ = some (.int .i64 a2_1) := (blk_cell BK163.out 1).trans rfl
                    have hcz44_2 : wc.cell? ⟨gb163, 2, none⟩ = some (.string a2_2) := (blk_cell BK163.out 2).trans rfl
                    have hfz44_0 := blk_frozen BK163.out 0
                    have hfz44_1 := blk_frozen BK163.out 1
                    have hfz44_2 := blk_frozen BK163.out 2
                    obtain ⟨Ao45, co45, eo45⟩ := Kd.R_slice HO_0.out
                    subst eo45
                    go_wp2_with (first | ((with_reducible refine gate_callee (f := 97) rfl ?_); refine gL (some 42) Try.func97 #[.slice Ao45 x0_27.length co45, .int .i64 a2_1] ?_; (with_reducible refine (impl_addFix.calls kj27 (fun k_ => some k_ = (.slice Ao45 x0_27.length co45 : Value).ownBlock) (.slice Ao45 x0_27.length co45) x0_27 a2_1 t172 w0 _ ?side1 ?side2 A40.out).mono ?_); (case side1 => exact HB.out); (case side2 => exact Kd.R_tight rfl HO_0.out); rintro e w46 ⟨v173, rfl, ho0, hb, hkp⟩; refine ⟨_, rfl, ?_⟩; have n0_ := Aside0.mk (blk_kept BK162.out hkp (fun hs_ => (fun e_ => (Kd.R_ne HO_0.out BK162.out (by decide)) e_) hs_)); have n1_ := Aside0.mk (blk_kept BK163.out hkp (fun hs_ => (fun e_ => (Kd.R_ne HO_0.out BK163.out (by decide)) e_) hs_)); have n2_ := Aside0.mk (Kd.R_mono (ok' := fun k_ => (P0_ k_ ∨ w.heap.size ≤ k_)) ho0 (fun k_ hk_ => Or.elim hk_ (fun hs_ => (HO_0.out.1 k_ (hs_).symm)) (fun hn_ => (.inr (Nat.le_trans (by first | exact HK.out.1 | exact (show Kept w _ (fun k_ => P0_ k_) from by repeat (first | (with_reducible first | exact HK.out | apply Kept.alloc | apply Kept.drewN | apply Kept.drew | refine Kept.setCell ?_ (.inr GW162.out) _ | refine Kept.setCell ?_ (.inr GW163.out) _) | exact HK.out)).1) hn_))))); have n3_ := Aside0.mk (Kept.then_ (S := (fun k_ => P0_ k_)) HK.out hkp (fun k_ hs_ => (fun e_ => (HO_0.out.1 k_ e_.symm)) hs_)); have n4_ := Aside0.mk (hb); clear BK162 BK163 HK HB HO_0; have BK162 := n0_; have BK163 := n1_; have HO174 := n2_; have HK := n3_; have HB := n4_; clear n0_ n1_ n2_ n3_ n4_; (try clear hb); (try clear hkp); (try clear ho0); have hcz47_0 : w46.cell? ⟨gb162, 0, none⟩ = some (.int .i64 a1_0) := (blk_cell BK162.out 0).trans rfl; have hcz47_1 : w46.cell? ⟨gb162, 1, none⟩ = some (.int .i64 a1_1) := (blk_cell BK162.out 1).trans rfl; have hcz47_2 : w46.cell? ⟨gb162, 2, none⟩ = some (.bool a1_2) := (blk_cell BK162.out 2).trans rfl; have hcz47_3 : w46.cell? ⟨gb162, 3, none⟩ = some (.bool true) := (blk_cell BK162.out 3).trans rfl; have hfz47_0 := blk_frozen BK162.out 0; have hfz47_1 := blk_frozen BK162.out 1; have hfz47_2 := blk_frozen BK162.out 2; have hfz47_3 := blk_frozen BK162.out 3; obtain ⟨Ao48, co48, eo48⟩ := Kd.R_slice HO174.out; subst eo48) | ((with_reducible refine gate_callee (f := 73) rfl ?_); refine gL (some 67) Try.func73 #[.slice Ao48 t172.length co48, .int .i64 (l0.length : Int)] ?_; (with_reducible refine (impl_Flip.calls kj27 _ _ t172 (l0.length : Int) t175 _ ?side1 ?side2 A42.out).mono ?_); (case side1 => exact (Kd.R_reads' HO174.out).2.2); (case side2 => exact (Kd.R_reads' HO174.out).2.1); rintro e w49 ⟨v176, rfl, ho0, hb⟩; refine ⟨_, rfl, ?_⟩; have n0_ := Aside0.mk (Kd.R_elder' HO174.out (Kd.R_base ho0) hb); have n1_ := Aside0.mk (Kd.R_lower (Kd.R_new' (Kd.R_newM (M := fun k_ => (P0_ k_ ∨ w.heap.size ≤ k_)) ho0 (by first | exact HK.out.1 | exact (show Kept w _ (fun k_ => P0_ k_) from by repeat (first | (with_reducible first | exact HK.out | apply Kept.alloc | apply Kept.drewN | apply Kept.drew | refine Kept.setCell ?_ (.inr GW162.out) _ | refine Kept.setCell ?_ (.inr GW163.out) _) | exact HK.out)).1) (fun k_ h_ => .inr h_)) (Kd.R_lt HO174.out)) (below_size HB.out)); have n2_ := Aside0.mk (blk_below BK162.out hb); have n3_ := Aside0.mk (blk_below BK163.out hb); have n4_ := Aside0.mk (Kept.below (S := (fun k_ => P0_ k_)) HK.out hb); have n5_ := Aside0.mk (below_step HB.out hb); clear HO174 BK162 BK163 HK HB; have HO174 := n0_; have HO177 := n1_; have BK162 := n2_; have BK163 := n3_; have HK := n4_; have HB := n5_; clear n0_ n1_ n2_ n3_ n4_ n5_; (try clear ho0)))
                    go_ret
                    exact ⟨_, rfl, by (with_reducible repeat (first | apply Kd.R_alloc | apply Kd.R_drewN | apply Kd.R_drew)); exact Kd.R_mono HO177.out (fun _ hk => hk.1.1), by repeat (first | (with_reducible first | exact HB.out | apply below_alloc | apply pw_below_drewN | apply below_drew1 | refine below_set ?_ GE162.out | refine below_set ?_ GE163.out) | exact HB.out), by repeat (first | (with_reducible first | exact HK.out | apply Kept.alloc | apply Kept.drewN | apply Kept.drew | refine Kept.setCell ?_ (.inr GW162.out) _ | refine Kept.setCell ?_ (.inr GW163.out) _) | exact HK.out)⟩
                  · replace c41 := Bool.eq_false_iff.mpr c41
                    subst c41
                    have H1 : (some t172) = some r := by rw [if_neg (show ¬ (false = true) by decide)] at H; exact H
                    clear H
                    have H := H1
                    clear H1
                    obtain rfl := Option.some.inj H
                    have hnb50 := NB163_162.out
                    have hnc50 := NB162_163.out
                    have hcz51_0 : wc.cell? ⟨gb163, 0, none⟩ = some (.int .i64 a2_0) := (blk_cell BK163.out 0).trans rfl
                    have hcz51_1 : wc.cell? ⟨gb163, 1, none⟩ = some (.int .i64 a2_1) := (blk_cell BK163.out 1).trans rfl
                    have hcz51_2 : wc.cell? ⟨gb163, 2, none⟩ = some (.string a2_2) := (blk_cell BK163.out 2).trans rfl
                    have hfz51_0 := blk_frozen BK163.out 0
                    have hfz51_1 := blk_frozen BK163.out 1
                    have hfz51_2 := blk_frozen BK163.out 2
                    obtain ⟨Ao52, co52, eo52⟩ := Kd.R_slice HO_0.out
                    subst eo52
                    go_wp2_with (first | ((with_reducible refine gate_callee (f := 97) rfl ?_); refine gL (some 42) Try.func97 #[.slice Ao52 x0_27.length co52, .int .i64 a2_1] ?_; (with_reducible refine (impl_addFix.calls kj27 (fun k_ => some k_ = (.slice Ao52 x0_27.length co52 : Value).ownBlock) (.slice Ao52 x0_27.length co52) x0_27 a2_1 t172 w0 _ ?side1 ?side2 A40.out).mono ?_); (case side1 => exact HB.out); (case side2 => exact Kd.R_tight rfl HO_0.out); rintro e w53 ⟨v173, rfl, ho0, hb, hkp⟩; refine ⟨_, rfl, ?_⟩; have n0_ := Aside0.mk (blk_kept BK162.out hkp (fun hs_ => (fun e_ => (Kd.R_ne HO_0.out BK162.out (by decide)) e_) hs_)); have n1_ := Aside0.mk (blk_kept BK163.out hkp (fun hs_ => (fun e_ => (Kd.R_ne HO_0.out BK163.out (by decide)) e_) hs_)); have n2_ := Aside0.mk (Kd.R_mono (ok' := fun k_ => (P0_ k_ ∨ w.heap.size ≤ k_)) ho0 (fun k_ hk_ => Or.elim hk_ (fun hs_ => (HO_0.out.1 k_ (hs_).symm)) (fun hn_ => (.inr (Nat.le_trans (by first | exact HK.out.1 | exact (show Kept w _ (fun k_ => P0_ k_) from by repeat (first | (with_reducible first | exact HK.out | apply Kept.alloc | apply Kept.drewN | apply Kept.drew | refine Kept.setCell ?_ (.inr GW162.out) _ | refine Kept.setCell ?_ (.inr GW163.out) _) | exact HK.out)).1) hn_))))); have n3_ := Aside0.mk (Kept.then_ (S := (fun k_ => P0_ k_)) HK.out hkp (fun k_ hs_ => (fun e_ => (HO_0.out.1 k_ e_.symm)) hs_)); have n4_ := Aside0.mk (hb); clear BK162 BK163 HK HB HO_0; have BK162 := n0_; have BK163 := n1_; have HO174 := n2_; have HK := n3_; have HB := n4_; clear n0_ n1_ n2_ n3_ n4_; (try clear hb); (try clear hkp); (try clear ho0); have hcz54_0 : w53.cell? ⟨gb162, 0, none⟩ = some (.int .i64 a1_0) := (blk_cell BK162.out 0).trans rfl; have hcz54_1 : w53.cell? ⟨gb162, 1, none⟩ = some (.int .i64 a1_1) := (blk_cell BK162.out 1).trans rfl; have hcz54_2 : w53.cell? ⟨gb162, 2, none⟩ = some (.bool a1_2) := (blk_cell BK162.out 2).trans rfl; have hcz54_3 : w53.cell? ⟨gb162, 3, none⟩ = some (.bool false) := (blk_cell BK162.out 3).trans rfl; have hfz54_0 := blk_frozen BK162.out 0; have hfz54_1 := blk_frozen BK162.out 1; have hfz54_2 := blk_frozen BK162.out 2; have hfz54_3 := blk_frozen BK162.out 3))
                    go_ret
                    exact ⟨_, rfl, by (with_reducible repeat (first | apply Kd.R_alloc | apply Kd.R_drewN | apply Kd.R_drew)); exact HO174.out, by repeat (first | (with_reducible first | exact HB.out | apply below_alloc | apply pw_below_drewN | apply below_drew1 | refine below_set ?_ GE162.out | refine below_set ?_ GE163.out) | exact HB.out), by repeat (first | (with_reducible first | exact HK.out | apply Kept.alloc | apply Kept.drewN | apply Kept.drew | refine Kept.setCell ?_ (.inr GW162.out) _ | refine Kept.setCell ?_ (.inr GW163.out) _) | exact HK.out)⟩
                · rw [if_neg c39] at H
                  have c39b0 : (a2_0 == 1) = false := beq_eq_false_iff_ne.mpr c39
                  have c39b1 : (a2_0 != 1) = true := bne_iff_ne.mpr c39
                  by_cases c55 : a2_0 = 2
                  · rw [if_pos c55] at H
                    have c55b0 : (a2_0 == 2) = true := beq_iff_eq.mpr c55
                    have c55b1 : (a2_0 != 2) = false := bne_eq_false_iff_eq.mpr c55
                    clear c55
                    replace H := Option.bind_eq_some_iff.mp H
                    obtain ⟨t178, A560, H⟩ := H
                    replace H : (if a1_3 = true then ((impl_Flip.f kj27 t178 (l0.length : Int)).bind fun t181 => (some t181)) else (some t178)) = some r := H
                    have A56 := Aside0.mk A560
                    clear A560
                    by_cases c57 : a1_3 = true
                    · subst c57
                      have H1 : ((impl_Flip.f kj27 t178 (l0.length : Int)).bind fun t181 => (some t181)) = some r := by rw [if_pos rfl] at H; exact H
                      clear H
                      have H := H1
                      clear H1
                      replace H := Option.bind_eq_some_iff.mp H
                      obtain ⟨t181, A580, H⟩ := H
                      replace H : (some t181) = some r := H
                      have A58 := Aside0.mk A580
                      clear A580
                      obtain rfl := Option.some.inj H
                      have hnb59 := NB163_162.out
                      have hnc59 := NB162_163.out
                      have hcz60_0 : wc.cell? ⟨gb163, 0, none⟩ = some (.int .i64 a2_0) := (blk_cell BK163.out 0).trans rfl
                      have hcz60_1 : wc.cell? ⟨gb163, 1, none⟩ = some (.int .i64 a2_1) := (blk_cell BK163.out 1).trans rfl
                      have hcz60_2 : wc.cell? ⟨gb163, 2, none⟩ = some (.string a2_2) := (blk_cell BK163.out 2).trans rfl
                      have hfz60_0 := blk_frozen BK163.out 0
                      have hfz60_1 := blk_frozen BK163.out 1
                      have hfz60_2 := blk_frozen BK163.out 2
                      obtain ⟨Ao61, co61, eo61⟩ := Kd.R_slice HO_0.out
                      subst eo61
                      go_wp2_with (first | ((with_reducible refine gate_callee (f := 98) rfl ?_); refine gL (some 48) Try.func98 #[.slice Ao61 x0_27.length co61, .int .i64 a2_1] ?_; (with_reducible refine (impl_addVar.calls kj27 (fun k_ => some k_ = (.slice Ao61 x0_27.length co61 : Value).ownBlock) (.slice Ao61 x0_27.length co61) x0_27 a2_1 t178 w0 _ ?side1 ?side2 A56.out).mono ?_); (case side1 => exact HB.out); (case side2 => exact Kd.R_tight rfl HO_0.out); rintro e w62 ⟨v179, rfl, ho0, hb, hkp⟩; refine ⟨_, rfl, ?_⟩; have n0_ := Aside0.mk (blk_kept BK162.out hkp (fun hs_ => (fun e_ => (Kd.R_ne HO_0.out BK162.out (by decide)) e_) hs_)); have n1_ := Aside0.mk (blk_kept BK163.out hkp (fun hs_ => (fun e_ => (Kd.R_ne HO_0.out BK163.out (by decide)) e_) hs_)); have n2_ := Aside0.mk (Kd.R_mono (ok' := fun k_ => (P0_ k_ ∨ w.heap.size ≤ k_)) ho0 (fun k_ hk_ => Or.elim hk_ (fun hs_ => (HO_0.out.1 k_ (hs_).symm)) (fun hn_ => (.inr (Nat.le_trans (by first | exact HK.out.1 | exact (show Kept w _ (fun k_ => P0_ k_) from by repeat (first | (with_reducible first | exact HK.out | apply Kept.alloc | apply Kept.drewN | apply Kept.drew | refine Kept.setCell ?_ (.inr GW162.out) _ | refine Kept.setCell ?_ (.inr GW163.out) _) | exact HK.out)).1) hn_))))); have n3_ := Aside0.mk (Kept.then_ (S := (fun k_ => P0_ k_)) HK.out hkp (fun k_ hs_ => (fun e_ => (HO_0.out.1 k_ e_.symm)) hs_)); have n4_ := Aside0.mk (hb); clear BK162 BK163 HK HB HO_0; have BK162 := n0_; have BK163 := n1_; have HO180 := n2_; have HK := n3_; have HB := n4_; clear n0_ n1_ n2_ n3_ n4_; (try clear hb); (try clear hkp); (try clear ho0); have hcz63_0 : w62.cell? ⟨gb162, 0, none⟩ = some (.int .i64 a1_0) := (blk_cell BK162.out 0).trans rfl; have hcz63_1 : w62.cell? ⟨gb162, 1, none⟩ = some (.int .i64 a1_1) := (blk_cell BK162.out 1).trans rfl; have hcz63_2 : w62.cell? ⟨gb162, 2, none⟩ = some (.bool a1_2) := (blk_cell BK162.out 2).trans rfl; have hcz63_3 : w62.cell? ⟨gb162, 3, none⟩ = some (.bool true) := (blk_cell BK162.out 3).trans rfl; have hfz63_0 := blk_frozen BK162.out 0; have hfz63_1 := blk_frozen BK162.out 1; have hfz63_2 := blk_frozen BK162.out 2; have hfz63_3 := blk_frozen BK162.out 3; obtain ⟨Ao64, co64, eo64⟩ := Kd.R_slice HO180.out; subst eo64) | ((with_reducible refine gate_callee (f := 73) rfl ?_); refine gL (some 67) Try.func73 #[.slice Ao64 t178.length co64, .int .i64 (l0.length : Int)] ?_; (with_reducible refine (impl_Flip.calls kj27 _ _ t178 (l0.length : Int) t181 _ ?side1 ?side2 A58.out).mono ?_); (case side1 => exact (Kd.R_reads' HO180.out).2.2); (case side2 => exact (Kd.R_reads' HO180.out).2.1); rintro e w65 ⟨v182, rfl, ho0, hb⟩; refine ⟨_, rfl, ?_⟩; have n0_ := Aside0.mk (Kd.R_elder' HO180.out (Kd.R_base ho0) hb); have n1_ := Aside0.mk (Kd.R_lower (Kd.R_new' (Kd.R_newM (M := fun k_ => (P0_ k_ ∨ w.heap.size ≤ k_)) ho0 (by first | exact HK.out.1 | exact (show Kept w _ (fun k_ => P0_ k_) from by repeat (first | (with_reducible first | exact HK.out | apply Kept.alloc | apply Kept.drewN | apply Kept.drew | refine Kept.setCell ?_ (.inr GW162.out) _ | refine Kept.setCell ?_ (.inr GW163.out) _) | exact HK.out)).1) (fun k_ h_ => .inr h_)) (Kd.R_lt HO180.out)) (below_size HB.out)); have n2_ := Aside0.mk (blk_below BK162.out hb); have n3_ := Aside0.mk (blk_below BK163.out hb); have n4_ := Aside0.mk (Kept.below (S := (fun k_ => P0_ k_)) HK.out hb); have n5_ := Aside0.mk (below_step HB.out hb); clear HO180 BK162 BK163 HK HB; have HO180 := n0_; have HO183 := n1_; have BK162 := n2_; have BK163 := n3_; have HK := n4_; have HB := n5_; clear n0_ n1_ n2_ n3_ n4_ n5_; (try clear ho0)))
                      go_ret
                      exact ⟨_, rfl, by (with_reducible repeat (first | apply Kd.R_alloc | apply Kd.R_drewN | apply Kd.R_drew)); exact Kd.R_mono HO183.out (fun _ hk => hk.1.1), by repeat (first | (with_reducible first | exact HB.out | apply below_alloc | apply pw_below_drewN | apply below_drew1 | refine below_set ?_ GE162.out | refine below_set ?_ GE163.out) | exact HB.out), by repeat (first | (with_reducible first | exact HK.out | apply Kept.alloc | apply Kept.drewN | apply Kept.drew | refine Kept.setCell ?_ (.inr GW162.out) _ | refine Kept.setCell ?_ (.inr GW163.out) _) | exact HK.out)⟩
                    · replace c57 := Bool.eq_false_iff.mpr c57
                      subst c57
                      have H1 : (some t178) = some r := by rw [if_neg (show ¬ (false = true) by decide)] at H; exact H
                      clear H
                      have H := H1
                      clear H1
                      obtain rfl := Option.some.inj H
                      have hnb66 := NB163_162.out
                      have hnc66 := NB162_163.out
                      have hcz67_0 : wc.cell? ⟨gb163, 0, none⟩ = some (.int .i64 a2_0) := (blk_cell BK163.out 0).trans rfl
                      have hcz67_1 : wc.cell? ⟨gb163, 1, none⟩ = some (.int .i64 a2_1) := (blk_cell BK163.out 1).trans rfl
                      have hcz67_2 : wc.cell? ⟨gb163, 2, none⟩ = some (.string a2_2) := (blk_cell BK163.out 2).trans rfl
                      have hfz67_0 := blk_frozen BK163.out 0
                      have hfz67_1 := blk_frozen BK163.out 1
                      have hfz67_2 := blk_frozen BK163.out 2
                      obtain ⟨Ao68, co68, eo68⟩ := Kd.R_slice HO_0.out
                      subst eo68
                      go_wp2_with (first | ((with_reducible refine gate_callee (f := 98) rfl ?_); refine gL (some 48) Try.func98 #[.slice Ao68 x0_27.length co68, .int .i64 a2_1] ?_; (with_reducible refine (impl_addVar.calls kj27 (fun k_ => some k_ = (.slice Ao68 x0_27.length co68 : Value).ownBlock) (.slice Ao68 x0_27.length co68) x0_27 a2_1 t178 w0 _ ?side1 ?side2 A56.out).mono ?_); (case side1 => exact HB.out); (case side2 => exact Kd.R_tight rfl HO_0.out); rintro e w69 ⟨v179, rfl, ho0, hb, hkp⟩; refine ⟨_, rfl, ?_⟩; have n0_ := Aside0.mk (blk_kept BK162.out hkp (fun hs_ => (fun e_ => (Kd.R_ne HO_0.out BK162.out (by decide)) e_) hs_)); have n1_ := Aside0.mk (blk_kept BK163.out hkp (fun hs_ => (fun e_ => (Kd.R_ne HO_0.out BK163.out (by decide)) e_) hs_)); have n2_ := Aside0.mk (Kd.R_mono (ok' := fun k_ => (P0_ k_ ∨ w.heap.size ≤ k_)) ho0 (fun k_ hk_ => Or.elim hk_ (fun hs_ => (HO_0.out.1 k_ (hs_).symm)) (fun hn_ => (.inr (Nat.le_trans (by first | exact HK.out.1 | exact (show Kept w _ (fun k_ => P0_ k_) from by repeat (first | (with_reducible first | exact HK.out | apply Kept.alloc | apply Kept.drewN | apply Kept.drew | refine Kept.setCell ?_ (.inr GW162.out) _ | refine Kept.setCell ?_ (.inr GW163.out) _) | exact HK.out)).1) hn_))))); have n3_ := Aside0.mk (Kept.then_ (S := (fun k_ => P0_ k_)) HK.out hkp (fun k_ hs_ => (fun e_ => (HO_0.out.1 k_ e_.symm)) hs_)); have n4_ := Aside0.mk (hb); clear BK162 BK163 HK HB HO_0; have BK162 := n0_; have BK163 := n1_; have HO180 := n2_; have HK := n3_; have HB := n4_; clear n0_ n1_ n2_ n3_ n4_; (try clear hb); (try clear hkp); (try clear ho0); have hcz70_0 : w69.cell? ⟨gb162, 0, none⟩ = some (.int .i64 a1_0) := (blk_cell BK162.out 0).trans rfl; have hcz70_1 : w69.cell? ⟨gb162, 1, none⟩ = some (.int .i64 a1_1) := (blk_cell BK162.out 1).trans rfl; have hcz70_2 : w69.cell? ⟨gb162, 2, none⟩ = some (.bool a1_2) := (blk_cell BK162.out 2).trans rfl; have hcz70_3 : w69.cell? ⟨gb162, 3, none⟩ = some (.bool false) := (blk_cell BK162.out 3).trans rfl; have hfz70_0 := blk_frozen BK162.out 0; have hfz70_1 := blk_frozen BK162.out 1; have hfz70_2 := blk_frozen BK162.out 2; have hfz70_3 := blk_frozen BK162.out 3))
                      go_ret
                      exact ⟨_, rfl, by (with_reducible repeat (first | apply Kd.R_alloc | apply Kd.R_drewN | apply Kd.R_drew)); exact HO180.out, by repeat (first | (with_reducible first | exact HB.out | apply below_alloc | apply pw_below_drewN | apply below_drew1 | refine below_set ?_ GE162.out | refine below_set ?_ GE163.out) | exact HB.out), by repeat (first | (with_reducible first | exact HK.out | apply Kept.alloc | apply Kept.drewN | apply Kept.drew | refine Kept.setCell ?_ (.inr GW162.out) _ | refine Kept.setCell ?_ (.inr GW163.out) _) | exact HK.out)⟩
                  · rw [if_neg c55] at H
                    have c55b0 : (a2_0 == 2) = false := beq_eq_false_iff_ne.mpr c55
                    have c55b1 : (a2_0 != 2) = true := bne_iff_ne.mpr c55
                    by_cases c71 : a2_0 = 3
                    · rw [if_pos c71] at H
                      have c71b0 : (a2_0 == 3) = true := beq_iff_eq.mpr c71
                      have c71b1 : (a2_0 != 3) = false := bne_eq_false_iff_eq.mpr c71
                      clear c71
                      replace H := Option.bind_eq_some_iff.mp H
                      obtain ⟨t184, A720, H⟩ := H
                      replace H : (if a1_3 = true then ((impl_Flip.f kj27 t184 (l0.length : Int)).bind fun t187 => (some t187)) else (some t184)) = some r := H
                      have A72 := Aside0.mk A720
                      clear A720
                      by_cases c73 : a1_3 = true
                      · subst c73
                        have H1 : ((impl_Flip.f kj27 t184 (l0.length : Int)).bind fun t187 => (some t187)) = some r := by rw [if_pos rfl] at H; exact H
                        clear H
                        have H := H1
                        clear H1
                        replace H := Option.bind_eq_some_iff.mp H
                        obtain ⟨t187, A740, H⟩ := H
                        replace H : (some t187) = some r := H
                        have A74 := Aside0.mk A740
                        clear A740
                        obtain rfl := Option.some.inj H
                        have hnb75 := NB163_162.out
                        have hnc75 := NB162_163.out
                        have hcz76_0 : wc.cell? ⟨gb163, 0, none⟩ = some (.int .i64 a2_0) := (blk_cell BK163.out 0).trans rfl
                        have hcz76_1 : wc.cell? ⟨gb163, 1, none⟩ = some (.int .i64 a2_1) := (blk_cell BK163.out 1).trans rfl
                        have hcz76_2 : wc.cell? ⟨gb163, 2, none⟩ = some (.string a2_2) := (blk_cell BK163.out 2).trans rfl
                        have hfz76_0 := blk_frozen BK163.out 0
                        have hfz76_1 := blk_frozen BK163.out 1
                        have hfz76_2 := blk_frozen BK163.out 2
                        obtain ⟨Ao77, co77, eo77⟩ := Kd.R_slice HO_0.out
                        subst eo77
                        go_wp2_with (first | ((with_reducible refine gate_callee (f := 99) rfl ?_); refine gL (some 54) Try.func99 #[.slice Ao77 x0_27.length co77, .string a2_2] ?_; (with_reducible refine (impl_addEsc.calls kj27 (fun k_ => some k_ = (.slice Ao77 x0_27.length co77 : Value).ownBlock) (.slice Ao77 x0_27.length co77) x0_27 a2_2 t184 w0 _ ?side1 ?side2 A72.out).mono ?_); (case side1 => exact HB.out); (case side2 => exact Kd.R_tight rfl HO_0.out); rintro e w78 ⟨v185, rfl, ho0, hb, hkp⟩; refine ⟨_, rfl, ?_⟩; have n0_ := Aside0.mk (blk_kept BK162.out hkp (fun hs_ => (fun e_ => (Kd.R_ne HO_0.out BK162.out (by decide)) e_) hs_)); have n1_ := Aside0.mk (blk_kept BK163.out hkp (fun hs_ => (fun e_ => (Kd.R_ne HO_0.out BK163.out (by decide)) e_) hs_)); have n2_ := Aside0.mk (Kd.R_mono (ok' := fun k_ => (P0_ k_ ∨ w.heap.size ≤ k_)) ho0 (fun k_ hk_ => Or.elim hk_ (fun hs_ => (HO_0.out.1 k_ (hs_).symm)) (fun hn_ => (.inr (Nat.le_trans (by first | exact HK.out.1 | exact (show Kept w _ (fun k_ => P0_ k_) from by repeat (first | (with_reducible first | exact HK.out | apply Kept.alloc | apply Kept.drewN | apply Kept.drew | refine Kept.setCell ?_ (.inr GW162.out) _ | refine Kept.setCell ?_ (.inr GW163.out) _) | exact HK.out)).1) hn_))))); have n3_ := Aside0.mk (Kept.then_ (S := (fun k_ => P0_ k_)) HK.out hkp (fun k_ hs_ => (fun e_ => (HO_0.out.1 k_ e_.symm)) hs_)); have n4_ := Aside0.mk (hb); clear BK162 BK163 HK HB HO_0; have BK162 := n0_; have BK163 := n1_; have HO186 := n2_; have HK := n3_; have HB := n4_; clear n0_ n1_ n2_ n3_ n4_; (try clear hb); (try clear hkp); (try clear ho0); have hcz79_0 : w78.cell? ⟨gb162, 0, none⟩ = some (.int .i64 a1_0) := (blk_cell BK162.out 0).trans rfl; have hcz79_1 : w78.cell? ⟨gb162, 1, none⟩ = some (.int .i64 a1_1) := (blk_cell BK162.out 1).trans rfl; have hcz79_2 : w78.cell? ⟨gb162, 2, none⟩ = some (.bool a1_2) := (blk_cell BK162.out 2).trans rfl; have hcz79_3 : w78.cell? ⟨gb162, 3, none⟩ = some (.bool true) := (blk_cell BK162.out 3).trans rfl; have hfz79_0 := blk_frozen BK162.out 0; have hfz79_1 := blk_frozen BK162.out 1; have hfz79_2 := blk_frozen BK162.out 2; have hfz79_3 := blk_frozen BK162.out 3; obtain ⟨Ao80, co80, eo80⟩ := Kd.R_slice HO186.out; subst eo80) | ((with_reducible refine gate_callee (f := 73) rfl ?_); refine gL (some 67) Try.func73 #[.slice Ao80 t184.length co80, .int .i64 (l0.length : Int)] ?_; (with_reducible refine (impl_Flip.calls kj27 _ _ t184 (l0.length : Int) t187 _ ?side1 ?side2 A74.out).mono ?_); (case side1 => exact (Kd.R_reads' HO186.out).2.2); (case side2 => exact (Kd.R_reads' HO186.out).2.1); rintro e w81 ⟨v188, rfl, ho0, hb⟩; refine ⟨_, rfl, ?_⟩; have n0_ := Aside0.mk (Kd.R_elder' HO186.out (Kd.R_base ho0) hb); have n1_ := Aside0.mk (Kd.R_lower (Kd.R_new' (Kd.R_newM (M := fun k_ => (P0_ k_ ∨ w.heap.size ≤ k_)) ho0 (by first | exact HK.out.1 | exact (show Kept w _ (fun k_ => P0_ k_) from by repeat (first | (with_reducible first | exact HK.out | apply Kept.alloc | apply Kept.drewN | apply Kept.drew | refine Kept.setCell ?_ (.inr GW162.out) _ | refine Kept.setCell ?_ (.inr GW163.out) _) | exact HK.out)).1) (fun k_ h_ => .inr h_)) (Kd.R_lt HO186.out)) (below_size HB.out)); have n2_ := Aside0.mk (blk_below BK162.out hb); have n3_ := Aside0.mk (blk_below BK163.out hb); have n4_ := Aside0.mk (Kept.below (S := (fun k_ => P0_ k_)) HK.out hb); have n5_ := Aside0.mk (below_step HB.out hb); clear HO186 BK162 BK163 HK HB; have HO186 := n0_; have HO189 := n1_; have BK162 := n2_; have BK163 := n3_; have HK := n4_; have HB := n5_; clear n0_ n1_ n2_ n3_ n4_ n5_; (try clear ho0)))
                        go_ret
                        exact ⟨_, rfl, by (with_reducible repeat (first | apply Kd.R_alloc | apply Kd.R_drewN | apply Kd.R_drew)); exact Kd.R_mono HO189.out (fun _ hk => hk.1.1), by repeat (first | (with_reducible first | exact HB.out | apply below_alloc | apply pw_below_drewN | apply below_drew1 | refine below_set ?_ GE162.out | refine below_set ?_ GE163.out) | exact HB.out), by repeat (first | (with_reducible first | exact HK.out | apply Kept.alloc | apply Kept.drewN | apply Kept.drew | refine Kept.setCell ?_ (.inr GW162.out) _ | refine Kept.setCell ?_ (.inr GW163.out) _) | exact HK.out)⟩
                      · replace c73 := Bool.eq_false_iff.mpr c73
                        subst c73
                        have H1 : (some t184) = some r := by rw [if_neg (show ¬ (false = true) by decide)] at H; exact H
                        clear H
                        have H := H1
                        clear H1
                        obtain rfl := Option.some.inj H
                        have hnb82 := NB163_162.out
                        have hnc82 := NB162_163.out
                        have hcz83_0 : wc.cell? ⟨gb163, 0, none⟩ = some (.int .i64 a2_0) := (blk_cell BK163.out 0).trans rfl
                        have hcz83_1 : wc.cell? ⟨gb163, 1, none⟩ = some (.int .i64 a2_1) := (blk_cell BK163.out 1).trans rfl
                        have hcz83_2 : wc.cell? ⟨gb163, 2, none⟩ = some (.string a2_2) := (blk_cell BK163.out 2).trans rfl
                        have hfz83_0 := blk_frozen BK163.out 0
                        have hfz83_1 := blk_frozen BK163.out 1
                        have hfz83_2 := blk_frozen BK163.out 2
                        obtain ⟨Ao84, co84, eo84⟩ := Kd.R_slice HO_0.out
                        subst eo84
                        go_wp2_with (first | ((with_reducible refine gate_callee (f := 99) rfl ?_); refine gL (some 54) Try.func99 #[.slice Ao84 x0_27.length co84, .string a2_2] ?_; (with_reducible refine (impl_addEsc.calls kj27 (fun k_ => some k_ = (.slice Ao84 x0_27.length co84 : Value).ownBlock) (.slice Ao84 x0_27.length co84) x0_27 a2_2 t184 w0 _ ?side1 ?side2 A72.out).mono ?_); (case side1 => exact HB.out); (case side2 => exact Kd.R_tight rfl HO_0.out); rintro e w85 ⟨v185, rfl, ho0, hb, hkp⟩; refine ⟨_, rfl, ?_⟩; have n0_ := Aside0.mk (blk_kept BK162.out hkp (fun hs_ => (fun e_ => (Kd.R_ne HO_0.out BK162.out (by decide)) e_) hs_)); have n1_ := Aside0.mk (blk_kept BK163.out hkp (fun hs_ => (fun e_ => (Kd.R_ne HO_0.out BK163.out (by decide)) e_) hs_)); have n2_ := Aside0.mk (Kd.R_mono (ok' := fun k_ => (P0_ k_ ∨ w.heap.size ≤ k_)) ho0 (fun k_ hk_ => Or.elim hk_ (fun hs_ => (HO_0.out.1 k_ (hs_).symm)) (fun hn_ => (.inr (Nat.le_trans (by first | exact HK.out.1 | exact (show Kept w _ (fun k_ => P0_ k_) from by repeat (first | (with_reducible first | exact HK.out | apply Kept.alloc | apply Kept.drewN | apply Kept.drew | refine Kept.setCell ?_ (.inr GW162.out) _ | refine Kept.setCell ?_ (.inr GW163.out) _) | exact HK.out)).1) hn_))))); have n3_ := Aside0.mk (Kept.then_ (S := (fun k_ => P0_ k_)) HK.out hkp (fun k_ hs_ => (fun e_ => (HO_0.out.1 k_ e_.symm)) hs_)); have n4_ := Aside0.mk (hb); clear BK162 BK163 HK HB HO_0; have BK162 := n0_; have BK163 := n1_; have HO186 := n2_; have HK := n3_; have HB := n4_; clear n0_ n1_ n2_ n3_ n4_; (try clear hb); (try clear hkp); (try clear ho0); have hcz86_0 : w85.cell? ⟨gb162, 0, none⟩ = some (.int .i64 a1_0) := (blk_cell BK162.out 0).trans rfl; have hcz86_1 : w85.cell? ⟨gb162, 1, none⟩ = some (.int .i64 a1_1) := (blk_cell BK162.out 1).trans rfl; have hcz86_2 : w85.cell? ⟨gb162, 2, none⟩ = some (.bool a1_2) := (blk_cell BK162.out 2).trans rfl; have hcz86_3 : w85.cell? ⟨gb162, 3, none⟩ = some (.bool false) := (blk_cell BK162.out 3).trans rfl; have hfz86_0 := blk_frozen BK162.out 0; have hfz86_1 := blk_frozen BK162.out 1; have hfz86_2 := blk_frozen BK162.out 2; have hfz86_3 := blk_frozen BK162.out 3))
                        go_ret
                        exact ⟨_, rfl, by (with_reducible repeat (first | apply Kd.R_alloc | apply Kd.R_drewN | apply Kd.R_drew)); exact HO186.out, by repeat (first | (with_reducible first | exact HB.out | apply below_alloc | apply pw_below_drewN | apply below_drew1 | refine below_set ?_ GE162.out | refine below_set ?_ GE163.out) | exact HB.out), by repeat (first | (with_reducible first | exact HK.out | apply Kept.alloc | apply Kept.drewN | apply Kept.drew | refine Kept.setCell ?_ (.inr GW162.out) _ | refine Kept.setCell ?_ (.inr GW163.out) _) | exact HK.out)⟩
                    · rw [if_neg c71] at H
                      have c71b0 : (a2_0 == 3) = false := beq_eq_false_iff_ne.mpr c71
                      have c71b1 : (a2_0 != 3) = true := bne_iff_ne.mpr c71
                      by_cases c87 : a2_0 = 4
                      · rw [if_pos c87] at H
                        have c87b0 : (a2_0 == 4) = true := beq_iff_eq.mpr c87
                        have c87b1 : (a2_0 != 4) = false := bne_eq_false_iff_eq.mpr c87
                        clear c87
                        by_cases c88 : x0_27.length < 140737488355328
                        · rw [if_pos c88] at H
                          have LMc88 := Aside0.mk c88
                          clear c88
                          obtain ⟨y190, hy190⟩ : ∃ y_ : List Int, y_ = (x0_27 ++ [(a2_1) % 256]) := ⟨_, rfl⟩
                          replace H : (if a1_3 = true then ((impl_Flip.f kj27 y190 (l0.length : Int)).bind fun t193 => (some t193)) else (some y190)) = some r := by rw [hy190]; exact H
                          have Ny190 := Aside0.mk hy190
                          clear hy190
                          by_cases c89 : a1_3 = true
                          · subst c89
                            have H1 : ((impl_Flip.f kj27 y190 (l0.length : Int)).bind fun t193 => (some t193)) = some r := by rw [if_pos rfl] at H; exact H
                            clear H
                            have H := H1
                            clear H1
                            replace H := Option.bind_eq_some_iff.mp H
                            obtain ⟨t193, A900, H⟩ := H
                            replace H : (some t193) = some r := H
                            have A90 := Aside0.mk A900
                            clear A900
                            obtain rfl := Option.some.inj H
                            have hnb91 := NB163_162.out
                            have hnc91 := NB162_163.out
                            have hcz92_0 : wc.cell? ⟨gb163, 0, none⟩ = some (.int .i64 a2_0) := (blk_cell BK163.out 0).trans rfl
                            have hcz92_1 : wc.cell? ⟨gb163, 1, none⟩ = some (.int .i64 a2_1) := (blk_cell BK163.out 1).trans rfl
                            have hcz92_2 : wc.cell? ⟨gb163, 2, none⟩ = some (.string a2_2) := (blk_cell BK163.out 2).trans rfl
                            have hfz92_0 := blk_frozen BK163.out 0
                            have hfz92_1 := blk_frozen BK163.out 1
                            have hfz92_2 := blk_frozen BK163.out 2
                            go_wp2_with (first | ((with_reducible refine gate_builtin (b := .append) (xs := #[.tmp 57, .tmp 61]) rfl ?_); at_builtin; refine Kd.R_append (Kd.int .u8) (w0 := w0) w0.heap.size rfl (.tmp 57) (.tmp 61) 22 5 (.int .u8 0) 1 rfl Try.underlying22 info5 rfl (by decide) (by omega) u0 x0_27 ((a2_1) % 256) [.int .u8 ((a2_1) % 256)] (fun k_ => (P0_ k_ ∨ w.heap.size ≤ k_)) (fun _ => False) rfl rfl ?aP (fun _ hk => hk.elim) ?aF ?aO ?aB ?aS ?aL ?_; (case aP => exact rfl); (case aB => exact HB.out); (case aF => exact (fun k_ hk => (.inr (Nat.le_trans (by first | exact HK.out.1 | exact (show Kept w _ (fun k_ => P0_ k_) from by repeat (first | (with_reducible first | exact HK.out | apply Kept.alloc | apply Kept.drewN | apply Kept.drew | refine Kept.setCell ?_ (.inr GW162.out) _ | refine Kept.setCell ?_ (.inr GW163.out) _) | exact HK.out)).1) hk)))); (case aO => exact HO_0.out); (case aS => exact (below_size HB.out)); (case aL => have := LMc88.out; omega); intro v191 w93 ho hb hg hat; rw [← Ny190.out] at ho; have n0_ := Aside0.mk (blk_grown (g := gb162) (o := .cells #[.int .i64 a1_0, .int .i64 a1_1, .bool a1_2, .bool true] 30 (0, 0)) BK162.out hg (Kd.R_ne HO_0.out BK162.out (by decide))); have n1_ := Aside0.mk (blk_grown (g := gb163) (o := .cells #[.int .i64 a2_0, .int .i64 a2_1, .string a2_2] 32 (0, 0)) BK163.out hg (Kd.R_ne HO_0.out BK163.out (by decide))); have n2_ := Aside0.mk (hb); have n3_ := Aside0.mk (Kept.of_grown (S := (fun k_ => P0_ k_)) hg HK.out (fun k_ e_ => (HO_0.out.1 k_ e_))); have n4_ := Aside0.mk (ho); clear BK162 BK163 HB HK HO_0; have BK162 := n0_; have BK163 := n1_; have HB := n2_; have HK := n3_; have HO192 := n4_; clear n0_ n1_ n2_ n3_ n4_; clear ho hb hg hat; have hcz94_0 : w93.cell? ⟨gb162, 0, none⟩ = some (.int .i64 a1_0) := (blk_cell BK162.out 0).trans rfl; have hcz94_1 : w93.cell? ⟨gb162, 1, none⟩ = some (.int .i64 a1_1) := (blk_cell BK162.out 1).trans rfl; have hcz94_2 : w93.cell? ⟨gb162, 2, none⟩ = some (.bool a1_2) := (blk_cell BK162.out 2).trans rfl; have hcz94_3 : w93.cell? ⟨gb162, 3, none⟩ = some (.bool true) := (blk_cell BK162.out 3).trans rfl; have hfz94_0 := blk_frozen BK162.out 0; have hfz94_1 := blk_frozen BK162.out 1; have hfz94_2 := blk_frozen BK162.out 2; have hfz94_3 := blk_frozen BK162.out 3; obtain ⟨Ao95, co95, eo95⟩ := Kd.R_slice HO192.out; subst eo95) | ((with_reducible refine gate_callee (f := 73) rfl ?_); refine gL (some 67) Try.func73 #[.slice Ao95 y190.length co95, .int .i64 (l0.length : Int)] ?_; (with_reducible refine (impl_Flip.calls kj27 _ _ y190 (l0.length : Int) t193 _ ?side1 ?side2 A90.out).mono ?_); (case side1 => exact (Kd.R_reads' HO192.out).2.2); (case side2 => exact (Kd.R_reads' HO192.out).2.1); rintro e w96 ⟨v194, rfl, ho0, hb⟩; refine ⟨_, rfl, ?_⟩; have n0_ := Aside0.mk (Kd.R_elder' HO192.out (Kd.R_base ho0) hb); have n1_ := Aside0.mk (Kd.R_lower (Kd.R_new' (Kd.R_newM (M := fun k_ => (P0_ k_ ∨ w.heap.size ≤ k_)) ho0 (by first | exact HK.out.1 | exact (show Kept w _ (fun k_ => P0_ k_) from by repeat (first | (with_reducible first | exact HK.out | apply Kept.alloc | apply Kept.drewN | apply Kept.drew | refine Kept.setCell ?_ (.inr GW162.out) _ | refine Kept.setCell ?_ (.inr GW163.out) _) | exact HK.out)).1) (fun k_ h_ => .inr h_)) (Kd.R_lt HO192.out)) (below_size HB.out)); have n2_ := Aside0.mk (blk_below BK162.out hb); have n3_ := Aside0.mk (blk_below BK163.out hb); have n4_ := Aside0.mk (Kept.below (S := (fun k_ => P0_ k_)) HK.out hb); have n5_ := Aside0.mk (below_step HB.out hb); clear HO192 BK162 BK163 HK HB; have HO192 := n0_; have HO195 := n1_; have BK162 := n2_; have BK163 := n3_; have HK := n4_; have HB := n5_; clear n0_ n1_ n2_ n3_ n4_ n5_; (try clear ho0)))
                            go_ret
                            exact ⟨_, rfl, by (with_reducible repeat (first | apply Kd.R_alloc | apply Kd.R_drewN | apply Kd.R_drew)); exact Kd.R_mono HO195.out (fun _ hk => hk.1.1), by repeat (first | (with_reducible first | exact HB.out | apply below_alloc | apply pw_below_drewN | apply below_drew1 | refine below_set ?_ GE162.out | refine below_set ?_ GE163.out) | exact HB.out), by repeat (first | (with_reducible first | exact HK.out | apply Kept.alloc | apply Kept.drewN | apply Kept.drew | refine Kept.setCell ?_ (.inr GW162.out) _ | refine Kept.setCell ?_ (.inr GW163.out) _) | exact HK.out)⟩
                          · replace c89 := Bool.eq_false_iff.mpr c89
                            subst c89
                            have H1 : (some y190) = some r := by rw [if_neg (show ¬ (false = true) by decide)] at H; exact H
                            clear H
                            have H := H1
                            clear H1
                            obtain rfl := Option.some.inj H
                            have hnb97 := NB163_162.out
                            have hnc97 := NB162_163.out
                            have hcz98_0 : wc.cell? ⟨gb163, 0, none⟩ = some (.int .i64 a2_0) := (blk_cell BK163.out 0).trans rfl
                            have hcz98_1 : wc.cell? ⟨gb163, 1, none⟩ = some (.int .i64 a2_1) := (blk_cell BK163.out 1).trans rfl
                            have hcz98_2 : wc.cell? ⟨gb163, 2, none⟩ = some (.string a2_2) := (blk_cell BK163.out 2).trans rfl
                            have hfz98_0 := blk_frozen BK163.out 0
                            have hfz98_1 := blk_frozen BK163.out 1
                            have hfz98_2 := blk_frozen BK163.out 2
                            go_wp2_with (first | ((with_reducible refine gate_builtin (b := .append) (xs := #[.tmp 57, .tmp 61]) rfl ?_); at_builtin; refine Kd.R_append (Kd.int .u8) (w0 := w0) w0.heap.size rfl (.tmp 57) (.tmp 61) 22 5 (.int .u8 0) 1 rfl Try.underlying22 info5 rfl (by decide) (by omega) u0 x0_27 ((a2_1) % 256) [.int .u8 ((a2_1) % 256)] (fun k_ => (P0_ k_ ∨ w.heap.size ≤ k_)) (fun _ => False) rfl rfl ?aP (fun _ hk => hk.elim) ?aF ?aO ?aB ?aS ?aL ?_; (case aP => exact rfl); (case aB => exact HB.out); (case aF => exact (fun k_ hk => (.inr (Nat.le_trans (by first | exact HK.out.1 | exact (show Kept w _ (fun k_ => P0_ k_) from by repeat (first | (with_reducible first | exact HK.out | apply Kept.alloc | apply Kept.drewN | apply Kept.drew | refine Kept.setCell ?_ (.inr GW162.out) _ | refine Kept.setCell ?_ (.inr GW163.out) _) | exact HK.out)).1) hk)))); (case aO => exact HO_0.out); (case aS => exact (below_size HB.out)); (case aL => have := LMc88.out; omega); intro v191 w99 ho hb hg hat; rw [← Ny190.out] at ho; have n0_ := Aside0.mk (blk_grown (g := gb162) (o := .cells #[.int .i64 a1_0, .int .i64 a1_1, .bool a1_2, .bool false] 30 (0, 0)) BK162.out hg (Kd.R_ne HO_0.out BK162.out (by decide))); have n1_ := Aside0.mk (blk_grown (g := gb163) (o := .cells #[.int .i64 a2_0, .int .i64 a2_1, .string a2_2] 32 (0, 0)) BK163.out hg (Kd.R_ne HO_0.out BK163.out (by decide))); have n2_ := Aside0.mk (hb); have n3_ := Aside0.mk (Kept.of_grown (S := (fun k_ => P0_ k_)) hg HK.out (fun k_ e_ => (HO_0.out.1 k_ e_))); have n4_ := Aside0.mk (ho); clear BK162 BK163 HB HK HO_0; have BK162 := n0_; have BK163 := n1_; have HB := n2_; have HK := n3_; have HO192 := n4_; clear n0_ n1_ n2_ n3_ n4_; clear ho hb hg hat; have hcz100_0 : w99.cell? ⟨gb162, 0, none⟩ = some (.int .i64 a1_0) := (blk_cell BK162.out 0).trans rfl; have hcz100_1 : w99.cell? ⟨gb162, 1, none⟩ = some (.int .i64 a1_1) := (blk_cell BK162.out 1).trans rfl; have hcz100_2 : w99.cell? ⟨gb162, 2, none⟩ = some (.bool a1_2) := (blk_cell BK162.out 2).trans rfl; have hcz100_3 : w99.cell? ⟨gb162, 3, none⟩ = some (.bool false) := (blk_cell BK162.out 3).trans rfl; have hfz100_0 := blk_frozen BK162.out 0; have hfz100_1 := blk_frozen BK162.out 1; have hfz100_2 := blk_frozen BK162.out 2; have hfz100_3 := blk_frozen BK162.out 3))
                            go_ret
                            exact ⟨_, rfl, by (with_reducible repeat (first | apply Kd.R_alloc | apply Kd.R_drewN | apply Kd.R_drew)); exact HO192.out, by repeat (first | (with_reducible first | exact HB.out | apply below_alloc | apply pw_below_drewN | apply below_drew1 | refine below_set ?_ GE162.out | refine below_set ?_ GE163.out) | exact HB.out), by repeat (first | (with_reducible first | exact HK.out | apply Kept.alloc | apply Kept.drewN | apply Kept.drew | refine Kept.setCell ?_ (.inr GW162.out) _ | refine Kept.setCell ?_ (.inr GW163.out) _) | exact HK.out)⟩
                        · rw [if_neg c88] at H
                          exact absurd H (by simp)
                      · rw [if_neg c87] at H
                        have c87b0 : (a2_0 == 4) = false := beq_eq_false_iff_ne.mpr c87
                        have c87b1 : (a2_0 != 4) = true := bne_iff_ne.mpr c87
                        by_cases c101 : a1_3 = true
                        · subst c101
                          have H1 : ((impl_Flip.f kj27 x0_27 (l0.length : Int)).bind fun t196 => (some t196)) = some r := by rw [if_pos rfl] at H; exact H
                          clear H
                          have H := H1
                          clear H1
                          replace H := Option.bind_eq_some_iff.mp H
                          obtain ⟨t196, A1020, H⟩ := H
                          replace H : (some t196) = some r := H
                          have A102 := Aside0.mk A1020
                          clear A1020
                          obtain rfl := Option.some.inj H
                          have hnb103 := NB163_162.out
                          have hnc103 := NB162_163.out
                          have hcz104_0 : wc.cell? ⟨gb163, 0, none⟩ = some (.int .i64 a2_0) := (blk_cell BK163.out 0).trans rfl
                          have hcz104_1 : wc.cell? ⟨gb163, 1, none⟩ = some (.int .i64 a2_1) := (blk_cell BK163.out 1).trans rfl
                          have hcz104_2 : wc.cell? ⟨gb163, 2, none⟩ = some (.string a2_2) := (blk_cell BK163.out 2).trans rfl
                          have hfz104_0 := blk_frozen BK163.out 0
                          have hfz104_1 := blk_frozen BK163.out 1
                          have hfz104_2 := blk_frozen BK163.out 2
                          have hcz105_0 : wc.cell? ⟨gb162, 0, none⟩ = some (.int .i64 a1_0) := (blk_cell BK162.out 0).trans rfl
                          have hcz105_1 : wc.cell? ⟨gb162, 1, none⟩ = some (.int .i64 a1_1) := (blk_cell BK162.out 1).trans rfl
                          have hcz105_2 : wc.cell? ⟨gb162, 2, none⟩ = some (.bool a1_2) := (blk_cell BK162.out 2).trans rfl
                          have hcz105_3 : wc.cell? ⟨gb162, 3, none⟩ = some (.bool true) := (blk_cell BK162.out 3).trans rfl
                          have hfz105_0 := blk_frozen BK162.out 0
                          have hfz105_1 := blk_frozen BK162.out 1
                          have hfz105_2 := blk_frozen BK162.out 2
                          have hfz105_3 := blk_frozen BK162.out 3
                          obtain ⟨Ao106, co106, eo106⟩ := Kd.R_slice HO_0.out
                          subst eo106
                          go_wp2_with (first | ((with_reducible refine gate_callee (f := 73) rfl ?_); refine gL (some 67) Try.func73 #[.slice Ao106 x0_27.length co106, .int .i64 (l0.length : Int)] ?_; (with_reducible refine (impl_Flip.calls kj27 _ _ x0_27 (l0.length : Int) t196 _ ?side1 ?side2 A102.out).mono ?_); (case side1 => exact (Kd.R_reads' HO_0.out).2.2); (case side2 => exact (Kd.R_reads' HO_0.out).2.1); rintro e w107 ⟨v197, rfl, ho0, hb⟩; refine ⟨_, rfl, ?_⟩; have n0_ := Aside0.mk (Kd.R_elder' HO_0.out (Kd.R_base ho0) hb); have n1_ := Aside0.mk (Kd.R_lower (Kd.R_new' (Kd.R_newM (M := fun k_ => (P0_ k_ ∨ w.heap.size ≤ k_)) ho0 (by first | exact HK.out.1 | exact (show Kept w _ (fun k_ => P0_ k_) from by repeat (first | (with_reducible first | exact HK.out | apply Kept.alloc | apply Kept.drewN | apply Kept.drew | refine Kept.setCell ?_ (.inr GW162.out) _ | refine Kept.setCell ?_ (.inr GW163.out) _) | exact HK.out)).1) (fun k_ h_ => .inr h_)) (Kd.R_lt HO_0.out)) (below_size HB.out)); have n2_ := Aside0.mk (blk_below BK162.out hb); have n3_ := Aside0.mk (blk_below BK163.out hb); have n4_ := Aside0.mk (Kept.below (S := (fun k_ => P0_ k_)) HK.out hb); have n5_ := Aside0.mk (below_step HB.out hb); clear HO_0 BK162 BK163 HK HB; have HO_0 := n0_; have HO198 := n1_; have BK162 := n2_; have BK163 := n3_; have HK := n4_; have HB := n5_; clear n0_ n1_ n2_ n3_ n4_ n5_; (try clear ho0)))
                          go_ret
                          exact ⟨_, rfl, by (with_reducible repeat (first | apply Kd.R_alloc | apply Kd.R_drewN | apply Kd.R_drew)); exact Kd.R_mono HO198.out (fun _ hk => hk.1.1), by repeat (first | (with_reducible first | exact HB.out | apply below_alloc | apply pw_below_drewN | apply below_drew1 | refine below_set ?_ GE162.out | refine below_set ?_ GE163.out) | exact HB.out), by repeat (first | (with_reducible first | exact HK.out | apply Kept.alloc | apply Kept.drewN | apply Kept.drew | refine Kept.setCell ?_ (.inr GW162.out) _ | refine Kept.setCell ?_ (.inr GW163.out) _) | exact HK.out)⟩
                        · replace c101 := Bool.eq_false_iff.mpr c101
                          subst c101
                          have H1 : (some x0_27) = some r := by rw [if_neg (show ¬ (false = true) by decide)] at H; exact H
                          clear H
                          have H := H1
                          clear H1
                          obtain rfl := Option.some.inj H
                          have hnb108 := NB163_162.out
                          have hnc108 := NB162_163.out
                          have hcz109_0 : wc.cell? ⟨gb163, 0, none⟩ = some (.int .i64 a2_0) := (blk_cell BK163.out 0).trans rfl
                          have hcz109_1 : wc.cell? ⟨gb163, 1, none⟩ = some (.int .i64 a2_1) := (blk_cell BK163.out 1).trans rfl
                          have hcz109_2 : wc.cell? ⟨gb163, 2, none⟩ = some (.string a2_2) := (blk_cell BK163.out 2).trans rfl
                          have hfz109_0 := blk_frozen BK163.out 0
                          have hfz109_1 := blk_frozen BK163.out 1
                          have hfz109_2 := blk_frozen BK163.out 2
                          have hcz110_0 : wc.cell? ⟨gb162, 0, none⟩ = some (.int .i64 a1_0) := (blk_cell BK162.out 0).trans rfl
                          have hcz110_1 : wc.cell? ⟨gb162, 1, none⟩ = some (.int .i64 a1_1) := (blk_cell BK162.out 1).trans rfl
                          have hcz110_2 : wc.cell? ⟨gb162, 2, none⟩ = some (.bool a1_2) := (blk_cell BK162.out 2).trans rfl
                          have hcz110_3 : wc.cell? ⟨gb162, 3, none⟩ = some (.bool false) := (blk_cell BK162.out 3).trans rfl
                          have hfz110_0 := blk_frozen BK162.out 0
                          have hfz110_1 := blk_frozen BK162.out 1
                          have hfz110_2 := blk_frozen BK162.out 2
                          have hfz110_3 := blk_frozen BK162.out 3
                          go_wp2
                          go_ret
                          exact ⟨_, rfl, by (with_reducible repeat (first | apply Kd.R_alloc | apply Kd.R_drewN | apply Kd.R_drew)); exact HO_0.out, by repeat (first | (with_reducible first | exact HB.out | apply below_alloc | apply pw_below_drewN | apply below_drew1 | refine below_set ?_ GE162.out | refine below_set ?_ GE163.out) | exact HB.out), by repeat (first | (with_reducible first | exact HK.out | apply Kept.alloc | apply Kept.drewN | apply Kept.drew | refine Kept.setCell ?_ (.inr GW162.out) _ | refine Kept.setCell ?_ (.inr GW163.out) _) | exact HK.out)⟩

end Go.Proofs.Ytnfmpopmigbkoaa.PFnKeys

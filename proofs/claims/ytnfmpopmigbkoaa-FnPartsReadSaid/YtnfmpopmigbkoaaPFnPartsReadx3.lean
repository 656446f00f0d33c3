-- Written by mkprint.py, a program of this session (the printer with additions of its own)
import Derived.Test.YtnfmpopmigbkoaaPFnPartsReadx0
import Derived.Test.YtnfmpopmigbkoaaPFnPartsReadx1
import Derived.Test.YtnfmpopmigbkoaaPFnPartsReadx2
namespace Go.Proofs.Ytnfmpopmigbkoaa.PFnPartsRead
open Go.RowKit Go.Proofs.YtnfmpopmigbkoaaW.PrintWords Go.Proofs.YtnfmpopmigbkoaaW.PrintLast Go.Proofs.YtnfmpopmigbkoaaW.PrintMore
attribute [local go_sem] max2_int min2_int max_two min_two max_three min_three max_four min_four   -- for this text's walks alone
set_option linter.unusedVariables false
set_option linter.unusedSimpArgs false

/-! ### impl_addPart: function 69 -/
mutual
def impl_addPart.j0 : Nat → List Int → Bool → Int → Int → Bool → Bool → Int → Int → ByteArray → Option (List Int)
  | 0, _, _, _, _, _, _, _, _, _ => none
  | k + 1, x0, x16, x154000, x154001, x154002, x154003, x155000, x155001, x155002 => if x16 = true then (some x0) else (if x154002 = true then (impl_addPart.j1 k x0 (x0.length : Int) (x155000 == 0) x154000 x154001 x154002 x154003 x155000 x155001 x155002) else (impl_addPart.j1 k x0 (x0.length : Int) false x154000 x154001 x154002 x154003 x155000 x155001 x155002))
def impl_addPart.j1 : Nat → List Int → Int → Bool → Int → Int → Bool → Bool → Int → Int → ByteArray → Option (List Int)
  | 0, _, _, _, _, _, _, _, _, _, _ => none
  | k + 1, x0, x7, x26, x154000, x154001, x154002, x154003, x155000, x155001, x155002 => if x26 = true then (if x0.length < 140737488355328 then (impl_addPart.j2 k (x0 ++ [0]) x7 x154000 x154001 x154002 x154003 x155000 x155001 x155002) else (none)) else (if x154002 = true then (if x0.length < 140737488355328 then (impl_addPart.j2 k (x0 ++ [1]) x7 x154000 x154001 x154002 x154003 x155000 x155001 x155002) else (none)) else (impl_addPart.j2 k x0 x7 x154000 x154001 x154002 x154003 x155000 x155001 x155002))
def impl_addPart.j2 : Nat → List Int → Int → Int → Int → Bool → Bool → Int → Int → ByteArray → Option (List Int)
  | 0, _, _, _, _, _, _, _, _, _ => none
  | k + 1, x0, x7, x154000, x154001, x154002, x154003, x155000, x155001, x155002 => if x155000 = 1 then ((impl_addFix.f k x0 x155001).bind fun t163 => (if x154003 = true then ((impl_Flip.f k t163 x7).bind fun t166 => (some t166)) else (some t163))) else (if x155000 = 2 then ((impl_addVar.f k x0 x155001).bind fun t169 => (if x154003 = true then ((impl_Flip.f k t169 x7).bind fun t172 => (some t172)) else (some t169))) else (if x155000 = 3 then ((impl_addEsc.f k x0 x155002).bind fun t175 => (if x154003 = true then ((impl_Flip.f k t175 x7).bind fun t178 => (some t178)) else (some t175))) else (if x155000 = 4 then (if x0.length < 140737488355328 then ((some (x0 ++ [(x155001) % 256] : List Int)).bind fun y181 => (if x154003 = true then ((impl_Flip.f k y181 x7).bind fun t184 => (some t184)) else (some y181))) else (none)) else (if x154003 = true then ((impl_Flip.f k x0 x7).bind fun t187 => (some t187)) else (some x0)))))
end
def impl_addPart.f (k : Nat) (l0 : List Int) (a1_0 : Int) (a1_1 : Int) (a1_2 : Bool) (a1_3 : Bool) (a2_0 : Int) (a2_1 : Int) (a2_2 : ByteArray) : Option (List Int) := (impl_PartOk.f a1_0 a1_1 a1_2 a1_3).bind fun t155 => (if t155 = true then ((impl_Fits.f a1_0 a1_1 a1_2 a1_3 a2_0 a2_1 a2_2).bind fun t156 => (impl_addPart.j0 k l0 (!t156) a1_0 a1_1 a1_2 a1_3 a2_0 a2_1 a2_2)) else (impl_addPart.j0 k l0 true a1_0 a1_1 a1_2 a1_3 a2_0 a2_1 a2_2))
theorem impl_addPart.mono_l : ∀ k, (∀ y0 y1 y2 y3 y4 y5 y6 y7 y8, LeO (impl_addPart.j0 k y0 y1 y2 y3 y4 y5 y6 y7 y8) (impl_addPart.j0 (k + 1) y0 y1 y2 y3 y4 y5 y6 y7 y8)) ∧ (∀ y0 y1 y2 y3 y4 y5 y6 y7 y8 y9, LeO (impl_addPart.j1 k y0 y1 y2 y3 y4 y5 y6 y7 y8 y9) (impl_addPart.j1 (k + 1) y0 y1 y2 y3 y4 y5 y6 y7 y8 y9)) ∧ (∀ y0 y1 y2 y3 y4 y5 y6 y7 y8, LeO (impl_addPart.j2 k y0 y1 y2 y3 y4 y5 y6 y7 y8) (impl_addPart.j2 (k + 1) y0 y1 y2 y3 y4 y5 y6 y7 y8))
  | 0 => ⟨fun _ _ _ _ _ _ _ _ _ r h => by simp [impl_addPart.j0] at h, fun _ _ _ _ _ _ _ _ _ _ r h => by simp [impl_addPart.j1] at h, fun _ _ _ _ _ _ _ _ _ r h => by simp [impl_addPart.j2] at h⟩
  | k + 1 => by
    obtain ⟨ih0, ih1, ih2⟩ := impl_addPart.mono_l k
    refine ⟨?_, ?_, ?_⟩
    · intro y0 y1 y2 y3 y4 y5 y6 y7 y8
      unfold impl_addPart.j0
      repeat' first
      | (with_reducible exact ih0 _ _ _ _ _ _ _ _ _)
      | (with_reducible exact ih1 _ _ _ _ _ _ _ _ _ _)
      | (with_reducible exact ih2 _ _ _ _ _ _ _ _ _)
      | (with_reducible exact impl_Flip.mono _ _ _)
      | (with_reducible exact impl_addEsc.mono _ _ _)
      | (with_reducible exact impl_addFix.mono _ _ _)
      | (with_reducible exact impl_addVar.mono _ _ _)
      | (with_reducible exact LeO.refl _)
      | (with_reducible exact LeO.none _)
      | (with_reducible refine LeO.ite ?_ ?_)
      | (with_reducible refine LeO.bind ?_ (fun _ => ?_))
      | exact ih0 _ _ _ _ _ _ _ _ _
      | exact ih1 _ _ _ _ _ _ _ _ _ _
      | exact ih2 _ _ _ _ _ _ _ _ _
      | exact impl_Flip.mono _ _ _
      | exact impl_addEsc.mono _ _ _
      | exact impl_addFix.mono _ _ _
      | exact impl_addVar.mono _ _ _
      | exact LeO.none _
      | refine LeO.ite ?_ ?_
      | refine LeO.bind ?_ (fun _ => ?_)
    · intro y0 y1 y2 y3 y4 y5 y6 y7 y8 y9
      unfold impl_addPart.j1
      repeat' first
      | (with_reducible exact ih0 _ _ _ _ _ _ _ _ _)
      | (with_reducible exact ih1 _ _ _ _ _ _ _ _ _ _)
      | (with_reducible exact ih2 _ _ _ _ _ _ _ _ _)
      | (with_reducible exact impl_Flip.mono _ _ _)
      | (with_reducible exact impl_addEsc.mono _ _ _)
      | (with_reducible exact impl_addFix.mono _ _ _)
      | (with_reducible exact impl_addVar.mono _ _ _)
      | (with_reducible exact LeO.refl _)
      | (with_reducible exact LeO.none _)
      | (with_reducible refine LeO.ite ?_ ?_)
      | (with_reducible refine LeO.bind ?_ (fun _ => ?_))
      | exact ih0 _ _ _ _ _ _ _ _ _
      | exact ih1 _ _ _ _ _ _ _ _ _ _
      | exact ih2 _ _ _ _ _ _ _ _ _
      | exact impl_Flip.mono _ _ _
      | exact impl_addEsc.mono _ _ _
      | exact impl_addFix.mono _ _ _
      | exact impl_addVar.mono _ _ _
      | exact LeO.none _
      | refine LeO.ite ?_ ?_
      | refine LeO.bind ?_ (fun _ => ?_)
    · intro y0 y1 y2 y3 y4 y5 y6 y7 y8
      unfold impl_addPart.j2
      repeat' first
      | (with_reducible exact ih0 _ _ _ _ _ _ _ _ _)
      | (with_reducible exact ih1 _ _ _ _ _ _ _ _ _ _)
      | (with_reducible exact ih2 _ _ _ _ _ _ _ _ _)
      | (with_reducible exact impl_Flip.mono _ _ _)
      | (with_reducible exact impl_addEsc.mono _ _ _)
      | (with_reducible exact impl_addFix.mono _ _ _)
      | (with_reducible exact impl_addVar.mono _ _ _)
      | (with_reducible exact LeO.refl _)
      | (with_reducible exact LeO.none _)
      | (with_reducible refine LeO.ite ?_ ?_)
      | (with_reducible refine LeO.bind ?_ (fun _ => ?_))
      | exact ih0 _ _ _ _ _ _ _ _ _
      | exact ih1 _ _ _ _ _ _ _ _ _ _
      | exact ih2 _ _ _ _ _ _ _ _ _
      | exact impl_Flip.mono _ _ _
      | exact impl_addEsc.mono _ _ _
      | exact impl_addFix.mono _ _ _
      | exact impl_addVar.mono _ _ _
      | exact LeO.none _
      | refine LeO.ite ?_ ?_
      | refine LeO.bind ?_ (fun _ => ?_)
theorem impl_addPart.mono : ∀ a0 a1 a2 a3 a4 a5 a6 a7 k, LeO (impl_addPart.f k a0 a1 a2 a3 a4 a5 a6 a7) (impl_addPart.f (k + 1) a0 a1 a2 a3 a4 a5 a6 a7) := by
  intro a0 a1 a2 a3 a4 a5 a6 a7 k
  obtain ⟨ih0, ih1, ih2⟩ := impl_addPart.mono_l k
  unfold impl_addPart.f
  repeat' first
      | (with_reducible exact ih0 _ _ _ _ _ _ _ _ _)
      | (with_reducible exact ih1 _ _ _ _ _ _ _ _ _ _)
      | (with_reducible exact ih2 _ _ _ _ _ _ _ _ _)
      | (with_reducible exact impl_Flip.mono _ _ _)
      | (with_reducible exact impl_addEsc.mono _ _ _)
      | (with_reducible exact impl_addFix.mono _ _ _)
      | (with_reducible exact impl_addVar.mono _ _ _)
      | (with_reducible exact LeO.refl _)
      | (with_reducible exact LeO.none _)
      | (with_reducible refine LeO.ite ?_ ?_)
      | (with_reducible refine LeO.bind ?_ (fun _ => ?_))
      | exact ih0 _ _ _ _ _ _ _ _ _
      | exact ih1 _ _ _ _ _ _ _ _ _ _
      | exact ih2 _ _ _ _ _ _ _ _ _
      | exact impl_Flip.mono _ _ _
      | exact impl_addEsc.mono _ _ _
      | exact impl_addFix.mono _ _ _
      | exact impl_addVar.mono _ _ _
      | exact LeO.none _
      | refine LeO.ite ?_ ?_
      | refine LeO.bind ?_ (fun _ => ?_)
set_option maxHeartbeats 8000000 in
set_option maxRecDepth 100000 in
theorem impl_addPart.calls (k : Nat) (P0_ : Nat → Prop) (u9000_ : Value) (l0 : List Int) (a1_0 : Int) (a1_1 : Int) (a1_2 : Bool) (a1_3 : Bool) (a2_0 : Int) (a2_1 : Int) (a2_2 : ByteArray) (r : List Int) (w0 w : World) (hB : Below w0.heap.size w0 w) (ho0 : Kd.R (Kd.int .u8) 5 w w0.heap.size P0_ u9000_ l0) (h : impl_addPart.f k l0 a1_0 a1_1 a1_2 a1_3 a2_0 a2_1 a2_2 = some r) :
  Calls Try.prog 69 #[u9000_, .agg #[.int .i64 a1_0, .int .i64 a1_1, .bool a1_2, .bool a1_3], .agg #[.int .i64 a2_0, .int .i64 a2_1, .string a2_2]] w fun e w' => ∃ v0_ : Value, e = .returned (v0_) ∧ Kd.R (Kd.int .u8) 5 w' w0.heap.size (fun k_ => (P0_ k_ ∨ w.heap.size ≤ k_)) v0_ r ∧ Below w0.heap.size w0 w' ∧ Kept w w' (fun k_ => P0_ k_) := by
 have hu30 := Try.underlying30
 have hu32 := Try.underlying32
 have HO0 := zA (show Kd.R (Kd.int .u8) 5 w w0.heap.size (fun k_ => (P0_ k_ ∨ w.heap.size ≤ k_)) u9000_ l0 from Kd.R_mono ho0 (fun k_ hk => (.inl hk)))
 have HK := zA (Kept.refl w (fun k_ => P0_ k_))
 have HW0 := zA hB.size
 have HB := zA hB
 clear hB
 have H : ((impl_PartOk.f a1_0 a1_1 a1_2 a1_3).bind fun t155 => (if t155 = true then ((impl_Fits.f a1_0 a1_1 a1_2 a1_3 a2_0 a2_1 a2_2).bind fun t156 => (impl_addPart.j0 k l0 (!t156) a1_0 a1_1 a1_2 a1_3 a2_0 a2_1 a2_2)) else (impl_addPart.j0 k l0 true a1_0 a1_1 a1_2 a1_3 a2_0 a2_1 a2_2))) = some r := h
 clear h
 have HC4 := zA H
 clear H
 go_enter Try.func69, Try.ntmps69
 go_upto_region 1 with (first | ((with_reducible refine zt 4 ?_); refine zn #[.int .i64 a1_0, .int .i64 a1_1, .bool a1_2, .bool a1_3] 30 ?_; intro gb153 hg w5 hbox hb; replace HO0 := zR HO0 hb; have BK153 := zA hbox; have GW153 := zA ((by rw [hg]; exact zz74 : w.heap.size ≤ gb153)); replace HK := zA (Kept.below (S := (fun k_ => P0_ k_)) zq hb); have GE153 := zG hg; replace HB := zS hb; clear hb hbox hg) | ((with_reducible refine zt 5 ?_); refine zn #[.int .i64 a2_0, .int .i64 a2_1, .string a2_2] 32 ?_; intro gb154 hg w6 hbox hb; replace HO0 := zR HO0 hb; have BK154 := zA hbox; have GW154 := zA ((by rw [hg]; exact (by first | exact HK.out.1 | exact (show Kept w _ (fun k_ => P0_ k_) from zq1 GW153).1) : w.heap.size ≤ gb154)); replace HK := zA (Kept.below (S := (fun k_ => P0_ k_)) (zq1 GW153) hb); have GE154 := zG hg (zb1 GE153); replace HB := zS hb (zb1 GE153); have NB153_154 := zX BK153 hg; have NB154_153 := zY BK153 hg; replace BK153 := zB BK153 hb; clear hb hbox hg))
 (try simp only [Act.put, List.setIfInBounds_toArray, List.set_cons_zero, List.set_cons_succ])
 go_cut [16] (fun v16 wc => ∃ (kq : Nat) (x16_3 : Bool), v16 = .bool x16_3 ∧ Aside0 (impl_addPart.j0 kq l0 x16_3 a1_0 a1_1 a1_2 a1_3 a2_0 a2_1 a2_2 = some r) ∧ Aside0 (kq ≤ k) ∧ Aside0 (Kd.R (Kd.int .u8) 5 wc w0.heap.size (fun k_ => (P0_ k_ ∨ w.heap.size ≤ k_)) u9000_ l0) ∧ Aside0 (wc.heap[gb153]? = some (.cells #[.int .i64 a1_0, .int .i64 a1_1, .bool a1_2, .bool a1_3] 30 (0, 0))) ∧ Aside0 (wc.heap[gb154]? = some (.cells #[.int .i64 a2_0, .int .i64 a2_1, .string a2_2] 32 (0, 0))) ∧ Aside0 (Kept w wc (fun k_ => P0_ k_)) ∧ Aside0 (Below w0.heap.size w0 wc))
 case first =>
  have H := HC4.out
  clear HC4
  replace H := zI H
  obtain ⟨t155, A7, H⟩ := H
  by_cases c8 : t155 = true
  ·subst c8
   rw [if_pos rfl] at H
   replace H := zI H
   obtain ⟨t156, A9, H⟩ := H
   have H' := zA H
   clear H
   have hnb10 := NB153_154.out
   have hnc10 := NB154_153.out
   obtain ⟨hcz11_0, hcz11_1, hcz11_2, hcz11_3, hfz11_0, hfz11_1, hfz11_2, hfz11_3⟩ := zh4 BK153
   go_wp2_with (first | ((with_reducible refine zg 30 ?_); refine gL (some 9) Try.func30 #[.agg #[.int .i64 a1_0, .int .i64 a1_1, .bool a1_2, .bool a1_3]] ?_; (with_reducible refine (impl_PartOk.calls a1_0 a1_1 a1_2 a1_3 true _ A7.out).mono ?_); rintro e w12 ⟨rfl, hb⟩; refine ⟨_, rfl, ?_⟩; replace HO0 := zR HO0 hb; replace BK153 := zB BK153 hb; replace BK154 := zB BK154 hb; replace HK := zA (Kept.below (S := (fun k_ => P0_ k_)) (zq2 GW153 GW154) hb); replace HB := zS hb (zb2 GE153 GE154); (try clear hb); obtain ⟨hcz13_0, hcz13_1, hcz13_2, hcz13_3, hfz13_0, hfz13_1, hfz13_2, hfz13_3⟩ := zh4 BK153; obtain ⟨hcz14_0, hcz14_1, hcz14_2, hfz14_0, hfz14_1, hfz14_2⟩ := zh3 BK154) | (go_at_call 31; (with_reducible refine (impl_Fits.calls a1_0 a1_1 a1_2 a1_3 a2_0 a2_1 a2_2 t156 _ A9.out).mono ?_); rintro e w15 ⟨rfl, hb⟩; replace HO0 := zR HO0 hb; replace BK153 := zB BK153 hb; replace BK154 := zB BK154 hb; replace HK := zA (Kept.below (S := (fun k_ => P0_ k_)) (zq2 GW153 GW154) hb); replace HB := zS hb (zb2 GE153 GE154); (try clear hb)))
   go_meet
   case rel => exact ⟨_, (!t156), zx, H', ⟨zo⟩, ⟨zr HO0⟩, ⟨zk BK153⟩, ⟨zk BK154⟩, ⟨zq2 GW153 GW154⟩, ⟨zb2 GE153 GE154⟩⟩
  ·replace c8 := Bool.eq_false_iff.mpr c8
   subst c8
   rw [if_neg (Bool.false_ne_true)] at H
   have H' := zA H
   clear H
   have hnb16 := NB153_154.out
   have hnc16 := NB154_153.out
   obtain ⟨hcz17_0, hcz17_1, hcz17_2, hcz17_3, hfz17_0, hfz17_1, hfz17_2, hfz17_3⟩ := zh4 BK153
   go_wp2_with (first | ((with_reducible refine zg 30 ?_); refine gL (some 9) Try.func30 #[.agg #[.int .i64 a1_0, .int .i64 a1_1, .bool a1_2, .bool a1_3]] ?_; (with_reducible refine (impl_PartOk.calls a1_0 a1_1 a1_2 a1_3 false _ A7.out).mono ?_); rintro e w18 ⟨rfl, hb⟩; refine ⟨_, rfl, ?_⟩; replace HO0 := zR HO0 hb; replace BK153 := zB BK153 hb; replace BK154 := zB BK154 hb; replace HK := zA (Kept.below (S := (fun k_ => P0_ k_)) (zq2 GW153 GW154) hb); replace HB := zS hb (zb2 GE153 GE154); (try clear hb)))
   go_meet
   case rel => exact ⟨_, (true), zx, H', ⟨zo⟩, ⟨zr HO0⟩, ⟨zk BK153⟩, ⟨zk BK154⟩, ⟨zq2 GW153 GW154⟩, ⟨zb2 GE153 GE154⟩⟩
 case rest =>
  clear HC4
  obtain ⟨kq, x16_3, rfl, HA, HJ3, HO_0, BK153, BK154, HK, HB⟩ := hcut
  cases kq with
  | zero => exact absurd HA.out (by simp [impl_addPart.j0])
  | succ kj3 =>
   have H := HA.out
   clear HA
   simp only [impl_addPart.j0] at H
   by_cases c19 : x16_3 = true
   ·subst c19
    rw [if_pos rfl] at H
    obtain rfl := Option.some.inj H
    go_wp2
    go_ret
    exact ⟨_, zw, zr HO_0, zb2 GE153 GE154, zq2 GW153 GW154⟩
   ·replace c19 := Bool.eq_false_iff.mpr c19
    subst c19
    rw [if_neg (Bool.false_ne_true)] at H
    have HC20 := zA H
    clear H
    obtain ⟨Ao21, co21, eo21⟩ := Kd.R_slice HO_0.out
    subst eo21
    go_upto_region 4 with (fail)
    go_cut [26] (fun v26 wc => ∃ (kq : Nat) (x26_19 : Bool), v26 = .bool x26_19 ∧ Aside0 (impl_addPart.j1 kq l0 (l0.length : Int) x26_19 a1_0 a1_1 a1_2 a1_3 a2_0 a2_1 a2_2 = some r) ∧ Aside0 (kq ≤ kj3) ∧ Aside0 (Kd.R (Kd.int .u8) 5 wc w0.heap.size (fun k_ => (P0_ k_ ∨ w.heap.size ≤ k_)) (.slice Ao21 l0.length co21) l0) ∧ Aside0 (wc.heap[gb153]? = some (.cells #[.int .i64 a1_0, .int .i64 a1_1, .bool a1_2, .bool a1_3] 30 (0, 0))) ∧ Aside0 (wc.heap[gb154]? = some (.cells #[.int .i64 a2_0, .int .i64 a2_1, .string a2_2] 32 (0, 0))) ∧ Aside0 (Kept w wc (fun k_ => P0_ k_)) ∧ Aside0 (Below w0.heap.size w0 wc))
    case first =>
     have H := HC20.out
     clear HC20
     by_cases c22 : a1_2 = true
     ·subst c22
      rw [if_pos rfl] at H
      have H' := zA H
      clear H
      have hnb23 := NB153_154.out
      have hnc23 := NB154_153.out
      obtain ⟨hcz24_0, hcz24_1, hcz24_2, hcz24_3, hfz24_0, hfz24_1, hfz24_2, hfz24_3⟩ := zh4 BK153
      obtain ⟨hcz25_0, hcz25_1, hcz25_2, hfz25_0, hfz25_1, hfz25_2⟩ := zh3 BK154
      go_wp2
      go_meet
      case rel => exact ⟨_, ((a2_0 == 0)), zx, H', ⟨zz84⟩, ⟨zr HO_0⟩, ⟨zk BK153⟩, ⟨zk BK154⟩, ⟨zq2 GW153 GW154⟩, ⟨zb2 GE153 GE154⟩⟩
     ·replace c22 := Bool.eq_false_iff.mpr c22
      subst c22
      rw [if_neg (Bool.false_ne_true)] at H
      have H' := zA H
      clear H
      have hnb26 := NB153_154.out
      have hnc26 := NB154_153.out
      obtain ⟨hcz27_0, hcz27_1, hcz27_2, hcz27_3, hfz27_0, hfz27_1, hfz27_2, hfz27_3⟩ := zh4 BK153
      go_wp2
      go_meet
      case rel => exact ⟨_, (false), zx, H', ⟨zz84⟩, ⟨zr HO_0⟩, ⟨zk BK153⟩, ⟨zk BK154⟩, ⟨zq2 GW153 GW154⟩, ⟨zb2 GE153 GE154⟩⟩
    case rest =>
     clear HC20
     try clear c19
     obtain ⟨kq, x26_19, rfl, HA, HJ19, HO_0, BK153, BK154, HK, HB⟩ := hcut
     cases kq with
     | zero => exact absurd HA.out (by simp [impl_addPart.j1])
     | succ kj19 =>
      have H := HA.out
      clear HA
      simp only [impl_addPart.j1] at H
      have HC28 := zA H
      clear H
      go_upto_if 26 with (fail)
      go_cut [0] (fun v0 wc => ∃ (kq : Nat) (x0_27 : List Int), Aside0 (impl_addPart.j2 kq x0_27 (l0.length : Int) a1_0 a1_1 a1_2 a1_3 a2_0 a2_1 a2_2 = some r) ∧ Aside0 (kq ≤ kj19) ∧ Aside0 (Kd.R (Kd.int .u8) 5 wc w0.heap.size (fun k_ => (P0_ k_ ∨ w.heap.size ≤ k_)) v0 x0_27) ∧ Aside0 (wc.heap[gb153]? = some (.cells #[.int .i64 a1_0, .int .i64 a1_1, .bool a1_2, .bool a1_3] 30 (0, 0))) ∧ Aside0 (wc.heap[gb154]? = some (.cells #[.int .i64 a2_0, .int .i64 a2_1, .string a2_2] 32 (0, 0))) ∧ Aside0 (Kept w wc (fun k_ => P0_ k_)) ∧ Aside0 (Below w0.heap.size w0 wc))
      case first =>
       have H := HC28.out
       clear HC28
       by_cases c29 : x26_19 = true
       ·subst c29
        rw [if_pos rfl] at H
        by_cases c30 : l0.length < 140737488355328
        ·rw [if_pos c30] at H
         have LMc30 := zA c30
         clear c30
         obtain ⟨y157, hy157⟩ : ∃ y_ : List Int, y_ = (l0 ++ [0]) := ⟨_, rfl⟩
         replace H : (impl_addPart.j2 kj19 y157 (l0.length : Int) a1_0 a1_1 a1_2 a1_3 a2_0 a2_1 a2_2) = some r := by first | (rw [hy157]; with_reducible exact H) | (have H2_ := (Option.bind_some _ _).symm.trans H; rw [hy157]; with_reducible exact H2_) | (have H2_ := (Option.bind_some _ _).symm.trans H; with_reducible exact H2_) | with_reducible exact H | (rw [hy157]; exact H) | exact H
         have Ny157 := zA hy157
         clear hy157
         have H' := zA H
         clear H
         go_wp2_with (first | ((with_reducible refine gate_builtin (b := .append) (xs := #[.tmp 27, .tmp 28]) rfl ?_); at_builtin; refine Kd.R_append (Kd.int .u8) (w0 := w0) w0.heap.size rfl (.tmp 27) (.tmp 28) 22 5 (.int .u8 0) 1 rfl Try.underlying22 info5 rfl (by decide) (by omega) (.slice Ao21 l0.length co21) l0 0 [.int .u8 0] (fun k_ => (P0_ k_ ∨ w.heap.size ≤ k_)) (fun _ => False) rfl rfl ?aP (fun _ hk => hk.elim) ?aF ?aO ?aB ?aS ?aL ?_; (case aP => exact rfl); (case aB => exact (zb2 GE153 GE154)); (case aF => exact (fun k_ hk => (.inr (Nat.le_trans zz50 hk)))); (case aO => exact (zr HO_0)); (case aS => exact (below_size (zb2 GE153 GE154))); (case aL => have := LMc30.out; omega); intro v158 w31 ho hb hg hat; rw [← Ny157.out] at ho; replace BK153 := zA (blk_grown (g := gb153) (o := .cells #[.int .i64 a1_0, .int .i64 a1_1, .bool a1_2, .bool a1_3] 30 (0, 0)) (zk BK153) hg (Kd.R_ne HO_0.out BK153.out (by decide))); replace BK154 := zA (blk_grown (g := gb154) (o := .cells #[.int .i64 a2_0, .int .i64 a2_1, .string a2_2] 32 (0, 0)) (zk BK154) hg (Kd.R_ne HO_0.out BK154.out (by decide))); replace HB := zA hb; replace HK := zA (Kept.of_grown (S := (fun k_ => P0_ k_)) hg (zq2 GW153 GW154) (fun k_ e_ => (HO_0.out.1 k_ e_))); have HO159 := zA ho; clear HO_0 ho hb hg hat))
         go_meet
         case rel => exact ⟨_, (y157), H', ⟨zz100⟩, ⟨zr HO159⟩, ⟨zk BK153⟩, ⟨zk BK154⟩, ⟨zq2 GW153 GW154⟩, ⟨zb2 GE153 GE154⟩⟩
        ·rw [if_neg c30] at H
         exact absurd H (by simp)
       ·replace c29 := Bool.eq_false_iff.mpr c29
        subst c29
        rw [if_neg (Bool.false_ne_true)] at H
        by_cases c32 : a1_2 = true
        ·subst c32
         rw [if_pos rfl] at H
         by_cases c33 : l0.length < 140737488355328
         ·rw [if_pos c33] at H
          have LMc33 := zA c33
          clear c33
          obtain ⟨y160, hy160⟩ : ∃ y_ : List Int, y_ = (l0 ++ [1]) := ⟨_, rfl⟩
          replace H : (impl_addPart.j2 kj19 y160 (l0.length : Int) a1_0 a1_1 true a1_3 a2_0 a2_1 a2_2) = some r := by first | (rw [hy160]; with_reducible exact H) | (have H2_ := (Option.bind_some _ _).symm.trans H; rw [hy160]; with_reducible exact H2_) | (have H2_ := (Option.bind_some _ _).symm.trans H; with_reducible exact H2_) | with_reducible exact H | (rw [hy160]; exact H) | exact H
          have Ny160 := zA hy160
          clear hy160
          have H' := zA H
          clear H
          have hnb34 := NB153_154.out
          have hnc34 := NB154_153.out
          obtain ⟨hcz35_0, hcz35_1, hcz35_2, hcz35_3, hfz35_0, hfz35_1, hfz35_2, hfz35_3⟩ := zh4 BK153
          go_wp2_with (first | ((with_reducible refine gate_builtin (b := .append) (xs := #[.tmp 32, .tmp 33]) rfl ?_); at_builtin; refine Kd.R_append (Kd.int .u8) (w0 := w0) w0.heap.size rfl (.tmp 32) (.tmp 33) 22 5 (.int .u8 0) 1 rfl Try.underlying22 info5 rfl (by decide) (by omega) (.slice Ao21 l0.length co21) l0 1 [.int .u8 1] (fun k_ => (P0_ k_ ∨ w.heap.size ≤ k_)) (fun _ => False) rfl rfl ?aP (fun _ hk => hk.elim) ?aF ?aO ?aB ?aS ?aL ?_; (case aP => exact rfl); (case aB => exact (zb2 GE153 GE154)); (case aF => exact (fun k_ hk => (.inr (Nat.le_trans zz50 hk)))); (case aO => exact (zr HO_0)); (case aS => exact (below_size (zb2 GE153 GE154))); (case aL => have := LMc33.out; omega); intro v161 w36 ho hb hg hat; rw [← Ny160.out] at ho; replace BK153 := zA (blk_grown (g := gb153) (o := .cells #[.int .i64 a1_0, .int .i64 a1_1, .bool true, .bool a1_3] 30 (0, 0)) (zk BK153) hg (Kd.R_ne HO_0.out BK153.out (by decide))); replace BK154 := zA (blk_grown (g := gb154) (o := .cells #[.int .i64 a2_0, .int .i64 a2_1, .string a2_2] 32 (0, 0)) (zk BK154) hg (Kd.R_ne HO_0.out BK154.out (by decide))); replace HB := zA hb; replace HK := zA (Kept.of_grown (S := (fun k_ => P0_ k_)) hg (zq2 GW153 GW154) (fun k_ e_ => (HO_0.out.1 k_ e_))); have HO162 := zA ho; clear HO_0 ho hb hg hat))
          go_meet
          case rel => exact ⟨_, (y160), H', ⟨zz100⟩, ⟨zr HO162⟩, ⟨zk BK153⟩, ⟨zk BK154⟩, ⟨zq2 GW153 GW154⟩, ⟨zb2 GE153 GE154⟩⟩
         ·rw [if_neg c33] at H
          exact absurd H (by simp)
        ·replace c32 := Bool.eq_false_iff.mpr c32
         subst c32
         rw [if_neg (Bool.false_ne_true)] at H
         have H' := zA H
         clear H
         have hnb37 := NB153_154.out
         have hnc37 := NB154_153.out
         obtain ⟨hcz38_0, hcz38_1, hcz38_2, hcz38_3, hfz38_0, hfz38_1, hfz38_2, hfz38_3⟩ := zh4 BK153
         go_wp2
         go_meet
         case rel => exact ⟨_, (l0), H', ⟨zz100⟩, ⟨zr HO_0⟩, ⟨zk BK153⟩, ⟨zk BK154⟩, ⟨zq2 GW153 GW154⟩, ⟨zb2 GE153 GE154⟩⟩
      case rest =>
       clear HC28
       try clear c19
       obtain ⟨kq, x0_27, HA, HJ27, HO_0, BK153, BK154, HK, HB⟩ := hcut
       cases kq with
       | zero => exact absurd HA.out (by simp [impl_addPart.j2])
       | succ kj27 =>
        have H := HA.out
        clear HA
        simp only [impl_addPart.j2] at H
        by_cases c39 : a2_0 = 1
        ·rw [if_pos c39] at H
         have c39b0 : (a2_0 == 1) = true := beq_iff_eq.mpr c39
         have c39b1 : (a2_0 != 1) = false := bne_eq_false_iff_eq.mpr c39
         clear c39
         replace H := zI H
         obtain ⟨t163, A40, H⟩ := H
         by_cases c41 : a1_3 = true
         ·subst c41
          rw [if_pos rfl] at H
          replace H := zI H
          obtain ⟨t166, A42, H⟩ := H
          obtain rfl := Option.some.inj H
          have hnb43 := NB154_153.out
          have hnc43 := NB153_154.out
          obtain ⟨hcz44_0, hcz44_1, hcz44_2, hfz44_0, hfz44_1, hfz44_2⟩ := zh3 BK154
          obtain ⟨Ao45, co45, eo45⟩ := Kd.R_slice HO_0.out
          subst eo45
          go_wp2_with (first | ((with_reducible refine zg 97 ?_); refine gL (some 42) Try.func97 #[.slice Ao45 x0_27.length co45, .int .i64 a2_1] ?_; (with_reducible refine (impl_addFix.calls kj27 (fun k_ => some k_ = (.slice Ao45 x0_27.length co45 : Value).ownBlock) (.slice Ao45 x0_27.length co45) x0_27 a2_1 t163 w0 _ ?z1 ?z2 A40.out).mono ?_); (case z1 => exact zb2 GE153 GE154); (case z2 => exact Kd.R_tight rfl HO_0.out); rintro e w46 ⟨v164, rfl, ho0, hb, hkp⟩; refine ⟨_, rfl, ?_⟩; replace BK153 := zA (blk_kept (zk BK153) hkp (fun hs_ => (fun e_ => (Kd.R_ne HO_0.out BK153.out (by decide)) e_) hs_)); replace BK154 := zA (blk_kept (zk BK154) hkp (fun hs_ => (fun e_ => (Kd.R_ne HO_0.out BK154.out (by decide)) e_) hs_)); have HO165 := zA (Kd.R_mono (ok' := fun k_ => (P0_ k_ ∨ w.heap.size ≤ k_)) ho0 (fun k_ hk_ => Or.elim hk_ (fun hs_ => (HO_0.out.1 k_ (hs_).symm)) (fun hn_ => (.inr (Nat.le_trans zz50 hn_))))); replace HK := zA (Kept.then_ (S := (fun k_ => P0_ k_)) (zq2 GW153 GW154) hkp (fun k_ hs_ => (fun e_ => (HO_0.out.1 k_ e_.symm)) hs_)); replace HB := zA hb; clear HO_0 hb hkp ho0; obtain ⟨hcz47_0, hcz47_1, hcz47_2, hcz47_3, hfz47_0, hfz47_1, hfz47_2, hfz47_3⟩ := zh4 BK153; obtain ⟨Ao48, co48, eo48⟩ := Kd.R_slice HO165.out; subst eo48) | ((with_reducible refine zg 73 ?_); refine gL (some 67) Try.func73 #[.slice Ao48 t163.length co48, .int .i64 (l0.length : Int)] ?_; (with_reducible refine (impl_Flip.calls kj27 _ _ t163 (l0.length : Int) t166 _ ?z1 ?z2 A42.out).mono ?_); (case z1 => exact ze HO165); (case z2 => exact zl HO165); rintro e w49 ⟨v167, rfl, ho0, hb⟩; refine ⟨_, rfl, ?_⟩; have HO168 := zL (zN (Kd.R_newM (M := fun k_ => (P0_ k_ ∨ w.heap.size ≤ k_)) ho0 zz50 (fun k_ h_ => .inr h_)) HO165) (zb2 GE153 GE154); replace HO165 := zE HO165 ho0 hb; replace BK153 := zB BK153 hb; replace BK154 := zB BK154 hb; replace HK := zA (Kept.below (S := (fun k_ => P0_ k_)) (zq2 GW153 GW154) hb); replace HB := zS hb (zb2 GE153 GE154); clear hb ho0))
          go_ret
          exact ⟨_, zw, by (with_reducible repeat (first | apply Kd.R_alloc | apply Kd.R_drewN | apply Kd.R_drew)); exact Kd.R_mono HO168.out (fun _ hk => hk.1.1), zb2 GE153 GE154, zq2 GW153 GW154⟩
         ·replace c41 := Bool.eq_false_iff.mpr c41
          subst c41
          rw [if_neg (Bool.false_ne_true)] at H
          obtain rfl := Option.some.inj H
          have hnb50 := NB154_153.out
          have hnc50 := NB153_154.out
          obtain ⟨hcz51_0, hcz51_1, hcz51_2, hfz51_0, hfz51_1, hfz51_2⟩ := zh3 BK154
          obtain ⟨Ao52, co52, eo52⟩ := Kd.R_slice HO_0.out
          subst eo52
          go_wp2_with (first | ((with_reducible refine zg 97 ?_); refine gL (some 42) Try.func97 #[.slice Ao52 x0_27.length co52, .int .i64 a2_1] ?_; (with_reducible refine (impl_addFix.calls kj27 (fun k_ => some k_ = (.slice Ao52 x0_27.length co52 : Value).ownBlock) (.slice Ao52 x0_27.length co52) x0_27 a2_1 t163 w0 _ ?z1 ?z2 A40.out).mono ?_); (case z1 => exact zb2 GE153 GE154); (case z2 => exact Kd.R_tight rfl HO_0.out); rintro e w53 ⟨v164, rfl, ho0, hb, hkp⟩; refine ⟨_, rfl, ?_⟩; replace BK153 := zA (blk_kept (zk BK153) hkp (fun hs_ => (fun e_ => (Kd.R_ne HO_0.out BK153.out (by decide)) e_) hs_)); replace BK154 := zA (blk_kept (zk BK154) hkp (fun hs_ => (fun e_ => (Kd.R_ne HO_0.out BK154.out (by decide)) e_) hs_)); have HO165 := zA (Kd.R_mono (ok' := fun k_ => (P0_ k_ ∨ w.heap.size ≤ k_)) ho0 (fun k_ hk_ => Or.elim hk_ (fun hs_ => (HO_0.out.1 k_ (hs_).symm)) (fun hn_ => (.inr (Nat.le_trans zz50 hn_))))); replace HK := zA (Kept.then_ (S := (fun k_ => P0_ k_)) (zq2 GW153 GW154) hkp (fun k_ hs_ => (fun e_ => (HO_0.out.1 k_ e_.symm)) hs_)); replace HB := zA hb; clear HO_0 hb hkp ho0; obtain ⟨hcz54_0, hcz54_1, hcz54_2, hcz54_3, hfz54_0, hfz54_1, hfz54_2, hfz54_3⟩ := zh4 BK153))
          go_ret
          exact ⟨_, zw, zr HO165, zb2 GE153 GE154, zq2 GW153 GW154⟩
        ·rw [if_neg c39] at H
         have c39b0 : (a2_0 == 1) = false := beq_eq_false_iff_ne.mpr c39
         have c39b1 : (a2_0 != 1) = true := bne_iff_ne.mpr c39
         by_cases c55 : a2_0 = 2
         ·rw [if_pos c55] at H
          have c55b0 : (a2_0 == 2) = true := beq_iff_eq.mpr c55
          have c55b1 : (a2_0 != 2) = false := bne_eq_false_iff_eq.mpr c55
          clear c55
          replace H := zI H
          obtain ⟨t169, A56, H⟩ := H
          by_cases c57 : a1_3 = true
          ·subst c57
           rw [if_pos rfl] at H
           replace H := zI H
           obtain ⟨t172, A58, H⟩ := H
           obtain rfl := Option.some.inj H
           have hnb59 := NB154_153.out
           have hnc59 := NB153_154.out
           obtain ⟨hcz60_0, hcz60_1, hcz60_2, hfz60_0, hfz60_1, hfz60_2⟩ := zh3 BK154
           obtain ⟨Ao61, co61, eo61⟩ := Kd.R_slice HO_0.out
           subst eo61
           go_wp2_with (first | ((with_reducible refine zg 98 ?_); refine gL (some 48) Try.func98 #[.slice Ao61 x0_27.length co61, .int .i64 a2_1] ?_; (with_reducible refine (impl_addVar.calls kj27 (fun k_ => some k_ = (.slice Ao61 x0_27.length co61 : Value).ownBlock) (.slice Ao61 x0_27.length co61) x0_27 a2_1 t169 w0 _ ?z1 ?z2 A56.out).mono ?_); (case z1 => exact zb2 GE153 GE154); (case z2 => exact Kd.R_tight rfl HO_0.out); rintro e w62 ⟨v170, rfl, ho0, hb, hkp⟩; refine ⟨_, rfl, ?_⟩; replace BK153 := zA (blk_kept (zk BK153) hkp (fun hs_ => (fun e_ => (Kd.R_ne HO_0.out BK153.out (by decide)) e_) hs_)); replace BK154 := zA (blk_kept (zk BK154) hkp (fun hs_ => (fun e_ => (Kd.R_ne HO_0.out BK154.out (by decide)) e_) hs_)); have HO171 := zA (Kd.R_mono (ok' := fun k_ => (P0_ k_ ∨ w.heap.size ≤ k_)) ho0 (fun k_ hk_ => Or.elim hk_ (fun hs_ => (HO_0.out.1 k_ (hs_).symm)) (fun hn_ => (.inr (Nat.le_trans zz50 hn_))))); replace HK := zA (Kept.then_ (S := (fun k_ => P0_ k_)) (zq2 GW153 GW154) hkp (fun k_ hs_ => (fun e_ => (HO_0.out.1 k_ e_.symm)) hs_)); replace HB := zA hb; clear HO_0 hb hkp ho0; obtain ⟨hcz63_0, hcz63_1, hcz63_2, hcz63_3, hfz63_0, hfz63_1, hfz63_2, hfz63_3⟩ := zh4 BK153; obtain ⟨Ao64, co64, eo64⟩ := Kd.R_slice HO171.out; subst eo64) | ((with_reducible refine zg 73 ?_); refine gL (some 67) Try.func73 #[.slice Ao64 t169.length co64, .int .i64 (l0.length : Int)] ?_; (with_reducible refine (impl_Flip.calls kj27 _ _ t169 (l0.length : Int) t172 _ ?z1 ?z2 A58.out).mono ?_); (case z1 => exact ze HO171); (case z2 => exact zl HO171); rintro e w65 ⟨v173, rfl, ho0, hb⟩; refine ⟨_, rfl, ?_⟩; have HO174 := zL (zN (Kd.R_newM (M := fun k_ => (P0_ k_ ∨ w.heap.size ≤ k_)) ho0 zz50 (fun k_ h_ => .inr h_)) HO171) (zb2 GE153 GE154); replace HO171 := zE HO171 ho0 hb; replace BK153 := zB BK153 hb; replace BK154 := zB BK154 hb; replace HK := zA (Kept.below (S := (fun k_ => P0_ k_)) (zq2 GW153 GW154) hb); replace HB := zS hb (zb2 GE153 GE154); clear hb ho0))
           go_ret
           exact ⟨_, zw, by (with_reducible repeat (first | apply Kd.R_alloc | apply Kd.R_drewN | apply Kd.R_drew)); exact Kd.R_mono HO174.out (fun _ hk => hk.1.1), zb2 GE153 GE154, zq2 GW153 GW154⟩
          ·replace c57 := Bool.eq_false_iff.mpr c57
           subst c57
           rw [if_neg (Bool.false_ne_true)] at H
           obtain rfl := Option.some.inj H
           have hnb66 := NB154_153.out
           have hnc66 := NB153_154.out
           obtain ⟨hcz67_0, hcz67_1, hcz67_2, hfz67_0, hfz67_1, hfz67_2⟩ := zh3 BK154
           obtain ⟨Ao68, co68, eo68⟩ := Kd.R_slice HO_0.out
           subst eo68
           go_wp2_with (first | ((with_reducible refine zg 98 ?_); refine gL (some 48) Try.func98 #[.slice Ao68 x0_27.length co68, .int .i64 a2_1] ?_; (with_reducible refine (impl_addVar.calls kj27 (fun k_ => some k_ = (.slice Ao68 x0_27.length co68 : Value).ownBlock) (.slice Ao68 x0_27.length co68) x0_27 a2_1 t169 w0 _ ?z1 ?z2 A56.out).mono ?_); (case z1 => exact zb2 GE153 GE154); (case z2 => exact Kd.R_tight rfl HO_0.out); rintro e w69 ⟨v170, rfl, ho0, hb, hkp⟩; refine ⟨_, rfl, ?_⟩; replace BK153 := zA (blk_kept (zk BK153) hkp (fun hs_ => (fun e_ => (Kd.R_ne HO_0.out BK153.out (by decide)) e_) hs_)); replace BK154 := zA (blk_kept (zk BK154) hkp (fun hs_ => (fun e_ => (Kd.R_ne HO_0.out BK154.out (by decide)) e_) hs_)); have HO171 := zA (Kd.R_mono (ok' := fun k_ => (P0_ k_ ∨ w.heap.size ≤ k_)) ho0 (fun k_ hk_ => Or.elim hk_ (fun hs_ => (HO_0.out.1 k_ (hs_).symm)) (fun hn_ => (.inr (Nat.le_trans zz50 hn_))))); replace HK := zA (Kept.then_ (S := (fun k_ => P0_ k_)) (zq2 GW153 GW154) hkp (fun k_ hs_ => (fun e_ => (HO_0.out.1 k_ e_.symm)) hs_)); replace HB := zA hb; clear HO_0 hb hkp ho0; obtain ⟨hcz70_0, hcz70_1, hcz70_2, hcz70_3, hfz70_0, hfz70_1, hfz70_2, hfz70_3⟩ := zh4 BK153))
           go_ret
           exact ⟨_, zw, zr HO171, zb2 GE153 GE154, zq2 GW153 GW154⟩
         ·rw [if_neg c55] at H
          have c55b0 : (a2_0 == 2) = false := beq_eq_false_iff_ne.mpr c55
          have c55b1 : (a2_0 != 2) = true := bne_iff_ne.mpr c55
          by_cases c71 : a2_0 = 3
          ·rw [if_pos c71] at H
           have c71b0 : (a2_0 == 3) = true := beq_iff_eq.mpr c71
           have c71b1 : (a2_0 != 3) = false := bne_eq_false_iff_eq.mpr c71
           clear c71
           replace H := zI H
           obtain ⟨t175, A72, H⟩ := H
           by_cases c73 : a1_3 = true
           ·subst c73
            rw [if_pos rfl] at H
            replace H := zI H
            obtain ⟨t178, A74, H⟩ := H
            obtain rfl := Option.some.inj H
            have hnb75 := NB154_153.out
            have hnc75 := NB153_154.out
            obtain ⟨hcz76_0, hcz76_1, hcz76_2, hfz76_0, hfz76_1, hfz76_2⟩ := zh3 BK154
            obtain ⟨Ao77, co77, eo77⟩ := Kd.R_slice HO_0.out
            subst eo77
            go_wp2_with (first | ((with_reducible refine zg 99 ?_); refine gL (some 54) Try.func99 #[.slice Ao77 x0_27.length co77, .string a2_2] ?_; (with_reducible refine (impl_addEsc.calls kj27 (fun k_ => some k_ = (.slice Ao77 x0_27.length co77 : Value).ownBlock) (.slice Ao77 x0_27.length co77) x0_27 a2_2 t175 w0 _ ?z1 ?z2 A72.out).mono ?_); (case z1 => exact zb2 GE153 GE154); (case z2 => exact Kd.R_tight rfl HO_0.out); rintro e w78 ⟨v176, rfl, ho0, hb, hkp⟩; refine ⟨_, rfl, ?_⟩; replace BK153 := zA (blk_kept (zk BK153) hkp (fun hs_ => (fun e_ => (Kd.R_ne HO_0.out BK153.out (by decide)) e_) hs_)); replace BK154 := zA (blk_kept (zk BK154) hkp (fun hs_ => (fun e_ => (Kd.R_ne HO_0.out BK154.out (by decide)) e_) hs_)); have HO177 := zA (Kd.R_mono (ok' := fun k_ => (P0_ k_ ∨ w.heap.size ≤ k_)) ho0 (fun k_ hk_ => Or.elim hk_ (fun hs_ => (HO_0.out.1 k_ (hs_).symm)) (fun hn_ => (.inr (Nat.le_trans zz50 hn_))))); replace HK := zA (Kept.then_ (S := (fun k_ => P0_ k_)) (zq2 GW153 GW154) hkp (fun k_ hs_ => (fun e_ => (HO_0.out.1 k_ e_.symm)) hs_)); replace HB := zA hb; clear HO_0 hb hkp ho0; obtain ⟨hcz79_0, hcz79_1, hcz79_2, hcz79_3, hfz79_0, hfz79_1, hfz79_2, hfz79_3⟩ := zh4 BK153; obtain ⟨Ao80, co80, eo80⟩ := Kd.R_slice HO177.out; subst eo80) | ((with_reducible refine zg 73 ?_); refine gL (some 67) Try.func73 #[.slice Ao80 t175.length co80, .int .i64 (l0.length : Int)] ?_; (with_reducible refine (impl_Flip.calls kj27 _ _ t175 (l0.length : Int) t178 _ ?z1 ?z2 A74.out).mono ?_); (case z1 => exact ze HO177); (case z2 => exact zl HO177); rintro e w81 ⟨v179, rfl, ho0, hb⟩; refine ⟨_, rfl, ?_⟩; have HO180 := zL (zN (Kd.R_newM (M := fun k_ => (P0_ k_ ∨ w.heap.size ≤ k_)) ho0 zz50 (fun k_ h_ => .inr h_)) HO177) (zb2 GE153 GE154); replace HO177 := zE HO177 ho0 hb; replace BK153 := zB BK153 hb; replace BK154 := zB BK154 hb; replace HK := zA (Kept.below (S := (fun k_ => P0_ k_)) (zq2 GW153 GW154) hb); replace HB := zS hb (zb2 GE153 GE154); clear hb ho0))
            go_ret
            exact ⟨_, zw, by (with_reducible repeat (first | apply Kd.R_alloc | apply Kd.R_drewN | apply Kd.R_drew)); exact Kd.R_mono HO180.out (fun _ hk => hk.1.1), zb2 GE153 GE154, zq2 GW153 GW154⟩
           ·replace c73 := Bool.eq_false_iff.mpr c73
            subst c73
            rw [if_neg (Bool.false_ne_true)] at H
            obtain rfl := Option.some.inj H
            have hnb82 := NB154_153.out
            have hnc82 := NB153_154.out
            obtain ⟨hcz83_0, hcz83_1, hcz83_2, hfz83_0, hfz83_1, hfz83_2⟩ := zh3 BK154
            obtain ⟨Ao84, co84, eo84⟩ := Kd.R_slice HO_0.out
            subst eo84
            go_wp2_with (first | ((with_reducible refine zg 99 ?_); refine gL (some 54) Try.func99 #[.slice Ao84 x0_27.length co84, .string a2_2] ?_; (with_reducible refine (impl_addEsc.calls kj27 (fun k_ => some k_ = (.slice Ao84 x0_27.length co84 : Value).ownBlock) (.slice Ao84 x0_27.length co84) x0_27 a2_2 t175 w0 _ ?z1 ?z2 A72.out).mono ?_); (case z1 => exact zb2 GE153 GE154); (case z2 => exact Kd.R_tight rfl HO_0.out); rintro e w85 ⟨v176, rfl, ho0, hb, hkp⟩; refine ⟨_, rfl, ?_⟩; replace BK153 := zA (blk_kept (zk BK153) hkp (fun hs_ => (fun e_ => (Kd.R_ne HO_0.out BK153.out (by decide)) e_) hs_)); replace BK154 := zA (blk_kept (zk BK154) hkp (fun hs_ => (fun e_ => (Kd.R_ne HO_0.out BK154.out (by decide)) e_) hs_)); have HO177 := zA (Kd.R_mono (ok' := fun k_ => (P0_ k_ ∨ w.heap.size ≤ k_)) ho0 (fun k_ hk_ => Or.elim hk_ (fun hs_ => (HO_0.out.1 k_ (hs_).symm)) (fun hn_ => (.inr (Nat.le_trans zz50 hn_))))); replace HK := zA (Kept.then_ (S := (fun k_ => P0_ k_)) (zq2 GW153 GW154) hkp (fun k_ hs_ => (fun e_ => (HO_0.out.1 k_ e_.symm)) hs_)); replace HB := zA hb; clear HO_0 hb hkp ho0; obtain ⟨hcz86_0, hcz86_1, hcz86_2, hcz86_3, hfz86_0, hfz86_1, hfz86_2, hfz86_3⟩ := zh4 BK153))
            go_ret
            exact ⟨_, zw, zr HO177, zb2 GE153 GE154, zq2 GW153 GW154⟩
          ·rw [if_neg c71] at H
           have c71b0 : (a2_0 == 3) = false := beq_eq_false_iff_ne.mpr c71
           have c71b1 : (a2_0 != 3) = true := bne_iff_ne.mpr c71
           by_cases c87 : a2_0 = 4
           ·rw [if_pos c87] at H
            have c87b0 : (a2_0 == 4) = true := beq_iff_eq.mpr c87
            have c87b1 : (a2_0 != 4) = false := bne_eq_false_iff_eq.mpr c87
            clear c87
            by_cases c88 : x0_27.length < 140737488355328
            ·rw [if_pos c88] at H
             have LMc88 := zA c88
             clear c88
             obtain ⟨y181, hy181⟩ : ∃ y_ : List Int, y_ = (x0_27 ++ [(a2_1) % 256]) := ⟨_, rfl⟩
             replace H : (if a1_3 = true then ((impl_Flip.f kj27 y181 (l0.length : Int)).bind fun t184 => (some t184)) else (some y181)) = some r := by first | (rw [hy181]; with_reducible exact H) | (have H2_ := (Option.bind_some _ _).symm.trans H; rw [hy181]; with_reducible exact H2_) | (have H2_ := (Option.bind_some _ _).symm.trans H; with_reducible exact H2_) | with_reducible exact H | (rw [hy181]; exact H) | exact H
             have Ny181 := zA hy181
             clear hy181
             by_cases c89 : a1_3 = true
             ·subst c89
              rw [if_pos rfl] at H
              replace H := zI H
              obtain ⟨t184, A90, H⟩ := H
              obtain rfl := Option.some.inj H
              have hnb91 := NB154_153.out
              have hnc91 := NB153_154.out
              obtain ⟨hcz92_0, hcz92_1, hcz92_2, hfz92_0, hfz92_1, hfz92_2⟩ := zh3 BK154
              go_wp2_with (first | ((with_reducible refine gate_builtin (b := .append) (xs := #[.tmp 57, .tmp 61]) rfl ?_); at_builtin; refine Kd.R_append (Kd.int .u8) (w0 := w0) w0.heap.size rfl (.tmp 57) (.tmp 61) 22 5 (.int .u8 0) 1 rfl Try.underlying22 info5 rfl (by decide) (by omega) u0 x0_27 ((a2_1) % 256) [.int .u8 ((a2_1) % 256)] (fun k_ => (P0_ k_ ∨ w.heap.size ≤ k_)) (fun _ => False) rfl rfl ?aP (fun _ hk => hk.elim) ?aF ?aO ?aB ?aS ?aL ?_; (case aP => exact rfl); (case aB => exact (zb2 GE153 GE154)); (case aF => exact (fun k_ hk => (.inr (Nat.le_trans zz50 hk)))); (case aO => exact (zr HO_0)); (case aS => exact (below_size (zb2 GE153 GE154))); (case aL => have := LMc88.out; omega); intro v182 w93 ho hb hg hat; rw [← Ny181.out] at ho; replace BK153 := zA (blk_grown (g := gb153) (o := .cells #[.int .i64 a1_0, .int .i64 a1_1, .bool a1_2, .bool true] 30 (0, 0)) (zk BK153) hg (Kd.R_ne HO_0.out BK153.out (by decide))); replace BK154 := zA (blk_grown (g := gb154) (o := .cells #[.int .i64 a2_0, .int .i64 a2_1, .string a2_2] 32 (0, 0)) (zk BK154) hg (Kd.R_ne HO_0.out BK154.out (by decide))); replace HB := zA hb; replace HK := zA (Kept.of_grown (S := (fun k_ => P0_ k_)) hg (zq2 GW153 GW154) (fun k_ e_ => (HO_0.out.1 k_ e_))); have HO183 := zA ho; clear HO_0 ho hb hg hat; obtain ⟨hcz94_0, hcz94_1, hcz94_2, hcz94_3, hfz94_0, hfz94_1, hfz94_2, hfz94_3⟩ := zh4 BK153; obtain ⟨Ao95, co95, eo95⟩ := Kd.R_slice HO183.out; subst eo95) | ((with_reducible refine zg 73 ?_); refine gL (some 67) Try.func73 #[.slice Ao95 y181.length co95, .int .i64 (l0.length : Int)] ?_; (with_reducible refine (impl_Flip.calls kj27 _ _ y181 (l0.length : Int) t184 _ ?z1 ?z2 A90.out).mono ?_); (case z1 => exact ze HO183); (case z2 => exact zl HO183); rintro e w96 ⟨v185, rfl, ho0, hb⟩; refine ⟨_, rfl, ?_⟩; have HO186 := zL (zN (Kd.R_newM (M := fun k_ => (P0_ k_ ∨ w.heap.size ≤ k_)) ho0 zz50 (fun k_ h_ => .inr h_)) HO183) (zb2 GE153 GE154); replace HO183 := zE HO183 ho0 hb; replace BK153 := zB BK153 hb; replace BK154 := zB BK154 hb; replace HK := zA (Kept.below (S := (fun k_ => P0_ k_)) (zq2 GW153 GW154) hb); replace HB := zS hb (zb2 GE153 GE154); clear hb ho0))
              go_ret
              exact ⟨_, zw, by (with_reducible repeat (first | apply Kd.R_alloc | apply Kd.R_drewN | apply Kd.R_drew)); exact Kd.R_mono HO186.out (fun _ hk => hk.1.1), zb2 GE153 GE154, zq2 GW153 GW154⟩
             ·replace c89 := Bool.eq_false_iff.mpr c89
              subst c89
              rw [if_neg (Bool.false_ne_true)] at H
              obtain rfl := Option.some.inj H
              have hnb97 := NB154_153.out
              have hnc97 := NB153_154.out
              obtain ⟨hcz98_0, hcz98_1, hcz98_2, hfz98_0, hfz98_1, hfz98_2⟩ := zh3 BK154
              go_wp2_with (first | ((with_reducible refine gate_builtin (b := .append) (xs := #[.tmp 57, .tmp 61]) rfl ?_); at_builtin; refine Kd.R_append (Kd.int .u8) (w0 := w0) w0.heap.size rfl (.tmp 57) (.tmp 61) 22 5 (.int .u8 0) 1 rfl Try.underlying22 info5 rfl (by decide) (by omega) u0 x0_27 ((a2_1) % 256) [.int .u8 ((a2_1) % 256)] (fun k_ => (P0_ k_ ∨ w.heap.size ≤ k_)) (fun _ => False) rfl rfl ?aP (fun _ hk => hk.elim) ?aF ?aO ?aB ?aS ?aL ?_; (case aP => exact rfl); (case aB => exact (zb2 GE153 GE154)); (case aF => exact (fun k_ hk => (.inr (Nat.le_trans zz50 hk)))); (case aO => exact (zr HO_0)); (case aS => exact (below_size (zb2 GE153 GE154))); (case aL => have := LMc88.out; omega); intro v182 w99 ho hb hg hat; rw [← Ny181.out] at ho; replace BK153 := zA (blk_grown (g := gb153) (o := .cells #[.int .i64 a1_0, .int .i64 a1_1, .bool a1_2, .bool false] 30 (0, 0)) (zk BK153) hg (Kd.R_ne HO_0.out BK153.out (by decide))); replace BK154 := zA (blk_grown (g := gb154) (o := .cells #[.int .i64 a2_0, .int .i64 a2_1, .string a2_2] 32 (0, 0)) (zk BK154) hg (Kd.R_ne HO_0.out BK154.out (by decide))); replace HB := zA hb; replace HK := zA (Kept.of_grown (S := (fun k_ => P0_ k_)) hg (zq2 GW153 GW154) (fun k_ e_ => (HO_0.out.1 k_ e_))); have HO183 := zA ho; clear HO_0 ho hb hg hat; obtain ⟨hcz100_0, hcz100_1, hcz100_2, hcz100_3, hfz100_0, hfz100_1, hfz100_2, hfz100_3⟩ := zh4 BK153))
              go_ret
              exact ⟨_, zw, zr HO183, zb2 GE153 GE154, zq2 GW153 GW154⟩
            ·rw [if_neg c88] at H
             exact absurd H (by simp)
           ·rw [if_neg c87] at H
            have c87b0 : (a2_0 == 4) = false := beq_eq_false_iff_ne.mpr c87
            have c87b1 : (a2_0 != 4) = true := bne_iff_ne.mpr c87
            by_cases c101 : a1_3 = true
            ·subst c101
             rw [if_pos rfl] at H
             replace H := zI H
             obtain ⟨t187, A102, H⟩ := H
             obtain rfl := Option.some.inj H
             have hnb103 := NB154_153.out
             have hnc103 := NB153_154.out
             obtain ⟨hcz104_0, hcz104_1, hcz104_2, hfz104_0, hfz104_1, hfz104_2⟩ := zh3 BK154
             obtain ⟨hcz105_0, hcz105_1, hcz105_2, hcz105_3, hfz105_0, hfz105_1, hfz105_2, hfz105_3⟩ := zh4 BK153
             obtain ⟨Ao106, co106, eo106⟩ := Kd.R_slice HO_0.out
             subst eo106
             go_wp2_with (first | ((with_reducible refine zg 73 ?_); refine gL (some 67) Try.func73 #[.slice Ao106 x0_27.length co106, .int .i64 (l0.length : Int)] ?_; (with_reducible refine (impl_Flip.calls kj27 _ _ x0_27 (l0.length : Int) t187 _ ?z1 ?z2 A102.out).mono ?_); (case z1 => exact ze HO_0); (case z2 => exact zl HO_0); rintro e w107 ⟨v188, rfl, ho0, hb⟩; refine ⟨_, rfl, ?_⟩; have HO189 := zL (zN (Kd.R_newM (M := fun k_ => (P0_ k_ ∨ w.heap.size ≤ k_)) ho0 zz50 (fun k_ h_ => .inr h_)) HO_0) (zb2 GE153 GE154); replace HO_0 := zE HO_0 ho0 hb; replace BK153 := zB BK153 hb; replace BK154 := zB BK154 hb; replace HK := zA (Kept.below (S := (fun k_ => P0_ k_)) (zq2 GW153 GW154) hb); replace HB := zS hb (zb2 GE153 GE154); clear hb ho0))
             go_ret
             exact ⟨_, zw, by (with_reducible repeat (first | apply Kd.R_alloc | apply Kd.R_drewN | apply Kd.R_drew)); exact Kd.R_mono HO189.out (fun _ hk => hk.1.1), zb2 GE153 GE154, zq2 GW153 GW154⟩
            ·replace c101 := Bool.eq_false_iff.mpr c101
             subst c101
             rw [if_neg (Bool.false_ne_true)] at H
             obtain rfl := Option.some.inj H
             have hnb108 := NB154_153.out
             have hnc108 := NB153_154.out
             obtain ⟨hcz109_0, hcz109_1, hcz109_2, hfz109_0, hfz109_1, hfz109_2⟩ := zh3 BK154
             obtain ⟨hcz110_0, hcz110_1, hcz110_2, hcz110_3, hfz110_0, hfz110_1, hfz110_2, hfz110_3⟩ := zh4 BK153
             go_wp2
             go_ret
             exact ⟨_, zw, zr HO_0, zb2 GE153 GE154, zq2 GW153 GW154⟩

end Go.Proofs.Ytnfmpopmigbkoaa.PFnPartsRead

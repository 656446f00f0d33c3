-- Written by mkprint.py, a program of this session (the printer with additions of its own)
import Derived.Test.YtnfmpopmigbkoaaPFnPartsReadx0
import Derived.Test.YtnfmpopmigbkoaaPFnPartsReadx4
import Derived.Test.YtnfmpopmigbkoaaPFnPartsReadx6
namespace Go.Proofs.Ytnfmpopmigbkoaa.PFnPartsRead
open Go.RowKit Go.Proofs.YtnfmpopmigbkoaaW.PrintWords Go.Proofs.YtnfmpopmigbkoaaW.PrintLast Go.Proofs.YtnfmpopmigbkoaaW.PrintMore
attribute [local go_sem] max2_int min2_int max_two min_two max_three min_three max_four min_four   -- for this text's walks alone
set_option linter.unusedVariables false
set_option linter.unusedSimpArgs false

/-! ### spec_GetPart: function 22 -/
mutual
def spec_GetPart.j0 : Nat → List Int → Int → Bool → Int → Int → Bool → Bool → Option (Int × Int × ByteArray × Int × Bool)
  | 0, _, _, _, _, _, _, _ => none
  | k + 1, x0, x2, x25, x305000, x305001, x305002, x305003 => if x25 = true then (some (0, 0, (⟨#[]⟩ : ByteArray), 0, false)) else (if x305003 = true then ((spec_Flip.f k x0 0).bind fun t307 => (if x305002 = true then (if x2 = (t307.length : Int) then (spec_GetPart.j1 k x2 t307 true x305000 x305001 x305002 x305003) else (if 0 ≤ x2 then (if x2 < (t307.length : Int) then (spec_GetPart.j1 k x2 t307 (decide ((rd t307 x2) > 1)) x305000 x305001 x305002 x305003) else (none)) else (none))) else (spec_GetPart.j2 k x2 t307 x305000 x305001 x305002 x305003))) else (if x305002 = true then (if x2 = (x0.length : Int) then (spec_GetPart.j3 k x2 x0 true x305000 x305001 x305002 x305003) else (if 0 ≤ x2 then (if x2 < (x0.length : Int) then (spec_GetPart.j3 k x2 x0 (decide ((rd x0 x2) > 1)) x305000 x305001 x305002 x305003) else (none)) else (none))) else (spec_GetPart.j4 k x2 x0 x305000 x305001 x305002 x305003)))
def spec_GetPart.j2 : Nat → Int → List Int → Int → Int → Bool → Bool → Option (Int × Int × ByteArray × Int × Bool)
  | 0, _, _, _, _, _, _ => none
  | k + 1, x2, x9, x305000, x305001, x305002, x305003 => (spec_l5Get.f k x9 x305001 x2).bind fun bt312 => (if bt312.2.2.2.2 = true then ((spec_ValOk.f bt312.1 bt312.2.1 bt312.2.2.1).bind fun t318 => (if t318 = true then (some (bt312.1, bt312.2.1, bt312.2.2.1, bt312.2.2.2.1, true)) else (some (0, 0, (⟨#[]⟩ : ByteArray), 0, false)))) else (some (0, 0, (⟨#[]⟩ : ByteArray), 0, false)))
def spec_GetPart.j1 : Nat → Int → List Int → Bool → Int → Int → Bool → Bool → Option (Int × Int × ByteArray × Int × Bool)
  | 0, _, _, _, _, _, _, _ => none
  | k + 1, x2, x9, x44, x305000, x305001, x305002, x305003 => if x44 = true then (some (0, 0, (⟨#[]⟩ : ByteArray), 0, false)) else (if 0 ≤ x2 then (if x2 < (x9.length : Int) then (if (rd x9 x2) = 0 then (some (0, 0, (⟨#[]⟩ : ByteArray), wrap64 (x2 + 1), true)) else (spec_GetPart.j2 k (wrap64 (x2 + 1)) x9 x305000 x305001 x305002 x305003)) else (none)) else (none))
def spec_GetPart.j4 : Nat → Int → List Int → Int → Int → Bool → Bool → Option (Int × Int × ByteArray × Int × Bool)
  | 0, _, _, _, _, _, _ => none
  | k + 1, x2, x9, x305000, x305001, x305002, x305003 => (spec_l5Get.f k x9 x305001 x2).bind fun bt321 => (if bt321.2.2.2.2 = true then ((spec_ValOk.f bt321.1 bt321.2.1 bt321.2.2.1).bind fun t327 => (if t327 = true then (some (bt321.1, bt321.2.1, bt321.2.2.1, bt321.2.2.2.1, true)) else (some (0, 0, (⟨#[]⟩ : ByteArray), 0, false)))) else (some (0, 0, (⟨#[]⟩ : ByteArray), 0, false)))
def spec_GetPart.j3 : Nat → Int → List Int → Bool → Int → Int → Bool → Bool → Option (Int × Int × ByteArray × Int × Bool)
  | 0, _, _, _, _, _, _, _ => none
  | k + 1, x2, x9, x44, x305000, x305001, x305002, x305003 => if x44 = true then (some (0, 0, (⟨#[]⟩ : ByteArray), 0, false)) else (if 0 ≤ x2 then (if x2 < (x9.length : Int) then (if (rd x9 x2) = 0 then (some (0, 0, (⟨#[]⟩ : ByteArray), wrap64 (x2 + 1), true)) else (spec_GetPart.j4 k (wrap64 (x2 + 1)) x9 x305000 x305001 x305002 x305003)) else (none)) else (none))
end
def spec_GetPart.f (k : Nat) (l0 : List Int) (a1_0 : Int) (a1_1 : Int) (a1_2 : Bool) (a1_3 : Bool) (a2 : Int) : Option (Int × Int × ByteArray × Int × Bool) := (spec_PartOk.f a1_0 a1_1 a1_2 a1_3).bind fun t306 => (if t306 = true then (if a2 < 0 then (spec_GetPart.j0 k l0 a2 true a1_0 a1_1 a1_2 a1_3) else (spec_GetPart.j0 k l0 a2 (decide (a2 > (l0.length : Int))) a1_0 a1_1 a1_2 a1_3)) else (spec_GetPart.j0 k l0 a2 true a1_0 a1_1 a1_2 a1_3))
theorem spec_GetPart.mono_l : ∀ k, (∀ y0 y1 y2 y3 y4 y5 y6, LeO (spec_GetPart.j0 k y0 y1 y2 y3 y4 y5 y6) (spec_GetPart.j0 (k + 1) y0 y1 y2 y3 y4 y5 y6)) ∧ (∀ y0 y1 y2 y3 y4 y5, LeO (spec_GetPart.j2 k y0 y1 y2 y3 y4 y5) (spec_GetPart.j2 (k + 1) y0 y1 y2 y3 y4 y5)) ∧ (∀ y0 y1 y2 y3 y4 y5 y6, LeO (spec_GetPart.j1 k y0 y1 y2 y3 y4 y5 y6) (spec_GetPart.j1 (k + 1) y0 y1 y2 y3 y4 y5 y6)) ∧ (∀ y0 y1 y2 y3 y4 y5, LeO (spec_GetPart.j4 k y0 y1 y2 y3 y4 y5) (spec_GetPart.j4 (k + 1) y0 y1 y2 y3 y4 y5)) ∧ (∀ y0 y1 y2 y3 y4 y5 y6, LeO (spec_GetPart.j3 k y0 y1 y2 y3 y4 y5 y6) (spec_GetPart.j3 (k + 1) y0 y1 y2 y3 y4 y5 y6))
  | 0 => ⟨fun _ _ _ _ _ _ _ r h => by simp [spec_GetPart.j0] at h, fun _ _ _ _ _ _ r h => by simp [spec_GetPart.j2] at h, fun _ _ _ _ _ _ _ r h => by simp [spec_GetPart.j1] at h, fun _ _ _ _ _ _ r h => by simp [spec_GetPart.j4] at h, fun _ _ _ _ _ _ _ r h => by simp [spec_GetPart.j3] at h⟩
  | k + 1 => by
    obtain ⟨ih0, ih1, ih2, ih3, ih4⟩ := spec_GetPart.mono_l k
    refine ⟨?_, ?_, ?_, ?_, ?_⟩
    · intro y0 y1 y2 y3 y4 y5 y6
      unfold spec_GetPart.j0
      repeat' first
      | (with_reducible exact ih0 _ _ _ _ _ _ _)
      | (with_reducible exact ih1 _ _ _ _ _ _)
      | (with_reducible exact ih2 _ _ _ _ _ _ _)
      | (with_reducible exact ih3 _ _ _ _ _ _)
      | (with_reducible exact ih4 _ _ _ _ _ _ _)
      | (with_reducible exact spec_Flip.mono _ _ _)
      | (with_reducible exact spec_l5Get.mono _ _ _ _)
      | (with_reducible exact LeO.refl _)
      | (with_reducible exact LeO.none _)
      | (with_reducible refine LeO.ite ?_ ?_)
      | (with_reducible refine LeO.bind ?_ (fun _ => ?_))
      | exact ih0 _ _ _ _ _ _ _
      | exact ih1 _ _ _ _ _ _
      | exact ih2 _ _ _ _ _ _ _
      | exact ih3 _ _ _ _ _ _
      | exact ih4 _ _ _ _ _ _ _
      | exact spec_Flip.mono _ _ _
      | exact spec_l5Get.mono _ _ _ _
      | exact LeO.none _
      | refine LeO.ite ?_ ?_
      | refine LeO.bind ?_ (fun _ => ?_)
    · intro y0 y1 y2 y3 y4 y5
      unfold spec_GetPart.j2
      repeat' first
      | (with_reducible exact ih0 _ _ _ _ _ _ _)
      | (with_reducible exact ih1 _ _ _ _ _ _)
      | (with_reducible exact ih2 _ _ _ _ _ _ _)
      | (with_reducible exact ih3 _ _ _ _ _ _)
      | (with_reducible exact ih4 _ _ _ _ _ _ _)
      | (with_reducible exact spec_Flip.mono _ _ _)
      | (with_reducible exact spec_l5Get.mono _ _ _ _)
      | (with_reducible exact LeO.refl _)
      | (with_reducible exact LeO.none _)
      | (with_reducible refine LeO.ite ?_ ?_)
      | (with_reducible refine LeO.bind ?_ (fun _ => ?_))
      | exact ih0 _ _ _ _ _ _ _
      | exact ih1 _ _ _ _ _ _
      | exact ih2 _ _ _ _ _ _ _
      | exact ih3 _ _ _ _ _ _
      | exact ih4 _ _ _ _ _ _ _
      | exact spec_Flip.mono _ _ _
      | exact spec_l5Get.mono _ _ _ _
      | exact LeO.none _
      | refine LeO.ite ?_ ?_
      | refine LeO.bind ?_ (fun _ => ?_)
    · intro y0 y1 y2 y3 y4 y5 y6
      unfold spec_GetPart.j1
      repeat' first
      | (with_reducible exact ih0 _ _ _ _ _ _ _)
      | (with_reducible exact ih1 _ _ _ _ _ _)
      | (with_reducible exact ih2 _ _ _ _ _ _ _)
      | (with_reducible exact ih3 _ _ _ _ _ _)
      | (with_reducible exact ih4 _ _ _ _ _ _ _)
      | (with_reducible exact spec_Flip.mono _ _ _)
      | (with_reducible exact spec_l5Get.mono _ _ _ _)
      | (with_reducible exact LeO.refl _)
      | (with_reducible exact LeO.none _)
      | (with_reducible refine LeO.ite ?_ ?_)
      | (with_reducible refine LeO.bind ?_ (fun _ => ?_))
      | exact ih0 _ _ _ _ _ _ _
      | exact ih1 _ _ _ _ _ _
      | exact ih2 _ _ _ _ _ _ _
      | exact ih3 _ _ _ _ _ _
      | exact ih4 _ _ _ _ _ _ _
      | exact spec_Flip.mono _ _ _
      | exact spec_l5Get.mono _ _ _ _
      | exact LeO.none _
      | refine LeO.ite ?_ ?_
      | refine LeO.bind ?_ (fun _ => ?_)
    · intro y0 y1 y2 y3 y4 y5
      unfold spec_GetPart.j4
      repeat' first
      | (with_reducible exact ih0 _ _ _ _ _ _ _)
      | (with_reducible exact ih1 _ _ _ _ _ _)
      | (with_reducible exact ih2 _ _ _ _ _ _ _)
      | (with_reducible exact ih3 _ _ _ _ _ _)
      | (with_reducible exact ih4 _ _ _ _ _ _ _)
      | (with_reducible exact spec_Flip.mono _ _ _)
      | (with_reducible exact spec_l5Get.mono _ _ _ _)
      | (with_reducible exact LeO.refl _)
      | (with_reducible exact LeO.none _)
      | (with_reducible refine LeO.ite ?_ ?_)
      | (with_reducible refine LeO.bind ?_ (fun _ => ?_))
      | exact ih0 _ _ _ _ _ _ _
      | exact ih1 _ _ _ _ _ _
      | exact ih2 _ _ _ _ _ _ _
      | exact ih3 _ _ _ _ _ _
      | exact ih4 _ _ _ _ _ _ _
      | exact spec_Flip.mono _ _ _
      | exact spec_l5Get.mono _ _ _ _
      | exact LeO.none _
      | refine LeO.ite ?_ ?_
      | refine LeO.bind ?_ (fun _ => ?_)
    · intro y0 y1 y2 y3 y4 y5 y6
      unfold spec_GetPart.j3
      repeat' first
      | (with_reducible exact ih0 _ _ _ _ _ _ _)
      | (with_reducible exact ih1 _ _ _ _ _ _)
      | (with_reducible exact ih2 _ _ _ _ _ _ _)
      | (with_reducible exact ih3 _ _ _ _ _ _)
      | (with_reducible exact ih4 _ _ _ _ _ _ _)
      | (with_reducible exact spec_Flip.mono _ _ _)
      | (with_reducible exact spec_l5Get.mono _ _ _ _)
      | (with_reducible exact LeO.refl _)
      | (with_reducible exact LeO.none _)
      | (with_reducible refine LeO.ite ?_ ?_)
      | (with_reducible refine LeO.bind ?_ (fun _ => ?_))
      | exact ih0 _ _ _ _ _ _ _
      | exact ih1 _ _ _ _ _ _
      | exact ih2 _ _ _ _ _ _ _
      | exact ih3 _ _ _ _ _ _
      | exact ih4 _ _ _ _ _ _ _
      | exact spec_Flip.mono _ _ _
      | exact spec_l5Get.mono _ _ _ _
      | exact LeO.none _
      | refine LeO.ite ?_ ?_
      | refine LeO.bind ?_ (fun _ => ?_)
theorem spec_GetPart.mono : ∀ a0 a1 a2 a3 a4 a5 k, LeO (spec_GetPart.f k a0 a1 a2 a3 a4 a5) (spec_GetPart.f (k + 1) a0 a1 a2 a3 a4 a5) := by
  intro a0 a1 a2 a3 a4 a5 k
  obtain ⟨ih0, ih1, ih2, ih3, ih4⟩ := spec_GetPart.mono_l k
  unfold spec_GetPart.f
  repeat' first
      | (with_reducible exact ih0 _ _ _ _ _ _ _)
      | (with_reducible exact ih1 _ _ _ _ _ _)
      | (with_reducible exact ih2 _ _ _ _ _ _ _)
      | (with_reducible exact ih3 _ _ _ _ _ _)
      | (with_reducible exact ih4 _ _ _ _ _ _ _)
      | (with_reducible exact spec_Flip.mono _ _ _)
      | (with_reducible exact spec_l5Get.mono _ _ _ _)
      | (with_reducible exact LeO.refl _)
      | (with_reducible exact LeO.none _)
      | (with_reducible refine LeO.ite ?_ ?_)
      | (with_reducible refine LeO.bind ?_ (fun _ => ?_))
      | exact ih0 _ _ _ _ _ _ _
      | exact ih1 _ _ _ _ _ _
      | exact ih2 _ _ _ _ _ _ _
      | exact ih3 _ _ _ _ _ _
      | exact ih4 _ _ _ _ _ _ _
      | exact spec_Flip.mono _ _ _
      | exact spec_l5Get.mono _ _ _ _
      | exact LeO.none _
      | refine LeO.ite ?_ ?_
      | refine LeO.bind ?_ (fun _ => ?_)
set_option maxHeartbeats 8000000 in
set_option maxRecDepth 100000 in
theorem spec_GetPart.calls (k : Nat) (A0 : Option Addr) (c0 : Nat) (l0 : List Int) (a1_0 : Int) (a1_1 : Int) (a1_2 : Bool) (a1_3 : Bool) (a2 : Int) (r1 : Int) (r2 : Int) (r3 : ByteArray) (r4 : Int) (r5 : Bool) (w : World) (hr0 : Kd.C (Kd.int .u8) w A0 l0.length l0) (hc0 : l0.length ≤ c0) (h : spec_GetPart.f k l0 a1_0 a1_1 a1_2 a1_3 a2 = some (r1, r2, r3, r4, r5)) :
  Calls Try.prog 22 #[.slice A0 l0.length c0, .agg #[.int .i64 a1_0, .int .i64 a1_1, .bool a1_2, .bool a1_3], .int .i64 a2] w fun e w' => e = .returned (.tuple #[.agg #[.int .i64 r1, .int .i64 r2, .string r3], .int .i64 r4, .bool r5]) ∧ Below w.heap.size w w' := by
 have hu30 := Try.underlying30
 have hu32 := Try.underlying32
 have HR0 := zA hr0
 have HC0 := zA hc0
 clear hr0 hc0
 have HB := zA (Below.refl w.heap.size w)
 have H : ((spec_PartOk.f a1_0 a1_1 a1_2 a1_3).bind fun t306 => (if t306 = true then (if a2 < 0 then (spec_GetPart.j0 k l0 a2 true a1_0 a1_1 a1_2 a1_3) else (spec_GetPart.j0 k l0 a2 (decide (a2 > (l0.length : Int))) a1_0 a1_1 a1_2 a1_3)) else (spec_GetPart.j0 k l0 a2 true a1_0 a1_1 a1_2 a1_3))) = some (r1, r2, r3, r4, r5) := h
 clear h
 have HC4 := zA H
 clear H
 go_enter Try.func22, Try.ntmps22
 go_upto_region 1 with (first | ((with_reducible refine zt 4 ?_); (try (refine gate_guard (by rfl) ?_; dsimp only)); refine zn #[.int .i64 a1_0, .int .i64 a1_1, .bool a1_2, .bool a1_3] 30 ?_; intro gb304 hg w5 hbox hb; have BK304 := zA hbox; have GW304 := zG hg; have GE304 := zG hg; replace HB := zS hb; clear hb hbox hg) | ((with_reducible refine zt 6 ?_); (try (refine gate_guard (by rfl) ?_; dsimp only)); refine zn #[.int .i64 0, .int .i64 0, .string (⟨#[]⟩ : ByteArray)] 32 ?_; intro gb305 hg w6 hbox hb; have BK305 := zA hbox; have GW305 := zG hg (zb1 GE304); have GE305 := zG hg (zb1 GE304); replace HB := zS hb (zb1 GE304); have NB304_305 := zX BK304 hg; have NB305_304 := zY BK304 hg; replace BK304 := zB BK304 hb; clear hb hbox hg))
 (try simp only [Act.put, List.setIfInBounds_toArray, List.set_cons_zero, List.set_cons_succ])
 go_cut [25] (fun v25 wc => ∃ (kq : Nat) (x25_3 : Bool), v25 = .bool x25_3 ∧ Aside0 (spec_GetPart.j0 kq l0 a2 x25_3 a1_0 a1_1 a1_2 a1_3 = some (r1, r2, r3, r4, r5)) ∧ Aside0 (kq ≤ k) ∧ Aside0 (wc.heap[gb304]? = some (.cells #[.int .i64 a1_0, .int .i64 a1_1, .bool a1_2, .bool a1_3] 30 (0, 0))) ∧ Aside0 (wc.heap[gb305]? = some (.cells #[.int .i64 0, .int .i64 0, .string (⟨#[]⟩ : ByteArray)] 32 (0, 0))) ∧ Aside0 (Below w.heap.size w wc))
 case first =>
  have H := HC4.out
  clear HC4
  replace H := zI H
  obtain ⟨t306, A7, H⟩ := H
  by_cases c8 : t306 = true
  ·subst c8
   rw [if_pos rfl] at H
   by_cases c9 : a2 < 0
   ·rw [if_pos c9] at H
    have c9b0 : decide (a2 < 0) = true := decide_eq_true c9
    clear c9
    (first | rw [c9b0] | (simp only [i64_w, i32_w]; rw [c9b0]) | skip)
    have H' := zA H
    clear H
    have hnb10 := NB304_305.out
    have hnc10 := NB305_304.out
    obtain ⟨hcz11_0, hcz11_1, hcz11_2, hcz11_3, hfz11_0, hfz11_1, hfz11_2, hfz11_3⟩ := zh4 BK304
    go_wp2_with (first | ((with_reducible refine zg 27 ?_); refine gL (some 14) Try.func27 #[.agg #[.int .i64 a1_0, .int .i64 a1_1, .bool a1_2, .bool a1_3]] ?_; (with_reducible refine (spec_PartOk.calls a1_0 a1_1 a1_2 a1_3 true _ A7.out).mono ?_); rintro e w12 ⟨rfl, hb⟩; refine ⟨_, rfl, ?_⟩; replace BK304 := zB BK304 hb; replace BK305 := zB BK305 hb; replace HB := zS hb (zb2 GE304 GE305); (try clear hb)))
    go_meet
    case rel => exact ⟨_, (true), zx, H', ⟨zo⟩, ⟨zk BK304⟩, ⟨zk BK305⟩, ⟨zb2 GE304 GE305⟩⟩
   ·rw [if_neg c9] at H
    have c9b0 : decide (a2 < 0) = false := decide_eq_false c9
    clear c9
    (first | rw [c9b0] | (simp only [i64_w, i32_w]; rw [c9b0]) | skip)
    have H' := zA H
    clear H
    have hnb13 := NB304_305.out
    have hnc13 := NB305_304.out
    obtain ⟨hcz14_0, hcz14_1, hcz14_2, hcz14_3, hfz14_0, hfz14_1, hfz14_2, hfz14_3⟩ := zh4 BK304
    go_wp2_with (first | ((with_reducible refine zg 27 ?_); refine gL (some 14) Try.func27 #[.agg #[.int .i64 a1_0, .int .i64 a1_1, .bool a1_2, .bool a1_3]] ?_; (with_reducible refine (spec_PartOk.calls a1_0 a1_1 a1_2 a1_3 true _ A7.out).mono ?_); rintro e w15 ⟨rfl, hb⟩; refine ⟨_, rfl, ?_⟩; replace BK304 := zB BK304 hb; replace BK305 := zB BK305 hb; replace HB := zS hb (zb2 GE304 GE305); (try clear hb)))
    go_meet
    case rel => exact ⟨_, (decide (a2 > (l0.length : Int))), zx, H', ⟨zo⟩, ⟨zk BK304⟩, ⟨zk BK305⟩, ⟨zb2 GE304 GE305⟩⟩
  ·replace c8 := Bool.eq_false_iff.mpr c8
   subst c8
   rw [if_neg (Bool.false_ne_true)] at H
   have H' := zA H
   clear H
   have hnb16 := NB304_305.out
   have hnc16 := NB305_304.out
   obtain ⟨hcz17_0, hcz17_1, hcz17_2, hcz17_3, hfz17_0, hfz17_1, hfz17_2, hfz17_3⟩ := zh4 BK304
   go_wp2_with (first | ((with_reducible refine zg 27 ?_); refine gL (some 14) Try.func27 #[.agg #[.int .i64 a1_0, .int .i64 a1_1, .bool a1_2, .bool a1_3]] ?_; (with_reducible refine (spec_PartOk.calls a1_0 a1_1 a1_2 a1_3 false _ A7.out).mono ?_); rintro e w18 ⟨rfl, hb⟩; refine ⟨_, rfl, ?_⟩; replace BK304 := zB BK304 hb; replace BK305 := zB BK305 hb; replace HB := zS hb (zb2 GE304 GE305); (try clear hb)))
   go_meet
   case rel => exact ⟨_, (true), zx, H', ⟨zo⟩, ⟨zk BK304⟩, ⟨zk BK305⟩, ⟨zb2 GE304 GE305⟩⟩
 case rest =>
  clear HC4
  obtain ⟨kq, x25_3, rfl, HA, HJ3, BK304, BK305, HB⟩ := hcut
  cases kq with
  | zero => exact absurd HA.out (by simp [spec_GetPart.j0])
  | succ kj3 =>
   have H := HA.out
   clear HA
   simp only [spec_GetPart.j0] at H
   by_cases c19 : x25_3 = true
   ·subst c19
    rw [if_pos rfl] at H
    simp only [Option.some.injEq, Prod.mk.injEq] at H
    obtain ⟨rfl, rfl, rfl, rfl, rfl⟩ := H
    have hnb20 := NB305_304.out
    have hnc20 := NB304_305.out
    obtain ⟨hcz21_0, hcz21_1, hcz21_2, hfz21_0, hfz21_1, hfz21_2⟩ := zh3 BK305
    go_wp2
    refine bodyPost_ret (results_ctt rfl _ _ gb305 32 #[.int .i64 0, .int .i64 0, .string (⟨#[]⟩ : ByteArray)] (0, 0) _ rfl zz17 Try.underlying32 rfl (by kernel_rfl)) rfl ?_
    exact ⟨zw, zb2 GE304 GE305⟩
   ·replace c19 := Bool.eq_false_iff.mpr c19
    subst c19
    rw [if_neg (Bool.false_ne_true)] at H
    by_cases c22 : a1_3 = true
    ·subst c22
     rw [if_pos rfl] at H
     replace H := zI H
     obtain ⟨t307, A23, H⟩ := H
     have HC24 := zA H
     clear H
     have hnb25 := NB304_305.out
     have hnc25 := NB305_304.out
     obtain ⟨hcz26_0, hcz26_1, hcz26_2, hcz26_3, hfz26_0, hfz26_1, hfz26_2, hfz26_3⟩ := zh4 BK304
     go_upto_if 33 with (first | ((with_reducible refine zg 68 ?_); refine gL (some 31) Try.func68 #[.slice A0 l0.length c0, .int .i64 0] ?_; (with_reducible refine (spec_Flip.calls kj3 _ _ l0 0 t307 _ ?z1 ?z2 A23.out).mono ?_); (case z1 => exact zd HR0); (case z2 => exact HC0.out); rintro e w27 ⟨v308, rfl, ho0, hb⟩; refine ⟨_, rfl, ?_⟩; have HO309 := zL ho0 (zb2 GE304 GE305); replace BK304 := zB BK304 hb; replace BK305 := zB BK305 hb; replace HB := zS hb (zb2 GE304 GE305); clear hb ho0; obtain ⟨hcz28_0, hcz28_1, hcz28_2, hcz28_3, hfz28_0, hfz28_1, hfz28_2, hfz28_3⟩ := zh4 BK304))
     (try simp only [Act.put, List.setIfInBounds_toArray, List.set_cons_zero, List.set_cons_succ])
     go_cut [2] (fun v2 wc => ∃ (kq : Nat) (x2_23 : Int) (x306000_23 : Int) (x306001_23 : Int) (x306002_23 : ByteArray), v2 = .int .i64 x2_23 ∧ Aside0 (spec_GetPart.j2 kq x2_23 t307 a1_0 a1_1 a1_2 true = some (r1, r2, r3, r4, r5)) ∧ Aside0 (kq ≤ kj3) ∧ Aside0 (Kd.R (Kd.int .u8) 5 wc w.heap.size (fun _ => True) v308 t307) ∧ Aside0 (wc.heap[gb304]? = some (.cells #[.int .i64 a1_0, .int .i64 a1_1, .bool a1_2, .bool true] 30 (0, 0))) ∧ Aside0 (wc.heap[gb305]? = some (.cells #[.int .i64 x306000_23, .int .i64 x306001_23, .string x306002_23] 32 (0, 0))) ∧ Aside0 (Below w.heap.size w wc))
     case first =>
      have H := HC24.out
      clear HC24
      by_cases c29 : a1_2 = true
      ·subst c29
       rw [if_pos rfl] at H
       have HC30 := zA H
       clear H
       go_upto_region 7 with (fail)
       go_cut [44] (fun v44 wc => ∃ (kq : Nat) (x44_29 : Bool), v44 = .bool x44_29 ∧ Aside0 (spec_GetPart.j1 kq a2 t307 x44_29 a1_0 a1_1 true true = some (r1, r2, r3, r4, r5)) ∧ Aside0 (kq ≤ kj3) ∧ Aside0 (Kd.R (Kd.int .u8) 5 wc w.heap.size (fun _ => True) v308 t307) ∧ Aside0 (wc.heap[gb304]? = some (.cells #[.int .i64 a1_0, .int .i64 a1_1, .bool true, .bool true] 30 (0, 0))) ∧ Aside0 (wc.heap[gb305]? = some (.cells #[.int .i64 0, .int .i64 0, .string (⟨#[]⟩ : ByteArray)] 32 (0, 0))) ∧ Aside0 (Below w.heap.size w wc))
       case first =>
        have H := HC30.out
        clear HC30
        by_cases c31 : a2 = (t307.length : Int)
        ·rw [if_pos c31] at H
         have c31b0 : (a2 == (t307.length : Int)) = true := beq_iff_eq.mpr c31
         have c31b1 : (a2 != (t307.length : Int)) = false := bne_eq_false_iff_eq.mpr c31
         clear c31
         (first | rw [c31b0] | (simp only [i64_w, i32_w]; rw [c31b0]) | skip)
         have H' := zA H
         clear H
         obtain ⟨Ao32, co32, eo32⟩ := Kd.R_slice HO309.out
         subst eo32
         go_wp2
         go_meet
         case rel => exact ⟨_, (true), zx, H', ⟨zz84⟩, ⟨zr HO309⟩, ⟨zk BK304⟩, ⟨zk BK305⟩, ⟨zb2 GE304 GE305⟩⟩
        ·rw [if_neg c31] at H
         have c31b0 : (a2 == (t307.length : Int)) = false := beq_eq_false_iff_ne.mpr c31
         have c31b1 : (a2 != (t307.length : Int)) = true := bne_iff_ne.mpr c31
         (first | rw [c31b0] | (simp only [i64_w, i32_w]; rw [c31b0]) | skip)
         by_cases c33 : 0 ≤ a2
         ·rw [if_pos c33] at H
          have c33b0 : decide (0 ≤ a2) = true := decide_eq_true c33
          clear c33
          by_cases c34 : a2 < (t307.length : Int)
          ·rw [if_pos c34] at H
           have c34b0 : decide (a2 < (t307.length : Int)) = true := decide_eq_true c34
           clear c34
           have H' := zA H
           clear H
           obtain ⟨Ao35, co35, eo35⟩ := Kd.R_slice HO309.out
           subst eo35
           have p310 : 0 ≤ (a2 : Int) := of_decide_eq_true za
           have q310 : a2 < (t307.length : Int) := of_decide_eq_true za
           obtain ⟨ad310, e310, hx310_0⟩ := Kd.at_int (Kd.R_reads' HO309.out).2.2 a2 p310 q310
           cases e310
           replace p310 := eq_true p310
           replace q310 := eq_true q310
           go_wp2
           go_meet
           case rel => exact ⟨_, (decide ((rd t307 a2) > 1)), zx, H', ⟨zz84⟩, ⟨zr HO309⟩, ⟨zk BK304⟩, ⟨zk BK305⟩, ⟨zb2 GE304 GE305⟩⟩
          ·rw [if_neg c34] at H
           exact absurd H (by simp)
         ·rw [if_neg c33] at H
          exact absurd H (by simp)
       case rest =>
        clear HC30
        try clear c19; try clear c22; try clear c29; try clear hcz26_0; try clear hcz26_1; try clear hcz26_2; try clear hcz26_3; try clear hcz28_0; try clear hcz28_1; try clear hcz28_2; try clear hcz28_3; try clear hfz26_0; try clear hfz26_1; try clear hfz26_2; try clear hfz26_3; try clear hfz28_0; try clear hfz28_1; try clear hfz28_2; try clear hfz28_3
        obtain ⟨kq, x44_29, rfl, HA, HJ29, HO_9, BK304, BK305, HB⟩ := hcut
        cases kq with
        | zero => exact absurd HA.out (by simp [spec_GetPart.j1])
        | succ kj29 =>
         have H := HA.out
         clear HA
         simp only [spec_GetPart.j1] at H
         by_cases c36 : x44_29 = true
         ·subst c36
          rw [if_pos rfl] at H
          simp only [Option.some.injEq, Prod.mk.injEq] at H
          obtain ⟨rfl, rfl, rfl, rfl, rfl⟩ := H
          have hnb37 := NB305_304.out
          have hnc37 := NB304_305.out
          obtain ⟨hcz38_0, hcz38_1, hcz38_2, hfz38_0, hfz38_1, hfz38_2⟩ := zh3 BK305
          go_wp2
          refine bodyPost_ret (results_ctt rfl _ _ gb305 32 #[.int .i64 0, .int .i64 0, .string (⟨#[]⟩ : ByteArray)] (0, 0) _ rfl zz17 Try.underlying32 rfl (by kernel_rfl)) rfl ?_
          exact ⟨zw, zb2 GE304 GE305⟩
         ·replace c36 := Bool.eq_false_iff.mpr c36
          subst c36
          rw [if_neg (Bool.false_ne_true)] at H
          by_cases c39 : 0 ≤ a2
          ·rw [if_pos c39] at H
           have c39b0 : decide (0 ≤ a2) = true := decide_eq_true c39
           clear c39
           by_cases c40 : a2 < (t307.length : Int)
           ·rw [if_pos c40] at H
            have c40b0 : decide (a2 < (t307.length : Int)) = true := decide_eq_true c40
            clear c40
            by_cases c41 : (rd t307 a2) = 0
            ·rw [if_pos c41] at H
             have c41b0 : ((rd t307 a2) == 0) = true := beq_iff_eq.mpr c41
             have c41b1 : ((rd t307 a2) != 0) = false := bne_eq_false_iff_eq.mpr c41
             clear c41
             simp only [Option.some.injEq, Prod.mk.injEq] at H
             obtain ⟨rfl, rfl, rfl, rfl, rfl⟩ := H
             obtain ⟨Ao42, co42, eo42⟩ := Kd.R_slice HO_9.out
             subst eo42
             have p311 : 0 ≤ (a2 : Int) := of_decide_eq_true za
             have q311 : a2 < (t307.length : Int) := of_decide_eq_true za
             obtain ⟨ad311, e311, hx311_0⟩ := Kd.at_int (Kd.R_reads' HO_9.out).2.2 a2 p311 q311
             cases e311
             replace p311 := eq_true p311
             replace q311 := eq_true q311
             have hnb43 := NB305_304.out
             have hnc43 := NB304_305.out
             obtain ⟨hcz44_0, hcz44_1, hcz44_2, hfz44_0, hfz44_1, hfz44_2⟩ := zh3 BK305
             go_wp2
             refine bodyPost_ret (results_ctt rfl _ _ gb305 32 #[.int .i64 0, .int .i64 0, .string (⟨#[]⟩ : ByteArray)] (0, 0) _ rfl zz17 Try.underlying32 rfl (by kernel_rfl)) rfl ?_
             exact ⟨zw, zb2 GE304 GE305⟩
            ·rw [if_neg c41] at H
             have c41b0 : ((rd t307 a2) == 0) = false := beq_eq_false_iff_ne.mpr c41
             have c41b1 : ((rd t307 a2) != 0) = true := bne_iff_ne.mpr c41
             have H' := zA H
             clear H
             obtain ⟨Ao45, co45, eo45⟩ := Kd.R_slice HO_9.out
             subst eo45
             have p311 : 0 ≤ (a2 : Int) := of_decide_eq_true za
             have q311 : a2 < (t307.length : Int) := of_decide_eq_true za
             obtain ⟨ad311, e311, hx311_0⟩ := Kd.at_int (Kd.R_reads' HO_9.out).2.2 a2 p311 q311
             cases e311
             replace p311 := eq_true p311
             replace q311 := eq_true q311
             go_wp2
             go_meet
             case rel => exact ⟨_, (wrap64 (a2 + 1)), (0), (0), ((⟨#[]⟩ : ByteArray)), zx, H', ⟨by have := HJ3.out; have := HJ29.out; first | omega | exact Nat.le_refl _⟩, ⟨zr HO_9⟩, ⟨zk BK304⟩, ⟨zk BK305⟩, ⟨zb2 GE304 GE305⟩⟩
           ·rw [if_neg c40] at H
            exact absurd H (by simp)
          ·rw [if_neg c39] at H
           exact absurd H (by simp)
      ·replace c29 := Bool.eq_false_iff.mpr c29
       subst c29
       rw [if_neg (Bool.false_ne_true)] at H
       have H' := zA H
       clear H
       go_wp2
       go_meet
       case rel => exact ⟨_, (a2), (0), (0), ((⟨#[]⟩ : ByteArray)), zx, H', ⟨zz84⟩, ⟨zr HO309⟩, ⟨zk BK304⟩, ⟨zk BK305⟩, ⟨zb2 GE304 GE305⟩⟩
     case rest =>
      clear HC24
      try clear c19; try clear c22; try clear hcz26_0; try clear hcz26_1; try clear hcz26_2; try clear hcz26_3; try clear hcz28_0; try clear hcz28_1; try clear hcz28_2; try clear hcz28_3; try clear hfz26_0; try clear hfz26_1; try clear hfz26_2; try clear hfz26_3; try clear hfz28_0; try clear hfz28_1; try clear hfz28_2; try clear hfz28_3
      obtain ⟨kq, x2_23, x306000_23, x306001_23, x306002_23, rfl, HA, HJ23, HO_9, BK304, BK305, HB⟩ := hcut
      cases kq with
      | zero => exact absurd HA.out (by simp [spec_GetPart.j2])
      | succ kj23 =>
       have H := HA.out
       clear HA
       simp only [spec_GetPart.j2] at H
       replace H := zI H
       obtain ⟨⟨t312, t313, t314, t315, t316⟩, A46, H⟩ := H
       try dsimp only at H
       by_cases c47 : t316 = true
       ·subst c47
        rw [if_pos rfl] at H
        replace H := zI H
        obtain ⟨t318, A48, H⟩ := H
        by_cases c49 : t318 = true
        ·subst c49
         rw [if_pos rfl] at H
         simp only [Option.some.injEq, Prod.mk.injEq] at H
         obtain ⟨rfl, rfl, rfl, rfl, rfl⟩ := H
         have hnb50 := NB304_305.out
         have hnc50 := NB305_304.out
         obtain ⟨hcz51_0, hcz51_1, hcz51_2, hcz51_3, hfz51_0, hfz51_1, hfz51_2, hfz51_3⟩ := zh4 BK304
         obtain ⟨Ao52, co52, eo52⟩ := Kd.R_slice HO_9.out
         subst eo52
         go_wp2_with (first | ((with_reducible refine zg 71 ?_); refine gL (some 61) Try.func71 #[.slice Ao52 t307.length co52, .int .i64 a1_1, .int .i64 x2_23] ?_; (with_reducible refine (spec_l5Get.calls kj23 _ _ t307 a1_1 x2_23 t312 t313 t314 t315 true _ ?z1 ?z2 A46.out).mono ?_); (case z1 => exact ze HO_9); (case z2 => exact zl HO_9); rintro e w53 ⟨rfl, hb⟩; refine ⟨_, rfl, ?_⟩; replace HO_9 := zR HO_9 hb; replace BK304 := zB BK304 hb; replace BK305 := zB BK305 hb; replace HB := zS hb (zb2 GE304 GE305); (try clear hb)) | ((with_reducible refine zt 10 ?_); (try (refine gate_guard (by rfl) ?_; dsimp only)); refine zn #[.int .i64 0, .int .i64 0, .string (⟨#[]⟩ : ByteArray)] 32 ?_; intro gb317 hg w54 hbox hb; replace HO_9 := zR HO_9 hb; have BK317 := zA hbox; have GW317 := zG hg (zb2 GE304 GE305); have GE317 := zG hg (zb2 GE304 GE305); replace HB := zS hb (zb2 GE304 GE305); have NB304_317 := zX BK304 hg; have NB317_304 := zY BK304 hg; replace BK304 := zB BK304 hb; have NB305_317 := zX BK305 hg; have NB317_305 := zY BK305 hg; replace BK305 := zB BK305 hb; clear hb hbox hg; have hnb55 := NB317_304.out; have hnc55 := NB304_317.out; have hnb56 := NB317_305.out; have hnc56 := NB305_317.out; obtain ⟨hcz57_0, hcz57_1, hcz57_2, hfz57_0, hfz57_1, hfz57_2⟩ := zh3 BK317) | (go_at_call 72; (with_reducible refine (spec_ValOk.calls t312 t313 t314 true _ A48.out).mono ?_); rintro e w58 ⟨rfl, hb⟩; replace HO_9 := zA (Kd.R_below (by (with_reducible repeat (first | apply Kd.R_alloc | apply Kd.R_drewN | apply Kd.R_drew)); exact (Kd.R_mono (Kd.R_far (p := ⟨gb317, 2, none⟩) (Kd.R_far (p := ⟨gb317, 1, none⟩) (Kd.R_far (p := ⟨gb317, 0, none⟩) (Kd.R_types HO_9.out BK317.out (by decide)) (fun _ hk => hk.2) (.int .i64 t312)) (fun _ hk => hk.2) (.int .i64 t313)) (fun _ hk => hk.2) (.string t314)) (fun _ h_ => h_.1))) hb); replace BK304 := zA (blk_below (g := gb304) (o := .cells #[.int .i64 a1_0, .int .i64 a1_1, .bool a1_2, .bool true] 30 (0, 0)) zz63 hb); replace BK305 := zA (blk_below (g := gb305) (o := .cells #[.int .i64 x306000_23, .int .i64 x306001_23, .string x306002_23] 32 (0, 0)) zz64 hb); replace BK317 := zA (blk_below (g := gb317) (o := .cells #[.int .i64 t312, .int .i64 t313, .string t314] 32 (0, 0)) zz48 hb); replace HB := zS hb zz56; (try clear hb); obtain ⟨hcz59_0, hcz59_1, hcz59_2, hfz59_0, hfz59_1, hfz59_2⟩ := zh3 BK317; obtain ⟨hcz60_0, hcz60_1, hcz60_2, hfz60_0, hfz60_1, hfz60_2⟩ := zh3 BK305))
         refine bodyPost_ret (results_ctt rfl _ _ gb305 32 #[.int .i64 t312, .int .i64 t313, .string t314] (0, 0) _ rfl (by (with_reducible repeat (first | refine blk_drewN ?_ _ | refine blk_drew ?_ | refine blk_alloc ?_ _)); refine blk_put (cs := #[.int .i64 t312, .int .i64 t313, .string x306002_23]) ?_ 2 _ rfl; (with_reducible repeat (first | refine blk_drewN ?_ _ | refine blk_drew ?_ | refine blk_alloc ?_ _)); refine blk_put (cs := #[.int .i64 t312, .int .i64 x306001_23, .string x306002_23]) ?_ 1 _ rfl; (with_reducible repeat (first | refine blk_drewN ?_ _ | refine blk_drew ?_ | refine blk_alloc ?_ _)); refine blk_put (cs := #[.int .i64 x306000_23, .int .i64 x306001_23, .string x306002_23]) ?_ 0 _ rfl; (with_reducible repeat (first | refine blk_drewN ?_ _ | refine blk_drew ?_ | refine blk_alloc ?_ _)); exact BK305.out) Try.underlying32 rfl (by kernel_rfl)) rfl ?_
         exact ⟨zw, zz56⟩
        ·replace c49 := Bool.eq_false_iff.mpr c49
         subst c49
         rw [if_neg (Bool.false_ne_true)] at H
         simp only [Option.some.injEq, Prod.mk.injEq] at H
         obtain ⟨rfl, rfl, rfl, rfl, rfl⟩ := H
         have hnb61 := NB304_305.out
         have hnc61 := NB305_304.out
         obtain ⟨hcz62_0, hcz62_1, hcz62_2, hcz62_3, hfz62_0, hfz62_1, hfz62_2, hfz62_3⟩ := zh4 BK304
         obtain ⟨Ao63, co63, eo63⟩ := Kd.R_slice HO_9.out
         subst eo63
         go_wp2_with (first | ((with_reducible refine zg 71 ?_); refine gL (some 61) Try.func71 #[.slice Ao63 t307.length co63, .int .i64 a1_1, .int .i64 x2_23] ?_; (with_reducible refine (spec_l5Get.calls kj23 _ _ t307 a1_1 x2_23 t312 t313 t314 t315 true _ ?z1 ?z2 A46.out).mono ?_); (case z1 => exact ze HO_9); (case z2 => exact zl HO_9); rintro e w64 ⟨rfl, hb⟩; refine ⟨_, rfl, ?_⟩; replace HO_9 := zR HO_9 hb; replace BK304 := zB BK304 hb; replace BK305 := zB BK305 hb; replace HB := zS hb (zb2 GE304 GE305); (try clear hb)) | ((with_reducible refine zt 10 ?_); (try (refine gate_guard (by rfl) ?_; dsimp only)); refine zn #[.int .i64 0, .int .i64 0, .string (⟨#[]⟩ : ByteArray)] 32 ?_; intro gb317 hg w65 hbox hb; replace HO_9 := zR HO_9 hb; have BK317 := zA hbox; have GW317 := zG hg (zb2 GE304 GE305); have GE317 := zG hg (zb2 GE304 GE305); replace HB := zS hb (zb2 GE304 GE305); have NB304_317 := zX BK304 hg; have NB317_304 := zY BK304 hg; replace BK304 := zB BK304 hb; have NB305_317 := zX BK305 hg; have NB317_305 := zY BK305 hg; replace BK305 := zB BK305 hb; clear hb hbox hg; have hnb66 := NB317_304.out; have hnc66 := NB304_317.out; have hnb67 := NB317_305.out; have hnc67 := NB305_317.out; obtain ⟨hcz68_0, hcz68_1, hcz68_2, hfz68_0, hfz68_1, hfz68_2⟩ := zh3 BK317) | (go_at_call 72; (with_reducible refine (spec_ValOk.calls t312 t313 t314 false _ A48.out).mono ?_); rintro e w69 ⟨rfl, hb⟩; replace HO_9 := zA (Kd.R_below (by (with_reducible repeat (first | apply Kd.R_alloc | apply Kd.R_drewN | apply Kd.R_drew)); exact (Kd.R_mono (Kd.R_far (p := ⟨gb317, 2, none⟩) (Kd.R_far (p := ⟨gb317, 1, none⟩) (Kd.R_far (p := ⟨gb317, 0, none⟩) (Kd.R_types HO_9.out BK317.out (by decide)) (fun _ hk => hk.2) (.int .i64 t312)) (fun _ hk => hk.2) (.int .i64 t313)) (fun _ hk => hk.2) (.string t314)) (fun _ h_ => h_.1))) hb); replace BK304 := zA (blk_below (g := gb304) (o := .cells #[.int .i64 a1_0, .int .i64 a1_1, .bool a1_2, .bool true] 30 (0, 0)) zz63 hb); replace BK305 := zA (blk_below (g := gb305) (o := .cells #[.int .i64 x306000_23, .int .i64 x306001_23, .string x306002_23] 32 (0, 0)) zz64 hb); replace BK317 := zA (blk_below (g := gb317) (o := .cells #[.int .i64 t312, .int .i64 t313, .string t314] 32 (0, 0)) zz48 hb); replace HB := zS hb zz56; (try clear hb); obtain ⟨hcz70_0, hcz70_1, hcz70_2, hfz70_0, hfz70_1, hfz70_2⟩ := zh3 BK305))
         refine bodyPost_ret (results_ctt rfl _ _ gb305 32 #[.int .i64 0, .int .i64 0, .string (⟨#[]⟩ : ByteArray)] (0, 0) _ rfl (by (with_reducible repeat (first | refine blk_drewN ?_ _ | refine blk_drew ?_ | refine blk_alloc ?_ _)); refine blk_put (cs := #[.int .i64 0, .int .i64 0, .string x306002_23]) ?_ 2 _ rfl; (with_reducible repeat (first | refine blk_drewN ?_ _ | refine blk_drew ?_ | refine blk_alloc ?_ _)); refine blk_put (cs := #[.int .i64 0, .int .i64 x306001_23, .string x306002_23]) ?_ 1 _ rfl; (with_reducible repeat (first | refine blk_drewN ?_ _ | refine blk_drew ?_ | refine blk_alloc ?_ _)); refine blk_put (cs := #[.int .i64 x306000_23, .int .i64 x306001_23, .string x306002_23]) ?_ 0 _ rfl; (with_reducible repeat (first | refine blk_drewN ?_ _ | refine blk_drew ?_ | refine blk_alloc ?_ _)); exact BK305.out) Try.underlying32 rfl (by kernel_rfl)) rfl ?_
         exact ⟨zw, zz56⟩
       ·replace c47 := Bool.eq_false_iff.mpr c47
        subst c47
        rw [if_neg (Bool.false_ne_true)] at H
        simp only [Option.some.injEq, Prod.mk.injEq] at H
        obtain ⟨rfl, rfl, rfl, rfl, rfl⟩ := H
        have hnb71 := NB304_305.out
        have hnc71 := NB305_304.out
        obtain ⟨hcz72_0, hcz72_1, hcz72_2, hcz72_3, hfz72_0, hfz72_1, hfz72_2, hfz72_3⟩ := zh4 BK304
        obtain ⟨Ao73, co73, eo73⟩ := Kd.R_slice HO_9.out
        subst eo73
        go_wp2_with (first | ((with_reducible refine zg 71 ?_); refine gL (some 61) Try.func71 #[.slice Ao73 t307.length co73, .int .i64 a1_1, .int .i64 x2_23] ?_; (with_reducible refine (spec_l5Get.calls kj23 _ _ t307 a1_1 x2_23 t312 t313 t314 t315 false _ ?z1 ?z2 A46.out).mono ?_); (case z1 => exact ze HO_9); (case z2 => exact zl HO_9); rintro e w74 ⟨rfl, hb⟩; refine ⟨_, rfl, ?_⟩; replace HO_9 := zR HO_9 hb; replace BK304 := zB BK304 hb; replace BK305 := zB BK305 hb; replace HB := zS hb (zb2 GE304 GE305); (try clear hb)) | ((with_reducible refine zt 10 ?_); (try (refine gate_guard (by rfl) ?_; dsimp only)); refine zn #[.int .i64 0, .int .i64 0, .string (⟨#[]⟩ : ByteArray)] 32 ?_; intro gb317 hg w75 hbox hb; replace HO_9 := zR HO_9 hb; have BK317 := zA hbox; have GW317 := zG hg (zb2 GE304 GE305); have GE317 := zG hg (zb2 GE304 GE305); replace HB := zS hb (zb2 GE304 GE305); have NB304_317 := zX BK304 hg; have NB317_304 := zY BK304 hg; replace BK304 := zB BK304 hb; have NB305_317 := zX BK305 hg; have NB317_305 := zY BK305 hg; replace BK305 := zB BK305 hb; clear hb hbox hg; have hnb76 := NB317_304.out; have hnc76 := NB304_317.out; have hnb77 := NB317_305.out; have hnc77 := NB305_317.out; obtain ⟨hcz78_0, hcz78_1, hcz78_2, hfz78_0, hfz78_1, hfz78_2⟩ := zh3 BK317; obtain ⟨hcz79_0, hcz79_1, hcz79_2, hfz79_0, hfz79_1, hfz79_2⟩ := zh3 BK305))
        refine bodyPost_ret (results_ctt rfl _ _ gb305 32 #[.int .i64 0, .int .i64 0, .string (⟨#[]⟩ : ByteArray)] (0, 0) _ rfl (by (with_reducible repeat (first | refine blk_drewN ?_ _ | refine blk_drew ?_ | refine blk_alloc ?_ _)); refine blk_put (cs := #[.int .i64 0, .int .i64 0, .string x306002_23]) ?_ 2 _ rfl; (with_reducible repeat (first | refine blk_drewN ?_ _ | refine blk_drew ?_ | refine blk_alloc ?_ _)); refine blk_put (cs := #[.int .i64 0, .int .i64 x306001_23, .string x306002_23]) ?_ 1 _ rfl; (with_reducible repeat (first | refine blk_drewN ?_ _ | refine blk_drew ?_ | refine blk_alloc ?_ _)); refine blk_put (cs := #[.int .i64 x306000_23, .int .i64 x306001_23, .string x306002_23]) ?_ 0 _ rfl; (with_reducible repeat (first | refine blk_drewN ?_ _ | refine blk_drew ?_ | refine blk_alloc ?_ _)); refine blk_far ?_ NB305_317.out _; (with_reducible repeat (first | refine blk_drewN ?_ _ | refine blk_drew ?_ | refine blk_alloc ?_ _)); refine blk_far ?_ NB305_317.out _; (with_reducible repeat (first | refine blk_drewN ?_ _ | refine blk_drew ?_ | refine blk_alloc ?_ _)); refine blk_far ?_ NB305_317.out _; (with_reducible repeat (first | refine blk_drewN ?_ _ | refine blk_drew ?_ | refine blk_alloc ?_ _)); exact BK305.out) Try.underlying32 rfl (by kernel_rfl)) rfl ?_
        exact ⟨zw, zz56⟩
    ·replace c22 := Bool.eq_false_iff.mpr c22
     subst c22
     rw [if_neg (Bool.false_ne_true)] at H
     have HC80 := zA H
     clear H
     have hnb81 := NB304_305.out
     have hnc81 := NB305_304.out
     obtain ⟨hcz82_0, hcz82_1, hcz82_2, hcz82_3, hfz82_0, hfz82_1, hfz82_2, hfz82_3⟩ := zh4 BK304
     go_upto_if 33 with (fail)
     go_cut [2] (fun v2 wc => ∃ (kq : Nat) (x2_79 : Int) (x306000_79 : Int) (x306001_79 : Int) (x306002_79 : ByteArray), v2 = .int .i64 x2_79 ∧ Aside0 (spec_GetPart.j4 kq x2_79 l0 a1_0 a1_1 a1_2 false = some (r1, r2, r3, r4, r5)) ∧ Aside0 (kq ≤ kj3) ∧ Aside0 (wc.heap[gb304]? = some (.cells #[.int .i64 a1_0, .int .i64 a1_1, .bool a1_2, .bool false] 30 (0, 0))) ∧ Aside0 (wc.heap[gb305]? = some (.cells #[.int .i64 x306000_79, .int .i64 x306001_79, .string x306002_79] 32 (0, 0))) ∧ Aside0 (Below w.heap.size w wc))
     case first =>
      have H := HC80.out
      clear HC80
      by_cases c83 : a1_2 = true
      ·subst c83
       rw [if_pos rfl] at H
       have HC84 := zA H
       clear H
       go_upto_region 7 with (fail)
       go_cut [44] (fun v44 wc => ∃ (kq : Nat) (x44_83 : Bool), v44 = .bool x44_83 ∧ Aside0 (spec_GetPart.j3 kq a2 l0 x44_83 a1_0 a1_1 true false = some (r1, r2, r3, r4, r5)) ∧ Aside0 (kq ≤ kj3) ∧ Aside0 (wc.heap[gb304]? = some (.cells #[.int .i64 a1_0, .int .i64 a1_1, .bool true, .bool false] 30 (0, 0))) ∧ Aside0 (wc.heap[gb305]? = some (.cells #[.int .i64 0, .int .i64 0, .string (⟨#[]⟩ : ByteArray)] 32 (0, 0))) ∧ Aside0 (Below w.heap.size w wc))
       case first =>
        have H := HC84.out
        clear HC84
        by_cases c85 : a2 = (l0.length : Int)
        ·rw [if_pos c85] at H
         have c85b0 : (a2 == (l0.length : Int)) = true := beq_iff_eq.mpr c85
         have c85b1 : (a2 != (l0.length : Int)) = false := bne_eq_false_iff_eq.mpr c85
         clear c85
         (first | rw [c85b0] | (simp only [i64_w, i32_w]; rw [c85b0]) | skip)
         have H' := zA H
         clear H
         go_wp2
         go_meet
         case rel => exact ⟨_, (true), zx, H', ⟨zz84⟩, ⟨zk BK304⟩, ⟨zk BK305⟩, ⟨zb2 GE304 GE305⟩⟩
        ·rw [if_neg c85] at H
         have c85b0 : (a2 == (l0.length : Int)) = false := beq_eq_false_iff_ne.mpr c85
         have c85b1 : (a2 != (l0.length : Int)) = true := bne_iff_ne.mpr c85
         (first | rw [c85b0] | (simp only [i64_w, i32_w]; rw [c85b0]) | skip)
         by_cases c86 : 0 ≤ a2
         ·rw [if_pos c86] at H
          have c86b0 : decide (0 ≤ a2) = true := decide_eq_true c86
          clear c86
          by_cases c87 : a2 < (l0.length : Int)
          ·rw [if_pos c87] at H
           have c87b0 : decide (a2 < (l0.length : Int)) = true := decide_eq_true c87
           clear c87
           have H' := zA H
           clear H
           have p319 : 0 ≤ (a2 : Int) := of_decide_eq_true za
           have q319 : a2 < (l0.length : Int) := of_decide_eq_true za
           obtain ⟨ad319, e319, hx319_0⟩ := Kd.at_int HR0.out a2 p319 q319
           cases e319
           replace hx319_0 := (HB.out.cell (World.block_lt_of_cell? w _ hx319_0)).trans hx319_0
           replace p319 := eq_true p319
           replace q319 := eq_true q319
           go_wp2
           go_meet
           case rel => exact ⟨_, (decide ((rd l0 a2) > 1)), zx, H', ⟨zz84⟩, ⟨zk BK304⟩, ⟨zk BK305⟩, ⟨zb2 GE304 GE305⟩⟩
          ·rw [if_neg c87] at H
           exact absurd H (by simp)
         ·rw [if_neg c86] at H
          exact absurd H (by simp)
       case rest =>
        clear HC84
        try clear c19; try clear c22; try clear c83; try clear hcz82_0; try clear hcz82_1; try clear hcz82_2; try clear hcz82_3; try clear hfz82_0; try clear hfz82_1; try clear hfz82_2; try clear hfz82_3
        obtain ⟨kq, x44_83, rfl, HA, HJ83, BK304, BK305, HB⟩ := hcut
        cases kq with
        | zero => exact absurd HA.out (by simp [spec_GetPart.j3])
        | succ kj83 =>
         have H := HA.out
         clear HA
         simp only [spec_GetPart.j3] at H
         by_cases c88 : x44_83 = true
         ·subst c88
          rw [if_pos rfl] at H
          simp only [Option.some.injEq, Prod.mk.injEq] at H
          obtain ⟨rfl, rfl, rfl, rfl, rfl⟩ := H
          have hnb89 := NB305_304.out
          have hnc89 := NB304_305.out
          obtain ⟨hcz90_0, hcz90_1, hcz90_2, hfz90_0, hfz90_1, hfz90_2⟩ := zh3 BK305
          go_wp2
          refine bodyPost_ret (results_ctt rfl _ _ gb305 32 #[.int .i64 0, .int .i64 0, .string (⟨#[]⟩ : ByteArray)] (0, 0) _ rfl zz17 Try.underlying32 rfl (by kernel_rfl)) rfl ?_
          exact ⟨zw, zb2 GE304 GE305⟩
         ·replace c88 := Bool.eq_false_iff.mpr c88
          subst c88
          rw [if_neg (Bool.false_ne_true)] at H
          by_cases c91 : 0 ≤ a2
          ·rw [if_pos c91] at H
           have c91b0 : decide (0 ≤ a2) = true := decide_eq_true c91
           clear c91
           by_cases c92 : a2 < (l0.length : Int)
           ·rw [if_pos c92] at H
            have c92b0 : decide (a2 < (l0.length : Int)) = true := decide_eq_true c92
            clear c92
            by_cases c93 : (rd l0 a2) = 0
            ·rw [if_pos c93] at H
             have c93b0 : ((rd l0 a2) == 0) = true := beq_iff_eq.mpr c93
             have c93b1 : ((rd l0 a2) != 0) = false := bne_eq_false_iff_eq.mpr c93
             clear c93
             simp only [Option.some.injEq, Prod.mk.injEq] at H
             obtain ⟨rfl, rfl, rfl, rfl, rfl⟩ := H
             have p320 : 0 ≤ (a2 : Int) := of_decide_eq_true za
             have q320 : a2 < (l0.length : Int) := of_decide_eq_true za
             obtain ⟨ad320, e320, hx320_0⟩ := Kd.at_int HR0.out a2 p320 q320
             cases e320
             replace hx320_0 := (HB.out.cell (World.block_lt_of_cell? w _ hx320_0)).trans hx320_0
             replace p320 := eq_true p320
             replace q320 := eq_true q320
             have hnb94 := NB305_304.out
             have hnc94 := NB304_305.out
             obtain ⟨hcz95_0, hcz95_1, hcz95_2, hfz95_0, hfz95_1, hfz95_2⟩ := zh3 BK305
             go_wp2
             refine bodyPost_ret (results_ctt rfl _ _ gb305 32 #[.int .i64 0, .int .i64 0, .string (⟨#[]⟩ : ByteArray)] (0, 0) _ rfl zz17 Try.underlying32 rfl (by kernel_rfl)) rfl ?_
             exact ⟨zw, zb2 GE304 GE305⟩
            ·rw [if_neg c93] at H
             have c93b0 : ((rd l0 a2) == 0) = false := beq_eq_false_iff_ne.mpr c93
             have c93b1 : ((rd l0 a2) != 0) = true := bne_iff_ne.mpr c93
             have H' := zA H
             clear H
             have p320 : 0 ≤ (a2 : Int) := of_decide_eq_true za
             have q320 : a2 < (l0.length : Int) := of_decide_eq_true za
             obtain ⟨ad320, e320, hx320_0⟩ := Kd.at_int HR0.out a2 p320 q320
             cases e320
             replace hx320_0 := (HB.out.cell (World.block_lt_of_cell? w _ hx320_0)).trans hx320_0
             replace p320 := eq_true p320
             replace q320 := eq_true q320
             go_wp2
             go_meet
             case rel => exact ⟨_, (wrap64 (a2 + 1)), (0), (0), ((⟨#[]⟩ : ByteArray)), zx, H', ⟨by have := HJ3.out; have := HJ83.out; first | omega | exact Nat.le_refl _⟩, ⟨zk BK304⟩, ⟨zk BK305⟩, ⟨zb2 GE304 GE305⟩⟩
           ·rw [if_neg c92] at H
            exact absurd H (by simp)
          ·rw [if_neg c91] at H
           exact absurd H (by simp)
      ·replace c83 := Bool.eq_false_iff.mpr c83
       subst c83
       rw [if_neg (Bool.false_ne_true)] at H
       have H' := zA H
       clear H
       go_wp2
       go_meet
       case rel => exact ⟨_, (a2), (0), (0), ((⟨#[]⟩ : ByteArray)), zx, H', ⟨zz84⟩, ⟨zk BK304⟩, ⟨zk BK305⟩, ⟨zb2 GE304 GE305⟩⟩
     case rest =>
      clear HC80
      try clear c19; try clear c22; try clear hcz82_0; try clear hcz82_1; try clear hcz82_2; try clear hcz82_3; try clear hfz82_0; try clear hfz82_1; try clear hfz82_2; try clear hfz82_3
      obtain ⟨kq, x2_79, x306000_79, x306001_79, x306002_79, rfl, HA, HJ79, BK304, BK305, HB⟩ := hcut
      cases kq with
      | zero => exact absurd HA.out (by simp [spec_GetPart.j4])
      | succ kj79 =>
       have H := HA.out
       clear HA
       simp only [spec_GetPart.j4] at H
       replace H := zI H
       obtain ⟨⟨t321, t322, t323, t324, t325⟩, A96, H⟩ := H
       try dsimp only at H
       by_cases c97 : t325 = true
       ·subst c97
        rw [if_pos rfl] at H
        replace H := zI H
        obtain ⟨t327, A98, H⟩ := H
        by_cases c99 : t327 = true
        ·subst c99
         rw [if_pos rfl] at H
         simp only [Option.some.injEq, Prod.mk.injEq] at H
         obtain ⟨rfl, rfl, rfl, rfl, rfl⟩ := H
         have hnb100 := NB304_305.out
         have hnc100 := NB305_304.out
         obtain ⟨hcz101_0, hcz101_1, hcz101_2, hcz101_3, hfz101_0, hfz101_1, hfz101_2, hfz101_3⟩ := zh4 BK304
         go_wp2_with (first | ((with_reducible refine zg 71 ?_); refine gL (some 61) Try.func71 #[.slice A0 l0.length c0, .int .i64 a1_1, .int .i64 x2_79] ?_; (with_reducible refine (spec_l5Get.calls kj79 _ _ l0 a1_1 x2_79 t321 t322 t323 t324 true _ ?z1 ?z2 A96.out).mono ?_); (case z1 => exact zd HR0); (case z2 => exact HC0.out); rintro e w102 ⟨rfl, hb⟩; refine ⟨_, rfl, ?_⟩; replace BK304 := zB BK304 hb; replace BK305 := zB BK305 hb; replace HB := zS hb (zb2 GE304 GE305); (try clear hb)) | ((with_reducible refine zt 10 ?_); (try (refine gate_guard (by rfl) ?_; dsimp only)); refine zn #[.int .i64 0, .int .i64 0, .string (⟨#[]⟩ : ByteArray)] 32 ?_; intro gb326 hg w103 hbox hb; have BK326 := zA hbox; have GW326 := zG hg (zb2 GE304 GE305); have GE326 := zG hg (zb2 GE304 GE305); replace HB := zS hb (zb2 GE304 GE305); have NB304_326 := zX BK304 hg; have NB326_304 := zY BK304 hg; replace BK304 := zB BK304 hb; have NB305_326 := zX BK305 hg; have NB326_305 := zY BK305 hg; replace BK305 := zB BK305 hb; clear hb hbox hg; have hnb104 := NB326_304.out; have hnc104 := NB304_326.out; have hnb105 := NB326_305.out; have hnc105 := NB305_326.out; obtain ⟨hcz106_0, hcz106_1, hcz106_2, hfz106_0, hfz106_1, hfz106_2⟩ := zh3 BK326) | (go_at_call 72; (with_reducible refine (spec_ValOk.calls t321 t322 t323 true _ A98.out).mono ?_); rintro e w107 ⟨rfl, hb⟩; replace BK304 := zA (blk_below (g := gb304) (o := .cells #[.int .i64 a1_0, .int .i64 a1_1, .bool a1_2, .bool false] 30 (0, 0)) zz65 hb); replace BK305 := zA (blk_below (g := gb305) (o := .cells #[.int .i64 x306000_79, .int .i64 x306001_79, .string x306002_79] 32 (0, 0)) zz66 hb); replace BK326 := zA (blk_below (g := gb326) (o := .cells #[.int .i64 t321, .int .i64 t322, .string t323] 32 (0, 0)) zz49 hb); replace HB := zS hb zz57; (try clear hb); obtain ⟨hcz108_0, hcz108_1, hcz108_2, hfz108_0, hfz108_1, hfz108_2⟩ := zh3 BK326; obtain ⟨hcz109_0, hcz109_1, hcz109_2, hfz109_0, hfz109_1, hfz109_2⟩ := zh3 BK305))
         refine bodyPost_ret (results_ctt rfl _ _ gb305 32 #[.int .i64 t321, .int .i64 t322, .string t323] (0, 0) _ rfl (by (with_reducible repeat (first | refine blk_drewN ?_ _ | refine blk_drew ?_ | refine blk_alloc ?_ _)); refine blk_put (cs := #[.int .i64 t321, .int .i64 t322, .string x306002_79]) ?_ 2 _ rfl; (with_reducible repeat (first | refine blk_drewN ?_ _ | refine blk_drew ?_ | refine blk_alloc ?_ _)); refine blk_put (cs := #[.int .i64 t321, .int .i64 x306001_79, .string x306002_79]) ?_ 1 _ rfl; (with_reducible repeat (first | refine blk_drewN ?_ _ | refine blk_drew ?_ | refine blk_alloc ?_ _)); refine blk_put (cs := #[.int .i64 x306000_79, .int .i64 x306001_79, .string x306002_79]) ?_ 0 _ rfl; (with_reducible repeat (first | refine blk_drewN ?_ _ | refine blk_drew ?_ | refine blk_alloc ?_ _)); exact BK305.out) Try.underlying32 rfl (by kernel_rfl)) rfl ?_
         exact ⟨zw, zz57⟩
        ·replace c99 := Bool.eq_false_iff.mpr c99
         subst c99
         rw [if_neg (Bool.false_ne_true)] at H
         simp only [Option.some.injEq, Prod.mk.injEq] at H
         obtain ⟨rfl, rfl, rfl, rfl, rfl⟩ := H
         have hnb110 := NB304_305.out
         have hnc110 := NB305_304.out
         obtain ⟨hcz111_0, hcz111_1, hcz111_2, hcz111_3, hfz111_0, hfz111_1, hfz111_2, hfz111_3⟩ := zh4 BK304
         go_wp2_with (first | ((with_reducible refine zg 71 ?_); refine gL (some 61) Try.func71 #[.slice A0 l0.length c0, .int .i64 a1_1, .int .i64 x2_79] ?_; (with_reducible refine (spec_l5Get.calls kj79 _ _ l0 a1_1 x2_79 t321 t322 t323 t324 true _ ?z1 ?z2 A96.out).mono ?_); (case z1 => exact zd HR0); (case z2 => exact HC0.out); rintro e w112 ⟨rfl, hb⟩; refine ⟨_, rfl, ?_⟩; replace BK304 := zB BK304 hb; replace BK305 := zB BK305 hb; replace HB := zS hb (zb2 GE304 GE305); (try clear hb)) | ((with_reducible refine zt 10 ?_); (try (refine gate_guard (by rfl) ?_; dsimp only)); refine zn #[.int .i64 0, .int .i64 0, .string (⟨#[]⟩ : ByteArray)] 32 ?_; intro gb326 hg w113 hbox hb; have BK326 := zA hbox; have GW326 := zG hg (zb2 GE304 GE305); have GE326 := zG hg (zb2 GE304 GE305); replace HB := zS hb (zb2 GE304 GE305); have NB304_326 := zX BK304 hg; have NB326_304 := zY BK304 hg; replace BK304 := zB BK304 hb; have NB305_326 := zX BK305 hg; have NB326_305 := zY BK305 hg; replace BK305 := zB BK305 hb; clear hb hbox hg; have hnb114 := NB326_304.out; have hnc114 := NB304_326.out; have hnb115 := NB326_305.out; have hnc115 := NB305_326.out; obtain ⟨hcz116_0, hcz116_1, hcz116_2, hfz116_0, hfz116_1, hfz116_2⟩ := zh3 BK326) | (go_at_call 72; (with_reducible refine (spec_ValOk.calls t321 t322 t323 false _ A98.out).mono ?_); rintro e w117 ⟨rfl, hb⟩; replace BK304 := zA (blk_below (g := gb304) (o := .cells #[.int .i64 a1_0, .int .i64 a1_1, .bool a1_2, .bool false] 30 (0, 0)) zz65 hb); replace BK305 := zA (blk_below (g := gb305) (o := .cells #[.int .i64 x306000_79, .int .i64 x306001_79, .string x306002_79] 32 (0, 0)) zz66 hb); replace BK326 := zA (blk_below (g := gb326) (o := .cells #[.int .i64 t321, .int .i64 t322, .string t323] 32 (0, 0)) zz49 hb); replace HB := zS hb zz57; (try clear hb); obtain ⟨hcz118_0, hcz118_1, hcz118_2, hfz118_0, hfz118_1, hfz118_2⟩ := zh3 BK305))
         refine bodyPost_ret (results_ctt rfl _ _ gb305 32 #[.int .i64 0, .int .i64 0, .string (⟨#[]⟩ : ByteArray)] (0, 0) _ rfl (by (with_reducible repeat (first | refine blk_drewN ?_ _ | refine blk_drew ?_ | refine blk_alloc ?_ _)); refine blk_put (cs := #[.int .i64 0, .int .i64 0, .string x306002_79]) ?_ 2 _ rfl; (with_reducible repeat (first | refine blk_drewN ?_ _ | refine blk_drew ?_ | refine blk_alloc ?_ _)); refine blk_put (cs := #[.int .i64 0, .int .i64 x306001_79, .string x306002_79]) ?_ 1 _ rfl; (with_reducible repeat (first | refine blk_drewN ?_ _ | refine blk_drew ?_ | refine blk_alloc ?_ _)); refine blk_put (cs := #[.int .i64 x306000_79, .int .i64 x306001_79, .string x306002_79]) ?_ 0 _ rfl; (with_reducible repeat (first | refine blk_drewN ?_ _ | refine blk_drew ?_ | refine blk_alloc ?_ _)); exact BK305.out) Try.underlying32 rfl (by kernel_rfl)) rfl ?_
         exact ⟨zw, zz57⟩
       ·replace c97 := Bool.eq_false_iff.mpr c97
        subst c97
        rw [if_neg (Bool.false_ne_true)] at H
        simp only [Option.some.injEq, Prod.mk.injEq] at H
        obtain ⟨rfl, rfl, rfl, rfl, rfl⟩ := H
        have hnb119 := NB304_305.out
        have hnc119 := NB305_304.out
        obtain ⟨hcz120_0, hcz120_1, hcz120_2, hcz120_3, hfz120_0, hfz120_1, hfz120_2, hfz120_3⟩ := zh4 BK304
        go_wp2_with (first | ((with_reducible refine zg 71 ?_); refine gL (some 61) Try.func71 #[.slice A0 l0.length c0, .int .i64 a1_1, .int .i64 x2_79] ?_; (with_reducible refine (spec_l5Get.calls kj79 _ _ l0 a1_1 x2_79 t321 t322 t323 t324 false _ ?z1 ?z2 A96.out).mono ?_); (case z1 => exact zd HR0); (case z2 => exact HC0.out); rintro e w121 ⟨rfl, hb⟩; refine ⟨_, rfl, ?_⟩; replace BK304 := zB BK304 hb; replace BK305 := zB BK305 hb; replace HB := zS hb (zb2 GE304 GE305); (try clear hb)) | ((with_reducible refine zt 10 ?_); (try (refine gate_guard (by rfl) ?_; dsimp only)); refine zn #[.int .i64 0, .int .i64 0, .string (⟨#[]⟩ : ByteArray)] 32 ?_; intro gb326 hg w122 hbox hb; have BK326 := zA hbox; have GW326 := zG hg (zb2 GE304 GE305); have GE326 := zG hg (zb2 GE304 GE305); replace HB := zS hb (zb2 GE304 GE305); have NB304_326 := zX BK304 hg; have NB326_304 := zY BK304 hg; replace BK304 := zB BK304 hb; have NB305_326 := zX BK305 hg; have NB326_305 := zY BK305 hg; replace BK305 := zB BK305 hb; clear hb hbox hg; have hnb123 := NB326_304.out; have hnc123 := NB304_326.out; have hnb124 := NB326_305.out; have hnc124 := NB305_326.out; obtain ⟨hcz125_0, hcz125_1, hcz125_2, hfz125_0, hfz125_1, hfz125_2⟩ := zh3 BK326; obtain ⟨hcz126_0, hcz126_1, hcz126_2, hfz126_0, hfz126_1, hfz126_2⟩ := zh3 BK305))
        refine bodyPost_ret (results_ctt rfl _ _ gb305 32 #[.int .i64 0, .int .i64 0, .string (⟨#[]⟩ : ByteArray)] (0, 0) _ rfl (by (with_reducible repeat (first | refine blk_drewN ?_ _ | refine blk_drew ?_ | refine blk_alloc ?_ _)); refine blk_put (cs := #[.int .i64 0, .int .i64 0, .string x306002_79]) ?_ 2 _ rfl; (with_reducible repeat (first | refine blk_drewN ?_ _ | refine blk_drew ?_ | refine blk_alloc ?_ _)); refine blk_put (cs := #[.int .i64 0, .int .i64 x306001_79, .string x306002_79]) ?_ 1 _ rfl; (with_reducible repeat (first | refine blk_drewN ?_ _ | refine blk_drew ?_ | refine blk_alloc ?_ _)); refine blk_put (cs := #[.int .i64 x306000_79, .int .i64 x306001_79, .string x306002_79]) ?_ 0 _ rfl; (with_reducible repeat (first | refine blk_drewN ?_ _ | refine blk_drew ?_ | refine blk_alloc ?_ _)); refine blk_far ?_ NB305_326.out _; (with_reducible repeat (first | refine blk_drewN ?_ _ | refine blk_drew ?_ | refine blk_alloc ?_ _)); refine blk_far ?_ NB305_326.out _; (with_reducible repeat (first | refine blk_drewN ?_ _ | refine blk_drew ?_ | refine blk_alloc ?_ _)); refine blk_far ?_ NB305_326.out _; (with_reducible repeat (first | refine blk_drewN ?_ _ | refine blk_drew ?_ | refine blk_alloc ?_ _)); exact BK305.out) Try.underlying32 rfl (by kernel_rfl)) rfl ?_
        exact ⟨zw, zz57⟩

end Go.Proofs.Ytnfmpopmigbkoaa.PFnPartsRead

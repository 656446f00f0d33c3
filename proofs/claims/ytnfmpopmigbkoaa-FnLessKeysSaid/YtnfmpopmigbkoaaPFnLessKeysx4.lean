-- Written by mkprint.py, a program of this session (the printer with additions of its own)
import Derived.Test.YtnfmpopmigbkoaaPFnLessKeysx0
import Derived.Test.YtnfmpopmigbkoaaPFnLessKeysx2
import Derived.Test.YtnfmpopmigbkoaaPFnLessKeysx3
namespace Go.Proofs.Ytnfmpopmigbkoaa.PFnLessKeys
open Go.RowKit Go.Proofs.YtnfmpopmigbkoaaW.PrintWords Go.Proofs.YtnfmpopmigbkoaaW.PrintLast Go.Proofs.YtnfmpopmigbkoaaW.PrintMore
attribute [local go_sem] max2_int min2_int max_two min_two max_three min_three max_four min_four   -- for this text's walks alone
set_option linter.unusedVariables false
set_option linter.unusedSimpArgs false

/-! ### spec_PutPart: function 14 -/
mutual
def spec_PutPart.j0 : Nat → List Int → List Int → Bool → Int → Int → Bool → Bool → Int → Int → ByteArray → Option (List Int)
  | 0, _, _, _, _, _, _, _, _, _, _ => none
  | k + 1, x0, x7, x19, x240000, x240001, x240002, x240003, x241000, x241001, x241002 => if x19 = true then (some x7) else (if x241000 = 0 then (if x7.length < 140737488355328 then ((some (x7 ++ [0] : List Int)).bind fun y249 => (if x240003 = true then ((spec_Flip.f k y249 (x0.length : Int)).bind fun t252 => (some t252)) else (some y249))) else (none)) else (if x240002 = true then (if x7.length < 140737488355328 then (spec_PutPart.j1 k x0 (x7 ++ [1]) x240000 x240001 x240002 x240003 x241000 x241001 x241002) else (none)) else (spec_PutPart.j1 k x0 x7 x240000 x240001 x240002 x240003 x241000 x241001 x241002)))
def spec_PutPart.j1 : Nat → List Int → List Int → Int → Int → Bool → Bool → Int → Int → ByteArray → Option (List Int)
  | 0, _, _, _, _, _, _, _, _, _ => none
  | k + 1, x0, x7, x240000, x240001, x240002, x240003, x241000, x241001, x241002 => (spec_l5Value.f k x7 x241000 x241001 x241002).bind fun t258 => (if x240003 = true then ((spec_Flip.f k t258 (x0.length : Int)).bind fun t261 => (some t261)) else (some t258))
end
def spec_PutPart.f (k : Nat) (l0 : List Int) (a1_0 : Int) (a1_1 : Int) (a1_2 : Bool) (a1_3 : Bool) (a2_0 : Int) (a2_1 : Int) (a2_2 : ByteArray) : Option (List Int) := (some (([] : List Int) : List Int)).bind fun y241 => (if y241.length + l0.length < 140737488355328 then ((some (y241 ++ l0 : List Int)).bind fun y244 => ((spec_PartOk.f a1_0 a1_1 a1_2 a1_3).bind fun t247 => (if t247 = true then ((spec_Fits.f a1_0 a1_1 a1_2 a1_3 a2_0 a2_1 a2_2).bind fun t248 => (spec_PutPart.j0 k l0 y244 (!t248) a1_0 a1_1 a1_2 a1_3 a2_0 a2_1 a2_2)) else (spec_PutPart.j0 k l0 y244 true a1_0 a1_1 a1_2 a1_3 a2_0 a2_1 a2_2)))) else (none))
theorem spec_PutPart.mono_l : ∀ k, (∀ y0 y1 y2 y3 y4 y5 y6 y7 y8 y9, LeO (spec_PutPart.j0 k y0 y1 y2 y3 y4 y5 y6 y7 y8 y9) (spec_PutPart.j0 (k + 1) y0 y1 y2 y3 y4 y5 y6 y7 y8 y9)) ∧ (∀ y0 y1 y2 y3 y4 y5 y6 y7 y8, LeO (spec_PutPart.j1 k y0 y1 y2 y3 y4 y5 y6 y7 y8) (spec_PutPart.j1 (k + 1) y0 y1 y2 y3 y4 y5 y6 y7 y8))
  | 0 => ⟨fun _ _ _ _ _ _ _ _ _ _ r h => by simp [spec_PutPart.j0] at h, fun _ _ _ _ _ _ _ _ _ r h => by simp [spec_PutPart.j1] at h⟩
  | k + 1 => by
    obtain ⟨ih0, ih1⟩ := spec_PutPart.mono_l k
    refine ⟨?_, ?_⟩
    · intro y0 y1 y2 y3 y4 y5 y6 y7 y8 y9
      unfold spec_PutPart.j0
      repeat' first
      | (with_reducible exact ih0 _ _ _ _ _ _ _ _ _ _)
      | (with_reducible exact ih1 _ _ _ _ _ _ _ _ _)
      | (with_reducible exact spec_Flip.mono _ _ _)
      | (with_reducible exact spec_l5Value.mono _ _ _ _ _)
      | (with_reducible exact LeO.refl _)
      | (with_reducible exact LeO.none _)
      | (with_reducible refine LeO.ite ?_ ?_)
      | (with_reducible refine LeO.bind ?_ (fun _ => ?_))
      | exact ih0 _ _ _ _ _ _ _ _ _ _
      | exact ih1 _ _ _ _ _ _ _ _ _
      | exact spec_Flip.mono _ _ _
      | exact spec_l5Value.mono _ _ _ _ _
      | exact LeO.none _
      | refine LeO.ite ?_ ?_
      | refine LeO.bind ?_ (fun _ => ?_)
    · intro y0 y1 y2 y3 y4 y5 y6 y7 y8
      unfold spec_PutPart.j1
      repeat' first
      | (with_reducible exact ih0 _ _ _ _ _ _ _ _ _ _)
      | (with_reducible exact ih1 _ _ _ _ _ _ _ _ _)
      | (with_reducible exact spec_Flip.mono _ _ _)
      | (with_reducible exact spec_l5Value.mono _ _ _ _ _)
      | (with_reducible exact LeO.refl _)
      | (with_reducible exact LeO.none _)
      | (with_reducible refine LeO.ite ?_ ?_)
      | (with_reducible refine LeO.bind ?_ (fun _ => ?_))
      | exact ih0 _ _ _ _ _ _ _ _ _ _
      | exact ih1 _ _ _ _ _ _ _ _ _
      | exact spec_Flip.mono _ _ _
      | exact spec_l5Value.mono _ _ _ _ _
      | exact LeO.none _
      | refine LeO.ite ?_ ?_
      | refine LeO.bind ?_ (fun _ => ?_)
theorem spec_PutPart.mono : ∀ a0 a1 a2 a3 a4 a5 a6 a7 k, LeO (spec_PutPart.f k a0 a1 a2 a3 a4 a5 a6 a7) (spec_PutPart.f (k + 1) a0 a1 a2 a3 a4 a5 a6 a7) := by
  intro a0 a1 a2 a3 a4 a5 a6 a7 k
  obtain ⟨ih0, ih1⟩ := spec_PutPart.mono_l k
  unfold spec_PutPart.f
  repeat' first
      | (with_reducible exact ih0 _ _ _ _ _ _ _ _ _ _)
      | (with_reducible exact ih1 _ _ _ _ _ _ _ _ _)
      | (with_reducible exact spec_Flip.mono _ _ _)
      | (with_reducible exact spec_l5Value.mono _ _ _ _ _)
      | (with_reducible exact LeO.refl _)
      | (with_reducible exact LeO.none _)
      | (with_reducible refine LeO.ite ?_ ?_)
      | (with_reducible refine LeO.bind ?_ (fun _ => ?_))
      | exact ih0 _ _ _ _ _ _ _ _ _ _
      | exact ih1 _ _ _ _ _ _ _ _ _
      | exact spec_Flip.mono _ _ _
      | exact spec_l5Value.mono _ _ _ _ _
      | exact LeO.none _
      | refine LeO.ite ?_ ?_
      | refine LeO.bind ?_ (fun _ => ?_)
set_option maxHeartbeats 8000000 in
set_option maxRecDepth 100000 in
theorem spec_PutPart.calls (k : Nat) (A0 : Option Addr) (c0 : Nat) (l0 : List Int) (a1_0 : Int) (a1_1 : Int) (a1_2 : Bool) (a1_3 : Bool) (a2_0 : Int) (a2_1 : Int) (a2_2 : ByteArray) (r : List Int) (w : World) (hr0 : Kd.C (Kd.int .u8) w A0 l0.length l0) (hc0 : l0.length ≤ c0) (h : spec_PutPart.f k l0 a1_0 a1_1 a1_2 a1_3 a2_0 a2_1 a2_2 = some r) :
  Calls Try.prog 14 #[.slice A0 l0.length c0, .agg #[.int .i64 a1_0, .int .i64 a1_1, .bool a1_2, .bool a1_3], .agg #[.int .i64 a2_0, .int .i64 a2_1, .string a2_2]] w fun e w' => ∃ v0_ : Value, e = .returned (v0_) ∧ Kd.R (Kd.int .u8) 5 w' w.heap.size (fun _ => True) v0_ r ∧ Below w.heap.size w w' := by
 have hu30 := Try.underlying30
 have hu32 := Try.underlying32
 have HR0 := zA hr0
 have HC0 := zA hc0
 clear hr0 hc0
 have HB := zA (Below.refl w.heap.size w)
 have H : ((some (([] : List Int) : List Int)).bind fun y241 => (if y241.length + l0.length < 140737488355328 then ((some (y241 ++ l0 : List Int)).bind fun y244 => ((spec_PartOk.f a1_0 a1_1 a1_2 a1_3).bind fun t247 => (if t247 = true then ((spec_Fits.f a1_0 a1_1 a1_2 a1_3 a2_0 a2_1 a2_2).bind fun t248 => (spec_PutPart.j0 k l0 y244 (!t248) a1_0 a1_1 a1_2 a1_3 a2_0 a2_1 a2_2)) else (spec_PutPart.j0 k l0 y244 true a1_0 a1_1 a1_2 a1_3 a2_0 a2_1 a2_2)))) else (none))) = some r := h
 clear h
 obtain ⟨y241, hy241⟩ : ∃ y_ : List Int, y_ = (([] : List Int)) := ⟨_, rfl⟩
 replace H : (if y241.length + l0.length < 140737488355328 then ((some (y241 ++ l0 : List Int)).bind fun y244 => ((spec_PartOk.f a1_0 a1_1 a1_2 a1_3).bind fun t247 => (if t247 = true then ((spec_Fits.f a1_0 a1_1 a1_2 a1_3 a2_0 a2_1 a2_2).bind fun t248 => (spec_PutPart.j0 k l0 y244 (!t248) a1_0 a1_1 a1_2 a1_3 a2_0 a2_1 a2_2)) else (spec_PutPart.j0 k l0 y244 true a1_0 a1_1 a1_2 a1_3 a2_0 a2_1 a2_2)))) else (none)) = some r := by first | (rw [hy241]; with_reducible exact H) | (have H2_ := (Option.bind_some _ _).symm.trans H; rw [hy241]; with_reducible exact H2_) | (have H2_ := (Option.bind_some _ _).symm.trans H; with_reducible exact H2_) | with_reducible exact H | (rw [hy241]; exact H) | exact H
 have Ny241 := zA hy241
 clear hy241
 by_cases c4 : y241.length + l0.length < 140737488355328
 ·rw [if_pos c4] at H
  have LMc4 := zA c4
  clear c4
  obtain ⟨y244, hy244⟩ : ∃ y_ : List Int, y_ = (y241 ++ l0) := ⟨_, rfl⟩
  replace H : ((spec_PartOk.f a1_0 a1_1 a1_2 a1_3).bind fun t247 => (if t247 = true then ((spec_Fits.f a1_0 a1_1 a1_2 a1_3 a2_0 a2_1 a2_2).bind fun t248 => (spec_PutPart.j0 k l0 y244 (!t248) a1_0 a1_1 a1_2 a1_3 a2_0 a2_1 a2_2)) else (spec_PutPart.j0 k l0 y244 true a1_0 a1_1 a1_2 a1_3 a2_0 a2_1 a2_2))) = some r := by first | (rw [hy244]; with_reducible exact H) | (have H2_ := (Option.bind_some _ _).symm.trans H; rw [hy244]; with_reducible exact H2_) | (have H2_ := (Option.bind_some _ _).symm.trans H; with_reducible exact H2_) | with_reducible exact H | (rw [hy244]; exact H) | exact H
  have Ny244 := zA hy244
  clear hy244
  have HC5 := zA H
  clear H
  go_enter Try.func14, Try.ntmps14
  go_upto_region 2 with (first | ((with_reducible refine zt 4 ?_); refine zn #[.int .i64 a1_0, .int .i64 a1_1, .bool a1_2, .bool a1_3] 30 ?_; intro gb239 hg w6 hbox hb; have BK239 := zA hbox; have GW239 := zG hg; have GE239 := zG hg; replace HB := zS hb; clear hb hbox hg) | ((with_reducible refine zt 5 ?_); refine zn #[.int .i64 a2_0, .int .i64 a2_1, .string a2_2] 32 ?_; intro gb240 hg w7 hbox hb; have BK240 := zA hbox; have GW240 := zG hg (zb1 GE239); have GE240 := zG hg (zb1 GE239); replace HB := zS hb (zb1 GE239); have NB239_240 := zX BK239 hg; have NB240_239 := zY BK239 hg; replace BK239 := zB BK239 hb; clear hb hbox hg) | ((with_reducible refine zt 8 ?_); refine Kd.R_lit (Kd.int .u8) _ 5 ?hg (N := 8) ?hd (xs := ([] : List Int)) (inner := []) (ok := fun _ => True) (okp := fun _ => True) ?hr ?hp (fun _ hk => hk) trivial (Below.refl _ _) (Nat.le_refl _) (by simp) ?_; (case hd => rfl); (case hg => rfl); (case hr => exact zz25); (case hp => exact (Reps.none _ _)); intro v242 w8 ho9 hb hg_ hnew_; clear hg_ hnew_; (first | rw [← Ny241.out] at ho9 | (simp only [Int.reduceToNat] at ho9; rw [← Ny241.out] at ho9)); have HO243 := zL ho9 (zb2 GE239 GE240); replace BK239 := zB BK239 hb; replace BK240 := zB BK240 hb; replace HB := zS hb (zb2 GE239 GE240); clear hb ho9) | ((with_reducible refine gate_builtin (b := .append) (xs := #[.tmp 8, .tmp 9]) rfl ?_); at_builtin; refine Kd.R_append_rows (Kd.int .u8) (w0 := w) w.heap.size rfl (.tmp 8) (.tmp 9) 22 5 (.int .u8 0) 1 rfl Try.underlying22 info5 rfl (by decide) (by omega) v242 y241 l0 _ _ _ (fun _ => True) (fun _ => False) rfl rfl ?aO ?aR (fun _ _ h => h) (fun _ h => h.elim) ?aF ?aB ?aS ?aL ?_; (case aR => exact zd HR0); (case aB => exact (zb2 GE239 GE240)); (case aF => exact (fun _ _ => trivial)); (case aO => exact (zr HO243)); (case aS => exact (below_size (zb2 GE239 GE240))); (case aL => have := LMc4.out; omega); intro v245 w10 ho hb hg hat; rw [← Ny244.out] at ho; replace BK239 := zA (blk_grown (g := gb239) (o := .cells #[.int .i64 a1_0, .int .i64 a1_1, .bool a1_2, .bool a1_3] 30 (0, 0)) (zk BK239) hg (Kd.R_ne HO243.out BK239.out (by decide))); replace BK240 := zA (blk_grown (g := gb240) (o := .cells #[.int .i64 a2_0, .int .i64 a2_1, .string a2_2] 32 (0, 0)) (zk BK240) hg (Kd.R_ne HO243.out BK240.out (by decide))); replace HB := zA hb; have HO246 := zA ho; clear HO243 ho hb hg hat))
  (try simp only [Act.put, List.setIfInBounds_toArray, List.set_cons_zero, List.set_cons_succ])
  go_cut [19] (fun v19 wc => ∃ (kq : Nat) (x19_4 : Bool), v19 = .bool x19_4 ∧ Aside0 (spec_PutPart.j0 kq l0 y244 x19_4 a1_0 a1_1 a1_2 a1_3 a2_0 a2_1 a2_2 = some r) ∧ Aside0 (kq ≤ k) ∧ Aside0 (Kd.R (Kd.int .u8) 5 wc w.heap.size (fun _ => True) v245 y244) ∧ Aside0 (wc.heap[gb239]? = some (.cells #[.int .i64 a1_0, .int .i64 a1_1, .bool a1_2, .bool a1_3] 30 (0, 0))) ∧ Aside0 (wc.heap[gb240]? = some (.cells #[.int .i64 a2_0, .int .i64 a2_1, .string a2_2] 32 (0, 0))) ∧ Aside0 (Below w.heap.size w wc))
  case first =>
   have H := HC5.out
   clear HC5
   replace H := zI H
   obtain ⟨t247, A11, H⟩ := H
   by_cases c12 : t247 = true
   ·subst c12
    rw [if_pos rfl] at H
    replace H := zI H
    obtain ⟨t248, A13, H⟩ := H
    have H' := zA H
    clear H
    have hnb14 := NB239_240.out
    have hnc14 := NB240_239.out
    obtain ⟨hcz15_0, hcz15_1, hcz15_2, hcz15_3, hfz15_0, hfz15_1, hfz15_2, hfz15_3⟩ := zh4 BK239
    go_wp2_with (first | ((with_reducible refine zg 27 ?_); refine gL (some 12) Try.func27 #[.agg #[.int .i64 a1_0, .int .i64 a1_1, .bool a1_2, .bool a1_3]] ?_; (with_reducible refine (spec_PartOk.calls a1_0 a1_1 a1_2 a1_3 true _ A11.out).mono ?_); rintro e w16 ⟨rfl, hb⟩; refine ⟨_, rfl, ?_⟩; replace HO246 := zR HO246 hb; replace BK239 := zB BK239 hb; replace BK240 := zB BK240 hb; replace HB := zS hb (zb2 GE239 GE240); (try clear hb); obtain ⟨hcz17_0, hcz17_1, hcz17_2, hcz17_3, hfz17_0, hfz17_1, hfz17_2, hfz17_3⟩ := zh4 BK239; obtain ⟨hcz18_0, hcz18_1, hcz18_2, hfz18_0, hfz18_1, hfz18_2⟩ := zh3 BK240) | (go_at_call 28; (with_reducible refine (spec_Fits.calls a1_0 a1_1 a1_2 a1_3 a2_0 a2_1 a2_2 t248 _ A13.out).mono ?_); rintro e w19 ⟨rfl, hb⟩; replace HO246 := zR HO246 hb; replace BK239 := zB BK239 hb; replace BK240 := zB BK240 hb; replace HB := zS hb (zb2 GE239 GE240); (try clear hb)))
    go_meet
    case rel => exact ⟨_, (!t248), zx, H', ⟨zo⟩, ⟨zr HO246⟩, ⟨zk BK239⟩, ⟨zk BK240⟩, ⟨zb2 GE239 GE240⟩⟩
   ·replace c12 := Bool.eq_false_iff.mpr c12
    subst c12
    rw [if_neg (Bool.false_ne_true)] at H
    have H' := zA H
    clear H
    have hnb20 := NB239_240.out
    have hnc20 := NB240_239.out
    obtain ⟨hcz21_0, hcz21_1, hcz21_2, hcz21_3, hfz21_0, hfz21_1, hfz21_2, hfz21_3⟩ := zh4 BK239
    go_wp2_with (first | ((with_reducible refine zg 27 ?_); refine gL (some 12) Try.func27 #[.agg #[.int .i64 a1_0, .int .i64 a1_1, .bool a1_2, .bool a1_3]] ?_; (with_reducible refine (spec_PartOk.calls a1_0 a1_1 a1_2 a1_3 false _ A11.out).mono ?_); rintro e w22 ⟨rfl, hb⟩; refine ⟨_, rfl, ?_⟩; replace HO246 := zR HO246 hb; replace BK239 := zB BK239 hb; replace BK240 := zB BK240 hb; replace HB := zS hb (zb2 GE239 GE240); (try clear hb)))
    go_meet
    case rel => exact ⟨_, (true), zx, H', ⟨zo⟩, ⟨zr HO246⟩, ⟨zk BK239⟩, ⟨zk BK240⟩, ⟨zb2 GE239 GE240⟩⟩
  case rest =>
   clear HC5
   try clear c4
   obtain ⟨kq, x19_4, rfl, HA, HJ4, HO_7, BK239, BK240, HB⟩ := hcut
   cases kq with
   | zero => exact absurd HA.out (by simp [spec_PutPart.j0])
   | succ kj4 =>
    have H := HA.out
    clear HA
    simp only [spec_PutPart.j0] at H
    by_cases c23 : x19_4 = true
    ·subst c23
     rw [if_pos rfl] at H
     obtain rfl := Option.some.inj H
     go_wp2
     go_ret
     exact ⟨_, zw, zr HO_7, zb2 GE239 GE240⟩
    ·replace c23 := Bool.eq_false_iff.mpr c23
     subst c23
     rw [if_neg (Bool.false_ne_true)] at H
     by_cases c24 : a2_0 = 0
     ·rw [if_pos c24] at H
      have c24b0 : (a2_0 == 0) = true := beq_iff_eq.mpr c24
      have c24b1 : (a2_0 != 0) = false := bne_eq_false_iff_eq.mpr c24
      clear c24
      by_cases c25 : y244.length < 140737488355328
      ·rw [if_pos c25] at H
       have LMc25 := zA c25
       clear c25
       obtain ⟨y249, hy249⟩ : ∃ y_ : List Int, y_ = (y244 ++ [0]) := ⟨_, rfl⟩
       replace H : (if a1_3 = true then ((spec_Flip.f kj4 y249 (l0.length : Int)).bind fun t252 => (some t252)) else (some y249)) = some r := by first | (rw [hy249]; with_reducible exact H) | (have H2_ := (Option.bind_some _ _).symm.trans H; rw [hy249]; with_reducible exact H2_) | (have H2_ := (Option.bind_some _ _).symm.trans H; with_reducible exact H2_) | with_reducible exact H | (rw [hy249]; exact H) | exact H
       have Ny249 := zA hy249
       clear hy249
       by_cases c26 : a1_3 = true
       ·subst c26
        rw [if_pos rfl] at H
        replace H := zI H
        obtain ⟨t252, A27, H⟩ := H
        obtain rfl := Option.some.inj H
        have hnb28 := NB240_239.out
        have hnc28 := NB239_240.out
        obtain ⟨hcz29_0, hcz29_1, hcz29_2, hfz29_0, hfz29_1, hfz29_2⟩ := zh3 BK240
        go_wp2_with (first | ((with_reducible refine gate_builtin (b := .append) (xs := #[.tmp 24, .tmp 25]) rfl ?_); at_builtin; refine Kd.R_append (Kd.int .u8) (w0 := w) w.heap.size rfl (.tmp 24) (.tmp 25) 22 5 (.int .u8 0) 1 rfl Try.underlying22 info5 rfl (by decide) (by omega) v245 y244 0 [.int .u8 0] (fun _ => True) (fun _ => False) rfl rfl ?aP (fun _ hk => hk.elim) ?aF ?aO ?aB ?aS ?aL ?_; (case aP => exact rfl); (case aB => exact (zb2 GE239 GE240)); (case aF => exact (fun _ _ => trivial)); (case aO => exact (zr HO_7)); (case aS => exact (below_size (zb2 GE239 GE240))); (case aL => have := LMc25.out; omega); intro v250 w30 ho hb hg hat; rw [← Ny249.out] at ho; replace BK239 := zA (blk_grown (g := gb239) (o := .cells #[.int .i64 a1_0, .int .i64 a1_1, .bool a1_2, .bool true] 30 (0, 0)) (zk BK239) hg (Kd.R_ne HO_7.out BK239.out (by decide))); replace BK240 := zA (blk_grown (g := gb240) (o := .cells #[.int .i64 a2_0, .int .i64 a2_1, .string a2_2] 32 (0, 0)) (zk BK240) hg (Kd.R_ne HO_7.out BK240.out (by decide))); replace HB := zA hb; have HO251 := zA ho; clear HO_7 ho hb hg hat; obtain ⟨hcz31_0, hcz31_1, hcz31_2, hcz31_3, hfz31_0, hfz31_1, hfz31_2, hfz31_3⟩ := zh4 BK239; obtain ⟨Ao32, co32, eo32⟩ := Kd.R_slice HO251.out; subst eo32) | ((with_reducible refine zg 68 ?_); refine gL (some 40) Try.func68 #[.slice Ao32 y249.length co32, .int .i64 (l0.length : Int)] ?_; (with_reducible refine (spec_Flip.calls kj4 _ _ y249 (l0.length : Int) t252 _ ?z1 ?z2 A27.out).mono ?_); (case z1 => exact ze HO251); (case z2 => exact zl HO251); rintro e w33 ⟨v253, rfl, ho0, hb⟩; refine ⟨_, rfl, ?_⟩; have HO254 := zL (zN ho0 HO251) (zb2 GE239 GE240); replace HO251 := zE HO251 ho0 hb; replace BK239 := zB BK239 hb; replace BK240 := zB BK240 hb; replace HB := zS hb (zb2 GE239 GE240); clear hb ho0))
        go_ret
        exact ⟨_, zw, by (with_reducible repeat (first | apply Kd.R_alloc | apply Kd.R_drewN | apply Kd.R_drew)); exact Kd.R_mono HO254.out (fun _ hk => trivial), zb2 GE239 GE240⟩
       ·replace c26 := Bool.eq_false_iff.mpr c26
        subst c26
        rw [if_neg (Bool.false_ne_true)] at H
        obtain rfl := Option.some.inj H
        have hnb34 := NB240_239.out
        have hnc34 := NB239_240.out
        obtain ⟨hcz35_0, hcz35_1, hcz35_2, hfz35_0, hfz35_1, hfz35_2⟩ := zh3 BK240
        go_wp2_with (first | ((with_reducible refine gate_builtin (b := .append) (xs := #[.tmp 24, .tmp 25]) rfl ?_); at_builtin; refine Kd.R_append (Kd.int .u8) (w0 := w) w.heap.size rfl (.tmp 24) (.tmp 25) 22 5 (.int .u8 0) 1 rfl Try.underlying22 info5 rfl (by decide) (by omega) v245 y244 0 [.int .u8 0] (fun _ => True) (fun _ => False) rfl rfl ?aP (fun _ hk => hk.elim) ?aF ?aO ?aB ?aS ?aL ?_; (case aP => exact rfl); (case aB => exact (zb2 GE239 GE240)); (case aF => exact (fun _ _ => trivial)); (case aO => exact (zr HO_7)); (case aS => exact (below_size (zb2 GE239 GE240))); (case aL => have := LMc25.out; omega); intro v250 w36 ho hb hg hat; rw [← Ny249.out] at ho; replace BK239 := zA (blk_grown (g := gb239) (o := .cells #[.int .i64 a1_0, .int .i64 a1_1, .bool a1_2, .bool false] 30 (0, 0)) (zk BK239) hg (Kd.R_ne HO_7.out BK239.out (by decide))); replace BK240 := zA (blk_grown (g := gb240) (o := .cells #[.int .i64 a2_0, .int .i64 a2_1, .string a2_2] 32 (0, 0)) (zk BK240) hg (Kd.R_ne HO_7.out BK240.out (by decide))); replace HB := zA hb; have HO251 := zA ho; clear HO_7 ho hb hg hat; obtain ⟨hcz37_0, hcz37_1, hcz37_2, hcz37_3, hfz37_0, hfz37_1, hfz37_2, hfz37_3⟩ := zh4 BK239))
        go_ret
        exact ⟨_, zw, zr HO251, zb2 GE239 GE240⟩
      ·rw [if_neg c25] at H
       exact absurd H (by simp)
     ·rw [if_neg c24] at H
      have c24b0 : (a2_0 == 0) = false := beq_eq_false_iff_ne.mpr c24
      have c24b1 : (a2_0 != 0) = true := bne_iff_ne.mpr c24
      have HC38 := zA H
      clear H
      have hnb39 := NB240_239.out
      have hnc39 := NB239_240.out
      obtain ⟨hcz40_0, hcz40_1, hcz40_2, hfz40_0, hfz40_1, hfz40_2⟩ := zh3 BK240
      obtain ⟨hcz41_0, hcz41_1, hcz41_2, hcz41_3, hfz41_0, hfz41_1, hfz41_2, hfz41_3⟩ := zh4 BK239
      go_upto_if 28 with (fail)
      go_cut [7] (fun v7 wc => ∃ (kq : Nat) (x7_37 : List Int), Aside0 (spec_PutPart.j1 kq l0 x7_37 a1_0 a1_1 a1_2 a1_3 a2_0 a2_1 a2_2 = some r) ∧ Aside0 (kq ≤ kj4) ∧ Aside0 (Kd.R (Kd.int .u8) 5 wc w.heap.size (fun _ => True) v7 x7_37) ∧ Aside0 (wc.heap[gb239]? = some (.cells #[.int .i64 a1_0, .int .i64 a1_1, .bool a1_2, .bool a1_3] 30 (0, 0))) ∧ Aside0 (wc.heap[gb240]? = some (.cells #[.int .i64 a2_0, .int .i64 a2_1, .string a2_2] 32 (0, 0))) ∧ Aside0 (Below w.heap.size w wc))
      case first =>
       have H := HC38.out
       clear HC38
       by_cases c42 : a1_2 = true
       ·subst c42
        rw [if_pos rfl] at H
        by_cases c43 : y244.length < 140737488355328
        ·rw [if_pos c43] at H
         have LMc43 := zA c43
         clear c43
         obtain ⟨y255, hy255⟩ : ∃ y_ : List Int, y_ = (y244 ++ [1]) := ⟨_, rfl⟩
         replace H : (spec_PutPart.j1 kj4 l0 y255 a1_0 a1_1 true a1_3 a2_0 a2_1 a2_2) = some r := by first | (rw [hy255]; with_reducible exact H) | (have H2_ := (Option.bind_some _ _).symm.trans H; rw [hy255]; with_reducible exact H2_) | (have H2_ := (Option.bind_some _ _).symm.trans H; with_reducible exact H2_) | with_reducible exact H | (rw [hy255]; exact H) | exact H
         have Ny255 := zA hy255
         clear hy255
         have H' := zA H
         clear H
         go_wp2_with (first | ((with_reducible refine gate_builtin (b := .append) (xs := #[.tmp 29, .tmp 30]) rfl ?_); at_builtin; refine Kd.R_append (Kd.int .u8) (w0 := w) w.heap.size rfl (.tmp 29) (.tmp 30) 22 5 (.int .u8 0) 1 rfl Try.underlying22 info5 rfl (by decide) (by omega) v245 y244 1 [.int .u8 1] (fun _ => True) (fun _ => False) rfl rfl ?aP (fun _ hk => hk.elim) ?aF ?aO ?aB ?aS ?aL ?_; (case aP => exact rfl); (case aB => exact (zb2 GE239 GE240)); (case aF => exact (fun _ _ => trivial)); (case aO => exact (zr HO_7)); (case aS => exact (below_size (zb2 GE239 GE240))); (case aL => have := LMc43.out; omega); intro v256 w44 ho hb hg hat; rw [← Ny255.out] at ho; replace BK239 := zA (blk_grown (g := gb239) (o := .cells #[.int .i64 a1_0, .int .i64 a1_1, .bool true, .bool a1_3] 30 (0, 0)) (zk BK239) hg (Kd.R_ne HO_7.out BK239.out (by decide))); replace BK240 := zA (blk_grown (g := gb240) (o := .cells #[.int .i64 a2_0, .int .i64 a2_1, .string a2_2] 32 (0, 0)) (zk BK240) hg (Kd.R_ne HO_7.out BK240.out (by decide))); replace HB := zA hb; have HO257 := zA ho; clear HO_7 ho hb hg hat))
         go_meet
         case rel => exact ⟨_, (y255), H', ⟨by have := HJ4.out; first | omega | exact Nat.le_refl _⟩, ⟨zr HO257⟩, ⟨zk BK239⟩, ⟨zk BK240⟩, ⟨zb2 GE239 GE240⟩⟩
        ·rw [if_neg c43] at H
         exact absurd H (by simp)
       ·replace c42 := Bool.eq_false_iff.mpr c42
        subst c42
        rw [if_neg (Bool.false_ne_true)] at H
        have H' := zA H
        clear H
        go_wp2
        go_meet
        case rel => exact ⟨_, (y244), H', ⟨by have := HJ4.out; first | omega | exact Nat.le_refl _⟩, ⟨zr HO_7⟩, ⟨zk BK239⟩, ⟨zk BK240⟩, ⟨zb2 GE239 GE240⟩⟩
      case rest =>
       clear HC38
       try clear c4; try clear c23; try clear c24; try clear c24b0; try clear c24b1; try clear hcz40_0; try clear hcz40_1; try clear hcz40_2; try clear hcz41_0; try clear hcz41_1; try clear hcz41_2; try clear hcz41_3; try clear hfz40_0; try clear hfz40_1; try clear hfz40_2; try clear hfz41_0; try clear hfz41_1; try clear hfz41_2; try clear hfz41_3
       obtain ⟨kq, x7_37, HA, HJ37, HO_7, BK239, BK240, HB⟩ := hcut
       cases kq with
       | zero => exact absurd HA.out (by simp [spec_PutPart.j1])
       | succ kj37 =>
        have H := HA.out
        clear HA
        simp only [spec_PutPart.j1] at H
        replace H := zI H
        obtain ⟨t258, A45, H⟩ := H
        by_cases c46 : a1_3 = true
        ·subst c46
         rw [if_pos rfl] at H
         replace H := zI H
         obtain ⟨t261, A47, H⟩ := H
         obtain rfl := Option.some.inj H
         have hnb48 := NB240_239.out
         have hnc48 := NB239_240.out
         obtain ⟨hcz49_0, hcz49_1, hcz49_2, hfz49_0, hfz49_1, hfz49_2⟩ := zh3 BK240
         obtain ⟨Ao50, co50, eo50⟩ := Kd.R_slice HO_7.out
         subst eo50
         go_wp2_with (first | ((with_reducible refine zg 67 ?_); refine gL (some 34) Try.func67 #[.slice Ao50 x7_37.length co50, .agg #[.int .i64 a2_0, .int .i64 a2_1, .string a2_2]] ?_; (with_reducible refine (spec_l5Value.calls kj37 _ _ x7_37 a2_0 a2_1 a2_2 t258 _ ?z1 ?z2 A45.out).mono ?_); (case z1 => exact ze HO_7); (case z2 => exact zl HO_7); rintro e w51 ⟨v259, rfl, ho0, hb⟩; refine ⟨_, rfl, ?_⟩; have HO260 := zL (zN ho0 HO_7) (zb2 GE239 GE240); replace HO_7 := zE HO_7 ho0 hb; replace BK239 := zB BK239 hb; replace BK240 := zB BK240 hb; replace HB := zS hb (zb2 GE239 GE240); clear hb ho0; obtain ⟨hcz52_0, hcz52_1, hcz52_2, hcz52_3, hfz52_0, hfz52_1, hfz52_2, hfz52_3⟩ := zh4 BK239; obtain ⟨Ao53, co53, eo53⟩ := Kd.R_slice HO260.out; subst eo53) | ((with_reducible refine zg 68 ?_); refine gL (some 40) Try.func68 #[.slice Ao53 t258.length co53, .int .i64 (l0.length : Int)] ?_; (with_reducible refine (spec_Flip.calls kj37 _ _ t258 (l0.length : Int) t261 _ ?z1 ?z2 A47.out).mono ?_); (case z1 => exact ze HO260); (case z2 => exact zl HO260); rintro e w54 ⟨v262, rfl, ho0, hb⟩; refine ⟨_, rfl, ?_⟩; have HO263 := zL (zN (zN ho0 HO_7) HO260) (zb2 GE239 GE240); replace HO_7 := zE HO_7 ho0 hb; replace HO260 := zE HO260 ho0 hb; replace BK239 := zB BK239 hb; replace BK240 := zB BK240 hb; replace HB := zS hb (zb2 GE239 GE240); clear hb ho0))
         go_ret
         exact ⟨_, zw, by (with_reducible repeat (first | apply Kd.R_alloc | apply Kd.R_drewN | apply Kd.R_drew)); exact Kd.R_mono HO263.out (fun _ hk => trivial), zb2 GE239 GE240⟩
        ·replace c46 := Bool.eq_false_iff.mpr c46
         subst c46
         rw [if_neg (Bool.false_ne_true)] at H
         obtain rfl := Option.some.inj H
         have hnb55 := NB240_239.out
         have hnc55 := NB239_240.out
         obtain ⟨hcz56_0, hcz56_1, hcz56_2, hfz56_0, hfz56_1, hfz56_2⟩ := zh3 BK240
         obtain ⟨Ao57, co57, eo57⟩ := Kd.R_slice HO_7.out
         subst eo57
         go_wp2_with (first | ((with_reducible refine zg 67 ?_); refine gL (some 34) Try.func67 #[.slice Ao57 x7_37.length co57, .agg #[.int .i64 a2_0, .int .i64 a2_1, .string a2_2]] ?_; (with_reducible refine (spec_l5Value.calls kj37 _ _ x7_37 a2_0 a2_1 a2_2 t258 _ ?z1 ?z2 A45.out).mono ?_); (case z1 => exact ze HO_7); (case z2 => exact zl HO_7); rintro e w58 ⟨v259, rfl, ho0, hb⟩; refine ⟨_, rfl, ?_⟩; have HO260 := zL (zN ho0 HO_7) (zb2 GE239 GE240); replace HO_7 := zE HO_7 ho0 hb; replace BK239 := zB BK239 hb; replace BK240 := zB BK240 hb; replace HB := zS hb (zb2 GE239 GE240); clear hb ho0; obtain ⟨hcz59_0, hcz59_1, hcz59_2, hcz59_3, hfz59_0, hfz59_1, hfz59_2, hfz59_3⟩ := zh4 BK239))
         go_ret
         exact ⟨_, zw, by (with_reducible repeat (first | apply Kd.R_alloc | apply Kd.R_drewN | apply Kd.R_drew)); exact Kd.R_mono HO260.out (fun _ hk => trivial), zb2 GE239 GE240⟩
 ·rw [if_neg c4] at H
  exact absurd H (by simp)

/-! ### spec_PlanOk: function 62 -/
def spec_PlanOk.l0 : Nat → List (S30) → Int → Option (Bool)
  | 0, _, _ => none
  | k + 1, x0, x3 => if x3 < (x0.length : Int) then (if 0 ≤ x3 then ((spec_PartOk.f ((rd_T30 x0 x3).f0) ((rd_T30 x0 x3).f1) ((rd_T30 x0 x3).f2) ((rd_T30 x0 x3).f3)).bind fun t265 => (if t265 = true then (spec_PlanOk.l0 k x0 (wrap64 (x3 + 1))) else (some false))) else (none)) else (some (decide ((x0.length : Int) ≤ 6)))
def spec_PlanOk.f (k : Nat) (l0 : List (S30)) : Option (Bool) := spec_PlanOk.l0 k l0 0
theorem spec_PlanOk.mono_l : ∀ k, (∀ y0 y1, LeO (spec_PlanOk.l0 k y0 y1) (spec_PlanOk.l0 (k + 1) y0 y1))
  | 0 => fun _ _ r h => by simp [spec_PlanOk.l0] at h
  | k + 1 => by
    have ih0 := spec_PlanOk.mono_l k
    · intro y0 y1
      unfold spec_PlanOk.l0
      repeat' first
      | (with_reducible exact ih0 _ _)
      | (with_reducible exact LeO.refl _)
      | (with_reducible exact LeO.none _)
      | (with_reducible refine LeO.ite ?_ ?_)
      | (with_reducible refine LeO.bind ?_ (fun _ => ?_))
      | exact ih0 _ _
      | exact LeO.none _
      | refine LeO.ite ?_ ?_
      | refine LeO.bind ?_ (fun _ => ?_)
theorem spec_PlanOk.mono : ∀ a0 k, LeO (spec_PlanOk.f k a0) (spec_PlanOk.f (k + 1) a0) := by
  intro a0 k
  have ih0 := spec_PlanOk.mono_l k
  unfold spec_PlanOk.f
  repeat' first
      | (with_reducible exact ih0 _ _)
      | (with_reducible exact LeO.refl _)
      | (with_reducible exact LeO.none _)
      | (with_reducible refine LeO.ite ?_ ?_)
      | (with_reducible refine LeO.bind ?_ (fun _ => ?_))
      | exact ih0 _ _
      | exact LeO.none _
      | refine LeO.ite ?_ ?_
      | refine LeO.bind ?_ (fun _ => ?_)
set_option maxHeartbeats 8000000 in
set_option maxRecDepth 100000 in
theorem spec_PlanOk.calls (k : Nat) (A0 : Option Addr) (c0 : Nat) (l0 : List (S30)) (r : Bool) (w : World) (hr0 : Kd.C k30 w A0 l0.length l0) (hc0 : l0.length ≤ c0) (h : spec_PlanOk.f k l0 = some r) :
  Calls Try.prog 62 #[.slice A0 l0.length c0] w fun e w' => e = .returned (.bool r) ∧ Below w.heap.size w w' := by
 have hu30 := Try.underlying30
 have HR0 := zA hr0
 have HC0 := zA hc0
 clear hr0 hc0
 have HB := zA (Below.refl w.heap.size w)
 have H : (spec_PlanOk.l0 k l0 0) = some r := h
 clear h
 have H' := zA H
 clear H
 go_enter Try.func62, Try.ntmps62
 go_wp2
 go_loopg [3] k (fun kq v3 w' => ∃ (x3_1 : Int), v3 = .int .i64 x3_1 ∧ Aside0 (spec_PlanOk.l0 kq l0 x3_1 = some r) ∧ Aside0 (kq ≤ k) ∧ Aside0 (Below w.heap.size w w'))
 case atStart => exact ⟨(0), zx, H', ⟨Nat.le_refl _⟩, ⟨zb⟩⟩
 case round =>
  clear H'
  obtain ⟨x3_1, rfl, HA, HK1, HB⟩ := hrel
  cases gk with
  | zero => exact absurd HA.out (by simp [spec_PlanOk.l0])
  | succ k1 =>
   have H := HA.out
   clear HA
   simp only [spec_PlanOk.l0] at H
   by_cases c2 : x3_1 < (l0.length : Int)
   ·rw [if_pos c2] at H
    have c2b0 : decide (x3_1 < (l0.length : Int)) = true := decide_eq_true c2
    clear c2
    by_cases c3 : 0 ≤ x3_1
    ·rw [if_pos c3] at H
     have c3b0 : decide (0 ≤ x3_1) = true := decide_eq_true c3
     clear c3
     replace H := zI H
     obtain ⟨t265, A4, H⟩ := H
     by_cases c5 : t265 = true
     ·subst c5
      rw [if_pos rfl] at H
      have H' := zA H
      clear H
      have p264 : 0 ≤ (x3_1 : Int) := of_decide_eq_true za
      have q264 : x3_1 < (l0.length : Int) := of_decide_eq_true za
      obtain ⟨ad264, e264, hx264_0, hx264_1, hx264_2, hx264_3⟩ := at_T30 HR0.out x3_1 p264 q264
      cases e264
      replace hx264_0 := (HB.out.cell (World.block_lt_of_cell? w _ hx264_0)).trans hx264_0
      replace hx264_1 := (HB.out.cell (World.block_lt_of_cell? w _ hx264_1)).trans hx264_1
      replace hx264_2 := (HB.out.cell (World.block_lt_of_cell? w _ hx264_2)).trans hx264_2
      replace hx264_3 := (HB.out.cell (World.block_lt_of_cell? w _ hx264_3)).trans hx264_3
      replace p264 := eq_true p264
      replace q264 := eq_true q264
      go_wp2_with (first | ((with_reducible refine zg 27 ?_); refine gL (some 14) Try.func27 #[.agg #[.int .i64 ((rd_T30 l0 x3_1).f0), .int .i64 ((rd_T30 l0 x3_1).f1), .bool ((rd_T30 l0 x3_1).f2), .bool ((rd_T30 l0 x3_1).f3)]] ?_; (with_reducible refine (spec_PartOk.calls ((rd_T30 l0 x3_1).f0) ((rd_T30 l0 x3_1).f1) ((rd_T30 l0 x3_1).f2) ((rd_T30 l0 x3_1).f3) true _ A4.out).mono ?_); rintro e w6 ⟨rfl, hb⟩; refine ⟨_, rfl, ?_⟩; replace HB := zS hb; (try clear hb)))
      go_roundg k1
      case measure => have := HK1.out; omega
      case rel => exact ⟨(wrap64 (x3_1 + 1)), zx, H', ⟨zz41⟩, ⟨zb⟩⟩
     ·replace c5 := Bool.eq_false_iff.mpr c5
      subst c5
      rw [if_neg (Bool.false_ne_true)] at H
      obtain rfl := Option.some.inj H
      have p264 : 0 ≤ (x3_1 : Int) := of_decide_eq_true za
      have q264 : x3_1 < (l0.length : Int) := of_decide_eq_true za
      obtain ⟨ad264, e264, hx264_0, hx264_1, hx264_2, hx264_3⟩ := at_T30 HR0.out x3_1 p264 q264
      cases e264
      replace hx264_0 := (HB.out.cell (World.block_lt_of_cell? w _ hx264_0)).trans hx264_0
      replace hx264_1 := (HB.out.cell (World.block_lt_of_cell? w _ hx264_1)).trans hx264_1
      replace hx264_2 := (HB.out.cell (World.block_lt_of_cell? w _ hx264_2)).trans hx264_2
      replace hx264_3 := (HB.out.cell (World.block_lt_of_cell? w _ hx264_3)).trans hx264_3
      replace p264 := eq_true p264
      replace q264 := eq_true q264
      go_wp2_with (first | ((with_reducible refine zg 27 ?_); refine gL (some 14) Try.func27 #[.agg #[.int .i64 ((rd_T30 l0 x3_1).f0), .int .i64 ((rd_T30 l0 x3_1).f1), .bool ((rd_T30 l0 x3_1).f2), .bool ((rd_T30 l0 x3_1).f3)]] ?_; (with_reducible refine (spec_PartOk.calls ((rd_T30 l0 x3_1).f0) ((rd_T30 l0 x3_1).f1) ((rd_T30 l0 x3_1).f2) ((rd_T30 l0 x3_1).f3) false _ A4.out).mono ?_); rintro e w7 ⟨rfl, hb⟩; refine ⟨_, rfl, ?_⟩; replace HB := zS hb; (try clear hb)))
      go_ret
      exact ⟨zw, zb⟩
    ·rw [if_neg c3] at H
     exact absurd H (by simp)
   ·rw [if_neg c2] at H
    have c2b0 : decide (x3_1 < (l0.length : Int)) = false := decide_eq_false c2
    clear c2
    obtain rfl := Option.some.inj H
    go_wp2
    go_ret
    exact ⟨zw, zb⟩

end Go.Proofs.Ytnfmpopmigbkoaa.PFnLessKeys

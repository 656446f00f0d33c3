-- Written by mkprint.py, a program of this session (the printer with additions of its own)
import Derived.Test.YtnfmpopmigbkoaaPFnPartsReadx0
import Derived.Test.YtnfmpopmigbkoaaPFnPartsReadx1
import Derived.Test.YtnfmpopmigbkoaaPFnPartsReadx9
namespace Go.Proofs.Ytnfmpopmigbkoaa.PFnPartsRead
open Go.RowKit Go.Proofs.YtnfmpopmigbkoaaW.PrintWords Go.Proofs.YtnfmpopmigbkoaaW.PrintLast Go.Proofs.YtnfmpopmigbkoaaW.PrintMore
attribute [local go_sem] max2_int min2_int max_two min_two max_three min_three max_four min_four   -- for this text's walks alone
set_option linter.unusedVariables false
set_option linter.unusedSimpArgs false

/-! ### impl_GetPart: function 23 -/
mutual
def impl_GetPart.j0 : Nat → List Int → Int → Bool → Int → Int → Bool → Bool → Option (Int × Int × ByteArray × Int × Bool)
  | 0, _, _, _, _, _, _, _ => none
  | k + 1, x0, x2, x25, x364000, x364001, x364002, x364003 => if x25 = true then (some (0, 0, (⟨#[]⟩ : ByteArray), 0, false)) else (if x364003 = true then ((impl_Flip.f k x0 x2).bind fun t366 => (if x364002 = true then (if 0 ≤ x2 then (if x2 < (t366.length : Int) then (if (rd t366 x2) = 0 then (some (0, 0, (⟨#[]⟩ : ByteArray), wrap64 (x2 + 1), true)) else (if (rd t366 x2) = 1 then (impl_GetPart.j1 k t366 (wrap64 (x2 + 1)) x364000 x364001 x364002 x364003) else (some (0, 0, (⟨#[]⟩ : ByteArray), 0, false)))) else (none)) else (none)) else (impl_GetPart.j1 k t366 x2 x364000 x364001 x364002 x364003))) else (if x364002 = true then (if 0 ≤ x2 then (if x2 < (x0.length : Int) then (if (rd x0 x2) = 0 then (some (0, 0, (⟨#[]⟩ : ByteArray), wrap64 (x2 + 1), true)) else (if (rd x0 x2) = 1 then (impl_GetPart.j2 k x0 (wrap64 (x2 + 1)) x364000 x364001 x364002 x364003) else (some (0, 0, (⟨#[]⟩ : ByteArray), 0, false)))) else (none)) else (none)) else (impl_GetPart.j2 k x0 x2 x364000 x364001 x364002 x364003)))
def impl_GetPart.j1 : Nat → List Int → Int → Int → Int → Bool → Bool → Option (Int × Int × ByteArray × Int × Bool)
  | 0, _, _, _, _, _, _ => none
  | k + 1, x0, x9, x364000, x364001, x364002, x364003 => (impl_typedAt.f k x0 x364001 x9).bind fun bt370 => (if bt370.2.2.2.2 = true then ((impl_Fits.f x364000 x364001 x364002 x364003 bt370.1 bt370.2.1 bt370.2.2.1).bind fun t376 => (if t376 = true then (some (bt370.1, bt370.2.1, bt370.2.2.1, bt370.2.2.2.1, true)) else (some (0, 0, (⟨#[]⟩ : ByteArray), 0, false)))) else (some (0, 0, (⟨#[]⟩ : ByteArray), 0, false)))
def impl_GetPart.j2 : Nat → List Int → Int → Int → Int → Bool → Bool → Option (Int × Int × ByteArray × Int × Bool)
  | 0, _, _, _, _, _, _ => none
  | k + 1, x0, x9, x364000, x364001, x364002, x364003 => (impl_typedAt.f k x0 x364001 x9).bind fun bt378 => (if bt378.2.2.2.2 = true then ((impl_Fits.f x364000 x364001 x364002 x364003 bt378.1 bt378.2.1 bt378.2.2.1).bind fun t384 => (if t384 = true then (some (bt378.1, bt378.2.1, bt378.2.2.1, bt378.2.2.2.1, true)) else (some (0, 0, (⟨#[]⟩ : ByteArray), 0, false)))) else (some (0, 0, (⟨#[]⟩ : ByteArray), 0, false)))
end
def impl_GetPart.f (k : Nat) (l0 : List Int) (a1_0 : Int) (a1_1 : Int) (a1_2 : Bool) (a1_3 : Bool) (a2 : Int) : Option (Int × Int × ByteArray × Int × Bool) := (impl_PartOk.f a1_0 a1_1 a1_2 a1_3).bind fun t365 => (if t365 = true then (if a2 < 0 then (impl_GetPart.j0 k l0 a2 true a1_0 a1_1 a1_2 a1_3) else (impl_GetPart.j0 k l0 a2 (decide (a2 ≥ (l0.length : Int))) a1_0 a1_1 a1_2 a1_3)) else (impl_GetPart.j0 k l0 a2 true a1_0 a1_1 a1_2 a1_3))
theorem impl_GetPart.mono_l : ∀ k, (∀ y0 y1 y2 y3 y4 y5 y6, LeO (impl_GetPart.j0 k y0 y1 y2 y3 y4 y5 y6) (impl_GetPart.j0 (k + 1) y0 y1 y2 y3 y4 y5 y6)) ∧ (∀ y0 y1 y2 y3 y4 y5, LeO (impl_GetPart.j1 k y0 y1 y2 y3 y4 y5) (impl_GetPart.j1 (k + 1) y0 y1 y2 y3 y4 y5)) ∧ (∀ y0 y1 y2 y3 y4 y5, LeO (impl_GetPart.j2 k y0 y1 y2 y3 y4 y5) (impl_GetPart.j2 (k + 1) y0 y1 y2 y3 y4 y5))
  | 0 => ⟨fun _ _ _ _ _ _ _ r h => by simp [impl_GetPart.j0] at h, fun _ _ _ _ _ _ r h => by simp [impl_GetPart.j1] at h, fun _ _ _ _ _ _ r h => by simp [impl_GetPart.j2] at h⟩
  | k + 1 => by
    obtain ⟨ih0, ih1, ih2⟩ := impl_GetPart.mono_l k
    refine ⟨?_, ?_, ?_⟩
    · intro y0 y1 y2 y3 y4 y5 y6
      unfold impl_GetPart.j0
      repeat' first
      | (with_reducible exact ih0 _ _ _ _ _ _ _)
      | (with_reducible exact ih1 _ _ _ _ _ _)
      | (with_reducible exact ih2 _ _ _ _ _ _)
      | (with_reducible exact impl_Flip.mono _ _ _)
      | (with_reducible exact impl_typedAt.mono _ _ _ _)
      | (with_reducible exact LeO.refl _)
      | (with_reducible exact LeO.none _)
      | (with_reducible refine LeO.ite ?_ ?_)
      | (with_reducible refine LeO.bind ?_ (fun _ => ?_))
      | exact ih0 _ _ _ _ _ _ _
      | exact ih1 _ _ _ _ _ _
      | exact ih2 _ _ _ _ _ _
      | exact impl_Flip.mono _ _ _
      | exact impl_typedAt.mono _ _ _ _
      | exact LeO.none _
      | refine LeO.ite ?_ ?_
      | refine LeO.bind ?_ (fun _ => ?_)
    · intro y0 y1 y2 y3 y4 y5
      unfold impl_GetPart.j1
      repeat' first
      | (with_reducible exact ih0 _ _ _ _ _ _ _)
      | (with_reducible exact ih1 _ _ _ _ _ _)
      | (with_reducible exact ih2 _ _ _ _ _ _)
      | (with_reducible exact impl_Flip.mono _ _ _)
      | (with_reducible exact impl_typedAt.mono _ _ _ _)
      | (with_reducible exact LeO.refl _)
      | (with_reducible exact LeO.none _)
      | (with_reducible refine LeO.ite ?_ ?_)
      | (with_reducible refine LeO.bind ?_ (fun _ => ?_))
      | exact ih0 _ _ _ _ _ _ _
      | exact ih1 _ _ _ _ _ _
      | exact ih2 _ _ _ _ _ _
      | exact impl_Flip.mono _ _ _
      | exact impl_typedAt.mono _ _ _ _
      | exact LeO.none _
      | refine LeO.ite ?_ ?_
      | refine LeO.bind ?_ (fun _ => ?_)
    · intro y0 y1 y2 y3 y4 y5
      unfold impl_GetPart.j2
      repeat' first
      | (with_reducible exact ih0 _ _ _ _ _ _ _)
      | (with_reducible exact ih1 _ _ _ _ _ _)
      | (with_reducible exact ih2 _ _ _ _ _ _)
      | (with_reducible exact impl_Flip.mono _ _ _)
      | (with_reducible exact impl_typedAt.mono _ _ _ _)
      | (with_reducible exact LeO.refl _)
      | (with_reducible exact LeO.none _)
      | (with_reducible refine LeO.ite ?_ ?_)
      | (with_reducible refine LeO.bind ?_ (fun _ => ?_))
      | exact ih0 _ _ _ _ _ _ _
      | exact ih1 _ _ _ _ _ _
      | exact ih2 _ _ _ _ _ _
      | exact impl_Flip.mono _ _ _
      | exact impl_typedAt.mono _ _ _ _
      | exact LeO.none _
      | refine LeO.ite ?_ ?_
      | refine LeO.bind ?_ (fun _ => ?_)
theorem impl_GetPart.mono : ∀ a0 a1 a2 a3 a4 a5 k, LeO (impl_GetPart.f k a0 a1 a2 a3 a4 a5) (impl_GetPart.f (k + 1) a0 a1 a2 a3 a4 a5) := by
  intro a0 a1 a2 a3 a4 a5 k
  obtain ⟨ih0, ih1, ih2⟩ := impl_GetPart.mono_l k
  unfold impl_GetPart.f
  repeat' first
      | (with_reducible exact ih0 _ _ _ _ _ _ _)
      | (with_reducible exact ih1 _ _ _ _ _ _)
      | (with_reducible exact ih2 _ _ _ _ _ _)
      | (with_reducible exact impl_Flip.mono _ _ _)
      | (with_reducible exact impl_typedAt.mono _ _ _ _)
      | (with_reducible exact LeO.refl _)
      | (with_reducible exact LeO.none _)
      | (with_reducible refine LeO.ite ?_ ?_)
      | (with_reducible refine LeO.bind ?_ (fun _ => ?_))
      | exact ih0 _ _ _ _ _ _ _
      | exact ih1 _ _ _ _ _ _
      | exact ih2 _ _ _ _ _ _
      | exact impl_Flip.mono _ _ _
      | exact impl_typedAt.mono _ _ _ _
      | exact LeO.none _
      | refine LeO.ite ?_ ?_
      | refine LeO.bind ?_ (fun _ => ?_)
set_option maxHeartbeats 8000000 in
set_option maxRecDepth 100000 in
theorem impl_GetPart.calls (k : Nat) (A0 : Option Addr) (c0 : Nat) (l0 : List Int) (a1_0 : Int) (a1_1 : Int) (a1_2 : Bool) (a1_3 : Bool) (a2 : Int) (r1 : Int) (r2 : Int) (r3 : ByteArray) (r4 : Int) (r5 : Bool) (w : World) (hr0 : Kd.C (Kd.int .u8) w A0 l0.length l0) (hc0 : l0.length ≤ c0) (h : impl_GetPart.f k l0 a1_0 a1_1 a1_2 a1_3 a2 = some (r1, r2, r3, r4, r5)) :
  Calls Try.prog 23 #[.slice A0 l0.length c0, .agg #[.int .i64 a1_0, .int .i64 a1_1, .bool a1_2, .bool a1_3], .int .i64 a2] w fun e w' => e = .returned (.tuple #[.agg #[.int .i64 r1, .int .i64 r2, .string r3], .int .i64 r4, .bool r5]) ∧ Below w.heap.size w w' := by
 have hu30 := Try.underlying30
 have hu32 := Try.underlying32
 have HR0 := zA hr0
 have HC0 := zA hc0
 clear hr0 hc0
 have HB := zA (Below.refl w.heap.size w)
 have H : ((impl_PartOk.f a1_0 a1_1 a1_2 a1_3).bind fun t365 => (if t365 = true then (if a2 < 0 then (impl_GetPart.j0 k l0 a2 true a1_0 a1_1 a1_2 a1_3) else (impl_GetPart.j0 k l0 a2 (decide (a2 ≥ (l0.length : Int))) a1_0 a1_1 a1_2 a1_3)) else (impl_GetPart.j0 k l0 a2 true a1_0 a1_1 a1_2 a1_3))) = some (r1, r2, r3, r4, r5) := h
 clear h
 have HC4 := zA H
 clear H
 go_enter Try.func23, Try.ntmps23
 go_upto_region 1 with (first | ((with_reducible refine zt 4 ?_); (try (refine gate_guard (by rfl) ?_; dsimp only)); refine zn #[.int .i64 a1_0, .int .i64 a1_1, .bool a1_2, .bool a1_3] 30 ?_; intro gb363 hg w5 hbox hb; have BK363 := zA hbox; have GW363 := zG hg; have GE363 := zG hg; replace HB := zS hb; clear hb hbox hg) | ((with_reducible refine zt 6 ?_); (try (refine gate_guard (by rfl) ?_; dsimp only)); refine zn #[.int .i64 0, .int .i64 0, .string (⟨#[]⟩ : ByteArray)] 32 ?_; intro gb364 hg w6 hbox hb; have BK364 := zA hbox; have GW364 := zG hg (zb1 GE363); have GE364 := zG hg (zb1 GE363); replace HB := zS hb (zb1 GE363); have NB363_364 := zX BK363 hg; have NB364_363 := zY BK363 hg; replace BK363 := zB BK363 hb; clear hb hbox hg))
 (try simp only [Act.put, List.setIfInBounds_toArray, List.set_cons_zero, List.set_cons_succ])
 go_cut [25] (fun v25 wc => ∃ (kq : Nat) (x25_3 : Bool), v25 = .bool x25_3 ∧ Aside0 (impl_GetPart.j0 kq l0 a2 x25_3 a1_0 a1_1 a1_2 a1_3 = some (r1, r2, r3, r4, r5)) ∧ Aside0 (kq ≤ k) ∧ Aside0 (wc.heap[gb363]? = some (.cells #[.int .i64 a1_0, .int .i64 a1_1, .bool a1_2, .bool a1_3] 30 (0, 0))) ∧ Aside0 (wc.heap[gb364]? = some (.cells #[.int .i64 0, .int .i64 0, .string (⟨#[]⟩ : ByteArray)] 32 (0, 0))) ∧ Aside0 (Below w.heap.size w wc))
 case first =>
  have H := HC4.out
  clear HC4
  replace H := zI H
  obtain ⟨t365, A7, H⟩ := H
  by_cases c8 : t365 = true
  ·subst c8
   rw [if_pos rfl] at H
   by_cases c9 : a2 < 0
   ·rw [if_pos c9] at H
    have c9b0 : decide (a2 < 0) = true := decide_eq_true c9
    clear c9
    (first | rw [c9b0] | (simp only [i64_w, i32_w]; rw [c9b0]) | skip)
    have H' := zA H
    clear H
    have hnb10 := NB363_364.out
    have hnc10 := NB364_363.out
    obtain ⟨hcz11_0, hcz11_1, hcz11_2, hcz11_3, hfz11_0, hfz11_1, hfz11_2, hfz11_3⟩ := zh4 BK363
    go_wp2_with (first | ((with_reducible refine zg 30 ?_); refine gL (some 14) Try.func30 #[.agg #[.int .i64 a1_0, .int .i64 a1_1, .bool a1_2, .bool a1_3]] ?_; (with_reducible refine (impl_PartOk.calls a1_0 a1_1 a1_2 a1_3 true _ A7.out).mono ?_); rintro e w12 ⟨rfl, hb⟩; refine ⟨_, rfl, ?_⟩; replace BK363 := zB BK363 hb; replace BK364 := zB BK364 hb; replace HB := zS hb (zb2 GE363 GE364); (try clear hb)))
    go_meet
    case rel => exact ⟨_, (true), zx, H', ⟨zo⟩, ⟨zk BK363⟩, ⟨zk BK364⟩, ⟨zb2 GE363 GE364⟩⟩
   ·rw [if_neg c9] at H
    have c9b0 : decide (a2 < 0) = false := decide_eq_false c9
    clear c9
    (first | rw [c9b0] | (simp only [i64_w, i32_w]; rw [c9b0]) | skip)
    have H' := zA H
    clear H
    have hnb13 := NB363_364.out
    have hnc13 := NB364_363.out
    obtain ⟨hcz14_0, hcz14_1, hcz14_2, hcz14_3, hfz14_0, hfz14_1, hfz14_2, hfz14_3⟩ := zh4 BK363
    go_wp2_with (first | ((with_reducible refine zg 30 ?_); refine gL (some 14) Try.func30 #[.agg #[.int .i64 a1_0, .int .i64 a1_1, .bool a1_2, .bool a1_3]] ?_; (with_reducible refine (impl_PartOk.calls a1_0 a1_1 a1_2 a1_3 true _ A7.out).mono ?_); rintro e w15 ⟨rfl, hb⟩; refine ⟨_, rfl, ?_⟩; replace BK363 := zB BK363 hb; replace BK364 := zB BK364 hb; replace HB := zS hb (zb2 GE363 GE364); (try clear hb)))
    go_meet
    case rel => exact ⟨_, (decide (a2 ≥ (l0.length : Int))), zx, H', ⟨zo⟩, ⟨zk BK363⟩, ⟨zk BK364⟩, ⟨zb2 GE363 GE364⟩⟩
  ·replace c8 := Bool.eq_false_iff.mpr c8
   subst c8
   rw [if_neg (Bool.false_ne_true)] at H
   have H' := zA H
   clear H
   have hnb16 := NB363_364.out
   have hnc16 := NB364_363.out
   obtain ⟨hcz17_0, hcz17_1, hcz17_2, hcz17_3, hfz17_0, hfz17_1, hfz17_2, hfz17_3⟩ := zh4 BK363
   go_wp2_with (first | ((with_reducible refine zg 30 ?_); refine gL (some 14) Try.func30 #[.agg #[.int .i64 a1_0, .int .i64 a1_1, .bool a1_2, .bool a1_3]] ?_; (with_reducible refine (impl_PartOk.calls a1_0 a1_1 a1_2 a1_3 false _ A7.out).mono ?_); rintro e w18 ⟨rfl, hb⟩; refine ⟨_, rfl, ?_⟩; replace BK363 := zB BK363 hb; replace BK364 := zB BK364 hb; replace HB := zS hb (zb2 GE363 GE364); (try clear hb)))
   go_meet
   case rel => exact ⟨_, (true), zx, H', ⟨zo⟩, ⟨zk BK363⟩, ⟨zk BK364⟩, ⟨zb2 GE363 GE364⟩⟩
 case rest =>
  clear HC4
  obtain ⟨kq, x25_3, rfl, HA, HJ3, BK363, BK364, HB⟩ := hcut
  cases kq with
  | zero => exact absurd HA.out (by simp [impl_GetPart.j0])
  | succ kj3 =>
   have H := HA.out
   clear HA
   simp only [impl_GetPart.j0] at H
   by_cases c19 : x25_3 = true
   ·subst c19
    rw [if_pos rfl] at H
    simp only [Option.some.injEq, Prod.mk.injEq] at H
    obtain ⟨rfl, rfl, rfl, rfl, rfl⟩ := H
    have hnb20 := NB364_363.out
    have hnc20 := NB363_364.out
    obtain ⟨hcz21_0, hcz21_1, hcz21_2, hfz21_0, hfz21_1, hfz21_2⟩ := zh3 BK364
    go_wp2
    refine bodyPost_ret (results_ctt rfl _ _ gb364 32 #[.int .i64 0, .int .i64 0, .string (⟨#[]⟩ : ByteArray)] (0, 0) _ rfl zz16 Try.underlying32 rfl (by kernel_rfl)) rfl ?_
    exact ⟨zw, zb2 GE363 GE364⟩
   ·replace c19 := Bool.eq_false_iff.mpr c19
    subst c19
    rw [if_neg (Bool.false_ne_true)] at H
    by_cases c22 : a1_3 = true
    ·subst c22
     rw [if_pos rfl] at H
     replace H := zI H
     obtain ⟨t366, A23, H⟩ := H
     have HC24 := zA H
     clear H
     have hnb25 := NB363_364.out
     have hnc25 := NB364_363.out
     obtain ⟨hcz26_0, hcz26_1, hcz26_2, hcz26_3, hfz26_0, hfz26_1, hfz26_2, hfz26_3⟩ := zh4 BK363
     go_upto_if 34 with (first | ((with_reducible refine zg 73 ?_); refine gL (some 31) Try.func73 #[.slice A0 l0.length c0, .int .i64 a2] ?_; (with_reducible refine (impl_Flip.calls kj3 _ _ l0 a2 t366 _ ?z1 ?z2 A23.out).mono ?_); (case z1 => exact zd HR0); (case z2 => exact HC0.out); rintro e w27 ⟨v367, rfl, ho0, hb⟩; refine ⟨_, rfl, ?_⟩; have HO368 := zL ho0 (zb2 GE363 GE364); replace BK363 := zB BK363 hb; replace BK364 := zB BK364 hb; replace HB := zS hb (zb2 GE363 GE364); clear hb ho0; obtain ⟨hcz28_0, hcz28_1, hcz28_2, hcz28_3, hfz28_0, hfz28_1, hfz28_2, hfz28_3⟩ := zh4 BK363))
     (try simp only [Act.put, List.setIfInBounds_toArray, List.set_cons_zero, List.set_cons_succ])
     go_cut [9] (fun v9 wc => ∃ (kq : Nat) (x9_23 : Int) (x365000_23 : Int) (x365001_23 : Int) (x365002_23 : ByteArray), v9 = .int .i64 x9_23 ∧ Aside0 (impl_GetPart.j1 kq t366 x9_23 a1_0 a1_1 a1_2 true = some (r1, r2, r3, r4, r5)) ∧ Aside0 (kq ≤ kj3) ∧ Aside0 (Kd.R (Kd.int .u8) 5 wc w.heap.size (fun _ => True) v367 t366) ∧ Aside0 (wc.heap[gb363]? = some (.cells #[.int .i64 a1_0, .int .i64 a1_1, .bool a1_2, .bool true] 30 (0, 0))) ∧ Aside0 (wc.heap[gb364]? = some (.cells #[.int .i64 x365000_23, .int .i64 x365001_23, .string x365002_23] 32 (0, 0))) ∧ Aside0 (Below w.heap.size w wc))
     case first =>
      have H := HC24.out
      clear HC24
      by_cases c29 : a1_2 = true
      ·subst c29
       rw [if_pos rfl] at H
       by_cases c30 : 0 ≤ a2
       ·rw [if_pos c30] at H
        have c30b0 : decide (0 ≤ a2) = true := decide_eq_true c30
        clear c30
        (first | rw [c30b0] | (simp only [i64_w, i32_w]; rw [c30b0]) | skip)
        by_cases c31 : a2 < (t366.length : Int)
        ·rw [if_pos c31] at H
         have c31b0 : decide (a2 < (t366.length : Int)) = true := decide_eq_true c31
         clear c31
         by_cases c32 : (rd t366 a2) = 0
         ·rw [if_pos c32] at H
          have c32b0 : ((rd t366 a2) == 0) = true := beq_iff_eq.mpr c32
          have c32b1 : ((rd t366 a2) != 0) = false := bne_eq_false_iff_eq.mpr c32
          clear c32
          simp only [Option.some.injEq, Prod.mk.injEq] at H
          obtain ⟨rfl, rfl, rfl, rfl, rfl⟩ := H
          obtain ⟨Ao33, co33, eo33⟩ := Kd.R_slice HO368.out
          subst eo33
          have p369 : 0 ≤ (a2 : Int) := of_decide_eq_true za
          have q369 : a2 < (t366.length : Int) := of_decide_eq_true za
          obtain ⟨ad369, e369, hx369_0⟩ := Kd.at_int (Kd.R_reads' HO368.out).2.2 a2 p369 q369
          cases e369
          replace p369 := eq_true p369
          replace q369 := eq_true q369
          have hnb34 := NB364_363.out
          have hnc34 := NB363_364.out
          obtain ⟨hcz35_0, hcz35_1, hcz35_2, hfz35_0, hfz35_1, hfz35_2⟩ := zh3 BK364
          go_wp2
          refine bodyPost_ret (results_ctt rfl _ _ gb364 32 #[.int .i64 0, .int .i64 0, .string (⟨#[]⟩ : ByteArray)] (0, 0) _ rfl zz16 Try.underlying32 rfl (by kernel_rfl)) rfl ?_
          exact ⟨zw, zb2 GE363 GE364⟩
         ·rw [if_neg c32] at H
          have c32b0 : ((rd t366 a2) == 0) = false := beq_eq_false_iff_ne.mpr c32
          have c32b1 : ((rd t366 a2) != 0) = true := bne_iff_ne.mpr c32
          by_cases c36 : (rd t366 a2) = 1
          ·rw [if_pos c36] at H
           have c36b0 : ((rd t366 a2) == 1) = true := beq_iff_eq.mpr c36
           have c36b1 : ((rd t366 a2) != 1) = false := bne_eq_false_iff_eq.mpr c36
           clear c36
           have H' := zA H
           clear H
           obtain ⟨Ao37, co37, eo37⟩ := Kd.R_slice HO368.out
           subst eo37
           have p369 : 0 ≤ (a2 : Int) := of_decide_eq_true za
           have q369 : a2 < (t366.length : Int) := of_decide_eq_true za
           obtain ⟨ad369, e369, hx369_0⟩ := Kd.at_int (Kd.R_reads' HO368.out).2.2 a2 p369 q369
           cases e369
           replace p369 := eq_true p369
           replace q369 := eq_true q369
           go_wp2
           go_meet
           case rel => exact ⟨_, (wrap64 (a2 + 1)), (0), (0), ((⟨#[]⟩ : ByteArray)), zx, H', ⟨zz84⟩, ⟨zr HO368⟩, ⟨zk BK363⟩, ⟨zk BK364⟩, ⟨zb2 GE363 GE364⟩⟩
          ·rw [if_neg c36] at H
           have c36b0 : ((rd t366 a2) == 1) = false := beq_eq_false_iff_ne.mpr c36
           have c36b1 : ((rd t366 a2) != 1) = true := bne_iff_ne.mpr c36
           simp only [Option.some.injEq, Prod.mk.injEq] at H
           obtain ⟨rfl, rfl, rfl, rfl, rfl⟩ := H
           obtain ⟨Ao38, co38, eo38⟩ := Kd.R_slice HO368.out
           subst eo38
           have p369 : 0 ≤ (a2 : Int) := of_decide_eq_true za
           have q369 : a2 < (t366.length : Int) := of_decide_eq_true za
           obtain ⟨ad369, e369, hx369_0⟩ := Kd.at_int (Kd.R_reads' HO368.out).2.2 a2 p369 q369
           cases e369
           replace p369 := eq_true p369
           replace q369 := eq_true q369
           have hnb39 := NB364_363.out
           have hnc39 := NB363_364.out
           obtain ⟨hcz40_0, hcz40_1, hcz40_2, hfz40_0, hfz40_1, hfz40_2⟩ := zh3 BK364
           go_wp2
           refine bodyPost_ret (results_ctt rfl _ _ gb364 32 #[.int .i64 0, .int .i64 0, .string (⟨#[]⟩ : ByteArray)] (0, 0) _ rfl zz16 Try.underlying32 rfl (by kernel_rfl)) rfl ?_
           exact ⟨zw, zb2 GE363 GE364⟩
        ·rw [if_neg c31] at H
         exact absurd H (by simp)
       ·rw [if_neg c30] at H
        exact absurd H (by simp)
      ·replace c29 := Bool.eq_false_iff.mpr c29
       subst c29
       rw [if_neg (Bool.false_ne_true)] at H
       have H' := zA H
       clear H
       go_wp2
       go_meet
       case rel => exact ⟨_, (a2), (0), (0), ((⟨#[]⟩ : ByteArray)), zx, H', ⟨zz84⟩, ⟨zr HO368⟩, ⟨zk BK363⟩, ⟨zk BK364⟩, ⟨zb2 GE363 GE364⟩⟩
     case rest =>
      clear HC24
      try clear c19; try clear c22; try clear hcz26_0; try clear hcz26_1; try clear hcz26_2; try clear hcz26_3; try clear hcz28_0; try clear hcz28_1; try clear hcz28_2; try clear hcz28_3; try clear hfz26_0; try clear hfz26_1; try clear hfz26_2; try clear hfz26_3; try clear hfz28_0; try clear hfz28_1; try clear hfz28_2; try clear hfz28_3
      obtain ⟨kq, x9_23, x365000_23, x365001_23, x365002_23, rfl, HA, HJ23, HO_0, BK363, BK364, HB⟩ := hcut
      cases kq with
      | zero => exact absurd HA.out (by simp [impl_GetPart.j1])
      | succ kj23 =>
       have H := HA.out
       clear HA
       simp only [impl_GetPart.j1] at H
       replace H := zI H
       obtain ⟨⟨t370, t371, t372, t373, t374⟩, A41, H⟩ := H
       try dsimp only at H
       by_cases c42 : t374 = true
       ·subst c42
        rw [if_pos rfl] at H
        replace H := zI H
        obtain ⟨t376, A43, H⟩ := H
        by_cases c44 : t376 = true
        ·subst c44
         rw [if_pos rfl] at H
         simp only [Option.some.injEq, Prod.mk.injEq] at H
         obtain ⟨rfl, rfl, rfl, rfl, rfl⟩ := H
         have hnb45 := NB363_364.out
         have hnc45 := NB364_363.out
         obtain ⟨hcz46_0, hcz46_1, hcz46_2, hcz46_3, hfz46_0, hfz46_1, hfz46_2, hfz46_3⟩ := zh4 BK363
         obtain ⟨Ao47, co47, eo47⟩ := Kd.R_slice HO_0.out
         subst eo47
         go_wp2_with (first | ((with_reducible refine zg 74 ?_); refine gL (some 54) Try.func74 #[.slice Ao47 t366.length co47, .int .i64 a1_1, .int .i64 x9_23] ?_; (with_reducible refine (impl_typedAt.calls kj23 _ _ t366 a1_1 x9_23 t370 t371 t372 t373 true _ ?z1 ?z2 A41.out).mono ?_); (case z1 => exact ze HO_0); (case z2 => exact zl HO_0); rintro e w48 ⟨rfl, hb⟩; refine ⟨_, rfl, ?_⟩; replace HO_0 := zR HO_0 hb; replace BK363 := zB BK363 hb; replace BK364 := zB BK364 hb; replace HB := zS hb (zb2 GE363 GE364); (try clear hb)) | ((with_reducible refine zt 10 ?_); (try (refine gate_guard (by rfl) ?_; dsimp only)); refine zn #[.int .i64 0, .int .i64 0, .string (⟨#[]⟩ : ByteArray)] 32 ?_; intro gb375 hg w49 hbox hb; replace HO_0 := zR HO_0 hb; have BK375 := zA hbox; have GW375 := zG hg (zb2 GE363 GE364); have GE375 := zG hg (zb2 GE363 GE364); replace HB := zS hb (zb2 GE363 GE364); have NB363_375 := zX BK363 hg; have NB375_363 := zY BK363 hg; replace BK363 := zB BK363 hb; have NB364_375 := zX BK364 hg; have NB375_364 := zY BK364 hg; replace BK364 := zB BK364 hb; clear hb hbox hg; have hnb50 := NB375_363.out; have hnc50 := NB363_375.out; have hnb51 := NB375_364.out; have hnc51 := NB364_375.out; obtain ⟨hcz52_0, hcz52_1, hcz52_2, hfz52_0, hfz52_1, hfz52_2⟩ := zh3 BK375; obtain ⟨hcz53_0, hcz53_1, hcz53_2, hcz53_3, hfz53_0, hfz53_1, hfz53_2, hfz53_3⟩ := zh4 BK363) | (go_at_call 31; (with_reducible refine (impl_Fits.calls a1_0 a1_1 a1_2 true t370 t371 t372 true _ A43.out).mono ?_); rintro e w54 ⟨rfl, hb⟩; replace HO_0 := zA (Kd.R_below (by (with_reducible repeat (first | apply Kd.R_alloc | apply Kd.R_drewN | apply Kd.R_drew)); exact (Kd.R_mono (Kd.R_far (p := ⟨gb375, 2, none⟩) (Kd.R_far (p := ⟨gb375, 1, none⟩) (Kd.R_far (p := ⟨gb375, 0, none⟩) (Kd.R_types HO_0.out BK375.out (by decide)) (fun _ hk => hk.2) (.int .i64 t370)) (fun _ hk => hk.2) (.int .i64 t371)) (fun _ hk => hk.2) (.string t372)) (fun _ h_ => h_.1))) hb); replace BK363 := zA (blk_below (g := gb363) (o := .cells #[.int .i64 a1_0, .int .i64 a1_1, .bool a1_2, .bool true] 30 (0, 0)) zz59 hb); replace BK364 := zA (blk_below (g := gb364) (o := .cells #[.int .i64 x365000_23, .int .i64 x365001_23, .string x365002_23] 32 (0, 0)) zz60 hb); replace BK375 := zA (blk_below (g := gb375) (o := .cells #[.int .i64 t370, .int .i64 t371, .string t372] 32 (0, 0)) zz46 hb); replace HB := zS hb zz53; (try clear hb); obtain ⟨hcz55_0, hcz55_1, hcz55_2, hfz55_0, hfz55_1, hfz55_2⟩ := zh3 BK375; obtain ⟨hcz56_0, hcz56_1, hcz56_2, hfz56_0, hfz56_1, hfz56_2⟩ := zh3 BK364))
         refine bodyPost_ret (results_ctt rfl _ _ gb364 32 #[.int .i64 t370, .int .i64 t371, .string t372] (0, 0) _ rfl (by (with_reducible repeat (first | refine blk_drewN ?_ _ | refine blk_drew ?_ | refine blk_alloc ?_ _)); refine blk_put (cs := #[.int .i64 t370, .int .i64 t371, .string x365002_23]) ?_ 2 _ rfl; (with_reducible repeat (first | refine blk_drewN ?_ _ | refine blk_drew ?_ | refine blk_alloc ?_ _)); refine blk_put (cs := #[.int .i64 t370, .int .i64 x365001_23, .string x365002_23]) ?_ 1 _ rfl; (with_reducible repeat (first | refine blk_drewN ?_ _ | refine blk_drew ?_ | refine blk_alloc ?_ _)); refine blk_put (cs := #[.int .i64 x365000_23, .int .i64 x365001_23, .string x365002_23]) ?_ 0 _ rfl; (with_reducible repeat (first | refine blk_drewN ?_ _ | refine blk_drew ?_ | refine blk_alloc ?_ _)); exact BK364.out) Try.underlying32 rfl (by kernel_rfl)) rfl ?_
         exact ⟨zw, zz53⟩
        ·replace c44 := Bool.eq_false_iff.mpr c44
         subst c44
         rw [if_neg (Bool.false_ne_true)] at H
         simp only [Option.some.injEq, Prod.mk.injEq] at H
         obtain ⟨rfl, rfl, rfl, rfl, rfl⟩ := H
         have hnb57 := NB363_364.out
         have hnc57 := NB364_363.out
         obtain ⟨hcz58_0, hcz58_1, hcz58_2, hcz58_3, hfz58_0, hfz58_1, hfz58_2, hfz58_3⟩ := zh4 BK363
         obtain ⟨Ao59, co59, eo59⟩ := Kd.R_slice HO_0.out
         subst eo59
         go_wp2_with (first | ((with_reducible refine zg 74 ?_); refine gL (some 54) Try.func74 #[.slice Ao59 t366.length co59, .int .i64 a1_1, .int .i64 x9_23] ?_; (with_reducible refine (impl_typedAt.calls kj23 _ _ t366 a1_1 x9_23 t370 t371 t372 t373 true _ ?z1 ?z2 A41.out).mono ?_); (case z1 => exact ze HO_0); (case z2 => exact zl HO_0); rintro e w60 ⟨rfl, hb⟩; refine ⟨_, rfl, ?_⟩; replace HO_0 := zR HO_0 hb; replace BK363 := zB BK363 hb; replace BK364 := zB BK364 hb; replace HB := zS hb (zb2 GE363 GE364); (try clear hb)) | ((with_reducible refine zt 10 ?_); (try (refine gate_guard (by rfl) ?_; dsimp only)); refine zn #[.int .i64 0, .int .i64 0, .string (⟨#[]⟩ : ByteArray)] 32 ?_; intro gb375 hg w61 hbox hb; replace HO_0 := zR HO_0 hb; have BK375 := zA hbox; have GW375 := zG hg (zb2 GE363 GE364); have GE375 := zG hg (zb2 GE363 GE364); replace HB := zS hb (zb2 GE363 GE364); have NB363_375 := zX BK363 hg; have NB375_363 := zY BK363 hg; replace BK363 := zB BK363 hb; have NB364_375 := zX BK364 hg; have NB375_364 := zY BK364 hg; replace BK364 := zB BK364 hb; clear hb hbox hg; have hnb62 := NB375_363.out; have hnc62 := NB363_375.out; have hnb63 := NB375_364.out; have hnc63 := NB364_375.out; obtain ⟨hcz64_0, hcz64_1, hcz64_2, hfz64_0, hfz64_1, hfz64_2⟩ := zh3 BK375; obtain ⟨hcz65_0, hcz65_1, hcz65_2, hcz65_3, hfz65_0, hfz65_1, hfz65_2, hfz65_3⟩ := zh4 BK363) | (go_at_call 31; (with_reducible refine (impl_Fits.calls a1_0 a1_1 a1_2 true t370 t371 t372 false _ A43.out).mono ?_); rintro e w66 ⟨rfl, hb⟩; replace HO_0 := zA (Kd.R_below (by (with_reducible repeat (first | apply Kd.R_alloc | apply Kd.R_drewN | apply Kd.R_drew)); exact (Kd.R_mono (Kd.R_far (p := ⟨gb375, 2, none⟩) (Kd.R_far (p := ⟨gb375, 1, none⟩) (Kd.R_far (p := ⟨gb375, 0, none⟩) (Kd.R_types HO_0.out BK375.out (by decide)) (fun _ hk => hk.2) (.int .i64 t370)) (fun _ hk => hk.2) (.int .i64 t371)) (fun _ hk => hk.2) (.string t372)) (fun _ h_ => h_.1))) hb); replace BK363 := zA (blk_below (g := gb363) (o := .cells #[.int .i64 a1_0, .int .i64 a1_1, .bool a1_2, .bool true] 30 (0, 0)) zz59 hb); replace BK364 := zA (blk_below (g := gb364) (o := .cells #[.int .i64 x365000_23, .int .i64 x365001_23, .string x365002_23] 32 (0, 0)) zz60 hb); replace BK375 := zA (blk_below (g := gb375) (o := .cells #[.int .i64 t370, .int .i64 t371, .string t372] 32 (0, 0)) zz46 hb); replace HB := zS hb zz53; (try clear hb); obtain ⟨hcz67_0, hcz67_1, hcz67_2, hfz67_0, hfz67_1, hfz67_2⟩ := zh3 BK364))
         refine bodyPost_ret (results_ctt rfl _ _ gb364 32 #[.int .i64 0, .int .i64 0, .string (⟨#[]⟩ : ByteArray)] (0, 0) _ rfl (by (with_reducible repeat (first | refine blk_drewN ?_ _ | refine blk_drew ?_ | refine blk_alloc ?_ _)); refine blk_put (cs := #[.int .i64 0, .int .i64 0, .string x365002_23]) ?_ 2 _ rfl; (with_reducible repeat (first | refine blk_drewN ?_ _ | refine blk_drew ?_ | refine blk_alloc ?_ _)); refine blk_put (cs := #[.int .i64 0, .int .i64 x365001_23, .string x365002_23]) ?_ 1 _ rfl; (with_reducible repeat (first | refine blk_drewN ?_ _ | refine blk_drew ?_ | refine blk_alloc ?_ _)); refine blk_put (cs := #[.int .i64 x365000_23, .int .i64 x365001_23, .string x365002_23]) ?_ 0 _ rfl; (with_reducible repeat (first | refine blk_drewN ?_ _ | refine blk_drew ?_ | refine blk_alloc ?_ _)); exact BK364.out) Try.underlying32 rfl (by kernel_rfl)) rfl ?_
         exact ⟨zw, zz53⟩
       ·replace c42 := Bool.eq_false_iff.mpr c42
        subst c42
        rw [if_neg (Bool.false_ne_true)] at H
        simp only [Option.some.injEq, Prod.mk.injEq] at H
        obtain ⟨rfl, rfl, rfl, rfl, rfl⟩ := H
        have hnb68 := NB363_364.out
        have hnc68 := NB364_363.out
        obtain ⟨hcz69_0, hcz69_1, hcz69_2, hcz69_3, hfz69_0, hfz69_1, hfz69_2, hfz69_3⟩ := zh4 BK363
        obtain ⟨Ao70, co70, eo70⟩ := Kd.R_slice HO_0.out
        subst eo70
        go_wp2_with (first | ((with_reducible refine zg 74 ?_); refine gL (some 54) Try.func74 #[.slice Ao70 t366.length co70, .int .i64 a1_1, .int .i64 x9_23] ?_; (with_reducible refine (impl_typedAt.calls kj23 _ _ t366 a1_1 x9_23 t370 t371 t372 t373 false _ ?z1 ?z2 A41.out).mono ?_); (case z1 => exact ze HO_0); (case z2 => exact zl HO_0); rintro e w71 ⟨rfl, hb⟩; refine ⟨_, rfl, ?_⟩; replace HO_0 := zR HO_0 hb; replace BK363 := zB BK363 hb; replace BK364 := zB BK364 hb; replace HB := zS hb (zb2 GE363 GE364); (try clear hb)) | ((with_reducible refine zt 10 ?_); (try (refine gate_guard (by rfl) ?_; dsimp only)); refine zn #[.int .i64 0, .int .i64 0, .string (⟨#[]⟩ : ByteArray)] 32 ?_; intro gb375 hg w72 hbox hb; replace HO_0 := zR HO_0 hb; have BK375 := zA hbox; have GW375 := zG hg (zb2 GE363 GE364); have GE375 := zG hg (zb2 GE363 GE364); replace HB := zS hb (zb2 GE363 GE364); have NB363_375 := zX BK363 hg; have NB375_363 := zY BK363 hg; replace BK363 := zB BK363 hb; have NB364_375 := zX BK364 hg; have NB375_364 := zY BK364 hg; replace BK364 := zB BK364 hb; clear hb hbox hg; have hnb73 := NB375_363.out; have hnc73 := NB363_375.out; have hnb74 := NB375_364.out; have hnc74 := NB364_375.out; obtain ⟨hcz75_0, hcz75_1, hcz75_2, hfz75_0, hfz75_1, hfz75_2⟩ := zh3 BK375; obtain ⟨hcz76_0, hcz76_1, hcz76_2, hfz76_0, hfz76_1, hfz76_2⟩ := zh3 BK364))
        refine bodyPost_ret (results_ctt rfl _ _ gb364 32 #[.int .i64 0, .int .i64 0, .string (⟨#[]⟩ : ByteArray)] (0, 0) _ rfl (by (with_reducible repeat (first | refine blk_drewN ?_ _ | refine blk_drew ?_ | refine blk_alloc ?_ _)); refine blk_put (cs := #[.int .i64 0, .int .i64 0, .string x365002_23]) ?_ 2 _ rfl; (with_reducible repeat (first | refine blk_drewN ?_ _ | refine blk_drew ?_ | refine blk_alloc ?_ _)); refine blk_put (cs := #[.int .i64 0, .int .i64 x365001_23, .string x365002_23]) ?_ 1 _ rfl; (with_reducible repeat (first | refine blk_drewN ?_ _ | refine blk_drew ?_ | refine blk_alloc ?_ _)); refine blk_put (cs := #[.int .i64 x365000_23, .int .i64 x365001_23, .string x365002_23]) ?_ 0 _ rfl; (with_reducible repeat (first | refine blk_drewN ?_ _ | refine blk_drew ?_ | refine blk_alloc ?_ _)); refine blk_far ?_ NB364_375.out _; (with_reducible repeat (first | refine blk_drewN ?_ _ | refine blk_drew ?_ | refine blk_alloc ?_ _)); refine blk_far ?_ NB364_375.out _; (with_reducible repeat (first | refine blk_drewN ?_ _ | refine blk_drew ?_ | refine blk_alloc ?_ _)); refine blk_far ?_ NB364_375.out _; (with_reducible repeat (first | refine blk_drewN ?_ _ | refine blk_drew ?_ | refine blk_alloc ?_ _)); exact BK364.out) Try.underlying32 rfl (by kernel_rfl)) rfl ?_
        exact ⟨zw, zz53⟩
    ·replace c22 := Bool.eq_false_iff.mpr c22
     subst c22
     rw [if_neg (Bool.false_ne_true)] at H
     have HC77 := zA H
     clear H
     have hnb78 := NB363_364.out
     have hnc78 := NB364_363.out
     obtain ⟨hcz79_0, hcz79_1, hcz79_2, hcz79_3, hfz79_0, hfz79_1, hfz79_2, hfz79_3⟩ := zh4 BK363
     go_upto_if 34 with (fail)
     go_cut [9] (fun v9 wc => ∃ (kq : Nat) (x9_76 : Int) (x365000_76 : Int) (x365001_76 : Int) (x365002_76 : ByteArray), v9 = .int .i64 x9_76 ∧ Aside0 (impl_GetPart.j2 kq l0 x9_76 a1_0 a1_1 a1_2 false = some (r1, r2, r3, r4, r5)) ∧ Aside0 (kq ≤ kj3) ∧ Aside0 (wc.heap[gb363]? = some (.cells #[.int .i64 a1_0, .int .i64 a1_1, .bool a1_2, .bool false] 30 (0, 0))) ∧ Aside0 (wc.heap[gb364]? = some (.cells #[.int .i64 x365000_76, .int .i64 x365001_76, .string x365002_76] 32 (0, 0))) ∧ Aside0 (Below w.heap.size w wc))
     case first =>
      have H := HC77.out
      clear HC77
      by_cases c80 : a1_2 = true
      ·subst c80
       rw [if_pos rfl] at H
       by_cases c81 : 0 ≤ a2
       ·rw [if_pos c81] at H
        have c81b0 : decide (0 ≤ a2) = true := decide_eq_true c81
        clear c81
        (first | rw [c81b0] | (simp only [i64_w, i32_w]; rw [c81b0]) | skip)
        by_cases c82 : a2 < (l0.length : Int)
        ·rw [if_pos c82] at H
         have c82b0 : decide (a2 < (l0.length : Int)) = true := decide_eq_true c82
         clear c82
         by_cases c83 : (rd l0 a2) = 0
         ·rw [if_pos c83] at H
          have c83b0 : ((rd l0 a2) == 0) = true := beq_iff_eq.mpr c83
          have c83b1 : ((rd l0 a2) != 0) = false := bne_eq_false_iff_eq.mpr c83
          clear c83
          simp only [Option.some.injEq, Prod.mk.injEq] at H
          obtain ⟨rfl, rfl, rfl, rfl, rfl⟩ := H
          have p377 : 0 ≤ (a2 : Int) := of_decide_eq_true za
          have q377 : a2 < (l0.length : Int) := of_decide_eq_true za
          obtain ⟨ad377, e377, hx377_0⟩ := Kd.at_int HR0.out a2 p377 q377
          cases e377
          replace hx377_0 := (HB.out.cell (World.block_lt_of_cell? w _ hx377_0)).trans hx377_0
          replace p377 := eq_true p377
          replace q377 := eq_true q377
          have hnb84 := NB364_363.out
          have hnc84 := NB363_364.out
          obtain ⟨hcz85_0, hcz85_1, hcz85_2, hfz85_0, hfz85_1, hfz85_2⟩ := zh3 BK364
          go_wp2
          refine bodyPost_ret (results_ctt rfl _ _ gb364 32 #[.int .i64 0, .int .i64 0, .string (⟨#[]⟩ : ByteArray)] (0, 0) _ rfl zz16 Try.underlying32 rfl (by kernel_rfl)) rfl ?_
          exact ⟨zw, zb2 GE363 GE364⟩
         ·rw [if_neg c83] at H
          have c83b0 : ((rd l0 a2) == 0) = false := beq_eq_false_iff_ne.mpr c83
          have c83b1 : ((rd l0 a2) != 0) = true := bne_iff_ne.mpr c83
          by_cases c86 : (rd l0 a2) = 1
          ·rw [if_pos c86] at H
           have c86b0 : ((rd l0 a2) == 1) = true := beq_iff_eq.mpr c86
           have c86b1 : ((rd l0 a2) != 1) = false := bne_eq_false_iff_eq.mpr c86
           clear c86
           have H' := zA H
           clear H
           have p377 : 0 ≤ (a2 : Int) := of_decide_eq_true za
           have q377 : a2 < (l0.length : Int) := of_decide_eq_true za
           obtain ⟨ad377, e377, hx377_0⟩ := Kd.at_int HR0.out a2 p377 q377
           cases e377
           replace hx377_0 := (HB.out.cell (World.block_lt_of_cell? w _ hx377_0)).trans hx377_0
           replace p377 := eq_true p377
           replace q377 := eq_true q377
           go_wp2
           go_meet
           case rel => exact ⟨_, (wrap64 (a2 + 1)), (0), (0), ((⟨#[]⟩ : ByteArray)), zx, H', ⟨zz84⟩, ⟨zk BK363⟩, ⟨zk BK364⟩, ⟨zb2 GE363 GE364⟩⟩
          ·rw [if_neg c86] at H
           have c86b0 : ((rd l0 a2) == 1) = false := beq_eq_false_iff_ne.mpr c86
           have c86b1 : ((rd l0 a2) != 1) = true := bne_iff_ne.mpr c86
           simp only [Option.some.injEq, Prod.mk.injEq] at H
           obtain ⟨rfl, rfl, rfl, rfl, rfl⟩ := H
           have p377 : 0 ≤ (a2 : Int) := of_decide_eq_true za
           have q377 : a2 < (l0.length : Int) := of_decide_eq_true za
           obtain ⟨ad377, e377, hx377_0⟩ := Kd.at_int HR0.out a2 p377 q377
           cases e377
           replace hx377_0 := (HB.out.cell (World.block_lt_of_cell? w _ hx377_0)).trans hx377_0
           replace p377 := eq_true p377
           replace q377 := eq_true q377
           have hnb87 := NB364_363.out
           have hnc87 := NB363_364.out
           obtain ⟨hcz88_0, hcz88_1, hcz88_2, hfz88_0, hfz88_1, hfz88_2⟩ := zh3 BK364
           go_wp2
           refine bodyPost_ret (results_ctt rfl _ _ gb364 32 #[.int .i64 0, .int .i64 0, .string (⟨#[]⟩ : ByteArray)] (0, 0) _ rfl zz16 Try.underlying32 rfl (by kernel_rfl)) rfl ?_
           exact ⟨zw, zb2 GE363 GE364⟩
        ·rw [if_neg c82] at H
         exact absurd H (by simp)
       ·rw [if_neg c81] at H
        exact absurd H (by simp)
      ·replace c80 := Bool.eq_false_iff.mpr c80
       subst c80
       rw [if_neg (Bool.false_ne_true)] at H
       have H' := zA H
       clear H
       go_wp2
       go_meet
       case rel => exact ⟨_, (a2), (0), (0), ((⟨#[]⟩ : ByteArray)), zx, H', ⟨zz84⟩, ⟨zk BK363⟩, ⟨zk BK364⟩, ⟨zb2 GE363 GE364⟩⟩
     case rest =>
      clear HC77
      try clear c19; try clear c22; try clear hcz79_0; try clear hcz79_1; try clear hcz79_2; try clear hcz79_3; try clear hfz79_0; try clear hfz79_1; try clear hfz79_2; try clear hfz79_3
      obtain ⟨kq, x9_76, x365000_76, x365001_76, x365002_76, rfl, HA, HJ76, BK363, BK364, HB⟩ := hcut
      cases kq with
      | zero => exact absurd HA.out (by simp [impl_GetPart.j2])
      | succ kj76 =>
       have H := HA.out
       clear HA
       simp only [impl_GetPart.j2] at H
       replace H := zI H
       obtain ⟨⟨t378, t379, t380, t381, t382⟩, A89, H⟩ := H
       try dsimp only at H
       by_cases c90 : t382 = true
       ·subst c90
        rw [if_pos rfl] at H
        replace H := zI H
        obtain ⟨t384, A91, H⟩ := H
        by_cases c92 : t384 = true
        ·subst c92
         rw [if_pos rfl] at H
         simp only [Option.some.injEq, Prod.mk.injEq] at H
         obtain ⟨rfl, rfl, rfl, rfl, rfl⟩ := H
         have hnb93 := NB363_364.out
         have hnc93 := NB364_363.out
         obtain ⟨hcz94_0, hcz94_1, hcz94_2, hcz94_3, hfz94_0, hfz94_1, hfz94_2, hfz94_3⟩ := zh4 BK363
         go_wp2_with (first | ((with_reducible refine zg 74 ?_); refine gL (some 54) Try.func74 #[.slice A0 l0.length c0, .int .i64 a1_1, .int .i64 x9_76] ?_; (with_reducible refine (impl_typedAt.calls kj76 _ _ l0 a1_1 x9_76 t378 t379 t380 t381 true _ ?z1 ?z2 A89.out).mono ?_); (case z1 => exact zd HR0); (case z2 => exact HC0.out); rintro e w95 ⟨rfl, hb⟩; refine ⟨_, rfl, ?_⟩; replace BK363 := zB BK363 hb; replace BK364 := zB BK364 hb; replace HB := zS hb (zb2 GE363 GE364); (try clear hb)) | ((with_reducible refine zt 10 ?_); (try (refine gate_guard (by rfl) ?_; dsimp only)); refine zn #[.int .i64 0, .int .i64 0, .string (⟨#[]⟩ : ByteArray)] 32 ?_; intro gb383 hg w96 hbox hb; have BK383 := zA hbox; have GW383 := zG hg (zb2 GE363 GE364); have GE383 := zG hg (zb2 GE363 GE364); replace HB := zS hb (zb2 GE363 GE364); have NB363_383 := zX BK363 hg; have NB383_363 := zY BK363 hg; replace BK363 := zB BK363 hb; have NB364_383 := zX BK364 hg; have NB383_364 := zY BK364 hg; replace BK364 := zB BK364 hb; clear hb hbox hg; have hnb97 := NB383_363.out; have hnc97 := NB363_383.out; have hnb98 := NB383_364.out; have hnc98 := NB364_383.out; obtain ⟨hcz99_0, hcz99_1, hcz99_2, hfz99_0, hfz99_1, hfz99_2⟩ := zh3 BK383; obtain ⟨hcz100_0, hcz100_1, hcz100_2, hcz100_3, hfz100_0, hfz100_1, hfz100_2, hfz100_3⟩ := zh4 BK363) | (go_at_call 31; (with_reducible refine (impl_Fits.calls a1_0 a1_1 a1_2 false t378 t379 t380 true _ A91.out).mono ?_); rintro e w101 ⟨rfl, hb⟩; replace BK363 := zA (blk_below (g := gb363) (o := .cells #[.int .i64 a1_0, .int .i64 a1_1, .bool a1_2, .bool false] 30 (0, 0)) zz61 hb); replace BK364 := zA (blk_below (g := gb364) (o := .cells #[.int .i64 x365000_76, .int .i64 x365001_76, .string x365002_76] 32 (0, 0)) zz62 hb); replace BK383 := zA (blk_below (g := gb383) (o := .cells #[.int .i64 t378, .int .i64 t379, .string t380] 32 (0, 0)) zz47 hb); replace HB := zS hb zz54; (try clear hb); obtain ⟨hcz102_0, hcz102_1, hcz102_2, hfz102_0, hfz102_1, hfz102_2⟩ := zh3 BK383; obtain ⟨hcz103_0, hcz103_1, hcz103_2, hfz103_0, hfz103_1, hfz103_2⟩ := zh3 BK364))
         refine bodyPost_ret (results_ctt rfl _ _ gb364 32 #[.int .i64 t378, .int .i64 t379, .string t380] (0, 0) _ rfl (by (with_reducible repeat (first | refine blk_drewN ?_ _ | refine blk_drew ?_ | refine blk_alloc ?_ _)); refine blk_put (cs := #[.int .i64 t378, .int .i64 t379, .string x365002_76]) ?_ 2 _ rfl; (with_reducible repeat (first | refine blk_drewN ?_ _ | refine blk_drew ?_ | refine blk_alloc ?_ _)); refine blk_put (cs := #[.int .i64 t378, .int .i64 x365001_76, .string x365002_76]) ?_ 1 _ rfl; (with_reducible repeat (first | refine blk_drewN ?_ _ | refine blk_drew ?_ | refine blk_alloc ?_ _)); refine blk_put (cs := #[.int .i64 x365000_76, .int .i64 x365001_76, .string x365002_76]) ?_ 0 _ rfl; (with_reducible repeat (first | refine blk_drewN ?_ _ | refine blk_drew ?_ | refine blk_alloc ?_ _)); exact BK364.out) Try.underlying32 rfl (by kernel_rfl)) rfl ?_
         exact ⟨zw, zz54⟩
        ·replace c92 := Bool.eq_false_iff.mpr c92
         subst c92
         rw [if_neg (Bool.false_ne_true)] at H
         simp only [Option.some.injEq, Prod.mk.injEq] at H
         obtain ⟨rfl, rfl, rfl, rfl, rfl⟩ := H
         have hnb104 := NB363_364.out
         have hnc104 := NB364_363.out
         obtain ⟨hcz105_0, hcz105_1, hcz105_2, hcz105_3, hfz105_0, hfz105_1, hfz105_2, hfz105_3⟩ := zh4 BK363
         go_wp2_with (first | ((with_reducible refine zg 74 ?_); refine gL (some 54) Try.func74 #[.slice A0 l0.length c0, .int .i64 a1_1, .int .i64 x9_76] ?_; (with_reducible refine (impl_typedAt.calls kj76 _ _ l0 a1_1 x9_76 t378 t379 t380 t381 true _ ?z1 ?z2 A89.out).mono ?_); (case z1 => exact zd HR0); (case z2 => exact HC0.out); rintro e w106 ⟨rfl, hb⟩; refine ⟨_, rfl, ?_⟩; replace BK363 := zB BK363 hb; replace BK364 := zB BK364 hb; replace HB := zS hb (zb2 GE363 GE364); (try clear hb)) | ((with_reducible refine zt 10 ?_); (try (refine gate_guard (by rfl) ?_; dsimp only)); refine zn #[.int .i64 0, .int .i64 0, .string (⟨#[]⟩ : ByteArray)] 32 ?_; intro gb383 hg w107 hbox hb; have BK383 := zA hbox; have GW383 := zG hg (zb2 GE363 GE364); have GE383 := zG hg (zb2 GE363 GE364); replace HB := zS hb (zb2 GE363 GE364); have NB363_383 := zX BK363 hg; have NB383_363 := zY BK363 hg; replace BK363 := zB BK363 hb; have NB364_383 := zX BK364 hg; have NB383_364 := zY BK364 hg; replace BK364 := zB BK364 hb; clear hb hbox hg; have hnb108 := NB383_363.out; have hnc108 := NB363_383.out; have hnb109 := NB383_364.out; have hnc109 := NB364_383.out; obtain ⟨hcz110_0, hcz110_1, hcz110_2, hfz110_0, hfz110_1, hfz110_2⟩ := zh3 BK383; obtain ⟨hcz111_0, hcz111_1, hcz111_2, hcz111_3, hfz111_0, hfz111_1, hfz111_2, hfz111_3⟩ := zh4 BK363) | (go_at_call 31; (with_reducible refine (impl_Fits.calls a1_0 a1_1 a1_2 false t378 t379 t380 false _ A91.out).mono ?_); rintro e w112 ⟨rfl, hb⟩; replace BK363 := zA (blk_below (g := gb363) (o := .cells #[.int .i64 a1_0, .int .i64 a1_1, .bool a1_2, .bool false] 30 (0, 0)) zz61 hb); replace BK364 := zA (blk_below (g := gb364) (o := .cells #[.int .i64 x365000_76, .int .i64 x365001_76, .string x365002_76] 32 (0, 0)) zz62 hb); replace BK383 := zA (blk_below (g := gb383) (o := .cells #[.int .i64 t378, .int .i64 t379, .string t380] 32 (0, 0)) zz47 hb); replace HB := zS hb zz54; (try clear hb); obtain ⟨hcz113_0, hcz113_1, hcz113_2, hfz113_0, hfz113_1, hfz113_2⟩ := zh3 BK364))
         refine bodyPost_ret (results_ctt rfl _ _ gb364 32 #[.int .i64 0, .int .i64 0, .string (⟨#[]⟩ : ByteArray)] (0, 0) _ rfl (by (with_reducible repeat (first | refine blk_drewN ?_ _ | refine blk_drew ?_ | refine blk_alloc ?_ _)); refine blk_put (cs := #[.int .i64 0, .int .i64 0, .string x365002_76]) ?_ 2 _ rfl; (with_reducible repeat (first | refine blk_drewN ?_ _ | refine blk_drew ?_ | refine blk_alloc ?_ _)); refine blk_put (cs := #[.int .i64 0, .int .i64 x365001_76, .string x365002_76]) ?_ 1 _ rfl; (with_reducible repeat (first | refine blk_drewN ?_ _ | refine blk_drew ?_ | refine blk_alloc ?_ _)); refine blk_put (cs := #[.int .i64 x365000_76, .int .i64 x365001_76, .string x365002_76]) ?_ 0 _ rfl; (with_reducible repeat (first | refine blk_drewN ?_ _ | refine blk_drew ?_ | refine blk_alloc ?_ _)); exact BK364.out) Try.underlying32 rfl (by kernel_rfl)) rfl ?_
         exact ⟨zw, zz54⟩
       ·replace c90 := Bool.eq_false_iff.mpr c90
        subst c90
        rw [if_neg (Bool.false_ne_true)] at H
        simp only [Option.some.injEq, Prod.mk.injEq] at H
        obtain ⟨rfl, rfl, rfl, rfl, rfl⟩ := H
        have hnb114 := NB363_364.out
        have hnc114 := NB364_363.out
        obtain ⟨hcz115_0, hcz115_1, hcz115_2, hcz115_3, hfz115_0, hfz115_1, hfz115_2, hfz115_3⟩ := zh4 BK363
        go_wp2_with (first | ((with_reducible refine zg 74 ?_); refine gL (some 54) Try.func74 #[.slice A0 l0.length c0, .int .i64 a1_1, .int .i64 x9_76] ?_; (with_reducible refine (impl_typedAt.calls kj76 _ _ l0 a1_1 x9_76 t378 t379 t380 t381 false _ ?z1 ?z2 A89.out).mono ?_); (case z1 => exact zd HR0); (case z2 => exact HC0.out); rintro e w116 ⟨rfl, hb⟩; refine ⟨_, rfl, ?_⟩; replace BK363 := zB BK363 hb; replace BK364 := zB BK364 hb; replace HB := zS hb (zb2 GE363 GE364); (try clear hb)) | ((with_reducible refine zt 10 ?_); (try (refine gate_guard (by rfl) ?_; dsimp only)); refine zn #[.int .i64 0, .int .i64 0, .string (⟨#[]⟩ : ByteArray)] 32 ?_; intro gb383 hg w117 hbox hb; have BK383 := zA hbox; have GW383 := zG hg (zb2 GE363 GE364); have GE383 := zG hg (zb2 GE363 GE364); replace HB := zS hb (zb2 GE363 GE364); have NB363_383 := zX BK363 hg; have NB383_363 := zY BK363 hg; replace BK363 := zB BK363 hb; have NB364_383 := zX BK364 hg; have NB383_364 := zY BK364 hg; replace BK364 := zB BK364 hb; clear hb hbox hg; have hnb118 := NB383_363.out; have hnc118 := NB363_383.out; have hnb119 := NB383_364.out; have hnc119 := NB364_383.out; obtain ⟨hcz120_0, hcz120_1, hcz120_2, hfz120_0, hfz120_1, hfz120_2⟩ := zh3 BK383; obtain ⟨hcz121_0, hcz121_1, hcz121_2, hfz121_0, hfz121_1, hfz121_2⟩ := zh3 BK364))
        refine bodyPost_ret (results_ctt rfl _ _ gb364 32 #[.int .i64 0, .int .i64 0, .string (⟨#[]⟩ : ByteArray)] (0, 0) _ rfl (by (with_reducible repeat (first | refine blk_drewN ?_ _ | refine blk_drew ?_ | refine blk_alloc ?_ _)); refine blk_put (cs := #[.int .i64 0, .int .i64 0, .string x365002_76]) ?_ 2 _ rfl; (with_reducible repeat (first | refine blk_drewN ?_ _ | refine blk_drew ?_ | refine blk_alloc ?_ _)); refine blk_put (cs := #[.int .i64 0, .int .i64 x365001_76, .string x365002_76]) ?_ 1 _ rfl; (with_reducible repeat (first | refine blk_drewN ?_ _ | refine blk_drew ?_ | refine blk_alloc ?_ _)); refine blk_put (cs := #[.int .i64 x365000_76, .int .i64 x365001_76, .string x365002_76]) ?_ 0 _ rfl; (with_reducible repeat (first | refine blk_drewN ?_ _ | refine blk_drew ?_ | refine blk_alloc ?_ _)); refine blk_far ?_ NB364_383.out _; (with_reducible repeat (first | refine blk_drewN ?_ _ | refine blk_drew ?_ | refine blk_alloc ?_ _)); refine blk_far ?_ NB364_383.out _; (with_reducible repeat (first | refine blk_drewN ?_ _ | refine blk_drew ?_ | refine blk_alloc ?_ _)); refine blk_far ?_ NB364_383.out _; (with_reducible repeat (first | refine blk_drewN ?_ _ | refine blk_drew ?_ | refine blk_alloc ?_ _)); exact BK364.out) Try.underlying32 rfl (by kernel_rfl)) rfl ?_
        exact ⟨zw, zz54⟩

end Go.Proofs.Ytnfmpopmigbkoaa.PFnPartsRead

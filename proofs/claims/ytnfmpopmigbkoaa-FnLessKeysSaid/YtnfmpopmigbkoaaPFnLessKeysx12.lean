-- Written by mkprint.py, a program of this session (the printer with additions of its own)
import Derived.Test.YtnfmpopmigbkoaaPFnLessKeysx0
import Derived.Test.YtnfmpopmigbkoaaPFnLessKeysx1
import Derived.Test.YtnfmpopmigbkoaaPFnLessKeysx4
import Derived.Test.YtnfmpopmigbkoaaPFnLessKeysx10
import Derived.Test.YtnfmpopmigbkoaaPFnLessKeysx11
namespace Go.Proofs.Ytnfmpopmigbkoaa.PFnLessKeys
open Go.RowKit Go.Proofs.YtnfmpopmigbkoaaW.PrintWords Go.Proofs.YtnfmpopmigbkoaaW.PrintLast Go.Proofs.YtnfmpopmigbkoaaW.PrintMore
attribute [local go_sem] max2_int min2_int max_two min_two max_three min_three max_four min_four   -- for this text's walks alone
set_option linter.unusedVariables false
set_option linter.unusedSimpArgs false

attribute [local go_sem high] eqA32
/-! ### spec_l6Vals: function 89 -/
def spec_l6Vals.l0 : Nat → List (S30) → Int → List (S32) → Int → List Int → Int → Int → Option ((List (S32)) × Int × Int)
  | 0, _, _, _, _, _, _, _ => none
  | k + 1, x1, x2, x7, x8, x1000, x1001, x1002 => if x8 < x2 then (if x8 < (x1.length : Int) then (if 0 ≤ x8 then ((spec_l2Of.f k x1000 x1001 x1002 ((rd_T30 x1 x8).f1) ((rd_T30 x1 x8).f2)).bind fun bt538 => (if x7.length < 4398046511104 then (spec_l6Vals.l0 k x1 x2 (x7 ++ [(⟨bt538.1, bt538.2.1, bt538.2.2.1⟩ : S32)]) (wrap64 (x8 + 1)) x1000 bt538.2.2.2.1 bt538.2.2.2.2) else (none))) else (none)) else (some (x7, x1001, x1002))) else (some (x7, x1001, x1002))
def spec_l6Vals.f (k : Nat) (s0_0 : List Int) (s0_1 : Int) (s0_2 : Int) (l1 : List (S30)) (a2 : Int) : Option ((List (S32)) × Int × Int) := spec_l6Vals.l0 k l1 a2 (([] : List (S32))) 0 s0_0 s0_1 s0_2
theorem spec_l6Vals.mono_l : ∀ k, (∀ y0 y1 y2 y3 y4 y5 y6, LeO (spec_l6Vals.l0 k y0 y1 y2 y3 y4 y5 y6) (spec_l6Vals.l0 (k + 1) y0 y1 y2 y3 y4 y5 y6))
  | 0 => fun _ _ _ _ _ _ _ r h => by simp [spec_l6Vals.l0] at h
  | k + 1 => by
    have ih0 := spec_l6Vals.mono_l k
    · intro y0 y1 y2 y3 y4 y5 y6
      unfold spec_l6Vals.l0
      repeat' first
      | (with_reducible exact ih0 _ _ _ _ _ _ _)
      | (with_reducible exact spec_l2Of.mono _ _ _ _ _ _)
      | (with_reducible exact LeO.refl _)
      | (with_reducible exact LeO.none _)
      | (with_reducible refine LeO.ite ?_ ?_)
      | (with_reducible refine LeO.bind ?_ (fun _ => ?_))
      | exact ih0 _ _ _ _ _ _ _
      | exact spec_l2Of.mono _ _ _ _ _ _
      | exact LeO.none _
      | refine LeO.ite ?_ ?_
      | refine LeO.bind ?_ (fun _ => ?_)
theorem spec_l6Vals.mono : ∀ a0 a1 a2 a3 a4 k, LeO (spec_l6Vals.f k a0 a1 a2 a3 a4) (spec_l6Vals.f (k + 1) a0 a1 a2 a3 a4) := by
  intro a0 a1 a2 a3 a4 k
  have ih0 := spec_l6Vals.mono_l k
  unfold spec_l6Vals.f
  repeat' first
      | (with_reducible exact ih0 _ _ _ _ _ _ _)
      | (with_reducible exact spec_l2Of.mono _ _ _ _ _ _)
      | (with_reducible exact LeO.refl _)
      | (with_reducible exact LeO.none _)
      | (with_reducible refine LeO.ite ?_ ?_)
      | (with_reducible refine LeO.bind ?_ (fun _ => ?_))
      | exact ih0 _ _ _ _ _ _ _
      | exact spec_l2Of.mono _ _ _ _ _ _
      | exact LeO.none _
      | refine LeO.ite ?_ ?_
      | refine LeO.bind ?_ (fun _ => ?_)
def spec_l6Vals.T5 : Bool × List (List Nat × List Nat) := (true, [([], []), ([], []), ([], []), ([], []), ([2, 3], [2, 3]), ([4], [4]), ([5], [5]), ([], []), ([], []), ([7, 8], [7, 8]), ([9], [9]), ([10], [10]), ([1, 6, 11], [1, 6, 11]), ([12], [12]), ([0, 13, 12], [0, 13]), ([14, 14, 0, 1, 2, 3, 4, 5, 6, 7, 8, 9, 10, 11, 12, 13, 14], [0, 14])])
def spec_l6Vals.B5 : List Nat := [0, 0, 0, 0, 12, 28, 60, 0, 0, 384, 896, 1920, 4094, 8190, 16383, 32767]
theorem spec_l6Vals.tab5 : rtab .any (opsOf Try.f89 5) = spec_l6Vals.T5 := by kernel_rfl
theorem spec_l6Vals.bits5 : waitsOk spec_l6Vals.T5.2 spec_l6Vals.B5 = true := by kernel_rfl
set_option maxHeartbeats 8000000 in
set_option maxRecDepth 100000 in
theorem spec_l6Vals.calls (k : Nat) (g : Nat) (s0_0 : List Int) (s0_1 : Int) (s0_2 : Int) (A1 : Option Addr) (c1 : Nat) (l1 : List (S30)) (a2 : Int) (r1 : List (S32)) (r2 : Int) (r3 : Int) (w0 w : World) (hI : IsS102 w0 w g s0_0 s0_1 s0_2) (hB : Below w0.heap.size w0 w) (hr1 : ∀ W_, KeepBut w W_ g none → Kd.C k30 W_ A1 l1.length l1) (hc1 : l1.length ≤ c1) (h : spec_l6Vals.f k s0_0 s0_1 s0_2 l1 a2 = some (r1, r2, r3)) :
  Calls Try.prog 89 #[.pointer (some ⟨g, 0, none⟩), .slice A1 l1.length c1, .int .i64 a2] w fun e w' => ∃ v0_ : Value, e = .returned (v0_) ∧ Kd.R k32 32 w' w.heap.size (fun _ => True) v0_ r1 ∧ IsS102 w0 w' g s0_0 r2 r3 ∧ Below w0.heap.size w0 w' ∧ KeepBut w w' g none := by
 have HR1 := zA hr1
 have HC1 := zA hc1
 clear hr1 hc1
 have HI0 := zA hI
 have HK := zA (KeepBut.refl w g none)
 have HL := zA hB.size
 clear hI
 have HW0 := zA hB.size
 have HB := zA hB
 clear hB
 have H : (spec_l6Vals.l0 k l1 a2 (([] : List (S32))) 0 s0_0 s0_1 s0_2) = some (r1, r2, r3) := h
 clear h
 obtain ⟨y533, hy533⟩ : ∃ y_ : List (S32), y_ = (([] : List (S32))) := ⟨_, rfl⟩
 replace H : (spec_l6Vals.l0 k l1 a2 y533 0 s0_0 s0_1 s0_2) = some (r1, r2, r3) := by first | (rw [hy533]; with_reducible exact H) | (have H2_ := (Option.bind_some _ _).symm.trans H; rw [hy533]; with_reducible exact H2_) | (have H2_ := (Option.bind_some _ _).symm.trans H; with_reducible exact H2_) | with_reducible exact H | (rw [hy533]; exact H) | exact H
 have Ny533 := zA hy533
 clear hy533
 have H' := zA H
 clear H
 go_enter Try.func89, Try.ntmps89
 go_wp2_with (first | ((with_reducible refine zt 9 ?_); (try (refine gate_guard (by rfl) ?_; dsimp only)); refine Kd.R_lit k32 _ 32 ?hg (N := 9) ?hd (xs := ([] : List (S32))) (inner := []) (ok := fun _ => True) (okp := fun _ => True) ?hr ?hp (fun _ hk => hk) trivial (Below.refl _ _) (Nat.le_refl _) (by simp) ?_; (case hd => rfl); (case hg => rfl); (case hr => exact zz25); (case hp => exact (Reps.none _ _)); intro v534 w4 ho5 hb hg_ hnew_; clear hg_ hnew_; (first | rw [← Ny533.out] at ho5 | (simp only [Int.reduceToNat] at ho5; rw [← Ny533.out] at ho5)); have HO535 := zA (Kd.R_lower ho5 (keep_size (w := w) (g := g) (row := none) zf)); replace HK := zT (KeepBut.of_below hb g none); replace HB := zS hb zz1; replace HI0 := zA (IsS102.below zz0 hb); clear hb ho5))
 go_loopg [7, 8] k (fun kq v7 v8 w' => ∃ (x7_1 : List (S32)) (x8_1 : Int) (x1001_1 : Int) (x1002_1 : Int), v8 = .int .i64 x8_1 ∧ Aside0 (spec_l6Vals.l0 kq l1 a2 x7_1 x8_1 s0_0 x1001_1 x1002_1 = some (r1, r2, r3)) ∧ Aside0 (kq ≤ k) ∧ Aside0 (Kd.R k32 32 w' w.heap.size (fun _ => True) v7 x7_1) ∧ Aside0 (IsS102 w0 w' g s0_0 x1001_1 x1002_1) ∧ Aside0 (KeepBut w w' g none) ∧ Aside0 (Below w0.heap.size w0 w'))
 case atStart => exact ⟨(y533), (0), (s0_1), (s0_2), zx, H', ⟨Nat.le_refl _⟩, ⟨zr HO535⟩, ⟨zz0⟩, ⟨zf⟩, ⟨zz1⟩⟩
 case round =>
  clear H'
  obtain ⟨x7_1, x8_1, x1001_1, x1002_1, rfl, HA, HK1, HO_7, HI0, HK, HB⟩ := hrel
  cases gk with
  | zero => exact absurd HA.out (by simp [spec_l6Vals.l0])
  | succ k1 =>
   have H := HA.out
   clear HA
   simp only [spec_l6Vals.l0] at H
   by_cases c6 : x8_1 < a2
   ·rw [if_pos c6] at H
    have c6b0 : decide (x8_1 < a2) = true := decide_eq_true c6
    clear c6
    by_cases c7 : x8_1 < (l1.length : Int)
    ·rw [if_pos c7] at H
     have c7b0 : decide (x8_1 < (l1.length : Int)) = true := decide_eq_true c7
     clear c7
     by_cases c8 : 0 ≤ x8_1
     ·rw [if_pos c8] at H
      have c8b0 : decide (0 ≤ x8_1) = true := decide_eq_true c8
      clear c8
      replace H := zI H
      obtain ⟨⟨t538, t539, t540, t541, t542⟩, A9, H⟩ := H
      try dsimp only at H
      by_cases c10 : x7_1.length < 4398046511104
      ·rw [if_pos c10] at H
       have LMc10 := zA c10
       clear c10
       obtain ⟨y543, hy543⟩ : ∃ y_ : List (S32), y_ = (x7_1 ++ [(⟨t538, t539, t540⟩ : S32)]) := ⟨_, rfl⟩
       replace H : (spec_l6Vals.l0 k1 l1 a2 y543 (wrap64 (x8_1 + 1)) s0_0 t541 t542) = some (r1, r2, r3) := by first | (rw [hy543]; with_reducible exact H) | (have H2_ := (Option.bind_some _ _).symm.trans H; rw [hy543]; with_reducible exact H2_) | (have H2_ := (Option.bind_some _ _).symm.trans H; with_reducible exact H2_) | with_reducible exact H | (rw [hy543]; exact H) | exact H
       have Ny543 := zA hy543
       clear hy543
       have H' := zA H
       clear H
       try go_wp2
       have n0_ := zA (Kd.R_drew HO_7.out)
       have n1_ := zA (IsS102.drew HI0.out)
       have n2_ := zA (keep_drew HK.out)
       have n3_ := zA (below_drew1 HB.out)
       clear HO_7 HI0 HK HB
       have HO_7 := n0_; have HI0 := n1_; have HK := n2_; have HB := n3_
       clear n0_ n1_ n2_ n3_
       have p536 : 0 ≤ (x8_1 : Int) := of_decide_eq_true za
       have q536 : x8_1 < (l1.length : Int) := of_decide_eq_true za
       obtain ⟨ad536, e536, hx536_0, hx536_1, hx536_2, hx536_3⟩ := at_T30 (Kd.C_foot_now HR1.out HK.out) x8_1 p536 q536
       have hw536_3 := hx536_3
       have hw536_2 := hx536_2
       have hw536_1 := hx536_1
       have hw536_0 := hx536_0
       cases e536
       have hne536_3 := (show (⟨(ad536.add ((x8_1).toNat * 4)).block, (ad536.add ((x8_1).toNat * 4)).off + 3, none⟩ : Addr).block ≠ g from by first | (rw [add_block]; exact Kd.foot_ne HR1.out (by omega) (by decide)) | (show (Addr.add _ _).block ≠ _; rw [add_block]; exact Kd.foot_ne HR1.out (by omega) (by decide)) | exact Kd.foot_ne HR1.out (by omega) (by decide) | (dsimp only; exact Kd.foot_ne HR1.out (by omega) (by decide)))
       have hlt536_3 := (Kd.foot_lt HR1.out (by omega) (by decide))
       have hne536_2 := (show (⟨(ad536.add ((x8_1).toNat * 4)).block, (ad536.add ((x8_1).toNat * 4)).off + 2, none⟩ : Addr).block ≠ g from by first | (rw [add_block]; exact Kd.foot_ne HR1.out (by omega) (by decide)) | (show (Addr.add _ _).block ≠ _; rw [add_block]; exact Kd.foot_ne HR1.out (by omega) (by decide)) | exact Kd.foot_ne HR1.out (by omega) (by decide) | (dsimp only; exact Kd.foot_ne HR1.out (by omega) (by decide)))
       have hlt536_2 := (Kd.foot_lt HR1.out (by omega) (by decide))
       have hne536_1 := (show (⟨(ad536.add ((x8_1).toNat * 4)).block, (ad536.add ((x8_1).toNat * 4)).off + 1, none⟩ : Addr).block ≠ g from by first | (rw [add_block]; exact Kd.foot_ne HR1.out (by omega) (by decide)) | (show (Addr.add _ _).block ≠ _; rw [add_block]; exact Kd.foot_ne HR1.out (by omega) (by decide)) | exact Kd.foot_ne HR1.out (by omega) (by decide) | (dsimp only; exact Kd.foot_ne HR1.out (by omega) (by decide)))
       have hlt536_1 := (Kd.foot_lt HR1.out (by omega) (by decide))
       have hne536_0 := (show ((ad536.add ((x8_1).toNat * 4)) : Addr).block ≠ g from by first | (rw [add_block]; exact Kd.foot_ne HR1.out (by omega) (by decide)) | (show (Addr.add _ _).block ≠ _; rw [add_block]; exact Kd.foot_ne HR1.out (by omega) (by decide)) | exact Kd.foot_ne HR1.out (by omega) (by decide) | (dsimp only; exact Kd.foot_ne HR1.out (by omega) (by decide)))
       have hlt536_0 := (Kd.foot_lt HR1.out (by omega) (by decide))
       replace p536 := eq_true p536
       replace q536 := eq_true q536
       have p537 : 0 ≤ (x8_1 : Int) := of_decide_eq_true za
       have q537 : x8_1 < (l1.length : Int) := of_decide_eq_true za
       obtain ⟨ad537, e537, hx537_0, hx537_1, hx537_2, hx537_3⟩ := at_T30 (Kd.C_foot_now HR1.out HK.out) x8_1 p537 q537
       have hw537_3 := hx537_3
       have hw537_2 := hx537_2
       have hw537_1 := hx537_1
       have hw537_0 := hx537_0
       obtain rfl : ad536 = ad537 := (by injection e537)
       have hne537_3 := (show (⟨(ad536.add ((x8_1).toNat * 4)).block, (ad536.add ((x8_1).toNat * 4)).off + 3, none⟩ : Addr).block ≠ g from by first | (rw [add_block]; exact Kd.foot_ne HR1.out (by omega) (by decide)) | (show (Addr.add _ _).block ≠ _; rw [add_block]; exact Kd.foot_ne HR1.out (by omega) (by decide)) | exact Kd.foot_ne HR1.out (by omega) (by decide) | (dsimp only; exact Kd.foot_ne HR1.out (by omega) (by decide)))
       have hlt537_3 := (Kd.foot_lt HR1.out (by omega) (by decide))
       have hne537_2 := (show (⟨(ad536.add ((x8_1).toNat * 4)).block, (ad536.add ((x8_1).toNat * 4)).off + 2, none⟩ : Addr).block ≠ g from by first | (rw [add_block]; exact Kd.foot_ne HR1.out (by omega) (by decide)) | (show (Addr.add _ _).block ≠ _; rw [add_block]; exact Kd.foot_ne HR1.out (by omega) (by decide)) | exact Kd.foot_ne HR1.out (by omega) (by decide) | (dsimp only; exact Kd.foot_ne HR1.out (by omega) (by decide)))
       have hlt537_2 := (Kd.foot_lt HR1.out (by omega) (by decide))
       have hne537_1 := (show (⟨(ad536.add ((x8_1).toNat * 4)).block, (ad536.add ((x8_1).toNat * 4)).off + 1, none⟩ : Addr).block ≠ g from by first | (rw [add_block]; exact Kd.foot_ne HR1.out (by omega) (by decide)) | (show (Addr.add _ _).block ≠ _; rw [add_block]; exact Kd.foot_ne HR1.out (by omega) (by decide)) | exact Kd.foot_ne HR1.out (by omega) (by decide) | (dsimp only; exact Kd.foot_ne HR1.out (by omega) (by decide)))
       have hlt537_1 := (Kd.foot_lt HR1.out (by omega) (by decide))
       have hne537_0 := (show ((ad536.add ((x8_1).toNat * 4)) : Addr).block ≠ g from by first | (rw [add_block]; exact Kd.foot_ne HR1.out (by omega) (by decide)) | (show (Addr.add _ _).block ≠ _; rw [add_block]; exact Kd.foot_ne HR1.out (by omega) (by decide)) | exact Kd.foot_ne HR1.out (by omega) (by decide) | (dsimp only; exact Kd.foot_ne HR1.out (by omega) (by decide)))
       have hlt537_0 := (Kd.foot_lt HR1.out (by omega) (by decide))
       replace p537 := eq_true p537
       replace q537 := eq_true q537
       refine start_ (n := 16) (S := fun w' => w'.cell? (ad536.add ((x8_1).toNat * 4)) = some (.int .i64 ((rd_T30 l1 x8_1).f0)) ∧ w'.cell? ⟨(ad536.add ((x8_1).toNat * 4)).block, (ad536.add ((x8_1).toNat * 4)).off + 1, none⟩ = some (.int .i64 ((rd_T30 l1 x8_1).f1)) ∧ w'.cell? ⟨(ad536.add ((x8_1).toNat * 4)).block, (ad536.add ((x8_1).toNat * 4)).off + 2, none⟩ = some (.bool ((rd_T30 l1 x8_1).f2)) ∧ w'.cell? ⟨(ad536.add ((x8_1).toNat * 4)).block, (ad536.add ((x8_1).toNat * 4)).off + 3, none⟩ = some (.bool ((rd_T30 l1 x8_1).f3)) ∧ w'.cell? (ad536.add ((x8_1).toNat * 4)) = some (.int .i64 ((rd_T30 l1 x8_1).f0)) ∧ w'.cell? ⟨(ad536.add ((x8_1).toNat * 4)).block, (ad536.add ((x8_1).toNat * 4)).off + 1, none⟩ = some (.int .i64 ((rd_T30 l1 x8_1).f1)) ∧ w'.cell? ⟨(ad536.add ((x8_1).toNat * 4)).block, (ad536.add ((x8_1).toNat * 4)).off + 2, none⟩ = some (.bool ((rd_T30 l1 x8_1).f2)) ∧ w'.cell? ⟨(ad536.add ((x8_1).toNat * 4)).block, (ad536.add ((x8_1).toNat * 4)).off + 3, none⟩ = some (.bool ((rd_T30 l1 x8_1).f3))) (ds := [13, 14]) #[false, false, false, false, false, false, false, false, false, false, false, false, false, false, false, false] (by kernel_rfl) rfl rfl ⟨hx536_0, hx536_1, hx536_2, hx536_3, hx537_0, hx537_1, hx537_2, hx537_3⟩ (fun hHeld => ?_); refine with_tabW spec_l6Vals.tab5 spec_l6Vals.bits5 (fun HT_ HW_ => ?_)
       generalize wr.drew = w11 at HO_7 HI0 HK HB hx536_0 hx536_1 hx536_2 hx536_3 hx537_0 hx537_1 hx537_2 hx537_3 hHeld ⊢
       refine pure_ (i := 0) (N := some 21) (v := ?_) (a' := ?_) #[true, false, false, false, false, false, false, false, false, false, false, false, false, false, false, false] rfl rfl (any_of HT_.out (by kernel_rfl)) (fun _ _ _ h => h) (Or.inl ⟨by rfl, ?_⟩) ?_ ?_; rotate_left
       ·intro w'; go_simp; with_reducible rfl
       rotate_left
       ·simp only [Act.put, List.setIfInBounds_toArray, List.set_cons_zero, List.set_cons_succ, i64_w, i32_w]; rfl
       refine pure_ (i := 1) (N := some 22) (v := ?_) (a' := ?_) #[true, true, false, false, false, false, false, false, false, false, false, false, false, false, false, false] rfl rfl (any_of HT_.out (by kernel_rfl)) (fun _ _ _ h => h) (Or.inl ⟨by rfl, ?_⟩) ?_ ?_; rotate_left
       ·intro w'; go_simp; with_reducible rfl
       rotate_left
       ·simp only [Act.put, List.setIfInBounds_toArray, List.set_cons_zero, List.set_cons_succ, i64_w, i32_w]; rfl
       refine pure_ (i := 2) (N := some 23) (v := ?_) (a' := ?_) #[true, true, true, false, false, false, false, false, false, false, false, false, false, false, false, false] rfl rfl (any_of HT_.out (by kernel_rfl)) (fun _ _ _ h => h) (Or.inl ⟨by rfl, ?_⟩) ?_ ?_; rotate_left
       ·intro w'; go_simp; with_reducible rfl
       rotate_left
       ·simp only [Act.put, List.setIfInBounds_toArray, List.set_cons_zero, List.set_cons_succ, i64_w, i32_w]; rfl
       refine pure_ (i := 3) (N := some 24) (v := ?_) (a' := ?_) #[true, true, true, true, false, false, false, false, false, false, false, false, false, false, false, false] rfl rfl (any_of HT_.out (by kernel_rfl)) (fun _ _ _ h => h) (Or.inl ⟨by rfl, ?_⟩) ?_ ?_; rotate_left
       ·intro w'; go_simp; with_reducible rfl
       rotate_left
       ·simp only [Act.put, List.setIfInBounds_toArray, List.set_cons_zero, List.set_cons_succ, i64_w, i32_w]; rfl
       refine pure_ (i := 4) (N := some 25) (v := ?_) (a' := ?_) #[true, true, true, true, true, false, false, false, false, false, false, false, false, false, false, false] rfl rfl (any_of HT_.out (by kernel_rfl)) (fun _ _ _ h => h) (Or.inl ⟨by rfl, ?_⟩) ?_ ?_; rotate_left
       ·intro w'; go_simp; with_reducible rfl
       rotate_left
       ·simp only [Act.put, List.setIfInBounds_toArray, List.set_cons_zero, List.set_cons_succ, i64_w, i32_w]; rfl
       refine pure_ (i := 5) (N := some 26) (v := ?_) (a' := ?_) #[true, true, true, true, true, true, false, false, false, false, false, false, false, false, false, false] rfl rfl (any_of HT_.out (by kernel_rfl)) (fun _ _ _ h => h) (Or.inl ⟨by rfl, ?_⟩) ?_ ?_; rotate_left
       ·intro w'; go_simp; with_reducible rfl
       rotate_left
       ·simp only [Act.put, List.setIfInBounds_toArray, List.set_cons_zero, List.set_cons_succ, i64_w, i32_w]; rfl
       refine pure_ (i := 7) (N := some 28) (v := ?_) (a' := ?_) #[true, true, true, true, true, true, false, true, false, false, false, false, false, false, false, false] rfl rfl (any_of HT_.out (by kernel_rfl)) (fun _ _ _ h => h) (Or.inl ⟨by rfl, ?_⟩) ?_ ?_; rotate_left
       ·intro w'; go_simp; with_reducible rfl
       rotate_left
       ·simp only [Act.put, List.setIfInBounds_toArray, List.set_cons_zero, List.set_cons_succ, i64_w, i32_w]; rfl
       refine pure_ (i := 8) (N := some 29) (v := ?_) (a' := ?_) #[true, true, true, true, true, true, false, true, true, false, false, false, false, false, false, false] rfl rfl (any_of HT_.out (by kernel_rfl)) (fun _ _ _ h => h) (Or.inl ⟨by rfl, ?_⟩) ?_ ?_; rotate_left
       ·intro w'; go_simp; with_reducible rfl
       rotate_left
       ·simp only [Act.put, List.setIfInBounds_toArray, List.set_cons_zero, List.set_cons_succ, i64_w, i32_w]; rfl
       refine pure_ (i := 9) (N := some 30) (v := ?_) (a' := ?_) #[true, true, true, true, true, true, false, true, true, true, false, false, false, false, false, false] rfl rfl (any_of HT_.out (by kernel_rfl)) (fun _ _ _ h => h) (Or.inl ⟨by rfl, ?_⟩) ?_ ?_; rotate_left
       ·intro w'; go_simp; with_reducible rfl
       rotate_left
       ·simp only [Act.put, List.setIfInBounds_toArray, List.set_cons_zero, List.set_cons_succ, i64_w, i32_w]; rfl
       refine pure_ (i := 10) (N := some 31) (v := ?_) (a' := ?_) #[true, true, true, true, true, true, false, true, true, true, true, false, false, false, false, false] rfl rfl (any_of HT_.out (by kernel_rfl)) (fun _ _ _ h => h) (Or.inl ⟨by rfl, ?_⟩) ?_ ?_; rotate_left
       ·intro w'; go_simp; with_reducible rfl
       rotate_left
       ·simp only [Act.put, List.setIfInBounds_toArray, List.set_cons_zero, List.set_cons_succ, i64_w, i32_w]; rfl
       refine take_ (i := 6) (N := some 27) (v := ?_) (a' := ?_) #[true, true, true, true, true, true, true, true, true, true, true, false, false, false, false, false] rfl rfl (take_ofW HT_.out HW_.out (by kernel_rfl)) (fun _ _ _ h => h) (Or.inl ⟨by rfl, ?_⟩) hHeld ?_ ?_; rotate_left
       ·rintro w' ⟨s0, s1, s2, s3, s4, s5, s6, s7⟩
        go_simp
        with_reducible rfl
       rotate_left
       ·simp only [Act.put, List.setIfInBounds_toArray, List.set_cons_zero, List.set_cons_succ, i64_w, i32_w]; rfl
       refine take_ (i := 11) (N := some 32) (v := ?_) (a' := ?_) #[true, true, true, true, true, true, true, true, true, true, true, true, false, false, false, false] rfl rfl (take_ofW HT_.out HW_.out (by kernel_rfl)) (fun _ _ _ h => h) (Or.inl ⟨by rfl, ?_⟩) hHeld ?_ ?_; rotate_left
       ·rintro w' ⟨s0, s1, s2, s3, s4, s5, s6, s7⟩
        go_simp
        with_reducible rfl
       rotate_left
       ·simp only [Act.put, List.setIfInBounds_toArray, List.set_cons_zero, List.set_cons_succ, i64_w, i32_w]; rfl
       refine one_ (i := 12) (N := some 33) #[true, true, true, true, true, true, true, true, true, true, true, true, true, false, false, false] rfl rfl (one_of HT_.out (by kernel_rfl)) (by decide) (fun K hK => ?_)
       refine goes_ Try.func112 (by kernel_rfl) rfl #[.pointer (some ⟨g, 0, none⟩), .int .i64 ((rd_T30 l1 x8_1).f1), .bool ((rd_T30 l1 x8_1).f2)] (by rfl) rfl rfl zz21 ?_
       with_reducible refine (spec_l2Of.calls k1 g s0_0 x1001_1 x1002_1 ((rd_T30 l1 x8_1).f1) ((rd_T30 l1 x8_1).f2) t538 t539 t540 t541 t542 w0 _ ?z1 ?z2 A9.out).mono ?_
       (case z1 => exact zz0)
       (case z2 => exact zz1)
       rintro e w12 ⟨rfl, hi, hb, hk⟩
       have HS0_ := keep_cell hk (hHeld.1) (by first | (rw [add_block]; exact hne536_0) | (show (Addr.add _ _).block ≠ _; rw [add_block]; exact hne536_0) | exact hne536_0 | (dsimp only; exact hne536_0) | (dsimp only; rw [add_block]; exact hne536_0))
       have HS1_ := keep_cell hk (hHeld.2.1) (by first | (rw [add_block]; exact hne536_1) | (show (Addr.add _ _).block ≠ _; rw [add_block]; exact hne536_1) | exact hne536_1 | (dsimp only; exact hne536_1) | (dsimp only; rw [add_block]; exact hne536_1))
       have HS2_ := keep_cell hk (hHeld.2.2.1) (by first | (rw [add_block]; exact hne536_2) | (show (Addr.add _ _).block ≠ _; rw [add_block]; exact hne536_2) | exact hne536_2 | (dsimp only; exact hne536_2) | (dsimp only; rw [add_block]; exact hne536_2))
       have HS3_ := keep_cell hk (hHeld.2.2.2.1) (by first | (rw [add_block]; exact hne536_3) | (show (Addr.add _ _).block ≠ _; rw [add_block]; exact hne536_3) | exact hne536_3 | (dsimp only; exact hne536_3) | (dsimp only; rw [add_block]; exact hne536_3))
       have HS4_ := keep_cell hk (hHeld.2.2.2.2.1) (by first | (rw [add_block]; exact hne537_0) | (show (Addr.add _ _).block ≠ _; rw [add_block]; exact hne537_0) | exact hne537_0 | (dsimp only; exact hne537_0) | (dsimp only; rw [add_block]; exact hne537_0))
       have HS5_ := keep_cell hk (hHeld.2.2.2.2.2.1) (by first | (rw [add_block]; exact hne537_1) | (show (Addr.add _ _).block ≠ _; rw [add_block]; exact hne537_1) | exact hne537_1 | (dsimp only; exact hne537_1) | (dsimp only; rw [add_block]; exact hne537_1))
       have HS6_ := keep_cell hk (hHeld.2.2.2.2.2.2.1) (by first | (rw [add_block]; exact hne537_2) | (show (Addr.add _ _).block ≠ _; rw [add_block]; exact hne537_2) | exact hne537_2 | (dsimp only; exact hne537_2) | (dsimp only; rw [add_block]; exact hne537_2))
       have HS7_ := keep_cell hk (hHeld.2.2.2.2.2.2.2) (by first | (rw [add_block]; exact hne537_3) | (show (Addr.add _ _).block ≠ _; rw [add_block]; exact hne537_3) | exact hne537_3 | (dsimp only; exact hne537_3) | (dsimp only; rw [add_block]; exact hne537_3))
       refine ⟨_, rfl, ?_⟩
       have n0_ := zA (Kd.R_mono (Kd.R_keep (IsS102.apart (show IsS102 w0 _ g s0_0 x1001_1 x1002_1 from zz0) (zr HO_7) (by decide)) hk (fun _ h => h.2)) (fun _ h => h.1))
       have n1_ := zT hk
       have n2_ := zA hb
       have n3_ := zA hi
       clear HO_7 HK HB HI0
       have HO_7 := n0_; have HK := n1_; have HB := n2_; have HI0 := n3_
       clear n0_ n1_ n2_ n3_
       (try clear hb)
       (try clear hb2)
       (try clear hk)
       (try clear hi)
       refine hK.out _ _ ⟨HS0_, HS1_, HS2_, HS3_, HS4_, HS5_, HS6_, HS7_⟩ (fun hHeld => ?_)
       clear hK K
       refine norm_ (a' := ?_) ?_ ?_; rotate_left
       ·show Act.put _ (some 33) _ = _
        simp only [Act.put, List.setIfInBounds_toArray, List.set_cons_zero, List.set_cons_succ, i64_w, i32_w]
        rfl
       refine last_ (i := 13) (N := some 34) #[true, true, true, true, true, true, true, true, true, true, true, true, true, true, false, false] rfl rfl (one_of HT_.out (by kernel_rfl)) (by decide) (fun K hK => ?_)
       refine value_ (w1 := ?_) (v := ?_) (by rfl) rfl ?_ ?_
       rotate_left 2
       ·go_simp
        constructor
        ·rfl
        ·rfl
       refine hK.out _ _ ?_
       clear hK K
       refine norm_ (a' := ?_) ?_ ?_; rotate_left
       ·show Act.put _ (some 34) _ = _
        simp only [Act.put, List.setIfInBounds_toArray, List.set_cons_zero, List.set_cons_succ, i64_w, i32_w]
        rfl
       refine last_ (i := 14) (N := some 35) #[true, true, true, true, true, true, true, true, true, true, true, true, true, true, true, false] rfl rfl (one_of HT_.out (by kernel_rfl)) (by decide) (fun K hK => ?_)
       refine Kd.R_append_step k32 w.heap.size (by rfl) (.tmp 21) (.tmp 34) 58 32 (.agg #[(.int .i64 0), (.int .i64 0), (.string ⟨#[]⟩)]) 32 rfl Try.underlying58 info32 rfl (by decide) (by omega) u7 x7_1 (⟨t538, t539, t540⟩ : S32) [.int .i64 t538, .int .i64 t539, .string t540] (fun _ => True) (fun _ => False) rfl rfl ?aP (fun _ hk => hk.elim) ?aF ?aO (Below.refl _ _) ?aS ?aL ?_
       (case aP => exact k32_mkM _ _ _ (⟨t538, t539, t540⟩ : S32))
       (case aF => exact (fun _ _ => trivial))
       (case aO => exact (zr HO_7))
       (case aS => exact (keep_size (w := w) (g := g) (row := none) zf))
       (case aL => have := LMc10.out; omega)
       intro v544 w13 ho hb hg hat
       rw [← Ny543.out] at ho
       have n0_ := zA (IsS102.grown zz0 hg (IsS102.own_ne HI0.out HO_7.out (by decide)))
       have n1_ := zA (below_weaken zz1 HL.out hb)
       have n2_ := zA (KeepBut.trans zf (KeepBut.of_grown hg g) (Kd.R_base2 HO_7.out))
       have n3_ := zA ho
       clear HI0 HB HK HO_7
       have HI0 := n0_; have HB := n1_; have HK := n2_; have HO545 := n3_
       clear n0_ n1_ n2_ n3_ ho hb hg hat
       refine hK.out _ _ ?_
       clear hK K
       refine norm_ (a' := ?_) ?_ ?_; rotate_left
       ·show Act.put _ (some 35) _ = _
        simp only [Act.put, List.setIfInBounds_toArray, List.set_cons_zero, List.set_cons_succ, i64_w, i32_w]
        rfl
       refine pure_ (i := 15) (N := some 7) (v := ?_) (a' := ?_) #[true, true, true, true, true, true, true, true, true, true, true, true, true, true, true, true] rfl rfl (any_of HT_.out (by kernel_rfl)) (fun _ _ _ h => h) (Or.inl ⟨by rfl, ?_⟩) ?_ ?_; rotate_left
       ·intro w'; go_simp; with_reducible rfl
       rotate_left
       ·simp only [Act.put, List.setIfInBounds_toArray, List.set_cons_zero, List.set_cons_succ, i64_w, i32_w]; rfl
       refine done_ (done_of HT_.out (by kernel_rfl)) ?_
       try go_wp2
       go_roundg k1
       case measure => have := HK1.out; omega
       case rel => exact ⟨(y543), (wrap64 (x8_1 + 1)), (t541), (t542), zx, H', ⟨zz41⟩, ⟨zr HO545⟩, ⟨zz0⟩, ⟨zf⟩, ⟨zz1⟩⟩
      ·rw [if_neg c10] at H
       exact absurd H (by simp)
     ·rw [if_neg c8] at H
      exact absurd H (by simp)
    ·rw [if_neg c7] at H
     have c7b0 : decide (x8_1 < (l1.length : Int)) = false := decide_eq_false c7
     clear c7
     simp only [Option.some.injEq, Prod.mk.injEq] at H
     obtain ⟨rfl, rfl, rfl⟩ := H
     go_wp2
     go_ret
     exact ⟨_, zw, zr HO_7, zz0, zz1, zf⟩
   ·rw [if_neg c6] at H
    have c6b0 : decide (x8_1 < a2) = false := decide_eq_false c6
    clear c6
    simp only [Option.some.injEq, Prod.mk.injEq] at H
    obtain ⟨rfl, rfl, rfl⟩ := H
    go_wp2
    go_ret
    exact ⟨_, zw, zr HO_7, zz0, zz1, zf⟩

/-! ### spec_l2Draw: function 111 -/
def spec_l2Draw.f (k : Nat) (s0_0 : List Int) (s0_1 : Int) (s0_2 : Int) : Option (Int × Int × ByteArray × Int × Int) := (spec_l1Below.f s0_0 s0_1 s0_2 4).bind fun bt547 => ((spec_l2Of.f k s0_0 bt547.2.1 bt547.2.2 (wrap64 (1 + bt547.1)) true).bind fun bt550 => (some (bt550.1, bt550.2.1, bt550.2.2.1, bt550.2.2.2.1, bt550.2.2.2.2)))
theorem spec_l2Draw.mono : ∀ a0 a1 a2 k, LeO (spec_l2Draw.f k a0 a1 a2) (spec_l2Draw.f (k + 1) a0 a1 a2) := by
  intro a0 a1 a2 k
  unfold spec_l2Draw.f
  repeat' first
      | (with_reducible exact spec_l2Of.mono _ _ _ _ _ _)
      | (with_reducible exact LeO.refl _)
      | (with_reducible exact LeO.none _)
      | (with_reducible refine LeO.ite ?_ ?_)
      | (with_reducible refine LeO.bind ?_ (fun _ => ?_))
      | exact spec_l2Of.mono _ _ _ _ _ _
      | exact LeO.none _
      | refine LeO.ite ?_ ?_
      | refine LeO.bind ?_ (fun _ => ?_)
set_option maxHeartbeats 8000000 in
set_option maxRecDepth 100000 in
theorem spec_l2Draw.calls (k : Nat) (g : Nat) (s0_0 : List Int) (s0_1 : Int) (s0_2 : Int) (r1 : Int) (r2 : Int) (r3 : ByteArray) (r4 : Int) (r5 : Int) (w0 w : World) (hI : IsS102 w0 w g s0_0 s0_1 s0_2) (hB : Below w0.heap.size w0 w) (h : spec_l2Draw.f k s0_0 s0_1 s0_2 = some (r1, r2, r3, r4, r5)) :
  Calls Try.prog 111 #[.pointer (some ⟨g, 0, none⟩)] w fun e w' => e = .returned (.agg #[.int .i64 r1, .int .i64 r2, .string r3]) ∧ IsS102 w0 w' g s0_0 r4 r5 ∧ Below w0.heap.size w0 w' ∧ KeepBut w w' g none := by
 have hu32 := Try.underlying32
 have HI0 := zA hI
 have HK := zA (KeepBut.refl w g none)
 have HL := zA hB.size
 clear hI
 have HW0 := zA hB.size
 have HB := zA hB
 clear hB
 have H : ((spec_l1Below.f s0_0 s0_1 s0_2 4).bind fun bt547 => ((spec_l2Of.f k s0_0 bt547.2.1 bt547.2.2 (wrap64 (1 + bt547.1)) true).bind fun bt550 => (some (bt550.1, bt550.2.1, bt550.2.2.1, bt550.2.2.2.1, bt550.2.2.2.2)))) = some (r1, r2, r3, r4, r5) := h
 clear h
 replace H := zI H
 obtain ⟨⟨t547, t548, t549⟩, A2, H⟩ := H
 try dsimp only at H
 replace H := zI H
 obtain ⟨⟨t550, t551, t552, t553, t554⟩, A3, H⟩ := H
 try dsimp only at H
 simp only [Option.some.injEq, Prod.mk.injEq] at H
 obtain ⟨rfl, rfl, rfl, rfl, rfl⟩ := H
 go_enter Try.func111, Try.ntmps111
 go_wp2_with (first | ((with_reducible refine zt 2 ?_); refine zn #[.int .i64 0, .int .i64 0, .string (⟨#[]⟩ : ByteArray)] 32 ?_; intro gb546 hg w4 hbox hb; replace HB := zS hb zz1; have BK546 := zA hbox; have GW546 := zA ((zz26 : w.heap.size ≤ gb546)); have GE546 := zA ((Nat.le_trans HW0.out (zz26 : w.heap.size ≤ gb546) : w0.heap.size ≤ gb546)); replace HK := zT (KeepBut.of_below hb g none); have NB0_546 := zA ((zz48 : g ≠ gb546)); have NB546_0 := zA ((zz49 : gb546 ≠ g)); replace HI0 := zA (IsS102.below zz0 hb); clear hb hbox hg) | ((with_reducible refine zg 107 ?_); refine gL (some 5) Try.func107 #[.pointer (some ⟨g, 0, none⟩), .int .i64 4] ?_; (with_reducible refine (spec_l1Below.calls g s0_0 s0_1 s0_2 4 t547 t548 t549 w0 _ ?z1 ?z2 A2.out).mono ?_); (case z1 => exact zz37); (case z2 => exact zz38); rintro e w5 ⟨rfl, hi, hb, hk⟩; refine ⟨_, rfl, ?_⟩; replace BK546 := zV hk BK546 NB546_0; replace HK := zT hk (zf1 GW546); replace HB := zA hb; replace HI0 := zA hi; clear hb hk hi) | ((with_reducible refine zg 112 ?_); refine gL (some 7) Try.func112 #[.pointer (some ⟨g, 0, none⟩), .int .i64 (wrap64 (1 + t547)), .bool true] ?_; (with_reducible refine (spec_l2Of.calls k g s0_0 t548 t549 (wrap64 (1 + t547)) true t550 t551 t552 t553 t554 w0 _ ?z1 ?z2 A3.out).mono ?_); (case z1 => exact zz37); (case z2 => exact zz38); rintro e w6 ⟨rfl, hi, hb, hk⟩; refine ⟨_, rfl, ?_⟩; replace BK546 := zV hk BK546 NB546_0; replace HK := zT hk (zf1 GW546); replace HB := zA hb; replace HI0 := zA hi; clear hb hk hi; have hnb7 := NB546_0.out; have hnc7 := NB0_546.out; obtain ⟨hcz8_0, hcz8_1, hcz8_2, hfz8_0, hfz8_1, hfz8_2⟩ := zh3 BK546))
 refine bodyPost_ret (results_cell_row rfl _ _ gb546 32 #[.int .i64 t550, .int .i64 t551, .string t552] (0, 0) _ rfl (by (with_reducible repeat (first | refine blk_drewN ?_ _ | refine blk_drew ?_ | refine blk_alloc ?_ _)); refine blk_put (cs := #[.int .i64 t550, .int .i64 t551, .string (⟨#[]⟩ : ByteArray)]) ?_ 2 _ rfl; (with_reducible repeat (first | refine blk_drewN ?_ _ | refine blk_drew ?_ | refine blk_alloc ?_ _)); refine blk_put (cs := #[.int .i64 t550, .int .i64 0, .string (⟨#[]⟩ : ByteArray)]) ?_ 1 _ rfl; (with_reducible repeat (first | refine blk_drewN ?_ _ | refine blk_drew ?_ | refine blk_alloc ?_ _)); refine blk_put (cs := #[.int .i64 0, .int .i64 0, .string (⟨#[]⟩ : ByteArray)]) ?_ 0 _ rfl; (with_reducible repeat (first | refine blk_drewN ?_ _ | refine blk_drew ?_ | refine blk_alloc ?_ _)); exact BK546.out) Try.underlying32 rfl (by kernel_rfl)) rfl ?_
 exact ⟨zw, zz37, zz38, zf1 GW546⟩

/-! ### spec_l1Num: function 113 -/
def spec_l1Num.f (s0_0 : List Int) (s0_1 : Int) (s0_2 : Int) : Option (Int × Int × Int) := (spec_l1Below.f s0_0 s0_1 s0_2 100000).bind fun bt555 => ((spec_l1Below.f s0_0 bt555.2.1 bt555.2.2 100000).bind fun bt558 => ((spec_l1Int.f s0_0 bt558.2.1 bt558.2.2 (([0, 1, (-1), 63, 127, 128, 255, 256, 65535, 65536, 2147483647, (-2147483648), 2147483648, (-2147483649), 1000000000000000, (-1000000000000000), 1000000000000001, 9223372036854775807, (-9223372036854775808), bt555.1, wrap64 (-bt558.1)] : List Int))).bind fun bt564 => (some (bt564.1, bt564.2.1, bt564.2.2))))
set_option maxHeartbeats 8000000 in
set_option maxRecDepth 100000 in
theorem spec_l1Num.calls (g : Nat) (s0_0 : List Int) (s0_1 : Int) (s0_2 : Int) (r1 : Int) (r2 : Int) (r3 : Int) (w0 w : World) (hI : IsS102 w0 w g s0_0 s0_1 s0_2) (hB : Below w0.heap.size w0 w) (h : spec_l1Num.f s0_0 s0_1 s0_2 = some (r1, r2, r3)) :
  Calls Try.prog 113 #[.pointer (some ⟨g, 0, none⟩)] w fun e w' => e = .returned (.int .i64 r1) ∧ IsS102 w0 w' g s0_0 r2 r3 ∧ Below w0.heap.size w0 w' ∧ KeepBut w w' g none := by
 have HI0 := zA hI
 have HK := zA (KeepBut.refl w g none)
 have HL := zA hB.size
 clear hI
 have HW0 := zA hB.size
 have HB := zA hB
 clear hB
 have H : ((spec_l1Below.f s0_0 s0_1 s0_2 100000).bind fun bt555 => ((spec_l1Below.f s0_0 bt555.2.1 bt555.2.2 100000).bind fun bt558 => ((spec_l1Int.f s0_0 bt558.2.1 bt558.2.2 (([0, 1, (-1), 63, 127, 128, 255, 256, 65535, 65536, 2147483647, (-2147483648), 2147483648, (-2147483649), 1000000000000000, (-1000000000000000), 1000000000000001, 9223372036854775807, (-9223372036854775808), bt555.1, wrap64 (-bt558.1)] : List Int))).bind fun bt564 => (some (bt564.1, bt564.2.1, bt564.2.2))))) = some (r1, r2, r3) := h
 clear h
 replace H := zI H
 obtain ⟨⟨t555, t556, t557⟩, A2, H⟩ := H
 try dsimp only at H
 replace H := zI H
 obtain ⟨⟨t558, t559, t560⟩, A3, H⟩ := H
 try dsimp only at H
 obtain ⟨y561, hy561⟩ : ∃ y_ : List Int, y_ = (([0, 1, (-1), 63, 127, 128, 255, 256, 65535, 65536, 2147483647, (-2147483648), 2147483648, (-2147483649), 1000000000000000, (-1000000000000000), 1000000000000001, 9223372036854775807, (-9223372036854775808), t555, wrap64 (-t558)] : List Int)) := ⟨_, rfl⟩
 replace H : ((spec_l1Int.f s0_0 t559 t560 y561).bind fun bt564 => (some (bt564.1, bt564.2.1, bt564.2.2))) = some (r1, r2, r3) := by first | (rw [hy561]; with_reducible exact H) | (have H2_ := (Option.bind_some _ _).symm.trans H; rw [hy561]; with_reducible exact H2_) | (have H2_ := (Option.bind_some _ _).symm.trans H; with_reducible exact H2_) | with_reducible exact H | (rw [hy561]; exact H) | exact H
 have Ny561 := zA hy561
 clear hy561
 replace H := zI H
 obtain ⟨⟨t564, t565, t566⟩, A4, H⟩ := H
 try dsimp only at H
 simp only [Option.some.injEq, Prod.mk.injEq] at H
 obtain ⟨rfl, rfl, rfl⟩ := H
 go_enter Try.func113, Try.ntmps113
 go_wp2_with (first | ((with_reducible refine zg 107 ?_); refine gL (some 5) Try.func107 #[.pointer (some ⟨g, 0, none⟩), .int .i64 100000] ?_; (with_reducible refine (spec_l1Below.calls g s0_0 s0_1 s0_2 100000 t555 t556 t557 w0 _ ?z1 ?z2 A2.out).mono ?_); (case z1 => exact zz0); (case z2 => exact zz1); rintro e w5 ⟨rfl, hi, hb, hk⟩; refine ⟨_, rfl, ?_⟩; replace HK := zT hk; replace HB := zA hb; replace HI0 := zA hi; clear hb hk hi) | ((with_reducible refine zg 107 ?_); refine gL (some 7) Try.func107 #[.pointer (some ⟨g, 0, none⟩), .int .i64 100000] ?_; (with_reducible refine (spec_l1Below.calls g s0_0 t556 t557 100000 t558 t559 t560 w0 _ ?z1 ?z2 A3.out).mono ?_); (case z1 => exact zz0); (case z2 => exact zz1); rintro e w6 ⟨rfl, hi, hb, hk⟩; refine ⟨_, rfl, ?_⟩; replace HK := zT hk; replace HB := zA hb; replace HI0 := zA hi; clear hb hk hi) | ((with_reducible refine zt 9 ?_); refine Kd.R_lit (Kd.int .i64) _ 3 ?hg (N := 9) ?hd (xs := ([0, 1, (-1), 63, 127, 128, 255, 256, 65535, 65536, 2147483647, (-2147483648), 2147483648, (-2147483649), 1000000000000000, (-1000000000000000), 1000000000000001, 9223372036854775807, (-9223372036854775808), t555, wrap64 (-t558)] : List Int)) (inner := [.int .i64 0, .int .i64 1, .int .i64 (-1), .int .i64 63, .int .i64 127, .int .i64 128, .int .i64 255, .int .i64 256, .int .i64 65535, .int .i64 65536, .int .i64 2147483647, .int .i64 (-2147483648), .int .i64 2147483648, .int .i64 (-2147483649), .int .i64 1000000000000000, .int .i64 (-1000000000000000), .int .i64 1000000000000001, .int .i64 9223372036854775807, .int .i64 (-9223372036854775808), .int .i64 t555, .int .i64 (wrap64 (-t558))]) (ok := fun _ => True) (okp := fun _ => True) ?hr ?hp (fun _ hk => hk) trivial (Below.refl _ _) (Nat.le_refl _) (by simp) ?_; (case hd => rfl); (case hg => rfl); (case hr => exact zz25); (case hp => exact (Reps.one (show Kd.M (Kd.int .i64) _ _ _ 0 [.int .i64 0] from rfl) (Reps.one (show Kd.M (Kd.int .i64) _ _ _ 1 [.int .i64 1] from rfl) (Reps.one (show Kd.M (Kd.int .i64) _ _ _ (-1) [.int .i64 (-1)] from rfl) (Reps.one (show Kd.M (Kd.int .i64) _ _ _ 63 [.int .i64 63] from rfl) (Reps.one (show Kd.M (Kd.int .i64) _ _ _ 127 [.int .i64 127] from rfl) (Reps.one (show Kd.M (Kd.int .i64) _ _ _ 128 [.int .i64 128] from rfl) (Reps.one (show Kd.M (Kd.int .i64) _ _ _ 255 [.int .i64 255] from rfl) (Reps.one (show Kd.M (Kd.int .i64) _ _ _ 256 [.int .i64 256] from rfl) (Reps.one (show Kd.M (Kd.int .i64) _ _ _ 65535 [.int .i64 65535] from rfl) (Reps.one (show Kd.M (Kd.int .i64) _ _ _ 65536 [.int .i64 65536] from rfl) (Reps.one (show Kd.M (Kd.int .i64) _ _ _ 2147483647 [.int .i64 2147483647] from rfl) (Reps.one (show Kd.M (Kd.int .i64) _ _ _ (-2147483648) [.int .i64 (-2147483648)] from rfl) (Reps.one (show Kd.M (Kd.int .i64) _ _ _ 2147483648 [.int .i64 2147483648] from rfl) (Reps.one (show Kd.M (Kd.int .i64) _ _ _ (-2147483649) [.int .i64 (-2147483649)] from rfl) (Reps.one (show Kd.M (Kd.int .i64) _ _ _ 1000000000000000 [.int .i64 1000000000000000] from rfl) (Reps.one (show Kd.M (Kd.int .i64) _ _ _ (-1000000000000000) [.int .i64 (-1000000000000000)] from rfl) (Reps.one (show Kd.M (Kd.int .i64) _ _ _ 1000000000000001 [.int .i64 1000000000000001] from rfl) (Reps.one (show Kd.M (Kd.int .i64) _ _ _ 9223372036854775807 [.int .i64 9223372036854775807] from rfl) (Reps.one (show Kd.M (Kd.int .i64) _ _ _ (-9223372036854775808) [.int .i64 (-9223372036854775808)] from rfl) (Reps.one (show Kd.M (Kd.int .i64) _ _ _ t555 [.int .i64 t555] from rfl) (Reps.one (show Kd.M (Kd.int .i64) _ _ _ (wrap64 (-t558)) [.int .i64 (wrap64 (-t558))] from rfl) (Reps.none _ _))))))))))))))))))))))); intro v562 w7 ho8 hb hg_ hnew_; clear hg_ hnew_; (first | rw [← Ny561.out] at ho8 | (simp only [Int.reduceToNat] at ho8; rw [← Ny561.out] at ho8)); have HO563 := zA (Kd.R_lower ho8 (keep_size (w := w) (g := g) (row := none) zf)); replace HK := zT (KeepBut.of_below hb g none); replace HB := zS hb zz1; replace HI0 := zA (IsS102.below zz0 hb); clear hb ho8; obtain ⟨Ao9, co9, eo9⟩ := Kd.R_slice HO563.out; subst eo9) | ((with_reducible refine zg 108 ?_); refine gL (some 10) Try.func108 #[.pointer (some ⟨g, 0, none⟩), .slice Ao9 y561.length co9] ?_; (with_reducible refine (spec_l1Int.calls g s0_0 t559 t560 _ _ y561 t564 t565 t566 w0 _ ?z1 ?z2 ?z3 ?z4 ?z5 A4.out).mono ?_); (case z1 => exact zz0); (case z2 => exact zz1); (case z3 => exact ze HO563); (case z4 => exact zl HO563); (case z5 => exact far_slice (IsS102.own_ne HI0.out HO563.out (by decide))); rintro e w10 ⟨rfl, hi, hb, hk⟩; refine ⟨_, rfl, ?_⟩; replace HO563 := zA (Kd.R_mono (Kd.R_keep (IsS102.apart (show IsS102 w0 _ g s0_0 t559 t560 from zz0) (zr HO563) (by decide)) hk (fun _ h => h.2)) (fun _ h => h.1)); replace HK := zT hk; replace HB := zA hb; replace HI0 := zA hi; clear hb hk hi))
 go_ret
 exact ⟨zw, zz0, zz1, zf⟩

/-! ### spec_l2Any: function 93 -/
def spec_l2Any.f (k : Nat) (s0_0 : List Int) (s0_1 : Int) (s0_2 : Int) : Option (Int × Int × ByteArray × Int × Int) := (spec_l2Draw.f k s0_0 s0_1 s0_2).bind fun bt568 => ((spec_l1Below.f s0_0 bt568.2.2.2.1 bt568.2.2.2.2 10).bind fun bt574 => (if bt574.1 = 0 then ((spec_l1Below.f s0_0 bt574.2.1 bt574.2.2 6).bind fun bt577 => (some (bt577.1, bt568.2.1, bt568.2.2.1, bt577.2.1, bt577.2.2))) else (if bt574.1 = 1 then ((spec_l1Num.f s0_0 bt574.2.1 bt574.2.2).bind fun bt580 => (some (bt568.1, bt580.1, bt568.2.2.1, bt580.2.1, bt580.2.2))) else (if bt574.1 = 2 then ((spec_l1Below.f s0_0 bt574.2.1 bt574.2.2 2).bind fun bt583 => (if 0 ≤ (wrap64 (30 + bt583.1)) then (if (wrap64 (30 + bt583.1) : Int).toNat ≤ 281474976710656 then (some (bt568.1, bt568.2.1, strOfNums (List.replicate (wrap64 (30 + bt583.1) : Int).toNat 0), bt583.2.1, bt583.2.2)) else (none)) else (none))) else (if bt574.1 = 3 then ((spec_l1Str.f s0_0 bt574.2.1 bt574.2.2 (([(⟨#[105, 116, 39, 115]⟩ : ByteArray), (⟨#[97, 32, 98]⟩ : ByteArray), (⟨#[126]⟩ : ByteArray), (⟨#[127]⟩ : ByteArray)] : List ByteArray))).bind fun bt592 => (some (bt568.1, bt568.2.1, bt592.1, bt592.2.1, bt592.2.2))) else (some (bt568.1, bt568.2.1, bt568.2.2.1, bt574.2.1, bt574.2.2)))))))
theorem spec_l2Any.mono : ∀ a0 a1 a2 k, LeO (spec_l2Any.f k a0 a1 a2) (spec_l2Any.f (k + 1) a0 a1 a2) := by
  intro a0 a1 a2 k
  unfold spec_l2Any.f
  repeat' first
      | (with_reducible exact spec_l2Draw.mono _ _ _ _)
      | (with_reducible exact LeO.refl _)
      | (with_reducible exact LeO.none _)
      | (with_reducible refine LeO.ite ?_ ?_)
      | (with_reducible refine LeO.bind ?_ (fun _ => ?_))
      | exact spec_l2Draw.mono _ _ _ _
      | exact LeO.none _
      | refine LeO.ite ?_ ?_
      | refine LeO.bind ?_ (fun _ => ?_)
set_option maxHeartbeats 8000000 in
set_option maxRecDepth 100000 in
theorem spec_l2Any.calls (k : Nat) (g : Nat) (s0_0 : List Int) (s0_1 : Int) (s0_2 : Int) (r1 : Int) (r2 : Int) (r3 : ByteArray) (r4 : Int) (r5 : Int) (w0 w : World) (hI : IsS102 w0 w g s0_0 s0_1 s0_2) (hB : Below w0.heap.size w0 w) (h : spec_l2Any.f k s0_0 s0_1 s0_2 = some (r1, r2, r3, r4, r5)) :
  Calls Try.prog 93 #[.pointer (some ⟨g, 0, none⟩)] w fun e w' => e = .returned (.agg #[.int .i64 r1, .int .i64 r2, .string r3]) ∧ IsS102 w0 w' g s0_0 r4 r5 ∧ Below w0.heap.size w0 w' ∧ KeepBut w w' g none := by
 have hu32 := Try.underlying32
 have HI0 := zA hI
 have HK := zA (KeepBut.refl w g none)
 have HL := zA hB.size
 clear hI
 have HW0 := zA hB.size
 have HB := zA hB
 clear hB
 have H : ((spec_l2Draw.f k s0_0 s0_1 s0_2).bind fun bt568 => ((spec_l1Below.f s0_0 bt568.2.2.2.1 bt568.2.2.2.2 10).bind fun bt574 => (if bt574.1 = 0 then ((spec_l1Below.f s0_0 bt574.2.1 bt574.2.2 6).bind fun bt577 => (some (bt577.1, bt568.2.1, bt568.2.2.1, bt577.2.1, bt577.2.2))) else (if bt574.1 = 1 then ((spec_l1Num.f s0_0 bt574.2.1 bt574.2.2).bind fun bt580 => (some (bt568.1, bt580.1, bt568.2.2.1, bt580.2.1, bt580.2.2))) else (if bt574.1 = 2 then ((spec_l1Below.f s0_0 bt574.2.1 bt574.2.2 2).bind fun bt583 => (if 0 ≤ (wrap64 (30 + bt583.1)) then (if (wrap64 (30 + bt583.1) : Int).toNat ≤ 281474976710656 then (some (bt568.1, bt568.2.1, strOfNums (List.replicate (wrap64 (30 + bt583.1) : Int).toNat 0), bt583.2.1, bt583.2.2)) else (none)) else (none))) else (if bt574.1 = 3 then ((spec_l1Str.f s0_0 bt574.2.1 bt574.2.2 (([(⟨#[105, 116, 39, 115]⟩ : ByteArray), (⟨#[97, 32, 98]⟩ : ByteArray), (⟨#[126]⟩ : ByteArray), (⟨#[127]⟩ : ByteArray)] : List ByteArray))).bind fun bt592 => (some (bt568.1, bt568.2.1, bt592.1, bt592.2.1, bt592.2.2))) else (some (bt568.1, bt568.2.1, bt568.2.2.1, bt574.2.1, bt574.2.2)))))))) = some (r1, r2, r3, r4, r5) := h
 clear h
 replace H := zI H
 obtain ⟨⟨t568, t569, t570, t571, t572⟩, A2, H⟩ := H
 try dsimp only at H
 replace H := zI H
 obtain ⟨⟨t574, t575, t576⟩, A3, H⟩ := H
 try dsimp only at H
 by_cases c4 : t574 = 0
 ·rw [if_pos c4] at H
  have c4b0 : (t574 == 0) = true := beq_iff_eq.mpr c4
  have c4b1 : (t574 != 0) = false := bne_eq_false_iff_eq.mpr c4
  clear c4
  replace H := zI H
  obtain ⟨⟨t577, t578, t579⟩, A5, H⟩ := H
  try dsimp only at H
  simp only [Option.some.injEq, Prod.mk.injEq] at H
  obtain ⟨rfl, rfl, rfl, rfl, rfl⟩ := H
  go_enter Try.func93, Try.ntmps93
  go_wp2_with (first | ((with_reducible refine zt 2 ?_); refine zn #[.int .i64 0, .int .i64 0, .string (⟨#[]⟩ : ByteArray)] 32 ?_; intro gb567 hg w6 hbox hb; replace HB := zS hb zz1; have BK567 := zA hbox; have GW567 := zA ((zz26 : w.heap.size ≤ gb567)); have GE567 := zA ((Nat.le_trans HW0.out (zz26 : w.heap.size ≤ gb567) : w0.heap.size ≤ gb567)); replace HK := zT (KeepBut.of_below hb g none); have NB0_567 := zA ((zz48 : g ≠ gb567)); have NB567_0 := zA ((zz49 : gb567 ≠ g)); replace HI0 := zA (IsS102.below zz0 hb); clear hb hbox hg) | ((with_reducible refine zg 111 ?_); refine gL (some 5) Try.func111 #[.pointer (some ⟨g, 0, none⟩)] ?_; (with_reducible refine (spec_l2Draw.calls k g s0_0 s0_1 s0_2 t568 t569 t570 t571 t572 w0 _ ?z1 ?z2 A2.out).mono ?_); (case z1 => exact zz2); (case z2 => exact zz16); rintro e w7 ⟨rfl, hi, hb, hk⟩; refine ⟨_, rfl, ?_⟩; replace BK567 := zV hk BK567 NB567_0; replace HK := zT hk (zf1 GW567); replace HB := zA hb; replace HI0 := zA hi; clear hb hk hi) | ((with_reducible refine zt 3 ?_); refine zn #[.int .i64 0, .int .i64 0, .string (⟨#[]⟩ : ByteArray)] 32 ?_; intro gb573 hg w8 hbox hb; replace HB := zS hb zz16; have BK573 := zA hbox; have GW573 := zA ((zz36 : w.heap.size ≤ gb573)); have GE573 := zA ((Nat.le_trans HW0.out (zz36 : w.heap.size ≤ gb573) : w0.heap.size ≤ gb573)); replace HK := zT (KeepBut.of_below hb g none) (zf1 GW567); have NB567_573 := zX BK567 hg; have NB573_567 := zY BK567 hg; replace BK567 := zB BK567 hb; have NB0_573 := zA ((zz50 : g ≠ gb573)); have NB573_0 := zA ((zz51 : gb573 ≠ g)); replace HI0 := zA (IsS102.below zz2 hb); clear hb hbox hg; have hnb9 := NB573_567.out; have hnc9 := NB567_573.out; have hnb10 := NB573_0.out; have hnc10 := NB0_573.out; obtain ⟨hcz11_0, hcz11_1, hcz11_2, hfz11_0, hfz11_1, hfz11_2⟩ := zh3 BK573) | ((with_reducible refine zg 107 ?_); refine gL (some 7) Try.func107 #[.pointer (some ⟨g, 0, none⟩), .int .i64 10] ?_; (with_reducible refine (spec_l1Below.calls g s0_0 t571 t572 10 t574 t575 t576 w0 _ ?z1 ?z2 A3.out).mono ?_); (case z1 => exact zz3); (case z2 => exact zz4); rintro e w12 ⟨rfl, hi, hb, hk⟩; refine ⟨_, rfl, ?_⟩; replace BK567 := zA (KeepBut.blk hk (g' := gb567) (o := .cells #[.int .i64 0, .int .i64 0, .string (⟨#[]⟩ : ByteArray)] 32 (0, 0)) zz11 NB567_0.out (by simp)); replace BK573 := zA (KeepBut.blk hk (g' := gb573) (o := .cells #[.int .i64 t568, .int .i64 t569, .string t570] 32 (0, 0)) zz5 NB573_0.out (by simp)); replace HK := zT hk (zf2 GW567 GW573); replace HB := zA hb; replace HI0 := zA hi; clear hb hk hi) | ((with_reducible refine zg 107 ?_); refine gL (some 11) Try.func107 #[.pointer (some ⟨g, 0, none⟩), .int .i64 6] ?_; (with_reducible refine (spec_l1Below.calls g s0_0 t575 t576 6 t577 t578 t579 w0 _ ?z1 ?z2 A5.out).mono ?_); (case z1 => exact zz3); (case z2 => exact zz4); rintro e w13 ⟨rfl, hi, hb, hk⟩; refine ⟨_, rfl, ?_⟩; replace BK567 := zV hk BK567 NB567_0; replace BK573 := zV hk BK573 NB573_0; replace HK := zT hk (zf2 GW567 GW573); replace HB := zA hb; replace HI0 := zA hi; clear hb hk hi; obtain ⟨hcz14_0, hcz14_1, hcz14_2, hfz14_0, hfz14_1, hfz14_2⟩ := zh3 BK573; have hnb15 := NB567_0.out; have hnc15 := NB0_567.out; obtain ⟨hcz16_0, hcz16_1, hcz16_2, hfz16_0, hfz16_1, hfz16_2⟩ := zh3 BK567))
  refine bodyPost_ret (results_cell_row rfl _ _ gb567 32 #[.int .i64 t577, .int .i64 t569, .string t570] (0, 0) _ rfl (by (with_reducible repeat (first | refine blk_drewN ?_ _ | refine blk_drew ?_ | refine blk_alloc ?_ _)); refine blk_put (cs := #[.int .i64 t577, .int .i64 t569, .string (⟨#[]⟩ : ByteArray)]) ?_ 2 _ rfl; (with_reducible repeat (first | refine blk_drewN ?_ _ | refine blk_drew ?_ | refine blk_alloc ?_ _)); refine blk_put (cs := #[.int .i64 t577, .int .i64 0, .string (⟨#[]⟩ : ByteArray)]) ?_ 1 _ rfl; (with_reducible repeat (first | refine blk_drewN ?_ _ | refine blk_drew ?_ | refine blk_alloc ?_ _)); refine blk_put (cs := #[.int .i64 0, .int .i64 0, .string (⟨#[]⟩ : ByteArray)]) ?_ 0 _ rfl; (with_reducible repeat (first | refine blk_drewN ?_ _ | refine blk_drew ?_ | refine blk_alloc ?_ _)); refine blk_far ?_ NB567_573.out _; (with_reducible repeat (first | refine blk_drewN ?_ _ | refine blk_drew ?_ | refine blk_alloc ?_ _)); exact BK567.out) Try.underlying32 rfl (by kernel_rfl)) rfl ?_
  exact ⟨zw, zz3, zz4, zf2 GW567 GW573⟩
 ·rw [if_neg c4] at H
  have c4b0 : (t574 == 0) = false := beq_eq_false_iff_ne.mpr c4
  have c4b1 : (t574 != 0) = true := bne_iff_ne.mpr c4
  by_cases c17 : t574 = 1
  ·rw [if_pos c17] at H
   have c17b0 : (t574 == 1) = true := beq_iff_eq.mpr c17
   have c17b1 : (t574 != 1) = false := bne_eq_false_iff_eq.mpr c17
   clear c17
   replace H := zI H
   obtain ⟨⟨t580, t581, t582⟩, A18, H⟩ := H
   try dsimp only at H
   simp only [Option.some.injEq, Prod.mk.injEq] at H
   obtain ⟨rfl, rfl, rfl, rfl, rfl⟩ := H
   go_enter Try.func93, Try.ntmps93
   go_wp2_with (first | ((with_reducible refine zt 2 ?_); refine zn #[.int .i64 0, .int .i64 0, .string (⟨#[]⟩ : ByteArray)] 32 ?_; intro gb567 hg w19 hbox hb; replace HB := zS hb zz1; have BK567 := zA hbox; have GW567 := zA ((zz26 : w.heap.size ≤ gb567)); have GE567 := zA ((Nat.le_trans HW0.out (zz26 : w.heap.size ≤ gb567) : w0.heap.size ≤ gb567)); replace HK := zT (KeepBut.of_below hb g none); have NB0_567 := zA ((zz48 : g ≠ gb567)); have NB567_0 := zA ((zz49 : gb567 ≠ g)); replace HI0 := zA (IsS102.below zz0 hb); clear hb hbox hg) | ((with_reducible refine zg 111 ?_); refine gL (some 5) Try.func111 #[.pointer (some ⟨g, 0, none⟩)] ?_; (with_reducible refine (spec_l2Draw.calls k g s0_0 s0_1 s0_2 t568 t569 t570 t571 t572 w0 _ ?z1 ?z2 A2.out).mono ?_); (case z1 => exact zz2); (case z2 => exact zz16); rintro e w20 ⟨rfl, hi, hb, hk⟩; refine ⟨_, rfl, ?_⟩; replace BK567 := zV hk BK567 NB567_0; replace HK := zT hk (zf1 GW567); replace HB := zA hb; replace HI0 := zA hi; clear hb hk hi) | ((with_reducible refine zt 3 ?_); refine zn #[.int .i64 0, .int .i64 0, .string (⟨#[]⟩ : ByteArray)] 32 ?_; intro gb573 hg w21 hbox hb; replace HB := zS hb zz16; have BK573 := zA hbox; have GW573 := zA ((zz36 : w.heap.size ≤ gb573)); have GE573 := zA ((Nat.le_trans HW0.out (zz36 : w.heap.size ≤ gb573) : w0.heap.size ≤ gb573)); replace HK := zT (KeepBut.of_below hb g none) (zf1 GW567); have NB567_573 := zX BK567 hg; have NB573_567 := zY BK567 hg; replace BK567 := zB BK567 hb; have NB0_573 := zA ((zz50 : g ≠ gb573)); have NB573_0 := zA ((zz51 : gb573 ≠ g)); replace HI0 := zA (IsS102.below zz2 hb); clear hb hbox hg; have hnb22 := NB573_567.out; have hnc22 := NB567_573.out; have hnb23 := NB573_0.out; have hnc23 := NB0_573.out; obtain ⟨hcz24_0, hcz24_1, hcz24_2, hfz24_0, hfz24_1, hfz24_2⟩ := zh3 BK573) | ((with_reducible refine zg 107 ?_); refine gL (some 7) Try.func107 #[.pointer (some ⟨g, 0, none⟩), .int .i64 10] ?_; (with_reducible refine (spec_l1Below.calls g s0_0 t571 t572 10 t574 t575 t576 w0 _ ?z1 ?z2 A3.out).mono ?_); (case z1 => exact zz3); (case z2 => exact zz4); rintro e w25 ⟨rfl, hi, hb, hk⟩; refine ⟨_, rfl, ?_⟩; replace BK567 := zA (KeepBut.blk hk (g' := gb567) (o := .cells #[.int .i64 0, .int .i64 0, .string (⟨#[]⟩ : ByteArray)] 32 (0, 0)) zz11 NB567_0.out (by simp)); replace BK573 := zA (KeepBut.blk hk (g' := gb573) (o := .cells #[.int .i64 t568, .int .i64 t569, .string t570] 32 (0, 0)) zz5 NB573_0.out (by simp)); replace HK := zT hk (zf2 GW567 GW573); replace HB := zA hb; replace HI0 := zA hi; clear hb hk hi) | ((with_reducible refine zg 113 ?_); refine gL (some 16) Try.func113 #[.pointer (some ⟨g, 0, none⟩)] ?_; (with_reducible refine (spec_l1Num.calls g s0_0 t575 t576 t580 t581 t582 w0 _ ?z1 ?z2 A18.out).mono ?_); (case z1 => exact zz3); (case z2 => exact zz4); rintro e w26 ⟨rfl, hi, hb, hk⟩; refine ⟨_, rfl, ?_⟩; replace BK567 := zV hk BK567 NB567_0; replace BK573 := zV hk BK573 NB573_0; replace HK := zT hk (zf2 GW567 GW573); replace HB := zA hb; replace HI0 := zA hi; clear hb hk hi; obtain ⟨hcz27_0, hcz27_1, hcz27_2, hfz27_0, hfz27_1, hfz27_2⟩ := zh3 BK573; have hnb28 := NB567_0.out; have hnc28 := NB0_567.out; obtain ⟨hcz29_0, hcz29_1, hcz29_2, hfz29_0, hfz29_1, hfz29_2⟩ := zh3 BK567))
   refine bodyPost_ret (results_cell_row rfl _ _ gb567 32 #[.int .i64 t568, .int .i64 t580, .string t570] (0, 0) _ rfl (by (with_reducible repeat (first | refine blk_drewN ?_ _ | refine blk_drew ?_ | refine blk_alloc ?_ _)); refine blk_put (cs := #[.int .i64 t568, .int .i64 t580, .string (⟨#[]⟩ : ByteArray)]) ?_ 2 _ rfl; (with_reducible repeat (first | refine blk_drewN ?_ _ | refine blk_drew ?_ | refine blk_alloc ?_ _)); refine blk_put (cs := #[.int .i64 t568, .int .i64 0, .string (⟨#[]⟩ : ByteArray)]) ?_ 1 _ rfl; (with_reducible repeat (first | refine blk_drewN ?_ _ | refine blk_drew ?_ | refine blk_alloc ?_ _)); refine blk_put (cs := #[.int .i64 0, .int .i64 0, .string (⟨#[]⟩ : ByteArray)]) ?_ 0 _ rfl; (with_reducible repeat (first | refine blk_drewN ?_ _ | refine blk_drew ?_ | refine blk_alloc ?_ _)); refine blk_far ?_ NB567_573.out _; (with_reducible repeat (first | refine blk_drewN ?_ _ | refine blk_drew ?_ | refine blk_alloc ?_ _)); exact BK567.out) Try.underlying32 rfl (by kernel_rfl)) rfl ?_
   exact ⟨zw, zz3, zz4, zf2 GW567 GW573⟩
  ·rw [if_neg c17] at H
   have c17b0 : (t574 == 1) = false := beq_eq_false_iff_ne.mpr c17
   have c17b1 : (t574 != 1) = true := bne_iff_ne.mpr c17
   by_cases c30 : t574 = 2
   ·rw [if_pos c30] at H
    have c30b0 : (t574 == 2) = true := beq_iff_eq.mpr c30
    have c30b1 : (t574 != 2) = false := bne_eq_false_iff_eq.mpr c30
    clear c30
    replace H := zI H
    obtain ⟨⟨t583, t584, t585⟩, A31, H⟩ := H
    try dsimp only at H
    obtain ⟨ji32, hji32⟩ : ∃ j_ : Int, (wrap64 (30 + t583)) = j_ := ⟨_, rfl⟩
    replace H : (if 0 ≤ (ji32) then (if (ji32 : Int).toNat ≤ 281474976710656 then (some (t568, t569, strOfNums (List.replicate (ji32 : Int).toNat 0), t584, t585)) else (none)) else (none)) = some (r1, r2, r3, r4, r5) := by first | (rw [hji32] at H; exact H) | (simp only [hji32] at H ⊢; exact H)
    (try rw [hji32] at A2)
    (try rw [hji32] at A3)
    (try rw [hji32] at A31)
    have hji32w : (IntKind.i64.wrap (30 + t583)) = ji32 := (i64_w _).trans hji32
    by_cases c33 : 0 ≤ (ji32)
    ·rw [if_pos c33] at H
     have c33b0 := eq_true c33
     have c33b1 : decide (0 ≤ (ji32)) = true := decide_eq_true c33
     clear c33
     by_cases c34 : (ji32 : Int).toNat ≤ 281474976710656
     ·rw [if_pos c34] at H
      have c34b0 := eq_true c34
      have c34b1 : decide ((ji32 : Int).toNat ≤ 281474976710656) = true := decide_eq_true c34
      clear c34
      obtain ⟨y586, hy586⟩ : ∃ y_ : List Int, y_ = (List.replicate (ji32 : Int).toNat 0) := ⟨_, rfl⟩
      replace H : (some (t568, t569, strOfNums y586, t584, t585)) = some (r1, r2, r3, r4, r5) := by first | (rw [hy586]; with_reducible exact H) | (have H2_ := (Option.bind_some _ _).symm.trans H; rw [hy586]; with_reducible exact H2_) | (have H2_ := (Option.bind_some _ _).symm.trans H; with_reducible exact H2_) | with_reducible exact H | (rw [hy586]; exact H) | exact H
      have Ny586 := zA hy586
      clear hy586
      simp only [Option.some.injEq, Prod.mk.injEq] at H
      obtain ⟨rfl, rfl, rfl, rfl, rfl⟩ := H
      go_enter Try.func93, Try.ntmps93
      go_wp2_with (first | ((with_reducible refine zt 2 ?_); refine zn #[.int .i64 0, .int .i64 0, .string (⟨#[]⟩ : ByteArray)] 32 ?_; intro gb567 hg w35 hbox hb; replace HB := zS hb zz1; have BK567 := zA hbox; have GW567 := zA ((zz26 : w.heap.size ≤ gb567)); have GE567 := zA ((Nat.le_trans HW0.out (zz26 : w.heap.size ≤ gb567) : w0.heap.size ≤ gb567)); replace HK := zT (KeepBut.of_below hb g none); have NB0_567 := zA ((zz48 : g ≠ gb567)); have NB567_0 := zA ((zz49 : gb567 ≠ g)); replace HI0 := zA (IsS102.below zz0 hb); clear hb hbox hg) | ((with_reducible refine zg 111 ?_); refine gL (some 5) Try.func111 #[.pointer (some ⟨g, 0, none⟩)] ?_; (with_reducible refine (spec_l2Draw.calls k g s0_0 s0_1 s0_2 t568 t569 t570 t571 t572 w0 _ ?z1 ?z2 A2.out).mono ?_); (case z1 => exact zz2); (case z2 => exact zz16); rintro e w36 ⟨rfl, hi, hb, hk⟩; refine ⟨_, rfl, ?_⟩; replace BK567 := zV hk BK567 NB567_0; replace HK := zT hk (zf1 GW567); replace HB := zA hb; replace HI0 := zA hi; clear hb hk hi) | ((with_reducible refine zt 3 ?_); refine zn #[.int .i64 0, .int .i64 0, .string (⟨#[]⟩ : ByteArray)] 32 ?_; intro gb573 hg w37 hbox hb; replace HB := zS hb zz16; have BK573 := zA hbox; have GW573 := zA ((zz36 : w.heap.size ≤ gb573)); have GE573 := zA ((Nat.le_trans HW0.out (zz36 : w.heap.size ≤ gb573) : w0.heap.size ≤ gb573)); replace HK := zT (KeepBut.of_below hb g none) (zf1 GW567); have NB567_573 := zX BK567 hg; have NB573_567 := zY BK567 hg; replace BK567 := zB BK567 hb; have NB0_573 := zA ((zz50 : g ≠ gb573)); have NB573_0 := zA ((zz51 : gb573 ≠ g)); replace HI0 := zA (IsS102.below zz2 hb); clear hb hbox hg; have hnb38 := NB573_567.out; have hnc38 := NB567_573.out; have hnb39 := NB573_0.out; have hnc39 := NB0_573.out; obtain ⟨hcz40_0, hcz40_1, hcz40_2, hfz40_0, hfz40_1, hfz40_2⟩ := zh3 BK573) | ((with_reducible refine zg 107 ?_); refine gL (some 7) Try.func107 #[.pointer (some ⟨g, 0, none⟩), .int .i64 10] ?_; (with_reducible refine (spec_l1Below.calls g s0_0 t571 t572 10 t574 t575 t576 w0 _ ?z1 ?z2 A3.out).mono ?_); (case z1 => exact zz3); (case z2 => exact zz4); rintro e w41 ⟨rfl, hi, hb, hk⟩; refine ⟨_, rfl, ?_⟩; replace BK567 := zA (KeepBut.blk hk (g' := gb567) (o := .cells #[.int .i64 0, .int .i64 0, .string (⟨#[]⟩ : ByteArray)] 32 (0, 0)) zz11 NB567_0.out (by simp)); replace BK573 := zA (KeepBut.blk hk (g' := gb573) (o := .cells #[.int .i64 t568, .int .i64 t569, .string t570] 32 (0, 0)) zz5 NB573_0.out (by simp)); replace HK := zT hk (zf2 GW567 GW573); replace HB := zA hb; replace HI0 := zA hi; clear hb hk hi) | ((with_reducible refine zg 107 ?_); refine gL (some 21) Try.func107 #[.pointer (some ⟨g, 0, none⟩), .int .i64 2] ?_; (with_reducible refine (spec_l1Below.calls g s0_0 t575 t576 2 t583 t584 t585 w0 _ ?z1 ?z2 A31.out).mono ?_); (case z1 => exact zz3); (case z2 => exact zz4); rintro e w42 ⟨rfl, hi, hb, hk⟩; refine ⟨_, rfl, ?_⟩; replace BK567 := zV hk BK567 NB567_0; replace BK573 := zV hk BK573 NB573_0; replace HK := zT hk (zf2 GW567 GW573); replace HB := zA hb; replace HI0 := zA hi; clear hb hk hi) | ((with_reducible refine zt 23 ?_); refine Kd.R_make (Kd.int .u8) _ 5 rfl (N := 23) rfl 22 _ _ rfl ji32 rfl rfl Try.underlying22 (.int .u8 0) 1 info5 rfl (by decide) (by omega) 0 (ok := fun _ => True) (okp := fun _ => True) rfl (fun _ hk => hk) trivial (of_decide_eq_true za) (Nat.le_trans (Nat.mul_le_mul_right _ (of_decide_eq_true za : ji32.toNat ≤ 281474976710656)) (by omega)) (Below.refl _ _) (Nat.le_refl _) ?_; intro v587 w43 ho44 hb hg_ hnew_; clear hg_ hnew_; (first | rw [← Ny586.out] at ho44 | (simp only [Int.reduceToNat] at ho44; rw [← Ny586.out] at ho44)); have HO588 := zA (Kd.R_lower ho44 (keep_size (w := w) (g := g) (row := none) (zf2 GW567 GW573))); replace BK567 := zB BK567 hb; replace BK573 := zB BK573 hb; replace HK := zT (KeepBut.of_below hb g none) (zf2 GW567 GW573); replace HB := zS hb zz4; replace HI0 := zA (IsS102.below zz3 hb); clear hb ho44; have hcv45 := own_string (P := Try.prog) Try.underlying22 Try.underlying5 Try.underlying9 (Kd.own_of_R HO588.out); obtain ⟨hcz46_0, hcz46_1, hcz46_2, hfz46_0, hfz46_1, hfz46_2⟩ := zh3 BK573; have hnb47 := NB567_0.out; have hnc47 := NB0_567.out; obtain ⟨hcz48_0, hcz48_1, hcz48_2, hfz48_0, hfz48_1, hfz48_2⟩ := zh3 BK567))
      refine bodyPost_ret (results_cell_row rfl _ _ gb567 32 #[.int .i64 t568, .int .i64 t569, .string (strOfNums y586)] (0, 0) _ rfl zz20 Try.underlying32 rfl (by kernel_rfl)) rfl ?_
      exact ⟨by first | rfl | (simp [errW_none, errW_some] <;> rfl) | (simp only [← hji32]; first | rfl | (simp [errW_none, errW_some] <;> rfl)) | (simp [*, errW_none, errW_some] <;> rfl), zz3, zz4, zf2 GW567 GW573⟩
     ·rw [if_neg c34] at H
      exact absurd H (by simp)
    ·rw [if_neg c33] at H
     exact absurd H (by simp)
   ·rw [if_neg c30] at H
    have c30b0 : (t574 == 2) = false := beq_eq_false_iff_ne.mpr c30
    have c30b1 : (t574 != 2) = true := bne_iff_ne.mpr c30
    by_cases c49 : t574 = 3
    ·rw [if_pos c49] at H
     have c49b0 : (t574 == 3) = true := beq_iff_eq.mpr c49
     have c49b1 : (t574 != 3) = false := bne_eq_false_iff_eq.mpr c49
     clear c49
     obtain ⟨y589, hy589⟩ : ∃ y_ : List ByteArray, y_ = (([(⟨#[105, 116, 39, 115]⟩ : ByteArray), (⟨#[97, 32, 98]⟩ : ByteArray), (⟨#[126]⟩ : ByteArray), (⟨#[127]⟩ : ByteArray)] : List ByteArray)) := ⟨_, rfl⟩
     replace H : ((spec_l1Str.f s0_0 t575 t576 y589).bind fun bt592 => (some (t568, t569, bt592.1, bt592.2.1, bt592.2.2))) = some (r1, r2, r3, r4, r5) := by first | (rw [hy589]; with_reducible exact H) | (have H2_ := (Option.bind_some _ _).symm.trans H; rw [hy589]; with_reducible exact H2_) | (have H2_ := (Option.bind_some _ _).symm.trans H; with_reducible exact H2_) | with_reducible exact H | (rw [hy589]; exact H) | exact H
     have Ny589 := zA hy589
     clear hy589
     replace H := zI H
     obtain ⟨⟨t592, t593, t594⟩, A50, H⟩ := H
     try dsimp only at H
     simp only [Option.some.injEq, Prod.mk.injEq] at H
     obtain ⟨rfl, rfl, rfl, rfl, rfl⟩ := H
     go_enter Try.func93, Try.ntmps93
     go_wp2_with (first | ((with_reducible refine zt 2 ?_); refine zn #[.int .i64 0, .int .i64 0, .string (⟨#[]⟩ : ByteArray)] 32 ?_; intro gb567 hg w51 hbox hb; replace HB := zS hb zz1; have BK567 := zA hbox; have GW567 := zA ((zz26 : w.heap.size ≤ gb567)); have GE567 := zA ((Nat.le_trans HW0.out (zz26 : w.heap.size ≤ gb567) : w0.heap.size ≤ gb567)); replace HK := zT (KeepBut.of_below hb g none); have NB0_567 := zA ((zz48 : g ≠ gb567)); have NB567_0 := zA ((zz49 : gb567 ≠ g)); replace HI0 := zA (IsS102.below zz0 hb); clear hb hbox hg) | ((with_reducible refine zg 111 ?_); refine gL (some 5) Try.func111 #[.pointer (some ⟨g, 0, none⟩)] ?_; (with_reducible refine (spec_l2Draw.calls k g s0_0 s0_1 s0_2 t568 t569 t570 t571 t572 w0 _ ?z1 ?z2 A2.out).mono ?_); (case z1 => exact zz2); (case z2 => exact zz16); rintro e w52 ⟨rfl, hi, hb, hk⟩; refine ⟨_, rfl, ?_⟩; replace BK567 := zV hk BK567 NB567_0; replace HK := zT hk (zf1 GW567); replace HB := zA hb; replace HI0 := zA hi; clear hb hk hi) | ((with_reducible refine zt 3 ?_); refine zn #[.int .i64 0, .int .i64 0, .string (⟨#[]⟩ : ByteArray)] 32 ?_; intro gb573 hg w53 hbox hb; replace HB := zS hb zz16; have BK573 := zA hbox; have GW573 := zA ((zz36 : w.heap.size ≤ gb573)); have GE573 := zA ((Nat.le_trans HW0.out (zz36 : w.heap.size ≤ gb573) : w0.heap.size ≤ gb573)); replace HK := zT (KeepBut.of_below hb g none) (zf1 GW567); have NB567_573 := zX BK567 hg; have NB573_567 := zY BK567 hg; replace BK567 := zB BK567 hb; have NB0_573 := zA ((zz50 : g ≠ gb573)); have NB573_0 := zA ((zz51 : gb573 ≠ g)); replace HI0 := zA (IsS102.below zz2 hb); clear hb hbox hg; have hnb54 := NB573_567.out; have hnc54 := NB567_573.out; have hnb55 := NB573_0.out; have hnc55 := NB0_573.out; obtain ⟨hcz56_0, hcz56_1, hcz56_2, hfz56_0, hfz56_1, hfz56_2⟩ := zh3 BK573) | ((with_reducible refine zg 107 ?_); refine gL (some 7) Try.func107 #[.pointer (some ⟨g, 0, none⟩), .int .i64 10] ?_; (with_reducible refine (spec_l1Below.calls g s0_0 t571 t572 10 t574 t575 t576 w0 _ ?z1 ?z2 A3.out).mono ?_); (case z1 => exact zz3); (case z2 => exact zz4); rintro e w57 ⟨rfl, hi, hb, hk⟩; refine ⟨_, rfl, ?_⟩; replace BK567 := zA (KeepBut.blk hk (g' := gb567) (o := .cells #[.int .i64 0, .int .i64 0, .string (⟨#[]⟩ : ByteArray)] 32 (0, 0)) zz11 NB567_0.out (by simp)); replace BK573 := zA (KeepBut.blk hk (g' := gb573) (o := .cells #[.int .i64 t568, .int .i64 t569, .string t570] 32 (0, 0)) zz5 NB573_0.out (by simp)); replace HK := zT hk (zf2 GW567 GW573); replace HB := zA hb; replace HI0 := zA hi; clear hb hk hi) | ((with_reducible refine zt 29 ?_); refine Kd.R_lit Kd.string _ 9 ?hg (N := 29) ?hd (xs := ([(⟨#[105, 116, 39, 115]⟩ : ByteArray), (⟨#[97, 32, 98]⟩ : ByteArray), (⟨#[126]⟩ : ByteArray), (⟨#[127]⟩ : ByteArray)] : List ByteArray)) (inner := [.string (⟨#[105, 116, 39, 115]⟩ : ByteArray), .string (⟨#[97, 32, 98]⟩ : ByteArray), .string (⟨#[126]⟩ : ByteArray), .string (⟨#[127]⟩ : ByteArray)]) (ok := fun _ => True) (okp := fun _ => True) ?hr ?hp (fun _ hk => hk) trivial (Below.refl _ _) (Nat.le_refl _) (by simp) ?_; (case hd => rfl); (case hg => rfl); (case hr => exact zz25); (case hp => exact (Reps.one (show Kd.M Kd.string _ _ _ (⟨#[105, 116, 39, 115]⟩ : ByteArray) [.string (⟨#[105, 116, 39, 115]⟩ : ByteArray)] from rfl) (Reps.one (show Kd.M Kd.string _ _ _ (⟨#[97, 32, 98]⟩ : ByteArray) [.string (⟨#[97, 32, 98]⟩ : ByteArray)] from rfl) (Reps.one (show Kd.M Kd.string _ _ _ (⟨#[126]⟩ : ByteArray) [.string (⟨#[126]⟩ : ByteArray)] from rfl) (Reps.one (show Kd.M Kd.string _ _ _ (⟨#[127]⟩ : ByteArray) [.string (⟨#[127]⟩ : ByteArray)] from rfl) (Reps.none _ _)))))); intro v590 w58 ho59 hb hg_ hnew_; clear hg_ hnew_; (first | rw [← Ny589.out] at ho59 | (simp only [Int.reduceToNat] at ho59; rw [← Ny589.out] at ho59)); have HO591 := zA (Kd.R_lower ho59 (keep_size (w := w) (g := g) (row := none) (zf2 GW567 GW573))); replace BK567 := zB BK567 hb; replace BK573 := zB BK573 hb; replace HK := zT (KeepBut.of_below hb g none) (zf2 GW567 GW573); replace HB := zS hb zz4; replace HI0 := zA (IsS102.below zz3 hb); clear hb ho59; obtain ⟨Ao60, co60, eo60⟩ := Kd.R_slice HO591.out; subst eo60) | ((with_reducible refine zg 114 ?_); refine gL (some 30) Try.func114 #[.pointer (some ⟨g, 0, none⟩), .slice Ao60 y589.length co60] ?_; (with_reducible refine (spec_l1Str.calls g s0_0 t575 t576 _ _ y589 t592 t593 t594 w0 _ ?z1 ?z2 ?z3 ?z4 ?z5 A50.out).mono ?_); (case z1 => exact zz3); (case z2 => exact zz4); (case z3 => exact ze HO591); (case z4 => exact zl HO591); (case z5 => exact far_slice (IsS102.own_ne HI0.out HO591.out (by decide))); rintro e w61 ⟨rfl, hi, hb, hk⟩; refine ⟨_, rfl, ?_⟩; replace BK567 := zV hk BK567 NB567_0; replace BK573 := zV hk BK573 NB573_0; replace HO591 := zA (Kd.R_mono (Kd.R_keep (IsS102.apart (show IsS102 w0 _ g s0_0 t575 t576 from zz3) (zr HO591) (by decide)) hk (fun _ h => h.2)) (fun _ h => h.1)); replace HK := zT hk (zf2 GW567 GW573); replace HB := zA hb; replace HI0 := zA hi; clear hb hk hi; obtain ⟨hcz62_0, hcz62_1, hcz62_2, hfz62_0, hfz62_1, hfz62_2⟩ := zh3 BK573; have hnb63 := NB567_0.out; have hnc63 := NB0_567.out; obtain ⟨hcz64_0, hcz64_1, hcz64_2, hfz64_0, hfz64_1, hfz64_2⟩ := zh3 BK567))
     refine bodyPost_ret (results_cell_row rfl _ _ gb567 32 #[.int .i64 t568, .int .i64 t569, .string t592] (0, 0) _ rfl zz20 Try.underlying32 rfl (by kernel_rfl)) rfl ?_
     exact ⟨zw, zz3, zz4, zf2 GW567 GW573⟩
    ·rw [if_neg c49] at H
     have c49b0 : (t574 == 3) = false := beq_eq_false_iff_ne.mpr c49
     have c49b1 : (t574 != 3) = true := bne_iff_ne.mpr c49
     simp only [Option.some.injEq, Prod.mk.injEq] at H
     obtain ⟨rfl, rfl, rfl, rfl, rfl⟩ := H
     go_enter Try.func93, Try.ntmps93
     go_wp2_with (first | ((with_reducible refine zt 2 ?_); refine zn #[.int .i64 0, .int .i64 0, .string (⟨#[]⟩ : ByteArray)] 32 ?_; intro gb567 hg w65 hbox hb; replace HB := zS hb zz1; have BK567 := zA hbox; have GW567 := zA ((zz26 : w.heap.size ≤ gb567)); have GE567 := zA ((Nat.le_trans HW0.out (zz26 : w.heap.size ≤ gb567) : w0.heap.size ≤ gb567)); replace HK := zT (KeepBut.of_below hb g none); have NB0_567 := zA ((zz48 : g ≠ gb567)); have NB567_0 := zA ((zz49 : gb567 ≠ g)); replace HI0 := zA (IsS102.below zz0 hb); clear hb hbox hg) | ((with_reducible refine zg 111 ?_); refine gL (some 5) Try.func111 #[.pointer (some ⟨g, 0, none⟩)] ?_; (with_reducible refine (spec_l2Draw.calls k g s0_0 s0_1 s0_2 t568 t569 t570 t571 t572 w0 _ ?z1 ?z2 A2.out).mono ?_); (case z1 => exact zz2); (case z2 => exact zz16); rintro e w66 ⟨rfl, hi, hb, hk⟩; refine ⟨_, rfl, ?_⟩; replace BK567 := zV hk BK567 NB567_0; replace HK := zT hk (zf1 GW567); replace HB := zA hb; replace HI0 := zA hi; clear hb hk hi) | ((with_reducible refine zt 3 ?_); refine zn #[.int .i64 0, .int .i64 0, .string (⟨#[]⟩ : ByteArray)] 32 ?_; intro gb573 hg w67 hbox hb; replace HB := zS hb zz16; have BK573 := zA hbox; have GW573 := zA ((zz36 : w.heap.size ≤ gb573)); have GE573 := zA ((Nat.le_trans HW0.out (zz36 : w.heap.size ≤ gb573) : w0.heap.size ≤ gb573)); replace HK := zT (KeepBut.of_below hb g none) (zf1 GW567); have NB567_573 := zX BK567 hg; have NB573_567 := zY BK567 hg; replace BK567 := zB BK567 hb; have NB0_573 := zA ((zz50 : g ≠ gb573)); have NB573_0 := zA ((zz51 : gb573 ≠ g)); replace HI0 := zA (IsS102.below zz2 hb); clear hb hbox hg; have hnb68 := NB573_567.out; have hnc68 := NB567_573.out; have hnb69 := NB573_0.out; have hnc69 := NB0_573.out; obtain ⟨hcz70_0, hcz70_1, hcz70_2, hfz70_0, hfz70_1, hfz70_2⟩ := zh3 BK573) | ((with_reducible refine zg 107 ?_); refine gL (some 7) Try.func107 #[.pointer (some ⟨g, 0, none⟩), .int .i64 10] ?_; (with_reducible refine (spec_l1Below.calls g s0_0 t571 t572 10 t574 t575 t576 w0 _ ?z1 ?z2 A3.out).mono ?_); (case z1 => exact zz3); (case z2 => exact zz4); rintro e w71 ⟨rfl, hi, hb, hk⟩; refine ⟨_, rfl, ?_⟩; replace BK567 := zA (KeepBut.blk hk (g' := gb567) (o := .cells #[.int .i64 0, .int .i64 0, .string (⟨#[]⟩ : ByteArray)] 32 (0, 0)) zz11 NB567_0.out (by simp)); replace BK573 := zA (KeepBut.blk hk (g' := gb573) (o := .cells #[.int .i64 t568, .int .i64 t569, .string t570] 32 (0, 0)) zz5 NB573_0.out (by simp)); replace HK := zT hk (zf2 GW567 GW573); replace HB := zA hb; replace HI0 := zA hi; clear hb hk hi; obtain ⟨hcz72_0, hcz72_1, hcz72_2, hfz72_0, hfz72_1, hfz72_2⟩ := zh3 BK573; have hnb73 := NB567_0.out; have hnc73 := NB0_567.out; obtain ⟨hcz74_0, hcz74_1, hcz74_2, hfz74_0, hfz74_1, hfz74_2⟩ := zh3 BK567))
     refine bodyPost_ret (results_cell_row rfl _ _ gb567 32 #[.int .i64 t568, .int .i64 t569, .string t570] (0, 0) _ rfl (by (with_reducible repeat (first | refine blk_drewN ?_ _ | refine blk_drew ?_ | refine blk_alloc ?_ _)); refine blk_put (cs := #[.int .i64 t568, .int .i64 t569, .string (⟨#[]⟩ : ByteArray)]) ?_ 2 _ rfl; (with_reducible repeat (first | refine blk_drewN ?_ _ | refine blk_drew ?_ | refine blk_alloc ?_ _)); refine blk_put (cs := #[.int .i64 t568, .int .i64 0, .string (⟨#[]⟩ : ByteArray)]) ?_ 1 _ rfl; (with_reducible repeat (first | refine blk_drewN ?_ _ | refine blk_drew ?_ | refine blk_alloc ?_ _)); refine blk_put (cs := #[.int .i64 0, .int .i64 0, .string (⟨#[]⟩ : ByteArray)]) ?_ 0 _ rfl; (with_reducible repeat (first | refine blk_drewN ?_ _ | refine blk_drew ?_ | refine blk_alloc ?_ _)); exact BK567.out) Try.underlying32 rfl (by kernel_rfl)) rfl ?_
     exact ⟨zw, zz3, zz4, zf2 GW567 GW573⟩

/-! ### spec_l6Tuple: function 91 -/
def spec_l6Tuple.f (k : Nat) (s0_0 : List Int) (s0_1 : Int) (s0_2 : Int) (l1 : List (S30)) : Option ((List (S32)) × Int × Int) := (spec_l1Once.f s0_0 s0_1 s0_2 10).bind fun bt595 => (if bt595.1 = true then ((spec_l2Any.f k s0_0 bt595.2.1 bt595.2.2).bind fun bt598 => (some ((([(⟨bt598.1, bt598.2.1, bt598.2.2.1⟩ : S32)] : List (S32))), bt598.2.2.2.1, bt598.2.2.2.2))) else ((spec_PlanOk.f k l1).bind fun t606 => (if t606 = true then ((spec_l1Below.f s0_0 bt595.2.1 bt595.2.2 (wrap64 ((l1.length : Int) + 1))).bind fun bt607 => ((spec_l1Int.f s0_0 bt607.2.1 bt607.2.2 (([(l1.length : Int), (l1.length : Int), (l1.length : Int), bt607.1] : List Int))).bind fun bt613 => ((spec_l6Vals.f k s0_0 bt613.2.1 bt613.2.2 l1 bt613.1).bind fun bt616 => (some (bt616.1, bt616.2.1, bt616.2.2))))) else ((spec_l2Draw.f k s0_0 bt595.2.1 bt595.2.2).bind fun bt621 => ((spec_l2Draw.f k s0_0 bt621.2.2.2.1 bt621.2.2.2.2).bind fun bt626 => (some ((([(⟨bt621.1, bt621.2.1, bt621.2.2.1⟩ : S32), (⟨bt626.1, bt626.2.1, bt626.2.2.1⟩ : S32)] : List (S32))), bt626.2.2.2.1, bt626.2.2.2.2)))))))
theorem spec_l6Tuple.mono : ∀ a0 a1 a2 a3 k, LeO (spec_l6Tuple.f k a0 a1 a2 a3) (spec_l6Tuple.f (k + 1) a0 a1 a2 a3) := by
  intro a0 a1 a2 a3 k
  unfold spec_l6Tuple.f
  repeat' first
      | (with_reducible exact spec_PlanOk.mono _ _)
      | (with_reducible exact spec_l2Any.mono _ _ _ _)
      | (with_reducible exact spec_l2Draw.mono _ _ _ _)
      | (with_reducible exact spec_l6Vals.mono _ _ _ _ _ _)
      | (with_reducible exact LeO.refl _)
      | (with_reducible exact LeO.none _)
      | (with_reducible refine LeO.ite ?_ ?_)
      | (with_reducible refine LeO.bind ?_ (fun _ => ?_))
      | exact spec_PlanOk.mono _ _
      | exact spec_l2Any.mono _ _ _ _
      | exact spec_l2Draw.mono _ _ _ _
      | exact spec_l6Vals.mono _ _ _ _ _ _
      | exact LeO.none _
      | refine LeO.ite ?_ ?_
      | refine LeO.bind ?_ (fun _ => ?_)
set_option maxHeartbeats 8000000 in
set_option maxRecDepth 100000 in
theorem spec_l6Tuple.calls (k : Nat) (g : Nat) (s0_0 : List Int) (s0_1 : Int) (s0_2 : Int) (A1 : Option Addr) (c1 : Nat) (l1 : List (S30)) (r1 : List (S32)) (r2 : Int) (r3 : Int) (w0 w : World) (hI : IsS102 w0 w g s0_0 s0_1 s0_2) (hB : Below w0.heap.size w0 w) (hr1 : ∀ W_, KeepBut w W_ g none → Kd.C k30 W_ A1 l1.length l1) (hc1 : l1.length ≤ c1) (h : spec_l6Tuple.f k s0_0 s0_1 s0_2 l1 = some (r1, r2, r3)) :
  Calls Try.prog 91 #[.pointer (some ⟨g, 0, none⟩), .slice A1 l1.length c1] w fun e w' => ∃ v0_ : Value, e = .returned (v0_) ∧ Kd.R k32 32 w' w.heap.size (fun _ => True) v0_ r1 ∧ IsS102 w0 w' g s0_0 r2 r3 ∧ Below w0.heap.size w0 w' ∧ KeepBut w w' g none := by
 have HR1 := zA hr1
 have HC1 := zA hc1
 clear hr1 hc1
 have HI0 := zA hI
 have HK := zA (KeepBut.refl w g none)
 have HL := zA hB.size
 clear hI
 have HW0 := zA hB.size
 have HB := zA hB
 clear hB
 have H : ((spec_l1Once.f s0_0 s0_1 s0_2 10).bind fun bt595 => (if bt595.1 = true then ((spec_l2Any.f k s0_0 bt595.2.1 bt595.2.2).bind fun bt598 => (some ((([(⟨bt598.1, bt598.2.1, bt598.2.2.1⟩ : S32)] : List (S32))), bt598.2.2.2.1, bt598.2.2.2.2))) else ((spec_PlanOk.f k l1).bind fun t606 => (if t606 = true then ((spec_l1Below.f s0_0 bt595.2.1 bt595.2.2 (wrap64 ((l1.length : Int) + 1))).bind fun bt607 => ((spec_l1Int.f s0_0 bt607.2.1 bt607.2.2 (([(l1.length : Int), (l1.length : Int), (l1.length : Int), bt607.1] : List Int))).bind fun bt613 => ((spec_l6Vals.f k s0_0 bt613.2.1 bt613.2.2 l1 bt613.1).bind fun bt616 => (some (bt616.1, bt616.2.1, bt616.2.2))))) else ((spec_l2Draw.f k s0_0 bt595.2.1 bt595.2.2).bind fun bt621 => ((spec_l2Draw.f k s0_0 bt621.2.2.2.1 bt621.2.2.2.2).bind fun bt626 => (some ((([(⟨bt621.1, bt621.2.1, bt621.2.2.1⟩ : S32), (⟨bt626.1, bt626.2.1, bt626.2.2.1⟩ : S32)] : List (S32))), bt626.2.2.2.1, bt626.2.2.2.2)))))))) = some (r1, r2, r3) := h
 clear h
 replace H := zI H
 obtain ⟨⟨t595, t596, t597⟩, A3, H⟩ := H
 try dsimp only at H
 by_cases c4 : t595 = true
 ·subst c4
  rw [if_pos rfl] at H
  replace H := zI H
  obtain ⟨⟨t598, t599, t600, t601, t602⟩, A5, H⟩ := H
  try dsimp only at H
  obtain ⟨y603, hy603⟩ : ∃ y_ : List (S32), y_ = (([(⟨t598, t599, t600⟩ : S32)] : List (S32))) := ⟨_, rfl⟩
  replace H : (some (y603, t601, t602)) = some (r1, r2, r3) := by first | (rw [hy603]; with_reducible exact H) | (have H2_ := (Option.bind_some _ _).symm.trans H; rw [hy603]; with_reducible exact H2_) | (have H2_ := (Option.bind_some _ _).symm.trans H; with_reducible exact H2_) | with_reducible exact H | (rw [hy603]; exact H) | exact H
  have Ny603 := zA hy603
  clear hy603
  simp only [Option.some.injEq, Prod.mk.injEq] at H
  obtain ⟨rfl, rfl, rfl⟩ := H
  go_enter Try.func91, Try.ntmps91
  go_wp2_with (first | ((with_reducible refine zg 110 ?_); refine gL (some 6) Try.func110 #[.pointer (some ⟨g, 0, none⟩), .int .i64 10] ?_; (with_reducible refine (spec_l1Once.calls g s0_0 s0_1 s0_2 10 true t596 t597 w0 _ ?z1 ?z2 A3.out).mono ?_); (case z1 => exact zz0); (case z2 => exact zz1); rintro e w6 ⟨rfl, hi, hb, hk⟩; refine ⟨_, rfl, ?_⟩; replace HK := zT hk; replace HB := zA hb; replace HI0 := zA hi; clear hb hk hi) | ((with_reducible refine zg 93 ?_); refine gL (some 8) Try.func93 #[.pointer (some ⟨g, 0, none⟩)] ?_; (with_reducible refine (spec_l2Any.calls k g s0_0 t596 t597 t598 t599 t600 t601 t602 w0 _ ?z1 ?z2 A5.out).mono ?_); (case z1 => exact zz0); (case z2 => exact zz1); rintro e w7 ⟨rfl, hi, hb, hk⟩; refine ⟨_, rfl, ?_⟩; replace HK := zT hk; replace HB := zA hb; replace HI0 := zA hi; clear hb hk hi) | ((with_reducible refine zt 9 ?_); refine Kd.R_lit k32 _ 32 ?hg (N := 9) ?hd (xs := ([(⟨t598, t599, t600⟩ : S32)] : List (S32))) (inner := [.int .i64 t598, .int .i64 t599, .string t600]) (ok := fun _ => True) (okp := fun _ => True) ?hr ?hp (fun _ hk => hk) trivial (Below.refl _ _) (Nat.le_refl _) (by simp) ?_; (case hd => rfl); (case hg => rfl); (case hr => exact zz25); (case hp => exact (Reps.c3 (show Kd.M k32 _ _ _ (⟨t598, t599, t600⟩ : S32) [.int .i64 t598, .int .i64 t599, .string t600] from (k32_mkM _ _ _ (⟨t598, t599, t600⟩ : S32) )) (Reps.none _ _))); intro v604 w8 ho9 hb hg_ hnew_; clear hg_ hnew_; (first | rw [← Ny603.out] at ho9 | (simp only [Int.reduceToNat] at ho9; rw [← Ny603.out] at ho9)); have HO605 := zA (Kd.R_lower ho9 (keep_size (w := w) (g := g) (row := none) zf)); replace HK := zT (KeepBut.of_below hb g none); replace HB := zS hb zz1; replace HI0 := zA (IsS102.below zz0 hb); clear hb ho9))
  go_ret
  exact ⟨_, zw, zr HO605, zz0, zz1, zf⟩
 ·replace c4 := Bool.eq_false_iff.mpr c4
  subst c4
  rw [if_neg (Bool.false_ne_true)] at H
  replace H := zI H
  obtain ⟨t606, A10, H⟩ := H
  by_cases c11 : t606 = true
  ·subst c11
   rw [if_pos rfl] at H
   replace H := zI H
   obtain ⟨⟨t607, t608, t609⟩, A12, H⟩ := H
   try dsimp only at H
   obtain ⟨y610, hy610⟩ : ∃ y_ : List Int, y_ = (([(l1.length : Int), (l1.length : Int), (l1.length : Int), t607] : List Int)) := ⟨_, rfl⟩
   replace H : ((spec_l1Int.f s0_0 t608 t609 y610).bind fun bt613 => ((spec_l6Vals.f k s0_0 bt613.2.1 bt613.2.2 l1 bt613.1).bind fun bt616 => (some (bt616.1, bt616.2.1, bt616.2.2)))) = some (r1, r2, r3) := by first | (rw [hy610]; with_reducible exact H) | (have H2_ := (Option.bind_some _ _).symm.trans H; rw [hy610]; with_reducible exact H2_) | (have H2_ := (Option.bind_some _ _).symm.trans H; with_reducible exact H2_) | with_reducible exact H | (rw [hy610]; exact H) | exact H
   have Ny610 := zA hy610
   clear hy610
   replace H := zI H
   obtain ⟨⟨t613, t614, t615⟩, A13, H⟩ := H
   try dsimp only at H
   replace H := zI H
   obtain ⟨⟨t616, t619, t620⟩, A14, H⟩ := H
   try dsimp only at H
   simp only [Option.some.injEq, Prod.mk.injEq] at H
   obtain ⟨rfl, rfl, rfl⟩ := H
   go_enter Try.func91, Try.ntmps91
   go_wp2_with (first | ((with_reducible refine zg 110 ?_); refine gL (some 6) Try.func110 #[.pointer (some ⟨g, 0, none⟩), .int .i64 10] ?_; (with_reducible refine (spec_l1Once.calls g s0_0 s0_1 s0_2 10 false t596 t597 w0 _ ?z1 ?z2 A3.out).mono ?_); (case z1 => exact zz0); (case z2 => exact zz1); rintro e w15 ⟨rfl, hi, hb, hk⟩; refine ⟨_, rfl, ?_⟩; replace HK := zT hk; replace HB := zA hb; replace HI0 := zA hi; clear hb hk hi) | ((with_reducible refine zg 62 ?_); refine gL (some 11) Try.func62 #[.slice A1 l1.length c1] ?_; (with_reducible refine (spec_PlanOk.calls k _ _ l1 true _ ?z1 ?z2 A10.out).mono ?_); (case z1 => exact Kd.C_foot_now HR1.out zf); (case z2 => exact HC1.out); rintro e w16 ⟨rfl, hb⟩; refine ⟨_, rfl, ?_⟩; replace HK := zT (KeepBut.of_below hb g none); replace HB := zS hb zz1; replace HI0 := zA (IsS102.below zz0 hb); (try clear hb)) | ((with_reducible refine zg 107 ?_); refine gL (some 31) Try.func107 #[.pointer (some ⟨g, 0, none⟩), .int .i64 (wrap64 ((l1.length : Int) + 1))] ?_; (with_reducible refine (spec_l1Below.calls g s0_0 t596 t597 (wrap64 ((l1.length : Int) + 1)) t607 t608 t609 w0 _ ?z1 ?z2 A12.out).mono ?_); (case z1 => exact zz0); (case z2 => exact zz1); rintro e w17 ⟨rfl, hi, hb, hk⟩; refine ⟨_, rfl, ?_⟩; replace HK := zT hk; replace HB := zA hb; replace HI0 := zA hi; clear hb hk hi) | ((with_reducible refine zt 32 ?_); refine Kd.R_lit (Kd.int .i64) _ 3 ?hg (N := 32) ?hd (xs := ([(l1.length : Int), (l1.length : Int), (l1.length : Int), t607] : List Int)) (inner := [.int .i64 (l1.length : Int), .int .i64 (l1.length : Int), .int .i64 (l1.length : Int), .int .i64 t607]) (ok := fun _ => True) (okp := fun _ => True) ?hr ?hp (fun _ hk => hk) trivial (Below.refl _ _) (Nat.le_refl _) (by simp) ?_; (case hd => rfl); (case hg => rfl); (case hr => exact zz25); (case hp => exact (Reps.one (show Kd.M (Kd.int .i64) _ _ _ (l1.length : Int) [.int .i64 (l1.length : Int)] from rfl) (Reps.one (show Kd.M (Kd.int .i64) _ _ _ (l1.length : Int) [.int .i64 (l1.length : Int)] from rfl) (Reps.one (show Kd.M (Kd.int .i64) _ _ _ (l1.length : Int) [.int .i64 (l1.length : Int)] from rfl) (Reps.one (show Kd.M (Kd.int .i64) _ _ _ t607 [.int .i64 t607] from rfl) (Reps.none _ _)))))); intro v611 w18 ho19 hb hg_ hnew_; clear hg_ hnew_; (first | rw [← Ny610.out] at ho19 | (simp only [Int.reduceToNat] at ho19; rw [← Ny610.out] at ho19)); have HO612 := zA (Kd.R_lower ho19 (keep_size (w := w) (g := g) (row := none) zf)); replace HK := zT (KeepBut.of_below hb g none); replace HB := zS hb zz1; replace HI0 := zA (IsS102.below zz0 hb); clear hb ho19; obtain ⟨Ao20, co20, eo20⟩ := Kd.R_slice HO612.out; subst eo20) | ((with_reducible refine zg 108 ?_); refine gL (some 33) Try.func108 #[.pointer (some ⟨g, 0, none⟩), .slice Ao20 y610.length co20] ?_; (with_reducible refine (spec_l1Int.calls g s0_0 t608 t609 _ _ y610 t613 t614 t615 w0 _ ?z1 ?z2 ?z3 ?z4 ?z5 A13.out).mono ?_); (case z1 => exact zz0); (case z2 => exact zz1); (case z3 => exact ze HO612); (case z4 => exact zl HO612); (case z5 => exact far_slice (IsS102.own_ne HI0.out HO612.out (by decide))); rintro e w21 ⟨rfl, hi, hb, hk⟩; refine ⟨_, rfl, ?_⟩; replace HO612 := zA (Kd.R_mono (Kd.R_keep (IsS102.apart (show IsS102 w0 _ g s0_0 t608 t609 from zz0) (zr HO612) (by decide)) hk (fun _ h => h.2)) (fun _ h => h.1)); replace HK := zT hk; replace HB := zA hb; replace HI0 := zA hi; clear hb hk hi) | ((with_reducible refine zg 89 ?_); refine gL (some 34) Try.func89 #[.pointer (some ⟨g, 0, none⟩), .slice A1 l1.length c1, .int .i64 t613] ?_; (with_reducible refine (spec_l6Vals.calls k g s0_0 t614 t615 _ _ l1 t613 t616 t619 t620 w0 _ ?z1 ?z2 ?z3 ?z4 A14.out).mono ?_); (case z1 => exact zz0); (case z2 => exact zz1); (case z3 => exact Kd.C_foot_step HR1.out zf); (case z4 => exact HC1.out); rintro e w22 ⟨v617, rfl, ho0, hi, hb, hk⟩; refine ⟨_, rfl, ?_⟩; replace HO612 := zA (Kd.R_mono (Kd.R_keep (IsS102.apart (show IsS102 w0 _ g s0_0 t614 t615 from zz0) (zr HO612) (by decide)) hk (fun _ h => h.2)) (fun _ h => h.1)); have HO618 := zA (Kd.R_lower ho0 (keep_size (w := w) (g := g) (row := none) zf)); replace HK := zT hk; replace HB := zA hb; replace HI0 := zA hi; clear hb hk hi ho0))
   go_ret
   exact ⟨_, zw, zr HO618, zz0, zz1, zf⟩
  ·replace c11 := Bool.eq_false_iff.mpr c11
   subst c11
   rw [if_neg (Bool.false_ne_true)] at H
   replace H := zI H
   obtain ⟨⟨t621, t622, t623, t624, t625⟩, A23, H⟩ := H
   try dsimp only at H
   replace H := zI H
   obtain ⟨⟨t626, t627, t628, t629, t630⟩, A24, H⟩ := H
   try dsimp only at H
   obtain ⟨y631, hy631⟩ : ∃ y_ : List (S32), y_ = (([(⟨t621, t622, t623⟩ : S32), (⟨t626, t627, t628⟩ : S32)] : List (S32))) := ⟨_, rfl⟩
   replace H : (some (y631, t629, t630)) = some (r1, r2, r3) := by first | (rw [hy631]; with_reducible exact H) | (have H2_ := (Option.bind_some _ _).symm.trans H; rw [hy631]; with_reducible exact H2_) | (have H2_ := (Option.bind_some _ _).symm.trans H; with_reducible exact H2_) | with_reducible exact H | (rw [hy631]; exact H) | exact H
   have Ny631 := zA hy631
   clear hy631
   simp only [Option.some.injEq, Prod.mk.injEq] at H
   obtain ⟨rfl, rfl, rfl⟩ := H
   go_enter Try.func91, Try.ntmps91
   go_wp2_with (first | ((with_reducible refine zg 110 ?_); refine gL (some 6) Try.func110 #[.pointer (some ⟨g, 0, none⟩), .int .i64 10] ?_; (with_reducible refine (spec_l1Once.calls g s0_0 s0_1 s0_2 10 false t596 t597 w0 _ ?z1 ?z2 A3.out).mono ?_); (case z1 => exact zz0); (case z2 => exact zz1); rintro e w25 ⟨rfl, hi, hb, hk⟩; refine ⟨_, rfl, ?_⟩; replace HK := zT hk; replace HB := zA hb; replace HI0 := zA hi; clear hb hk hi) | ((with_reducible refine zg 62 ?_); refine gL (some 11) Try.func62 #[.slice A1 l1.length c1] ?_; (with_reducible refine (spec_PlanOk.calls k _ _ l1 false _ ?z1 ?z2 A10.out).mono ?_); (case z1 => exact Kd.C_foot_now HR1.out zf); (case z2 => exact HC1.out); rintro e w26 ⟨rfl, hb⟩; refine ⟨_, rfl, ?_⟩; replace HK := zT (KeepBut.of_below hb g none); replace HB := zS hb zz1; replace HI0 := zA (IsS102.below zz0 hb); (try clear hb)) | ((with_reducible refine zg 111 ?_); refine gL (some 14) Try.func111 #[.pointer (some ⟨g, 0, none⟩)] ?_; (with_reducible refine (spec_l2Draw.calls k g s0_0 t596 t597 t621 t622 t623 t624 t625 w0 _ ?z1 ?z2 A23.out).mono ?_); (case z1 => exact zz0); (case z2 => exact zz1); rintro e w27 ⟨rfl, hi, hb, hk⟩; refine ⟨_, rfl, ?_⟩; replace HK := zT hk; replace HB := zA hb; replace HI0 := zA hi; clear hb hk hi) | ((with_reducible refine zg 111 ?_); refine gL (some 16) Try.func111 #[.pointer (some ⟨g, 0, none⟩)] ?_; (with_reducible refine (spec_l2Draw.calls k g s0_0 t624 t625 t626 t627 t628 t629 t630 w0 _ ?z1 ?z2 A24.out).mono ?_); (case z1 => exact zz0); (case z2 => exact zz1); rintro e w28 ⟨rfl, hi, hb, hk⟩; refine ⟨_, rfl, ?_⟩; replace HK := zT hk; replace HB := zA hb; replace HI0 := zA hi; clear hb hk hi) | ((with_reducible refine zt 17 ?_); refine Kd.R_lit k32 _ 32 ?hg (N := 17) ?hd (xs := ([(⟨t621, t622, t623⟩ : S32), (⟨t626, t627, t628⟩ : S32)] : List (S32))) (inner := [.int .i64 t621, .int .i64 t622, .string t623, .int .i64 t626, .int .i64 t627, .string t628]) (ok := fun _ => True) (okp := fun _ => True) ?hr ?hp (fun _ hk => hk) trivial (Below.refl _ _) (Nat.le_refl _) (by simp) ?_; (case hd => rfl); (case hg => rfl); (case hr => exact zz25); (case hp => exact (Reps.c3 (show Kd.M k32 _ _ _ (⟨t621, t622, t623⟩ : S32) [.int .i64 t621, .int .i64 t622, .string t623] from (k32_mkM _ _ _ (⟨t621, t622, t623⟩ : S32) )) (Reps.c3 (show Kd.M k32 _ _ _ (⟨t626, t627, t628⟩ : S32) [.int .i64 t626, .int .i64 t627, .string t628] from (k32_mkM _ _ _ (⟨t626, t627, t628⟩ : S32) )) (Reps.none _ _)))); intro v632 w29 ho30 hb hg_ hnew_; clear hg_ hnew_; (first | rw [← Ny631.out] at ho30 | (simp only [Int.reduceToNat] at ho30; rw [← Ny631.out] at ho30)); have HO633 := zA (Kd.R_lower ho30 (keep_size (w := w) (g := g) (row := none) zf)); replace HK := zT (KeepBut.of_below hb g none); replace HB := zS hb zz1; replace HI0 := zA (IsS102.below zz0 hb); clear hb ho30))
   go_ret
   exact ⟨_, zw, zr HO633, zz0, zz1, zf⟩

/-! ### spec_DrawLessKey: function 57 -/
def spec_DrawLessKey.f (k : Nat) (l0 : List Int) : Option ((List (S30)) × (List (S32)) × (List (S32))) := (spec_l1New.f k l0).bind fun bt634 => ((spec_l6Any.f k bt634.1 bt634.2.1 bt634.2.2).bind fun bt638 => ((spec_l6Tuple.f k bt634.1 bt638.2.1 bt638.2.2 bt638.1).bind fun bt643 => ((spec_l6Tuple.f k bt634.1 bt643.2.1 bt643.2.2 bt638.1).bind fun bt648 => (some (bt638.1, bt643.1, bt648.1)))))
theorem spec_DrawLessKey.mono : ∀ a0 k, LeO (spec_DrawLessKey.f k a0) (spec_DrawLessKey.f (k + 1) a0) := by
  intro a0 k
  unfold spec_DrawLessKey.f
  repeat' first
      | (with_reducible exact spec_l1New.mono _ _)
      | (with_reducible exact spec_l6Any.mono _ _ _ _)
      | (with_reducible exact spec_l6Tuple.mono _ _ _ _ _)
      | (with_reducible exact LeO.refl _)
      | (with_reducible exact LeO.none _)
      | (with_reducible refine LeO.ite ?_ ?_)
      | (with_reducible refine LeO.bind ?_ (fun _ => ?_))
      | exact spec_l1New.mono _ _
      | exact spec_l6Any.mono _ _ _ _
      | exact spec_l6Tuple.mono _ _ _ _ _
      | exact LeO.none _
      | refine LeO.ite ?_ ?_
      | refine LeO.bind ?_ (fun _ => ?_)
set_option maxHeartbeats 8000000 in
set_option maxRecDepth 100000 in
theorem spec_DrawLessKey.calls (k : Nat) (A0 : Option Addr) (c0 : Nat) (l0 : List Int) (r1 : List (S30)) (r2 : List (S32)) (r3 : List (S32)) (w : World) (hr0 : Kd.C (Kd.int .u8) w A0 l0.length l0) (hc0 : l0.length ≤ c0) (h : spec_DrawLessKey.f k l0 = some (r1, r2, r3)) :
  Calls Try.prog 57 #[.slice A0 l0.length c0] w fun e w' => ∃ v0_ v1_ v2_ : Value, e = .returned (.tuple #[v0_, v1_, v2_]) ∧ Kd.R k30 30 w' w.heap.size (fun _ => True) v0_ r1 ∧ Kd.R k32 32 w' w.heap.size (fun k_ => some k_ ≠ (v2_ : Value).ownBlock) v1_ r2 ∧ Kd.R k32 32 w' w.heap.size (fun k_ => some k_ ≠ (v1_ : Value).ownBlock) v2_ r3 ∧ Below w.heap.size w w' := by
 have HR0 := zA hr0
 have HC0 := zA hc0
 clear hr0 hc0
 have HB := zA (Below.refl w.heap.size w)
 have H : ((spec_l1New.f k l0).bind fun bt634 => ((spec_l6Any.f k bt634.1 bt634.2.1 bt634.2.2).bind fun bt638 => ((spec_l6Tuple.f k bt634.1 bt638.2.1 bt638.2.2 bt638.1).bind fun bt643 => ((spec_l6Tuple.f k bt634.1 bt643.2.1 bt643.2.2 bt638.1).bind fun bt648 => (some (bt638.1, bt643.1, bt648.1)))))) = some (r1, r2, r3) := h
 clear h
 replace H := zI H
 obtain ⟨⟨t634, t635, t636⟩, A2, H⟩ := H
 try dsimp only at H
 replace H := zI H
 obtain ⟨⟨t638, t641, t642⟩, A3, H⟩ := H
 try dsimp only at H
 replace H := zI H
 obtain ⟨⟨t643, t646, t647⟩, A4, H⟩ := H
 try dsimp only at H
 replace H := zI H
 obtain ⟨⟨t648, t651, t652⟩, A5, H⟩ := H
 try dsimp only at H
 simp only [Option.some.injEq, Prod.mk.injEq] at H
 obtain ⟨rfl, rfl, rfl⟩ := H
 go_enter Try.func57, Try.ntmps57
 go_wp2_with (first | ((with_reducible refine zg 75 ?_); refine gL (some 8) Try.func75 #[.slice A0 l0.length c0] ?_; (with_reducible refine (spec_l1New.calls k _ _ l0 t634 t635 t636 w _ ?z1 ?z2 ?z3 A2.out).mono ?_); (case z1 => exact zb); (case z2 => exact HR0.out); (case z3 => exact HC0.out); rintro e w6 ⟨g637, rfl, hi, hb, hb2⟩; refine ⟨_, rfl, ?_⟩; replace HB := zA hb; have HI637 := zA hi; clear hb hb2 hi) | ((with_reducible refine zg 90 ?_); refine gL (some 10) Try.func90 #[.pointer (some ⟨g637, 0, none⟩)] ?_; (with_reducible refine (spec_l6Any.calls k g637 t634 t635 t636 t638 t641 t642 w _ ?z1 ?z2 A3.out).mono ?_); (case z1 => exact zz24); (case z2 => exact zz28); rintro e w7 ⟨v639, rfl, ho0, hi, hb, hk⟩; refine ⟨_, rfl, ?_⟩; have HO640 := zL ho0 zz28; replace HB := zA hb; replace HI637 := zA hi; clear hb hk hi ho0; obtain ⟨Ao8, co8, eo8⟩ := Kd.R_slice HO640.out; subst eo8) | ((with_reducible refine zg 91 ?_); refine gL (some 14) Try.func91 #[.pointer (some ⟨g637, 0, none⟩), .slice Ao8 t638.length co8] ?_; (with_reducible refine (spec_l6Tuple.calls k g637 t634 t641 t642 _ _ t638 t643 t646 t647 w _ ?z1 ?z2 ?z3 ?z4 A4.out).mono ?_); (case z1 => exact zz24); (case z2 => exact zz28); (case z3 => exact Kd.C_foot_own (IsS102.apart (show IsS102 w _ g637 t634 t641 t642 from zz24) (zr HO640) (by decide)) (fun _ h_ => h_.2)); (case z4 => exact zl HO640); rintro e w9 ⟨v644, rfl, ho0, hi, hb, hk⟩; refine ⟨_, rfl, ?_⟩; replace HO640 := zA (Kd.R_mono (Kd.R_keep (IsS102.apart (show IsS102 w _ g637 t634 t641 t642 from zz24) (zr HO640) (by decide)) hk (fun _ h => h.2)) (fun _ h => h.1)); have HO645 := zL ho0 zz28; replace HB := zA hb; replace HI637 := zA hi; clear hb hk hi ho0) | ((with_reducible refine zg 91 ?_); refine gL (some 17) Try.func91 #[.pointer (some ⟨g637, 0, none⟩), .slice Ao8 t638.length co8] ?_; (with_reducible refine (spec_l6Tuple.calls k g637 t634 t646 t647 _ _ t638 t648 t651 t652 w _ ?z1 ?z2 ?z3 ?z4 A5.out).mono ?_); (case z1 => exact zz24); (case z2 => exact zz28); (case z3 => exact Kd.C_foot_own (IsS102.apart (show IsS102 w _ g637 t634 t646 t647 from zz24) (zr HO640) (by decide)) (fun _ h_ => h_.2)); (case z4 => exact zl HO640); rintro e w10 ⟨v649, rfl, ho0, hi, hb, hk⟩; refine ⟨_, rfl, ?_⟩; replace HO640 := zA (Kd.R_mono (Kd.R_keep (IsS102.apart (show IsS102 w _ g637 t634 t646 t647 from zz24) (zr HO640) (by decide)) hk (fun _ h => h.2)) (fun _ h => h.1)); have HO650 := zL (zN ho0 HO645) zz28; replace HO645 := zA (Kd.R_mono (Kd.R_told (Kd.R_oldK (IsS102.apart (show IsS102 w _ g637 t634 t646 t647 from zz24) (zr HO645) (by decide)) hk) (Kd.R_base ho0)) (fun _ h_ => h_.1)); replace HB := zA hb; replace HI637 := zA hi; clear hb hk hi ho0))
 go_ret3
 exact ⟨_, _, _, zw, zr HO640, by (with_reducible repeat (first | apply Kd.R_alloc | apply Kd.R_drewN | apply Kd.R_drew)); exact Kd.R_mono HO645.out (fun _ hk => hk.2), by (with_reducible repeat (first | apply Kd.R_alloc | apply Kd.R_drewN | apply Kd.R_drew)); exact Kd.R_mono HO650.out (fun _ hk => hk.2), zz28⟩

/-! ### spec_LessVal: function 85 -/
def spec_LessVal.f (a0_0 : Int) (a0_1 : Int) (a0_2 : ByteArray) (a1_0 : Int) (a1_1 : Int) (a1_2 : ByteArray) : Option (Bool) := if a0_0 = a1_0 then (if a0_1 = a1_1 then (some (Op.bytesLess a0_2.toList a1_2.toList)) else (some (decide (a0_1 < a1_1)))) else (some (decide (a0_0 < a1_0)))
set_option maxHeartbeats 8000000 in
set_option maxRecDepth 100000 in
theorem spec_LessVal.calls (a0_0 : Int) (a0_1 : Int) (a0_2 : ByteArray) (a1_0 : Int) (a1_1 : Int) (a1_2 : ByteArray) (r : Bool) (w : World) (h : spec_LessVal.f a0_0 a0_1 a0_2 a1_0 a1_1 a1_2 = some r) :
  Calls Try.prog 85 #[.agg #[.int .i64 a0_0, .int .i64 a0_1, .string a0_2], .agg #[.int .i64 a1_0, .int .i64 a1_1, .string a1_2]] w fun e w' => e = .returned (.bool r) ∧ Below w.heap.size w w' := by
 have hu32 := Try.underlying32
 have HB := zA (Below.refl w.heap.size w)
 have H : (if a0_0 = a1_0 then (if a0_1 = a1_1 then (some (Op.bytesLess a0_2.toList a1_2.toList)) else (some (decide (a0_1 < a1_1)))) else (some (decide (a0_0 < a1_0)))) = some r := h
 clear h
 by_cases c3 : a0_0 = a1_0
 ·rw [if_pos c3] at H
  have c3b0 : (a0_0 == a1_0) = true := beq_iff_eq.mpr c3
  have c3b1 : (a0_0 != a1_0) = false := bne_eq_false_iff_eq.mpr c3
  clear c3
  by_cases c4 : a0_1 = a1_1
  ·rw [if_pos c4] at H
   have c4b0 : (a0_1 == a1_1) = true := beq_iff_eq.mpr c4
   have c4b1 : (a0_1 != a1_1) = false := bne_eq_false_iff_eq.mpr c4
   clear c4
   obtain rfl := Option.some.inj H
   go_enter Try.func85, Try.ntmps85
   go_wp2_with (first | ((with_reducible refine zt 2 ?_); refine zn #[.int .i64 a0_0, .int .i64 a0_1, .string a0_2] 32 ?_; intro gb653 hg w5 hbox hb; have BK653 := zA hbox; have GW653 := zG hg; have GE653 := zG hg; replace HB := zS hb; clear hb hbox hg) | ((with_reducible refine zt 3 ?_); refine zn #[.int .i64 a1_0, .int .i64 a1_1, .string a1_2] 32 ?_; intro gb654 hg w6 hbox hb; have BK654 := zA hbox; have GW654 := zG hg (zb1 GE653); have GE654 := zG hg (zb1 GE653); replace HB := zS hb (zb1 GE653); have NB653_654 := zX BK653 hg; have NB654_653 := zY BK653 hg; replace BK653 := zB BK653 hb; clear hb hbox hg; have hnb7 := NB653_654.out; have hnc7 := NB654_653.out; obtain ⟨hcz8_0, hcz8_1, hcz8_2, hfz8_0, hfz8_1, hfz8_2⟩ := zh3 BK653; obtain ⟨hcz9_0, hcz9_1, hcz9_2, hfz9_0, hfz9_1, hfz9_2⟩ := zh3 BK654))
   go_ret
   exact ⟨zw, zb2 GE653 GE654⟩
  ·rw [if_neg c4] at H
   have c4b0 : (a0_1 == a1_1) = false := beq_eq_false_iff_ne.mpr c4
   have c4b1 : (a0_1 != a1_1) = true := bne_iff_ne.mpr c4
   obtain rfl := Option.some.inj H
   go_enter Try.func85, Try.ntmps85
   go_wp2_with (first | ((with_reducible refine zt 2 ?_); refine zn #[.int .i64 a0_0, .int .i64 a0_1, .string a0_2] 32 ?_; intro gb653 hg w10 hbox hb; have BK653 := zA hbox; have GW653 := zG hg; have GE653 := zG hg; replace HB := zS hb; clear hb hbox hg) | ((with_reducible refine zt 3 ?_); refine zn #[.int .i64 a1_0, .int .i64 a1_1, .string a1_2] 32 ?_; intro gb654 hg w11 hbox hb; have BK654 := zA hbox; have GW654 := zG hg (zb1 GE653); have GE654 := zG hg (zb1 GE653); replace HB := zS hb (zb1 GE653); have NB653_654 := zX BK653 hg; have NB654_653 := zY BK653 hg; replace BK653 := zB BK653 hb; clear hb hbox hg; have hnb12 := NB653_654.out; have hnc12 := NB654_653.out; obtain ⟨hcz13_0, hcz13_1, hcz13_2, hfz13_0, hfz13_1, hfz13_2⟩ := zh3 BK653; obtain ⟨hcz14_0, hcz14_1, hcz14_2, hfz14_0, hfz14_1, hfz14_2⟩ := zh3 BK654))
   go_ret
   exact ⟨zw, zb2 GE653 GE654⟩
 ·rw [if_neg c3] at H
  have c3b0 : (a0_0 == a1_0) = false := beq_eq_false_iff_ne.mpr c3
  have c3b1 : (a0_0 != a1_0) = true := bne_iff_ne.mpr c3
  obtain rfl := Option.some.inj H
  go_enter Try.func85, Try.ntmps85
  go_wp2_with (first | ((with_reducible refine zt 2 ?_); refine zn #[.int .i64 a0_0, .int .i64 a0_1, .string a0_2] 32 ?_; intro gb653 hg w15 hbox hb; have BK653 := zA hbox; have GW653 := zG hg; have GE653 := zG hg; replace HB := zS hb; clear hb hbox hg) | ((with_reducible refine zt 3 ?_); refine zn #[.int .i64 a1_0, .int .i64 a1_1, .string a1_2] 32 ?_; intro gb654 hg w16 hbox hb; have BK654 := zA hbox; have GW654 := zG hg (zb1 GE653); have GE654 := zG hg (zb1 GE653); replace HB := zS hb (zb1 GE653); have NB653_654 := zX BK653 hg; have NB654_653 := zY BK653 hg; replace BK653 := zB BK653 hb; clear hb hbox hg; have hnb17 := NB653_654.out; have hnc17 := NB654_653.out; obtain ⟨hcz18_0, hcz18_1, hcz18_2, hfz18_0, hfz18_1, hfz18_2⟩ := zh3 BK653; obtain ⟨hcz19_0, hcz19_1, hcz19_2, hfz19_0, hfz19_1, hfz19_2⟩ := zh3 BK654))
  go_ret
  exact ⟨zw, zb2 GE653 GE654⟩

/-! ### spec_LessPart: function 35 -/
def spec_LessPart.f (a0_0 : Int) (a0_1 : Int) (a0_2 : Bool) (a0_3 : Bool) (a1_0 : Int) (a1_1 : Int) (a1_2 : ByteArray) (a2_0 : Int) (a2_1 : Int) (a2_2 : ByteArray) : Option (Bool) := if a0_3 = true then ((spec_LessVal.f a2_0 a2_1 a2_2 a1_0 a1_1 a1_2).bind fun t658 => (some t658)) else ((spec_LessVal.f a1_0 a1_1 a1_2 a2_0 a2_1 a2_2).bind fun t659 => (some t659))
set_option maxHeartbeats 8000000 in
set_option maxRecDepth 100000 in
theorem spec_LessPart.calls (a0_0 : Int) (a0_1 : Int) (a0_2 : Bool) (a0_3 : Bool) (a1_0 : Int) (a1_1 : Int) (a1_2 : ByteArray) (a2_0 : Int) (a2_1 : Int) (a2_2 : ByteArray) (r : Bool) (w : World) (h : spec_LessPart.f a0_0 a0_1 a0_2 a0_3 a1_0 a1_1 a1_2 a2_0 a2_1 a2_2 = some r) :
  Calls Try.prog 35 #[.agg #[.int .i64 a0_0, .int .i64 a0_1, .bool a0_2, .bool a0_3], .agg #[.int .i64 a1_0, .int .i64 a1_1, .string a1_2], .agg #[.int .i64 a2_0, .int .i64 a2_1, .string a2_2]] w fun e w' => e = .returned (.bool r) ∧ Below w.heap.size w w' := by
 have hu30 := Try.underlying30
 have hu32 := Try.underlying32
 have HB := zA (Below.refl w.heap.size w)
 have H : (if a0_3 = true then ((spec_LessVal.f a2_0 a2_1 a2_2 a1_0 a1_1 a1_2).bind fun t658 => (some t658)) else ((spec_LessVal.f a1_0 a1_1 a1_2 a2_0 a2_1 a2_2).bind fun t659 => (some t659))) = some r := h
 clear h
 by_cases c4 : a0_3 = true
 ·subst c4
  rw [if_pos rfl] at H
  replace H := zI H
  obtain ⟨t658, A5, H⟩ := H
  obtain rfl := Option.some.inj H
  go_enter Try.func35, Try.ntmps35
  go_wp2_with (first | ((with_reducible refine zt 3 ?_); refine zn #[.int .i64 a0_0, .int .i64 a0_1, .bool a0_2, .bool true] 30 ?_; intro gb655 hg w6 hbox hb; have BK655 := zA hbox; have GW655 := zG hg; have GE655 := zG hg; replace HB := zS hb; clear hb hbox hg) | ((with_reducible refine zt 4 ?_); refine zn #[.int .i64 a1_0, .int .i64 a1_1, .string a1_2] 32 ?_; intro gb656 hg w7 hbox hb; have BK656 := zA hbox; have GW656 := zG hg (zb1 GE655); have GE656 := zG hg (zb1 GE655); replace HB := zS hb (zb1 GE655); have NB655_656 := zX BK655 hg; have NB656_655 := zY BK655 hg; replace BK655 := zB BK655 hb; clear hb hbox hg) | ((with_reducible refine zt 5 ?_); refine zn #[.int .i64 a2_0, .int .i64 a2_1, .string a2_2] 32 ?_; intro gb657 hg w8 hbox hb; have BK657 := zA hbox; have GW657 := zG hg (zb2 GE655 GE656); have GE657 := zG hg (zb2 GE655 GE656); replace HB := zS hb (zb2 GE655 GE656); have NB655_657 := zX BK655 hg; have NB657_655 := zY BK655 hg; replace BK655 := zB BK655 hb; have NB656_657 := zX BK656 hg; have NB657_656 := zY BK656 hg; replace BK656 := zB BK656 hb; clear hb hbox hg; have hnb9 := NB655_656.out; have hnc9 := NB656_655.out; have hnb10 := NB655_657.out; have hnc10 := NB657_655.out; obtain ⟨hcz11_0, hcz11_1, hcz11_2, hcz11_3, hfz11_0, hfz11_1, hfz11_2, hfz11_3⟩ := zh4 BK655; have hnb12 := NB657_656.out; have hnc12 := NB656_657.out; obtain ⟨hcz13_0, hcz13_1, hcz13_2, hfz13_0, hfz13_1, hfz13_2⟩ := zh3 BK657; obtain ⟨hcz14_0, hcz14_1, hcz14_2, hfz14_0, hfz14_1, hfz14_2⟩ := zh3 BK656) | ((with_reducible refine zg 85 ?_); refine gL (some 11) Try.func85 #[.agg #[.int .i64 a2_0, .int .i64 a2_1, .string a2_2], .agg #[.int .i64 a1_0, .int .i64 a1_1, .string a1_2]] ?_; (with_reducible refine (spec_LessVal.calls a2_0 a2_1 a2_2 a1_0 a1_1 a1_2 t658 _ A5.out).mono ?_); rintro e w15 ⟨rfl, hb⟩; refine ⟨_, rfl, ?_⟩; replace BK655 := zB BK655 hb; replace BK656 := zB BK656 hb; replace BK657 := zB BK657 hb; replace HB := zS hb zz29; (try clear hb)))
  go_ret
  exact ⟨zw, zz29⟩
 ·replace c4 := Bool.eq_false_iff.mpr c4
  subst c4
  rw [if_neg (Bool.false_ne_true)] at H
  replace H := zI H
  obtain ⟨t659, A16, H⟩ := H
  obtain rfl := Option.some.inj H
  go_enter Try.func35, Try.ntmps35
  go_wp2_with (first | ((with_reducible refine zt 3 ?_); refine zn #[.int .i64 a0_0, .int .i64 a0_1, .bool a0_2, .bool false] 30 ?_; intro gb655 hg w17 hbox hb; have BK655 := zA hbox; have GW655 := zG hg; have GE655 := zG hg; replace HB := zS hb; clear hb hbox hg) | ((with_reducible refine zt 4 ?_); refine zn #[.int .i64 a1_0, .int .i64 a1_1, .string a1_2] 32 ?_; intro gb656 hg w18 hbox hb; have BK656 := zA hbox; have GW656 := zG hg (zb1 GE655); have GE656 := zG hg (zb1 GE655); replace HB := zS hb (zb1 GE655); have NB655_656 := zX BK655 hg; have NB656_655 := zY BK655 hg; replace BK655 := zB BK655 hb; clear hb hbox hg) | ((with_reducible refine zt 5 ?_); refine zn #[.int .i64 a2_0, .int .i64 a2_1, .string a2_2] 32 ?_; intro gb657 hg w19 hbox hb; have BK657 := zA hbox; have GW657 := zG hg (zb2 GE655 GE656); have GE657 := zG hg (zb2 GE655 GE656); replace HB := zS hb (zb2 GE655 GE656); have NB655_657 := zX BK655 hg; have NB657_655 := zY BK655 hg; replace BK655 := zB BK655 hb; have NB656_657 := zX BK656 hg; have NB657_656 := zY BK656 hg; replace BK656 := zB BK656 hb; clear hb hbox hg; have hnb20 := NB655_656.out; have hnc20 := NB656_655.out; have hnb21 := NB655_657.out; have hnc21 := NB657_655.out; obtain ⟨hcz22_0, hcz22_1, hcz22_2, hcz22_3, hfz22_0, hfz22_1, hfz22_2, hfz22_3⟩ := zh4 BK655; have hnb23 := NB656_657.out; have hnc23 := NB657_656.out; obtain ⟨hcz24_0, hcz24_1, hcz24_2, hfz24_0, hfz24_1, hfz24_2⟩ := zh3 BK656; obtain ⟨hcz25_0, hcz25_1, hcz25_2, hfz25_0, hfz25_1, hfz25_2⟩ := zh3 BK657) | ((with_reducible refine zg 85 ?_); refine gL (some 14) Try.func85 #[.agg #[.int .i64 a1_0, .int .i64 a1_1, .string a1_2], .agg #[.int .i64 a2_0, .int .i64 a2_1, .string a2_2]] ?_; (with_reducible refine (spec_LessVal.calls a1_0 a1_1 a1_2 a2_0 a2_1 a2_2 t659 _ A16.out).mono ?_); rintro e w26 ⟨rfl, hb⟩; refine ⟨_, rfl, ?_⟩; replace BK655 := zB BK655 hb; replace BK656 := zB BK656 hb; replace BK657 := zB BK657 hb; replace HB := zS hb zz29; (try clear hb)))
  go_ret
  exact ⟨zw, zz29⟩

/-! ### spec_SameVal: function 92 -/
def spec_SameVal.f (a0_0 : Int) (a0_1 : Int) (a0_2 : ByteArray) (a1_0 : Int) (a1_1 : Int) (a1_2 : ByteArray) : Option (Bool) := some (a0_0 == a1_0 && (a0_1 == a1_1 && (a0_2.toList == a1_2.toList)))
set_option maxHeartbeats 8000000 in
set_option maxRecDepth 100000 in
theorem spec_SameVal.calls (a0_0 : Int) (a0_1 : Int) (a0_2 : ByteArray) (a1_0 : Int) (a1_1 : Int) (a1_2 : ByteArray) (r : Bool) (w : World) (h : spec_SameVal.f a0_0 a0_1 a0_2 a1_0 a1_1 a1_2 = some r) :
  Calls Try.prog 92 #[.agg #[.int .i64 a0_0, .int .i64 a0_1, .string a0_2], .agg #[.int .i64 a1_0, .int .i64 a1_1, .string a1_2]] w fun e w' => e = .returned (.bool r) ∧ Below w.heap.size w w' := by
 have hu32 := Try.underlying32
 have HB := zA (Below.refl w.heap.size w)
 have H : (some (a0_0 == a1_0 && (a0_1 == a1_1 && (a0_2.toList == a1_2.toList)))) = some r := h
 clear h
 obtain rfl := Option.some.inj H
 go_enter Try.func92, Try.ntmps92
 go_wp2_with (first | ((with_reducible refine zt 2 ?_); refine zn #[.int .i64 a0_0, .int .i64 a0_1, .string a0_2] 32 ?_; intro gb660 hg w3 hbox hb; have BK660 := zA hbox; have GW660 := zG hg; have GE660 := zG hg; replace HB := zS hb; clear hb hbox hg) | ((with_reducible refine zt 3 ?_); refine zn #[.int .i64 a1_0, .int .i64 a1_1, .string a1_2] 32 ?_; intro gb661 hg w4 hbox hb; have BK661 := zA hbox; have GW661 := zG hg (zb1 GE660); have GE661 := zG hg (zb1 GE660); replace HB := zS hb (zb1 GE660); have NB660_661 := zX BK660 hg; have NB661_660 := zY BK660 hg; replace BK660 := zB BK660 hb; clear hb hbox hg; have hnb5 := NB660_661.out; have hnc5 := NB661_660.out; obtain ⟨hcz6_0, hcz6_1, hcz6_2, hfz6_0, hfz6_1, hfz6_2⟩ := zh3 BK660; obtain ⟨hcz7_0, hcz7_1, hcz7_2, hfz7_0, hfz7_1, hfz7_2⟩ := zh3 BK661))
 go_ret
 exact ⟨zw, zb2 GE660 GE661⟩

end Go.Proofs.Ytnfmpopmigbkoaa.PFnLessKeys

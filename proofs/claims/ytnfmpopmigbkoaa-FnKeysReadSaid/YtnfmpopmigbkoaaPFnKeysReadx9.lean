-- Written by mkprint.py, a program of this session (the printer with additions of its own)
import Derived.Test.YtnfmpopmigbkoaaPFnKeysReadx0
import Derived.Test.YtnfmpopmigbkoaaPFnKeysReadx6
import Derived.Test.YtnfmpopmigbkoaaPFnKeysReadx8
namespace Go.Proofs.Ytnfmpopmigbkoaa.PFnKeysRead
open Go.RowKit Go.Proofs.YtnfmpopmigbkoaaW.PrintWords Go.Proofs.YtnfmpopmigbkoaaW.PrintLast Go.Proofs.YtnfmpopmigbkoaaW.PrintMore
attribute [local go_sem] max2_int min2_int max_two min_two max_three min_three max_four min_four   -- for this text's walks alone
set_option linter.unusedVariables false
set_option linter.unusedSimpArgs false

/-! ### spec_GetPart: function 22 -/
mutual
def spec_GetPart.j0 : Nat → List Int → Int → Bool → Int → Int → Bool → Bool → Option (Int × Int × ByteArray × Int × Bool)
  | 0, _, _, _, _, _, _, _ => none
  | k + 1, x0, x2, x25, x314000, x314001, x314002, x314003 => if x25 = true then (some (0, 0, (⟨#[]⟩ : ByteArray), 0, false)) else (if x314003 = true then ((spec_Flip.f k x0 0).bind fun t316 => (if x314002 = true then (if x2 = (t316.length : Int) then (spec_GetPart.j1 k x2 t316 true x314000 x314001 x314002 x314003) else (if 0 ≤ x2 then (if x2 < (t316.length : Int) then (spec_GetPart.j1 k x2 t316 (decide ((rd t316 x2) > 1)) x314000 x314001 x314002 x314003) else (none)) else (none))) else (spec_GetPart.j2 k x2 t316 x314000 x314001 x314002 x314003))) else (if x314002 = true then (if x2 = (x0.length : Int) then (spec_GetPart.j3 k x2 x0 true x314000 x314001 x314002 x314003) else (if 0 ≤ x2 then (if x2 < (x0.length : Int) then (spec_GetPart.j3 k x2 x0 (decide ((rd x0 x2) > 1)) x314000 x314001 x314002 x314003) else (none)) else (none))) else (spec_GetPart.j4 k x2 x0 x314000 x314001 x314002 x314003)))
def spec_GetPart.j2 : Nat → Int → List Int → Int → Int → Bool → Bool → Option (Int × Int × ByteArray × Int × Bool)
  | 0, _, _, _, _, _, _ => none
  | k + 1, x2, x9, x314000, x314001, x314002, x314003 => (spec_l5Get.f k x9 x314001 x2).bind fun bt321 => (if bt321.2.2.2.2 = true then ((spec_ValOk.f bt321.1 bt321.2.1 bt321.2.2.1).bind fun t327 => (if t327 = true then (some (bt321.1, bt321.2.1, bt321.2.2.1, bt321.2.2.2.1, true)) else (some (0, 0, (⟨#[]⟩ : ByteArray), 0, false)))) else (some (0, 0, (⟨#[]⟩ : ByteArray), 0, false)))
def spec_GetPart.j1 : Nat → Int → List Int → Bool → Int → Int → Bool → Bool → Option (Int × Int × ByteArray × Int × Bool)
  | 0, _, _, _, _, _, _, _ => none
  | k + 1, x2, x9, x44, x314000, x314001, x314002, x314003 => if x44 = true then (some (0, 0, (⟨#[]⟩ : ByteArray), 0, false)) else (if 0 ≤ x2 then (if x2 < (x9.length : Int) then (if (rd x9 x2) = 0 then (some (0, 0, (⟨#[]⟩ : ByteArray), wrap64 (x2 + 1), true)) else (spec_GetPart.j2 k (wrap64 (x2 + 1)) x9 x314000 x314001 x314002 x314003)) else (none)) else (none))
def spec_GetPart.j4 : Nat → Int → List Int → Int → Int → Bool → Bool → Option (Int × Int × ByteArray × Int × Bool)
  | 0, _, _, _, _, _, _ => none
  | k + 1, x2, x9, x314000, x314001, x314002, x314003 => (spec_l5Get.f k x9 x314001 x2).bind fun bt330 => (if bt330.2.2.2.2 = true then ((spec_ValOk.f bt330.1 bt330.2.1 bt330.2.2.1).bind fun t336 => (if t336 = true then (some (bt330.1, bt330.2.1, bt330.2.2.1, bt330.2.2.2.1, true)) else (some (0, 0, (⟨#[]⟩ : ByteArray), 0, false)))) else (some (0, 0, (⟨#[]⟩ : ByteArray), 0, false)))
def spec_GetPart.j3 : Nat → Int → List Int → Bool → Int → Int → Bool → Bool → Option (Int × Int × ByteArray × Int × Bool)
  | 0, _, _, _, _, _, _, _ => none
  | k + 1, x2, x9, x44, x314000, x314001, x314002, x314003 => if x44 = true then (some (0, 0, (⟨#[]⟩ : ByteArray), 0, false)) else (if 0 ≤ x2 then (if x2 < (x9.length : Int) then (if (rd x9 x2) = 0 then (some (0, 0, (⟨#[]⟩ : ByteArray), wrap64 (x2 + 1), true)) else (spec_GetPart.j4 k (wrap64 (x2 + 1)) x9 x314000 x314001 x314002 x314003)) else (none)) else (none))
end
def spec_GetPart.f (k : Nat) (l0 : List Int) (a1_0 : Int) (a1_1 : Int) (a1_2 : Bool) (a1_3 : Bool) (a2 : Int) : Option (Int × Int × ByteArray × Int × Bool) := (spec_PartOk.f a1_0 a1_1 a1_2 a1_3).bind fun t315 => (if t315 = true then (if a2 < 0 then (spec_GetPart.j0 k l0 a2 true a1_0 a1_1 a1_2 a1_3) else (spec_GetPart.j0 k l0 a2 (decide (a2 > (l0.length : Int))) a1_0 a1_1 a1_2 a1_3)) else (spec_GetPart.j0 k l0 a2 true a1_0 a1_1 a1_2 a1_3))
set_option maxHeartbeats 8000000 in
set_option maxRecDepth 100000 in
theorem spec_GetPart.calls (k : Nat) (A0 : Option Addr) (c0 : Nat) (l0 : List Int) (a1_0 : Int) (a1_1 : Int) (a1_2 : Bool) (a1_3 : Bool) (a2 : Int) (r1 : Int) (r2 : Int) (r3 : ByteArray) (r4 : Int) (r5 : Bool) (w : World) (hr0 : Kd.C (Kd.int .u8) w A0 l0.length l0) (hc0 : l0.length ≤ c0) (h : spec_GetPart.f k l0 a1_0 a1_1 a1_2 a1_3 a2 = some (r1, r2, r3, r4, r5)) :
  Calls Try.prog 22 #[.slice A0 l0.length c0, .agg #[.int .i64 a1_0, .int .i64 a1_1, .bool a1_2, .bool a1_3], .int .i64 a2] w fun e w' => e = .returned (.tuple #[.agg #[.int .i64 r1, .int .i64 r2, .string r3], .int .i64 r4, .bool r5]) ∧ Below w.heap.size w w' := by
 have hu30 := Try.underlying30
 have hu32 := Try.underlying32
 have HR0 := zA hr0
 have HC0 := zA hc0
 clear hr0 hc0
 have HB := zA (Below.refl w.heap.size w)
 have H : ((spec_PartOk.f a1_0 a1_1 a1_2 a1_3).bind fun t315 => (if t315 = true then (if a2 < 0 then (spec_GetPart.j0 k l0 a2 true a1_0 a1_1 a1_2 a1_3) else (spec_GetPart.j0 k l0 a2 (decide (a2 > (l0.length : Int))) a1_0 a1_1 a1_2 a1_3)) else (spec_GetPart.j0 k l0 a2 true a1_0 a1_1 a1_2 a1_3))) = some (r1, r2, r3, r4, r5) := h
 clear h
 have HC4 := zA H
 clear H
 go_enter Try.func22, Try.ntmps22
 go_upto_region 1 with (first | ((with_reducible refine zt 4 ?_); (try (refine gate_guard (by rfl) ?_; dsimp only)); refine zn #[.int .i64 a1_0, .int .i64 a1_1, .bool a1_2, .bool a1_3] 30 ?_; intro gb313 hg w5 hbox hb; have BK313 := zA hbox; have GW313 := zG hg; have GE313 := zG hg; replace HB := zS hb; clear hb hbox hg) | ((with_reducible refine zt 6 ?_); (try (refine gate_guard (by rfl) ?_; dsimp only)); refine zn #[.int .i64 0, .int .i64 0, .string (⟨#[]⟩ : ByteArray)] 32 ?_; intro gb314 hg w6 hbox hb; have BK314 := zA hbox; have GW314 := zG hg (zb1 GE313); have GE314 := zG hg (zb1 GE313); replace HB := zS hb (zb1 GE313); have NB313_314 := zX BK313 hg; have NB314_313 := zY BK313 hg; replace BK313 := zB BK313 hb; clear hb hbox hg))
 (try simp only [Act.put, List.setIfInBounds_toArray, List.set_cons_zero, List.set_cons_succ])
 go_cut [25] (fun v25 wc => ∃ (kq : Nat) (x25_3 : Bool), v25 = .bool x25_3 ∧ Aside0 (spec_GetPart.j0 kq l0 a2 x25_3 a1_0 a1_1 a1_2 a1_3 = some (r1, r2, r3, r4, r5)) ∧ Aside0 (kq ≤ k) ∧ Aside0 (wc.heap[gb313]? = some (.cells #[.int .i64 a1_0, .int .i64 a1_1, .bool a1_2, .bool a1_3] 30 (0, 0))) ∧ Aside0 (wc.heap[gb314]? = some (.cells #[.int .i64 0, .int .i64 0, .string (⟨#[]⟩ : ByteArray)] 32 (0, 0))) ∧ Aside0 (Below w.heap.size w wc))
 case first =>
  have H := HC4.out
  clear HC4
  replace H := zI H
  obtain ⟨t315, A7, H⟩ := H
  by_cases c8 : t315 = true
  ·subst c8
   rw [if_pos rfl] at H
   by_cases c9 : a2 < 0
   ·rw [if_pos c9] at H
    have c9b0 : decide (a2 < 0) = true := decide_eq_true c9
    clear c9
    (first | rw [c9b0] | (simp only [i64_w, i32_w]; rw [c9b0]) | skip)
    have H' := zA H
    clear H
    have hnb10 := NB313_314.out
    have hnc10 := NB314_313.out
    obtain ⟨hcz11_0, hcz11_1, hcz11_2, hcz11_3, hfz11_0, hfz11_1, hfz11_2, hfz11_3⟩ := zh4 BK313
    go_wp2_with (first | ((with_reducible refine zg 27 ?_); refine gL (some 14) Try.func27 #[.agg #[.int .i64 a1_0, .int .i64 a1_1, .bool a1_2, .bool a1_3]] ?_; (with_reducible refine (spec_PartOk.calls a1_0 a1_1 a1_2 a1_3 true _ A7.out).mono ?_); rintro e w12 ⟨rfl, hb⟩; refine ⟨_, rfl, ?_⟩; replace BK313 := zB BK313 hb; replace BK314 := zB BK314 hb; replace HB := zS hb (zb2 GE313 GE314); (try clear hb)))
    go_meet
    case rel => exact ⟨_, (true), zx, H', ⟨zo⟩, ⟨zk BK313⟩, ⟨zk BK314⟩, ⟨zb2 GE313 GE314⟩⟩
   ·rw [if_neg c9] at H
    have c9b0 : decide (a2 < 0) = false := decide_eq_false c9
    clear c9
    (first | rw [c9b0] | (simp only [i64_w, i32_w]; rw [c9b0]) | skip)
    have H' := zA H
    clear H
    have hnb13 := NB313_314.out
    have hnc13 := NB314_313.out
    obtain ⟨hcz14_0, hcz14_1, hcz14_2, hcz14_3, hfz14_0, hfz14_1, hfz14_2, hfz14_3⟩ := zh4 BK313
    go_wp2_with (first | ((with_reducible refine zg 27 ?_); refine gL (some 14) Try.func27 #[.agg #[.int .i64 a1_0, .int .i64 a1_1, .bool a1_2, .bool a1_3]] ?_; (with_reducible refine (spec_PartOk.calls a1_0 a1_1 a1_2 a1_3 true _ A7.out).mono ?_); rintro e w15 ⟨rfl, hb⟩; refine ⟨_, rfl, ?_⟩; replace BK313 := zB BK313 hb; replace BK314 := zB BK314 hb; replace HB := zS hb (zb2 GE313 GE314); (try clear hb)))
    go_meet
    case rel => exact ⟨_, (decide (a2 > (l0.length : Int))), zx, H', ⟨zo⟩, ⟨zk BK313⟩, ⟨zk BK314⟩, ⟨zb2 GE313 GE314⟩⟩
  ·replace c8 := Bool.eq_false_iff.mpr c8
   subst c8
   rw [if_neg (Bool.false_ne_true)] at H
   have H' := zA H
   clear H
   have hnb16 := NB313_314.out
   have hnc16 := NB314_313.out
   obtain ⟨hcz17_0, hcz17_1, hcz17_2, hcz17_3, hfz17_0, hfz17_1, hfz17_2, hfz17_3⟩ := zh4 BK313
   go_wp2_with (first | ((with_reducible refine zg 27 ?_); refine gL (some 14) Try.func27 #[.agg #[.int .i64 a1_0, .int .i64 a1_1, .bool a1_2, .bool a1_3]] ?_; (with_reducible refine (spec_PartOk.calls a1_0 a1_1 a1_2 a1_3 false _ A7.out).mono ?_); rintro e w18 ⟨rfl, hb⟩; refine ⟨_, rfl, ?_⟩; replace BK313 := zB BK313 hb; replace BK314 := zB BK314 hb; replace HB := zS hb (zb2 GE313 GE314); (try clear hb)))
   go_meet
   case rel => exact ⟨_, (true), zx, H', ⟨zo⟩, ⟨zk BK313⟩, ⟨zk BK314⟩, ⟨zb2 GE313 GE314⟩⟩
 case rest =>
  clear HC4
  obtain ⟨kq, x25_3, rfl, HA, HJ3, BK313, BK314, HB⟩ := hcut
  cases kq with
  | zero => exact absurd HA.out (by simp [spec_GetPart.j0])
  | succ kj3 =>
   have H := HA.out
   clear HA
   simp only [spec_GetPart.j0] at H
   by_cases c19 : x25_3 = true
   ·subst c19
    rw [if_pos rfl] at H
    simp only [Option.some.injEq, Prod.mk.injEq] at H
    obtain ⟨rfl, rfl, rfl, rfl, rfl⟩ := H
    have hnb20 := NB314_313.out
    have hnc20 := NB313_314.out
    obtain ⟨hcz21_0, hcz21_1, hcz21_2, hfz21_0, hfz21_1, hfz21_2⟩ := zh3 BK314
    go_wp2
    refine bodyPost_ret (results_ctt rfl _ _ gb314 32 #[.int .i64 0, .int .i64 0, .string (⟨#[]⟩ : ByteArray)] (0, 0) _ rfl zz11 Try.underlying32 rfl (by kernel_rfl)) rfl ?_
    exact ⟨zw, zb2 GE313 GE314⟩
   ·replace c19 := Bool.eq_false_iff.mpr c19
    subst c19
    rw [if_neg (Bool.false_ne_true)] at H
    by_cases c22 : a1_3 = true
    ·subst c22
     rw [if_pos rfl] at H
     replace H := zI H
     obtain ⟨t316, A23, H⟩ := H
     have HC24 := zA H
     clear H
     have hnb25 := NB313_314.out
     have hnc25 := NB314_313.out
     obtain ⟨hcz26_0, hcz26_1, hcz26_2, hcz26_3, hfz26_0, hfz26_1, hfz26_2, hfz26_3⟩ := zh4 BK313
     go_upto_if 33 with (first | ((with_reducible refine zg 68 ?_); refine gL (some 31) Try.func68 #[.slice A0 l0.length c0, .int .i64 0] ?_; (with_reducible refine (spec_Flip.calls kj3 _ _ l0 0 t316 _ ?z1 ?z2 A23.out).mono ?_); (case z1 => exact zd HR0); (case z2 => exact HC0.out); rintro e w27 ⟨v317, rfl, ho0, hb⟩; refine ⟨_, rfl, ?_⟩; have HO318 := zL ho0 (zb2 GE313 GE314); replace BK313 := zB BK313 hb; replace BK314 := zB BK314 hb; replace HB := zS hb (zb2 GE313 GE314); clear hb ho0; obtain ⟨hcz28_0, hcz28_1, hcz28_2, hcz28_3, hfz28_0, hfz28_1, hfz28_2, hfz28_3⟩ := zh4 BK313))
     (try simp only [Act.put, List.setIfInBounds_toArray, List.set_cons_zero, List.set_cons_succ])
     go_cut [2] (fun v2 wc => ∃ (kq : Nat) (x2_23 : Int) (x315000_23 : Int) (x315001_23 : Int) (x315002_23 : ByteArray), v2 = .int .i64 x2_23 ∧ Aside0 (spec_GetPart.j2 kq x2_23 t316 a1_0 a1_1 a1_2 true = some (r1, r2, r3, r4, r5)) ∧ Aside0 (kq ≤ kj3) ∧ Aside0 (Kd.R (Kd.int .u8) 5 wc w.heap.size (fun _ => True) v317 t316) ∧ Aside0 (wc.heap[gb313]? = some (.cells #[.int .i64 a1_0, .int .i64 a1_1, .bool a1_2, .bool true] 30 (0, 0))) ∧ Aside0 (wc.heap[gb314]? = some (.cells #[.int .i64 x315000_23, .int .i64 x315001_23, .string x315002_23] 32 (0, 0))) ∧ Aside0 (Below w.heap.size w wc))
     case first =>
      have H := HC24.out
      clear HC24
      by_cases c29 : a1_2 = true
      ·subst c29
       rw [if_pos rfl] at H
       have HC30 := zA H
       clear H
       go_upto_region 7 with (fail)
       go_cut [44] (fun v44 wc => ∃ (kq : Nat) (x44_29 : Bool), v44 = .bool x44_29 ∧ Aside0 (spec_GetPart.j1 kq a2 t316 x44_29 a1_0 a1_1 true true = some (r1, r2, r3, r4, r5)) ∧ Aside0 (kq ≤ kj3) ∧ Aside0 (Kd.R (Kd.int .u8) 5 wc w.heap.size (fun _ => True) v317 t316) ∧ Aside0 (wc.heap[gb313]? = some (.cells #[.int .i64 a1_0, .int .i64 a1_1, .bool true, .bool true] 30 (0, 0))) ∧ Aside0 (wc.heap[gb314]? = some (.cells #[.int .i64 0, .int .i64 0, .string (⟨#[]⟩ : ByteArray)] 32 (0, 0))) ∧ Aside0 (Below w.heap.size w wc))
       case first =>
        have H := HC30.out
        clear HC30
        by_cases c31 : a2 = (t316.length : Int)
        ·rw [if_pos c31] at H
         have c31b0 : (a2 == (t316.length : Int)) = true := beq_iff_eq.mpr c31
         have c31b1 : (a2 != (t316.length : Int)) = false := bne_eq_false_iff_eq.mpr c31
         clear c31
         (first | rw [c31b0] | (simp only [i64_w, i32_w]; rw [c31b0]) | skip)
         have H' := zA H
         clear H
         obtain ⟨Ao32, co32, eo32⟩ := Kd.R_slice HO318.out
         subst eo32
         go_wp2
         go_meet
         case rel => exact ⟨_, (true), zx, H', ⟨zz77⟩, ⟨zr HO318⟩, ⟨zk BK313⟩, ⟨zk BK314⟩, ⟨zb2 GE313 GE314⟩⟩
        ·rw [if_neg c31] at H
         have c31b0 : (a2 == (t316.length : Int)) = false := beq_eq_false_iff_ne.mpr c31
         have c31b1 : (a2 != (t316.length : Int)) = true := bne_iff_ne.mpr c31
         (first | rw [c31b0] | (simp only [i64_w, i32_w]; rw [c31b0]) | skip)
         by_cases c33 : 0 ≤ a2
         ·rw [if_pos c33] at H
          have c33b0 : decide (0 ≤ a2) = true := decide_eq_true c33
          clear c33
          by_cases c34 : a2 < (t316.length : Int)
          ·rw [if_pos c34] at H
           have c34b0 : decide (a2 < (t316.length : Int)) = true := decide_eq_true c34
           clear c34
           have H' := zA H
           clear H
           obtain ⟨Ao35, co35, eo35⟩ := Kd.R_slice HO318.out
           subst eo35
           have p319 : 0 ≤ (a2 : Int) := of_decide_eq_true za
           have q319 : a2 < (t316.length : Int) := of_decide_eq_true za
           obtain ⟨ad319, e319, hx319_0⟩ := Kd.at_int (Kd.R_reads' HO318.out).2.2 a2 p319 q319
           cases e319
           replace p319 := eq_true p319
           replace q319 := eq_true q319
           go_wp2
           go_meet
           case rel => exact ⟨_, (decide ((rd t316 a2) > 1)), zx, H', ⟨zz77⟩, ⟨zr HO318⟩, ⟨zk BK313⟩, ⟨zk BK314⟩, ⟨zb2 GE313 GE314⟩⟩
          ·rw [if_neg c34] at H
           exact absurd H (by simp)
         ·rw [if_neg c33] at H
          exact absurd H (by simp)
       case rest =>
        clear HC30
        try clear c19; try clear c22; try clear c29; try clear hcz26_0; try clear hcz26_1; try clear hcz26_2; try clear hcz26_3; try clear hcz28_0; try clear hcz28_1; try clear hcz28_2; try clear hcz28_3; try clear hfz26_0; try clear hfz26_1; try clear hfz26_2; try clear hfz26_3; try clear hfz28_0; try clear hfz28_1; try clear hfz28_2; try clear hfz28_3
        obtain ⟨kq, x44_29, rfl, HA, HJ29, HO_9, BK313, BK314, HB⟩ := hcut
        cases kq with
        | zero => exact absurd HA.out (by simp [spec_GetPart.j1])
        | succ kj29 =>
         have H := HA.out
         clear HA
         simp only [spec_GetPart.j1] at H
         by_cases c36 : x44_29 = true
         ·subst c36
          rw [if_pos rfl] at H
          simp only [Option.some.injEq, Prod.mk.injEq] at H
          obtain ⟨rfl, rfl, rfl, rfl, rfl⟩ := H
          have hnb37 := NB314_313.out
          have hnc37 := NB313_314.out
          obtain ⟨hcz38_0, hcz38_1, hcz38_2, hfz38_0, hfz38_1, hfz38_2⟩ := zh3 BK314
          go_wp2
          refine bodyPost_ret (results_ctt rfl _ _ gb314 32 #[.int .i64 0, .int .i64 0, .string (⟨#[]⟩ : ByteArray)] (0, 0) _ rfl zz11 Try.underlying32 rfl (by kernel_rfl)) rfl ?_
          exact ⟨zw, zb2 GE313 GE314⟩
         ·replace c36 := Bool.eq_false_iff.mpr c36
          subst c36
          rw [if_neg (Bool.false_ne_true)] at H
          by_cases c39 : 0 ≤ a2
          ·rw [if_pos c39] at H
           have c39b0 : decide (0 ≤ a2) = true := decide_eq_true c39
           clear c39
           by_cases c40 : a2 < (t316.length : Int)
           ·rw [if_pos c40] at H
            have c40b0 : decide (a2 < (t316.length : Int)) = true := decide_eq_true c40
            clear c40
            by_cases c41 : (rd t316 a2) = 0
            ·rw [if_pos c41] at H
             have c41b0 : ((rd t316 a2) == 0) = true := beq_iff_eq.mpr c41
             have c41b1 : ((rd t316 a2) != 0) = false := bne_eq_false_iff_eq.mpr c41
             clear c41
             simp only [Option.some.injEq, Prod.mk.injEq] at H
             obtain ⟨rfl, rfl, rfl, rfl, rfl⟩ := H
             obtain ⟨Ao42, co42, eo42⟩ := Kd.R_slice HO_9.out
             subst eo42
             have p320 : 0 ≤ (a2 : Int) := of_decide_eq_true za
             have q320 : a2 < (t316.length : Int) := of_decide_eq_true za
             obtain ⟨ad320, e320, hx320_0⟩ := Kd.at_int (Kd.R_reads' HO_9.out).2.2 a2 p320 q320
             cases e320
             replace p320 := eq_true p320
             replace q320 := eq_true q320
             have hnb43 := NB314_313.out
             have hnc43 := NB313_314.out
             obtain ⟨hcz44_0, hcz44_1, hcz44_2, hfz44_0, hfz44_1, hfz44_2⟩ := zh3 BK314
             go_wp2
             refine bodyPost_ret (results_ctt rfl _ _ gb314 32 #[.int .i64 0, .int .i64 0, .string (⟨#[]⟩ : ByteArray)] (0, 0) _ rfl zz11 Try.underlying32 rfl (by kernel_rfl)) rfl ?_
             exact ⟨zw, zb2 GE313 GE314⟩
            ·rw [if_neg c41] at H
             have c41b0 : ((rd t316 a2) == 0) = false := beq_eq_false_iff_ne.mpr c41
             have c41b1 : ((rd t316 a2) != 0) = true := bne_iff_ne.mpr c41
             have H' := zA H
             clear H
             obtain ⟨Ao45, co45, eo45⟩ := Kd.R_slice HO_9.out
             subst eo45
             have p320 : 0 ≤ (a2 : Int) := of_decide_eq_true za
             have q320 : a2 < (t316.length : Int) := of_decide_eq_true za
             obtain ⟨ad320, e320, hx320_0⟩ := Kd.at_int (Kd.R_reads' HO_9.out).2.2 a2 p320 q320
             cases e320
             replace p320 := eq_true p320
             replace q320 := eq_true q320
             go_wp2
             go_meet
             case rel => exact ⟨_, (wrap64 (a2 + 1)), (0), (0), ((⟨#[]⟩ : ByteArray)), zx, H', ⟨by have := HJ3.out; have := HJ29.out; first | omega | exact Nat.le_refl _⟩, ⟨zr HO_9⟩, ⟨zk BK313⟩, ⟨zk BK314⟩, ⟨zb2 GE313 GE314⟩⟩
           ·rw [if_neg c40] at H
            exact absurd H (by simp)
          ·rw [if_neg c39] at H
           exact absurd H (by simp)
      ·replace c29 := Bool.eq_false_iff.mpr c29
       subst c29
       rw [if_neg (Bool.false_ne_true)] at H
       have H' := zA H
       clear H
       go_wp2
       go_meet
       case rel => exact ⟨_, (a2), (0), (0), ((⟨#[]⟩ : ByteArray)), zx, H', ⟨zz77⟩, ⟨zr HO318⟩, ⟨zk BK313⟩, ⟨zk BK314⟩, ⟨zb2 GE313 GE314⟩⟩
     case rest =>
      clear HC24
      try clear c19; try clear c22; try clear hcz26_0; try clear hcz26_1; try clear hcz26_2; try clear hcz26_3; try clear hcz28_0; try clear hcz28_1; try clear hcz28_2; try clear hcz28_3; try clear hfz26_0; try clear hfz26_1; try clear hfz26_2; try clear hfz26_3; try clear hfz28_0; try clear hfz28_1; try clear hfz28_2; try clear hfz28_3
      obtain ⟨kq, x2_23, x315000_23, x315001_23, x315002_23, rfl, HA, HJ23, HO_9, BK313, BK314, HB⟩ := hcut
      cases kq with
      | zero => exact absurd HA.out (by simp [spec_GetPart.j2])
      | succ kj23 =>
       have H := HA.out
       clear HA
       simp only [spec_GetPart.j2] at H
       replace H := zI H
       obtain ⟨⟨t321, t322, t323, t324, t325⟩, A46, H⟩ := H
       try dsimp only at H
       by_cases c47 : t325 = true
       ·subst c47
        rw [if_pos rfl] at H
        replace H := zI H
        obtain ⟨t327, A48, H⟩ := H
        by_cases c49 : t327 = true
        ·subst c49
         rw [if_pos rfl] at H
         simp only [Option.some.injEq, Prod.mk.injEq] at H
         obtain ⟨rfl, rfl, rfl, rfl, rfl⟩ := H
         have hnb50 := NB313_314.out
         have hnc50 := NB314_313.out
         obtain ⟨hcz51_0, hcz51_1, hcz51_2, hcz51_3, hfz51_0, hfz51_1, hfz51_2, hfz51_3⟩ := zh4 BK313
         obtain ⟨Ao52, co52, eo52⟩ := Kd.R_slice HO_9.out
         subst eo52
         go_wp2_with (first | ((with_reducible refine zg 71 ?_); refine gL (some 61) Try.func71 #[.slice Ao52 t316.length co52, .int .i64 a1_1, .int .i64 x2_23] ?_; (with_reducible refine (spec_l5Get.calls kj23 _ _ t316 a1_1 x2_23 t321 t322 t323 t324 true _ ?z1 ?z2 A46.out).mono ?_); (case z1 => exact ze HO_9); (case z2 => exact zl HO_9); rintro e w53 ⟨rfl, hb⟩; refine ⟨_, rfl, ?_⟩; replace HO_9 := zR HO_9 hb; replace BK313 := zB BK313 hb; replace BK314 := zB BK314 hb; replace HB := zS hb (zb2 GE313 GE314); (try clear hb)) | ((with_reducible refine zt 10 ?_); (try (refine gate_guard (by rfl) ?_; dsimp only)); refine zn #[.int .i64 0, .int .i64 0, .string (⟨#[]⟩ : ByteArray)] 32 ?_; intro gb326 hg w54 hbox hb; replace HO_9 := zR HO_9 hb; have BK326 := zA hbox; have GW326 := zG hg (zb2 GE313 GE314); have GE326 := zG hg (zb2 GE313 GE314); replace HB := zS hb (zb2 GE313 GE314); have NB313_326 := zX BK313 hg; have NB326_313 := zY BK313 hg; replace BK313 := zB BK313 hb; have NB314_326 := zX BK314 hg; have NB326_314 := zY BK314 hg; replace BK314 := zB BK314 hb; clear hb hbox hg; have hnb55 := NB326_313.out; have hnc55 := NB313_326.out; have hnb56 := NB326_314.out; have hnc56 := NB314_326.out; obtain ⟨hcz57_0, hcz57_1, hcz57_2, hfz57_0, hfz57_1, hfz57_2⟩ := zh3 BK326) | (go_at_call 72; (with_reducible refine (spec_ValOk.calls t321 t322 t323 true _ A48.out).mono ?_); rintro e w58 ⟨rfl, hb⟩; replace HO_9 := zA (Kd.R_below (by (with_reducible repeat (first | apply Kd.R_alloc | apply Kd.R_drewN | apply Kd.R_drew)); exact (Kd.R_mono (Kd.R_far (p := ⟨gb326, 2, none⟩) (Kd.R_far (p := ⟨gb326, 1, none⟩) (Kd.R_far (p := ⟨gb326, 0, none⟩) (Kd.R_types HO_9.out BK326.out (by decide)) (fun _ hk => hk.2) (.int .i64 t321)) (fun _ hk => hk.2) (.int .i64 t322)) (fun _ hk => hk.2) (.string t323)) (fun _ h_ => h_.1))) hb); replace BK313 := zA (blk_below (g := gb313) (o := .cells #[.int .i64 a1_0, .int .i64 a1_1, .bool a1_2, .bool true] 30 (0, 0)) zz58 hb); replace BK314 := zA (blk_below (g := gb314) (o := .cells #[.int .i64 x315000_23, .int .i64 x315001_23, .string x315002_23] 32 (0, 0)) zz59 hb); replace BK326 := zA (blk_below (g := gb326) (o := .cells #[.int .i64 t321, .int .i64 t322, .string t323] 32 (0, 0)) zz41 hb); replace HB := zS hb zz50; (try clear hb); obtain ⟨hcz59_0, hcz59_1, hcz59_2, hfz59_0, hfz59_1, hfz59_2⟩ := zh3 BK326; obtain ⟨hcz60_0, hcz60_1, hcz60_2, hfz60_0, hfz60_1, hfz60_2⟩ := zh3 BK314))
         refine bodyPost_ret (results_ctt rfl _ _ gb314 32 #[.int .i64 t321, .int .i64 t322, .string t323] (0, 0) _ rfl (by (with_reducible repeat (first | refine blk_drewN ?_ _ | refine blk_drew ?_ | refine blk_alloc ?_ _)); refine blk_put (cs := #[.int .i64 t321, .int .i64 t322, .string x315002_23]) ?_ 2 _ rfl; (with_reducible repeat (first | refine blk_drewN ?_ _ | refine blk_drew ?_ | refine blk_alloc ?_ _)); refine blk_put (cs := #[.int .i64 t321, .int .i64 x315001_23, .string x315002_23]) ?_ 1 _ rfl; (with_reducible repeat (first | refine blk_drewN ?_ _ | refine blk_drew ?_ | refine blk_alloc ?_ _)); refine blk_put (cs := #[.int .i64 x315000_23, .int .i64 x315001_23, .string x315002_23]) ?_ 0 _ rfl; (with_reducible repeat (first | refine blk_drewN ?_ _ | refine blk_drew ?_ | refine blk_alloc ?_ _)); exact BK314.out) Try.underlying32 rfl (by kernel_rfl)) rfl ?_
         exact ⟨zw, zz50⟩
        ·replace c49 := Bool.eq_false_iff.mpr c49
         subst c49
         rw [if_neg (Bool.false_ne_true)] at H
         simp only [Option.some.injEq, Prod.mk.injEq] at H
         obtain ⟨rfl, rfl, rfl, rfl, rfl⟩ := H
         have hnb61 := NB313_314.out
         have hnc61 := NB314_313.out
         obtain ⟨hcz62_0, hcz62_1, hcz62_2, hcz62_3, hfz62_0, hfz62_1, hfz62_2, hfz62_3⟩ := zh4 BK313
         obtain ⟨Ao63, co63, eo63⟩ := Kd.R_slice HO_9.out
         subst eo63
         go_wp2_with (first | ((with_reducible refine zg 71 ?_); refine gL (some 61) Try.func71 #[.slice Ao63 t316.length co63, .int .i64 a1_1, .int .i64 x2_23] ?_; (with_reducible refine (spec_l5Get.calls kj23 _ _ t316 a1_1 x2_23 t321 t322 t323 t324 true _ ?z1 ?z2 A46.out).mono ?_); (case z1 => exact ze HO_9); (case z2 => exact zl HO_9); rintro e w64 ⟨rfl, hb⟩; refine ⟨_, rfl, ?_⟩; replace HO_9 := zR HO_9 hb; replace BK313 := zB BK313 hb; replace BK314 := zB BK314 hb; replace HB := zS hb (zb2 GE313 GE314); (try clear hb)) | ((with_reducible refine zt 10 ?_); (try (refine gate_guard (by rfl) ?_; dsimp only)); refine zn #[.int .i64 0, .int .i64 0, .string (⟨#[]⟩ : ByteArray)] 32 ?_; intro gb326 hg w65 hbox hb; replace HO_9 := zR HO_9 hb; have BK326 := zA hbox; have GW326 := zG hg (zb2 GE313 GE314); have GE326 := zG hg (zb2 GE313 GE314); replace HB := zS hb (zb2 GE313 GE314); have NB313_326 := zX BK313 hg; have NB326_313 := zY BK313 hg; replace BK313 := zB BK313 hb; have NB314_326 := zX BK314 hg; have NB326_314 := zY BK314 hg; replace BK314 := zB BK314 hb; clear hb hbox hg; have hnb66 := NB326_313.out; have hnc66 := NB313_326.out; have hnb67 := NB326_314.out; have hnc67 := NB314_326.out; obtain ⟨hcz68_0, hcz68_1, hcz68_2, hfz68_0, hfz68_1, hfz68_2⟩ := zh3 BK326) | (go_at_call 72; (with_reducible refine (spec_ValOk.calls t321 t322 t323 false _ A48.out).mono ?_); rintro e w69 ⟨rfl, hb⟩; replace HO_9 := zA (Kd.R_below (by (with_reducible repeat (first | apply Kd.R_alloc | apply Kd.R_drewN | apply Kd.R_drew)); exact (Kd.R_mono (Kd.R_far (p := ⟨gb326, 2, none⟩) (Kd.R_far (p := ⟨gb326, 1, none⟩) (Kd.R_far (p := ⟨gb326, 0, none⟩) (Kd.R_types HO_9.out BK326.out (by decide)) (fun _ hk => hk.2) (.int .i64 t321)) (fun _ hk => hk.2) (.int .i64 t322)) (fun _ hk => hk.2) (.string t323)) (fun _ h_ => h_.1))) hb); replace BK313 := zA (blk_below (g := gb313) (o := .cells #[.int .i64 a1_0, .int .i64 a1_1, .bool a1_2, .bool true] 30 (0, 0)) zz58 hb); replace BK314 := zA (blk_below (g := gb314) (o := .cells #[.int .i64 x315000_23, .int .i64 x315001_23, .string x315002_23] 32 (0, 0)) zz59 hb); replace BK326 := zA (blk_below (g := gb326) (o := .cells #[.int .i64 t321, .int .i64 t322, .string t323] 32 (0, 0)) zz41 hb); replace HB := zS hb zz50; (try clear hb); obtain ⟨hcz70_0, hcz70_1, hcz70_2, hfz70_0, hfz70_1, hfz70_2⟩ := zh3 BK314))
         refine bodyPost_ret (results_ctt rfl _ _ gb314 32 #[.int .i64 0, .int .i64 0, .string (⟨#[]⟩ : ByteArray)] (0, 0) _ rfl (by (with_reducible repeat (first | refine blk_drewN ?_ _ | refine blk_drew ?_ | refine blk_alloc ?_ _)); refine blk_put (cs := #[.int .i64 0, .int .i64 0, .string x315002_23]) ?_ 2 _ rfl; (with_reducible repeat (first | refine blk_drewN ?_ _ | refine blk_drew ?_ | refine blk_alloc ?_ _)); refine blk_put (cs := #[.int .i64 0, .int .i64 x315001_23, .string x315002_23]) ?_ 1 _ rfl; (with_reducible repeat (first | refine blk_drewN ?_ _ | refine blk_drew ?_ | refine blk_alloc ?_ _)); refine blk_put (cs := #[.int .i64 x315000_23, .int .i64 x315001_23, .string x315002_23]) ?_ 0 _ rfl; (with_reducible repeat (first | refine blk_drewN ?_ _ | refine blk_drew ?_ | refine blk_alloc ?_ _)); exact BK314.out) Try.underlying32 rfl (by kernel_rfl)) rfl ?_
         exact ⟨zw, zz50⟩
       ·replace c47 := Bool.eq_false_iff.mpr c47
        subst c47
        rw [if_neg (Bool.false_ne_true)] at H
        simp only [Option.some.injEq, Prod.mk.injEq] at H
        obtain ⟨rfl, rfl, rfl, rfl, rfl⟩ := H
        have hnb71 := NB313_314.out
        have hnc71 := NB314_313.out
        obtain ⟨hcz72_0, hcz72_1, hcz72_2, hcz72_3, hfz72_0, hfz72_1, hfz72_2, hfz72_3⟩ := zh4 BK313
        obtain ⟨Ao73, co73, eo73⟩ := Kd.R_slice HO_9.out
        subst eo73
        go_wp2_with (first | ((with_reducible refine zg 71 ?_); refine gL (some 61) Try.func71 #[.slice Ao73 t316.length co73, .int .i64 a1_1, .int .i64 x2_23] ?_; (with_reducible refine (spec_l5Get.calls kj23 _ _ t316 a1_1 x2_23 t321 t322 t323 t324 false _ ?z1 ?z2 A46.out).mono ?_); (case z1 => exact ze HO_9); (case z2 => exact zl HO_9); rintro e w74 ⟨rfl, hb⟩; refine ⟨_, rfl, ?_⟩; replace HO_9 := zR HO_9 hb; replace BK313 := zB BK313 hb; replace BK314 := zB BK314 hb; replace HB := zS hb (zb2 GE313 GE314); (try clear hb)) | ((with_reducible refine zt 10 ?_); (try (refine gate_guard (by rfl) ?_; dsimp only)); refine zn #[.int .i64 0, .int .i64 0, .string (⟨#[]⟩ : ByteArray)] 32 ?_; intro gb326 hg w75 hbox hb; replace HO_9 := zR HO_9 hb; have BK326 := zA hbox; have GW326 := zG hg (zb2 GE313 GE314); have GE326 := zG hg (zb2 GE313 GE314); replace HB := zS hb (zb2 GE313 GE314); have NB313_326 := zX BK313 hg; have NB326_313 := zY BK313 hg; replace BK313 := zB BK313 hb; have NB314_326 := zX BK314 hg; have NB326_314 := zY BK314 hg; replace BK314 := zB BK314 hb; clear hb hbox hg; have hnb76 := NB326_313.out; have hnc76 := NB313_326.out; have hnb77 := NB326_314.out; have hnc77 := NB314_326.out; obtain ⟨hcz78_0, hcz78_1, hcz78_2, hfz78_0, hfz78_1, hfz78_2⟩ := zh3 BK326; obtain ⟨hcz79_0, hcz79_1, hcz79_2, hfz79_0, hfz79_1, hfz79_2⟩ := zh3 BK314))
        refine bodyPost_ret (results_ctt rfl _ _ gb314 32 #[.int .i64 0, .int .i64 0, .string (⟨#[]⟩ : ByteArray)] (0, 0) _ rfl (by (with_reducible repeat (first | refine blk_drewN ?_ _ | refine blk_drew ?_ | refine blk_alloc ?_ _)); refine blk_put (cs := #[.int .i64 0, .int .i64 0, .string x315002_23]) ?_ 2 _ rfl; (with_reducible repeat (first | refine blk_drewN ?_ _ | refine blk_drew ?_ | refine blk_alloc ?_ _)); refine blk_put (cs := #[.int .i64 0, .int .i64 x315001_23, .string x315002_23]) ?_ 1 _ rfl; (with_reducible repeat (first | refine blk_drewN ?_ _ | refine blk_drew ?_ | refine blk_alloc ?_ _)); refine blk_put (cs := #[.int .i64 x315000_23, .int .i64 x315001_23, .string x315002_23]) ?_ 0 _ rfl; (with_reducible repeat (first | refine blk_drewN ?_ _ | refine blk_drew ?_ | refine blk_alloc ?_ _)); refine blk_far ?_ NB314_326.out _; (with_reducible repeat (first | refine blk_drewN ?_ _ | refine blk_drew ?_ | refine blk_alloc ?_ _)); refine blk_far ?_ NB314_326.out _; (with_reducible repeat (first | refine blk_drewN ?_ _ | refine blk_drew ?_ | refine blk_alloc ?_ _)); refine blk_far ?_ NB314_326.out _; (with_reducible repeat (first | refine blk_drewN ?_ _ | refine blk_drew ?_ | refine blk_alloc ?_ _)); exact BK314.out) Try.underlying32 rfl (by kernel_rfl)) rfl ?_
        exact ⟨zw, zz50⟩
    ·replace c22 := Bool.eq_false_iff.mpr c22
     subst c22
     rw [if_neg (Bool.false_ne_true)] at H
     have HC80 := zA H
     clear H
     have hnb81 := NB313_314.out
     have hnc81 := NB314_313.out
     obtain ⟨hcz82_0, hcz82_1, hcz82_2, hcz82_3, hfz82_0, hfz82_1, hfz82_2, hfz82_3⟩ := zh4 BK313
     go_upto_if 33 with (fail)
     go_cut [2] (fun v2 wc => ∃ (kq : Nat) (x2_79 : Int) (x315000_79 : Int) (x315001_79 : Int) (x315002_79 : ByteArray), v2 = .int .i64 x2_79 ∧ Aside0 (spec_GetPart.j4 kq x2_79 l0 a1_0 a1_1 a1_2 false = some (r1, r2, r3, r4, r5)) ∧ Aside0 (kq ≤ kj3) ∧ Aside0 (wc.heap[gb313]? = some (.cells #[.int .i64 a1_0, .int .i64 a1_1, .bool a1_2, .bool false] 30 (0, 0))) ∧ Aside0 (wc.heap[gb314]? = some (.cells #[.int .i64 x315000_79, .int .i64 x315001_79, .string x315002_79] 32 (0, 0))) ∧ Aside0 (Below w.heap.size w wc))
     case first =>
      have H := HC80.out
      clear HC80
      by_cases c83 : a1_2 = true
      ·subst c83
       rw [if_pos rfl] at H
       have HC84 := zA H
       clear H
       go_upto_region 7 with (fail)
       go_cut [44] (fun v44 wc => ∃ (kq : Nat) (x44_83 : Bool), v44 = .bool x44_83 ∧ Aside0 (spec_GetPart.j3 kq a2 l0 x44_83 a1_0 a1_1 true false = some (r1, r2, r3, r4, r5)) ∧ Aside0 (kq ≤ kj3) ∧ Aside0 (wc.heap[gb313]? = some (.cells #[.int .i64 a1_0, .int .i64 a1_1, .bool true, .bool false] 30 (0, 0))) ∧ Aside0 (wc.heap[gb314]? = some (.cells #[.int .i64 0, .int .i64 0, .string (⟨#[]⟩ : ByteArray)] 32 (0, 0))) ∧ Aside0 (Below w.heap.size w wc))
       case first =>
        have H := HC84.out
        clear HC84
        by_cases c85 : a2 = (l0.length : Int)
        ·rw [if_pos c85] at H
         have c85b0 : (a2 == (l0.length : Int)) = true := beq_iff_eq.mpr c85
         have c85b1 : (a2 != (l0.length : Int)) = false := bne_eq_false_iff_eq.mpr c85
         clear c85
         (first | rw [c85b0] | (simp only [i64_w, i32_w]; rw [c85b0]) | skip)
         have H' := zA H
         clear H
         go_wp2
         go_meet
         case rel => exact ⟨_, (true), zx, H', ⟨zz77⟩, ⟨zk BK313⟩, ⟨zk BK314⟩, ⟨zb2 GE313 GE314⟩⟩
        ·rw [if_neg c85] at H
         have c85b0 : (a2 == (l0.length : Int)) = false := beq_eq_false_iff_ne.mpr c85
         have c85b1 : (a2 != (l0.length : Int)) = true := bne_iff_ne.mpr c85
         (first | rw [c85b0] | (simp only [i64_w, i32_w]; rw [c85b0]) | skip)
         by_cases c86 : 0 ≤ a2
         ·rw [if_pos c86] at H
          have c86b0 : decide (0 ≤ a2) = true := decide_eq_true c86
          clear c86
          by_cases c87 : a2 < (l0.length : Int)
          ·rw [if_pos c87] at H
           have c87b0 : decide (a2 < (l0.length : Int)) = true := decide_eq_true c87
           clear c87
           have H' := zA H
           clear H
           have p328 : 0 ≤ (a2 : Int) := of_decide_eq_true za
           have q328 : a2 < (l0.length : Int) := of_decide_eq_true za
           obtain ⟨ad328, e328, hx328_0⟩ := Kd.at_int HR0.out a2 p328 q328
           cases e328
           replace hx328_0 := zj hx328_0
           replace p328 := eq_true p328
           replace q328 := eq_true q328
           go_wp2
           go_meet
           case rel => exact ⟨_, (decide ((rd l0 a2) > 1)), zx, H', ⟨zz77⟩, ⟨zk BK313⟩, ⟨zk BK314⟩, ⟨zb2 GE313 GE314⟩⟩
          ·rw [if_neg c87] at H
           exact absurd H (by simp)
         ·rw [if_neg c86] at H
          exact absurd H (by simp)
       case rest =>
        clear HC84
        try clear c19; try clear c22; try clear c83; try clear hcz82_0; try clear hcz82_1; try clear hcz82_2; try clear hcz82_3; try clear hfz82_0; try clear hfz82_1; try clear hfz82_2; try clear hfz82_3
        obtain ⟨kq, x44_83, rfl, HA, HJ83, BK313, BK314, HB⟩ := hcut
        cases kq with
        | zero => exact absurd HA.out (by simp [spec_GetPart.j3])
        | succ kj83 =>
         have H := HA.out
         clear HA
         simp only [spec_GetPart.j3] at H
         by_cases c88 : x44_83 = true
         ·subst c88
          rw [if_pos rfl] at H
          simp only [Option.some.injEq, Prod.mk.injEq] at H
          obtain ⟨rfl, rfl, rfl, rfl, rfl⟩ := H
          have hnb89 := NB314_313.out
          have hnc89 := NB313_314.out
          obtain ⟨hcz90_0, hcz90_1, hcz90_2, hfz90_0, hfz90_1, hfz90_2⟩ := zh3 BK314
          go_wp2
          refine bodyPost_ret (results_ctt rfl _ _ gb314 32 #[.int .i64 0, .int .i64 0, .string (⟨#[]⟩ : ByteArray)] (0, 0) _ rfl zz11 Try.underlying32 rfl (by kernel_rfl)) rfl ?_
          exact ⟨zw, zb2 GE313 GE314⟩
         ·replace c88 := Bool.eq_false_iff.mpr c88
          subst c88
          rw [if_neg (Bool.false_ne_true)] at H
          by_cases c91 : 0 ≤ a2
          ·rw [if_pos c91] at H
           have c91b0 : decide (0 ≤ a2) = true := decide_eq_true c91
           clear c91
           by_cases c92 : a2 < (l0.length : Int)
           ·rw [if_pos c92] at H
            have c92b0 : decide (a2 < (l0.length : Int)) = true := decide_eq_true c92
            clear c92
            by_cases c93 : (rd l0 a2) = 0
            ·rw [if_pos c93] at H
             have c93b0 : ((rd l0 a2) == 0) = true := beq_iff_eq.mpr c93
             have c93b1 : ((rd l0 a2) != 0) = false := bne_eq_false_iff_eq.mpr c93
             clear c93
             simp only [Option.some.injEq, Prod.mk.injEq] at H
             obtain ⟨rfl, rfl, rfl, rfl, rfl⟩ := H
             have p329 : 0 ≤ (a2 : Int) := of_decide_eq_true za
             have q329 : a2 < (l0.length : Int) := of_decide_eq_true za
             obtain ⟨ad329, e329, hx329_0⟩ := Kd.at_int HR0.out a2 p329 q329
             cases e329
             replace hx329_0 := zj hx329_0
             replace p329 := eq_true p329
             replace q329 := eq_true q329
             have hnb94 := NB314_313.out
             have hnc94 := NB313_314.out
             obtain ⟨hcz95_0, hcz95_1, hcz95_2, hfz95_0, hfz95_1, hfz95_2⟩ := zh3 BK314
             go_wp2
             refine bodyPost_ret (results_ctt rfl _ _ gb314 32 #[.int .i64 0, .int .i64 0, .string (⟨#[]⟩ : ByteArray)] (0, 0) _ rfl zz11 Try.underlying32 rfl (by kernel_rfl)) rfl ?_
             exact ⟨zw, zb2 GE313 GE314⟩
            ·rw [if_neg c93] at H
             have c93b0 : ((rd l0 a2) == 0) = false := beq_eq_false_iff_ne.mpr c93
             have c93b1 : ((rd l0 a2) != 0) = true := bne_iff_ne.mpr c93
             have H' := zA H
             clear H
             have p329 : 0 ≤ (a2 : Int) := of_decide_eq_true za
             have q329 : a2 < (l0.length : Int) := of_decide_eq_true za
             obtain ⟨ad329, e329, hx329_0⟩ := Kd.at_int HR0.out a2 p329 q329
             cases e329
             replace hx329_0 := zj hx329_0
             replace p329 := eq_true p329
             replace q329 := eq_true q329
             go_wp2
             go_meet
             case rel => exact ⟨_, (wrap64 (a2 + 1)), (0), (0), ((⟨#[]⟩ : ByteArray)), zx, H', ⟨by have := HJ3.out; have := HJ83.out; first | omega | exact Nat.le_refl _⟩, ⟨zk BK313⟩, ⟨zk BK314⟩, ⟨zb2 GE313 GE314⟩⟩
           ·rw [if_neg c92] at H
            exact absurd H (by simp)
          ·rw [if_neg c91] at H
           exact absurd H (by simp)
      ·replace c83 := Bool.eq_false_iff.mpr c83
       subst c83
       rw [if_neg (Bool.false_ne_true)] at H
       have H' := zA H
       clear H
       go_wp2
       go_meet
       case rel => exact ⟨_, (a2), (0), (0), ((⟨#[]⟩ : ByteArray)), zx, H', ⟨zz77⟩, ⟨zk BK313⟩, ⟨zk BK314⟩, ⟨zb2 GE313 GE314⟩⟩
     case rest =>
      clear HC80
      try clear c19; try clear c22; try clear hcz82_0; try clear hcz82_1; try clear hcz82_2; try clear hcz82_3; try clear hfz82_0; try clear hfz82_1; try clear hfz82_2; try clear hfz82_3
      obtain ⟨kq, x2_79, x315000_79, x315001_79, x315002_79, rfl, HA, HJ79, BK313, BK314, HB⟩ := hcut
      cases kq with
      | zero => exact absurd HA.out (by simp [spec_GetPart.j4])
      | succ kj79 =>
       have H := HA.out
       clear HA
       simp only [spec_GetPart.j4] at H
       replace H := zI H
       obtain ⟨⟨t330, t331, t332, t333, t334⟩, A96, H⟩ := H
       try dsimp only at H
       by_cases c97 : t334 = true
       ·subst c97
        rw [if_pos rfl] at H
        replace H := zI H
        obtain ⟨t336, A98, H⟩ := H
        by_cases c99 : t336 = true
        ·subst c99
         rw [if_pos rfl] at H
         simp only [Option.some.injEq, Prod.mk.injEq] at H
         obtain ⟨rfl, rfl, rfl, rfl, rfl⟩ := H
         have hnb100 := NB313_314.out
         have hnc100 := NB314_313.out
         obtain ⟨hcz101_0, hcz101_1, hcz101_2, hcz101_3, hfz101_0, hfz101_1, hfz101_2, hfz101_3⟩ := zh4 BK313
         go_wp2_with (first | ((with_reducible refine zg 71 ?_); refine gL (some 61) Try.func71 #[.slice A0 l0.length c0, .int .i64 a1_1, .int .i64 x2_79] ?_; (with_reducible refine (spec_l5Get.calls kj79 _ _ l0 a1_1 x2_79 t330 t331 t332 t333 true _ ?z1 ?z2 A96.out).mono ?_); (case z1 => exact zd HR0); (case z2 => exact HC0.out); rintro e w102 ⟨rfl, hb⟩; refine ⟨_, rfl, ?_⟩; replace BK313 := zB BK313 hb; replace BK314 := zB BK314 hb; replace HB := zS hb (zb2 GE313 GE314); (try clear hb)) | ((with_reducible refine zt 10 ?_); (try (refine gate_guard (by rfl) ?_; dsimp only)); refine zn #[.int .i64 0, .int .i64 0, .string (⟨#[]⟩ : ByteArray)] 32 ?_; intro gb335 hg w103 hbox hb; have BK335 := zA hbox; have GW335 := zG hg (zb2 GE313 GE314); have GE335 := zG hg (zb2 GE313 GE314); replace HB := zS hb (zb2 GE313 GE314); have NB313_335 := zX BK313 hg; have NB335_313 := zY BK313 hg; replace BK313 := zB BK313 hb; have NB314_335 := zX BK314 hg; have NB335_314 := zY BK314 hg; replace BK314 := zB BK314 hb; clear hb hbox hg; have hnb104 := NB335_313.out; have hnc104 := NB313_335.out; have hnb105 := NB335_314.out; have hnc105 := NB314_335.out; obtain ⟨hcz106_0, hcz106_1, hcz106_2, hfz106_0, hfz106_1, hfz106_2⟩ := zh3 BK335) | (go_at_call 72; (with_reducible refine (spec_ValOk.calls t330 t331 t332 true _ A98.out).mono ?_); rintro e w107 ⟨rfl, hb⟩; replace BK313 := zA (blk_below (g := gb313) (o := .cells #[.int .i64 a1_0, .int .i64 a1_1, .bool a1_2, .bool false] 30 (0, 0)) zz60 hb); replace BK314 := zA (blk_below (g := gb314) (o := .cells #[.int .i64 x315000_79, .int .i64 x315001_79, .string x315002_79] 32 (0, 0)) zz61 hb); replace BK335 := zA (blk_below (g := gb335) (o := .cells #[.int .i64 t330, .int .i64 t331, .string t332] 32 (0, 0)) zz42 hb); replace HB := zS hb zz51; (try clear hb); obtain ⟨hcz108_0, hcz108_1, hcz108_2, hfz108_0, hfz108_1, hfz108_2⟩ := zh3 BK335; obtain ⟨hcz109_0, hcz109_1, hcz109_2, hfz109_0, hfz109_1, hfz109_2⟩ := zh3 BK314))
         refine bodyPost_ret (results_ctt rfl _ _ gb314 32 #[.int .i64 t330, .int .i64 t331, .string t332] (0, 0) _ rfl (by (with_reducible repeat (first | refine blk_drewN ?_ _ | refine blk_drew ?_ | refine blk_alloc ?_ _)); refine blk_put (cs := #[.int .i64 t330, .int .i64 t331, .string x315002_79]) ?_ 2 _ rfl; (with_reducible repeat (first | refine blk_drewN ?_ _ | refine blk_drew ?_ | refine blk_alloc ?_ _)); refine blk_put (cs := #[.int .i64 t330, .int .i64 x315001_79, .string x315002_79]) ?_ 1 _ rfl; (with_reducible repeat (first | refine blk_drewN ?_ _ | refine blk_drew ?_ | refine blk_alloc ?_ _)); refine blk_put (cs := #[.int .i64 x315000_79, .int .i64 x315001_79, .string x315002_79]) ?_ 0 _ rfl; (with_reducible repeat (first | refine blk_drewN ?_ _ | refine blk_drew ?_ | refine blk_alloc ?_ _)); exact BK314.out) Try.underlying32 rfl (by kernel_rfl)) rfl ?_
         exact ⟨zw, zz51⟩
        ·replace c99 := Bool.eq_false_iff.mpr c99
         subst c99
         rw [if_neg (Bool.false_ne_true)] at H
         simp only [Option.some.injEq, Prod.mk.injEq] at H
         obtain ⟨rfl, rfl, rfl, rfl, rfl⟩ := H
         have hnb110 := NB313_314.out
         have hnc110 := NB314_313.out
         obtain ⟨hcz111_0, hcz111_1, hcz111_2, hcz111_3, hfz111_0, hfz111_1, hfz111_2, hfz111_3⟩ := zh4 BK313
         go_wp2_with (first | ((with_reducible refine zg 71 ?_); refine gL (some 61) Try.func71 #[.slice A0 l0.length c0, .int .i64 a1_1, .int .i64 x2_79] ?_; (with_reducible refine (spec_l5Get.calls kj79 _ _ l0 a1_1 x2_79 t330 t331 t332 t333 true _ ?z1 ?z2 A96.out).mono ?_); (case z1 => exact zd HR0); (case z2 => exact HC0.out); rintro e w112 ⟨rfl, hb⟩; refine ⟨_, rfl, ?_⟩; replace BK313 := zB BK313 hb; replace BK314 := zB BK314 hb; replace HB := zS hb (zb2 GE313 GE314); (try clear hb)) | ((with_reducible refine zt 10 ?_); (try (refine gate_guard (by rfl) ?_; dsimp only)); refine zn #[.int .i64 0, .int .i64 0, .string (⟨#[]⟩ : ByteArray)] 32 ?_; intro gb335 hg w113 hbox hb; have BK335 := zA hbox; have GW335 := zG hg (zb2 GE313 GE314); have GE335 := zG hg (zb2 GE313 GE314); replace HB := zS hb (zb2 GE313 GE314); have NB313_335 := zX BK313 hg; have NB335_313 := zY BK313 hg; replace BK313 := zB BK313 hb; have NB314_335 := zX BK314 hg; have NB335_314 := zY BK314 hg; replace BK314 := zB BK314 hb; clear hb hbox hg; have hnb114 := NB335_313.out; have hnc114 := NB313_335.out; have hnb115 := NB335_314.out; have hnc115 := NB314_335.out; obtain ⟨hcz116_0, hcz116_1, hcz116_2, hfz116_0, hfz116_1, hfz116_2⟩ := zh3 BK335) | (go_at_call 72; (with_reducible refine (spec_ValOk.calls t330 t331 t332 false _ A98.out).mono ?_); rintro e w117 ⟨rfl, hb⟩; replace BK313 := zA (blk_below (g := gb313) (o := .cells #[.int .i64 a1_0, .int .i64 a1_1, .bool a1_2, .bool false] 30 (0, 0)) zz60 hb); replace BK314 := zA (blk_below (g := gb314) (o := .cells #[.int .i64 x315000_79, .int .i64 x315001_79, .string x315002_79] 32 (0, 0)) zz61 hb); replace BK335 := zA (blk_below (g := gb335) (o := .cells #[.int .i64 t330, .int .i64 t331, .string t332] 32 (0, 0)) zz42 hb); replace HB := zS hb zz51; (try clear hb); obtain ⟨hcz118_0, hcz118_1, hcz118_2, hfz118_0, hfz118_1, hfz118_2⟩ := zh3 BK314))
         refine bodyPost_ret (results_ctt rfl _ _ gb314 32 #[.int .i64 0, .int .i64 0, .string (⟨#[]⟩ : ByteArray)] (0, 0) _ rfl (by (with_reducible repeat (first | refine blk_drewN ?_ _ | refine blk_drew ?_ | refine blk_alloc ?_ _)); refine blk_put (cs := #[.int .i64 0, .int .i64 0, .string x315002_79]) ?_ 2 _ rfl; (with_reducible repeat (first | refine blk_drewN ?_ _ | refine blk_drew ?_ | refine blk_alloc ?_ _)); refine blk_put (cs := #[.int .i64 0, .int .i64 x315001_79, .string x315002_79]) ?_ 1 _ rfl; (with_reducible repeat (first | refine blk_drewN ?_ _ | refine blk_drew ?_ | refine blk_alloc ?_ _)); refine blk_put (cs := #[.int .i64 x315000_79, .int .i64 x315001_79, .string x315002_79]) ?_ 0 _ rfl; (with_reducible repeat (first | refine blk_drewN ?_ _ | refine blk_drew ?_ | refine blk_alloc ?_ _)); exact BK314.out) Try.underlying32 rfl (by kernel_rfl)) rfl ?_
         exact ⟨zw, zz51⟩
       ·replace c97 := Bool.eq_false_iff.mpr c97
        subst c97
        rw [if_neg (Bool.false_ne_true)] at H
        simp only [Option.some.injEq, Prod.mk.injEq] at H
        obtain ⟨rfl, rfl, rfl, rfl, rfl⟩ := H
        have hnb119 := NB313_314.out
        have hnc119 := NB314_313.out
        obtain ⟨hcz120_0, hcz120_1, hcz120_2, hcz120_3, hfz120_0, hfz120_1, hfz120_2, hfz120_3⟩ := zh4 BK313
        go_wp2_with (first | ((with_reducible refine zg 71 ?_); refine gL (some 61) Try.func71 #[.slice A0 l0.length c0, .int .i64 a1_1, .int .i64 x2_79] ?_; (with_reducible refine (spec_l5Get.calls kj79 _ _ l0 a1_1 x2_79 t330 t331 t332 t333 false _ ?z1 ?z2 A96.out).mono ?_); (case z1 => exact zd HR0); (case z2 => exact HC0.out); rintro e w121 ⟨rfl, hb⟩; refine ⟨_, rfl, ?_⟩; replace BK313 := zB BK313 hb; replace BK314 := zB BK314 hb; replace HB := zS hb (zb2 GE313 GE314); (try clear hb)) | ((with_reducible refine zt 10 ?_); (try (refine gate_guard (by rfl) ?_; dsimp only)); refine zn #[.int .i64 0, .int .i64 0, .string (⟨#[]⟩ : ByteArray)] 32 ?_; intro gb335 hg w122 hbox hb; have BK335 := zA hbox; have GW335 := zG hg (zb2 GE313 GE314); have GE335 := zG hg (zb2 GE313 GE314); replace HB := zS hb (zb2 GE313 GE314); have NB313_335 := zX BK313 hg; have NB335_313 := zY BK313 hg; replace BK313 := zB BK313 hb; have NB314_335 := zX BK314 hg; have NB335_314 := zY BK314 hg; replace BK314 := zB BK314 hb; clear hb hbox hg; have hnb123 := NB335_313.out; have hnc123 := NB313_335.out; have hnb124 := NB335_314.out; have hnc124 := NB314_335.out; obtain ⟨hcz125_0, hcz125_1, hcz125_2, hfz125_0, hfz125_1, hfz125_2⟩ := zh3 BK335; obtain ⟨hcz126_0, hcz126_1, hcz126_2, hfz126_0, hfz126_1, hfz126_2⟩ := zh3 BK314))
        refine bodyPost_ret (results_ctt rfl _ _ gb314 32 #[.int .i64 0, .int .i64 0, .string (⟨#[]⟩ : ByteArray)] (0, 0) _ rfl (by (with_reducible repeat (first | refine blk_drewN ?_ _ | refine blk_drew ?_ | refine blk_alloc ?_ _)); refine blk_put (cs := #[.int .i64 0, .int .i64 0, .string x315002_79]) ?_ 2 _ rfl; (with_reducible repeat (first | refine blk_drewN ?_ _ | refine blk_drew ?_ | refine blk_alloc ?_ _)); refine blk_put (cs := #[.int .i64 0, .int .i64 x315001_79, .string x315002_79]) ?_ 1 _ rfl; (with_reducible repeat (first | refine blk_drewN ?_ _ | refine blk_drew ?_ | refine blk_alloc ?_ _)); refine blk_put (cs := #[.int .i64 x315000_79, .int .i64 x315001_79, .string x315002_79]) ?_ 0 _ rfl; (with_reducible repeat (first | refine blk_drewN ?_ _ | refine blk_drew ?_ | refine blk_alloc ?_ _)); refine blk_far ?_ NB314_335.out _; (with_reducible repeat (first | refine blk_drewN ?_ _ | refine blk_drew ?_ | refine blk_alloc ?_ _)); refine blk_far ?_ NB314_335.out _; (with_reducible repeat (first | refine blk_drewN ?_ _ | refine blk_drew ?_ | refine blk_alloc ?_ _)); refine blk_far ?_ NB314_335.out _; (with_reducible repeat (first | refine blk_drewN ?_ _ | refine blk_drew ?_ | refine blk_alloc ?_ _)); exact BK314.out) Try.underlying32 rfl (by kernel_rfl)) rfl ?_
        exact ⟨zw, zz51⟩

end Go.Proofs.Ytnfmpopmigbkoaa.PFnKeysRead

-- Written by mkprint.py, a program of this session (the printer with additions of its own)
import Derived.Test.YtnfmpopmigbkoaaPFnKeysReadx0
import Derived.Test.YtnfmpopmigbkoaaPFnKeysReadx2
import Derived.Test.YtnfmpopmigbkoaaPFnKeysReadx3
import Derived.Test.YtnfmpopmigbkoaaPFnKeysReadx11
namespace Go.Proofs.Ytnfmpopmigbkoaa.PFnKeysRead
open Go.RowKit Go.Proofs.YtnfmpopmigbkoaaW.PrintWords Go.Proofs.YtnfmpopmigbkoaaW.PrintLast Go.Proofs.YtnfmpopmigbkoaaW.PrintMore
attribute [local go_sem] max2_int min2_int max_two min_two max_three min_three max_four min_four   -- for this text's walks alone
set_option linter.unusedVariables false
set_option linter.unusedSimpArgs false

/-! ### impl_GetPart: function 23 -/
mutual
def impl_GetPart.j0 : Nat → List Int → Int → Bool → Int → Int → Bool → Bool → Option (Int × Int × ByteArray × Int × Bool)
  | 0, _, _, _, _, _, _, _ => none
  | k + 1, x0, x2, x25, x399000, x399001, x399002, x399003 => if x25 = true then (some (0, 0, (⟨#[]⟩ : ByteArray), 0, false)) else (if x399003 = true then ((impl_Flip.f k x0 x2).bind fun t401 => (if x399002 = true then (if 0 ≤ x2 then (if x2 < (t401.length : Int) then (if (rd t401 x2) = 0 then (some (0, 0, (⟨#[]⟩ : ByteArray), wrap64 (x2 + 1), true)) else (if (rd t401 x2) = 1 then (impl_GetPart.j1 k t401 (wrap64 (x2 + 1)) x399000 x399001 x399002 x399003) else (some (0, 0, (⟨#[]⟩ : ByteArray), 0, false)))) else (none)) else (none)) else (impl_GetPart.j1 k t401 x2 x399000 x399001 x399002 x399003))) else (if x399002 = true then (if 0 ≤ x2 then (if x2 < (x0.length : Int) then (if (rd x0 x2) = 0 then (some (0, 0, (⟨#[]⟩ : ByteArray), wrap64 (x2 + 1), true)) else (if (rd x0 x2) = 1 then (impl_GetPart.j2 k x0 (wrap64 (x2 + 1)) x399000 x399001 x399002 x399003) else (some (0, 0, (⟨#[]⟩ : ByteArray), 0, false)))) else (none)) else (none)) else (impl_GetPart.j2 k x0 x2 x399000 x399001 x399002 x399003)))
def impl_GetPart.j1 : Nat → List Int → Int → Int → Int → Bool → Bool → Option (Int × Int × ByteArray × Int × Bool)
  | 0, _, _, _, _, _, _ => none
  | k + 1, x0, x9, x399000, x399001, x399002, x399003 => (impl_typedAt.f k x0 x399001 x9).bind fun bt405 => (if bt405.2.2.2.2 = true then ((impl_Fits.f x399000 x399001 x399002 x399003 bt405.1 bt405.2.1 bt405.2.2.1).bind fun t411 => (if t411 = true then (some (bt405.1, bt405.2.1, bt405.2.2.1, bt405.2.2.2.1, true)) else (some (0, 0, (⟨#[]⟩ : ByteArray), 0, false)))) else (some (0, 0, (⟨#[]⟩ : ByteArray), 0, false)))
def impl_GetPart.j2 : Nat → List Int → Int → Int → Int → Bool → Bool → Option (Int × Int × ByteArray × Int × Bool)
  | 0, _, _, _, _, _, _ => none
  | k + 1, x0, x9, x399000, x399001, x399002, x399003 => (impl_typedAt.f k x0 x399001 x9).bind fun bt413 => (if bt413.2.2.2.2 = true then ((impl_Fits.f x399000 x399001 x399002 x399003 bt413.1 bt413.2.1 bt413.2.2.1).bind fun t419 => (if t419 = true then (some (bt413.1, bt413.2.1, bt413.2.2.1, bt413.2.2.2.1, true)) else (some (0, 0, (⟨#[]⟩ : ByteArray), 0, false)))) else (some (0, 0, (⟨#[]⟩ : ByteArray), 0, false)))
end
def impl_GetPart.f (k : Nat) (l0 : List Int) (a1_0 : Int) (a1_1 : Int) (a1_2 : Bool) (a1_3 : Bool) (a2 : Int) : Option (Int × Int × ByteArray × Int × Bool) := (impl_PartOk.f a1_0 a1_1 a1_2 a1_3).bind fun t400 => (if t400 = true then (if a2 < 0 then (impl_GetPart.j0 k l0 a2 true a1_0 a1_1 a1_2 a1_3) else (impl_GetPart.j0 k l0 a2 (decide (a2 ≥ (l0.length : Int))) a1_0 a1_1 a1_2 a1_3)) else (impl_GetPart.j0 k l0 a2 true a1_0 a1_1 a1_2 a1_3))
set_option maxHeartbeats 8000000 in
set_option maxRecDepth 100000 in
theorem impl_GetPart.calls (k : Nat) (A0 : Option Addr) (c0 : Nat) (l0 : List Int) (a1_0 : Int) (a1_1 : Int) (a1_2 : Bool) (a1_3 : Bool) (a2 : Int) (r1 : Int) (r2 : Int) (r3 : ByteArray) (r4 : Int) (r5 : Bool) (w : World) (hr0 : Kd.C (Kd.int .u8) w A0 l0.length l0) (hc0 : l0.length ≤ c0) (h : impl_GetPart.f k l0 a1_0 a1_1 a1_2 a1_3 a2 = some (r1, r2, r3, r4, r5)) :
  Calls Try.prog 23 #[.slice A0 l0.length c0, .agg #[.int .i64 a1_0, .int .i64 a1_1, .bool a1_2, .bool a1_3], .int .i64 a2] w fun e w' => e = .returned (.tuple #[.agg #[.int .i64 r1, .int .i64 r2, .string r3], .int .i64 r4, .bool r5]) ∧ Below w.heap.size w w' := by
 have hu30 := Try.underlying30
 have hu32 := Try.underlying32
 have HR0 := zA hr0
 have HC0 := zA hc0
 clear hr0 hc0
 have HB := zA (Below.refl w.heap.size w)
 have H : ((impl_PartOk.f a1_0 a1_1 a1_2 a1_3).bind fun t400 => (if t400 = true then (if a2 < 0 then (impl_GetPart.j0 k l0 a2 true a1_0 a1_1 a1_2 a1_3) else (impl_GetPart.j0 k l0 a2 (decide (a2 ≥ (l0.length : Int))) a1_0 a1_1 a1_2 a1_3)) else (impl_GetPart.j0 k l0 a2 true a1_0 a1_1 a1_2 a1_3))) = some (r1, r2, r3, r4, r5) := h
 clear h
 have HC4 := zA H
 clear H
 go_enter Try.func23, Try.ntmps23
 go_upto_region 1 with (first | ((with_reducible refine zt 4 ?_); (try (refine gate_guard (by rfl) ?_; dsimp only)); refine zn #[.int .i64 a1_0, .int .i64 a1_1, .bool a1_2, .bool a1_3] 30 ?_; intro gb398 hg w5 hbox hb; have BK398 := zA hbox; have GW398 := zG hg; have GE398 := zG hg; replace HB := zS hb; clear hb hbox hg) | ((with_reducible refine zt 6 ?_); (try (refine gate_guard (by rfl) ?_; dsimp only)); refine zn #[.int .i64 0, .int .i64 0, .string (⟨#[]⟩ : ByteArray)] 32 ?_; intro gb399 hg w6 hbox hb; have BK399 := zA hbox; have GW399 := zG hg (zb1 GE398); have GE399 := zG hg (zb1 GE398); replace HB := zS hb (zb1 GE398); have NB398_399 := zX BK398 hg; have NB399_398 := zY BK398 hg; replace BK398 := zB BK398 hb; clear hb hbox hg))
 (try simp only [Act.put, List.setIfInBounds_toArray, List.set_cons_zero, List.set_cons_succ])
 go_cut [25] (fun v25 wc => ∃ (kq : Nat) (x25_3 : Bool), v25 = .bool x25_3 ∧ Aside0 (impl_GetPart.j0 kq l0 a2 x25_3 a1_0 a1_1 a1_2 a1_3 = some (r1, r2, r3, r4, r5)) ∧ Aside0 (kq ≤ k) ∧ Aside0 (wc.heap[gb398]? = some (.cells #[.int .i64 a1_0, .int .i64 a1_1, .bool a1_2, .bool a1_3] 30 (0, 0))) ∧ Aside0 (wc.heap[gb399]? = some (.cells #[.int .i64 0, .int .i64 0, .string (⟨#[]⟩ : ByteArray)] 32 (0, 0))) ∧ Aside0 (Below w.heap.size w wc))
 case first =>
  have H := HC4.out
  clear HC4
  replace H := zI H
  obtain ⟨t400, A7, H⟩ := H
  by_cases c8 : t400 = true
  ·subst c8
   rw [if_pos rfl] at H
   by_cases c9 : a2 < 0
   ·rw [if_pos c9] at H
    have c9b0 : decide (a2 < 0) = true := decide_eq_true c9
    clear c9
    (first | rw [c9b0] | (simp only [i64_w, i32_w]; rw [c9b0]) | skip)
    have H' := zA H
    clear H
    have hnb10 := NB398_399.out
    have hnc10 := NB399_398.out
    obtain ⟨hcz11_0, hcz11_1, hcz11_2, hcz11_3, hfz11_0, hfz11_1, hfz11_2, hfz11_3⟩ := zh4 BK398
    go_wp2_with (first | ((with_reducible refine zg 30 ?_); refine gL (some 14) Try.func30 #[.agg #[.int .i64 a1_0, .int .i64 a1_1, .bool a1_2, .bool a1_3]] ?_; (with_reducible refine (impl_PartOk.calls a1_0 a1_1 a1_2 a1_3 true _ A7.out).mono ?_); rintro e w12 ⟨rfl, hb⟩; refine ⟨_, rfl, ?_⟩; replace BK398 := zB BK398 hb; replace BK399 := zB BK399 hb; replace HB := zS hb (zb2 GE398 GE399); (try clear hb)))
    go_meet
    case rel => exact ⟨_, (true), zx, H', ⟨zo⟩, ⟨zk BK398⟩, ⟨zk BK399⟩, ⟨zb2 GE398 GE399⟩⟩
   ·rw [if_neg c9] at H
    have c9b0 : decide (a2 < 0) = false := decide_eq_false c9
    clear c9
    (first | rw [c9b0] | (simp only [i64_w, i32_w]; rw [c9b0]) | skip)
    have H' := zA H
    clear H
    have hnb13 := NB398_399.out
    have hnc13 := NB399_398.out
    obtain ⟨hcz14_0, hcz14_1, hcz14_2, hcz14_3, hfz14_0, hfz14_1, hfz14_2, hfz14_3⟩ := zh4 BK398
    go_wp2_with (first | ((with_reducible refine zg 30 ?_); refine gL (some 14) Try.func30 #[.agg #[.int .i64 a1_0, .int .i64 a1_1, .bool a1_2, .bool a1_3]] ?_; (with_reducible refine (impl_PartOk.calls a1_0 a1_1 a1_2 a1_3 true _ A7.out).mono ?_); rintro e w15 ⟨rfl, hb⟩; refine ⟨_, rfl, ?_⟩; replace BK398 := zB BK398 hb; replace BK399 := zB BK399 hb; replace HB := zS hb (zb2 GE398 GE399); (try clear hb)))
    go_meet
    case rel => exact ⟨_, (decide (a2 ≥ (l0.length : Int))), zx, H', ⟨zo⟩, ⟨zk BK398⟩, ⟨zk BK399⟩, ⟨zb2 GE398 GE399⟩⟩
  ·replace c8 := Bool.eq_false_iff.mpr c8
   subst c8
   rw [if_neg (Bool.false_ne_true)] at H
   have H' := zA H
   clear H
   have hnb16 := NB398_399.out
   have hnc16 := NB399_398.out
   obtain ⟨hcz17_0, hcz17_1, hcz17_2, hcz17_3, hfz17_0, hfz17_1, hfz17_2, hfz17_3⟩ := zh4 BK398
   go_wp2_with (first | ((with_reducible refine zg 30 ?_); refine gL (some 14) Try.func30 #[.agg #[.int .i64 a1_0, .int .i64 a1_1, .bool a1_2, .bool a1_3]] ?_; (with_reducible refine (impl_PartOk.calls a1_0 a1_1 a1_2 a1_3 false _ A7.out).mono ?_); rintro e w18 ⟨rfl, hb⟩; refine ⟨_, rfl, ?_⟩; replace BK398 := zB BK398 hb; replace BK399 := zB BK399 hb; replace HB := zS hb (zb2 GE398 GE399); (try clear hb)))
   go_meet
   case rel => exact ⟨_, (true), zx, H', ⟨zo⟩, ⟨zk BK398⟩, ⟨zk BK399⟩, ⟨zb2 GE398 GE399⟩⟩
 case rest =>
  clear HC4
  obtain ⟨kq, x25_3, rfl, HA, HJ3, BK398, BK399, HB⟩ := hcut
  cases kq with
  | zero => exact absurd HA.out (by simp [impl_GetPart.j0])
  | succ kj3 =>
   have H := HA.out
   clear HA
   simp only [impl_GetPart.j0] at H
   by_cases c19 : x25_3 = true
   ·subst c19
    rw [if_pos rfl] at H
    simp only [Option.some.injEq, Prod.mk.injEq] at H
    obtain ⟨rfl, rfl, rfl, rfl, rfl⟩ := H
    have hnb20 := NB399_398.out
    have hnc20 := NB398_399.out
    obtain ⟨hcz21_0, hcz21_1, hcz21_2, hfz21_0, hfz21_1, hfz21_2⟩ := zh3 BK399
    go_wp2
    refine bodyPost_ret (results_ctt rfl _ _ gb399 32 #[.int .i64 0, .int .i64 0, .string (⟨#[]⟩ : ByteArray)] (0, 0) _ rfl zz10 Try.underlying32 rfl (by kernel_rfl)) rfl ?_
    exact ⟨zw, zb2 GE398 GE399⟩
   ·replace c19 := Bool.eq_false_iff.mpr c19
    subst c19
    rw [if_neg (Bool.false_ne_true)] at H
    by_cases c22 : a1_3 = true
    ·subst c22
     rw [if_pos rfl] at H
     replace H := zI H
     obtain ⟨t401, A23, H⟩ := H
     have HC24 := zA H
     clear H
     have hnb25 := NB398_399.out
     have hnc25 := NB399_398.out
     obtain ⟨hcz26_0, hcz26_1, hcz26_2, hcz26_3, hfz26_0, hfz26_1, hfz26_2, hfz26_3⟩ := zh4 BK398
     go_upto_if 34 with (first | ((with_reducible refine zg 73 ?_); refine gL (some 31) Try.func73 #[.slice A0 l0.length c0, .int .i64 a2] ?_; (with_reducible refine (impl_Flip.calls kj3 _ _ l0 a2 t401 _ ?z1 ?z2 A23.out).mono ?_); (case z1 => exact zd HR0); (case z2 => exact HC0.out); rintro e w27 ⟨v402, rfl, ho0, hb⟩; refine ⟨_, rfl, ?_⟩; have HO403 := zL ho0 (zb2 GE398 GE399); replace BK398 := zB BK398 hb; replace BK399 := zB BK399 hb; replace HB := zS hb (zb2 GE398 GE399); clear hb ho0; obtain ⟨hcz28_0, hcz28_1, hcz28_2, hcz28_3, hfz28_0, hfz28_1, hfz28_2, hfz28_3⟩ := zh4 BK398))
     (try simp only [Act.put, List.setIfInBounds_toArray, List.set_cons_zero, List.set_cons_succ])
     go_cut [9] (fun v9 wc => ∃ (kq : Nat) (x9_23 : Int) (x400000_23 : Int) (x400001_23 : Int) (x400002_23 : ByteArray), v9 = .int .i64 x9_23 ∧ Aside0 (impl_GetPart.j1 kq t401 x9_23 a1_0 a1_1 a1_2 true = some (r1, r2, r3, r4, r5)) ∧ Aside0 (kq ≤ kj3) ∧ Aside0 (Kd.R (Kd.int .u8) 5 wc w.heap.size (fun _ => True) v402 t401) ∧ Aside0 (wc.heap[gb398]? = some (.cells #[.int .i64 a1_0, .int .i64 a1_1, .bool a1_2, .bool true] 30 (0, 0))) ∧ Aside0 (wc.heap[gb399]? = some (.cells #[.int .i64 x400000_23, .int .i64 x400001_23, .string x400002_23] 32 (0, 0))) ∧ Aside0 (Below w.heap.size w wc))
     case first =>
      have H := HC24.out
      clear HC24
      by_cases c29 : a1_2 = true
      ·subst c29
       rw [if_pos rfl] at H
       by_cases c30 : 0 ≤ a2
       ·rw [if_pos c30] at H
        have c30b0 : decide (0 ≤ a2) = true := decide_eq_true c30
        clear c30
        (first | rw [c30b0] | (simp only [i64_w, i32_w]; rw [c30b0]) | skip)
        by_cases c31 : a2 < (t401.length : Int)
        ·rw [if_pos c31] at H
         have c31b0 : decide (a2 < (t401.length : Int)) = true := decide_eq_true c31
         clear c31
         by_cases c32 : (rd t401 a2) = 0
         ·rw [if_pos c32] at H
          have c32b0 : ((rd t401 a2) == 0) = true := beq_iff_eq.mpr c32
          have c32b1 : ((rd t401 a2) != 0) = false := bne_eq_false_iff_eq.mpr c32
          clear c32
          simp only [Option.some.injEq, Prod.mk.injEq] at H
          obtain ⟨rfl, rfl, rfl, rfl, rfl⟩ := H
          obtain ⟨Ao33, co33, eo33⟩ := Kd.R_slice HO403.out
          subst eo33
          have p404 : 0 ≤ (a2 : Int) := of_decide_eq_true za
          have q404 : a2 < (t401.length : Int) := of_decide_eq_true za
          obtain ⟨ad404, e404, hx404_0⟩ := Kd.at_int (Kd.R_reads' HO403.out).2.2 a2 p404 q404
          cases e404
          replace p404 := eq_true p404
          replace q404 := eq_true q404
          have hnb34 := NB399_398.out
          have hnc34 := NB398_399.out
          obtain ⟨hcz35_0, hcz35_1, hcz35_2, hfz35_0, hfz35_1, hfz35_2⟩ := zh3 BK399
          go_wp2
          refine bodyPost_ret (results_ctt rfl _ _ gb399 32 #[.int .i64 0, .int .i64 0, .string (⟨#[]⟩ : ByteArray)] (0, 0) _ rfl zz10 Try.underlying32 rfl (by kernel_rfl)) rfl ?_
          exact ⟨zw, zb2 GE398 GE399⟩
         ·rw [if_neg c32] at H
          have c32b0 : ((rd t401 a2) == 0) = false := beq_eq_false_iff_ne.mpr c32
          have c32b1 : ((rd t401 a2) != 0) = true := bne_iff_ne.mpr c32
          by_cases c36 : (rd t401 a2) = 1
          ·rw [if_pos c36] at H
           have c36b0 : ((rd t401 a2) == 1) = true := beq_iff_eq.mpr c36
           have c36b1 : ((rd t401 a2) != 1) = false := bne_eq_false_iff_eq.mpr c36
           clear c36
           have H' := zA H
           clear H
           obtain ⟨Ao37, co37, eo37⟩ := Kd.R_slice HO403.out
           subst eo37
           have p404 : 0 ≤ (a2 : Int) := of_decide_eq_true za
           have q404 : a2 < (t401.length : Int) := of_decide_eq_true za
           obtain ⟨ad404, e404, hx404_0⟩ := Kd.at_int (Kd.R_reads' HO403.out).2.2 a2 p404 q404
           cases e404
           replace p404 := eq_true p404
           replace q404 := eq_true q404
           go_wp2
           go_meet
           case rel => exact ⟨_, (wrap64 (a2 + 1)), (0), (0), ((⟨#[]⟩ : ByteArray)), zx, H', ⟨zz77⟩, ⟨zr HO403⟩, ⟨zk BK398⟩, ⟨zk BK399⟩, ⟨zb2 GE398 GE399⟩⟩
          ·rw [if_neg c36] at H
           have c36b0 : ((rd t401 a2) == 1) = false := beq_eq_false_iff_ne.mpr c36
           have c36b1 : ((rd t401 a2) != 1) = true := bne_iff_ne.mpr c36
           simp only [Option.some.injEq, Prod.mk.injEq] at H
           obtain ⟨rfl, rfl, rfl, rfl, rfl⟩ := H
           obtain ⟨Ao38, co38, eo38⟩ := Kd.R_slice HO403.out
           subst eo38
           have p404 : 0 ≤ (a2 : Int) := of_decide_eq_true za
           have q404 : a2 < (t401.length : Int) := of_decide_eq_true za
           obtain ⟨ad404, e404, hx404_0⟩ := Kd.at_int (Kd.R_reads' HO403.out).2.2 a2 p404 q404
           cases e404
           replace p404 := eq_true p404
           replace q404 := eq_true q404
           have hnb39 := NB399_398.out
           have hnc39 := NB398_399.out
           obtain ⟨hcz40_0, hcz40_1, hcz40_2, hfz40_0, hfz40_1, hfz40_2⟩ := zh3 BK399
           go_wp2
           refine bodyPost_ret (results_ctt rfl _ _ gb399 32 #[.int .i64 0, .int .i64 0, .string (⟨#[]⟩ : ByteArray)] (0, 0) _ rfl zz10 Try.underlying32 rfl (by kernel_rfl)) rfl ?_
           exact ⟨zw, zb2 GE398 GE399⟩
        ·rw [if_neg c31] at H
         exact absurd H (by simp)
       ·rw [if_neg c30] at H
        exact absurd H (by simp)
      ·replace c29 := Bool.eq_false_iff.mpr c29
       subst c29
       rw [if_neg (Bool.false_ne_true)] at H
       have H' := zA H
       clear H
       go_wp2
       go_meet
       case rel => exact ⟨_, (a2), (0), (0), ((⟨#[]⟩ : ByteArray)), zx, H', ⟨zz77⟩, ⟨zr HO403⟩, ⟨zk BK398⟩, ⟨zk BK399⟩, ⟨zb2 GE398 GE399⟩⟩
     case rest =>
      clear HC24
      try clear c19; try clear c22; try clear hcz26_0; try clear hcz26_1; try clear hcz26_2; try clear hcz26_3; try clear hcz28_0; try clear hcz28_1; try clear hcz28_2; try clear hcz28_3; try clear hfz26_0; try clear hfz26_1; try clear hfz26_2; try clear hfz26_3; try clear hfz28_0; try clear hfz28_1; try clear hfz28_2; try clear hfz28_3
      obtain ⟨kq, x9_23, x400000_23, x400001_23, x400002_23, rfl, HA, HJ23, HO_0, BK398, BK399, HB⟩ := hcut
      cases kq with
      | zero => exact absurd HA.out (by simp [impl_GetPart.j1])
      | succ kj23 =>
       have H := HA.out
       clear HA
       simp only [impl_GetPart.j1] at H
       replace H := zI H
       obtain ⟨⟨t405, t406, t407, t408, t409⟩, A41, H⟩ := H
       try dsimp only at H
       by_cases c42 : t409 = true
       ·subst c42
        rw [if_pos rfl] at H
        replace H := zI H
        obtain ⟨t411, A43, H⟩ := H
        by_cases c44 : t411 = true
        ·subst c44
         rw [if_pos rfl] at H
         simp only [Option.some.injEq, Prod.mk.injEq] at H
         obtain ⟨rfl, rfl, rfl, rfl, rfl⟩ := H
         have hnb45 := NB398_399.out
         have hnc45 := NB399_398.out
         obtain ⟨hcz46_0, hcz46_1, hcz46_2, hcz46_3, hfz46_0, hfz46_1, hfz46_2, hfz46_3⟩ := zh4 BK398
         obtain ⟨Ao47, co47, eo47⟩ := Kd.R_slice HO_0.out
         subst eo47
         go_wp2_with (first | ((with_reducible refine zg 74 ?_); refine gL (some 54) Try.func74 #[.slice Ao47 t401.length co47, .int .i64 a1_1, .int .i64 x9_23] ?_; (with_reducible refine (impl_typedAt.calls kj23 _ _ t401 a1_1 x9_23 t405 t406 t407 t408 true _ ?z1 ?z2 A41.out).mono ?_); (case z1 => exact ze HO_0); (case z2 => exact zl HO_0); rintro e w48 ⟨rfl, hb⟩; refine ⟨_, rfl, ?_⟩; replace HO_0 := zR HO_0 hb; replace BK398 := zB BK398 hb; replace BK399 := zB BK399 hb; replace HB := zS hb (zb2 GE398 GE399); (try clear hb)) | ((with_reducible refine zt 10 ?_); (try (refine gate_guard (by rfl) ?_; dsimp only)); refine zn #[.int .i64 0, .int .i64 0, .string (⟨#[]⟩ : ByteArray)] 32 ?_; intro gb410 hg w49 hbox hb; replace HO_0 := zR HO_0 hb; have BK410 := zA hbox; have GW410 := zG hg (zb2 GE398 GE399); have GE410 := zG hg (zb2 GE398 GE399); replace HB := zS hb (zb2 GE398 GE399); have NB398_410 := zX BK398 hg; have NB410_398 := zY BK398 hg; replace BK398 := zB BK398 hb; have NB399_410 := zX BK399 hg; have NB410_399 := zY BK399 hg; replace BK399 := zB BK399 hb; clear hb hbox hg; have hnb50 := NB410_398.out; have hnc50 := NB398_410.out; have hnb51 := NB410_399.out; have hnc51 := NB399_410.out; obtain ⟨hcz52_0, hcz52_1, hcz52_2, hfz52_0, hfz52_1, hfz52_2⟩ := zh3 BK410; obtain ⟨hcz53_0, hcz53_1, hcz53_2, hcz53_3, hfz53_0, hfz53_1, hfz53_2, hfz53_3⟩ := zh4 BK398) | (go_at_call 31; (with_reducible refine (impl_Fits.calls a1_0 a1_1 a1_2 true t405 t406 t407 true _ A43.out).mono ?_); rintro e w54 ⟨rfl, hb⟩; replace HO_0 := zA (Kd.R_below (by (with_reducible repeat (first | apply Kd.R_alloc | apply Kd.R_drewN | apply Kd.R_drew)); exact (Kd.R_mono (Kd.R_far (p := ⟨gb410, 2, none⟩) (Kd.R_far (p := ⟨gb410, 1, none⟩) (Kd.R_far (p := ⟨gb410, 0, none⟩) (Kd.R_types HO_0.out BK410.out (by decide)) (fun _ hk => hk.2) (.int .i64 t405)) (fun _ hk => hk.2) (.int .i64 t406)) (fun _ hk => hk.2) (.string t407)) (fun _ h_ => h_.1))) hb); replace BK398 := zA (blk_below (g := gb398) (o := .cells #[.int .i64 a1_0, .int .i64 a1_1, .bool a1_2, .bool true] 30 (0, 0)) zz54 hb); replace BK399 := zA (blk_below (g := gb399) (o := .cells #[.int .i64 x400000_23, .int .i64 x400001_23, .string x400002_23] 32 (0, 0)) zz55 hb); replace BK410 := zA (blk_below (g := gb410) (o := .cells #[.int .i64 t405, .int .i64 t406, .string t407] 32 (0, 0)) zz38 hb); replace HB := zS hb zz48; (try clear hb); obtain ⟨hcz55_0, hcz55_1, hcz55_2, hfz55_0, hfz55_1, hfz55_2⟩ := zh3 BK410; obtain ⟨hcz56_0, hcz56_1, hcz56_2, hfz56_0, hfz56_1, hfz56_2⟩ := zh3 BK399))
         refine bodyPost_ret (results_ctt rfl _ _ gb399 32 #[.int .i64 t405, .int .i64 t406, .string t407] (0, 0) _ rfl (by (with_reducible repeat (first | refine blk_drewN ?_ _ | refine blk_drew ?_ | refine blk_alloc ?_ _)); refine blk_put (cs := #[.int .i64 t405, .int .i64 t406, .string x400002_23]) ?_ 2 _ rfl; (with_reducible repeat (first | refine blk_drewN ?_ _ | refine blk_drew ?_ | refine blk_alloc ?_ _)); refine blk_put (cs := #[.int .i64 t405, .int .i64 x400001_23, .string x400002_23]) ?_ 1 _ rfl; (with_reducible repeat (first | refine blk_drewN ?_ _ | refine blk_drew ?_ | refine blk_alloc ?_ _)); refine blk_put (cs := #[.int .i64 x400000_23, .int .i64 x400001_23, .string x400002_23]) ?_ 0 _ rfl; (with_reducible repeat (first | refine blk_drewN ?_ _ | refine blk_drew ?_ | refine blk_alloc ?_ _)); exact BK399.out) Try.underlying32 rfl (by kernel_rfl)) rfl ?_
         exact ⟨zw, zz48⟩
        ·replace c44 := Bool.eq_false_iff.mpr c44
         subst c44
         rw [if_neg (Bool.false_ne_true)] at H
         simp only [Option.some.injEq, Prod.mk.injEq] at H
         obtain ⟨rfl, rfl, rfl, rfl, rfl⟩ := H
         have hnb57 := NB398_399.out
         have hnc57 := NB399_398.out
         obtain ⟨hcz58_0, hcz58_1, hcz58_2, hcz58_3, hfz58_0, hfz58_1, hfz58_2, hfz58_3⟩ := zh4 BK398
         obtain ⟨Ao59, co59, eo59⟩ := Kd.R_slice HO_0.out
         subst eo59
         go_wp2_with (first | ((with_reducible refine zg 74 ?_); refine gL (some 54) Try.func74 #[.slice Ao59 t401.length co59, .int .i64 a1_1, .int .i64 x9_23] ?_; (with_reducible refine (impl_typedAt.calls kj23 _ _ t401 a1_1 x9_23 t405 t406 t407 t408 true _ ?z1 ?z2 A41.out).mono ?_); (case z1 => exact ze HO_0); (case z2 => exact zl HO_0); rintro e w60 ⟨rfl, hb⟩; refine ⟨_, rfl, ?_⟩; replace HO_0 := zR HO_0 hb; replace BK398 := zB BK398 hb; replace BK399 := zB BK399 hb; replace HB := zS hb (zb2 GE398 GE399); (try clear hb)) | ((with_reducible refine zt 10 ?_); (try (refine gate_guard (by rfl) ?_; dsimp only)); refine zn #[.int .i64 0, .int .i64 0, .string (⟨#[]⟩ : ByteArray)] 32 ?_; intro gb410 hg w61 hbox hb; replace HO_0 := zR HO_0 hb; have BK410 := zA hbox; have GW410 := zG hg (zb2 GE398 GE399); have GE410 := zG hg (zb2 GE398 GE399); replace HB := zS hb (zb2 GE398 GE399); have NB398_410 := zX BK398 hg; have NB410_398 := zY BK398 hg; replace BK398 := zB BK398 hb; have NB399_410 := zX BK399 hg; have NB410_399 := zY BK399 hg; replace BK399 := zB BK399 hb; clear hb hbox hg; have hnb62 := NB410_398.out; have hnc62 := NB398_410.out; have hnb63 := NB410_399.out; have hnc63 := NB399_410.out; obtain ⟨hcz64_0, hcz64_1, hcz64_2, hfz64_0, hfz64_1, hfz64_2⟩ := zh3 BK410; obtain ⟨hcz65_0, hcz65_1, hcz65_2, hcz65_3, hfz65_0, hfz65_1, hfz65_2, hfz65_3⟩ := zh4 BK398) | (go_at_call 31; (with_reducible refine (impl_Fits.calls a1_0 a1_1 a1_2 true t405 t406 t407 false _ A43.out).mono ?_); rintro e w66 ⟨rfl, hb⟩; replace HO_0 := zA (Kd.R_below (by (with_reducible repeat (first | apply Kd.R_alloc | apply Kd.R_drewN | apply Kd.R_drew)); exact (Kd.R_mono (Kd.R_far (p := ⟨gb410, 2, none⟩) (Kd.R_far (p := ⟨gb410, 1, none⟩) (Kd.R_far (p := ⟨gb410, 0, none⟩) (Kd.R_types HO_0.out BK410.out (by decide)) (fun _ hk => hk.2) (.int .i64 t405)) (fun _ hk => hk.2) (.int .i64 t406)) (fun _ hk => hk.2) (.string t407)) (fun _ h_ => h_.1))) hb); replace BK398 := zA (blk_below (g := gb398) (o := .cells #[.int .i64 a1_0, .int .i64 a1_1, .bool a1_2, .bool true] 30 (0, 0)) zz54 hb); replace BK399 := zA (blk_below (g := gb399) (o := .cells #[.int .i64 x400000_23, .int .i64 x400001_23, .string x400002_23] 32 (0, 0)) zz55 hb); replace BK410 := zA (blk_below (g := gb410) (o := .cells #[.int .i64 t405, .int .i64 t406, .string t407] 32 (0, 0)) zz38 hb); replace HB := zS hb zz48; (try clear hb); obtain ⟨hcz67_0, hcz67_1, hcz67_2, hfz67_0, hfz67_1, hfz67_2⟩ := zh3 BK399))
         refine bodyPost_ret (results_ctt rfl _ _ gb399 32 #[.int .i64 0, .int .i64 0, .string (⟨#[]⟩ : ByteArray)] (0, 0) _ rfl (by (with_reducible repeat (first | refine blk_drewN ?_ _ | refine blk_drew ?_ | refine blk_alloc ?_ _)); refine blk_put (cs := #[.int .i64 0, .int .i64 0, .string x400002_23]) ?_ 2 _ rfl; (with_reducible repeat (first | refine blk_drewN ?_ _ | refine blk_drew ?_ | refine blk_alloc ?_ _)); refine blk_put (cs := #[.int .i64 0, .int .i64 x400001_23, .string x400002_23]) ?_ 1 _ rfl; (with_reducible repeat (first | refine blk_drewN ?_ _ | refine blk_drew ?_ | refine blk_alloc ?_ _)); refine blk_put (cs := #[.int .i64 x400000_23, .int .i64 x400001_23, .string x400002_23]) ?_ 0 _ rfl; (with_reducible repeat (first | refine blk_drewN ?_ _ | refine blk_drew ?_ | refine blk_alloc ?_ _)); exact BK399.out) Try.underlying32 rfl (by kernel_rfl)) rfl ?_
         exact ⟨zw, zz48⟩
       ·replace c42 := Bool.eq_false_iff.mpr c42
        subst c42
        rw [if_neg (Bool.false_ne_true)] at H
        simp only [Option.some.injEq, Prod.mk.injEq] at H
        obtain ⟨rfl, rfl, rfl, rfl, rfl⟩ := H
        have hnb68 := NB398_399.out
        have hnc68 := NB399_398.out
        obtain ⟨hcz69_0, hcz69_1, hcz69_2, hcz69_3, hfz69_0, hfz69_1, hfz69_2, hfz69_3⟩ := zh4 BK398
        obtain ⟨Ao70, co70, eo70⟩ := Kd.R_slice HO_0.out
        subst eo70
        go_wp2_with (first | ((with_reducible refine zg 74 ?_); refine gL (some 54) Try.func74 #[.slice Ao70 t401.length co70, .int .i64 a1_1, .int .i64 x9_23] ?_; (with_reducible refine (impl_typedAt.calls kj23 _ _ t401 a1_1 x9_23 t405 t406 t407 t408 false _ ?z1 ?z2 A41.out).mono ?_); (case z1 => exact ze HO_0); (case z2 => exact zl HO_0); rintro e w71 ⟨rfl, hb⟩; refine ⟨_, rfl, ?_⟩; replace HO_0 := zR HO_0 hb; replace BK398 := zB BK398 hb; replace BK399 := zB BK399 hb; replace HB := zS hb (zb2 GE398 GE399); (try clear hb)) | ((with_reducible refine zt 10 ?_); (try (refine gate_guard (by rfl) ?_; dsimp only)); refine zn #[.int .i64 0, .int .i64 0, .string (⟨#[]⟩ : ByteArray)] 32 ?_; intro gb410 hg w72 hbox hb; replace HO_0 := zR HO_0 hb; have BK410 := zA hbox; have GW410 := zG hg (zb2 GE398 GE399); have GE410 := zG hg (zb2 GE398 GE399); replace HB := zS hb (zb2 GE398 GE399); have NB398_410 := zX BK398 hg; have NB410_398 := zY BK398 hg; replace BK398 := zB BK398 hb; have NB399_410 := zX BK399 hg; have NB410_399 := zY BK399 hg; replace BK399 := zB BK399 hb; clear hb hbox hg; have hnb73 := NB410_398.out; have hnc73 := NB398_410.out; have hnb74 := NB410_399.out; have hnc74 := NB399_410.out; obtain ⟨hcz75_0, hcz75_1, hcz75_2, hfz75_0, hfz75_1, hfz75_2⟩ := zh3 BK410; obtain ⟨hcz76_0, hcz76_1, hcz76_2, hfz76_0, hfz76_1, hfz76_2⟩ := zh3 BK399))
        refine bodyPost_ret (results_ctt rfl _ _ gb399 32 #[.int .i64 0, .int .i64 0, .string (⟨#[]⟩ : ByteArray)] (0, 0) _ rfl (by (with_reducible repeat (first | refine blk_drewN ?_ _ | refine blk_drew ?_ | refine blk_alloc ?_ _)); refine blk_put (cs := #[.int .i64 0, .int .i64 0, .string x400002_23]) ?_ 2 _ rfl; (with_reducible repeat (first | refine blk_drewN ?_ _ | refine blk_drew ?_ | refine blk_alloc ?_ _)); refine blk_put (cs := #[.int .i64 0, .int .i64 x400001_23, .string x400002_23]) ?_ 1 _ rfl; (with_reducible repeat (first | refine blk_drewN ?_ _ | refine blk_drew ?_ | refine blk_alloc ?_ _)); refine blk_put (cs := #[.int .i64 x400000_23, .int .i64 x400001_23, .string x400002_23]) ?_ 0 _ rfl; (with_reducible repeat (first | refine blk_drewN ?_ _ | refine blk_drew ?_ | refine blk_alloc ?_ _)); refine blk_far ?_ NB399_410.out _; (with_reducible repeat (first | refine blk_drewN ?_ _ | refine blk_drew ?_ | refine blk_alloc ?_ _)); refine blk_far ?_ NB399_410.out _; (with_reducible repeat (first | refine blk_drewN ?_ _ | refine blk_drew ?_ | refine blk_alloc ?_ _)); refine blk_far ?_ NB399_410.out _; (with_reducible repeat (first | refine blk_drewN ?_ _ | refine blk_drew ?_ | refine blk_alloc ?_ _)); exact BK399.out) Try.underlying32 rfl (by kernel_rfl)) rfl ?_
        exact ⟨zw, zz48⟩
    ·replace c22 := Bool.eq_false_iff.mpr c22
     subst c22
     rw [if_neg (Bool.false_ne_true)] at H
     have HC77 := zA H
     clear H
     have hnb78 := NB398_399.out
     have hnc78 := NB399_398.out
     obtain ⟨hcz79_0, hcz79_1, hcz79_2, hcz79_3, hfz79_0, hfz79_1, hfz79_2, hfz79_3⟩ := zh4 BK398
     go_upto_if 34 with (fail)
     go_cut [9] (fun v9 wc => ∃ (kq : Nat) (x9_76 : Int) (x400000_76 : Int) (x400001_76 : Int) (x400002_76 : ByteArray), v9 = .int .i64 x9_76 ∧ Aside0 (impl_GetPart.j2 kq l0 x9_76 a1_0 a1_1 a1_2 false = some (r1, r2, r3, r4, r5)) ∧ Aside0 (kq ≤ kj3) ∧ Aside0 (wc.heap[gb398]? = some (.cells #[.int .i64 a1_0, .int .i64 a1_1, .bool a1_2, .bool false] 30 (0, 0))) ∧ Aside0 (wc.heap[gb399]? = some (.cells #[.int .i64 x400000_76, .int .i64 x400001_76, .string x400002_76] 32 (0, 0))) ∧ Aside0 (Below w.heap.size w wc))
     case first =>
      have H := HC77.out
      clear HC77
      by_cases c80 : a1_2 = true
      ·subst c80
       rw [if_pos rfl] at H
       by_cases c81 : 0 ≤ a2
       ·rw [if_pos c81] at H
        have c81b0 : decide (0 ≤ a2) = true := decide_eq_true c81
        clear c81
        (first | rw [c81b0] | (simp only [i64_w, i32_w]; rw [c81b0]) | skip)
        by_cases c82 : a2 < (l0.length : Int)
        ·rw [if_pos c82] at H
         have c82b0 : decide (a2 < (l0.length : Int)) = true := decide_eq_true c82
         clear c82
         by_cases c83 : (rd l0 a2) = 0
         ·rw [if_pos c83] at H
          have c83b0 : ((rd l0 a2) == 0) = true := beq_iff_eq.mpr c83
          have c83b1 : ((rd l0 a2) != 0) = false := bne_eq_false_iff_eq.mpr c83
          clear c83
          simp only [Option.some.injEq, Prod.mk.injEq] at H
          obtain ⟨rfl, rfl, rfl, rfl, rfl⟩ := H
          have p412 : 0 ≤ (a2 : Int) := of_decide_eq_true za
          have q412 : a2 < (l0.length : Int) := of_decide_eq_true za
          obtain ⟨ad412, e412, hx412_0⟩ := Kd.at_int HR0.out a2 p412 q412
          cases e412
          replace hx412_0 := zj hx412_0
          replace p412 := eq_true p412
          replace q412 := eq_true q412
          have hnb84 := NB399_398.out
          have hnc84 := NB398_399.out
          obtain ⟨hcz85_0, hcz85_1, hcz85_2, hfz85_0, hfz85_1, hfz85_2⟩ := zh3 BK399
          go_wp2
          refine bodyPost_ret (results_ctt rfl _ _ gb399 32 #[.int .i64 0, .int .i64 0, .string (⟨#[]⟩ : ByteArray)] (0, 0) _ rfl zz10 Try.underlying32 rfl (by kernel_rfl)) rfl ?_
          exact ⟨zw, zb2 GE398 GE399⟩
         ·rw [if_neg c83] at H
          have c83b0 : ((rd l0 a2) == 0) = false := beq_eq_false_iff_ne.mpr c83
          have c83b1 : ((rd l0 a2) != 0) = true := bne_iff_ne.mpr c83
          by_cases c86 : (rd l0 a2) = 1
          ·rw [if_pos c86] at H
           have c86b0 : ((rd l0 a2) == 1) = true := beq_iff_eq.mpr c86
           have c86b1 : ((rd l0 a2) != 1) = false := bne_eq_false_iff_eq.mpr c86
           clear c86
           have H' := zA H
           clear H
           have p412 : 0 ≤ (a2 : Int) := of_decide_eq_true za
           have q412 : a2 < (l0.length : Int) := of_decide_eq_true za
           obtain ⟨ad412, e412, hx412_0⟩ := Kd.at_int HR0.out a2 p412 q412
           cases e412
           replace hx412_0 := zj hx412_0
           replace p412 := eq_true p412
           replace q412 := eq_true q412
           go_wp2
           go_meet
           case rel => exact ⟨_, (wrap64 (a2 + 1)), (0), (0), ((⟨#[]⟩ : ByteArray)), zx, H', ⟨zz77⟩, ⟨zk BK398⟩, ⟨zk BK399⟩, ⟨zb2 GE398 GE399⟩⟩
          ·rw [if_neg c86] at H
           have c86b0 : ((rd l0 a2) == 1) = false := beq_eq_false_iff_ne.mpr c86
           have c86b1 : ((rd l0 a2) != 1) = true := bne_iff_ne.mpr c86
           simp only [Option.some.injEq, Prod.mk.injEq] at H
           obtain ⟨rfl, rfl, rfl, rfl, rfl⟩ := H
           have p412 : 0 ≤ (a2 : Int) := of_decide_eq_true za
           have q412 : a2 < (l0.length : Int) := of_decide_eq_true za
           obtain ⟨ad412, e412, hx412_0⟩ := Kd.at_int HR0.out a2 p412 q412
           cases e412
           replace hx412_0 := zj hx412_0
           replace p412 := eq_true p412
           replace q412 := eq_true q412
           have hnb87 := NB399_398.out
           have hnc87 := NB398_399.out
           obtain ⟨hcz88_0, hcz88_1, hcz88_2, hfz88_0, hfz88_1, hfz88_2⟩ := zh3 BK399
           go_wp2
           refine bodyPost_ret (results_ctt rfl _ _ gb399 32 #[.int .i64 0, .int .i64 0, .string (⟨#[]⟩ : ByteArray)] (0, 0) _ rfl zz10 Try.underlying32 rfl (by kernel_rfl)) rfl ?_
           exact ⟨zw, zb2 GE398 GE399⟩
        ·rw [if_neg c82] at H
         exact absurd H (by simp)
       ·rw [if_neg c81] at H
        exact absurd H (by simp)
      ·replace c80 := Bool.eq_false_iff.mpr c80
       subst c80
       rw [if_neg (Bool.false_ne_true)] at H
       have H' := zA H
       clear H
       go_wp2
       go_meet
       case rel => exact ⟨_, (a2), (0), (0), ((⟨#[]⟩ : ByteArray)), zx, H', ⟨zz77⟩, ⟨zk BK398⟩, ⟨zk BK399⟩, ⟨zb2 GE398 GE399⟩⟩
     case rest =>
      clear HC77
      try clear c19; try clear c22; try clear hcz79_0; try clear hcz79_1; try clear hcz79_2; try clear hcz79_3; try clear hfz79_0; try clear hfz79_1; try clear hfz79_2; try clear hfz79_3
      obtain ⟨kq, x9_76, x400000_76, x400001_76, x400002_76, rfl, HA, HJ76, BK398, BK399, HB⟩ := hcut
      cases kq with
      | zero => exact absurd HA.out (by simp [impl_GetPart.j2])
      | succ kj76 =>
       have H := HA.out
       clear HA
       simp only [impl_GetPart.j2] at H
       replace H := zI H
       obtain ⟨⟨t413, t414, t415, t416, t417⟩, A89, H⟩ := H
       try dsimp only at H
       by_cases c90 : t417 = true
       ·subst c90
        rw [if_pos rfl] at H
        replace H := zI H
        obtain ⟨t419, A91, H⟩ := H
        by_cases c92 : t419 = true
        ·subst c92
         rw [if_pos rfl] at H
         simp only [Option.some.injEq, Prod.mk.injEq] at H
         obtain ⟨rfl, rfl, rfl, rfl, rfl⟩ := H
         have hnb93 := NB398_399.out
         have hnc93 := NB399_398.out
         obtain ⟨hcz94_0, hcz94_1, hcz94_2, hcz94_3, hfz94_0, hfz94_1, hfz94_2, hfz94_3⟩ := zh4 BK398
         go_wp2_with (first | ((with_reducible refine zg 74 ?_); refine gL (some 54) Try.func74 #[.slice A0 l0.length c0, .int .i64 a1_1, .int .i64 x9_76] ?_; (with_reducible refine (impl_typedAt.calls kj76 _ _ l0 a1_1 x9_76 t413 t414 t415 t416 true _ ?z1 ?z2 A89.out).mono ?_); (case z1 => exact zd HR0); (case z2 => exact HC0.out); rintro e w95 ⟨rfl, hb⟩; refine ⟨_, rfl, ?_⟩; replace BK398 := zB BK398 hb; replace BK399 := zB BK399 hb; replace HB := zS hb (zb2 GE398 GE399); (try clear hb)) | ((with_reducible refine zt 10 ?_); (try (refine gate_guard (by rfl) ?_; dsimp only)); refine zn #[.int .i64 0, .int .i64 0, .string (⟨#[]⟩ : ByteArray)] 32 ?_; intro gb418 hg w96 hbox hb; have BK418 := zA hbox; have GW418 := zG hg (zb2 GE398 GE399); have GE418 := zG hg (zb2 GE398 GE399); replace HB := zS hb (zb2 GE398 GE399); have NB398_418 := zX BK398 hg; have NB418_398 := zY BK398 hg; replace BK398 := zB BK398 hb; have NB399_418 := zX BK399 hg; have NB418_399 := zY BK399 hg; replace BK399 := zB BK399 hb; clear hb hbox hg; have hnb97 := NB418_398.out; have hnc97 := NB398_418.out; have hnb98 := NB418_399.out; have hnc98 := NB399_418.out; obtain ⟨hcz99_0, hcz99_1, hcz99_2, hfz99_0, hfz99_1, hfz99_2⟩ := zh3 BK418; obtain ⟨hcz100_0, hcz100_1, hcz100_2, hcz100_3, hfz100_0, hfz100_1, hfz100_2, hfz100_3⟩ := zh4 BK398) | (go_at_call 31; (with_reducible refine (impl_Fits.calls a1_0 a1_1 a1_2 false t413 t414 t415 true _ A91.out).mono ?_); rintro e w101 ⟨rfl, hb⟩; replace BK398 := zA (blk_below (g := gb398) (o := .cells #[.int .i64 a1_0, .int .i64 a1_1, .bool a1_2, .bool false] 30 (0, 0)) zz56 hb); replace BK399 := zA (blk_below (g := gb399) (o := .cells #[.int .i64 x400000_76, .int .i64 x400001_76, .string x400002_76] 32 (0, 0)) zz57 hb); replace BK418 := zA (blk_below (g := gb418) (o := .cells #[.int .i64 t413, .int .i64 t414, .string t415] 32 (0, 0)) zz39 hb); replace HB := zS hb zz49; (try clear hb); obtain ⟨hcz102_0, hcz102_1, hcz102_2, hfz102_0, hfz102_1, hfz102_2⟩ := zh3 BK418; obtain ⟨hcz103_0, hcz103_1, hcz103_2, hfz103_0, hfz103_1, hfz103_2⟩ := zh3 BK399))
         refine bodyPost_ret (results_ctt rfl _ _ gb399 32 #[.int .i64 t413, .int .i64 t414, .string t415] (0, 0) _ rfl (by (with_reducible repeat (first | refine blk_drewN ?_ _ | refine blk_drew ?_ | refine blk_alloc ?_ _)); refine blk_put (cs := #[.int .i64 t413, .int .i64 t414, .string x400002_76]) ?_ 2 _ rfl; (with_reducible repeat (first | refine blk_drewN ?_ _ | refine blk_drew ?_ | refine blk_alloc ?_ _)); refine blk_put (cs := #[.int .i64 t413, .int .i64 x400001_76, .string x400002_76]) ?_ 1 _ rfl; (with_reducible repeat (first | refine blk_drewN ?_ _ | refine blk_drew ?_ | refine blk_alloc ?_ _)); refine blk_put (cs := #[.int .i64 x400000_76, .int .i64 x400001_76, .string x400002_76]) ?_ 0 _ rfl; (with_reducible repeat (first | refine blk_drewN ?_ _ | refine blk_drew ?_ | refine blk_alloc ?_ _)); exact BK399.out) Try.underlying32 rfl (by kernel_rfl)) rfl ?_
         exact ⟨zw, zz49⟩
        ·replace c92 := Bool.eq_false_iff.mpr c92
         subst c92
         rw [if_neg (Bool.false_ne_true)] at H
         simp only [Option.some.injEq, Prod.mk.injEq] at H
         obtain ⟨rfl, rfl, rfl, rfl, rfl⟩ := H
         have hnb104 := NB398_399.out
         have hnc104 := NB399_398.out
         obtain ⟨hcz105_0, hcz105_1, hcz105_2, hcz105_3, hfz105_0, hfz105_1, hfz105_2, hfz105_3⟩ := zh4 BK398
         go_wp2_with (first | ((with_reducible refine zg 74 ?_); refine gL (some 54) Try.func74 #[.slice A0 l0.length c0, .int .i64 a1_1, .int .i64 x9_76] ?_; (with_reducible refine (impl_typedAt.calls kj76 _ _ l0 a1_1 x9_76 t413 t414 t415 t416 true _ ?z1 ?z2 A89.out).mono ?_); (case z1 => exact zd HR0); (case z2 => exact HC0.out); rintro e w106 ⟨rfl, hb⟩; refine ⟨_, rfl, ?_⟩; replace BK398 := zB BK398 hb; replace BK399 := zB BK399 hb; replace HB := zS hb (zb2 GE398 GE399); (try clear hb)) | ((with_reducible refine zt 10 ?_); (try (refine gate_guard (by rfl) ?_; dsimp only)); refine zn #[.int .i64 0, .int .i64 0, .string (⟨#[]⟩ : ByteArray)] 32 ?_; intro gb418 hg w107 hbox hb; have BK418 := zA hbox; have GW418 := zG hg (zb2 GE398 GE399); have GE418 := zG hg (zb2 GE398 GE399); replace HB := zS hb (zb2 GE398 GE399); have NB398_418 := zX BK398 hg; have NB418_398 := zY BK398 hg; replace BK398 := zB BK398 hb; have NB399_418 := zX BK399 hg; have NB418_399 := zY BK399 hg; replace BK399 := zB BK399 hb; clear hb hbox hg; have hnb108 := NB418_398.out; have hnc108 := NB398_418.out; have hnb109 := NB418_399.out; have hnc109 := NB399_418.out; obtain ⟨hcz110_0, hcz110_1, hcz110_2, hfz110_0, hfz110_1, hfz110_2⟩ := zh3 BK418; obtain ⟨hcz111_0, hcz111_1, hcz111_2, hcz111_3, hfz111_0, hfz111_1, hfz111_2, hfz111_3⟩ := zh4 BK398) | (go_at_call 31; (with_reducible refine (impl_Fits.calls a1_0 a1_1 a1_2 false t413 t414 t415 false _ A91.out).mono ?_); rintro e w112 ⟨rfl, hb⟩; replace BK398 := zA (blk_below (g := gb398) (o := .cells #[.int .i64 a1_0, .int .i64 a1_1, .bool a1_2, .bool false] 30 (0, 0)) zz56 hb); replace BK399 := zA (blk_below (g := gb399) (o := .cells #[.int .i64 x400000_76, .int .i64 x400001_76, .string x400002_76] 32 (0, 0)) zz57 hb); replace BK418 := zA (blk_below (g := gb418) (o := .cells #[.int .i64 t413, .int .i64 t414, .string t415] 32 (0, 0)) zz39 hb); replace HB := zS hb zz49; (try clear hb); obtain ⟨hcz113_0, hcz113_1, hcz113_2, hfz113_0, hfz113_1, hfz113_2⟩ := zh3 BK399))
         refine bodyPost_ret (results_ctt rfl _ _ gb399 32 #[.int .i64 0, .int .i64 0, .string (⟨#[]⟩ : ByteArray)] (0, 0) _ rfl (by (with_reducible repeat (first | refine blk_drewN ?_ _ | refine blk_drew ?_ | refine blk_alloc ?_ _)); refine blk_put (cs := #[.int .i64 0, .int .i64 0, .string x400002_76]) ?_ 2 _ rfl; (with_reducible repeat (first | refine blk_drewN ?_ _ | refine blk_drew ?_ | refine blk_alloc ?_ _)); refine blk_put (cs := #[.int .i64 0, .int .i64 x400001_76, .string x400002_76]) ?_ 1 _ rfl; (with_reducible repeat (first | refine blk_drewN ?_ _ | refine blk_drew ?_ | refine blk_alloc ?_ _)); refine blk_put (cs := #[.int .i64 x400000_76, .int .i64 x400001_76, .string x400002_76]) ?_ 0 _ rfl; (with_reducible repeat (first | refine blk_drewN ?_ _ | refine blk_drew ?_ | refine blk_alloc ?_ _)); exact BK399.out) Try.underlying32 rfl (by kernel_rfl)) rfl ?_
         exact ⟨zw, zz49⟩
       ·replace c90 := Bool.eq_false_iff.mpr c90
        subst c90
        rw [if_neg (Bool.false_ne_true)] at H
        simp only [Option.some.injEq, Prod.mk.injEq] at H
        obtain ⟨rfl, rfl, rfl, rfl, rfl⟩ := H
        have hnb114 := NB398_399.out
        have hnc114 := NB399_398.out
        obtain ⟨hcz115_0, hcz115_1, hcz115_2, hcz115_3, hfz115_0, hfz115_1, hfz115_2, hfz115_3⟩ := zh4 BK398
        go_wp2_with (first | ((with_reducible refine zg 74 ?_); refine gL (some 54) Try.func74 #[.slice A0 l0.length c0, .int .i64 a1_1, .int .i64 x9_76] ?_; (with_reducible refine (impl_typedAt.calls kj76 _ _ l0 a1_1 x9_76 t413 t414 t415 t416 false _ ?z1 ?z2 A89.out).mono ?_); (case z1 => exact zd HR0); (case z2 => exact HC0.out); rintro e w116 ⟨rfl, hb⟩; refine ⟨_, rfl, ?_⟩; replace BK398 := zB BK398 hb; replace BK399 := zB BK399 hb; replace HB := zS hb (zb2 GE398 GE399); (try clear hb)) | ((with_reducible refine zt 10 ?_); (try (refine gate_guard (by rfl) ?_; dsimp only)); refine zn #[.int .i64 0, .int .i64 0, .string (⟨#[]⟩ : ByteArray)] 32 ?_; intro gb418 hg w117 hbox hb; have BK418 := zA hbox; have GW418 := zG hg (zb2 GE398 GE399); have GE418 := zG hg (zb2 GE398 GE399); replace HB := zS hb (zb2 GE398 GE399); have NB398_418 := zX BK398 hg; have NB418_398 := zY BK398 hg; replace BK398 := zB BK398 hb; have NB399_418 := zX BK399 hg; have NB418_399 := zY BK399 hg; replace BK399 := zB BK399 hb; clear hb hbox hg; have hnb118 := NB418_398.out; have hnc118 := NB398_418.out; have hnb119 := NB418_399.out; have hnc119 := NB399_418.out; obtain ⟨hcz120_0, hcz120_1, hcz120_2, hfz120_0, hfz120_1, hfz120_2⟩ := zh3 BK418; obtain ⟨hcz121_0, hcz121_1, hcz121_2, hfz121_0, hfz121_1, hfz121_2⟩ := zh3 BK399))
        refine bodyPost_ret (results_ctt rfl _ _ gb399 32 #[.int .i64 0, .int .i64 0, .string (⟨#[]⟩ : ByteArray)] (0, 0) _ rfl (by (with_reducible repeat (first | refine blk_drewN ?_ _ | refine blk_drew ?_ | refine blk_alloc ?_ _)); refine blk_put (cs := #[.int .i64 0, .int .i64 0, .string x400002_76]) ?_ 2 _ rfl; (with_reducible repeat (first | refine blk_drewN ?_ _ | refine blk_drew ?_ | refine blk_alloc ?_ _)); refine blk_put (cs := #[.int .i64 0, .int .i64 x400001_76, .string x400002_76]) ?_ 1 _ rfl; (with_reducible repeat (first | refine blk_drewN ?_ _ | refine blk_drew ?_ | refine blk_alloc ?_ _)); refine blk_put (cs := #[.int .i64 x400000_76, .int .i64 x400001_76, .string x400002_76]) ?_ 0 _ rfl; (with_reducible repeat (first | refine blk_drewN ?_ _ | refine blk_drew ?_ | refine blk_alloc ?_ _)); refine blk_far ?_ NB399_418.out _; (with_reducible repeat (first | refine blk_drewN ?_ _ | refine blk_drew ?_ | refine blk_alloc ?_ _)); refine blk_far ?_ NB399_418.out _; (with_reducible repeat (first | refine blk_drewN ?_ _ | refine blk_drew ?_ | refine blk_alloc ?_ _)); refine blk_far ?_ NB399_418.out _; (with_reducible repeat (first | refine blk_drewN ?_ _ | refine blk_drew ?_ | refine blk_alloc ?_ _)); exact BK399.out) Try.underlying32 rfl (by kernel_rfl)) rfl ?_
        exact ⟨zw, zz49⟩

end Go.Proofs.Ytnfmpopmigbkoaa.PFnKeysRead

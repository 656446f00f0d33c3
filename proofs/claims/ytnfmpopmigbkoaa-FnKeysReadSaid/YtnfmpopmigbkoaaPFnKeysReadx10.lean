-- Written by mkprint.py, a program of this session (the printer with additions of its own)
import Derived.Test.YtnfmpopmigbkoaaPFnKeysReadx0
import Derived.Test.YtnfmpopmigbkoaaPFnKeysReadx6
import Derived.Test.YtnfmpopmigbkoaaPFnKeysReadx9
namespace Go.Proofs.Ytnfmpopmigbkoaa.PFnKeysRead
open Go.RowKit Go.Proofs.YtnfmpopmigbkoaaW.PrintWords Go.Proofs.YtnfmpopmigbkoaaW.PrintLast Go.Proofs.YtnfmpopmigbkoaaW.PrintMore
attribute [local go_sem] max2_int min2_int max_two min_two max_three min_three max_four min_four   -- for this text's walks alone
set_option linter.unusedVariables false
set_option linter.unusedSimpArgs false

/-! ### spec_PlanOk: function 62 -/
def spec_PlanOk.l0 : Nat → List (S30) → Int → Option (Bool)
  | 0, _, _ => none
  | k + 1, x0, x3 => if x3 < (x0.length : Int) then (if 0 ≤ x3 then ((spec_PartOk.f ((rd_T30 x0 x3).f0) ((rd_T30 x0 x3).f1) ((rd_T30 x0 x3).f2) ((rd_T30 x0 x3).f3)).bind fun t338 => (if t338 = true then (spec_PlanOk.l0 k x0 (wrap64 (x3 + 1))) else (some false))) else (none)) else (some (decide ((x0.length : Int) ≤ 6)))
def spec_PlanOk.f (k : Nat) (l0 : List (S30)) : Option (Bool) := spec_PlanOk.l0 k l0 0
set_option maxHeartbeats 8000000 in
set_option maxRecDepth 100000 in
theorem spec_PlanOk.calls (k : Nat) (A0 : Option Addr) (c0 : Nat) (l0 : List (S30)) (r : Bool) (w : World) (hr0 : Kd.C k30 w A0 l0.length l0) (hc0 : l0.length ≤ c0) (h : spec_PlanOk.f k l0 = some r) :
  Calls Try.prog 62 #[.slice A0 l0.length c0] w fun e w' => e = .returned (.bool r) ∧ Below w.heap.size w w' := by
 have hu30 := Try.underlying30
 have HR0 := zA hr0
 have HC0 := zA hc0
 clear hr0 hc0
 have HB := zA (Below.refl w.heap.size w)
 have H : (spec_PlanOk.l0 k l0 0) = some r := h
 clear h
 have H' := zA H
 clear H
 go_enter Try.func62, Try.ntmps62
 go_wp2
 go_loopg [3] k (fun kq v3 w' => ∃ (x3_1 : Int), v3 = .int .i64 x3_1 ∧ Aside0 (spec_PlanOk.l0 kq l0 x3_1 = some r) ∧ Aside0 (kq ≤ k) ∧ Aside0 (Below w.heap.size w w'))
 case atStart => exact ⟨(0), zx, H', ⟨Nat.le_refl _⟩, ⟨zb⟩⟩
 case round =>
  clear H'
  obtain ⟨x3_1, rfl, HA, HK1, HB⟩ := hrel
  cases gk with
  | zero => exact absurd HA.out (by simp [spec_PlanOk.l0])
  | succ k1 =>
   have H := HA.out
   clear HA
   simp only [spec_PlanOk.l0] at H
   by_cases c2 : x3_1 < (l0.length : Int)
   ·rw [if_pos c2] at H
    have c2b0 : decide (x3_1 < (l0.length : Int)) = true := decide_eq_true c2
    clear c2
    by_cases c3 : 0 ≤ x3_1
    ·rw [if_pos c3] at H
     have c3b0 : decide (0 ≤ x3_1) = true := decide_eq_true c3
     clear c3
     replace H := zI H
     obtain ⟨t338, A4, H⟩ := H
     by_cases c5 : t338 = true
     ·subst c5
      rw [if_pos rfl] at H
      have H' := zA H
      clear H
      have p337 : 0 ≤ (x3_1 : Int) := of_decide_eq_true za
      have q337 : x3_1 < (l0.length : Int) := of_decide_eq_true za
      obtain ⟨ad337, e337, hx337_0, hx337_1, hx337_2, hx337_3⟩ := at_T30 HR0.out x3_1 p337 q337
      cases e337
      replace hx337_0 := zj hx337_0
      replace hx337_1 := zj hx337_1
      replace hx337_2 := zj hx337_2
      replace hx337_3 := zj hx337_3
      replace p337 := eq_true p337
      replace q337 := eq_true q337
      go_wp2_with (first | ((with_reducible refine zg 27 ?_); refine gL (some 14) Try.func27 #[.agg #[.int .i64 ((rd_T30 l0 x3_1).f0), .int .i64 ((rd_T30 l0 x3_1).f1), .bool ((rd_T30 l0 x3_1).f2), .bool ((rd_T30 l0 x3_1).f3)]] ?_; (with_reducible refine (spec_PartOk.calls ((rd_T30 l0 x3_1).f0) ((rd_T30 l0 x3_1).f1) ((rd_T30 l0 x3_1).f2) ((rd_T30 l0 x3_1).f3) true _ A4.out).mono ?_); rintro e w6 ⟨rfl, hb⟩; refine ⟨_, rfl, ?_⟩; replace HB := zS hb; (try clear hb)))
      go_roundg k1
      case measure => have := HK1.out; omega
      case rel => exact ⟨(wrap64 (x3_1 + 1)), zx, H', ⟨zz79⟩, ⟨zb⟩⟩
     ·replace c5 := Bool.eq_false_iff.mpr c5
      subst c5
      rw [if_neg (Bool.false_ne_true)] at H
      obtain rfl := Option.some.inj H
      have p337 : 0 ≤ (x3_1 : Int) := of_decide_eq_true za
      have q337 : x3_1 < (l0.length : Int) := of_decide_eq_true za
      obtain ⟨ad337, e337, hx337_0, hx337_1, hx337_2, hx337_3⟩ := at_T30 HR0.out x3_1 p337 q337
      cases e337
      replace hx337_0 := zj hx337_0
      replace hx337_1 := zj hx337_1
      replace hx337_2 := zj hx337_2
      replace hx337_3 := zj hx337_3
      replace p337 := eq_true p337
      replace q337 := eq_true q337
      go_wp2_with (first | ((with_reducible refine zg 27 ?_); refine gL (some 14) Try.func27 #[.agg #[.int .i64 ((rd_T30 l0 x3_1).f0), .int .i64 ((rd_T30 l0 x3_1).f1), .bool ((rd_T30 l0 x3_1).f2), .bool ((rd_T30 l0 x3_1).f3)]] ?_; (with_reducible refine (spec_PartOk.calls ((rd_T30 l0 x3_1).f0) ((rd_T30 l0 x3_1).f1) ((rd_T30 l0 x3_1).f2) ((rd_T30 l0 x3_1).f3) false _ A4.out).mono ?_); rintro e w7 ⟨rfl, hb⟩; refine ⟨_, rfl, ?_⟩; replace HB := zS hb; (try clear hb)))
      go_ret
      exact ⟨zw, zb⟩
    ·rw [if_neg c3] at H
     exact absurd H (by simp)
   ·rw [if_neg c2] at H
    have c2b0 : decide (x3_1 < (l0.length : Int)) = false := decide_eq_false c2
    clear c2
    obtain rfl := Option.some.inj H
    go_wp2
    go_ret
    exact ⟨zw, zb⟩

/-! ### spec_DecodeKey: function 46 -/
mutual
def spec_DecodeKey.l0 : Nat → List (S30) → List Int → List (S32) → Int → Int → Option ((List (S32)) × Bool)
  | 0, _, _, _, _, _ => none
  | k + 1, x0, x1, x6, x7, x8 => if x8 < (x0.length : Int) then ((spec_PlanOk.f k x0).bind fun t342 => (spec_DecodeKey.j1 k x0 x1 x6 x7 x8 t342)) else (spec_DecodeKey.j1 k x0 x1 x6 x7 x8 false)
def spec_DecodeKey.j1 : Nat → List (S30) → List Int → List (S32) → Int → Int → Bool → Option ((List (S32)) × Bool)
  | 0, _, _, _, _, _, _ => none
  | k + 1, x0, x1, x6, x7, x8, x20 => if x20 = true then (if 0 ≤ x8 then (if x8 < (x0.length : Int) then ((spec_GetPart.f k x1 ((rd_T30 x0 x8).f0) ((rd_T30 x0 x8).f1) ((rd_T30 x0 x8).f2) ((rd_T30 x0 x8).f3) x7).bind fun bt344 => (if bt344.2.2.2.2 = true then (if x6.length < 4398046511104 then (spec_DecodeKey.l0 k x0 x1 (x6 ++ [(⟨bt344.1, bt344.2.1, bt344.2.2.1⟩ : S32)]) bt344.2.2.2.1 (wrap64 (x8 + 1))) else (none)) else (some ((([] : List (S32))), false)))) else (none)) else (none)) else ((spec_PlanOk.f k x0).bind fun t356 => (if t356 = true then (if x7 = (x1.length : Int) then (some (x6, true)) else (some ((([] : List (S32))), false))) else (some ((([] : List (S32))), false))))
end
def spec_DecodeKey.f (k : Nat) (l0 : List (S30)) (l1 : List Int) : Option ((List (S32)) × Bool) := spec_DecodeKey.l0 k l0 l1 (([] : List (S32))) 0 0
set_option maxHeartbeats 8000000 in
set_option maxRecDepth 100000 in
theorem spec_DecodeKey.calls (k : Nat) (A0 : Option Addr) (c0 : Nat) (l0 : List (S30)) (A1 : Option Addr) (c1 : Nat) (l1 : List Int) (r1 : List (S32)) (r2 : Bool) (w : World) (hr0 : Kd.C k30 w A0 l0.length l0) (hc0 : l0.length ≤ c0) (hr1 : Kd.C (Kd.int .u8) w A1 l1.length l1) (hc1 : l1.length ≤ c1) (h : spec_DecodeKey.f k l0 l1 = some (r1, r2)) :
  Calls Try.prog 46 #[.slice A0 l0.length c0, .slice A1 l1.length c1] w fun e w' => ∃ v0_ : Value, e = .returned (.tuple #[v0_, .bool r2]) ∧ Kd.R k32 32 w' w.heap.size (fun _ => True) v0_ r1 ∧ Below w.heap.size w w' := by
 have hu30 := Try.underlying30
 have hu32 := Try.underlying32
 have HR0 := zA hr0
 have HC0 := zA hc0
 clear hr0 hc0
 have HR1 := zA hr1
 have HC1 := zA hc1
 clear hr1 hc1
 have HB := zA (Below.refl w.heap.size w)
 have H : (spec_DecodeKey.l0 k l0 l1 (([] : List (S32))) 0 0) = some (r1, r2) := h
 clear h
 obtain ⟨y339, hy339⟩ : ∃ y_ : List (S32), y_ = (([] : List (S32))) := ⟨_, rfl⟩
 replace H : (spec_DecodeKey.l0 k l0 l1 y339 0 0) = some (r1, r2) := zy hy339
 have Ny339 := zA hy339
 clear hy339
 have H' := zA H
 clear H
 go_enter Try.func46, Try.ntmps46
 go_wp2_with (first | ((with_reducible refine zt 12 ?_); (try (refine gate_guard (by rfl) ?_; dsimp only)); refine Kd.R_lit k32 _ 32 ?hg (N := 12) ?hd (xs := ([] : List (S32))) (inner := []) (ok := fun _ => True) (okp := fun _ => True) ?hr ?hp (fun _ hk => hk) trivial (Below.refl _ _) (Nat.le_refl _) (by simp) ?_; (case hd => rfl); (case hg => rfl); (case hr => exact zz16); (case hp => exact (Reps.none _ _)); intro v340 w3 ho4 hb hg_ hnew_; clear hg_ hnew_; (first | rw [← Ny339.out] at ho4 | (simp only [Int.reduceToNat] at ho4; rw [← Ny339.out] at ho4)); have HO341 := zL ho4; replace HB := zS hb; clear hb ho4))
 go_loopg [6, 7, 8] k (fun kq v6 v7 v8 w' => ∃ (x6_1 : List (S32)) (x7_1 : Int) (x8_1 : Int), v7 = .int .i64 x7_1 ∧ v8 = .int .i64 x8_1 ∧ Aside0 (spec_DecodeKey.l0 kq l0 l1 x6_1 x7_1 x8_1 = some (r1, r2)) ∧ Aside0 (kq ≤ k) ∧ Aside0 (Kd.R k32 32 w' w.heap.size (fun _ => True) v6 x6_1) ∧ Aside0 (Below w.heap.size w w'))
 case atStart => exact ⟨(y339), (0), (0), zx, zx, H', ⟨Nat.le_refl _⟩, ⟨zr HO341⟩, ⟨zb⟩⟩
 case round =>
  clear H'
  obtain ⟨x6_1, x7_1, x8_1, rfl, rfl, HA, HK1, HO_6, HB⟩ := hrel
  cases gk with
  | zero => exact absurd HA.out (by simp [spec_DecodeKey.l0])
  | succ k1 =>
   have H := HA.out
   clear HA
   simp only [spec_DecodeKey.l0] at H
   have HC5 := zA H
   clear H
   go_upto_region 4 with (fail)
   go_cut [20] (fun v20 wc => ∃ (kq : Nat) (x20_4 : Bool), v20 = .bool x20_4 ∧ Aside0 (spec_DecodeKey.j1 kq l0 l1 x6_1 x7_1 x8_1 x20_4 = some (r1, r2)) ∧ Aside0 (kq ≤ k1) ∧ Aside0 (Kd.R k32 32 wc w.heap.size (fun _ => True) u6 x6_1) ∧ Aside0 (Below w.heap.size w wc))
   case first =>
    have H := HC5.out
    clear HC5
    by_cases c6 : x8_1 < (l0.length : Int)
    ·rw [if_pos c6] at H
     have c6b0 : decide (x8_1 < (l0.length : Int)) = true := decide_eq_true c6
     clear c6
     (first | rw [c6b0] | (simp only [i64_w, i32_w]; rw [c6b0]) | skip)
     replace H := zI H
     obtain ⟨t342, A7, H⟩ := H
     have H' := zA H
     clear H
     go_wp2_with (first | (go_at_call 62; (with_reducible refine (spec_PlanOk.calls k1 _ _ l0 t342 _ ?z1 ?z2 A7.out).mono ?_); (case z1 => exact zd HR0); (case z2 => exact HC0.out); rintro e w8 ⟨rfl, hb⟩; replace HO_6 := zR HO_6 hb; replace HB := zS hb; (try clear hb)))
     go_meet
     case rel => exact ⟨_, (t342), zx, H', ⟨zz84⟩, ⟨zr HO_6⟩, ⟨zb⟩⟩
    ·rw [if_neg c6] at H
     have c6b0 : decide (x8_1 < (l0.length : Int)) = false := decide_eq_false c6
     clear c6
     (first | rw [c6b0] | (simp only [i64_w, i32_w]; rw [c6b0]) | skip)
     have H' := zA H
     clear H
     go_wp2
     go_meet
     case rel => exact ⟨_, (false), zx, H', ⟨zz84⟩, ⟨zr HO_6⟩, ⟨zb⟩⟩
   case rest =>
    clear HC5
    obtain ⟨kq, x20_4, rfl, HA, HJ4, HO_6, HB⟩ := hcut
    cases kq with
    | zero => exact absurd HA.out (by simp [spec_DecodeKey.j1])
    | succ kj4 =>
     have H := HA.out
     clear HA
     simp only [spec_DecodeKey.j1] at H
     by_cases c9 : x20_4 = true
     ·subst c9
      rw [if_pos rfl] at H
      by_cases c10 : 0 ≤ x8_1
      ·rw [if_pos c10] at H
       have c10b0 : decide (0 ≤ x8_1) = true := decide_eq_true c10
       clear c10
       by_cases c11 : x8_1 < (l0.length : Int)
       ·rw [if_pos c11] at H
        have c11b0 : decide (x8_1 < (l0.length : Int)) = true := decide_eq_true c11
        clear c11
        replace H := zI H
        obtain ⟨⟨t344, t345, t346, t347, t348⟩, A12, H⟩ := H
        try dsimp only at H
        by_cases c13 : t348 = true
        ·subst c13
         rw [if_pos rfl] at H
         by_cases c14 : x6_1.length < 4398046511104
         ·rw [if_pos c14] at H
          have LMc14 := zA c14
          clear c14
          obtain ⟨y350, hy350⟩ : ∃ y_ : List (S32), y_ = (x6_1 ++ [(⟨t344, t345, t346⟩ : S32)]) := ⟨_, rfl⟩
          replace H : (spec_DecodeKey.l0 kj4 l0 l1 y350 t347 (wrap64 (x8_1 + 1))) = some (r1, r2) := zy hy350
          have Ny350 := zA hy350
          clear hy350
          have H' := zA H
          clear H
          have p343 : 0 ≤ (x8_1 : Int) := of_decide_eq_true za
          have q343 : x8_1 < (l0.length : Int) := of_decide_eq_true za
          obtain ⟨ad343, e343, hx343_0, hx343_1, hx343_2, hx343_3⟩ := at_T30 HR0.out x8_1 p343 q343
          cases e343
          replace hx343_0 := zj hx343_0
          replace hx343_1 := zj hx343_1
          replace hx343_2 := zj hx343_2
          replace hx343_3 := zj hx343_3
          replace p343 := eq_true p343
          replace q343 := eq_true q343
          go_wp2_with (first | ((with_reducible refine zg 22 ?_); refine gL (some 30) Try.func22 #[.slice A1 l1.length c1, .agg #[.int .i64 ((rd_T30 l0 x8_1).f0), .int .i64 ((rd_T30 l0 x8_1).f1), .bool ((rd_T30 l0 x8_1).f2), .bool ((rd_T30 l0 x8_1).f3)], .int .i64 x7_1] ?_; (with_reducible refine (spec_GetPart.calls kj4 _ _ l1 ((rd_T30 l0 x8_1).f0) ((rd_T30 l0 x8_1).f1) ((rd_T30 l0 x8_1).f2) ((rd_T30 l0 x8_1).f3) x7_1 t344 t345 t346 t347 true _ ?z1 ?z2 A12.out).mono ?_); (case z1 => exact zd HR1); (case z2 => exact HC1.out); rintro e w15 ⟨rfl, hb⟩; refine ⟨_, rfl, ?_⟩; replace HO_6 := zR HO_6 hb; replace HB := zS hb; (try clear hb)) | ((with_reducible refine zt 9 ?_); (try (refine gate_guard (by rfl) ?_; dsimp only)); refine zn #[.int .i64 0, .int .i64 0, .string (⟨#[]⟩ : ByteArray)] 32 ?_; intro gb349 hg w16 hbox hb; replace HO_6 := zA (Kd.R_below (Kd.R_elderB (zr HO_6) gb349 (Nat.le_of_eq hg.symm)) hb); have BK349 := zA hbox; have GW349 := zG hg; have GE349 := zG hg; replace HB := zS hb; clear hb hbox hg; obtain ⟨hcz17_0, hcz17_1, hcz17_2, hfz17_0, hfz17_1, hfz17_2⟩ := zh3 BK349) | ((with_reducible refine gate_builtin (b := .append) (xs := #[.tmp 37, .tmp 39]) rfl ?_); (try (refine gate_guard (by rfl) ?_; dsimp only)); at_builtin; refine Kd.R_append k32 (w0 := w) w.heap.size rfl (.tmp 37) (.tmp 39) 58 32 (.agg #[(.int .i64 0), (.int .i64 0), (.string ⟨#[]⟩)]) 32 rfl Try.underlying58 info32 rfl (by decide) (by omega) u6 x6_1 (⟨t344, t345, t346⟩ : S32) [.int .i64 t344, .int .i64 t345, .string t346] (fun k_ => k_ ≠ gb349) (fun _ => False) rfl zz16 ?aP (fun _ hk => hk.elim) ?aF ?aO ?aB ?aS ?aL ?_; (case aP => exact k32_mkM _ _ _ (⟨t344, t345, t346⟩ : S32)); (case aB => exact (zb1 GE349)); (case aF => exact (fun k_ hk => Kd.freshB (g := gb349) (o := .cells #[.int .i64 t344, .int .i64 t345, .string t346] 32 (0, 0)) zz18 k_ hk)); (case aO => exact (by (with_reducible repeat (first | apply Kd.R_alloc | apply Kd.R_drewN | apply Kd.R_drew)); exact Kd.R_mono (Kd.R_far (p := ⟨gb349, 2, none⟩) (Kd.R_far (p := ⟨gb349, 1, none⟩) (Kd.R_far (p := ⟨gb349, 0, none⟩) (Kd.R_mono HO_6.out (fun k_ hk => (⟨hk, hk.2⟩ : _ ∧ k_ ≠ gb349))) (fun _ hk => hk.2) (.int .i64 t344)) (fun _ hk => hk.2) (.int .i64 t345)) (fun _ hk => hk.2) (.string t346)) (fun _ hk => hk.1.2))); (case aS => exact (below_size (zb1 GE349))); (case aL => have := LMc14.out; omega); intro v351 w18 ho hb hg hat; rw [← Ny350.out] at ho; replace BK349 := zA (blk_grown (g := gb349) (o := .cells #[.int .i64 t344, .int .i64 t345, .string t346] 32 (0, 0)) zz18 hg (Kd.R_away HO_6.out (fun _ hk => hk.2))); replace HB := zA hb; have HO352 := zA ho; clear HO_6 ho hb hg hat))
          go_roundg kj4
          case measure => have := HK1.out; have := HJ4.out; omega
          case rel => exact ⟨(y350), (t347), (wrap64 (x8_1 + 1)), zx, zx, H', ⟨by have := HK1.out; have := HJ4.out; omega⟩, ⟨by (with_reducible repeat (first | apply Kd.R_alloc | apply Kd.R_drewN | apply Kd.R_drew)); exact Kd.R_mono HO352.out (fun _ hk => trivial)⟩, ⟨zb1 GE349⟩⟩
         ·rw [if_neg c14] at H
          exact absurd H (by simp)
        ·replace c13 := Bool.eq_false_iff.mpr c13
         subst c13
         rw [if_neg (Bool.false_ne_true)] at H
         obtain ⟨y353, hy353⟩ : ∃ y_ : List (S32), y_ = (([] : List (S32))) := ⟨_, rfl⟩
         replace H : (some (y353, false)) = some (r1, r2) := zy hy353
         have Ny353 := zA hy353
         clear hy353
         simp only [Option.some.injEq, Prod.mk.injEq] at H
         obtain ⟨rfl, rfl⟩ := H
         have p343 : 0 ≤ (x8_1 : Int) := of_decide_eq_true za
         have q343 : x8_1 < (l0.length : Int) := of_decide_eq_true za
         obtain ⟨ad343, e343, hx343_0, hx343_1, hx343_2, hx343_3⟩ := at_T30 HR0.out x8_1 p343 q343
         cases e343
         replace hx343_0 := zj hx343_0
         replace hx343_1 := zj hx343_1
         replace hx343_2 := zj hx343_2
         replace hx343_3 := zj hx343_3
         replace p343 := eq_true p343
         replace q343 := eq_true q343
         go_wp2_with (first | ((with_reducible refine zg 22 ?_); refine gL (some 30) Try.func22 #[.slice A1 l1.length c1, .agg #[.int .i64 ((rd_T30 l0 x8_1).f0), .int .i64 ((rd_T30 l0 x8_1).f1), .bool ((rd_T30 l0 x8_1).f2), .bool ((rd_T30 l0 x8_1).f3)], .int .i64 x7_1] ?_; (with_reducible refine (spec_GetPart.calls kj4 _ _ l1 ((rd_T30 l0 x8_1).f0) ((rd_T30 l0 x8_1).f1) ((rd_T30 l0 x8_1).f2) ((rd_T30 l0 x8_1).f3) x7_1 t344 t345 t346 t347 false _ ?z1 ?z2 A12.out).mono ?_); (case z1 => exact zd HR1); (case z2 => exact HC1.out); rintro e w19 ⟨rfl, hb⟩; refine ⟨_, rfl, ?_⟩; replace HO_6 := zR HO_6 hb; replace HB := zS hb; (try clear hb)) | ((with_reducible refine zt 9 ?_); (try (refine gate_guard (by rfl) ?_; dsimp only)); refine zn #[.int .i64 0, .int .i64 0, .string (⟨#[]⟩ : ByteArray)] 32 ?_; intro gb349 hg w20 hbox hb; replace HO_6 := zA (Kd.R_below (Kd.R_elderB (zr HO_6) gb349 (Nat.le_of_eq hg.symm)) hb); have BK349 := zA hbox; have GW349 := zG hg; have GE349 := zG hg; replace HB := zS hb; clear hb hbox hg; obtain ⟨hcz21_0, hcz21_1, hcz21_2, hfz21_0, hfz21_1, hfz21_2⟩ := zh3 BK349) | ((with_reducible refine zt 36 ?_); (try (refine gate_guard (by rfl) ?_; dsimp only)); refine Kd.R_lit k32 _ 32 ?hg (N := 36) ?hd (xs := ([] : List (S32))) (inner := []) (ok := fun _ => True) (okp := fun _ => True) ?hr ?hp (fun _ hk => hk) trivial (Below.refl _ _) (Nat.le_refl _) (by simp) ?_; (case hd => rfl); (case hg => rfl); (case hr => exact zz16); (case hp => exact (Reps.none _ _)); intro v354 w22 ho23 hb hg_ hnew_; clear hg_ hnew_; (first | rw [← Ny353.out] at ho23 | (simp only [Int.reduceToNat] at ho23; rw [← Ny353.out] at ho23)); have HO355 := zA (Kd.R_lower (Kd.R_newB (Kd.R_new' ho23 (Kd.R_lt zz72)) (g := gb349) (o := .cells #[.int .i64 t344, .int .i64 t345, .string t346] 32 (0, 0)) zz18) (below_size (zb1 GE349))); replace HO_6 := zA (Kd.R_elder' zz72 (Kd.R_base ho23) hb); replace BK349 := zA (blk_below (g := gb349) (o := .cells #[.int .i64 t344, .int .i64 t345, .string t346] 32 (0, 0)) zz18 hb); replace HB := zS hb (zb1 GE349); clear hb ho23))
         go_ret2
         exact ⟨_, zw, by (with_reducible repeat (first | apply Kd.R_alloc | apply Kd.R_drewN | apply Kd.R_drew)); exact Kd.R_mono HO355.out (fun _ hk => trivial), zb1 GE349⟩
       ·rw [if_neg c11] at H
        exact absurd H (by simp)
      ·rw [if_neg c10] at H
       exact absurd H (by simp)
     ·replace c9 := Bool.eq_false_iff.mpr c9
      subst c9
      rw [if_neg (Bool.false_ne_true)] at H
      replace H := zI H
      obtain ⟨t356, A24, H⟩ := H
      by_cases c25 : t356 = true
      ·subst c25
       rw [if_pos rfl] at H
       by_cases c26 : x7_1 = (l1.length : Int)
       ·rw [if_pos c26] at H
        have c26b0 : (x7_1 == (l1.length : Int)) = true := beq_iff_eq.mpr c26
        have c26b1 : (x7_1 != (l1.length : Int)) = false := bne_eq_false_iff_eq.mpr c26
        clear c26
        simp only [Option.some.injEq, Prod.mk.injEq] at H
        obtain ⟨rfl, rfl⟩ := H
        go_wp2_with (first | ((with_reducible refine zg 62 ?_); refine gL (some 43) Try.func62 #[.slice A0 l0.length c0] ?_; (with_reducible refine (spec_PlanOk.calls kj4 _ _ l0 true _ ?z1 ?z2 A24.out).mono ?_); (case z1 => exact zd HR0); (case z2 => exact HC0.out); rintro e w27 ⟨rfl, hb⟩; refine ⟨_, rfl, ?_⟩; replace HO_6 := zR HO_6 hb; replace HB := zS hb; (try clear hb)))
        go_ret2
        exact ⟨_, zw, zr HO_6, zb⟩
       ·rw [if_neg c26] at H
        have c26b0 : (x7_1 == (l1.length : Int)) = false := beq_eq_false_iff_ne.mpr c26
        have c26b1 : (x7_1 != (l1.length : Int)) = true := bne_iff_ne.mpr c26
        obtain ⟨y357, hy357⟩ : ∃ y_ : List (S32), y_ = (([] : List (S32))) := ⟨_, rfl⟩
        replace H : (some (y357, false)) = some (r1, r2) := zy hy357
        have Ny357 := zA hy357
        clear hy357
        simp only [Option.some.injEq, Prod.mk.injEq] at H
        obtain ⟨rfl, rfl⟩ := H
        go_wp2_with (first | ((with_reducible refine zg 62 ?_); refine gL (some 43) Try.func62 #[.slice A0 l0.length c0] ?_; (with_reducible refine (spec_PlanOk.calls kj4 _ _ l0 true _ ?z1 ?z2 A24.out).mono ?_); (case z1 => exact zd HR0); (case z2 => exact HC0.out); rintro e w28 ⟨rfl, hb⟩; refine ⟨_, rfl, ?_⟩; replace HO_6 := zR HO_6 hb; replace HB := zS hb; (try clear hb)) | ((with_reducible refine zt 51 ?_); (try (refine gate_guard (by rfl) ?_; dsimp only)); refine Kd.R_lit k32 _ 32 ?hg (N := 51) ?hd (xs := ([] : List (S32))) (inner := []) (ok := fun _ => True) (okp := fun _ => True) ?hr ?hp (fun _ hk => hk) trivial (Below.refl _ _) (Nat.le_refl _) (by simp) ?_; (case hd => rfl); (case hg => rfl); (case hr => exact zz16); (case hp => exact (Reps.none _ _)); intro v358 w29 ho30 hb hg_ hnew_; clear hg_ hnew_; (first | rw [← Ny357.out] at ho30 | (simp only [Int.reduceToNat] at ho30; rw [← Ny357.out] at ho30)); have HO359 := zL (zN ho30 HO_6); replace HO_6 := zE HO_6 ho30 hb; replace HB := zS hb; clear hb ho30))
        go_ret2
        exact ⟨_, zw, by (with_reducible repeat (first | apply Kd.R_alloc | apply Kd.R_drewN | apply Kd.R_drew)); exact Kd.R_mono HO359.out (fun _ hk => trivial), zb⟩
      ·replace c25 := Bool.eq_false_iff.mpr c25
       subst c25
       rw [if_neg (Bool.false_ne_true)] at H
       obtain ⟨y360, hy360⟩ : ∃ y_ : List (S32), y_ = (([] : List (S32))) := ⟨_, rfl⟩
       replace H : (some (y360, false)) = some (r1, r2) := zy hy360
       have Ny360 := zA hy360
       clear hy360
       simp only [Option.some.injEq, Prod.mk.injEq] at H
       obtain ⟨rfl, rfl⟩ := H
       go_wp2_with (first | ((with_reducible refine zg 62 ?_); refine gL (some 43) Try.func62 #[.slice A0 l0.length c0] ?_; (with_reducible refine (spec_PlanOk.calls kj4 _ _ l0 false _ ?z1 ?z2 A24.out).mono ?_); (case z1 => exact zd HR0); (case z2 => exact HC0.out); rintro e w31 ⟨rfl, hb⟩; refine ⟨_, rfl, ?_⟩; replace HO_6 := zR HO_6 hb; replace HB := zS hb; (try clear hb)) | ((with_reducible refine zt 51 ?_); (try (refine gate_guard (by rfl) ?_; dsimp only)); refine Kd.R_lit k32 _ 32 ?hg (N := 51) ?hd (xs := ([] : List (S32))) (inner := []) (ok := fun _ => True) (okp := fun _ => True) ?hr ?hp (fun _ hk => hk) trivial (Below.refl _ _) (Nat.le_refl _) (by simp) ?_; (case hd => rfl); (case hg => rfl); (case hr => exact zz16); (case hp => exact (Reps.none _ _)); intro v361 w32 ho33 hb hg_ hnew_; clear hg_ hnew_; (first | rw [← Ny360.out] at ho33 | (simp only [Int.reduceToNat] at ho33; rw [← Ny360.out] at ho33)); have HO362 := zL (zN ho33 HO_6); replace HO_6 := zE HO_6 ho33 hb; replace HB := zS hb; clear hb ho33))
       go_ret2
       exact ⟨_, zw, by (with_reducible repeat (first | apply Kd.R_alloc | apply Kd.R_drewN | apply Kd.R_drew)); exact Kd.R_mono HO362.out (fun _ hk => trivial), zb⟩

/-! ### impl_numberAt: function 120 -/
mutual
def impl_numberAt.j0 : Nat → List Int → Int → Int → Int → Bool → Option (Int × Bool)
  | 0, _, _, _, _, _ => none
  | k + 1, x0, x1, x2, x3, x22 => if x22 = true then (some (0, false)) else (if 0 ≤ x1 then (if x1 ≤ (wrap64 (x1 + x2)) then (if (wrap64 (x1 + x2)) ≤ (x0.length : Int) then ((some ((x0.take ((wrap64 (x1 + x2)) : Int).toNat).drop (x1 : Int).toNat : List Int)).bind fun y363 => (impl_numberAt.l0 k x3 0 y363 (y363.length : Int) 0)) else (none)) else (none)) else (none))
def impl_numberAt.l0 : Nat → Int → Int → List Int → Int → Int → Option (Int × Bool)
  | 0, _, _, _, _, _ => none
  | k + 1, x3, x10, x28, x29, x30 => if x30 < x29 then (if 0 ≤ x30 then (if x30 < (x28.length : Int) then (impl_numberAt.l0 k x3 (Go.bits .or .i64 (wrap64 (x10 * 256)) (wrap64 (Go.bits .xor .u8 (rd x28 x30) x3))) x28 x29 (wrap64 (x30 + 1))) else (none)) else (none)) else (some (x10, true))
end
def impl_numberAt.f (k : Nat) (l0 : List Int) (a1 : Int) (a2 : Int) (a3 : Int) : Option (Int × Bool) := if a1 < 0 then (impl_numberAt.j0 k l0 a1 a2 a3 true) else (impl_numberAt.j0 k l0 a1 a2 a3 (decide (a1 > (wrap64 ((l0.length : Int) - a2)))))
set_option maxHeartbeats 8000000 in
set_option maxRecDepth 100000 in
theorem impl_numberAt.calls (k : Nat) (A0 : Option Addr) (c0 : Nat) (l0 : List Int) (a1 : Int) (a2 : Int) (a3 : Int) (r1 : Int) (r2 : Bool) (w : World) (hr0 : Kd.C (Kd.int .u8) w A0 l0.length l0) (hc0 : l0.length ≤ c0) (h : impl_numberAt.f k l0 a1 a2 a3 = some (r1, r2)) :
  Calls Try.prog 120 #[.slice A0 l0.length c0, .int .i64 a1, .int .i64 a2, .int .u8 a3] w fun e w' => e = .returned (.tuple #[.int .i64 r1, .bool r2]) ∧ Drawn0 w w' := by
 have HR0 := zA hr0
 have HC0 := zA hc0
 clear hr0 hc0
 have H : (if a1 < 0 then (impl_numberAt.j0 k l0 a1 a2 a3 true) else (impl_numberAt.j0 k l0 a1 a2 a3 (decide (a1 > (wrap64 ((l0.length : Int) - a2)))))) = some (r1, r2) := h
 clear h
 have HC5 := zA H
 clear H
 go_enter Try.func120, Try.ntmps120
 go_upto_region 1 with (fail)
 go_cut [22] (fun v22 wc => ∃ (kq : Nat) (x22_4 : Bool), v22 = .bool x22_4 ∧ Aside0 (impl_numberAt.j0 kq l0 a1 a2 a3 x22_4 = some (r1, r2)) ∧ Aside0 (kq ≤ k) ∧ Drawn0 w wc)
 case first =>
  have H := HC5.out
  clear HC5
  by_cases c6 : a1 < 0
  ·rw [if_pos c6] at H
   have c6b0 : decide (a1 < 0) = true := decide_eq_true c6
   clear c6
   (first | rw [c6b0] | (simp only [i64_w, i32_w]; rw [c6b0]) | skip)
   have H' := zA H
   clear H
   go_wp2
   go_meet
   case rel => exact ⟨_, (true), zx, H', ⟨zo⟩, zz21⟩
  ·rw [if_neg c6] at H
   have c6b0 : decide (a1 < 0) = false := decide_eq_false c6
   clear c6
   (first | rw [c6b0] | (simp only [i64_w, i32_w]; rw [c6b0]) | skip)
   have H' := zA H
   clear H
   go_wp2
   go_meet
   case rel => exact ⟨_, (decide (a1 > (wrap64 ((l0.length : Int) - a2)))), zx, H', ⟨zo⟩, zz21⟩
 case rest =>
  clear HC5
  obtain ⟨kq, x22_4, rfl, HA, HJ4, ⟨mc4, rfl⟩⟩ := hcut
  cases kq with
  | zero => exact absurd HA.out (by simp [impl_numberAt.j0])
  | succ kj4 =>
   have H := HA.out
   clear HA
   simp only [impl_numberAt.j0] at H
   by_cases c7 : x22_4 = true
   ·subst c7
    rw [if_pos rfl] at H
    simp only [Option.some.injEq, Prod.mk.injEq] at H
    obtain ⟨rfl, rfl⟩ := H
    go_wp2
    go_ret2
    exact ⟨zx, zz21⟩
   ·replace c7 := Bool.eq_false_iff.mpr c7
    subst c7
    rw [if_neg (Bool.false_ne_true)] at H
    by_cases c8 : 0 ≤ a1
    ·rw [if_pos c8] at H
     have c8b0 := eq_true c8
     have c8b1 : decide (0 ≤ a1) = true := decide_eq_true c8
     clear c8
     by_cases c9 : a1 ≤ (wrap64 (a1 + a2))
     ·rw [if_pos c9] at H
      have c9b0 := eq_true c9
      have c9b1 : decide (a1 ≤ (wrap64 (a1 + a2))) = true := decide_eq_true c9
      by_cases c10 : (wrap64 (a1 + a2)) ≤ (l0.length : Int)
      ·rw [if_pos c10] at H
       have c10b0 := eq_true c10
       have c10b1 : decide ((wrap64 (a1 + a2)) ≤ (l0.length : Int)) = true := decide_eq_true c10
       obtain ⟨y363, hy363⟩ : ∃ y_ : List Int, y_ = ((l0.take ((wrap64 (a1 + a2)) : Int).toNat).drop (a1 : Int).toNat) := ⟨_, rfl⟩
       replace H : (impl_numberAt.l0 kj4 a3 0 y363 (y363.length : Int) 0) = some (r1, r2) := zy hy363
       have Ny363 := zA hy363
       clear hy363
       have H' := zA H
       clear H
       have q11 : ((wrap64 (a1 + a2)) : Int) ≤ ((l0.length : Int) : Int) := of_decide_eq_true za
       obtain ⟨i011, hi011, _, hsz11, _⟩ := info_parts info5
       have hroom11 : l0.length ≤ c0 := HC0.out
       have hC11 : Kd.C (Kd.int .u8) _ A0 l0.length l0 := HR0.out
       have ql11 : (a1 : Int) ≤ ((wrap64 (a1 + a2)) : Int) := of_decide_eq_true za
       have q011 : (0 : Int) ≤ (a1 : Int) := of_decide_eq_true za
       have hcut11 := cut_mid (P := Try.prog) 22 5 .i64 .i64 Try.underlying22 hi011 1 hsz11 A0 l0.length c0 a1 (wrap64 (a1 + a2)) q011 ql11 q11 hroom11
       have hr11 := Kd.C_mid (lo := (a1 : Int).toNat) (hi := ((wrap64 (a1 + a2)) : Int).toNat) (c := c0) hC11 (by omega) (by omega) hroom11
       obtain ⟨A11, hA11⟩ : ∃ A1, A1 = (if c0 = (a1 : Int).toNat then A0 else (A0 : Option Addr).map (·.add ((a1 : Int).toNat * 1))) := ⟨_, rfl⟩
       obtain ⟨c11, hc11⟩ : ∃ c1, c1 = c0 - (a1 : Int).toNat := ⟨_, rfl⟩
       have hy11 : y363.length = ((wrap64 (a1 + a2)) : Int).toNat - (a1 : Int).toNat := (by rw [Ny363.out, List.length_drop, List.length_take] <;> omega)
       rw [show ((l0).take ((wrap64 (a1 + a2)) : Int).toNat).drop (a1 : Int).toNat = y363 from Ny363.out.symm] at hr11
       replace hr11 : Kd.C (Kd.int .u8) _ A11 y363.length y363 := (by rw [hA11]; exact hr11)
       rw [← hy11, ← hA11, ← hc11] at hcut11
       have HR366 := zA hr11
       have HC366 := zA (show y363.length ≤ c11 from by rw [hy11, hc11]; exact Nat.sub_le_sub_right (Nat.le_trans (by omega) hroom11) _)
       clear hr11 hC11 hroom11 hi011 hsz11 hc11
       have KY11 := zA hy11
       have KA11 := zA hA11
       clear hy11 hA11
       replace q11 := eq_true q11
       go_wp2
       go_loopg [10, 30] kj4 (fun kq v10 v30 w' => ∃ (x10_2 : Int) (x30_2 : Int), v10 = .int .i64 x10_2 ∧ v30 = .int .i64 x30_2 ∧ Aside0 (impl_numberAt.l0 kq a3 x10_2 y363 (y363.length : Int) x30_2 = some (r1, r2)) ∧ Aside0 (kq ≤ kj4) ∧ Drawn0 w w')
       case atStart => exact ⟨(0), (0), zx, zx, H', ⟨Nat.le_refl _⟩, zz21⟩
       case round =>
        clear H'
        try clear c1; try clear c7; try clear c8; try clear c8b0; try clear c8b1; try clear c9; try clear c9b0; try clear c9b1; try clear c10; try clear c10b0; try clear c10b1; try clear c11; try clear q11; try clear q011; try clear q11
        obtain ⟨x10_2, x30_2, rfl, rfl, HA, HK2, ⟨m2, rfl⟩⟩ := hrel
        cases gk with
        | zero => exact absurd HA.out (by simp [impl_numberAt.l0])
        | succ k2 =>
         have H := HA.out
         clear HA
         simp only [impl_numberAt.l0] at H
         by_cases c12 : x30_2 < (y363.length : Int)
         ·rw [if_pos c12] at H
          have c12b0 : decide (x30_2 < (y363.length : Int)) = true := decide_eq_true c12
          clear c12
          by_cases c13 : 0 ≤ x30_2
          ·rw [if_pos c13] at H
           have c13b0 : decide (0 ≤ x30_2) = true := decide_eq_true c13
           clear c13
           by_cases c14 : x30_2 < (y363.length : Int)
           ·rw [if_pos c14] at H
            have c14b0 : decide (x30_2 < (y363.length : Int)) = true := decide_eq_true c14
            clear c14
            have H' := zA H
            clear H
            have p367 : 0 ≤ (x30_2 : Int) := of_decide_eq_true za
            have q367 : x30_2 < (y363.length : Int) := of_decide_eq_true za
            obtain ⟨ad367, e367, hx367_0⟩ := Kd.at_int HR366.out x30_2 p367 q367
            cases e367
            replace p367 := eq_true p367
            replace q367 := eq_true q367
            go_wp2
            go_roundg k2
            case measure => have := HJ4.out; have := HK2.out; omega
            case rel => exact ⟨(Go.bits .or .i64 (wrap64 (x10_2 * 256)) (wrap64 (Go.bits .xor .u8 (rd y363 x30_2) a3))), (wrap64 (x30_2 + 1)), zx, zx, H', ⟨zz94⟩, zz21⟩
           ·rw [if_neg c14] at H
            exact absurd H (by simp)
          ·rw [if_neg c13] at H
           exact absurd H (by simp)
         ·rw [if_neg c12] at H
          have c12b0 : decide (x30_2 < (y363.length : Int)) = false := decide_eq_false c12
          clear c12
          simp only [Option.some.injEq, Prod.mk.injEq] at H
          obtain ⟨rfl, rfl⟩ := H
          go_wp2
          go_ret2
          exact ⟨zx, zz21⟩
      ·rw [if_neg c10] at H
       exact absurd H (by simp)
     ·rw [if_neg c9] at H
      exact absurd H (by simp)
    ·rw [if_neg c8] at H
     exact absurd H (by simp)

/-! ### impl_GetFix: function 103 -/
def impl_GetFix.f (k : Nat) (l0 : List Int) (a1 : Int) : Option (Int × Int × Bool) := (impl_numberAt.f k l0 a1 4 0).bind fun bt368 => (if bt368.2 = true then (some (wrap64 (bt368.1 - 2147483648), wrap64 (a1 + 4), true)) else (some (0, 0, false)))
set_option maxHeartbeats 8000000 in
set_option maxRecDepth 100000 in
theorem impl_GetFix.calls (k : Nat) (A0 : Option Addr) (c0 : Nat) (l0 : List Int) (a1 : Int) (r1 : Int) (r2 : Int) (r3 : Bool) (w : World) (hr0 : Kd.C (Kd.int .u8) w A0 l0.length l0) (hc0 : l0.length ≤ c0) (h : impl_GetFix.f k l0 a1 = some (r1, r2, r3)) :
  Calls Try.prog 103 #[.slice A0 l0.length c0, .int .i64 a1] w fun e w' => e = .returned (.tuple #[.int .i64 r1, .int .i64 r2, .bool r3]) ∧ Drawn0 w w' := by
 have HR0 := zA hr0
 have HC0 := zA hc0
 clear hr0 hc0
 have H : ((impl_numberAt.f k l0 a1 4 0).bind fun bt368 => (if bt368.2 = true then (some (wrap64 (bt368.1 - 2147483648), wrap64 (a1 + 4), true)) else (some (0, 0, false)))) = some (r1, r2, r3) := h
 clear h
 replace H := zI H
 obtain ⟨⟨t368, t369⟩, A3, H⟩ := H
 try dsimp only at H
 by_cases c4 : t369 = true
 ·subst c4
  rw [if_pos rfl] at H
  simp only [Option.some.injEq, Prod.mk.injEq] at H
  obtain ⟨rfl, rfl, rfl⟩ := H
  go_enter Try.func103, Try.ntmps103
  go_wp2_with (first | ((with_reducible refine zg 120 ?_); refine gL (some 12) Try.func120 #[.slice A0 l0.length c0, .int .i64 a1, .int .i64 4, .int .u8 0] ?_; (with_reducible refine (impl_numberAt.calls k _ _ l0 a1 4 0 t368 true _ ?z1 ?z2 A3.out).mono ?_); (case z1 => exact zc HR0.out); (case z2 => exact HC0.out); rintro e w' ⟨rfl, ⟨nd, rfl⟩⟩; refine ⟨_, rfl, ?_⟩))
  go_ret3
  exact ⟨zx, zz21⟩
 ·replace c4 := Bool.eq_false_iff.mpr c4
  subst c4
  rw [if_neg (Bool.false_ne_true)] at H
  simp only [Option.some.injEq, Prod.mk.injEq] at H
  obtain ⟨rfl, rfl, rfl⟩ := H
  go_enter Try.func103, Try.ntmps103
  go_wp2_with (first | ((with_reducible refine zg 120 ?_); refine gL (some 12) Try.func120 #[.slice A0 l0.length c0, .int .i64 a1, .int .i64 4, .int .u8 0] ?_; (with_reducible refine (impl_numberAt.calls k _ _ l0 a1 4 0 t368 false _ ?z1 ?z2 A3.out).mono ?_); (case z1 => exact zc HR0.out); (case z2 => exact HC0.out); rintro e w' ⟨rfl, ⟨nd, rfl⟩⟩; refine ⟨_, rfl, ?_⟩))
  go_ret3
  exact ⟨zx, zz21⟩

end Go.Proofs.Ytnfmpopmigbkoaa.PFnKeysRead

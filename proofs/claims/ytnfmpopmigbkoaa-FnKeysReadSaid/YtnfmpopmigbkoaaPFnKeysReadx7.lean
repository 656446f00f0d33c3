-- Written by mkprint.py, a program of this session (the printer with additions of its own)
import Derived.Test.YtnfmpopmigbkoaaPFnKeysReadx0
import Derived.Test.YtnfmpopmigbkoaaPFnKeysReadx6
namespace Go.Proofs.Ytnfmpopmigbkoaa.PFnKeysRead
open Go.RowKit Go.Proofs.YtnfmpopmigbkoaaW.PrintWords Go.Proofs.YtnfmpopmigbkoaaW.PrintLast Go.Proofs.YtnfmpopmigbkoaaW.PrintMore
attribute [local go_sem] max2_int min2_int max_two min_two max_three min_three max_four min_four   -- for this text's walks alone
set_option linter.unusedVariables false
set_option linter.unusedSimpArgs false

/-! ### spec_l4Bytes: function 115 -/
def spec_l4Bytes.l0 : Nat → Int → List Int → Option (List Int)
  | 0, _, _ => none
  | k + 1, x0, x3 => if x0 > 0 then ((some (([(x0) % 256] : List Int) : List Int)).bind fun y224 => (if y224.length + x3.length < 140737488355328 then (spec_l4Bytes.l0 k (x0 / 256) (y224 ++ x3)) else (none))) else (some x3)
def spec_l4Bytes.f (k : Nat) (a0 : Int) : Option (List Int) := spec_l4Bytes.l0 k a0 (([] : List Int))
set_option maxHeartbeats 8000000 in
set_option maxRecDepth 100000 in
theorem spec_l4Bytes.calls (k : Nat) (a0 : Int) (r : List Int) (w : World) (h : spec_l4Bytes.f k a0 = some r) :
  Calls Try.prog 115 #[.int .i64 a0] w fun e w' => ∃ v0_ : Value, e = .returned (v0_) ∧ Kd.R (Kd.int .u8) 5 w' w.heap.size (fun _ => True) v0_ r ∧ Below w.heap.size w w' := by
 have HB := zA (Below.refl w.heap.size w)
 have H : (spec_l4Bytes.l0 k a0 (([] : List Int))) = some r := h
 clear h
 obtain ⟨y221, hy221⟩ : ∃ y_ : List Int, y_ = (([] : List Int)) := ⟨_, rfl⟩
 replace H : (spec_l4Bytes.l0 k a0 y221) = some r := zy hy221
 have Ny221 := zA hy221
 clear hy221
 have H' := zA H
 clear H
 go_enter Try.func115, Try.ntmps115
 go_wp2_with (first | ((with_reducible refine zt 4 ?_); refine Kd.R_lit (Kd.int .u8) _ 5 ?hg (N := 4) ?hd (xs := ([] : List Int)) (inner := []) (ok := fun _ => True) (okp := fun _ => True) ?hr ?hp (fun _ hk => hk) trivial (Below.refl _ _) (Nat.le_refl _) (by simp) ?_; (case hd => rfl); (case hg => rfl); (case hr => exact zz16); (case hp => exact (Reps.none _ _)); intro v222 w2 ho3 hb hg_ hnew_; clear hg_ hnew_; (first | rw [← Ny221.out] at ho3 | (simp only [Int.reduceToNat] at ho3; rw [← Ny221.out] at ho3)); have HO223 := zL ho3; replace HB := zS hb; clear hb ho3))
 go_loopg [0, 3] k (fun kq v0 v3 w' => ∃ (x0_1 : Int) (x3_1 : List Int), v0 = .int .i64 x0_1 ∧ Aside0 (spec_l4Bytes.l0 kq x0_1 x3_1 = some r) ∧ Aside0 (kq ≤ k) ∧ Aside0 (Kd.R (Kd.int .u8) 5 w' w.heap.size (fun _ => True) v3 x3_1) ∧ Aside0 (Below w.heap.size w w'))
 case atStart => exact ⟨(a0), (y221), zx, H', ⟨Nat.le_refl _⟩, ⟨zr HO223⟩, ⟨zb⟩⟩
 case round =>
  clear H'
  obtain ⟨x0_1, x3_1, rfl, HA, HK1, HO_3, HB⟩ := hrel
  cases gk with
  | zero => exact absurd HA.out (by simp [spec_l4Bytes.l0])
  | succ k1 =>
   have H := HA.out
   clear HA
   simp only [spec_l4Bytes.l0] at H
   by_cases c4 : x0_1 > 0
   ·rw [if_pos c4] at H
    have c4b0 : decide (0 < x0_1) = true := decide_eq_true c4
    clear c4
    obtain ⟨y224, hy224⟩ : ∃ y_ : List Int, y_ = (([(x0_1) % 256] : List Int)) := ⟨_, rfl⟩
    replace H : (if y224.length + x3_1.length < 140737488355328 then (spec_l4Bytes.l0 k1 (x0_1 / 256) (y224 ++ x3_1)) else (none)) = some r := zy hy224
    have Ny224 := zA hy224
    clear hy224
    by_cases c5 : y224.length + x3_1.length < 140737488355328
    ·rw [if_pos c5] at H
     have LMc5 := zA c5
     clear c5
     obtain ⟨y227, hy227⟩ : ∃ y_ : List Int, y_ = (y224 ++ x3_1) := ⟨_, rfl⟩
     replace H : (spec_l4Bytes.l0 k1 (x0_1 / 256) y227) = some r := zy hy227
     have Ny227 := zA hy227
     clear hy227
     have H' := zA H
     clear H
     go_wp2_with (first | ((with_reducible refine zt 9 ?_); refine Kd.R_lit (Kd.int .u8) _ 5 ?hg (N := 9) ?hd (xs := ([(x0_1) % 256] : List Int)) (inner := [.int .u8 ((x0_1) % 256)]) (ok := fun _ => True) (okp := fun _ => True) ?hr ?hp (fun _ hk => hk) trivial (Below.refl _ _) (Nat.le_refl _) (by simp) ?_; (case hd => rfl); (case hg => rfl); (case hr => exact zz16); (case hp => exact (Reps.one (show Kd.M (Kd.int .u8) _ _ _ ((x0_1) % 256) [.int .u8 ((x0_1) % 256)] from rfl) (Reps.none _ _))); intro v225 w6 ho7 hb hg_ hnew_; clear hg_ hnew_; (first | rw [← Ny224.out] at ho7 | (simp only [Int.reduceToNat] at ho7; rw [← Ny224.out] at ho7)); have HO226 := zL (zN ho7 HO_3); replace HO_3 := zE HO_3 ho7 hb; replace HB := zS hb; clear hb ho7; obtain ⟨Ao9, co9, eo9⟩ := Kd.R_slice HO_3.out; subst eo9) | ((with_reducible refine gate_builtin (b := .append) (xs := #[.tmp 9, .tmp 10]) rfl ?_); at_builtin; refine Kd.R_append_rows (Kd.int .u8) (w0 := w) w.heap.size rfl (.tmp 9) (.tmp 10) 22 5 (.int .u8 0) 1 rfl Try.underlying22 info5 rfl (by decide) (by omega) v225 y224 x3_1 _ _ _ (fun k_ => some k_ ≠ (.slice Ao9 x3_1.length co9 : Value).ownBlock) (fun _ => False) rfl rfl ?aO ?aR (fun _ _ h => h) (fun _ h => h.elim) ?aF ?aB ?aS ?aL ?_; (case aR => exact ze HO_3); (case aB => exact zb); (case aF => exact (fun k_ hk => Kd.fresh' (Kd.R_lt (zr HO_3)) k_ hk)); (case aO => exact (by (with_reducible repeat (first | apply Kd.R_alloc | apply Kd.R_drewN | apply Kd.R_drew)); exact Kd.R_mono HO226.out (fun _ hk => hk.2))); (case aS => exact (below_size zb)); (case aL => have := LMc5.out; omega); intro v228 w8 ho hb hg hat; rw [← Ny227.out] at ho; replace HO_3 := zA (Kd.R_after (ok := (fun _ => True)) (zr HO_3) hg hat); replace HB := zA hb; have HO229 := zA ho; clear HO226 ho hb hg hat))
     go_roundg k1
     case measure => have := HK1.out; omega
     case rel => exact ⟨(x0_1 / 256), (y227), zx, H', ⟨zz79⟩, ⟨by (with_reducible repeat (first | apply Kd.R_alloc | apply Kd.R_drewN | apply Kd.R_drew)); exact Kd.R_mono HO229.out (fun _ hk => trivial)⟩, ⟨zb⟩⟩
    ·rw [if_neg c5] at H
     exact absurd H (by simp)
   ·rw [if_neg c4] at H
    have c4b0 : decide (0 < x0_1) = false := decide_eq_false c4
    clear c4
    obtain rfl := Option.some.inj H
    go_wp2
    go_ret
    exact ⟨_, zw, zr HO_3, zb⟩

/-! ### spec_PutVar: function 95 -/
mutual
def spec_PutVar.j0 : Nat → List Int → Int → Option (List Int)
  | 0, _, _ => none
  | k + 1, x0, x1 => if x1 < (-1000000000000000) then (spec_PutVar.j1 k x0 (-1000000000000000)) else (spec_PutVar.j1 k x0 x1)
def spec_PutVar.j1 : Nat → List Int → Int → Option (List Int)
  | 0, _, _ => none
  | k + 1, x0, x1 => if x1 ≥ 0 then ((spec_l4Bytes.f k x1).bind fun t230 => ((some (([] : List Int) : List Int)).bind fun y233 => (if y233.length + x0.length < 140737488355328 then ((some (y233 ++ x0 : List Int)).bind fun y236 => (if y236.length < 140737488355328 then ((some (y236 ++ [(wrap64 (128 + (t230.length : Int))) % 256] : List Int)).bind fun y239 => (if y239.length + t230.length < 140737488355328 then (some (y239 ++ t230)) else (none))) else (none))) else (none)))) else ((spec_l4Bytes.f k (wrap64 ((-1) - x1))).bind fun t245 => ((some (([] : List Int) : List Int)).bind fun y248 => (if y248.length + x0.length < 140737488355328 then ((some (y248 ++ x0 : List Int)).bind fun y251 => (if y251.length < 140737488355328 then ((some (y251 ++ [(wrap64 (127 - (t245.length : Int))) % 256] : List Int)).bind fun y254 => ((spec_Flip.f k t245 0).bind fun t257 => (if y254.length + t257.length < 140737488355328 then (some (y254 ++ t257)) else (none)))) else (none))) else (none))))
end
def spec_PutVar.f (k : Nat) (l0 : List Int) (a1 : Int) : Option (List Int) := if a1 > 1000000000000000 then (spec_PutVar.j0 k l0 1000000000000000) else (spec_PutVar.j0 k l0 a1)
set_option maxHeartbeats 8000000 in
set_option maxRecDepth 100000 in
theorem spec_PutVar.calls (k : Nat) (A0 : Option Addr) (c0 : Nat) (l0 : List Int) (a1 : Int) (r : List Int) (w : World) (hr0 : Kd.C (Kd.int .u8) w A0 l0.length l0) (hc0 : l0.length ≤ c0) (h : spec_PutVar.f k l0 a1 = some r) :
  Calls Try.prog 95 #[.slice A0 l0.length c0, .int .i64 a1] w fun e w' => ∃ v0_ : Value, e = .returned (v0_) ∧ Kd.R (Kd.int .u8) 5 w' w.heap.size (fun _ => True) v0_ r ∧ Below w.heap.size w w' := by
 have HR0 := zA hr0
 have HC0 := zA hc0
 clear hr0 hc0
 have HB := zA (Below.refl w.heap.size w)
 have H : (if a1 > 1000000000000000 then (spec_PutVar.j0 k l0 1000000000000000) else (spec_PutVar.j0 k l0 a1)) = some r := h
 clear h
 have HC3 := zA H
 clear H
 go_enter Try.func95, Try.ntmps95
 go_upto_if 8 with (fail)
 go_cut [1] (fun v1 wc => ∃ (kq : Nat) (x1_2 : Int), v1 = .int .i64 x1_2 ∧ Aside0 (spec_PutVar.j0 kq l0 x1_2 = some r) ∧ Aside0 (kq ≤ k) ∧ Aside0 (Below w.heap.size w wc))
 case first =>
  have H := HC3.out
  clear HC3
  by_cases c4 : a1 > 1000000000000000
  ·rw [if_pos c4] at H
   have c4b0 : decide (1000000000000000 < a1) = true := decide_eq_true c4
   clear c4
   (first | rw [c4b0] | (simp only [i64_w, i32_w]; rw [c4b0]) | skip)
   have H' := zA H
   clear H
   go_wp2
   go_meet
   case rel => exact ⟨_, (1000000000000000), zx, H', ⟨zo⟩, ⟨zb⟩⟩
  ·rw [if_neg c4] at H
   have c4b0 : decide (1000000000000000 < a1) = false := decide_eq_false c4
   clear c4
   (first | rw [c4b0] | (simp only [i64_w, i32_w]; rw [c4b0]) | skip)
   have H' := zA H
   clear H
   go_wp2
   go_meet
   case rel => exact ⟨_, (a1), zx, H', ⟨zo⟩, ⟨zb⟩⟩
 case rest =>
  clear HC3
  obtain ⟨kq, x1_2, rfl, HA, HJ2, HB⟩ := hcut
  cases kq with
  | zero => exact absurd HA.out (by simp [spec_PutVar.j0])
  | succ kj2 =>
   have H := HA.out
   clear HA
   simp only [spec_PutVar.j0] at H
   have HC5 := zA H
   clear H
   go_upto_if 10 with (fail)
   go_cut [1] (fun v1 wc => ∃ (kq : Nat) (x1_4 : Int), v1 = .int .i64 x1_4 ∧ Aside0 (spec_PutVar.j1 kq l0 x1_4 = some r) ∧ Aside0 (kq ≤ kj2) ∧ Aside0 (Below w.heap.size w wc))
   case first =>
    have H := HC5.out
    clear HC5
    by_cases c6 : x1_2 < (-1000000000000000)
    ·rw [if_pos c6] at H
     have c6b0 : decide (x1_2 < (-1000000000000000)) = true := decide_eq_true c6
     clear c6
     (first | rw [c6b0] | (simp only [i64_w, i32_w]; rw [c6b0]) | skip)
     have H' := zA H
     clear H
     go_wp2
     go_meet
     case rel => exact ⟨_, ((-1000000000000000)), zx, H', ⟨zz92⟩, ⟨zb⟩⟩
    ·rw [if_neg c6] at H
     have c6b0 : decide (x1_2 < (-1000000000000000)) = false := decide_eq_false c6
     clear c6
     (first | rw [c6b0] | (simp only [i64_w, i32_w]; rw [c6b0]) | skip)
     have H' := zA H
     clear H
     go_wp2
     go_meet
     case rel => exact ⟨_, (x1_2), zx, H', ⟨zz92⟩, ⟨zb⟩⟩
   case rest =>
    clear HC5
    obtain ⟨kq, x1_4, rfl, HA, HJ4, HB⟩ := hcut
    cases kq with
    | zero => exact absurd HA.out (by simp [spec_PutVar.j1])
    | succ kj4 =>
     have H := HA.out
     clear HA
     simp only [spec_PutVar.j1] at H
     by_cases c7 : x1_4 ≥ 0
     ·rw [if_pos c7] at H
      have c7b0 : decide (0 ≤ x1_4) = true := decide_eq_true c7
      clear c7
      replace H := zI H
      obtain ⟨t230, A8, H⟩ := H
      obtain ⟨y233, hy233⟩ : ∃ y_ : List Int, y_ = (([] : List Int)) := ⟨_, rfl⟩
      replace H : (if y233.length + l0.length < 140737488355328 then ((some (y233 ++ l0 : List Int)).bind fun y236 => (if y236.length < 140737488355328 then ((some (y236 ++ [(wrap64 (128 + (t230.length : Int))) % 256] : List Int)).bind fun y239 => (if y239.length + t230.length < 140737488355328 then (some (y239 ++ t230)) else (none))) else (none))) else (none)) = some r := zy hy233
      have Ny233 := zA hy233
      clear hy233
      by_cases c9 : y233.length + l0.length < 140737488355328
      ·rw [if_pos c9] at H
       have LMc9 := zA c9
       clear c9
       obtain ⟨y236, hy236⟩ : ∃ y_ : List Int, y_ = (y233 ++ l0) := ⟨_, rfl⟩
       replace H : (if y236.length < 140737488355328 then ((some (y236 ++ [(wrap64 (128 + (t230.length : Int))) % 256] : List Int)).bind fun y239 => (if y239.length + t230.length < 140737488355328 then (some (y239 ++ t230)) else (none))) else (none)) = some r := zy hy236
       have Ny236 := zA hy236
       clear hy236
       by_cases c10 : y236.length < 140737488355328
       ·rw [if_pos c10] at H
        have LMc10 := zA c10
        clear c10
        obtain ⟨y239, hy239⟩ : ∃ y_ : List Int, y_ = (y236 ++ [(wrap64 (128 + (t230.length : Int))) % 256]) := ⟨_, rfl⟩
        replace H : (if y239.length + t230.length < 140737488355328 then (some (y239 ++ t230)) else (none)) = some r := zy hy239
        have Ny239 := zA hy239
        clear hy239
        by_cases c11 : y239.length + t230.length < 140737488355328
        ·rw [if_pos c11] at H
         have LMc11 := zA c11
         clear c11
         obtain ⟨y242, hy242⟩ : ∃ y_ : List Int, y_ = (y239 ++ t230) := ⟨_, rfl⟩
         replace H : (some y242) = some r := zy hy242
         have Ny242 := zA hy242
         clear hy242
         obtain rfl := Option.some.inj H
         go_wp2_with (first | ((with_reducible refine zg 115 ?_); refine gL (some 14) Try.func115 #[.int .i64 x1_4] ?_; (with_reducible refine (spec_l4Bytes.calls kj4 x1_4 t230 _ A8.out).mono ?_); rintro e w12 ⟨v231, rfl, ho0, hb⟩; refine ⟨_, rfl, ?_⟩; have HO232 := zL ho0; replace HB := zS hb; clear hb ho0) | ((with_reducible refine zt 15 ?_); refine Kd.R_lit (Kd.int .u8) _ 5 ?hg (N := 15) ?hd (xs := ([] : List Int)) (inner := []) (ok := fun _ => True) (okp := fun _ => True) ?hr ?hp (fun _ hk => hk) trivial (Below.refl _ _) (Nat.le_refl _) (by simp) ?_; (case hd => rfl); (case hg => rfl); (case hr => exact zz16); (case hp => exact (Reps.none _ _)); intro v234 w13 ho14 hb hg_ hnew_; clear hg_ hnew_; (first | rw [← Ny233.out] at ho14 | (simp only [Int.reduceToNat] at ho14; rw [← Ny233.out] at ho14)); have HO235 := zL (zN ho14 HO232); replace HO232 := zE HO232 ho14 hb; replace HB := zS hb; clear hb ho14) | ((with_reducible refine gate_builtin (b := .append) (xs := #[.tmp 15, .tmp 16]) rfl ?_); at_builtin; refine Kd.R_append_rows (Kd.int .u8) (w0 := w) w.heap.size rfl (.tmp 15) (.tmp 16) 22 5 (.int .u8 0) 1 rfl Try.underlying22 info5 rfl (by decide) (by omega) v234 y233 l0 _ _ _ (fun k_ => some k_ ≠ (v231 : Value).ownBlock) (fun _ => False) rfl rfl ?aO ?aR (fun _ _ h => h) (fun _ h => h.elim) ?aF ?aB ?aS ?aL ?_; (case aR => exact zd HR0); (case aB => exact zb); (case aF => exact (fun k_ hk => Kd.fresh' (Kd.R_lt (zr HO232)) k_ hk)); (case aO => exact (by (with_reducible repeat (first | apply Kd.R_alloc | apply Kd.R_drewN | apply Kd.R_drew)); exact Kd.R_mono HO235.out (fun _ hk => hk.2))); (case aS => exact (below_size zb)); (case aL => have := LMc9.out; omega); intro v237 w15 ho hb hg hat; rw [← Ny236.out] at ho; replace HO232 := zA (Kd.R_after (ok := (fun _ => True)) (zr HO232) hg hat); replace HB := zA hb; have HO238 := zA ho; clear HO235 ho hb hg hat; obtain ⟨Ao16, co16, eo16⟩ := Kd.R_slice HO232.out; subst eo16) | ((with_reducible refine gate_builtin (b := .append) (xs := #[.tmp 17, .tmp 22]) rfl ?_); at_builtin; refine Kd.R_append (Kd.int .u8) (w0 := w) w.heap.size rfl (.tmp 17) (.tmp 22) 22 5 (.int .u8 0) 1 rfl Try.underlying22 info5 rfl (by decide) (by omega) v237 y236 ((wrap64 (128 + (t230.length : Int))) % 256) [.int .u8 ((wrap64 (128 + (t230.length : Int))) % 256)] (fun k_ => some k_ ≠ (.slice Ao16 t230.length co16 : Value).ownBlock) (fun _ => False) rfl rfl ?aP (fun _ hk => hk.elim) ?aF ?aO ?aB ?aS ?aL ?_; (case aP => exact rfl); (case aB => exact zb); (case aF => exact (fun k_ hk => Kd.fresh' (Kd.R_lt (zr HO232)) k_ hk)); (case aO => exact (zr HO238)); (case aS => exact (below_size zb)); (case aL => have := LMc10.out; omega); intro v240 w17 ho hb hg hat; rw [← Ny239.out] at ho; replace HO232 := zA (Kd.R_after (ok := (fun _ => True)) (zr HO232) hg hat); replace HB := zA hb; have HO241 := zA ho; clear HO238 ho hb hg hat) | ((with_reducible refine gate_builtin (b := .append) (xs := #[.tmp 23, .tmp 24]) rfl ?_); at_builtin; refine Kd.R_append_rows (Kd.int .u8) (w0 := w) w.heap.size rfl (.tmp 23) (.tmp 24) 22 5 (.int .u8 0) 1 rfl Try.underlying22 info5 rfl (by decide) (by omega) v240 y239 t230 _ _ _ (fun k_ => some k_ ≠ (.slice Ao16 t230.length co16 : Value).ownBlock) (fun _ => False) rfl rfl ?aO ?aR (fun _ _ h => h) (fun _ h => h.elim) ?aF ?aB ?aS ?aL ?_; (case aR => exact ze HO232); (case aB => exact zb); (case aF => exact (fun k_ hk => Kd.fresh' (Kd.R_lt (zr HO232)) k_ hk)); (case aO => exact (zr HO241)); (case aS => exact (below_size zb)); (case aL => have := LMc11.out; omega); intro v243 w18 ho hb hg hat; rw [← Ny242.out] at ho; replace HO232 := zA (Kd.R_after (ok := (fun _ => True)) (zr HO232) hg hat); replace HB := zA hb; have HO244 := zA ho; clear HO241 ho hb hg hat))
         go_ret
         exact ⟨_, zw, by (with_reducible repeat (first | apply Kd.R_alloc | apply Kd.R_drewN | apply Kd.R_drew)); exact Kd.R_mono HO244.out (fun _ hk => trivial), zb⟩
        ·rw [if_neg c11] at H
         exact absurd H (by simp)
       ·rw [if_neg c10] at H
        exact absurd H (by simp)
      ·rw [if_neg c9] at H
       exact absurd H (by simp)
     ·rw [if_neg c7] at H
      have c7b0 : decide (0 ≤ x1_4) = false := decide_eq_false c7
      clear c7
      replace H := zI H
      obtain ⟨t245, A19, H⟩ := H
      obtain ⟨y248, hy248⟩ : ∃ y_ : List Int, y_ = (([] : List Int)) := ⟨_, rfl⟩
      replace H : (if y248.length + l0.length < 140737488355328 then ((some (y248 ++ l0 : List Int)).bind fun y251 => (if y251.length < 140737488355328 then ((some (y251 ++ [(wrap64 (127 - (t245.length : Int))) % 256] : List Int)).bind fun y254 => ((spec_Flip.f kj4 t245 0).bind fun t257 => (if y254.length + t257.length < 140737488355328 then (some (y254 ++ t257)) else (none)))) else (none))) else (none)) = some r := zy hy248
      have Ny248 := zA hy248
      clear hy248
      by_cases c20 : y248.length + l0.length < 140737488355328
      ·rw [if_pos c20] at H
       have LMc20 := zA c20
       clear c20
       obtain ⟨y251, hy251⟩ : ∃ y_ : List Int, y_ = (y248 ++ l0) := ⟨_, rfl⟩
       replace H : (if y251.length < 140737488355328 then ((some (y251 ++ [(wrap64 (127 - (t245.length : Int))) % 256] : List Int)).bind fun y254 => ((spec_Flip.f kj4 t245 0).bind fun t257 => (if y254.length + t257.length < 140737488355328 then (some (y254 ++ t257)) else (none)))) else (none)) = some r := zy hy251
       have Ny251 := zA hy251
       clear hy251
       by_cases c21 : y251.length < 140737488355328
       ·rw [if_pos c21] at H
        have LMc21 := zA c21
        clear c21
        obtain ⟨y254, hy254⟩ : ∃ y_ : List Int, y_ = (y251 ++ [(wrap64 (127 - (t245.length : Int))) % 256]) := ⟨_, rfl⟩
        replace H : ((spec_Flip.f kj4 t245 0).bind fun t257 => (if y254.length + t257.length < 140737488355328 then (some (y254 ++ t257)) else (none))) = some r := zy hy254
        have Ny254 := zA hy254
        clear hy254
        replace H := zI H
        obtain ⟨t257, A22, H⟩ := H
        by_cases c23 : y254.length + t257.length < 140737488355328
        ·rw [if_pos c23] at H
         have LMc23 := zA c23
         clear c23
         obtain ⟨y260, hy260⟩ : ∃ y_ : List Int, y_ = (y254 ++ t257) := ⟨_, rfl⟩
         replace H : (some y260) = some r := zy hy260
         have Ny260 := zA hy260
         clear hy260
         obtain rfl := Option.some.inj H
         go_wp2_with (first | ((with_reducible refine zg 115 ?_); refine gL (some 28) Try.func115 #[.int .i64 (wrap64 ((-1) - x1_4))] ?_; (with_reducible refine (spec_l4Bytes.calls kj4 (wrap64 ((-1) - x1_4)) t245 _ A19.out).mono ?_); rintro e w24 ⟨v246, rfl, ho0, hb⟩; refine ⟨_, rfl, ?_⟩; have HO247 := zL ho0; replace HB := zS hb; clear hb ho0) | ((with_reducible refine zt 29 ?_); refine Kd.R_lit (Kd.int .u8) _ 5 ?hg (N := 29) ?hd (xs := ([] : List Int)) (inner := []) (ok := fun _ => True) (okp := fun _ => True) ?hr ?hp (fun _ hk => hk) trivial (Below.refl _ _) (Nat.le_refl _) (by simp) ?_; (case hd => rfl); (case hg => rfl); (case hr => exact zz16); (case hp => exact (Reps.none _ _)); intro v249 w25 ho26 hb hg_ hnew_; clear hg_ hnew_; (first | rw [← Ny248.out] at ho26 | (simp only [Int.reduceToNat] at ho26; rw [← Ny248.out] at ho26)); have HO250 := zL (zN ho26 HO247); replace HO247 := zE HO247 ho26 hb; replace HB := zS hb; clear hb ho26) | ((with_reducible refine gate_builtin (b := .append) (xs := #[.tmp 29, .tmp 30]) rfl ?_); at_builtin; refine Kd.R_append_rows (Kd.int .u8) (w0 := w) w.heap.size rfl (.tmp 29) (.tmp 30) 22 5 (.int .u8 0) 1 rfl Try.underlying22 info5 rfl (by decide) (by omega) v249 y248 l0 _ _ _ (fun k_ => some k_ ≠ (v246 : Value).ownBlock) (fun _ => False) rfl rfl ?aO ?aR (fun _ _ h => h) (fun _ h => h.elim) ?aF ?aB ?aS ?aL ?_; (case aR => exact zd HR0); (case aB => exact zb); (case aF => exact (fun k_ hk => Kd.fresh' (Kd.R_lt (zr HO247)) k_ hk)); (case aO => exact (by (with_reducible repeat (first | apply Kd.R_alloc | apply Kd.R_drewN | apply Kd.R_drew)); exact Kd.R_mono HO250.out (fun _ hk => hk.2))); (case aS => exact (below_size zb)); (case aL => have := LMc20.out; omega); intro v252 w27 ho hb hg hat; rw [← Ny251.out] at ho; replace HO247 := zA (Kd.R_after (ok := (fun _ => True)) (zr HO247) hg hat); replace HB := zA hb; have HO253 := zA ho; clear HO250 ho hb hg hat; obtain ⟨Ao28, co28, eo28⟩ := Kd.R_slice HO247.out; subst eo28) | ((with_reducible refine gate_builtin (b := .append) (xs := #[.tmp 31, .tmp 36]) rfl ?_); at_builtin; refine Kd.R_append (Kd.int .u8) (w0 := w) w.heap.size rfl (.tmp 31) (.tmp 36) 22 5 (.int .u8 0) 1 rfl Try.underlying22 info5 rfl (by decide) (by omega) v252 y251 ((wrap64 (127 - (t245.length : Int))) % 256) [.int .u8 ((wrap64 (127 - (t245.length : Int))) % 256)] (fun k_ => some k_ ≠ (.slice Ao28 t245.length co28 : Value).ownBlock) (fun _ => False) rfl rfl ?aP (fun _ hk => hk.elim) ?aF ?aO ?aB ?aS ?aL ?_; (case aP => exact rfl); (case aB => exact zb); (case aF => exact (fun k_ hk => Kd.fresh' (Kd.R_lt (zr HO247)) k_ hk)); (case aO => exact (zr HO253)); (case aS => exact (below_size zb)); (case aL => have := LMc21.out; omega); intro v255 w29 ho hb hg hat; rw [← Ny254.out] at ho; replace HO247 := zA (Kd.R_after (ok := (fun _ => True)) (zr HO247) hg hat); replace HB := zA hb; have HO256 := zA ho; clear HO253 ho hb hg hat) | ((with_reducible refine zg 68 ?_); refine gL (some 39) Try.func68 #[.slice Ao28 t245.length co28, .int .i64 0] ?_; (with_reducible refine (spec_Flip.calls kj4 _ _ t245 0 t257 _ ?z1 ?z2 A22.out).mono ?_); (case z1 => exact ze HO247); (case z2 => exact zl HO247); rintro e w30 ⟨v258, rfl, ho0, hb⟩; refine ⟨_, rfl, ?_⟩; have HO259 := zL (zN (zN ho0 HO247) HO256); replace HO247 := zE HO247 ho0 hb; replace HO256 := zE HO256 ho0 hb; replace HB := zS hb; clear hb ho0; obtain ⟨Ao32, co32, eo32⟩ := Kd.R_slice HO259.out; subst eo32) | ((with_reducible refine gate_builtin (b := .append) (xs := #[.tmp 37, .tmp 39]) rfl ?_); at_builtin; refine Kd.R_append_rows (Kd.int .u8) (w0 := w) w.heap.size rfl (.tmp 37) (.tmp 39) 22 5 (.int .u8 0) 1 rfl Try.underlying22 info5 rfl (by decide) (by omega) v255 y254 t257 _ _ _ (fun k_ => some k_ ≠ (.slice Ao28 t245.length co28 : Value).ownBlock ∧ some k_ ≠ (.slice Ao32 t257.length co32 : Value).ownBlock) (fun _ => False) rfl rfl ?aO ?aR (fun _ _ h => h) (fun _ h => h.elim) ?aF ?aB ?aS ?aL ?_; (case aR => exact ze HO259); (case aB => exact zb); (case aF => exact (fun k_ hk => ⟨Kd.fresh' (Kd.R_lt (zr HO247)) k_ hk, Kd.fresh' (Kd.R_lt (zr HO259)) k_ hk⟩)); (case aO => exact (zr HO256)); (case aS => exact (below_size zb)); (case aL => have := LMc23.out; omega); intro v261 w31 ho hb hg hat; rw [← Ny260.out] at ho; replace HO247 := zA (Kd.R_after (ok := (fun k_ => some k_ ≠ (.slice Ao32 t257.length co32 : Value).ownBlock)) (by (with_reducible repeat (first | apply Kd.R_alloc | apply Kd.R_drewN | apply Kd.R_drew)); exact Kd.R_mono HO247.out (fun _ hk => ⟨hk.2, hk.1.2⟩)) hg hat); replace HO259 := zA (Kd.R_after (ok := (fun k_ => some k_ ≠ (.slice Ao28 t245.length co28 : Value).ownBlock)) (by (with_reducible repeat (first | apply Kd.R_alloc | apply Kd.R_drewN | apply Kd.R_drew)); exact Kd.R_mono HO259.out (fun _ hk => ⟨hk.1.2, hk.2⟩)) hg hat); replace HB := zA hb; have HO262 := zA ho; clear HO256 ho hb hg hat))
         go_ret
         exact ⟨_, zw, by (with_reducible repeat (first | apply Kd.R_alloc | apply Kd.R_drewN | apply Kd.R_drew)); exact Kd.R_mono HO262.out (fun _ hk => trivial), zb⟩
        ·rw [if_neg c23] at H
         exact absurd H (by simp)
       ·rw [if_neg c21] at H
        exact absurd H (by simp)
      ·rw [if_neg c20] at H
       exact absurd H (by simp)

/-! ### spec_GetVar: function 101 -/
def spec_GetVar.j0 : Nat → List Int → Int → Bool → Option (Int × Int × Bool)
  | 0, _, _, _ => none
  | k + 1, x0, x1, x27 => if x27 = true then (some (0, 0, false)) else (if 0 ≤ x1 then (if x1 < (x0.length : Int) then (if (wrap64 ((wrap64 (rd x0 x1)) - 128)) < 0 then ((spec_l4Read.f k x0 (wrap64 (x1 + 1)) (wrap64 ((-1) - (wrap64 ((wrap64 (rd x0 x1)) - 128)))) true).bind fun bt266 => (if bt266.2 = true then ((spec_l1In.f (wrap64 ((-1) - bt266.1)) (-1000000000000000) 1000000000000000).bind fun t268 => (if t268 = true then ((spec_PutVar.f k (([] : List Int)) (wrap64 ((-1) - bt266.1))).bind fun t272 => (if (t272.length : Int) = (wrap64 ((wrap64 ((-1) - (wrap64 ((wrap64 (rd x0 x1)) - 128)))) + 1)) then (some (wrap64 ((-1) - bt266.1), wrap64 ((wrap64 (x1 + 1)) + (wrap64 ((-1) - (wrap64 ((wrap64 (rd x0 x1)) - 128))))), true)) else (some (0, 0, false)))) else (some (0, 0, false)))) else (some (0, 0, false)))) else ((spec_l4Read.f k x0 (wrap64 (x1 + 1)) (wrap64 ((wrap64 (rd x0 x1)) - 128)) false).bind fun bt275 => (if bt275.2 = true then ((spec_l1In.f bt275.1 (-1000000000000000) 1000000000000000).bind fun t277 => (if t277 = true then ((spec_PutVar.f k (([] : List Int)) bt275.1).bind fun t281 => (if (t281.length : Int) = (wrap64 ((wrap64 ((wrap64 (rd x0 x1)) - 128)) + 1)) then (some (bt275.1, wrap64 ((wrap64 (x1 + 1)) + (wrap64 ((wrap64 (rd x0 x1)) - 128))), true)) else (some (0, 0, false)))) else (some (0, 0, false)))) else (some (0, 0, false))))) else (none)) else (none))
def spec_GetVar.f (k : Nat) (l0 : List Int) (a1 : Int) : Option (Int × Int × Bool) := if a1 < 0 then (spec_GetVar.j0 k l0 a1 true) else (if a1 ≥ (l0.length : Int) then (spec_GetVar.j0 k l0 a1 true) else (if 0 ≤ a1 then (if a1 < (l0.length : Int) then ((spec_l1In.f (wrap64 (rd l0 a1)) 120 135).bind fun t264 => (spec_GetVar.j0 k l0 a1 (!t264))) else (none)) else (none)))
set_option maxHeartbeats 8000000 in
set_option maxRecDepth 100000 in
theorem spec_GetVar.calls (k : Nat) (A0 : Option Addr) (c0 : Nat) (l0 : List Int) (a1 : Int) (r1 : Int) (r2 : Int) (r3 : Bool) (w : World) (hr0 : Kd.C (Kd.int .u8) w A0 l0.length l0) (hc0 : l0.length ≤ c0) (h : spec_GetVar.f k l0 a1 = some (r1, r2, r3)) :
  Calls Try.prog 101 #[.slice A0 l0.length c0, .int .i64 a1] w fun e w' => e = .returned (.tuple #[.int .i64 r1, .int .i64 r2, .bool r3]) ∧ Below w.heap.size w w' := by
 have HR0 := zA hr0
 have HC0 := zA hc0
 clear hr0 hc0
 have HB := zA (Below.refl w.heap.size w)
 have H : (if a1 < 0 then (spec_GetVar.j0 k l0 a1 true) else (if a1 ≥ (l0.length : Int) then (spec_GetVar.j0 k l0 a1 true) else (if 0 ≤ a1 then (if a1 < (l0.length : Int) then ((spec_l1In.f (wrap64 (rd l0 a1)) 120 135).bind fun t264 => (spec_GetVar.j0 k l0 a1 (!t264))) else (none)) else (none)))) = some (r1, r2, r3) := h
 clear h
 have HC3 := zA H
 clear H
 go_enter Try.func101, Try.ntmps101
 go_upto_region 1 with (fail)
 go_cut [27] (fun v27 wc => ∃ (kq : Nat) (x27_2 : Bool), v27 = .bool x27_2 ∧ Aside0 (spec_GetVar.j0 kq l0 a1 x27_2 = some (r1, r2, r3)) ∧ Aside0 (kq ≤ k) ∧ Aside0 (Below w.heap.size w wc))
 case first =>
  have H := HC3.out
  clear HC3
  by_cases c4 : a1 < 0
  ·rw [if_pos c4] at H
   have c4b0 : decide (a1 < 0) = true := decide_eq_true c4
   clear c4
   (first | rw [c4b0] | (simp only [i64_w, i32_w]; rw [c4b0]) | skip)
   have H' := zA H
   clear H
   go_wp2
   go_meet
   case rel => exact ⟨_, (true), zx, H', ⟨zo⟩, ⟨zb⟩⟩
  ·rw [if_neg c4] at H
   have c4b0 : decide (a1 < 0) = false := decide_eq_false c4
   clear c4
   (first | rw [c4b0] | (simp only [i64_w, i32_w]; rw [c4b0]) | skip)
   by_cases c5 : a1 ≥ (l0.length : Int)
   ·rw [if_pos c5] at H
    have c5b0 : decide ((l0.length : Int) ≤ a1) = true := decide_eq_true c5
    clear c5
    have H' := zA H
    clear H
    go_wp2
    go_meet
    case rel => exact ⟨_, (true), zx, H', ⟨zo⟩, ⟨zb⟩⟩
   ·rw [if_neg c5] at H
    have c5b0 : decide ((l0.length : Int) ≤ a1) = false := decide_eq_false c5
    clear c5
    by_cases c6 : 0 ≤ a1
    ·rw [if_pos c6] at H
     have c6b0 : decide (0 ≤ a1) = true := decide_eq_true c6
     clear c6
     by_cases c7 : a1 < (l0.length : Int)
     ·rw [if_pos c7] at H
      have c7b0 : decide (a1 < (l0.length : Int)) = true := decide_eq_true c7
      clear c7
      replace H := zI H
      obtain ⟨t264, A8, H⟩ := H
      have H' := zA H
      clear H
      have p263 : 0 ≤ (a1 : Int) := of_decide_eq_true za
      have q263 : a1 < (l0.length : Int) := of_decide_eq_true za
      obtain ⟨ad263, e263, hx263_0⟩ := Kd.at_int HR0.out a1 p263 q263
      cases e263
      replace hx263_0 := zj hx263_0
      replace p263 := eq_true p263
      replace q263 := eq_true q263
      go_wp2_with (first | (go_at_call 79; (with_reducible refine (spec_l1In.calls (wrap64 (rd l0 a1)) 120 135 t264 _ A8.out).mono ?_); rintro e w' ⟨rfl, ⟨nd, rfl⟩⟩))
      go_meet
      case rel => exact ⟨_, (!t264), zx, H', ⟨zo⟩, ⟨zb⟩⟩
     ·rw [if_neg c7] at H
      exact absurd H (by simp)
    ·rw [if_neg c6] at H
     exact absurd H (by simp)
 case rest =>
  clear HC3
  obtain ⟨kq, x27_2, rfl, HA, HJ2, HB⟩ := hcut
  cases kq with
  | zero => exact absurd HA.out (by simp [spec_GetVar.j0])
  | succ kj2 =>
   have H := HA.out
   clear HA
   simp only [spec_GetVar.j0] at H
   by_cases c9 : x27_2 = true
   ·subst c9
    rw [if_pos rfl] at H
    simp only [Option.some.injEq, Prod.mk.injEq] at H
    obtain ⟨rfl, rfl, rfl⟩ := H
    go_wp2
    go_ret3
    exact ⟨zw, zb⟩
   ·replace c9 := Bool.eq_false_iff.mpr c9
    subst c9
    rw [if_neg (Bool.false_ne_true)] at H
    by_cases c10 : 0 ≤ a1
    ·rw [if_pos c10] at H
     have c10b0 : decide (0 ≤ a1) = true := decide_eq_true c10
     clear c10
     by_cases c11 : a1 < (l0.length : Int)
     ·rw [if_pos c11] at H
      have c11b0 : decide (a1 < (l0.length : Int)) = true := decide_eq_true c11
      clear c11
      by_cases c12 : (wrap64 ((wrap64 (rd l0 a1)) - 128)) < 0
      ·rw [if_pos c12] at H
       have c12b0 : decide ((wrap64 ((wrap64 (rd l0 a1)) - 128)) < 0) = true := decide_eq_true c12
       clear c12
       replace H := zI H
       obtain ⟨⟨t266, t267⟩, A13, H⟩ := H
       try dsimp only at H
       by_cases c14 : t267 = true
       ·subst c14
        rw [if_pos rfl] at H
        replace H := zI H
        obtain ⟨t268, A15, H⟩ := H
        by_cases c16 : t268 = true
        ·subst c16
         rw [if_pos rfl] at H
         obtain ⟨y269, hy269⟩ : ∃ y_ : List Int, y_ = (([] : List Int)) := ⟨_, rfl⟩
         replace H : ((spec_PutVar.f kj2 y269 (wrap64 ((-1) - t266))).bind fun t272 => (if (t272.length : Int) = (wrap64 ((wrap64 ((-1) - (wrap64 ((wrap64 (rd l0 a1)) - 128)))) + 1)) then (some (wrap64 ((-1) - t266), wrap64 ((wrap64 (a1 + 1)) + (wrap64 ((-1) - (wrap64 ((wrap64 (rd l0 a1)) - 128))))), true)) else (some (0, 0, false)))) = some (r1, r2, r3) := zy hy269
         have Ny269 := zA hy269
         clear hy269
         replace H := zI H
         obtain ⟨t272, A17, H⟩ := H
         by_cases c18 : (t272.length : Int) = (wrap64 ((wrap64 ((-1) - (wrap64 ((wrap64 (rd l0 a1)) - 128)))) + 1))
         ·rw [if_pos c18] at H
          have c18b0 : ((t272.length : Int) == (wrap64 ((wrap64 ((-1) - (wrap64 ((wrap64 (rd l0 a1)) - 128)))) + 1))) = true := beq_iff_eq.mpr c18
          have c18b1 : ((t272.length : Int) != (wrap64 ((wrap64 ((-1) - (wrap64 ((wrap64 (rd l0 a1)) - 128)))) + 1))) = false := bne_eq_false_iff_eq.mpr c18
          clear c18
          simp only [Option.some.injEq, Prod.mk.injEq] at H
          obtain ⟨rfl, rfl, rfl⟩ := H
          have p265 : 0 ≤ (a1 : Int) := of_decide_eq_true za
          have q265 : a1 < (l0.length : Int) := of_decide_eq_true za
          obtain ⟨ad265, e265, hx265_0⟩ := Kd.at_int HR0.out a1 p265 q265
          cases e265
          replace hx265_0 := zj hx265_0
          replace p265 := eq_true p265
          replace q265 := eq_true q265
          go_wp2_with (first | ((with_reducible refine zg 119 ?_); refine gL (some 45) Try.func119 #[.slice (some ad265) l0.length c0, .int .i64 (wrap64 (a1 + 1)), .int .i64 (wrap64 ((-1) - (wrap64 ((wrap64 (rd l0 a1)) - 128)))), .bool true] ?_; (with_reducible refine (spec_l4Read.calls kj2 _ _ l0 (wrap64 (a1 + 1)) (wrap64 ((-1) - (wrap64 ((wrap64 (rd l0 a1)) - 128)))) true t266 true _ ?z1 ?z2 A13.out).mono ?_); (case z1 => exact zd HR0); (case z2 => exact HC0.out); rintro e w' ⟨rfl, ⟨nd, rfl⟩⟩; refine ⟨_, rfl, ?_⟩) | (go_at_call 79; (with_reducible refine (spec_l1In.calls (wrap64 ((-1) - t266)) (-1000000000000000) 1000000000000000 true _ A15.out).mono ?_); rintro e w' ⟨rfl, ⟨nd, rfl⟩⟩) | ((with_reducible refine zt 59 ?_); (try (refine gate_guard (by rfl) ?_; dsimp only)); refine Kd.R_lit (Kd.int .u8) _ 5 ?hg (N := 59) ?hd (xs := ([] : List Int)) (inner := []) (ok := fun _ => True) (okp := fun _ => True) ?hr ?hp (fun _ hk => hk) trivial (Below.refl _ _) (Nat.le_refl _) (by simp) ?_; (case hd => rfl); (case hg => rfl); (case hr => exact zz16); (case hp => exact (Reps.none _ _)); intro v270 w19 ho20 hb hg_ hnew_; clear hg_ hnew_; (first | rw [← Ny269.out] at ho20 | (simp only [Int.reduceToNat] at ho20; rw [← Ny269.out] at ho20)); have HO271 := zL ho20; replace HB := zS hb; clear hb ho20; obtain ⟨Ao21, co21, eo21⟩ := Kd.R_slice HO271.out; subst eo21) | (go_at_call 95; (with_reducible refine (spec_PutVar.calls kj2 _ _ y269 (wrap64 ((-1) - t266)) t272 _ ?z1 ?z2 A17.out).mono ?_); (case z1 => exact ze HO271); (case z2 => exact zl HO271); rintro e w22 ⟨v273, rfl, ho0, hb⟩; have HO274 := zL (zN ho0 HO271); replace HO271 := zE HO271 ho0 hb; replace HB := zS hb; clear hb ho0; obtain ⟨Ao23, co23, eo23⟩ := Kd.R_slice HO274.out; subst eo23))
          go_ret3
          exact ⟨zw, zb⟩
         ·rw [if_neg c18] at H
          have c18b0 : ((t272.length : Int) == (wrap64 ((wrap64 ((-1) - (wrap64 ((wrap64 (rd l0 a1)) - 128)))) + 1))) = false := beq_eq_false_iff_ne.mpr c18
          have c18b1 : ((t272.length : Int) != (wrap64 ((wrap64 ((-1) - (wrap64 ((wrap64 (rd l0 a1)) - 128)))) + 1))) = true := bne_iff_ne.mpr c18
          simp only [Option.some.injEq, Prod.mk.injEq] at H
          obtain ⟨rfl, rfl, rfl⟩ := H
          have p265 : 0 ≤ (a1 : Int) := of_decide_eq_true za
          have q265 : a1 < (l0.length : Int) := of_decide_eq_true za
          obtain ⟨ad265, e265, hx265_0⟩ := Kd.at_int HR0.out a1 p265 q265
          cases e265
          replace hx265_0 := zj hx265_0
          replace p265 := eq_true p265
          replace q265 := eq_true q265
          go_wp2_with (first | ((with_reducible refine zg 119 ?_); refine gL (some 45) Try.func119 #[.slice (some ad265) l0.length c0, .int .i64 (wrap64 (a1 + 1)), .int .i64 (wrap64 ((-1) - (wrap64 ((wrap64 (rd l0 a1)) - 128)))), .bool true] ?_; (with_reducible refine (spec_l4Read.calls kj2 _ _ l0 (wrap64 (a1 + 1)) (wrap64 ((-1) - (wrap64 ((wrap64 (rd l0 a1)) - 128)))) true t266 true _ ?z1 ?z2 A13.out).mono ?_); (case z1 => exact zd HR0); (case z2 => exact HC0.out); rintro e w' ⟨rfl, ⟨nd, rfl⟩⟩; refine ⟨_, rfl, ?_⟩) | (go_at_call 79; (with_reducible refine (spec_l1In.calls (wrap64 ((-1) - t266)) (-1000000000000000) 1000000000000000 true _ A15.out).mono ?_); rintro e w' ⟨rfl, ⟨nd, rfl⟩⟩) | ((with_reducible refine zt 59 ?_); (try (refine gate_guard (by rfl) ?_; dsimp only)); refine Kd.R_lit (Kd.int .u8) _ 5 ?hg (N := 59) ?hd (xs := ([] : List Int)) (inner := []) (ok := fun _ => True) (okp := fun _ => True) ?hr ?hp (fun _ hk => hk) trivial (Below.refl _ _) (Nat.le_refl _) (by simp) ?_; (case hd => rfl); (case hg => rfl); (case hr => exact zz16); (case hp => exact (Reps.none _ _)); intro v270 w24 ho25 hb hg_ hnew_; clear hg_ hnew_; (first | rw [← Ny269.out] at ho25 | (simp only [Int.reduceToNat] at ho25; rw [← Ny269.out] at ho25)); have HO271 := zL ho25; replace HB := zS hb; clear hb ho25; obtain ⟨Ao26, co26, eo26⟩ := Kd.R_slice HO271.out; subst eo26) | (go_at_call 95; (with_reducible refine (spec_PutVar.calls kj2 _ _ y269 (wrap64 ((-1) - t266)) t272 _ ?z1 ?z2 A17.out).mono ?_); (case z1 => exact ze HO271); (case z2 => exact zl HO271); rintro e w27 ⟨v273, rfl, ho0, hb⟩; have HO274 := zL (zN ho0 HO271); replace HO271 := zE HO271 ho0 hb; replace HB := zS hb; clear hb ho0; obtain ⟨Ao28, co28, eo28⟩ := Kd.R_slice HO274.out; subst eo28))
          go_ret3
          exact ⟨zw, zb⟩
        ·replace c16 := Bool.eq_false_iff.mpr c16
         subst c16
         rw [if_neg (Bool.false_ne_true)] at H
         simp only [Option.some.injEq, Prod.mk.injEq] at H
         obtain ⟨rfl, rfl, rfl⟩ := H
         have p265 : 0 ≤ (a1 : Int) := of_decide_eq_true za
         have q265 : a1 < (l0.length : Int) := of_decide_eq_true za
         obtain ⟨ad265, e265, hx265_0⟩ := Kd.at_int HR0.out a1 p265 q265
         cases e265
         replace hx265_0 := zj hx265_0
         replace p265 := eq_true p265
         replace q265 := eq_true q265
         go_wp2_with (first | ((with_reducible refine zg 119 ?_); refine gL (some 45) Try.func119 #[.slice (some ad265) l0.length c0, .int .i64 (wrap64 (a1 + 1)), .int .i64 (wrap64 ((-1) - (wrap64 ((wrap64 (rd l0 a1)) - 128)))), .bool true] ?_; (with_reducible refine (spec_l4Read.calls kj2 _ _ l0 (wrap64 (a1 + 1)) (wrap64 ((-1) - (wrap64 ((wrap64 (rd l0 a1)) - 128)))) true t266 true _ ?z1 ?z2 A13.out).mono ?_); (case z1 => exact zd HR0); (case z2 => exact HC0.out); rintro e w' ⟨rfl, ⟨nd, rfl⟩⟩; refine ⟨_, rfl, ?_⟩) | (go_at_call 79; (with_reducible refine (spec_l1In.calls (wrap64 ((-1) - t266)) (-1000000000000000) 1000000000000000 false _ A15.out).mono ?_); rintro e w' ⟨rfl, ⟨nd, rfl⟩⟩))
         go_ret3
         exact ⟨zw, zb⟩
       ·replace c14 := Bool.eq_false_iff.mpr c14
        subst c14
        rw [if_neg (Bool.false_ne_true)] at H
        simp only [Option.some.injEq, Prod.mk.injEq] at H
        obtain ⟨rfl, rfl, rfl⟩ := H
        have p265 : 0 ≤ (a1 : Int) := of_decide_eq_true za
        have q265 : a1 < (l0.length : Int) := of_decide_eq_true za
        obtain ⟨ad265, e265, hx265_0⟩ := Kd.at_int HR0.out a1 p265 q265
        cases e265
        replace hx265_0 := zj hx265_0
        replace p265 := eq_true p265
        replace q265 := eq_true q265
        go_wp2_with (first | ((with_reducible refine zg 119 ?_); refine gL (some 45) Try.func119 #[.slice (some ad265) l0.length c0, .int .i64 (wrap64 (a1 + 1)), .int .i64 (wrap64 ((-1) - (wrap64 ((wrap64 (rd l0 a1)) - 128)))), .bool true] ?_; (with_reducible refine (spec_l4Read.calls kj2 _ _ l0 (wrap64 (a1 + 1)) (wrap64 ((-1) - (wrap64 ((wrap64 (rd l0 a1)) - 128)))) true t266 false _ ?z1 ?z2 A13.out).mono ?_); (case z1 => exact zd HR0); (case z2 => exact HC0.out); rintro e w' ⟨rfl, ⟨nd, rfl⟩⟩; refine ⟨_, rfl, ?_⟩))
        go_ret3
        exact ⟨zw, zb⟩
      ·rw [if_neg c12] at H
       have c12b0 : decide ((wrap64 ((wrap64 (rd l0 a1)) - 128)) < 0) = false := decide_eq_false c12
       clear c12
       replace H := zI H
       obtain ⟨⟨t275, t276⟩, A29, H⟩ := H
       try dsimp only at H
       by_cases c30 : t276 = true
       ·subst c30
        rw [if_pos rfl] at H
        replace H := zI H
        obtain ⟨t277, A31, H⟩ := H
        by_cases c32 : t277 = true
        ·subst c32
         rw [if_pos rfl] at H
         obtain ⟨y278, hy278⟩ : ∃ y_ : List Int, y_ = (([] : List Int)) := ⟨_, rfl⟩
         replace H : ((spec_PutVar.f kj2 y278 t275).bind fun t281 => (if (t281.length : Int) = (wrap64 ((wrap64 ((wrap64 (rd l0 a1)) - 128)) + 1)) then (some (t275, wrap64 ((wrap64 (a1 + 1)) + (wrap64 ((wrap64 (rd l0 a1)) - 128))), true)) else (some (0, 0, false)))) = some (r1, r2, r3) := zy hy278
         have Ny278 := zA hy278
         clear hy278
         replace H := zI H
         obtain ⟨t281, A33, H⟩ := H
         by_cases c34 : (t281.length : Int) = (wrap64 ((wrap64 ((wrap64 (rd l0 a1)) - 128)) + 1))
         ·rw [if_pos c34] at H
          have c34b0 : ((t281.length : Int) == (wrap64 ((wrap64 ((wrap64 (rd l0 a1)) - 128)) + 1))) = true := beq_iff_eq.mpr c34
          have c34b1 : ((t281.length : Int) != (wrap64 ((wrap64 ((wrap64 (rd l0 a1)) - 128)) + 1))) = false := bne_eq_false_iff_eq.mpr c34
          clear c34
          simp only [Option.some.injEq, Prod.mk.injEq] at H
          obtain ⟨rfl, rfl, rfl⟩ := H
          have p265 : 0 ≤ (a1 : Int) := of_decide_eq_true za
          have q265 : a1 < (l0.length : Int) := of_decide_eq_true za
          obtain ⟨ad265, e265, hx265_0⟩ := Kd.at_int HR0.out a1 p265 q265
          cases e265
          replace hx265_0 := zj hx265_0
          replace p265 := eq_true p265
          replace q265 := eq_true q265
          go_wp2_with (first | ((with_reducible refine zg 119 ?_); refine gL (some 45) Try.func119 #[.slice (some ad265) l0.length c0, .int .i64 (wrap64 (a1 + 1)), .int .i64 (wrap64 ((wrap64 (rd l0 a1)) - 128)), .bool false] ?_; (with_reducible refine (spec_l4Read.calls kj2 _ _ l0 (wrap64 (a1 + 1)) (wrap64 ((wrap64 (rd l0 a1)) - 128)) false t275 true _ ?z1 ?z2 A29.out).mono ?_); (case z1 => exact zd HR0); (case z2 => exact HC0.out); rintro e w' ⟨rfl, ⟨nd, rfl⟩⟩; refine ⟨_, rfl, ?_⟩) | (go_at_call 79; (with_reducible refine (spec_l1In.calls t275 (-1000000000000000) 1000000000000000 true _ A31.out).mono ?_); rintro e w' ⟨rfl, ⟨nd, rfl⟩⟩) | ((with_reducible refine zt 59 ?_); (try (refine gate_guard (by rfl) ?_; dsimp only)); refine Kd.R_lit (Kd.int .u8) _ 5 ?hg (N := 59) ?hd (xs := ([] : List Int)) (inner := []) (ok := fun _ => True) (okp := fun _ => True) ?hr ?hp (fun _ hk => hk) trivial (Below.refl _ _) (Nat.le_refl _) (by simp) ?_; (case hd => rfl); (case hg => rfl); (case hr => exact zz16); (case hp => exact (Reps.none _ _)); intro v279 w35 ho36 hb hg_ hnew_; clear hg_ hnew_; (first | rw [← Ny278.out] at ho36 | (simp only [Int.reduceToNat] at ho36; rw [← Ny278.out] at ho36)); have HO280 := zL ho36; replace HB := zS hb; clear hb ho36; obtain ⟨Ao37, co37, eo37⟩ := Kd.R_slice HO280.out; subst eo37) | (go_at_call 95; (with_reducible refine (spec_PutVar.calls kj2 _ _ y278 t275 t281 _ ?z1 ?z2 A33.out).mono ?_); (case z1 => exact ze HO280); (case z2 => exact zl HO280); rintro e w38 ⟨v282, rfl, ho0, hb⟩; have HO283 := zL (zN ho0 HO280); replace HO280 := zE HO280 ho0 hb; replace HB := zS hb; clear hb ho0; obtain ⟨Ao39, co39, eo39⟩ := Kd.R_slice HO283.out; subst eo39))
          go_ret3
          exact ⟨zw, zb⟩
         ·rw [if_neg c34] at H
          have c34b0 : ((t281.length : Int) == (wrap64 ((wrap64 ((wrap64 (rd l0 a1)) - 128)) + 1))) = false := beq_eq_false_iff_ne.mpr c34
          have c34b1 : ((t281.length : Int) != (wrap64 ((wrap64 ((wrap64 (rd l0 a1)) - 128)) + 1))) = true := bne_iff_ne.mpr c34
          simp only [Option.some.injEq, Prod.mk.injEq] at H
          obtain ⟨rfl, rfl, rfl⟩ := H
          have p265 : 0 ≤ (a1 : Int) := of_decide_eq_true za
          have q265 : a1 < (l0.length : Int) := of_decide_eq_true za
          obtain ⟨ad265, e265, hx265_0⟩ := Kd.at_int HR0.out a1 p265 q265
          cases e265
          replace hx265_0 := zj hx265_0
          replace p265 := eq_true p265
          replace q265 := eq_true q265
          go_wp2_with (first | ((with_reducible refine zg 119 ?_); refine gL (some 45) Try.func119 #[.slice (some ad265) l0.length c0, .int .i64 (wrap64 (a1 + 1)), .int .i64 (wrap64 ((wrap64 (rd l0 a1)) - 128)), .bool false] ?_; (with_reducible refine (spec_l4Read.calls kj2 _ _ l0 (wrap64 (a1 + 1)) (wrap64 ((wrap64 (rd l0 a1)) - 128)) false t275 true _ ?z1 ?z2 A29.out).mono ?_); (case z1 => exact zd HR0); (case z2 => exact HC0.out); rintro e w' ⟨rfl, ⟨nd, rfl⟩⟩; refine ⟨_, rfl, ?_⟩) | (go_at_call 79; (with_reducible refine (spec_l1In.calls t275 (-1000000000000000) 1000000000000000 true _ A31.out).mono ?_); rintro e w' ⟨rfl, ⟨nd, rfl⟩⟩) | ((with_reducible refine zt 59 ?_); (try (refine gate_guard (by rfl) ?_; dsimp only)); refine Kd.R_lit (Kd.int .u8) _ 5 ?hg (N := 59) ?hd (xs := ([] : List Int)) (inner := []) (ok := fun _ => True) (okp := fun _ => True) ?hr ?hp (fun _ hk => hk) trivial (Below.refl _ _) (Nat.le_refl _) (by simp) ?_; (case hd => rfl); (case hg => rfl); (case hr => exact zz16); (case hp => exact (Reps.none _ _)); intro v279 w40 ho41 hb hg_ hnew_; clear hg_ hnew_; (first | rw [← Ny278.out] at ho41 | (simp only [Int.reduceToNat] at ho41; rw [← Ny278.out] at ho41)); have HO280 := zL ho41; replace HB := zS hb; clear hb ho41; obtain ⟨Ao42, co42, eo42⟩ := Kd.R_slice HO280.out; subst eo42) | (go_at_call 95; (with_reducible refine (spec_PutVar.calls kj2 _ _ y278 t275 t281 _ ?z1 ?z2 A33.out).mono ?_); (case z1 => exact ze HO280); (case z2 => exact zl HO280); rintro e w43 ⟨v282, rfl, ho0, hb⟩; have HO283 := zL (zN ho0 HO280); replace HO280 := zE HO280 ho0 hb; replace HB := zS hb; clear hb ho0; obtain ⟨Ao44, co44, eo44⟩ := Kd.R_slice HO283.out; subst eo44))
          go_ret3
          exact ⟨zw, zb⟩
        ·replace c32 := Bool.eq_false_iff.mpr c32
         subst c32
         rw [if_neg (Bool.false_ne_true)] at H
         simp only [Option.some.injEq, Prod.mk.injEq] at H
         obtain ⟨rfl, rfl, rfl⟩ := H
         have p265 : 0 ≤ (a1 : Int) := of_decide_eq_true za
         have q265 : a1 < (l0.length : Int) := of_decide_eq_true za
         obtain ⟨ad265, e265, hx265_0⟩ := Kd.at_int HR0.out a1 p265 q265
         cases e265
         replace hx265_0 := zj hx265_0
         replace p265 := eq_true p265
         replace q265 := eq_true q265
         go_wp2_with (first | ((with_reducible refine zg 119 ?_); refine gL (some 45) Try.func119 #[.slice (some ad265) l0.length c0, .int .i64 (wrap64 (a1 + 1)), .int .i64 (wrap64 ((wrap64 (rd l0 a1)) - 128)), .bool false] ?_; (with_reducible refine (spec_l4Read.calls kj2 _ _ l0 (wrap64 (a1 + 1)) (wrap64 ((wrap64 (rd l0 a1)) - 128)) false t275 true _ ?z1 ?z2 A29.out).mono ?_); (case z1 => exact zd HR0); (case z2 => exact HC0.out); rintro e w' ⟨rfl, ⟨nd, rfl⟩⟩; refine ⟨_, rfl, ?_⟩) | (go_at_call 79; (with_reducible refine (spec_l1In.calls t275 (-1000000000000000) 1000000000000000 false _ A31.out).mono ?_); rintro e w' ⟨rfl, ⟨nd, rfl⟩⟩))
         go_ret3
         exact ⟨zw, zb⟩
       ·replace c30 := Bool.eq_false_iff.mpr c30
        subst c30
        rw [if_neg (Bool.false_ne_true)] at H
        simp only [Option.some.injEq, Prod.mk.injEq] at H
        obtain ⟨rfl, rfl, rfl⟩ := H
        have p265 : 0 ≤ (a1 : Int) := of_decide_eq_true za
        have q265 : a1 < (l0.length : Int) := of_decide_eq_true za
        obtain ⟨ad265, e265, hx265_0⟩ := Kd.at_int HR0.out a1 p265 q265
        cases e265
        replace hx265_0 := zj hx265_0
        replace p265 := eq_true p265
        replace q265 := eq_true q265
        go_wp2_with (first | ((with_reducible refine zg 119 ?_); refine gL (some 45) Try.func119 #[.slice (some ad265) l0.length c0, .int .i64 (wrap64 (a1 + 1)), .int .i64 (wrap64 ((wrap64 (rd l0 a1)) - 128)), .bool false] ?_; (with_reducible refine (spec_l4Read.calls kj2 _ _ l0 (wrap64 (a1 + 1)) (wrap64 ((wrap64 (rd l0 a1)) - 128)) false t275 false _ ?z1 ?z2 A29.out).mono ?_); (case z1 => exact zd HR0); (case z2 => exact HC0.out); rintro e w' ⟨rfl, ⟨nd, rfl⟩⟩; refine ⟨_, rfl, ?_⟩))
        go_ret3
        exact ⟨zw, zb⟩
     ·rw [if_neg c11] at H
      exact absurd H (by simp)
    ·rw [if_neg c10] at H
     exact absurd H (by simp)

end Go.Proofs.Ytnfmpopmigbkoaa.PFnKeysRead

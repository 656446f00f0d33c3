-- Written by mkprint.py, a program of this session (the printer with additions of its own)
import Derived.Test.YtnfmpopmigbkoaaPFnLessKeysx0
import Derived.Test.YtnfmpopmigbkoaaPFnLessKeysx6
namespace Go.Proofs.Ytnfmpopmigbkoaa.PFnLessKeys
open Go.RowKit Go.Proofs.YtnfmpopmigbkoaaW.PrintWords Go.Proofs.YtnfmpopmigbkoaaW.PrintLast Go.Proofs.YtnfmpopmigbkoaaW.PrintMore
attribute [local go_sem] max2_int min2_int max_two min_two max_three min_three max_four min_four   -- for this text's walks alone
set_option linter.unusedVariables false
set_option linter.unusedSimpArgs false

/-! ### impl_bytesOf: function 118 -/
def impl_bytesOf.l0 : Nat → Int → Int → Option (Int)
  | 0, _, _ => none
  | k + 1, x0, x3 => if x0 > 0 then (impl_bytesOf.l0 k (x0 / 256) (wrap64 (x3 + 1))) else (some x3)
def impl_bytesOf.f (k : Nat) (a0 : Int) : Option (Int) := impl_bytesOf.l0 k a0 0
theorem impl_bytesOf.mono_l : ∀ k, (∀ y0 y1, LeO (impl_bytesOf.l0 k y0 y1) (impl_bytesOf.l0 (k + 1) y0 y1))
  | 0 => fun _ _ r h => by simp [impl_bytesOf.l0] at h
  | k + 1 => by
    have ih0 := impl_bytesOf.mono_l k
    · intro y0 y1
      unfold impl_bytesOf.l0
      repeat' first
      | (with_reducible exact ih0 _ _)
      | (with_reducible exact LeO.refl _)
      | (with_reducible exact LeO.none _)
      | (with_reducible refine LeO.ite ?_ ?_)
      | (with_reducible refine LeO.bind ?_ (fun _ => ?_))
      | exact ih0 _ _
      | exact LeO.none _
      | refine LeO.ite ?_ ?_
      | refine LeO.bind ?_ (fun _ => ?_)
theorem impl_bytesOf.mono : ∀ a0 k, LeO (impl_bytesOf.f k a0) (impl_bytesOf.f (k + 1) a0) := by
  intro a0 k
  have ih0 := impl_bytesOf.mono_l k
  unfold impl_bytesOf.f
  repeat' first
      | (with_reducible exact ih0 _ _)
      | (with_reducible exact LeO.refl _)
      | (with_reducible exact LeO.none _)
      | (with_reducible refine LeO.ite ?_ ?_)
      | (with_reducible refine LeO.bind ?_ (fun _ => ?_))
      | exact ih0 _ _
      | exact LeO.none _
      | refine LeO.ite ?_ ?_
      | refine LeO.bind ?_ (fun _ => ?_)
set_option maxHeartbeats 8000000 in
set_option maxRecDepth 100000 in
theorem impl_bytesOf.calls (k : Nat) (a0 : Int) (r : Int) (w : World) (h : impl_bytesOf.f k a0 = some r) :
  Calls Try.prog 118 #[.int .i64 a0] w fun e w' => e = .returned (.int .i64 r) ∧ Drawn0 w w' := by
 have H : (impl_bytesOf.l0 k a0 0) = some r := h
 clear h
 have H' := zA H
 clear H
 go_enter Try.func118, Try.ntmps118
 go_wp2
 go_loopg [0, 3] k (fun kq v0 v3 w' => ∃ (x0_1 : Int) (x3_1 : Int), v0 = .int .i64 x0_1 ∧ v3 = .int .i64 x3_1 ∧ Aside0 (impl_bytesOf.l0 kq x0_1 x3_1 = some r) ∧ Aside0 (kq ≤ k) ∧ Drawn0 w w')
 case atStart => exact ⟨(a0), (0), zx, zx, H', ⟨Nat.le_refl _⟩, zz35⟩
 case round =>
  clear H'
  obtain ⟨x0_1, x3_1, rfl, rfl, HA, HK1, ⟨m1, rfl⟩⟩ := hrel
  cases gk with
  | zero => exact absurd HA.out (by simp [impl_bytesOf.l0])
  | succ k1 =>
   have H := HA.out
   clear HA
   simp only [impl_bytesOf.l0] at H
   by_cases c2 : x0_1 > 0
   ·rw [if_pos c2] at H
    have c2b0 : decide (0 < x0_1) = true := decide_eq_true c2
    clear c2
    have H' := zA H
    clear H
    go_wp2
    go_roundg k1
    case measure => have := HK1.out; omega
    case rel => exact ⟨(x0_1 / 256), (wrap64 (x3_1 + 1)), zx, zx, H', ⟨zz41⟩, zz35⟩
   ·rw [if_neg c2] at H
    have c2b0 : decide (0 < x0_1) = false := decide_eq_false c2
    clear c2
    obtain rfl := Option.some.inj H
    go_wp2
    go_ret
    exact ⟨zx, zz35⟩

/-! ### impl_addVar: function 98 -/
def impl_addVar.f (k : Nat) (l0 : List Int) (a1 : Int) : Option (List Int) := (impl_clamp.f a1 (-1000000000000000) 1000000000000000).bind fun t311 => (if t311 ≥ 0 then ((impl_bytesOf.f k t311).bind fun t312 => (if l0.length < 140737488355328 then ((impl_addBytes.f k (l0 ++ [(wrap64 (128 + t312)) % 256]) t311 t312 0).bind fun t316 => (some t316)) else (none))) else ((impl_bytesOf.f k (wrap64 ((-1) - t311))).bind fun t319 => (if l0.length < 140737488355328 then ((impl_addBytes.f k (l0 ++ [(wrap64 (127 - t319)) % 256]) (wrap64 ((-1) - t311)) t319 255).bind fun t323 => (some t323)) else (none))))
theorem impl_addVar.mono : ∀ a0 a1 k, LeO (impl_addVar.f k a0 a1) (impl_addVar.f (k + 1) a0 a1) := by
  intro a0 a1 k
  unfold impl_addVar.f
  repeat' first
      | (with_reducible exact impl_addBytes.mono _ _ _ _ _)
      | (with_reducible exact impl_bytesOf.mono _ _)
      | (with_reducible exact LeO.refl _)
      | (with_reducible exact LeO.none _)
      | (with_reducible refine LeO.ite ?_ ?_)
      | (with_reducible refine LeO.bind ?_ (fun _ => ?_))
      | exact impl_addBytes.mono _ _ _ _ _
      | exact impl_bytesOf.mono _ _
      | exact LeO.none _
      | refine LeO.ite ?_ ?_
      | refine LeO.bind ?_ (fun _ => ?_)
set_option maxHeartbeats 8000000 in
set_option maxRecDepth 100000 in
theorem impl_addVar.calls (k : Nat) (P0_ : Nat → Prop) (u9000_ : Value) (l0 : List Int) (a1 : Int) (r : List Int) (w0 w : World) (hB : Below w0.heap.size w0 w) (ho0 : Kd.R (Kd.int .u8) 5 w w0.heap.size P0_ u9000_ l0) (h : impl_addVar.f k l0 a1 = some r) :
  Calls Try.prog 98 #[u9000_, .int .i64 a1] w fun e w' => ∃ v0_ : Value, e = .returned (v0_) ∧ Kd.R (Kd.int .u8) 5 w' w0.heap.size (fun k_ => (P0_ k_ ∨ w.heap.size ≤ k_)) v0_ r ∧ Below w0.heap.size w0 w' ∧ Kept w w' (fun k_ => P0_ k_) := by
 have HO0 := zA (show Kd.R (Kd.int .u8) 5 w w0.heap.size (fun k_ => (P0_ k_ ∨ w.heap.size ≤ k_)) u9000_ l0 from Kd.R_mono ho0 (fun k_ hk => (.inl hk)))
 have HK := zA (Kept.refl w (fun k_ => P0_ k_))
 have HW0 := zA hB.size
 have HB := zA hB
 clear hB
 have H : ((impl_clamp.f a1 (-1000000000000000) 1000000000000000).bind fun t311 => (if t311 ≥ 0 then ((impl_bytesOf.f k t311).bind fun t312 => (if l0.length < 140737488355328 then ((impl_addBytes.f k (l0 ++ [(wrap64 (128 + t312)) % 256]) t311 t312 0).bind fun t316 => (some t316)) else (none))) else ((impl_bytesOf.f k (wrap64 ((-1) - t311))).bind fun t319 => (if l0.length < 140737488355328 then ((impl_addBytes.f k (l0 ++ [(wrap64 (127 - t319)) % 256]) (wrap64 ((-1) - t311)) t319 255).bind fun t323 => (some t323)) else (none))))) = some r := h
 clear h
 replace H := zI H
 obtain ⟨t311, A3, H⟩ := H
 by_cases c4 : t311 ≥ 0
 ·rw [if_pos c4] at H
  have c4b0 : decide (0 ≤ t311) = true := decide_eq_true c4
  clear c4
  replace H := zI H
  obtain ⟨t312, A5, H⟩ := H
  by_cases c6 : l0.length < 140737488355328
  ·rw [if_pos c6] at H
   have LMc6 := zA c6
   clear c6
   obtain ⟨y313, hy313⟩ : ∃ y_ : List Int, y_ = (l0 ++ [(wrap64 (128 + t312)) % 256]) := ⟨_, rfl⟩
   replace H : ((impl_addBytes.f k y313 t311 t312 0).bind fun t316 => (some t316)) = some r := by first | (rw [hy313]; with_reducible exact H) | (have H2_ := (Option.bind_some _ _).symm.trans H; rw [hy313]; with_reducible exact H2_) | (have H2_ := (Option.bind_some _ _).symm.trans H; with_reducible exact H2_) | with_reducible exact H | (rw [hy313]; exact H) | exact H
   have Ny313 := zA hy313
   clear hy313
   replace H := zI H
   obtain ⟨t316, A7, H⟩ := H
   obtain rfl := Option.some.inj H
   go_enter Try.func98, Try.ntmps98
   go_wp2_with (first | ((with_reducible refine zg 117 ?_); refine gL (some 8) Try.func117 #[.int .i64 a1, .int .i64 (-1000000000000000), .int .i64 1000000000000000] ?_; (with_reducible refine (impl_clamp.calls a1 (-1000000000000000) 1000000000000000 t311 _ A3.out).mono ?_); rintro e w8 ⟨rfl, hb⟩; refine ⟨_, rfl, ?_⟩; replace HO0 := zR HO0 hb; replace HK := zA (Kept.below (S := (fun k_ => P0_ k_)) zq hb); replace HB := zS hb; (try clear hb)) | ((with_reducible refine zg 118 ?_); refine gL (some 12) Try.func118 #[.int .i64 t311] ?_; (with_reducible refine (impl_bytesOf.calls k t311 t312 _ A5.out).mono ?_); rintro e w' ⟨rfl, ⟨nd, rfl⟩⟩; refine ⟨_, rfl, ?_⟩) | ((with_reducible refine gate_builtin (b := .append) (xs := #[.tmp 13, .tmp 17]) rfl ?_); at_builtin; refine Kd.R_append (Kd.int .u8) (w0 := w0) w0.heap.size rfl (.tmp 13) (.tmp 17) 22 5 (.int .u8 0) 1 rfl Try.underlying22 info5 rfl (by decide) (by omega) u9000_ l0 ((wrap64 (128 + t312)) % 256) [.int .u8 ((wrap64 (128 + t312)) % 256)] (fun k_ => (P0_ k_ ∨ w.heap.size ≤ k_)) (fun _ => False) rfl rfl ?aP (fun _ hk => hk.elim) ?aF ?aO ?aB ?aS ?aL ?_; (case aP => exact rfl); (case aB => exact zb); (case aF => exact (fun k_ hk => (.inr (Nat.le_trans zz31 hk)))); (case aO => exact (zr HO0)); (case aS => exact (below_size zb)); (case aL => have := LMc6.out; omega); intro v314 w9 ho hb hg hat; rw [← Ny313.out] at ho; replace HB := zA hb; replace HK := zA (Kept.of_grown (S := (fun k_ => P0_ k_)) hg zq (fun k_ e_ => (HO0.out.1 k_ e_))); have HO315 := zA ho; clear HO0 ho hb hg hat; obtain ⟨Ao10, co10, eo10⟩ := Kd.R_slice HO315.out; subst eo10) | ((with_reducible refine zg 116 ?_); refine gL (some 21) Try.func116 #[.slice Ao10 y313.length co10, .int .i64 t311, .int .i64 t312, .int .u8 0] ?_; (with_reducible refine (impl_addBytes.calls k (fun k_ => some k_ = (.slice Ao10 y313.length co10 : Value).ownBlock) (.slice Ao10 y313.length co10) y313 t311 t312 0 t316 w0 _ ?z1 ?z2 A7.out).mono ?_); (case z1 => exact zb); (case z2 => exact Kd.R_tight rfl HO315.out); rintro e w11 ⟨v317, rfl, ho0, hb, hkp⟩; refine ⟨_, rfl, ?_⟩; have HO318 := zA (Kd.R_mono (ok' := fun k_ => (P0_ k_ ∨ w.heap.size ≤ k_)) ho0 (fun k_ hk_ => Or.elim hk_ (fun hs_ => (HO315.out.1 k_ (hs_).symm)) (fun hn_ => (.inr (Nat.le_trans zz31 hn_))))); replace HK := zA (Kept.then_ (S := (fun k_ => P0_ k_)) zq hkp (fun k_ hs_ => (fun e_ => (HO315.out.1 k_ e_.symm)) hs_)); replace HB := zA hb; clear HO315 hb hkp ho0))
   go_ret
   exact ⟨_, zw, zr HO318, zb, zq⟩
  ·rw [if_neg c6] at H
   exact absurd H (by simp)
 ·rw [if_neg c4] at H
  have c4b0 : decide (0 ≤ t311) = false := decide_eq_false c4
  clear c4
  replace H := zI H
  obtain ⟨t319, A12, H⟩ := H
  by_cases c13 : l0.length < 140737488355328
  ·rw [if_pos c13] at H
   have LMc13 := zA c13
   clear c13
   obtain ⟨y320, hy320⟩ : ∃ y_ : List Int, y_ = (l0 ++ [(wrap64 (127 - t319)) % 256]) := ⟨_, rfl⟩
   replace H : ((impl_addBytes.f k y320 (wrap64 ((-1) - t311)) t319 255).bind fun t323 => (some t323)) = some r := by first | (rw [hy320]; with_reducible exact H) | (have H2_ := (Option.bind_some _ _).symm.trans H; rw [hy320]; with_reducible exact H2_) | (have H2_ := (Option.bind_some _ _).symm.trans H; with_reducible exact H2_) | with_reducible exact H | (rw [hy320]; exact H) | exact H
   have Ny320 := zA hy320
   clear hy320
   replace H := zI H
   obtain ⟨t323, A14, H⟩ := H
   obtain rfl := Option.some.inj H
   go_enter Try.func98, Try.ntmps98
   go_wp2_with (first | ((with_reducible refine zg 117 ?_); refine gL (some 8) Try.func117 #[.int .i64 a1, .int .i64 (-1000000000000000), .int .i64 1000000000000000] ?_; (with_reducible refine (impl_clamp.calls a1 (-1000000000000000) 1000000000000000 t311 _ A3.out).mono ?_); rintro e w15 ⟨rfl, hb⟩; refine ⟨_, rfl, ?_⟩; replace HO0 := zR HO0 hb; replace HK := zA (Kept.below (S := (fun k_ => P0_ k_)) zq hb); replace HB := zS hb; (try clear hb)) | ((with_reducible refine zg 118 ?_); refine gL (some 24) Try.func118 #[.int .i64 (wrap64 ((-1) - t311))] ?_; (with_reducible refine (impl_bytesOf.calls k (wrap64 ((-1) - t311)) t319 _ A12.out).mono ?_); rintro e w' ⟨rfl, ⟨nd, rfl⟩⟩; refine ⟨_, rfl, ?_⟩) | ((with_reducible refine gate_builtin (b := .append) (xs := #[.tmp 25, .tmp 29]) rfl ?_); at_builtin; refine Kd.R_append (Kd.int .u8) (w0 := w0) w0.heap.size rfl (.tmp 25) (.tmp 29) 22 5 (.int .u8 0) 1 rfl Try.underlying22 info5 rfl (by decide) (by omega) u9000_ l0 ((wrap64 (127 - t319)) % 256) [.int .u8 ((wrap64 (127 - t319)) % 256)] (fun k_ => (P0_ k_ ∨ w.heap.size ≤ k_)) (fun _ => False) rfl rfl ?aP (fun _ hk => hk.elim) ?aF ?aO ?aB ?aS ?aL ?_; (case aP => exact rfl); (case aB => exact zb); (case aF => exact (fun k_ hk => (.inr (Nat.le_trans zz31 hk)))); (case aO => exact (zr HO0)); (case aS => exact (below_size zb)); (case aL => have := LMc13.out; omega); intro v321 w16 ho hb hg hat; rw [← Ny320.out] at ho; replace HB := zA hb; replace HK := zA (Kept.of_grown (S := (fun k_ => P0_ k_)) hg zq (fun k_ e_ => (HO0.out.1 k_ e_))); have HO322 := zA ho; clear HO0 ho hb hg hat; obtain ⟨Ao17, co17, eo17⟩ := Kd.R_slice HO322.out; subst eo17) | ((with_reducible refine zg 116 ?_); refine gL (some 34) Try.func116 #[.slice Ao17 y320.length co17, .int .i64 (wrap64 ((-1) - t311)), .int .i64 t319, .int .u8 255] ?_; (with_reducible refine (impl_addBytes.calls k (fun k_ => some k_ = (.slice Ao17 y320.length co17 : Value).ownBlock) (.slice Ao17 y320.length co17) y320 (wrap64 ((-1) - t311)) t319 255 t323 w0 _ ?z1 ?z2 A14.out).mono ?_); (case z1 => exact zb); (case z2 => exact Kd.R_tight rfl HO322.out); rintro e w18 ⟨v324, rfl, ho0, hb, hkp⟩; refine ⟨_, rfl, ?_⟩; have HO325 := zA (Kd.R_mono (ok' := fun k_ => (P0_ k_ ∨ w.heap.size ≤ k_)) ho0 (fun k_ hk_ => Or.elim hk_ (fun hs_ => (HO322.out.1 k_ (hs_).symm)) (fun hn_ => (.inr (Nat.le_trans zz31 hn_))))); replace HK := zA (Kept.then_ (S := (fun k_ => P0_ k_)) zq hkp (fun k_ hs_ => (fun e_ => (HO322.out.1 k_ e_.symm)) hs_)); replace HB := zA hb; clear HO322 hb hkp ho0))
   go_ret
   exact ⟨_, zw, zr HO325, zb, zq⟩
  ·rw [if_neg c13] at H
   exact absurd H (by simp)

/-! ### impl_addEsc: function 99 -/
def impl_addEsc.l0 : Nat → List Int → ByteArray → Int → Option (List Int)
  | 0, _, _, _ => none
  | k + 1, x0, x1, x5 => if x5 < (x1.size : Int) then (if 0 ≤ x5 then (if x0.length < 140737488355328 then ((some (x0 ++ [bt x1 x5] : List Int)).bind fun y326 => (if (bt x1 x5) = 0 then (if y326.length < 140737488355328 then (impl_addEsc.l0 k (y326 ++ [255]) x1 (wrap64 (x5 + 1))) else (none)) else (impl_addEsc.l0 k y326 x1 (wrap64 (x5 + 1))))) else (none)) else (none)) else ((some (([0, 1] : List Int) : List Int)).bind fun y332 => (if x0.length + y332.length < 140737488355328 then (some (x0 ++ y332)) else (none)))
def impl_addEsc.f (k : Nat) (l0 : List Int) (a1 : ByteArray) : Option (List Int) := impl_addEsc.l0 k l0 a1 0
theorem impl_addEsc.mono_l : ∀ k, (∀ y0 y1 y2, LeO (impl_addEsc.l0 k y0 y1 y2) (impl_addEsc.l0 (k + 1) y0 y1 y2))
  | 0 => fun _ _ _ r h => by simp [impl_addEsc.l0] at h
  | k + 1 => by
    have ih0 := impl_addEsc.mono_l k
    · intro y0 y1 y2
      unfold impl_addEsc.l0
      repeat' first
      | (with_reducible exact ih0 _ _ _)
      | (with_reducible exact LeO.refl _)
      | (with_reducible exact LeO.none _)
      | (with_reducible refine LeO.ite ?_ ?_)
      | (with_reducible refine LeO.bind ?_ (fun _ => ?_))
      | exact ih0 _ _ _
      | exact LeO.none _
      | refine LeO.ite ?_ ?_
      | refine LeO.bind ?_ (fun _ => ?_)
theorem impl_addEsc.mono : ∀ a0 a1 k, LeO (impl_addEsc.f k a0 a1) (impl_addEsc.f (k + 1) a0 a1) := by
  intro a0 a1 k
  have ih0 := impl_addEsc.mono_l k
  unfold impl_addEsc.f
  repeat' first
      | (with_reducible exact ih0 _ _ _)
      | (with_reducible exact LeO.refl _)
      | (with_reducible exact LeO.none _)
      | (with_reducible refine LeO.ite ?_ ?_)
      | (with_reducible refine LeO.bind ?_ (fun _ => ?_))
      | exact ih0 _ _ _
      | exact LeO.none _
      | refine LeO.ite ?_ ?_
      | refine LeO.bind ?_ (fun _ => ?_)
set_option maxHeartbeats 8000000 in
set_option maxRecDepth 100000 in
theorem impl_addEsc.calls (k : Nat) (P0_ : Nat → Prop) (u9000_ : Value) (l0 : List Int) (a1 : ByteArray) (r : List Int) (w0 w : World) (hB : Below w0.heap.size w0 w) (ho0 : Kd.R (Kd.int .u8) 5 w w0.heap.size P0_ u9000_ l0) (h : impl_addEsc.f k l0 a1 = some r) :
  Calls Try.prog 99 #[u9000_, .string a1] w fun e w' => ∃ v0_ : Value, e = .returned (v0_) ∧ Kd.R (Kd.int .u8) 5 w' w0.heap.size (fun k_ => (P0_ k_ ∨ w.heap.size ≤ k_)) v0_ r ∧ Below w0.heap.size w0 w' ∧ Kept w w' (fun k_ => P0_ k_) := by
 have HO0 := zA (show Kd.R (Kd.int .u8) 5 w w0.heap.size (fun k_ => (P0_ k_ ∨ w.heap.size ≤ k_)) u9000_ l0 from Kd.R_mono ho0 (fun k_ hk => (.inl hk)))
 have HK := zA (Kept.refl w (fun k_ => P0_ k_))
 have HW0 := zA hB.size
 have HB := zA hB
 clear hB
 have H : (impl_addEsc.l0 k l0 a1 0) = some r := h
 clear h
 have H' := zA H
 clear H
 go_enter Try.func99, Try.ntmps99
 go_wp2
 go_loopg [0, 5] k (fun kq v0 v5 w' => ∃ (x0_1 : List Int) (x5_1 : Int), v5 = .int .i64 x5_1 ∧ Aside0 (impl_addEsc.l0 kq x0_1 a1 x5_1 = some r) ∧ Aside0 (kq ≤ k) ∧ Aside0 (Kd.R (Kd.int .u8) 5 w' w0.heap.size (fun k_ => (P0_ k_ ∨ w.heap.size ≤ k_)) v0 x0_1) ∧ Aside0 (Kept w w' (fun k_ => P0_ k_)) ∧ Aside0 (Below w0.heap.size w0 w'))
 case atStart => exact ⟨(l0), (0), zx, H', ⟨Nat.le_refl _⟩, ⟨zr HO0⟩, ⟨zq⟩, ⟨zb⟩⟩
 case round =>
  clear H'
  obtain ⟨x0_1, x5_1, rfl, HA, HK1, HO_0, HK, HB⟩ := hrel
  cases gk with
  | zero => exact absurd HA.out (by simp [impl_addEsc.l0])
  | succ k1 =>
   have H := HA.out
   clear HA
   simp only [impl_addEsc.l0] at H
   by_cases c3 : x5_1 < (a1.size : Int)
   ·rw [if_pos c3] at H
    have c3b0 : decide (x5_1 < (a1.size : Int)) = true := decide_eq_true c3
    clear c3
    by_cases c4 : 0 ≤ x5_1
    ·rw [if_pos c4] at H
     have c4b0 : decide (0 ≤ x5_1) = true := decide_eq_true c4
     clear c4
     by_cases c6 : x0_1.length < 140737488355328
     ·rw [if_pos c6] at H
      have LMc6 := zA c6
      clear c6
      obtain ⟨y326, hy326⟩ : ∃ y_ : List Int, y_ = (x0_1 ++ [bt a1 x5_1]) := ⟨_, rfl⟩
      replace H : (if (bt a1 x5_1) = 0 then (if y326.length < 140737488355328 then (impl_addEsc.l0 k1 (y326 ++ [255]) a1 (wrap64 (x5_1 + 1))) else (none)) else (impl_addEsc.l0 k1 y326 a1 (wrap64 (x5_1 + 1)))) = some r := by first | (rw [hy326]; with_reducible exact H) | (have H2_ := (Option.bind_some _ _).symm.trans H; rw [hy326]; with_reducible exact H2_) | (have H2_ := (Option.bind_some _ _).symm.trans H; with_reducible exact H2_) | with_reducible exact H | (rw [hy326]; exact H) | exact H
      have Ny326 := zA hy326
      clear hy326
      by_cases c8 : (bt a1 x5_1) = 0
      ·rw [if_pos c8] at H
       have c8b0 : ((bt a1 x5_1) == 0) = true := beq_iff_eq.mpr c8
       have c8b1 : ((bt a1 x5_1) != 0) = false := bne_eq_false_iff_eq.mpr c8
       clear c8
       by_cases c9 : y326.length < 140737488355328
       ·rw [if_pos c9] at H
        have LMc9 := zA c9
        clear c9
        obtain ⟨y329, hy329⟩ : ∃ y_ : List Int, y_ = (y326 ++ [255]) := ⟨_, rfl⟩
        replace H : (impl_addEsc.l0 k1 y329 a1 (wrap64 (x5_1 + 1))) = some r := by first | (rw [hy329]; with_reducible exact H) | (have H2_ := (Option.bind_some _ _).symm.trans H; rw [hy329]; with_reducible exact H2_) | (have H2_ := (Option.bind_some _ _).symm.trans H; with_reducible exact H2_) | with_reducible exact H | (rw [hy329]; exact H) | exact H
        have Ny329 := zA hy329
        clear hy329
        have H' := zA H
        clear H
        have p5 : 0 ≤ (x5_1 : Int) := of_decide_eq_true za
        have q5 : x5_1 < (a1.size : Int) := of_decide_eq_true za
        have hx5 := bt_at a1 x5_1
        replace p5 := eq_true p5
        replace q5 := eq_true q5
        go_wp2_with (first | ((with_reducible refine gate_builtin (b := .append) (xs := #[.tmp 12, .tmp 16]) rfl ?_); at_builtin; refine Kd.R_append (Kd.int .u8) (w0 := w0) w0.heap.size rfl (.tmp 12) (.tmp 16) 22 5 (.int .u8 0) 1 rfl Try.underlying22 info5 rfl (by decide) (by omega) u0 x0_1 (bt a1 x5_1) [.int .u8 (bt a1 x5_1)] (fun k_ => (P0_ k_ ∨ w.heap.size ≤ k_)) (fun _ => False) rfl rfl ?aP (fun _ hk => hk.elim) ?aF ?aO ?aB ?aS ?aL ?_; (case aP => exact rfl); (case aB => exact zb); (case aF => exact (fun k_ hk => (.inr (Nat.le_trans zz31 hk)))); (case aO => exact (zr HO_0)); (case aS => exact (below_size zb)); (case aL => have := LMc6.out; omega); intro v327 w10 ho hb hg hat; rw [← Ny326.out] at ho; replace HB := zA hb; replace HK := zA (Kept.of_grown (S := (fun k_ => P0_ k_)) hg zq (fun k_ e_ => (HO_0.out.1 k_ e_))); have HO328 := zA ho; clear HO_0 ho hb hg hat; have p7 : 0 ≤ (x5_1 : Int) := of_decide_eq_true za; have q7 : x5_1 < (a1.size : Int) := of_decide_eq_true za; have hx7 := bt_at a1 x5_1; replace p7 := eq_true p7; replace q7 := eq_true q7) | ((with_reducible refine gate_builtin (b := .append) (xs := #[.tmp 22, .tmp 23]) rfl ?_); at_builtin; refine Kd.R_append (Kd.int .u8) (w0 := w0) w0.heap.size rfl (.tmp 22) (.tmp 23) 22 5 (.int .u8 0) 1 rfl Try.underlying22 info5 rfl (by decide) (by omega) v327 y326 255 [.int .u8 255] (fun k_ => (P0_ k_ ∨ w.heap.size ≤ k_)) (fun _ => False) rfl rfl ?aP (fun _ hk => hk.elim) ?aF ?aO ?aB ?aS ?aL ?_; (case aP => exact rfl); (case aB => exact zb); (case aF => exact (fun k_ hk => (.inr (Nat.le_trans zz31 hk)))); (case aO => exact (zr HO328)); (case aS => exact (below_size zb)); (case aL => have := LMc9.out; omega); intro v330 w11 ho hb hg hat; rw [← Ny329.out] at ho; replace HB := zA hb; replace HK := zA (Kept.of_grown (S := (fun k_ => P0_ k_)) hg zq (fun k_ e_ => (HO328.out.1 k_ e_))); have HO331 := zA ho; clear HO328 ho hb hg hat))
        go_roundg k1
        case measure => have := HK1.out; omega
        case rel => exact ⟨(y329), (wrap64 (x5_1 + 1)), zx, H', ⟨zz41⟩, ⟨zr HO331⟩, ⟨zq⟩, ⟨zb⟩⟩
       ·rw [if_neg c9] at H
        exact absurd H (by simp)
      ·rw [if_neg c8] at H
       have c8b0 : ((bt a1 x5_1) == 0) = false := beq_eq_false_iff_ne.mpr c8
       have c8b1 : ((bt a1 x5_1) != 0) = true := bne_iff_ne.mpr c8
       have H' := zA H
       clear H
       have p5 : 0 ≤ (x5_1 : Int) := of_decide_eq_true za
       have q5 : x5_1 < (a1.size : Int) := of_decide_eq_true za
       have hx5 := bt_at a1 x5_1
       replace p5 := eq_true p5
       replace q5 := eq_true q5
       go_wp2_with (first | ((with_reducible refine gate_builtin (b := .append) (xs := #[.tmp 12, .tmp 16]) rfl ?_); at_builtin; refine Kd.R_append (Kd.int .u8) (w0 := w0) w0.heap.size rfl (.tmp 12) (.tmp 16) 22 5 (.int .u8 0) 1 rfl Try.underlying22 info5 rfl (by decide) (by omega) u0 x0_1 (bt a1 x5_1) [.int .u8 (bt a1 x5_1)] (fun k_ => (P0_ k_ ∨ w.heap.size ≤ k_)) (fun _ => False) rfl rfl ?aP (fun _ hk => hk.elim) ?aF ?aO ?aB ?aS ?aL ?_; (case aP => exact rfl); (case aB => exact zb); (case aF => exact (fun k_ hk => (.inr (Nat.le_trans zz31 hk)))); (case aO => exact (zr HO_0)); (case aS => exact (below_size zb)); (case aL => have := LMc6.out; omega); intro v327 w12 ho hb hg hat; rw [← Ny326.out] at ho; replace HB := zA hb; replace HK := zA (Kept.of_grown (S := (fun k_ => P0_ k_)) hg zq (fun k_ e_ => (HO_0.out.1 k_ e_))); have HO328 := zA ho; clear HO_0 ho hb hg hat; have p7 : 0 ≤ (x5_1 : Int) := of_decide_eq_true za; have q7 : x5_1 < (a1.size : Int) := of_decide_eq_true za; have hx7 := bt_at a1 x5_1; replace p7 := eq_true p7; replace q7 := eq_true q7))
       go_roundg k1
       case measure => have := HK1.out; omega
       case rel => exact ⟨(y326), (wrap64 (x5_1 + 1)), zx, H', ⟨zz41⟩, ⟨zr HO328⟩, ⟨zq⟩, ⟨zb⟩⟩
     ·rw [if_neg c6] at H
      exact absurd H (by simp)
    ·rw [if_neg c4] at H
     exact absurd H (by simp)
   ·rw [if_neg c3] at H
    have c3b0 : decide (x5_1 < (a1.size : Int)) = false := decide_eq_false c3
    clear c3
    obtain ⟨y332, hy332⟩ : ∃ y_ : List Int, y_ = (([0, 1] : List Int)) := ⟨_, rfl⟩
    replace H : (if x0_1.length + y332.length < 140737488355328 then (some (x0_1 ++ y332)) else (none)) = some r := by first | (rw [hy332]; with_reducible exact H) | (have H2_ := (Option.bind_some _ _).symm.trans H; rw [hy332]; with_reducible exact H2_) | (have H2_ := (Option.bind_some _ _).symm.trans H; with_reducible exact H2_) | with_reducible exact H | (rw [hy332]; exact H) | exact H
    have Ny332 := zA hy332
    clear hy332
    by_cases c13 : x0_1.length + y332.length < 140737488355328
    ·rw [if_pos c13] at H
     have LMc13 := zA c13
     clear c13
     obtain ⟨y335, hy335⟩ : ∃ y_ : List Int, y_ = (x0_1 ++ y332) := ⟨_, rfl⟩
     replace H : (some y335) = some r := by first | (rw [hy335]; with_reducible exact H) | (have H2_ := (Option.bind_some _ _).symm.trans H; rw [hy335]; with_reducible exact H2_) | (have H2_ := (Option.bind_some _ _).symm.trans H; with_reducible exact H2_) | with_reducible exact H | (rw [hy335]; exact H) | exact H
     have Ny335 := zA hy335
     clear hy335
     obtain rfl := Option.some.inj H
     go_wp2_with (first | ((with_reducible refine zt 26 ?_); refine Kd.R_lit (Kd.int .u8) _ 5 ?hg (N := 26) ?hd (xs := ([0, 1] : List Int)) (inner := [.int .u8 0, .int .u8 1]) (ok := fun _ => True) (okp := fun _ => True) ?hr ?hp (fun _ hk => hk) trivial (Below.refl _ _) (Nat.le_refl _) (by simp) ?_; (case hd => rfl); (case hg => rfl); (case hr => exact zz25); (case hp => exact (Reps.one (show Kd.M (Kd.int .u8) _ _ _ 0 [.int .u8 0] from rfl) (Reps.one (show Kd.M (Kd.int .u8) _ _ _ 1 [.int .u8 1] from rfl) (Reps.none _ _)))); intro v333 w14 ho15 hb hg_ hnew_; clear hg_ hnew_; (first | rw [← Ny332.out] at ho15 | (simp only [Int.reduceToNat] at ho15; rw [← Ny332.out] at ho15)); have HO334 := zL (zN (Kd.R_newM (M := fun k_ => (P0_ k_ ∨ w.heap.size ≤ k_)) ho15 zz31 (fun k_ h_ => .inr h_)) HO_0); replace HO_0 := zE HO_0 ho15 hb; replace HK := zA (Kept.below (S := (fun k_ => P0_ k_)) zq hb); replace HB := zS hb; clear hb ho15; obtain ⟨Ao17, co17, eo17⟩ := Kd.R_slice HO334.out; subst eo17) | ((with_reducible refine gate_builtin (b := .append) (xs := #[.tmp 25, .tmp 26]) rfl ?_); at_builtin; refine Kd.R_append_rows (Kd.int .u8) (w0 := w0) w0.heap.size rfl (.tmp 25) (.tmp 26) 22 5 (.int .u8 0) 1 rfl Try.underlying22 info5 rfl (by decide) (by omega) u0 x0_1 y332 _ _ _ (fun k_ => (P0_ k_ ∨ w.heap.size ≤ k_) ∧ some k_ ≠ (.slice Ao17 y332.length co17 : Value).ownBlock) (fun _ => False) rfl rfl ?aO ?aR (fun _ _ h => h) (fun _ h => h.elim) ?aF ?aB ?aS ?aL ?_; (case aR => exact ze HO334); (case aB => exact zb); (case aF => exact (fun k_ hk => ⟨(.inr (Nat.le_trans zz31 hk)), Kd.fresh' (Kd.R_lt (zr HO334)) k_ hk⟩)); (case aO => exact (zr HO_0)); (case aS => exact (below_size zb)); (case aL => have := LMc13.out; omega); intro v336 w16 ho hb hg hat; rw [← Ny335.out] at ho; replace HO334 := zA (Kd.R_after (ok := (fun k_ => (P0_ k_ ∨ w.heap.size ≤ k_))) (by (with_reducible repeat (first | apply Kd.R_alloc | apply Kd.R_drewN | apply Kd.R_drew)); exact Kd.R_mono HO334.out (fun _ hk => ⟨hk.1.1, hk.2⟩)) hg hat); replace HB := zA hb; replace HK := zA (Kept.of_grown (S := (fun k_ => P0_ k_)) hg zq (fun k_ e_ => (HO_0.out.1 k_ e_).1)); have HO337 := zA ho; clear HO_0 ho hb hg hat))
     go_ret
     exact ⟨_, zw, by (with_reducible repeat (first | apply Kd.R_alloc | apply Kd.R_drewN | apply Kd.R_drew)); exact Kd.R_mono HO337.out (fun _ hk => hk.1), zb, zq⟩
    ·rw [if_neg c13] at H
     exact absurd H (by simp)

end Go.Proofs.Ytnfmpopmigbkoaa.PFnLessKeys

-- Written by mkprint.py, a program of this session (the printer with additions of its own)
import Derived.Test.YtnfmpopmigbkoaaPFnKeysReadx0
import Derived.Test.YtnfmpopmigbkoaaPFnKeysReadx6
import Derived.Test.YtnfmpopmigbkoaaPFnKeysReadx7
import Derived.Test.YtnfmpopmigbkoaaPFnKeysReadx13
namespace Go.Proofs.Ytnfmpopmigbkoaa.PFnKeysRead
open Go.RowKit Go.Proofs.YtnfmpopmigbkoaaW.PrintWords Go.Proofs.YtnfmpopmigbkoaaW.PrintLast Go.Proofs.YtnfmpopmigbkoaaW.PrintMore
attribute [local go_sem] max2_int min2_int max_two min_two max_three min_three max_four min_four   -- for this text's walks alone
set_option linter.unusedVariables false
set_option linter.unusedSimpArgs false

/-! ### spec_l5Value: function 67 -/
def spec_l5Value.f (k : Nat) (l0 : List Int) (a1_0 : Int) (a1_1 : Int) (a1_2 : ByteArray) : Option (List Int) := if a1_0 = 1 then ((spec_PutFix.f l0 a1_1).bind fun t490 => (some t490)) else (if a1_0 = 2 then ((spec_PutVar.f k l0 a1_1).bind fun t493 => (some t493)) else (if a1_0 = 3 then ((spec_PutEsc.f k l0 a1_2).bind fun t496 => (some t496)) else ((some (([] : List Int) : List Int)).bind fun y499 => (if y499.length + l0.length < 140737488355328 then ((some (y499 ++ l0 : List Int)).bind fun y502 => ((some (([(a1_1) % 256] : List Int) : List Int)).bind fun y505 => (if y502.length + y505.length < 140737488355328 then (some (y502 ++ y505)) else (none)))) else (none)))))
def spec_l5Value.T8 : Bool × List (List Nat × List Nat) := (true, [([], []), ([], []), ([0, 1], [0, 1]), ([], []), ([3], [3]), ([4], [4]), ([5], [5]), ([2, 6, 2], [2, 6]), ([7, 7, 0, 1, 2, 3, 4, 5, 6, 7], [7])])
def spec_l5Value.B8 : List Nat := [0, 0, 3, 0, 8, 24, 56, 127, 255]
theorem spec_l5Value.tab8 : rtab .any (opsOf Try.f67 8) = spec_l5Value.T8 := by kernel_rfl
theorem spec_l5Value.bits8 : waitsOk spec_l5Value.T8.2 spec_l5Value.B8 = true := by kernel_rfl
set_option maxHeartbeats 8000000 in
set_option maxRecDepth 100000 in
theorem spec_l5Value.calls (k : Nat) (A0 : Option Addr) (c0 : Nat) (l0 : List Int) (a1_0 : Int) (a1_1 : Int) (a1_2 : ByteArray) (r : List Int) (w : World) (hr0 : Kd.C (Kd.int .u8) w A0 l0.length l0) (hc0 : l0.length ≤ c0) (h : spec_l5Value.f k l0 a1_0 a1_1 a1_2 = some r) :
  Calls Try.prog 67 #[.slice A0 l0.length c0, .agg #[.int .i64 a1_0, .int .i64 a1_1, .string a1_2]] w fun e w' => ∃ v0_ : Value, e = .returned (v0_) ∧ Kd.R (Kd.int .u8) 5 w' w.heap.size (fun _ => True) v0_ r ∧ Below w.heap.size w w' := by
 have hu32 := Try.underlying32
 have HR0 := zA hr0
 have HC0 := zA hc0
 clear hr0 hc0
 have HB := zA (Below.refl w.heap.size w)
 have H : (if a1_0 = 1 then ((spec_PutFix.f l0 a1_1).bind fun t490 => (some t490)) else (if a1_0 = 2 then ((spec_PutVar.f k l0 a1_1).bind fun t493 => (some t493)) else (if a1_0 = 3 then ((spec_PutEsc.f k l0 a1_2).bind fun t496 => (some t496)) else ((some (([] : List Int) : List Int)).bind fun y499 => (if y499.length + l0.length < 140737488355328 then ((some (y499 ++ l0 : List Int)).bind fun y502 => ((some (([(a1_1) % 256] : List Int) : List Int)).bind fun y505 => (if y502.length + y505.length < 140737488355328 then (some (y502 ++ y505)) else (none)))) else (none)))))) = some r := h
 clear h
 by_cases c3 : a1_0 = 1
 ·rw [if_pos c3] at H
  have c3b0 : (a1_0 == 1) = true := beq_iff_eq.mpr c3
  have c3b1 : (a1_0 != 1) = false := bne_eq_false_iff_eq.mpr c3
  clear c3
  replace H := zI H
  obtain ⟨t490, A4, H⟩ := H
  obtain rfl := Option.some.inj H
  go_enter Try.func67, Try.ntmps67
  go_wp2_with (first | ((with_reducible refine zt 3 ?_); refine zn #[.int .i64 a1_0, .int .i64 a1_1, .string a1_2] 32 ?_; intro gb489 hg w5 hbox hb; have BK489 := zA hbox; have GW489 := zG hg; have GE489 := zG hg; replace HB := zS hb; clear hb hbox hg; obtain ⟨hcz6_0, hcz6_1, hcz6_2, hfz6_0, hfz6_1, hfz6_2⟩ := zh3 BK489) | ((with_reducible refine zg 94 ?_); refine gL (some 12) Try.func94 #[.slice A0 l0.length c0, .int .i64 a1_1] ?_; (with_reducible refine (spec_PutFix.calls _ _ l0 a1_1 t490 _ ?z1 ?z2 A4.out).mono ?_); (case z1 => exact zd HR0); (case z2 => exact HC0.out); rintro e w7 ⟨v491, rfl, ho0, hb⟩; refine ⟨_, rfl, ?_⟩; have HO492 := zL ho0 (zb1 GE489); replace BK489 := zB BK489 hb; replace HB := zS hb (zb1 GE489); clear hb ho0))
  go_ret
  exact ⟨_, zw, zr HO492, zb1 GE489⟩
 ·rw [if_neg c3] at H
  have c3b0 : (a1_0 == 1) = false := beq_eq_false_iff_ne.mpr c3
  have c3b1 : (a1_0 != 1) = true := bne_iff_ne.mpr c3
  by_cases c8 : a1_0 = 2
  ·rw [if_pos c8] at H
   have c8b0 : (a1_0 == 2) = true := beq_iff_eq.mpr c8
   have c8b1 : (a1_0 != 2) = false := bne_eq_false_iff_eq.mpr c8
   clear c8
   replace H := zI H
   obtain ⟨t493, A9, H⟩ := H
   obtain rfl := Option.some.inj H
   go_enter Try.func67, Try.ntmps67
   go_wp2_with (first | ((with_reducible refine zt 3 ?_); refine zn #[.int .i64 a1_0, .int .i64 a1_1, .string a1_2] 32 ?_; intro gb489 hg w10 hbox hb; have BK489 := zA hbox; have GW489 := zG hg; have GE489 := zG hg; replace HB := zS hb; clear hb hbox hg; obtain ⟨hcz11_0, hcz11_1, hcz11_2, hfz11_0, hfz11_1, hfz11_2⟩ := zh3 BK489) | ((with_reducible refine zg 95 ?_); refine gL (some 18) Try.func95 #[.slice A0 l0.length c0, .int .i64 a1_1] ?_; (with_reducible refine (spec_PutVar.calls k _ _ l0 a1_1 t493 _ ?z1 ?z2 A9.out).mono ?_); (case z1 => exact zd HR0); (case z2 => exact HC0.out); rintro e w12 ⟨v494, rfl, ho0, hb⟩; refine ⟨_, rfl, ?_⟩; have HO495 := zL ho0 (zb1 GE489); replace BK489 := zB BK489 hb; replace HB := zS hb (zb1 GE489); clear hb ho0))
   go_ret
   exact ⟨_, zw, zr HO495, zb1 GE489⟩
  ·rw [if_neg c8] at H
   have c8b0 : (a1_0 == 2) = false := beq_eq_false_iff_ne.mpr c8
   have c8b1 : (a1_0 != 2) = true := bne_iff_ne.mpr c8
   by_cases c13 : a1_0 = 3
   ·rw [if_pos c13] at H
    have c13b0 : (a1_0 == 3) = true := beq_iff_eq.mpr c13
    have c13b1 : (a1_0 != 3) = false := bne_eq_false_iff_eq.mpr c13
    clear c13
    replace H := zI H
    obtain ⟨t496, A14, H⟩ := H
    obtain rfl := Option.some.inj H
    go_enter Try.func67, Try.ntmps67
    go_wp2_with (first | ((with_reducible refine zt 3 ?_); refine zn #[.int .i64 a1_0, .int .i64 a1_1, .string a1_2] 32 ?_; intro gb489 hg w15 hbox hb; have BK489 := zA hbox; have GW489 := zG hg; have GE489 := zG hg; replace HB := zS hb; clear hb hbox hg; obtain ⟨hcz16_0, hcz16_1, hcz16_2, hfz16_0, hfz16_1, hfz16_2⟩ := zh3 BK489) | ((with_reducible refine zg 96 ?_); refine gL (some 24) Try.func96 #[.slice A0 l0.length c0, .string a1_2] ?_; (with_reducible refine (spec_PutEsc.calls k _ _ l0 a1_2 t496 _ ?z1 ?z2 A14.out).mono ?_); (case z1 => exact zd HR0); (case z2 => exact HC0.out); rintro e w17 ⟨v497, rfl, ho0, hb⟩; refine ⟨_, rfl, ?_⟩; have HO498 := zL ho0 (zb1 GE489); replace BK489 := zB BK489 hb; replace HB := zS hb (zb1 GE489); clear hb ho0))
    go_ret
    exact ⟨_, zw, zr HO498, zb1 GE489⟩
   ·rw [if_neg c13] at H
    have c13b0 : (a1_0 == 3) = false := beq_eq_false_iff_ne.mpr c13
    have c13b1 : (a1_0 != 3) = true := bne_iff_ne.mpr c13
    obtain ⟨y499, hy499⟩ : ∃ y_ : List Int, y_ = (([] : List Int)) := ⟨_, rfl⟩
    replace H : (if y499.length + l0.length < 140737488355328 then ((some (y499 ++ l0 : List Int)).bind fun y502 => ((some (([(a1_1) % 256] : List Int) : List Int)).bind fun y505 => (if y502.length + y505.length < 140737488355328 then (some (y502 ++ y505)) else (none)))) else (none)) = some r := zy hy499
    have Ny499 := zA hy499
    clear hy499
    by_cases c18 : y499.length + l0.length < 140737488355328
    ·rw [if_pos c18] at H
     have LMc18 := zA c18
     clear c18
     obtain ⟨y502, hy502⟩ : ∃ y_ : List Int, y_ = (y499 ++ l0) := ⟨_, rfl⟩
     replace H : ((some (([(a1_1) % 256] : List Int) : List Int)).bind fun y505 => (if y502.length + y505.length < 140737488355328 then (some (y502 ++ y505)) else (none))) = some r := zy hy502
     have Ny502 := zA hy502
     clear hy502
     obtain ⟨y505, hy505⟩ : ∃ y_ : List Int, y_ = (([(a1_1) % 256] : List Int)) := ⟨_, rfl⟩
     replace H : (if y502.length + y505.length < 140737488355328 then (some (y502 ++ y505)) else (none)) = some r := zy hy505
     have Ny505 := zA hy505
     clear hy505
     by_cases c19 : y502.length + y505.length < 140737488355328
     ·rw [if_pos c19] at H
      have LMc19 := zA c19
      clear c19
      obtain ⟨y508, hy508⟩ : ∃ y_ : List Int, y_ = (y502 ++ y505) := ⟨_, rfl⟩
      replace H : (some y508) = some r := zy hy508
      have Ny508 := zA hy508
      clear hy508
      obtain rfl := Option.some.inj H
      go_enter Try.func67, Try.ntmps67
      try go_wp2_with (first | ((with_reducible refine zt 3 ?_); refine zn #[.int .i64 a1_0, .int .i64 a1_1, .string a1_2] 32 ?_; intro gb489 hg w20 hbox hb; have BK489 := zA hbox; have GW489 := zG hg; have GE489 := zG hg; replace HB := zS hb; clear hb hbox hg; obtain ⟨hcz21_0, hcz21_1, hcz21_2, hfz21_0, hfz21_1, hfz21_2⟩ := zh3 BK489))
      have n0_ := zA (blk_drew BK489.out)
      have n1_ := zA (below_drew1 HB.out)
      clear BK489 HB
      have BK489 := n0_; have HB := n1_
      clear n0_ n1_
      refine start_ (n := 9) (S := fun w' => w'.cell? ⟨gb489, 0, none⟩ = some (.int .i64 a1_0) ∧ w'.cell? ⟨gb489, 1, none⟩ = some (.int .i64 a1_1) ∧ w'.cell? ⟨gb489, 2, none⟩ = some (.string a1_2)) (ds := []) #[false, false, false, false, false, false, false, false, false] (by kernel_rfl) rfl rfl ⟨(blk_cell BK489.out 0).trans rfl, (blk_cell BK489.out 1).trans rfl, (blk_cell BK489.out 2).trans rfl⟩ (fun hHeld => ?_); refine with_tabW spec_l5Value.tab8 spec_l5Value.bits8 (fun HT_ HW_ => ?_)
      generalize w20.drew = w22 at BK489 HB hHeld ⊢
      refine pure_ (i := 1) (N := some 26) (v := ?_) (a' := ?_) #[false, true, false, false, false, false, false, false, false] rfl rfl (any_of HT_.out (by kernel_rfl)) (fun _ _ _ h => h) (Or.inl ⟨by rfl, ?_⟩) ?_ ?_; rotate_left
      ·intro w'; go_simp; with_reducible rfl
      rotate_left
      ·simp only [Act.put, List.setIfInBounds_toArray, List.set_cons_zero, List.set_cons_succ, i64_w, i32_w]; rfl
      refine pure_ (i := 3) (N := some 28) (v := ?_) (a' := ?_) #[false, true, false, true, false, false, false, false, false] rfl rfl (any_of HT_.out (by kernel_rfl)) (fun _ _ _ h => h) (Or.inl ⟨by rfl, ?_⟩) ?_ ?_; rotate_left
      ·intro w'; go_simp; with_reducible rfl
      rotate_left
      ·simp only [Act.put, List.setIfInBounds_toArray, List.set_cons_zero, List.set_cons_succ, i64_w, i32_w]; rfl
      refine take_ (i := 4) (N := some 29) (v := ?_) (a' := ?_) #[false, true, false, true, true, false, false, false, false] rfl rfl (take_ofW HT_.out HW_.out (by kernel_rfl)) (fun _ _ _ h => h) (Or.inl ⟨by rfl, ?_⟩) hHeld ?_ ?_; rotate_left
      ·rintro w' ⟨s0, s1, s2⟩
       go_simp
       with_reducible rfl
      rotate_left
      ·simp only [Act.put, List.setIfInBounds_toArray, List.set_cons_zero, List.set_cons_succ, i64_w, i32_w]; rfl
      refine pure_ (i := 5) (N := some 30) (v := ?_) (a' := ?_) #[false, true, false, true, true, true, false, false, false] rfl rfl (any_of HT_.out (by kernel_rfl)) (fun _ _ _ h => h) (Or.inl ⟨by rfl, ?_⟩) ?_ ?_; rotate_left
      ·intro w'; go_simp; with_reducible rfl
      rotate_left
      ·simp only [Act.put, List.setIfInBounds_toArray, List.set_cons_zero, List.set_cons_succ, i64_w, i32_w]; rfl
      refine join_ (σ := Value × Value × Value) 2 #[true, true, true, true, true, true, true, false, false] (fun s_ => [(25, s_.1), (27, s_.2.1), (31, s_.2.2)]) (fun s_ w' => (w'.cell? ⟨gb489, 0, none⟩ = some (.int .i64 a1_0) ∧ w'.cell? ⟨gb489, 1, none⟩ = some (.int .i64 a1_1) ∧ w'.cell? ⟨gb489, 2, none⟩ = some (.string a1_2)) ∧ (Kd.R (Kd.int .u8) 5 w' w.heap.size (fun k_ => some k_ ≠ (s_.2.2 : Value).ownBlock) s_.2.1 y502) ∧ (Kd.R (Kd.int .u8) 5 w' w.heap.size (fun k_ => some k_ ≠ (s_.2.1 : Value).ownBlock) s_.2.2 y505) ∧ (w'.heap[gb489]? = some (.cells #[.int .i64 a1_0, .int .i64 a1_1, .string a1_2] 32 (0, 0))) ∧ (Below w.heap.size w w')) ?_ ?_
      rotate_left
      ·intro hCont
       refine two_ (i := 0) (j := 6) (Ni := some 25) (Nj := some 31) #[true, true, false, true, true, true, false, false, false] #[false, true, false, true, true, true, true, false, false] rfl rfl rfl rfl (two_of HT_.out (by kernel_rfl)) (by decide) (by decide) (fun K hK => ?_) (fun K hK => ?_)
       ·skip
        refine Kd.R_lit_step (Kd.int .u8) _ 5 ?hg (N := 25) ?hd (xs := ([] : List Int)) (inner := []) (ok := fun _ => True) (okp := fun _ => True) ?hr ?hp (fun _ hk => hk) trivial (Below.refl _ _) (Nat.le_refl _) (by simp) ?_; (case hd => rfl); (case hg => rfl); (case hr => exact zz16); (case hp => exact (Reps.none _ _))
        intro v500 w23 ho24 hb hg_ hnew_
        clear hg_ hnew_
        (first | rw [← Ny499.out] at ho24 | (simp only [Int.reduceToNat] at ho24; rw [← Ny499.out] at ho24))
        have n0_ := zL ho24 (zb1 GE489)
        have n1_ := zB BK489 hb
        have n2_ := zS hb (zb1 GE489)
        clear BK489 HB
        have HO501 := n0_; have BK489 := n1_; have HB := n2_
        clear n0_ n1_ n2_ hb ho24
        refine hK.out _ _ ⟨(blk_cell BK489.out 0).trans rfl, (blk_cell BK489.out 1).trans rfl, (blk_cell BK489.out 2).trans rfl⟩ (fun hHeld => ?_)
        clear hK K
        refine norm_ (a' := ?_) ?_ ?_; rotate_left
        ·show Act.put _ (some 25) _ = _
         simp only [Act.put, List.setIfInBounds_toArray, List.set_cons_zero, List.set_cons_succ, i64_w, i32_w]
         rfl
        refine two_ (i := 2) (j := 6) (Ni := some 27) (Nj := some 31) #[true, true, true, true, true, true, false, false, false] #[true, true, false, true, true, true, true, false, false] rfl rfl rfl rfl (two_of HT_.out (by kernel_rfl)) (by decide) (by decide) (fun K hK => ?_) (fun K hK => ?_)
        ·skip
         refine Kd.R_append_rows_step (Kd.int .u8) (w0 := w) w.heap.size (by rfl) (.tmp 25) (.tmp 26) 22 5 (.int .u8 0) 1 rfl Try.underlying22 info5 rfl (by decide) (by omega) v500 y499 l0 _ _ _ (fun _ => True) (fun _ => False) rfl rfl ?aO ?aR (fun _ _ h => h) (fun _ h => h.elim) ?aF ?aB ?aS ?aL ?_
         (case aR => exact zd HR0)
         (case aB => exact (zb1 GE489))
         (case aF => exact (fun _ _ => trivial))
         (case aO => exact (zr HO501))
         (case aS => exact (below_size (zb1 GE489)))
         (case aL => have := LMc18.out; omega)
         intro v503 w25 ho hb hg hat
         rw [← Ny502.out] at ho
         have n0_ := zA (blk_grown (g := gb489) (o := .cells #[.int .i64 a1_0, .int .i64 a1_1, .string a1_2] 32 (0, 0)) (zk BK489) hg (Kd.R_ne HO501.out BK489.out (by decide)))
         have n1_ := zA hb
         have n2_ := zA ho
         clear BK489 HB HO501
         have BK489 := n0_; have HB := n1_; have HO504 := n2_
         clear n0_ n1_ n2_ ho hb hg hat
         refine hK.out _ _ ⟨(blk_cell BK489.out 0).trans rfl, (blk_cell BK489.out 1).trans rfl, (blk_cell BK489.out 2).trans rfl⟩ (fun hHeld => ?_)
         clear hK K
         refine norm_ (a' := ?_) ?_ ?_; rotate_left
         ·show Act.put _ (some 27) _ = _
          simp only [Act.put, List.setIfInBounds_toArray, List.set_cons_zero, List.set_cons_succ, i64_w, i32_w]
          rfl
         refine one_ (i := 6) (N := some 31) #[true, true, true, true, true, true, true, false, false] rfl rfl (one_of HT_.out (by kernel_rfl)) (by decide) (fun K hK => ?_)
         refine Kd.R_lit_step (Kd.int .u8) _ 5 ?hg (N := 31) ?hd (xs := ([(a1_1) % 256] : List Int)) (inner := [.int .u8 ((a1_1) % 256)]) (ok := fun _ => True) (okp := fun _ => True) ?hr ?hp (fun _ hk => hk) trivial (Below.refl _ _) (Nat.le_refl _) (by simp) ?_; (case hd => rfl); (case hg => rfl); (case hr => exact zz16); (case hp => exact (Reps.one (show Kd.M (Kd.int .u8) _ _ _ ((a1_1) % 256) [.int .u8 ((a1_1) % 256)] from rfl) (Reps.none _ _)))
         intro v506 w26 ho27 hb hg_ hnew_
         clear hg_ hnew_
         (first | rw [← Ny505.out] at ho27 | (simp only [Int.reduceToNat] at ho27; rw [← Ny505.out] at ho27))
         have n0_ := zE HO504 ho27 hb
         have n1_ := zL (zN ho27 HO504) (zb1 GE489)
         have n2_ := zB BK489 hb
         have n3_ := zS hb (zb1 GE489)
         clear HO504 BK489 HB
         have HO504 := n0_; have HO507 := n1_; have BK489 := n2_; have HB := n3_
         clear n0_ n1_ n2_ n3_ hb ho27
         refine hK.out _ _ ⟨(blk_cell BK489.out 0).trans rfl, (blk_cell BK489.out 1).trans rfl, (blk_cell BK489.out 2).trans rfl⟩ (fun hHeld => ?_)
         clear hK K
         refine norm_ (a' := ?_) ?_ ?_; rotate_left
         ·show Act.put _ (some 31) _ = _
          simp only [Act.put, List.setIfInBounds_toArray, List.set_cons_zero, List.set_cons_succ, i64_w, i32_w]
          rfl
         exact norm_ zz87 (hCont (v500, v503, v506) _ ⟨hHeld, (by (with_reducible repeat (first | apply Kd.R_alloc | apply Kd.R_drewN | apply Kd.R_drew)); exact Kd.R_mono HO504.out (fun _ hk => hk.2)), zz82, (zk BK489), (zb1 GE489)⟩)
        ·skip
         refine Kd.R_lit_step (Kd.int .u8) _ 5 ?hg (N := 31) ?hd (xs := ([(a1_1) % 256] : List Int)) (inner := [.int .u8 ((a1_1) % 256)]) (ok := fun _ => True) (okp := fun _ => True) ?hr ?hp (fun _ hk => hk) trivial (Below.refl _ _) (Nat.le_refl _) (by simp) ?_; (case hd => rfl); (case hg => rfl); (case hr => exact zz16); (case hp => exact (Reps.one (show Kd.M (Kd.int .u8) _ _ _ ((a1_1) % 256) [.int .u8 ((a1_1) % 256)] from rfl) (Reps.none _ _)))
         intro v506 w25 ho26 hb hg_ hnew_
         clear hg_ hnew_
         (first | rw [← Ny505.out] at ho26 | (simp only [Int.reduceToNat] at ho26; rw [← Ny505.out] at ho26))
         have n0_ := zE HO501 ho26 hb
         have n1_ := zL (zN ho26 HO501) (zb1 GE489)
         have n2_ := zB BK489 hb
         have n3_ := zS hb (zb1 GE489)
         clear HO501 BK489 HB
         have HO501 := n0_; have HO507 := n1_; have BK489 := n2_; have HB := n3_
         clear n0_ n1_ n2_ n3_ hb ho26
         refine hK.out _ _ ⟨(blk_cell BK489.out 0).trans rfl, (blk_cell BK489.out 1).trans rfl, (blk_cell BK489.out 2).trans rfl⟩ (fun hHeld => ?_)
         clear hK K
         refine norm_ (a' := ?_) ?_ ?_; rotate_left
         ·show Act.put _ (some 31) _ = _
          simp only [Act.put, List.setIfInBounds_toArray, List.set_cons_zero, List.set_cons_succ, i64_w, i32_w]
          rfl
         refine one_ (i := 2) (N := some 27) #[true, true, true, true, true, true, true, false, false] rfl rfl (one_of HT_.out (by kernel_rfl)) (by decide) (fun K hK => ?_)
         refine Kd.R_append_rows_step (Kd.int .u8) (w0 := w) w.heap.size (by rfl) (.tmp 25) (.tmp 26) 22 5 (.int .u8 0) 1 rfl Try.underlying22 info5 rfl (by decide) (by omega) v500 y499 l0 _ _ _ (fun k_ => some k_ ≠ (v506 : Value).ownBlock) (fun _ => False) rfl rfl ?aO ?aR (fun _ _ h => h) (fun _ h => h.elim) ?aF ?aB ?aS ?aL ?_
         (case aR => exact zd HR0)
         (case aB => exact (zb1 GE489))
         (case aF => exact (fun k_ hk => Kd.fresh' (Kd.R_lt (zr HO507)) k_ hk))
         (case aO => exact zz89)
         (case aS => exact (below_size (zb1 GE489)))
         (case aL => have := LMc18.out; omega)
         intro v503 w27 ho hb hg hat
         rw [← Ny502.out] at ho
         have n0_ := zA (blk_grown (g := gb489) (o := .cells #[.int .i64 a1_0, .int .i64 a1_1, .string a1_2] 32 (0, 0)) (zk BK489) hg (Kd.R_ne HO501.out BK489.out (by decide)))
         have n1_ := zA (Kd.R_after (ok := (fun _ => True)) (zr HO507) hg hat)
         have n2_ := zA hb
         have n3_ := zA ho
         clear BK489 HO507 HB HO501
         have BK489 := n0_; have HO507 := n1_; have HB := n2_; have HO504 := n3_
         clear n0_ n1_ n2_ n3_ ho hb hg hat
         refine hK.out _ _ ⟨(blk_cell BK489.out 0).trans rfl, (blk_cell BK489.out 1).trans rfl, (blk_cell BK489.out 2).trans rfl⟩ (fun hHeld => ?_)
         clear hK K
         refine norm_ (a' := ?_) ?_ ?_; rotate_left
         ·show Act.put _ (some 27) _ = _
          simp only [Act.put, List.setIfInBounds_toArray, List.set_cons_zero, List.set_cons_succ, i64_w, i32_w]
          rfl
         exact norm_ zz87 (hCont (v500, v503, v506) _ ⟨hHeld, (zr HO504), zz82, (zk BK489), (zb1 GE489)⟩)
       ·skip
        refine Kd.R_lit_step (Kd.int .u8) _ 5 ?hg (N := 31) ?hd (xs := ([(a1_1) % 256] : List Int)) (inner := [.int .u8 ((a1_1) % 256)]) (ok := fun _ => True) (okp := fun _ => True) ?hr ?hp (fun _ hk => hk) trivial (Below.refl _ _) (Nat.le_refl _) (by simp) ?_; (case hd => rfl); (case hg => rfl); (case hr => exact zz16); (case hp => exact (Reps.one (show Kd.M (Kd.int .u8) _ _ _ ((a1_1) % 256) [.int .u8 ((a1_1) % 256)] from rfl) (Reps.none _ _)))
        intro v506 w23 ho24 hb hg_ hnew_
        clear hg_ hnew_
        (first | rw [← Ny505.out] at ho24 | (simp only [Int.reduceToNat] at ho24; rw [← Ny505.out] at ho24))
        have n0_ := zL ho24 (zb1 GE489)
        have n1_ := zB BK489 hb
        have n2_ := zS hb (zb1 GE489)
        clear BK489 HB
        have HO507 := n0_; have BK489 := n1_; have HB := n2_
        clear n0_ n1_ n2_ hb ho24
        refine hK.out _ _ ⟨(blk_cell BK489.out 0).trans rfl, (blk_cell BK489.out 1).trans rfl, (blk_cell BK489.out 2).trans rfl⟩ (fun hHeld => ?_)
        clear hK K
        refine norm_ (a' := ?_) ?_ ?_; rotate_left
        ·show Act.put _ (some 31) _ = _
         simp only [Act.put, List.setIfInBounds_toArray, List.set_cons_zero, List.set_cons_succ, i64_w, i32_w]
         rfl
        refine one_ (i := 0) (N := some 25) #[true, true, false, true, true, true, true, false, false] rfl rfl (one_of HT_.out (by kernel_rfl)) (by decide) (fun K hK => ?_)
        refine Kd.R_lit_step (Kd.int .u8) _ 5 ?hg (N := 25) ?hd (xs := ([] : List Int)) (inner := []) (ok := fun _ => True) (okp := fun _ => True) ?hr ?hp (fun _ hk => hk) trivial (Below.refl _ _) (Nat.le_refl _) (by simp) ?_; (case hd => rfl); (case hg => rfl); (case hr => exact zz16); (case hp => exact (Reps.none _ _))
        intro v500 w25 ho26 hb hg_ hnew_
        clear hg_ hnew_
        (first | rw [← Ny499.out] at ho26 | (simp only [Int.reduceToNat] at ho26; rw [← Ny499.out] at ho26))
        have n0_ := zE HO507 ho26 hb
        have n1_ := zL (zN ho26 HO507) (zb1 GE489)
        have n2_ := zB BK489 hb
        have n3_ := zS hb (zb1 GE489)
        clear HO507 BK489 HB
        have HO507 := n0_; have HO501 := n1_; have BK489 := n2_; have HB := n3_
        clear n0_ n1_ n2_ n3_ hb ho26
        refine hK.out _ _ ⟨(blk_cell BK489.out 0).trans rfl, (blk_cell BK489.out 1).trans rfl, (blk_cell BK489.out 2).trans rfl⟩ (fun hHeld => ?_)
        clear hK K
        refine norm_ (a' := ?_) ?_ ?_; rotate_left
        ·show Act.put _ (some 25) _ = _
         simp only [Act.put, List.setIfInBounds_toArray, List.set_cons_zero, List.set_cons_succ, i64_w, i32_w]
         rfl
        refine one_ (i := 2) (N := some 27) #[true, true, true, true, true, true, true, false, false] rfl rfl (one_of HT_.out (by kernel_rfl)) (by decide) (fun K hK => ?_)
        refine Kd.R_append_rows_step (Kd.int .u8) (w0 := w) w.heap.size (by rfl) (.tmp 25) (.tmp 26) 22 5 (.int .u8 0) 1 rfl Try.underlying22 info5 rfl (by decide) (by omega) v500 y499 l0 _ _ _ (fun k_ => some k_ ≠ (v506 : Value).ownBlock) (fun _ => False) rfl rfl ?aO ?aR (fun _ _ h => h) (fun _ h => h.elim) ?aF ?aB ?aS ?aL ?_
        (case aR => exact zd HR0)
        (case aB => exact (zb1 GE489))
        (case aF => exact (fun k_ hk => Kd.fresh' (Kd.R_lt (zr HO507)) k_ hk))
        (case aO => exact zz89)
        (case aS => exact (below_size (zb1 GE489)))
        (case aL => have := LMc18.out; omega)
        intro v503 w27 ho hb hg hat
        rw [← Ny502.out] at ho
        have n0_ := zA (blk_grown (g := gb489) (o := .cells #[.int .i64 a1_0, .int .i64 a1_1, .string a1_2] 32 (0, 0)) (zk BK489) hg (Kd.R_ne HO501.out BK489.out (by decide)))
        have n1_ := zA (Kd.R_after (ok := (fun _ => True)) (zr HO507) hg hat)
        have n2_ := zA hb
        have n3_ := zA ho
        clear BK489 HO507 HB HO501
        have BK489 := n0_; have HO507 := n1_; have HB := n2_; have HO504 := n3_
        clear n0_ n1_ n2_ n3_ ho hb hg hat
        refine hK.out _ _ ⟨(blk_cell BK489.out 0).trans rfl, (blk_cell BK489.out 1).trans rfl, (blk_cell BK489.out 2).trans rfl⟩ (fun hHeld => ?_)
        clear hK K
        refine norm_ (a' := ?_) ?_ ?_; rotate_left
        ·show Act.put _ (some 27) _ = _
         simp only [Act.put, List.setIfInBounds_toArray, List.set_cons_zero, List.set_cons_succ, i64_w, i32_w]
         rfl
        exact norm_ zz87 (hCont (v500, v503, v506) _ ⟨hHeld, (zr HO504), zz82, (zk BK489), (zb1 GE489)⟩)
      rintro ⟨v500, v503, v506⟩ w28 ⟨hS_, h0_, h1_, h2_, h3_⟩
      have n0_ : Aside0 (Kd.R (Kd.int .u8) 5 w28 w.heap.size (fun k_ => some k_ ≠ (v506 : Value).ownBlock) v503 y502) := ⟨h0_⟩
      have n1_ : Aside0 (Kd.R (Kd.int .u8) 5 w28 w.heap.size (fun k_ => some k_ ≠ (v503 : Value).ownBlock) v506 y505) := ⟨h1_⟩
      have n2_ : Aside0 (w28.heap[gb489]? = some (.cells #[.int .i64 a1_0, .int .i64 a1_1, .string a1_2] 32 (0, 0))) := ⟨h2_⟩
      have n3_ : Aside0 (Below w.heap.size w w28) := ⟨h3_⟩
      clear BK489 HB h0_ h1_ h2_ h3_
      have HO504 := n0_; have HO507 := n1_; have BK489 := n2_; have HB := n3_
      clear n0_ n1_ n2_ n3_
      have hHeld : w28.cell? ⟨gb489, 0, none⟩ = some (.int .i64 a1_0) ∧ w28.cell? ⟨gb489, 1, none⟩ = some (.int .i64 a1_1) ∧ w28.cell? ⟨gb489, 2, none⟩ = some (.string a1_2) := hS_
      obtain ⟨Ao30, co30, eo30⟩ := Kd.R_slice HO507.out
      (first | subst eo30 | (injection eo30 with f1_ f2_ f3_; have f4_ := f1_.symm; have f5_ := f3_.symm; clear f1_ f2_ f3_; subst f4_; subst f5_))
      refine norm_ (a' := ?_) ?_ ?_; rotate_left
      ·simp only [putAll, Act.put, List.setIfInBounds_toArray, List.set_cons_zero, List.set_cons_succ]
       rfl
      refine one_ (i := 7) (N := some 32) #[true, true, true, true, true, true, true, true, false] rfl rfl (one_of HT_.out (by kernel_rfl)) (by decide) (fun K hK => ?_)
      refine Kd.R_append_rows_step (Kd.int .u8) (w0 := w) w.heap.size (by rfl) (.tmp 27) (.tmp 31) 22 5 (.int .u8 0) 1 rfl Try.underlying22 info5 rfl (by decide) (by omega) v503 y502 y505 _ _ _ (fun k_ => some k_ ≠ (.slice Ao30 y505.length co30 : Value).ownBlock) (fun _ => False) rfl rfl ?aO ?aR (fun _ _ h => h) (fun _ h => h.elim) ?aF ?aB ?aS ?aL ?_
      (case aR => exact ze HO507)
      (case aB => exact (zb1 GE489))
      (case aF => exact (fun k_ hk => Kd.fresh' (Kd.R_lt (zr HO507)) k_ hk))
      (case aO => exact (zr HO504))
      (case aS => exact (below_size (zb1 GE489)))
      (case aL => have := LMc19.out; omega)
      intro v509 w29 ho hb hg hat
      rw [← Ny508.out] at ho
      have n0_ := zA (blk_grown (g := gb489) (o := .cells #[.int .i64 a1_0, .int .i64 a1_1, .string a1_2] 32 (0, 0)) (zk BK489) hg (Kd.R_ne HO504.out BK489.out (by decide)))
      have n1_ := zA (Kd.R_after (ok := (fun _ => True)) (by (with_reducible repeat (first | apply Kd.R_alloc | apply Kd.R_drewN | apply Kd.R_drew)); exact Kd.R_mono HO507.out (fun _ hk => ⟨trivial, hk⟩)) hg hat)
      have n2_ := zA hb
      have n3_ := zA ho
      clear BK489 HO507 HB HO504
      have BK489 := n0_; have HO507 := n1_; have HB := n2_; have HO510 := n3_
      clear n0_ n1_ n2_ n3_ ho hb hg hat
      refine hK.out _ _ ⟨(blk_cell BK489.out 0).trans rfl, (blk_cell BK489.out 1).trans rfl, (blk_cell BK489.out 2).trans rfl⟩ (fun hHeld => ?_)
      clear hK K
      refine norm_ (a' := ?_) ?_ ?_; rotate_left
      ·show Act.put _ (some 32) _ = _
       simp only [Act.put, List.setIfInBounds_toArray, List.set_cons_zero, List.set_cons_succ, i64_w, i32_w]
       rfl
      refine pure_ (i := 8) (N := some 4) (v := ?_) (a' := ?_) #[true, true, true, true, true, true, true, true, true] rfl rfl (any_of HT_.out (by kernel_rfl)) (fun _ _ _ h => h) (Or.inl ⟨by rfl, ?_⟩) ?_ ?_; rotate_left
      ·intro w'; go_simp; with_reducible rfl
      rotate_left
      ·simp only [Act.put, List.setIfInBounds_toArray, List.set_cons_zero, List.set_cons_succ, i64_w, i32_w]; rfl
      refine done_ (done_of HT_.out (by kernel_rfl)) ?_
      try go_wp2
      go_ret
      exact ⟨_, zw, by (with_reducible repeat (first | apply Kd.R_alloc | apply Kd.R_drewN | apply Kd.R_drew)); exact Kd.R_mono HO510.out (fun _ hk => trivial), zb1 GE489⟩
     ·rw [if_neg c19] at H
      exact absurd H (by simp)
    ·rw [if_neg c18] at H
     exact absurd H (by simp)

/-! ### spec_PutPart: function 14 -/
mutual
def spec_PutPart.j0 : Nat → List Int → List Int → Bool → Int → Int → Bool → Bool → Int → Int → ByteArray → Option (List Int)
  | 0, _, _, _, _, _, _, _, _, _, _ => none
  | k + 1, x0, x7, x19, x512000, x512001, x512002, x512003, x513000, x513001, x513002 => if x19 = true then (some x7) else (if x513000 = 0 then (if x7.length < 140737488355328 then ((some (x7 ++ [0] : List Int)).bind fun y521 => (if x512003 = true then ((spec_Flip.f k y521 (x0.length : Int)).bind fun t524 => (some t524)) else (some y521))) else (none)) else (if x512002 = true then (if x7.length < 140737488355328 then (spec_PutPart.j1 k x0 (x7 ++ [1]) x512000 x512001 x512002 x512003 x513000 x513001 x513002) else (none)) else (spec_PutPart.j1 k x0 x7 x512000 x512001 x512002 x512003 x513000 x513001 x513002)))
def spec_PutPart.j1 : Nat → List Int → List Int → Int → Int → Bool → Bool → Int → Int → ByteArray → Option (List Int)
  | 0, _, _, _, _, _, _, _, _, _ => none
  | k + 1, x0, x7, x512000, x512001, x512002, x512003, x513000, x513001, x513002 => (spec_l5Value.f k x7 x513000 x513001 x513002).bind fun t530 => (if x512003 = true then ((spec_Flip.f k t530 (x0.length : Int)).bind fun t533 => (some t533)) else (some t530))
end
def spec_PutPart.f (k : Nat) (l0 : List Int) (a1_0 : Int) (a1_1 : Int) (a1_2 : Bool) (a1_3 : Bool) (a2_0 : Int) (a2_1 : Int) (a2_2 : ByteArray) : Option (List Int) := (some (([] : List Int) : List Int)).bind fun y513 => (if y513.length + l0.length < 140737488355328 then ((some (y513 ++ l0 : List Int)).bind fun y516 => ((spec_PartOk.f a1_0 a1_1 a1_2 a1_3).bind fun t519 => (if t519 = true then ((spec_Fits.f a1_0 a1_1 a1_2 a1_3 a2_0 a2_1 a2_2).bind fun t520 => (spec_PutPart.j0 k l0 y516 (!t520) a1_0 a1_1 a1_2 a1_3 a2_0 a2_1 a2_2)) else (spec_PutPart.j0 k l0 y516 true a1_0 a1_1 a1_2 a1_3 a2_0 a2_1 a2_2)))) else (none))
set_option maxHeartbeats 8000000 in
set_option maxRecDepth 100000 in
theorem spec_PutPart.calls (k : Nat) (A0 : Option Addr) (c0 : Nat) (l0 : List Int) (a1_0 : Int) (a1_1 : Int) (a1_2 : Bool) (a1_3 : Bool) (a2_0 : Int) (a2_1 : Int) (a2_2 : ByteArray) (r : List Int) (w : World) (hr0 : Kd.C (Kd.int .u8) w A0 l0.length l0) (hc0 : l0.length ≤ c0) (h : spec_PutPart.f k l0 a1_0 a1_1 a1_2 a1_3 a2_0 a2_1 a2_2 = some r) :
  Calls Try.prog 14 #[.slice A0 l0.length c0, .agg #[.int .i64 a1_0, .int .i64 a1_1, .bool a1_2, .bool a1_3], .agg #[.int .i64 a2_0, .int .i64 a2_1, .string a2_2]] w fun e w' => ∃ v0_ : Value, e = .returned (v0_) ∧ Kd.R (Kd.int .u8) 5 w' w.heap.size (fun _ => True) v0_ r ∧ Below w.heap.size w w' := by
 have hu30 := Try.underlying30
 have hu32 := Try.underlying32
 have HR0 := zA hr0
 have HC0 := zA hc0
 clear hr0 hc0
 have HB := zA (Below.refl w.heap.size w)
 have H : ((some (([] : List Int) : List Int)).bind fun y513 => (if y513.length + l0.length < 140737488355328 then ((some (y513 ++ l0 : List Int)).bind fun y516 => ((spec_PartOk.f a1_0 a1_1 a1_2 a1_3).bind fun t519 => (if t519 = true then ((spec_Fits.f a1_0 a1_1 a1_2 a1_3 a2_0 a2_1 a2_2).bind fun t520 => (spec_PutPart.j0 k l0 y516 (!t520) a1_0 a1_1 a1_2 a1_3 a2_0 a2_1 a2_2)) else (spec_PutPart.j0 k l0 y516 true a1_0 a1_1 a1_2 a1_3 a2_0 a2_1 a2_2)))) else (none))) = some r := h
 clear h
 obtain ⟨y513, hy513⟩ : ∃ y_ : List Int, y_ = (([] : List Int)) := ⟨_, rfl⟩
 replace H : (if y513.length + l0.length < 140737488355328 then ((some (y513 ++ l0 : List Int)).bind fun y516 => ((spec_PartOk.f a1_0 a1_1 a1_2 a1_3).bind fun t519 => (if t519 = true then ((spec_Fits.f a1_0 a1_1 a1_2 a1_3 a2_0 a2_1 a2_2).bind fun t520 => (spec_PutPart.j0 k l0 y516 (!t520) a1_0 a1_1 a1_2 a1_3 a2_0 a2_1 a2_2)) else (spec_PutPart.j0 k l0 y516 true a1_0 a1_1 a1_2 a1_3 a2_0 a2_1 a2_2)))) else (none)) = some r := zy hy513
 have Ny513 := zA hy513
 clear hy513
 by_cases c4 : y513.length + l0.length < 140737488355328
 ·rw [if_pos c4] at H
  have LMc4 := zA c4
  clear c4
  obtain ⟨y516, hy516⟩ : ∃ y_ : List Int, y_ = (y513 ++ l0) := ⟨_, rfl⟩
  replace H : ((spec_PartOk.f a1_0 a1_1 a1_2 a1_3).bind fun t519 => (if t519 = true then ((spec_Fits.f a1_0 a1_1 a1_2 a1_3 a2_0 a2_1 a2_2).bind fun t520 => (spec_PutPart.j0 k l0 y516 (!t520) a1_0 a1_1 a1_2 a1_3 a2_0 a2_1 a2_2)) else (spec_PutPart.j0 k l0 y516 true a1_0 a1_1 a1_2 a1_3 a2_0 a2_1 a2_2))) = some r := zy hy516
  have Ny516 := zA hy516
  clear hy516
  have HC5 := zA H
  clear H
  go_enter Try.func14, Try.ntmps14
  go_upto_region 2 with (first | ((with_reducible refine zt 4 ?_); refine zn #[.int .i64 a1_0, .int .i64 a1_1, .bool a1_2, .bool a1_3] 30 ?_; intro gb511 hg w6 hbox hb; have BK511 := zA hbox; have GW511 := zG hg; have GE511 := zG hg; replace HB := zS hb; clear hb hbox hg) | ((with_reducible refine zt 5 ?_); refine zn #[.int .i64 a2_0, .int .i64 a2_1, .string a2_2] 32 ?_; intro gb512 hg w7 hbox hb; have BK512 := zA hbox; have GW512 := zG hg (zb1 GE511); have GE512 := zG hg (zb1 GE511); replace HB := zS hb (zb1 GE511); have NB511_512 := zX BK511 hg; have NB512_511 := zY BK511 hg; replace BK511 := zB BK511 hb; clear hb hbox hg) | ((with_reducible refine zt 8 ?_); refine Kd.R_lit (Kd.int .u8) _ 5 ?hg (N := 8) ?hd (xs := ([] : List Int)) (inner := []) (ok := fun _ => True) (okp := fun _ => True) ?hr ?hp (fun _ hk => hk) trivial (Below.refl _ _) (Nat.le_refl _) (by simp) ?_; (case hd => rfl); (case hg => rfl); (case hr => exact zz16); (case hp => exact (Reps.none _ _)); intro v514 w8 ho9 hb hg_ hnew_; clear hg_ hnew_; (first | rw [← Ny513.out] at ho9 | (simp only [Int.reduceToNat] at ho9; rw [← Ny513.out] at ho9)); have HO515 := zL ho9 (zb2 GE511 GE512); replace BK511 := zB BK511 hb; replace BK512 := zB BK512 hb; replace HB := zS hb (zb2 GE511 GE512); clear hb ho9) | ((with_reducible refine gate_builtin (b := .append) (xs := #[.tmp 8, .tmp 9]) rfl ?_); at_builtin; refine Kd.R_append_rows (Kd.int .u8) (w0 := w) w.heap.size rfl (.tmp 8) (.tmp 9) 22 5 (.int .u8 0) 1 rfl Try.underlying22 info5 rfl (by decide) (by omega) v514 y513 l0 _ _ _ (fun _ => True) (fun _ => False) rfl rfl ?aO ?aR (fun _ _ h => h) (fun _ h => h.elim) ?aF ?aB ?aS ?aL ?_; (case aR => exact zd HR0); (case aB => exact (zb2 GE511 GE512)); (case aF => exact (fun _ _ => trivial)); (case aO => exact (zr HO515)); (case aS => exact (below_size (zb2 GE511 GE512))); (case aL => have := LMc4.out; omega); intro v517 w10 ho hb hg hat; rw [← Ny516.out] at ho; replace BK511 := zA (blk_grown (g := gb511) (o := .cells #[.int .i64 a1_0, .int .i64 a1_1, .bool a1_2, .bool a1_3] 30 (0, 0)) (zk BK511) hg (Kd.R_ne HO515.out BK511.out (by decide))); replace BK512 := zA (blk_grown (g := gb512) (o := .cells #[.int .i64 a2_0, .int .i64 a2_1, .string a2_2] 32 (0, 0)) (zk BK512) hg (Kd.R_ne HO515.out BK512.out (by decide))); replace HB := zA hb; have HO518 := zA ho; clear HO515 ho hb hg hat))
  (try simp only [Act.put, List.setIfInBounds_toArray, List.set_cons_zero, List.set_cons_succ])
  go_cut [19] (fun v19 wc => ∃ (kq : Nat) (x19_4 : Bool), v19 = .bool x19_4 ∧ Aside0 (spec_PutPart.j0 kq l0 y516 x19_4 a1_0 a1_1 a1_2 a1_3 a2_0 a2_1 a2_2 = some r) ∧ Aside0 (kq ≤ k) ∧ Aside0 (Kd.R (Kd.int .u8) 5 wc w.heap.size (fun _ => True) v517 y516) ∧ Aside0 (wc.heap[gb511]? = some (.cells #[.int .i64 a1_0, .int .i64 a1_1, .bool a1_2, .bool a1_3] 30 (0, 0))) ∧ Aside0 (wc.heap[gb512]? = some (.cells #[.int .i64 a2_0, .int .i64 a2_1, .string a2_2] 32 (0, 0))) ∧ Aside0 (Below w.heap.size w wc))
  case first =>
   have H := HC5.out
   clear HC5
   replace H := zI H
   obtain ⟨t519, A11, H⟩ := H
   by_cases c12 : t519 = true
   ·subst c12
    rw [if_pos rfl] at H
    replace H := zI H
    obtain ⟨t520, A13, H⟩ := H
    have H' := zA H
    clear H
    have hnb14 := NB511_512.out
    have hnc14 := NB512_511.out
    obtain ⟨hcz15_0, hcz15_1, hcz15_2, hcz15_3, hfz15_0, hfz15_1, hfz15_2, hfz15_3⟩ := zh4 BK511
    go_wp2_with (first | ((with_reducible refine zg 27 ?_); refine gL (some 12) Try.func27 #[.agg #[.int .i64 a1_0, .int .i64 a1_1, .bool a1_2, .bool a1_3]] ?_; (with_reducible refine (spec_PartOk.calls a1_0 a1_1 a1_2 a1_3 true _ A11.out).mono ?_); rintro e w16 ⟨rfl, hb⟩; refine ⟨_, rfl, ?_⟩; replace HO518 := zR HO518 hb; replace BK511 := zB BK511 hb; replace BK512 := zB BK512 hb; replace HB := zS hb (zb2 GE511 GE512); (try clear hb); obtain ⟨hcz17_0, hcz17_1, hcz17_2, hcz17_3, hfz17_0, hfz17_1, hfz17_2, hfz17_3⟩ := zh4 BK511; obtain ⟨hcz18_0, hcz18_1, hcz18_2, hfz18_0, hfz18_1, hfz18_2⟩ := zh3 BK512) | (go_at_call 28; (with_reducible refine (spec_Fits.calls a1_0 a1_1 a1_2 a1_3 a2_0 a2_1 a2_2 t520 _ A13.out).mono ?_); rintro e w19 ⟨rfl, hb⟩; replace HO518 := zR HO518 hb; replace BK511 := zB BK511 hb; replace BK512 := zB BK512 hb; replace HB := zS hb (zb2 GE511 GE512); (try clear hb)))
    go_meet
    case rel => exact ⟨_, (!t520), zx, H', ⟨zo⟩, ⟨zr HO518⟩, ⟨zk BK511⟩, ⟨zk BK512⟩, ⟨zb2 GE511 GE512⟩⟩
   ·replace c12 := Bool.eq_false_iff.mpr c12
    subst c12
    rw [if_neg (Bool.false_ne_true)] at H
    have H' := zA H
    clear H
    have hnb20 := NB511_512.out
    have hnc20 := NB512_511.out
    obtain ⟨hcz21_0, hcz21_1, hcz21_2, hcz21_3, hfz21_0, hfz21_1, hfz21_2, hfz21_3⟩ := zh4 BK511
    go_wp2_with (first | ((with_reducible refine zg 27 ?_); refine gL (some 12) Try.func27 #[.agg #[.int .i64 a1_0, .int .i64 a1_1, .bool a1_2, .bool a1_3]] ?_; (with_reducible refine (spec_PartOk.calls a1_0 a1_1 a1_2 a1_3 false _ A11.out).mono ?_); rintro e w22 ⟨rfl, hb⟩; refine ⟨_, rfl, ?_⟩; replace HO518 := zR HO518 hb; replace BK511 := zB BK511 hb; replace BK512 := zB BK512 hb; replace HB := zS hb (zb2 GE511 GE512); (try clear hb)))
    go_meet
    case rel => exact ⟨_, (true), zx, H', ⟨zo⟩, ⟨zr HO518⟩, ⟨zk BK511⟩, ⟨zk BK512⟩, ⟨zb2 GE511 GE512⟩⟩
  case rest =>
   clear HC5
   try clear c4
   obtain ⟨kq, x19_4, rfl, HA, HJ4, HO_7, BK511, BK512, HB⟩ := hcut
   cases kq with
   | zero => exact absurd HA.out (by simp [spec_PutPart.j0])
   | succ kj4 =>
    have H := HA.out
    clear HA
    simp only [spec_PutPart.j0] at H
    by_cases c23 : x19_4 = true
    ·subst c23
     rw [if_pos rfl] at H
     obtain rfl := Option.some.inj H
     go_wp2
     go_ret
     exact ⟨_, zw, zr HO_7, zb2 GE511 GE512⟩
    ·replace c23 := Bool.eq_false_iff.mpr c23
     subst c23
     rw [if_neg (Bool.false_ne_true)] at H
     by_cases c24 : a2_0 = 0
     ·rw [if_pos c24] at H
      have c24b0 : (a2_0 == 0) = true := beq_iff_eq.mpr c24
      have c24b1 : (a2_0 != 0) = false := bne_eq_false_iff_eq.mpr c24
      clear c24
      by_cases c25 : y516.length < 140737488355328
      ·rw [if_pos c25] at H
       have LMc25 := zA c25
       clear c25
       obtain ⟨y521, hy521⟩ : ∃ y_ : List Int, y_ = (y516 ++ [0]) := ⟨_, rfl⟩
       replace H : (if a1_3 = true then ((spec_Flip.f kj4 y521 (l0.length : Int)).bind fun t524 => (some t524)) else (some y521)) = some r := zy hy521
       have Ny521 := zA hy521
       clear hy521
       by_cases c26 : a1_3 = true
       ·subst c26
        rw [if_pos rfl] at H
        replace H := zI H
        obtain ⟨t524, A27, H⟩ := H
        obtain rfl := Option.some.inj H
        have hnb28 := NB512_511.out
        have hnc28 := NB511_512.out
        obtain ⟨hcz29_0, hcz29_1, hcz29_2, hfz29_0, hfz29_1, hfz29_2⟩ := zh3 BK512
        go_wp2_with (first | ((with_reducible refine gate_builtin (b := .append) (xs := #[.tmp 24, .tmp 25]) rfl ?_); at_builtin; refine Kd.R_append (Kd.int .u8) (w0 := w) w.heap.size rfl (.tmp 24) (.tmp 25) 22 5 (.int .u8 0) 1 rfl Try.underlying22 info5 rfl (by decide) (by omega) v517 y516 0 [.int .u8 0] (fun _ => True) (fun _ => False) rfl rfl ?aP (fun _ hk => hk.elim) ?aF ?aO ?aB ?aS ?aL ?_; (case aP => exact rfl); (case aB => exact (zb2 GE511 GE512)); (case aF => exact (fun _ _ => trivial)); (case aO => exact (zr HO_7)); (case aS => exact (below_size (zb2 GE511 GE512))); (case aL => have := LMc25.out; omega); intro v522 w30 ho hb hg hat; rw [← Ny521.out] at ho; replace BK511 := zA (blk_grown (g := gb511) (o := .cells #[.int .i64 a1_0, .int .i64 a1_1, .bool a1_2, .bool true] 30 (0, 0)) (zk BK511) hg (Kd.R_ne HO_7.out BK511.out (by decide))); replace BK512 := zA (blk_grown (g := gb512) (o := .cells #[.int .i64 a2_0, .int .i64 a2_1, .string a2_2] 32 (0, 0)) (zk BK512) hg (Kd.R_ne HO_7.out BK512.out (by decide))); replace HB := zA hb; have HO523 := zA ho; clear HO_7 ho hb hg hat; obtain ⟨hcz31_0, hcz31_1, hcz31_2, hcz31_3, hfz31_0, hfz31_1, hfz31_2, hfz31_3⟩ := zh4 BK511; obtain ⟨Ao32, co32, eo32⟩ := Kd.R_slice HO523.out; subst eo32) | ((with_reducible refine zg 68 ?_); refine gL (some 40) Try.func68 #[.slice Ao32 y521.length co32, .int .i64 (l0.length : Int)] ?_; (with_reducible refine (spec_Flip.calls kj4 _ _ y521 (l0.length : Int) t524 _ ?z1 ?z2 A27.out).mono ?_); (case z1 => exact ze HO523); (case z2 => exact zl HO523); rintro e w33 ⟨v525, rfl, ho0, hb⟩; refine ⟨_, rfl, ?_⟩; have HO526 := zL (zN ho0 HO523) (zb2 GE511 GE512); replace HO523 := zE HO523 ho0 hb; replace BK511 := zB BK511 hb; replace BK512 := zB BK512 hb; replace HB := zS hb (zb2 GE511 GE512); clear hb ho0))
        go_ret
        exact ⟨_, zw, by (with_reducible repeat (first | apply Kd.R_alloc | apply Kd.R_drewN | apply Kd.R_drew)); exact Kd.R_mono HO526.out (fun _ hk => trivial), zb2 GE511 GE512⟩
       ·replace c26 := Bool.eq_false_iff.mpr c26
        subst c26
        rw [if_neg (Bool.false_ne_true)] at H
        obtain rfl := Option.some.inj H
        have hnb34 := NB512_511.out
        have hnc34 := NB511_512.out
        obtain ⟨hcz35_0, hcz35_1, hcz35_2, hfz35_0, hfz35_1, hfz35_2⟩ := zh3 BK512
        go_wp2_with (first | ((with_reducible refine gate_builtin (b := .append) (xs := #[.tmp 24, .tmp 25]) rfl ?_); at_builtin; refine Kd.R_append (Kd.int .u8) (w0 := w) w.heap.size rfl (.tmp 24) (.tmp 25) 22 5 (.int .u8 0) 1 rfl Try.underlying22 info5 rfl (by decide) (by omega) v517 y516 0 [.int .u8 0] (fun _ => True) (fun _ => False) rfl rfl ?aP (fun _ hk => hk.elim) ?aF ?aO ?aB ?aS ?aL ?_; (case aP => exact rfl); (case aB => exact (zb2 GE511 GE512)); (case aF => exact (fun _ _ => trivial)); (case aO => exact (zr HO_7)); (case aS => exact (below_size (zb2 GE511 GE512))); (case aL => have := LMc25.out; omega); intro v522 w36 ho hb hg hat; rw [← Ny521.out] at ho; replace BK511 := zA (blk_grown (g := gb511) (o := .cells #[.int .i64 a1_0, .int .i64 a1_1, .bool a1_2, .bool false] 30 (0, 0)) (zk BK511) hg (Kd.R_ne HO_7.out BK511.out (by decide))); replace BK512 := zA (blk_grown (g := gb512) (o := .cells #[.int .i64 a2_0, .int .i64 a2_1, .string a2_2] 32 (0, 0)) (zk BK512) hg (Kd.R_ne HO_7.out BK512.out (by decide))); replace HB := zA hb; have HO523 := zA ho; clear HO_7 ho hb hg hat; obtain ⟨hcz37_0, hcz37_1, hcz37_2, hcz37_3, hfz37_0, hfz37_1, hfz37_2, hfz37_3⟩ := zh4 BK511))
        go_ret
        exact ⟨_, zw, zr HO523, zb2 GE511 GE512⟩
      ·rw [if_neg c25] at H
       exact absurd H (by simp)
     ·rw [if_neg c24] at H
      have c24b0 : (a2_0 == 0) = false := beq_eq_false_iff_ne.mpr c24
      have c24b1 : (a2_0 != 0) = true := bne_iff_ne.mpr c24
      have HC38 := zA H
      clear H
      have hnb39 := NB512_511.out
      have hnc39 := NB511_512.out
      obtain ⟨hcz40_0, hcz40_1, hcz40_2, hfz40_0, hfz40_1, hfz40_2⟩ := zh3 BK512
      obtain ⟨hcz41_0, hcz41_1, hcz41_2, hcz41_3, hfz41_0, hfz41_1, hfz41_2, hfz41_3⟩ := zh4 BK511
      go_upto_if 28 with (fail)
      go_cut [7] (fun v7 wc => ∃ (kq : Nat) (x7_37 : List Int), Aside0 (spec_PutPart.j1 kq l0 x7_37 a1_0 a1_1 a1_2 a1_3 a2_0 a2_1 a2_2 = some r) ∧ Aside0 (kq ≤ kj4) ∧ Aside0 (Kd.R (Kd.int .u8) 5 wc w.heap.size (fun _ => True) v7 x7_37) ∧ Aside0 (wc.heap[gb511]? = some (.cells #[.int .i64 a1_0, .int .i64 a1_1, .bool a1_2, .bool a1_3] 30 (0, 0))) ∧ Aside0 (wc.heap[gb512]? = some (.cells #[.int .i64 a2_0, .int .i64 a2_1, .string a2_2] 32 (0, 0))) ∧ Aside0 (Below w.heap.size w wc))
      case first =>
       have H := HC38.out
       clear HC38
       by_cases c42 : a1_2 = true
       ·subst c42
        rw [if_pos rfl] at H
        by_cases c43 : y516.length < 140737488355328
        ·rw [if_pos c43] at H
         have LMc43 := zA c43
         clear c43
         obtain ⟨y527, hy527⟩ : ∃ y_ : List Int, y_ = (y516 ++ [1]) := ⟨_, rfl⟩
         replace H : (spec_PutPart.j1 kj4 l0 y527 a1_0 a1_1 true a1_3 a2_0 a2_1 a2_2) = some r := zy hy527
         have Ny527 := zA hy527
         clear hy527
         have H' := zA H
         clear H
         go_wp2_with (first | ((with_reducible refine gate_builtin (b := .append) (xs := #[.tmp 29, .tmp 30]) rfl ?_); at_builtin; refine Kd.R_append (Kd.int .u8) (w0 := w) w.heap.size rfl (.tmp 29) (.tmp 30) 22 5 (.int .u8 0) 1 rfl Try.underlying22 info5 rfl (by decide) (by omega) v517 y516 1 [.int .u8 1] (fun _ => True) (fun _ => False) rfl rfl ?aP (fun _ hk => hk.elim) ?aF ?aO ?aB ?aS ?aL ?_; (case aP => exact rfl); (case aB => exact (zb2 GE511 GE512)); (case aF => exact (fun _ _ => trivial)); (case aO => exact (zr HO_7)); (case aS => exact (below_size (zb2 GE511 GE512))); (case aL => have := LMc43.out; omega); intro v528 w44 ho hb hg hat; rw [← Ny527.out] at ho; replace BK511 := zA (blk_grown (g := gb511) (o := .cells #[.int .i64 a1_0, .int .i64 a1_1, .bool true, .bool a1_3] 30 (0, 0)) (zk BK511) hg (Kd.R_ne HO_7.out BK511.out (by decide))); replace BK512 := zA (blk_grown (g := gb512) (o := .cells #[.int .i64 a2_0, .int .i64 a2_1, .string a2_2] 32 (0, 0)) (zk BK512) hg (Kd.R_ne HO_7.out BK512.out (by decide))); replace HB := zA hb; have HO529 := zA ho; clear HO_7 ho hb hg hat))
         go_meet
         case rel => exact ⟨_, (y527), H', ⟨by have := HJ4.out; first | omega | exact Nat.le_refl _⟩, ⟨zr HO529⟩, ⟨zk BK511⟩, ⟨zk BK512⟩, ⟨zb2 GE511 GE512⟩⟩
        ·rw [if_neg c43] at H
         exact absurd H (by simp)
       ·replace c42 := Bool.eq_false_iff.mpr c42
        subst c42
        rw [if_neg (Bool.false_ne_true)] at H
        have H' := zA H
        clear H
        go_wp2
        go_meet
        case rel => exact ⟨_, (y516), H', ⟨by have := HJ4.out; first | omega | exact Nat.le_refl _⟩, ⟨zr HO_7⟩, ⟨zk BK511⟩, ⟨zk BK512⟩, ⟨zb2 GE511 GE512⟩⟩
      case rest =>
       clear HC38
       try clear c4; try clear c23; try clear c24; try clear c24b0; try clear c24b1; try clear hcz40_0; try clear hcz40_1; try clear hcz40_2; try clear hcz41_0; try clear hcz41_1; try clear hcz41_2; try clear hcz41_3; try clear hfz40_0; try clear hfz40_1; try clear hfz40_2; try clear hfz41_0; try clear hfz41_1; try clear hfz41_2; try clear hfz41_3
       obtain ⟨kq, x7_37, HA, HJ37, HO_7, BK511, BK512, HB⟩ := hcut
       cases kq with
       | zero => exact absurd HA.out (by simp [spec_PutPart.j1])
       | succ kj37 =>
        have H := HA.out
        clear HA
        simp only [spec_PutPart.j1] at H
        replace H := zI H
        obtain ⟨t530, A45, H⟩ := H
        by_cases c46 : a1_3 = true
        ·subst c46
         rw [if_pos rfl] at H
         replace H := zI H
         obtain ⟨t533, A47, H⟩ := H
         obtain rfl := Option.some.inj H
         have hnb48 := NB512_511.out
         have hnc48 := NB511_512.out
         obtain ⟨hcz49_0, hcz49_1, hcz49_2, hfz49_0, hfz49_1, hfz49_2⟩ := zh3 BK512
         obtain ⟨Ao50, co50, eo50⟩ := Kd.R_slice HO_7.out
         subst eo50
         go_wp2_with (first | ((with_reducible refine zg 67 ?_); refine gL (some 34) Try.func67 #[.slice Ao50 x7_37.length co50, .agg #[.int .i64 a2_0, .int .i64 a2_1, .string a2_2]] ?_; (with_reducible refine (spec_l5Value.calls kj37 _ _ x7_37 a2_0 a2_1 a2_2 t530 _ ?z1 ?z2 A45.out).mono ?_); (case z1 => exact ze HO_7); (case z2 => exact zl HO_7); rintro e w51 ⟨v531, rfl, ho0, hb⟩; refine ⟨_, rfl, ?_⟩; have HO532 := zL (zN ho0 HO_7) (zb2 GE511 GE512); replace HO_7 := zE HO_7 ho0 hb; replace BK511 := zB BK511 hb; replace BK512 := zB BK512 hb; replace HB := zS hb (zb2 GE511 GE512); clear hb ho0; obtain ⟨hcz52_0, hcz52_1, hcz52_2, hcz52_3, hfz52_0, hfz52_1, hfz52_2, hfz52_3⟩ := zh4 BK511; obtain ⟨Ao53, co53, eo53⟩ := Kd.R_slice HO532.out; subst eo53) | ((with_reducible refine zg 68 ?_); refine gL (some 40) Try.func68 #[.slice Ao53 t530.length co53, .int .i64 (l0.length : Int)] ?_; (with_reducible refine (spec_Flip.calls kj37 _ _ t530 (l0.length : Int) t533 _ ?z1 ?z2 A47.out).mono ?_); (case z1 => exact ze HO532); (case z2 => exact zl HO532); rintro e w54 ⟨v534, rfl, ho0, hb⟩; refine ⟨_, rfl, ?_⟩; have HO535 := zL (zN (zN ho0 HO_7) HO532) (zb2 GE511 GE512); replace HO_7 := zE HO_7 ho0 hb; replace HO532 := zE HO532 ho0 hb; replace BK511 := zB BK511 hb; replace BK512 := zB BK512 hb; replace HB := zS hb (zb2 GE511 GE512); clear hb ho0))
         go_ret
         exact ⟨_, zw, by (with_reducible repeat (first | apply Kd.R_alloc | apply Kd.R_drewN | apply Kd.R_drew)); exact Kd.R_mono HO535.out (fun _ hk => trivial), zb2 GE511 GE512⟩
        ·replace c46 := Bool.eq_false_iff.mpr c46
         subst c46
         rw [if_neg (Bool.false_ne_true)] at H
         obtain rfl := Option.some.inj H
         have hnb55 := NB512_511.out
         have hnc55 := NB511_512.out
         obtain ⟨hcz56_0, hcz56_1, hcz56_2, hfz56_0, hfz56_1, hfz56_2⟩ := zh3 BK512
         obtain ⟨Ao57, co57, eo57⟩ := Kd.R_slice HO_7.out
         subst eo57
         go_wp2_with (first | ((with_reducible refine zg 67 ?_); refine gL (some 34) Try.func67 #[.slice Ao57 x7_37.length co57, .agg #[.int .i64 a2_0, .int .i64 a2_1, .string a2_2]] ?_; (with_reducible refine (spec_l5Value.calls kj37 _ _ x7_37 a2_0 a2_1 a2_2 t530 _ ?z1 ?z2 A45.out).mono ?_); (case z1 => exact ze HO_7); (case z2 => exact zl HO_7); rintro e w58 ⟨v531, rfl, ho0, hb⟩; refine ⟨_, rfl, ?_⟩; have HO532 := zL (zN ho0 HO_7) (zb2 GE511 GE512); replace HO_7 := zE HO_7 ho0 hb; replace BK511 := zB BK511 hb; replace BK512 := zB BK512 hb; replace HB := zS hb (zb2 GE511 GE512); clear hb ho0; obtain ⟨hcz59_0, hcz59_1, hcz59_2, hcz59_3, hfz59_0, hfz59_1, hfz59_2, hfz59_3⟩ := zh4 BK511))
         go_ret
         exact ⟨_, zw, by (with_reducible repeat (first | apply Kd.R_alloc | apply Kd.R_drewN | apply Kd.R_drew)); exact Kd.R_mono HO532.out (fun _ hk => trivial), zb2 GE511 GE512⟩
 ·rw [if_neg c4] at H
  exact absurd H (by simp)

end Go.Proofs.Ytnfmpopmigbkoaa.PFnKeysRead

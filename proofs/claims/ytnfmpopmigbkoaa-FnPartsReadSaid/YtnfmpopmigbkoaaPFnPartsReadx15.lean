-- Written by mkprint.py, a program of this session (the printer with additions of its own)
import Derived.Test.YtnfmpopmigbkoaaPFnPartsReadx0
import Derived.Test.YtnfmpopmigbkoaaPFnPartsReadx12
import Derived.Test.YtnfmpopmigbkoaaPFnPartsReadx13
import Derived.Test.YtnfmpopmigbkoaaPFnPartsReadx14
namespace Go.Proofs.Ytnfmpopmigbkoaa.PFnPartsRead
open Go.RowKit Go.Proofs.YtnfmpopmigbkoaaW.PrintWords Go.Proofs.YtnfmpopmigbkoaaW.PrintLast Go.Proofs.YtnfmpopmigbkoaaW.PrintMore
attribute [local go_sem] max2_int min2_int max_two min_two max_three min_three max_four min_four   -- for this text's walks alone
set_option linter.unusedVariables false
set_option linter.unusedSimpArgs false

/-! ### spec_DrawLessPart: function 33 -/
def spec_DrawLessPart.f (k : Nat) (l0 : List Int) : Option (Int × Int × Bool × Bool × Int × Int × ByteArray × Int × Int × ByteArray) := (spec_l1New.f k l0).bind fun bt718 => ((spec_l5Any.f bt718.1 bt718.2.1 bt718.2.2).bind fun bt722 => ((spec_l5Val.f k bt718.1 bt722.2.2.2.2.1 bt722.2.2.2.2.2 bt722.1 bt722.2.1 bt722.2.2.1 bt722.2.2.2.1).bind fun bt729 => ((spec_l5Val.f k bt718.1 bt729.2.2.2.1 bt729.2.2.2.2 bt722.1 bt722.2.1 bt722.2.2.1 bt722.2.2.2.1).bind fun bt734 => (some (bt722.1, bt722.2.1, bt722.2.2.1, bt722.2.2.2.1, bt729.1, bt729.2.1, bt729.2.2.1, bt734.1, bt734.2.1, bt734.2.2.1)))))
theorem spec_DrawLessPart.mono : ∀ a0 k, LeO (spec_DrawLessPart.f k a0) (spec_DrawLessPart.f (k + 1) a0) := by
  intro a0 k
  unfold spec_DrawLessPart.f
  repeat' first
      | (with_reducible exact spec_l1New.mono _ _)
      | (with_reducible exact spec_l5Val.mono _ _ _ _ _ _ _ _)
      | (with_reducible exact LeO.refl _)
      | (with_reducible exact LeO.none _)
      | (with_reducible refine LeO.ite ?_ ?_)
      | (with_reducible refine LeO.bind ?_ (fun _ => ?_))
      | exact spec_l1New.mono _ _
      | exact spec_l5Val.mono _ _ _ _ _ _ _ _
      | exact LeO.none _
      | refine LeO.ite ?_ ?_
      | refine LeO.bind ?_ (fun _ => ?_)
def spec_DrawLessPart.T3 : Bool × List (List Nat × List Nat) := (true, [([], []), ([], []), ([], []), ([1, 2], [1, 2]), ([], []), ([], []), ([4, 5, 3], [4, 5]), ([0, 6, 0], [0]), ([3, 7, 0, 1, 2, 3, 7], [3]), ([6, 8, 0, 1, 2, 3, 4, 5, 6, 7, 8], [6])])
def spec_DrawLessPart.B3 : List Nat := [0, 0, 0, 6, 0, 0, 62, 127, 255, 511]
theorem spec_DrawLessPart.tab3 : rtab .any (opsOf Try.f33 3) = spec_DrawLessPart.T3 := by kernel_rfl
theorem spec_DrawLessPart.bits3 : waitsOk spec_DrawLessPart.T3.2 spec_DrawLessPart.B3 = true := by kernel_rfl
set_option maxHeartbeats 8000000 in
set_option maxRecDepth 100000 in
theorem spec_DrawLessPart.calls (k : Nat) (A0 : Option Addr) (c0 : Nat) (l0 : List Int) (r1 : Int) (r2 : Int) (r3 : Bool) (r4 : Bool) (r5 : Int) (r6 : Int) (r7 : ByteArray) (r8 : Int) (r9 : Int) (r10 : ByteArray) (w : World) (hr0 : Kd.C (Kd.int .u8) w A0 l0.length l0) (hc0 : l0.length ≤ c0) (h : spec_DrawLessPart.f k l0 = some (r1, r2, r3, r4, r5, r6, r7, r8, r9, r10)) :
  Calls Try.prog 33 #[.slice A0 l0.length c0] w fun e w' => e = .returned (.tuple #[.agg #[.int .i64 r1, .int .i64 r2, .bool r3, .bool r4], .agg #[.int .i64 r5, .int .i64 r6, .string r7], .agg #[.int .i64 r8, .int .i64 r9, .string r10]]) ∧ Below w.heap.size w w' := by
 have hu30 := Try.underlying30
 have hu32 := Try.underlying32
 have HR0 := zA hr0
 have HC0 := zA hc0
 clear hr0 hc0
 have HB := zA (Below.refl w.heap.size w)
 have H : ((spec_l1New.f k l0).bind fun bt718 => ((spec_l5Any.f bt718.1 bt718.2.1 bt718.2.2).bind fun bt722 => ((spec_l5Val.f k bt718.1 bt722.2.2.2.2.1 bt722.2.2.2.2.2 bt722.1 bt722.2.1 bt722.2.2.1 bt722.2.2.2.1).bind fun bt729 => ((spec_l5Val.f k bt718.1 bt729.2.2.2.1 bt729.2.2.2.2 bt722.1 bt722.2.1 bt722.2.2.1 bt722.2.2.2.1).bind fun bt734 => (some (bt722.1, bt722.2.1, bt722.2.2.1, bt722.2.2.2.1, bt729.1, bt729.2.1, bt729.2.2.1, bt734.1, bt734.2.1, bt734.2.2.1)))))) = some (r1, r2, r3, r4, r5, r6, r7, r8, r9, r10) := h
 clear h
 replace H := zI H
 obtain ⟨⟨t718, t719, t720⟩, A2, H⟩ := H
 try dsimp only at H
 replace H := zI H
 obtain ⟨⟨t722, t723, t724, t725, t726, t727⟩, A3, H⟩ := H
 try dsimp only at H
 replace H := zI H
 obtain ⟨⟨t729, t730, t731, t732, t733⟩, A4, H⟩ := H
 try dsimp only at H
 replace H := zI H
 obtain ⟨⟨t734, t735, t736, t737, t738⟩, A5, H⟩ := H
 try dsimp only at H
 simp only [Option.some.injEq, Prod.mk.injEq] at H
 obtain ⟨rfl, rfl, rfl, rfl, rfl, rfl, rfl, rfl, rfl, rfl⟩ := H
 go_enter Try.func33, Try.ntmps33
 try go_wp2_with (first | ((with_reducible refine zt 2 ?_); refine zn #[.int .i64 0, .int .i64 0, .bool false, .bool false] 30 ?_; intro gb715 hg w6 hbox hb; have BK715 := zA hbox; have GW715 := zG hg; have GE715 := zG hg; replace HB := zS hb; clear hb hbox hg) | ((with_reducible refine zt 3 ?_); refine zn #[.int .i64 0, .int .i64 0, .string (⟨#[]⟩ : ByteArray)] 32 ?_; intro gb716 hg w7 hbox hb; have BK716 := zA hbox; have GW716 := zG hg (zb1 GE715); have GE716 := zG hg (zb1 GE715); replace HB := zS hb (zb1 GE715); have NB715_716 := zX BK715 hg; have NB716_715 := zY BK715 hg; replace BK715 := zB BK715 hb; clear hb hbox hg) | ((with_reducible refine zt 4 ?_); refine zn #[.int .i64 0, .int .i64 0, .string (⟨#[]⟩ : ByteArray)] 32 ?_; intro gb717 hg w8 hbox hb; have BK717 := zA hbox; have GW717 := zG hg (zb2 GE715 GE716); have GE717 := zG hg (zb2 GE715 GE716); replace HB := zS hb (zb2 GE715 GE716); have NB715_717 := zX BK715 hg; have NB717_715 := zY BK715 hg; replace BK715 := zB BK715 hb; have NB716_717 := zX BK716 hg; have NB717_716 := zY BK716 hg; replace BK716 := zB BK716 hb; clear hb hbox hg) | ((with_reducible refine zg 75 ?_); refine gL (some 8) Try.func75 #[.slice A0 l0.length c0] ?_; (with_reducible refine (spec_l1New.calls k _ _ l0 t718 t719 t720 w _ ?z1 ?z2 ?z3 A2.out).mono ?_); (case z1 => repeat (first | (with_reducible first | exact HB.out | apply below_alloc | apply pw_below_drewN | apply below_drew1 | refine below_set ?_ GE715.out | refine below_set ?_ GE716.out | refine below_set ?_ GE717.out) | exact HB.out)); (case z2 => exact HR0.out); (case z3 => exact HC0.out); rintro e w9 ⟨g721, rfl, hi, hb, hb2⟩; refine ⟨_, rfl, ?_⟩; replace HB := zA hb; have HI721 := zA hi; have NB721_715 := zA (IsS102.ne_blk hi (blk_below (g := gb715) (o := .cells #[.int .i64 0, .int .i64 0, .bool false, .bool false] 30 (0, 0)) (zk BK715) hb2) (by decide)); have NB715_721 := zA (Ne.symm (IsS102.ne_blk hi (blk_below (g := gb715) (o := .cells #[.int .i64 0, .int .i64 0, .bool false, .bool false] 30 (0, 0)) (zk BK715) hb2) (by decide))); replace BK715 := zB BK715 hb2; have NB721_716 := zA (IsS102.ne_blk hi (blk_below (g := gb716) (o := .cells #[.int .i64 0, .int .i64 0, .string (⟨#[]⟩ : ByteArray)] 32 (0, 0)) (zk BK716) hb2) (by decide)); have NB716_721 := zA (Ne.symm (IsS102.ne_blk hi (blk_below (g := gb716) (o := .cells #[.int .i64 0, .int .i64 0, .string (⟨#[]⟩ : ByteArray)] 32 (0, 0)) (zk BK716) hb2) (by decide))); replace BK716 := zB BK716 hb2; have NB721_717 := zA (IsS102.ne_blk hi (blk_below (g := gb717) (o := .cells #[.int .i64 0, .int .i64 0, .string (⟨#[]⟩ : ByteArray)] 32 (0, 0)) (zk BK717) hb2) (by decide)); have NB717_721 := zA (Ne.symm (IsS102.ne_blk hi (blk_below (g := gb717) (o := .cells #[.int .i64 0, .int .i64 0, .string (⟨#[]⟩ : ByteArray)] 32 (0, 0)) (zk BK717) hb2) (by decide))); replace BK717 := zB BK717 hb2; clear hb hb2 hi) | ((with_reducible refine zg 76 ?_); refine gL (some 10) Try.func76 #[.pointer (some ⟨g721, 0, none⟩)] ?_; (with_reducible refine (spec_l5Any.calls g721 t718 t719 t720 t722 t723 t724 t725 t726 t727 w _ ?z1 ?z2 A3.out).mono ?_); (case z1 => exact zz52); (case z2 => exact zz58); rintro e w10 ⟨rfl, hi, hb, hk⟩; refine ⟨_, rfl, ?_⟩; replace BK715 := zV hk BK715 NB715_721; replace BK716 := zV hk BK716 NB716_721; replace BK717 := zV hk BK717 NB717_721; replace HB := zA hb; replace HI721 := zA hi; clear hb hk hi) | ((with_reducible refine zt 6 ?_); refine zn #[.int .i64 0, .int .i64 0, .bool false, .bool false] 30 ?_; intro gb728 hg w11 hbox hb; have BK728 := zA hbox; have GW728 := zG hg zz58; have GE728 := zG hg zz58; replace HB := zS hb zz58; have NB715_728 := zX BK715 hg; have NB728_715 := zY BK715 hg; replace BK715 := zB BK715 hb; have NB716_728 := zX BK716 hg; have NB728_716 := zY BK716 hg; replace BK716 := zB BK716 hb; have NB717_728 := zX BK717 hg; have NB728_717 := zY BK717 hg; replace BK717 := zB BK717 hb; have NB721_728 := zA ((by rw [hg]; exact Nat.ne_of_lt (IsS102.lt (show IsS102 w _ g721 t718 t726 t727 from zz52)) : g721 ≠ gb728)); have NB728_721 := zA ((by rw [hg]; exact Nat.ne_of_gt (IsS102.lt (show IsS102 w _ g721 t718 t726 t727 from zz52)) : gb728 ≠ g721)); replace HI721 := zA (IsS102.below zz52 hb); clear hb hbox hg; have hnb12 := NB728_715.out; have hnc12 := NB715_728.out; have hnb13 := NB728_716.out; have hnc13 := NB716_728.out; have hnb14 := NB728_717.out; have hnc14 := NB717_728.out; have hnb15 := NB728_721.out; have hnc15 := NB721_728.out; obtain ⟨hcz16_0, hcz16_1, hcz16_2, hcz16_3, hfz16_0, hfz16_1, hfz16_2, hfz16_3⟩ := zh4 BK728))
 have n0_ : Aside0 (((((w11.setCell ⟨gb728, 0, none⟩ (.int .i64 t722)).setCell ⟨gb728, 1, none⟩ (.int .i64 t723)).setCell ⟨gb728, 2, none⟩ (.bool t724)).setCell ⟨gb728, 3, none⟩ (.bool t725)).heap[gb715]? = some (.cells #[.int .i64 0, .int .i64 0, .bool false, .bool false] 30 (0, 0))) := ⟨by (with_reducible repeat (first | refine blk_drewN ?_ _ | refine blk_drew ?_ | refine blk_alloc ?_ _)); refine blk_far ?_ NB715_728.out _; (with_reducible repeat (first | refine blk_drewN ?_ _ | refine blk_drew ?_ | refine blk_alloc ?_ _)); refine blk_far ?_ NB715_728.out _; (with_reducible repeat (first | refine blk_drewN ?_ _ | refine blk_drew ?_ | refine blk_alloc ?_ _)); refine blk_far ?_ NB715_728.out _; (with_reducible repeat (first | refine blk_drewN ?_ _ | refine blk_drew ?_ | refine blk_alloc ?_ _)); refine blk_far ?_ NB715_728.out _; (with_reducible repeat (first | refine blk_drewN ?_ _ | refine blk_drew ?_ | refine blk_alloc ?_ _)); exact BK715.out⟩
 have n1_ : Aside0 (((((w11.setCell ⟨gb728, 0, none⟩ (.int .i64 t722)).setCell ⟨gb728, 1, none⟩ (.int .i64 t723)).setCell ⟨gb728, 2, none⟩ (.bool t724)).setCell ⟨gb728, 3, none⟩ (.bool t725)).heap[gb716]? = some (.cells #[.int .i64 0, .int .i64 0, .string (⟨#[]⟩ : ByteArray)] 32 (0, 0))) := ⟨by (with_reducible repeat (first | refine blk_drewN ?_ _ | refine blk_drew ?_ | refine blk_alloc ?_ _)); refine blk_far ?_ NB716_728.out _; (with_reducible repeat (first | refine blk_drewN ?_ _ | refine blk_drew ?_ | refine blk_alloc ?_ _)); refine blk_far ?_ NB716_728.out _; (with_reducible repeat (first | refine blk_drewN ?_ _ | refine blk_drew ?_ | refine blk_alloc ?_ _)); refine blk_far ?_ NB716_728.out _; (with_reducible repeat (first | refine blk_drewN ?_ _ | refine blk_drew ?_ | refine blk_alloc ?_ _)); refine blk_far ?_ NB716_728.out _; (with_reducible repeat (first | refine blk_drewN ?_ _ | refine blk_drew ?_ | refine blk_alloc ?_ _)); exact BK716.out⟩
 have n2_ : Aside0 (((((w11.setCell ⟨gb728, 0, none⟩ (.int .i64 t722)).setCell ⟨gb728, 1, none⟩ (.int .i64 t723)).setCell ⟨gb728, 2, none⟩ (.bool t724)).setCell ⟨gb728, 3, none⟩ (.bool t725)).heap[gb717]? = some (.cells #[.int .i64 0, .int .i64 0, .string (⟨#[]⟩ : ByteArray)] 32 (0, 0))) := ⟨by (with_reducible repeat (first | refine blk_drewN ?_ _ | refine blk_drew ?_ | refine blk_alloc ?_ _)); refine blk_far ?_ NB717_728.out _; (with_reducible repeat (first | refine blk_drewN ?_ _ | refine blk_drew ?_ | refine blk_alloc ?_ _)); refine blk_far ?_ NB717_728.out _; (with_reducible repeat (first | refine blk_drewN ?_ _ | refine blk_drew ?_ | refine blk_alloc ?_ _)); refine blk_far ?_ NB717_728.out _; (with_reducible repeat (first | refine blk_drewN ?_ _ | refine blk_drew ?_ | refine blk_alloc ?_ _)); refine blk_far ?_ NB717_728.out _; (with_reducible repeat (first | refine blk_drewN ?_ _ | refine blk_drew ?_ | refine blk_alloc ?_ _)); exact BK717.out⟩
 have n3_ : Aside0 (((((w11.setCell ⟨gb728, 0, none⟩ (.int .i64 t722)).setCell ⟨gb728, 1, none⟩ (.int .i64 t723)).setCell ⟨gb728, 2, none⟩ (.bool t724)).setCell ⟨gb728, 3, none⟩ (.bool t725)).heap[gb728]? = some (.cells #[.int .i64 t722, .int .i64 t723, .bool t724, .bool t725] 30 (0, 0))) := ⟨by (with_reducible repeat (first | refine blk_drewN ?_ _ | refine blk_drew ?_ | refine blk_alloc ?_ _)); refine blk_put (cs := #[.int .i64 t722, .int .i64 t723, .bool t724, .bool false]) ?_ 3 _ rfl; (with_reducible repeat (first | refine blk_drewN ?_ _ | refine blk_drew ?_ | refine blk_alloc ?_ _)); refine blk_put (cs := #[.int .i64 t722, .int .i64 t723, .bool false, .bool false]) ?_ 2 _ rfl; (with_reducible repeat (first | refine blk_drewN ?_ _ | refine blk_drew ?_ | refine blk_alloc ?_ _)); refine blk_put (cs := #[.int .i64 t722, .int .i64 0, .bool false, .bool false]) ?_ 1 _ rfl; (with_reducible repeat (first | refine blk_drewN ?_ _ | refine blk_drew ?_ | refine blk_alloc ?_ _)); refine blk_put (cs := #[.int .i64 0, .int .i64 0, .bool false, .bool false]) ?_ 0 _ rfl; (with_reducible repeat (first | refine blk_drewN ?_ _ | refine blk_drew ?_ | refine blk_alloc ?_ _)); exact BK728.out⟩
 have n4_ : Aside0 (IsS102 w ((((w11.setCell ⟨gb728, 0, none⟩ (.int .i64 t722)).setCell ⟨gb728, 1, none⟩ (.int .i64 t723)).setCell ⟨gb728, 2, none⟩ (.bool t724)).setCell ⟨gb728, 3, none⟩ (.bool t725)) g721 t718 t726 t727) := ⟨zz69⟩
 have n5_ : Aside0 (Below w.heap.size w ((((w11.setCell ⟨gb728, 0, none⟩ (.int .i64 t722)).setCell ⟨gb728, 1, none⟩ (.int .i64 t723)).setCell ⟨gb728, 2, none⟩ (.bool t724)).setCell ⟨gb728, 3, none⟩ (.bool t725))) := ⟨zz51⟩
 (try clear BK715)
 (try clear BK716)
 (try clear BK717)
 (try clear BK728)
 (try clear HI721)
 (try clear HB)
 generalize ((((w11.setCell ⟨gb728, 0, none⟩ (.int .i64 t722)).setCell ⟨gb728, 1, none⟩ (.int .i64 t723)).setCell ⟨gb728, 2, none⟩ (.bool t724)).setCell ⟨gb728, 3, none⟩ (.bool t725)) = w17 at n0_ n1_ n2_ n3_ n4_ n5_ ⊢
 have BK715 := n0_; have BK716 := n1_; have BK717 := n2_; have BK728 := n3_; have HI721 := n4_; have HB := n5_
 clear n0_ n1_ n2_ n3_ n4_ n5_
 have n0_ := zA (blk_drew BK715.out)
 have n1_ := zA (blk_drew BK716.out)
 have n2_ := zA (blk_drew BK717.out)
 have n3_ := zA (blk_drew BK728.out)
 have n4_ := zA (IsS102.drew HI721.out)
 have n5_ := zA (below_drew1 HB.out)
 clear BK715 BK716 BK717 BK728 HI721 HB
 have BK715 := n0_; have BK716 := n1_; have BK717 := n2_; have BK728 := n3_; have HI721 := n4_; have HB := n5_
 clear n0_ n1_ n2_ n3_ n4_ n5_
 refine start_ (n := 10) (S := fun w' => w'.cell? ⟨gb728, 0, none⟩ = some (.int .i64 t722) ∧ w'.cell? ⟨gb728, 1, none⟩ = some (.int .i64 t723) ∧ w'.cell? ⟨gb728, 2, none⟩ = some (.bool t724) ∧ w'.cell? ⟨gb728, 3, none⟩ = some (.bool t725)) (ds := []) #[false, false, false, false, false, false, false, false, false, false] (by kernel_rfl) rfl rfl ⟨(blk_cell BK728.out 0).trans rfl, (blk_cell BK728.out 1).trans rfl, (blk_cell BK728.out 2).trans rfl, (blk_cell BK728.out 3).trans rfl⟩ (fun hHeld => ?_); refine with_tabW spec_DrawLessPart.tab3 spec_DrawLessPart.bits3 (fun HT_ HW_ => ?_)
 generalize w17.drew = w18 at BK715 BK716 BK717 BK728 HI721 HB hHeld ⊢
 refine pure_ (i := 1) (N := some 12) (v := ?_) (a' := ?_) #[false, true, false, false, false, false, false, false, false, false] rfl rfl (any_of HT_.out (by kernel_rfl)) (fun _ _ _ h => h) (Or.inl ⟨by rfl, ?_⟩) ?_ ?_; rotate_left
 ·intro w'; go_simp; with_reducible rfl
 rotate_left
 ·simp only [Act.put, List.setIfInBounds_toArray, List.set_cons_zero, List.set_cons_succ, i64_w, i32_w]; rfl
 refine pure_ (i := 4) (N := some 15) (v := ?_) (a' := ?_) #[false, true, false, false, true, false, false, false, false, false] rfl rfl (any_of HT_.out (by kernel_rfl)) (fun _ _ _ h => h) (Or.inl ⟨by rfl, ?_⟩) ?_ ?_; rotate_left
 ·intro w'; go_simp; with_reducible rfl
 rotate_left
 ·simp only [Act.put, List.setIfInBounds_toArray, List.set_cons_zero, List.set_cons_succ, i64_w, i32_w]; rfl
 refine take_ (i := 0) (N := some 11) (v := ?_) (a' := ?_) #[true, true, false, false, true, false, false, false, false, false] rfl rfl (take_ofW HT_.out HW_.out (by kernel_rfl)) (fun _ _ _ h => h) (Or.inl ⟨by rfl, ?_⟩) hHeld ?_ ?_; rotate_left
 ·rintro w' ⟨s0, s1, s2, s3⟩
  go_simp
  with_reducible rfl
 rotate_left
 ·simp only [Act.put, List.setIfInBounds_toArray, List.set_cons_zero, List.set_cons_succ, i64_w, i32_w]; rfl
 refine take_ (i := 2) (N := some 13) (v := ?_) (a' := ?_) #[true, true, true, false, true, false, false, false, false, false] rfl rfl (take_ofW HT_.out HW_.out (by kernel_rfl)) (fun _ _ _ h => h) (Or.inl ⟨by rfl, ?_⟩) hHeld ?_ ?_; rotate_left
 ·rintro w' ⟨s0, s1, s2, s3⟩
  go_simp
  with_reducible rfl
 rotate_left
 ·simp only [Act.put, List.setIfInBounds_toArray, List.set_cons_zero, List.set_cons_succ, i64_w, i32_w]; rfl
 refine take_ (i := 5) (N := some 16) (v := ?_) (a' := ?_) #[true, true, true, false, true, true, false, false, false, false] rfl rfl (take_ofW HT_.out HW_.out (by kernel_rfl)) (fun _ _ _ h => h) (Or.inl ⟨by rfl, ?_⟩) hHeld ?_ ?_; rotate_left
 ·rintro w' ⟨s0, s1, s2, s3⟩
  go_simp
  with_reducible rfl
 rotate_left
 ·simp only [Act.put, List.setIfInBounds_toArray, List.set_cons_zero, List.set_cons_succ, i64_w, i32_w]; rfl
 refine one_ (i := 3) (N := some 14) #[true, true, true, true, true, true, false, false, false, false] rfl rfl (one_of HT_.out (by kernel_rfl)) (by decide) (fun K hK => ?_)
 refine goes_ Try.func78 (by kernel_rfl) rfl #[.pointer (some ⟨g721, 0, none⟩), .agg #[.int .i64 t722, .int .i64 t723, .bool t724, .bool t725]] (by rfl) rfl rfl zz24 ?_
 with_reducible refine (spec_l5Val.calls k g721 t718 t726 t727 t722 t723 t724 t725 t729 t730 t731 t732 t733 w _ ?z1 ?z2 A4.out).mono ?_
 (case z1 => exact zz69)
 (case z2 => exact zz51)
 rintro e w19 ⟨rfl, hi, hb, hk⟩
 refine ⟨_, rfl, ?_⟩
 have n0_ := zV hk BK715 NB715_721
 have n1_ := zV hk BK716 NB716_721
 have n2_ := zV hk BK717 NB717_721
 have n3_ := zV hk BK728 NB728_721
 have n4_ := zA hb
 have n5_ := zA hi
 clear BK715 BK716 BK717 BK728 HB HI721
 have BK715 := n0_; have BK716 := n1_; have BK717 := n2_; have BK728 := n3_; have HB := n4_; have HI721 := n5_
 clear n0_ n1_ n2_ n3_ n4_ n5_
 (try clear hb)
 (try clear hb2)
 (try clear hk)
 (try clear hi)
 refine hK.out _ _ ⟨(blk_cell BK728.out 0).trans rfl, (blk_cell BK728.out 1).trans rfl, (blk_cell BK728.out 2).trans rfl, (blk_cell BK728.out 3).trans rfl⟩ (fun hHeld => ?_)
 clear hK K
 refine norm_ (a' := ?_) ?_ ?_; rotate_left
 ·show Act.put _ (some 14) _ = _
  simp only [Act.put, List.setIfInBounds_toArray, List.set_cons_zero, List.set_cons_succ, i64_w, i32_w]
  rfl
 refine one_ (i := 6) (N := some 17) #[true, true, true, true, true, true, true, false, false, false] rfl rfl (one_of HT_.out (by kernel_rfl)) (by decide) (fun K hK => ?_)
 refine goes_ Try.func78 (by kernel_rfl) rfl #[.pointer (some ⟨g721, 0, none⟩), .agg #[.int .i64 t722, .int .i64 t723, .bool t724, .bool t725]] (by rfl) rfl rfl zz24 ?_
 with_reducible refine (spec_l5Val.calls k g721 t718 t732 t733 t722 t723 t724 t725 t734 t735 t736 t737 t738 w _ ?z1 ?z2 A5.out).mono ?_
 (case z1 => exact zz69)
 (case z2 => exact zz51)
 rintro e w20 ⟨rfl, hi, hb, hk⟩
 refine ⟨_, rfl, ?_⟩
 have n0_ := zV hk BK715 NB715_721
 have n1_ := zV hk BK716 NB716_721
 have n2_ := zV hk BK717 NB717_721
 have n3_ := zV hk BK728 NB728_721
 have n4_ := zA hb
 have n5_ := zA hi
 clear BK715 BK716 BK717 BK728 HB HI721
 have BK715 := n0_; have BK716 := n1_; have BK717 := n2_; have BK728 := n3_; have HB := n4_; have HI721 := n5_
 clear n0_ n1_ n2_ n3_ n4_ n5_
 (try clear hb)
 (try clear hb2)
 (try clear hk)
 (try clear hi)
 refine hK.out _ _ ⟨(blk_cell BK728.out 0).trans rfl, (blk_cell BK728.out 1).trans rfl, (blk_cell BK728.out 2).trans rfl, (blk_cell BK728.out 3).trans rfl⟩ (fun hHeld => ?_)
 clear hK K
 refine norm_ (a' := ?_) ?_ ?_; rotate_left
 ·show Act.put _ (some 17) _ = _
  simp only [Act.put, List.setIfInBounds_toArray, List.set_cons_zero, List.set_cons_succ, i64_w, i32_w]
  rfl
 refine one_ (i := 7) (N := none) #[true, true, true, true, true, true, true, true, false, false] rfl rfl (one_of HT_.out (by kernel_rfl)) (by decide) (fun K hK => ?_)
 have hs21 : w20.cell? ⟨gb715, 0, none⟩ = some (.int .i64 0) := (blk_cell BK715.out 0).trans rfl
 have hfs21 := blk_frozen BK715.out 0
 have hns21_1 := NB716_715.out
 have hns21_2 := NB717_715.out
 have hns21_3 := NB728_715.out
 have hms21_1 := NB715_716.out
 have hms21_2 := NB715_717.out
 have hms21_3 := NB715_728.out
 have hs22 : w20.cell? ⟨gb715, 1, none⟩ = some (.int .i64 0) := (blk_cell BK715.out 1).trans rfl
 have hfs22 := blk_frozen BK715.out 1
 have hns22_1 := NB716_715.out
 have hns22_2 := NB717_715.out
 have hns22_3 := NB728_715.out
 have hms22_1 := NB715_716.out
 have hms22_2 := NB715_717.out
 have hms22_3 := NB715_728.out
 have hs23 : w20.cell? ⟨gb715, 2, none⟩ = some (.bool false) := (blk_cell BK715.out 2).trans rfl
 have hfs23 := blk_frozen BK715.out 2
 have hns23_1 := NB716_715.out
 have hns23_2 := NB717_715.out
 have hns23_3 := NB728_715.out
 have hms23_1 := NB715_716.out
 have hms23_2 := NB715_717.out
 have hms23_3 := NB715_728.out
 have hs24 : w20.cell? ⟨gb715, 3, none⟩ = some (.bool false) := (blk_cell BK715.out 3).trans rfl
 have hfs24 := blk_frozen BK715.out 3
 have hns24_1 := NB716_715.out
 have hns24_2 := NB717_715.out
 have hns24_3 := NB728_715.out
 have hms24_1 := NB715_716.out
 have hms24_2 := NB715_717.out
 have hms24_3 := NB715_728.out
 refine skip_ (w1 := ?_) ?_ ?_ ?_ ?_; rotate_left
 ·rfl
 ·rfl
 ·go_simp
  rfl
 refine hK.out _ _ ⟨((cell_far (p := ⟨gb715, _, none⟩) NB728_715.out _).trans (((cell_far (p := ⟨gb715, _, none⟩) NB728_715.out _).trans (((cell_far (p := ⟨gb715, _, none⟩) NB728_715.out _).trans (((cell_far (p := ⟨gb715, _, none⟩) NB728_715.out _).trans (hHeld.1)))))))), ((cell_far (p := ⟨gb715, _, none⟩) NB728_715.out _).trans (((cell_far (p := ⟨gb715, _, none⟩) NB728_715.out _).trans (((cell_far (p := ⟨gb715, _, none⟩) NB728_715.out _).trans (((cell_far (p := ⟨gb715, _, none⟩) NB728_715.out _).trans (hHeld.2.1)))))))), ((cell_far (p := ⟨gb715, _, none⟩) NB728_715.out _).trans (((cell_far (p := ⟨gb715, _, none⟩) NB728_715.out _).trans (((cell_far (p := ⟨gb715, _, none⟩) NB728_715.out _).trans (((cell_far (p := ⟨gb715, _, none⟩) NB728_715.out _).trans (hHeld.2.2.1)))))))), ((cell_far (p := ⟨gb715, _, none⟩) NB728_715.out _).trans (((cell_far (p := ⟨gb715, _, none⟩) NB728_715.out _).trans (((cell_far (p := ⟨gb715, _, none⟩) NB728_715.out _).trans (((cell_far (p := ⟨gb715, _, none⟩) NB728_715.out _).trans (hHeld.2.2.2))))))))⟩ (fun hHeld => ?_)
 clear hK K
 refine one_ (i := 8) (N := none) #[true, true, true, true, true, true, true, true, true, false] rfl rfl (one_of HT_.out (by kernel_rfl)) (by decide) (fun K hK => ?_)
 have hs25 : w20.cell? ⟨gb716, 0, none⟩ = some (.int .i64 0) := (blk_cell BK716.out 0).trans rfl
 have hfs25 := blk_frozen BK716.out 0
 have hns25_0 := NB715_716.out
 have hns25_2 := NB717_716.out
 have hns25_3 := NB728_716.out
 have hms25_0 := NB716_715.out
 have hms25_2 := NB716_717.out
 have hms25_3 := NB716_728.out
 have hs26 : w20.cell? ⟨gb716, 1, none⟩ = some (.int .i64 0) := (blk_cell BK716.out 1).trans rfl
 have hfs26 := blk_frozen BK716.out 1
 have hns26_0 := NB715_716.out
 have hns26_2 := NB717_716.out
 have hns26_3 := NB728_716.out
 have hms26_0 := NB716_715.out
 have hms26_2 := NB716_717.out
 have hms26_3 := NB716_728.out
 have hs27 : w20.cell? ⟨gb716, 2, none⟩ = some (.string (⟨#[]⟩ : ByteArray)) := (blk_cell BK716.out 2).trans rfl
 have hfs27 := blk_frozen BK716.out 2
 have hns27_0 := NB715_716.out
 have hns27_2 := NB717_716.out
 have hns27_3 := NB728_716.out
 have hms27_0 := NB716_715.out
 have hms27_2 := NB716_717.out
 have hms27_3 := NB716_728.out
 refine skip_ (w1 := ?_) ?_ ?_ ?_ ?_; rotate_left
 ·rfl
 ·rfl
 ·go_simp
  rfl
 refine hK.out _ _ ⟨((cell_far (p := ⟨gb716, _, none⟩) NB728_716.out _).trans (((cell_far (p := ⟨gb716, _, none⟩) NB728_716.out _).trans (((cell_far (p := ⟨gb716, _, none⟩) NB728_716.out _).trans (hHeld.1)))))), ((cell_far (p := ⟨gb716, _, none⟩) NB728_716.out _).trans (((cell_far (p := ⟨gb716, _, none⟩) NB728_716.out _).trans (((cell_far (p := ⟨gb716, _, none⟩) NB728_716.out _).trans (hHeld.2.1)))))), ((cell_far (p := ⟨gb716, _, none⟩) NB728_716.out _).trans (((cell_far (p := ⟨gb716, _, none⟩) NB728_716.out _).trans (((cell_far (p := ⟨gb716, _, none⟩) NB728_716.out _).trans (hHeld.2.2.1)))))), ((cell_far (p := ⟨gb716, _, none⟩) NB728_716.out _).trans (((cell_far (p := ⟨gb716, _, none⟩) NB728_716.out _).trans (((cell_far (p := ⟨gb716, _, none⟩) NB728_716.out _).trans (hHeld.2.2.2))))))⟩ (fun hHeld => ?_)
 clear hK K
 refine one_ (i := 9) (N := none) #[true, true, true, true, true, true, true, true, true, true] rfl rfl (one_of HT_.out (by kernel_rfl)) (by decide) (fun K hK => ?_)
 have hs28 : w20.cell? ⟨gb717, 0, none⟩ = some (.int .i64 0) := (blk_cell BK717.out 0).trans rfl
 have hfs28 := blk_frozen BK717.out 0
 have hns28_0 := NB715_717.out
 have hns28_1 := NB716_717.out
 have hns28_3 := NB728_717.out
 have hms28_0 := NB717_715.out
 have hms28_1 := NB717_716.out
 have hms28_3 := NB717_728.out
 have hs29 : w20.cell? ⟨gb717, 1, none⟩ = some (.int .i64 0) := (blk_cell BK717.out 1).trans rfl
 have hfs29 := blk_frozen BK717.out 1
 have hns29_0 := NB715_717.out
 have hns29_1 := NB716_717.out
 have hns29_3 := NB728_717.out
 have hms29_0 := NB717_715.out
 have hms29_1 := NB717_716.out
 have hms29_3 := NB717_728.out
 have hs30 : w20.cell? ⟨gb717, 2, none⟩ = some (.string (⟨#[]⟩ : ByteArray)) := (blk_cell BK717.out 2).trans rfl
 have hfs30 := blk_frozen BK717.out 2
 have hns30_0 := NB715_717.out
 have hns30_1 := NB716_717.out
 have hns30_3 := NB728_717.out
 have hms30_0 := NB717_715.out
 have hms30_1 := NB717_716.out
 have hms30_3 := NB717_728.out
 refine skip_ (w1 := ?_) ?_ ?_ ?_ ?_; rotate_left
 ·rfl
 ·rfl
 ·go_simp
  rfl
 refine hK.out _ _ ⟨((cell_far (p := ⟨gb717, _, none⟩) NB728_717.out _).trans (((cell_far (p := ⟨gb717, _, none⟩) NB728_717.out _).trans (((cell_far (p := ⟨gb717, _, none⟩) NB728_717.out _).trans (hHeld.1)))))), ((cell_far (p := ⟨gb717, _, none⟩) NB728_717.out _).trans (((cell_far (p := ⟨gb717, _, none⟩) NB728_717.out _).trans (((cell_far (p := ⟨gb717, _, none⟩) NB728_717.out _).trans (hHeld.2.1)))))), ((cell_far (p := ⟨gb717, _, none⟩) NB728_717.out _).trans (((cell_far (p := ⟨gb717, _, none⟩) NB728_717.out _).trans (((cell_far (p := ⟨gb717, _, none⟩) NB728_717.out _).trans (hHeld.2.2.1)))))), ((cell_far (p := ⟨gb717, _, none⟩) NB728_717.out _).trans (((cell_far (p := ⟨gb717, _, none⟩) NB728_717.out _).trans (((cell_far (p := ⟨gb717, _, none⟩) NB728_717.out _).trans (hHeld.2.2.2))))))⟩ (fun hHeld => ?_)
 clear hK K
 refine done_ (done_of HT_.out (by kernel_rfl)) ?_
 try go_wp2
 refine bodyPost_ret (results_list (rs := [.cell 2 30, .cell 3 32, .cell 4 32]) rfl (by simp) (.cell gb715 30 #[.int .i64 t722, .int .i64 t723, .bool t724, .bool t725] (0, 0) _ rfl (by (with_reducible repeat (first | refine blk_drewN ?_ _ | refine blk_drew ?_ | refine blk_alloc ?_ _)); refine blk_far ?_ NB715_717.out _; (with_reducible repeat (first | refine blk_drewN ?_ _ | refine blk_drew ?_ | refine blk_alloc ?_ _)); refine blk_far ?_ NB715_717.out _; (with_reducible repeat (first | refine blk_drewN ?_ _ | refine blk_drew ?_ | refine blk_alloc ?_ _)); refine blk_far ?_ NB715_717.out _; (with_reducible repeat (first | refine blk_drewN ?_ _ | refine blk_drew ?_ | refine blk_alloc ?_ _)); refine blk_far ?_ NB715_716.out _; (with_reducible repeat (first | refine blk_drewN ?_ _ | refine blk_drew ?_ | refine blk_alloc ?_ _)); refine blk_far ?_ NB715_716.out _; (with_reducible repeat (first | refine blk_drewN ?_ _ | refine blk_drew ?_ | refine blk_alloc ?_ _)); refine blk_far ?_ NB715_716.out _; (with_reducible repeat (first | refine blk_drewN ?_ _ | refine blk_drew ?_ | refine blk_alloc ?_ _)); refine blk_put (cs := #[.int .i64 t722, .int .i64 t723, .bool t724, .bool false]) ?_ 3 _ rfl; (with_reducible repeat (first | refine blk_drewN ?_ _ | refine blk_drew ?_ | refine blk_alloc ?_ _)); refine blk_put (cs := #[.int .i64 t722, .int .i64 t723, .bool false, .bool false]) ?_ 2 _ rfl; (with_reducible repeat (first | refine blk_drewN ?_ _ | refine blk_drew ?_ | refine blk_alloc ?_ _)); refine blk_put (cs := #[.int .i64 t722, .int .i64 0, .bool false, .bool false]) ?_ 1 _ rfl; (with_reducible repeat (first | refine blk_drewN ?_ _ | refine blk_drew ?_ | refine blk_alloc ?_ _)); refine blk_put (cs := #[.int .i64 0, .int .i64 0, .bool false, .bool false]) ?_ 0 _ rfl; (with_reducible repeat (first | refine blk_drewN ?_ _ | refine blk_drew ?_ | refine blk_alloc ?_ _)); exact BK715.out) Try.underlying30 rfl (by kernel_rfl) (.cell gb716 32 #[.int .i64 t729, .int .i64 t730, .string t731] (0, 0) _ rfl (by (with_reducible repeat (first | refine blk_drewN ?_ _ | refine blk_drew ?_ | refine blk_alloc ?_ _)); refine blk_far ?_ NB716_717.out _; (with_reducible repeat (first | refine blk_drewN ?_ _ | refine blk_drew ?_ | refine blk_alloc ?_ _)); refine blk_far ?_ NB716_717.out _; (with_reducible repeat (first | refine blk_drewN ?_ _ | refine blk_drew ?_ | refine blk_alloc ?_ _)); refine blk_far ?_ NB716_717.out _; (with_reducible repeat (first | refine blk_drewN ?_ _ | refine blk_drew ?_ | refine blk_alloc ?_ _)); refine blk_put (cs := #[.int .i64 t729, .int .i64 t730, .string (⟨#[]⟩ : ByteArray)]) ?_ 2 _ rfl; (with_reducible repeat (first | refine blk_drewN ?_ _ | refine blk_drew ?_ | refine blk_alloc ?_ _)); refine blk_put (cs := #[.int .i64 t729, .int .i64 0, .string (⟨#[]⟩ : ByteArray)]) ?_ 1 _ rfl; (with_reducible repeat (first | refine blk_drewN ?_ _ | refine blk_drew ?_ | refine blk_alloc ?_ _)); refine blk_put (cs := #[.int .i64 0, .int .i64 0, .string (⟨#[]⟩ : ByteArray)]) ?_ 0 _ rfl; (with_reducible repeat (first | refine blk_drewN ?_ _ | refine blk_drew ?_ | refine blk_alloc ?_ _)); refine blk_far ?_ NB716_715.out _; (with_reducible repeat (first | refine blk_drewN ?_ _ | refine blk_drew ?_ | refine blk_alloc ?_ _)); refine blk_far ?_ NB716_715.out _; (with_reducible repeat (first | refine blk_drewN ?_ _ | refine blk_drew ?_ | refine blk_alloc ?_ _)); refine blk_far ?_ NB716_715.out _; (with_reducible repeat (first | refine blk_drewN ?_ _ | refine blk_drew ?_ | refine blk_alloc ?_ _)); refine blk_far ?_ NB716_715.out _; (with_reducible repeat (first | refine blk_drewN ?_ _ | refine blk_drew ?_ | refine blk_alloc ?_ _)); exact BK716.out) Try.underlying32 rfl (by kernel_rfl) (.cell gb717 32 #[.int .i64 t734, .int .i64 t735, .string t736] (0, 0) _ rfl (by (with_reducible repeat (first | refine blk_drewN ?_ _ | refine blk_drew ?_ | refine blk_alloc ?_ _)); refine blk_put (cs := #[.int .i64 t734, .int .i64 t735, .string (⟨#[]⟩ : ByteArray)]) ?_ 2 _ rfl; (with_reducible repeat (first | refine blk_drewN ?_ _ | refine blk_drew ?_ | refine blk_alloc ?_ _)); refine blk_put (cs := #[.int .i64 t734, .int .i64 0, .string (⟨#[]⟩ : ByteArray)]) ?_ 1 _ rfl; (with_reducible repeat (first | refine blk_drewN ?_ _ | refine blk_drew ?_ | refine blk_alloc ?_ _)); refine blk_put (cs := #[.int .i64 0, .int .i64 0, .string (⟨#[]⟩ : ByteArray)]) ?_ 0 _ rfl; (with_reducible repeat (first | refine blk_drewN ?_ _ | refine blk_drew ?_ | refine blk_alloc ?_ _)); refine blk_far ?_ NB717_716.out _; (with_reducible repeat (first | refine blk_drewN ?_ _ | refine blk_drew ?_ | refine blk_alloc ?_ _)); refine blk_far ?_ NB717_716.out _; (with_reducible repeat (first | refine blk_drewN ?_ _ | refine blk_drew ?_ | refine blk_alloc ?_ _)); refine blk_far ?_ NB717_716.out _; (with_reducible repeat (first | refine blk_drewN ?_ _ | refine blk_drew ?_ | refine blk_alloc ?_ _)); refine blk_far ?_ NB717_715.out _; (with_reducible repeat (first | refine blk_drewN ?_ _ | refine blk_drew ?_ | refine blk_alloc ?_ _)); refine blk_far ?_ NB717_715.out _; (with_reducible repeat (first | refine blk_drewN ?_ _ | refine blk_drew ?_ | refine blk_alloc ?_ _)); refine blk_far ?_ NB717_715.out _; (with_reducible repeat (first | refine blk_drewN ?_ _ | refine blk_drew ?_ | refine blk_alloc ?_ _)); refine blk_far ?_ NB717_715.out _; (with_reducible repeat (first | refine blk_drewN ?_ _ | refine blk_drew ?_ | refine blk_alloc ?_ _)); exact BK717.out) Try.underlying32 rfl (by kernel_rfl) .nil)))) rfl ?_
 exact ⟨zw, zz51⟩

/-! ### impl_LessVal: function 84 -/
def impl_LessVal.f (a0_0 : Int) (a0_1 : Int) (a0_2 : ByteArray) (a1_0 : Int) (a1_1 : Int) (a1_2 : ByteArray) : Option (Bool) := if a0_0 = a1_0 then (if a0_1 = a1_1 then (some (Op.bytesLess a0_2.toList a1_2.toList)) else (some (decide (a0_1 < a1_1)))) else (some (decide (a0_0 < a1_0)))
set_option maxHeartbeats 8000000 in
set_option maxRecDepth 100000 in
theorem impl_LessVal.calls (a0_0 : Int) (a0_1 : Int) (a0_2 : ByteArray) (a1_0 : Int) (a1_1 : Int) (a1_2 : ByteArray) (r : Bool) (w : World) (h : impl_LessVal.f a0_0 a0_1 a0_2 a1_0 a1_1 a1_2 = some r) :
  Calls Try.prog 84 #[.agg #[.int .i64 a0_0, .int .i64 a0_1, .string a0_2], .agg #[.int .i64 a1_0, .int .i64 a1_1, .string a1_2]] w fun e w' => e = .returned (.bool r) ∧ Below w.heap.size w w' := by
 have hu32 := Try.underlying32
 have HB := zA (Below.refl w.heap.size w)
 have H : (if a0_0 = a1_0 then (if a0_1 = a1_1 then (some (Op.bytesLess a0_2.toList a1_2.toList)) else (some (decide (a0_1 < a1_1)))) else (some (decide (a0_0 < a1_0)))) = some r := h
 clear h
 by_cases c3 : a0_0 = a1_0
 ·rw [if_pos c3] at H
  have c3b0 : (a0_0 == a1_0) = true := beq_iff_eq.mpr c3
  have c3b1 : (a0_0 != a1_0) = false := bne_eq_false_iff_eq.mpr c3
  clear c3
  by_cases c4 : a0_1 = a1_1
  ·rw [if_pos c4] at H
   have c4b0 : (a0_1 == a1_1) = true := beq_iff_eq.mpr c4
   have c4b1 : (a0_1 != a1_1) = false := bne_eq_false_iff_eq.mpr c4
   clear c4
   obtain rfl := Option.some.inj H
   go_enter Try.func84, Try.ntmps84
   go_wp2_with (first | ((with_reducible refine zt 2 ?_); refine zn #[.int .i64 a0_0, .int .i64 a0_1, .string a0_2] 32 ?_; intro gb739 hg w5 hbox hb; have BK739 := zA hbox; have GW739 := zG hg; have GE739 := zG hg; replace HB := zS hb; clear hb hbox hg) | ((with_reducible refine zt 3 ?_); refine zn #[.int .i64 a1_0, .int .i64 a1_1, .string a1_2] 32 ?_; intro gb740 hg w6 hbox hb; have BK740 := zA hbox; have GW740 := zG hg (zb1 GE739); have GE740 := zG hg (zb1 GE739); replace HB := zS hb (zb1 GE739); have NB739_740 := zX BK739 hg; have NB740_739 := zY BK739 hg; replace BK739 := zB BK739 hb; clear hb hbox hg; have hnb7 := NB739_740.out; have hnc7 := NB740_739.out; obtain ⟨hcz8_0, hcz8_1, hcz8_2, hfz8_0, hfz8_1, hfz8_2⟩ := zh3 BK739; obtain ⟨hcz9_0, hcz9_1, hcz9_2, hfz9_0, hfz9_1, hfz9_2⟩ := zh3 BK740))
   go_ret
   exact ⟨zw, zb2 GE739 GE740⟩
  ·rw [if_neg c4] at H
   have c4b0 : (a0_1 == a1_1) = false := beq_eq_false_iff_ne.mpr c4
   have c4b1 : (a0_1 != a1_1) = true := bne_iff_ne.mpr c4
   obtain rfl := Option.some.inj H
   go_enter Try.func84, Try.ntmps84
   go_wp2_with (first | ((with_reducible refine zt 2 ?_); refine zn #[.int .i64 a0_0, .int .i64 a0_1, .string a0_2] 32 ?_; intro gb739 hg w10 hbox hb; have BK739 := zA hbox; have GW739 := zG hg; have GE739 := zG hg; replace HB := zS hb; clear hb hbox hg) | ((with_reducible refine zt 3 ?_); refine zn #[.int .i64 a1_0, .int .i64 a1_1, .string a1_2] 32 ?_; intro gb740 hg w11 hbox hb; have BK740 := zA hbox; have GW740 := zG hg (zb1 GE739); have GE740 := zG hg (zb1 GE739); replace HB := zS hb (zb1 GE739); have NB739_740 := zX BK739 hg; have NB740_739 := zY BK739 hg; replace BK739 := zB BK739 hb; clear hb hbox hg; have hnb12 := NB739_740.out; have hnc12 := NB740_739.out; obtain ⟨hcz13_0, hcz13_1, hcz13_2, hfz13_0, hfz13_1, hfz13_2⟩ := zh3 BK739; obtain ⟨hcz14_0, hcz14_1, hcz14_2, hfz14_0, hfz14_1, hfz14_2⟩ := zh3 BK740))
   go_ret
   exact ⟨zw, zb2 GE739 GE740⟩
 ·rw [if_neg c3] at H
  have c3b0 : (a0_0 == a1_0) = false := beq_eq_false_iff_ne.mpr c3
  have c3b1 : (a0_0 != a1_0) = true := bne_iff_ne.mpr c3
  obtain rfl := Option.some.inj H
  go_enter Try.func84, Try.ntmps84
  go_wp2_with (first | ((with_reducible refine zt 2 ?_); refine zn #[.int .i64 a0_0, .int .i64 a0_1, .string a0_2] 32 ?_; intro gb739 hg w15 hbox hb; have BK739 := zA hbox; have GW739 := zG hg; have GE739 := zG hg; replace HB := zS hb; clear hb hbox hg) | ((with_reducible refine zt 3 ?_); refine zn #[.int .i64 a1_0, .int .i64 a1_1, .string a1_2] 32 ?_; intro gb740 hg w16 hbox hb; have BK740 := zA hbox; have GW740 := zG hg (zb1 GE739); have GE740 := zG hg (zb1 GE739); replace HB := zS hb (zb1 GE739); have NB739_740 := zX BK739 hg; have NB740_739 := zY BK739 hg; replace BK739 := zB BK739 hb; clear hb hbox hg; have hnb17 := NB739_740.out; have hnc17 := NB740_739.out; obtain ⟨hcz18_0, hcz18_1, hcz18_2, hfz18_0, hfz18_1, hfz18_2⟩ := zh3 BK739; obtain ⟨hcz19_0, hcz19_1, hcz19_2, hfz19_0, hfz19_1, hfz19_2⟩ := zh3 BK740))
  go_ret
  exact ⟨zw, zb2 GE739 GE740⟩

/-! ### impl_LessPart: function 34 -/
def impl_LessPart.f (a0_0 : Int) (a0_1 : Int) (a0_2 : Bool) (a0_3 : Bool) (a1_0 : Int) (a1_1 : Int) (a1_2 : ByteArray) (a2_0 : Int) (a2_1 : Int) (a2_2 : ByteArray) : Option (Bool) := if a0_3 = true then ((impl_LessVal.f a2_0 a2_1 a2_2 a1_0 a1_1 a1_2).bind fun t744 => (some t744)) else ((impl_LessVal.f a1_0 a1_1 a1_2 a2_0 a2_1 a2_2).bind fun t745 => (some t745))
set_option maxHeartbeats 8000000 in
set_option maxRecDepth 100000 in
theorem impl_LessPart.calls (a0_0 : Int) (a0_1 : Int) (a0_2 : Bool) (a0_3 : Bool) (a1_0 : Int) (a1_1 : Int) (a1_2 : ByteArray) (a2_0 : Int) (a2_1 : Int) (a2_2 : ByteArray) (r : Bool) (w : World) (h : impl_LessPart.f a0_0 a0_1 a0_2 a0_3 a1_0 a1_1 a1_2 a2_0 a2_1 a2_2 = some r) :
  Calls Try.prog 34 #[.agg #[.int .i64 a0_0, .int .i64 a0_1, .bool a0_2, .bool a0_3], .agg #[.int .i64 a1_0, .int .i64 a1_1, .string a1_2], .agg #[.int .i64 a2_0, .int .i64 a2_1, .string a2_2]] w fun e w' => e = .returned (.bool r) ∧ Below w.heap.size w w' := by
 have hu30 := Try.underlying30
 have hu32 := Try.underlying32
 have HB := zA (Below.refl w.heap.size w)
 have H : (if a0_3 = true then ((impl_LessVal.f a2_0 a2_1 a2_2 a1_0 a1_1 a1_2).bind fun t744 => (some t744)) else ((impl_LessVal.f a1_0 a1_1 a1_2 a2_0 a2_1 a2_2).bind fun t745 => (some t745))) = some r := h
 clear h
 by_cases c4 : a0_3 = true
 ·subst c4
  rw [if_pos rfl] at H
  replace H := zI H
  obtain ⟨t744, A5, H⟩ := H
  obtain rfl := Option.some.inj H
  go_enter Try.func34, Try.ntmps34
  go_wp2_with (first | ((with_reducible refine zt 3 ?_); refine zn #[.int .i64 a0_0, .int .i64 a0_1, .bool a0_2, .bool true] 30 ?_; intro gb741 hg w6 hbox hb; have BK741 := zA hbox; have GW741 := zG hg; have GE741 := zG hg; replace HB := zS hb; clear hb hbox hg) | ((with_reducible refine zt 4 ?_); refine zn #[.int .i64 a1_0, .int .i64 a1_1, .string a1_2] 32 ?_; intro gb742 hg w7 hbox hb; have BK742 := zA hbox; have GW742 := zG hg (zb1 GE741); have GE742 := zG hg (zb1 GE741); replace HB := zS hb (zb1 GE741); have NB741_742 := zX BK741 hg; have NB742_741 := zY BK741 hg; replace BK741 := zB BK741 hb; clear hb hbox hg) | ((with_reducible refine zt 5 ?_); refine zn #[.int .i64 a2_0, .int .i64 a2_1, .string a2_2] 32 ?_; intro gb743 hg w8 hbox hb; have BK743 := zA hbox; have GW743 := zG hg (zb2 GE741 GE742); have GE743 := zG hg (zb2 GE741 GE742); replace HB := zS hb (zb2 GE741 GE742); have NB741_743 := zX BK741 hg; have NB743_741 := zY BK741 hg; replace BK741 := zB BK741 hb; have NB742_743 := zX BK742 hg; have NB743_742 := zY BK742 hg; replace BK742 := zB BK742 hb; clear hb hbox hg; have hnb9 := NB741_742.out; have hnc9 := NB742_741.out; have hnb10 := NB741_743.out; have hnc10 := NB743_741.out; obtain ⟨hcz11_0, hcz11_1, hcz11_2, hcz11_3, hfz11_0, hfz11_1, hfz11_2, hfz11_3⟩ := zh4 BK741; have hnb12 := NB743_742.out; have hnc12 := NB742_743.out; obtain ⟨hcz13_0, hcz13_1, hcz13_2, hfz13_0, hfz13_1, hfz13_2⟩ := zh3 BK743; obtain ⟨hcz14_0, hcz14_1, hcz14_2, hfz14_0, hfz14_1, hfz14_2⟩ := zh3 BK742) | ((with_reducible refine zg 84 ?_); refine gL (some 11) Try.func84 #[.agg #[.int .i64 a2_0, .int .i64 a2_1, .string a2_2], .agg #[.int .i64 a1_0, .int .i64 a1_1, .string a1_2]] ?_; (with_reducible refine (impl_LessVal.calls a2_0 a2_1 a2_2 a1_0 a1_1 a1_2 t744 _ A5.out).mono ?_); rintro e w15 ⟨rfl, hb⟩; refine ⟨_, rfl, ?_⟩; replace BK741 := zB BK741 hb; replace BK742 := zB BK742 hb; replace BK743 := zB BK743 hb; replace HB := zS hb zz72; (try clear hb)))
  go_ret
  exact ⟨zw, zz72⟩
 ·replace c4 := Bool.eq_false_iff.mpr c4
  subst c4
  rw [if_neg (Bool.false_ne_true)] at H
  replace H := zI H
  obtain ⟨t745, A16, H⟩ := H
  obtain rfl := Option.some.inj H
  go_enter Try.func34, Try.ntmps34
  go_wp2_with (first | ((with_reducible refine zt 3 ?_); refine zn #[.int .i64 a0_0, .int .i64 a0_1, .bool a0_2, .bool false] 30 ?_; intro gb741 hg w17 hbox hb; have BK741 := zA hbox; have GW741 := zG hg; have GE741 := zG hg; replace HB := zS hb; clear hb hbox hg) | ((with_reducible refine zt 4 ?_); refine zn #[.int .i64 a1_0, .int .i64 a1_1, .string a1_2] 32 ?_; intro gb742 hg w18 hbox hb; have BK742 := zA hbox; have GW742 := zG hg (zb1 GE741); have GE742 := zG hg (zb1 GE741); replace HB := zS hb (zb1 GE741); have NB741_742 := zX BK741 hg; have NB742_741 := zY BK741 hg; replace BK741 := zB BK741 hb; clear hb hbox hg) | ((with_reducible refine zt 5 ?_); refine zn #[.int .i64 a2_0, .int .i64 a2_1, .string a2_2] 32 ?_; intro gb743 hg w19 hbox hb; have BK743 := zA hbox; have GW743 := zG hg (zb2 GE741 GE742); have GE743 := zG hg (zb2 GE741 GE742); replace HB := zS hb (zb2 GE741 GE742); have NB741_743 := zX BK741 hg; have NB743_741 := zY BK741 hg; replace BK741 := zB BK741 hb; have NB742_743 := zX BK742 hg; have NB743_742 := zY BK742 hg; replace BK742 := zB BK742 hb; clear hb hbox hg; have hnb20 := NB741_742.out; have hnc20 := NB742_741.out; have hnb21 := NB741_743.out; have hnc21 := NB743_741.out; obtain ⟨hcz22_0, hcz22_1, hcz22_2, hcz22_3, hfz22_0, hfz22_1, hfz22_2, hfz22_3⟩ := zh4 BK741; have hnb23 := NB742_743.out; have hnc23 := NB743_742.out; obtain ⟨hcz24_0, hcz24_1, hcz24_2, hfz24_0, hfz24_1, hfz24_2⟩ := zh3 BK742; obtain ⟨hcz25_0, hcz25_1, hcz25_2, hfz25_0, hfz25_1, hfz25_2⟩ := zh3 BK743) | ((with_reducible refine zg 84 ?_); refine gL (some 14) Try.func84 #[.agg #[.int .i64 a1_0, .int .i64 a1_1, .string a1_2], .agg #[.int .i64 a2_0, .int .i64 a2_1, .string a2_2]] ?_; (with_reducible refine (impl_LessVal.calls a1_0 a1_1 a1_2 a2_0 a2_1 a2_2 t745 _ A16.out).mono ?_); rintro e w26 ⟨rfl, hb⟩; refine ⟨_, rfl, ?_⟩; replace BK741 := zB BK741 hb; replace BK742 := zB BK742 hb; replace BK743 := zB BK743 hb; replace HB := zS hb zz72; (try clear hb)))
  go_ret
  exact ⟨zw, zz72⟩

/-! ### spec_LessVal: function 85 -/
def spec_LessVal.f (a0_0 : Int) (a0_1 : Int) (a0_2 : ByteArray) (a1_0 : Int) (a1_1 : Int) (a1_2 : ByteArray) : Option (Bool) := if a0_0 = a1_0 then (if a0_1 = a1_1 then (some (Op.bytesLess a0_2.toList a1_2.toList)) else (some (decide (a0_1 < a1_1)))) else (some (decide (a0_0 < a1_0)))
set_option maxHeartbeats 8000000 in
set_option maxRecDepth 100000 in
theorem spec_LessVal.calls (a0_0 : Int) (a0_1 : Int) (a0_2 : ByteArray) (a1_0 : Int) (a1_1 : Int) (a1_2 : ByteArray) (r : Bool) (w : World) (h : spec_LessVal.f a0_0 a0_1 a0_2 a1_0 a1_1 a1_2 = some r) :
  Calls Try.prog 85 #[.agg #[.int .i64 a0_0, .int .i64 a0_1, .string a0_2], .agg #[.int .i64 a1_0, .int .i64 a1_1, .string a1_2]] w fun e w' => e = .returned (.bool r) ∧ Below w.heap.size w w' := by
 have hu32 := Try.underlying32
 have HB := zA (Below.refl w.heap.size w)
 have H : (if a0_0 = a1_0 then (if a0_1 = a1_1 then (some (Op.bytesLess a0_2.toList a1_2.toList)) else (some (decide (a0_1 < a1_1)))) else (some (decide (a0_0 < a1_0)))) = some r := h
 clear h
 by_cases c3 : a0_0 = a1_0
 ·rw [if_pos c3] at H
  have c3b0 : (a0_0 == a1_0) = true := beq_iff_eq.mpr c3
  have c3b1 : (a0_0 != a1_0) = false := bne_eq_false_iff_eq.mpr c3
  clear c3
  by_cases c4 : a0_1 = a1_1
  ·rw [if_pos c4] at H
   have c4b0 : (a0_1 == a1_1) = true := beq_iff_eq.mpr c4
   have c4b1 : (a0_1 != a1_1) = false := bne_eq_false_iff_eq.mpr c4
   clear c4
   obtain rfl := Option.some.inj H
   go_enter Try.func85, Try.ntmps85
   go_wp2_with (first | ((with_reducible refine zt 2 ?_); refine zn #[.int .i64 a0_0, .int .i64 a0_1, .string a0_2] 32 ?_; intro gb746 hg w5 hbox hb; have BK746 := zA hbox; have GW746 := zG hg; have GE746 := zG hg; replace HB := zS hb; clear hb hbox hg) | ((with_reducible refine zt 3 ?_); refine zn #[.int .i64 a1_0, .int .i64 a1_1, .string a1_2] 32 ?_; intro gb747 hg w6 hbox hb; have BK747 := zA hbox; have GW747 := zG hg (zb1 GE746); have GE747 := zG hg (zb1 GE746); replace HB := zS hb (zb1 GE746); have NB746_747 := zX BK746 hg; have NB747_746 := zY BK746 hg; replace BK746 := zB BK746 hb; clear hb hbox hg; have hnb7 := NB746_747.out; have hnc7 := NB747_746.out; obtain ⟨hcz8_0, hcz8_1, hcz8_2, hfz8_0, hfz8_1, hfz8_2⟩ := zh3 BK746; obtain ⟨hcz9_0, hcz9_1, hcz9_2, hfz9_0, hfz9_1, hfz9_2⟩ := zh3 BK747))
   go_ret
   exact ⟨zw, zb2 GE746 GE747⟩
  ·rw [if_neg c4] at H
   have c4b0 : (a0_1 == a1_1) = false := beq_eq_false_iff_ne.mpr c4
   have c4b1 : (a0_1 != a1_1) = true := bne_iff_ne.mpr c4
   obtain rfl := Option.some.inj H
   go_enter Try.func85, Try.ntmps85
   go_wp2_with (first | ((with_reducible refine zt 2 ?_); refine zn #[.int .i64 a0_0, .int .i64 a0_1, .string a0_2] 32 ?_; intro gb746 hg w10 hbox hb; have BK746 := zA hbox; have GW746 := zG hg; have GE746 := zG hg; replace HB := zS hb; clear hb hbox hg) | ((with_reducible refine zt 3 ?_); refine zn #[.int .i64 a1_0, .int .i64 a1_1, .string a1_2] 32 ?_; intro gb747 hg w11 hbox hb; have BK747 := zA hbox; have GW747 := zG hg (zb1 GE746); have GE747 := zG hg (zb1 GE746); replace HB := zS hb (zb1 GE746); have NB746_747 := zX BK746 hg; have NB747_746 := zY BK746 hg; replace BK746 := zB BK746 hb; clear hb hbox hg; have hnb12 := NB746_747.out; have hnc12 := NB747_746.out; obtain ⟨hcz13_0, hcz13_1, hcz13_2, hfz13_0, hfz13_1, hfz13_2⟩ := zh3 BK746; obtain ⟨hcz14_0, hcz14_1, hcz14_2, hfz14_0, hfz14_1, hfz14_2⟩ := zh3 BK747))
   go_ret
   exact ⟨zw, zb2 GE746 GE747⟩
 ·rw [if_neg c3] at H
  have c3b0 : (a0_0 == a1_0) = false := beq_eq_false_iff_ne.mpr c3
  have c3b1 : (a0_0 != a1_0) = true := bne_iff_ne.mpr c3
  obtain rfl := Option.some.inj H
  go_enter Try.func85, Try.ntmps85
  go_wp2_with (first | ((with_reducible refine zt 2 ?_); refine zn #[.int .i64 a0_0, .int .i64 a0_1, .string a0_2] 32 ?_; intro gb746 hg w15 hbox hb; have BK746 := zA hbox; have GW746 := zG hg; have GE746 := zG hg; replace HB := zS hb; clear hb hbox hg) | ((with_reducible refine zt 3 ?_); refine zn #[.int .i64 a1_0, .int .i64 a1_1, .string a1_2] 32 ?_; intro gb747 hg w16 hbox hb; have BK747 := zA hbox; have GW747 := zG hg (zb1 GE746); have GE747 := zG hg (zb1 GE746); replace HB := zS hb (zb1 GE746); have NB746_747 := zX BK746 hg; have NB747_746 := zY BK746 hg; replace BK746 := zB BK746 hb; clear hb hbox hg; have hnb17 := NB746_747.out; have hnc17 := NB747_746.out; obtain ⟨hcz18_0, hcz18_1, hcz18_2, hfz18_0, hfz18_1, hfz18_2⟩ := zh3 BK746; obtain ⟨hcz19_0, hcz19_1, hcz19_2, hfz19_0, hfz19_1, hfz19_2⟩ := zh3 BK747))
  go_ret
  exact ⟨zw, zb2 GE746 GE747⟩

/-! ### spec_LessPart: function 35 -/
def spec_LessPart.f (a0_0 : Int) (a0_1 : Int) (a0_2 : Bool) (a0_3 : Bool) (a1_0 : Int) (a1_1 : Int) (a1_2 : ByteArray) (a2_0 : Int) (a2_1 : Int) (a2_2 : ByteArray) : Option (Bool) := if a0_3 = true then ((spec_LessVal.f a2_0 a2_1 a2_2 a1_0 a1_1 a1_2).bind fun t751 => (some t751)) else ((spec_LessVal.f a1_0 a1_1 a1_2 a2_0 a2_1 a2_2).bind fun t752 => (some t752))
set_option maxHeartbeats 8000000 in
set_option maxRecDepth 100000 in
theorem spec_LessPart.calls (a0_0 : Int) (a0_1 : Int) (a0_2 : Bool) (a0_3 : Bool) (a1_0 : Int) (a1_1 : Int) (a1_2 : ByteArray) (a2_0 : Int) (a2_1 : Int) (a2_2 : ByteArray) (r : Bool) (w : World) (h : spec_LessPart.f a0_0 a0_1 a0_2 a0_3 a1_0 a1_1 a1_2 a2_0 a2_1 a2_2 = some r) :
  Calls Try.prog 35 #[.agg #[.int .i64 a0_0, .int .i64 a0_1, .bool a0_2, .bool a0_3], .agg #[.int .i64 a1_0, .int .i64 a1_1, .string a1_2], .agg #[.int .i64 a2_0, .int .i64 a2_1, .string a2_2]] w fun e w' => e = .returned (.bool r) ∧ Below w.heap.size w w' := by
 have hu30 := Try.underlying30
 have hu32 := Try.underlying32
 have HB := zA (Below.refl w.heap.size w)
 have H : (if a0_3 = true then ((spec_LessVal.f a2_0 a2_1 a2_2 a1_0 a1_1 a1_2).bind fun t751 => (some t751)) else ((spec_LessVal.f a1_0 a1_1 a1_2 a2_0 a2_1 a2_2).bind fun t752 => (some t752))) = some r := h
 clear h
 by_cases c4 : a0_3 = true
 ·subst c4
  rw [if_pos rfl] at H
  replace H := zI H
  obtain ⟨t751, A5, H⟩ := H
  obtain rfl := Option.some.inj H
  go_enter Try.func35, Try.ntmps35
  go_wp2_with (first | ((with_reducible refine zt 3 ?_); refine zn #[.int .i64 a0_0, .int .i64 a0_1, .bool a0_2, .bool true] 30 ?_; intro gb748 hg w6 hbox hb; have BK748 := zA hbox; have GW748 := zG hg; have GE748 := zG hg; replace HB := zS hb; clear hb hbox hg) | ((with_reducible refine zt 4 ?_); refine zn #[.int .i64 a1_0, .int .i64 a1_1, .string a1_2] 32 ?_; intro gb749 hg w7 hbox hb; have BK749 := zA hbox; have GW749 := zG hg (zb1 GE748); have GE749 := zG hg (zb1 GE748); replace HB := zS hb (zb1 GE748); have NB748_749 := zX BK748 hg; have NB749_748 := zY BK748 hg; replace BK748 := zB BK748 hb; clear hb hbox hg) | ((with_reducible refine zt 5 ?_); refine zn #[.int .i64 a2_0, .int .i64 a2_1, .string a2_2] 32 ?_; intro gb750 hg w8 hbox hb; have BK750 := zA hbox; have GW750 := zG hg (zb2 GE748 GE749); have GE750 := zG hg (zb2 GE748 GE749); replace HB := zS hb (zb2 GE748 GE749); have NB748_750 := zX BK748 hg; have NB750_748 := zY BK748 hg; replace BK748 := zB BK748 hb; have NB749_750 := zX BK749 hg; have NB750_749 := zY BK749 hg; replace BK749 := zB BK749 hb; clear hb hbox hg; have hnb9 := NB748_749.out; have hnc9 := NB749_748.out; have hnb10 := NB748_750.out; have hnc10 := NB750_748.out; obtain ⟨hcz11_0, hcz11_1, hcz11_2, hcz11_3, hfz11_0, hfz11_1, hfz11_2, hfz11_3⟩ := zh4 BK748; have hnb12 := NB750_749.out; have hnc12 := NB749_750.out; obtain ⟨hcz13_0, hcz13_1, hcz13_2, hfz13_0, hfz13_1, hfz13_2⟩ := zh3 BK750; obtain ⟨hcz14_0, hcz14_1, hcz14_2, hfz14_0, hfz14_1, hfz14_2⟩ := zh3 BK749) | ((with_reducible refine zg 85 ?_); refine gL (some 11) Try.func85 #[.agg #[.int .i64 a2_0, .int .i64 a2_1, .string a2_2], .agg #[.int .i64 a1_0, .int .i64 a1_1, .string a1_2]] ?_; (with_reducible refine (spec_LessVal.calls a2_0 a2_1 a2_2 a1_0 a1_1 a1_2 t751 _ A5.out).mono ?_); rintro e w15 ⟨rfl, hb⟩; refine ⟨_, rfl, ?_⟩; replace BK748 := zB BK748 hb; replace BK749 := zB BK749 hb; replace BK750 := zB BK750 hb; replace HB := zS hb zz73; (try clear hb)))
  go_ret
  exact ⟨zw, zz73⟩
 ·replace c4 := Bool.eq_false_iff.mpr c4
  subst c4
  rw [if_neg (Bool.false_ne_true)] at H
  replace H := zI H
  obtain ⟨t752, A16, H⟩ := H
  obtain rfl := Option.some.inj H
  go_enter Try.func35, Try.ntmps35
  go_wp2_with (first | ((with_reducible refine zt 3 ?_); refine zn #[.int .i64 a0_0, .int .i64 a0_1, .bool a0_2, .bool false] 30 ?_; intro gb748 hg w17 hbox hb; have BK748 := zA hbox; have GW748 := zG hg; have GE748 := zG hg; replace HB := zS hb; clear hb hbox hg) | ((with_reducible refine zt 4 ?_); refine zn #[.int .i64 a1_0, .int .i64 a1_1, .string a1_2] 32 ?_; intro gb749 hg w18 hbox hb; have BK749 := zA hbox; have GW749 := zG hg (zb1 GE748); have GE749 := zG hg (zb1 GE748); replace HB := zS hb (zb1 GE748); have NB748_749 := zX BK748 hg; have NB749_748 := zY BK748 hg; replace BK748 := zB BK748 hb; clear hb hbox hg) | ((with_reducible refine zt 5 ?_); refine zn #[.int .i64 a2_0, .int .i64 a2_1, .string a2_2] 32 ?_; intro gb750 hg w19 hbox hb; have BK750 := zA hbox; have GW750 := zG hg (zb2 GE748 GE749); have GE750 := zG hg (zb2 GE748 GE749); replace HB := zS hb (zb2 GE748 GE749); have NB748_750 := zX BK748 hg; have NB750_748 := zY BK748 hg; replace BK748 := zB BK748 hb; have NB749_750 := zX BK749 hg; have NB750_749 := zY BK749 hg; replace BK749 := zB BK749 hb; clear hb hbox hg; have hnb20 := NB748_749.out; have hnc20 := NB749_748.out; have hnb21 := NB748_750.out; have hnc21 := NB750_748.out; obtain ⟨hcz22_0, hcz22_1, hcz22_2, hcz22_3, hfz22_0, hfz22_1, hfz22_2, hfz22_3⟩ := zh4 BK748; have hnb23 := NB749_750.out; have hnc23 := NB750_749.out; obtain ⟨hcz24_0, hcz24_1, hcz24_2, hfz24_0, hfz24_1, hfz24_2⟩ := zh3 BK749; obtain ⟨hcz25_0, hcz25_1, hcz25_2, hfz25_0, hfz25_1, hfz25_2⟩ := zh3 BK750) | ((with_reducible refine zg 85 ?_); refine gL (some 14) Try.func85 #[.agg #[.int .i64 a1_0, .int .i64 a1_1, .string a1_2], .agg #[.int .i64 a2_0, .int .i64 a2_1, .string a2_2]] ?_; (with_reducible refine (spec_LessVal.calls a1_0 a1_1 a1_2 a2_0 a2_1 a2_2 t752 _ A16.out).mono ?_); rintro e w26 ⟨rfl, hb⟩; refine ⟨_, rfl, ?_⟩; replace BK748 := zB BK748 hb; replace BK749 := zB BK749 hb; replace BK750 := zB BK750 hb; replace HB := zS hb zz73; (try clear hb)))
  go_ret
  exact ⟨zw, zz73⟩

end Go.Proofs.Ytnfmpopmigbkoaa.PFnPartsRead

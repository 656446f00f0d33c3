-- Written by mkprint.py, a program of this session (the printer with additions of its own)
import Derived.Test.YtnfmpopmigbkoaaPFnKeysReadx0
import Derived.Test.YtnfmpopmigbkoaaPFnKeysReadx1
import Derived.Test.YtnfmpopmigbkoaaPFnKeysReadx2
import Derived.Test.YtnfmpopmigbkoaaPFnKeysReadx6
import Derived.Test.YtnfmpopmigbkoaaPFnKeysReadx15
import Derived.Test.YtnfmpopmigbkoaaPFnKeysReadx16
import Derived.Test.YtnfmpopmigbkoaaPFnKeysReadx17
namespace Go.Proofs.Ytnfmpopmigbkoaa.PFnKeysRead
open Go.RowKit Go.Proofs.YtnfmpopmigbkoaaW.PrintWords Go.Proofs.YtnfmpopmigbkoaaW.PrintLast Go.Proofs.YtnfmpopmigbkoaaW.PrintMore
attribute [local go_sem] max2_int min2_int max_two min_two max_three min_three max_four min_four   -- for this text's walks alone
set_option linter.unusedVariables false
set_option linter.unusedSimpArgs false

attribute [local go_sem high] eqA32
/-! ### spec_DrawDecodeKey: function 59 -/
def spec_DrawDecodeKey.f (k : Nat) (l0 : List Int) : Option ((List (S30)) × List Int) := (spec_l1New.f k l0).bind fun bt809 => ((spec_l6Any.f k bt809.1 bt809.2.1 bt809.2.2).bind fun bt813 => ((spec_l6Tuple.f k bt809.1 bt813.2.1 bt813.2.2 bt813.1).bind fun bt818 => ((spec_EncodeKey.f k bt813.1 bt818.1).bind fun t823 => ((spec_l1Bend.f bt809.1 bt818.2.1 bt818.2.2 t823).bind fun bt826 => (some (bt813.1, bt826.1))))))
set_option maxHeartbeats 8000000 in
set_option maxRecDepth 100000 in
theorem spec_DrawDecodeKey.calls (k : Nat) (A0 : Option Addr) (c0 : Nat) (l0 : List Int) (r1 : List (S30)) (r2 : List Int) (w : World) (hr0 : Kd.C (Kd.int .u8) w A0 l0.length l0) (hc0 : l0.length ≤ c0) (h : spec_DrawDecodeKey.f k l0 = some (r1, r2)) :
  Calls Try.prog 59 #[.slice A0 l0.length c0] w fun e w' => ∃ v0_ v1_ : Value, e = .returned (.tuple #[v0_, v1_]) ∧ Kd.R k30 30 w' w.heap.size (fun _ => True) v0_ r1 ∧ Kd.R (Kd.int .u8) 5 w' w.heap.size (fun _ => True) v1_ r2 ∧ Below w.heap.size w w' := by
 have HR0 := zA hr0
 have HC0 := zA hc0
 clear hr0 hc0
 have HB := zA (Below.refl w.heap.size w)
 have H : ((spec_l1New.f k l0).bind fun bt809 => ((spec_l6Any.f k bt809.1 bt809.2.1 bt809.2.2).bind fun bt813 => ((spec_l6Tuple.f k bt809.1 bt813.2.1 bt813.2.2 bt813.1).bind fun bt818 => ((spec_EncodeKey.f k bt813.1 bt818.1).bind fun t823 => ((spec_l1Bend.f bt809.1 bt818.2.1 bt818.2.2 t823).bind fun bt826 => (some (bt813.1, bt826.1))))))) = some (r1, r2) := h
 clear h
 replace H := zI H
 obtain ⟨⟨t809, t810, t811⟩, A2, H⟩ := H
 try dsimp only at H
 replace H := zI H
 obtain ⟨⟨t813, t816, t817⟩, A3, H⟩ := H
 try dsimp only at H
 replace H := zI H
 obtain ⟨⟨t818, t821, t822⟩, A4, H⟩ := H
 try dsimp only at H
 replace H := zI H
 obtain ⟨t823, A5, H⟩ := H
 replace H := zI H
 obtain ⟨⟨t826, t829, t830⟩, A6, H⟩ := H
 try dsimp only at H
 simp only [Option.some.injEq, Prod.mk.injEq] at H
 obtain ⟨rfl, rfl⟩ := H
 go_enter Try.func59, Try.ntmps59
 go_wp2_with (first | ((with_reducible refine zg 75 ?_); refine gL (some 7) Try.func75 #[.slice A0 l0.length c0] ?_; (with_reducible refine (spec_l1New.calls k _ _ l0 t809 t810 t811 w _ ?z1 ?z2 ?z3 A2.out).mono ?_); (case z1 => exact zb); (case z2 => exact HR0.out); (case z3 => exact HC0.out); rintro e w7 ⟨g812, rfl, hi, hb, hb2⟩; refine ⟨_, rfl, ?_⟩; replace HB := zA hb; have HI812 := zA hi; clear hb hb2 hi) | ((with_reducible refine zg 90 ?_); refine gL (some 9) Try.func90 #[.pointer (some ⟨g812, 0, none⟩)] ?_; (with_reducible refine (spec_l6Any.calls k g812 t809 t810 t811 t813 t816 t817 w _ ?z1 ?z2 A3.out).mono ?_); (case z1 => exact zz53); (case z2 => exact zz43); rintro e w8 ⟨v814, rfl, ho0, hi, hb, hk⟩; refine ⟨_, rfl, ?_⟩; have HO815 := zL ho0 zz43; replace HB := zA hb; replace HI812 := zA hi; clear hb hk hi ho0; obtain ⟨Ao9, co9, eo9⟩ := Kd.R_slice HO815.out; subst eo9) | ((with_reducible refine zg 91 ?_); refine gL (some 15) Try.func91 #[.pointer (some ⟨g812, 0, none⟩), .slice Ao9 t813.length co9] ?_; (with_reducible refine (spec_l6Tuple.calls k g812 t809 t816 t817 _ _ t813 t818 t821 t822 w _ ?z1 ?z2 ?z3 ?z4 A4.out).mono ?_); (case z1 => exact zz53); (case z2 => exact zz43); (case z3 => exact Kd.C_foot_own (IsS102.apart (show IsS102 w _ g812 t809 t816 t817 from zz53) (zr HO815) (by decide)) (fun _ h_ => h_.2)); (case z4 => exact zl HO815); rintro e w10 ⟨v819, rfl, ho0, hi, hb, hk⟩; refine ⟨_, rfl, ?_⟩; replace HO815 := zA (Kd.R_mono (Kd.R_keep (IsS102.apart (show IsS102 w _ g812 t809 t816 t817 from zz53) (zr HO815) (by decide)) hk (fun _ h => h.2)) (fun _ h => h.1)); have HO820 := zL ho0 zz43; replace HB := zA hb; replace HI812 := zA hi; clear hb hk hi ho0; obtain ⟨Ao11, co11, eo11⟩ := Kd.R_slice HO820.out; subst eo11) | ((with_reducible refine zg 38 ?_); refine gL (some 16) Try.func38 #[.slice Ao9 t813.length co9, .slice Ao11 t818.length co11] ?_; (with_reducible refine (spec_EncodeKey.calls k _ _ t813 _ _ t818 t823 _ ?z1 ?z2 ?z3 ?z4 A5.out).mono ?_); (case z1 => exact ze HO815); (case z2 => exact zl HO815); (case z3 => exact ze HO820); (case z4 => exact zl HO820); rintro e w12 ⟨v824, rfl, ho0, hb⟩; refine ⟨_, rfl, ?_⟩; replace HO815 := zR HO815 hb; replace HO820 := zR HO820 hb; have HO825 := zL ho0 zz43; replace HB := zS hb zz43; replace HI812 := zA (IsS102.below zz53 hb); clear hb ho0; obtain ⟨Ao13, co13, eo13⟩ := Kd.R_slice HO825.out; subst eo13) | ((with_reducible refine zg 82 ?_); refine gL (some 17) Try.func82 #[.pointer (some ⟨g812, 0, none⟩), .slice Ao13 t823.length co13] ?_; (with_reducible refine (spec_l1Bend.calls g812 t809 t821 t822 (fun k_ => some k_ = (.slice Ao13 t823.length co13 : Value).ownBlock) (.slice Ao13 t823.length co13) t823 t826 t829 t830 w _ ?z1 ?z2 ?z3 A6.out).mono ?_); (case z1 => exact zz53); (case z2 => exact zz43); (case z3 => exact Kd.R_tight rfl HO825.out); rintro e w14 ⟨v827, rfl, ho0, hi, hb, hkp⟩; refine ⟨_, rfl, ?_⟩; replace HO815 := zA (Kd.R_mono (ok' := fun k_ => True) (Kd.R_keptB ((IsS102.apart HI812.out (Kd.R_apart' HO815.out (Kd.R_typed HO825.out) (by decide)) (by decide))) hkp (fun k_ hk_ hs_ => Or.elim hs_ (fun hs_ => (hk_.1.2) hs_) (fun e_ => (hk_.2) e_))) (fun k_ hk_ => trivial)); replace HO820 := zA (Kd.R_mono (ok' := fun k_ => True) (Kd.R_keptB ((IsS102.apart HI812.out (Kd.R_apart' HO820.out (Kd.R_typed HO825.out) (by decide)) (by decide))) hkp (fun k_ hk_ hs_ => Or.elim hs_ (fun hs_ => (hk_.1.2) hs_) (fun e_ => (hk_.2) e_))) (fun k_ hk_ => trivial)); replace HI812 := zA hi; have HO828 := zA (Kd.R_mono (ok' := fun k_ => True) ho0 (fun k_ hk_ => trivial)); replace HB := zA hb; clear HO825 hb hkp ho0))
 go_ret2
 exact ⟨_, _, zw, zr HO815, zr HO828, zz43⟩

/-! ### spec_DrawFitsAll: function 60 -/
def spec_DrawFitsAll.f (k : Nat) (l0 : List Int) : Option ((List (S30)) × (List (S32))) := (spec_l1New.f k l0).bind fun bt831 => ((spec_l6Any.f k bt831.1 bt831.2.1 bt831.2.2).bind fun bt835 => ((spec_l6Tuple.f k bt831.1 bt835.2.1 bt835.2.2 bt835.1).bind fun bt840 => (some (bt835.1, bt840.1))))
set_option maxHeartbeats 8000000 in
set_option maxRecDepth 100000 in
theorem spec_DrawFitsAll.calls (k : Nat) (A0 : Option Addr) (c0 : Nat) (l0 : List Int) (r1 : List (S30)) (r2 : List (S32)) (w : World) (hr0 : Kd.C (Kd.int .u8) w A0 l0.length l0) (hc0 : l0.length ≤ c0) (h : spec_DrawFitsAll.f k l0 = some (r1, r2)) :
  Calls Try.prog 60 #[.slice A0 l0.length c0] w fun e w' => ∃ v0_ v1_ : Value, e = .returned (.tuple #[v0_, v1_]) ∧ Kd.R k30 30 w' w.heap.size (fun _ => True) v0_ r1 ∧ Kd.R k32 32 w' w.heap.size (fun _ => True) v1_ r2 ∧ Below w.heap.size w w' := by
 have HR0 := zA hr0
 have HC0 := zA hc0
 clear hr0 hc0
 have HB := zA (Below.refl w.heap.size w)
 have H : ((spec_l1New.f k l0).bind fun bt831 => ((spec_l6Any.f k bt831.1 bt831.2.1 bt831.2.2).bind fun bt835 => ((spec_l6Tuple.f k bt831.1 bt835.2.1 bt835.2.2 bt835.1).bind fun bt840 => (some (bt835.1, bt840.1))))) = some (r1, r2) := h
 clear h
 replace H := zI H
 obtain ⟨⟨t831, t832, t833⟩, A2, H⟩ := H
 try dsimp only at H
 replace H := zI H
 obtain ⟨⟨t835, t838, t839⟩, A3, H⟩ := H
 try dsimp only at H
 replace H := zI H
 obtain ⟨⟨t840, t843, t844⟩, A4, H⟩ := H
 try dsimp only at H
 simp only [Option.some.injEq, Prod.mk.injEq] at H
 obtain ⟨rfl, rfl⟩ := H
 go_enter Try.func60, Try.ntmps60
 go_wp2_with (first | ((with_reducible refine zg 75 ?_); refine gL (some 7) Try.func75 #[.slice A0 l0.length c0] ?_; (with_reducible refine (spec_l1New.calls k _ _ l0 t831 t832 t833 w _ ?z1 ?z2 ?z3 A2.out).mono ?_); (case z1 => exact zb); (case z2 => exact HR0.out); (case z3 => exact HC0.out); rintro e w5 ⟨g834, rfl, hi, hb, hb2⟩; refine ⟨_, rfl, ?_⟩; replace HB := zA hb; have HI834 := zA hi; clear hb hb2 hi) | ((with_reducible refine zg 90 ?_); refine gL (some 9) Try.func90 #[.pointer (some ⟨g834, 0, none⟩)] ?_; (with_reducible refine (spec_l6Any.calls k g834 t831 t832 t833 t835 t838 t839 w _ ?z1 ?z2 A3.out).mono ?_); (case z1 => exact zz74); (case z2 => exact zz68); rintro e w6 ⟨v836, rfl, ho0, hi, hb, hk⟩; refine ⟨_, rfl, ?_⟩; have HO837 := zL ho0 zz68; replace HB := zA hb; replace HI834 := zA hi; clear hb hk hi ho0; obtain ⟨Ao7, co7, eo7⟩ := Kd.R_slice HO837.out; subst eo7) | ((with_reducible refine zg 91 ?_); refine gL (some 13) Try.func91 #[.pointer (some ⟨g834, 0, none⟩), .slice Ao7 t835.length co7] ?_; (with_reducible refine (spec_l6Tuple.calls k g834 t831 t838 t839 _ _ t835 t840 t843 t844 w _ ?z1 ?z2 ?z3 ?z4 A4.out).mono ?_); (case z1 => exact zz74); (case z2 => exact zz68); (case z3 => exact Kd.C_foot_own (IsS102.apart (show IsS102 w _ g834 t831 t838 t839 from zz74) (zr HO837) (by decide)) (fun _ h_ => h_.2)); (case z4 => exact zl HO837); rintro e w8 ⟨v841, rfl, ho0, hi, hb, hk⟩; refine ⟨_, rfl, ?_⟩; replace HO837 := zA (Kd.R_mono (Kd.R_keep (IsS102.apart (show IsS102 w _ g834 t831 t838 t839 from zz74) (zr HO837) (by decide)) hk (fun _ h => h.2)) (fun _ h => h.1)); have HO842 := zL ho0 zz68; replace HB := zA hb; replace HI834 := zA hi; clear hb hk hi ho0))
 go_ret2
 exact ⟨_, _, zw, zr HO837, zr HO842, zz68⟩

/-! ### spec_DrawPick: function 61 -/
def spec_DrawPick.f (k : Nat) (l0 : List Int) : Option ((List (S30)) × (List (S32))) := (spec_l1New.f k l0).bind fun bt845 => ((spec_l6Any.f k bt845.1 bt845.2.1 bt845.2.2).bind fun bt849 => ((spec_l2Any.f k bt845.1 bt849.2.1 bt849.2.2).bind fun bt854 => ((spec_l2Any.f k bt845.1 bt854.2.2.2.1 bt854.2.2.2.2).bind fun bt859 => ((spec_l2Any.f k bt845.1 bt859.2.2.2.1 bt859.2.2.2.2).bind fun bt864 => (some (bt849.1, (([(⟨bt854.1, bt854.2.1, bt854.2.2.1⟩ : S32), (⟨bt859.1, bt859.2.1, bt859.2.2.1⟩ : S32), (⟨bt864.1, bt864.2.1, bt864.2.2.1⟩ : S32)] : List (S32)))))))))
set_option maxHeartbeats 8000000 in
set_option maxRecDepth 100000 in
theorem spec_DrawPick.calls (k : Nat) (A0 : Option Addr) (c0 : Nat) (l0 : List Int) (r1 : List (S30)) (r2 : List (S32)) (w : World) (hr0 : Kd.C (Kd.int .u8) w A0 l0.length l0) (hc0 : l0.length ≤ c0) (h : spec_DrawPick.f k l0 = some (r1, r2)) :
  Calls Try.prog 61 #[.slice A0 l0.length c0] w fun e w' => ∃ v0_ v1_ : Value, e = .returned (.tuple #[v0_, v1_]) ∧ Kd.R k30 30 w' w.heap.size (fun _ => True) v0_ r1 ∧ Kd.R k32 32 w' w.heap.size (fun _ => True) v1_ r2 ∧ Below w.heap.size w w' := by
 have HR0 := zA hr0
 have HC0 := zA hc0
 clear hr0 hc0
 have HB := zA (Below.refl w.heap.size w)
 have H : ((spec_l1New.f k l0).bind fun bt845 => ((spec_l6Any.f k bt845.1 bt845.2.1 bt845.2.2).bind fun bt849 => ((spec_l2Any.f k bt845.1 bt849.2.1 bt849.2.2).bind fun bt854 => ((spec_l2Any.f k bt845.1 bt854.2.2.2.1 bt854.2.2.2.2).bind fun bt859 => ((spec_l2Any.f k bt845.1 bt859.2.2.2.1 bt859.2.2.2.2).bind fun bt864 => (some (bt849.1, (([(⟨bt854.1, bt854.2.1, bt854.2.2.1⟩ : S32), (⟨bt859.1, bt859.2.1, bt859.2.2.1⟩ : S32), (⟨bt864.1, bt864.2.1, bt864.2.2.1⟩ : S32)] : List (S32)))))))))) = some (r1, r2) := h
 clear h
 replace H := zI H
 obtain ⟨⟨t845, t846, t847⟩, A2, H⟩ := H
 try dsimp only at H
 replace H := zI H
 obtain ⟨⟨t849, t852, t853⟩, A3, H⟩ := H
 try dsimp only at H
 replace H := zI H
 obtain ⟨⟨t854, t855, t856, t857, t858⟩, A4, H⟩ := H
 try dsimp only at H
 replace H := zI H
 obtain ⟨⟨t859, t860, t861, t862, t863⟩, A5, H⟩ := H
 try dsimp only at H
 replace H := zI H
 obtain ⟨⟨t864, t865, t866, t867, t868⟩, A6, H⟩ := H
 try dsimp only at H
 obtain ⟨y869, hy869⟩ : ∃ y_ : List (S32), y_ = (([(⟨t854, t855, t856⟩ : S32), (⟨t859, t860, t861⟩ : S32), (⟨t864, t865, t866⟩ : S32)] : List (S32))) := ⟨_, rfl⟩
 replace H : (some (t849, y869)) = some (r1, r2) := zy hy869
 have Ny869 := zA hy869
 clear hy869
 simp only [Option.some.injEq, Prod.mk.injEq] at H
 obtain ⟨rfl, rfl⟩ := H
 go_enter Try.func61, Try.ntmps61
 go_wp2_with (first | ((with_reducible refine zg 75 ?_); refine gL (some 6) Try.func75 #[.slice A0 l0.length c0] ?_; (with_reducible refine (spec_l1New.calls k _ _ l0 t845 t846 t847 w _ ?z1 ?z2 ?z3 A2.out).mono ?_); (case z1 => exact zb); (case z2 => exact HR0.out); (case z3 => exact HC0.out); rintro e w7 ⟨g848, rfl, hi, hb, hb2⟩; refine ⟨_, rfl, ?_⟩; replace HB := zA hb; have HI848 := zA hi; clear hb hb2 hi) | ((with_reducible refine zg 90 ?_); refine gL (some 8) Try.func90 #[.pointer (some ⟨g848, 0, none⟩)] ?_; (with_reducible refine (spec_l6Any.calls k g848 t845 t846 t847 t849 t852 t853 w _ ?z1 ?z2 A3.out).mono ?_); (case z1 => exact zz37); (case z2 => exact zz44); rintro e w8 ⟨v850, rfl, ho0, hi, hb, hk⟩; refine ⟨_, rfl, ?_⟩; have HO851 := zL ho0 zz44; replace HB := zA hb; replace HI848 := zA hi; clear hb hk hi ho0) | ((with_reducible refine zg 93 ?_); refine gL (some 10) Try.func93 #[.pointer (some ⟨g848, 0, none⟩)] ?_; (with_reducible refine (spec_l2Any.calls k g848 t845 t852 t853 t854 t855 t856 t857 t858 w _ ?z1 ?z2 A4.out).mono ?_); (case z1 => exact zz37); (case z2 => exact zz44); rintro e w9 ⟨rfl, hi, hb, hk⟩; refine ⟨_, rfl, ?_⟩; replace HO851 := zA (Kd.R_mono (Kd.R_keep (IsS102.apart (show IsS102 w _ g848 t845 t852 t853 from zz37) (zr HO851) (by decide)) hk (fun _ h => h.2)) (fun _ h => h.1)); replace HB := zA hb; replace HI848 := zA hi; clear hb hk hi) | ((with_reducible refine zg 93 ?_); refine gL (some 12) Try.func93 #[.pointer (some ⟨g848, 0, none⟩)] ?_; (with_reducible refine (spec_l2Any.calls k g848 t845 t857 t858 t859 t860 t861 t862 t863 w _ ?z1 ?z2 A5.out).mono ?_); (case z1 => exact zz37); (case z2 => exact zz44); rintro e w10 ⟨rfl, hi, hb, hk⟩; refine ⟨_, rfl, ?_⟩; replace HO851 := zA (Kd.R_mono (Kd.R_keep (IsS102.apart (show IsS102 w _ g848 t845 t857 t858 from zz37) (zr HO851) (by decide)) hk (fun _ h => h.2)) (fun _ h => h.1)); replace HB := zA hb; replace HI848 := zA hi; clear hb hk hi) | ((with_reducible refine zg 93 ?_); refine gL (some 14) Try.func93 #[.pointer (some ⟨g848, 0, none⟩)] ?_; (with_reducible refine (spec_l2Any.calls k g848 t845 t862 t863 t864 t865 t866 t867 t868 w _ ?z1 ?z2 A6.out).mono ?_); (case z1 => exact zz37); (case z2 => exact zz44); rintro e w11 ⟨rfl, hi, hb, hk⟩; refine ⟨_, rfl, ?_⟩; replace HO851 := zA (Kd.R_mono (Kd.R_keep (IsS102.apart (show IsS102 w _ g848 t845 t862 t863 from zz37) (zr HO851) (by decide)) hk (fun _ h => h.2)) (fun _ h => h.1)); replace HB := zA hb; replace HI848 := zA hi; clear hb hk hi) | ((with_reducible refine zt 15 ?_); refine Kd.R_lit k32 _ 32 ?hg (N := 15) ?hd (xs := ([(⟨t854, t855, t856⟩ : S32), (⟨t859, t860, t861⟩ : S32), (⟨t864, t865, t866⟩ : S32)] : List (S32))) (inner := [.int .i64 t854, .int .i64 t855, .string t856, .int .i64 t859, .int .i64 t860, .string t861, .int .i64 t864, .int .i64 t865, .string t866]) (ok := fun _ => True) (okp := fun _ => True) ?hr ?hp (fun _ hk => hk) trivial (Below.refl _ _) (Nat.le_refl _) (by simp) ?_; (case hd => rfl); (case hg => rfl); (case hr => exact zz16); (case hp => exact (Reps.c3 (show Kd.M k32 _ _ _ (⟨t854, t855, t856⟩ : S32) [.int .i64 t854, .int .i64 t855, .string t856] from (k32_mkM _ _ _ (⟨t854, t855, t856⟩ : S32) )) (Reps.c3 (show Kd.M k32 _ _ _ (⟨t859, t860, t861⟩ : S32) [.int .i64 t859, .int .i64 t860, .string t861] from (k32_mkM _ _ _ (⟨t859, t860, t861⟩ : S32) )) (Reps.c3 (show Kd.M k32 _ _ _ (⟨t864, t865, t866⟩ : S32) [.int .i64 t864, .int .i64 t865, .string t866] from (k32_mkM _ _ _ (⟨t864, t865, t866⟩ : S32) )) (Reps.none _ _))))); intro v870 w12 ho13 hb hg_ hnew_; clear hg_ hnew_; (first | rw [← Ny869.out] at ho13 | (simp only [Int.reduceToNat] at ho13; rw [← Ny869.out] at ho13)); replace HO851 := zR HO851 hb; have HO871 := zL ho13 zz44; replace HB := zS hb zz44; replace HI848 := zA (IsS102.below zz37 hb); clear hb ho13))
 go_ret2
 exact ⟨_, _, zw, zr HO851, zr HO871, zz44⟩

/-! ### impl_Pick: function 64 -/
def impl_Pick.l0 : Nat → List (S32) → List (S32) → List (S30) → Int → Int → Option ((List (S32)))
  | 0, _, _, _, _, _ => none
  | k + 1, x1, x5, x9, x10, x11 => if x11 < x10 then (if 0 ≤ x11 then (if x11 < (x9.length : Int) then ((impl_in.f ((rd_T30 x9 x11).f0) 0 (wrap64 ((x1.length : Int) - 1))).bind fun t875 => (if t875 = true then (if 0 ≤ ((rd_T30 x9 x11).f0) then (if ((rd_T30 x9 x11).f0) < (x1.length : Int) then (if x5.length < 4398046511104 then (impl_Pick.l0 k x1 (x5 ++ [(⟨(rd_T32 x1 ((rd_T30 x9 x11).f0)).f0, (rd_T32 x1 ((rd_T30 x9 x11).f0)).f1, (rd_T32 x1 ((rd_T30 x9 x11).f0)).f2⟩ : S32)]) x9 x10 (wrap64 (x11 + 1))) else (none)) else (none)) else (none)) else (if x5.length < 4398046511104 then (impl_Pick.l0 k x1 (x5 ++ [(⟨0, 0, (⟨#[]⟩ : ByteArray)⟩ : S32)]) x9 x10 (wrap64 (x11 + 1))) else (none)))) else (none)) else (none)) else (some x5)
def impl_Pick.f (k : Nat) (l0 : List (S30)) (l1 : List (S32)) : Option ((List (S32))) := impl_Pick.l0 k l1 ([] : List (S32)) l0 (l0.length : Int) 0
set_option maxHeartbeats 8000000 in
set_option maxRecDepth 100000 in
theorem impl_Pick.calls (k : Nat) (A0 : Option Addr) (c0 : Nat) (l0 : List (S30)) (A1 : Option Addr) (c1 : Nat) (l1 : List (S32)) (r : List (S32)) (w : World) (hr0 : Kd.C k30 w A0 l0.length l0) (hc0 : l0.length ≤ c0) (hr1 : Kd.C k32 w A1 l1.length l1) (hc1 : l1.length ≤ c1) (h : impl_Pick.f k l0 l1 = some r) :
  Calls Try.prog 64 #[.slice A0 l0.length c0, .slice A1 l1.length c1] w fun e w' => ∃ v0_ : Value, e = .returned (v0_) ∧ Kd.R k32 32 w' w.heap.size (fun _ => True) v0_ r ∧ Below w.heap.size w w' := by
 have hu30 := Try.underlying30
 have hu32 := Try.underlying32
 have HR0 := zA hr0
 have HC0 := zA hc0
 clear hr0 hc0
 have HR1 := zA hr1
 have HC1 := zA hc1
 clear hr1 hc1
 have HB := zA (Below.refl w.heap.size w)
 have H : (impl_Pick.l0 k l1 ([] : List (S32)) l0 (l0.length : Int) 0) = some r := h
 clear h
 have H' := zA H
 clear H
 go_enter Try.func64, Try.ntmps64
 go_wp2
 go_loopg [5, 11] k (fun kq v5 v11 w' => ∃ (x5_1 : List (S32)) (x11_1 : Int), v11 = .int .i64 x11_1 ∧ Aside0 (impl_Pick.l0 kq l1 x5_1 l0 (l0.length : Int) x11_1 = some r) ∧ Aside0 (kq ≤ k) ∧ Aside0 (Kd.R k32 32 w' w.heap.size (fun _ => True) v5 x5_1) ∧ Aside0 (Below w.heap.size w w'))
 case atStart => exact ⟨(([] : List (S32))), (0), zx, H', ⟨Nat.le_refl _⟩, ⟨zz52⟩, ⟨zb⟩⟩
 case round =>
  clear H'
  obtain ⟨x5_1, x11_1, rfl, HA, HK1, HO_5, HB⟩ := hrel
  cases gk with
  | zero => exact absurd HA.out (by simp [impl_Pick.l0])
  | succ k1 =>
   have H := HA.out
   clear HA
   simp only [impl_Pick.l0] at H
   by_cases c3 : x11_1 < (l0.length : Int)
   ·rw [if_pos c3] at H
    have c3b0 : decide (x11_1 < (l0.length : Int)) = true := decide_eq_true c3
    clear c3
    by_cases c4 : 0 ≤ x11_1
    ·rw [if_pos c4] at H
     have c4b0 : decide (0 ≤ x11_1) = true := decide_eq_true c4
     clear c4
     by_cases c5 : x11_1 < (l0.length : Int)
     ·rw [if_pos c5] at H
      have c5b0 : decide (x11_1 < (l0.length : Int)) = true := decide_eq_true c5
      clear c5
      replace H := zI H
      obtain ⟨t875, A6, H⟩ := H
      by_cases c7 : t875 = true
      ·subst c7
       rw [if_pos rfl] at H
       by_cases c8 : 0 ≤ ((rd_T30 l0 x11_1).f0)
       ·rw [if_pos c8] at H
        have c8b0 : decide (0 ≤ ((rd_T30 l0 x11_1).f0)) = true := decide_eq_true c8
        clear c8
        by_cases c9 : ((rd_T30 l0 x11_1).f0) < (l1.length : Int)
        ·rw [if_pos c9] at H
         have c9b0 : decide (((rd_T30 l0 x11_1).f0) < (l1.length : Int)) = true := decide_eq_true c9
         clear c9
         by_cases c10 : x5_1.length < 4398046511104
         ·rw [if_pos c10] at H
          have LMc10 := zA c10
          clear c10
          obtain ⟨y877, hy877⟩ : ∃ y_ : List (S32), y_ = (x5_1 ++ [(⟨(rd_T32 l1 ((rd_T30 l0 x11_1).f0)).f0, (rd_T32 l1 ((rd_T30 l0 x11_1).f0)).f1, (rd_T32 l1 ((rd_T30 l0 x11_1).f0)).f2⟩ : S32)]) := ⟨_, rfl⟩
          replace H : (impl_Pick.l0 k1 l1 y877 l0 (l0.length : Int) (wrap64 (x11_1 + 1))) = some r := zy hy877
          have Ny877 := zA hy877
          clear hy877
          have H' := zA H
          clear H
          have p872 : 0 ≤ (x11_1 : Int) := of_decide_eq_true za
          have q872 : x11_1 < (l0.length : Int) := of_decide_eq_true za
          obtain ⟨ad872, e872, hx872_0, hx872_1, hx872_2, hx872_3⟩ := at_T30 HR0.out x11_1 p872 q872
          cases e872
          replace hx872_0 := zj hx872_0
          replace hx872_1 := zj hx872_1
          replace hx872_2 := zj hx872_2
          replace hx872_3 := zj hx872_3
          replace p872 := eq_true p872
          replace q872 := eq_true q872
          go_wp2_with (first | ((with_reducible refine zt 7 ?_); refine zn #[.int .i64 0, .int .i64 0, .bool false, .bool false] 30 ?_; intro gb873 hg w11 hbox hb; replace HO_5 := zR HO_5 hb; have BK873 := zA hbox; have GW873 := zG hg; have GE873 := zG hg; replace HB := zS hb; clear hb hbox hg; obtain ⟨hcz12_0, hcz12_1, hcz12_2, hcz12_3, hfz12_0, hfz12_1, hfz12_2, hfz12_3⟩ := zh4 BK873) | ((with_reducible refine zt 8 ?_); refine zn #[.int .i64 0, .int .i64 0, .string (⟨#[]⟩ : ByteArray)] 32 ?_; intro gb874 hg w13 hbox hb; replace HO_5 := zA (Kd.R_below (Kd.R_elderB (by (with_reducible repeat (first | apply Kd.R_alloc | apply Kd.R_drewN | apply Kd.R_drew)); exact (Kd.R_mono (Kd.R_far (p := ⟨gb873, 3, none⟩) (Kd.R_far (p := ⟨gb873, 2, none⟩) (Kd.R_far (p := ⟨gb873, 1, none⟩) (Kd.R_far (p := ⟨gb873, 0, none⟩) (Kd.R_types HO_5.out BK873.out (by decide)) (fun _ hk => hk.2) (.int .i64 ((rd_T30 l0 x11_1).f0))) (fun _ hk => hk.2) (.int .i64 ((rd_T30 l0 x11_1).f1))) (fun _ hk => hk.2) (.bool ((rd_T30 l0 x11_1).f2))) (fun _ hk => hk.2) (.bool ((rd_T30 l0 x11_1).f3))) (fun _ h_ => h_.1))) gb874 (Nat.le_of_eq hg.symm)) hb); have BK874 := zA hbox; have GW874 := zG hg (zb1 GE873); have GE874 := zG hg (zb1 GE873); replace HB := zS hb (zb1 GE873); have NB873_874 := zA ((zz99 : gb873 ≠ gb874)); have NB874_873 := zA ((zz100 : gb874 ≠ gb873)); replace BK873 := zA (blk_below (g := gb873) (o := .cells #[.int .i64 ((rd_T30 l0 x11_1).f0), .int .i64 ((rd_T30 l0 x11_1).f1), .bool ((rd_T30 l0 x11_1).f2), .bool ((rd_T30 l0 x11_1).f3)] 30 (0, 0)) zz2 hb); clear hb hbox hg; have hnb14 := NB873_874.out; have hnc14 := NB874_873.out; obtain ⟨hcz15_0, hcz15_1, hcz15_2, hcz15_3, hfz15_0, hfz15_1, hfz15_2, hfz15_3⟩ := zh4 BK873) | ((with_reducible refine zg 80 ?_); refine gL (some 20) Try.func80 #[.int .i64 ((rd_T30 l0 x11_1).f0), .int .i64 0, .int .i64 (wrap64 ((l1.length : Int) - 1))] ?_; (with_reducible refine (impl_in.calls ((rd_T30 l0 x11_1).f0) 0 (wrap64 ((l1.length : Int) - 1)) true _ A6.out).mono ?_); rintro e w' ⟨rfl, ⟨nd, rfl⟩⟩; refine ⟨_, rfl, ?_⟩; (try (rw [drewN_self w13]; generalize hq_ : World.drewN w13 _ = w13; replace HO_5 : Aside0 (Kd.R k32 32 w13 w.heap.size (fun k_ => k_ ≠ gb874) u5 x5_1) := ⟨by rw [← hq_]; exact zz83⟩; replace BK873 : Aside0 (w13.heap[gb873]? = some (.cells #[.int .i64 ((rd_T30 l0 x11_1).f0), .int .i64 ((rd_T30 l0 x11_1).f1), .bool ((rd_T30 l0 x11_1).f2), .bool ((rd_T30 l0 x11_1).f3)] 30 (0, 0))) := ⟨by rw [← hq_]; exact (zk BK873)⟩; replace BK874 : Aside0 (w13.heap[gb874]? = some (.cells #[.int .i64 0, .int .i64 0, .string (⟨#[]⟩ : ByteArray)] 32 (0, 0))) := ⟨by rw [← hq_]; exact (zk BK874)⟩; replace HB : Aside0 (Below w.heap.size w w13) := ⟨by rw [← hq_]; exact (zb2 GE873 GE874)⟩; clear hq_)); obtain ⟨hcz16_0, hcz16_1, hcz16_2, hcz16_3, hfz16_0, hfz16_1, hfz16_2, hfz16_3⟩ := zh4 BK873; have p876 : 0 ≤ (((rd_T30 l0 x11_1).f0) : Int) := of_decide_eq_true za; have q876 : ((rd_T30 l0 x11_1).f0) < (l1.length : Int) := of_decide_eq_true za; obtain ⟨ad876, e876, hx876_0, hx876_1, hx876_2⟩ := at_T32 HR1.out ((rd_T30 l0 x11_1).f0) p876 q876; cases e876; replace hx876_0 := zj hx876_0; replace hx876_1 := zj hx876_1; replace hx876_2 := zj hx876_2; replace p876 := eq_true p876; replace q876 := eq_true q876; obtain ⟨hcz17_0, hcz17_1, hcz17_2, hfz17_0, hfz17_1, hfz17_2⟩ := zh3 BK874) | ((with_reducible refine gate_store (t := 32) (p := 8) rfl ?_); refine store_event (t := 32) (p := 8) (v := ?vo_w18) (w1 := (((w13.setCell ⟨gb874, 0, none⟩ (.int .i64 ((rd_T32 l1 ((rd_T30 l0 x11_1).f0)).f0))).setCell ⟨gb874, 1, none⟩ (.int .i64 ((rd_T32 l1 ((rd_T30 l0 x11_1).f0)).f1))).setCell ⟨gb874, 2, none⟩ (.string ((rd_T32 l1 ((rd_T30 l0 x11_1).f0)).f2)))) ?hg ?ho ?hn ?hr ?_; (case ho => rfl); (case hg => rfl); (case hn => rfl); (case hr => exact zz16); intro w18 hw; replace HO_5 : Aside0 (Kd.R k32 32 w18 w.heap.size (fun k_ => k_ ≠ gb874) u5 x5_1) := ⟨(by rw [hw]; exact (by (with_reducible repeat (first | apply Kd.R_alloc | apply Kd.R_drewN | apply Kd.R_drew)); exact Kd.R_mono (Kd.R_far (p := ⟨gb874, 2, none⟩) (Kd.R_far (p := ⟨gb874, 1, none⟩) (Kd.R_far (p := ⟨gb874, 0, none⟩) (Kd.R_mono HO_5.out (fun k_ hk => (⟨hk, hk⟩ : _ ∧ k_ ≠ gb874))) (fun _ hk => hk.2) (.int .i64 ((rd_T32 l1 ((rd_T30 l0 x11_1).f0)).f0))) (fun _ hk => hk.2) (.int .i64 ((rd_T32 l1 ((rd_T30 l0 x11_1).f0)).f1))) (fun _ hk => hk.2) (.string ((rd_T32 l1 ((rd_T30 l0 x11_1).f0)).f2))) (fun _ hk => hk.1)))⟩; replace BK873 : Aside0 (w18.heap[gb873]? = some (.cells #[.int .i64 ((rd_T30 l0 x11_1).f0), .int .i64 ((rd_T30 l0 x11_1).f1), .bool ((rd_T30 l0 x11_1).f2), .bool ((rd_T30 l0 x11_1).f3)] 30 (0, 0))) := ⟨(by rw [hw]; exact (by (with_reducible repeat (first | refine blk_drewN ?_ _ | refine blk_drew ?_ | refine blk_alloc ?_ _)); refine blk_far ?_ NB873_874.out _; (with_reducible repeat (first | refine blk_drewN ?_ _ | refine blk_drew ?_ | refine blk_alloc ?_ _)); refine blk_far ?_ NB873_874.out _; (with_reducible repeat (first | refine blk_drewN ?_ _ | refine blk_drew ?_ | refine blk_alloc ?_ _)); refine blk_far ?_ NB873_874.out _; (with_reducible repeat (first | refine blk_drewN ?_ _ | refine blk_drew ?_ | refine blk_alloc ?_ _)); exact BK873.out))⟩; replace BK874 : Aside0 (w18.heap[gb874]? = some (.cells #[.int .i64 ((rd_T32 l1 ((rd_T30 l0 x11_1).f0)).f0), .int .i64 ((rd_T32 l1 ((rd_T30 l0 x11_1).f0)).f1), .string ((rd_T32 l1 ((rd_T30 l0 x11_1).f0)).f2)] 32 (0, 0))) := ⟨(by rw [hw]; exact (by (with_reducible repeat (first | refine blk_drewN ?_ _ | refine blk_drew ?_ | refine blk_alloc ?_ _)); refine blk_put (cs := #[.int .i64 ((rd_T32 l1 ((rd_T30 l0 x11_1).f0)).f0), .int .i64 ((rd_T32 l1 ((rd_T30 l0 x11_1).f0)).f1), .string (⟨#[]⟩ : ByteArray)]) ?_ 2 _ rfl; (with_reducible repeat (first | refine blk_drewN ?_ _ | refine blk_drew ?_ | refine blk_alloc ?_ _)); refine blk_put (cs := #[.int .i64 ((rd_T32 l1 ((rd_T30 l0 x11_1).f0)).f0), .int .i64 0, .string (⟨#[]⟩ : ByteArray)]) ?_ 1 _ rfl; (with_reducible repeat (first | refine blk_drewN ?_ _ | refine blk_drew ?_ | refine blk_alloc ?_ _)); refine blk_put (cs := #[.int .i64 0, .int .i64 0, .string (⟨#[]⟩ : ByteArray)]) ?_ 0 _ rfl; (with_reducible repeat (first | refine blk_drewN ?_ _ | refine blk_drew ?_ | refine blk_alloc ?_ _)); exact BK874.out))⟩; replace HB : Aside0 (Below w.heap.size w w18) := ⟨(by rw [hw]; exact (zb2 GE873 GE874))⟩; clear hw; obtain ⟨hcz19_0, hcz19_1, hcz19_2, hfz19_0, hfz19_1, hfz19_2⟩ := zh3 BK874) | ((with_reducible refine gate_builtin (b := .append) (xs := #[.tmp 26, .tmp 28]) rfl ?_); at_builtin; refine Kd.R_append k32 (w0 := w) w.heap.size rfl (.tmp 26) (.tmp 28) 58 32 (.agg #[(.int .i64 0), (.int .i64 0), (.string ⟨#[]⟩)]) 32 rfl Try.underlying58 info32 rfl (by decide) (by omega) u5 x5_1 (⟨(rd_T32 l1 ((rd_T30 l0 x11_1).f0)).f0, (rd_T32 l1 ((rd_T30 l0 x11_1).f0)).f1, (rd_T32 l1 ((rd_T30 l0 x11_1).f0)).f2⟩ : S32) [.int .i64 ((rd_T32 l1 ((rd_T30 l0 x11_1).f0)).f0), .int .i64 ((rd_T32 l1 ((rd_T30 l0 x11_1).f0)).f1), .string ((rd_T32 l1 ((rd_T30 l0 x11_1).f0)).f2)] (fun k_ => k_ ≠ gb874) (fun _ => False) rfl rfl ?aP (fun _ hk => hk.elim) ?aF ?aO ?aB ?aS ?aL ?_; (case aP => exact k32_mkM _ _ _ (⟨(rd_T32 l1 ((rd_T30 l0 x11_1).f0)).f0, (rd_T32 l1 ((rd_T30 l0 x11_1).f0)).f1, (rd_T32 l1 ((rd_T30 l0 x11_1).f0)).f2⟩ : S32)); (case aB => exact (zb2 GE873 GE874)); (case aF => exact (fun k_ hk => Kd.freshB (g := gb874) (o := .cells #[.int .i64 ((rd_T32 l1 ((rd_T30 l0 x11_1).f0)).f0), .int .i64 ((rd_T32 l1 ((rd_T30 l0 x11_1).f0)).f1), .string ((rd_T32 l1 ((rd_T30 l0 x11_1).f0)).f2)] 32 (0, 0)) (zk BK874) k_ hk)); (case aO => exact (zr HO_5)); (case aS => exact (below_size (zb2 GE873 GE874))); (case aL => have := LMc10.out; omega); intro v878 w20 ho hb hg hat; rw [← Ny877.out] at ho; replace BK873 := zA (blk_grown (g := gb873) (o := .cells #[.int .i64 ((rd_T30 l0 x11_1).f0), .int .i64 ((rd_T30 l0 x11_1).f1), .bool ((rd_T30 l0 x11_1).f2), .bool ((rd_T30 l0 x11_1).f3)] 30 (0, 0)) (zk BK873) hg (Kd.R_ne HO_5.out BK873.out (by decide))); replace BK874 := zA (blk_grown (g := gb874) (o := .cells #[.int .i64 ((rd_T32 l1 ((rd_T30 l0 x11_1).f0)).f0), .int .i64 ((rd_T32 l1 ((rd_T30 l0 x11_1).f0)).f1), .string ((rd_T32 l1 ((rd_T30 l0 x11_1).f0)).f2)] 32 (0, 0)) (zk BK874) hg (Kd.R_away HO_5.out (fun _ hk => hk))); replace HB := zA hb; have HO879 := zA ho; clear HO_5 ho hb hg hat))
          go_roundg k1
          case measure => have := HK1.out; omega
          case rel => exact ⟨(y877), (wrap64 (x11_1 + 1)), zx, H', ⟨zz79⟩, ⟨by (with_reducible repeat (first | apply Kd.R_alloc | apply Kd.R_drewN | apply Kd.R_drew)); exact Kd.R_mono HO879.out (fun _ hk => trivial)⟩, ⟨zb2 GE873 GE874⟩⟩
         ·rw [if_neg c10] at H
          exact absurd H (by simp)
        ·rw [if_neg c9] at H
         exact absurd H (by simp)
       ·rw [if_neg c8] at H
        exact absurd H (by simp)
      ·replace c7 := Bool.eq_false_iff.mpr c7
       subst c7
       rw [if_neg (Bool.false_ne_true)] at H
       by_cases c21 : x5_1.length < 4398046511104
       ·rw [if_pos c21] at H
        have LMc21 := zA c21
        clear c21
        obtain ⟨y880, hy880⟩ : ∃ y_ : List (S32), y_ = (x5_1 ++ [(⟨0, 0, (⟨#[]⟩ : ByteArray)⟩ : S32)]) := ⟨_, rfl⟩
        replace H : (impl_Pick.l0 k1 l1 y880 l0 (l0.length : Int) (wrap64 (x11_1 + 1))) = some r := zy hy880
        have Ny880 := zA hy880
        clear hy880
        have H' := zA H
        clear H
        have p872 : 0 ≤ (x11_1 : Int) := of_decide_eq_true za
        have q872 : x11_1 < (l0.length : Int) := of_decide_eq_true za
        obtain ⟨ad872, e872, hx872_0, hx872_1, hx872_2, hx872_3⟩ := at_T30 HR0.out x11_1 p872 q872
        cases e872
        replace hx872_0 := zj hx872_0
        replace hx872_1 := zj hx872_1
        replace hx872_2 := zj hx872_2
        replace hx872_3 := zj hx872_3
        replace p872 := eq_true p872
        replace q872 := eq_true q872
        go_wp2_with (first | ((with_reducible refine zt 7 ?_); refine zn #[.int .i64 0, .int .i64 0, .bool false, .bool false] 30 ?_; intro gb873 hg w22 hbox hb; replace HO_5 := zR HO_5 hb; have BK873 := zA hbox; have GW873 := zG hg; have GE873 := zG hg; replace HB := zS hb; clear hb hbox hg; obtain ⟨hcz23_0, hcz23_1, hcz23_2, hcz23_3, hfz23_0, hfz23_1, hfz23_2, hfz23_3⟩ := zh4 BK873) | ((with_reducible refine zt 8 ?_); refine zn #[.int .i64 0, .int .i64 0, .string (⟨#[]⟩ : ByteArray)] 32 ?_; intro gb874 hg w24 hbox hb; replace HO_5 := zA (Kd.R_below (Kd.R_elderB (by (with_reducible repeat (first | apply Kd.R_alloc | apply Kd.R_drewN | apply Kd.R_drew)); exact (Kd.R_mono (Kd.R_far (p := ⟨gb873, 3, none⟩) (Kd.R_far (p := ⟨gb873, 2, none⟩) (Kd.R_far (p := ⟨gb873, 1, none⟩) (Kd.R_far (p := ⟨gb873, 0, none⟩) (Kd.R_types HO_5.out BK873.out (by decide)) (fun _ hk => hk.2) (.int .i64 ((rd_T30 l0 x11_1).f0))) (fun _ hk => hk.2) (.int .i64 ((rd_T30 l0 x11_1).f1))) (fun _ hk => hk.2) (.bool ((rd_T30 l0 x11_1).f2))) (fun _ hk => hk.2) (.bool ((rd_T30 l0 x11_1).f3))) (fun _ h_ => h_.1))) gb874 (Nat.le_of_eq hg.symm)) hb); have BK874 := zA hbox; have GW874 := zG hg (zb1 GE873); have GE874 := zG hg (zb1 GE873); replace HB := zS hb (zb1 GE873); have NB873_874 := zA ((zz99 : gb873 ≠ gb874)); have NB874_873 := zA ((zz100 : gb874 ≠ gb873)); replace BK873 := zA (blk_below (g := gb873) (o := .cells #[.int .i64 ((rd_T30 l0 x11_1).f0), .int .i64 ((rd_T30 l0 x11_1).f1), .bool ((rd_T30 l0 x11_1).f2), .bool ((rd_T30 l0 x11_1).f3)] 30 (0, 0)) zz2 hb); clear hb hbox hg; have hnb25 := NB873_874.out; have hnc25 := NB874_873.out; obtain ⟨hcz26_0, hcz26_1, hcz26_2, hcz26_3, hfz26_0, hfz26_1, hfz26_2, hfz26_3⟩ := zh4 BK873) | ((with_reducible refine zg 80 ?_); refine gL (some 20) Try.func80 #[.int .i64 ((rd_T30 l0 x11_1).f0), .int .i64 0, .int .i64 (wrap64 ((l1.length : Int) - 1))] ?_; (with_reducible refine (impl_in.calls ((rd_T30 l0 x11_1).f0) 0 (wrap64 ((l1.length : Int) - 1)) false _ A6.out).mono ?_); rintro e w' ⟨rfl, ⟨nd, rfl⟩⟩; refine ⟨_, rfl, ?_⟩; obtain ⟨hcz27_0, hcz27_1, hcz27_2, hfz27_0, hfz27_1, hfz27_2⟩ := zh3 BK874) | ((with_reducible refine gate_builtin (b := .append) (xs := #[.tmp 26, .tmp 28]) rfl ?_); at_builtin; refine Kd.R_append k32 (w0 := w) w.heap.size rfl (.tmp 26) (.tmp 28) 58 32 (.agg #[(.int .i64 0), (.int .i64 0), (.string ⟨#[]⟩)]) 32 rfl Try.underlying58 info32 rfl (by decide) (by omega) u5 x5_1 (⟨0, 0, (⟨#[]⟩ : ByteArray)⟩ : S32) [.int .i64 0, .int .i64 0, .string (⟨#[]⟩ : ByteArray)] (fun k_ => k_ ≠ gb874) (fun _ => False) rfl rfl ?aP (fun _ hk => hk.elim) ?aF ?aO ?aB ?aS ?aL ?_; (case aP => exact k32_mkM _ _ _ (⟨0, 0, (⟨#[]⟩ : ByteArray)⟩ : S32)); (case aB => exact (zb2 GE873 GE874)); (case aF => exact (fun k_ hk => Kd.freshB (g := gb874) (o := .cells #[.int .i64 0, .int .i64 0, .string (⟨#[]⟩ : ByteArray)] 32 (0, 0)) (zk BK874) k_ hk)); (case aO => exact zz83); (case aS => exact (below_size (zb2 GE873 GE874))); (case aL => have := LMc21.out; omega); intro v881 w28 ho hb hg hat; rw [← Ny880.out] at ho; replace BK873 := zA (blk_grown (g := gb873) (o := .cells #[.int .i64 ((rd_T30 l0 x11_1).f0), .int .i64 ((rd_T30 l0 x11_1).f1), .bool ((rd_T30 l0 x11_1).f2), .bool ((rd_T30 l0 x11_1).f3)] 30 (0, 0)) (zk BK873) hg (Kd.R_ne HO_5.out BK873.out (by decide))); replace BK874 := zA (blk_grown (g := gb874) (o := .cells #[.int .i64 0, .int .i64 0, .string (⟨#[]⟩ : ByteArray)] 32 (0, 0)) (zk BK874) hg (Kd.R_away HO_5.out (fun _ hk => hk.2))); replace HB := zA hb; have HO882 := zA ho; clear HO_5 ho hb hg hat))
        go_roundg k1
        case measure => have := HK1.out; omega
        case rel => exact ⟨(y880), (wrap64 (x11_1 + 1)), zx, H', ⟨zz79⟩, ⟨by (with_reducible repeat (first | apply Kd.R_alloc | apply Kd.R_drewN | apply Kd.R_drew)); exact Kd.R_mono HO882.out (fun _ hk => trivial)⟩, ⟨zb2 GE873 GE874⟩⟩
       ·rw [if_neg c21] at H
        exact absurd H (by simp)
     ·rw [if_neg c5] at H
      exact absurd H (by simp)
    ·rw [if_neg c4] at H
     exact absurd H (by simp)
   ·rw [if_neg c3] at H
    have c3b0 : decide (x11_1 < (l0.length : Int)) = false := decide_eq_false c3
    clear c3
    obtain rfl := Option.some.inj H
    go_wp2
    go_ret
    exact ⟨_, zw, zr HO_5, zb⟩

/-! ### laws_sameVals: function 65 -/
def laws_sameVals.l0 : Nat → List (S32) → List (S32) → Int → Option (Bool)
  | 0, _, _, _ => none
  | k + 1, x0, x1, x5 => if x5 < (x0.length : Int) then (if 0 ≤ x5 then (if x5 < (x1.length : Int) then (if (!(((rd_T32 x0 x5).f0) == ((rd_T32 x1 x5).f0)) || (!(((rd_T32 x0 x5).f1) == ((rd_T32 x1 x5).f1)) || (!((((rd_T32 x0 x5).f2).toList) == (((rd_T32 x1 x5).f2).toList))))) = true then (some false) else (laws_sameVals.l0 k x0 x1 (wrap64 (x5 + 1)))) else (none)) else (none)) else (some true)
def laws_sameVals.f (k : Nat) (l0 : List (S32)) (l1 : List (S32)) : Option (Bool) := if (l0.length : Int) = (l1.length : Int) then (laws_sameVals.l0 k l0 l1 0) else (some false)
set_option maxHeartbeats 8000000 in
set_option maxRecDepth 100000 in
theorem laws_sameVals.calls (k : Nat) (A0 : Option Addr) (c0 : Nat) (l0 : List (S32)) (A1 : Option Addr) (c1 : Nat) (l1 : List (S32)) (r : Bool) (w : World) (hr0 : Kd.C k32 w A0 l0.length l0) (hc0 : l0.length ≤ c0) (hr1 : Kd.C k32 w A1 l1.length l1) (hc1 : l1.length ≤ c1) (h : laws_sameVals.f k l0 l1 = some r) :
  Calls Try.prog 65 #[.slice A0 l0.length c0, .slice A1 l1.length c1] w fun e w' => e = .returned (.bool r) ∧ Drawn0 w w' := by
 have hu32 := Try.underlying32
 have HR0 := zA hr0
 have HC0 := zA hc0
 clear hr0 hc0
 have HR1 := zA hr1
 have HC1 := zA hc1
 clear hr1 hc1
 have H : (if (l0.length : Int) = (l1.length : Int) then (laws_sameVals.l0 k l0 l1 0) else (some false)) = some r := h
 clear h
 by_cases c3 : (l0.length : Int) = (l1.length : Int)
 ·rw [if_pos c3] at H
  have c3b0 : ((l0.length : Int) == (l1.length : Int)) = true := beq_iff_eq.mpr c3
  have c3b1 : ((l0.length : Int) != (l1.length : Int)) = false := bne_eq_false_iff_eq.mpr c3
  have c3b2 : (l0.length == l1.length) = true := by first | simpa using c3 | (simp at c3 ⊢; omega)
  clear c3
  have H' := zA H
  clear H
  go_enter Try.func65, Try.ntmps65
  go_wp2
  repeat (go_quiet (fail); try go_wp2)
  go_loopg [5] k (fun kq v5 w' => ∃ (x5_1 : Int), v5 = .int .i64 x5_1 ∧ Aside0 (laws_sameVals.l0 kq l0 l1 x5_1 = some r) ∧ Aside0 (kq ≤ k) ∧ Drawn0 w w')
  case atStart => exact ⟨(0), zx, H', ⟨Nat.le_refl _⟩, zz21⟩
  case round =>
   clear H'
   try clear c3; try clear c3b0; try clear c3b1; try clear c3b2
   obtain ⟨x5_1, rfl, HA, HK1, ⟨m1, rfl⟩⟩ := hrel
   cases gk with
   | zero => exact absurd HA.out (by simp [laws_sameVals.l0])
   | succ k1 =>
    have H := HA.out
    clear HA
    simp only [laws_sameVals.l0] at H
    by_cases c4 : x5_1 < (l0.length : Int)
    ·rw [if_pos c4] at H
     have c4b0 : decide (x5_1 < (l0.length : Int)) = true := decide_eq_true c4
     clear c4
     by_cases c5 : 0 ≤ x5_1
     ·rw [if_pos c5] at H
      have c5b0 : decide (0 ≤ x5_1) = true := decide_eq_true c5
      clear c5
      by_cases c6 : x5_1 < (l1.length : Int)
      ·rw [if_pos c6] at H
       have c6b0 : decide (x5_1 < (l1.length : Int)) = true := decide_eq_true c6
       clear c6
       by_cases c7 : (!(((rd_T32 l0 x5_1).f0) == ((rd_T32 l1 x5_1).f0)) || (!(((rd_T32 l0 x5_1).f1) == ((rd_T32 l1 x5_1).f1)) || (!((((rd_T32 l0 x5_1).f2).toList) == (((rd_T32 l1 x5_1).f2).toList))))) = true
       ·rw [if_pos c7] at H
        have c7b0 : (!(((rd_T32 l0 x5_1).f0) == ((rd_T32 l1 x5_1).f0)) || (!(((rd_T32 l0 x5_1).f1) == ((rd_T32 l1 x5_1).f1)) || (!((((rd_T32 l0 x5_1).f2).toList) == (((rd_T32 l1 x5_1).f2).toList))))) = true := c7
        clear c7
        obtain rfl := Option.some.inj H
        have p883 : 0 ≤ (x5_1 : Int) := of_decide_eq_true za
        have q883 : x5_1 < (l0.length : Int) := of_decide_eq_true za
        obtain ⟨ad883, e883, hx883_0, hx883_1, hx883_2⟩ := at_T32 HR0.out x5_1 p883 q883
        cases e883
        replace p883 := eq_true p883
        replace q883 := eq_true q883
        have p884 : 0 ≤ (x5_1 : Int) := of_decide_eq_true za
        have q884 : x5_1 < (l1.length : Int) := of_decide_eq_true za
        obtain ⟨ad884, e884, hx884_0, hx884_1, hx884_2⟩ := at_T32 HR1.out x5_1 p884 q884
        cases e884
        replace p884 := eq_true p884
        replace q884 := eq_true q884
        go_wp2
        repeat (go_quiet (fail); try go_wp2)
        go_ret
        exact ⟨zx, zz21⟩
       ·rw [if_neg c7] at H
        have c7b0 : (!(((rd_T32 l0 x5_1).f0) == ((rd_T32 l1 x5_1).f0)) || (!(((rd_T32 l0 x5_1).f1) == ((rd_T32 l1 x5_1).f1)) || (!((((rd_T32 l0 x5_1).f2).toList) == (((rd_T32 l1 x5_1).f2).toList))))) = false := by simpa using c7
        clear c7
        have H' := zA H
        clear H
        have p883 : 0 ≤ (x5_1 : Int) := of_decide_eq_true za
        have q883 : x5_1 < (l0.length : Int) := of_decide_eq_true za
        obtain ⟨ad883, e883, hx883_0, hx883_1, hx883_2⟩ := at_T32 HR0.out x5_1 p883 q883
        cases e883
        replace p883 := eq_true p883
        replace q883 := eq_true q883
        have p884 : 0 ≤ (x5_1 : Int) := of_decide_eq_true za
        have q884 : x5_1 < (l1.length : Int) := of_decide_eq_true za
        obtain ⟨ad884, e884, hx884_0, hx884_1, hx884_2⟩ := at_T32 HR1.out x5_1 p884 q884
        cases e884
        replace p884 := eq_true p884
        replace q884 := eq_true q884
        go_wp2
        repeat (go_quiet (fail); try go_wp2)
        go_roundg k1
        case measure => have := HK1.out; omega
        case rel => exact ⟨(wrap64 (x5_1 + 1)), zx, H', ⟨zz79⟩, zz21⟩
      ·rw [if_neg c6] at H
       exact absurd H (by simp)
     ·rw [if_neg c5] at H
      exact absurd H (by simp)
    ·rw [if_neg c4] at H
     have c4b0 : decide (x5_1 < (l0.length : Int)) = false := decide_eq_false c4
     clear c4
     obtain rfl := Option.some.inj H
     go_wp2
     repeat (go_quiet (fail); try go_wp2)
     go_ret
     exact ⟨zx, zz21⟩
 ·rw [if_neg c3] at H
  have c3b0 : ((l0.length : Int) == (l1.length : Int)) = false := beq_eq_false_iff_ne.mpr c3
  have c3b1 : ((l0.length : Int) != (l1.length : Int)) = true := bne_iff_ne.mpr c3
  have c3b2 : (l0.length == l1.length) = false := by first | simpa using c3 | (simp at c3 ⊢; omega)
  obtain rfl := Option.some.inj H
  go_enter Try.func65, Try.ntmps65
  go_wp2
  repeat (go_quiet (fail); try go_wp2)
  go_ret
  exact ⟨zx, zz21⟩

/-! ### spec_Pick: function 66 -/
def spec_Pick.l0 : Nat → List (S30) → List (S32) → List (S32) → Int → Option ((List (S32)))
  | 0, _, _, _, _ => none
  | k + 1, x0, x1, x5, x6 => if x6 < (x0.length : Int) then (if 0 ≤ x6 then ((spec_l1In.f ((rd_T30 x0 x6).f0) 0 (wrap64 ((x1.length : Int) - 1))).bind fun t890 => (if t890 = true then (if 0 ≤ ((rd_T30 x0 x6).f0) then (if ((rd_T30 x0 x6).f0) < (x1.length : Int) then (if x5.length < 4398046511104 then (spec_Pick.l0 k x0 x1 (x5 ++ [(⟨(rd_T32 x1 ((rd_T30 x0 x6).f0)).f0, (rd_T32 x1 ((rd_T30 x0 x6).f0)).f1, (rd_T32 x1 ((rd_T30 x0 x6).f0)).f2⟩ : S32)]) (wrap64 (x6 + 1))) else (none)) else (none)) else (none)) else (if x5.length < 4398046511104 then (spec_Pick.l0 k x0 x1 (x5 ++ [(⟨0, 0, (⟨#[]⟩ : ByteArray)⟩ : S32)]) (wrap64 (x6 + 1))) else (none)))) else (none)) else (some x5)
def spec_Pick.f (k : Nat) (l0 : List (S30)) (l1 : List (S32)) : Option ((List (S32))) := spec_Pick.l0 k l0 l1 (([] : List (S32))) 0
set_option maxHeartbeats 8000000 in
set_option maxRecDepth 100000 in
theorem spec_Pick.calls (k : Nat) (A0 : Option Addr) (c0 : Nat) (l0 : List (S30)) (A1 : Option Addr) (c1 : Nat) (l1 : List (S32)) (r : List (S32)) (w : World) (hr0 : Kd.C k30 w A0 l0.length l0) (hc0 : l0.length ≤ c0) (hr1 : Kd.C k32 w A1 l1.length l1) (hc1 : l1.length ≤ c1) (h : spec_Pick.f k l0 l1 = some r) :
  Calls Try.prog 66 #[.slice A0 l0.length c0, .slice A1 l1.length c1] w fun e w' => ∃ v0_ : Value, e = .returned (v0_) ∧ Kd.R k32 32 w' w.heap.size (fun _ => True) v0_ r ∧ Below w.heap.size w w' := by
 have hu32 := Try.underlying32
 have HR0 := zA hr0
 have HC0 := zA hc0
 clear hr0 hc0
 have HR1 := zA hr1
 have HC1 := zA hc1
 clear hr1 hc1
 have HB := zA (Below.refl w.heap.size w)
 have H : (spec_Pick.l0 k l0 l1 (([] : List (S32))) 0) = some r := h
 clear h
 obtain ⟨y885, hy885⟩ : ∃ y_ : List (S32), y_ = (([] : List (S32))) := ⟨_, rfl⟩
 replace H : (spec_Pick.l0 k l0 l1 y885 0) = some r := zy hy885
 have Ny885 := zA hy885
 clear hy885
 have H' := zA H
 clear H
 go_enter Try.func66, Try.ntmps66
 go_wp2_with (first | ((with_reducible refine zt 8 ?_); refine Kd.R_lit k32 _ 32 ?hg (N := 8) ?hd (xs := ([] : List (S32))) (inner := []) (ok := fun _ => True) (okp := fun _ => True) ?hr ?hp (fun _ hk => hk) trivial (Below.refl _ _) (Nat.le_refl _) (by simp) ?_; (case hd => rfl); (case hg => rfl); (case hr => exact zz16); (case hp => exact (Reps.none _ _)); intro v886 w3 ho4 hb hg_ hnew_; clear hg_ hnew_; (first | rw [← Ny885.out] at ho4 | (simp only [Int.reduceToNat] at ho4; rw [← Ny885.out] at ho4)); have HO887 := zL ho4; replace HB := zS hb; clear hb ho4))
 go_loopg [5, 6] k (fun kq v5 v6 w' => ∃ (x5_1 : List (S32)) (x6_1 : Int), v6 = .int .i64 x6_1 ∧ Aside0 (spec_Pick.l0 kq l0 l1 x5_1 x6_1 = some r) ∧ Aside0 (kq ≤ k) ∧ Aside0 (Kd.R k32 32 w' w.heap.size (fun _ => True) v5 x5_1) ∧ Aside0 (Below w.heap.size w w'))
 case atStart => exact ⟨(y885), (0), zx, H', ⟨Nat.le_refl _⟩, ⟨zr HO887⟩, ⟨zb⟩⟩
 case round =>
  clear H'
  obtain ⟨x5_1, x6_1, rfl, HA, HK1, HO_5, HB⟩ := hrel
  cases gk with
  | zero => exact absurd HA.out (by simp [spec_Pick.l0])
  | succ k1 =>
   have H := HA.out
   clear HA
   simp only [spec_Pick.l0] at H
   by_cases c5 : x6_1 < (l0.length : Int)
   ·rw [if_pos c5] at H
    have c5b0 : decide (x6_1 < (l0.length : Int)) = true := decide_eq_true c5
    clear c5
    by_cases c6 : 0 ≤ x6_1
    ·rw [if_pos c6] at H
     have c6b0 : decide (0 ≤ x6_1) = true := decide_eq_true c6
     clear c6
     replace H := zI H
     obtain ⟨t890, A7, H⟩ := H
     by_cases c8 : t890 = true
     ·subst c8
      rw [if_pos rfl] at H
      by_cases c9 : 0 ≤ ((rd_T30 l0 x6_1).f0)
      ·rw [if_pos c9] at H
       have c9b0 : decide (0 ≤ ((rd_T30 l0 x6_1).f0)) = true := decide_eq_true c9
       clear c9
       by_cases c10 : ((rd_T30 l0 x6_1).f0) < (l1.length : Int)
       ·rw [if_pos c10] at H
        have c10b0 : decide (((rd_T30 l0 x6_1).f0) < (l1.length : Int)) = true := decide_eq_true c10
        clear c10
        by_cases c11 : x5_1.length < 4398046511104
        ·rw [if_pos c11] at H
         have LMc11 := zA c11
         clear c11
         obtain ⟨y893, hy893⟩ : ∃ y_ : List (S32), y_ = (x5_1 ++ [(⟨(rd_T32 l1 ((rd_T30 l0 x6_1).f0)).f0, (rd_T32 l1 ((rd_T30 l0 x6_1).f0)).f1, (rd_T32 l1 ((rd_T30 l0 x6_1).f0)).f2⟩ : S32)]) := ⟨_, rfl⟩
         replace H : (spec_Pick.l0 k1 l0 l1 y893 (wrap64 (x6_1 + 1))) = some r := zy hy893
         have Ny893 := zA hy893
         clear hy893
         have H' := zA H
         clear H
         go_wp2_with (first | ((with_reducible refine zt 7 ?_); refine zn #[.int .i64 0, .int .i64 0, .string (⟨#[]⟩ : ByteArray)] 32 ?_; intro gb888 hg w12 hbox hb; replace HO_5 := zA (Kd.R_below (Kd.R_elderB (zr HO_5) gb888 (Nat.le_of_eq hg.symm)) hb); have BK888 := zA hbox; have GW888 := zG hg; have GE888 := zG hg; replace HB := zS hb; clear hb hbox hg; obtain ⟨hcz13_0, hcz13_1, hcz13_2, hfz13_0, hfz13_1, hfz13_2⟩ := zh3 BK888) | ((with_reducible refine gate_store (t := 32) (p := 7) rfl ?_); refine store_event (t := 32) (p := 7) (v := ?vo_w14) (w1 := (((w12.setCell ⟨gb888, 0, none⟩ (.int .i64 0)).setCell ⟨gb888, 1, none⟩ (.int .i64 0)).setCell ⟨gb888, 2, none⟩ (.string (⟨#[]⟩ : ByteArray)))) ?hg ?ho ?hn ?hr ?_; (case ho => rfl); (case hg => rfl); (case hn => rfl); (case hr => exact zz16); intro w14 hw; replace HO_5 : Aside0 (Kd.R k32 32 w14 w.heap.size (fun k_ => k_ ≠ gb888) u5 x5_1) := ⟨(by rw [hw]; exact zz71)⟩; replace BK888 : Aside0 (w14.heap[gb888]? = some (.cells #[.int .i64 0, .int .i64 0, .string (⟨#[]⟩ : ByteArray)] 32 (0, 0))) := ⟨(by rw [hw]; exact zz45)⟩; replace HB : Aside0 (Below w.heap.size w w14) := ⟨(by rw [hw]; exact (zb1 GE888))⟩; clear hw; have p889 : 0 ≤ (x6_1 : Int) := of_decide_eq_true za; have q889 : x6_1 < (l0.length : Int) := of_decide_eq_true za; obtain ⟨ad889, e889, hx889_0, hx889_1, hx889_2, hx889_3⟩ := at_T30 HR0.out x6_1 p889 q889; cases e889; replace hx889_0 := zj hx889_0; replace hx889_1 := zj hx889_1; replace hx889_2 := zj hx889_2; replace hx889_3 := zj hx889_3; replace p889 := eq_true p889; replace q889 := eq_true q889) | ((with_reducible refine zg 79 ?_); refine gL (some 24) Try.func79 #[.int .i64 ((rd_T30 l0 x6_1).f0), .int .i64 0, .int .i64 (wrap64 ((l1.length : Int) - 1))] ?_; (with_reducible refine (spec_l1In.calls ((rd_T30 l0 x6_1).f0) 0 (wrap64 ((l1.length : Int) - 1)) true _ A7.out).mono ?_); rintro e w' ⟨rfl, ⟨nd, rfl⟩⟩; refine ⟨_, rfl, ?_⟩; (try (rw [drewN_self w14]; generalize hq_ : World.drewN w14 _ = w14; replace HO_5 : Aside0 (Kd.R k32 32 w14 w.heap.size (fun k_ => k_ ≠ gb888) u5 x5_1) := ⟨by rw [← hq_]; exact (zr HO_5)⟩; replace BK888 : Aside0 (w14.heap[gb888]? = some (.cells #[.int .i64 0, .int .i64 0, .string (⟨#[]⟩ : ByteArray)] 32 (0, 0))) := ⟨by rw [← hq_]; exact (zk BK888)⟩; replace HB : Aside0 (Below w.heap.size w w14) := ⟨by rw [← hq_]; exact (zb1 GE888)⟩; clear hq_)); have p891 : 0 ≤ (x6_1 : Int) := of_decide_eq_true za; have q891 : x6_1 < (l0.length : Int) := of_decide_eq_true za; obtain ⟨ad891, e891, hx891_0, hx891_1, hx891_2, hx891_3⟩ := at_T30 HR0.out x6_1 p891 q891; obtain rfl : ad889 = ad891 := (by injection e891); replace hx891_0 := zj hx891_0; replace hx891_1 := zj hx891_1; replace hx891_2 := zj hx891_2; replace hx891_3 := zj hx891_3; replace p891 := eq_true p891; replace q891 := eq_true q891; have p892 : 0 ≤ (((rd_T30 l0 x6_1).f0) : Int) := of_decide_eq_true za; have q892 : ((rd_T30 l0 x6_1).f0) < (l1.length : Int) := of_decide_eq_true za; obtain ⟨ad892, e892, hx892_0, hx892_1, hx892_2⟩ := at_T32 HR1.out ((rd_T30 l0 x6_1).f0) p892 q892; cases e892; replace hx892_0 := zj hx892_0; replace hx892_1 := zj hx892_1; replace hx892_2 := zj hx892_2; replace p892 := eq_true p892; replace q892 := eq_true q892; obtain ⟨hcz15_0, hcz15_1, hcz15_2, hfz15_0, hfz15_1, hfz15_2⟩ := zh3 BK888) | ((with_reducible refine gate_store (t := 32) (p := 7) rfl ?_); refine store_event (t := 32) (p := 7) (v := ?vo_w16) (w1 := (((w14.setCell ⟨gb888, 0, none⟩ (.int .i64 ((rd_T32 l1 ((rd_T30 l0 x6_1).f0)).f0))).setCell ⟨gb888, 1, none⟩ (.int .i64 ((rd_T32 l1 ((rd_T30 l0 x6_1).f0)).f1))).setCell ⟨gb888, 2, none⟩ (.string ((rd_T32 l1 ((rd_T30 l0 x6_1).f0)).f2)))) ?hg ?ho ?hn ?hr ?_; (case ho => rfl); (case hg => rfl); (case hn => rfl); (case hr => exact zz16); intro w16 hw; replace HO_5 : Aside0 (Kd.R k32 32 w16 w.heap.size (fun k_ => k_ ≠ gb888) u5 x5_1) := ⟨(by rw [hw]; exact (by (with_reducible repeat (first | apply Kd.R_alloc | apply Kd.R_drewN | apply Kd.R_drew)); exact Kd.R_mono (Kd.R_far (p := ⟨gb888, 2, none⟩) (Kd.R_far (p := ⟨gb888, 1, none⟩) (Kd.R_far (p := ⟨gb888, 0, none⟩) (Kd.R_mono HO_5.out (fun k_ hk => (⟨hk, hk⟩ : _ ∧ k_ ≠ gb888))) (fun _ hk => hk.2) (.int .i64 ((rd_T32 l1 ((rd_T30 l0 x6_1).f0)).f0))) (fun _ hk => hk.2) (.int .i64 ((rd_T32 l1 ((rd_T30 l0 x6_1).f0)).f1))) (fun _ hk => hk.2) (.string ((rd_T32 l1 ((rd_T30 l0 x6_1).f0)).f2))) (fun _ hk => hk.1)))⟩; replace BK888 : Aside0 (w16.heap[gb888]? = some (.cells #[.int .i64 ((rd_T32 l1 ((rd_T30 l0 x6_1).f0)).f0), .int .i64 ((rd_T32 l1 ((rd_T30 l0 x6_1).f0)).f1), .string ((rd_T32 l1 ((rd_T30 l0 x6_1).f0)).f2)] 32 (0, 0))) := ⟨(by rw [hw]; exact (by (with_reducible repeat (first | refine blk_drewN ?_ _ | refine blk_drew ?_ | refine blk_alloc ?_ _)); refine blk_put (cs := #[.int .i64 ((rd_T32 l1 ((rd_T30 l0 x6_1).f0)).f0), .int .i64 ((rd_T32 l1 ((rd_T30 l0 x6_1).f0)).f1), .string (⟨#[]⟩ : ByteArray)]) ?_ 2 _ rfl; (with_reducible repeat (first | refine blk_drewN ?_ _ | refine blk_drew ?_ | refine blk_alloc ?_ _)); refine blk_put (cs := #[.int .i64 ((rd_T32 l1 ((rd_T30 l0 x6_1).f0)).f0), .int .i64 0, .string (⟨#[]⟩ : ByteArray)]) ?_ 1 _ rfl; (with_reducible repeat (first | refine blk_drewN ?_ _ | refine blk_drew ?_ | refine blk_alloc ?_ _)); refine blk_put (cs := #[.int .i64 0, .int .i64 0, .string (⟨#[]⟩ : ByteArray)]) ?_ 0 _ rfl; (with_reducible repeat (first | refine blk_drewN ?_ _ | refine blk_drew ?_ | refine blk_alloc ?_ _)); exact BK888.out))⟩; replace HB : Aside0 (Below w.heap.size w w16) := ⟨(by rw [hw]; exact (zb1 GE888))⟩; clear hw; obtain ⟨hcz17_0, hcz17_1, hcz17_2, hfz17_0, hfz17_1, hfz17_2⟩ := zh3 BK888) | ((with_reducible refine gate_builtin (b := .append) (xs := #[.tmp 33, .tmp 35]) rfl ?_); at_builtin; refine Kd.R_append k32 (w0 := w) w.heap.size rfl (.tmp 33) (.tmp 35) 58 32 (.agg #[(.int .i64 0), (.int .i64 0), (.string ⟨#[]⟩)]) 32 rfl Try.underlying58 info32 rfl (by decide) (by omega) u5 x5_1 (⟨(rd_T32 l1 ((rd_T30 l0 x6_1).f0)).f0, (rd_T32 l1 ((rd_T30 l0 x6_1).f0)).f1, (rd_T32 l1 ((rd_T30 l0 x6_1).f0)).f2⟩ : S32) [.int .i64 ((rd_T32 l1 ((rd_T30 l0 x6_1).f0)).f0), .int .i64 ((rd_T32 l1 ((rd_T30 l0 x6_1).f0)).f1), .string ((rd_T32 l1 ((rd_T30 l0 x6_1).f0)).f2)] (fun k_ => k_ ≠ gb888) (fun _ => False) rfl rfl ?aP (fun _ hk => hk.elim) ?aF ?aO ?aB ?aS ?aL ?_; (case aP => exact k32_mkM _ _ _ (⟨(rd_T32 l1 ((rd_T30 l0 x6_1).f0)).f0, (rd_T32 l1 ((rd_T30 l0 x6_1).f0)).f1, (rd_T32 l1 ((rd_T30 l0 x6_1).f0)).f2⟩ : S32)); (case aB => exact (zb1 GE888)); (case aF => exact (fun k_ hk => Kd.freshB (g := gb888) (o := .cells #[.int .i64 ((rd_T32 l1 ((rd_T30 l0 x6_1).f0)).f0), .int .i64 ((rd_T32 l1 ((rd_T30 l0 x6_1).f0)).f1), .string ((rd_T32 l1 ((rd_T30 l0 x6_1).f0)).f2)] 32 (0, 0)) (zk BK888) k_ hk)); (case aO => exact (zr HO_5)); (case aS => exact (below_size (zb1 GE888))); (case aL => have := LMc11.out; omega); intro v894 w18 ho hb hg hat; rw [← Ny893.out] at ho; replace BK888 := zA (blk_grown (g := gb888) (o := .cells #[.int .i64 ((rd_T32 l1 ((rd_T30 l0 x6_1).f0)).f0), .int .i64 ((rd_T32 l1 ((rd_T30 l0 x6_1).f0)).f1), .string ((rd_T32 l1 ((rd_T30 l0 x6_1).f0)).f2)] 32 (0, 0)) (zk BK888) hg (Kd.R_away HO_5.out (fun _ hk => hk))); replace HB := zA hb; have HO895 := zA ho; clear HO_5 ho hb hg hat))
         go_roundg k1
         case measure => have := HK1.out; omega
         case rel => exact ⟨(y893), (wrap64 (x6_1 + 1)), zx, H', ⟨zz79⟩, ⟨by (with_reducible repeat (first | apply Kd.R_alloc | apply Kd.R_drewN | apply Kd.R_drew)); exact Kd.R_mono HO895.out (fun _ hk => trivial)⟩, ⟨zb1 GE888⟩⟩
        ·rw [if_neg c11] at H
         exact absurd H (by simp)
       ·rw [if_neg c10] at H
        exact absurd H (by simp)
      ·rw [if_neg c9] at H
       exact absurd H (by simp)
     ·replace c8 := Bool.eq_false_iff.mpr c8
      subst c8
      rw [if_neg (Bool.false_ne_true)] at H
      by_cases c19 : x5_1.length < 4398046511104
      ·rw [if_pos c19] at H
       have LMc19 := zA c19
       clear c19
       obtain ⟨y896, hy896⟩ : ∃ y_ : List (S32), y_ = (x5_1 ++ [(⟨0, 0, (⟨#[]⟩ : ByteArray)⟩ : S32)]) := ⟨_, rfl⟩
       replace H : (spec_Pick.l0 k1 l0 l1 y896 (wrap64 (x6_1 + 1))) = some r := zy hy896
       have Ny896 := zA hy896
       clear hy896
       have H' := zA H
       clear H
       go_wp2_with (first | ((with_reducible refine zt 7 ?_); refine zn #[.int .i64 0, .int .i64 0, .string (⟨#[]⟩ : ByteArray)] 32 ?_; intro gb888 hg w20 hbox hb; replace HO_5 := zA (Kd.R_below (Kd.R_elderB (zr HO_5) gb888 (Nat.le_of_eq hg.symm)) hb); have BK888 := zA hbox; have GW888 := zG hg; have GE888 := zG hg; replace HB := zS hb; clear hb hbox hg; obtain ⟨hcz21_0, hcz21_1, hcz21_2, hfz21_0, hfz21_1, hfz21_2⟩ := zh3 BK888) | ((with_reducible refine gate_store (t := 32) (p := 7) rfl ?_); refine store_event (t := 32) (p := 7) (v := ?vo_w22) (w1 := (((w20.setCell ⟨gb888, 0, none⟩ (.int .i64 0)).setCell ⟨gb888, 1, none⟩ (.int .i64 0)).setCell ⟨gb888, 2, none⟩ (.string (⟨#[]⟩ : ByteArray)))) ?hg ?ho ?hn ?hr ?_; (case ho => rfl); (case hg => rfl); (case hn => rfl); (case hr => exact zz16); intro w22 hw; replace HO_5 : Aside0 (Kd.R k32 32 w22 w.heap.size (fun k_ => k_ ≠ gb888) u5 x5_1) := ⟨(by rw [hw]; exact zz71)⟩; replace BK888 : Aside0 (w22.heap[gb888]? = some (.cells #[.int .i64 0, .int .i64 0, .string (⟨#[]⟩ : ByteArray)] 32 (0, 0))) := ⟨(by rw [hw]; exact zz45)⟩; replace HB : Aside0 (Below w.heap.size w w22) := ⟨(by rw [hw]; exact (zb1 GE888))⟩; clear hw; have p889 : 0 ≤ (x6_1 : Int) := of_decide_eq_true za; have q889 : x6_1 < (l0.length : Int) := of_decide_eq_true za; obtain ⟨ad889, e889, hx889_0, hx889_1, hx889_2, hx889_3⟩ := at_T30 HR0.out x6_1 p889 q889; cases e889; replace hx889_0 := zj hx889_0; replace hx889_1 := zj hx889_1; replace hx889_2 := zj hx889_2; replace hx889_3 := zj hx889_3; replace p889 := eq_true p889; replace q889 := eq_true q889) | ((with_reducible refine zg 79 ?_); refine gL (some 24) Try.func79 #[.int .i64 ((rd_T30 l0 x6_1).f0), .int .i64 0, .int .i64 (wrap64 ((l1.length : Int) - 1))] ?_; (with_reducible refine (spec_l1In.calls ((rd_T30 l0 x6_1).f0) 0 (wrap64 ((l1.length : Int) - 1)) false _ A7.out).mono ?_); rintro e w' ⟨rfl, ⟨nd, rfl⟩⟩; refine ⟨_, rfl, ?_⟩; obtain ⟨hcz23_0, hcz23_1, hcz23_2, hfz23_0, hfz23_1, hfz23_2⟩ := zh3 BK888) | ((with_reducible refine gate_builtin (b := .append) (xs := #[.tmp 33, .tmp 35]) rfl ?_); at_builtin; refine Kd.R_append k32 (w0 := w) w.heap.size rfl (.tmp 33) (.tmp 35) 58 32 (.agg #[(.int .i64 0), (.int .i64 0), (.string ⟨#[]⟩)]) 32 rfl Try.underlying58 info32 rfl (by decide) (by omega) u5 x5_1 (⟨0, 0, (⟨#[]⟩ : ByteArray)⟩ : S32) [.int .i64 0, .int .i64 0, .string (⟨#[]⟩ : ByteArray)] (fun k_ => k_ ≠ gb888) (fun _ => False) rfl rfl ?aP (fun _ hk => hk.elim) ?aF ?aO ?aB ?aS ?aL ?_; (case aP => exact k32_mkM _ _ _ (⟨0, 0, (⟨#[]⟩ : ByteArray)⟩ : S32)); (case aB => exact (zb1 GE888)); (case aF => exact (fun k_ hk => Kd.freshB (g := gb888) (o := .cells #[.int .i64 0, .int .i64 0, .string (⟨#[]⟩ : ByteArray)] 32 (0, 0)) (zk BK888) k_ hk)); (case aO => exact (zr HO_5)); (case aS => exact (below_size (zb1 GE888))); (case aL => have := LMc19.out; omega); intro v897 w24 ho hb hg hat; rw [← Ny896.out] at ho; replace BK888 := zA (blk_grown (g := gb888) (o := .cells #[.int .i64 0, .int .i64 0, .string (⟨#[]⟩ : ByteArray)] 32 (0, 0)) (zk BK888) hg (Kd.R_away HO_5.out (fun _ hk => hk))); replace HB := zA hb; have HO898 := zA ho; clear HO_5 ho hb hg hat))
       go_roundg k1
       case measure => have := HK1.out; omega
       case rel => exact ⟨(y896), (wrap64 (x6_1 + 1)), zx, H', ⟨zz79⟩, ⟨by (with_reducible repeat (first | apply Kd.R_alloc | apply Kd.R_drewN | apply Kd.R_drew)); exact Kd.R_mono HO898.out (fun _ hk => trivial)⟩, ⟨zb1 GE888⟩⟩
      ·rw [if_neg c19] at H
       exact absurd H (by simp)
    ·rw [if_neg c6] at H
     exact absurd H (by simp)
   ·rw [if_neg c5] at H
    have c5b0 : decide (x6_1 < (l0.length : Int)) = false := decide_eq_false c5
    clear c5
    obtain rfl := Option.some.inj H
    go_wp2
    go_ret
    exact ⟨_, zw, zr HO_5, zb⟩

end Go.Proofs.Ytnfmpopmigbkoaa.PFnKeysRead

/- Of two unlike values one is less, and not both; values are the same just if all of them is; rows are the same just if all their values are. No condition. -/
import Derived.Test.YteeokieokbibbaaPFnOrderx4
import Derived.Test.YteeokieokbibbaaM
import Derived.Test.YteeokieokbibbaaB
import Derived.Test.YteeokieokbibbaaO
namespace Go.Proofs.Yteeokieokbibbaa.Pure
open Go.RowKit Go.Proofs.Yteeokieokbibbaa.PFnOrder Go.Proofs.YteeokieokbibbaaW.PrintWords Go.Proofs.YteeokieokbibbaaW.PrintLast Go.Proofs.YteeokieokbibbaaW.PrintMore Go.Proofs.YteeokieokbibbaaM
set_option linter.unusedVariables false
set_option linter.unusedSimpArgs false

theorem rd_T44_nat (xs : List S44) (i : Nat) (h : i < xs.length) : rd_T44 xs (i : Int) = xs[i] := by
  unfold rd_T44; simp [List.getD_eq_getElem?_getD, h]
def sameV (a b : S44) : Bool := sameVB a.f0 a.f1 a.f2 b.f0 b.f1 b.f2
theorem sameV_not (a b : S44) : (!(a.f0 == b.f0) || (!(a.f1 == b.f1) || (!(a.f2.toList == b.f2.toList)))) = !sameV a b := by
  unfold sameV sameVB; cases a.f0 == b.f0 <;> cases a.f1 == b.f1 <;> cases a.f2.toList == b.f2.toList <;> rfl
def sameRowB (a b : List S44) : Bool := decide (a.length = b.length) && (a.zip b).all fun q => sameV q.1 q.2

theorem laws_big_eq (l : List Int) : laws_big.f l = some (decide ((l.length : Int) > 1048576)) := rfl
attribute [local irreducible] laws_big.f

theorem spec_l1New_l0 (l : List Int) (hl : l.length ≤ 1048576) : ∀ i : Nat, i ≤ l.length → ∀ h : Int, ∃ r : Int, Ev (fun k => spec_l1New.l0 k l h (i : Int)) (l, 0, r) := by
  refine up_ind l.length (fun i : Nat => ∀ h : Int, ∃ r : Int, Ev (fun k => spec_l1New.l0 k l h (i : Int)) (l, 0, r)) ?_ ?_
  · intro h
    refine ⟨h, ev_succ ?_⟩
    have h1 : ¬ ((l.length : Int) < (l.length : Int)) := by omega
    simp only [spec_l1New.l0.eq_2, h1, if_false]
    exact ev_some _
  · intro i hi ih h
    have h1 : (i : Int) < (l.length : Int) := by omega
    have h2 : (0 : Int) ≤ (i : Int) := by omega
    by_cases h4 : (i : Int) < 4000
    · obtain ⟨r, hr⟩ := ih (Go.bits .and .i64 (wrap64 ((wrap64 ((wrap64 (h * 137)) + (wrap64 (rd l (i : Int))))) + 11)) 1073741823)
      refine ⟨r, ev_succ ?_⟩
      simp only [spec_l1New.l0.eq_2, h1, h2, h4, if_true, wsucc (show i < 9223372036854775807 by omega)]
      exact hr
    · refine ⟨h, ev_succ ?_⟩
      simp only [spec_l1New.l0.eq_2, h1, h4, if_true, if_false]
      exact ev_some _
theorem spec_l1New_ev (l : List Int) (hl : l.length ≤ 1048576) : ∃ r : Int, Ev (fun k => spec_l1New.f k l) (l, 0, r) := by
  unfold spec_l1New.f
  exact spec_l1New_l0 l hl 0 (by omega) _
/-- Where a reader of draws stands. -/
def Cur (l : List Int) (i : Int) : Prop := 0 ≤ i ∧ i ≤ l.length
theorem Cur.start (l : List Int) : Cur l 0 := ⟨by omega, by omega⟩
attribute [local irreducible] spec_l1New.f

theorem spec_l1Byte_ok (l : List Int) (hl : l.length ≤ 1048576) (i h : Int) (hc : Cur l i) : ∃ x i' h' : Int, spec_l1Byte.f l i h = some (x, i', h') ∧ 0 ≤ x ∧ x ≤ 255 ∧ Cur l i' := by
  unfold spec_l1Byte.f
  obtain ⟨c0, c1⟩ := hc
  by_cases h1 : i < (l.length : Int)
  · rw [if_pos h1, if_pos c0, w64 (x := i + 1) (by omega) (by omega)]
    refine ⟨_, _, _, rfl, ?_, ?_, ?_, ?_⟩
    · rw [and255]; omega
    · rw [and255]; omega
    · omega
    · omega
  · rw [if_neg h1]
    refine ⟨_, _, _, rfl, ?_, ?_, ?_, ?_⟩
    · rw [and255]; omega
    · rw [and255]; omega
    · omega
    · omega
attribute [local irreducible] spec_l1Byte.f

theorem spec_l1Below_ok (l : List Int) (hl : l.length ≤ 1048576) (i h : Int) (hc : Cur l i) (n : Int) : ∃ x i' h' : Int, spec_l1Below.f l i h n = some (x, i', h') ∧ 0 ≤ x ∧ (0 < n → x < n) ∧ (n ≤ 0 → x = 0) ∧ Cur l i' := by
  unfold spec_l1Below.f
  by_cases h0 : n ≤ 0
  · rw [if_pos h0]
    exact ⟨0, i, h, rfl, by omega, by omega, fun _ => rfl, hc⟩
  · rw [if_neg h0]
    have hn : ¬ (n = 0) := by omega
    obtain ⟨x, i1, h1, e1, x0, x1, c1⟩ := spec_l1Byte_ok l hl i h hc
    by_cases h256 : n ≤ 256
    · rw [if_pos h256, e1]
      simp only [Option.bind_some, hn, if_false]
      refine ⟨_, _, _, rfl, ?_, ?_, by omega, c1⟩
      · exact Int.tmod_nonneg _ x0
      · intro hp; exact Int.tmod_lt_of_pos _ hp
    · obtain ⟨y, i2, h2, e2, y0, y1, c2⟩ := spec_l1Byte_ok l hl i1 h1 c1
      obtain ⟨z, i3, h3, e3, z0, z1, c3⟩ := spec_l1Byte_ok l hl i2 h2 c2
      rw [if_neg h256, e1]
      simp only [Option.bind_some, e2, e3, hn, if_false]
      have w1 : wrap64 (x * 65536) = x * 65536 := w64 (by omega) (by omega)
      have w2 : wrap64 (y * 256) = y * 256 := w64 (by omega) (by omega)
      rw [w1, w2]
      clear w1 w2
      have w3 : wrap64 (x * 65536 + y * 256) = x * 65536 + y * 256 := w64 (by omega) (by omega)
      rw [w3]
      clear w3
      have w4 : wrap64 (x * 65536 + y * 256 + z) = x * 65536 + y * 256 + z := w64 (by omega) (by omega)
      rw [w4]
      clear w4
      refine ⟨_, _, _, rfl, ?_, ?_, by omega, c3⟩
      · exact Int.tmod_nonneg _ (by omega)
      · intro hp; exact Int.tmod_lt_of_pos _ hp
attribute [local irreducible] spec_l1Below.f

theorem spec_l1Int_ok (l : List Int) (hl : l.length ≤ 1048576) (i h : Int) (hc : Cur l i) (xs : List Int) (hx : 0 < xs.length) : ∃ x i' h' : Int, spec_l1Int.f l i h xs = some (x, i', h') ∧ x ∈ xs ∧ Cur l i' := by
  unfold spec_l1Int.f
  obtain ⟨x, i1, h1, e1, x0, x1, _, c1⟩ := spec_l1Below_ok l hl i h hc (xs.length : Int)
  have hlt := x1 (by omega)
  rw [e1]
  simp only [Option.bind_some, x0, hlt, if_true]
  obtain ⟨j, rfl⟩ := Int.eq_ofNat_of_zero_le x0
  have hj : j < xs.length := by omega
  exact ⟨_, _, _, rfl, by rw [rd_nat xs j hj]; exact List.getElem_mem hj, c1⟩
attribute [local irreducible] spec_l1Int.f

theorem spec_l1Once_ok (l : List Int) (hl : l.length ≤ 1048576) (i h : Int) (hc : Cur l i) (n : Int) : ∃ (b : Bool) (i' h' : Int), spec_l1Once.f l i h n = some (b, i', h') ∧ Cur l i' := by
  unfold spec_l1Once.f
  obtain ⟨x, i1, h1, e1, x0, x1, _, c1⟩ := spec_l1Below_ok l hl i h hc n
  rw [e1]
  exact ⟨_, _, _, rfl, c1⟩
attribute [local irreducible] spec_l1Once.f

theorem spec_l1Str_ok (l : List Int) (hl : l.length ≤ 1048576) (i h : Int) (hc : Cur l i) (xs : List ByteArray) (hx : 0 < xs.length) : ∃ (x : ByteArray) (i' h' : Int), spec_l1Str.f l i h xs = some (x, i', h') ∧ x ∈ xs ∧ Cur l i' := by
  unfold spec_l1Str.f
  obtain ⟨x, i1, h1, e1, x0, x1, _, c1⟩ := spec_l1Below_ok l hl i h hc (xs.length : Int)
  have hlt := x1 (by omega)
  rw [e1]
  simp only [Option.bind_some, x0, hlt, if_true]
  obtain ⟨j, rfl⟩ := Int.eq_ofNat_of_zero_le x0
  have hj : j < xs.length := by omega
  refine ⟨_, _, _, rfl, ?_, c1⟩
  unfold rdOf
  simp [List.getD_eq_getElem?_getD, hj]
attribute [local irreducible] spec_l1Str.f

theorem spec_l2Text_ok (l : List Int) (hl : l.length ≤ 1048576) (i h : Int) (hc : Cur l i) : ∃ (s : ByteArray) (i' h' : Int), spec_l2Text.f l i h = some (s, i', h') ∧ s.size ≤ 4 ∧ Cur l i' := by
  unfold spec_l2Text.f
  obtain ⟨s, i1, h1, e1, hm, c1⟩ := spec_l1Str_ok l hl i h hc [⟨#[]⟩, ⟨#[97]⟩, ⟨#[98]⟩, ⟨#[97, 98]⟩, ⟨#[0]⟩, ⟨#[97, 0]⟩, ⟨#[0, 255]⟩, ⟨#[255]⟩, ⟨#[119, 111, 114, 100]⟩, ⟨#[122]⟩] (by decide)
  rw [e1]
  refine ⟨s, i1, h1, rfl, ?_, c1⟩
  simp only [List.mem_cons, List.not_mem_nil, or_false] at hm
  rcases hm with h | h | h | h | h | h | h | h | h | h <;> subst h <;> decide
attribute [local irreducible] spec_l2Text.f

theorem isE_empty : isE ⟨#[]⟩ = true := by unfold isE; rw [ByteArray.toList_eq]; rfl
/-- What is drawn of a value: its kind, its number and its text are small, and of a type that there is it fits. -/
theorem spec_l2Of_j0 (l : List Int) (hl : l.length ≤ 1048576) (i h : Int) (hc : Cur l i) (t : Int) (ht : -9223372036854775808 ≤ t ∧ t ≤ 9223372036854775807) (z null : Bool) (hz : z = true → null = true) : ∃ (a n : Int) (s : ByteArray) (i' h' : Int),
    Ev (fun k => spec_l2Of.j0 k t z l i h) (a, n, s, i', h') ∧ (a = t ∨ a = 0) ∧ (-1000000000000000 ≤ n ∧ n ≤ 1000000000000000) ∧ s.size ≤ 4 ∧ (1 ≤ t → t ≤ 4 → fitsB t null a n s = true) ∧ Cur l i' := by
  cases hzz : z with
  | true =>
    refine ⟨0, 0, ⟨#[]⟩, i, h, ev_succ ?_, .inr rfl, by omega, by decide, fun _ _ => ?_, hc⟩
    · simp only [spec_l2Of.j0.eq_2, if_true]; exact ev_some _
    · unfold fitsB valOkB; simp [hz hzz, isE_empty]
  | false =>
    by_cases h1 : t = 1
    · subst h1
      obtain ⟨n, i1, h1, e1, hm, c1⟩ := spec_l1Int_ok l hl i h hc [0, 1, 2, 3, -1, 255, 256, 2147483647, -2147483648] (by decide)
      have hn : -2147483648 ≤ n ∧ n ≤ 2147483647 := by simp only [List.mem_cons, List.not_mem_nil, or_false] at hm; omega
      refine ⟨1, n, ⟨#[]⟩, i1, h1, ev_succ ?_, .inl rfl, by omega, by decide, fun _ _ => ?_, c1⟩
      · simp only [spec_l2Of.j0.eq_2, Bool.false_eq_true, if_false, if_true, e1, Option.bind_some]; exact ev_some _
      · unfold fitsB valOkB inB; simp [hn, isE_empty]
    · by_cases h2 : t = 2
      · subst h2
        obtain ⟨a, i1, h1', e1, a0, a1, _, c1⟩ := spec_l1Below_ok l hl i h hc 100000
        have a2 := a1 (by omega)
        have w1 : wrap64 (-a) = -a := w64 (by omega) (by omega)
        obtain ⟨n, i2, h2, e2, hm, c2⟩ := spec_l1Int_ok l hl i1 h1' c1 [0, 1, -1, 255, 256, -256, -257, 65535, 1000000000000000, -1000000000000000, wrap64 (-a)] (by simp)
        rw [w1] at hm
        have hn : -1000000000000000 ≤ n ∧ n ≤ 1000000000000000 := by simp only [List.mem_cons, List.not_mem_nil, or_false] at hm; omega
        refine ⟨2, n, ⟨#[]⟩, i2, h2, ev_succ ?_, .inl rfl, hn, by decide, fun _ _ => ?_, c2⟩
        · simp only [spec_l2Of.j0.eq_2, Bool.false_eq_true, if_false, h1, if_true, e1, Option.bind_some, e2]; exact ev_some _
        · unfold fitsB valOkB inB; simp [hn, isE_empty]
      · by_cases h3 : t = 3
        · subst h3
          obtain ⟨s, i1, h1', e1, hs, c1⟩ := spec_l2Text_ok l hl i h hc
          refine ⟨3, 0, s, i1, h1', ev_succ ?_, .inl rfl, by omega, hs, fun _ _ => ?_, c1⟩
          · simp only [spec_l2Of.j0.eq_2, Bool.false_eq_true, if_false, h1, h2, if_true, e1, Option.bind_some]; exact ev_some _
          · unfold fitsB valOkB; simp; omega
        · obtain ⟨n, i1, h1', e1, a0, a1, _, c1⟩ := spec_l1Below_ok l hl i h hc 2
          have a2 := a1 (by omega)
          refine ⟨t, n, ⟨#[]⟩, i1, h1', ev_succ ?_, .inl rfl, by omega, by decide, fun t1 t4 => ?_, c1⟩
          · simp only [spec_l2Of.j0.eq_2, Bool.false_eq_true, if_false, h1, h2, h3, e1, Option.bind_some]; exact ev_some _
          · have h4 : t = 4 := by omega
            subst h4
            unfold fitsB valOkB inB; simp [isE_empty]
            omega
theorem spec_l2Of_ev (l : List Int) (hl : l.length ≤ 1048576) (i h : Int) (hc : Cur l i) (t : Int) (ht : -9223372036854775808 ≤ t ∧ t ≤ 9223372036854775807) (null : Bool) : ∃ (a n : Int) (s : ByteArray) (i' h' : Int),
    Ev (fun k => spec_l2Of.f k l i h t null) (a, n, s, i', h') ∧ (a = t ∨ a = 0) ∧ (-1000000000000000 ≤ n ∧ n ≤ 1000000000000000) ∧ s.size ≤ 4 ∧ (1 ≤ t → t ≤ 4 → fitsB t null a n s = true) ∧ Cur l i' := by
  unfold spec_l2Of.f
  cases null with
  | true =>
    obtain ⟨z, i1, h1, e1, c1⟩ := spec_l1Once_ok l hl i h hc 4
    simp only [if_true, e1, Option.bind_some]
    exact spec_l2Of_j0 l hl i1 h1 c1 t ht z true (fun _ => rfl)
  | false =>
    simp only [Bool.false_eq_true, if_false]
    exact spec_l2Of_j0 l hl i h hc t ht false false (fun h => by cases h)
attribute [local irreducible] spec_l2Of.f

theorem spec_l2Draw_ev (l : List Int) (hl : l.length ≤ 1048576) (i h : Int) (hc : Cur l i) : ∃ (a n : Int) (s : ByteArray) (i' h' : Int),
    Ev (fun k => spec_l2Draw.f k l i h) (a, n, s, i', h') ∧ (0 ≤ a ∧ a ≤ 4) ∧ (-1000000000000000 ≤ n ∧ n ≤ 1000000000000000) ∧ s.size ≤ 4 ∧ Cur l i' := by
  unfold spec_l2Draw.f
  obtain ⟨x, i1, h1, e1, x0, x1, _, c1⟩ := spec_l1Below_ok l hl i h hc 4
  have x2 := x1 (by omega)
  have w1 : wrap64 (1 + x) = 1 + x := w64 (by omega) (by omega)
  simp only [e1, Option.bind_some, w1]
  obtain ⟨a, n, s, i2, h2, hE, ha, hn, hs, _, c2⟩ := spec_l2Of_ev l hl i1 h1 c1 (1 + x) (by omega) true
  exact ⟨a, n, s, i2, h2, Ev.bind hE (ev_some _), by omega, hn, hs, c2⟩
attribute [local irreducible] spec_l2Draw.f

theorem spec_l1Num_ok (l : List Int) (hl : l.length ≤ 1048576) (i h : Int) (hc : Cur l i) : ∃ n i' h' : Int, spec_l1Num.f l i h = some (n, i', h') ∧ (-9223372036854775808 ≤ n ∧ n ≤ 9223372036854775807) ∧ Cur l i' := by
  unfold spec_l1Num.f
  obtain ⟨a, i1, h1, e1, a0, a1, _, c1⟩ := spec_l1Below_ok l hl i h hc 100000
  obtain ⟨b, i2, h2, e2, b0, b1, _, c2⟩ := spec_l1Below_ok l hl i1 h1 c1 100000
  have a2 := a1 (by omega)
  have b2 := b1 (by omega)
  simp only [e1, e2, Option.bind_some]
  rw [w64 (x := -b) (by omega) (by omega)]
  obtain ⟨n, i3, h3, e3, hm, c3⟩ := spec_l1Int_ok l hl i2 h2 c2 [0, 1, -1, 63, 127, 128, 255, 256, 65535, 65536, 2147483647, -2147483648, 2147483648, -2147483649, 1000000000000000, -1000000000000000, 1000000000000001, 9223372036854775807, -9223372036854775808, a, -b] (by simp)
  rw [e3]
  refine ⟨n, i3, h3, rfl, ?_, c3⟩
  simp only [List.mem_cons, List.not_mem_nil, or_false] at hm
  omega
attribute [local irreducible] spec_l1Num.f

theorem spec_l2Any_ev (l : List Int) (hl : l.length ≤ 1048576) (i h : Int) (hc : Cur l i) : ∃ (a n : Int) (s : ByteArray) (i' h' : Int),
    Ev (fun k => spec_l2Any.f k l i h) (a, n, s, i', h') ∧ (0 ≤ a ∧ a ≤ 5) ∧ (-9223372036854775808 ≤ n ∧ n ≤ 9223372036854775807) ∧ s.size ≤ 31 ∧ Cur l i' := by
  unfold spec_l2Any.f
  obtain ⟨a, n, s, i1, h1, hE, ha, hn, hs, c1⟩ := spec_l2Draw_ev l hl i h hc
  obtain ⟨x, i2, h2, e2, x0, x1, _, c2⟩ := spec_l1Below_ok l hl i1 h1 c1 10
  by_cases y0 : x = 0
  · obtain ⟨y, i3, h3, e3, z0, z1, _, c3⟩ := spec_l1Below_ok l hl i2 h2 c2 6
    have z2 := z1 (by omega)
    refine ⟨y, n, s, i3, h3, Ev.bind hE ?_, by omega, by omega, by omega, c3⟩
    simp only [e2, Option.bind_some, y0, if_true, e3]
    exact ev_some _
  by_cases y1 : x = 1
  · obtain ⟨m, i3, h3, e3, hm, c3⟩ := spec_l1Num_ok l hl i2 h2 c2
    refine ⟨a, m, s, i3, h3, Ev.bind hE ?_, by omega, hm, by omega, c3⟩
    simp only [e2, Option.bind_some, y0, y1, if_true, if_false, e3, show ¬ ((1 : Int) = 0) by decide]
    exact ev_some _
  by_cases y2 : x = 2
  · obtain ⟨y, i3, h3, e3, z0, z1, _, c3⟩ := spec_l1Below_ok l hl i2 h2 c2 2
    have z2 := z1 (by omega)
    have w1 : wrap64 (30 + y) = 30 + y := w64 (by omega) (by omega)
    refine ⟨a, n, strOfNums (List.replicate (30 + y).toNat 0), i3, h3, Ev.bind hE ?_, by omega, by omega, by rw [strOfNums_size, List.length_replicate]; omega, c3⟩
    have q1 : (0 : Int) ≤ 30 + y := by omega
    have q2 : (30 + y).toNat ≤ 281474976710656 := by omega
    simp only [e2, Option.bind_some, y0, y1, y2, if_true, if_false, e3, w1, q1, q2, show ¬ ((2 : Int) = 0) by decide, show ¬ ((2 : Int) = 1) by decide]
    exact ev_some _
  by_cases y3 : x = 3
  · obtain ⟨t, i3, h3, e3, hm, c3⟩ := spec_l1Str_ok l hl i2 h2 c2 [⟨#[105, 116, 39, 115]⟩, ⟨#[97, 32, 98]⟩, ⟨#[126]⟩, ⟨#[127]⟩] (by decide)
    have ht : t.size ≤ 4 := by
      simp only [List.mem_cons, List.not_mem_nil, or_false] at hm
      rcases hm with h | h | h | h <;> subst h <;> decide
    refine ⟨a, n, t, i3, h3, Ev.bind hE ?_, by omega, by omega, by omega, c3⟩
    simp only [e2, Option.bind_some, y0, y1, y2, y3, if_true, if_false, e3, show ¬ ((3 : Int) = 0) by decide, show ¬ ((3 : Int) = 1) by decide, show ¬ ((3 : Int) = 2) by decide]
    exact ev_some _
  · refine ⟨a, n, s, i2, h2, Ev.bind hE ?_, by omega, by omega, by omega, c2⟩
    simp only [e2, Option.bind_some, y0, y1, y2, y3, if_false]
    exact ev_some _
attribute [local irreducible] spec_l2Any.f

theorem spec_DrawSameVal_ev (l : List Int) (hl : l.length ≤ 1048576) : ∃ (a n : Int) (s : ByteArray) (a' n' : Int) (s' : ByteArray), Ev (fun k => spec_DrawSameVal.f k l) (a, n, s, a', n', s') := by
  unfold spec_DrawSameVal.f
  obtain ⟨r, hr⟩ := spec_l1New_ev l hl
  obtain ⟨a, n, s, i1, h1, hE, _, _, _, c1⟩ := spec_l2Any_ev l hl 0 r (Cur.start l)
  obtain ⟨b, i2, h2, e2, c2⟩ := spec_l1Once_ok l hl i1 h1 c1 4
  cases b with
  | true =>
    refine ⟨a, n, s, a, n, s, Ev.bind hr (Ev.bind hE ?_)⟩
    simp only [e2, Option.bind_some, if_true]
    exact ev_some _
  | false =>
    obtain ⟨a', n', s', i3, h3, hE2, _, _, _, c3⟩ := spec_l2Any_ev l hl i2 h2 c2
    refine ⟨a, n, s, a', n', s', Ev.bind hr (Ev.bind hE ?_)⟩
    simp only [e2, Option.bind_some, Bool.false_eq_true, if_false]
    exact Ev.bind hE2 (ev_some _)
attribute [local irreducible] spec_DrawSameVal.f

theorem spec_DrawLessVal_ev (l : List Int) (hl : l.length ≤ 1048576) : ∃ (a n : Int) (s : ByteArray) (a' n' : Int) (s' : ByteArray), Ev (fun k => spec_DrawLessVal.f k l) (a, n, s, a', n', s') := by
  unfold spec_DrawLessVal.f
  obtain ⟨a, n, s, a', n', s', h⟩ := spec_DrawSameVal_ev l hl
  exact ⟨a, n, s, a', n', s', Ev.bind h (ev_some _)⟩
attribute [local irreducible] spec_DrawLessVal.f

theorem spec_DrawSameRow_ev (l : List Int) (hl : l.length ≤ 1048576) : ∃ a b : List S44, Ev (fun k => spec_DrawSameRow.f k l) (a, b) ∧ a.length ≤ 2 ∧ b.length ≤ 2 := by
  unfold spec_DrawSameRow.f
  obtain ⟨r, hr⟩ := spec_l1New_ev l hl
  obtain ⟨a1, n1, s1, i1, h1, hE1, _, _, _, c1⟩ := spec_l2Any_ev l hl 0 r (Cur.start l)
  obtain ⟨a2, n2, s2, i2, h2, hE2, _, _, _, c2⟩ := spec_l2Any_ev l hl i1 h1 c1
  obtain ⟨b, i3, h3, e3, c3⟩ := spec_l1Once_ok l hl i2 h2 c2 2
  cases b with
  | true =>
    refine ⟨[⟨a1, n1, s1⟩, ⟨a2, n2, s2⟩], [⟨a1, n1, s1⟩, ⟨a2, n2, s2⟩], Ev.bind hr (Ev.bind hE1 (Ev.bind hE2 ?_)), by simp, by simp⟩
    have q : ([] : List S44).length + [(⟨a1, n1, s1⟩ : S44), ⟨a2, n2, s2⟩].length < 4398046511104 := by simp
    simp only [Option.bind_some, e3, if_true, q, List.nil_append]
    exact ev_some _
  | false =>
    obtain ⟨a4, n4, s4, i4, h4, hE4, _, _, _, c4⟩ := spec_l2Any_ev l hl i3 h3 c3
    refine ⟨[⟨a1, n1, s1⟩, ⟨a2, n2, s2⟩], [⟨a1, n1, s1⟩, ⟨a4, n4, s4⟩], Ev.bind hr (Ev.bind hE1 (Ev.bind hE2 ?_)), by simp, by simp⟩
    have q : (0 : Int) < ([(⟨a1, n1, s1⟩ : S44), ⟨a2, n2, s2⟩].length : Int) := by simp
    simp only [Option.bind_some, e3, Bool.false_eq_true, if_false, q, if_true]
    exact Ev.bind hE4 (ev_some _)
attribute [local irreducible] spec_DrawSameRow.f

theorem impl_LessVal_eq (k n : Int) (s : ByteArray) (k' n' : Int) (s' : ByteArray) : impl_LessVal.f k n s k' n' s' = some (lessVB k n s k' n' s') := by
  unfold impl_LessVal.f lessVB
  split
  · split <;> rfl
  · rfl
attribute [local irreducible] impl_LessVal.f

theorem impl_SameVal_eq (k n : Int) (s : ByteArray) (k' n' : Int) (s' : ByteArray) : impl_SameVal.f k n s k' n' s' = some (sameVB k n s k' n' s') := rfl
attribute [local irreducible] impl_SameVal.f

theorem impl_SameRow_l0 (a b : List S44) (h : a.length = b.length) (hl : a.length ≤ 9223372036854775807) : ∀ i, i ≤ a.length → Ev (fun k => impl_SameRow.l0 k a b (a.length : Int) (i : Int)) (((a.drop i).zip (b.drop i)).all fun q => sameV q.1 q.2) := by
  refine up_ind a.length (fun i => Ev (fun k => impl_SameRow.l0 k a b (a.length : Int) (i : Int)) (((a.drop i).zip (b.drop i)).all fun q => sameV q.1 q.2)) ?_ ?_
  · refine ev_succ ?_
    have h1 : ¬ ((a.length : Int) < (a.length : Int)) := by omega
    simp only [impl_SameRow.l0.eq_2, h1, if_false]
    rw [List.drop_eq_nil_of_le (show a.length ≤ _ by omega)]
    simpa using ev_some _
  · intro i hi ih
    refine ev_succ ?_
    have h1 : (i : Int) < (a.length : Int) := by omega
    have h2 : (0 : Int) ≤ (i : Int) := by omega
    have hib : i < b.length := by omega
    have h3 : (i : Int) < (b.length : Int) := by omega
    simp only [impl_SameRow.l0.eq_2, h1, h2, h3, if_true, rd_T44_nat a i hi, rd_T44_nat b i hib, sameV_not, wsucc (show i < 9223372036854775807 by omega)]
    rw [List.drop_eq_getElem_cons hi, List.drop_eq_getElem_cons hib, List.zip_cons_cons, List.all_cons]
    cases hp : sameV a[i] b[i]
    · simpa [hp] using ev_some _
    · simpa [hp] using ih
theorem impl_SameRow_ev (a b : List S44) (hl : a.length ≤ 9223372036854775807) : Ev (fun k => impl_SameRow.f k a b) (sameRowB a b) := by
  unfold impl_SameRow.f sameRowB
  by_cases h : a.length = b.length
  · have h1 : (a.length : Int) = (b.length : Int) := by omega
    simp only [h1, if_true, decide_eq_true h, Bool.true_and]
    have := impl_SameRow_l0 a b h hl 0 (by omega)
    simpa [h] using this
  · have h1 : ¬ ((a.length : Int) = (b.length : Int)) := by omega
    simp only [h1, if_false, decide_eq_false h, Bool.false_and]
    exact ev_some _
attribute [local irreducible] impl_SameRow.f

theorem laws_sameVals_l0 (a b : List S44) (h : a.length = b.length) (hl : a.length ≤ 9223372036854775807) : ∀ i, i ≤ a.length → Ev (fun k => laws_sameVals.l0 k a b (i : Int)) (((a.drop i).zip (b.drop i)).all fun q => sameV q.1 q.2) := by
  refine up_ind a.length (fun i => Ev (fun k => laws_sameVals.l0 k a b (i : Int)) (((a.drop i).zip (b.drop i)).all fun q => sameV q.1 q.2)) ?_ ?_
  · refine ev_succ ?_
    have h1 : ¬ ((a.length : Int) < (a.length : Int)) := by omega
    simp only [laws_sameVals.l0.eq_2, h1, if_false]
    rw [List.drop_eq_nil_of_le (show a.length ≤ _ by omega)]
    simpa using ev_some _
  · intro i hi ih
    refine ev_succ ?_
    have h1 : (i : Int) < (a.length : Int) := by omega
    have h2 : (0 : Int) ≤ (i : Int) := by omega
    have hib : i < b.length := by omega
    have h3 : (i : Int) < (b.length : Int) := by omega
    simp only [laws_sameVals.l0.eq_2, h1, h2, h3, if_true, rd_T44_nat a i hi, rd_T44_nat b i hib, sameV_not, wsucc (show i < 9223372036854775807 by omega)]
    rw [List.drop_eq_getElem_cons hi, List.drop_eq_getElem_cons hib, List.zip_cons_cons, List.all_cons]
    cases hp : sameV a[i] b[i]
    · simpa [hp] using ev_some _
    · simpa [hp] using ih
theorem laws_sameVals_ev (a b : List S44) (hl : a.length ≤ 9223372036854775807) : Ev (fun k => laws_sameVals.f k a b) (sameRowB a b) := by
  unfold laws_sameVals.f sameRowB
  by_cases h : a.length = b.length
  · have h1 : (a.length : Int) = (b.length : Int) := by omega
    simp only [h1, if_true, decide_eq_true h, Bool.true_and]
    have := laws_sameVals_l0 a b h hl 0 (by omega)
    simpa [h] using this
  · have h1 : ¬ ((a.length : Int) = (b.length : Int)) := by omega
    simp only [h1, if_false, decide_eq_false h, Bool.false_and]
    exact ev_some _
attribute [local irreducible] laws_sameVals.f

--import B
--import O
theorem bytesLess_tri (s t : ByteArray) : (s.toList = t.toList ∧ Op.bytesLess s.toList t.toList = false ∧ Op.bytesLess t.toList s.toList = false) ∨ (s.toList ≠ t.toList ∧ Op.bytesLess s.toList t.toList = true ∧ Op.bytesLess t.toList s.toList = false) ∨ (s.toList ≠ t.toList ∧ Op.bytesLess s.toList t.toList = false ∧ Op.bytesLess t.toList s.toList = true) := by
  rw [bytesLess_bytesOf, bytesLess_bytesOf]
  by_cases h : bytesOf s = bytesOf t
  · exact .inl ⟨(str_eq_iff s t).2 h, by rw [h, ltB_self], by rw [h, ltB_self]⟩
  · have hne : s.toList ≠ t.toList := fun e => h ((str_eq_iff s t).1 e)
    rcases ltB_total _ _ h with hl | hl
    · exact .inr (.inl ⟨hne, hl, ltB_asymm _ _ hl⟩)
    · exact .inr (.inr ⟨hne, ltB_asymm _ _ hl, hl⟩)
theorem lessVB_tri (k n : Int) (s : ByteArray) (k' n' : Int) (s' : ByteArray) :
    (sameVB k n s k' n' s' = true ∧ lessVB k n s k' n' s' = false ∧ lessVB k' n' s' k n s = false) ∨ (sameVB k n s k' n' s' = false ∧ lessVB k n s k' n' s' = true ∧ lessVB k' n' s' k n s = false) ∨ (sameVB k n s k' n' s' = false ∧ lessVB k n s k' n' s' = false ∧ lessVB k' n' s' k n s = true) := by
  unfold sameVB lessVB
  by_cases hk : k = k'
  · subst hk
    simp only [BEq.rfl, Bool.true_and, if_true]
    by_cases hn : n = n'
    · subst hn
      simp only [BEq.rfl, Bool.true_and, if_true]
      rcases bytesLess_tri s s' with ⟨h1, h2, h3⟩ | ⟨h1, h2, h3⟩ | ⟨h1, h2, h3⟩
      · exact .inl ⟨by simp [h1], h2, h3⟩
      · exact .inr (.inl ⟨by simp [h1], h2, h3⟩)
      · exact .inr (.inr ⟨by simp [h1], h2, h3⟩)
    · have hn2 : ¬ (n' = n) := fun e => hn e.symm
      simp only [hn, hn2, if_false]
      have : (n == n') = false := by simp [hn]
      simp only [this, Bool.false_and]
      by_cases h : n < n'
      · exact .inr (.inl ⟨trivial, by simp [h], by simp; omega⟩)
      · exact .inr (.inr ⟨trivial, by simp [h], by simp; omega⟩)
  · have hk2 : ¬ (k' = k) := fun e => hk e.symm
    simp only [hk, hk2, if_false]
    have : (k == k') = false := by simp [hk]
    simp only [this, Bool.false_and]
    by_cases h : k < k'
    · exact .inr (.inl ⟨trivial, by simp [h], by simp; omega⟩)
    · exact .inr (.inr ⟨trivial, by simp [h], by simp; omega⟩)
theorem FnOrder : laws_FnOrder.Pure := by
  intro l0 hm0 hb0 hw0
  refine Ev.rounds ?_
  unfold laws_FnOrder.f
  simp only [laws_big_eq, Option.bind_some]
  by_cases hn0 : (l0.length : Int) > 1048576
  · simp only [hn0, decide_true, if_true]; exact ev_some _
  simp only [hn0, decide_false, Bool.false_eq_true, if_false]
  have hl : l0.length ≤ 1048576 := by omega
  obtain ⟨k, n, s, k', n', s', hE1⟩ := spec_DrawLessVal_ev l0 hl
  obtain ⟨a, b, hE2, ha, hb⟩ := spec_DrawSameRow_ev l0 hl
  refine Ev.bind hE1 (Ev.bind hE2 ?_)
  simp only [impl_LessVal_eq, impl_SameVal_eq, Option.bind_some]
  have r1 := impl_SameRow_ev a b (by omega)
  have r2 := laws_sameVals_ev a b (by omega)
  have tail : Ev (fun k => (impl_SameRow.f k a b).bind fun t298 => ((laws_sameVals.f k a b).bind fun t299 => (some (t298 == t299)))) true := by
    refine Ev.bind r1 (Ev.bind r2 ?_)
    simp only [BEq.rfl]
    exact ev_some _
  have hs : (k == k' && (n == n' && (s.toList == s'.toList))) = sameVB k n s k' n' s' := rfl
  rw [hs]
  rcases lessVB_tri k n s k' n' s' with ⟨h1, h2, h3⟩ | ⟨h1, h2, h3⟩ | ⟨h1, h2, h3⟩
  · simp only [h1, h2, h3, BEq.rfl, Bool.false_eq_true, if_false, if_true, show (false != true) = true from rfl]
    exact tail
  · simp only [h1, h2, h3, BEq.rfl, Bool.false_eq_true, if_false, if_true, show (true != false) = true from rfl]
    exact tail
  · simp only [h1, h2, h3, BEq.rfl, Bool.false_eq_true, if_false, if_true, show (true != false) = true from rfl]
    exact tail

end Go.Proofs.Yteeokieokbibbaa.Pure

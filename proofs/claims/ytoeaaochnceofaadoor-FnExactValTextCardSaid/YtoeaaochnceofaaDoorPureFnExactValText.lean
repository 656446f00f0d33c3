/- ValText answers as the reference does, whatever the value. No condition. -/
import Derived.Test.YtoeaaochnceofaaDoorPFnExactValTextx3
import Derived.Test.YtoeaaochnceofaaDoorM
import Derived.Test.YtoeaaochnceofaaDoorB
import Derived.Test.YtoeaaochnceofaaDoorK
namespace Go.Proofs.YtoeaaochnceofaaDoor.Pure
open Go.RowKit Go.Proofs.YtoeaaochnceofaaDoor.PFnExactValText Go.Proofs.YtoeaaochnceofaaDoorW.PrintWords Go.Proofs.YtoeaaochnceofaaDoorW.PrintLast Go.Proofs.YtoeaaochnceofaaDoorW.PrintMore Go.Proofs.YtoeaaochnceofaaDoorM
set_option linter.unusedVariables false
set_option linter.unusedSimpArgs false


theorem laws_szVal_eq (a b : Int) (s : ByteArray) (left : Int) (hs : s.size ≤ maxLen) (h0 : 0 ≤ left) (h1 : left ≤ 1048576) :
    ∃ r : Int, laws_szVal.f a b s left = some r ∧ r ≤ left ∧ (0 ≤ r → r = left - s.size) := by
  unfold laws_szVal.f
  unfold maxLen at hs
  rw [w64 (by omega) (by omega)]
  split
  · exact ⟨-1, rfl, by omega, by omega⟩
  · exact ⟨_, rfl, by omega, fun _ => rfl⟩
attribute [local irreducible] laws_szVal.f

theorem spec_l1In_eq (a b c : Int) : spec_l1In.f a b c = some (inB a b c) := in_ite a b c
attribute [local irreducible] spec_l1In.f

theorem spec_ValOk_eq (k n : Int) (s : ByteArray) : spec_ValOk.f k n s = some (valOkB k n s) := by
  unfold spec_ValOk.f valOkB isE
  simp only [spec_l1In_eq, Option.bind_some]
  by_cases h0 : k = 0
  · simp only [h0, if_true]; by_cases hn : n = 0 <;> simp [hn]
  simp only [h0, if_false]
  by_cases h1 : k = 1
  · simp only [h1, if_true]; cases inB n (-2147483648) 2147483647 <;> simp
  simp only [h1, if_false]
  by_cases h2 : k = 2
  · simp only [h2, if_true]; cases inB n (-1000000000000000) 1000000000000000 <;> simp
  simp only [h2, if_false]
  by_cases h3 : k = 3
  · simp only [h3, if_true]; by_cases hn : n = 0 <;> by_cases hs : (s.size : Int) ≤ 30 <;> simp [hn, hs]
  simp only [h3, if_false]
  by_cases h4 : k = 4
  · simp only [h4, if_true]; cases inB n 0 1 <;> simp
  simp only [h4, if_false]
attribute [local irreducible] spec_ValOk.f

def plC (x : Int) : Bool := inB x 32 126 && !(decide (x = 39))
def plainB (s : ByteArray) : Bool := (bytesOf s).all plC
theorem bt_byte (s : ByteArray) (i : Nat) (h : i < s.size) : 0 ≤ bt s (i : Int) ∧ bt s (i : Int) ≤ 255 := by
  rw [bt_get s i h]
  exact (bytesOf_isB s).get i _
theorem spec_l2Plain_l0 (s : ByteArray) (hs : s.size ≤ 9223372036854775806) : ∀ i : Nat, i ≤ s.size → Ev (fun k => spec_l2Plain.l0 k s (i : Int)) (((bytesOf s).drop i).all plC) := by
  refine up_ind s.size (fun i : Nat => Ev (fun k => spec_l2Plain.l0 k s (i : Int)) (((bytesOf s).drop i).all plC)) ?_ ?_
  · refine ev_succ ?_
    have h1 : ¬ ((s.size : Int) < (s.size : Int)) := by omega
    simp only [spec_l2Plain.l0.eq_2, h1, if_false]
    rw [List.drop_eq_nil_of_le (by rw [bytesOf_len]; omega)]
    exact ev_some _
  · intro i hi ih
    refine ev_succ ?_
    have hib : i < (bytesOf s).length := by rw [bytesOf_len]; exact hi
    have h1 : (i : Int) < (s.size : Int) := by omega
    have h2 : (0 : Int) ≤ (i : Int) := by omega
    have hb := bt_byte s i hi
    have hw : wrap64 (bt s (i : Int)) = bt s (i : Int) := w64 (by omega) (by omega)
    simp only [spec_l2Plain.l0.eq_2, h1, h2, if_true, hw, spec_l1In_eq, Option.bind_some, wsucc (show i < 9223372036854775807 by omega)]
    rw [List.drop_eq_getElem_cons hib, List.all_cons, ← bt_get s i hi]
    unfold plC
    cases hin : inB (bt s (i : Int)) 32 126 with
    | false => simp only [Bool.false_eq_true, if_false, Bool.false_and]; exact ev_some _
    | true =>
      by_cases h39 : bt s (i : Int) = 39
      · simp only [h39, if_true, decide_true, Bool.not_true, Bool.and_false, Bool.false_and]; exact ev_some _
      · simp only [h39, if_true, if_false, decide_false, Bool.not_false, Bool.and_true, Bool.true_and]
        exact ih
theorem spec_l2Plain_ev (s : ByteArray) (hs : s.size ≤ 9223372036854775806) : Ev (fun k => spec_l2Plain.f k s) (plainB s) := by
  unfold spec_l2Plain.f plainB
  simpa using spec_l2Plain_l0 s hs 0 (by omega)
attribute [local irreducible] spec_l2Plain.f

theorem ba_append (a b : List UInt8) : (⟨a.toArray⟩ : ByteArray) ++ ⟨b.toArray⟩ = ⟨(a ++ b).toArray⟩ := by
  apply ByteArray.ext
  rw [ByteArray.data_append]
  simp
theorem strOfNums_one (x : Int) : strOfNums [x] = ⟨[UInt8.ofNat x.toNat].toArray⟩ := rfl
theorem decDigits_len (u : Nat) : (Go.Lib.decDigits u).length ≤ u + 1 := by
  induction u using Nat.strongRecOn with
  | _ u ih =>
    rw [Go.Lib.decDigits]
    split
    · simp
    · have := ih (u / 10) (by omega)
      simp only [List.length_append, List.length_cons, List.length_nil]
      omega
theorem ba_size (l : List UInt8) : (⟨l.toArray⟩ : ByteArray).size = l.length := by
  show l.toArray.size = l.length
  simp
theorem spec_l2Num_pos (u : Nat) : u ≤ 1000000000000000 → Ev (fun k => spec_l2Num.f k (u : Int)) ⟨(Go.Lib.decDigits u).toArray⟩ := by
  induction u using Nat.strongRecOn with
  | _ u ih =>
    intro hu
    refine ev_succ ?_
    have h0 : ¬ ((u : Int) < 0) := by omega
    rw [Go.Lib.decDigits]
    by_cases h10 : u < 10
    · have h1 : (u : Int) < 10 := by omega
      have e : (wrap64 (48 + (u : Int)) % 256) = ((48 + u : Nat) : Int) := by rw [w64 (by omega) (by omega)]; omega
      simp only [spec_l2Num.f.eq_2, h0, h1, if_true, if_false, e, strOfNums_one, Int.toNat_natCast]
      rw [dif_pos h10]
      exact ev_some _
    · have h1 : ¬ ((u : Int) < 10) := by omega
      have e1 : wrap64 (Int.tdiv (u : Int) 10) = ((u / 10 : Nat) : Int) := by rw [Int.tdiv_eq_ediv_of_nonneg (by omega), w64 (by omega) (by omega)]; omega
      have e2 : (wrap64 (48 + Int.tmod (u : Int) 10)) % 256 = ((48 + u % 10 : Nat) : Int) := by rw [Int.tmod_eq_emod_of_nonneg (by omega), w64 (by omega) (by omega)]; omega
      have hi := ih (u / 10) (by omega) (by omega)
      have hlen := decDigits_len (u / 10)
      simp only [spec_l2Num.f.eq_2, h0, h1, if_false, e1, e2]
      refine Ev.bind hi ?_
      have q : (⟨(Go.Lib.decDigits (u / 10)).toArray⟩ : ByteArray).size + (strOfNums [((48 + u % 10 : Nat) : Int)]).size ≤ 9223372036854775807 := by
        rw [strOfNums_one, ba_size, ba_size]; simp only [List.length_cons, List.length_nil]; omega
      simp only [Option.bind_some, q, if_true]
      simp only [strOfNums_one, Int.toNat_natCast, ba_append]
      rw [dif_neg h10]
      exact ev_some _
theorem spec_l2Num_ev (n : Int) (h : -1000000000000000 ≤ n ∧ n ≤ 1000000000000000) : Ev (fun k => spec_l2Num.f k n) ⟨(Go.Lib.itoa n).toArray⟩ := by
  unfold Go.Lib.itoa
  by_cases h0 : n < 0
  · rw [if_pos h0]
    refine ev_succ ?_
    have e : wrap64 (-n) = ((n.natAbs : Nat) : Int) := by rw [w64 (by omega) (by omega)]; omega
    have hlen := decDigits_len n.natAbs
    simp only [spec_l2Num.f.eq_2, h0, if_true, e]
    refine Ev.bind (spec_l2Num_pos n.natAbs (by omega)) ?_
    have q : 1 + (⟨(Go.Lib.decDigits n.natAbs).toArray⟩ : ByteArray).size ≤ 9223372036854775807 := by rw [ba_size]; omega
    simp only [q, if_true]
    have e2 : (⟨#[45]⟩ : ByteArray) ++ ⟨(Go.Lib.decDigits n.natAbs).toArray⟩ = ⟨((45 :: Go.Lib.decDigits n.natAbs) : List UInt8).toArray⟩ := ba_append [45] _
    rw [e2]
    exact ev_some _
  · rw [if_neg h0]
    have := spec_l2Num_pos n.toNat (by omega)
    rw [show ((n.toNat : Nat) : Int) = n by omega] at this
    exact this
attribute [local irreducible] spec_l2Num.f

def valTextB (k n : Int) (s : ByteArray) : ByteArray := if k = 1 then (⟨#[105]⟩ : ByteArray) ++ ⟨(Go.Lib.itoa n).toArray⟩ else if k = 2 then (⟨#[110]⟩ : ByteArray) ++ ⟨(Go.Lib.itoa n).toArray⟩
  else if k = 3 then ((⟨#[39]⟩ : ByteArray) ++ s) ++ (⟨#[39]⟩ : ByteArray) else if k = 4 then (if n = 1 then (⟨#[121, 101, 115]⟩ : ByteArray) else (⟨#[110, 111]⟩ : ByteArray)) else (⟨#[110, 117, 108, 108]⟩ : ByteArray)
def valText (k n : Int) (s : ByteArray) : ByteArray := if (valOkB k n s && plainB s) = true then valTextB k n s else ⟨#[]⟩
theorem itoa_len (n : Int) (h : -1000000000000000 ≤ n ∧ n ≤ 1000000000000000) : (⟨(Go.Lib.itoa n).toArray⟩ : ByteArray).size ≤ 1000000000000003 := by
  rw [ba_size]
  unfold Go.Lib.itoa
  split
  · have := decDigits_len n.natAbs
    simp only [List.length_cons]; omega
  · have := decDigits_len n.toNat
    omega
theorem valOk_1 {n : Int} {s : ByteArray} (h : valOkB 1 n s = true) : (-1000000000000000 ≤ n ∧ n ≤ 1000000000000000) ∧ s = ⟨#[]⟩ := by
  have := fits_cases (t := 1) (null := false) (k := 1) (by unfold fitsB; rw [h]; rfl) (by omega)
  rcases this with ⟨h, _⟩ | ⟨_, ⟨_, h1, h2, h3⟩ | ⟨h, _⟩ | ⟨h, _⟩ | ⟨h, _⟩⟩
  · cases h
  · exact ⟨by omega, h3⟩
  all_goals omega
theorem valOk_2 {n : Int} {s : ByteArray} (h : valOkB 2 n s = true) : (-1000000000000000 ≤ n ∧ n ≤ 1000000000000000) ∧ s = ⟨#[]⟩ := by
  have := fits_cases (t := 2) (null := false) (k := 2) (by unfold fitsB; rw [h]; rfl) (by omega)
  rcases this with ⟨h, _⟩ | ⟨_, ⟨h, _⟩ | ⟨_, h1, h2, h3⟩ | ⟨h, _⟩ | ⟨h, _⟩⟩
  · cases h
  · omega
  · exact ⟨by omega, h3⟩
  all_goals omega
theorem plain_empty : plainB ⟨#[]⟩ = true := by
  unfold plainB
  rw [List.eq_nil_of_length_eq_zero (show (bytesOf ⟨#[]⟩).length = 0 by rw [bytesOf_len]; rfl)]
  rfl
theorem spec_ValText_ev (k n : Int) (s : ByteArray) (hs : s.size ≤ 1000000000000) : Ev (fun j => spec_ValText.f j k n s) (valText k n s) := by
  unfold spec_ValText.f valText
  simp only [spec_ValOk_eq, Option.bind_some]
  cases hv : valOkB k n s with
  | false =>
    simp only [Bool.false_eq_true, if_false, Bool.false_and]
    refine ev_succ ?_
    simp only [spec_ValText.j0.eq_2, if_true]
    exact ev_some _
  | true =>
    simp only [if_true, Bool.true_and]
    refine Ev.bind (spec_l2Plain_ev s (by omega)) ?_
    refine ev_succ ?_
    cases hp : plainB s with
    | false => simp only [spec_ValText.j0.eq_2, Bool.not_false, if_true, Bool.false_eq_true, if_false]; exact ev_some _
    | true =>
      simp only [spec_ValText.j0.eq_2, Bool.not_true, Bool.false_eq_true, if_false, if_true]
      unfold valTextB
      by_cases k1 : k = 1
      · subst k1
        have hn := (valOk_1 hv).1
        have hl := itoa_len n hn
        simp only [if_true]
        refine Ev.bind (spec_l2Num_ev n hn) ?_
        have q : 1 + (⟨(Go.Lib.itoa n).toArray⟩ : ByteArray).size ≤ 9223372036854775807 := by omega
        simp only [q, if_true]
        exact ev_some _
      by_cases k2 : k = 2
      · subst k2
        have hn := (valOk_2 hv).1
        have hl := itoa_len n hn
        simp only [show ¬ ((2 : Int) = 1) by decide, if_false, if_true]
        refine Ev.bind (spec_l2Num_ev n hn) ?_
        have q : 1 + (⟨(Go.Lib.itoa n).toArray⟩ : ByteArray).size ≤ 9223372036854775807 := by omega
        simp only [q, if_true]
        exact ev_some _
      have q1 : 1 + s.size ≤ 9223372036854775807 := by omega
      have q2 : ((⟨#[39]⟩ : ByteArray) ++ s).size + 1 ≤ 9223372036854775807 := by rw [ByteArray.size_append]; have : (⟨#[39]⟩ : ByteArray).size = 1 := rfl; omega
      simp only [k1, k2, if_false, q1, q2, if_true]
      by_cases k3 : k = 3
      · simp only [k3, if_true]; exact ev_some _
      · simp only [k3, if_false]
        by_cases k4 : k = 4
        · simp only [k4, if_true]
          by_cases n1 : n = 1
          · simp only [n1, if_true]; exact ev_some _
          · simp only [n1, if_false]; exact ev_some _
        · simp only [k4, if_false]; exact ev_some _
attribute [local irreducible] spec_ValText.f

theorem laws_toVal_eq (a b : Int) (s : ByteArray) : laws_toVal.f a b s = some (a, b, s) := rfl
attribute [local irreducible] laws_toVal.f

theorem impl_in_eq (a b c : Int) : impl_in.f a b c = some (inB a b c) := in_ite a b c
attribute [local irreducible] impl_in.f

theorem impl_ValOk_eq (k n : Int) (s : ByteArray) : impl_ValOk.f k n s = some (valOkB k n s) := by
  unfold impl_ValOk.f valOkB isE
  simp only [impl_in_eq, Option.bind_some]
  by_cases h0 : k = 0
  · simp only [h0, if_true]; by_cases hn : n = 0 <;> simp [hn]
  simp only [h0, if_false]
  by_cases h1 : k = 1
  · simp only [h1, if_true]; cases inB n (-2147483648) 2147483647 <;> simp
  simp only [h1, if_false]
  by_cases h2 : k = 2
  · simp only [h2, if_true]; cases inB n (-1000000000000000) 1000000000000000 <;> simp
  simp only [h2, if_false]
  by_cases h3 : k = 3
  · simp only [h3, if_true]; by_cases hn : n = 0 <;> by_cases hs : (s.size : Int) ≤ 30 <;> simp [hn, hs]
  simp only [h3, if_false]
  by_cases h4 : k = 4
  · simp only [h4, if_true]; cases inB n 0 1 <;> simp
  simp only [h4, if_false]
attribute [local irreducible] impl_ValOk.f

theorem impl_ValText_l0 (k n : Int) (s : ByteArray) (hs : s.size ≤ 1000000000000) : ∀ i : Nat, i ≤ s.size →
    Ev (fun j => impl_ValText.l0 j (i : Int) k n s) (if ((bytesOf s).drop i).all plC = true then ((⟨#[39]⟩ : ByteArray) ++ s) ++ (⟨#[39]⟩ : ByteArray) else ⟨#[]⟩) := by
  refine up_ind s.size (fun i : Nat => Ev (fun j => impl_ValText.l0 j (i : Int) k n s) (if ((bytesOf s).drop i).all plC = true then ((⟨#[39]⟩ : ByteArray) ++ s) ++ (⟨#[39]⟩ : ByteArray) else ⟨#[]⟩)) ?_ ?_
  · refine ev_succ ?_
    have h1 : ¬ ((s.size : Int) < (s.size : Int)) := by omega
    have q1 : 1 + s.size ≤ 9223372036854775807 := by omega
    have q2 : ((⟨#[39]⟩ : ByteArray) ++ s).size + 1 ≤ 9223372036854775807 := by rw [ByteArray.size_append]; have : (⟨#[39]⟩ : ByteArray).size = 1 := rfl; omega
    simp only [impl_ValText.l0.eq_2, h1, if_false, q1, q2, if_true]
    rw [List.drop_eq_nil_of_le (by rw [bytesOf_len]; omega)]
    exact ev_some _
  · intro i hi ih
    refine ev_succ ?_
    have hib : i < (bytesOf s).length := by rw [bytesOf_len]; exact hi
    have h1 : (i : Int) < (s.size : Int) := by omega
    have h2 : (0 : Int) ≤ (i : Int) := by omega
    have hb := bt_byte s i hi
    simp only [impl_ValText.l0.eq_2, h1, h2, if_true, wsucc (show i < 9223372036854775807 by omega)]
    rw [List.drop_eq_getElem_cons hib, List.all_cons, ← bt_get s i hi]
    unfold plC inB
    by_cases c1 : bt s (i : Int) < 32
    · have : ¬ (32 ≤ bt s (i : Int) ∧ bt s (i : Int) ≤ 126) := by omega
      simp only [c1, if_true, this, decide_false, Bool.false_and, Bool.false_eq_true, if_false]; exact ev_some _
    · by_cases c2 : bt s (i : Int) > 126
      · have : ¬ (32 ≤ bt s (i : Int) ∧ bt s (i : Int) ≤ 126) := by omega
        simp only [c1, c2, if_true, this, decide_false, Bool.false_and, Bool.false_eq_true, if_false]; exact ev_some _
      · have hin : 32 ≤ bt s (i : Int) ∧ bt s (i : Int) ≤ 126 := by omega
        by_cases c3 : bt s (i : Int) = 39
        · simp only [c1, c2, if_false]
          simp only [c3, if_true, decide_true, Bool.not_true, Bool.and_false, Bool.false_and, Bool.false_eq_true, if_false]; exact ev_some _
        · simp only [c1, c2, c3, if_false, decide_eq_true hin, decide_false, Bool.not_false, Bool.and_true, Bool.true_and]
          exact ih
theorem impl_ValText_ev (k n : Int) (s : ByteArray) (hs : s.size ≤ 1000000000000) : Ev (fun j => impl_ValText.f j k n s) (valText k n s) := by
  unfold impl_ValText.f valText
  simp only [impl_ValOk_eq, Option.bind_some]
  cases hv : valOkB k n s with
  | false =>
    simp only [Bool.false_eq_true, if_false, Bool.false_and]
    exact ev_some _
  | true =>
    simp only [if_true, Bool.true_and]
    unfold valTextB
    by_cases k0 : k = 0
    · subst k0
      have he : s = ⟨#[]⟩ := by
        have := fits_cases (t := 1) (null := true) (k := 0) (n := n) (s := s) (by unfold fitsB; rw [hv]; rfl) (by omega)
        rcases this with ⟨_, _, _, h⟩ | ⟨h, _⟩
        · exact h
        · omega
      subst he
      simp only [if_true, plain_empty, show ¬ ((0 : Int) = 1) by decide, show ¬ ((0 : Int) = 2) by decide, show ¬ ((0 : Int) = 3) by decide, show ¬ ((0 : Int) = 4) by decide, if_false]
      exact ev_some _
    by_cases k1 : k = 1
    · subst k1
      obtain ⟨hn, he⟩ := valOk_1 hv
      subst he
      have hl := itoa_len n hn
      have q0 : -9223372036854775808 ≤ n ∧ n ≤ 9223372036854775807 := by omega
      have q : 1 + (⟨(Go.Lib.itoa n).toArray⟩ : ByteArray).size ≤ 9223372036854775807 := by omega
      have e : strconv_Itoa.f n = some ⟨(Go.Lib.itoa n).toArray⟩ := by unfold strconv_Itoa.f; rw [if_pos q0]
      simp only [show ¬ ((1 : Int) = 0) by decide, if_false, if_true, e, Option.bind_some, q, plain_empty]
      exact ev_some _
    by_cases k2 : k = 2
    · subst k2
      obtain ⟨hn, he⟩ := valOk_2 hv
      subst he
      have hl := itoa_len n hn
      have q0 : -9223372036854775808 ≤ n ∧ n ≤ 9223372036854775807 := by omega
      have q : 1 + (⟨(Go.Lib.itoa n).toArray⟩ : ByteArray).size ≤ 9223372036854775807 := by omega
      have e : strconv_Itoa.f n = some ⟨(Go.Lib.itoa n).toArray⟩ := by unfold strconv_Itoa.f; rw [if_pos q0]
      simp only [show ¬ ((2 : Int) = 0) by decide, show ¬ ((2 : Int) = 1) by decide, if_false, if_true, e, Option.bind_some, q, plain_empty]
      exact ev_some _
    by_cases k4 : k = 4
    · subst k4
      have he : s = ⟨#[]⟩ := by
        have := fits_cases (t := 4) (null := false) (k := 4) (n := n) (s := s) (by unfold fitsB; rw [hv]; rfl) (by omega)
        rcases this with ⟨h, _⟩ | ⟨_, ⟨h, _⟩ | ⟨h, _⟩ | ⟨h, _⟩ | ⟨_, _, _, h⟩⟩
        · cases h
        · omega
        · omega
        · omega
        · exact h
      subst he
      simp only [show ¬ ((4 : Int) = 0) by decide, show ¬ ((4 : Int) = 1) by decide, show ¬ ((4 : Int) = 2) by decide, show ¬ ((4 : Int) = 3) by decide, if_false, if_true, plain_empty]
      by_cases n1 : n = 1
      · simp only [n1, if_true]; exact ev_some _
      · simp only [n1, if_false]; exact ev_some _
    · have k3 : k = 3 := by
        unfold valOkB at hv
        rw [if_neg k0, if_neg k1, if_neg k2] at hv
        by_cases k3 : k = 3
        · exact k3
        · rw [if_neg k3, if_neg k4] at hv; cases hv
      simp only [k0, k1, k2, k4, if_false]
      simp only [k3, if_true]
      have := impl_ValText_l0 3 n s hs 0 (by omega)
      rw [List.drop_zero] at this
      exact this
attribute [local irreducible] impl_ValText.f

--import B
--import K
theorem FnExactValText (k n : Int) (s : ByteArray) (h0 : (Lit.int .i64 k).wf = true) (h1 : (Lit.int .i64 n).wf = true) (h2 : s.size ≤ maxLen) : ∃ j, laws_FnExactValText.f j k n s = some true := by
  refine Ev.rounds ?_
  unfold laws_FnExactValText.f
  obtain ⟨r, hr, hr1, hr2⟩ := laws_szVal_eq k n s 1048576 h2 (by omega) (by omega)
  simp only [hr, Option.bind_some]
  by_cases hn : r < 0
  · simp only [hn, if_true]; exact ev_some _
  simp only [hn, if_false]
  have hs : s.size ≤ 1048576 := by have := hr2 (by omega); omega
  simp only [laws_toVal_eq, Option.bind_some]
  refine Ev.bind (spec_ValText_ev k n s (by omega)) ?_
  refine Ev.bind (impl_ValText_ev k n s (by omega)) ?_
  simp only [if_true]
  exact ev_some _

end Go.Proofs.YtoeaaochnceofaaDoor.Pure

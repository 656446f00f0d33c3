/- A drawn value that has a text comes back of it; what is read has that text and is a value; texts and values are told as the reference tells them. No condition. -/
import Derived.Test.YtoeaaochnceofaaDoorPFnValsx10
import Derived.Test.YtoeaaochnceofaaDoorUFnVals
namespace Go.Proofs.YtoeaaochnceofaaDoor.Pure
open Go.RowKit Go.Proofs.YtoeaaochnceofaaDoor.PFnVals Go.Proofs.YtoeaaochnceofaaDoorW.PrintWords Go.Proofs.YtoeaaochnceofaaDoorW.PrintLast Go.Proofs.YtoeaaochnceofaaDoorW.PrintMore Go.Proofs.YtoeaaochnceofaaDoorM
set_option linter.unusedVariables false
set_option linter.unusedSimpArgs false


theorem spec_l1In_eq (a b c : Int) : spec_l1In.f a b c = some (inB a b c) := in_ite a b c
attribute [local irreducible] spec_l1In.f

theorem spec_ValOk_eq (k n : Int) (s : ByteArray) : spec_ValOk.f k n s = some (valOkB k n s) := by
  unfold spec_ValOk.f valOkB isE
  simp only [spec_l1In_eq, Option.bind_some]
  by_cases h0 : k = 0
  · simp only [h0, if_true]; by_cases hn : n = 0 <;> simp [hn]
  simp only [h0, if_false]
  by_cases h1 : k = 1
  · simp only [h1, if_true]; cases inB n (-2147483648) 2147483647 <;> simp
  simp only [h1, if_false]
  by_cases h2 : k = 2
  · simp only [h2, if_true]; cases inB n (-1000000000000000) 1000000000000000 <;> simp
  simp only [h2, if_false]
  by_cases h3 : k = 3
  · simp only [h3, if_true]; by_cases hn : n = 0 <;> by_cases hs : (s.size : Int) ≤ 30 <;> simp [hn, hs]
  simp only [h3, if_false]
  by_cases h4 : k = 4
  · simp only [h4, if_true]; cases inB n 0 1 <;> simp
  simp only [h4, if_false]
attribute [local irreducible] spec_ValOk.f

def plC (x : Int) : Bool := inB x 32 126 && !(decide (x = 39))
def plainB (s : ByteArray) : Bool := (bytesOf s).all plC
theorem bt_byte (s : ByteArray) (i : Nat) (h : i < s.size) : 0 ≤ bt s (i : Int) ∧ bt s (i : Int) ≤ 255 := by
  rw [bt_get s i h]
  exact (bytesOf_isB s).get i _
theorem spec_l2Plain_l0 (s : ByteArray) (hs : s.size ≤ 9223372036854775806) : ∀ i : Nat, i ≤ s.size → Ev (fun k => spec_l2Plain.l0 k s (i : Int)) (((bytesOf s).drop i).all plC) := by
  refine up_ind s.size (fun i : Nat => Ev (fun k => spec_l2Plain.l0 k s (i : Int)) (((bytesOf s).drop i).all plC)) ?_ ?_
  · refine ev_succ ?_
    have h1 : ¬ ((s.size : Int) < (s.size : Int)) := by omega
    simp only [spec_l2Plain.l0.eq_2, h1, if_false]
    rw [List.drop_eq_nil_of_le (by rw [bytesOf_len]; omega)]
    exact ev_some _
  · intro i hi ih
    refine ev_succ ?_
    have hib : i < (bytesOf s).length := by rw [bytesOf_len]; exact hi
    have h1 : (i : Int) < (s.size : Int) := by omega
    have h2 : (0 : Int) ≤ (i : Int) := by omega
    have hb := bt_byte s i hi
    have hw : wrap64 (bt s (i : Int)) = bt s (i : Int) := w64 (by omega) (by omega)
    simp only [spec_l2Plain.l0.eq_2, h1, h2, if_true, hw, spec_l1In_eq, Option.bind_some, wsucc (show i < 9223372036854775807 by omega)]
    rw [List.drop_eq_getElem_cons hib, List.all_cons, ← bt_get s i hi]
    unfold plC
    cases hin : inB (bt s (i : Int)) 32 126 with
    | false => simp only [Bool.false_eq_true, if_false, Bool.false_and]; exact ev_some _
    | true =>
      by_cases h39 : bt s (i : Int) = 39
      · simp only [h39, if_true, decide_true, Bool.not_true, Bool.and_false, Bool.false_and]; exact ev_some _
      · simp only [h39, if_true, if_false, decide_false, Bool.not_false, Bool.and_true, Bool.true_and]
        exact ih
theorem spec_l2Plain_ev (s : ByteArray) (hs : s.size ≤ 9223372036854775806) : Ev (fun k => spec_l2Plain.f k s) (plainB s) := by
  unfold spec_l2Plain.f plainB
  simpa using spec_l2Plain_l0 s hs 0 (by omega)
theorem ba_append (a b : List UInt8) : (⟨a.toArray⟩ : ByteArray) ++ ⟨b.toArray⟩ = ⟨(a ++ b).toArray⟩ := by
  apply ByteArray.ext
  rw [ByteArray.data_append]
  simp
theorem strOfNums_one (x : Int) : strOfNums [x] = ⟨[UInt8.ofNat x.toNat].toArray⟩ := rfl
theorem decDigits_len (u : Nat) : (Go.Lib.decDigits u).length ≤ u + 1 := by
  induction u using Nat.strongRecOn with
  | _ u ih =>
    rw [Go.Lib.decDigits]
    split
    · simp
    · have := ih (u / 10) (by omega)
      simp only [List.length_append, List.length_cons, List.length_nil]
      omega
theorem ba_size (l : List UInt8) : (⟨l.toArray⟩ : ByteArray).size = l.length := by
  show l.toArray.size = l.length
  simp
def valTextB (k n : Int) (s : ByteArray) : ByteArray := if k = 1 then (⟨#[105]⟩ : ByteArray) ++ ⟨(Go.Lib.itoa n).toArray⟩ else if k = 2 then (⟨#[110]⟩ : ByteArray) ++ ⟨(Go.Lib.itoa n).toArray⟩
  else if k = 3 then ((⟨#[39]⟩ : ByteArray) ++ s) ++ (⟨#[39]⟩ : ByteArray) else if k = 4 then (if n = 1 then (⟨#[121, 101, 115]⟩ : ByteArray) else (⟨#[110, 111]⟩ : ByteArray)) else (⟨#[110, 117, 108, 108]⟩ : ByteArray)
def valText (k n : Int) (s : ByteArray) : ByteArray := if (valOkB k n s && plainB s) = true then valTextB k n s else ⟨#[]⟩
theorem itoa_len (n : Int) (h : -1000000000000000 ≤ n ∧ n ≤ 1000000000000000) : (⟨(Go.Lib.itoa n).toArray⟩ : ByteArray).size ≤ 1000000000000003 := by
  rw [ba_size]
  unfold Go.Lib.itoa
  split
  · have := decDigits_len n.natAbs
    simp only [List.length_cons]; omega
  · have := decDigits_len n.toNat
    omega
theorem valOk_1 {n : Int} {s : ByteArray} (h : valOkB 1 n s = true) : (-1000000000000000 ≤ n ∧ n ≤ 1000000000000000) ∧ s = ⟨#[]⟩ := by
  have := fits_cases (t := 1) (null := false) (k := 1) (by unfold fitsB; rw [h]; rfl) (by omega)
  rcases this with ⟨h, _⟩ | ⟨_, ⟨_, h1, h2, h3⟩ | ⟨h, _⟩ | ⟨h, _⟩ | ⟨h, _⟩⟩
  · cases h
  · exact ⟨by omega, h3⟩
  all_goals omega
theorem valOk_2 {n : Int} {s : ByteArray} (h : valOkB 2 n s = true) : (-1000000000000000 ≤ n ∧ n ≤ 1000000000000000) ∧ s = ⟨#[]⟩ := by
  have := fits_cases (t := 2) (null := false) (k := 2) (by unfold fitsB; rw [h]; rfl) (by omega)
  rcases this with ⟨h, _⟩ | ⟨_, ⟨h, _⟩ | ⟨_, h1, h2, h3⟩ | ⟨h, _⟩ | ⟨h, _⟩⟩
  · cases h
  · omega
  · exact ⟨by omega, h3⟩
  all_goals omega
theorem plain_empty : plainB ⟨#[]⟩ = true := by
  unfold plainB
  rw [List.eq_nil_of_length_eq_zero (show (bytesOf ⟨#[]⟩).length = 0 by rw [bytesOf_len]; rfl)]
  rfl
attribute [local irreducible] spec_l2Plain.f

theorem spec_l2Digit_eq (x : Int) (h : 0 ≤ x ∧ x ≤ 255) : spec_l2Digit.f x = some (inB x 48 57) := by
  unfold spec_l2Digit.f
  rw [w64 (by omega) (by omega)]
  simp only [spec_l1In_eq, Option.bind_some]
attribute [local irreducible] spec_l2Digit.f

def Lb (s : ByteArray) : List UInt8 := s.data.toList
theorem Lb_len (s : ByteArray) : (Lb s).length = s.size := by unfold Lb; rw [Array.length_toList]; rfl
theorem Lb_toList (s : ByteArray) : s.toList = Lb s := ByteArray.toList_eq s
theorem Lb_inj {s t : ByteArray} (h : Lb s = Lb t) : s = t := by
  apply ByteArray.ext
  exact Array.toList_inj.1 h
theorem Lb_bt (s : ByteArray) (i : Nat) (h : i < s.size) : bt s (i : Int) = ((Lb s)[i]'(by rw [Lb_len]; exact h)).toNat := by
  unfold bt Lb
  simp only [Int.toNat_natCast, h, dif_pos]
  rfl
theorem Lb_extract (s : ByteArray) (a b : Nat) : Lb (s.extract a b) = ((Lb s).drop a).take (b - a) := by
  unfold Lb
  rw [ByteArray.data_extract, Array.toList_extract, List.extract_eq_take_drop]
theorem Lb_tail (s : ByteArray) : Lb (s.extract 1 s.size) = (Lb s).tail := by
  rw [Lb_extract, List.drop_one, List.take_of_length_le]
  rw [List.length_tail, Lb_len]
  exact Nat.le_refl _
theorem u8_lt (c : UInt8) : c.toNat ≤ 255 := by have := c.toNat_lt; omega
theorem dgC_in (c : UInt8) : inB (c.toNat : Int) 48 57 = dgC c := by
  unfold inB dgC
  by_cases h : 48 ≤ c.toNat ∧ c.toNat ≤ 57
  · rw [decide_eq_true h, decide_eq_true (by omega)]
  · rw [decide_eq_false h, decide_eq_false (by omega)]
theorem spec_l2Parse_l0 (x : ByteArray) (hs : x.size ≤ 16) (m : Bool) : ∀ i : Nat, i ≤ x.size → ∀ a : Nat, a < 10 ^ i →
    Ev (fun k => spec_l2Parse.l0 k x m (a : Int) (i : Int)) (if ((Lb x).drop i).all dgC = true then ((if m = true then -(dval a ((Lb x).drop i) : Int) else (dval a ((Lb x).drop i) : Int)), true) else (0, false)) := by
  have p16 : (10 : Nat) ^ 16 = 10000000000000000 := by rfl
  refine up_ind x.size (fun i : Nat => ∀ a : Nat, a < 10 ^ i →
    Ev (fun k => spec_l2Parse.l0 k x m (a : Int) (i : Int)) (if ((Lb x).drop i).all dgC = true then ((if m = true then -(dval a ((Lb x).drop i) : Int) else (dval a ((Lb x).drop i) : Int)), true) else (0, false))) ?_ ?_
  · intro a ha
    have hp : 10 ^ x.size ≤ 10 ^ 16 := Nat.pow_le_pow_right (by omega) hs
    have hb : a < 10000000000000000 := by omega
    clear hp ha p16
    refine ev_succ ?_
    have h1 : ¬ ((x.size : Int) < (x.size : Int)) := by omega
    simp only [spec_l2Parse.l0.eq_2, h1, if_false]
    rw [List.drop_eq_nil_of_le (by rw [Lb_len]; omega)]
    have e : dval a [] = a := rfl
    have hw : wrap64 (-(a : Int)) = -(a : Int) := w64 (by omega) (by omega)
    simp only [List.all_nil, if_true, e, hw]
    cases m
    · simp only [Bool.false_eq_true, if_false]; exact ev_some _
    · simp only [if_true]; exact ev_some _
  · intro i hi ih a ha
    have hp : 10 ^ i ≤ 10 ^ 15 := Nat.pow_le_pow_right (by omega) (by omega)
    have p15 : (10 : Nat) ^ 15 = 1000000000000000 := by rfl
    have hb : a < 1000000000000000 := by omega
    have hib : i < (Lb x).length := by rw [Lb_len]; exact hi
    have hbt := Lb_bt x i hi
    have hc := u8_lt ((Lb x)[i])
    have hn : (Lb x)[i].toNat - 48 < 10 → a * 10 + ((Lb x)[i].toNat - 48) < 10 ^ (i + 1) := fun h => by rw [Nat.pow_succ]; omega
    have ih2 := ih (a * 10 + ((Lb x)[i].toNat - 48))
    rw [List.drop_eq_getElem_cons hib, List.all_cons]
    generalize (Lb x)[i] = c at hbt hc hn ih2 ⊢
    clear hp p15 p16 ha ih
    refine ev_succ ?_
    have h1 : (i : Int) < (x.size : Int) := by omega
    have h2 : (0 : Int) ≤ (i : Int) := by omega
    have hd := spec_l2Digit_eq (c.toNat : Int) (by omega)
    simp only [spec_l2Parse.l0.eq_2, h1, h2, if_true, hbt, hd, Option.bind_some, dgC_in, wsucc (show i < 9223372036854775807 by omega)]
    cases hg : dgC c with
    | false =>
      simp only [Bool.false_eq_true, if_false, Bool.false_and]
      exact ev_some _
    | true =>
      have hg2 : 48 ≤ c.toNat ∧ c.toNat ≤ 57 := of_decide_eq_true hg
      have e1 : wrap64 ((a : Int) * 10) = (a : Int) * 10 := w64 (by omega) (by omega)
      have e2 : wrap64 ((a : Int) * 10 + ((c.toNat : Int) - 48) % 256) = ((a * 10 + (c.toNat - 48) : Nat) : Int) := by rw [w64 (by omega) (by omega)]; omega
      have e3 : ∀ r, dval a (c :: r) = dval (a * 10 + (c.toNat - 48)) r := fun _ => rfl
      simp only [if_true, Bool.true_and, e1, e2, e3]
      exact ih2 (hn (by omega))
theorem spec_l2Parse_j2 (x : ByteArray) (hs : x.size ≤ 16) (m : Bool) : Ev (fun k => spec_l2Parse.j2 k x m false) (if (Lb x).all dgC = true then ((if m = true then -(dval 0 (Lb x) : Int) else (dval 0 (Lb x) : Int)), true) else (0, false)) := by
  refine ev_succ ?_
  simp only [spec_l2Parse.j2.eq_2, Bool.false_eq_true, if_false]
  have := spec_l2Parse_l0 x hs m 0 (by omega) 0 (by decide)
  rw [List.drop_zero] at this
  exact this
theorem spec_l2Parse_j2t (x : ByteArray) (m : Bool) : Ev (fun k => spec_l2Parse.j2 k x m true) (0, false) := by
  refine ev_succ ?_
  simp only [spec_l2Parse.j2.eq_2, if_true]
  exact ev_some _
theorem head_bt (x : ByteArray) (h : 0 < x.size) (v : UInt8) : (Lb x).head? = some v ↔ bt x 0 = (v.toNat : Int) := by
  have e := Lb_bt x 0 h
  have hl : 0 < (Lb x).length := by rw [Lb_len]; exact h
  have e2 : (Lb x).head? = some ((Lb x)[0]) := by rw [List.head?_eq_getElem?, List.getElem?_eq_getElem hl]
  rw [e2, show (0 : Int) = ((0 : Nat) : Int) by rfl, e]
  constructor
  · intro h; rw [Option.some.inj h]
  · intro h
    have : (Lb x)[0].toNat = v.toNat := by omega
    rw [UInt8.toNat_inj.1 this]
theorem spec_l2Parse_j1 (x : ByteArray) (hs : x.size ≤ 1000000000000) (m : Bool) : Ev (fun k => spec_l2Parse.j1 k x m) (magP m (Lb x)) := by
  refine ev_succ ?_
  simp only [spec_l2Parse.j1.eq_2, spec_l1In_eq, Option.bind_some]
  unfold magP
  rw [Lb_len]
  by_cases hr : 1 ≤ x.size ∧ x.size ≤ 16
  · have h1 : inB (x.size : Int) 1 16 = true := by unfold inB; exact decide_eq_true (by omega)
    have h0 : (0 : Int) < (x.size : Int) := by omega
    simp only [h1, if_true, h0]
    have hh := head_bt x (by omega) 48
    have e48 : ((48 : UInt8).toNat : Int) = 48 := rfl
    rw [e48] at hh
    by_cases h48 : bt x 0 = 48
    · have hh2 := hh.2 h48
      simp only [h48, if_true, hh2, hr, and_self, true_and]
      by_cases h2 : 1 < x.size
      · have h2' : (x.size : Int) > 1 := by omega
        simp only [h2', if_true, h2, true_or, not_true_eq_false, false_and, if_false]
        exact spec_l2Parse_j2t x m
      · have h2' : ¬ (x.size : Int) > 1 := by omega
        simp only [h2', if_false, h2, false_or]
        cases m with
        | true => simp only [not_true_eq_false, false_and, if_false]; exact spec_l2Parse_j2t x true
        | false =>
          have := spec_l2Parse_j2 x hr.2 false
          simpa only [Bool.false_eq_true, not_false_eq_true, true_and, if_false] using this
    · have hh2 : ¬ (Lb x).head? = some 48 := fun h => h48 (hh.1 h)
      simp only [h48, if_false, hh2, hr, and_self, true_and, false_and, not_false_eq_true]
      exact spec_l2Parse_j2 x hr.2 m
  · have h1 : inB (x.size : Int) 1 16 = false := by unfold inB; exact decide_eq_false (by omega)
    simp only [h1, Bool.false_eq_true, if_false, hr, false_and]
    exact spec_l2Parse_j2t x m
theorem spec_l2Parse_ev (x : ByteArray) (hs : x.size ≤ 1000000000000) : Ev (fun k => spec_l2Parse.f k x) (parseP (Lb x)) := by
  unfold spec_l2Parse.f parseP
  by_cases h0 : 0 < x.size
  · have h1 : (x.size : Int) > 0 := by omega
    have h2 : (0 : Int) < (x.size : Int) := by omega
    have h3 : (1 : Int) ≤ (x.size : Int) := by omega
    simp only [h1, h2, if_true]
    have hh := head_bt x h0 45
    have e45 : ((45 : UInt8).toNat : Int) = 45 := rfl
    rw [e45] at hh
    refine ev_succ ?_
    simp only [spec_l2Parse.j0.eq_2]
    by_cases h45 : bt x 0 = 45
    · have hh2 := hh.2 h45
      have hb : (bt x 0 == 45) = true := beq_iff_eq.2 h45
      simp only [hb, hh2, if_true, h3]
      rw [← Lb_tail]
      exact spec_l2Parse_j1 _ (by rw [← Lb_len, Lb_tail, List.length_tail, Lb_len]; omega) true
    · have hh2 : ¬ (Lb x).head? = some 45 := fun h => h45 (hh.1 h)
      have hb : (bt x 0 == 45) = false := beq_eq_false_iff_ne.2 h45
      simp only [hb, hh2, Bool.false_eq_true, if_false]
      exact spec_l2Parse_j1 x hs false
  · have h1 : ¬ (x.size : Int) > 0 := by omega
    have hl : Lb x = [] := List.eq_nil_of_length_eq_zero (by rw [Lb_len]; omega)
    have hh2 : ¬ (Lb x).head? = some 45 := by rw [hl]; simp
    simp only [h1, if_false, hh2]
    refine ev_succ ?_
    simp only [spec_l2Parse.j0.eq_2, Bool.false_eq_true, if_false]
    exact spec_l2Parse_j1 x hs false
attribute [local irreducible] spec_l2Parse.f

def mid (s : ByteArray) : ByteArray := s.extract 1 (s.size - 1)
def eB : ByteArray := ⟨#[]⟩
def specV (s : ByteArray) : Int × Int × ByteArray × Bool :=
  if Lb s = [110, 117, 108, 108] then (0, 0, eB, true) else if Lb s = [110, 111] then (4, 0, eB, true) else if Lb s = [121, 101, 115] then (4, 1, eB, true)
  else if s.size < 2 then (0, 0, eB, false)
  else if bt s 0 = 39 then (3, 0, mid s, decide (bt s ((s.size - 1 : Nat) : Int) = 39) && plainB (mid s))
  else if bt s 0 = 105 then (1, (parseP (Lb s).tail).1, eB, (parseP (Lb s).tail).2)
  else if bt s 0 = 110 then (2, (parseP (Lb s).tail).1, eB, (parseP (Lb s).tail).2) else (0, 0, eB, false)
theorem mid_size (s : ByteArray) : (mid s).size ≤ s.size := by
  rw [← Lb_len, ← Lb_len]
  unfold mid
  rw [Lb_extract, List.length_take, List.length_drop]
  omega
theorem spec_l2Val_ev (s : ByteArray) (hs : s.size ≤ 1000000000000) : Ev (fun k => spec_l2Val.f k s) (specV s) := by
  unfold spec_l2Val.f specV
  simp only [Lb_toList]
  by_cases c1 : Lb s = [110, 117, 108, 108]
  · simp only [c1, if_true]; exact ev_some _
  by_cases c2 : Lb s = [110, 111]
  · simp only [c1, c2, if_false, if_true]; exact ev_some _
  by_cases c3 : Lb s = [121, 101, 115]
  · simp only [c1, c2, c3, if_false, if_true]; exact ev_some _
  simp only [c1, c2, c3, if_false]
  by_cases c4 : s.size < 2
  · have c4' : (s.size : Int) < 2 := by omega
    simp only [c4, c4', if_true]; exact ev_some _
  have c4' : ¬ (s.size : Int) < 2 := by omega
  have h0 : (0 : Int) < (s.size : Int) := by omega
  have h1 : (1 : Int) ≤ (s.size : Int) := by omega
  have hw : wrap64 ((s.size : Int) - 1) = ((s.size - 1 : Nat) : Int) := by rw [w64 (by omega) (by omega)]; omega
  have g1 : (1 : Int) ≤ ((s.size - 1 : Nat) : Int) := by omega
  have g2 : ((s.size - 1 : Nat) : Int) ≤ (s.size : Int) := by omega
  have g3 : (0 : Int) ≤ ((s.size - 1 : Nat) : Int) := by omega
  have g4 : ((s.size - 1 : Nat) : Int) < (s.size : Int) := by omega
  simp only [c4, c4', if_false, h0, if_true, hw, g1, g2, g3, g4, h1, Int.toNat_natCast]
  by_cases c5 : bt s 0 = 39
  · simp only [c5, if_true]
    by_cases c6 : bt s ((s.size - 1 : Nat) : Int) = 39
    · simp only [c6, if_true, decide_true, Bool.true_and]
      refine Ev.bind (spec_l2Plain_ev (s.extract 1 (s.size - 1)) (by have := mid_size s; unfold mid at this; omega)) ?_
      exact ev_some _
    · simp only [c6, if_false, decide_false, Bool.false_and]
      exact ev_some _
  · simp only [c5, if_false]
    refine Ev.bind (spec_l2Parse_ev (s.extract 1 s.size) (by rw [← Lb_len, Lb_tail, List.length_tail, Lb_len]; omega)) ?_
    rw [Lb_tail]
    by_cases c6 : bt s 0 = 105
    · simp only [c6, if_true]; exact ev_some _
    simp only [c6, if_false]
    by_cases c7 : bt s 0 = 110
    · simp only [c7, if_true]; exact ev_some _
    simp only [c7, if_false]
    exact ev_some _
attribute [local irreducible] spec_l2Val.f

def noV : Int × Int × ByteArray × Bool := (0, 0, eB, false)
def specP (s : ByteArray) : Int × Int × ByteArray × Bool := if ((specV s).2.2.2 && valOkB (specV s).1 (specV s).2.1 (specV s).2.2.1) = true then ((specV s).1, (specV s).2.1, (specV s).2.2.1, true) else noV
theorem spec_ParseVal_ev (s : ByteArray) (hs : s.size ≤ 1000000000000) : Ev (fun k => spec_ParseVal.f k s) (specP s) := by
  unfold spec_ParseVal.f specP
  refine Ev.bind (spec_l2Val_ev s hs) ?_
  cases h : (specV s).2.2.2 with
  | false => simp only [Bool.false_eq_true, if_false, Bool.false_and]; exact ev_some _
  | true =>
    simp only [if_true, Bool.true_and, spec_ValOk_eq, Option.bind_some]
    cases h2 : valOkB (specV s).1 (specV s).2.1 (specV s).2.2.1 with
    | false => simp only [Bool.false_eq_true, if_false]; exact ev_some _
    | true => simp only [if_true]; exact ev_some _
attribute [local irreducible] spec_ParseVal.f

theorem impl_in_eq (a b c : Int) : impl_in.f a b c = some (inB a b c) := in_ite a b c
attribute [local irreducible] impl_in.f

theorem impl_ValOk_eq (k n : Int) (s : ByteArray) : impl_ValOk.f k n s = some (valOkB k n s) := by
  unfold impl_ValOk.f valOkB isE
  simp only [impl_in_eq, Option.bind_some]
  by_cases h0 : k = 0
  · simp only [h0, if_true]; by_cases hn : n = 0 <;> simp [hn]
  simp only [h0, if_false]
  by_cases h1 : k = 1
  · simp only [h1, if_true]; cases inB n (-2147483648) 2147483647 <;> simp
  simp only [h1, if_false]
  by_cases h2 : k = 2
  · simp only [h2, if_true]; cases inB n (-1000000000000000) 1000000000000000 <;> simp
  simp only [h2, if_false]
  by_cases h3 : k = 3
  · simp only [h3, if_true]; by_cases hn : n = 0 <;> by_cases hs : (s.size : Int) ≤ 30 <;> simp [hn, hs]
  simp only [h3, if_false]
  by_cases h4 : k = 4
  · simp only [h4, if_true]; cases inB n 0 1 <;> simp
  simp only [h4, if_false]
attribute [local irreducible] impl_ValOk.f

theorem impl_ValText_l0 (k n : Int) (s : ByteArray) (hs : s.size ≤ 1000000000000) : ∀ i : Nat, i ≤ s.size →
    Ev (fun j => impl_ValText.l0 j (i : Int) k n s) (if ((bytesOf s).drop i).all plC = true then ((⟨#[39]⟩ : ByteArray) ++ s) ++ (⟨#[39]⟩ : ByteArray) else ⟨#[]⟩) := by
  refine up_ind s.size (fun i : Nat => Ev (fun j => impl_ValText.l0 j (i : Int) k n s) (if ((bytesOf s).drop i).all plC = true then ((⟨#[39]⟩ : ByteArray) ++ s) ++ (⟨#[39]⟩ : ByteArray) else ⟨#[]⟩)) ?_ ?_
  · refine ev_succ ?_
    have h1 : ¬ ((s.size : Int) < (s.size : Int)) := by omega
    have q1 : 1 + s.size ≤ 9223372036854775807 := by omega
    have q2 : ((⟨#[39]⟩ : ByteArray) ++ s).size + 1 ≤ 9223372036854775807 := by rw [ByteArray.size_append]; have : (⟨#[39]⟩ : ByteArray).size = 1 := rfl; omega
    simp only [impl_ValText.l0.eq_2, h1, if_false, q1, q2, if_true]
    rw [List.drop_eq_nil_of_le (by rw [bytesOf_len]; omega)]
    exact ev_some _
  · intro i hi ih
    refine ev_succ ?_
    have hib : i < (bytesOf s).length := by rw [bytesOf_len]; exact hi
    have h1 : (i : Int) < (s.size : Int) := by omega
    have h2 : (0 : Int) ≤ (i : Int) := by omega
    have hb := bt_byte s i hi
    simp only [impl_ValText.l0.eq_2, h1, h2, if_true, wsucc (show i < 9223372036854775807 by omega)]
    rw [List.drop_eq_getElem_cons hib, List.all_cons, ← bt_get s i hi]
    unfold plC inB
    by_cases c1 : bt s (i : Int) < 32
    · have : ¬ (32 ≤ bt s (i : Int) ∧ bt s (i : Int) ≤ 126) := by omega
      simp only [c1, if_true, this, decide_false, Bool.false_and, Bool.false_eq_true, if_false]; exact ev_some _
    · by_cases c2 : bt s (i : Int) > 126
      · have : ¬ (32 ≤ bt s (i : Int) ∧ bt s (i : Int) ≤ 126) := by omega
        simp only [c1, c2, if_true, this, decide_false, Bool.false_and, Bool.false_eq_true, if_false]; exact ev_some _
      · have hin : 32 ≤ bt s (i : Int) ∧ bt s (i : Int) ≤ 126 := by omega
        by_cases c3 : bt s (i : Int) = 39
        · simp only [c1, c2, if_false]
          simp only [c3, if_true, decide_true, Bool.not_true, Bool.and_false, Bool.false_and, Bool.false_eq_true, if_false]; exact ev_some _
        · simp only [c1, c2, c3, if_false, decide_eq_true hin, decide_false, Bool.not_false, Bool.and_true, Bool.true_and]
          exact ih
theorem impl_ValText_ev (k n : Int) (s : ByteArray) (hs : s.size ≤ 1000000000000) : Ev (fun j => impl_ValText.f j k n s) (valText k n s) := by
  unfold impl_ValText.f valText
  simp only [impl_ValOk_eq, Option.bind_some]
  cases hv : valOkB k n s with
  | false =>
    simp only [Bool.false_eq_true, if_false, Bool.false_and]
    exact ev_some _
  | true =>
    simp only [if_true, Bool.true_and]
    unfold valTextB
    by_cases k0 : k = 0
    · subst k0
      have he : s = ⟨#[]⟩ := by
        have := fits_cases (t := 1) (null := true) (k := 0) (n := n) (s := s) (by unfold fitsB; rw [hv]; rfl) (by omega)
        rcases this with ⟨_, _, _, h⟩ | ⟨h, _⟩
        · exact h
        · omega
      subst he
      simp only [if_true, plain_empty, show ¬ ((0 : Int) = 1) by decide, show ¬ ((0 : Int) = 2) by decide, show ¬ ((0 : Int) = 3) by decide, show ¬ ((0 : Int) = 4) by decide, if_false]
      exact ev_some _
    by_cases k1 : k = 1
    · subst k1
      obtain ⟨hn, he⟩ := valOk_1 hv
      subst he
      have hl := itoa_len n hn
      have q0 : -9223372036854775808 ≤ n ∧ n ≤ 9223372036854775807 := by omega
      have q : 1 + (⟨(Go.Lib.itoa n).toArray⟩ : ByteArray).size ≤ 9223372036854775807 := by omega
      have e : strconv_Itoa.f n = some ⟨(Go.Lib.itoa n).toArray⟩ := by unfold strconv_Itoa.f; rw [if_pos q0]
      simp only [show ¬ ((1 : Int) = 0) by decide, if_false, if_true, e, Option.bind_some, q, plain_empty]
      exact ev_some _
    by_cases k2 : k = 2
    · subst k2
      obtain ⟨hn, he⟩ := valOk_2 hv
      subst he
      have hl := itoa_len n hn
      have q0 : -9223372036854775808 ≤ n ∧ n ≤ 9223372036854775807 := by omega
      have q : 1 + (⟨(Go.Lib.itoa n).toArray⟩ : ByteArray).size ≤ 9223372036854775807 := by omega
      have e : strconv_Itoa.f n = some ⟨(Go.Lib.itoa n).toArray⟩ := by unfold strconv_Itoa.f; rw [if_pos q0]
      simp only [show ¬ ((2 : Int) = 0) by decide, show ¬ ((2 : Int) = 1) by decide, if_false, if_true, e, Option.bind_some, q, plain_empty]
      exact ev_some _
    by_cases k4 : k = 4
    · subst k4
      have he : s = ⟨#[]⟩ := by
        have := fits_cases (t := 4) (null := false) (k := 4) (n := n) (s := s) (by unfold fitsB; rw [hv]; rfl) (by omega)
        rcases this with ⟨h, _⟩ | ⟨_, ⟨h, _⟩ | ⟨h, _⟩ | ⟨h, _⟩ | ⟨_, _, _, h⟩⟩
        · cases h
        · omega
        · omega
        · omega
        · exact h
      subst he
      simp only [show ¬ ((4 : Int) = 0) by decide, show ¬ ((4 : Int) = 1) by decide, show ¬ ((4 : Int) = 2) by decide, show ¬ ((4 : Int) = 3) by decide, if_false, if_true, plain_empty]
      by_cases n1 : n = 1
      · simp only [n1, if_true]; exact ev_some _
      · simp only [n1, if_false]; exact ev_some _
    · have k3 : k = 3 := by
        unfold valOkB at hv
        rw [if_neg k0, if_neg k1, if_neg k2] at hv
        by_cases k3 : k = 3
        · exact k3
        · rw [if_neg k3, if_neg k4] at hv; cases hv
      simp only [k0, k1, k2, k4, if_false]
      simp only [k3, if_true]
      have := impl_ValText_l0 3 n s hs 0 (by omega)
      rw [List.drop_zero] at this
      exact this
attribute [local irreducible] impl_ValText.f

theorem stringslite_HasPrefix_eq (s : ByteArray) (c : UInt8) : stringslite_HasPrefix.f s ⟨#[c]⟩ = some (decide ((Lb s).head? = some c)) := by
  unfold stringslite_HasPrefix.f
  have e1 : (⟨#[c]⟩ : ByteArray).size = 1 := rfl
  have e2 : Lb (⟨#[c]⟩ : ByteArray) = [c] := rfl
  simp only [e1, Lb_toList, e2, Lb_extract, Int.toNat_natCast]
  by_cases h : 1 ≤ s.size
  · have h1 : (s.size : Int) ≥ ((1 : Nat) : Int) := by omega
    have h2 : (0 : Int) ≤ ((1 : Nat) : Int) := by omega
    have h3 : ((1 : Nat) : Int) ≤ (s.size : Int) := by omega
    simp only [h1, h2, h3, if_true]
    cases hl : Lb s with
    | nil =>
      have := Lb_len s
      rw [hl] at this
      simp only [List.length_nil] at this
      omega
    | cons x r => by_cases hx : x = c <;> simp [hx]
  · have h1 : ¬ (s.size : Int) ≥ ((1 : Nat) : Int) := by omega
    have hl : Lb s = [] := List.eq_nil_of_length_eq_zero (by rw [Lb_len]; omega)
    simp only [h1, if_false, hl]
    simp
attribute [local irreducible] stringslite_HasPrefix.f

theorem strings_HasPrefix_eq (s : ByteArray) (c : UInt8) : strings_HasPrefix.f s ⟨#[c]⟩ = some (decide ((Lb s).head? = some c)) := by
  unfold strings_HasPrefix.f
  rw [stringslite_HasPrefix_eq]
  rfl
attribute [local irreducible] strings_HasPrefix.f

attribute [local irreducible] strconv_Atoi.f

def atoiR (l : List UInt8) : Int × Option Int := match Go.Lib.atoiAll l with | .ok v => (v, none) | .range => (Go.Lib.atoiSat l, some 0) | _ => (0, some 0)
theorem strconv_Atoi_eq (s : ByteArray) (hs : s.size ≤ 1000000000000) : strconv_Atoi.f s = some (atoiR (Lb s)) := by
  unfold strconv_Atoi.f atoiR Lb
  rw [if_pos (by omega)]
  cases Go.Lib.atoiAll s.data.toList <;> rfl
theorem Lb_append (a b : ByteArray) : Lb (a ++ b) = Lb a ++ Lb b := by
  unfold Lb
  rw [ByteArray.data_append, Array.toList_append]
theorem Lb_mk (l : List UInt8) : Lb ⟨l.toArray⟩ = l := rfl
theorem valTextB_ne (k n : Int) (s : ByteArray) : ¬ Lb (valTextB k n s) = [] := by
  unfold valTextB
  split
  · rw [Lb_append]; intro h; cases h
  split
  · rw [Lb_append]; intro h; cases h
  split
  · rw [Lb_append, Lb_append]; intro h; cases h
  split
  · split
    · intro h; cases h
    · intro h; cases h
  · intro h; cases h
def tvR (k n : Int) (S s : ByteArray) : Int × Int × ByteArray × Bool := if (valOkB k n S && plainB S) = true ∧ Lb (valTextB k n S) = Lb s then (k, n, S, true) else noV
theorem tv_ev (K N : Int) (S s : ByteArray) (hS : S.size ≤ 1000000000000) : Ev (fun k => (impl_ValText.f k K N S).bind fun t => if t.toList = ([] : List UInt8) then some ((0 : Int), (0 : Int), (⟨#[]⟩ : ByteArray), false) else if t.toList = s.toList then some (K, N, S, true) else some (0, 0, (⟨#[]⟩ : ByteArray), false)) (tvR K N S s) := by
  refine Ev.bind (impl_ValText_ev K N S hS) ?_
  unfold valText tvR
  have e0 : Lb (⟨#[]⟩ : ByteArray) = [] := rfl
  cases hv : (valOkB K N S && plainB S) with
  | false => simp only [Bool.false_eq_true, if_false, false_and, Lb_toList, e0, if_true]; exact ev_some _
  | true =>
    simp only [if_true, true_and, Lb_toList, valTextB_ne, if_false]
    by_cases h : Lb (valTextB K N S) = Lb s
    · simp only [h, if_true]; exact ev_some _
    · simp only [h, if_false]; exact ev_some _
def j2R (s : ByteArray) (x : Bool) : Int × Int × ByteArray × Bool := if x = true then tvR 3 0 (mid s) s else tvR 0 0 eB s
def numR (s : ByteArray) : Int × Option Int → Int × Int × ByteArray × Bool
  | (v, none) => if bt s 0 = 110 then tvR 2 v eB s else tvR 1 v eB s
  | (_, some _) => noV
def j1R (s : ByteArray) (x : Bool) : Int × Int × ByteArray × Bool := if x = true then numR s (atoiR (Lb s).tail) else j2R s (decide (2 ≤ s.size ∧ bt s 0 = 39))
def j0R (s : ByteArray) (x : Bool) : Int × Int × ByteArray × Bool := if x = true then (if Lb s = [121, 101, 115] then tvR 4 1 eB s else tvR 4 0 eB s) else
  j1R s (decide ((Lb s).head? = some 105) || (decide ((Lb s).head? = some 110) && !decide (Lb s = [110, 117, 108, 108])))
def implP (s : ByteArray) : Int × Int × ByteArray × Bool := if Lb s = [110, 111] then j0R s true else j0R s (decide (Lb s = [121, 101, 115]))
theorem impl_ParseVal_j2 (s : ByteArray) (hs : s.size ≤ 1000000000000) (x : Bool) (hx : x = true → 2 ≤ s.size) : Ev (fun k => impl_ParseVal.j2 k s x 0 0 ⟨#[]⟩) (j2R s x) := by
  refine ev_succ ?_
  unfold j2R
  cases x with
  | false =>
    simp only [impl_ParseVal.j2.eq_2, Bool.false_eq_true, if_false]
    exact tv_ev 0 0 ⟨#[]⟩ s (Nat.zero_le _)
  | true =>
    have h2 := hx rfl
    have hw : wrap64 ((s.size : Int) - 1) = ((s.size - 1 : Nat) : Int) := by rw [w64 (by omega) (by omega)]; omega
    have g1 : (1 : Int) ≤ ((s.size - 1 : Nat) : Int) := by omega
    have g2 : ((s.size - 1 : Nat) : Int) ≤ (s.size : Int) := by omega
    simp only [impl_ParseVal.j2.eq_2, if_true, hw, g1, g2, Int.toNat_natCast]
    exact tv_ev 3 0 (mid s) s (by have := mid_size s; omega)
theorem impl_ParseVal_j1 (s : ByteArray) (hs : s.size ≤ 1000000000000) (x : Bool) (hx : x = true → 1 ≤ s.size) : Ev (fun k => impl_ParseVal.j1 k s x 0 0 ⟨#[]⟩) (j1R s x) := by
  refine ev_succ ?_
  unfold j1R
  cases x with
  | true =>
    have h1 := hx rfl
    have g1 : (1 : Int) ≤ (s.size : Int) := by omega
    have g0 : (0 : Int) < (s.size : Int) := by omega
    have ha := strconv_Atoi_eq (s.extract 1 s.size) (by rw [← Lb_len, Lb_tail, List.length_tail, Lb_len]; omega)
    rw [Lb_tail] at ha
    simp only [impl_ParseVal.j1.eq_2, if_true, g1, ha, Option.bind_some, g0]
    obtain ⟨v, o⟩ := atoiR (Lb s).tail
    cases o with
    | some q => simp only [Option.isNone_some, Bool.false_eq_true, if_false, numR]; exact ev_some _
    | none =>
      simp only [Option.isNone_none, if_true, numR]
      by_cases h : bt s 0 = 110
      · simp only [if_pos h]; exact tv_ev 2 v ⟨#[]⟩ s (Nat.zero_le _)
      · simp only [if_neg h]; exact tv_ev 1 v ⟨#[]⟩ s (Nat.zero_le _)
  | false =>
    simp only [impl_ParseVal.j1.eq_2, Bool.false_eq_true, if_false]
    by_cases h2 : 2 ≤ s.size
    · have g2 : (s.size : Int) ≥ 2 := by omega
      have g0 : (0 : Int) < (s.size : Int) := by omega
      simp only [g2, g0, if_true, h2, true_and]
      have e : (bt s 0 == 39) = decide (bt s 0 = 39) := rfl
      rw [e]
      exact impl_ParseVal_j2 s hs _ (fun _ => h2)
    · have g2 : ¬ (s.size : Int) ≥ 2 := by omega
      simp only [g2, if_false, h2, false_and, decide_false]
      exact impl_ParseVal_j2 s hs false (fun h => by cases h)
theorem impl_ParseVal_j0 (s : ByteArray) (hs : s.size ≤ 1000000000000) (x : Bool) : Ev (fun k => impl_ParseVal.j0 k s x 0 0 ⟨#[]⟩) (j0R s x) := by
  refine ev_succ ?_
  unfold j0R
  cases x with
  | true =>
    simp only [impl_ParseVal.j0.eq_2, if_true]
    by_cases h : Lb s = [121, 101, 115]
    · have h' : s.toList = ([121, 101, 115] : List UInt8) := by rw [Lb_toList]; exact h
      simp only [if_pos h, if_pos h']
      exact tv_ev 4 1 ⟨#[]⟩ s (Nat.zero_le _)
    · have h' : ¬ s.toList = ([121, 101, 115] : List UInt8) := by rw [Lb_toList]; exact h
      simp only [if_neg h, if_neg h']
      exact tv_ev 4 0 ⟨#[]⟩ s (Nat.zero_le _)
  | false =>
    simp only [impl_ParseVal.j0.eq_2, Bool.false_eq_true, if_false, strings_HasPrefix_eq, Option.bind_some]
    have sz : ∀ c, (Lb s).head? = some c → 1 ≤ s.size := fun c h => by
      cases hl : Lb s with
      | nil => rw [hl] at h; cases h
      | cons y r =>
        have := Lb_len s
        rw [hl, List.length_cons] at this
        omega
    by_cases h1 : (Lb s).head? = some 105
    · simp only [h1, decide_true, if_true, Bool.true_or]
      exact impl_ParseVal_j1 s hs true (fun _ => sz _ h1)
    · simp only [h1, decide_false, Bool.false_eq_true, if_false, Bool.false_or]
      by_cases h2 : (Lb s).head? = some 110
      · simp only [h2, decide_true, if_true, Bool.true_and]
        have e : (s.toList != ([110, 117, 108, 108] : List UInt8)) = !decide (Lb s = [110, 117, 108, 108]) := by
          rw [Lb_toList]
          by_cases hn : Lb s = [110, 117, 108, 108]
          · rw [decide_eq_true hn, hn]; rfl
          · rw [decide_eq_false hn]; simp [hn]
        rw [e]
        exact impl_ParseVal_j1 s hs _ (fun _ => sz _ h2)
      · simp only [h2, decide_false, Bool.false_eq_true, if_false, Bool.false_and]
        exact impl_ParseVal_j1 s hs false (fun h => by cases h)
theorem impl_ParseVal_ev' (s : ByteArray) (hs : s.size ≤ 1000000000000) : Ev (fun k => impl_ParseVal.f k s) (implP s) := by
  unfold impl_ParseVal.f implP
  by_cases h : Lb s = [110, 111]
  · have h' : s.toList = ([110, 111] : List UInt8) := by rw [Lb_toList]; exact h
    simp only [if_pos h, if_pos h']
    exact impl_ParseVal_j0 s hs true
  · have h' : ¬ s.toList = ([110, 111] : List UInt8) := by rw [Lb_toList]; exact h
    simp only [if_neg h, if_neg h']
    have e : (s.toList == ([121, 101, 115] : List UInt8)) = decide (Lb s = [121, 101, 115]) := by
      rw [Lb_toList]
      by_cases hn : Lb s = [121, 101, 115]
      · rw [decide_eq_true hn, hn]; rfl
      · rw [decide_eq_false hn]; simp [hn]
    rw [e]
    exact impl_ParseVal_j0 s hs _
theorem ok_e (k n : Int) : plainB eB = true := plain_empty
theorem isE_e : isE eB = true := by unfold isE; rw [Lb_toList]; rfl
theorem vk40 : valOkB 4 0 eB = true := by unfold valOkB; simp [isE_e, inB]
theorem vk41 : valOkB 4 1 eB = true := by unfold valOkB; simp [isE_e, inB]
theorem vk00 : valOkB 0 0 eB = true := by unfold valOkB; simp [isE_e, inB]
theorem num_eq (k : Int) (t : List UInt8) (hk : ∀ v, valOkB k v eB = true → -1000000000000000 ≤ v ∧ v ≤ 1000000000000000) (X : Int → Int × Int × ByteArray × Bool) :
    (match Go.Lib.atoiAll t with | .ok v => if valOkB k v eB = true ∧ Go.Lib.itoa v = t then X v else noV | _ => noV) = if ((parseP t).2 && valOkB k (parseP t).1 eB) = true then X (parseP t).1 else noV := by
  cases hp : parseP t with
  | mk n ok =>
    cases ok with
    | true =>
      obtain ⟨ht, b0, b1⟩ := parseP_ok hp
      have ha : Go.Lib.atoiAll t = .ok n := by rw [ht]; exact atoi_itoa n b0 b1
      rw [ha]
      simp only [← ht, and_true, Bool.true_and]
    | false =>
      simp only [Bool.false_and, Bool.false_eq_true, if_false]
      cases ha : Go.Lib.atoiAll t with
      | ok v =>
        simp only
        rw [if_neg]
        rintro ⟨hv, he⟩
        have hb := hk v hv
        have := parseP_of v (by omega) (by omega)
        rw [he, hp] at this
        cases this
      | _ => rfl
theorem numR_eq (s : ByteArray) (k : Int) (c : UInt8) (hk : k = 1 ∧ c = 105 ∨ k = 2 ∧ c = 110) (hc : bt s 0 = (c.toNat : Int)) (hl : Lb s = c :: (Lb s).tail) :
    numR s (atoiR (Lb s).tail) = if ((parseP (Lb s).tail).2 && valOkB k (parseP (Lb s).tail).1 eB) = true then (k, (parseP (Lb s).tail).1, eB, true) else noV := by
  have hk2 : ∀ v, valOkB k v eB = true → -1000000000000000 ≤ v ∧ v ≤ 1000000000000000 := fun v hv => by
    rcases hk with ⟨rfl, _⟩ | ⟨rfl, _⟩
    · exact (valOk_1 hv).1
    · exact (valOk_2 hv).1
  have ht : ∀ v, tvR k v eB s = if valOkB k v eB = true ∧ Go.Lib.itoa v = (Lb s).tail then (k, v, eB, true) else noV := fun v => by
    unfold tvR
    have e1 : Lb (valTextB k v eB) = c :: Go.Lib.itoa v := by
      rcases hk with ⟨rfl, rfl⟩ | ⟨rfl, rfl⟩
      · unfold valTextB; rw [if_pos rfl, Lb_append, Lb_mk]; rfl
      · unfold valTextB; rw [if_neg (by decide), if_pos rfl, Lb_append, Lb_mk]; rfl
    rw [e1, ok_e k v, Bool.and_true]
    have e2 : (c :: Go.Lib.itoa v = Lb s) ↔ Go.Lib.itoa v = (Lb s).tail := by
      constructor
      · intro h; rw [← h]; rfl
      · intro h; rw [h]; exact hl.symm
    by_cases h1 : valOkB k v eB = true
    · by_cases h2 : Go.Lib.itoa v = (Lb s).tail
      · rw [if_pos ⟨h1, e2.2 h2⟩, if_pos ⟨h1, h2⟩]
      · rw [if_neg (fun h => h2 (e2.1 h.2)), if_neg (fun h => h2 h.2)]
    · rw [if_neg (fun h => h1 h.1), if_neg (fun h => h1 h.1)]
  rw [← num_eq k (Lb s).tail hk2 (fun v => (k, v, eB, true))]
  unfold atoiR
  cases Go.Lib.atoiAll (Lb s).tail with
  | ok v =>
    simp only [numR]
    rcases hk with ⟨rfl, rfl⟩ | ⟨rfl, rfl⟩
    · rw [if_neg (by rw [hc]; decide)]; exact ht v
    · rw [if_pos (by rw [hc]; rfl)]; exact ht v
  | _ => rfl
theorem text_eq (s : ByteArray) (h2 : 2 ≤ s.size) (hc : bt s 0 = 39) : Lb (valTextB 3 0 (mid s)) = Lb s ↔ bt s ((s.size - 1 : Nat) : Int) = 39 := by
  have e1 : Lb (valTextB 3 0 (mid s)) = 39 :: Lb (mid s) ++ [39] := by
    unfold valTextB
    rw [if_neg (by decide), if_neg (by decide), if_pos rfl, Lb_append, Lb_append]; rfl
  rw [e1]
  unfold mid
  rw [Lb_extract]
  have hh := (head_bt s (by omega) 39).2 hc
  have hb := Lb_bt s (s.size - 1) (by omega)
  have hlen := Lb_len s
  rw [hb]
  generalize hx : (Lb s)[s.size - 1]'(by rw [Lb_len]; omega) = x
  cases hl : Lb s with
  | nil => rw [hl] at hh; cases hh
  | cons y r =>
    rw [hl] at hh hlen
    simp only [List.head?_cons, Option.some.injEq] at hh
    subst hh
    simp only [List.length_cons] at hlen
    have hr : r.take (s.size - 2) ++ [x] = r := by
      have hlt : s.size - 2 < r.length := by omega
      have e : r[s.size - 2] = x := by
        rw [← hx]
        have : s.size - 1 = (s.size - 2) + 1 := by omega
        simp only [hl, this, List.getElem_cons_succ]
      rw [← e, List.take_append_getElem hlt, List.take_of_length_le (by omega)]
    have e2 : s.size - 1 - 1 = s.size - 2 := by omega
    rw [e2, List.drop_one, List.tail_cons]
    constructor
    · intro h
      have h3 : r.take (s.size - 2) ++ [39] = r.take (s.size - 2) ++ [x] := by
        rw [hr]
        exact (List.cons.inj h).2
      have := List.append_cancel_left h3
      rw [← (List.cons.inj this).1]
      rfl
    · intro h
      have : x = 39 := UInt8.toNat_inj.1 (by have : x.toNat = 39 := by omega
                                             rw [this]; rfl)
      rw [this] at hr
      show 39 :: (r.take (s.size - 2) ++ [39]) = 39 :: r
      rw [hr]
theorem implP_eq (s : ByteArray) : implP s = specP s := by
  unfold implP specP
  by_cases c2 : Lb s = [110, 111]
  · have n1 : ¬ Lb s = [110, 117, 108, 108] := by rw [c2]; decide
    have n3 : ¬ Lb s = [121, 101, 115] := by rw [c2]; decide
    have e : specV s = (4, 0, eB, true) := by unfold specV; rw [if_neg n1, if_pos c2]
    rw [if_pos c2, e]
    unfold j0R tvR
    rw [if_pos rfl, if_neg n3, c2, if_pos ⟨by rw [vk40, ok_e 4 0]; rfl, rfl⟩, if_pos (by show (true && valOkB 4 0 eB) = true; rw [vk40]; rfl)]
  rw [if_neg c2]
  by_cases c3 : Lb s = [121, 101, 115]
  · have n1 : ¬ Lb s = [110, 117, 108, 108] := by rw [c3]; decide
    have e : specV s = (4, 1, eB, true) := by unfold specV; rw [if_neg n1, if_neg c2, if_pos c3]
    rw [e, decide_eq_true c3]
    unfold j0R tvR
    rw [if_pos rfl, if_pos c3, c3, if_pos ⟨by rw [vk41, ok_e 4 1]; rfl, rfl⟩, if_pos (by show (true && valOkB 4 1 eB) = true; rw [vk41]; rfl)]
  rw [decide_eq_false c3]
  unfold j0R
  rw [if_neg (by decide)]
  by_cases c1 : Lb s = [110, 117, 108, 108]
  · have e : specV s = (0, 0, eB, true) := by unfold specV; rw [if_pos c1]
    have hb : ¬ bt s 0 = 39 := by
      have hz : 0 < s.size := by rw [← Lb_len, c1]; decide
      intro h
      have := (head_bt s hz 39).2 h
      rw [c1] at this
      exact absurd this (by decide)
    have e2 : (decide ((Lb s).head? = some 105) || (decide ((Lb s).head? = some 110) && !decide (Lb s = [110, 117, 108, 108]))) = false := by rw [c1]; decide
    rw [e, e2]
    unfold j1R j2R tvR
    rw [if_neg (by decide), decide_eq_false (fun h => hb h.2), if_neg (by decide), c1, if_pos ⟨by rw [vk00, ok_e 0 0]; rfl, rfl⟩, if_pos (by show (true && valOkB 0 0 eB) = true; rw [vk00]; rfl)]
  rw [decide_eq_false c1, Bool.not_false, Bool.and_true]
  unfold specV
  rw [if_neg c1, if_neg c2, if_neg c3]
  by_cases hz : 0 < s.size
  · obtain ⟨y, r, hl⟩ : ∃ y r, Lb s = y :: r := by
      cases h : Lb s with
      | nil => have := Lb_len s; rw [h] at this; simp only [List.length_nil] at this; omega
      | cons y r => exact ⟨y, r, rfl⟩
    have hcons : Lb s = y :: (Lb s).tail := by rw [hl]; rfl
    have hy : (Lb s).head? = some y := by rw [hl]; rfl
    have hby : bt s 0 = (y.toNat : Int) := (head_bt s hz y).1 hy
    have hds : ∀ c : UInt8, decide ((Lb s).head? = some c) = decide (y = c) := fun c => by rw [hy]; simp
    rw [hds, hds]
    have key : ∀ (k : Int) (c : UInt8), (k = 1 ∧ c = 105 ∨ k = 2 ∧ c = 110) → y = c → numR s (atoiR (Lb s).tail) =
        if ((if s.size < 2 then ((0 : Int), (0 : Int), eB, false) else (k, (parseP (Lb s).tail).1, eB, (parseP (Lb s).tail).2)).2.2.2 && valOkB (if s.size < 2 then ((0 : Int), (0 : Int), eB, false) else (k, (parseP (Lb s).tail).1, eB, (parseP (Lb s).tail).2)).1 (if s.size < 2 then ((0 : Int), (0 : Int), eB, false) else (k, (parseP (Lb s).tail).1, eB, (parseP (Lb s).tail).2)).2.1 (if s.size < 2 then ((0 : Int), (0 : Int), eB, false) else (k, (parseP (Lb s).tail).1, eB, (parseP (Lb s).tail).2)).2.2.1) = true
        then ((if s.size < 2 then ((0 : Int), (0 : Int), eB, false) else (k, (parseP (Lb s).tail).1, eB, (parseP (Lb s).tail).2)).1, (if s.size < 2 then ((0 : Int), (0 : Int), eB, false) else (k, (parseP (Lb s).tail).1, eB, (parseP (Lb s).tail).2)).2.1, (if s.size < 2 then ((0 : Int), (0 : Int), eB, false) else (k, (parseP (Lb s).tail).1, eB, (parseP (Lb s).tail).2)).2.2.1, true) else noV := by
      intro k c hk hyc
      subst hyc
      by_cases h2 : s.size < 2
      · have ht : (Lb s).tail = [] := List.eq_nil_of_length_eq_zero (by rw [List.length_tail, Lb_len]; omega)
        rw [ht]
        simp only [h2, if_true, Bool.false_and, Bool.false_eq_true, if_false]
        rfl
      · simp only [h2, if_false]
        exact numR_eq s k y hk hby hcons
    by_cases h105 : y = 105
    · have b39 : ¬ bt s 0 = 39 := by rw [hby, h105]; decide
      have b105 : bt s 0 = 105 := by rw [hby, h105]; rfl
      rw [decide_eq_true h105, Bool.true_or]
      simp only [if_neg b39, if_pos b105]
      unfold j1R
      rw [if_pos rfl]
      exact key 1 105 (.inl ⟨rfl, rfl⟩) h105
    rw [decide_eq_false h105, Bool.false_or]
    by_cases h110 : y = 110
    · have b39 : ¬ bt s 0 = 39 := by rw [hby, h110]; decide
      have b105 : ¬ bt s 0 = 105 := by rw [hby, h110]; decide
      have b110 : bt s 0 = 110 := by rw [hby, h110]; rfl
      rw [decide_eq_true h110]
      simp only [if_neg b39, if_neg b105, if_pos b110]
      unfold j1R
      rw [if_pos rfl]
      exact key 2 110 (.inr ⟨rfl, rfl⟩) h110
    rw [decide_eq_false h110]
    have b105 : ¬ bt s 0 = 105 := fun h => h105 (UInt8.toNat_inj.1 (by have : y.toNat = 105 := by omega
                                                                       rw [this]; rfl))
    have b110 : ¬ bt s 0 = 110 := fun h => h110 (UInt8.toNat_inj.1 (by have : y.toNat = 110 := by omega
                                                                       rw [this]; rfl))
    unfold j1R
    rw [if_neg (by decide)]
    simp only [if_neg b105, if_neg b110]
    have nul : ∀ r, (if ((if s.size < 2 then ((0 : Int), (0 : Int), eB, false) else (0, 0, eB, false)).2.2.2 && r) = true then ((0 : Int), (0 : Int), eB, true) else noV) = noV := fun r => by
      by_cases h2 : s.size < 2
      · simp only [h2, if_true, Bool.false_and, Bool.false_eq_true, if_false]
      · simp only [h2, if_false, Bool.false_and, Bool.false_eq_true]
    have tv0 : tvR 0 0 eB s = noV := by
      unfold tvR
      have e1 : Lb (valTextB 0 0 eB) = [110, 117, 108, 108] := by rfl
      rw [e1, if_neg (fun h => c1 h.2.symm)]
    by_cases h2 : s.size < 2
    · unfold j2R
      rw [decide_eq_false (fun h => by omega), if_neg (by decide), tv0]
      simp only [h2, if_true, Bool.false_and, Bool.false_eq_true, if_false]
    · simp only [h2, if_false]
      by_cases b39 : bt s 0 = 39
      · unfold j2R
        rw [decide_eq_true ⟨by omega, b39⟩, if_pos rfl]
        simp only [if_pos b39]
        unfold tvR
        have ht := text_eq s (by omega) b39
        by_cases hlast : bt s ((s.size - 1 : Nat) : Int) = 39
        · rw [decide_eq_true hlast, Bool.true_and, Bool.and_comm (plainB (mid s))]
          by_cases hv : (valOkB 3 0 (mid s) && plainB (mid s)) = true
          · rw [if_pos ⟨hv, ht.2 hlast⟩, if_pos hv]
          · rw [if_neg (fun h => hv h.1), if_neg hv]
        · rw [decide_eq_false hlast, Bool.false_and, Bool.false_and, if_neg (fun h => hlast (ht.1 h.2)), if_neg (by decide)]
      · unfold j2R
        rw [decide_eq_false (fun h => b39 h.2), if_neg (by decide), tv0]
        simp only [if_neg b39, Bool.false_and, Bool.false_eq_true, if_false]
  · have hl : Lb s = [] := List.eq_nil_of_length_eq_zero (by rw [Lb_len]; omega)
    have e2 : (decide ((Lb s).head? = some 105) || decide ((Lb s).head? = some 110)) = false := by rw [hl]; rfl
    rw [e2]
    unfold j1R j2R tvR
    have e1 : Lb (valTextB 0 0 eB) = [110, 117, 108, 108] := by rfl
    have h2 : s.size < 2 := by omega
    rw [if_neg (by decide), decide_eq_false (fun h => by omega), if_neg (by decide), e1, if_neg (fun h => c1 h.2.symm)]
    simp only [h2, if_true, Bool.false_and, Bool.false_eq_true, if_false]
theorem impl_ParseVal_ev (s : ByteArray) (hs : s.size ≤ 1000000000000) : Ev (fun k => impl_ParseVal.f k s) (specP s) := by
  rw [← implP_eq]
  exact impl_ParseVal_ev' s hs
attribute [local irreducible] impl_ParseVal.f

theorem spec_l2Num_pos (u : Nat) : u ≤ 1000000000000000 → Ev (fun k => spec_l2Num.f k (u : Int)) ⟨(Go.Lib.decDigits u).toArray⟩ := by
  induction u using Nat.strongRecOn with
  | _ u ih =>
    intro hu
    refine ev_succ ?_
    have h0 : ¬ ((u : Int) < 0) := by omega
    rw [Go.Lib.decDigits]
    by_cases h10 : u < 10
    · have h1 : (u : Int) < 10 := by omega
      have e : (wrap64 (48 + (u : Int)) % 256) = ((48 + u : Nat) : Int) := by rw [w64 (by omega) (by omega)]; omega
      simp only [spec_l2Num.f.eq_2, h0, h1, if_true, if_false, e, strOfNums_one, Int.toNat_natCast]
      rw [dif_pos h10]
      exact ev_some _
    · have h1 : ¬ ((u : Int) < 10) := by omega
      have e1 : wrap64 (Int.tdiv (u : Int) 10) = ((u / 10 : Nat) : Int) := by rw [Int.tdiv_eq_ediv_of_nonneg (by omega), w64 (by omega) (by omega)]; omega
      have e2 : (wrap64 (48 + Int.tmod (u : Int) 10)) % 256 = ((48 + u % 10 : Nat) : Int) := by rw [Int.tmod_eq_emod_of_nonneg (by omega), w64 (by omega) (by omega)]; omega
      have hi := ih (u / 10) (by omega) (by omega)
      have hlen := decDigits_len (u / 10)
      simp only [spec_l2Num.f.eq_2, h0, h1, if_false, e1, e2]
      refine Ev.bind hi ?_
      have q : (⟨(Go.Lib.decDigits (u / 10)).toArray⟩ : ByteArray).size + (strOfNums [((48 + u % 10 : Nat) : Int)]).size ≤ 9223372036854775807 := by
        rw [strOfNums_one, ba_size, ba_size]; simp only [List.length_cons, List.length_nil]; omega
      simp only [Option.bind_some, q, if_true]
      simp only [strOfNums_one, Int.toNat_natCast, ba_append]
      rw [dif_neg h10]
      exact ev_some _
theorem spec_l2Num_ev (n : Int) (h : -1000000000000000 ≤ n ∧ n ≤ 1000000000000000) : Ev (fun k => spec_l2Num.f k n) ⟨(Go.Lib.itoa n).toArray⟩ := by
  unfold Go.Lib.itoa
  by_cases h0 : n < 0
  · rw [if_pos h0]
    refine ev_succ ?_
    have e : wrap64 (-n) = ((n.natAbs : Nat) : Int) := by rw [w64 (by omega) (by omega)]; omega
    have hlen := decDigits_len n.natAbs
    simp only [spec_l2Num.f.eq_2, h0, if_true, e]
    refine Ev.bind (spec_l2Num_pos n.natAbs (by omega)) ?_
    have q : 1 + (⟨(Go.Lib.decDigits n.natAbs).toArray⟩ : ByteArray).size ≤ 9223372036854775807 := by rw [ba_size]; omega
    simp only [q, if_true]
    have e2 : (⟨#[45]⟩ : ByteArray) ++ ⟨(Go.Lib.decDigits n.natAbs).toArray⟩ = ⟨((45 :: Go.Lib.decDigits n.natAbs) : List UInt8).toArray⟩ := ba_append [45] _
    rw [e2]
    exact ev_some _
  · rw [if_neg h0]
    have := spec_l2Num_pos n.toNat (by omega)
    rw [show ((n.toNat : Nat) : Int) = n by omega] at this
    exact this
attribute [local irreducible] spec_l2Num.f

theorem spec_ValText_ev (k n : Int) (s : ByteArray) (hs : s.size ≤ 1000000000000) : Ev (fun j => spec_ValText.f j k n s) (valText k n s) := by
  unfold spec_ValText.f valText
  simp only [spec_ValOk_eq, Option.bind_some]
  cases hv : valOkB k n s with
  | false =>
    simp only [Bool.false_eq_true, if_false, Bool.false_and]
    refine ev_succ ?_
    simp only [spec_ValText.j0.eq_2, if_true]
    exact ev_some _
  | true =>
    simp only [if_true, Bool.true_and]
    refine Ev.bind (spec_l2Plain_ev s (by omega)) ?_
    refine ev_succ ?_
    cases hp : plainB s with
    | false => simp only [spec_ValText.j0.eq_2, Bool.not_false, if_true, Bool.false_eq_true, if_false]; exact ev_some _
    | true =>
      simp only [spec_ValText.j0.eq_2, Bool.not_true, Bool.false_eq_true, if_false, if_true]
      unfold valTextB
      by_cases k1 : k = 1
      · subst k1
        have hn := (valOk_1 hv).1
        have hl := itoa_len n hn
        simp only [if_true]
        refine Ev.bind (spec_l2Num_ev n hn) ?_
        have q : 1 + (⟨(Go.Lib.itoa n).toArray⟩ : ByteArray).size ≤ 9223372036854775807 := by omega
        simp only [q, if_true]
        exact ev_some _
      by_cases k2 : k = 2
      · subst k2
        have hn := (valOk_2 hv).1
        have hl := itoa_len n hn
        simp only [show ¬ ((2 : Int) = 1) by decide, if_false, if_true]
        refine Ev.bind (spec_l2Num_ev n hn) ?_
        have q : 1 + (⟨(Go.Lib.itoa n).toArray⟩ : ByteArray).size ≤ 9223372036854775807 := by omega
        simp only [q, if_true]
        exact ev_some _
      have q1 : 1 + s.size ≤ 9223372036854775807 := by omega
      have q2 : ((⟨#[39]⟩ : ByteArray) ++ s).size + 1 ≤ 9223372036854775807 := by rw [ByteArray.size_append]; have : (⟨#[39]⟩ : ByteArray).size = 1 := rfl; omega
      simp only [k1, k2, if_false, q1, q2, if_true]
      by_cases k3 : k = 3
      · simp only [k3, if_true]; exact ev_some _
      · simp only [k3, if_false]
        by_cases k4 : k = 4
        · simp only [k4, if_true]
          by_cases n1 : n = 1
          · simp only [n1, if_true]; exact ev_some _
          · simp only [n1, if_false]; exact ev_some _
        · simp only [k4, if_false]; exact ev_some _
attribute [local irreducible] spec_ValText.f

theorem laws_big_eq (l : List Int) : laws_big.f l = some (decide ((l.length : Int) > 1048576)) := rfl
attribute [local irreducible] laws_big.f

theorem spec_l1New_l0 (l : List Int) (hl : l.length ≤ 1048576) : ∀ i : Nat, i ≤ l.length → ∀ h : Int, ∃ r : Int, Ev (fun k => spec_l1New.l0 k l h (i : Int)) (l, 0, r) := by
  refine up_ind l.length (fun i : Nat => ∀ h : Int, ∃ r : Int, Ev (fun k => spec_l1New.l0 k l h (i : Int)) (l, 0, r)) ?_ ?_
  · intro h
    refine ⟨h, ev_succ ?_⟩
    have h1 : ¬ ((l.length : Int) < (l.length : Int)) := by omega
    simp only [spec_l1New.l0.eq_2, h1, if_false]
    exact ev_some _
  · intro i hi ih h
    have h1 : (i : Int) < (l.length : Int) := by omega
    have h2 : (0 : Int) ≤ (i : Int) := by omega
    by_cases h4 : (i : Int) < 4000
    · obtain ⟨r, hr⟩ := ih (Go.bits .and .i64 (wrap64 ((wrap64 ((wrap64 (h * 137)) + (wrap64 (rd l (i : Int))))) + 11)) 1073741823)
      refine ⟨r, ev_succ ?_⟩
      simp only [spec_l1New.l0.eq_2, h1, h2, h4, if_true, wsucc (show i < 9223372036854775807 by omega)]
      exact hr
    · refine ⟨h, ev_succ ?_⟩
      simp only [spec_l1New.l0.eq_2, h1, h4, if_true, if_false]
      exact ev_some _
theorem spec_l1New_ev (l : List Int) (hl : l.length ≤ 1048576) : ∃ r : Int, Ev (fun k => spec_l1New.f k l) (l, 0, r) := by
  unfold spec_l1New.f
  exact spec_l1New_l0 l hl 0 (by omega) _
/-- Where a reader of draws stands. -/
def Cur (l : List Int) (i : Int) : Prop := 0 ≤ i ∧ i ≤ l.length
theorem Cur.start (l : List Int) : Cur l 0 := ⟨by omega, by omega⟩
attribute [local irreducible] spec_l1New.f

theorem spec_l1Byte_ok (l : List Int) (hl : l.length ≤ 1048576) (i h : Int) (hc : Cur l i) : ∃ x i' h' : Int, spec_l1Byte.f l i h = some (x, i', h') ∧ 0 ≤ x ∧ x ≤ 255 ∧ Cur l i' := by
  unfold spec_l1Byte.f
  obtain ⟨c0, c1⟩ := hc
  by_cases h1 : i < (l.length : Int)
  · rw [if_pos h1, if_pos c0, w64 (x := i + 1) (by omega) (by omega)]
    refine ⟨_, _, _, rfl, ?_, ?_, ?_, ?_⟩
    · rw [and255]; omega
    · rw [and255]; omega
    · omega
    · omega
  · rw [if_neg h1]
    refine ⟨_, _, _, rfl, ?_, ?_, ?_, ?_⟩
    · rw [and255]; omega
    · rw [and255]; omega
    · omega
    · omega
attribute [local irreducible] spec_l1Byte.f

theorem spec_l1Below_ok (l : List Int) (hl : l.length ≤ 1048576) (i h : Int) (hc : Cur l i) (n : Int) : ∃ x i' h' : Int, spec_l1Below.f l i h n = some (x, i', h') ∧ 0 ≤ x ∧ (0 < n → x < n) ∧ (n ≤ 0 → x = 0) ∧ Cur l i' := by
  unfold spec_l1Below.f
  by_cases h0 : n ≤ 0
  · rw [if_pos h0]
    exact ⟨0, i, h, rfl, by omega, by omega, fun _ => rfl, hc⟩
  · rw [if_neg h0]
    have hn : ¬ (n = 0) := by omega
    obtain ⟨x, i1, h1, e1, x0, x1, c1⟩ := spec_l1Byte_ok l hl i h hc
    by_cases h256 : n ≤ 256
    · rw [if_pos h256, e1]
      simp only [Option.bind_some, hn, if_false]
      refine ⟨_, _, _, rfl, ?_, ?_, by omega, c1⟩
      · exact Int.tmod_nonneg _ x0
      · intro hp; exact Int.tmod_lt_of_pos _ hp
    · obtain ⟨y, i2, h2, e2, y0, y1, c2⟩ := spec_l1Byte_ok l hl i1 h1 c1
      obtain ⟨z, i3, h3, e3, z0, z1, c3⟩ := spec_l1Byte_ok l hl i2 h2 c2
      rw [if_neg h256, e1]
      simp only [Option.bind_some, e2, e3, hn, if_false]
      have w1 : wrap64 (x * 65536) = x * 65536 := w64 (by omega) (by omega)
      have w2 : wrap64 (y * 256) = y * 256 := w64 (by omega) (by omega)
      rw [w1, w2]
      clear w1 w2
      have w3 : wrap64 (x * 65536 + y * 256) = x * 65536 + y * 256 := w64 (by omega) (by omega)
      rw [w3]
      clear w3
      have w4 : wrap64 (x * 65536 + y * 256 + z) = x * 65536 + y * 256 + z := w64 (by omega) (by omega)
      rw [w4]
      clear w4
      refine ⟨_, _, _, rfl, ?_, ?_, by omega, c3⟩
      · exact Int.tmod_nonneg _ (by omega)
      · intro hp; exact Int.tmod_lt_of_pos _ hp
attribute [local irreducible] spec_l1Below.f

theorem spec_l1Str_ok (l : List Int) (hl : l.length ≤ 1048576) (i h : Int) (hc : Cur l i) (xs : List ByteArray) (hx : 0 < xs.length) : ∃ (x : ByteArray) (i' h' : Int), spec_l1Str.f l i h xs = some (x, i', h') ∧ x ∈ xs ∧ Cur l i' := by
  unfold spec_l1Str.f
  obtain ⟨x, i1, h1, e1, x0, x1, _, c1⟩ := spec_l1Below_ok l hl i h hc (xs.length : Int)
  have hlt := x1 (by omega)
  rw [e1]
  simp only [Option.bind_some, x0, hlt, if_true]
  obtain ⟨j, rfl⟩ := Int.eq_ofNat_of_zero_le x0
  have hj : j < xs.length := by omega
  refine ⟨_, _, _, rfl, ?_, c1⟩
  unfold rdOf
  simp [List.getD_eq_getElem?_getD, hj]
attribute [local irreducible] spec_l1Str.f

theorem spec_l1Int_ok (l : List Int) (hl : l.length ≤ 1048576) (i h : Int) (hc : Cur l i) (xs : List Int) (hx : 0 < xs.length) : ∃ x i' h' : Int, spec_l1Int.f l i h xs = some (x, i', h') ∧ x ∈ xs ∧ Cur l i' := by
  unfold spec_l1Int.f
  obtain ⟨x, i1, h1, e1, x0, x1, _, c1⟩ := spec_l1Below_ok l hl i h hc (xs.length : Int)
  have hlt := x1 (by omega)
  rw [e1]
  simp only [Option.bind_some, x0, hlt, if_true]
  obtain ⟨j, rfl⟩ := Int.eq_ofNat_of_zero_le x0
  have hj : j < xs.length := by omega
  exact ⟨_, _, _, rfl, by rw [rd_nat xs j hj]; exact List.getElem_mem hj, c1⟩
attribute [local irreducible] spec_l1Int.f

theorem spec_l1Once_ok (l : List Int) (hl : l.length ≤ 1048576) (i h : Int) (hc : Cur l i) (n : Int) : ∃ (b : Bool) (i' h' : Int), spec_l1Once.f l i h n = some (b, i', h') ∧ Cur l i' := by
  unfold spec_l1Once.f
  obtain ⟨x, i1, h1, e1, x0, x1, _, c1⟩ := spec_l1Below_ok l hl i h hc n
  rw [e1]
  exact ⟨_, _, _, rfl, c1⟩
attribute [local irreducible] spec_l1Once.f

theorem spec_l2Text_ok (l : List Int) (hl : l.length ≤ 1048576) (i h : Int) (hc : Cur l i) : ∃ (s : ByteArray) (i' h' : Int), spec_l2Text.f l i h = some (s, i', h') ∧ s.size ≤ 4 ∧ Cur l i' := by
  unfold spec_l2Text.f
  obtain ⟨s, i1, h1, e1, hm, c1⟩ := spec_l1Str_ok l hl i h hc [⟨#[]⟩, ⟨#[97]⟩, ⟨#[98]⟩, ⟨#[97, 98]⟩, ⟨#[0]⟩, ⟨#[97, 0]⟩, ⟨#[0, 255]⟩, ⟨#[255]⟩, ⟨#[119, 111, 114, 100]⟩, ⟨#[122]⟩] (by decide)
  rw [e1]
  refine ⟨s, i1, h1, rfl, ?_, c1⟩
  simp only [List.mem_cons, List.not_mem_nil, or_false] at hm
  rcases hm with h | h | h | h | h | h | h | h | h | h <;> subst h <;> decide
attribute [local irreducible] spec_l2Text.f

theorem isE_empty : isE ⟨#[]⟩ = true := by unfold isE; rw [ByteArray.toList_eq]; rfl
/-- What is drawn of a value: its kind, its number and its text are small, and of a type that there is it fits. -/
theorem spec_l2Of_j0 (l : List Int) (hl : l.length ≤ 1048576) (i h : Int) (hc : Cur l i) (t : Int) (ht : -9223372036854775808 ≤ t ∧ t ≤ 9223372036854775807) (z null : Bool) (hz : z = true → null = true) : ∃ (a n : Int) (s : ByteArray) (i' h' : Int),
    Ev (fun k => spec_l2Of.j0 k t z l i h) (a, n, s, i', h') ∧ (a = t ∨ a = 0) ∧ (-1000000000000000 ≤ n ∧ n ≤ 1000000000000000) ∧ s.size ≤ 4 ∧ (1 ≤ t → t ≤ 4 → fitsB t null a n s = true) ∧ Cur l i' := by
  cases hzz : z with
  | true =>
    refine ⟨0, 0, ⟨#[]⟩, i, h, ev_succ ?_, .inr rfl, by omega, by decide, fun _ _ => ?_, hc⟩
    · simp only [spec_l2Of.j0.eq_2, if_true]; exact ev_some _
    · unfold fitsB valOkB; simp [hz hzz, isE_empty]
  | false =>
    by_cases h1 : t = 1
    · subst h1
      obtain ⟨n, i1, h1, e1, hm, c1⟩ := spec_l1Int_ok l hl i h hc [0, 1, 2, 3, -1, 255, 256, 2147483647, -2147483648] (by decide)
      have hn : -2147483648 ≤ n ∧ n ≤ 2147483647 := by simp only [List.mem_cons, List.not_mem_nil, or_false] at hm; omega
      refine ⟨1, n, ⟨#[]⟩, i1, h1, ev_succ ?_, .inl rfl, by omega, by decide, fun _ _ => ?_, c1⟩
      · simp only [spec_l2Of.j0.eq_2, Bool.false_eq_true, if_false, if_true, e1, Option.bind_some]; exact ev_some _
      · unfold fitsB valOkB inB; simp [hn, isE_empty]
    · by_cases h2 : t = 2
      · subst h2
        obtain ⟨a, i1, h1', e1, a0, a1, _, c1⟩ := spec_l1Below_ok l hl i h hc 100000
        have a2 := a1 (by omega)
        have w1 : wrap64 (-a) = -a := w64 (by omega) (by omega)
        obtain ⟨n, i2, h2, e2, hm, c2⟩ := spec_l1Int_ok l hl i1 h1' c1 [0, 1, -1, 255, 256, -256, -257, 65535, 1000000000000000, -1000000000000000, wrap64 (-a)] (by simp)
        rw [w1] at hm
        have hn : -1000000000000000 ≤ n ∧ n ≤ 1000000000000000 := by simp only [List.mem_cons, List.not_mem_nil, or_false] at hm; omega
        refine ⟨2, n, ⟨#[]⟩, i2, h2, ev_succ ?_, .inl rfl, hn, by decide, fun _ _ => ?_, c2⟩
        · simp only [spec_l2Of.j0.eq_2, Bool.false_eq_true, if_false, h1, if_true, e1, Option.bind_some, e2]; exact ev_some _
        · unfold fitsB valOkB inB; simp [hn, isE_empty]
      · by_cases h3 : t = 3
        · subst h3
          obtain ⟨s, i1, h1', e1, hs, c1⟩ := spec_l2Text_ok l hl i h hc
          refine ⟨3, 0, s, i1, h1', ev_succ ?_, .inl rfl, by omega, hs, fun _ _ => ?_, c1⟩
          · simp only [spec_l2Of.j0.eq_2, Bool.false_eq_true, if_false, h1, h2, if_true, e1, Option.bind_some]; exact ev_some _
          · unfold fitsB valOkB; simp; omega
        · obtain ⟨n, i1, h1', e1, a0, a1, _, c1⟩ := spec_l1Below_ok l hl i h hc 2
          have a2 := a1 (by omega)
          refine ⟨t, n, ⟨#[]⟩, i1, h1', ev_succ ?_, .inl rfl, by omega, by decide, fun t1 t4 => ?_, c1⟩
          · simp only [spec_l2Of.j0.eq_2, Bool.false_eq_true, if_false, h1, h2, h3, e1, Option.bind_some]; exact ev_some _
          · have h4 : t = 4 := by omega
            subst h4
            unfold fitsB valOkB inB; simp [isE_empty]
            omega
theorem spec_l2Of_ev (l : List Int) (hl : l.length ≤ 1048576) (i h : Int) (hc : Cur l i) (t : Int) (ht : -9223372036854775808 ≤ t ∧ t ≤ 9223372036854775807) (null : Bool) : ∃ (a n : Int) (s : ByteArray) (i' h' : Int),
    Ev (fun k => spec_l2Of.f k l i h t null) (a, n, s, i', h') ∧ (a = t ∨ a = 0) ∧ (-1000000000000000 ≤ n ∧ n ≤ 1000000000000000) ∧ s.size ≤ 4 ∧ (1 ≤ t → t ≤ 4 → fitsB t null a n s = true) ∧ Cur l i' := by
  unfold spec_l2Of.f
  cases null with
  | true =>
    obtain ⟨z, i1, h1, e1, c1⟩ := spec_l1Once_ok l hl i h hc 4
    simp only [if_true, e1, Option.bind_some]
    exact spec_l2Of_j0 l hl i1 h1 c1 t ht z true (fun _ => rfl)
  | false =>
    simp only [Bool.false_eq_true, if_false]
    exact spec_l2Of_j0 l hl i h hc t ht false false (fun h => by cases h)
attribute [local irreducible] spec_l2Of.f

theorem spec_l2Draw_ev (l : List Int) (hl : l.length ≤ 1048576) (i h : Int) (hc : Cur l i) : ∃ (a n : Int) (s : ByteArray) (i' h' : Int),
    Ev (fun k => spec_l2Draw.f k l i h) (a, n, s, i', h') ∧ (0 ≤ a ∧ a ≤ 4) ∧ (-1000000000000000 ≤ n ∧ n ≤ 1000000000000000) ∧ s.size ≤ 4 ∧ Cur l i' := by
  unfold spec_l2Draw.f
  obtain ⟨x, i1, h1, e1, x0, x1, _, c1⟩ := spec_l1Below_ok l hl i h hc 4
  have x2 := x1 (by omega)
  have w1 : wrap64 (1 + x) = 1 + x := w64 (by omega) (by omega)
  simp only [e1, Option.bind_some, w1]
  obtain ⟨a, n, s, i2, h2, hE, ha, hn, hs, _, c2⟩ := spec_l2Of_ev l hl i1 h1 c1 (1 + x) (by omega) true
  exact ⟨a, n, s, i2, h2, Ev.bind hE (ev_some _), by omega, hn, hs, c2⟩
attribute [local irreducible] spec_l2Draw.f

theorem spec_l1Num_ok (l : List Int) (hl : l.length ≤ 1048576) (i h : Int) (hc : Cur l i) : ∃ n i' h' : Int, spec_l1Num.f l i h = some (n, i', h') ∧ (-9223372036854775808 ≤ n ∧ n ≤ 9223372036854775807) ∧ Cur l i' := by
  unfold spec_l1Num.f
  obtain ⟨a, i1, h1, e1, a0, a1, _, c1⟩ := spec_l1Below_ok l hl i h hc 100000
  obtain ⟨b, i2, h2, e2, b0, b1, _, c2⟩ := spec_l1Below_ok l hl i1 h1 c1 100000
  have a2 := a1 (by omega)
  have b2 := b1 (by omega)
  simp only [e1, e2, Option.bind_some]
  rw [w64 (x := -b) (by omega) (by omega)]
  obtain ⟨n, i3, h3, e3, hm, c3⟩ := spec_l1Int_ok l hl i2 h2 c2 [0, 1, -1, 63, 127, 128, 255, 256, 65535, 65536, 2147483647, -2147483648, 2147483648, -2147483649, 1000000000000000, -1000000000000000, 1000000000000001, 9223372036854775807, -9223372036854775808, a, -b] (by simp)
  rw [e3]
  refine ⟨n, i3, h3, rfl, ?_, c3⟩
  simp only [List.mem_cons, List.not_mem_nil, or_false] at hm
  omega
attribute [local irreducible] spec_l1Num.f

theorem spec_l2Any_ev (l : List Int) (hl : l.length ≤ 1048576) (i h : Int) (hc : Cur l i) : ∃ (a n : Int) (s : ByteArray) (i' h' : Int),
    Ev (fun k => spec_l2Any.f k l i h) (a, n, s, i', h') ∧ (0 ≤ a ∧ a ≤ 5) ∧ (-9223372036854775808 ≤ n ∧ n ≤ 9223372036854775807) ∧ s.size ≤ 31 ∧ Cur l i' := by
  unfold spec_l2Any.f
  obtain ⟨a, n, s, i1, h1, hE, ha, hn, hs, c1⟩ := spec_l2Draw_ev l hl i h hc
  obtain ⟨x, i2, h2, e2, x0, x1, _, c2⟩ := spec_l1Below_ok l hl i1 h1 c1 10
  by_cases y0 : x = 0
  · obtain ⟨y, i3, h3, e3, z0, z1, _, c3⟩ := spec_l1Below_ok l hl i2 h2 c2 6
    have z2 := z1 (by omega)
    refine ⟨y, n, s, i3, h3, Ev.bind hE ?_, by omega, by omega, by omega, c3⟩
    simp only [e2, Option.bind_some, y0, if_true, e3]
    exact ev_some _
  by_cases y1 : x = 1
  · obtain ⟨m, i3, h3, e3, hm, c3⟩ := spec_l1Num_ok l hl i2 h2 c2
    refine ⟨a, m, s, i3, h3, Ev.bind hE ?_, by omega, hm, by omega, c3⟩
    simp only [e2, Option.bind_some, y0, y1, if_true, if_false, e3, show ¬ ((1 : Int) = 0) by decide]
    exact ev_some _
  by_cases y2 : x = 2
  · obtain ⟨y, i3, h3, e3, z0, z1, _, c3⟩ := spec_l1Below_ok l hl i2 h2 c2 2
    have z2 := z1 (by omega)
    have w1 : wrap64 (30 + y) = 30 + y := w64 (by omega) (by omega)
    refine ⟨a, n, strOfNums (List.replicate (30 + y).toNat 0), i3, h3, Ev.bind hE ?_, by omega, by omega, by rw [strOfNums_size, List.length_replicate]; omega, c3⟩
    have q1 : (0 : Int) ≤ 30 + y := by omega
    have q2 : (30 + y).toNat ≤ 281474976710656 := by omega
    simp only [e2, Option.bind_some, y0, y1, y2, if_true, if_false, e3, w1, q1, q2, show ¬ ((2 : Int) = 0) by decide, show ¬ ((2 : Int) = 1) by decide]
    exact ev_some _
  by_cases y3 : x = 3
  · obtain ⟨t, i3, h3, e3, hm, c3⟩ := spec_l1Str_ok l hl i2 h2 c2 [⟨#[105, 116, 39, 115]⟩, ⟨#[97, 32, 98]⟩, ⟨#[126]⟩, ⟨#[127]⟩] (by decide)
    have ht : t.size ≤ 4 := by
      simp only [List.mem_cons, List.not_mem_nil, or_false] at hm
      rcases hm with h | h | h | h <;> subst h <;> decide
    refine ⟨a, n, t, i3, h3, Ev.bind hE ?_, by omega, by omega, by omega, c3⟩
    simp only [e2, Option.bind_some, y0, y1, y2, y3, if_true, if_false, e3, show ¬ ((3 : Int) = 0) by decide, show ¬ ((3 : Int) = 1) by decide, show ¬ ((3 : Int) = 2) by decide]
    exact ev_some _
  · refine ⟨a, n, s, i2, h2, Ev.bind hE ?_, by omega, by omega, by omega, c2⟩
    simp only [e2, Option.bind_some, y0, y1, y2, y3, if_false]
    exact ev_some _
attribute [local irreducible] spec_l2Any.f

theorem spec_DrawValText_ev (l : List Int) (hl : l.length ≤ 1048576) : ∃ (a n : Int) (s : ByteArray), Ev (fun k => spec_DrawValText.f k l) (a, n, s) ∧ s.size ≤ 31 := by
  unfold spec_DrawValText.f
  obtain ⟨r, hr⟩ := spec_l1New_ev l hl
  obtain ⟨a, n, s, i1, h1, hE, _, _, hs, c1⟩ := spec_l2Any_ev l hl 0 r (Cur.start l)
  exact ⟨a, n, s, Ev.bind hr (Ev.bind hE (ev_some _)), hs⟩
attribute [local irreducible] spec_DrawValText.f

theorem itoa_17 (n : Int) (h : -1000000000000000 ≤ n ∧ n ≤ 1000000000000000) : (Go.Lib.itoa n).length ≤ 17 := by
  unfold Go.Lib.itoa
  split
  · have := dec_len 15 n.natAbs (by have : (10 : Nat) ^ (15 + 1) = 10000000000000000 := by rfl
                                    omega)
    simp only [List.length_cons]; omega
  · have := dec_len 15 n.toNat (by have : (10 : Nat) ^ (15 + 1) = 10000000000000000 := by rfl
                                   omega)
    omega
theorem valText_size (k n : Int) (s : ByteArray) (hs : s.size ≤ 31) : (valText k n s).size ≤ 40 := by
  unfold valText
  split
  · next h =>
    rw [Bool.and_eq_true] at h
    unfold valTextB
    split
    · next hk =>
      subst hk
      have := itoa_17 n (valOk_1 h.1).1
      rw [ByteArray.size_append]
      have e2 := ba_size (Go.Lib.itoa n)
      have e : (⟨#[105]⟩ : ByteArray).size = 1 := rfl
      omega
    split
    · next hk =>
      subst hk
      have := itoa_17 n (valOk_2 h.1).1
      rw [ByteArray.size_append]
      have e2 := ba_size (Go.Lib.itoa n)
      have e : (⟨#[110]⟩ : ByteArray).size = 1 := rfl
      omega
    split
    · rw [ByteArray.size_append, ByteArray.size_append]
      have e : (⟨#[39]⟩ : ByteArray).size = 1 := rfl
      omega
    split
    · split
      · decide
      · decide
    · decide
  · decide
theorem spec_DrawParseVal_ev (l : List Int) (hl : l.length ≤ 1048576) : ∃ (t : ByteArray), Ev (fun k => spec_DrawParseVal.f k l) t ∧ t.size ≤ 100 := by
  unfold spec_DrawParseVal.f
  obtain ⟨r, hr⟩ := spec_l1New_ev l hl
  obtain ⟨a, n, s, i1, h1, hE, _, _, hs, c1⟩ := spec_l2Any_ev l hl 0 r (Cur.start l)
  have hv := spec_ValText_ev a n s (by omega)
  have hz := valText_size a n s hs
  obtain ⟨x, i2, h2, e2, x0, x1, _, c2⟩ := spec_l1Below_ok l hl i1 h1 c1 4
  by_cases y0 : x = 0
  · obtain ⟨t, i3, h3, e3, hm, c3⟩ := spec_l1Str_ok l hl i2 h2 c2 [(⟨#[]⟩ : ByteArray), (⟨#[105]⟩ : ByteArray), (⟨#[105, 48, 49]⟩ : ByteArray), (⟨#[105, 45, 48]⟩ : ByteArray), (⟨#[110, 49, 48, 48, 48, 48, 48, 48, 48, 48, 48, 48, 48, 48, 48, 48, 49]⟩ : ByteArray), (⟨#[105, 50, 49, 52, 55, 52, 56, 51, 54, 52, 56]⟩ : ByteArray), (⟨#[39]⟩ : ByteArray), (⟨#[39, 39]⟩ : ByteArray), (⟨#[39, 97, 39, 98, 39]⟩ : ByteArray), (⟨#[121, 101, 115, 115]⟩ : ByteArray), (⟨#[120, 49]⟩ : ByteArray), (⟨#[110, 45, 53]⟩ : ByteArray), (⟨#[105, 43, 49]⟩ : ByteArray), (⟨#[110, 57, 57, 57, 57, 57, 57, 57, 57, 57, 57, 57, 57, 57, 57, 57, 57, 57]⟩ : ByteArray)] (by decide)
    have ht : t.size ≤ 100 := by
      simp only [List.mem_cons, List.not_mem_nil, or_false] at hm
      rcases hm with h | h | h | h | h | h | h | h | h | h | h | h | h | h <;> subst h <;> decide
    refine ⟨t, Ev.bind hr (Ev.bind hE (Ev.bind hv ?_)), ht⟩
    simp only [e2, Option.bind_some, y0, if_true, e3]
    exact ev_some _
  by_cases y1 : x = 1
  · obtain ⟨t, i3, h3, e3, hm, c3⟩ := spec_l1Str_ok l hl i2 h2 c2 [(⟨#[48]⟩ : ByteArray), (⟨#[39]⟩ : ByteArray), (⟨#[32]⟩ : ByteArray)] (by decide)
    have ht : t.size ≤ 1 := by
      simp only [List.mem_cons, List.not_mem_nil, or_false] at hm
      rcases hm with h | h | h <;> subst h <;> decide
    refine ⟨valText a n s ++ t, Ev.bind hr (Ev.bind hE (Ev.bind hv ?_)), by rw [ByteArray.size_append]; omega⟩
    have q : (valText a n s).size + t.size ≤ 9223372036854775807 := by omega
    simp only [e2, Option.bind_some, y0, y1, if_true, if_false, e3, q, show ¬ ((1 : Int) = 0) by decide]
    exact ev_some _
  · refine ⟨valText a n s, Ev.bind hr (Ev.bind hE (Ev.bind hv ?_)), by omega⟩
    simp only [e2, Option.bind_some, y0, y1, if_false]
    exact ev_some _
attribute [local irreducible] spec_DrawParseVal.f

--import B
--import K
--import D
def Fm (t : ByteArray) (r : Int × Int × ByteArray × Bool) : Prop := r = noV ∨ ∃ k n S, S.size ≤ t.size ∧ r = tvR k n S t
theorem fm_tv (t : ByteArray) (k n : Int) (S : ByteArray) (h : S.size ≤ t.size) : Fm t (tvR k n S t) := .inr ⟨k, n, S, h, rfl⟩
theorem fm_num (t : ByteArray) (p : Int × Option Int) : Fm t (numR t p) := by
  obtain ⟨v, o⟩ := p
  cases o with
  | some q => exact .inl rfl
  | none =>
    simp only [numR]
    split
    · exact fm_tv t _ _ _ (Nat.zero_le _)
    · exact fm_tv t _ _ _ (Nat.zero_le _)
theorem fm_j2 (t : ByteArray) (x : Bool) : Fm t (j2R t x) := by
  unfold j2R
  split
  · exact fm_tv t _ _ _ (mid_size t)
  · exact fm_tv t _ _ _ (Nat.zero_le _)
theorem fm_j1 (t : ByteArray) (x : Bool) : Fm t (j1R t x) := by
  unfold j1R
  split
  · exact fm_num t _
  · exact fm_j2 t _
theorem fm_j0 (t : ByteArray) (x : Bool) : Fm t (j0R t x) := by
  unfold j0R
  split
  · split
    · exact fm_tv t _ _ _ (Nat.zero_le _)
    · exact fm_tv t _ _ _ (Nat.zero_le _)
  · exact fm_j1 t _
theorem fm_all (t : ByteArray) : Fm t (specP t) := by
  rw [← implP_eq]
  unfold implP
  split
  · exact fm_j0 t _
  · exact fm_j0 t _
theorem specP_form (t : ByteArray) (h : (specP t).2.2.2 = true) : ∃ k n S, specP t = (k, n, S, true) ∧ S.size ≤ t.size ∧ valText k n S = t ∧ valOkB k n S = true := by
  rcases fm_all t with e | ⟨k, n, S, hS, e⟩
  · rw [e] at h; cases h
  · rw [e] at h ⊢
    unfold tvR at h ⊢
    by_cases hc : (valOkB k n S && plainB S) = true ∧ Lb (valTextB k n S) = Lb t
    · rw [if_pos hc]
      refine ⟨k, n, S, rfl, hS, ?_, ?_⟩
      · unfold valText
        rw [if_pos hc.1]
        exact Lb_inj hc.2
      · have := hc.1
        rw [Bool.and_eq_true] at this
        exact this.1
    · rw [if_neg hc] at h; cases h
theorem parse_itoa (n : Int) (h : -1000000000000000 ≤ n ∧ n ≤ 1000000000000000) : parseP (Go.Lib.itoa n) = (n, true) := by
  have h2 := parseP_of n (by omega) (by omega)
  cases hp : parseP (Go.Lib.itoa n) with
  | mk m ok =>
    rw [hp] at h2
    simp only at h2
    subst h2
    obtain ⟨e, b0, b1⟩ := parseP_ok hp
    have a1 := atoi_itoa n (by omega) (by omega)
    have a2 := atoi_itoa m b0 b1
    rw [e, a2] at a1
    injection a1 with a1
    rw [a1]
theorem itoa_ne (n : Int) (h : -1000000000000000 ≤ n ∧ n ≤ 1000000000000000) : 1 ≤ (Go.Lib.itoa n).length := by
  cases hl : Go.Lib.itoa n with
  | nil =>
    have := atoi_itoa n (by omega) (by omega)
    rw [hl] at this
    cases this
  | cons c r => simp
theorem back_num (k n : Int) (c : UInt8) (hk : k = 1 ∧ c = 105 ∨ k = 2 ∧ c = 110) (hn : -1000000000000000 ≤ n ∧ n ≤ 1000000000000000) (hv : valOkB k n eB = true) (t : ByteArray) (ht : Lb t = c :: Go.Lib.itoa n) : specP t = (k, n, eB, true) := by
  have hl := itoa_ne n hn
  have hz : 2 ≤ t.size := by rw [← Lb_len, ht, List.length_cons]; omega
  have hb : bt t 0 = (c.toNat : Int) := (head_bt t (by omega) c).1 (by rw [ht]; rfl)
  have e : specV t = (k, n, eB, true) := by
    have tl : (Lb t).tail = Go.Lib.itoa n := by rw [ht]; rfl
    unfold specV
    rw [tl, parse_itoa n hn, ht]
    rcases hk with ⟨rfl, rfl⟩ | ⟨rfl, rfl⟩
    · rw [if_neg (by intro h; cases h), if_neg (by intro h; cases h), if_neg (by intro h; cases h), if_neg (by omega), if_neg (by rw [hb]; decide), if_pos (by rw [hb]; rfl)]
    · have n1 : ¬ (110 :: Go.Lib.itoa n : List UInt8) = [110, 117, 108, 108] := by
        intro h
        have h2 := parse_itoa n hn
        rw [(List.cons.inj h).2] at h2
        have h3 : (parseP [117, 108, 108]).2 = false := by decide
        rw [h2] at h3
        cases h3
      have n2 : ¬ (110 :: Go.Lib.itoa n : List UInt8) = [110, 111] := by
        intro h
        have h2 := parse_itoa n hn
        rw [(List.cons.inj h).2] at h2
        have h3 : (parseP [111]).2 = false := by decide
        rw [h2] at h3
        cases h3
      rw [if_neg n1, if_neg n2, if_neg (by intro h; cases h), if_neg (by omega), if_neg (by rw [hb]; decide), if_neg (by rw [hb]; decide), if_pos (by rw [hb]; rfl)]
  unfold specP
  rw [e, if_pos (by show (true && valOkB k n eB) = true; rw [hv]; rfl)]
theorem valOk_kinds {k n : Int} {s : ByteArray} (h : valOkB k n s = true) : (k = 0 ∧ n = 0 ∧ s = eB) ∨ (k = 1 ∧ s = eB) ∨ (k = 2 ∧ s = eB) ∨ (k = 3 ∧ n = 0) ∨ (k = 4 ∧ (n = 0 ∨ n = 1) ∧ s = eB) := by
  have he : ∀ {s : ByteArray}, isE s = true → s = eB := fun {s} h => by
    unfold isE at h
    rw [Lb_toList] at h
    have h2 : Lb s = [] := by simpa using h
    exact Lb_inj (h2.trans rfl)
  unfold valOkB at h
  by_cases h0 : k = 0
  · rw [if_pos h0, Bool.and_eq_true] at h
    exact .inl ⟨h0, by simpa using h.1, he h.2⟩
  rw [if_neg h0] at h
  by_cases h1 : k = 1
  · rw [if_pos h1, Bool.and_eq_true] at h
    exact .inr (.inl ⟨h1, he h.2⟩)
  rw [if_neg h1] at h
  by_cases h2 : k = 2
  · rw [if_pos h2, Bool.and_eq_true] at h
    exact .inr (.inr (.inl ⟨h2, he h.2⟩))
  rw [if_neg h2] at h
  by_cases h3 : k = 3
  · rw [if_pos h3, Bool.and_eq_true] at h
    exact .inr (.inr (.inr (.inl ⟨h3, by simpa using h.1⟩)))
  rw [if_neg h3] at h
  by_cases h4 : k = 4
  · rw [if_pos h4, Bool.and_eq_true] at h
    have : 0 ≤ n ∧ n ≤ 1 := of_decide_eq_true h.1
    exact .inr (.inr (.inr (.inr ⟨h4, by omega, he h.2⟩)))
  rw [if_neg h4] at h
  cases h
theorem back (k n : Int) (s : ByteArray) (h : (valOkB k n s && plainB s) = true) : specP (valTextB k n s) = (k, n, s, true) := by
  rw [Bool.and_eq_true] at h
  rcases valOk_kinds h.1 with ⟨rfl, rfl, rfl⟩ | ⟨rfl, rfl⟩ | ⟨rfl, rfl⟩ | ⟨rfl, rfl⟩ | ⟨rfl, hn, rfl⟩
  · have e : specV (valTextB 0 0 eB) = (0, 0, eB, true) := by unfold specV; rw [if_pos (by rfl)]
    unfold specP
    rw [e, if_pos (by show (true && valOkB 0 0 eB) = true; rw [vk00]; rfl)]
  · exact back_num 1 n 105 (.inl ⟨rfl, rfl⟩) (valOk_1 h.1).1 h.1 _ (by unfold valTextB; rw [if_pos rfl, Lb_append, Lb_mk]; rfl)
  · exact back_num 2 n 110 (.inr ⟨rfl, rfl⟩) (valOk_2 h.1).1 h.1 _ (by unfold valTextB; rw [if_neg (by decide), if_pos rfl, Lb_append, Lb_mk]; rfl)
  · have ht : Lb (valTextB 3 0 s) = 39 :: Lb s ++ [39] := by
      unfold valTextB
      rw [if_neg (by decide), if_neg (by decide), if_pos rfl, Lb_append, Lb_append]; rfl
    generalize valTextB 3 0 s = t at ht
    have hz : t.size = s.size + 2 := by rw [← Lb_len, ht, ← Lb_len s]; simp
    have hb : bt t 0 = 39 := (head_bt t (by omega) 39).1 (by rw [ht]; rfl)
    have hm : mid t = s := by
      apply Lb_inj
      unfold mid
      rw [Lb_extract, ht, hz]
      have e1 : s.size + 2 - 1 - 1 = (Lb s).length := by rw [Lb_len]; omega
      rw [e1, List.cons_append, List.drop_one, List.tail_cons, List.take_left]
    have hlast : bt t ((t.size - 1 : Nat) : Int) = 39 := by
      rw [Lb_bt t (t.size - 1) (by omega)]
      have : (Lb t)[t.size - 1]'(by rw [Lb_len]; omega) = 39 := by
        have e1 : t.size - 1 = (Lb s).length + 1 := by rw [Lb_len]; omega
        simp only [ht, e1, List.cons_append, List.getElem_cons_succ]
        simp
      rw [this]; rfl
    have e : specV t = (3, 0, s, true) := by
      unfold specV
      have q : ∀ (x : List UInt8), x.head? ≠ some 39 → ¬ Lb t = x := fun x hx he => hx (by rw [← he, ht]; rfl)
      rw [if_neg (q _ (by decide)), if_neg (q _ (by decide)), if_neg (q _ (by decide)), if_neg (by omega), if_pos hb, hm, hlast, h.2]
      rfl
    unfold specP
    rw [e, if_pos (by show (true && valOkB 3 0 s) = true; rw [h.1]; rfl)]
  · rcases hn with rfl | rfl
    · have e : specV (valTextB 4 0 eB) = (4, 0, eB, true) := by unfold specV; rw [if_neg (by decide), if_pos (by rfl)]
      unfold specP
      rw [e, if_pos (by show (true && valOkB 4 0 eB) = true; rw [vk40]; rfl)]
    · have e : specV (valTextB 4 1 eB) = (4, 1, eB, true) := by unfold specV; rw [if_neg (by decide), if_neg (by decide), if_pos (by rfl)]
      unfold specP
      rw [e, if_pos (by show (true && valOkB 4 1 eB) = true; rw [vk41]; rfl)]
theorem back2 (k n : Int) (s : ByteArray) (h : ¬ (valText k n s).toList = ([] : List UInt8)) : specP (valText k n s) = (k, n, s, true) := by
  unfold valText at h ⊢
  by_cases hc : (valOkB k n s && plainB s) = true
  · rw [if_pos hc]; exact back k n s hc
  · rw [if_neg hc, Lb_toList] at h; exact absurd rfl h
theorem law_end (k n : Int) (s : ByteArray) : Ev (fun j => laws_FnVals.j0 j (valText k n s) (specP (valText k n s)).2.2.2 false k n s (specP (valText k n s)).1 (specP (valText k n s)).2.1 (specP (valText k n s)).2.2.1) true := by
  refine ev_succ ?_
  simp only [laws_FnVals.j0.eq_2, Bool.false_eq_true, if_false]
  by_cases h : (valText k n s).toList = ([] : List UInt8)
  · simp only [h, if_true]; exact ev_some _
  · simp only [h, if_false]
    rw [back2 k n s h]
    simp only [if_true, BEq.rfl, Bool.and_self]
    exact ev_some _
theorem FnVals : laws_FnVals.Pure := by
  intro l0 hm0 hb0 hw0
  refine Ev.rounds ?_
  unfold laws_FnVals.f
  simp only [laws_big_eq, Option.bind_some]
  by_cases hn0 : (l0.length : Int) > 1048576
  · simp only [hn0, decide_true, if_true]; exact ev_some _
  simp only [hn0, decide_false, Bool.false_eq_true, if_false]
  have hl : l0.length ≤ 1048576 := by omega
  obtain ⟨k, n, s, hE1, hs⟩ := spec_DrawValText_ev l0 hl
  obtain ⟨t, hE2, ht⟩ := spec_DrawParseVal_ev l0 hl
  have hz := valText_size k n s hs
  have i1 := impl_ValText_ev k n s (by omega)
  have i2 := spec_ValText_ev k n s (by omega)
  refine Ev.bind hE1 (Ev.bind i1 (Ev.bind (impl_ParseVal_ev _ (by omega)) (Ev.bind hE2 (Ev.bind (impl_ParseVal_ev t (by omega)) (Ev.bind (spec_ParseVal_ev t (by omega)) ?_)))))
  have le := law_end k n s
  simp only [bne_self_eq_false, Bool.false_eq_true, if_false, impl_ValOk_eq, spec_ValOk_eq, Option.bind_some]
  cases hq : (specP t).2.2.2 with
  | false =>
    simp only [Bool.false_eq_true, if_false]
    refine Ev.bind i2 ?_
    simp only [if_true]
    exact le
  | true =>
    obtain ⟨k', n', S, e, hS, hv, hok⟩ := specP_form t hq
    rw [e]
    simp only [if_true]
    refine Ev.bind (impl_ValText_ev k' n' S (by omega)) ?_
    simp only [hv, if_true, hok]
    refine Ev.bind i2 ?_
    simp only [if_true]
    exact le

end Go.Proofs.YtoeaaochnceofaaDoor.Pure

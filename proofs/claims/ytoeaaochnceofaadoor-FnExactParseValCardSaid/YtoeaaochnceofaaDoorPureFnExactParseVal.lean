/- ParseVal answers as the reference does, whatever the text. No condition. -/
import Derived.Test.YtoeaaochnceofaaDoorPFnExactParseValx7
import Derived.Test.YtoeaaochnceofaaDoorM
import Derived.Test.YtoeaaochnceofaaDoorB
import Derived.Test.YtoeaaochnceofaaDoorK
import Derived.Test.YtoeaaochnceofaaDoorD
namespace Go.Proofs.YtoeaaochnceofaaDoor.Pure
open Go.RowKit Go.Proofs.YtoeaaochnceofaaDoor.PFnExactParseVal Go.Proofs.YtoeaaochnceofaaDoorW.PrintWords Go.Proofs.YtoeaaochnceofaaDoorW.PrintLast Go.Proofs.YtoeaaochnceofaaDoorW.PrintMore Go.Proofs.YtoeaaochnceofaaDoorM
set_option linter.unusedVariables false
set_option linter.unusedSimpArgs false


theorem spec_l1In_eq (a b c : Int) : spec_l1In.f a b c = some (inB a b c) := in_ite a b c
attribute [local irreducible] spec_l1In.f

theorem spec_ValOk_eq (k n : Int) (s : ByteArray) : spec_ValOk.f k n s = some (valOkB k n s) := by
  unfold spec_ValOk.f valOkB isE
  simp only [spec_l1In_eq, Option.bind_some]
  by_cases h0 : k = 0
  · simp only [h0, if_true]; by_cases hn : n = 0 <;> simp [hn]
  simp only [h0, if_false]
  by_cases h1 : k = 1
  · simp only [h1, if_true]; cases inB n (-2147483648) 2147483647 <;> simp
  simp only [h1, if_false]
  by_cases h2 : k = 2
  · simp only [h2, if_true]; cases inB n (-1000000000000000) 1000000000000000 <;> simp
  simp only [h2, if_false]
  by_cases h3 : k = 3
  · simp only [h3, if_true]; by_cases hn : n = 0 <;> by_cases hs : (s.size : Int) ≤ 30 <;> simp [hn, hs]
  simp only [h3, if_false]
  by_cases h4 : k = 4
  · simp only [h4, if_true]; cases inB n 0 1 <;> simp
  simp only [h4, if_false]
attribute [local irreducible] spec_ValOk.f

def plC (x : Int) : Bool := inB x 32 126 && !(decide (x = 39))
def plainB (s : ByteArray) : Bool := (bytesOf s).all plC
theorem bt_byte (s : ByteArray) (i : Nat) (h : i < s.size) : 0 ≤ bt s (i : Int) ∧ bt s (i : Int) ≤ 255 := by
  rw [bt_get s i h]
  exact (bytesOf_isB s).get i _
theorem spec_l2Plain_l0 (s : ByteArray) (hs : s.size ≤ 9223372036854775806) : ∀ i : Nat, i ≤ s.size → Ev (fun k => spec_l2Plain.l0 k s (i : Int)) (((bytesOf s).drop i).all plC) := by
  refine up_ind s.size (fun i : Nat => Ev (fun k => spec_l2Plain.l0 k s (i : Int)) (((bytesOf s).drop i).all plC)) ?_ ?_
  · refine ev_succ ?_
    have h1 : ¬ ((s.size : Int) < (s.size : Int)) := by omega
    simp only [spec_l2Plain.l0.eq_2, h1, if_false]
    rw [List.drop_eq_nil_of_le (by rw [bytesOf_len]; omega)]
    exact ev_some _
  · intro i hi ih
    refine ev_succ ?_
    have hib : i < (bytesOf s).length := by rw [bytesOf_len]; exact hi
    have h1 : (i : Int) < (s.size : Int) := by omega
    have h2 : (0 : Int) ≤ (i : Int) := by omega
    have hb := bt_byte s i hi
    have hw : wrap64 (bt s (i : Int)) = bt s (i : Int) := w64 (by omega) (by omega)
    simp only [spec_l2Plain.l0.eq_2, h1, h2, if_true, hw, spec_l1In_eq, Option.bind_some, wsucc (show i < 9223372036854775807 by omega)]
    rw [List.drop_eq_getElem_cons hib, List.all_cons, ← bt_get s i hi]
    unfold plC
    cases hin : inB (bt s (i : Int)) 32 126 with
    | false => simp only [Bool.false_eq_true, if_false, Bool.false_and]; exact ev_some _
    | true =>
      by_cases h39 : bt s (i : Int) = 39
      · simp only [h39, if_true, decide_true, Bool.not_true, Bool.and_false, Bool.false_and]; exact ev_some _
      · simp only [h39, if_true, if_false, decide_false, Bool.not_false, Bool.and_true, Bool.true_and]
        exact ih
theorem spec_l2Plain_ev (s : ByteArray) (hs : s.size ≤ 9223372036854775806) : Ev (fun k => spec_l2Plain.f k s) (plainB s) := by
  unfold spec_l2Plain.f plainB
  simpa using spec_l2Plain_l0 s hs 0 (by omega)
theorem ba_append (a b : List UInt8) : (⟨a.toArray⟩ : ByteArray) ++ ⟨b.toArray⟩ = ⟨(a ++ b).toArray⟩ := by
  apply ByteArray.ext
  rw [ByteArray.data_append]
  simp
theorem strOfNums_one (x : Int) : strOfNums [x] = ⟨[UInt8.ofNat x.toNat].toArray⟩ := rfl
theorem decDigits_len (u : Nat) : (Go.Lib.decDigits u).length ≤ u + 1 := by
  induction u using Nat.strongRecOn with
  | _ u ih =>
    rw [Go.Lib.decDigits]
    split
    · simp
    · have := ih (u / 10) (by omega)
      simp only [List.length_append, List.length_cons, List.length_nil]
      omega
theorem ba_size (l : List UInt8) : (⟨l.toArray⟩ : ByteArray).size = l.length := by
  show l.toArray.size = l.length
  simp
def valTextB (k n : Int) (s : ByteArray) : ByteArray := if k = 1 then (⟨#[105]⟩ : ByteArray) ++ ⟨(Go.Lib.itoa n).toArray⟩ else if k = 2 then (⟨#[110]⟩ : ByteArray) ++ ⟨(Go.Lib.itoa n).toArray⟩
  else if k = 3 then ((⟨#[39]⟩ : ByteArray) ++ s) ++ (⟨#[39]⟩ : ByteArray) else if k = 4 then (if n = 1 then (⟨#[121, 101, 115]⟩ : ByteArray) else (⟨#[110, 111]⟩ : ByteArray)) else (⟨#[110, 117, 108, 108]⟩ : ByteArray)
def valText (k n : Int) (s : ByteArray) : ByteArray := if (valOkB k n s && plainB s) = true then valTextB k n s else ⟨#[]⟩
theorem itoa_len (n : Int) (h : -1000000000000000 ≤ n ∧ n ≤ 1000000000000000) : (⟨(Go.Lib.itoa n).toArray⟩ : ByteArray).size ≤ 1000000000000003 := by
  rw [ba_size]
  unfold Go.Lib.itoa
  split
  · have := decDigits_len n.natAbs
    simp only [List.length_cons]; omega
  · have := decDigits_len n.toNat
    omega
theorem valOk_1 {n : Int} {s : ByteArray} (h : valOkB 1 n s = true) : (-1000000000000000 ≤ n ∧ n ≤ 1000000000000000) ∧ s = ⟨#[]⟩ := by
  have := fits_cases (t := 1) (null := false) (k := 1) (by unfold fitsB; rw [h]; rfl) (by omega)
  rcases this with ⟨h, _⟩ | ⟨_, ⟨_, h1, h2, h3⟩ | ⟨h, _⟩ | ⟨h, _⟩ | ⟨h, _⟩⟩
  · cases h
  · exact ⟨by omega, h3⟩
  all_goals omega
theorem valOk_2 {n : Int} {s : ByteArray} (h : valOkB 2 n s = true) : (-1000000000000000 ≤ n ∧ n ≤ 1000000000000000) ∧ s = ⟨#[]⟩ := by
  have := fits_cases (t := 2) (null := false) (k := 2) (by unfold fitsB; rw [h]; rfl) (by omega)
  rcases this with ⟨h, _⟩ | ⟨_, ⟨h, _⟩ | ⟨_, h1, h2, h3⟩ | ⟨h, _⟩ | ⟨h, _⟩⟩
  · cases h
  · omega
  · exact ⟨by omega, h3⟩
  all_goals omega
theorem plain_empty : plainB ⟨#[]⟩ = true := by
  unfold plainB
  rw [List.eq_nil_of_length_eq_zero (show (bytesOf ⟨#[]⟩).length = 0 by rw [bytesOf_len]; rfl)]
  rfl
attribute [local irreducible] spec_l2Plain.f

theorem spec_l2Digit_eq (x : Int) (h : 0 ≤ x ∧ x ≤ 255) : spec_l2Digit.f x = some (inB x 48 57) := by
  unfold spec_l2Digit.f
  rw [w64 (by omega) (by omega)]
  simp only [spec_l1In_eq, Option.bind_some]
attribute [local irreducible] spec_l2Digit.f

def Lb (s : ByteArray) : List UInt8 := s.data.toList
theorem Lb_len (s : ByteArray) : (Lb s).length = s.size := by unfold Lb; rw [Array.length_toList]; rfl
theorem Lb_toList (s : ByteArray) : s.toList = Lb s := ByteArray.toList_eq s
theorem Lb_inj {s t : ByteArray} (h : Lb s = Lb t) : s = t := by
  apply ByteArray.ext
  exact Array.toList_inj.1 h
theorem Lb_bt (s : ByteArray) (i : Nat) (h : i < s.size) : bt s (i : Int) = ((Lb s)[i]'(by rw [Lb_len]; exact h)).toNat := by
  unfold bt Lb
  simp only [Int.toNat_natCast, h, dif_pos]
  rfl
theorem Lb_extract (s : ByteArray) (a b : Nat) : Lb (s.extract a b) = ((Lb s).drop a).take (b - a) := by
  unfold Lb
  rw [ByteArray.data_extract, Array.toList_extract, List.extract_eq_take_drop]
theorem Lb_tail (s : ByteArray) : Lb (s.extract 1 s.size) = (Lb s).tail := by
  rw [Lb_extract, List.drop_one, List.take_of_length_le]
  rw [List.length_tail, Lb_len]
  exact Nat.le_refl _
theorem u8_lt (c : UInt8) : c.toNat ≤ 255 := by have := c.toNat_lt; omega
theorem dgC_in (c : UInt8) : inB (c.toNat : Int) 48 57 = dgC c := by
  unfold inB dgC
  by_cases h : 48 ≤ c.toNat ∧ c.toNat ≤ 57
  · rw [decide_eq_true h, decide_eq_true (by omega)]
  · rw [decide_eq_false h, decide_eq_false (by omega)]
theorem spec_l2Parse_l0 (x : ByteArray) (hs : x.size ≤ 16) (m : Bool) : ∀ i : Nat, i ≤ x.size → ∀ a : Nat, a < 10 ^ i →
    Ev (fun k => spec_l2Parse.l0 k x m (a : Int) (i : Int)) (if ((Lb x).drop i).all dgC = true then ((if m = true then -(dval a ((Lb x).drop i) : Int) else (dval a ((Lb x).drop i) : Int)), true) else (0, false)) := by
  have p16 : (10 : Nat) ^ 16 = 10000000000000000 := by rfl
  refine up_ind x.size (fun i : Nat => ∀ a : Nat, a < 10 ^ i →
    Ev (fun k => spec_l2Parse.l0 k x m (a : Int) (i : Int)) (if ((Lb x).drop i).all dgC = true then ((if m = true then -(dval a ((Lb x).drop i) : Int) else (dval a ((Lb x).drop i) : Int)), true) else (0, false))) ?_ ?_
  · intro a ha
    have hp : 10 ^ x.size ≤ 10 ^ 16 := Nat.pow_le_pow_right (by omega) hs
    have hb : a < 10000000000000000 := by omega
    clear hp ha p16
    refine ev_succ ?_
    have h1 : ¬ ((x.size : Int) < (x.size : Int)) := by omega
    simp only [spec_l2Parse.l0.eq_2, h1, if_false]
    rw [List.drop_eq_nil_of_le (by rw [Lb_len]; omega)]
    have e : dval a [] = a := rfl
    have hw : wrap64 (-(a : Int)) = -(a : Int) := w64 (by omega) (by omega)
    simp only [List.all_nil, if_true, e, hw]
    cases m
    · simp only [Bool.false_eq_true, if_false]; exact ev_some _
    · simp only [if_true]; exact ev_some _
  · intro i hi ih a ha
    have hp : 10 ^ i ≤ 10 ^ 15 := Nat.pow_le_pow_right (by omega) (by omega)
    have p15 : (10 : Nat) ^ 15 = 1000000000000000 := by rfl
    have hb : a < 1000000000000000 := by omega
    have hib : i < (Lb x).length := by rw [Lb_len]; exact hi
    have hbt := Lb_bt x i hi
    have hc := u8_lt ((Lb x)[i])
    have hn : (Lb x)[i].toNat - 48 < 10 → a * 10 + ((Lb x)[i].toNat - 48) < 10 ^ (i + 1) := fun h => by rw [Nat.pow_succ]; omega
    have ih2 := ih (a * 10 + ((Lb x)[i].toNat - 48))
    rw [List.drop_eq_getElem_cons hib, List.all_cons]
    generalize (Lb x)[i] = c at hbt hc hn ih2 ⊢
    clear hp p15 p16 ha ih
    refine ev_succ ?_
    have h1 : (i : Int) < (x.size : Int) := by omega
    have h2 : (0 : Int) ≤ (i : Int) := by omega
    have hd := spec_l2Digit_eq (c.toNat : Int) (by omega)
    simp only [spec_l2Parse.l0.eq_2, h1, h2, if_true, hbt, hd, Option.bind_some, dgC_in, wsucc (show i < 9223372036854775807 by omega)]
    cases hg : dgC c with
    | false =>
      simp only [Bool.false_eq_true, if_false, Bool.false_and]
      exact ev_some _
    | true =>
      have hg2 : 48 ≤ c.toNat ∧ c.toNat ≤ 57 := of_decide_eq_true hg
      have e1 : wrap64 ((a : Int) * 10) = (a : Int) * 10 := w64 (by omega) (by omega)
      have e2 : wrap64 ((a : Int) * 10 + ((c.toNat : Int) - 48) % 256) = ((a * 10 + (c.toNat - 48) : Nat) : Int) := by rw [w64 (by omega) (by omega)]; omega
      have e3 : ∀ r, dval a (c :: r) = dval (a * 10 + (c.toNat - 48)) r := fun _ => rfl
      simp only [if_true, Bool.true_and, e1, e2, e3]
      exact ih2 (hn (by omega))
theorem spec_l2Parse_j2 (x : ByteArray) (hs : x.size ≤ 16) (m : Bool) : Ev (fun k => spec_l2Parse.j2 k x m false) (if (Lb x).all dgC = true then ((if m = true then -(dval 0 (Lb x) : Int) else (dval 0 (Lb x) : Int)), true) else (0, false)) := by
  refine ev_succ ?_
  simp only [spec_l2Parse.j2.eq_2, Bool.false_eq_true, if_false]
  have := spec_l2Parse_l0 x hs m 0 (by omega) 0 (by decide)
  rw [List.drop_zero] at this
  exact this
theorem spec_l2Parse_j2t (x : ByteArray) (m : Bool) : Ev (fun k => spec_l2Parse.j2 k x m true) (0, false) := by
  refine ev_succ ?_
  simp only [spec_l2Parse.j2.eq_2, if_true]
  exact ev_some _
theorem head_bt (x : ByteArray) (h : 0 < x.size) (v : UInt8) : (Lb x).head? = some v ↔ bt x 0 = (v.toNat : Int) := by
  have e := Lb_bt x 0 h
  have hl : 0 < (Lb x).length := by rw [Lb_len]; exact h
  have e2 : (Lb x).head? = some ((Lb x)[0]) := by rw [List.head?_eq_getElem?, List.getElem?_eq_getElem hl]
  rw [e2, show (0 : Int) = ((0 : Nat) : Int) by rfl, e]
  constructor
  · intro h; rw [Option.some.inj h]
  · intro h
    have : (Lb x)[0].toNat = v.toNat := by omega
    rw [UInt8.toNat_inj.1 this]
theorem spec_l2Parse_j1 (x : ByteArray) (hs : x.size ≤ 1000000000000) (m : Bool) : Ev (fun k => spec_l2Parse.j1 k x m) (magP m (Lb x)) := by
  refine ev_succ ?_
  simp only [spec_l2Parse.j1.eq_2, spec_l1In_eq, Option.bind_some]
  unfold magP
  rw [Lb_len]
  by_cases hr : 1 ≤ x.size ∧ x.size ≤ 16
  · have h1 : inB (x.size : Int) 1 16 = true := by unfold inB; exact decide_eq_true (by omega)
    have h0 : (0 : Int) < (x.size : Int) := by omega
    simp only [h1, if_true, h0]
    have hh := head_bt x (by omega) 48
    have e48 : ((48 : UInt8).toNat : Int) = 48 := rfl
    rw [e48] at hh
    by_cases h48 : bt x 0 = 48
    · have hh2 := hh.2 h48
      simp only [h48, if_true, hh2, hr, and_self, true_and]
      by_cases h2 : 1 < x.size
      · have h2' : (x.size : Int) > 1 := by omega
        simp only [h2', if_true, h2, true_or, not_true_eq_false, false_and, if_false]
        exact spec_l2Parse_j2t x m
      · have h2' : ¬ (x.size : Int) > 1 := by omega
        simp only [h2', if_false, h2, false_or]
        cases m with
        | true => simp only [not_true_eq_false, false_and, if_false]; exact spec_l2Parse_j2t x true
        | false =>
          have := spec_l2Parse_j2 x hr.2 false
          simpa only [Bool.false_eq_true, not_false_eq_true, true_and, if_false] using this
    · have hh2 : ¬ (Lb x).head? = some 48 := fun h => h48 (hh.1 h)
      simp only [h48, if_false, hh2, hr, and_self, true_and, false_and, not_false_eq_true]
      exact spec_l2Parse_j2 x hr.2 m
  · have h1 : inB (x.size : Int) 1 16 = false := by unfold inB; exact decide_eq_false (by omega)
    simp only [h1, Bool.false_eq_true, if_false, hr, false_and]
    exact spec_l2Parse_j2t x m
theorem spec_l2Parse_ev (x : ByteArray) (hs : x.size ≤ 1000000000000) : Ev (fun k => spec_l2Parse.f k x) (parseP (Lb x)) := by
  unfold spec_l2Parse.f parseP
  by_cases h0 : 0 < x.size
  · have h1 : (x.size : Int) > 0 := by omega
    have h2 : (0 : Int) < (x.size : Int) := by omega
    have h3 : (1 : Int) ≤ (x.size : Int) := by omega
    simp only [h1, h2, if_true]
    have hh := head_bt x h0 45
    have e45 : ((45 : UInt8).toNat : Int) = 45 := rfl
    rw [e45] at hh
    refine ev_succ ?_
    simp only [spec_l2Parse.j0.eq_2]
    by_cases h45 : bt x 0 = 45
    · have hh2 := hh.2 h45
      have hb : (bt x 0 == 45) = true := beq_iff_eq.2 h45
      simp only [hb, hh2, if_true, h3]
      rw [← Lb_tail]
      exact spec_l2Parse_j1 _ (by rw [← Lb_len, Lb_tail, List.length_tail, Lb_len]; omega) true
    · have hh2 : ¬ (Lb x).head? = some 45 := fun h => h45 (hh.1 h)
      have hb : (bt x 0 == 45) = false := beq_eq_false_iff_ne.2 h45
      simp only [hb, hh2, Bool.false_eq_true, if_false]
      exact spec_l2Parse_j1 x hs false
  · have h1 : ¬ (x.size : Int) > 0 := by omega
    have hl : Lb x = [] := List.eq_nil_of_length_eq_zero (by rw [Lb_len]; omega)
    have hh2 : ¬ (Lb x).head? = some 45 := by rw [hl]; simp
    simp only [h1, if_false, hh2]
    refine ev_succ ?_
    simp only [spec_l2Parse.j0.eq_2, Bool.false_eq_true, if_false]
    exact spec_l2Parse_j1 x hs false
attribute [local irreducible] spec_l2Parse.f

def mid (s : ByteArray) : ByteArray := s.extract 1 (s.size - 1)
def eB : ByteArray := ⟨#[]⟩
def specV (s : ByteArray) : Int × Int × ByteArray × Bool :=
  if Lb s = [110, 117, 108, 108] then (0, 0, eB, true) else if Lb s = [110, 111] then (4, 0, eB, true) else if Lb s = [121, 101, 115] then (4, 1, eB, true)
  else if s.size < 2 then (0, 0, eB, false)
  else if bt s 0 = 39 then (3, 0, mid s, decide (bt s ((s.size - 1 : Nat) : Int) = 39) && plainB (mid s))
  else if bt s 0 = 105 then (1, (parseP (Lb s).tail).1, eB, (parseP (Lb s).tail).2)
  else if bt s 0 = 110 then (2, (parseP (Lb s).tail).1, eB, (parseP (Lb s).tail).2) else (0, 0, eB, false)
theorem mid_size (s : ByteArray) : (mid s).size ≤ s.size := by
  rw [← Lb_len, ← Lb_len]
  unfold mid
  rw [Lb_extract, List.length_take, List.length_drop]
  omega
theorem spec_l2Val_ev (s : ByteArray) (hs : s.size ≤ 1000000000000) : Ev (fun k => spec_l2Val.f k s) (specV s) := by
  unfold spec_l2Val.f specV
  simp only [Lb_toList]
  by_cases c1 : Lb s = [110, 117, 108, 108]
  · simp only [c1, if_true]; exact ev_some _
  by_cases c2 : Lb s = [110, 111]
  · simp only [c1, c2, if_false, if_true]; exact ev_some _
  by_cases c3 : Lb s = [121, 101, 115]
  · simp only [c1, c2, c3, if_false, if_true]; exact ev_some _
  simp only [c1, c2, c3, if_false]
  by_cases c4 : s.size < 2
  · have c4' : (s.size : Int) < 2 := by omega
    simp only [c4, c4', if_true]; exact ev_some _
  have c4' : ¬ (s.size : Int) < 2 := by omega
  have h0 : (0 : Int) < (s.size : Int) := by omega
  have h1 : (1 : Int) ≤ (s.size : Int) := by omega
  have hw : wrap64 ((s.size : Int) - 1) = ((s.size - 1 : Nat) : Int) := by rw [w64 (by omega) (by omega)]; omega
  have g1 : (1 : Int) ≤ ((s.size - 1 : Nat) : Int) := by omega
  have g2 : ((s.size - 1 : Nat) : Int) ≤ (s.size : Int) := by omega
  have g3 : (0 : Int) ≤ ((s.size - 1 : Nat) : Int) := by omega
  have g4 : ((s.size - 1 : Nat) : Int) < (s.size : Int) := by omega
  simp only [c4, c4', if_false, h0, if_true, hw, g1, g2, g3, g4, h1, Int.toNat_natCast]
  by_cases c5 : bt s 0 = 39
  · simp only [c5, if_true]
    by_cases c6 : bt s ((s.size - 1 : Nat) : Int) = 39
    · simp only [c6, if_true, decide_true, Bool.true_and]
      refine Ev.bind (spec_l2Plain_ev (s.extract 1 (s.size - 1)) (by have := mid_size s; unfold mid at this; omega)) ?_
      exact ev_some _
    · simp only [c6, if_false, decide_false, Bool.false_and]
      exact ev_some _
  · simp only [c5, if_false]
    refine Ev.bind (spec_l2Parse_ev (s.extract 1 s.size) (by rw [← Lb_len, Lb_tail, List.length_tail, Lb_len]; omega)) ?_
    rw [Lb_tail]
    by_cases c6 : bt s 0 = 105
    · simp only [c6, if_true]; exact ev_some _
    simp only [c6, if_false]
    by_cases c7 : bt s 0 = 110
    · simp only [c7, if_true]; exact ev_some _
    simp only [c7, if_false]
    exact ev_some _
attribute [local irreducible] spec_l2Val.f

def noV : Int × Int × ByteArray × Bool := (0, 0, eB, false)
def specP (s : ByteArray) : Int × Int × ByteArray × Bool := if ((specV s).2.2.2 && valOkB (specV s).1 (specV s).2.1 (specV s).2.2.1) = true then ((specV s).1, (specV s).2.1, (specV s).2.2.1, true) else noV
theorem spec_ParseVal_ev (s : ByteArray) (hs : s.size ≤ 1000000000000) : Ev (fun k => spec_ParseVal.f k s) (specP s) := by
  unfold spec_ParseVal.f specP
  refine Ev.bind (spec_l2Val_ev s hs) ?_
  cases h : (specV s).2.2.2 with
  | false => simp only [Bool.false_eq_true, if_false, Bool.false_and]; exact ev_some _
  | true =>
    simp only [if_true, Bool.true_and, spec_ValOk_eq, Option.bind_some]
    cases h2 : valOkB (specV s).1 (specV s).2.1 (specV s).2.2.1 with
    | false => simp only [Bool.false_eq_true, if_false]; exact ev_some _
    | true => simp only [if_true]; exact ev_some _
attribute [local irreducible] spec_ParseVal.f

theorem impl_in_eq (a b c : Int) : impl_in.f a b c = some (inB a b c) := in_ite a b c
attribute [local irreducible] impl_in.f

theorem impl_ValOk_eq (k n : Int) (s : ByteArray) : impl_ValOk.f k n s = some (valOkB k n s) := by
  unfold impl_ValOk.f valOkB isE
  simp only [impl_in_eq, Option.bind_some]
  by_cases h0 : k = 0
  · simp only [h0, if_true]; by_cases hn : n = 0 <;> simp [hn]
  simp only [h0, if_false]
  by_cases h1 : k = 1
  · simp only [h1, if_true]; cases inB n (-2147483648) 2147483647 <;> simp
  simp only [h1, if_false]
  by_cases h2 : k = 2
  · simp only [h2, if_true]; cases inB n (-1000000000000000) 1000000000000000 <;> simp
  simp only [h2, if_false]
  by_cases h3 : k = 3
  · simp only [h3, if_true]; by_cases hn : n = 0 <;> by_cases hs : (s.size : Int) ≤ 30 <;> simp [hn, hs]
  simp only [h3, if_false]
  by_cases h4 : k = 4
  · simp only [h4, if_true]; cases inB n 0 1 <;> simp
  simp only [h4, if_false]
attribute [local irreducible] impl_ValOk.f

theorem impl_ValText_l0 (k n : Int) (s : ByteArray) (hs : s.size ≤ 1000000000000) : ∀ i : Nat, i ≤ s.size →
    Ev (fun j => impl_ValText.l0 j (i : Int) k n s) (if ((bytesOf s).drop i).all plC = true then ((⟨#[39]⟩ : ByteArray) ++ s) ++ (⟨#[39]⟩ : ByteArray) else ⟨#[]⟩) := by
  refine up_ind s.size (fun i : Nat => Ev (fun j => impl_ValText.l0 j (i : Int) k n s) (if ((bytesOf s).drop i).all plC = true then ((⟨#[39]⟩ : ByteArray) ++ s) ++ (⟨#[39]⟩ : ByteArray) else ⟨#[]⟩)) ?_ ?_
  · refine ev_succ ?_
    have h1 : ¬ ((s.size : Int) < (s.size : Int)) := by omega
    have q1 : 1 + s.size ≤ 9223372036854775807 := by omega
    have q2 : ((⟨#[39]⟩ : ByteArray) ++ s).size + 1 ≤ 9223372036854775807 := by rw [ByteArray.size_append]; have : (⟨#[39]⟩ : ByteArray).size = 1 := rfl; omega
    simp only [impl_ValText.l0.eq_2, h1, if_false, q1, q2, if_true]
    rw [List.drop_eq_nil_of_le (by rw [bytesOf_len]; omega)]
    exact ev_some _
  · intro i hi ih
    refine ev_succ ?_
    have hib : i < (bytesOf s).length := by rw [bytesOf_len]; exact hi
    have h1 : (i : Int) < (s.size : Int) := by omega
    have h2 : (0 : Int) ≤ (i : Int) := by omega
    have hb := bt_byte s i hi
    simp only [impl_ValText.l0.eq_2, h1, h2, if_true, wsucc (show i < 9223372036854775807 by omega)]
    rw [List.drop_eq_getElem_cons hib, List.all_cons, ← bt_get s i hi]
    unfold plC inB
    by_cases c1 : bt s (i : Int) < 32
    · have : ¬ (32 ≤ bt s (i : Int) ∧ bt s (i : Int) ≤ 126) := by omega
      simp only [c1, if_true, this, decide_false, Bool.false_and, Bool.false_eq_true, if_false]; exact ev_some _
    · by_cases c2 : bt s (i : Int) > 126
      · have : ¬ (32 ≤ bt s (i : Int) ∧ bt s (i : Int) ≤ 126) := by omega
        simp only [c1, c2, if_true, this, decide_false, Bool.false_and, Bool.false_eq_true, if_false]; exact ev_some _
      · have hin : 32 ≤ bt s (i : Int) ∧ bt s (i : Int) ≤ 126 := by omega
        by_cases c3 : bt s (i : Int) = 39
        · simp only [c1, c2, if_false]
          simp only [c3, if_true, decide_true, Bool.not_true, Bool.and_false, Bool.false_and, Bool.false_eq_true, if_false]; exact ev_some _
        · simp only [c1, c2, c3, if_false, decide_eq_true hin, decide_false, Bool.not_false, Bool.and_true, Bool.true_and]
          exact ih
theorem impl_ValText_ev (k n : Int) (s : ByteArray) (hs : s.size ≤ 1000000000000) : Ev (fun j => impl_ValText.f j k n s) (valText k n s) := by
  unfold impl_ValText.f valText
  simp only [impl_ValOk_eq, Option.bind_some]
  cases hv : valOkB k n s with
  | false =>
    simp only [Bool.false_eq_true, if_false, Bool.false_and]
    exact ev_some _
  | true =>
    simp only [if_true, Bool.true_and]
    unfold valTextB
    by_cases k0 : k = 0
    · subst k0
      have he : s = ⟨#[]⟩ := by
        have := fits_cases (t := 1) (null := true) (k := 0) (n := n) (s := s) (by unfold fitsB; rw [hv]; rfl) (by omega)
        rcases this with ⟨_, _, _, h⟩ | ⟨h, _⟩
        · exact h
        · omega
      subst he
      simp only [if_true, plain_empty, show ¬ ((0 : Int) = 1) by decide, show ¬ ((0 : Int) = 2) by decide, show ¬ ((0 : Int) = 3) by decide, show ¬ ((0 : Int) = 4) by decide, if_false]
      exact ev_some _
    by_cases k1 : k = 1
    · subst k1
      obtain ⟨hn, he⟩ := valOk_1 hv
      subst he
      have hl := itoa_len n hn
      have q0 : -9223372036854775808 ≤ n ∧ n ≤ 9223372036854775807 := by omega
      have q : 1 + (⟨(Go.Lib.itoa n).toArray⟩ : ByteArray).size ≤ 9223372036854775807 := by omega
      have e : strconv_Itoa.f n = some ⟨(Go.Lib.itoa n).toArray⟩ := by unfold strconv_Itoa.f; rw [if_pos q0]
      simp only [show ¬ ((1 : Int) = 0) by decide, if_false, if_true, e, Option.bind_some, q, plain_empty]
      exact ev_some _
    by_cases k2 : k = 2
    · subst k2
      obtain ⟨hn, he⟩ := valOk_2 hv
      subst he
      have hl := itoa_len n hn
      have q0 : -9223372036854775808 ≤ n ∧ n ≤ 9223372036854775807 := by omega
      have q : 1 + (⟨(Go.Lib.itoa n).toArray⟩ : ByteArray).size ≤ 9223372036854775807 := by omega
      have e : strconv_Itoa.f n = some ⟨(Go.Lib.itoa n).toArray⟩ := by unfold strconv_Itoa.f; rw [if_pos q0]
      simp only [show ¬ ((2 : Int) = 0) by decide, show ¬ ((2 : Int) = 1) by decide, if_false, if_true, e, Option.bind_some, q, plain_empty]
      exact ev_some _
    by_cases k4 : k = 4
    · subst k4
      have he : s = ⟨#[]⟩ := by
        have := fits_cases (t := 4) (null := false) (k := 4) (n := n) (s := s) (by unfold fitsB; rw [hv]; rfl) (by omega)
        rcases this with ⟨h, _⟩ | ⟨_, ⟨h, _⟩ | ⟨h, _⟩ | ⟨h, _⟩ | ⟨_, _, _, h⟩⟩
        · cases h
        · omega
        · omega
        · omega
        · exact h
      subst he
      simp only [show ¬ ((4 : Int) = 0) by decide, show ¬ ((4 : Int) = 1) by decide, show ¬ ((4 : Int) = 2) by decide, show ¬ ((4 : Int) = 3) by decide, if_false, if_true, plain_empty]
      by_cases n1 : n = 1
      · simp only [n1, if_true]; exact ev_some _
      · simp only [n1, if_false]; exact ev_some _
    · have k3 : k = 3 := by
        unfold valOkB at hv
        rw [if_neg k0, if_neg k1, if_neg k2] at hv
        by_cases k3 : k = 3
        · exact k3
        · rw [if_neg k3, if_neg k4] at hv; cases hv
      simp only [k0, k1, k2, k4, if_false]
      simp only [k3, if_true]
      have := impl_ValText_l0 3 n s hs 0 (by omega)
      rw [List.drop_zero] at this
      exact this
attribute [local irreducible] impl_ValText.f

theorem stringslite_HasPrefix_eq (s : ByteArray) (c : UInt8) : stringslite_HasPrefix.f s ⟨#[c]⟩ = some (decide ((Lb s).head? = some c)) := by
  unfold stringslite_HasPrefix.f
  have e1 : (⟨#[c]⟩ : ByteArray).size = 1 := rfl
  have e2 : Lb (⟨#[c]⟩ : ByteArray) = [c] := rfl
  simp only [e1, Lb_toList, e2, Lb_extract, Int.toNat_natCast]
  by_cases h : 1 ≤ s.size
  · have h1 : (s.size : Int) ≥ ((1 : Nat) : Int) := by omega
    have h2 : (0 : Int) ≤ ((1 : Nat) : Int) := by omega
    have h3 : ((1 : Nat) : Int) ≤ (s.size : Int) := by omega
    simp only [h1, h2, h3, if_true]
    cases hl : Lb s with
    | nil =>
      have := Lb_len s
      rw [hl] at this
      simp only [List.length_nil] at this
      omega
    | cons x r => by_cases hx : x = c <;> simp [hx]
  · have h1 : ¬ (s.size : Int) ≥ ((1 : Nat) : Int) := by omega
    have hl : Lb s = [] := List.eq_nil_of_length_eq_zero (by rw [Lb_len]; omega)
    simp only [h1, if_false, hl]
    simp
attribute [local irreducible] stringslite_HasPrefix.f

theorem strings_HasPrefix_eq (s : ByteArray) (c : UInt8) : strings_HasPrefix.f s ⟨#[c]⟩ = some (decide ((Lb s).head? = some c)) := by
  unfold strings_HasPrefix.f
  rw [stringslite_HasPrefix_eq]
  rfl
attribute [local irreducible] strings_HasPrefix.f

attribute [local irreducible] strconv_Atoi.f

def atoiR (l : List UInt8) : Int × Option Int := match Go.Lib.atoiAll l with | .ok v => (v, none) | .range => (Go.Lib.atoiSat l, some 0) | _ => (0, some 0)
theorem strconv_Atoi_eq (s : ByteArray) (hs : s.size ≤ 1000000000000) : strconv_Atoi.f s = some (atoiR (Lb s)) := by
  unfold strconv_Atoi.f atoiR Lb
  rw [if_pos (by omega)]
  cases Go.Lib.atoiAll s.data.toList <;> rfl
theorem Lb_append (a b : ByteArray) : Lb (a ++ b) = Lb a ++ Lb b := by
  unfold Lb
  rw [ByteArray.data_append, Array.toList_append]
theorem Lb_mk (l : List UInt8) : Lb ⟨l.toArray⟩ = l := rfl
theorem valTextB_ne (k n : Int) (s : ByteArray) : ¬ Lb (valTextB k n s) = [] := by
  unfold valTextB
  split
  · rw [Lb_append]; intro h; cases h
  split
  · rw [Lb_append]; intro h; cases h
  split
  · rw [Lb_append, Lb_append]; intro h; cases h
  split
  · split
    · intro h; cases h
    · intro h; cases h
  · intro h; cases h
def tvR (k n : Int) (S s : ByteArray) : Int × Int × ByteArray × Bool := if (valOkB k n S && plainB S) = true ∧ Lb (valTextB k n S) = Lb s then (k, n, S, true) else noV
theorem tv_ev (K N : Int) (S s : ByteArray) (hS : S.size ≤ 1000000000000) : Ev (fun k => (impl_ValText.f k K N S).bind fun t => if t.toList = ([] : List UInt8) then some ((0 : Int), (0 : Int), (⟨#[]⟩ : ByteArray), false) else if t.toList = s.toList then some (K, N, S, true) else some (0, 0, (⟨#[]⟩ : ByteArray), false)) (tvR K N S s) := by
  refine Ev.bind (impl_ValText_ev K N S hS) ?_
  unfold valText tvR
  have e0 : Lb (⟨#[]⟩ : ByteArray) = [] := rfl
  cases hv : (valOkB K N S && plainB S) with
  | false => simp only [Bool.false_eq_true, if_false, false_and, Lb_toList, e0, if_true]; exact ev_some _
  | true =>
    simp only [if_true, true_and, Lb_toList, valTextB_ne, if_false]
    by_cases h : Lb (valTextB K N S) = Lb s
    · simp only [h, if_true]; exact ev_some _
    · simp only [h, if_false]; exact ev_some _
def j2R (s : ByteArray) (x : Bool) : Int × Int × ByteArray × Bool := if x = true then tvR 3 0 (mid s) s else tvR 0 0 eB s
def numR (s : ByteArray) : Int × Option Int → Int × Int × ByteArray × Bool
  | (v, none) => if bt s 0 = 110 then tvR 2 v eB s else tvR 1 v eB s
  | (_, some _) => noV
def j1R (s : ByteArray) (x : Bool) : Int × Int × ByteArray × Bool := if x = true then numR s (atoiR (Lb s).tail) else j2R s (decide (2 ≤ s.size ∧ bt s 0 = 39))
def j0R (s : ByteArray) (x : Bool) : Int × Int × ByteArray × Bool := if x = true then (if Lb s = [121, 101, 115] then tvR 4 1 eB s else tvR 4 0 eB s) else
  j1R s (decide ((Lb s).head? = some 105) || (decide ((Lb s).head? = some 110) && !decide (Lb s = [110, 117, 108, 108])))
def implP (s : ByteArray) : Int × Int × ByteArray × Bool := if Lb s = [110, 111] then j0R s true else j0R s (decide (Lb s = [121, 101, 115]))
theorem impl_ParseVal_j2 (s : ByteArray) (hs : s.size ≤ 1000000000000) (x : Bool) (hx : x = true → 2 ≤ s.size) : Ev (fun k => impl_ParseVal.j2 k s x 0 0 ⟨#[]⟩) (j2R s x) := by
  refine ev_succ ?_
  unfold j2R
  cases x with
  | false =>
    simp only [impl_ParseVal.j2.eq_2, Bool.false_eq_true, if_false]
    exact tv_ev 0 0 ⟨#[]⟩ s (Nat.zero_le _)
  | true =>
    have h2 := hx rfl
    have hw : wrap64 ((s.size : Int) - 1) = ((s.size - 1 : Nat) : Int) := by rw [w64 (by omega) (by omega)]; omega
    have g1 : (1 : Int) ≤ ((s.size - 1 : Nat) : Int) := by omega
    have g2 : ((s.size - 1 : Nat) : Int) ≤ (s.size : Int) := by omega
    simp only [impl_ParseVal.j2.eq_2, if_true, hw, g1, g2, Int.toNat_natCast]
    exact tv_ev 3 0 (mid s) s (by have := mid_size s; omega)
theorem impl_ParseVal_j1 (s : ByteArray) (hs : s.size ≤ 1000000000000) (x : Bool) (hx : x = true → 1 ≤ s.size) : Ev (fun k => impl_ParseVal.j1 k s x 0 0 ⟨#[]⟩) (j1R s x) := by
  refine ev_succ ?_
  unfold j1R
  cases x with
  | true =>
    have h1 := hx rfl
    have g1 : (1 : Int) ≤ (s.size : Int) := by omega
    have g0 : (0 : Int) < (s.size : Int) := by omega
    have ha := strconv_Atoi_eq (s.extract 1 s.size) (by rw [← Lb_len, Lb_tail, List.length_tail, Lb_len]; omega)
    rw [Lb_tail] at ha
    simp only [impl_ParseVal.j1.eq_2, if_true, g1, ha, Option.bind_some, g0]
    obtain ⟨v, o⟩ := atoiR (Lb s).tail
    cases o with
    | some q => simp only [Option.isNone_some, Bool.false_eq_true, if_false, numR]; exact ev_some _
    | none =>
      simp only [Option.isNone_none, if_true, numR]
      by_cases h : bt s 0 = 110
      · simp only [if_pos h]; exact tv_ev 2 v ⟨#[]⟩ s (Nat.zero_le _)
      · simp only [if_neg h]; exact tv_ev 1 v ⟨#[]⟩ s (Nat.zero_le _)
  | false =>
    simp only [impl_ParseVal.j1.eq_2, Bool.false_eq_true, if_false]
    by_cases h2 : 2 ≤ s.size
    · have g2 : (s.size : Int) ≥ 2 := by omega
      have g0 : (0 : Int) < (s.size : Int) := by omega
      simp only [g2, g0, if_true, h2, true_and]
      have e : (bt s 0 == 39) = decide (bt s 0 = 39) := rfl
      rw [e]
      exact impl_ParseVal_j2 s hs _ (fun _ => h2)
    · have g2 : ¬ (s.size : Int) ≥ 2 := by omega
      simp only [g2, if_false, h2, false_and, decide_false]
      exact impl_ParseVal_j2 s hs false (fun h => by cases h)
theorem impl_ParseVal_j0 (s : ByteArray) (hs : s.size ≤ 1000000000000) (x : Bool) : Ev (fun k => impl_ParseVal.j0 k s x 0 0 ⟨#[]⟩) (j0R s x) := by
  refine ev_succ ?_
  unfold j0R
  cases x with
  | true =>
    simp only [impl_ParseVal.j0.eq_2, if_true]
    by_cases h : Lb s = [121, 101, 115]
    · have h' : s.toList = ([121, 101, 115] : List UInt8) := by rw [Lb_toList]; exact h
      simp only [if_pos h, if_pos h']
      exact tv_ev 4 1 ⟨#[]⟩ s (Nat.zero_le _)
    · have h' : ¬ s.toList = ([121, 101, 115] : List UInt8) := by rw [Lb_toList]; exact h
      simp only [if_neg h, if_neg h']
      exact tv_ev 4 0 ⟨#[]⟩ s (Nat.zero_le _)
  | false =>
    simp only [impl_ParseVal.j0.eq_2, Bool.false_eq_true, if_false, strings_HasPrefix_eq, Option.bind_some]
    have sz : ∀ c, (Lb s).head? = some c → 1 ≤ s.size := fun c h => by
      cases hl : Lb s with
      | nil => rw [hl] at h; cases h
      | cons y r =>
        have := Lb_len s
        rw [hl, List.length_cons] at this
        omega
    by_cases h1 : (Lb s).head? = some 105
    · simp only [h1, decide_true, if_true, Bool.true_or]
      exact impl_ParseVal_j1 s hs true (fun _ => sz _ h1)
    · simp only [h1, decide_false, Bool.false_eq_true, if_false, Bool.false_or]
      by_cases h2 : (Lb s).head? = some 110
      · simp only [h2, decide_true, if_true, Bool.true_and]
        have e : (s.toList != ([110, 117, 108, 108] : List UInt8)) = !decide (Lb s = [110, 117, 108, 108]) := by
          rw [Lb_toList]
          by_cases hn : Lb s = [110, 117, 108, 108]
          · rw [decide_eq_true hn, hn]; rfl
          · rw [decide_eq_false hn]; simp [hn]
        rw [e]
        exact impl_ParseVal_j1 s hs _ (fun _ => sz _ h2)
      · simp only [h2, decide_false, Bool.false_eq_true, if_false, Bool.false_and]
        exact impl_ParseVal_j1 s hs false (fun h => by cases h)
theorem impl_ParseVal_ev' (s : ByteArray) (hs : s.size ≤ 1000000000000) : Ev (fun k => impl_ParseVal.f k s) (implP s) := by
  unfold impl_ParseVal.f implP
  by_cases h : Lb s = [110, 111]
  · have h' : s.toList = ([110, 111] : List UInt8) := by rw [Lb_toList]; exact h
    simp only [if_pos h, if_pos h']
    exact impl_ParseVal_j0 s hs true
  · have h' : ¬ s.toList = ([110, 111] : List UInt8) := by rw [Lb_toList]; exact h
    simp only [if_neg h, if_neg h']
    have e : (s.toList == ([121, 101, 115] : List UInt8)) = decide (Lb s = [121, 101, 115]) := by
      rw [Lb_toList]
      by_cases hn : Lb s = [121, 101, 115]
      · rw [decide_eq_true hn, hn]; rfl
      · rw [decide_eq_false hn]; simp [hn]
    rw [e]
    exact impl_ParseVal_j0 s hs _
theorem ok_e (k n : Int) : plainB eB = true := plain_empty
theorem isE_e : isE eB = true := by unfold isE; rw [Lb_toList]; rfl
theorem vk40 : valOkB 4 0 eB = true := by unfold valOkB; simp [isE_e, inB]
theorem vk41 : valOkB 4 1 eB = true := by unfold valOkB; simp [isE_e, inB]
theorem vk00 : valOkB 0 0 eB = true := by unfold valOkB; simp [isE_e, inB]
theorem num_eq (k : Int) (t : List UInt8) (hk : ∀ v, valOkB k v eB = true → -1000000000000000 ≤ v ∧ v ≤ 1000000000000000) (X : Int → Int × Int × ByteArray × Bool) :
    (match Go.Lib.atoiAll t with | .ok v => if valOkB k v eB = true ∧ Go.Lib.itoa v = t then X v else noV | _ => noV) = if ((parseP t).2 && valOkB k (parseP t).1 eB) = true then X (parseP t).1 else noV := by
  cases hp : parseP t with
  | mk n ok =>
    cases ok with
    | true =>
      obtain ⟨ht, b0, b1⟩ := parseP_ok hp
      have ha : Go.Lib.atoiAll t = .ok n := by rw [ht]; exact atoi_itoa n b0 b1
      rw [ha]
      simp only [← ht, and_true, Bool.true_and]
    | false =>
      simp only [Bool.false_and, Bool.false_eq_true, if_false]
      cases ha : Go.Lib.atoiAll t with
      | ok v =>
        simp only
        rw [if_neg]
        rintro ⟨hv, he⟩
        have hb := hk v hv
        have := parseP_of v (by omega) (by omega)
        rw [he, hp] at this
        cases this
      | _ => rfl
theorem numR_eq (s : ByteArray) (k : Int) (c : UInt8) (hk : k = 1 ∧ c = 105 ∨ k = 2 ∧ c = 110) (hc : bt s 0 = (c.toNat : Int)) (hl : Lb s = c :: (Lb s).tail) :
    numR s (atoiR (Lb s).tail) = if ((parseP (Lb s).tail).2 && valOkB k (parseP (Lb s).tail).1 eB) = true then (k, (parseP (Lb s).tail).1, eB, true) else noV := by
  have hk2 : ∀ v, valOkB k v eB = true → -1000000000000000 ≤ v ∧ v ≤ 1000000000000000 := fun v hv => by
    rcases hk with ⟨rfl, _⟩ | ⟨rfl, _⟩
    · exact (valOk_1 hv).1
    · exact (valOk_2 hv).1
  have ht : ∀ v, tvR k v eB s = if valOkB k v eB = true ∧ Go.Lib.itoa v = (Lb s).tail then (k, v, eB, true) else noV := fun v => by
    unfold tvR
    have e1 : Lb (valTextB k v eB) = c :: Go.Lib.itoa v := by
      rcases hk with ⟨rfl, rfl⟩ | ⟨rfl, rfl⟩
      · unfold valTextB; rw [if_pos rfl, Lb_append, Lb_mk]; rfl
      · unfold valTextB; rw [if_neg (by decide), if_pos rfl, Lb_append, Lb_mk]; rfl
    rw [e1, ok_e k v, Bool.and_true]
    have e2 : (c :: Go.Lib.itoa v = Lb s) ↔ Go.Lib.itoa v = (Lb s).tail := by
      constructor
      · intro h; rw [← h]; rfl
      · intro h; rw [h]; exact hl.symm
    by_cases h1 : valOkB k v eB = true
    · by_cases h2 : Go.Lib.itoa v = (Lb s).tail
      · rw [if_pos ⟨h1, e2.2 h2⟩, if_pos ⟨h1, h2⟩]
      · rw [if_neg (fun h => h2 (e2.1 h.2)), if_neg (fun h => h2 h.2)]
    · rw [if_neg (fun h => h1 h.1), if_neg (fun h => h1 h.1)]
  rw [← num_eq k (Lb s).tail hk2 (fun v => (k, v, eB, true))]
  unfold atoiR
  cases Go.Lib.atoiAll (Lb s).tail with
  | ok v =>
    simp only [numR]
    rcases hk with ⟨rfl, rfl⟩ | ⟨rfl, rfl⟩
    · rw [if_neg (by rw [hc]; decide)]; exact ht v
    · rw [if_pos (by rw [hc]; rfl)]; exact ht v
  | _ => rfl
theorem text_eq (s : ByteArray) (h2 : 2 ≤ s.size) (hc : bt s 0 = 39) : Lb (valTextB 3 0 (mid s)) = Lb s ↔ bt s ((s.size - 1 : Nat) : Int) = 39 := by
  have e1 : Lb (valTextB 3 0 (mid s)) = 39 :: Lb (mid s) ++ [39] := by
    unfold valTextB
    rw [if_neg (by decide), if_neg (by decide), if_pos rfl, Lb_append, Lb_append]; rfl
  rw [e1]
  unfold mid
  rw [Lb_extract]
  have hh := (head_bt s (by omega) 39).2 hc
  have hb := Lb_bt s (s.size - 1) (by omega)
  have hlen := Lb_len s
  rw [hb]
  generalize hx : (Lb s)[s.size - 1]'(by rw [Lb_len]; omega) = x
  cases hl : Lb s with
  | nil => rw [hl] at hh; cases hh
  | cons y r =>
    rw [hl] at hh hlen
    simp only [List.head?_cons, Option.some.injEq] at hh
    subst hh
    simp only [List.length_cons] at hlen
    have hr : r.take (s.size - 2) ++ [x] = r := by
      have hlt : s.size - 2 < r.length := by omega
      have e : r[s.size - 2] = x := by
        rw [← hx]
        have : s.size - 1 = (s.size - 2) + 1 := by omega
        simp only [hl, this, List.getElem_cons_succ]
      rw [← e, List.take_append_getElem hlt, List.take_of_length_le (by omega)]
    have e2 : s.size - 1 - 1 = s.size - 2 := by omega
    rw [e2, List.drop_one, List.tail_cons]
    constructor
    · intro h
      have h3 : r.take (s.size - 2) ++ [39] = r.take (s.size - 2) ++ [x] := by
        rw [hr]
        exact (List.cons.inj h).2
      have := List.append_cancel_left h3
      rw [← (List.cons.inj this).1]
      rfl
    · intro h
      have : x = 39 := UInt8.toNat_inj.1 (by have : x.toNat = 39 := by omega
                                             rw [this]; rfl)
      rw [this] at hr
      show 39 :: (r.take (s.size - 2) ++ [39]) = 39 :: r
      rw [hr]
theorem implP_eq (s : ByteArray) : implP s = specP s := by
  unfold implP specP
  by_cases c2 : Lb s = [110, 111]
  · have n1 : ¬ Lb s = [110, 117, 108, 108] := by rw [c2]; decide
    have n3 : ¬ Lb s = [121, 101, 115] := by rw [c2]; decide
    have e : specV s = (4, 0, eB, true) := by unfold specV; rw [if_neg n1, if_pos c2]
    rw [if_pos c2, e]
    unfold j0R tvR
    rw [if_pos rfl, if_neg n3, c2, if_pos ⟨by rw [vk40, ok_e 4 0]; rfl, rfl⟩, if_pos (by show (true && valOkB 4 0 eB) = true; rw [vk40]; rfl)]
  rw [if_neg c2]
  by_cases c3 : Lb s = [121, 101, 115]
  · have n1 : ¬ Lb s = [110, 117, 108, 108] := by rw [c3]; decide
    have e : specV s = (4, 1, eB, true) := by unfold specV; rw [if_neg n1, if_neg c2, if_pos c3]
    rw [e, decide_eq_true c3]
    unfold j0R tvR
    rw [if_pos rfl, if_pos c3, c3, if_pos ⟨by rw [vk41, ok_e 4 1]; rfl, rfl⟩, if_pos (by show (true && valOkB 4 1 eB) = true; rw [vk41]; rfl)]
  rw [decide_eq_false c3]
  unfold j0R
  rw [if_neg (by decide)]
  by_cases c1 : Lb s = [110, 117, 108, 108]
  · have e : specV s = (0, 0, eB, true) := by unfold specV; rw [if_pos c1]
    have hb : ¬ bt s 0 = 39 := by
      have hz : 0 < s.size := by rw [← Lb_len, c1]; decide
      intro h
      have := (head_bt s hz 39).2 h
      rw [c1] at this
      exact absurd this (by decide)
    have e2 : (decide ((Lb s).head? = some 105) || (decide ((Lb s).head? = some 110) && !decide (Lb s = [110, 117, 108, 108]))) = false := by rw [c1]; decide
    rw [e, e2]
    unfold j1R j2R tvR
    rw [if_neg (by decide), decide_eq_false (fun h => hb h.2), if_neg (by decide), c1, if_pos ⟨by rw [vk00, ok_e 0 0]; rfl, rfl⟩, if_pos (by show (true && valOkB 0 0 eB) = true; rw [vk00]; rfl)]
  rw [decide_eq_false c1, Bool.not_false, Bool.and_true]
  unfold specV
  rw [if_neg c1, if_neg c2, if_neg c3]
  by_cases hz : 0 < s.size
  · obtain ⟨y, r, hl⟩ : ∃ y r, Lb s = y :: r := by
      cases h : Lb s with
      | nil => have := Lb_len s; rw [h] at this; simp only [List.length_nil] at this; omega
      | cons y r => exact ⟨y, r, rfl⟩
    have hcons : Lb s = y :: (Lb s).tail := by rw [hl]; rfl
    have hy : (Lb s).head? = some y := by rw [hl]; rfl
    have hby : bt s 0 = (y.toNat : Int) := (head_bt s hz y).1 hy
    have hds : ∀ c : UInt8, decide ((Lb s).head? = some c) = decide (y = c) := fun c => by rw [hy]; simp
    rw [hds, hds]
    have key : ∀ (k : Int) (c : UInt8), (k = 1 ∧ c = 105 ∨ k = 2 ∧ c = 110) → y = c → numR s (atoiR (Lb s).tail) =
        if ((if s.size < 2 then ((0 : Int), (0 : Int), eB, false) else (k, (parseP (Lb s).tail).1, eB, (parseP (Lb s).tail).2)).2.2.2 && valOkB (if s.size < 2 then ((0 : Int), (0 : Int), eB, false) else (k, (parseP (Lb s).tail).1, eB, (parseP (Lb s).tail).2)).1 (if s.size < 2 then ((0 : Int), (0 : Int), eB, false) else (k, (parseP (Lb s).tail).1, eB, (parseP (Lb s).tail).2)).2.1 (if s.size < 2 then ((0 : Int), (0 : Int), eB, false) else (k, (parseP (Lb s).tail).1, eB, (parseP (Lb s).tail).2)).2.2.1) = true
        then ((if s.size < 2 then ((0 : Int), (0 : Int), eB, false) else (k, (parseP (Lb s).tail).1, eB, (parseP (Lb s).tail).2)).1, (if s.size < 2 then ((0 : Int), (0 : Int), eB, false) else (k, (parseP (Lb s).tail).1, eB, (parseP (Lb s).tail).2)).2.1, (if s.size < 2 then ((0 : Int), (0 : Int), eB, false) else (k, (parseP (Lb s).tail).1, eB, (parseP (Lb s).tail).2)).2.2.1, true) else noV := by
      intro k c hk hyc
      subst hyc
      by_cases h2 : s.size < 2
      · have ht : (Lb s).tail = [] := List.eq_nil_of_length_eq_zero (by rw [List.length_tail, Lb_len]; omega)
        rw [ht]
        simp only [h2, if_true, Bool.false_and, Bool.false_eq_true, if_false]
        rfl
      · simp only [h2, if_false]
        exact numR_eq s k y hk hby hcons
    by_cases h105 : y = 105
    · have b39 : ¬ bt s 0 = 39 := by rw [hby, h105]; decide
      have b105 : bt s 0 = 105 := by rw [hby, h105]; rfl
      rw [decide_eq_true h105, Bool.true_or]
      simp only [if_neg b39, if_pos b105]
      unfold j1R
      rw [if_pos rfl]
      exact key 1 105 (.inl ⟨rfl, rfl⟩) h105
    rw [decide_eq_false h105, Bool.false_or]
    by_cases h110 : y = 110
    · have b39 : ¬ bt s 0 = 39 := by rw [hby, h110]; decide
      have b105 : ¬ bt s 0 = 105 := by rw [hby, h110]; decide
      have b110 : bt s 0 = 110 := by rw [hby, h110]; rfl
      rw [decide_eq_true h110]
      simp only [if_neg b39, if_neg b105, if_pos b110]
      unfold j1R
      rw [if_pos rfl]
      exact key 2 110 (.inr ⟨rfl, rfl⟩) h110
    rw [decide_eq_false h110]
    have b105 : ¬ bt s 0 = 105 := fun h => h105 (UInt8.toNat_inj.1 (by have : y.toNat = 105 := by omega
                                                                       rw [this]; rfl))
    have b110 : ¬ bt s 0 = 110 := fun h => h110 (UInt8.toNat_inj.1 (by have : y.toNat = 110 := by omega
                                                                       rw [this]; rfl))
    unfold j1R
    rw [if_neg (by decide)]
    simp only [if_neg b105, if_neg b110]
    have nul : ∀ r, (if ((if s.size < 2 then ((0 : Int), (0 : Int), eB, false) else (0, 0, eB, false)).2.2.2 && r) = true then ((0 : Int), (0 : Int), eB, true) else noV) = noV := fun r => by
      by_cases h2 : s.size < 2
      · simp only [h2, if_true, Bool.false_and, Bool.false_eq_true, if_false]
      · simp only [h2, if_false, Bool.false_and, Bool.false_eq_true]
    have tv0 : tvR 0 0 eB s = noV := by
      unfold tvR
      have e1 : Lb (valTextB 0 0 eB) = [110, 117, 108, 108] := by rfl
      rw [e1, if_neg (fun h => c1 h.2.symm)]
    by_cases h2 : s.size < 2
    · unfold j2R
      rw [decide_eq_false (fun h => by omega), if_neg (by decide), tv0]
      simp only [h2, if_true, Bool.false_and, Bool.false_eq_true, if_false]
    · simp only [h2, if_false]
      by_cases b39 : bt s 0 = 39
      · unfold j2R
        rw [decide_eq_true ⟨by omega, b39⟩, if_pos rfl]
        simp only [if_pos b39]
        unfold tvR
        have ht := text_eq s (by omega) b39
        by_cases hlast : bt s ((s.size - 1 : Nat) : Int) = 39
        · rw [decide_eq_true hlast, Bool.true_and, Bool.and_comm (plainB (mid s))]
          by_cases hv : (valOkB 3 0 (mid s) && plainB (mid s)) = true
          · rw [if_pos ⟨hv, ht.2 hlast⟩, if_pos hv]
          · rw [if_neg (fun h => hv h.1), if_neg hv]
        · rw [decide_eq_false hlast, Bool.false_and, Bool.false_and, if_neg (fun h => hlast (ht.1 h.2)), if_neg (by decide)]
      · unfold j2R
        rw [decide_eq_false (fun h => b39 h.2), if_neg (by decide), tv0]
        simp only [if_neg b39, Bool.false_and, Bool.false_eq_true, if_false]
  · have hl : Lb s = [] := List.eq_nil_of_length_eq_zero (by rw [Lb_len]; omega)
    have e2 : (decide ((Lb s).head? = some 105) || decide ((Lb s).head? = some 110)) = false := by rw [hl]; rfl
    rw [e2]
    unfold j1R j2R tvR
    have e1 : Lb (valTextB 0 0 eB) = [110, 117, 108, 108] := by rfl
    have h2 : s.size < 2 := by omega
    rw [if_neg (by decide), decide_eq_false (fun h => by omega), if_neg (by decide), e1, if_neg (fun h => c1 h.2.symm)]
    simp only [h2, if_true, Bool.false_and, Bool.false_eq_true, if_false]
theorem impl_ParseVal_ev (s : ByteArray) (hs : s.size ≤ 1000000000000) : Ev (fun k => impl_ParseVal.f k s) (specP s) := by
  rw [← implP_eq]
  exact impl_ParseVal_ev' s hs
attribute [local irreducible] impl_ParseVal.f

theorem laws_eqVal_refl (a b : Int) (s : ByteArray) : laws_eqVal.f a b s a b s = some true := by unfold laws_eqVal.f; simp
attribute [local irreducible] laws_eqVal.f

--import B
--import K
--import D
theorem FnExactParseVal (s : ByteArray) (hs : s.size ≤ 140737488351232) : ∃ k, laws_FnExactParseVal.f k s = some true := by
  refine Ev.rounds ?_
  unfold laws_FnExactParseVal.f
  by_cases h : (s.size : Int) > 1048576
  · simp only [h, if_true]; exact ev_some _
  simp only [h, if_false]
  have hz : s.size ≤ 1000000000000 := by omega
  refine Ev.bind (spec_ParseVal_ev s hz) ?_
  refine Ev.bind (impl_ParseVal_ev s hz) ?_
  have e : ∀ (a b : Int) (t : ByteArray), laws_eqVal.f a b t a b t = some true := fun a b t => by unfold laws_eqVal.f; simp
  simp only [e, Option.bind_some, if_true, bne_self_eq_false, Bool.false_eq_true, if_false]
  exact ev_some _

end Go.Proofs.YtoeaaochnceofaaDoor.Pure

/- What is read of drawn bytes as a part fits, and has these bytes; of two drawn values one is less as the reference has it, and not both. No condition. -/
import Derived.Test.YtnfmpopmigbkoaaPFnPartsReadx16
import Derived.Test.YtnfmpopmigbkoaaUFnPartsRead
namespace Go.Proofs.Ytnfmpopmigbkoaa.Pure
open Go.RowKit Go.Proofs.Ytnfmpopmigbkoaa.PFnPartsRead Go.Proofs.YtnfmpopmigbkoaaW.PrintWords Go.Proofs.YtnfmpopmigbkoaaW.PrintLast Go.Proofs.YtnfmpopmigbkoaaW.PrintMore Go.Proofs.YtnfmpopmigbkoaaM
set_option linter.unusedVariables false
set_option linter.unusedSimpArgs false


theorem impl_in_eq (a b c : Int) : impl_in.f a b c = some (inB a b c) := in_ite a b c
attribute [local irreducible] impl_in.f

theorem impl_PartOk_eq (a0 a1 : Int) (a2 a3 : Bool) : impl_PartOk.f a0 a1 a2 a3 = some (partOkB a0 a1) := by
  unfold impl_PartOk.f partOkB
  simp only [impl_in_eq, Option.bind_some]
  cases inB a0 0 9 <;> simp
attribute [local irreducible] impl_PartOk.f

theorem impl_ValOk_eq (k n : Int) (s : ByteArray) : impl_ValOk.f k n s = some (valOkB k n s) := by
  unfold impl_ValOk.f valOkB isE
  simp only [impl_in_eq, Option.bind_some]
  by_cases h0 : k = 0
  · simp only [h0, if_true]; by_cases hn : n = 0 <;> simp [hn]
  simp only [h0, if_false]
  by_cases h1 : k = 1
  · simp only [h1, if_true]; cases inB n (-2147483648) 2147483647 <;> simp
  simp only [h1, if_false]
  by_cases h2 : k = 2
  · simp only [h2, if_true]; cases inB n (-1000000000000000) 1000000000000000 <;> simp
  simp only [h2, if_false]
  by_cases h3 : k = 3
  · simp only [h3, if_true]; by_cases hn : n = 0 <;> by_cases hs : (s.size : Int) ≤ 30 <;> simp [hn, hs]
  simp only [h3, if_false]
  by_cases h4 : k = 4
  · simp only [h4, if_true]; cases inB n 0 1 <;> simp
  simp only [h4, if_false]
attribute [local irreducible] impl_ValOk.f

theorem impl_Fits_eq (a0 t : Int) (null a3 : Bool) (k n : Int) (s : ByteArray) : impl_Fits.f a0 t null a3 k n s = some (fitsB t null k n s) := by
  unfold impl_Fits.f fitsB
  simp only [impl_ValOk_eq, Option.bind_some]
  cases valOkB k n s
  · simp
  · simp only [if_true, Bool.true_and]
    by_cases h1 : k = t
    · rw [if_pos h1]
      by_cases h0 : k = 0
      · rw [if_pos h0, if_pos h0]
      · rw [if_neg h0, if_neg h0]; simp [h1]
    · rw [if_neg h1]
      by_cases h0 : k = 0
      · rw [if_pos h0, if_pos h0]
      · rw [if_neg h0, if_neg h0]; simp [h1]
attribute [local irreducible] impl_Fits.f

theorem impl_copyBytes_eq (l : List Int) (h : l.length < 140737488355328) : impl_copyBytes.f l = some l := by
  unfold impl_copyBytes.f
  simp only [List.length_nil, Nat.zero_add, List.nil_append]
  rw [if_pos h]
attribute [local irreducible] impl_copyBytes.f

theorem impl_Flip_l0 (l : List Int) (hl : l.length ≤ 140737480000000) (hb : IsB l) (p : Nat) : ∀ i : Nat, i ≤ l.length → p ≤ i → ∀ xs : List Int, xs.length = l.length → xs.drop i = l.drop i →
    Ev (fun k => impl_Flip.l0 k xs (i : Int)) (xs.take i ++ (l.drop i).map fun x => 255 - x) := by
  refine up_ind l.length (fun i : Nat => p ≤ i → ∀ xs : List Int, xs.length = l.length → xs.drop i = l.drop i → Ev (fun k => impl_Flip.l0 k xs (i : Int)) (xs.take i ++ (l.drop i).map fun x => 255 - x)) ?_ ?_
  · intro _ xs hx _
    refine ev_succ ?_
    have h1 : ¬ ((l.length : Int) < (xs.length : Int)) := by omega
    simp only [impl_Flip.l0.eq_2, h1, if_false]
    rw [List.take_of_length_le (by omega), List.drop_eq_nil_of_le (by omega), List.map_nil, List.append_nil]
    exact ev_some _
  · intro i hi ih hp xs hx he
    refine ev_succ ?_
    have hxi : i < xs.length := by omega
    have h1 : (i : Int) < (xs.length : Int) := by omega
    have h2 : (0 : Int) ≤ (i : Int) := by omega
    have h3 : xs[i] = l[i] := by
      have := congrArg (fun l => l[0]?) he
      simp only [List.getElem?_drop, Nat.add_zero] at this
      rw [List.getElem?_eq_getElem hxi, List.getElem?_eq_getElem hi] at this
      exact Option.some.inj this
    obtain ⟨g0, g1⟩ := hb.get i hi
    simp only [impl_Flip.l0.eq_2, h1, h2, if_true, Int.toNat_natCast, rd_nat xs i hxi, h3, xor255 l[i] g0 g1, wsucc (show i < 9223372036854775807 by omega)]
    have := ih (by omega) (xs.set i (255 - l[i])) (by simp [hx]) (by
      rw [List.drop_set_of_lt (by omega)]
      have := congrArg (List.drop 1) he
      simpa [List.drop_drop, Nat.add_comm] using this)
    rw [take_set_succ _ _ _ hxi, List.append_assoc] at this
    rw [List.drop_eq_getElem_cons hi]
    exact this
theorem impl_Flip_ev (l : List Int) (p : Int) (hl : l.length ≤ 140737480000000) (hb : IsB l) : Ev (fun k => impl_Flip.f k l p) (flipB l p) := by
  unfold impl_Flip.f
  simp only [impl_copyBytes_eq l (by omega), Option.bind_some]
  have e : mx p 0 = ((p.toNat : Nat) : Int) := by unfold mx; split <;> omega
  rw [e]
  by_cases hp : p.toNat ≤ l.length
  · exact impl_Flip_l0 l hl hb p.toNat p.toNat hp (Nat.le_refl _) l rfl rfl
  · refine ev_succ ?_
    have h1 : ¬ (((p.toNat : Nat) : Int) < (l.length : Int)) := by omega
    simp only [impl_Flip.l0.eq_2, h1, if_false]
    unfold flipB
    rw [List.take_of_length_le (by omega), List.drop_eq_nil_of_le (by omega), List.map_nil, List.append_nil]
    exact ev_some _
attribute [local irreducible] impl_Flip.f

theorem impl_addBytes_l0 (n : Nat) (t : Bool) (c : Nat) : ∀ o : List Int, c ≤ 7 → o.length + c < 140737488355328 →
    Ev (fun k => impl_addBytes.l0 k o (n : Int) (if t = true then 255 else 0) ((c : Int) - 1)) (o ++ (beB n c).map fun x => if t = true then 255 - x else x) := by
  induction c with
  | zero =>
    intro o _ _
    refine ev_succ ?_
    have h1 : ¬ (((0 : Nat) : Int) - 1 ≥ 0) := by decide
    simp only [impl_addBytes.l0.eq_2, h1, if_false, beB, List.map_nil, List.append_nil]
    exact ev_some _
  | succ c ih =>
    intro o hc ho
    refine ev_succ ?_
    have e1 : ((c + 1 : Nat) : Int) - 1 = (c : Int) := by omega
    have h1 : (c : Int) ≥ 0 := by omega
    have h2 : wrap64 (8 * (c : Int)) = ((8 * c : Nat) : Int) := by rw [w64 (by omega) (by omega)]; omega
    have h3 : (0 : Int) ≤ ((8 * c : Nat) : Int) := by omega
    have h4 : o.length < 140737488355328 := by omega
    have h5 : wrap64 ((c : Int) - 1) = (c : Int) - 1 := w64 (by omega) (by omega)
    have h6 : shr .i64 (n : Int) ((8 * c : Nat) : Int) % 256 = ((n / 256 ^ c % 256 : Nat) : Int) := by
      unfold shr
      rw [Int.toNat_natCast, show min (8 * c) IntKind.i64.bits = 8 * c from Nat.min_eq_left (by simp [IntKind.bits]; omega), Nat.pow_mul' 2 8 c |> fun e => show (2 : Int) ^ (8 * c) = ((256 ^ c : Nat) : Int) by rw [Int.pow_mul]; simp]
      omega
    have h7 : bits .xor .u8 ((n / 256 ^ c % 256 : Nat) : Int) (if t = true then 255 else 0) = if t = true then 255 - ((n / 256 ^ c % 256 : Nat) : Int) else ((n / 256 ^ c % 256 : Nat) : Int) := by
      cases t with
      | true => simp only [if_true]; exact xor_255 _ (by omega) (by omega)
      | false => simp only [Bool.false_eq_true, if_false]; exact xor0 _ (by omega) (by omega)
    simp only [impl_addBytes.l0.eq_2, e1, h1, h2, h3, h4, h5, h6, h7, if_true]
    have := ih (o ++ [if t = true then 255 - ((n / 256 ^ c % 256 : Nat) : Int) else ((n / 256 ^ c % 256 : Nat) : Int)]) (by omega) (by simp only [List.length_append, List.length_cons, List.length_nil]; omega)
    rw [List.append_assoc] at this
    exact this
theorem impl_addBytes_ev (o : List Int) (n : Nat) (c : Nat) (t : Bool) (τ : Int) (hτ : τ = if t = true then 255 else 0) (hc : c ≤ 7) (ho : o.length ≤ 140737480000000) :
    Ev (fun k => impl_addBytes.f k o (n : Int) (c : Int) τ) (o ++ (beB n c).map fun x => if t = true then 255 - x else x) := by
  subst hτ
  unfold impl_addBytes.f
  rw [w64 (by omega) (by omega)]
  exact impl_addBytes_l0 n t c o hc (by omega)
attribute [local irreducible] impl_addBytes.f

theorem impl_clamp_eq (n lo hi : Int) : impl_clamp.f n lo hi = some (clampN n lo hi) := rfl
attribute [local irreducible] impl_clamp.f

theorem impl_addFix_ev (l : List Int) (n : Int) (h : l.length ≤ 140737480000000) : Ev (fun k => impl_addFix.f k l n) (l ++ fixB n) := by
  unfold impl_addFix.f
  have hc := clampN_spec n (-2147483648) 2147483647 (by omega)
  simp only [impl_clamp_eq, Option.bind_some]
  have e : wrap64 (clampN n (-2147483648) 2147483647 + 2147483648) = (((clampN n (-2147483648) 2147483647 + 2147483648).toNat : Nat) : Int) := by rw [w64 (by omega) (by omega)]; omega
  rw [e]
  have := impl_addBytes_ev l (clampN n (-2147483648) 2147483647 + 2147483648).toNat 4 false 0 rfl (by omega) h
  have e2 : (beB (clampN n (-2147483648) 2147483647 + 2147483648).toNat 4).map (fun x : Int => if false = true then 255 - x else x) = fixB n := by
    unfold fixB
    simp only [beB, List.map_cons, List.map_nil, Bool.false_eq_true, if_false, List.cons.injEq, and_true, Nat.pow_zero, Nat.pow_one]
    omega
  rw [e2] at this
  exact Ev.bind this (ev_some _)
attribute [local irreducible] impl_addFix.f

theorem impl_bytesOf_l0 (n : Nat) : ∀ c : Nat, c + n ≤ 4611686018427387904 → Ev (fun k => impl_bytesOf.l0 k (n : Int) (c : Int)) ((c + nB n : Nat) : Int) := by
  induction n using Nat.strongRecOn with
  | _ n ih =>
    intro c hc
    refine ev_succ ?_
    by_cases h : n = 0
    · subst h
      have h1 : ¬ (((0 : Nat) : Int) > 0) := by decide
      simp only [impl_bytesOf.l0.eq_2, h1, if_false, nB_zero, Nat.add_zero]
      exact ev_some _
    · have h1 : (n : Int) > 0 := by omega
      have h2 : wrap64 ((c : Int) + 1) = ((c + 1 : Nat) : Int) := wsucc (by omega)
      have h3 : (n : Int) / 256 = ((n / 256 : Nat) : Int) := by omega
      simp only [impl_bytesOf.l0.eq_2, h1, if_true, h2, h3]
      have := ih (n / 256) (by omega) (c + 1) (by omega)
      rw [nB_pos h, show c + (nB (n / 256) + 1) = c + 1 + nB (n / 256) by omega]
      exact this
theorem impl_bytesOf_ev (n : Nat) (h : n ≤ 4611686018427387904) : Ev (fun k => impl_bytesOf.f k (n : Int)) ((nB n : Nat) : Int) := by
  unfold impl_bytesOf.f
  simpa using impl_bytesOf_l0 n 0 (by omega)
attribute [local irreducible] impl_bytesOf.f

theorem impl_addVar_ev (l : List Int) (n : Int) (h : l.length ≤ 140737470000000) : Ev (fun k => impl_addVar.f k l n) (l ++ varB n) := by
  unfold impl_addVar.f
  have hc := varN_spec n
  simp only [impl_clamp_eq, Option.bind_some, show clampN n (-1000000000000000) 1000000000000000 = varN n from rfl]
  unfold varB
  simp only
  by_cases h0 : 0 ≤ varN n
  · have h0' : varN n ≥ 0 := h0
    rw [if_pos h0]
    simp only [h0', if_true]
    obtain ⟨m, hm⟩ := Int.eq_ofNat_of_zero_le h0
    rw [hm] at hc ⊢
    simp only [Int.toNat_natCast]
    have h7 := nB_7 (n := m) (by omega)
    refine Ev.bind (impl_bytesOf_ev m (by omega)) ?_
    have h1 : l.length < 140737488355328 := by omega
    have e : wrap64 (128 + ((nB m : Nat) : Int)) % 256 = 128 + (nB m : Int) := by rw [w64 (by omega) (by omega)]; omega
    simp only [h1, if_true, e]
    have := impl_addBytes_ev (l ++ [128 + (nB m : Int)]) m (nB m) false 0 rfl h7 (by simp only [List.length_append, List.length_cons, List.length_nil]; omega)
    simp only [Bool.false_eq_true, if_false, List.map_id'] at this
    rw [List.append_assoc] at this
    exact Ev.bind this (ev_some _)
  · have h0' : ¬ (varN n ≥ 0) := h0
    rw [if_neg h0]
    simp only [h0', if_false]
    have e0 : wrap64 (-1 - varN n) = (((-1 - varN n).toNat : Nat) : Int) := by rw [w64 (by omega) (by omega)]; omega
    rw [e0]
    have hm : (-1 - varN n).toNat ≤ 1000000000000000 := by omega
    generalize (-1 - varN n).toNat = m at hm
    have h7 := nB_7 (n := m) (by omega)
    refine Ev.bind (impl_bytesOf_ev m (by omega)) ?_
    have h1 : l.length < 140737488355328 := by omega
    have e : wrap64 (127 - ((nB m : Nat) : Int)) % 256 = 127 - (nB m : Int) := by rw [w64 (by omega) (by omega)]; omega
    simp only [h1, if_true, e]
    have := impl_addBytes_ev (l ++ [127 - (nB m : Int)]) m (nB m) true 255 rfl h7 (by simp only [List.length_append, List.length_cons, List.length_nil]; omega)
    simp only [if_true] at this
    rw [List.append_assoc] at this
    exact Ev.bind this (ev_some _)
attribute [local irreducible] impl_addVar.f

theorem impl_addEsc_l0 (s : ByteArray) (hs : s.size ≤ 1048576) : ∀ i : Nat, i ≤ s.size → ∀ o : List Int, o.length + 2 * (s.size - i) + 2 < 140737488355328 →
    Ev (fun k => impl_addEsc.l0 k o s (i : Int)) (o ++ escB ((bytesOf s).drop i)) := by
  refine up_ind s.size (fun i : Nat => ∀ o : List Int, o.length + 2 * (s.size - i) + 2 < 140737488355328 → Ev (fun k => impl_addEsc.l0 k o s (i : Int)) (o ++ escB ((bytesOf s).drop i))) ?_ ?_
  · intro o ho
    refine ev_succ ?_
    have h1 : ¬ ((s.size : Int) < (s.size : Int)) := by omega
    have h2 : o.length + ([0, 1] : List Int).length < 140737488355328 := by simp only [List.length_cons, List.length_nil]; omega
    simp only [impl_addEsc.l0.eq_2, h1, if_false, Option.bind_some, h2, if_true]
    rw [List.drop_eq_nil_of_le (by rw [bytesOf_len]; omega)]
    exact ev_some _
  · intro i hi ih o ho
    refine ev_succ ?_
    have hib : i < (bytesOf s).length := by rw [bytesOf_len]; exact hi
    have h1 : (i : Int) < (s.size : Int) := by omega
    have h2 : (0 : Int) ≤ (i : Int) := by omega
    have h3 : o.length < 140737488355328 := by omega
    have h4 : (o ++ [(bytesOf s)[i]]).length < 140737488355328 := by simp only [List.length_append, List.length_cons, List.length_nil]; omega
    simp only [impl_addEsc.l0.eq_2, h1, h2, h3, h4, if_true, Option.bind_some, bt_get s i hi, wsucc (show i < 9223372036854775807 by omega)]
    rw [List.drop_eq_getElem_cons hib]
    by_cases hz : (bytesOf s)[i] = 0
    · have := ih (o ++ [(bytesOf s)[i]] ++ [255]) (by simp only [List.length_append, List.length_cons, List.length_nil]; omega)
      rw [escB, if_pos hz]
      rw [List.append_assoc, List.append_assoc] at this
      simp only [hz, if_true]
      rw [hz] at this
      simpa using this
    · have := ih (o ++ [(bytesOf s)[i]]) (by simp only [List.length_append, List.length_cons, List.length_nil]; omega)
      rw [escB, if_neg hz]
      rw [List.append_assoc] at this
      simp only [hz, if_false]
      exact this
theorem impl_addEsc_ev (l : List Int) (s : ByteArray) (h : l.length ≤ 140737480000000) (hs : s.size ≤ 1048576) : Ev (fun k => impl_addEsc.f k l s) (l ++ escB (bytesOf s)) := by
  unfold impl_addEsc.f
  simpa using impl_addEsc_l0 s hs 0 (by omega) l (by omega)
attribute [local irreducible] impl_addEsc.f

theorem flipB_behind (l x : List Int) : flipB (l ++ x) (l.length : Int) = l ++ turnL x := flipB_at l x
theorem impl_addPart_j2 (l h : List Int) (hl : l.length + h.length ≤ 140737460000000) (hb : IsB l) (hh : IsB h) (c t : Int) (null desc : Bool) (k n : Int) (s : ByteArray) (hs : s.size ≤ 30) :
    Ev (fun j => impl_addPart.j2 j (l ++ h) (l.length : Int) c t null desc k n s) (l ++ turnB desc (h ++ valB k n s)) := by
  refine ev_succ ?_
  have hll : (l ++ h).length ≤ 140737460000000 := by rw [List.length_append]; omega
  have hv := valB_len k n s hs
  have tail : ∀ v : List Int, valB k n s = v → Ev (fun j => if desc = true then (impl_Flip.f j (l ++ h ++ v) (l.length : Int)).bind fun t => some t else some (l ++ h ++ v)) (l ++ turnB desc (h ++ v)) := by
    intro v hvv
    cases desc with
    | false => simp only [Bool.false_eq_true, if_false, turnB, List.append_assoc]; exact ev_some _
    | true =>
      simp only [if_true, turnB]
      have hib : IsB (l ++ h ++ v) := (hb.append hh).append (by rw [← hvv]; exact valB_isB k n s)
      have e := flipB_behind l (h ++ v)
      rw [← e, ← List.append_assoc]
      exact Ev.bind (impl_Flip_ev _ _ (by rw [List.length_append]; rw [hvv] at hv; omega) hib) (ev_some _)
  simp only [impl_addPart.j2.eq_2]
  by_cases k1 : k = 1
  · have e : valB k n s = fixB n := by unfold valB; rw [if_pos k1]
    simp only [k1, if_true]
    rw [k1] at e
    rw [e]
    refine Ev.bind (impl_addFix_ev (l ++ h) n (by omega)) ?_
    exact tail _ (by rw [k1]; exact e)
  by_cases k2 : k = 2
  · have e : valB k n s = varB n := by unfold valB; rw [if_neg k1, if_pos k2]
    simp only [k1, if_false]
    simp only [k2, if_true]
    rw [k2] at e
    rw [e]
    refine Ev.bind (impl_addVar_ev (l ++ h) n (by omega)) ?_
    exact tail _ (by rw [k2]; exact e)
  by_cases k3 : k = 3
  · have e : valB k n s = escB (bytesOf s) := by unfold valB; rw [if_neg k1, if_neg k2, if_pos k3]
    simp only [k1, k2, if_false]
    simp only [k3, if_true]
    rw [k3] at e
    rw [e]
    refine Ev.bind (impl_addEsc_ev (l ++ h) s (by omega) (by omega)) ?_
    exact tail _ (by rw [k3]; exact e)
  by_cases k4 : k = 4
  · have e : valB k n s = [n % 256] := by unfold valB; rw [if_neg k1, if_neg k2, if_neg k3, if_pos k4]
    have h1 : (l ++ h).length < 140737488355328 := by omega
    simp only [k1, k2, k3, if_false]
    simp only [k4, if_true, h1, Option.bind_some]
    rw [k4] at e
    rw [e]
    exact tail _ (by rw [k4]; exact e)
  · have e : valB k n s = [] := by unfold valB; rw [if_neg k1, if_neg k2, if_neg k3, if_neg k4]
    simp only [k1, k2, k3, k4, if_false, e]
    have := tail [] e
    simpa using this
theorem impl_addPart_ev (l : List Int) (hl : l.length ≤ 140737450000000) (hb : IsB l) (c t : Int) (null desc : Bool) (k n : Int) (s : ByteArray) :
    Ev (fun j => impl_addPart.f j l c t null desc k n s) (l ++ putPart c t null desc k n s) := by
  unfold impl_addPart.f
  simp only [impl_PartOk_eq, impl_Fits_eq, Option.bind_some]
  by_cases hok : okPV c t null k n s = true
  · have h2 := hok
    unfold okPV at h2
    rw [Bool.and_eq_true] at h2
    have hs := okPV_size hok
    have e : putPart c t null desc k n s = turnB desc (bareB null k n s) := by unfold putPart partB; rw [if_pos hok]
    rw [e]
    simp only [h2.1, h2.2, if_true, Bool.not_true]
    refine ev_succ ?_
    have hlt : l.length < 140737488355328 := by omega
    simp only [impl_addPart.j0.eq_2, Bool.false_eq_true, if_false]
    unfold bareB
    cases hn : null with
    | false =>
      simp only [Bool.false_eq_true, if_false]
      refine ev_succ ?_
      simp only [impl_addPart.j1.eq_2, Bool.false_eq_true, if_false]
      have := impl_addPart_j2 l [] (by simp only [List.length_nil]; omega) hb IsB.nil c t false desc k n s hs
      simpa [headB] using this
    | true =>
      simp only [if_true]
      refine ev_succ ?_
      by_cases hk : k = 0
      · have hk' : (k == 0) = true := by simp [hk]
        simp only [impl_addPart.j1.eq_2, hk', if_true, hlt]
        have := impl_addPart_j2 l [0] (by simp only [List.length_cons, List.length_nil]; omega) hb (IsB.cons (by omega) (by omega) IsB.nil) c t true desc k n s hs
        simpa [headB, hk] using this
      · have hk' : (k == 0) = false := by simp [hk]
        simp only [impl_addPart.j1.eq_2, hk', Bool.false_eq_true, if_false, if_true, hlt]
        have := impl_addPart_j2 l [1] (by simp only [List.length_cons, List.length_nil]; omega) hb (IsB.cons (by omega) (by omega) IsB.nil) c t true desc k n s hs
        simpa [headB, hk] using this
  · have e : putPart c t null desc k n s = [] := by unfold putPart; rw [if_neg hok]
    rw [e, List.append_nil]
    unfold okPV at hok
    cases hp : partOkB c t with
    | false =>
      simp only [Bool.false_eq_true, if_false]
      refine ev_succ ?_
      simp only [impl_addPart.j0.eq_2, if_true]
      exact ev_some _
    | true =>
      rw [hp, Bool.true_and] at hok
      have hf : fitsB t null k n s = false := by simpa using hok
      simp only [if_true, hf, Bool.not_false]
      refine ev_succ ?_
      simp only [impl_addPart.j0.eq_2, if_true]
      exact ev_some _
attribute [local irreducible] impl_addPart.f

theorem impl_PutPart_ev (l : List Int) (hl : l.length ≤ 140737450000000) (hb : IsB l) (c t : Int) (null desc : Bool) (k n : Int) (s : ByteArray) :
    Ev (fun j => impl_PutPart.f j l c t null desc k n s) (l ++ putPart c t null desc k n s) := by
  unfold impl_PutPart.f
  simp only [impl_copyBytes_eq l (by omega), Option.bind_some]
  exact Ev.bind (impl_addPart_ev l hl hb c t null desc k n s) (ev_some _)
attribute [local irreducible] impl_PutPart.f

theorem spec_l1In_eq (a b c : Int) : spec_l1In.f a b c = some (inB a b c) := in_ite a b c
attribute [local irreducible] spec_l1In.f

theorem spec_PartOk_eq (a0 a1 : Int) (a2 a3 : Bool) : spec_PartOk.f a0 a1 a2 a3 = some (partOkB a0 a1) := by
  unfold spec_PartOk.f partOkB
  simp only [spec_l1In_eq, Option.bind_some]
  cases inB a0 0 9 <;> simp
attribute [local irreducible] spec_PartOk.f

theorem spec_Flip_l0 (l : List Int) (hl : l.length ≤ 140737480000000) (hb : IsB l) (p : Int) : ∀ i : Nat, i ≤ l.length → ∀ xs : List Int, xs.length = l.length → xs.drop i = l.drop i →
    Ev (fun k => spec_Flip.l0 k p xs (i : Int)) (xs.take i ++ flipB (l.drop i) (p - i)) := by
  refine up_ind l.length (fun i : Nat => ∀ xs : List Int, xs.length = l.length → xs.drop i = l.drop i → Ev (fun k => spec_Flip.l0 k p xs (i : Int)) (xs.take i ++ flipB (l.drop i) (p - i))) ?_ ?_
  · intro xs hx _
    refine ev_succ ?_
    have h1 : ¬ ((l.length : Int) < (xs.length : Int)) := by omega
    simp only [spec_Flip.l0.eq_2, h1, if_false]
    rw [List.take_of_length_le (by omega), List.drop_eq_nil_of_le (by omega)]
    simp only [flipB, List.take_nil, List.drop_nil, List.map_nil, List.append_nil]
    exact ev_some _
  · intro i hi ih xs hx he
    refine ev_succ ?_
    have hxi : i < xs.length := by omega
    have h1 : (i : Int) < (xs.length : Int) := by omega
    have h2 : (0 : Int) ≤ (i : Int) := by omega
    have h3 : xs[i] = l[i] := by
      have := congrArg (fun l => l[0]?) he
      simp only [List.getElem?_drop, Nat.add_zero] at this
      rw [List.getElem?_eq_getElem hxi, List.getElem?_eq_getElem hi] at this
      exact Option.some.inj this
    have he' : xs.drop (i + 1) = l.drop (i + 1) := by
      have := congrArg (List.drop 1) he
      simpa [List.drop_drop, Nat.add_comm] using this
    obtain ⟨g0, g1⟩ := hb.get i hi
    by_cases hp : (i : Int) ≥ p
    · simp only [spec_Flip.l0.eq_2, h1, h2, hp, if_true, Int.toNat_natCast, rd_nat xs i hxi, h3, xor255 l[i] g0 g1, wsucc (show i < 9223372036854775807 by omega)]
      have := ih (xs.set i (255 - l[i])) (by simp [hx]) (by rw [List.drop_set_of_lt (by omega)]; exact he')
      rw [take_set_succ _ _ _ hxi, List.append_assoc] at this
      rw [List.drop_eq_getElem_cons hi]
      have e : flipB (l[i] :: l.drop (i + 1)) (p - (i : Int)) = (255 - l[i]) :: flipB (l.drop (i + 1)) (p - ((i + 1 : Nat) : Int)) := by
        unfold flipB
        rw [show (p - (i : Int)).toNat = 0 by omega, show (p - ((i + 1 : Nat) : Int)).toNat = 0 by omega]
        rfl
      rw [e]
      exact this
    · simp only [spec_Flip.l0.eq_2, h1, hp, if_true, if_false, wsucc (show i < 9223372036854775807 by omega)]
      have := ih xs hx he'
      have e1 : xs.take (i + 1) = xs.take i ++ [l[i]] := by rw [List.take_succ_eq_append_getElem hxi, h3]
      rw [e1, List.append_assoc] at this
      rw [List.drop_eq_getElem_cons hi]
      have e : flipB (l[i] :: l.drop (i + 1)) (p - (i : Int)) = l[i] :: flipB (l.drop (i + 1)) (p - ((i + 1 : Nat) : Int)) := by
        unfold flipB
        rw [show (p - (i : Int)).toNat = (p - ((i + 1 : Nat) : Int)).toNat + 1 by omega]
        rfl
      rw [e]
      exact this
theorem spec_Flip_ev (l : List Int) (p : Int) (hl : l.length ≤ 140737480000000) (hb : IsB l) : Ev (fun k => spec_Flip.f k l p) (flipB l p) := by
  unfold spec_Flip.f
  have h1 : ([] : List Int).length + l.length < 140737488355328 := by simp only [List.length_nil]; omega
  simp only [Option.bind_some, h1, if_true, List.nil_append]
  have := spec_Flip_l0 l hl hb p 0 (by omega) l rfl rfl
  simpa using this
attribute [local irreducible] spec_Flip.f

theorem spec_l4Read_l0 (l : List Int) (hl : l.length ≤ 140737488355328) (hb : IsB l) (p c : Nat) (hc : c ≤ 7) (hpc : p + c ≤ l.length) (t : Bool) : ∀ i : Nat, i ≤ c → ∀ x : Nat, x < 256 ^ i →
    Ev (fun k => spec_l4Read.l0 k l (p : Int) (c : Int) t (x : Int) (i : Int)) (((beN x ((((l.drop p).take c).drop i).map fun y => if t = true then 255 - y else y) : Nat) : Int), true) := by
  have hlen : ((l.drop p).take c).length = c := by rw [List.length_take, List.length_drop]; omega
  refine up_ind c (fun i : Nat => ∀ x : Nat, x < 256 ^ i → Ev (fun k => spec_l4Read.l0 k l (p : Int) (c : Int) t (x : Int) (i : Int)) (((beN x ((((l.drop p).take c).drop i).map fun y => if t = true then 255 - y else y) : Nat) : Int), true)) ?_ ?_
  · intro x _
    refine ev_succ ?_
    have h1 : ¬ ((c : Int) < (c : Int)) := by omega
    simp only [spec_l4Read.l0.eq_2, h1, if_false]
    rw [List.drop_eq_nil_of_le (by omega)]
    exact ev_some _
  · intro i hi ih x hx
    refine ev_succ ?_
    have h1 : (i : Int) < (c : Int) := by omega
    have hpi : p + i < l.length := by omega
    have h2 : wrap64 ((p : Int) + (i : Int)) = ((p + i : Nat) : Int) := by rw [w64 (by omega) (by omega)]; omega
    have h3 : (0 : Int) ≤ ((p + i : Nat) : Int) := by omega
    have h4 : ((p + i : Nat) : Int) < (l.length : Int) := by omega
    have hx7 : x < 281474976710656 := Nat.lt_of_lt_of_le hx (by have := Nat.pow_le_pow_right (show 0 < 256 by omega) (show i ≤ 6 by omega); simpa using this)
    obtain ⟨g0, g1⟩ := hb.get (p + i) hpi
    have h8 : wrap64 ((i : Int) + 1) = ((i + 1 : Nat) : Int) := wsucc (by omega)
    have hii : i < ((l.drop p).take c).length := by omega
    have hget : ((l.drop p).take c)[i] = l[p + i] := by rw [List.getElem_take, List.getElem_drop]
    have h5 : wrap64 ((x : Int) * 256) = (x : Int) * 256 := w64 (by omega) (by omega)
    have hw : ∀ v : Int, 0 ≤ v → v ≤ 255 → wrap64 v = v := fun v h h' => w64 (by omega) (by omega)
    have key : ∀ v : Nat, v ≤ 255 → (v : Int) = (if t = true then 255 - l[p + i] else l[p + i]) →
        Ev (fun k => spec_l4Read.l0 k l (p : Int) (c : Int) t ((x : Int) * 256 + (v : Int)) ((i + 1 : Nat) : Int)) (((beN x ((((l.drop p).take c).drop i).map fun y => if t = true then 255 - y else y) : Nat) : Int), true) := by
      intro v hv hve
      rw [List.drop_eq_getElem_cons hii, List.map_cons, beN, hget, ← hve]
      have := ih (x * 256 + v) (by rw [Nat.pow_succ]; omega)
      rw [show (x : Int) * 256 + (v : Int) = ((x * 256 + v : Nat) : Int) by omega]
      simpa using this
    cases t with
    | true =>
      simp only [spec_l4Read.l0.eq_2, h1, h2, h3, h4, h5, h8, if_true, rd_nat l (p + i) hpi, xor255 _ g0 g1, hw (255 - l[p + i]) (by omega) (by omega)]
      rw [or_hi_lo (x : Int) (255 - l[p + i]) (by omega) (by omega) (by omega) (by omega)]
      have := key (255 - l[p + i]).toNat (by omega) (by simp only [if_true]; omega)
      rw [show (((255 - l[p + i]).toNat : Nat) : Int) = 255 - l[p + i] by omega] at this
      exact this
    | false =>
      simp only [spec_l4Read.l0.eq_2, h1, h2, h3, h4, h5, h8, if_true, Bool.false_eq_true, if_false, rd_nat l (p + i) hpi, hw l[p + i] g0 g1]
      rw [or_hi_lo (x : Int) l[p + i] (by omega) (by omega) (by omega) (by omega)]
      have := key l[p + i].toNat (by omega) (by simp only [Bool.false_eq_true, if_false]; omega)
      rw [show ((l[p + i].toNat : Nat) : Int) = l[p + i] by omega] at this
      exact this
theorem spec_l4Read_ev (l : List Int) (hl : l.length ≤ 140737488355328) (hb : IsB l) (p : Int) (c : Nat) (hc : c ≤ 7) (t : Bool) (hp : -9223372036854775808 ≤ p ∧ p ≤ 9223372036854775807) :
    Ev (fun k => spec_l4Read.f k l p (c : Int) t) (readR (readB l p c t)) := by
  unfold spec_l4Read.f
  by_cases h0 : p < 0
  · simp only [h0, if_true]
    refine ev_succ ?_
    simp only [spec_l4Read.j0.eq_2, if_true]
    rw [readB_neg (by omega)]
    exact ev_some _
  · by_cases h1 : p > (l.length : Int)
    · simp only [h0, h1, if_true, if_false]
      refine ev_succ ?_
      simp only [spec_l4Read.j0.eq_2, if_true]
      rw [readB_neg (by omega)]
      exact ev_some _
    · have e1 : wrap64 ((l.length : Int) - p) = (l.length : Int) - p := w64 (by omega) (by omega)
      simp only [h0, h1, if_false, e1]
      refine ev_succ ?_
      by_cases h2 : (c : Int) > (l.length : Int) - p
      · simp only [spec_l4Read.j0.eq_2, h2, decide_true, if_true]
        rw [readB_neg (by omega)]
        exact ev_some _
      · simp only [spec_l4Read.j0.eq_2, h2, decide_false, Bool.false_eq_true, if_false]
        obtain ⟨q, rfl⟩ := Int.eq_ofNat_of_zero_le (show 0 ≤ p by omega)
        have := spec_l4Read_l0 l hl hb q c hc (by omega) t 0 (by omega) 0 (by decide)
        rw [readB_pos (by omega) (by omega)]
        exact this
attribute [local irreducible] spec_l4Read.f

theorem spec_GetFix_ev (l : List Int) (hl : l.length ≤ 140737480000000) (hb : IsB l) (p : Int) (hp : -9223372036854775808 ≤ p ∧ p ≤ 9223372036854775807) : Ev (fun k => spec_GetFix.f k l p) (getFix l p) := by
  unfold spec_GetFix.f getFix
  refine Ev.bind (spec_l4Read_ev l (by omega) hb p 4 (by omega) false hp) ?_
  cases h : readB l p 4 false with
  | none => simp only [readR, Bool.false_eq_true, if_false]; exact ev_some _
  | some n =>
    obtain ⟨h0, h1, hn⟩ := readB_some hb h
    have e1 : wrap64 ((n : Int) - 2147483648) = (n : Int) - 2147483648 := w64 (by omega) (by omega)
    have e2 : wrap64 (p + 4) = p + 4 := w64 (by omega) (by omega)
    simp only [readR, if_true, e1, e2]; exact ev_some _
attribute [local irreducible] spec_GetFix.f

theorem spec_l4Bytes_l0 (n : Nat) : ∀ o : List Int, o.length + n < 140737488355328 * 1000000 → o.length + nB n ≤ 1000 → Ev (fun k => spec_l4Bytes.l0 k (n : Int) o) (beB n (nB n) ++ o) := by
  induction n using Nat.strongRecOn with
  | _ n ih =>
    intro o ho ho2
    refine ev_succ ?_
    by_cases h : n = 0
    · subst h
      have h1 : ¬ (((0 : Nat) : Int) > 0) := by decide
      simp only [spec_l4Bytes.l0.eq_2, h1, if_false, nB_zero, beB, List.nil_append]
      exact ev_some _
    · have h1 : (n : Int) > 0 := by omega
      have h3 : (n : Int) / 256 = ((n / 256 : Nat) : Int) := by omega
      have h4 : (n : Int) % 256 = ((n % 256 : Nat) : Int) := by omega
      have h5 := nB_pos h
      have h6 : [((n % 256 : Nat) : Int)].length + o.length < 140737488355328 := by simp only [List.length_cons, List.length_nil]; omega
      simp only [spec_l4Bytes.l0.eq_2, h1, if_true, h3, h4, Option.bind_some, h6]
      have := ih (n / 256) (by omega) ([((n % 256 : Nat) : Int)] ++ o) (by simp only [List.length_append, List.length_cons, List.length_nil]; omega) (by simp only [List.length_append, List.length_cons, List.length_nil]; omega)
      rw [h5, beB_snoc, List.append_assoc]
      exact this
theorem spec_l4Bytes_ev (n : Nat) (h : n ≤ 1000000000000000) : Ev (fun k => spec_l4Bytes.f k (n : Int)) (beB n (nB n)) := by
  unfold spec_l4Bytes.f
  have := spec_l4Bytes_l0 n [] (by simp only [List.length_nil]; omega) (by have := nB_7 h; simp only [List.length_nil]; omega)
  simpa using this
attribute [local irreducible] spec_l4Bytes.f

theorem spec_PutVar_j1 (l : List Int) (n : Int) (h : l.length ≤ 140737470000000) (hn : -1000000000000000 ≤ n ∧ n ≤ 1000000000000000) : Ev (fun k => spec_PutVar.j1 k l n) (l ++ varB n) := by
  refine ev_succ ?_
  have e : varN n = n := (clampN_spec n (-1000000000000000) 1000000000000000 (by omega)).2.2.1 hn.1 hn.2
  have h1 : l.length < 140737488355328 := by omega
  unfold varB
  simp only [e]
  by_cases h0 : 0 ≤ n
  · have h0' : n ≥ 0 := h0
    rw [if_pos h0]
    obtain ⟨m, rfl⟩ := Int.eq_ofNat_of_zero_le h0
    simp only [spec_PutVar.j1.eq_2, h0', if_true, Int.toNat_natCast]
    have h7 := nB_7 (n := m) (by omega)
    refine Ev.bind (spec_l4Bytes_ev m (by omega)) ?_
    have e1 : wrap64 (128 + ((nB m : Nat) : Int)) % 256 = 128 + (nB m : Int) := by rw [w64 (by omega) (by omega)]; omega
    have h2 : (l ++ [128 + (nB m : Int)]).length + nB m < 140737488355328 := by simp only [List.length_append, List.length_cons, List.length_nil]; omega
    simp only [Option.bind_some, List.length_nil, Nat.zero_add, List.nil_append, h1, if_true, beB_len, e1, h2]
    rw [List.append_assoc]
    exact ev_some _
  · have h0' : ¬ (n ≥ 0) := h0
    rw [if_neg h0]
    have e0 : wrap64 (-1 - n) = (((-1 - n).toNat : Nat) : Int) := by rw [w64 (by omega) (by omega)]; omega
    have hm : (-1 - n).toNat ≤ 1000000000000000 := by omega
    simp only [spec_PutVar.j1.eq_2, h0', if_false, e0]
    generalize (-1 - n).toNat = m at hm
    have h7 := nB_7 (n := m) (by omega)
    refine Ev.bind (spec_l4Bytes_ev m (by omega)) ?_
    have e1 : wrap64 (127 - ((nB m : Nat) : Int)) % 256 = 127 - (nB m : Int) := by rw [w64 (by omega) (by omega)]; omega
    have h2 : (l ++ [127 - (nB m : Int)]).length + nB m < 140737488355328 := by simp only [List.length_append, List.length_cons, List.length_nil]; omega
    simp only [Option.bind_some, List.length_nil, Nat.zero_add, List.nil_append, h1, if_true, beB_len, e1]
    refine Ev.bind (spec_Flip_ev (beB m (nB m)) 0 (by rw [beB_len]; omega) (beB_isB _ _)) ?_
    have e2 : flipB (beB m (nB m)) 0 = (beB m (nB m)).map fun x => 255 - x := by simp [flipB]
    simp only [flipB_len, beB_len, h2, if_true]
    rw [List.append_assoc, e2]
    exact ev_some _
theorem spec_PutVar_ev (l : List Int) (n : Int) (h : l.length ≤ 140737470000000) : Ev (fun k => spec_PutVar.f k l n) (l ++ varB n) := by
  unfold spec_PutVar.f
  have hc := clampN_spec n (-1000000000000000) 1000000000000000 (by omega)
  have hv : ∀ m : Int, varN n = m → -1000000000000000 ≤ m ∧ m ≤ 1000000000000000 → varB m = varB n := by
    intro m hm hr
    have e : varN m = m := (clampN_spec m (-1000000000000000) 1000000000000000 (by omega)).2.2.1 hr.1 hr.2
    unfold varB; rw [e, hm]
  by_cases h1 : n > 1000000000000000
  · simp only [h1, if_true]
    refine ev_succ ?_
    rw [← hv 1000000000000000 (hc.2.2.2.2 h1) (by omega)]
    simp only [spec_PutVar.j0.eq_2, show ¬ ((1000000000000000 : Int) < -1000000000000000) by decide, if_false]
    exact spec_PutVar_j1 l _ h (by omega)
  · simp only [h1, if_false]
    refine ev_succ ?_
    by_cases h2 : n < -1000000000000000
    · simp only [spec_PutVar.j0.eq_2, h2, if_true]
      rw [← hv (-1000000000000000) (hc.2.2.2.1 h2) (by omega)]
      exact spec_PutVar_j1 l _ h (by omega)
    · simp only [spec_PutVar.j0.eq_2, h2, if_false]
      exact spec_PutVar_j1 l n h (by omega)
attribute [local irreducible] spec_PutVar.f

theorem spec_GetVar_tail (n : Nat) (hn : n < 72057594037927936) (p : Int) (c : Nat) (hc : c ≤ 7) (t : Bool) (m : Int) (hm : m = if t = true then -1 - (n : Int) else (n : Int)) (h : inB m (-1000000000000000) 1000000000000000 = true) :
    ((varB m).length : Int) = (c : Int) + 1 ↔ nB n = c := by
  have hl := varB_length m h
  have hr := of_decide_eq_true h
  have e : (if 0 ≤ m then m.toNat else (-1 - m).toNat) = n := by
    cases t with
    | true => simp only [if_true] at hm; rw [if_neg (by omega)]; omega
    | false => simp only [Bool.false_eq_true, if_false] at hm; rw [if_pos (by omega)]; omega
  rw [e] at hl
  omega
theorem spec_GetVar_ev (l : List Int) (hl : l.length ≤ 140737480000000) (hb : IsB l) (p : Int) (hp : -9223372036854775808 ≤ p ∧ p ≤ 9223372036854775807) : Ev (fun k => spec_GetVar.f k l p) (getVar l p) := by
  unfold spec_GetVar.f getVar
  by_cases h0 : p < 0
  · simp only [h0, if_true]
    rw [if_neg (by omega)]
    refine ev_succ ?_
    simp only [spec_GetVar.j0.eq_2, if_true]
    exact ev_some _
  · simp only [h0, if_false]
    by_cases h1 : p ≥ (l.length : Int)
    · simp only [h1, if_true]
      rw [if_neg (by omega)]
      refine ev_succ ?_
      simp only [spec_GetVar.j0.eq_2, if_true]
      exact ev_some _
    · have a1 : (0 : Int) ≤ p := by omega
      have a2 : p < (l.length : Int) := by omega
      rw [if_pos ⟨a1, a2⟩]
      obtain ⟨g0, g1⟩ := rd_isB hb p
      have e1 : wrap64 (rd l p) = rd l p := w64 (by omega) (by omega)
      simp only [h1, if_false, a1, a2, if_true, e1, spec_l1In_eq, Option.bind_some]
      by_cases hin : 120 ≤ rd l p ∧ rd l p ≤ 135
      · have hin' : (!inB (rd l p) 120 135) = false := by unfold inB; rw [decide_eq_true hin]; rfl
        refine ev_succ ?_
        have e2 : wrap64 (rd l p - 128) = rd l p - 128 := w64 (by omega) (by omega)
        have e4 : wrap64 (p + 1) = p + 1 := w64 (by omega) (by omega)
        simp only [spec_GetVar.j0.eq_2, hin', Bool.false_eq_true, if_false, a1, a2, if_true, e1, e2, e4]
        clear e1 e2 e4
        by_cases hneg : rd l p - 128 < 0
        · simp only [hneg, if_true]
          rw [if_neg (by omega), if_pos (by omega)]
          have e3 : wrap64 (-1 - (rd l p - 128)) = (((127 - rd l p).toNat : Nat) : Int) := by rw [w64 (by omega) (by omega)]; omega
          rw [e3]
          have hc7 : (127 - rd l p).toNat ≤ 7 := by omega
          generalize (127 - rd l p).toNat = c at hc7
          clear e3
          refine Ev.bind (spec_l4Read_ev l (by omega) hb (p + 1) c hc7 true (by omega)) ?_
          cases h : readB l (p + 1) c true with
          | none => simp only [readR, getVarR, Bool.false_eq_true, if_false]; exact ev_some _
          | some n =>
            obtain ⟨_, hpc, hn⟩ := readB_some hb h
            have hn7 : n < 72057594037927936 := Nat.lt_of_lt_of_le hn (by have := Nat.pow_le_pow_right (show 0 < 256 by omega) hc7; simpa using this)
            have e5 : wrap64 (-1 - (n : Int)) = -1 - (n : Int) := w64 (by omega) (by omega)
            have e6 : wrap64 ((c : Int) + 1) = (c : Int) + 1 := w64 (by omega) (by omega)
            have e7 : wrap64 (p + 1 + (c : Int)) = p + 1 + (c : Int) := w64 (by omega) (by omega)
            simp only [readR, getVarR, if_true, e5, e6, e7, spec_l1In_eq, Option.bind_some]
            cases hI : inB (-1 - (n : Int)) (-1000000000000000) 1000000000000000 with
            | false => simp only [Bool.false_eq_true, and_false, if_false]; exact ev_some _
            | true =>
              have key := spec_GetVar_tail n hn7 p c hc7 true (-1 - (n : Int)) rfl hI
              simp only [if_true, and_true]
              refine Ev.bind (spec_PutVar_ev [] (-1 - (n : Int)) (by simp only [List.length_nil]; omega)) ?_
              simp only [List.nil_append, key]
              by_cases hc2 : nB n = c
              · simp only [hc2, if_true]; exact ev_some _
              · simp only [hc2, if_false]; exact ev_some _
        · simp only [hneg, if_false]
          rw [if_pos (by omega)]
          have e3 : rd l p - 128 = (((rd l p - 128).toNat : Nat) : Int) := by omega
          have hc7 : (rd l p - 128).toNat ≤ 7 := by omega
          rw [e3, Int.toNat_natCast]
          generalize (rd l p - 128).toNat = c at hc7
          clear e3
          refine Ev.bind (spec_l4Read_ev l (by omega) hb (p + 1) c hc7 false (by omega)) ?_
          cases h : readB l (p + 1) c false with
          | none => simp only [readR, getVarR, Bool.false_eq_true, if_false]; exact ev_some _
          | some n =>
            obtain ⟨_, hpc, hn⟩ := readB_some hb h
            have hn7 : n < 72057594037927936 := Nat.lt_of_lt_of_le hn (by have := Nat.pow_le_pow_right (show 0 < 256 by omega) hc7; simpa using this)
            have e6 : wrap64 ((c : Int) + 1) = (c : Int) + 1 := w64 (by omega) (by omega)
            have e7 : wrap64 (p + 1 + (c : Int)) = p + 1 + (c : Int) := w64 (by omega) (by omega)
            simp only [readR, getVarR, if_true, e6, e7, Bool.false_eq_true, if_false, spec_l1In_eq, Option.bind_some]
            cases hI : inB (n : Int) (-1000000000000000) 1000000000000000 with
            | false => simp only [Bool.false_eq_true, and_false, if_false]; exact ev_some _
            | true =>
              have key := spec_GetVar_tail n hn7 p c hc7 false (n : Int) rfl hI
              simp only [if_true, and_true]
              refine Ev.bind (spec_PutVar_ev [] (n : Int) (by simp only [List.length_nil]; omega)) ?_
              simp only [List.nil_append, key]
              by_cases hc2 : nB n = c
              · simp only [hc2, if_true]; exact ev_some _
              · simp only [hc2, if_false]; exact ev_some _
      · have hin' : (!inB (rd l p) 120 135) = true := by unfold inB; rw [decide_eq_false hin]; rfl
        rw [if_neg (by omega), if_neg (by omega)]
        refine ev_succ ?_
        simp only [spec_GetVar.j0.eq_2, hin', if_true]
        exact ev_some _
attribute [local irreducible] spec_GetVar.f

theorem spec_GetEsc_l0 (l : List Int) (hl : l.length ≤ 140737488355327) (d : Nat) : ∀ (p : Nat) (o : List Int), l.length - p = d → (p : Int) ≤ 9223372036854775807 → o.length + (l.length - p) ≤ 140737488355327 →
    Ev (fun k => spec_GetEsc.l0 k l (p : Int) o) (getER (getEB o p (l.drop p))) := by
  induction d using Nat.strongRecOn with
  | _ d ih =>
    intro p o hd hp63 ho
    refine ev_succ ?_
    have a1 : (0 : Int) ≤ (p : Int) := by omega
    by_cases hp : p < l.length
    · have b1 : (p : Int) < (l.length : Int) := by omega
      have b2 : o.length < 140737488355328 := by omega
      have b3 : wrap64 ((p : Int) + 1) = ((p + 1 : Nat) : Int) := wsucc (by omega)
      simp only [spec_GetEsc.l0.eq_2, a1, b1, b2, b3, if_true, rd_nat l p hp]
      rw [List.drop_eq_getElem_cons hp]
      by_cases hz : l[p] = 0
      · by_cases hp1 : p + 1 < l.length
        · have c1 : ¬ (((p + 1 : Nat) : Int) = (l.length : Int)) := by omega
          have c2 : (0 : Int) ≤ ((p + 1 : Nat) : Int) := by omega
          have c3 : ((p + 1 : Nat) : Int) < (l.length : Int) := by omega
          have c4 : wrap64 ((p : Int) + 2) = ((p + 2 : Nat) : Int) := by rw [w64 (by omega) (by omega)]; omega
          simp only [hz, if_true, c1, if_false, c2, c3, rd_nat l (p + 1) hp1]
          rw [List.drop_eq_getElem_cons hp1, getEB_cons]
          by_cases h1 : l[p + 1] = 1
          · simp only [h1, if_true]
            refine ev_succ ?_
            simp only [spec_GetEsc.j1.eq_2, Bool.false_eq_true, if_false, b3, c2, c3, if_true, rd_nat l (p + 1) hp1, h1, c4]
            exact ev_some _
          · simp only [h1, if_false]
            by_cases h255 : l[p + 1] = 255
            · refine ev_succ ?_
              simp only [spec_GetEsc.j1.eq_2, h255, bne_self_eq_false, Bool.false_eq_true, if_false, b3, c2, c3, if_true, rd_nat l (p + 1) hp1, b2, c4, show ¬ ((255 : Int) = 1) by decide]
              exact ih (l.length - (p + 2)) (by omega) (p + 2) (o ++ [0]) rfl (by omega) (by simp only [List.length_append, List.length_cons, List.length_nil]; omega)
            · have hne : (l[p + 1] != 255) = true := by simpa using h255
              refine ev_succ ?_
              simp only [spec_GetEsc.j1.eq_2, hne, if_true, h255, if_false]
              exact ev_some _
        · have c1 : ((p + 1 : Nat) : Int) = (l.length : Int) := by omega
          simp only [hz, if_true, c1]
          rw [List.drop_eq_nil_of_le (by omega), getEB_one]
          refine ev_succ ?_
          simp only [spec_GetEsc.j1.eq_2, if_true]
          exact ev_some _
      · simp only [hz, if_false]
        have := ih (l.length - (p + 1)) (by omega) (p + 1) (o ++ [l[p]]) rfl (by omega) (by simp only [List.length_append, List.length_cons, List.length_nil]; omega)
        rw [getEB_ne _ _ _ _ hz]
        exact this
    · have b1 : ¬ ((p : Int) < (l.length : Int)) := by omega
      simp only [spec_GetEsc.l0.eq_2, b1, if_false]
      rw [List.drop_eq_nil_of_le (by omega), getEB_nil]
      exact ev_some _
theorem spec_GetEsc_ev (l : List Int) (hl : l.length ≤ 140737480000000) (hb : IsB l) (p : Int) (hp : -9223372036854775808 ≤ p ∧ p ≤ 9223372036854775807) : Ev (fun k => spec_GetEsc.f k l p) (getEsc l p) := by
  unfold spec_GetEsc.f getEsc
  by_cases h0 : 0 ≤ p
  · obtain ⟨q, rfl⟩ := Int.eq_ofNat_of_zero_le h0
    have a1 : ¬ ((q : Int) < 0) := by omega
    simp only [a1, if_false]
    rw [if_pos h0]
    exact spec_GetEsc_l0 l (by omega) _ q [] rfl (by omega) (by simp only [List.length_nil]; omega)
  · have a1 : p < 0 := by omega
    simp only [a1, if_true]
    rw [if_neg h0]
    exact ev_some _
attribute [local irreducible] spec_GetEsc.f

theorem spec_l5Get_ev (l : List Int) (hl : l.length ≤ 140737480000000) (hb : IsB l) (t p : Int) (ht : 1 ≤ t ∧ t ≤ 4) (hp : -9223372036854775808 ≤ p ∧ p ≤ 9223372036854775807) : Ev (fun k => spec_l5Get.f k l t p) (getTyped l t p) := by
  unfold spec_l5Get.f getTyped
  by_cases t1 : t = 1
  · simp only [t1, if_true]
    exact Ev.bind (spec_GetFix_ev l hl hb p hp) (ev_some _)
  by_cases t2 : t = 2
  · simp only [t1, if_false]
    simp only [t2, if_true]
    exact Ev.bind (spec_GetVar_ev l hl hb p hp) (ev_some _)
  by_cases t3 : t = 3
  · simp only [t1, t2, if_false]
    simp only [t3, if_true]
    exact Ev.bind (spec_GetEsc_ev l hl hb p hp) (ev_some _)
  · have t4 : t = 4 := by omega
    simp only [t1, t2, t3, if_false]
    simp only [t4, if_true]
    have hr := rd_isB hb p
    by_cases h0 : 0 ≤ p
    · have h0' : p ≥ 0 := h0
      by_cases h1 : p < (l.length : Int)
      · simp only [h0, h0', h1, if_true, and_self, w64 (x := rd l p) (by omega) (by omega), w64 (x := p + 1) (by omega) (by omega)]
        exact ev_some _
      · simp only [h0', h1, if_true, if_false, and_false]
        exact ev_some _
    · have h0' : ¬ (p ≥ 0) := h0
      simp only [h0, h0', if_false, false_and]
      exact ev_some _
attribute [local irreducible] spec_l5Get.f

theorem spec_ValOk_eq (k n : Int) (s : ByteArray) : spec_ValOk.f k n s = some (valOkB k n s) := by
  unfold spec_ValOk.f valOkB isE
  simp only [spec_l1In_eq, Option.bind_some]
  by_cases h0 : k = 0
  · simp only [h0, if_true]; by_cases hn : n = 0 <;> simp [hn]
  simp only [h0, if_false]
  by_cases h1 : k = 1
  · simp only [h1, if_true]; cases inB n (-2147483648) 2147483647 <;> simp
  simp only [h1, if_false]
  by_cases h2 : k = 2
  · simp only [h2, if_true]; cases inB n (-1000000000000000) 1000000000000000 <;> simp
  simp only [h2, if_false]
  by_cases h3 : k = 3
  · simp only [h3, if_true]; by_cases hn : n = 0 <;> by_cases hs : (s.size : Int) ≤ 30 <;> simp [hn, hs]
  simp only [h3, if_false]
  by_cases h4 : k = 4
  · simp only [h4, if_true]; cases inB n 0 1 <;> simp
  simp only [h4, if_false]
attribute [local irreducible] spec_ValOk.f

theorem spec_GetPart_fit (l : List Int) (t : Int) (ht : 1 ≤ t ∧ t ≤ 4) (null : Bool) (p : Int) : (if (getTyped l t p).2.2.2.2 = true then ((spec_ValOk.f (getTyped l t p).1 (getTyped l t p).2.1 (getTyped l t p).2.2.1).bind fun t375 => (if t375 = true then (some ((getTyped l t p).1, (getTyped l t p).2.1, (getTyped l t p).2.2.1, (getTyped l t p).2.2.2.1, true)) else (some (0, 0, (⟨#[]⟩ : ByteArray), 0, false)))) else (some (0, 0, (⟨#[]⟩ : ByteArray), 0, false))) = some (fitR t null (getTyped l t p)) := by
  have h1 := getTyped_fst l t p
  revert h1
  generalize getTyped l t p = r
  obtain ⟨a, b, s, q, e⟩ := r
  intro h1
  simp only at h1
  subst h1
  simp only [spec_ValOk_eq, Option.bind_some]
  unfold fitR noPart
  simp only [fits_valOk ht.1]
  cases e with
  | false => simp
  | true =>
    cases hf : valOkB a b s with
    | false => simp [hf]
    | true => simp [hf]
theorem spec_GetPart_j2 (l : List Int) (hl : l.length ≤ 140737480000000) (hb : IsB l) (c t : Int) (ht : 1 ≤ t ∧ t ≤ 4) (null desc : Bool) (p : Int) (hp : -9223372036854775808 ≤ p ∧ p ≤ 9223372036854775807) :
    Ev (fun k => spec_GetPart.j2 k p l c t null desc) (fitR t null (getTyped l t p)) := by
  refine ev_succ ?_
  simp only [spec_GetPart.j2.eq_2]
  refine Ev.bind (spec_l5Get_ev l hl hb t p ht hp) ?_
  rw [spec_GetPart_fit l t ht null p]
  exact ev_some _
theorem spec_GetPart_j4 (l : List Int) (hl : l.length ≤ 140737480000000) (hb : IsB l) (c t : Int) (ht : 1 ≤ t ∧ t ≤ 4) (null desc : Bool) (p : Int) (hp : -9223372036854775808 ≤ p ∧ p ≤ 9223372036854775807) :
    Ev (fun k => spec_GetPart.j4 k p l c t null desc) (fitR t null (getTyped l t p)) := by
  refine ev_succ ?_
  simp only [spec_GetPart.j4.eq_2]
  refine Ev.bind (spec_l5Get_ev l hl hb t p ht hp) ?_
  rw [spec_GetPart_fit l t ht null p]
  exact ev_some _
/-- what the reference reads at a place, the whole turned or not -/
def getBare2 (l : List Int) (t : Int) (null : Bool) (p : Int) : Int × Int × ByteArray × Int × Bool := if p < (l.length : Int) then getBare l t null p else noPart
theorem rd_01 {l : List Int} (hb : IsB l) (p : Int) (h : ¬ rd l p = 0) (h1 : ¬ rd l p > 1) : rd l p = 1 := by
  have := rd_isB hb p
  omega
theorem spec_GetPart_j1 (l : List Int) (hl : l.length ≤ 140737480000000) (hb : IsB l) (c t : Int) (ht : 1 ≤ t ∧ t ≤ 4) (desc : Bool) (p : Int) (hp : 0 ≤ p ∧ p < l.length) :
    Ev (fun k => spec_GetPart.j1 k p l (decide (rd l p > 1)) c t true desc) (getBare l t true p) := by
  refine ev_succ ?_
  have w1 : wrap64 (p + 1) = p + 1 := w64 (by omega) (by omega)
  have h0 := hp.1
  have h1 := hp.2
  unfold getBare
  simp only [spec_GetPart.j1.eq_2, if_true, h0, h1, w1]
  by_cases r0 : rd l p = 0
  · simp only [r0, if_true, show ¬ ((0 : Int) > 1) by decide, decide_false, Bool.false_eq_true, if_false]; exact ev_some _
  · by_cases r2 : rd l p > 1
    · have r1 : ¬ rd l p = 1 := by omega
      simp only [r0, r1, r2, decide_true, if_true, if_false]; exact ev_some _
    · have r1 := rd_01 hb p r0 r2
      simp only [r1, show ¬ ((1 : Int) > 1) by decide, show ¬ ((1 : Int) = 0) by decide, decide_false, Bool.false_eq_true, if_false, if_true]
      exact spec_GetPart_j2 _ hl hb c t ht true desc (p + 1) (by omega)
theorem spec_GetPart_j3 (l : List Int) (hl : l.length ≤ 140737480000000) (hb : IsB l) (c t : Int) (ht : 1 ≤ t ∧ t ≤ 4) (desc : Bool) (p : Int) (hp : 0 ≤ p ∧ p < l.length) :
    Ev (fun k => spec_GetPart.j3 k p l (decide (rd l p > 1)) c t true desc) (getBare l t true p) := by
  refine ev_succ ?_
  have w1 : wrap64 (p + 1) = p + 1 := w64 (by omega) (by omega)
  have h0 := hp.1
  have h1 := hp.2
  unfold getBare
  simp only [spec_GetPart.j3.eq_2, if_true, h0, h1, w1]
  by_cases r0 : rd l p = 0
  · simp only [r0, if_true, show ¬ ((0 : Int) > 1) by decide, decide_false, Bool.false_eq_true, if_false]; exact ev_some _
  · by_cases r2 : rd l p > 1
    · have r1 : ¬ rd l p = 1 := by omega
      simp only [r0, r1, r2, decide_true, if_true, if_false]; exact ev_some _
    · have r1 := rd_01 hb p r0 r2
      simp only [r1, show ¬ ((1 : Int) > 1) by decide, show ¬ ((1 : Int) = 0) by decide, decide_false, Bool.false_eq_true, if_false, if_true]
      exact spec_GetPart_j4 _ hl hb c t ht true desc (p + 1) (by omega)
theorem fitR_end (l : List Int) (t : Int) (null : Bool) : fitR t null (getTyped l t (l.length : Int)) = noPart := by
  unfold fitR
  rw [getTyped_end, if_neg (by simp)]
theorem getBare_congr {l l' : List Int} {t p : Int} {null : Bool} (hp : 0 ≤ p) (hl : l.length = l'.length) (hd : l.drop p.toNat = l'.drop p.toNat) : getBare l t null p = getBare l' t null p := by
  unfold getBare
  rw [rd_congr hd, getTyped_congr hp hl hd, getTyped_congr (by omega) hl (drop_succ_congr hp hd)]
theorem spec_GetPart_ev (l : List Int) (hl : l.length ≤ 140737480000000) (hb : IsB l) (c t : Int) (null desc : Bool) (p : Int) :
    Ev (fun k => spec_GetPart.f k l c t null desc p) (getPart l c t null desc p) := by
  unfold spec_GetPart.f getPart
  simp only [spec_PartOk_eq, Option.bind_some]
  have out : Ev (fun k => spec_GetPart.j0 k l p true c t null desc) noPart := by
    refine ev_succ ?_
    simp only [spec_GetPart.j0.eq_2, if_true]
    exact ev_some _
  cases hok : partOkB c t with
  | false =>
    simp only [Bool.false_eq_true, if_false, false_and]
    exact out
  | true =>
    have ht := partOk_t hok
    simp only [if_true, true_and]
    by_cases h0 : p < 0
    · have h0' : ¬ (0 ≤ p ∧ p < (l.length : Int)) := by omega
      simp only [h0, h0', if_true, if_false]
      exact out
    · by_cases h1 : p > (l.length : Int)
      · have h01 : ¬ (0 ≤ p ∧ p < (l.length : Int)) := by omega
        rw [if_neg h01]
        simp only [h0, if_false, decide_eq_true h1]
        exact out
      · have h00 : 0 ≤ p := by omega
        simp only [h0, if_false, decide_eq_false h1]
        refine ev_succ ?_
        simp only [spec_GetPart.j0.eq_2, Bool.false_eq_true, if_false]
        have hR : (if 0 ≤ p ∧ p < (l.length : Int) then getBare (if desc = true then flipB l p else l) t null p else noPart) = (if p < (l.length : Int) then getBare (if desc = true then flipB l 0 else l) t null p else noPart) := by
          by_cases hlt : p < (l.length : Int)
          · rw [if_pos ⟨h00, hlt⟩, if_pos hlt]
            cases desc with
            | false => rfl
            | true =>
              simp only [if_true]
              refine getBare_congr h00 (by rw [flipB_len, flipB_len]) ?_
              obtain ⟨i, rfl⟩ := Int.eq_ofNat_of_zero_le h00
              have e1 := flipB_drop l i i (Nat.le_refl _)
              have e2 := flipB_drop l 0 i (by omega)
              rw [Int.toNat_natCast, e1]
              exact e2.symm
          · rw [if_neg (by omega), if_neg hlt]
        rw [hR]
        cases desc with
        | true =>
          simp only [if_true]
          refine Ev.bind (spec_Flip_ev l 0 hl hb) ?_
          have hfl : (flipB l 0).length ≤ 140737480000000 := by rw [flipB_len]; exact hl
          have hfb := flipB_isB hb 0
          rw [← flipB_len l 0] at h1 ⊢
          generalize flipB l 0 = x at h1 hfl hfb ⊢
          by_cases hlt : p < (x.length : Int)
          · rw [if_pos hlt]
            have hne : ¬ (p = (x.length : Int)) := by omega
            cases null with
            | true =>
              simp only [if_true, hne, if_false, h00, hlt]
              exact spec_GetPart_j1 x hfl hfb c t ht true p ⟨h00, hlt⟩
            | false =>
              simp only [Bool.false_eq_true, if_false]
              unfold getBare
              simp only [Bool.false_eq_true, if_false]
              exact spec_GetPart_j2 x hfl hfb c t ht false true p (by omega)
          · rw [if_neg hlt]
            have he : p = (x.length : Int) := by omega
            subst he
            cases null with
            | true =>
              simp only [if_true]
              refine ev_succ ?_
              simp only [spec_GetPart.j1.eq_2, if_true]
              exact ev_some _
            | false =>
              simp only [Bool.false_eq_true, if_false]
              have := spec_GetPart_j2 x hfl hfb c t ht false true (x.length : Int) (by omega)
              rw [fitR_end] at this
              exact this
        | false =>
          simp only [Bool.false_eq_true, if_false]
          by_cases hlt : p < (l.length : Int)
          · rw [if_pos hlt]
            have hne : ¬ (p = (l.length : Int)) := by omega
            cases null with
            | true =>
              simp only [if_true, hne, if_false, h00, hlt]
              exact spec_GetPart_j3 l hl hb c t ht false p ⟨h00, hlt⟩
            | false =>
              simp only [Bool.false_eq_true, if_false]
              unfold getBare
              simp only [Bool.false_eq_true, if_false]
              exact spec_GetPart_j4 l hl hb c t ht false false p (by omega)
          · rw [if_neg hlt]
            have he : p = (l.length : Int) := by omega
            subst he
            cases null with
            | true =>
              simp only [if_true]
              refine ev_succ ?_
              simp only [spec_GetPart.j3.eq_2, if_true]
              exact ev_some _
            | false =>
              simp only [Bool.false_eq_true, if_false]
              have := spec_GetPart_j4 l hl hb c t ht false false (l.length : Int) (by omega)
              rw [fitR_end] at this
              exact this
attribute [local irreducible] spec_GetPart.f

theorem impl_numberAt_l0 (xs : List Int) (hl : xs.length ≤ 7) (hb : IsB xs) (t : Bool) : ∀ i : Nat, i ≤ xs.length → ∀ x : Nat, x < 256 ^ i →
    Ev (fun k => impl_numberAt.l0 k (if t = true then 255 else 0) (x : Int) xs (xs.length : Int) (i : Int)) (((beN x ((xs.drop i).map fun y => if t = true then 255 - y else y) : Nat) : Int), true) := by
  refine up_ind xs.length (fun i : Nat => ∀ x : Nat, x < 256 ^ i → Ev (fun k => impl_numberAt.l0 k (if t = true then 255 else 0) (x : Int) xs (xs.length : Int) (i : Int)) (((beN x ((xs.drop i).map fun y => if t = true then 255 - y else y) : Nat) : Int), true)) ?_ ?_
  · intro x _
    refine ev_succ ?_
    have h1 : ¬ ((xs.length : Int) < (xs.length : Int)) := by omega
    simp only [impl_numberAt.l0.eq_2, h1, if_false]
    rw [List.drop_eq_nil_of_le (by omega)]
    exact ev_some _
  · intro i hi ih x hx
    refine ev_succ ?_
    have h1 : (i : Int) < (xs.length : Int) := by omega
    have h2 : (0 : Int) ≤ (i : Int) := by omega
    have hx7 : x < 281474976710656 := Nat.lt_of_lt_of_le hx (by have := Nat.pow_le_pow_right (show 0 < 256 by omega) (show i ≤ 6 by omega); simpa using this)
    obtain ⟨g0, g1⟩ := hb.get i hi
    have h3 : wrap64 ((x : Int) * 256) = (x : Int) * 256 := w64 (by omega) (by omega)
    have h4 : bits .xor .u8 xs[i] (if t = true then 255 else 0) = if t = true then 255 - xs[i] else xs[i] := by
      cases t with
      | true => simp only [if_true]; exact xor_255 _ g0 g1
      | false => simp only [Bool.false_eq_true, if_false]; exact xor0 _ g0 g1
    have hv : 0 ≤ (if t = true then 255 - xs[i] else xs[i]) ∧ (if t = true then 255 - xs[i] else xs[i]) ≤ 255 := by cases t <;> simp only [if_true, Bool.false_eq_true, if_false] <;> omega
    have h8 : wrap64 ((i : Int) + 1) = ((i + 1 : Nat) : Int) := wsucc (by omega)
    simp only [impl_numberAt.l0.eq_2, h1, h2, if_true, rd_nat xs i hi, h3, h4, h8]
    rw [List.drop_eq_getElem_cons hi, List.map_cons, beN]
    clear h3 h4 h8
    generalize (if t = true then 255 - xs[i] else xs[i]) = v at hv ⊢
    obtain ⟨v, rfl⟩ := Int.eq_ofNat_of_zero_le hv.1
    rw [w64 (by omega) (by omega), or_hi_lo (x : Int) (v : Int) (by omega) (by omega) (by omega) (by omega)]
    have := ih (x * 256 + v) (by rw [Nat.pow_succ]; omega)
    rw [show (x : Int) * 256 + (v : Int) = ((x * 256 + v : Nat) : Int) by omega]
    simpa using this
theorem impl_numberAt_ev (l : List Int) (hl : l.length ≤ 140737488355328) (hb : IsB l) (p : Int) (c : Nat) (hc : c ≤ 7) (t : Bool) (τ : Int) (hτ : τ = if t = true then 255 else 0) (hp : -9223372036854775808 ≤ p ∧ p ≤ 9223372036854775807) :
    Ev (fun k => impl_numberAt.f k l p (c : Int) τ) (readR (readB l p c t)) := by
  subst hτ
  unfold impl_numberAt.f
  by_cases h0 : p < 0
  · simp only [h0, if_true]
    refine ev_succ ?_
    simp only [impl_numberAt.j0.eq_2, if_true]
    rw [readB_neg (by omega)]
    exact ev_some _
  · simp only [h0, if_false]
    have e1 : wrap64 ((l.length : Int) - (c : Int)) = (l.length : Int) - (c : Int) := w64 (by omega) (by omega)
    rw [e1]
    refine ev_succ ?_
    by_cases h1 : p > (l.length : Int) - (c : Int)
    · simp only [impl_numberAt.j0.eq_2, h1, decide_true, if_true]
      rw [readB_neg (by omega)]
      exact ev_some _
    · have e2 : wrap64 (p + (c : Int)) = p + (c : Int) := w64 (by omega) (by omega)
      have a1 : (0 : Int) ≤ p := by omega
      have a2 : p ≤ p + (c : Int) := by omega
      have a3 : p + (c : Int) ≤ (l.length : Int) := by omega
      simp only [impl_numberAt.j0.eq_2, h1, decide_false, Bool.false_eq_true, if_false, e2, a1, a2, a3, if_true, Option.bind_some]
      have e3 : (l.take (p + (c : Int)).toNat).drop p.toNat = (l.drop p.toNat).take c := by
        rw [List.drop_take]; congr 1; omega
      rw [e3]
      have hlen : ((l.drop p.toNat).take c).length = c := by rw [List.length_take, List.length_drop]; omega
      have := impl_numberAt_l0 ((l.drop p.toNat).take c) (by omega) ((hb.drop _).take _) t 0 (by omega) 0 (by decide)
      rw [readB_pos a1 a3]
      exact this
attribute [local irreducible] impl_numberAt.f

theorem impl_GetFix_ev (l : List Int) (hl : l.length ≤ 140737480000000) (hb : IsB l) (p : Int) (hp : -9223372036854775808 ≤ p ∧ p ≤ 9223372036854775807) : Ev (fun k => impl_GetFix.f k l p) (getFix l p) := by
  unfold impl_GetFix.f getFix
  refine Ev.bind (impl_numberAt_ev l (by omega) hb p 4 (by omega) false 0 rfl hp) ?_
  cases h : readB l p 4 false with
  | none => simp only [readR, Bool.false_eq_true, if_false]; exact ev_some _
  | some n =>
    obtain ⟨h0, h1, hn⟩ := readB_some hb h
    have e1 : wrap64 ((n : Int) - 2147483648) = (n : Int) - 2147483648 := w64 (by omega) (by omega)
    have e2 : wrap64 (p + 4) = p + 4 := w64 (by omega) (by omega)
    simp only [readR, if_true, e1, e2]; exact ev_some _
attribute [local irreducible] impl_GetFix.f

theorem impl_GetVar_j1 (l : List Int) (hl : l.length ≤ 140737480000000) (hb : IsB l) (p : Int) (hp : 0 ≤ p ∧ p < l.length) (c : Nat) (hc : c ≤ 7) (t : Bool) (τ : Int) (hτ : τ = if t = true then 255 else 0) :
    Ev (fun k => impl_GetVar.j1 k l p (c : Int) τ) (getVarR p c t (readB l (p + 1) c t)) := by
  refine ev_succ ?_
  have h7 : ¬ ((c : Int) > 7) := by omega
  have e1 : wrap64 (p + 1) = p + 1 := w64 (by omega) (by omega)
  simp only [impl_GetVar.j1.eq_2, h7, if_false, e1]
  refine Ev.bind (impl_numberAt_ev l (by omega) hb (p + 1) c hc t τ hτ (by omega)) ?_
  cases h : readB l (p + 1) c t with
  | none =>
    simp only [readR, Bool.false_eq_true, if_false]
    refine ev_succ ?_
    simp only [impl_GetVar.j2.eq_2, if_true]
    exact ev_some _
  | some n =>
    obtain ⟨_, hpc, hn⟩ := readB_some hb h
    have hn7 : n < 72057594037927936 := Nat.lt_of_lt_of_le hn (by have := Nat.pow_le_pow_right (show 0 < 256 by omega) hc; simpa using this)
    simp only [readR, if_true]
    refine Ev.bind (impl_bytesOf_ev n (by omega)) ?_
    refine ev_succ ?_
    have e2 : wrap64 (p + 1 + (c : Int)) = p + 1 + (c : Int) := w64 (by omega) (by omega)
    unfold getVarR
    by_cases hc2 : nB n = c
    · simp only [impl_GetVar.j2.eq_2, hc2, bne_self_eq_false, Bool.false_eq_true, if_false, hc2, true_and, e1]
      cases t with
      | false =>
        have hτ0 : τ = 0 := by rw [hτ]; rfl
        simp only [hτ0, if_true, impl_in_eq, Option.bind_some, Bool.false_eq_true, if_false, e2]
        cases inB (n : Int) (-1000000000000000) 1000000000000000
        · simp only [Bool.false_eq_true, if_false]; exact ev_some _
        · simp only [if_true]; exact ev_some _
      | true =>
        have hτ0 : ¬ (τ = 0) := by rw [hτ]; decide
        have e3 : wrap64 (-1 - (n : Int)) = -1 - (n : Int) := w64 (by omega) (by omega)
        simp only [hτ0, if_false, impl_in_eq, Option.bind_some, if_true, e2, e3]
        cases inB (-1 - (n : Int)) (-1000000000000000) 1000000000000000
        · simp only [Bool.false_eq_true, if_false]; exact ev_some _
        · simp only [if_true]; exact ev_some _
    · have hne : (((nB n : Nat) : Int) != (c : Int)) = true := by simp; omega
      simp only [impl_GetVar.j2.eq_2, hne, if_true, hc2, false_and, if_false]
      exact ev_some _
theorem impl_GetVar_ev (l : List Int) (hl : l.length ≤ 140737480000000) (hb : IsB l) (p : Int) (hp : -9223372036854775808 ≤ p ∧ p ≤ 9223372036854775807) : Ev (fun k => impl_GetVar.f k l p) (getVar l p) := by
  unfold impl_GetVar.f getVar
  by_cases h0 : p < 0
  · simp only [h0, if_true]
    rw [if_neg (by omega)]
    refine ev_succ ?_
    simp only [impl_GetVar.j0.eq_2, if_true]
    exact ev_some _
  · simp only [h0, if_false]
    by_cases h1 : p ≥ (l.length : Int)
    · rw [if_neg (by omega)]
      refine ev_succ ?_
      simp only [impl_GetVar.j0.eq_2, h1, decide_true, if_true]
      exact ev_some _
    · have a1 : (0 : Int) ≤ p := by omega
      have a2 : p < (l.length : Int) := by omega
      rw [if_pos ⟨a1, a2⟩]
      refine ev_succ ?_
      obtain ⟨g0, g1⟩ := rd_isB hb p
      have e1 : wrap64 (rd l p) = rd l p := w64 (by omega) (by omega)
      have e2 : wrap64 (rd l p - 128) = rd l p - 128 := w64 (by omega) (by omega)
      have e3 : wrap64 (127 - rd l p) = 127 - rd l p := w64 (by omega) (by omega)
      simp only [impl_GetVar.j0.eq_2, h1, decide_false, Bool.false_eq_true, if_false, a1, a2, if_true, e1, e2, e3]
      clear e1 e2 e3
      by_cases hneg : rd l p - 128 < 0
      · simp only [hneg, if_true]
        rw [if_neg (by omega)]
        by_cases h7 : 120 ≤ rd l p
        · rw [if_pos (by omega)]
          have := impl_GetVar_j1 l hl hb p ⟨a1, a2⟩ (127 - rd l p).toNat (by omega) true 255 rfl
          rw [show (((127 - rd l p).toNat : Nat) : Int) = 127 - rd l p by omega] at this
          exact this
        · rw [if_neg (by omega)]
          refine ev_succ ?_
          have h8 : 127 - rd l p > 7 := by omega
          simp only [impl_GetVar.j1.eq_2, h8, if_true]
          exact ev_some _
      · simp only [hneg, if_false]
        by_cases h7 : rd l p ≤ 135
        · rw [if_pos (by omega)]
          have := impl_GetVar_j1 l hl hb p ⟨a1, a2⟩ (rd l p - 128).toNat (by omega) false 0 rfl
          rw [show (((rd l p - 128).toNat : Nat) : Int) = rd l p - 128 by omega] at this
          exact this
        · rw [if_neg (by omega), if_neg (by omega)]
          refine ev_succ ?_
          have h8 : rd l p - 128 > 7 := by omega
          simp only [impl_GetVar.j1.eq_2, h8, if_true]
          exact ev_some _
attribute [local irreducible] impl_GetVar.f

theorem impl_GetEsc_l0 (l : List Int) (hl : l.length ≤ 140737488355327) (d : Nat) : ∀ (p : Nat) (o : List Int), l.length - p = d → (p : Int) ≤ 9223372036854775807 → o.length + (l.length - p) ≤ 140737488355327 →
    Ev (fun k => impl_GetEsc.l0 k l o (p : Int)) (getER (getEB o p (l.drop p))) := by
  induction d using Nat.strongRecOn with
  | _ d ih =>
    intro p o hd hp63 ho
    refine ev_succ (ev_succ ?_)
    have a1 : (p : Int) ≥ 0 := by omega
    by_cases hp : p < l.length
    · have b1 : (p : Int) < (l.length : Int) := by omega
      have b2 : o.length < 140737488355328 := by omega
      simp only [impl_GetEsc.l0.eq_2, impl_GetEsc.j1.eq_2, a1, b1, b2, decide_true, if_true, rd_nat l p hp, wsucc (show p < 9223372036854775807 by omega)]
      rw [List.drop_eq_getElem_cons hp]
      by_cases hz : l[p] = 0
      · by_cases hp1 : p + 1 < l.length
        · have c1 : ¬ (((p + 1 : Nat) : Int) ≥ (l.length : Int)) := by omega
          have c2 : (0 : Int) ≤ ((p + 1 : Nat) : Int) := by omega
          have c3 : ((p + 1 : Nat) : Int) < (l.length : Int) := by omega
          simp only [hz, if_true, c1, if_false, c2, c3, rd_nat l (p + 1) hp1, wsucc (show p + 1 < 9223372036854775807 by omega)]
          rw [List.drop_eq_getElem_cons hp1, getEB_cons]
          by_cases h1 : l[p + 1] = 1
          · simp only [h1, if_true]; exact ev_some _
          · by_cases h255 : l[p + 1] = 255
            · simp only [h255, if_true, show ¬ ((255 : Int) = 1) by decide, if_false]
              exact ih (l.length - (p + 1 + 1)) (by omega) (p + 1 + 1) (o ++ [0]) rfl (by omega) (by simp only [List.length_append, List.length_cons, List.length_nil]; omega)
            · simp only [h1, h255, if_true, if_false]; exact ev_some _
        · have c1 : ((p + 1 : Nat) : Int) ≥ (l.length : Int) := by omega
          simp only [hz, if_true, c1]
          rw [List.drop_eq_nil_of_le (by omega), getEB_one]
          exact ev_some _
      · simp only [hz, if_false]
        have := ih (l.length - (p + 1)) (by omega) (p + 1) (o ++ [l[p]]) rfl (by omega) (by simp only [List.length_append, List.length_cons, List.length_nil]; omega)
        rw [getEB_ne _ _ _ _ hz]
        exact this
    · have b1 : ¬ ((p : Int) < (l.length : Int)) := by omega
      simp only [impl_GetEsc.l0.eq_2, impl_GetEsc.j1.eq_2, a1, b1, decide_false, Bool.false_eq_true, if_true, if_false]
      rw [List.drop_eq_nil_of_le (by omega), getEB_nil]
      exact ev_some _
theorem impl_GetEsc_ev (l : List Int) (hl : l.length ≤ 140737480000000) (hb : IsB l) (p : Int) (hp : -9223372036854775808 ≤ p ∧ p ≤ 9223372036854775807) : Ev (fun k => impl_GetEsc.f k l p) (getEsc l p) := by
  unfold impl_GetEsc.f getEsc
  by_cases h0 : 0 ≤ p
  · obtain ⟨q, rfl⟩ := Int.eq_ofNat_of_zero_le h0
    rw [if_pos h0]
    exact impl_GetEsc_l0 l (by omega) _ q [] rfl (by omega) (by simp only [List.length_nil]; omega)
  · rw [if_neg h0]
    refine ev_succ (ev_succ ?_)
    have a1 : ¬ (p ≥ 0) := by omega
    simp only [impl_GetEsc.l0.eq_2, impl_GetEsc.j1.eq_2, a1, if_false, Bool.false_eq_true]
    exact ev_some _
attribute [local irreducible] impl_GetEsc.f

theorem impl_typedAt_ev (l : List Int) (hl : l.length ≤ 140737480000000) (hb : IsB l) (t p : Int) (hp : -9223372036854775808 ≤ p ∧ p ≤ 9223372036854775807) : Ev (fun k => impl_typedAt.f k l t p) (getTyped l t p) := by
  unfold impl_typedAt.f getTyped
  by_cases t1 : t = 1
  · simp only [t1, if_true]
    exact Ev.bind (impl_GetFix_ev l hl hb p hp) (ev_some _)
  by_cases t2 : t = 2
  · simp only [t1, if_false]
    simp only [t2, if_true]
    exact Ev.bind (impl_GetVar_ev l hl hb p hp) (ev_some _)
  by_cases t3 : t = 3
  · simp only [t1, t2, if_false]
    simp only [t3, if_true]
    exact Ev.bind (impl_GetEsc_ev l hl hb p hp) (ev_some _)
  by_cases t4 : t = 4
  · simp only [t1, t2, t3, if_false]
    simp only [t4, if_true]
    have hr := rd_isB hb p
    by_cases h0 : 0 ≤ p
    · have h0' : p ≥ 0 := h0
      by_cases h1 : p < (l.length : Int)
      · simp only [h0, h0', h1, if_true, and_self, w64 (x := rd l p) (by omega) (by omega), w64 (x := p + 1) (by omega) (by omega)]
        exact ev_some _
      · simp only [h0', h1, if_true, if_false, and_false]
        exact ev_some _
    · have h0' : ¬ (p ≥ 0) := h0
      simp only [h0, h0', if_false, false_and]
      exact ev_some _
  · simp only [t1, t2, t3, t4, if_false]
    exact ev_some _
attribute [local irreducible] impl_typedAt.f

theorem impl_GetPart_fit (c t : Int) (null desc : Bool) (r : Int × Int × ByteArray × Int × Bool) : (if r.2.2.2.2 = true then ((impl_Fits.f c t null desc r.1 r.2.1 r.2.2.1).bind fun t375 => (if t375 = true then (some (r.1, r.2.1, r.2.2.1, r.2.2.2.1, true)) else (some (0, 0, (⟨#[]⟩ : ByteArray), 0, false)))) else (some (0, 0, (⟨#[]⟩ : ByteArray), 0, false))) = some (fitR t null r) := by
  obtain ⟨a, b, s, q, e⟩ := r
  simp only [impl_Fits_eq, Option.bind_some]
  unfold fitR noPart
  cases e with
  | false => simp
  | true =>
    cases hf : fitsB t null a b s with
    | false => simp [hf]
    | true => simp [hf]
theorem impl_GetPart_j1 (l : List Int) (hl : l.length ≤ 140737480000000) (hb : IsB l) (c t : Int) (null desc : Bool) (p : Int) (hp : -9223372036854775808 ≤ p ∧ p ≤ 9223372036854775807) :
    Ev (fun k => impl_GetPart.j1 k l p c t null desc) (fitR t null (getTyped l t p)) := by
  refine ev_succ ?_
  simp only [impl_GetPart.j1.eq_2]
  refine Ev.bind (impl_typedAt_ev l hl hb t p hp) ?_
  rw [impl_GetPart_fit]
  exact ev_some _
theorem impl_GetPart_j2 (l : List Int) (hl : l.length ≤ 140737480000000) (hb : IsB l) (c t : Int) (null desc : Bool) (p : Int) (hp : -9223372036854775808 ≤ p ∧ p ≤ 9223372036854775807) :
    Ev (fun k => impl_GetPart.j2 k l p c t null desc) (fitR t null (getTyped l t p)) := by
  refine ev_succ ?_
  simp only [impl_GetPart.j2.eq_2]
  refine Ev.bind (impl_typedAt_ev l hl hb t p hp) ?_
  rw [impl_GetPart_fit]
  exact ev_some _
theorem impl_GetPart_ev (l : List Int) (hl : l.length ≤ 140737480000000) (hb : IsB l) (c t : Int) (null desc : Bool) (p : Int) :
    Ev (fun k => impl_GetPart.f k l c t null desc p) (getPart l c t null desc p) := by
  unfold impl_GetPart.f getPart
  simp only [impl_PartOk_eq, Option.bind_some]
  have out : Ev (fun k => impl_GetPart.j0 k l p true c t null desc) noPart := by
    refine ev_succ ?_
    simp only [impl_GetPart.j0.eq_2, if_true]
    exact ev_some _
  cases hok : partOkB c t with
  | false =>
    simp only [Bool.false_eq_true, if_false, false_and]
    exact out
  | true =>
    simp only [if_true, true_and]
    by_cases h0 : p < 0
    · have h0' : ¬ (0 ≤ p ∧ p < (l.length : Int)) := by omega
      simp only [h0, h0', if_true, if_false]
      exact out
    · by_cases h1 : p < (l.length : Int)
      · have h01 : 0 ≤ p ∧ p < (l.length : Int) := by omega
        have h00 : 0 ≤ p := h01.1
        have hd : decide (p ≥ (l.length : Int)) = false := decide_eq_false (by omega)
        have w1 : wrap64 (p + 1) = p + 1 := w64 (by omega) (by omega)
        rw [if_pos h01]
        simp only [h0, if_false, hd]
        refine ev_succ ?_
        simp only [impl_GetPart.j0.eq_2, Bool.false_eq_true, if_false, w1]
        unfold getBare
        cases desc with
        | true =>
          simp only [if_true]
          refine Ev.bind (impl_Flip_ev l p hl hb) ?_
          have hfl : (flipB l p).length ≤ 140737480000000 := by rw [flipB_len]; exact hl
          have hfb := flipB_isB hb p
          have hlt : p < ((flipB l p).length : Int) := by rw [flipB_len]; exact h1
          cases null with
          | true =>
            simp only [if_true, h00, hlt]
            by_cases r0 : rd (flipB l p) p = 0
            · simp only [r0, if_true]; exact ev_some _
            · by_cases r1 : rd (flipB l p) p = 1
              · simp only [r1, if_true, show ¬ ((1 : Int) = 0) by decide, if_false]
                exact impl_GetPart_j1 _ hfl hfb c t true true (p + 1) (by omega)
              · simp only [r0, r1, if_false]; exact ev_some _
          | false =>
            simp only [Bool.false_eq_true, if_false]
            exact impl_GetPart_j1 _ hfl hfb c t false true p (by omega)
        | false =>
          simp only [Bool.false_eq_true, if_false]
          cases null with
          | true =>
            simp only [if_true, h00, h1]
            by_cases r0 : rd l p = 0
            · simp only [r0, if_true]; exact ev_some _
            · by_cases r1 : rd l p = 1
              · simp only [r1, if_true, show ¬ ((1 : Int) = 0) by decide, if_false]
                exact impl_GetPart_j2 _ hl hb c t true false (p + 1) (by omega)
              · simp only [r0, r1, if_false]; exact ev_some _
          | false =>
            simp only [Bool.false_eq_true, if_false]
            exact impl_GetPart_j2 _ hl hb c t false false p (by omega)
      · have h01 : ¬ (0 ≤ p ∧ p < (l.length : Int)) := by omega
        have hd : decide (p ≥ (l.length : Int)) = true := decide_eq_true (by omega)
        rw [if_neg h01]
        simp only [h0, if_false, hd]
        exact out
attribute [local irreducible] impl_GetPart.f

theorem laws_big_eq (l : List Int) : laws_big.f l = some (decide ((l.length : Int) > 1048576)) := rfl
attribute [local irreducible] laws_big.f

theorem laws_sameBytes_l0 (a b : List Int) (he : a.length = b.length) (h : a.length ≤ 9223372036854775806) : ∀ i : Nat, i ≤ a.length → Ev (fun k => laws_sameBytes.l0 k a b (i : Int)) (decide (a.drop i = b.drop i)) := by
  refine up_ind a.length (fun i : Nat => Ev (fun k => laws_sameBytes.l0 k a b (i : Int)) (decide (a.drop i = b.drop i))) ?_ ?_
  · refine ev_succ ?_
    have h1 : ¬ ((a.length : Int) < (a.length : Int)) := by omega
    simp only [laws_sameBytes.l0.eq_2, h1, if_false]
    rw [decide_eq_true (by rw [List.drop_eq_nil_of_le (Nat.le_refl _), List.drop_eq_nil_of_le (by omega)])]
    exact ev_some _
  · intro i hi ih
    refine ev_succ ?_
    have hib : i < b.length := by omega
    have h1 : (i : Int) < (a.length : Int) := by omega
    have h2 : (0 : Int) ≤ (i : Int) := by omega
    have h3 : (i : Int) < (b.length : Int) := by omega
    simp only [laws_sameBytes.l0.eq_2, h1, h2, h3, if_true, rd_nat a i hi, rd_nat b i hib, wsucc (show i < 9223372036854775807 by omega)]
    rw [List.drop_eq_getElem_cons hi, List.drop_eq_getElem_cons hib]
    by_cases hv : a[i] = b[i]
    · simp only [hv, if_true, List.cons.injEq, true_and]
      exact ih
    · simp only [hv, if_false, List.cons.injEq, false_and, decide_false]
      exact ev_some _
theorem laws_sameBytes_ev (a b : List Int) (h : a.length ≤ 9223372036854775806) : Ev (fun k => laws_sameBytes.f k a b) (decide (a = b)) := by
  unfold laws_sameBytes.f
  by_cases he : a.length = b.length
  · have h1 : (a.length : Int) = (b.length : Int) := by omega
    simp only [h1, if_true]
    simpa using laws_sameBytes_l0 a b he h 0 (by omega)
  · have h1 : ¬ ((a.length : Int) = (b.length : Int)) := by omega
    simp only [h1, if_false]
    rw [decide_eq_false (fun e => he (by rw [e]))]
    exact ev_some _
attribute [local irreducible] laws_sameBytes.f

theorem spec_Fits_eq (a0 t : Int) (null a3 : Bool) (k n : Int) (s : ByteArray) : spec_Fits.f a0 t null a3 k n s = some (fitsB t null k n s) := by
  unfold spec_Fits.f fitsB
  simp only [spec_ValOk_eq, Option.bind_some]
  cases valOkB k n s
  · simp
  · simp only [if_true, Bool.true_and]
    by_cases h1 : k = t
    · rw [if_pos h1]
      by_cases h0 : k = 0
      · rw [if_pos h0, if_pos h0]
      · rw [if_neg h0, if_neg h0]; simp [h1]
    · rw [if_neg h1]
      by_cases h0 : k = 0
      · rw [if_pos h0, if_pos h0]
      · rw [if_neg h0, if_neg h0]; simp [h1]
attribute [local irreducible] spec_Fits.f

theorem spec_PutFix_eq (l : List Int) (n : Int) (h : l.length ≤ 140737480000000) (hn : -9223372036854775808 ≤ n ∧ n ≤ 9223372036854775807) : spec_PutFix.f l n = some (l ++ fixB n) := by
  unfold spec_PutFix.f
  have hc := clampN_spec n (-2147483648) 2147483647 (by omega)
  have h0 : l.length < 140737488355328 := by omega
  have h4 : l.length + (0 + 1 + 1 + 1 + 1) < 140737488355328 := by omega
  by_cases h1 : n > 2147483647
  · have e : clampN n (-2147483648) 2147483647 = 2147483647 := by omega
    simp only [h1, if_true, Option.bind_some, List.length_nil, Nat.zero_add, List.nil_append, h0, List.length_cons, fixB, e]
    rw [if_pos (by omega)]
    congr 2
  · by_cases h2 : n < -2147483648
    · have e : clampN n (-2147483648) 2147483647 = -2147483648 := by omega
      simp only [h1, h2, if_true, if_false, Option.bind_some, List.length_nil, Nat.zero_add, List.nil_append, h0, List.length_cons, fixB, e]
      rw [if_pos (by omega)]
      rfl
    · have e : clampN n (-2147483648) 2147483647 = n := by omega
      have e2 : wrap64 (n + 2147483648) = n + 2147483648 := w64 (by omega) (by omega)
      simp only [h1, h2, if_true, if_false, Option.bind_some, List.length_nil, Nat.zero_add, List.nil_append, h0, List.length_cons, fixB, e, e2]
      rw [if_pos (by omega)]
attribute [local irreducible] spec_PutFix.f

theorem spec_PutEsc_l0 (s : ByteArray) (hs : s.size ≤ 1048576) : ∀ i : Nat, i ≤ s.size → ∀ o : List Int, o.length + 2 * (s.size - i) + 2 < 140737488355328 →
    Ev (fun k => spec_PutEsc.l0 k s o (i : Int)) (o ++ escB ((bytesOf s).drop i)) := by
  refine up_ind s.size (fun i : Nat => ∀ o : List Int, o.length + 2 * (s.size - i) + 2 < 140737488355328 → Ev (fun k => spec_PutEsc.l0 k s o (i : Int)) (o ++ escB ((bytesOf s).drop i))) ?_ ?_
  · intro o ho
    refine ev_succ ?_
    have h1 : ¬ ((s.size : Int) < (s.size : Int)) := by omega
    have h2 : o.length + ([0, 1] : List Int).length < 140737488355328 := by simp only [List.length_cons, List.length_nil]; omega
    simp only [spec_PutEsc.l0.eq_2, h1, if_false, Option.bind_some, h2, if_true]
    rw [List.drop_eq_nil_of_le (by rw [bytesOf_len]; omega)]
    exact ev_some _
  · intro i hi ih o ho
    refine ev_succ ?_
    have hib : i < (bytesOf s).length := by rw [bytesOf_len]; exact hi
    have h1 : (i : Int) < (s.size : Int) := by omega
    have h2 : (0 : Int) ≤ (i : Int) := by omega
    have h3 : o.length < 140737488355328 := by omega
    have h4 : (o ++ [(bytesOf s)[i]]).length < 140737488355328 := by simp only [List.length_append, List.length_cons, List.length_nil]; omega
    simp only [spec_PutEsc.l0.eq_2, h1, h2, h3, h4, if_true, Option.bind_some, bt_get s i hi, wsucc (show i < 9223372036854775807 by omega)]
    rw [List.drop_eq_getElem_cons hib]
    by_cases hz : (bytesOf s)[i] = 0
    · have := ih (o ++ [(bytesOf s)[i]] ++ [255]) (by simp only [List.length_append, List.length_cons, List.length_nil]; omega)
      rw [escB, if_pos hz]
      rw [List.append_assoc, List.append_assoc] at this
      simp only [hz, if_true]
      rw [hz] at this
      simpa using this
    · have := ih (o ++ [(bytesOf s)[i]]) (by simp only [List.length_append, List.length_cons, List.length_nil]; omega)
      rw [escB, if_neg hz]
      rw [List.append_assoc] at this
      simp only [hz, if_false]
      exact this
theorem spec_PutEsc_ev (l : List Int) (s : ByteArray) (h : l.length ≤ 140737480000000) (hs : s.size ≤ 1048576) : Ev (fun k => spec_PutEsc.f k l s) (l ++ escB (bytesOf s)) := by
  unfold spec_PutEsc.f
  have h1 : ([] : List Int).length + l.length < 140737488355328 := by simp only [List.length_nil]; omega
  simp only [Option.bind_some, h1, if_true, List.nil_append]
  simpa using spec_PutEsc_l0 s hs 0 (by omega) l (by omega)
attribute [local irreducible] spec_PutEsc.f

theorem spec_l5Value_ev (l : List Int) (hl : l.length ≤ 140737460000000) (k n : Int) (hn : -9223372036854775808 ≤ n ∧ n ≤ 9223372036854775807) (s : ByteArray) (hs : s.size ≤ 1048576) (hk : 1 ≤ k ∧ k ≤ 4) :
    Ev (fun j => spec_l5Value.f j l k n s) (l ++ valB k n s) := by
  unfold spec_l5Value.f valB
  by_cases k1 : k = 1
  · simp only [k1, if_true, spec_PutFix_eq l n (by omega) hn, Option.bind_some]; exact ev_some _
  by_cases k2 : k = 2
  · simp only [k1, if_false]
    simp only [k2, if_true]
    exact Ev.bind (spec_PutVar_ev l n (by omega)) (ev_some _)
  by_cases k3 : k = 3
  · simp only [k1, k2, if_false]
    simp only [k3, if_true]
    exact Ev.bind (spec_PutEsc_ev l s (by omega) hs) (ev_some _)
  · have k4 : k = 4 := by omega
    have q1 : ([] : List Int).length + l.length < 140737488355328 := by simp only [List.length_nil]; omega
    have q2 : (([] : List Int) ++ l).length + [n % 256].length < 140737488355328 := by simp only [List.nil_append, List.length_cons, List.length_nil]; omega
    simp only [k1, k2, k3, if_false, Option.bind_some, q1, q2, if_true]
    simp only [k4, if_true, List.nil_append]
    exact ev_some _
attribute [local irreducible] spec_l5Value.f

theorem spec_PutPart_tail (l x : List Int) (hl : l.length + x.length ≤ 140737470000000) (hb : IsB l) (hx : IsB x) (desc : Bool) :
    Ev (fun j => if desc = true then (spec_Flip.f j (l ++ x) (l.length : Int)).bind fun t => some t else some (l ++ x)) (l ++ turnB desc x) := by
  cases desc with
  | false => simp only [Bool.false_eq_true, if_false, turnB]; exact ev_some _
  | true =>
    simp only [if_true, turnB]
    rw [← flipB_at l x]
    exact Ev.bind (spec_Flip_ev _ _ (by rw [List.length_append]; omega) (hb.append hx)) (ev_some _)
theorem spec_PutPart_ev (l : List Int) (hl : l.length ≤ 140737450000000) (hb : IsB l) (c t : Int) (null desc : Bool) (k n : Int) (hn : -9223372036854775808 ≤ n ∧ n ≤ 9223372036854775807) (s : ByteArray) :
    Ev (fun j => spec_PutPart.f j l c t null desc k n s) (l ++ putPart c t null desc k n s) := by
  unfold spec_PutPart.f
  have q1 : ([] : List Int).length + l.length < 140737488355328 := by simp only [List.length_nil]; omega
  simp only [Option.bind_some, q1, if_true, List.nil_append, spec_PartOk_eq, spec_Fits_eq]
  by_cases hok : okPV c t null k n s = true
  · have h2 := hok
    unfold okPV at h2
    rw [Bool.and_eq_true] at h2
    have hs := okPV_size hok
    have ht := partOk_t h2.1
    have e : putPart c t null desc k n s = turnB desc (bareB null k n s) := by unfold putPart partB; rw [if_pos hok]
    rw [e]
    simp only [h2.1, h2.2, if_true, Bool.not_true]
    refine ev_succ ?_
    have hlt : l.length < 140737488355328 := by omega
    simp only [spec_PutPart.j0.eq_2, Bool.false_eq_true, if_false]
    by_cases hk : k = 0
    · have hnull : null = true := by
        rcases fits_cases h2.2 ht with ⟨h, _⟩ | ⟨h, _⟩
        · exact h
        · omega
      have hbare : bareB null k n s = [0] := by
        unfold bareB headB valB
        simp [hnull, hk]
      simp only [hk, if_true, hlt, Option.bind_some]
      rw [hk] at hbare
      rw [hbare]
      exact spec_PutPart_tail l [0] (by simp only [List.length_cons, List.length_nil]; omega) hb (IsB.cons (by omega) (by omega) IsB.nil) desc
    · have hk4 : 1 ≤ k ∧ k ≤ 4 := by
        rcases fits_cases h2.2 ht with ⟨_, h, _⟩ | ⟨h, _⟩
        · exact absurd h hk
        · omega
      have hvl := valB_len k n s hs
      have j1 : ∀ h : List Int, h.length ≤ 1 → IsB h → Ev (fun j => spec_PutPart.j1 j l (l ++ h) c t null desc k n s) (l ++ turnB desc (h ++ valB k n s)) := by
        intro h hh hhb
        refine ev_succ ?_
        simp only [spec_PutPart.j1.eq_2]
        refine Ev.bind (spec_l5Value_ev (l ++ h) (by rw [List.length_append]; omega) k n hn s (by omega) hk4) ?_
        rw [List.append_assoc]
        exact spec_PutPart_tail l (h ++ valB k n s) (by rw [List.length_append]; omega) hb (hhb.append (valB_isB k n s)) desc
      simp only [hk, if_false]
      unfold bareB
      cases hnl : null with
      | false =>
        subst hnl
        simp only [Bool.false_eq_true, if_false]
        have := j1 [] (by simp) IsB.nil
        simpa [headB] using this
      | true =>
        subst hnl
        simp only [if_true, hlt]
        have := j1 [1] (by simp) (IsB.cons (by omega) (by omega) IsB.nil)
        simpa [headB, hk] using this
  · have e : putPart c t null desc k n s = [] := by unfold putPart; rw [if_neg hok]
    rw [e, List.append_nil]
    unfold okPV at hok
    cases hp : partOkB c t with
    | false =>
      simp only [Bool.false_eq_true, if_false]
      refine ev_succ ?_
      simp only [spec_PutPart.j0.eq_2, if_true]
      exact ev_some _
    | true =>
      rw [hp, Bool.true_and] at hok
      have hf : fitsB t null k n s = false := by simpa using hok
      simp only [if_true, hf, Bool.not_false]
      refine ev_succ ?_
      simp only [spec_PutPart.j0.eq_2, if_true]
      exact ev_some _
attribute [local irreducible] spec_PutPart.f

theorem spec_l1New_l0 (l : List Int) (hl : l.length ≤ 1048576) : ∀ i : Nat, i ≤ l.length → ∀ h : Int, ∃ r : Int, Ev (fun k => spec_l1New.l0 k l h (i : Int)) (l, 0, r) := by
  refine up_ind l.length (fun i : Nat => ∀ h : Int, ∃ r : Int, Ev (fun k => spec_l1New.l0 k l h (i : Int)) (l, 0, r)) ?_ ?_
  · intro h
    refine ⟨h, ev_succ ?_⟩
    have h1 : ¬ ((l.length : Int) < (l.length : Int)) := by omega
    simp only [spec_l1New.l0.eq_2, h1, if_false]
    exact ev_some _
  · intro i hi ih h
    have h1 : (i : Int) < (l.length : Int) := by omega
    have h2 : (0 : Int) ≤ (i : Int) := by omega
    by_cases h4 : (i : Int) < 4000
    · obtain ⟨r, hr⟩ := ih (Go.bits .and .i64 (wrap64 ((wrap64 ((wrap64 (h * 137)) + (wrap64 (rd l (i : Int))))) + 11)) 1073741823)
      refine ⟨r, ev_succ ?_⟩
      simp only [spec_l1New.l0.eq_2, h1, h2, h4, if_true, wsucc (show i < 9223372036854775807 by omega)]
      exact hr
    · refine ⟨h, ev_succ ?_⟩
      simp only [spec_l1New.l0.eq_2, h1, h4, if_true, if_false]
      exact ev_some _
theorem spec_l1New_ev (l : List Int) (hl : l.length ≤ 1048576) : ∃ r : Int, Ev (fun k => spec_l1New.f k l) (l, 0, r) := by
  unfold spec_l1New.f
  exact spec_l1New_l0 l hl 0 (by omega) _
/-- Where a reader of draws stands. -/
def Cur (l : List Int) (i : Int) : Prop := 0 ≤ i ∧ i ≤ l.length
theorem Cur.start (l : List Int) : Cur l 0 := ⟨by omega, by omega⟩
attribute [local irreducible] spec_l1New.f

theorem spec_l1Byte_ok (l : List Int) (hl : l.length ≤ 1048576) (i h : Int) (hc : Cur l i) : ∃ x i' h' : Int, spec_l1Byte.f l i h = some (x, i', h') ∧ 0 ≤ x ∧ x ≤ 255 ∧ Cur l i' := by
  unfold spec_l1Byte.f
  obtain ⟨c0, c1⟩ := hc
  by_cases h1 : i < (l.length : Int)
  · rw [if_pos h1, if_pos c0, w64 (x := i + 1) (by omega) (by omega)]
    refine ⟨_, _, _, rfl, ?_, ?_, ?_, ?_⟩
    · rw [and255]; omega
    · rw [and255]; omega
    · omega
    · omega
  · rw [if_neg h1]
    refine ⟨_, _, _, rfl, ?_, ?_, ?_, ?_⟩
    · rw [and255]; omega
    · rw [and255]; omega
    · omega
    · omega
attribute [local irreducible] spec_l1Byte.f

theorem spec_l1Below_ok (l : List Int) (hl : l.length ≤ 1048576) (i h : Int) (hc : Cur l i) (n : Int) : ∃ x i' h' : Int, spec_l1Below.f l i h n = some (x, i', h') ∧ 0 ≤ x ∧ (0 < n → x < n) ∧ (n ≤ 0 → x = 0) ∧ Cur l i' := by
  unfold spec_l1Below.f
  by_cases h0 : n ≤ 0
  · rw [if_pos h0]
    exact ⟨0, i, h, rfl, by omega, by omega, fun _ => rfl, hc⟩
  · rw [if_neg h0]
    have hn : ¬ (n = 0) := by omega
    obtain ⟨x, i1, h1, e1, x0, x1, c1⟩ := spec_l1Byte_ok l hl i h hc
    by_cases h256 : n ≤ 256
    · rw [if_pos h256, e1]
      simp only [Option.bind_some, hn, if_false]
      refine ⟨_, _, _, rfl, ?_, ?_, by omega, c1⟩
      · exact Int.tmod_nonneg _ x0
      · intro hp; exact Int.tmod_lt_of_pos _ hp
    · obtain ⟨y, i2, h2, e2, y0, y1, c2⟩ := spec_l1Byte_ok l hl i1 h1 c1
      obtain ⟨z, i3, h3, e3, z0, z1, c3⟩ := spec_l1Byte_ok l hl i2 h2 c2
      rw [if_neg h256, e1]
      simp only [Option.bind_some, e2, e3, hn, if_false]
      have w1 : wrap64 (x * 65536) = x * 65536 := w64 (by omega) (by omega)
      have w2 : wrap64 (y * 256) = y * 256 := w64 (by omega) (by omega)
      rw [w1, w2]
      clear w1 w2
      have w3 : wrap64 (x * 65536 + y * 256) = x * 65536 + y * 256 := w64 (by omega) (by omega)
      rw [w3]
      clear w3
      have w4 : wrap64 (x * 65536 + y * 256 + z) = x * 65536 + y * 256 + z := w64 (by omega) (by omega)
      rw [w4]
      clear w4
      refine ⟨_, _, _, rfl, ?_, ?_, by omega, c3⟩
      · exact Int.tmod_nonneg _ (by omega)
      · intro hp; exact Int.tmod_lt_of_pos _ hp
attribute [local irreducible] spec_l1Below.f

theorem spec_l1Once_ok (l : List Int) (hl : l.length ≤ 1048576) (i h : Int) (hc : Cur l i) (n : Int) : ∃ (b : Bool) (i' h' : Int), spec_l1Once.f l i h n = some (b, i', h') ∧ Cur l i' := by
  unfold spec_l1Once.f
  obtain ⟨x, i1, h1, e1, x0, x1, _, c1⟩ := spec_l1Below_ok l hl i h hc n
  rw [e1]
  exact ⟨_, _, _, rfl, c1⟩
attribute [local irreducible] spec_l1Once.f

theorem spec_l5Draw_ok (l : List Int) (hl : l.length ≤ 1048576) (i h : Int) (hc : Cur l i) (col : Int) : ∃ (t : Int) (null desc : Bool) (i' h' : Int), spec_l5Draw.f l i h col = some (col, t, null, desc, i', h') ∧ (1 ≤ t ∧ t ≤ 4) ∧ Cur l i' := by
  unfold spec_l5Draw.f
  obtain ⟨x, i1, h1, e1, x0, x1, _, c1⟩ := spec_l1Below_ok l hl i h hc 4
  obtain ⟨b1, i2, h2, e2, c2⟩ := spec_l1Once_ok l hl i1 h1 c1 2
  obtain ⟨b2, i3, h3, e3, c3⟩ := spec_l1Once_ok l hl i2 h2 c2 2
  have x2 := x1 (by omega)
  have w1 : wrap64 (1 + x) = 1 + x := w64 (by omega) (by omega)
  simp only [e1, Option.bind_some, e2, e3, w1]
  exact ⟨1 + x, b1, b2, i3, h3, rfl, by omega, c3⟩
attribute [local irreducible] spec_l5Draw.f

theorem spec_l1Int_ok (l : List Int) (hl : l.length ≤ 1048576) (i h : Int) (hc : Cur l i) (xs : List Int) (hx : 0 < xs.length) : ∃ x i' h' : Int, spec_l1Int.f l i h xs = some (x, i', h') ∧ x ∈ xs ∧ Cur l i' := by
  unfold spec_l1Int.f
  obtain ⟨x, i1, h1, e1, x0, x1, _, c1⟩ := spec_l1Below_ok l hl i h hc (xs.length : Int)
  have hlt := x1 (by omega)
  rw [e1]
  simp only [Option.bind_some, x0, hlt, if_true]
  obtain ⟨j, rfl⟩ := Int.eq_ofNat_of_zero_le x0
  have hj : j < xs.length := by omega
  exact ⟨_, _, _, rfl, by rw [rd_nat xs j hj]; exact List.getElem_mem hj, c1⟩
attribute [local irreducible] spec_l1Int.f

theorem spec_l5Any_ok (l : List Int) (hl : l.length ≤ 1048576) (i h : Int) (hc : Cur l i) : ∃ (c t : Int) (null desc : Bool) (i' h' : Int), spec_l5Any.f l i h = some (c, t, null, desc, i', h') ∧ (-1 ≤ c ∧ c ≤ 10) ∧ (0 ≤ t ∧ t ≤ 5) ∧ Cur l i' := by
  unfold spec_l5Any.f
  obtain ⟨x, i1, h1, e1, x0, x1, _, c1⟩ := spec_l1Below_ok l hl i h hc 3
  obtain ⟨t, null, desc, i2, h2, e2, ht, c2⟩ := spec_l5Draw_ok l hl i1 h1 c1 x
  obtain ⟨y, i3, h3, e3, y0, y1, _, c3⟩ := spec_l1Below_ok l hl i2 h2 c2 12
  have x2 := x1 (by omega)
  simp only [e1, Option.bind_some, e2, e3]
  by_cases q0 : y = 0
  · obtain ⟨c, i4, h4, e4, hm, c4⟩ := spec_l1Int_ok l hl i3 h3 c3 [-1, 9, 10] (by decide)
    simp only [q0, if_true, e4, Option.bind_some]
    refine ⟨c, t, null, desc, i4, h4, rfl, ?_, by omega, c4⟩
    simp only [List.mem_cons, List.not_mem_nil, or_false] at hm
    omega
  by_cases q1 : y = 1
  · obtain ⟨z, i4, h4, e4, z0, z1, _, c4⟩ := spec_l1Below_ok l hl i3 h3 c3 6
    have z2 := z1 (by omega)
    simp only [q1, if_true, show ¬ ((1 : Int) = 0) by decide, if_false, e4, Option.bind_some]
    exact ⟨x, z, null, desc, i4, h4, rfl, by omega, by omega, c4⟩
  · simp only [q0, q1, if_false]
    exact ⟨x, t, null, desc, i3, h3, rfl, by omega, by omega, c3⟩
attribute [local irreducible] spec_l5Any.f

theorem spec_l1Str_ok (l : List Int) (hl : l.length ≤ 1048576) (i h : Int) (hc : Cur l i) (xs : List ByteArray) (hx : 0 < xs.length) : ∃ (x : ByteArray) (i' h' : Int), spec_l1Str.f l i h xs = some (x, i', h') ∧ x ∈ xs ∧ Cur l i' := by
  unfold spec_l1Str.f
  obtain ⟨x, i1, h1, e1, x0, x1, _, c1⟩ := spec_l1Below_ok l hl i h hc (xs.length : Int)
  have hlt := x1 (by omega)
  rw [e1]
  simp only [Option.bind_some, x0, hlt, if_true]
  obtain ⟨j, rfl⟩ := Int.eq_ofNat_of_zero_le x0
  have hj : j < xs.length := by omega
  refine ⟨_, _, _, rfl, ?_, c1⟩
  unfold rdOf
  simp [List.getD_eq_getElem?_getD, hj]
attribute [local irreducible] spec_l1Str.f

theorem spec_l2Text_ok (l : List Int) (hl : l.length ≤ 1048576) (i h : Int) (hc : Cur l i) : ∃ (s : ByteArray) (i' h' : Int), spec_l2Text.f l i h = some (s, i', h') ∧ s.size ≤ 4 ∧ Cur l i' := by
  unfold spec_l2Text.f
  obtain ⟨s, i1, h1, e1, hm, c1⟩ := spec_l1Str_ok l hl i h hc [⟨#[]⟩, ⟨#[97]⟩, ⟨#[98]⟩, ⟨#[97, 98]⟩, ⟨#[0]⟩, ⟨#[97, 0]⟩, ⟨#[0, 255]⟩, ⟨#[255]⟩, ⟨#[119, 111, 114, 100]⟩, ⟨#[122]⟩] (by decide)
  rw [e1]
  refine ⟨s, i1, h1, rfl, ?_, c1⟩
  simp only [List.mem_cons, List.not_mem_nil, or_false] at hm
  rcases hm with h | h | h | h | h | h | h | h | h | h <;> subst h <;> decide
attribute [local irreducible] spec_l2Text.f

theorem isE_empty : isE ⟨#[]⟩ = true := by unfold isE; rw [ByteArray.toList_eq]; rfl
/-- What is drawn of a value: its kind, its number and its text are small, and of a type that there is it fits. -/
theorem spec_l2Of_j0 (l : List Int) (hl : l.length ≤ 1048576) (i h : Int) (hc : Cur l i) (t : Int) (ht : -9223372036854775808 ≤ t ∧ t ≤ 9223372036854775807) (z null : Bool) (hz : z = true → null = true) : ∃ (a n : Int) (s : ByteArray) (i' h' : Int),
    Ev (fun k => spec_l2Of.j0 k t z l i h) (a, n, s, i', h') ∧ (a = t ∨ a = 0) ∧ (-1000000000000000 ≤ n ∧ n ≤ 1000000000000000) ∧ s.size ≤ 4 ∧ (1 ≤ t → t ≤ 4 → fitsB t null a n s = true) ∧ Cur l i' := by
  cases hzz : z with
  | true =>
    refine ⟨0, 0, ⟨#[]⟩, i, h, ev_succ ?_, .inr rfl, by omega, by decide, fun _ _ => ?_, hc⟩
    · simp only [spec_l2Of.j0.eq_2, if_true]; exact ev_some _
    · unfold fitsB valOkB; simp [hz hzz, isE_empty]
  | false =>
    by_cases h1 : t = 1
    · subst h1
      obtain ⟨n, i1, h1, e1, hm, c1⟩ := spec_l1Int_ok l hl i h hc [0, 1, 2, 3, -1, 255, 256, 2147483647, -2147483648] (by decide)
      have hn : -2147483648 ≤ n ∧ n ≤ 2147483647 := by simp only [List.mem_cons, List.not_mem_nil, or_false] at hm; omega
      refine ⟨1, n, ⟨#[]⟩, i1, h1, ev_succ ?_, .inl rfl, by omega, by decide, fun _ _ => ?_, c1⟩
      · simp only [spec_l2Of.j0.eq_2, Bool.false_eq_true, if_false, if_true, e1, Option.bind_some]; exact ev_some _
      · unfold fitsB valOkB inB; simp [hn, isE_empty]
    · by_cases h2 : t = 2
      · subst h2
        obtain ⟨a, i1, h1', e1, a0, a1, _, c1⟩ := spec_l1Below_ok l hl i h hc 100000
        have a2 := a1 (by omega)
        have w1 : wrap64 (-a) = -a := w64 (by omega) (by omega)
        obtain ⟨n, i2, h2, e2, hm, c2⟩ := spec_l1Int_ok l hl i1 h1' c1 [0, 1, -1, 255, 256, -256, -257, 65535, 1000000000000000, -1000000000000000, wrap64 (-a)] (by simp)
        rw [w1] at hm
        have hn : -1000000000000000 ≤ n ∧ n ≤ 1000000000000000 := by simp only [List.mem_cons, List.not_mem_nil, or_false] at hm; omega
        refine ⟨2, n, ⟨#[]⟩, i2, h2, ev_succ ?_, .inl rfl, hn, by decide, fun _ _ => ?_, c2⟩
        · simp only [spec_l2Of.j0.eq_2, Bool.false_eq_true, if_false, h1, if_true, e1, Option.bind_some, e2]; exact ev_some _
        · unfold fitsB valOkB inB; simp [hn, isE_empty]
      · by_cases h3 : t = 3
        · subst h3
          obtain ⟨s, i1, h1', e1, hs, c1⟩ := spec_l2Text_ok l hl i h hc
          refine ⟨3, 0, s, i1, h1', ev_succ ?_, .inl rfl, by omega, hs, fun _ _ => ?_, c1⟩
          · simp only [spec_l2Of.j0.eq_2, Bool.false_eq_true, if_false, h1, h2, if_true, e1, Option.bind_some]; exact ev_some _
          · unfold fitsB valOkB; simp; omega
        · obtain ⟨n, i1, h1', e1, a0, a1, _, c1⟩ := spec_l1Below_ok l hl i h hc 2
          have a2 := a1 (by omega)
          refine ⟨t, n, ⟨#[]⟩, i1, h1', ev_succ ?_, .inl rfl, by omega, by decide, fun t1 t4 => ?_, c1⟩
          · simp only [spec_l2Of.j0.eq_2, Bool.false_eq_true, if_false, h1, h2, h3, e1, Option.bind_some]; exact ev_some _
          · have h4 : t = 4 := by omega
            subst h4
            unfold fitsB valOkB inB; simp [isE_empty]
            omega
theorem spec_l2Of_ev (l : List Int) (hl : l.length ≤ 1048576) (i h : Int) (hc : Cur l i) (t : Int) (ht : -9223372036854775808 ≤ t ∧ t ≤ 9223372036854775807) (null : Bool) : ∃ (a n : Int) (s : ByteArray) (i' h' : Int),
    Ev (fun k => spec_l2Of.f k l i h t null) (a, n, s, i', h') ∧ (a = t ∨ a = 0) ∧ (-1000000000000000 ≤ n ∧ n ≤ 1000000000000000) ∧ s.size ≤ 4 ∧ (1 ≤ t → t ≤ 4 → fitsB t null a n s = true) ∧ Cur l i' := by
  unfold spec_l2Of.f
  cases null with
  | true =>
    obtain ⟨z, i1, h1, e1, c1⟩ := spec_l1Once_ok l hl i h hc 4
    simp only [if_true, e1, Option.bind_some]
    exact spec_l2Of_j0 l hl i1 h1 c1 t ht z true (fun _ => rfl)
  | false =>
    simp only [Bool.false_eq_true, if_false]
    exact spec_l2Of_j0 l hl i h hc t ht false false (fun h => by cases h)
attribute [local irreducible] spec_l2Of.f

theorem spec_l2Draw_ev (l : List Int) (hl : l.length ≤ 1048576) (i h : Int) (hc : Cur l i) : ∃ (a n : Int) (s : ByteArray) (i' h' : Int),
    Ev (fun k => spec_l2Draw.f k l i h) (a, n, s, i', h') ∧ (0 ≤ a ∧ a ≤ 4) ∧ (-1000000000000000 ≤ n ∧ n ≤ 1000000000000000) ∧ s.size ≤ 4 ∧ Cur l i' := by
  unfold spec_l2Draw.f
  obtain ⟨x, i1, h1, e1, x0, x1, _, c1⟩ := spec_l1Below_ok l hl i h hc 4
  have x2 := x1 (by omega)
  have w1 : wrap64 (1 + x) = 1 + x := w64 (by omega) (by omega)
  simp only [e1, Option.bind_some, w1]
  obtain ⟨a, n, s, i2, h2, hE, ha, hn, hs, _, c2⟩ := spec_l2Of_ev l hl i1 h1 c1 (1 + x) (by omega) true
  exact ⟨a, n, s, i2, h2, Ev.bind hE (ev_some _), by omega, hn, hs, c2⟩
attribute [local irreducible] spec_l2Draw.f

theorem spec_l1Num_ok (l : List Int) (hl : l.length ≤ 1048576) (i h : Int) (hc : Cur l i) : ∃ n i' h' : Int, spec_l1Num.f l i h = some (n, i', h') ∧ (-9223372036854775808 ≤ n ∧ n ≤ 9223372036854775807) ∧ Cur l i' := by
  unfold spec_l1Num.f
  obtain ⟨a, i1, h1, e1, a0, a1, _, c1⟩ := spec_l1Below_ok l hl i h hc 100000
  obtain ⟨b, i2, h2, e2, b0, b1, _, c2⟩ := spec_l1Below_ok l hl i1 h1 c1 100000
  have a2 := a1 (by omega)
  have b2 := b1 (by omega)
  simp only [e1, e2, Option.bind_some]
  rw [w64 (x := -b) (by omega) (by omega)]
  obtain ⟨n, i3, h3, e3, hm, c3⟩ := spec_l1Int_ok l hl i2 h2 c2 [0, 1, -1, 63, 127, 128, 255, 256, 65535, 65536, 2147483647, -2147483648, 2147483648, -2147483649, 1000000000000000, -1000000000000000, 1000000000000001, 9223372036854775807, -9223372036854775808, a, -b] (by simp)
  rw [e3]
  refine ⟨n, i3, h3, rfl, ?_, c3⟩
  simp only [List.mem_cons, List.not_mem_nil, or_false] at hm
  omega
attribute [local irreducible] spec_l1Num.f

theorem spec_l2Any_ev (l : List Int) (hl : l.length ≤ 1048576) (i h : Int) (hc : Cur l i) : ∃ (a n : Int) (s : ByteArray) (i' h' : Int),
    Ev (fun k => spec_l2Any.f k l i h) (a, n, s, i', h') ∧ (0 ≤ a ∧ a ≤ 5) ∧ (-9223372036854775808 ≤ n ∧ n ≤ 9223372036854775807) ∧ s.size ≤ 31 ∧ Cur l i' := by
  unfold spec_l2Any.f
  obtain ⟨a, n, s, i1, h1, hE, ha, hn, hs, c1⟩ := spec_l2Draw_ev l hl i h hc
  obtain ⟨x, i2, h2, e2, x0, x1, _, c2⟩ := spec_l1Below_ok l hl i1 h1 c1 10
  by_cases y0 : x = 0
  · obtain ⟨y, i3, h3, e3, z0, z1, _, c3⟩ := spec_l1Below_ok l hl i2 h2 c2 6
    have z2 := z1 (by omega)
    refine ⟨y, n, s, i3, h3, Ev.bind hE ?_, by omega, by omega, by omega, c3⟩
    simp only [e2, Option.bind_some, y0, if_true, e3]
    exact ev_some _
  by_cases y1 : x = 1
  · obtain ⟨m, i3, h3, e3, hm, c3⟩ := spec_l1Num_ok l hl i2 h2 c2
    refine ⟨a, m, s, i3, h3, Ev.bind hE ?_, by omega, hm, by omega, c3⟩
    simp only [e2, Option.bind_some, y0, y1, if_true, if_false, e3, show ¬ ((1 : Int) = 0) by decide]
    exact ev_some _
  by_cases y2 : x = 2
  · obtain ⟨y, i3, h3, e3, z0, z1, _, c3⟩ := spec_l1Below_ok l hl i2 h2 c2 2
    have z2 := z1 (by omega)
    have w1 : wrap64 (30 + y) = 30 + y := w64 (by omega) (by omega)
    refine ⟨a, n, strOfNums (List.replicate (30 + y).toNat 0), i3, h3, Ev.bind hE ?_, by omega, by omega, by rw [strOfNums_size, List.length_replicate]; omega, c3⟩
    have q1 : (0 : Int) ≤ 30 + y := by omega
    have q2 : (30 + y).toNat ≤ 281474976710656 := by omega
    simp only [e2, Option.bind_some, y0, y1, y2, if_true, if_false, e3, w1, q1, q2, show ¬ ((2 : Int) = 0) by decide, show ¬ ((2 : Int) = 1) by decide]
    exact ev_some _
  by_cases y3 : x = 3
  · obtain ⟨t, i3, h3, e3, hm, c3⟩ := spec_l1Str_ok l hl i2 h2 c2 [⟨#[105, 116, 39, 115]⟩, ⟨#[97, 32, 98]⟩, ⟨#[126]⟩, ⟨#[127]⟩] (by decide)
    have ht : t.size ≤ 4 := by
      simp only [List.mem_cons, List.not_mem_nil, or_false] at hm
      rcases hm with h | h | h | h <;> subst h <;> decide
    refine ⟨a, n, t, i3, h3, Ev.bind hE ?_, by omega, by omega, by omega, c3⟩
    simp only [e2, Option.bind_some, y0, y1, y2, y3, if_true, if_false, e3, show ¬ ((3 : Int) = 0) by decide, show ¬ ((3 : Int) = 1) by decide, show ¬ ((3 : Int) = 2) by decide]
    exact ev_some _
  · refine ⟨a, n, s, i2, h2, Ev.bind hE ?_, by omega, by omega, by omega, c2⟩
    simp only [e2, Option.bind_some, y0, y1, y2, y3, if_false]
    exact ev_some _
attribute [local irreducible] spec_l2Any.f

theorem spec_l5Val_ev (l : List Int) (hl : l.length ≤ 1048576) (i h : Int) (hc : Cur l i) (c t : Int) (ht : 0 ≤ t ∧ t ≤ 5) (null desc : Bool) : ∃ (k n : Int) (s : ByteArray) (i' h' : Int),
    Ev (fun j => spec_l5Val.f j l i h c t null desc) (k, n, s, i', h') ∧ (-9223372036854775808 ≤ n ∧ n ≤ 9223372036854775807) ∧ s.size ≤ 31 ∧ Cur l i' := by
  unfold spec_l5Val.f
  obtain ⟨b, i1, h1, e1, c1⟩ := spec_l1Once_ok l hl i h hc 8
  simp only [e1, Option.bind_some]
  cases b with
  | true =>
    obtain ⟨k, n, s, i2, h2, hE, _, hn, hs, c2⟩ := spec_l2Any_ev l hl i1 h1 c1
    refine ⟨k, n, s, i2, h2, ?_, hn, hs, c2⟩
    simp only [if_true]
    exact Ev.bind hE (ev_some _)
  | false =>
    simp only [Bool.false_eq_true, if_false, spec_PartOk_eq, Option.bind_some]
    cases partOkB c t with
    | true =>
      obtain ⟨k, n, s, i2, h2, hE, _, hn, hs, _, c2⟩ := spec_l2Of_ev l hl i1 h1 c1 t (by omega) null
      refine ⟨k, n, s, i2, h2, ?_, by omega, by omega, c2⟩
      simp only [if_true]
      exact Ev.bind hE (ev_some _)
    | false =>
      obtain ⟨k, n, s, i2, h2, hE, _, hn, hs, c2⟩ := spec_l2Draw_ev l hl i1 h1 c1
      refine ⟨k, n, s, i2, h2, ?_, by omega, by omega, c2⟩
      simp only [Bool.false_eq_true, if_false]
      exact Ev.bind hE (ev_some _)
attribute [local irreducible] spec_l5Val.f

theorem isB_set {l : List Int} (h : IsB l) (i : Nat) (v : Int) (h0 : 0 ≤ v) (h1 : v ≤ 255) : IsB (l.set i v) := fun x hx => by
  rcases List.mem_or_eq_of_mem_set hx with hx | rfl
  · exact h x hx
  · exact ⟨h0, h1⟩
theorem spec_l1Bend_ok (l : List Int) (hl : l.length ≤ 1048576) (i h : Int) (hc : Cur l i) (b : List Int) (hb : IsB b) (hbl : b.length ≤ 4294967296) : ∃ (o : List Int) (i' h' : Int), spec_l1Bend.f l i h b = some (o, i', h') ∧ o.length ≤ b.length + 1 ∧ IsB o ∧ Cur l i' := by
  unfold spec_l1Bend.f
  by_cases h0 : (b.length : Int) = 0
  · rw [if_pos h0]; exact ⟨b, i, h, rfl, by omega, hb, hc⟩
  rw [if_neg h0]
  obtain ⟨x, i1, h1, e1, x0, x1, _, c1⟩ := spec_l1Below_ok l hl i h hc 5
  simp only [e1, Option.bind_some]
  by_cases hx0 : x = 0
  · simp only [hx0, if_true]
    obtain ⟨j, i2, h2, e2, j0, j1, _, c2⟩ := spec_l1Below_ok l hl i1 h1 c1 (b.length : Int)
    obtain ⟨v, i3, h3, e3, hv, c3⟩ := spec_l1Int_ok l hl i2 h2 c2 [0, 1, 2, 127, 128, 255] (by decide)
    have hj := j1 (by omega)
    simp only [e2, e3, Option.bind_some, j0, hj, if_true]
    refine ⟨_, _, _, rfl, by rw [List.length_set]; omega, isB_set hb _ _ (by omega) (by omega), c3⟩
  · simp only [hx0, if_false]
    by_cases hx1 : x = 1
    · have hlt : b.length < 140737488355328 := by omega
      simp only [hx1, if_true, hlt]
      exact ⟨_, _, _, rfl, by simp, hb.append (IsB.cons (by omega) (by omega) IsB.nil), c1⟩
    · simp only [hx1, if_false]
      by_cases hx2 : x = 2
      · simp only [hx2, if_true]
        obtain ⟨j, i2, h2, e2, j0, j1, _, c2⟩ := spec_l1Below_ok l hl i1 h1 c1 (b.length : Int)
        have hj := j1 (by omega)
        have hj2 : j ≤ (b.length : Int) := by omega
        simp only [e2, Option.bind_some, j0, hj2, if_true]
        exact ⟨_, _, _, rfl, by rw [List.length_take]; omega, hb.take _, c2⟩
      · simp only [hx2, if_false]
        exact ⟨b, _, _, rfl, by omega, hb, c1⟩
attribute [local irreducible] spec_l1Bend.f

theorem spec_l1At_ok (l : List Int) (hl : l.length ≤ 1048576) (i h : Int) (hc : Cur l i) (b : List Int) (hbl : b.length ≤ 4294967296) : ∃ n i' h' : Int, spec_l1At.f l i h b = some (n, i', h') ∧ (-9223372036854775808 ≤ n ∧ n ≤ 9223372036854775807) ∧ Cur l i' := by
  unfold spec_l1At.f
  have w1 : wrap64 ((b.length : Int) + 1) = (b.length : Int) + 1 := w64 (by omega) (by omega)
  rw [w1]
  clear w1
  obtain ⟨x, i1, h1, e1, x0, x1, _, c1⟩ := spec_l1Below_ok l hl i h hc ((b.length : Int) + 1)
  have hx := x1 (by omega)
  simp only [e1, Option.bind_some]
  obtain ⟨n, i2, h2, e2, hm, c2⟩ := spec_l1Int_ok l hl i1 h1 c1 [0, 0, 0, (b.length : Int), x, -1, 9223372036854775807] (by simp)
  rw [e2]
  refine ⟨n, i2, h2, rfl, ?_, c2⟩
  simp only [List.mem_cons, List.not_mem_nil, or_false] at hm
  omega
attribute [local irreducible] spec_l1At.f

theorem spec_DrawGetPart_ev (l : List Int) (hl : l.length ≤ 1048576) : ∃ (b : List Int) (c t : Int) (null desc : Bool) (i : Int), Ev (fun k => spec_DrawGetPart.f k l) (b, c, t, null, desc, i) ∧ IsB b ∧ b.length ≤ 64 ∧ (-9223372036854775808 ≤ i ∧ i ≤ 9223372036854775807) := by
  unfold spec_DrawGetPart.f
  obtain ⟨r, hr⟩ := spec_l1New_ev l hl
  obtain ⟨c, t, null, desc, i1, h1, e1, hc, ht, c1⟩ := spec_l5Any_ok l hl 0 r (Cur.start l)
  obtain ⟨k, n, s, i2, h2, hE2, hn, hs, c2⟩ := spec_l5Val_ev l hl i1 h1 c1 c t ht null desc
  have lP := putPart_len c t null desc k n s
  have eP := spec_PutPart_ev [] (by simp) IsB.nil c t null desc k n hn s
  rw [List.nil_append] at eP
  have bP := putPart_isB c t null desc k n s
  generalize putPart c t null desc k n s = P at lP eP bP
  obtain ⟨b, i3, h3, e3, hb, hbb, c3⟩ := spec_l1Bend_ok l hl i2 h2 c2 P bP (by omega)
  obtain ⟨x, i4, h4, e4, hx, c4⟩ := spec_l1At_ok l hl i3 h3 c3 b (by omega)
  refine ⟨b, c, t, null, desc, x, Ev.bind hr ?_, hbb, by omega, hx⟩
  simp only [e1, Option.bind_some]
  refine Ev.bind hE2 (Ev.bind eP ?_)
  have e5 : ∀ k : Nat, ((spec_l1Bend.f l i2 h2 P).bind fun bt707 => ((spec_l1At.f l bt707.2.1 bt707.2.2 bt707.1).bind fun bt712 => (some (bt707.1, c, t, null, desc, bt712.1)))) = some (b, c, t, null, desc, x) := fun k => by rw [e3, Option.bind_some]; dsimp only; rw [e4]; rfl
  exact ⟨0, fun k _ => e5 k⟩
attribute [local irreducible] spec_DrawGetPart.f

theorem spec_DrawLessPart_ev (l : List Int) (hl : l.length ≤ 1048576) : ∃ (c t : Int) (null desc : Bool) (k n : Int) (s : ByteArray) (k' n' : Int) (s' : ByteArray), Ev (fun j => spec_DrawLessPart.f j l) (c, t, null, desc, k, n, s, k', n', s') := by
  unfold spec_DrawLessPart.f
  obtain ⟨r, hr⟩ := spec_l1New_ev l hl
  obtain ⟨c, t, null, desc, i1, h1, e1, hc, ht, c1⟩ := spec_l5Any_ok l hl 0 r (Cur.start l)
  obtain ⟨k, n, s, i2, h2, hE2, _, _, c2⟩ := spec_l5Val_ev l hl i1 h1 c1 c t ht null desc
  obtain ⟨k', n', s', i3, h3, hE3, _, _, c3⟩ := spec_l5Val_ev l hl i2 h2 c2 c t ht null desc
  refine ⟨c, t, null, desc, k, n, s, k', n', s', Ev.bind hr ?_⟩
  simp only [e1, Option.bind_some]
  exact Ev.bind hE2 (Ev.bind hE3 (ev_some _))
attribute [local irreducible] spec_DrawLessPart.f

theorem impl_LessVal_eq (k n : Int) (s : ByteArray) (k' n' : Int) (s' : ByteArray) : impl_LessVal.f k n s k' n' s' = some (lessVB k n s k' n' s') := by
  unfold impl_LessVal.f lessVB
  split
  · split <;> rfl
  · rfl
attribute [local irreducible] impl_LessVal.f

theorem impl_LessPart_eq (a0 a1 : Int) (a2 a3 : Bool) (k n : Int) (s : ByteArray) (k' n' : Int) (s' : ByteArray) : impl_LessPart.f a0 a1 a2 a3 k n s k' n' s' = some (lessPB a3 k n s k' n' s') := by
  unfold impl_LessPart.f lessPB
  simp only [impl_LessVal_eq, Option.bind_some]
  split <;> rfl
attribute [local irreducible] impl_LessPart.f

theorem spec_LessVal_eq (k n : Int) (s : ByteArray) (k' n' : Int) (s' : ByteArray) : spec_LessVal.f k n s k' n' s' = some (lessVB k n s k' n' s') := by
  unfold spec_LessVal.f lessVB
  split
  · split <;> rfl
  · rfl
attribute [local irreducible] spec_LessVal.f

theorem spec_LessPart_eq (a0 a1 : Int) (a2 a3 : Bool) (k n : Int) (s : ByteArray) (k' n' : Int) (s' : ByteArray) : spec_LessPart.f a0 a1 a2 a3 k n s k' n' s' = some (lessPB a3 k n s k' n' s') := by
  unfold spec_LessPart.f lessPB
  simp only [spec_LessVal_eq, Option.bind_some]
  split <;> rfl
attribute [local irreducible] spec_LessPart.f

--import B
--import O
--import K
theorem lessVB_not (k n : Int) (s : ByteArray) (k' n' : Int) (s' : ByteArray) (h : lessVB k n s k' n' s' = true) : lessVB k' n' s' k n s = false := by
  unfold lessVB at h ⊢
  by_cases hk : k = k'
  · subst hk
    rw [if_pos rfl] at h ⊢
    by_cases hn : n = n'
    · subst hn
      rw [if_pos rfl] at h ⊢
      rw [bytesLess_bytesOf] at h ⊢
      exact ltB_asymm _ _ h
    · rw [if_neg hn] at h
      rw [if_neg (fun e => hn e.symm)]
      have := of_decide_eq_true h
      exact decide_eq_false (by omega)
  · rw [if_neg hk] at h
    rw [if_neg (fun e => hk e.symm)]
    have := of_decide_eq_true h
    exact decide_eq_false (by omega)
theorem lessPB_not (d : Bool) (k n : Int) (s : ByteArray) (k' n' : Int) (s' : ByteArray) (h : lessPB d k n s k' n' s' = true) : lessPB d k' n' s' k n s = false := by
  unfold lessPB at h ⊢
  cases d with
  | true =>
    rw [if_pos rfl] at h ⊢
    exact lessVB_not _ _ _ _ _ _ h
  | false =>
    rw [if_neg (by decide)] at h ⊢
    exact lessVB_not _ _ _ _ _ _ h
theorem FnPartsRead : laws_FnPartsRead.Pure := by
  intro l0 hm0 hb0 hw0
  refine Ev.rounds ?_
  unfold laws_FnPartsRead.f
  simp only [laws_big_eq, Option.bind_some]
  by_cases hn0 : (l0.length : Int) > 1048576
  · simp only [hn0, decide_true, if_true]; exact ev_some _
  simp only [hn0, decide_false, Bool.false_eq_true, if_false]
  have hl : l0.length ≤ 1048576 := by omega
  obtain ⟨b, c, t, null, desc, i, hE1, hb, hbl, hi⟩ := spec_DrawGetPart_ev l0 hl
  obtain ⟨c2, t2, null2, desc2, k, n, s, k', n', s', hE2⟩ := spec_DrawLessPart_ev l0 hl
  have g1 := impl_GetPart_ev b (by omega) hb c t null desc i
  have g2 := spec_GetPart_ev b (by omega) hb c t null desc i
  cases hg : getPart b c t null desc i with
  | mk gk r =>
  obtain ⟨gn, gs, gq, ok⟩ := r
  rw [hg] at g1 g2
  have tail : ∀ x : Bool, x = false → Ev (fun k => laws_FnPartsRead.j0 k b i gq ok ok x c t null desc gk gn gs) true := by
    intro x hx
    subst hx
    refine ev_succ ?_
    simp only [laws_FnPartsRead.j0.eq_2, Bool.false_eq_true, if_false, BEq.rfl, if_true]
    cases ok with
    | false => simp only [Bool.false_eq_true, if_false]; exact ev_some _
    | true =>
      obtain ⟨q0, q1, q2, q3, q4⟩ := getPart_spec hb hg
      have hf : fitsB t null gk gn gs = true := by
        unfold okPV at q0
        rw [Bool.and_eq_true] at q0
        exact q0.2
      have lP := putPart_len c t null desc gk gn gs
      have eP := impl_PutPart_ev [] (by simp) IsB.nil c t null desc gk gn gs
      rw [List.nil_append, q4] at eP
      rw [q4] at lP
      have q5 : i ≤ gq := by omega
      simp only [if_true, impl_Fits_eq, Option.bind_some, hf]
      refine Ev.bind eP ?_
      simp only [q1, q5, q3, if_true]
      have sb := laws_sameBytes_ev ((b.take gq.toNat).drop i.toNat) ((b.take gq.toNat).drop i.toNat) (by omega)
      rw [decide_eq_true rfl] at sb
      exact Ev.bind sb (ev_some _)
  refine Ev.bind hE1 (Ev.bind g1 (Ev.bind g2 (Ev.bind hE2 ?_)))
  simp only [impl_LessPart_eq, spec_LessPart_eq, Option.bind_some, bne_self_eq_false, Bool.false_eq_true, if_false]
  cases h : lessPB desc2 k n s k' n' s' with
  | false => simp only [Bool.false_eq_true, if_false]; exact tail _ rfl
  | true => simp only [if_true]; exact tail _ (lessPB_not _ _ _ _ _ _ _ h)

end Go.Proofs.Ytnfmpopmigbkoaa.Pure

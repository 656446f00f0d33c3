/- A value that fits a part comes back of its bytes; one that does not puts nothing. No condition. -/
import Derived.Test.YtnfmpopmigbkoaaPFnPartsx10
import Derived.Test.YtnfmpopmigbkoaaUFnParts
namespace Go.Proofs.Ytnfmpopmigbkoaa.Pure
open Go.RowKit Go.Proofs.Ytnfmpopmigbkoaa.PFnParts Go.Proofs.YtnfmpopmigbkoaaW.PrintWords Go.Proofs.YtnfmpopmigbkoaaW.PrintLast Go.Proofs.YtnfmpopmigbkoaaW.PrintMore Go.Proofs.YtnfmpopmigbkoaaM
set_option linter.unusedVariables false
set_option linter.unusedSimpArgs false


theorem impl_in_eq (a b c : Int) : impl_in.f a b c = some (inB a b c) := in_ite a b c
attribute [local irreducible] impl_in.f

theorem impl_PartOk_eq (a0 a1 : Int) (a2 a3 : Bool) : impl_PartOk.f a0 a1 a2 a3 = some (partOkB a0 a1) := by
  unfold impl_PartOk.f partOkB
  simp only [impl_in_eq, Option.bind_some]
  cases inB a0 0 9 <;> simp
attribute [local irreducible] impl_PartOk.f

theorem impl_ValOk_eq (k n : Int) (s : ByteArray) : impl_ValOk.f k n s = some (valOkB k n s) := by
  unfold impl_ValOk.f valOkB isE
  simp only [impl_in_eq, Option.bind_some]
  by_cases h0 : k = 0
  · simp only [h0, if_true]; by_cases hn : n = 0 <;> simp [hn]
  simp only [h0, if_false]
  by_cases h1 : k = 1
  · simp only [h1, if_true]; cases inB n (-2147483648) 2147483647 <;> simp
  simp only [h1, if_false]
  by_cases h2 : k = 2
  · simp only [h2, if_true]; cases inB n (-1000000000000000) 1000000000000000 <;> simp
  simp only [h2, if_false]
  by_cases h3 : k = 3
  · simp only [h3, if_true]; by_cases hn : n = 0 <;> by_cases hs : (s.size : Int) ≤ 30 <;> simp [hn, hs]
  simp only [h3, if_false]
  by_cases h4 : k = 4
  · simp only [h4, if_true]; cases inB n 0 1 <;> simp
  simp only [h4, if_false]
attribute [local irreducible] impl_ValOk.f

theorem impl_Fits_eq (a0 t : Int) (null a3 : Bool) (k n : Int) (s : ByteArray) : impl_Fits.f a0 t null a3 k n s = some (fitsB t null k n s) := by
  unfold impl_Fits.f fitsB
  simp only [impl_ValOk_eq, Option.bind_some]
  cases valOkB k n s
  · simp
  · simp only [if_true, Bool.true_and]
    by_cases h1 : k = t
    · rw [if_pos h1]
      by_cases h0 : k = 0
      · rw [if_pos h0, if_pos h0]
      · rw [if_neg h0, if_neg h0]; simp [h1]
    · rw [if_neg h1]
      by_cases h0 : k = 0
      · rw [if_pos h0, if_pos h0]
      · rw [if_neg h0, if_neg h0]; simp [h1]
attribute [local irreducible] impl_Fits.f

theorem impl_copyBytes_eq (l : List Int) (h : l.length < 140737488355328) : impl_copyBytes.f l = some l := by
  unfold impl_copyBytes.f
  simp only [List.length_nil, Nat.zero_add, List.nil_append]
  rw [if_pos h]
attribute [local irreducible] impl_copyBytes.f

theorem impl_Flip_l0 (l : List Int) (hl : l.length ≤ 140737480000000) (hb : IsB l) (p : Nat) : ∀ i : Nat, i ≤ l.length → p ≤ i → ∀ xs : List Int, xs.length = l.length → xs.drop i = l.drop i →
    Ev (fun k => impl_Flip.l0 k xs (i : Int)) (xs.take i ++ (l.drop i).map fun x => 255 - x) := by
  refine up_ind l.length (fun i : Nat => p ≤ i → ∀ xs : List Int, xs.length = l.length → xs.drop i = l.drop i → Ev (fun k => impl_Flip.l0 k xs (i : Int)) (xs.take i ++ (l.drop i).map fun x => 255 - x)) ?_ ?_
  · intro _ xs hx _
    refine ev_succ ?_
    have h1 : ¬ ((l.length : Int) < (xs.length : Int)) := by omega
    simp only [impl_Flip.l0.eq_2, h1, if_false]
    rw [List.take_of_length_le (by omega), List.drop_eq_nil_of_le (by omega), List.map_nil, List.append_nil]
    exact ev_some _
  · intro i hi ih hp xs hx he
    refine ev_succ ?_
    have hxi : i < xs.length := by omega
    have h1 : (i : Int) < (xs.length : Int) := by omega
    have h2 : (0 : Int) ≤ (i : Int) := by omega
    have h3 : xs[i] = l[i] := by
      have := congrArg (fun l => l[0]?) he
      simp only [List.getElem?_drop, Nat.add_zero] at this
      rw [List.getElem?_eq_getElem hxi, List.getElem?_eq_getElem hi] at this
      exact Option.some.inj this
    obtain ⟨g0, g1⟩ := hb.get i hi
    simp only [impl_Flip.l0.eq_2, h1, h2, if_true, Int.toNat_natCast, rd_nat xs i hxi, h3, xor255 l[i] g0 g1, wsucc (show i < 9223372036854775807 by omega)]
    have := ih (by omega) (xs.set i (255 - l[i])) (by simp [hx]) (by
      rw [List.drop_set_of_lt (by omega)]
      have := congrArg (List.drop 1) he
      simpa [List.drop_drop, Nat.add_comm] using this)
    rw [take_set_succ _ _ _ hxi, List.append_assoc] at this
    rw [List.drop_eq_getElem_cons hi]
    exact this
theorem impl_Flip_ev (l : List Int) (p : Int) (hl : l.length ≤ 140737480000000) (hb : IsB l) : Ev (fun k => impl_Flip.f k l p) (flipB l p) := by
  unfold impl_Flip.f
  simp only [impl_copyBytes_eq l (by omega), Option.bind_some]
  have e : mx p 0 = ((p.toNat : Nat) : Int) := by unfold mx; split <;> omega
  rw [e]
  by_cases hp : p.toNat ≤ l.length
  · exact impl_Flip_l0 l hl hb p.toNat p.toNat hp (Nat.le_refl _) l rfl rfl
  · refine ev_succ ?_
    have h1 : ¬ (((p.toNat : Nat) : Int) < (l.length : Int)) := by omega
    simp only [impl_Flip.l0.eq_2, h1, if_false]
    unfold flipB
    rw [List.take_of_length_le (by omega), List.drop_eq_nil_of_le (by omega), List.map_nil, List.append_nil]
    exact ev_some _
attribute [local irreducible] impl_Flip.f

theorem impl_addBytes_l0 (n : Nat) (t : Bool) (c : Nat) : ∀ o : List Int, c ≤ 7 → o.length + c < 140737488355328 →
    Ev (fun k => impl_addBytes.l0 k o (n : Int) (if t = true then 255 else 0) ((c : Int) - 1)) (o ++ (beB n c).map fun x => if t = true then 255 - x else x) := by
  induction c with
  | zero =>
    intro o _ _
    refine ev_succ ?_
    have h1 : ¬ (((0 : Nat) : Int) - 1 ≥ 0) := by decide
    simp only [impl_addBytes.l0.eq_2, h1, if_false, beB, List.map_nil, List.append_nil]
    exact ev_some _
  | succ c ih =>
    intro o hc ho
    refine ev_succ ?_
    have e1 : ((c + 1 : Nat) : Int) - 1 = (c : Int) := by omega
    have h1 : (c : Int) ≥ 0 := by omega
    have h2 : wrap64 (8 * (c : Int)) = ((8 * c : Nat) : Int) := by rw [w64 (by omega) (by omega)]; omega
    have h3 : (0 : Int) ≤ ((8 * c : Nat) : Int) := by omega
    have h4 : o.length < 140737488355328 := by omega
    have h5 : wrap64 ((c : Int) - 1) = (c : Int) - 1 := w64 (by omega) (by omega)
    have h6 : shr .i64 (n : Int) ((8 * c : Nat) : Int) % 256 = ((n / 256 ^ c % 256 : Nat) : Int) := by
      unfold shr
      rw [Int.toNat_natCast, show min (8 * c) IntKind.i64.bits = 8 * c from Nat.min_eq_left (by simp [IntKind.bits]; omega), Nat.pow_mul' 2 8 c |> fun e => show (2 : Int) ^ (8 * c) = ((256 ^ c : Nat) : Int) by rw [Int.pow_mul]; simp]
      omega
    have h7 : bits .xor .u8 ((n / 256 ^ c % 256 : Nat) : Int) (if t = true then 255 else 0) = if t = true then 255 - ((n / 256 ^ c % 256 : Nat) : Int) else ((n / 256 ^ c % 256 : Nat) : Int) := by
      cases t with
      | true => simp only [if_true]; exact xor_255 _ (by omega) (by omega)
      | false => simp only [Bool.false_eq_true, if_false]; exact xor0 _ (by omega) (by omega)
    simp only [impl_addBytes.l0.eq_2, e1, h1, h2, h3, h4, h5, h6, h7, if_true]
    have := ih (o ++ [if t = true then 255 - ((n / 256 ^ c % 256 : Nat) : Int) else ((n / 256 ^ c % 256 : Nat) : Int)]) (by omega) (by simp only [List.length_append, List.length_cons, List.length_nil]; omega)
    rw [List.append_assoc] at this
    exact this
theorem impl_addBytes_ev (o : List Int) (n : Nat) (c : Nat) (t : Bool) (τ : Int) (hτ : τ = if t = true then 255 else 0) (hc : c ≤ 7) (ho : o.length ≤ 140737480000000) :
    Ev (fun k => impl_addBytes.f k o (n : Int) (c : Int) τ) (o ++ (beB n c).map fun x => if t = true then 255 - x else x) := by
  subst hτ
  unfold impl_addBytes.f
  rw [w64 (by omega) (by omega)]
  exact impl_addBytes_l0 n t c o hc (by omega)
attribute [local irreducible] impl_addBytes.f

theorem impl_clamp_eq (n lo hi : Int) : impl_clamp.f n lo hi = some (clampN n lo hi) := rfl
attribute [local irreducible] impl_clamp.f

theorem impl_addFix_ev (l : List Int) (n : Int) (h : l.length ≤ 140737480000000) : Ev (fun k => impl_addFix.f k l n) (l ++ fixB n) := by
  unfold impl_addFix.f
  have hc := clampN_spec n (-2147483648) 2147483647 (by omega)
  simp only [impl_clamp_eq, Option.bind_some]
  have e : wrap64 (clampN n (-2147483648) 2147483647 + 2147483648) = (((clampN n (-2147483648) 2147483647 + 2147483648).toNat : Nat) : Int) := by rw [w64 (by omega) (by omega)]; omega
  rw [e]
  have := impl_addBytes_ev l (clampN n (-2147483648) 2147483647 + 2147483648).toNat 4 false 0 rfl (by omega) h
  have e2 : (beB (clampN n (-2147483648) 2147483647 + 2147483648).toNat 4).map (fun x : Int => if false = true then 255 - x else x) = fixB n := by
    unfold fixB
    simp only [beB, List.map_cons, List.map_nil, Bool.false_eq_true, if_false, List.cons.injEq, and_true, Nat.pow_zero, Nat.pow_one]
    omega
  rw [e2] at this
  exact Ev.bind this (ev_some _)
attribute [local irreducible] impl_addFix.f

theorem impl_bytesOf_l0 (n : Nat) : ∀ c : Nat, c + n ≤ 4611686018427387904 → Ev (fun k => impl_bytesOf.l0 k (n : Int) (c : Int)) ((c + nB n : Nat) : Int) := by
  induction n using Nat.strongRecOn with
  | _ n ih =>
    intro c hc
    refine ev_succ ?_
    by_cases h : n = 0
    · subst h
      have h1 : ¬ (((0 : Nat) : Int) > 0) := by decide
      simp only [impl_bytesOf.l0.eq_2, h1, if_false, nB_zero, Nat.add_zero]
      exact ev_some _
    · have h1 : (n : Int) > 0 := by omega
      have h2 : wrap64 ((c : Int) + 1) = ((c + 1 : Nat) : Int) := wsucc (by omega)
      have h3 : (n : Int) / 256 = ((n / 256 : Nat) : Int) := by omega
      simp only [impl_bytesOf.l0.eq_2, h1, if_true, h2, h3]
      have := ih (n / 256) (by omega) (c + 1) (by omega)
      rw [nB_pos h, show c + (nB (n / 256) + 1) = c + 1 + nB (n / 256) by omega]
      exact this
theorem impl_bytesOf_ev (n : Nat) (h : n ≤ 4611686018427387904) : Ev (fun k => impl_bytesOf.f k (n : Int)) ((nB n : Nat) : Int) := by
  unfold impl_bytesOf.f
  simpa using impl_bytesOf_l0 n 0 (by omega)
attribute [local irreducible] impl_bytesOf.f

theorem impl_addVar_ev (l : List Int) (n : Int) (h : l.length ≤ 140737470000000) : Ev (fun k => impl_addVar.f k l n) (l ++ varB n) := by
  unfold impl_addVar.f
  have hc := varN_spec n
  simp only [impl_clamp_eq, Option.bind_some, show clampN n (-1000000000000000) 1000000000000000 = varN n from rfl]
  unfold varB
  simp only
  by_cases h0 : 0 ≤ varN n
  · have h0' : varN n ≥ 0 := h0
    rw [if_pos h0]
    simp only [h0', if_true]
    obtain ⟨m, hm⟩ := Int.eq_ofNat_of_zero_le h0
    rw [hm] at hc ⊢
    simp only [Int.toNat_natCast]
    have h7 := nB_7 (n := m) (by omega)
    refine Ev.bind (impl_bytesOf_ev m (by omega)) ?_
    have h1 : l.length < 140737488355328 := by omega
    have e : wrap64 (128 + ((nB m : Nat) : Int)) % 256 = 128 + (nB m : Int) := by rw [w64 (by omega) (by omega)]; omega
    simp only [h1, if_true, e]
    have := impl_addBytes_ev (l ++ [128 + (nB m : Int)]) m (nB m) false 0 rfl h7 (by simp only [List.length_append, List.length_cons, List.length_nil]; omega)
    simp only [Bool.false_eq_true, if_false, List.map_id'] at this
    rw [List.append_assoc] at this
    exact Ev.bind this (ev_some _)
  · have h0' : ¬ (varN n ≥ 0) := h0
    rw [if_neg h0]
    simp only [h0', if_false]
    have e0 : wrap64 (-1 - varN n) = (((-1 - varN n).toNat : Nat) : Int) := by rw [w64 (by omega) (by omega)]; omega
    rw [e0]
    have hm : (-1 - varN n).toNat ≤ 1000000000000000 := by omega
    generalize (-1 - varN n).toNat = m at hm
    have h7 := nB_7 (n := m) (by omega)
    refine Ev.bind (impl_bytesOf_ev m (by omega)) ?_
    have h1 : l.length < 140737488355328 := by omega
    have e : wrap64 (127 - ((nB m : Nat) : Int)) % 256 = 127 - (nB m : Int) := by rw [w64 (by omega) (by omega)]; omega
    simp only [h1, if_true, e]
    have := impl_addBytes_ev (l ++ [127 - (nB m : Int)]) m (nB m) true 255 rfl h7 (by simp only [List.length_append, List.length_cons, List.length_nil]; omega)
    simp only [if_true] at this
    rw [List.append_assoc] at this
    exact Ev.bind this (ev_some _)
attribute [local irreducible] impl_addVar.f

theorem impl_addEsc_l0 (s : ByteArray) (hs : s.size ≤ 1048576) : ∀ i : Nat, i ≤ s.size → ∀ o : List Int, o.length + 2 * (s.size - i) + 2 < 140737488355328 →
    Ev (fun k => impl_addEsc.l0 k o s (i : Int)) (o ++ escB ((bytesOf s).drop i)) := by
  refine up_ind s.size (fun i : Nat => ∀ o : List Int, o.length + 2 * (s.size - i) + 2 < 140737488355328 → Ev (fun k => impl_addEsc.l0 k o s (i : Int)) (o ++ escB ((bytesOf s).drop i))) ?_ ?_
  · intro o ho
    refine ev_succ ?_
    have h1 : ¬ ((s.size : Int) < (s.size : Int)) := by omega
    have h2 : o.length + ([0, 1] : List Int).length < 140737488355328 := by simp only [List.length_cons, List.length_nil]; omega
    simp only [impl_addEsc.l0.eq_2, h1, if_false, Option.bind_some, h2, if_true]
    rw [List.drop_eq_nil_of_le (by rw [bytesOf_len]; omega)]
    exact ev_some _
  · intro i hi ih o ho
    refine ev_succ ?_
    have hib : i < (bytesOf s).length := by rw [bytesOf_len]; exact hi
    have h1 : (i : Int) < (s.size : Int) := by omega
    have h2 : (0 : Int) ≤ (i : Int) := by omega
    have h3 : o.length < 140737488355328 := by omega
    have h4 : (o ++ [(bytesOf s)[i]]).length < 140737488355328 := by simp only [List.length_append, List.length_cons, List.length_nil]; omega
    simp only [impl_addEsc.l0.eq_2, h1, h2, h3, h4, if_true, Option.bind_some, bt_get s i hi, wsucc (show i < 9223372036854775807 by omega)]
    rw [List.drop_eq_getElem_cons hib]
    by_cases hz : (bytesOf s)[i] = 0
    · have := ih (o ++ [(bytesOf s)[i]] ++ [255]) (by simp only [List.length_append, List.length_cons, List.length_nil]; omega)
      rw [escB, if_pos hz]
      rw [List.append_assoc, List.append_assoc] at this
      simp only [hz, if_true]
      rw [hz] at this
      simpa using this
    · have := ih (o ++ [(bytesOf s)[i]]) (by simp only [List.length_append, List.length_cons, List.length_nil]; omega)
      rw [escB, if_neg hz]
      rw [List.append_assoc] at this
      simp only [hz, if_false]
      exact this
theorem impl_addEsc_ev (l : List Int) (s : ByteArray) (h : l.length ≤ 140737480000000) (hs : s.size ≤ 1048576) : Ev (fun k => impl_addEsc.f k l s) (l ++ escB (bytesOf s)) := by
  unfold impl_addEsc.f
  simpa using impl_addEsc_l0 s hs 0 (by omega) l (by omega)
attribute [local irreducible] impl_addEsc.f

theorem flipB_behind (l x : List Int) : flipB (l ++ x) (l.length : Int) = l ++ turnL x := flipB_at l x
theorem impl_addPart_j2 (l h : List Int) (hl : l.length + h.length ≤ 140737460000000) (hb : IsB l) (hh : IsB h) (c t : Int) (null desc : Bool) (k n : Int) (s : ByteArray) (hs : s.size ≤ 30) :
    Ev (fun j => impl_addPart.j2 j (l ++ h) (l.length : Int) c t null desc k n s) (l ++ turnB desc (h ++ valB k n s)) := by
  refine ev_succ ?_
  have hll : (l ++ h).length ≤ 140737460000000 := by rw [List.length_append]; omega
  have hv := valB_len k n s hs
  have tail : ∀ v : List Int, valB k n s = v → Ev (fun j => if desc = true then (impl_Flip.f j (l ++ h ++ v) (l.length : Int)).bind fun t => some t else some (l ++ h ++ v)) (l ++ turnB desc (h ++ v)) := by
    intro v hvv
    cases desc with
    | false => simp only [Bool.false_eq_true, if_false, turnB, List.append_assoc]; exact ev_some _
    | true =>
      simp only [if_true, turnB]
      have hib : IsB (l ++ h ++ v) := (hb.append hh).append (by rw [← hvv]; exact valB_isB k n s)
      have e := flipB_behind l (h ++ v)
      rw [← e, ← List.append_assoc]
      exact Ev.bind (impl_Flip_ev _ _ (by rw [List.length_append]; rw [hvv] at hv; omega) hib) (ev_some _)
  simp only [impl_addPart.j2.eq_2]
  by_cases k1 : k = 1
  · have e : valB k n s = fixB n := by unfold valB; rw [if_pos k1]
    simp only [k1, if_true]
    rw [k1] at e
    rw [e]
    refine Ev.bind (impl_addFix_ev (l ++ h) n (by omega)) ?_
    exact tail _ (by rw [k1]; exact e)
  by_cases k2 : k = 2
  · have e : valB k n s = varB n := by unfold valB; rw [if_neg k1, if_pos k2]
    simp only [k1, if_false]
    simp only [k2, if_true]
    rw [k2] at e
    rw [e]
    refine Ev.bind (impl_addVar_ev (l ++ h) n (by omega)) ?_
    exact tail _ (by rw [k2]; exact e)
  by_cases k3 : k = 3
  · have e : valB k n s = escB (bytesOf s) := by unfold valB; rw [if_neg k1, if_neg k2, if_pos k3]
    simp only [k1, k2, if_false]
    simp only [k3, if_true]
    rw [k3] at e
    rw [e]
    refine Ev.bind (impl_addEsc_ev (l ++ h) s (by omega) (by omega)) ?_
    exact tail _ (by rw [k3]; exact e)
  by_cases k4 : k = 4
  · have e : valB k n s = [n % 256] := by unfold valB; rw [if_neg k1, if_neg k2, if_neg k3, if_pos k4]
    have h1 : (l ++ h).length < 140737488355328 := by omega
    simp only [k1, k2, k3, if_false]
    simp only [k4, if_true, h1, Option.bind_some]
    rw [k4] at e
    rw [e]
    exact tail _ (by rw [k4]; exact e)
  · have e : valB k n s = [] := by unfold valB; rw [if_neg k1, if_neg k2, if_neg k3, if_neg k4]
    simp only [k1, k2, k3, k4, if_false, e]
    have := tail [] e
    simpa using this
theorem impl_addPart_ev (l : List Int) (hl : l.length ≤ 140737450000000) (hb : IsB l) (c t : Int) (null desc : Bool) (k n : Int) (s : ByteArray) :
    Ev (fun j => impl_addPart.f j l c t null desc k n s) (l ++ putPart c t null desc k n s) := by
  unfold impl_addPart.f
  simp only [impl_PartOk_eq, impl_Fits_eq, Option.bind_some]
  by_cases hok : okPV c t null k n s = true
  · have h2 := hok
    unfold okPV at h2
    rw [Bool.and_eq_true] at h2
    have hs := okPV_size hok
    have e : putPart c t null desc k n s = turnB desc (bareB null k n s) := by unfold putPart partB; rw [if_pos hok]
    rw [e]
    simp only [h2.1, h2.2, if_true, Bool.not_true]
    refine ev_succ ?_
    have hlt : l.length < 140737488355328 := by omega
    simp only [impl_addPart.j0.eq_2, Bool.false_eq_true, if_false]
    unfold bareB
    cases hn : null with
    | false =>
      simp only [Bool.false_eq_true, if_false]
      refine ev_succ ?_
      simp only [impl_addPart.j1.eq_2, Bool.false_eq_true, if_false]
      have := impl_addPart_j2 l [] (by simp only [List.length_nil]; omega) hb IsB.nil c t false desc k n s hs
      simpa [headB] using this
    | true =>
      simp only [if_true]
      refine ev_succ ?_
      by_cases hk : k = 0
      · have hk' : (k == 0) = true := by simp [hk]
        simp only [impl_addPart.j1.eq_2, hk', if_true, hlt]
        have := impl_addPart_j2 l [0] (by simp only [List.length_cons, List.length_nil]; omega) hb (IsB.cons (by omega) (by omega) IsB.nil) c t true desc k n s hs
        simpa [headB, hk] using this
      · have hk' : (k == 0) = false := by simp [hk]
        simp only [impl_addPart.j1.eq_2, hk', Bool.false_eq_true, if_false, if_true, hlt]
        have := impl_addPart_j2 l [1] (by simp only [List.length_cons, List.length_nil]; omega) hb (IsB.cons (by omega) (by omega) IsB.nil) c t true desc k n s hs
        simpa [headB, hk] using this
  · have e : putPart c t null desc k n s = [] := by unfold putPart; rw [if_neg hok]
    rw [e, List.append_nil]
    unfold okPV at hok
    cases hp : partOkB c t with
    | false =>
      simp only [Bool.false_eq_true, if_false]
      refine ev_succ ?_
      simp only [impl_addPart.j0.eq_2, if_true]
      exact ev_some _
    | true =>
      rw [hp, Bool.true_and] at hok
      have hf : fitsB t null k n s = false := by simpa using hok
      simp only [if_true, hf, Bool.not_false]
      refine ev_succ ?_
      simp only [impl_addPart.j0.eq_2, if_true]
      exact ev_some _
attribute [local irreducible] impl_addPart.f

theorem impl_PutPart_ev (l : List Int) (hl : l.length ≤ 140737450000000) (hb : IsB l) (c t : Int) (null desc : Bool) (k n : Int) (s : ByteArray) :
    Ev (fun j => impl_PutPart.f j l c t null desc k n s) (l ++ putPart c t null desc k n s) := by
  unfold impl_PutPart.f
  simp only [impl_copyBytes_eq l (by omega), Option.bind_some]
  exact Ev.bind (impl_addPart_ev l hl hb c t null desc k n s) (ev_some _)
attribute [local irreducible] impl_PutPart.f

theorem impl_numberAt_l0 (xs : List Int) (hl : xs.length ≤ 7) (hb : IsB xs) (t : Bool) : ∀ i : Nat, i ≤ xs.length → ∀ x : Nat, x < 256 ^ i →
    Ev (fun k => impl_numberAt.l0 k (if t = true then 255 else 0) (x : Int) xs (xs.length : Int) (i : Int)) (((beN x ((xs.drop i).map fun y => if t = true then 255 - y else y) : Nat) : Int), true) := by
  refine up_ind xs.length (fun i : Nat => ∀ x : Nat, x < 256 ^ i → Ev (fun k => impl_numberAt.l0 k (if t = true then 255 else 0) (x : Int) xs (xs.length : Int) (i : Int)) (((beN x ((xs.drop i).map fun y => if t = true then 255 - y else y) : Nat) : Int), true)) ?_ ?_
  · intro x _
    refine ev_succ ?_
    have h1 : ¬ ((xs.length : Int) < (xs.length : Int)) := by omega
    simp only [impl_numberAt.l0.eq_2, h1, if_false]
    rw [List.drop_eq_nil_of_le (by omega)]
    exact ev_some _
  · intro i hi ih x hx
    refine ev_succ ?_
    have h1 : (i : Int) < (xs.length : Int) := by omega
    have h2 : (0 : Int) ≤ (i : Int) := by omega
    have hx7 : x < 281474976710656 := Nat.lt_of_lt_of_le hx (by have := Nat.pow_le_pow_right (show 0 < 256 by omega) (show i ≤ 6 by omega); simpa using this)
    obtain ⟨g0, g1⟩ := hb.get i hi
    have h3 : wrap64 ((x : Int) * 256) = (x : Int) * 256 := w64 (by omega) (by omega)
    have h4 : bits .xor .u8 xs[i] (if t = true then 255 else 0) = if t = true then 255 - xs[i] else xs[i] := by
      cases t with
      | true => simp only [if_true]; exact xor_255 _ g0 g1
      | false => simp only [Bool.false_eq_true, if_false]; exact xor0 _ g0 g1
    have hv : 0 ≤ (if t = true then 255 - xs[i] else xs[i]) ∧ (if t = true then 255 - xs[i] else xs[i]) ≤ 255 := by cases t <;> simp only [if_true, Bool.false_eq_true, if_false] <;> omega
    have h8 : wrap64 ((i : Int) + 1) = ((i + 1 : Nat) : Int) := wsucc (by omega)
    simp only [impl_numberAt.l0.eq_2, h1, h2, if_true, rd_nat xs i hi, h3, h4, h8]
    rw [List.drop_eq_getElem_cons hi, List.map_cons, beN]
    clear h3 h4 h8
    generalize (if t = true then 255 - xs[i] else xs[i]) = v at hv ⊢
    obtain ⟨v, rfl⟩ := Int.eq_ofNat_of_zero_le hv.1
    rw [w64 (by omega) (by omega), or_hi_lo (x : Int) (v : Int) (by omega) (by omega) (by omega) (by omega)]
    have := ih (x * 256 + v) (by rw [Nat.pow_succ]; omega)
    rw [show (x : Int) * 256 + (v : Int) = ((x * 256 + v : Nat) : Int) by omega]
    simpa using this
theorem impl_numberAt_ev (l : List Int) (hl : l.length ≤ 140737488355328) (hb : IsB l) (p : Int) (c : Nat) (hc : c ≤ 7) (t : Bool) (τ : Int) (hτ : τ = if t = true then 255 else 0) (hp : -9223372036854775808 ≤ p ∧ p ≤ 9223372036854775807) :
    Ev (fun k => impl_numberAt.f k l p (c : Int) τ) (readR (readB l p c t)) := by
  subst hτ
  unfold impl_numberAt.f
  by_cases h0 : p < 0
  · simp only [h0, if_true]
    refine ev_succ ?_
    simp only [impl_numberAt.j0.eq_2, if_true]
    rw [readB_neg (by omega)]
    exact ev_some _
  · simp only [h0, if_false]
    have e1 : wrap64 ((l.length : Int) - (c : Int)) = (l.length : Int) - (c : Int) := w64 (by omega) (by omega)
    rw [e1]
    refine ev_succ ?_
    by_cases h1 : p > (l.length : Int) - (c : Int)
    · simp only [impl_numberAt.j0.eq_2, h1, decide_true, if_true]
      rw [readB_neg (by omega)]
      exact ev_some _
    · have e2 : wrap64 (p + (c : Int)) = p + (c : Int) := w64 (by omega) (by omega)
      have a1 : (0 : Int) ≤ p := by omega
      have a2 : p ≤ p + (c : Int) := by omega
      have a3 : p + (c : Int) ≤ (l.length : Int) := by omega
      simp only [impl_numberAt.j0.eq_2, h1, decide_false, Bool.false_eq_true, if_false, e2, a1, a2, a3, if_true, Option.bind_some]
      have e3 : (l.take (p + (c : Int)).toNat).drop p.toNat = (l.drop p.toNat).take c := by
        rw [List.drop_take]; congr 1; omega
      rw [e3]
      have hlen : ((l.drop p.toNat).take c).length = c := by rw [List.length_take, List.length_drop]; omega
      have := impl_numberAt_l0 ((l.drop p.toNat).take c) (by omega) ((hb.drop _).take _) t 0 (by omega) 0 (by decide)
      rw [readB_pos a1 a3]
      exact this
attribute [local irreducible] impl_numberAt.f

theorem impl_GetFix_ev (l : List Int) (hl : l.length ≤ 140737480000000) (hb : IsB l) (p : Int) (hp : -9223372036854775808 ≤ p ∧ p ≤ 9223372036854775807) : Ev (fun k => impl_GetFix.f k l p) (getFix l p) := by
  unfold impl_GetFix.f getFix
  refine Ev.bind (impl_numberAt_ev l (by omega) hb p 4 (by omega) false 0 rfl hp) ?_
  cases h : readB l p 4 false with
  | none => simp only [readR, Bool.false_eq_true, if_false]; exact ev_some _
  | some n =>
    obtain ⟨h0, h1, hn⟩ := readB_some hb h
    have e1 : wrap64 ((n : Int) - 2147483648) = (n : Int) - 2147483648 := w64 (by omega) (by omega)
    have e2 : wrap64 (p + 4) = p + 4 := w64 (by omega) (by omega)
    simp only [readR, if_true, e1, e2]; exact ev_some _
attribute [local irreducible] impl_GetFix.f

theorem impl_GetVar_j1 (l : List Int) (hl : l.length ≤ 140737480000000) (hb : IsB l) (p : Int) (hp : 0 ≤ p ∧ p < l.length) (c : Nat) (hc : c ≤ 7) (t : Bool) (τ : Int) (hτ : τ = if t = true then 255 else 0) :
    Ev (fun k => impl_GetVar.j1 k l p (c : Int) τ) (getVarR p c t (readB l (p + 1) c t)) := by
  refine ev_succ ?_
  have h7 : ¬ ((c : Int) > 7) := by omega
  have e1 : wrap64 (p + 1) = p + 1 := w64 (by omega) (by omega)
  simp only [impl_GetVar.j1.eq_2, h7, if_false, e1]
  refine Ev.bind (impl_numberAt_ev l (by omega) hb (p + 1) c hc t τ hτ (by omega)) ?_
  cases h : readB l (p + 1) c t with
  | none =>
    simp only [readR, Bool.false_eq_true, if_false]
    refine ev_succ ?_
    simp only [impl_GetVar.j2.eq_2, if_true]
    exact ev_some _
  | some n =>
    obtain ⟨_, hpc, hn⟩ := readB_some hb h
    have hn7 : n < 72057594037927936 := Nat.lt_of_lt_of_le hn (by have := Nat.pow_le_pow_right (show 0 < 256 by omega) hc; simpa using this)
    simp only [readR, if_true]
    refine Ev.bind (impl_bytesOf_ev n (by omega)) ?_
    refine ev_succ ?_
    have e2 : wrap64 (p + 1 + (c : Int)) = p + 1 + (c : Int) := w64 (by omega) (by omega)
    unfold getVarR
    by_cases hc2 : nB n = c
    · simp only [impl_GetVar.j2.eq_2, hc2, bne_self_eq_false, Bool.false_eq_true, if_false, hc2, true_and, e1]
      cases t with
      | false =>
        have hτ0 : τ = 0 := by rw [hτ]; rfl
        simp only [hτ0, if_true, impl_in_eq, Option.bind_some, Bool.false_eq_true, if_false, e2]
        cases inB (n : Int) (-1000000000000000) 1000000000000000
        · simp only [Bool.false_eq_true, if_false]; exact ev_some _
        · simp only [if_true]; exact ev_some _
      | true =>
        have hτ0 : ¬ (τ = 0) := by rw [hτ]; decide
        have e3 : wrap64 (-1 - (n : Int)) = -1 - (n : Int) := w64 (by omega) (by omega)
        simp only [hτ0, if_false, impl_in_eq, Option.bind_some, if_true, e2, e3]
        cases inB (-1 - (n : Int)) (-1000000000000000) 1000000000000000
        · simp only [Bool.false_eq_true, if_false]; exact ev_some _
        · simp only [if_true]; exact ev_some _
    · have hne : (((nB n : Nat) : Int) != (c : Int)) = true := by simp; omega
      simp only [impl_GetVar.j2.eq_2, hne, if_true, hc2, false_and, if_false]
      exact ev_some _
theorem impl_GetVar_ev (l : List Int) (hl : l.length ≤ 140737480000000) (hb : IsB l) (p : Int) (hp : -9223372036854775808 ≤ p ∧ p ≤ 9223372036854775807) : Ev (fun k => impl_GetVar.f k l p) (getVar l p) := by
  unfold impl_GetVar.f getVar
  by_cases h0 : p < 0
  · simp only [h0, if_true]
    rw [if_neg (by omega)]
    refine ev_succ ?_
    simp only [impl_GetVar.j0.eq_2, if_true]
    exact ev_some _
  · simp only [h0, if_false]
    by_cases h1 : p ≥ (l.length : Int)
    · rw [if_neg (by omega)]
      refine ev_succ ?_
      simp only [impl_GetVar.j0.eq_2, h1, decide_true, if_true]
      exact ev_some _
    · have a1 : (0 : Int) ≤ p := by omega
      have a2 : p < (l.length : Int) := by omega
      rw [if_pos ⟨a1, a2⟩]
      refine ev_succ ?_
      obtain ⟨g0, g1⟩ := rd_isB hb p
      have e1 : wrap64 (rd l p) = rd l p := w64 (by omega) (by omega)
      have e2 : wrap64 (rd l p - 128) = rd l p - 128 := w64 (by omega) (by omega)
      have e3 : wrap64 (127 - rd l p) = 127 - rd l p := w64 (by omega) (by omega)
      simp only [impl_GetVar.j0.eq_2, h1, decide_false, Bool.false_eq_true, if_false, a1, a2, if_true, e1, e2, e3]
      clear e1 e2 e3
      by_cases hneg : rd l p - 128 < 0
      · simp only [hneg, if_true]
        rw [if_neg (by omega)]
        by_cases h7 : 120 ≤ rd l p
        · rw [if_pos (by omega)]
          have := impl_GetVar_j1 l hl hb p ⟨a1, a2⟩ (127 - rd l p).toNat (by omega) true 255 rfl
          rw [show (((127 - rd l p).toNat : Nat) : Int) = 127 - rd l p by omega] at this
          exact this
        · rw [if_neg (by omega)]
          refine ev_succ ?_
          have h8 : 127 - rd l p > 7 := by omega
          simp only [impl_GetVar.j1.eq_2, h8, if_true]
          exact ev_some _
      · simp only [hneg, if_false]
        by_cases h7 : rd l p ≤ 135
        · rw [if_pos (by omega)]
          have := impl_GetVar_j1 l hl hb p ⟨a1, a2⟩ (rd l p - 128).toNat (by omega) false 0 rfl
          rw [show (((rd l p - 128).toNat : Nat) : Int) = rd l p - 128 by omega] at this
          exact this
        · rw [if_neg (by omega), if_neg (by omega)]
          refine ev_succ ?_
          have h8 : rd l p - 128 > 7 := by omega
          simp only [impl_GetVar.j1.eq_2, h8, if_true]
          exact ev_some _
attribute [local irreducible] impl_GetVar.f

theorem impl_GetEsc_l0 (l : List Int) (hl : l.length ≤ 140737488355327) (d : Nat) : ∀ (p : Nat) (o : List Int), l.length - p = d → (p : Int) ≤ 9223372036854775807 → o.length + (l.length - p) ≤ 140737488355327 →
    Ev (fun k => impl_GetEsc.l0 k l o (p : Int)) (getER (getEB o p (l.drop p))) := by
  induction d using Nat.strongRecOn with
  | _ d ih =>
    intro p o hd hp63 ho
    refine ev_succ (ev_succ ?_)
    have a1 : (p : Int) ≥ 0 := by omega
    by_cases hp : p < l.length
    · have b1 : (p : Int) < (l.length : Int) := by omega
      have b2 : o.length < 140737488355328 := by omega
      simp only [impl_GetEsc.l0.eq_2, impl_GetEsc.j1.eq_2, a1, b1, b2, decide_true, if_true, rd_nat l p hp, wsucc (show p < 9223372036854775807 by omega)]
      rw [List.drop_eq_getElem_cons hp]
      by_cases hz : l[p] = 0
      · by_cases hp1 : p + 1 < l.length
        · have c1 : ¬ (((p + 1 : Nat) : Int) ≥ (l.length : Int)) := by omega
          have c2 : (0 : Int) ≤ ((p + 1 : Nat) : Int) := by omega
          have c3 : ((p + 1 : Nat) : Int) < (l.length : Int) := by omega
          simp only [hz, if_true, c1, if_false, c2, c3, rd_nat l (p + 1) hp1, wsucc (show p + 1 < 9223372036854775807 by omega)]
          rw [List.drop_eq_getElem_cons hp1, getEB_cons]
          by_cases h1 : l[p + 1] = 1
          · simp only [h1, if_true]; exact ev_some _
          · by_cases h255 : l[p + 1] = 255
            · simp only [h255, if_true, show ¬ ((255 : Int) = 1) by decide, if_false]
              exact ih (l.length - (p + 1 + 1)) (by omega) (p + 1 + 1) (o ++ [0]) rfl (by omega) (by simp only [List.length_append, List.length_cons, List.length_nil]; omega)
            · simp only [h1, h255, if_true, if_false]; exact ev_some _
        · have c1 : ((p + 1 : Nat) : Int) ≥ (l.length : Int) := by omega
          simp only [hz, if_true, c1]
          rw [List.drop_eq_nil_of_le (by omega), getEB_one]
          exact ev_some _
      · simp only [hz, if_false]
        have := ih (l.length - (p + 1)) (by omega) (p + 1) (o ++ [l[p]]) rfl (by omega) (by simp only [List.length_append, List.length_cons, List.length_nil]; omega)
        rw [getEB_ne _ _ _ _ hz]
        exact this
    · have b1 : ¬ ((p : Int) < (l.length : Int)) := by omega
      simp only [impl_GetEsc.l0.eq_2, impl_GetEsc.j1.eq_2, a1, b1, decide_false, Bool.false_eq_true, if_true, if_false]
      rw [List.drop_eq_nil_of_le (by omega), getEB_nil]
      exact ev_some _
theorem impl_GetEsc_ev (l : List Int) (hl : l.length ≤ 140737480000000) (hb : IsB l) (p : Int) (hp : -9223372036854775808 ≤ p ∧ p ≤ 9223372036854775807) : Ev (fun k => impl_GetEsc.f k l p) (getEsc l p) := by
  unfold impl_GetEsc.f getEsc
  by_cases h0 : 0 ≤ p
  · obtain ⟨q, rfl⟩ := Int.eq_ofNat_of_zero_le h0
    rw [if_pos h0]
    exact impl_GetEsc_l0 l (by omega) _ q [] rfl (by omega) (by simp only [List.length_nil]; omega)
  · rw [if_neg h0]
    refine ev_succ (ev_succ ?_)
    have a1 : ¬ (p ≥ 0) := by omega
    simp only [impl_GetEsc.l0.eq_2, impl_GetEsc.j1.eq_2, a1, if_false, Bool.false_eq_true]
    exact ev_some _
attribute [local irreducible] impl_GetEsc.f

theorem impl_typedAt_ev (l : List Int) (hl : l.length ≤ 140737480000000) (hb : IsB l) (t p : Int) (hp : -9223372036854775808 ≤ p ∧ p ≤ 9223372036854775807) : Ev (fun k => impl_typedAt.f k l t p) (getTyped l t p) := by
  unfold impl_typedAt.f getTyped
  by_cases t1 : t = 1
  · simp only [t1, if_true]
    exact Ev.bind (impl_GetFix_ev l hl hb p hp) (ev_some _)
  by_cases t2 : t = 2
  · simp only [t1, if_false]
    simp only [t2, if_true]
    exact Ev.bind (impl_GetVar_ev l hl hb p hp) (ev_some _)
  by_cases t3 : t = 3
  · simp only [t1, t2, if_false]
    simp only [t3, if_true]
    exact Ev.bind (impl_GetEsc_ev l hl hb p hp) (ev_some _)
  by_cases t4 : t = 4
  · simp only [t1, t2, t3, if_false]
    simp only [t4, if_true]
    have hr := rd_isB hb p
    by_cases h0 : 0 ≤ p
    · have h0' : p ≥ 0 := h0
      by_cases h1 : p < (l.length : Int)
      · simp only [h0, h0', h1, if_true, and_self, w64 (x := rd l p) (by omega) (by omega), w64 (x := p + 1) (by omega) (by omega)]
        exact ev_some _
      · simp only [h0', h1, if_true, if_false, and_false]
        exact ev_some _
    · have h0' : ¬ (p ≥ 0) := h0
      simp only [h0, h0', if_false, false_and]
      exact ev_some _
  · simp only [t1, t2, t3, t4, if_false]
    exact ev_some _
attribute [local irreducible] impl_typedAt.f

theorem impl_GetPart_fit (c t : Int) (null desc : Bool) (r : Int × Int × ByteArray × Int × Bool) : (if r.2.2.2.2 = true then ((impl_Fits.f c t null desc r.1 r.2.1 r.2.2.1).bind fun t375 => (if t375 = true then (some (r.1, r.2.1, r.2.2.1, r.2.2.2.1, true)) else (some (0, 0, (⟨#[]⟩ : ByteArray), 0, false)))) else (some (0, 0, (⟨#[]⟩ : ByteArray), 0, false))) = some (fitR t null r) := by
  obtain ⟨a, b, s, q, e⟩ := r
  simp only [impl_Fits_eq, Option.bind_some]
  unfold fitR noPart
  cases e with
  | false => simp
  | true =>
    cases hf : fitsB t null a b s with
    | false => simp [hf]
    | true => simp [hf]
theorem impl_GetPart_j1 (l : List Int) (hl : l.length ≤ 140737480000000) (hb : IsB l) (c t : Int) (null desc : Bool) (p : Int) (hp : -9223372036854775808 ≤ p ∧ p ≤ 9223372036854775807) :
    Ev (fun k => impl_GetPart.j1 k l p c t null desc) (fitR t null (getTyped l t p)) := by
  refine ev_succ ?_
  simp only [impl_GetPart.j1.eq_2]
  refine Ev.bind (impl_typedAt_ev l hl hb t p hp) ?_
  rw [impl_GetPart_fit]
  exact ev_some _
theorem impl_GetPart_j2 (l : List Int) (hl : l.length ≤ 140737480000000) (hb : IsB l) (c t : Int) (null desc : Bool) (p : Int) (hp : -9223372036854775808 ≤ p ∧ p ≤ 9223372036854775807) :
    Ev (fun k => impl_GetPart.j2 k l p c t null desc) (fitR t null (getTyped l t p)) := by
  refine ev_succ ?_
  simp only [impl_GetPart.j2.eq_2]
  refine Ev.bind (impl_typedAt_ev l hl hb t p hp) ?_
  rw [impl_GetPart_fit]
  exact ev_some _
theorem impl_GetPart_ev (l : List Int) (hl : l.length ≤ 140737480000000) (hb : IsB l) (c t : Int) (null desc : Bool) (p : Int) :
    Ev (fun k => impl_GetPart.f k l c t null desc p) (getPart l c t null desc p) := by
  unfold impl_GetPart.f getPart
  simp only [impl_PartOk_eq, Option.bind_some]
  have out : Ev (fun k => impl_GetPart.j0 k l p true c t null desc) noPart := by
    refine ev_succ ?_
    simp only [impl_GetPart.j0.eq_2, if_true]
    exact ev_some _
  cases hok : partOkB c t with
  | false =>
    simp only [Bool.false_eq_true, if_false, false_and]
    exact out
  | true =>
    simp only [if_true, true_and]
    by_cases h0 : p < 0
    · have h0' : ¬ (0 ≤ p ∧ p < (l.length : Int)) := by omega
      simp only [h0, h0', if_true, if_false]
      exact out
    · by_cases h1 : p < (l.length : Int)
      · have h01 : 0 ≤ p ∧ p < (l.length : Int) := by omega
        have h00 : 0 ≤ p := h01.1
        have hd : decide (p ≥ (l.length : Int)) = false := decide_eq_false (by omega)
        have w1 : wrap64 (p + 1) = p + 1 := w64 (by omega) (by omega)
        rw [if_pos h01]
        simp only [h0, if_false, hd]
        refine ev_succ ?_
        simp only [impl_GetPart.j0.eq_2, Bool.false_eq_true, if_false, w1]
        unfold getBare
        cases desc with
        | true =>
          simp only [if_true]
          refine Ev.bind (impl_Flip_ev l p hl hb) ?_
          have hfl : (flipB l p).length ≤ 140737480000000 := by rw [flipB_len]; exact hl
          have hfb := flipB_isB hb p
          have hlt : p < ((flipB l p).length : Int) := by rw [flipB_len]; exact h1
          cases null with
          | true =>
            simp only [if_true, h00, hlt]
            by_cases r0 : rd (flipB l p) p = 0
            · simp only [r0, if_true]; exact ev_some _
            · by_cases r1 : rd (flipB l p) p = 1
              · simp only [r1, if_true, show ¬ ((1 : Int) = 0) by decide, if_false]
                exact impl_GetPart_j1 _ hfl hfb c t true true (p + 1) (by omega)
              · simp only [r0, r1, if_false]; exact ev_some _
          | false =>
            simp only [Bool.false_eq_true, if_false]
            exact impl_GetPart_j1 _ hfl hfb c t false true p (by omega)
        | false =>
          simp only [Bool.false_eq_true, if_false]
          cases null with
          | true =>
            simp only [if_true, h00, h1]
            by_cases r0 : rd l p = 0
            · simp only [r0, if_true]; exact ev_some _
            · by_cases r1 : rd l p = 1
              · simp only [r1, if_true, show ¬ ((1 : Int) = 0) by decide, if_false]
                exact impl_GetPart_j2 _ hl hb c t true false (p + 1) (by omega)
              · simp only [r0, r1, if_false]; exact ev_some _
          | false =>
            simp only [Bool.false_eq_true, if_false]
            exact impl_GetPart_j2 _ hl hb c t false false p (by omega)
      · have h01 : ¬ (0 ≤ p ∧ p < (l.length : Int)) := by omega
        have hd : decide (p ≥ (l.length : Int)) = true := decide_eq_true (by omega)
        rw [if_neg h01]
        simp only [h0, if_false, hd]
        exact out
attribute [local irreducible] impl_GetPart.f

theorem laws_big_eq (l : List Int) : laws_big.f l = some (decide ((l.length : Int) > 1048576)) := rfl
attribute [local irreducible] laws_big.f

theorem spec_l1New_l0 (l : List Int) (hl : l.length ≤ 1048576) : ∀ i : Nat, i ≤ l.length → ∀ h : Int, ∃ r : Int, Ev (fun k => spec_l1New.l0 k l h (i : Int)) (l, 0, r) := by
  refine up_ind l.length (fun i : Nat => ∀ h : Int, ∃ r : Int, Ev (fun k => spec_l1New.l0 k l h (i : Int)) (l, 0, r)) ?_ ?_
  · intro h
    refine ⟨h, ev_succ ?_⟩
    have h1 : ¬ ((l.length : Int) < (l.length : Int)) := by omega
    simp only [spec_l1New.l0.eq_2, h1, if_false]
    exact ev_some _
  · intro i hi ih h
    have h1 : (i : Int) < (l.length : Int) := by omega
    have h2 : (0 : Int) ≤ (i : Int) := by omega
    by_cases h4 : (i : Int) < 4000
    · obtain ⟨r, hr⟩ := ih (Go.bits .and .i64 (wrap64 ((wrap64 ((wrap64 (h * 137)) + (wrap64 (rd l (i : Int))))) + 11)) 1073741823)
      refine ⟨r, ev_succ ?_⟩
      simp only [spec_l1New.l0.eq_2, h1, h2, h4, if_true, wsucc (show i < 9223372036854775807 by omega)]
      exact hr
    · refine ⟨h, ev_succ ?_⟩
      simp only [spec_l1New.l0.eq_2, h1, h4, if_true, if_false]
      exact ev_some _
theorem spec_l1New_ev (l : List Int) (hl : l.length ≤ 1048576) : ∃ r : Int, Ev (fun k => spec_l1New.f k l) (l, 0, r) := by
  unfold spec_l1New.f
  exact spec_l1New_l0 l hl 0 (by omega) _
/-- Where a reader of draws stands. -/
def Cur (l : List Int) (i : Int) : Prop := 0 ≤ i ∧ i ≤ l.length
theorem Cur.start (l : List Int) : Cur l 0 := ⟨by omega, by omega⟩
attribute [local irreducible] spec_l1New.f

theorem spec_l1Byte_ok (l : List Int) (hl : l.length ≤ 1048576) (i h : Int) (hc : Cur l i) : ∃ x i' h' : Int, spec_l1Byte.f l i h = some (x, i', h') ∧ 0 ≤ x ∧ x ≤ 255 ∧ Cur l i' := by
  unfold spec_l1Byte.f
  obtain ⟨c0, c1⟩ := hc
  by_cases h1 : i < (l.length : Int)
  · rw [if_pos h1, if_pos c0, w64 (x := i + 1) (by omega) (by omega)]
    refine ⟨_, _, _, rfl, ?_, ?_, ?_, ?_⟩
    · rw [and255]; omega
    · rw [and255]; omega
    · omega
    · omega
  · rw [if_neg h1]
    refine ⟨_, _, _, rfl, ?_, ?_, ?_, ?_⟩
    · rw [and255]; omega
    · rw [and255]; omega
    · omega
    · omega
attribute [local irreducible] spec_l1Byte.f

theorem spec_l1Below_ok (l : List Int) (hl : l.length ≤ 1048576) (i h : Int) (hc : Cur l i) (n : Int) : ∃ x i' h' : Int, spec_l1Below.f l i h n = some (x, i', h') ∧ 0 ≤ x ∧ (0 < n → x < n) ∧ (n ≤ 0 → x = 0) ∧ Cur l i' := by
  unfold spec_l1Below.f
  by_cases h0 : n ≤ 0
  · rw [if_pos h0]
    exact ⟨0, i, h, rfl, by omega, by omega, fun _ => rfl, hc⟩
  · rw [if_neg h0]
    have hn : ¬ (n = 0) := by omega
    obtain ⟨x, i1, h1, e1, x0, x1, c1⟩ := spec_l1Byte_ok l hl i h hc
    by_cases h256 : n ≤ 256
    · rw [if_pos h256, e1]
      simp only [Option.bind_some, hn, if_false]
      refine ⟨_, _, _, rfl, ?_, ?_, by omega, c1⟩
      · exact Int.tmod_nonneg _ x0
      · intro hp; exact Int.tmod_lt_of_pos _ hp
    · obtain ⟨y, i2, h2, e2, y0, y1, c2⟩ := spec_l1Byte_ok l hl i1 h1 c1
      obtain ⟨z, i3, h3, e3, z0, z1, c3⟩ := spec_l1Byte_ok l hl i2 h2 c2
      rw [if_neg h256, e1]
      simp only [Option.bind_some, e2, e3, hn, if_false]
      have w1 : wrap64 (x * 65536) = x * 65536 := w64 (by omega) (by omega)
      have w2 : wrap64 (y * 256) = y * 256 := w64 (by omega) (by omega)
      rw [w1, w2]
      clear w1 w2
      have w3 : wrap64 (x * 65536 + y * 256) = x * 65536 + y * 256 := w64 (by omega) (by omega)
      rw [w3]
      clear w3
      have w4 : wrap64 (x * 65536 + y * 256 + z) = x * 65536 + y * 256 + z := w64 (by omega) (by omega)
      rw [w4]
      clear w4
      refine ⟨_, _, _, rfl, ?_, ?_, by omega, c3⟩
      · exact Int.tmod_nonneg _ (by omega)
      · intro hp; exact Int.tmod_lt_of_pos _ hp
attribute [local irreducible] spec_l1Below.f

theorem spec_l1Once_ok (l : List Int) (hl : l.length ≤ 1048576) (i h : Int) (hc : Cur l i) (n : Int) : ∃ (b : Bool) (i' h' : Int), spec_l1Once.f l i h n = some (b, i', h') ∧ Cur l i' := by
  unfold spec_l1Once.f
  obtain ⟨x, i1, h1, e1, x0, x1, _, c1⟩ := spec_l1Below_ok l hl i h hc n
  rw [e1]
  exact ⟨_, _, _, rfl, c1⟩
attribute [local irreducible] spec_l1Once.f

theorem spec_l5Draw_ok (l : List Int) (hl : l.length ≤ 1048576) (i h : Int) (hc : Cur l i) (col : Int) : ∃ (t : Int) (null desc : Bool) (i' h' : Int), spec_l5Draw.f l i h col = some (col, t, null, desc, i', h') ∧ (1 ≤ t ∧ t ≤ 4) ∧ Cur l i' := by
  unfold spec_l5Draw.f
  obtain ⟨x, i1, h1, e1, x0, x1, _, c1⟩ := spec_l1Below_ok l hl i h hc 4
  obtain ⟨b1, i2, h2, e2, c2⟩ := spec_l1Once_ok l hl i1 h1 c1 2
  obtain ⟨b2, i3, h3, e3, c3⟩ := spec_l1Once_ok l hl i2 h2 c2 2
  have x2 := x1 (by omega)
  have w1 : wrap64 (1 + x) = 1 + x := w64 (by omega) (by omega)
  simp only [e1, Option.bind_some, e2, e3, w1]
  exact ⟨1 + x, b1, b2, i3, h3, rfl, by omega, c3⟩
attribute [local irreducible] spec_l5Draw.f

theorem spec_l1Int_ok (l : List Int) (hl : l.length ≤ 1048576) (i h : Int) (hc : Cur l i) (xs : List Int) (hx : 0 < xs.length) : ∃ x i' h' : Int, spec_l1Int.f l i h xs = some (x, i', h') ∧ x ∈ xs ∧ Cur l i' := by
  unfold spec_l1Int.f
  obtain ⟨x, i1, h1, e1, x0, x1, _, c1⟩ := spec_l1Below_ok l hl i h hc (xs.length : Int)
  have hlt := x1 (by omega)
  rw [e1]
  simp only [Option.bind_some, x0, hlt, if_true]
  obtain ⟨j, rfl⟩ := Int.eq_ofNat_of_zero_le x0
  have hj : j < xs.length := by omega
  exact ⟨_, _, _, rfl, by rw [rd_nat xs j hj]; exact List.getElem_mem hj, c1⟩
attribute [local irreducible] spec_l1Int.f

theorem spec_l5Any_ok (l : List Int) (hl : l.length ≤ 1048576) (i h : Int) (hc : Cur l i) : ∃ (c t : Int) (null desc : Bool) (i' h' : Int), spec_l5Any.f l i h = some (c, t, null, desc, i', h') ∧ (-1 ≤ c ∧ c ≤ 10) ∧ (0 ≤ t ∧ t ≤ 5) ∧ Cur l i' := by
  unfold spec_l5Any.f
  obtain ⟨x, i1, h1, e1, x0, x1, _, c1⟩ := spec_l1Below_ok l hl i h hc 3
  obtain ⟨t, null, desc, i2, h2, e2, ht, c2⟩ := spec_l5Draw_ok l hl i1 h1 c1 x
  obtain ⟨y, i3, h3, e3, y0, y1, _, c3⟩ := spec_l1Below_ok l hl i2 h2 c2 12
  have x2 := x1 (by omega)
  simp only [e1, Option.bind_some, e2, e3]
  by_cases q0 : y = 0
  · obtain ⟨c, i4, h4, e4, hm, c4⟩ := spec_l1Int_ok l hl i3 h3 c3 [-1, 9, 10] (by decide)
    simp only [q0, if_true, e4, Option.bind_some]
    refine ⟨c, t, null, desc, i4, h4, rfl, ?_, by omega, c4⟩
    simp only [List.mem_cons, List.not_mem_nil, or_false] at hm
    omega
  by_cases q1 : y = 1
  · obtain ⟨z, i4, h4, e4, z0, z1, _, c4⟩ := spec_l1Below_ok l hl i3 h3 c3 6
    have z2 := z1 (by omega)
    simp only [q1, if_true, show ¬ ((1 : Int) = 0) by decide, if_false, e4, Option.bind_some]
    exact ⟨x, z, null, desc, i4, h4, rfl, by omega, by omega, c4⟩
  · simp only [q0, q1, if_false]
    exact ⟨x, t, null, desc, i3, h3, rfl, by omega, by omega, c3⟩
attribute [local irreducible] spec_l5Any.f

theorem spec_l1Bytes_l0 (l : List Int) (hl : l.length ≤ 1048576) (n : Nat) (hn : n ≤ 1048576) : ∀ j : Nat, j ≤ n → ∀ (o : List Int) (i h : Int), o.length = j → IsB o → Cur l i →
    ∃ (o' : List Int) (i' h' : Int), Ev (fun k => spec_l1Bytes.l0 k (n : Int) o (j : Int) l i h) (o', i', h') ∧ o'.length = n ∧ IsB o' ∧ Cur l i' := by
  refine up_ind n (fun j : Nat => ∀ (o : List Int) (i h : Int), o.length = j → IsB o → Cur l i → ∃ (o' : List Int) (i' h' : Int), Ev (fun k => spec_l1Bytes.l0 k (n : Int) o (j : Int) l i h) (o', i', h') ∧ o'.length = n ∧ IsB o' ∧ Cur l i') ?_ ?_
  · intro o i h ho hb hc
    refine ⟨o, i, h, ev_succ ?_, ho, hb, hc⟩
    have h1 : ¬ ((n : Int) < (n : Int)) := by omega
    simp only [spec_l1Bytes.l0.eq_2, h1, if_false]
    exact ev_some _
  · intro j hj ih o i h ho hb hc
    obtain ⟨x, i1, h1, e1, x0, x1, c1⟩ := spec_l1Byte_ok l hl i h hc
    have ex : x % 256 = x := by omega
    obtain ⟨o', i', h', hE, hlen, hb', hc'⟩ := ih (o ++ [x]) i1 h1 (by simp [ho]) (hb.append (IsB.cons x0 x1 IsB.nil)) c1
    refine ⟨o', i', h', ev_succ ?_, hlen, hb', hc'⟩
    have a1 : (j : Int) < (n : Int) := by omega
    have a2 : o.length < 140737488355328 := by omega
    simp only [spec_l1Bytes.l0.eq_2, a1, a2, if_true, e1, Option.bind_some, ex, wsucc (show j < 9223372036854775807 by omega)]
    exact hE
theorem spec_l1Bytes_ev (l : List Int) (hl : l.length ≤ 1048576) (i h : Int) (hc : Cur l i) (n : Int) (h0 : 0 ≤ n) (hn : n ≤ 1048576) : ∃ (o : List Int) (i' h' : Int), Ev (fun k => spec_l1Bytes.f k l i h n) (o, i', h') ∧ (o.length : Int) = n ∧ IsB o ∧ Cur l i' := by
  unfold spec_l1Bytes.f
  obtain ⟨m, rfl⟩ := Int.eq_ofNat_of_zero_le h0
  obtain ⟨o, i', h', hE, hlen, hb, hc'⟩ := spec_l1Bytes_l0 l hl m (by omega) 0 (by omega) [] i h rfl IsB.nil hc
  exact ⟨o, i', h', hE, by omega, hb, hc'⟩
attribute [local irreducible] spec_l1Bytes.f

theorem spec_l1Some_ev (l : List Int) (hl : l.length ≤ 1048576) (i h : Int) (hc : Cur l i) : ∃ (o : List Int) (i' h' : Int), Ev (fun k => spec_l1Some.f k l i h) (o, i', h') ∧ o.length ≤ 9 ∧ IsB o ∧ Cur l i' := by
  unfold spec_l1Some.f
  obtain ⟨n, i1, h1, e1, hm, c1⟩ := spec_l1Int_ok l hl i h hc [0, 1, 2, 5, 9] (by decide)
  have hn : 0 ≤ n ∧ n ≤ 9 := by
    simp only [List.mem_cons, List.not_mem_nil, or_false] at hm
    omega
  simp only [e1, Option.bind_some]
  obtain ⟨o, i2, h2, hE, hlen, hb, c2⟩ := spec_l1Bytes_ev l hl i1 h1 c1 n hn.1 (by omega)
  exact ⟨o, i2, h2, Ev.bind hE (ev_some _), by omega, hb, c2⟩
attribute [local irreducible] spec_l1Some.f

theorem spec_l1In_eq (a b c : Int) : spec_l1In.f a b c = some (inB a b c) := in_ite a b c
attribute [local irreducible] spec_l1In.f

theorem spec_PartOk_eq (a0 a1 : Int) (a2 a3 : Bool) : spec_PartOk.f a0 a1 a2 a3 = some (partOkB a0 a1) := by
  unfold spec_PartOk.f partOkB
  simp only [spec_l1In_eq, Option.bind_some]
  cases inB a0 0 9 <;> simp
attribute [local irreducible] spec_PartOk.f

theorem spec_l1Str_ok (l : List Int) (hl : l.length ≤ 1048576) (i h : Int) (hc : Cur l i) (xs : List ByteArray) (hx : 0 < xs.length) : ∃ (x : ByteArray) (i' h' : Int), spec_l1Str.f l i h xs = some (x, i', h') ∧ x ∈ xs ∧ Cur l i' := by
  unfold spec_l1Str.f
  obtain ⟨x, i1, h1, e1, x0, x1, _, c1⟩ := spec_l1Below_ok l hl i h hc (xs.length : Int)
  have hlt := x1 (by omega)
  rw [e1]
  simp only [Option.bind_some, x0, hlt, if_true]
  obtain ⟨j, rfl⟩ := Int.eq_ofNat_of_zero_le x0
  have hj : j < xs.length := by omega
  refine ⟨_, _, _, rfl, ?_, c1⟩
  unfold rdOf
  simp [List.getD_eq_getElem?_getD, hj]
attribute [local irreducible] spec_l1Str.f

theorem spec_l2Text_ok (l : List Int) (hl : l.length ≤ 1048576) (i h : Int) (hc : Cur l i) : ∃ (s : ByteArray) (i' h' : Int), spec_l2Text.f l i h = some (s, i', h') ∧ s.size ≤ 4 ∧ Cur l i' := by
  unfold spec_l2Text.f
  obtain ⟨s, i1, h1, e1, hm, c1⟩ := spec_l1Str_ok l hl i h hc [⟨#[]⟩, ⟨#[97]⟩, ⟨#[98]⟩, ⟨#[97, 98]⟩, ⟨#[0]⟩, ⟨#[97, 0]⟩, ⟨#[0, 255]⟩, ⟨#[255]⟩, ⟨#[119, 111, 114, 100]⟩, ⟨#[122]⟩] (by decide)
  rw [e1]
  refine ⟨s, i1, h1, rfl, ?_, c1⟩
  simp only [List.mem_cons, List.not_mem_nil, or_false] at hm
  rcases hm with h | h | h | h | h | h | h | h | h | h <;> subst h <;> decide
attribute [local irreducible] spec_l2Text.f

theorem isE_empty : isE ⟨#[]⟩ = true := by unfold isE; rw [ByteArray.toList_eq]; rfl
/-- What is drawn of a value: its kind, its number and its text are small, and of a type that there is it fits. -/
theorem spec_l2Of_j0 (l : List Int) (hl : l.length ≤ 1048576) (i h : Int) (hc : Cur l i) (t : Int) (ht : -9223372036854775808 ≤ t ∧ t ≤ 9223372036854775807) (z null : Bool) (hz : z = true → null = true) : ∃ (a n : Int) (s : ByteArray) (i' h' : Int),
    Ev (fun k => spec_l2Of.j0 k t z l i h) (a, n, s, i', h') ∧ (a = t ∨ a = 0) ∧ (-1000000000000000 ≤ n ∧ n ≤ 1000000000000000) ∧ s.size ≤ 4 ∧ (1 ≤ t → t ≤ 4 → fitsB t null a n s = true) ∧ Cur l i' := by
  cases hzz : z with
  | true =>
    refine ⟨0, 0, ⟨#[]⟩, i, h, ev_succ ?_, .inr rfl, by omega, by decide, fun _ _ => ?_, hc⟩
    · simp only [spec_l2Of.j0.eq_2, if_true]; exact ev_some _
    · unfold fitsB valOkB; simp [hz hzz, isE_empty]
  | false =>
    by_cases h1 : t = 1
    · subst h1
      obtain ⟨n, i1, h1, e1, hm, c1⟩ := spec_l1Int_ok l hl i h hc [0, 1, 2, 3, -1, 255, 256, 2147483647, -2147483648] (by decide)
      have hn : -2147483648 ≤ n ∧ n ≤ 2147483647 := by simp only [List.mem_cons, List.not_mem_nil, or_false] at hm; omega
      refine ⟨1, n, ⟨#[]⟩, i1, h1, ev_succ ?_, .inl rfl, by omega, by decide, fun _ _ => ?_, c1⟩
      · simp only [spec_l2Of.j0.eq_2, Bool.false_eq_true, if_false, if_true, e1, Option.bind_some]; exact ev_some _
      · unfold fitsB valOkB inB; simp [hn, isE_empty]
    · by_cases h2 : t = 2
      · subst h2
        obtain ⟨a, i1, h1', e1, a0, a1, _, c1⟩ := spec_l1Below_ok l hl i h hc 100000
        have a2 := a1 (by omega)
        have w1 : wrap64 (-a) = -a := w64 (by omega) (by omega)
        obtain ⟨n, i2, h2, e2, hm, c2⟩ := spec_l1Int_ok l hl i1 h1' c1 [0, 1, -1, 255, 256, -256, -257, 65535, 1000000000000000, -1000000000000000, wrap64 (-a)] (by simp)
        rw [w1] at hm
        have hn : -1000000000000000 ≤ n ∧ n ≤ 1000000000000000 := by simp only [List.mem_cons, List.not_mem_nil, or_false] at hm; omega
        refine ⟨2, n, ⟨#[]⟩, i2, h2, ev_succ ?_, .inl rfl, hn, by decide, fun _ _ => ?_, c2⟩
        · simp only [spec_l2Of.j0.eq_2, Bool.false_eq_true, if_false, h1, if_true, e1, Option.bind_some, e2]; exact ev_some _
        · unfold fitsB valOkB inB; simp [hn, isE_empty]
      · by_cases h3 : t = 3
        · subst h3
          obtain ⟨s, i1, h1', e1, hs, c1⟩ := spec_l2Text_ok l hl i h hc
          refine ⟨3, 0, s, i1, h1', ev_succ ?_, .inl rfl, by omega, hs, fun _ _ => ?_, c1⟩
          · simp only [spec_l2Of.j0.eq_2, Bool.false_eq_true, if_false, h1, h2, if_true, e1, Option.bind_some]; exact ev_some _
          · unfold fitsB valOkB; simp; omega
        · obtain ⟨n, i1, h1', e1, a0, a1, _, c1⟩ := spec_l1Below_ok l hl i h hc 2
          have a2 := a1 (by omega)
          refine ⟨t, n, ⟨#[]⟩, i1, h1', ev_succ ?_, .inl rfl, by omega, by decide, fun t1 t4 => ?_, c1⟩
          · simp only [spec_l2Of.j0.eq_2, Bool.false_eq_true, if_false, h1, h2, h3, e1, Option.bind_some]; exact ev_some _
          · have h4 : t = 4 := by omega
            subst h4
            unfold fitsB valOkB inB; simp [isE_empty]
            omega
theorem spec_l2Of_ev (l : List Int) (hl : l.length ≤ 1048576) (i h : Int) (hc : Cur l i) (t : Int) (ht : -9223372036854775808 ≤ t ∧ t ≤ 9223372036854775807) (null : Bool) : ∃ (a n : Int) (s : ByteArray) (i' h' : Int),
    Ev (fun k => spec_l2Of.f k l i h t null) (a, n, s, i', h') ∧ (a = t ∨ a = 0) ∧ (-1000000000000000 ≤ n ∧ n ≤ 1000000000000000) ∧ s.size ≤ 4 ∧ (1 ≤ t → t ≤ 4 → fitsB t null a n s = true) ∧ Cur l i' := by
  unfold spec_l2Of.f
  cases null with
  | true =>
    obtain ⟨z, i1, h1, e1, c1⟩ := spec_l1Once_ok l hl i h hc 4
    simp only [if_true, e1, Option.bind_some]
    exact spec_l2Of_j0 l hl i1 h1 c1 t ht z true (fun _ => rfl)
  | false =>
    simp only [Bool.false_eq_true, if_false]
    exact spec_l2Of_j0 l hl i h hc t ht false false (fun h => by cases h)
attribute [local irreducible] spec_l2Of.f

theorem spec_l2Draw_ev (l : List Int) (hl : l.length ≤ 1048576) (i h : Int) (hc : Cur l i) : ∃ (a n : Int) (s : ByteArray) (i' h' : Int),
    Ev (fun k => spec_l2Draw.f k l i h) (a, n, s, i', h') ∧ (0 ≤ a ∧ a ≤ 4) ∧ (-1000000000000000 ≤ n ∧ n ≤ 1000000000000000) ∧ s.size ≤ 4 ∧ Cur l i' := by
  unfold spec_l2Draw.f
  obtain ⟨x, i1, h1, e1, x0, x1, _, c1⟩ := spec_l1Below_ok l hl i h hc 4
  have x2 := x1 (by omega)
  have w1 : wrap64 (1 + x) = 1 + x := w64 (by omega) (by omega)
  simp only [e1, Option.bind_some, w1]
  obtain ⟨a, n, s, i2, h2, hE, ha, hn, hs, _, c2⟩ := spec_l2Of_ev l hl i1 h1 c1 (1 + x) (by omega) true
  exact ⟨a, n, s, i2, h2, Ev.bind hE (ev_some _), by omega, hn, hs, c2⟩
attribute [local irreducible] spec_l2Draw.f

theorem spec_l1Num_ok (l : List Int) (hl : l.length ≤ 1048576) (i h : Int) (hc : Cur l i) : ∃ n i' h' : Int, spec_l1Num.f l i h = some (n, i', h') ∧ (-9223372036854775808 ≤ n ∧ n ≤ 9223372036854775807) ∧ Cur l i' := by
  unfold spec_l1Num.f
  obtain ⟨a, i1, h1, e1, a0, a1, _, c1⟩ := spec_l1Below_ok l hl i h hc 100000
  obtain ⟨b, i2, h2, e2, b0, b1, _, c2⟩ := spec_l1Below_ok l hl i1 h1 c1 100000
  have a2 := a1 (by omega)
  have b2 := b1 (by omega)
  simp only [e1, e2, Option.bind_some]
  rw [w64 (x := -b) (by omega) (by omega)]
  obtain ⟨n, i3, h3, e3, hm, c3⟩ := spec_l1Int_ok l hl i2 h2 c2 [0, 1, -1, 63, 127, 128, 255, 256, 65535, 65536, 2147483647, -2147483648, 2147483648, -2147483649, 1000000000000000, -1000000000000000, 1000000000000001, 9223372036854775807, -9223372036854775808, a, -b] (by simp)
  rw [e3]
  refine ⟨n, i3, h3, rfl, ?_, c3⟩
  simp only [List.mem_cons, List.not_mem_nil, or_false] at hm
  omega
attribute [local irreducible] spec_l1Num.f

theorem spec_l2Any_ev (l : List Int) (hl : l.length ≤ 1048576) (i h : Int) (hc : Cur l i) : ∃ (a n : Int) (s : ByteArray) (i' h' : Int),
    Ev (fun k => spec_l2Any.f k l i h) (a, n, s, i', h') ∧ (0 ≤ a ∧ a ≤ 5) ∧ (-9223372036854775808 ≤ n ∧ n ≤ 9223372036854775807) ∧ s.size ≤ 31 ∧ Cur l i' := by
  unfold spec_l2Any.f
  obtain ⟨a, n, s, i1, h1, hE, ha, hn, hs, c1⟩ := spec_l2Draw_ev l hl i h hc
  obtain ⟨x, i2, h2, e2, x0, x1, _, c2⟩ := spec_l1Below_ok l hl i1 h1 c1 10
  by_cases y0 : x = 0
  · obtain ⟨y, i3, h3, e3, z0, z1, _, c3⟩ := spec_l1Below_ok l hl i2 h2 c2 6
    have z2 := z1 (by omega)
    refine ⟨y, n, s, i3, h3, Ev.bind hE ?_, by omega, by omega, by omega, c3⟩
    simp only [e2, Option.bind_some, y0, if_true, e3]
    exact ev_some _
  by_cases y1 : x = 1
  · obtain ⟨m, i3, h3, e3, hm, c3⟩ := spec_l1Num_ok l hl i2 h2 c2
    refine ⟨a, m, s, i3, h3, Ev.bind hE ?_, by omega, hm, by omega, c3⟩
    simp only [e2, Option.bind_some, y0, y1, if_true, if_false, e3, show ¬ ((1 : Int) = 0) by decide]
    exact ev_some _
  by_cases y2 : x = 2
  · obtain ⟨y, i3, h3, e3, z0, z1, _, c3⟩ := spec_l1Below_ok l hl i2 h2 c2 2
    have z2 := z1 (by omega)
    have w1 : wrap64 (30 + y) = 30 + y := w64 (by omega) (by omega)
    refine ⟨a, n, strOfNums (List.replicate (30 + y).toNat 0), i3, h3, Ev.bind hE ?_, by omega, by omega, by rw [strOfNums_size, List.length_replicate]; omega, c3⟩
    have q1 : (0 : Int) ≤ 30 + y := by omega
    have q2 : (30 + y).toNat ≤ 281474976710656 := by omega
    simp only [e2, Option.bind_some, y0, y1, y2, if_true, if_false, e3, w1, q1, q2, show ¬ ((2 : Int) = 0) by decide, show ¬ ((2 : Int) = 1) by decide]
    exact ev_some _
  by_cases y3 : x = 3
  · obtain ⟨t, i3, h3, e3, hm, c3⟩ := spec_l1Str_ok l hl i2 h2 c2 [⟨#[105, 116, 39, 115]⟩, ⟨#[97, 32, 98]⟩, ⟨#[126]⟩, ⟨#[127]⟩] (by decide)
    have ht : t.size ≤ 4 := by
      simp only [List.mem_cons, List.not_mem_nil, or_false] at hm
      rcases hm with h | h | h | h <;> subst h <;> decide
    refine ⟨a, n, t, i3, h3, Ev.bind hE ?_, by omega, by omega, by omega, c3⟩
    simp only [e2, Option.bind_some, y0, y1, y2, y3, if_true, if_false, e3, show ¬ ((3 : Int) = 0) by decide, show ¬ ((3 : Int) = 1) by decide, show ¬ ((3 : Int) = 2) by decide]
    exact ev_some _
  · refine ⟨a, n, s, i2, h2, Ev.bind hE ?_, by omega, by omega, by omega, c2⟩
    simp only [e2, Option.bind_some, y0, y1, y2, y3, if_false]
    exact ev_some _
attribute [local irreducible] spec_l2Any.f

theorem spec_l5Val_ev (l : List Int) (hl : l.length ≤ 1048576) (i h : Int) (hc : Cur l i) (c t : Int) (ht : 0 ≤ t ∧ t ≤ 5) (null desc : Bool) : ∃ (k n : Int) (s : ByteArray) (i' h' : Int),
    Ev (fun j => spec_l5Val.f j l i h c t null desc) (k, n, s, i', h') ∧ (-9223372036854775808 ≤ n ∧ n ≤ 9223372036854775807) ∧ s.size ≤ 31 ∧ Cur l i' := by
  unfold spec_l5Val.f
  obtain ⟨b, i1, h1, e1, c1⟩ := spec_l1Once_ok l hl i h hc 8
  simp only [e1, Option.bind_some]
  cases b with
  | true =>
    obtain ⟨k, n, s, i2, h2, hE, _, hn, hs, c2⟩ := spec_l2Any_ev l hl i1 h1 c1
    refine ⟨k, n, s, i2, h2, ?_, hn, hs, c2⟩
    simp only [if_true]
    exact Ev.bind hE (ev_some _)
  | false =>
    simp only [Bool.false_eq_true, if_false, spec_PartOk_eq, Option.bind_some]
    cases partOkB c t with
    | true =>
      obtain ⟨k, n, s, i2, h2, hE, _, hn, hs, _, c2⟩ := spec_l2Of_ev l hl i1 h1 c1 t (by omega) null
      refine ⟨k, n, s, i2, h2, ?_, by omega, by omega, c2⟩
      simp only [if_true]
      exact Ev.bind hE (ev_some _)
    | false =>
      obtain ⟨k, n, s, i2, h2, hE, _, hn, hs, c2⟩ := spec_l2Draw_ev l hl i1 h1 c1
      refine ⟨k, n, s, i2, h2, ?_, by omega, by omega, c2⟩
      simp only [Bool.false_eq_true, if_false]
      exact Ev.bind hE (ev_some _)
attribute [local irreducible] spec_l5Val.f

theorem spec_DrawPutPart_ev (l : List Int) (hl : l.length ≤ 1048576) : ∃ (b : List Int) (c t : Int) (null desc : Bool) (k n : Int) (s : ByteArray), Ev (fun j => spec_DrawPutPart.f j l) (b, c, t, null, desc, k, n, s) ∧ b.length ≤ 9 ∧ IsB b ∧ (-9223372036854775808 ≤ n ∧ n ≤ 9223372036854775807) := by
  unfold spec_DrawPutPart.f
  obtain ⟨r, hr⟩ := spec_l1New_ev l hl
  obtain ⟨c, t, null, desc, i1, h1, e1, hcb, ht, c1⟩ := spec_l5Any_ok l hl 0 r (Cur.start l)
  obtain ⟨b, i2, h2, hE2, hlen, hb, c2⟩ := spec_l1Some_ev l hl i1 h1 c1
  obtain ⟨k, n, s, i3, h3, hE3, hn, hs, c3⟩ := spec_l5Val_ev l hl i2 h2 c2 c t ht null desc
  refine ⟨b, c, t, null, desc, k, n, s, Ev.bind hr ?_, hlen, hb, hn⟩
  simp only [e1, Option.bind_some]
  exact Ev.bind hE2 (Ev.bind hE3 (ev_some _))
attribute [local irreducible] spec_DrawPutPart.f

theorem spec_ValOk_eq (k n : Int) (s : ByteArray) : spec_ValOk.f k n s = some (valOkB k n s) := by
  unfold spec_ValOk.f valOkB isE
  simp only [spec_l1In_eq, Option.bind_some]
  by_cases h0 : k = 0
  · simp only [h0, if_true]; by_cases hn : n = 0 <;> simp [hn]
  simp only [h0, if_false]
  by_cases h1 : k = 1
  · simp only [h1, if_true]; cases inB n (-2147483648) 2147483647 <;> simp
  simp only [h1, if_false]
  by_cases h2 : k = 2
  · simp only [h2, if_true]; cases inB n (-1000000000000000) 1000000000000000 <;> simp
  simp only [h2, if_false]
  by_cases h3 : k = 3
  · simp only [h3, if_true]; by_cases hn : n = 0 <;> by_cases hs : (s.size : Int) ≤ 30 <;> simp [hn, hs]
  simp only [h3, if_false]
  by_cases h4 : k = 4
  · simp only [h4, if_true]; cases inB n 0 1 <;> simp
  simp only [h4, if_false]
attribute [local irreducible] spec_ValOk.f

theorem spec_Fits_eq (a0 t : Int) (null a3 : Bool) (k n : Int) (s : ByteArray) : spec_Fits.f a0 t null a3 k n s = some (fitsB t null k n s) := by
  unfold spec_Fits.f fitsB
  simp only [spec_ValOk_eq, Option.bind_some]
  cases valOkB k n s
  · simp
  · simp only [if_true, Bool.true_and]
    by_cases h1 : k = t
    · rw [if_pos h1]
      by_cases h0 : k = 0
      · rw [if_pos h0, if_pos h0]
      · rw [if_neg h0, if_neg h0]; simp [h1]
    · rw [if_neg h1]
      by_cases h0 : k = 0
      · rw [if_pos h0, if_pos h0]
      · rw [if_neg h0, if_neg h0]; simp [h1]
attribute [local irreducible] spec_Fits.f

theorem laws_sameBytes_l0 (a b : List Int) (he : a.length = b.length) (h : a.length ≤ 9223372036854775806) : ∀ i : Nat, i ≤ a.length → Ev (fun k => laws_sameBytes.l0 k a b (i : Int)) (decide (a.drop i = b.drop i)) := by
  refine up_ind a.length (fun i : Nat => Ev (fun k => laws_sameBytes.l0 k a b (i : Int)) (decide (a.drop i = b.drop i))) ?_ ?_
  · refine ev_succ ?_
    have h1 : ¬ ((a.length : Int) < (a.length : Int)) := by omega
    simp only [laws_sameBytes.l0.eq_2, h1, if_false]
    rw [decide_eq_true (by rw [List.drop_eq_nil_of_le (Nat.le_refl _), List.drop_eq_nil_of_le (by omega)])]
    exact ev_some _
  · intro i hi ih
    refine ev_succ ?_
    have hib : i < b.length := by omega
    have h1 : (i : Int) < (a.length : Int) := by omega
    have h2 : (0 : Int) ≤ (i : Int) := by omega
    have h3 : (i : Int) < (b.length : Int) := by omega
    simp only [laws_sameBytes.l0.eq_2, h1, h2, h3, if_true, rd_nat a i hi, rd_nat b i hib, wsucc (show i < 9223372036854775807 by omega)]
    rw [List.drop_eq_getElem_cons hi, List.drop_eq_getElem_cons hib]
    by_cases hv : a[i] = b[i]
    · simp only [hv, if_true, List.cons.injEq, true_and]
      exact ih
    · simp only [hv, if_false, List.cons.injEq, false_and, decide_false]
      exact ev_some _
theorem laws_sameBytes_ev (a b : List Int) (h : a.length ≤ 9223372036854775806) : Ev (fun k => laws_sameBytes.f k a b) (decide (a = b)) := by
  unfold laws_sameBytes.f
  by_cases he : a.length = b.length
  · have h1 : (a.length : Int) = (b.length : Int) := by omega
    simp only [h1, if_true]
    simpa using laws_sameBytes_l0 a b he h 0 (by omega)
  · have h1 : ¬ ((a.length : Int) = (b.length : Int)) := by omega
    simp only [h1, if_false]
    rw [decide_eq_false (fun e => he (by rw [e]))]
    exact ev_some _
attribute [local irreducible] laws_sameBytes.f

--import B
--import K
theorem FnParts : laws_FnParts.Pure := by
  intro l0 hm0 hb0 hw0
  refine Ev.rounds ?_
  unfold laws_FnParts.f
  simp only [laws_big_eq, Option.bind_some]
  by_cases hn0 : (l0.length : Int) > 1048576
  · simp only [hn0, decide_true, if_true]; exact ev_some _
  simp only [hn0, decide_false, Bool.false_eq_true, if_false]
  have hl : l0.length ≤ 1048576 := by omega
  obtain ⟨b, c, t, null, desc, k, n, s, hE, hlb, hb, hn⟩ := spec_DrawPutPart_ev l0 hl
  have hlen := putPart_len c t null desc k n s
  refine Ev.bind hE (Ev.bind (impl_PutPart_ev b (by omega) hb c t null desc k n s) ?_)
  simp only [spec_PartOk_eq, spec_Fits_eq, Option.bind_some]
  have hmain : Ev (fun j => laws_FnParts.j0 j b (b ++ putPart c t null desc k n s) (!(okPV c t null k n s)) c t null desc k n s) true := by
    refine ev_succ ?_
    cases hok : okPV c t null k n s with
    | false =>
      have e : putPart c t null desc k n s = [] := by unfold putPart; rw [if_neg (by rw [hok]; decide)]
      simp only [laws_FnParts.j0.eq_2, Bool.not_false, if_true, impl_PartOk_eq, impl_Fits_eq, Option.bind_some, e, List.append_nil]
      have sb := laws_sameBytes_ev b b (by omega)
      rw [decide_eq_true rfl] at sb
      refine Ev.bind sb ?_
      unfold okPV at hok
      cases hp : partOkB c t with
      | false => simp only [if_true, Bool.false_eq_true, if_false, Bool.not_false]; exact ev_some _
      | true =>
        rw [hp, Bool.true_and] at hok
        simp only [if_true, hok, Bool.not_false]
        exact ev_some _
    | true =>
      have h2 := hok
      unfold okPV at h2
      rw [Bool.and_eq_true] at h2
      have hg := impl_GetPart_ev (b ++ putPart c t null desc k n s) (by rw [List.length_append]; omega) (hb.append (putPart_isB c t null desc k n s)) c t null desc (b.length : Int)
      have hr := getPart_putPart b [] hb IsB.nil (desc := desc) hok
      rw [List.append_nil] at hr
      rw [hr] at hg
      simp only [laws_FnParts.j0.eq_2, Bool.not_true, Bool.false_eq_true, if_false]
      refine Ev.bind hg ?_
      have hpos := bareB_pos hok
      have e : putPart c t null desc k n s = turnB desc (bareB null k n s) := by unfold putPart partB; rw [if_pos hok]
      have hgt : ((b ++ putPart c t null desc k n s).length : Int) > (b.length : Int) := by rw [List.length_append, e, turnB_len]; omega
      simp only [if_true, BEq.rfl, Bool.and_self, impl_PartOk_eq, impl_Fits_eq, Option.bind_some, h2.1, h2.2, decide_eq_true hgt]
      exact ev_some _
  unfold okPV at hmain
  cases hp : partOkB c t with
  | false => rw [hp, Bool.false_and] at hmain; simpa using hmain
  | true => rw [hp, Bool.true_and] at hmain; simpa using hmain

end Go.Proofs.Ytnfmpopmigbkoaa.Pure

/- A part of the proof of FnExactHasNow: the plain law. No condition. -/
import Derived.Test.YteaphppkjcngiaaFnExactHasNowG
/- The plain laws of FnExactIsTrap, FnExactIsVisit and FnExactHasNow. -/
namespace Go.Proofs
open Go Go.Ga Go.Ga.Wf
set_option linter.unusedVariables false
set_option linter.unusedSimpArgs false
section
variable {k : Nat}
def risingB (lo hi : Int) (l : List Int) (i : Nat) : Bool := if h : i < l.length then decide (lo ≤ l[i] ∧ l[i] ≤ hi) && (decide (i = 0) || decide (l[i - 1] < l[i])) else true
theorem rising_eq (hk : Big ≤ k) (l : List Int) (lo hi : Int) (hl : l.length ≤ 1048576) : spec_l1Rising.f k l lo hi = some (decide (∀ i, i < l.length → risingB lo hi l i = true)) := by
  unfold spec_l1Rising.f
  rw [loop_all (l := spec_l1Rising.l0 k l lo hi) (N := l.length) (risingB lo hi l) (z := false) (fun m i hi' => by
    rw [spec_l1Rising.l0]
    have h1 : ((i : Int) < (l.length : Int)) := by omega
    have hw : w64 ((i : Int) + 1) = ((i + 1 : Nat) : Int) := w64_id (by omega) (by omega)
    simp only [h1, decide_true, if_true, rdl_lt hi', Option.bind_some, hw, in_eq]
    unfold risingB
    rw [dif_pos hi']
    by_cases c : lo ≤ l[i] ∧ l[i] ≤ hi
    rotate_left 1
    · simp [c]
    rcases Nat.eq_zero_or_pos i with rfl | hp
    · simp [c]
    · have e1 : w64 ((i : Int) - 1) = ((i - 1 : Nat) : Int) := by rw [w64_id (by omega) (by omega)]; omega
      have hi1 : i - 1 < l.length := by omega
      have hp' : (i : Int) > 0 := by omega
      have hne : ¬ i = 0 := by omega
      simp only [c, decide_true, Bool.not_true, Bool.false_eq_true, if_false, hp', if_true, e1, rdl_lt hi1, Option.bind_some, hne, decide_false, Bool.true_and, Bool.false_or, and_self]
      by_cases hlt : l[i - 1] < l[i]
      · simp [hlt, show ¬ (l[i - 1] ≥ l[i]) by omega]
      · simp [hlt, show (l[i - 1] ≥ l[i]) by omega])
    (fun m => by rw [spec_l1Rising.l0]; simp) (by unfold Big at hk; omega), Option.bind_some, Lr_ite]
  split <;> rename_i h <;> simp [h]
  exact h
def IsTrapP (n : Int) (d : List Door) (ks tr : List Int) : Prop := IsMaze n d ks ∧ ∀ i, i < tr.length → risingB 0 ((d.length : Int) - 1) tr i = true
instance (n : Int) (d : List Door) (ks tr : List Int) : Decidable (IsTrapP n d ks tr) := by unfold IsTrapP; infer_instance
theorem l11Trap_eq (hk : Big ≤ k) (n : Int) (d : List Door) (ks tr : List Int) (hd : d.length ≤ 1048576) (hl : ks.length ≤ 1048576) (ht : tr.length ≤ 1048576) : spec_l11Trap.f k n d ks tr = some (decide (IsTrapP n d ks tr)) := by
  unfold spec_l11Trap.f
  have e : w64 ((d.length : Int) - 1) = (d.length : Int) - 1 := w64_id (by omega) (by omega)
  rw [l2Maze_eq hk n d ks hd hl, e, rising_eq hk _ _ _ ht]
  by_cases c1 : IsMaze n d ks
  · by_cases c2 : ∀ i, i < tr.length → risingB 0 ((d.length : Int) - 1) tr i = true
    · have : IsTrapP n d ks tr := ⟨c1, c2⟩
      rw [decide_eq_true c1, decide_eq_true c2, decide_eq_true this]; rfl
    · have : ¬ IsTrapP n d ks tr := fun h => c2 h.2
      rw [decide_eq_true c1, decide_eq_false c2, decide_eq_false this]; rfl
  · have : ¬ IsTrapP n d ks tr := fun h => c1 h.1
    rw [decide_eq_false c1, decide_eq_false this]; rfl
theorem IsTrap_eq (hk : Big ≤ k) (n : Int) (d : List Door) (ks tr : List Int) (hd : d.length ≤ 1048576) (hl : ks.length ≤ 1048576) (ht : tr.length ≤ 1048576) : impl_IsTrap.f k n d ks tr = some (decide (IsTrapP n d ks tr)) := by
  unfold impl_IsTrap.f
  have e : w64 ((d.length : Int) - 1) = (d.length : Int) - 1 := w64_id (by omega) (by omega)
  rw [IsMaze_eq hk n d ks hd hl]
  rw [loop_all (l := impl_IsTrap.l0 k d tr) (N := tr.length) (risingB 0 ((d.length : Int) - 1) tr) (z := false) (fun m i hi' => by
    rw [impl_IsTrap.l0]
    have h1 : ((i : Int) < (tr.length : Int)) := by omega
    have hw : w64 ((i : Int) + 1) = ((i + 1 : Nat) : Int) := w64_id (by omega) (by omega)
    simp only [h1, decide_true, if_true, rdl_lt hi', Option.bind_some, hw, within_eq, e]
    unfold risingB
    rw [dif_pos hi']
    by_cases c : 0 ≤ tr[i] ∧ tr[i] ≤ (d.length : Int) - 1
    rotate_left 1
    · simp [c]
    rcases Nat.eq_zero_or_pos i with rfl | hp
    · simp [c]
    · have e1 : w64 ((i : Int) - 1) = ((i - 1 : Nat) : Int) := by rw [w64_id (by omega) (by omega)]; omega
      have hi1 : i - 1 < tr.length := by omega
      have hp' : (i : Int) > 0 := by omega
      have hne : ¬ i = 0 := by omega
      simp only [c, decide_true, Bool.not_true, Bool.false_eq_true, if_false, hp', if_true, e1, rdl_lt hi1, Option.bind_some, hne, decide_false, Bool.true_and, Bool.false_or, and_self]
      by_cases hlt : tr[i - 1] < tr[i]
      · simp [hlt, show ¬ (tr[i] ≤ tr[i - 1]) by omega]
      · simp [hlt, show (tr[i] ≤ tr[i - 1]) by omega])
    (fun m => by rw [impl_IsTrap.l0]; simp) (by unfold Big at hk; omega), Option.bind_some, Option.bind_some, Lr_ite]
  by_cases c1 : IsMaze n d ks
  · by_cases c2 : ∀ i, i < tr.length → risingB 0 ((d.length : Int) - 1) tr i = true
    · have : IsTrapP n d ks tr := ⟨c1, c2⟩
      rw [decide_eq_true c1, if_pos c2, decide_eq_true this]; rfl
    · have : ¬ IsTrapP n d ks tr := fun h => c2 h.2
      rw [decide_eq_true c1, if_neg c2, decide_eq_false this]; rfl
  · have : ¬ IsTrapP n d ks tr := fun h => c1 h.1
    rw [decide_eq_false c1, decide_eq_false this]; rfl
theorem laws_FnExactIsTrap.pure (x : Int × List (Int × Int × Int) × List Int × List Int) (h : wfd x) : ∃ k, laws_FnExactIsTrap.f k x.1 x.2.1 x.2.2.1 x.2.2.2 = some true := by
  refine ⟨Big, ?_⟩
  have hk : Big ≤ Big := Nat.le_refl _
  obtain ⟨n, d, ks, tr⟩ := x
  have h1 : d.length ≤ maxLen := h.2.1.1
  have h2 : ks.length ≤ maxLen := h.2.2.1.1
  have h3 : tr.length ≤ maxLen := h.2.2.2.1
  unfold laws_FnExactIsTrap.f laws_szTrap.f
  rw [szMaze_eq n d ks _ (by decide) (by decide) h1 h2, Option.bind_some]
  have hsz : (if decide (szo 1048576 (d.length + ks.length) < 0) = true then some (-1) else (laws_szIntS.f Big tr (szo 1048576 (d.length + ks.length))).bind fun t14 => if decide (t14 < 0) = true then some (-1) else some t14) = some (szo 1048576 (d.length + ks.length + tr.length)) := by
    rw [← szo_add]
    by_cases hc : szo 1048576 (d.length + ks.length) < 0
    · simp [hc]
    · rw [szIntS_eq tr _ (by omega) (szo_range (by omega) (by omega)).2 h3]
  simp only [hsz, Option.bind_some]
  by_cases hc : ((d.length + ks.length + tr.length : Nat) : Int) ≤ 1048576
  · have : ¬ szo 1048576 (d.length + ks.length + tr.length) < 0 := by unfold szo; rw [if_pos hc]; omega
    have ht : laws_toTrap.f Big n d ks tr = some (n, d, ks, tr) := by
      unfold laws_toTrap.f
      rw [toMaze_eq hk n d ks (by omega) (by omega), Option.bind_some, toIntS_eq hk tr (by omega)]; rfl
    have he : laws_eqTrap.f Big n d ks tr n d ks tr = some true := by
      unfold laws_eqTrap.f
      rw [eqMaze_eq hk n n d d ks ks (by omega) (by omega), eqIntS_eq hk tr tr (by omega)]
      simp
    rw [if_neg (by simpa using this), ht]
    simp only [Option.bind_some, spec_IsTrap.f, l11Trap_eq hk n d ks tr (by omega) (by omega) (by omega), IsTrap_eq hk n d ks tr (by omega) (by omega) (by omega), he]
    simp
  · have : szo 1048576 (d.length + ks.length + tr.length) < 0 := by unfold szo; rw [if_neg hc]; omega
    rw [if_pos (by simpa using this)]
end
end Go.Proofs

/- The plain laws of a walk that is taken: FnExactIsVisit and FnExactHasNow. -/
namespace Go.Proofs
open Go Go.Ga Go.Ga.Wf
set_option linter.unusedVariables false
set_option linter.unusedSimpArgs false
section
variable {k : Nat}
/-- a door with its ends and its colours in bounds, for some node count of at most twelve -/
def Small (x : Door) : Prop := 0 ≤ x.1 ∧ x.1 < 12 ∧ 0 ≤ x.2.1 ∧ x.2.1 < 12 ∧ 0 ≤ x.2.2 ∧ x.2.2 ≤ 63
theorem IsMaze.small {n : Int} {d : List Door} {ks : List Int} (h : IsMaze n d ks) : ∀ x ∈ d, Small x := by
  intro x hx
  obtain ⟨i, hi, rfl⟩ := List.getElem_of_mem hx
  have h1 := h.2.2.2.2.1 i hi
  unfold doorB at h1
  rw [dif_pos hi, Bool.and_eq_true, decide_eq_true_eq] at h1
  have := h1.1; unfold DoorOk at this; unfold Small
  have := h.2.1
  omega
theorem IsMaze.keys {n : Int} {d : List Door} {ks : List Int} (h : IsMaze n d ks) : ∀ x ∈ ks, 0 ≤ x ∧ x ≤ 63 := by
  intro x hx
  obtain ⟨i, hi, rfl⟩ := List.getElem_of_mem hx
  have h1 := h.2.2.2.2.2 i hi
  simpa [setB, hi] using h1
/-- the door stands open to one who has h and leads from a to b -/
def goes (a b h : Int) (x : Door) : Bool := ((decide (x.1 = a) && decide (x.2.1 = b)) || (decide (x.2.1 = a) && decide (x.1 = b))) && subB x.2.2.toNat h.toNat
theorem has_eq (h c : Int) (hc : 0 ≤ c ∧ c ≤ 63) (hh : 0 ≤ h ∧ h ≤ 63) : impl_has.f k h c = some (subB c.toNat h.toNat) := by
  unfold impl_has.f
  obtain ⟨a, rfl⟩ := Int.eq_ofNat_of_zero_le hh.1
  obtain ⟨b, rfl⟩ := Int.eq_ofNat_of_zero_le hc.1
  rw [has_clr (by omega)]; rfl
theorem l2Has_eq (h c : Int) (hc : 0 ≤ c ∧ c ≤ 63) (hh : 0 ≤ h ∧ h ≤ 63) : spec_l2Has.f k h c = some (subB c.toNat h.toNat) := by
  unfold spec_l2Has.f
  obtain ⟨a, rfl⟩ := Int.eq_ofNat_of_zero_le hh.1
  obtain ⟨b, rfl⟩ := Int.eq_ofNat_of_zero_le hc.1
  rw [has_and (by omega) (by omega)]; rfl
theorem joins_eq (x : Door) (a b : Int) : spec_l2Joins.f k x.1 x.2.1 x.2.2 a b = some ((decide (x.1 = a) && decide (x.2.1 = b)) || (decide (x.2.1 = a) && decide (x.1 = b))) := by
  unfold spec_l2Joins.f
  by_cases h1 : x.1 = a <;> by_cases h2 : x.2.1 = b <;> by_cases h3 : x.1 = b <;> by_cases h4 : x.2.1 = a <;> simp_all
theorem l2Open_eq (hk : Big ≤ k) (n : Int) (d : List Door) (ks : List Int) (a b h : Int) (hd : d.length ≤ 1048576) (hs : ∀ x ∈ d, Small x) (hh : 0 ≤ h ∧ h ≤ 63) : spec_l2Open.f k n d ks a b h = some (d.any (goes a b h)) := by
  unfold spec_l2Open.f
  rw [loop_all (l := spec_l2Open.l0 k d a b h) (N := d.length) (fun i => if hi : i < d.length then !goes a b h d[i] else true) (z := true) (fun m i hi => by
    rw [spec_l2Open.l0]
    have h1 : ((i : Int) < (d.length : Int)) := by omega
    have hw : w64 ((i : Int) + 1) = ((i + 1 : Nat) : Int) := w64_id (by omega) (by omega)
    have sm := hs _ (List.getElem_mem hi)
    unfold Small at sm
    simp only [h1, decide_true, if_true, rdl_lt hi, Option.bind_some, hw, joins_eq, l2Has_eq h d[i].2.2 (by omega) hh, hi, dite_true]
    unfold goes
    cases ((decide (d[i].1 = a) && decide (d[i].2.1 = b)) || (decide (d[i].2.1 = a) && decide (d[i].1 = b))) <;> cases subB d[i].2.2.toNat h.toNat <;> rfl)
    (fun m => by rw [spec_l2Open.l0]; simp) (by unfold Big at hk; omega), Option.bind_some, Lr_ite]
  cases hc : d.any (goes a b h) with
  | true =>
    rw [if_neg]
    intro H
    obtain ⟨x, hx, hg⟩ := List.any_eq_true.1 hc
    obtain ⟨i, hi, rfl⟩ := List.getElem_of_mem hx
    have := H i hi
    simp [hi, hg] at this
  | false =>
    rw [if_pos]
    intro i hi
    have := List.any_eq_false.1 hc _ (List.getElem_mem hi)
    simp [hi, this]
theorem steps_eq (hk : Big ≤ k) (n : Int) (d : List Door) (ks : List Int) (a h : Int) (hd : d.length ≤ 1048576) (hs : ∀ x ∈ d, Small x) (hh : 0 ≤ h ∧ h ≤ 63) :
    ∃ m : Nat, impl_steps.f k n d ks a h = some (m : Int) ∧ m < 4096 ∧ ∀ t : Nat, m.testBit t = d.any (goes a (t : Int) h) := by
  unfold impl_steps.f
  let g : Nat → Int → Int := fun i s => if hi : i < d.length then
    (let s1 := if subB d[i].2.2.toNat h.toNat = true ∧ d[i].1 = a then bor s (shl 1 d[i].2.1) else s
     if subB d[i].2.2.toNat h.toNat = true ∧ d[i].2.1 = a then bor s1 (shl 1 d[i].1) else s1) else s
  have := loop_state (l := fun n s i => impl_steps.l0 k d a h n s i) (N := d.length) (g := g) (out := some) (fun i s => ∃ m : Nat, s = (m : Int) ∧ m < 4096 ∧ ∀ t : Nat, m.testBit t = (d.take i).any (goes a (t : Int) h)) (fun m i s hi hI => by
    obtain ⟨q, rfl, hq, hb⟩ := hI
    have sm := hs _ (List.getElem_mem hi)
    unfold Small at sm
    obtain ⟨u, hu⟩ := Int.eq_ofNat_of_zero_le sm.1
    obtain ⟨v, hv⟩ := Int.eq_ofNat_of_zero_le sm.2.2.1
    have hu12 : u < 12 := by omega
    have hv12 : v < 12 := by omega
    have hpu : 2 ^ u < 4096 := Nat.pow_lt_pow_right (a := 2) (by omega) hu12
    have hpv : 2 ^ v < 4096 := Nat.pow_lt_pow_right (a := 2) (by omega) hv12
    have e1 : ∀ z : Nat, z < 4096 → bor (z : Int) (shl 1 d[i].2.1) = ((z ||| 2 ^ v : Nat) : Int) := fun z hz => by
      rw [hv]; show bor (z : Int) (shl 1 ((v : Nat) : Int)) = _
      rw [shl_one (by omega), bor_nat (by omega) (by omega)]
    have e2 : ∀ z : Nat, z < 4096 → bor (z : Int) (shl 1 d[i].1) = ((z ||| 2 ^ u : Nat) : Int) := fun z hz => by
      rw [hu]; show bor (z : Int) (shl 1 ((u : Nat) : Int)) = _
      rw [shl_one (by omega), bor_nat (by omega) (by omega)]
    have hor : ∀ z y : Nat, z < 4096 → y < 4096 → z ||| y < 4096 := fun z y hz hy => Nat.or_lt_two_pow (n := 12) hz hy
    have htake : d.take (i + 1) = d.take i ++ [d[i]] := by rw [List.take_add_one, List.getElem?_eq_getElem hi]; rfl
    refine ⟨?_, ?_⟩
    · rw [impl_steps.l0]
      have h1 : ((i : Int) < (d.length : Int)) := by omega
      have hw : w64 ((i : Int) + 1) = ((i + 1 : Nat) : Int) := w64_id (by omega) (by omega)
      have n1 : ¬ d[i].1 < 0 := by omega
      have n2 : ¬ d[i].2.1 < 0 := by omega
      simp only [h1, decide_true, if_true, rdl_lt hi, Option.bind_some, hw, has_eq h d[i].2.2 (by omega) hh, n1, n2, not_false_eq_true, if_true, g, hi, dite_true]
      cases subB d[i].2.2.toNat h.toNat
      · simp
      · by_cases c1 : d[i].1 = a <;> by_cases c2 : d[i].2.1 = a <;> simp [c1, c2]
    · simp only [g, hi, dite_true]
      have hd2 : ∀ t : Nat, decide (d[i].2.1 = (t : Int)) = decide (v = t) := fun t => decide_eq_decide.2 (by omega)
      have hd1 : ∀ t : Nat, decide (d[i].1 = (t : Int)) = decide (u = t) := fun t => decide_eq_decide.2 (by omega)
      have hlast : ∀ t : Nat, (d.take (i + 1)).any (goes a (t : Int) h) = (q.testBit t || (((decide (d[i].1 = a) && decide (v = t)) || (decide (d[i].2.1 = a) && decide (u = t))) && subB d[i].2.2.toNat h.toNat)) := fun t => by
        rw [htake, List.any_append, hb t]
        simp only [List.any_cons, List.any_nil, Bool.or_false, goes, hd1, hd2]
      cases hsb : subB d[i].2.2.toNat h.toNat with
      | false => exact ⟨q, by simp, hq, fun t => by rw [hlast t, hsb]; simp⟩
      | true =>
        by_cases c1 : d[i].1 = a <;> by_cases c2 : d[i].2.1 = a
        · exact ⟨q ||| 2 ^ v ||| 2 ^ u, by rw [if_pos ⟨rfl, c2⟩, if_pos ⟨rfl, c1⟩, e1 q hq, e2 _ (hor _ _ hq hpv)], hor _ _ (hor _ _ hq hpv) hpu, fun t => by
            rw [hlast t, hsb]; simp [c1, c2, Nat.testBit_or, Nat.testBit_two_pow]; cases q.testBit t <;> simp⟩
        · exact ⟨q ||| 2 ^ v, by rw [if_neg (fun h => c2 h.2), if_pos ⟨rfl, c1⟩, e1 q hq], hor _ _ hq hpv, fun t => by
            rw [hlast t, hsb]; simp [c1, c2, Nat.testBit_or, Nat.testBit_two_pow]⟩
        · exact ⟨q ||| 2 ^ u, by rw [if_pos ⟨rfl, c2⟩, if_neg (fun h => c1 h.2), e2 q hq], hor _ _ hq hpu, fun t => by
            rw [hlast t, hsb]; simp [c1, c2, Nat.testBit_or, Nat.testBit_two_pow]⟩
        · exact ⟨q, by simp [c1, c2], hq, fun t => by rw [hlast t, hsb]; simp [c1, c2]⟩)
    (fun m s _ => by show impl_steps.l0 k d a h (m + 1) s (d.length : Int) = _; rw [impl_steps.l0]; simp) (k := k) (by unfold Big at hk; omega) (s := 0) ⟨0, rfl, by omega, by simp⟩
  obtain ⟨h1, m, h2, h3, h4⟩ := this
  refine ⟨m, ?_, h3, ?_⟩
  · rw [h1, h2]; rfl
  · intro t; rw [h4 t, List.take_length]
end
end Go.Proofs

/- The plain laws of FnExactIsVisit and FnExactHasNow. -/
namespace Go.Proofs
open Go Go.Ga Go.Ga.Wf
set_option linter.unusedVariables false
set_option linter.unusedSimpArgs false
section
variable {k : Nat}
theorem bor_63 {a b : Int} (ha : 0 ≤ a ∧ a ≤ 63) (hb : 0 ≤ b ∧ b ≤ 63) : 0 ≤ bor a b ∧ bor a b ≤ 63 := by
  obtain ⟨x, rfl⟩ := Int.eq_ofNat_of_zero_le ha.1
  obtain ⟨y, rfl⟩ := Int.eq_ofNat_of_zero_le hb.1
  have e : bor (Int.ofNat x) (Int.ofNat y) = ((x ||| y : Nat) : Int) := bor_nat (by omega) (by omega)
  have : x ||| y < 64 := Nat.or_lt_two_pow (n := 6) (by omega) (by omega)
  show 0 ≤ bor (Int.ofNat x) (Int.ofNat y) ∧ bor (Int.ofNat x) (Int.ofNat y) ≤ 63
  rw [e]; omega
/-- the walk's place i can't be gone to -/
def badT (n : Int) (d : List Door) (l : List Int) (i : Nat) (h : Int) : Bool :=
  if hi : i < l.length then !decide (0 ≤ l[i] ∧ l[i] ≤ n - 1) || (decide (i = 0) && decide (l[i] ≠ 0)) || (decide (0 < i) && !d.any (goes l[i - 1] l[i] h)) else true
def takeG (n : Int) (d : List Door) (ks l : List Int) (i : Nat) (s : List Int × Int) : (List Int × Int) ⊕ (List Int × Bool) :=
  if badT n d l i s.2 = true then .inr ([], false) else .inl (s.1 ++ [bor s.2 (ks.getD (l.getD i 0).toNat 0)], bor s.2 (ks.getD (l.getD i 0).toNat 0))
def takenP (n : Int) (d : List Door) (ks l : List Int) : List Int × Bool :=
  match itx (takeG n d ks l) l.length 0 ([], 0) with
  | .inl s => (s.1, decide (0 < l.length))
  | .inr _ => ([], false)
def TInv (i : Nat) (s : List Int × Int) : Prop := s.1.length = i ∧ 0 ≤ s.2 ∧ s.2 ≤ 63
theorem takeG_inv {n : Int} {d : List Door} {ks l : List Int} (hm : IsMaze n d ks) : ∀ i s s', i < l.length → TInv i s → takeG n d ks l i s = .inl s' → TInv (i + 1) s' := by
  intro i s s' hi hI h
  unfold takeG at h
  split at h
  · cases h
  · rename_i hb
    cases h
    unfold badT at hb
    rw [dif_pos hi] at hb
    simp only [Bool.or_eq_true, Bool.not_eq_true', decide_eq_false_iff_not, not_or, Decidable.not_not] at hb
    have hr := hb.1.1
    have hlen : l[i].toNat < ks.length := by have := hm.2.2.2.1; omega
    have hg : l.getD i 0 = l[i] := by simp [List.getD, List.getElem?_eq_getElem hi]
    have hk : ks.getD l[i].toNat 0 = ks[l[i].toNat] := by simp [List.getD, List.getElem?_eq_getElem hlen]
    have := bor_63 hI.2 (hm.keys _ (List.getElem_mem hlen))
    refine ⟨by simp [hI.1], ?_⟩
    show 0 ≤ bor s.2 (ks.getD (l.getD i 0).toNat 0) ∧ bor s.2 (ks.getD (l.getD i 0).toNat 0) ≤ 63
    rw [hg, hk]; exact this
theorem takenP_length {n : Int} {d : List Door} {ks l : List Int} (hm : IsMaze n d ks) (h : (takenP n d ks l).2 = true) : (takenP n d ks l).1.length = l.length ∧ 0 < l.length := by
  unfold takenP at h ⊢
  cases hx : itx (takeG n d ks l) l.length 0 ([], 0) with
  | inl s =>
    rw [hx] at h
    exact ⟨(itx_inv TInv (takeG_inv hm) ⟨rfl, by decide, by decide⟩ hx).1, by simpa using h⟩
  | inr r => rw [hx] at h; cases h
theorem l2Taken_eq (hk : Big ≤ k) (n : Int) (d : List Door) (ks l : List Int) (hm : IsMaze n d ks) (hl : l.length ≤ 1048576) : spec_l2Taken.f k n d ks l = some (takenP n d ks l) := by
  unfold spec_l2Taken.f
  have hd : d.length ≤ 1048576 := by have := hm.2.2.1; omega
  have en : w64 (n - 1) = n - 1 := w64_id (by have := hm.1; omega) (by have := hm.2.1; omega)
  rw [loop_exit (l := fun m (s : List Int × Int) i => spec_l2Taken.l0 k n d ks l m s.1 s.2 i) (N := l.length) (g := takeG n d ks l) (out := fun s => some (.inl s.1)) TInv (fun m i s hi hI => by
    have h1 : ((i : Int) < (l.length : Int)) := by omega
    have hw : w64 ((i : Int) + 1) = ((i + 1 : Nat) : Int) := w64_id (by omega) (by omega)
    have hbad : ((rdl l (i : Int)).bind fun t18 => (spec_l1In.f k t18 0 (w64 (n - 1))).bind fun t23 => if (!t23) = true then some true else (if ((i : Int) == 0) = true then (rdl l 0).bind fun t30 => (if (t30 != 0) = true then some true else (if (decide ((i : Int) > 0)) = true then (rdl l (w64 ((i : Int) - 1))).bind fun t43 => (rdl l (i : Int)).bind fun t47 => (spec_l2Open.f k n d ks t43 t47 s.2).bind fun t50 => some (!t50) else some false)) else (if (decide ((i : Int) > 0)) = true then (rdl l (w64 ((i : Int) - 1))).bind fun t43 => (rdl l (i : Int)).bind fun t47 => (spec_l2Open.f k n d ks t43 t47 s.2).bind fun t50 => some (!t50) else some false)))
        = some (badT n d l i s.2) := by
      unfold badT
      simp only [rdl_lt hi, Option.bind_some, in_eq, en, dif_pos hi]
      by_cases c : 0 ≤ l[i] ∧ l[i] ≤ n - 1
      rotate_left 1
      · simp [c]
      rcases Nat.eq_zero_or_pos i with rfl | hp
      · have : rdl l 0 = some l[0] := rdl_lt hi
        have hn : decide (0 ≤ l[0] ∧ l[0] ≤ n - 1) = true := decide_eq_true c
        simp only [hn, this]
        have h1n := hm.1
        by_cases c0 : l[0] = 0 <;> simp [c0, h1n, show ¬ n < 1 by omega]
      · have e1 : w64 ((i : Int) - 1) = ((i - 1 : Nat) : Int) := by rw [w64_id (by omega) (by omega)]; omega
        have hi1 : i - 1 < l.length := by omega
        have hp' : (i : Int) > 0 := by omega
        have hz : ((i : Int) == 0) = false := by simp; omega
        have hne : ¬ i = 0 := by omega
        simp only [hz, Bool.false_eq_true, if_false, hp', decide_true, if_true, e1, rdl_lt hi1, rdl_lt hi, Option.bind_some, l2Open_eq hk n d ks _ _ _ hd hm.small ⟨hI.2.1, hI.2.2⟩, c, hne, decide_false, Bool.false_and, Bool.or_false, hp, Bool.true_and, Bool.not_true, Bool.false_or, and_self]
    show (∃ s', takeG n d ks l i s = .inl s' ∧ spec_l2Taken.l0 k n d ks l (m + 1) s.1 s.2 (i : Int) = spec_l2Taken.l0 k n d ks l m s'.1 s'.2 ((i + 1 : Nat) : Int) ∧ TInv (i + 1) s') ∨ (∃ r, takeG n d ks l i s = .inr r ∧ spec_l2Taken.l0 k n d ks l (m + 1) s.1 s.2 (i : Int) = some (.inr r))
    rw [spec_l2Taken.l0, if_pos (by simpa using h1), hbad, Option.bind_some]
    have hinv := takeG_inv (l := l) hm i s
    cases hb : badT n d l i s.2 with
    | true => right; exact ⟨_, by unfold takeG; rw [if_pos hb], by simp⟩
    | false =>
      left
      have hgo : takeG n d ks l i s = .inl (s.1 ++ [bor s.2 (ks.getD (l.getD i 0).toNat 0)], bor s.2 (ks.getD (l.getD i 0).toNat 0)) := by unfold takeG; rw [if_neg (by simp [hb])]
      refine ⟨_, hgo, ?_, hinv _ hi hI hgo⟩
      unfold badT at hb
      rw [dif_pos hi] at hb
      simp only [Bool.or_eq_false_iff, Bool.not_eq_false', decide_eq_true_eq] at hb
      have hr := hb.1.1
      have hlen : l[i].toNat < ks.length := by have := hm.2.2.2.1; omega
      have hg : l.getD i 0 = l[i] := by simp [List.getD, List.getElem?_eq_getElem hi]
      have hkk : ks.getD l[i].toNat 0 = ks[l[i].toNat] := by simp [List.getD, List.getElem?_eq_getElem hlen]
      have hrd : rdl ks l[i] = some ks[l[i].toNat] := by unfold rdl; rw [if_pos hr.1, List.getElem?_eq_getElem hlen]
      rw [if_neg (by simp), rdl_lt hi, Option.bind_some, hrd, Option.bind_some, if_pos (by have := hI.1; simp; omega), hw, hg, hkk])
    (fun m s _ => by show spec_l2Taken.l0 k n d ks l (m + 1) s.1 s.2 (l.length : Int) = _; rw [spec_l2Taken.l0]; simp) (k := k) (by unfold Big at hk; omega) (s := ([], 0)) ⟨rfl, by decide, by decide⟩]
  unfold takenP
  cases hx : itx (takeG n d ks l) l.length 0 ([], 0) with
  | inl s =>
    have := (itx_inv TInv (takeG_inv hm) ⟨rfl, by decide, by decide⟩ hx).1
    simp only [Option.bind_some, Lr, this]
    simp
  | inr r =>
    have hr : ∀ m i s, itx (takeG n d ks l) m i s = .inr r → r = ([], false) := by
      intro m
      induction m with
      | zero => intro i s h; cases h
      | succ m ih =>
        intro i s h
        unfold itx at h
        cases hg : takeG n d ks l i s with
        | inl s' => rw [hg] at h; exact ih _ _ h
        | inr r' =>
          rw [hg] at h; cases h
          unfold takeG at hg
          split at hg <;> cases hg
          rfl
    rw [hr _ _ _ hx]
    simp only [Option.bind_some, Lr]
theorem taken_eq (hk : Big ≤ k) (n : Int) (d : List Door) (ks l : List Int) (hm : IsMaze n d ks) (hl : l.length ≤ 1048576) : impl_taken.f k n d ks l = some (takenP n d ks l) := by
  unfold impl_taken.f
  have hd : d.length ≤ 1048576 := by have := hm.2.2.1; omega
  have en : w64 (n - 1) = n - 1 := w64_id (by have := hm.1; omega) (by have := hm.2.1; omega)
  rcases Nat.eq_zero_or_pos l.length with h0 | hpos
  · have : l = [] := List.length_eq_zero_iff.1 h0
    subst this
    simp [takenP, itx]
  have hl0 : rdl l 0 = some l[0] := rdl_lt hpos
  have hz : ((l.length : Int) == 0) = false := by rw [beq_eq_false_iff_ne]; omega
  simp only [hz, Bool.false_eq_true, if_false, hl0, Option.bind_some]
  by_cases c0 : l[0] = 0
  rotate_left 1
  · have : (l[0] != 0) = true := by simpa using c0
    rw [if_pos this]
    have hb : badT n d l 0 0 = true := by
      unfold badT; rw [dif_pos hpos]; simp [c0]
    unfold takenP
    obtain ⟨m, hm'⟩ : ∃ m, l.length = m + 1 := ⟨l.length - 1, by omega⟩
    rw [hm']
    unfold itx takeG
    rw [if_pos hb]
  have : ¬ ((l[0] != 0) = true) := by simp [c0]
  rw [if_neg this]
  rw [loop_exit (l := fun m (s : List Int × Int) i => impl_taken.l0 k n d ks l m s.1 s.2 i) (N := l.length) (g := takeG n d ks l) (out := fun s => some (.inl s.1)) TInv (fun m i s hi hI => by
    have h1 : ((i : Int) < (l.length : Int)) := by omega
    have hw : w64 ((i : Int) + 1) = ((i + 1 : Nat) : Int) := w64_id (by omega) (by omega)
    have hbad : ((impl_within.f k l[i] 0 (w64 (n - 1))).bind fun t31 => (if (!t31) = true then some true else (if (decide ((i : Int) > 0)) = true then (rdl l (w64 ((i : Int) - 1))).bind fun t41 => (impl_steps.f k n d ks t41 s.2).bind fun t44 => if ¬ l[i] < 0 then some ((band (shr t44 l[i]) 1) == 0) else none else some false))) = some (badT n d l i s.2) := by
      unfold badT
      simp only [within_eq, en, Option.bind_some, dif_pos hi]
      by_cases c : 0 ≤ l[i] ∧ l[i] ≤ n - 1
      rotate_left 1
      · simp [c]
      rcases Nat.eq_zero_or_pos i with rfl | hp
      · have h1n := hm.1
        simp [c0, h1n, show ¬ n < 1 by omega]
      · have e1 : w64 ((i : Int) - 1) = ((i - 1 : Nat) : Int) := by rw [w64_id (by omega) (by omega)]; omega
        have hi1 : i - 1 < l.length := by omega
        have hp' : (i : Int) > 0 := by omega
        have hne : ¬ i = 0 := by omega
        obtain ⟨q, hq1, hq2, hq3⟩ := steps_eq hk n d ks l[i - 1] s.2 hd hm.small ⟨hI.2.1, hI.2.2⟩
        obtain ⟨t, ht⟩ := Int.eq_ofNat_of_zero_le c.1
        have ht' : l[i] = (t : Int) := ht
        have hnn := hm.2.1
        have hb : (band (shr (q : Int) l[i]) 1 == 0) = !d.any (goes l[i - 1] l[i] s.2) := by
          rw [ht', bit_nat (by omega) (by omega), hq3]
        have hn : ¬ l[i] < 0 := by omega
        simp only [hp', decide_true, if_true, e1, rdl_lt hi1, Option.bind_some, hq1, c, hne, decide_false, Bool.false_and, Bool.or_false, hp, Bool.true_and, Bool.not_true, Bool.false_or, and_self, Bool.false_eq_true, if_false, hn, not_false_eq_true, hb]
    show (∃ s', takeG n d ks l i s = .inl s' ∧ impl_taken.l0 k n d ks l (m + 1) s.1 s.2 (i : Int) = impl_taken.l0 k n d ks l m s'.1 s'.2 ((i + 1 : Nat) : Int) ∧ TInv (i + 1) s') ∨ (∃ r, takeG n d ks l i s = .inr r ∧ impl_taken.l0 k n d ks l (m + 1) s.1 s.2 (i : Int) = some (.inr r))
    rw [impl_taken.l0, if_pos (by simpa using h1), rdl_lt hi, Option.bind_some, hbad, Option.bind_some]
    have hinv := takeG_inv (l := l) hm i s
    cases hb : badT n d l i s.2 with
    | true => right; exact ⟨_, by unfold takeG; rw [if_pos hb], by simp⟩
    | false =>
      left
      have hgo : takeG n d ks l i s = .inl (s.1 ++ [bor s.2 (ks.getD (l.getD i 0).toNat 0)], bor s.2 (ks.getD (l.getD i 0).toNat 0)) := by unfold takeG; rw [if_neg (by simp [hb])]
      refine ⟨_, hgo, ?_, hinv _ hi hI hgo⟩
      unfold badT at hb
      rw [dif_pos hi] at hb
      simp only [Bool.or_eq_false_iff, Bool.not_eq_false', decide_eq_true_eq] at hb
      have hr := hb.1.1
      have hlen : l[i].toNat < ks.length := by have := hm.2.2.2.1; omega
      have hg : l.getD i 0 = l[i] := by simp [List.getD, List.getElem?_eq_getElem hi]
      have hkk : ks.getD l[i].toNat 0 = ks[l[i].toNat] := by simp [List.getD, List.getElem?_eq_getElem hlen]
      have hrd : rdl ks l[i] = some ks[l[i].toNat] := by unfold rdl; rw [if_pos hr.1, List.getElem?_eq_getElem hlen]
      rw [if_neg (by simp), hrd, Option.bind_some, if_pos (by have := hI.1; simp; omega), hw, hg, hkk])
    (fun m s _ => by show impl_taken.l0 k n d ks l (m + 1) s.1 s.2 (l.length : Int) = _; rw [impl_taken.l0]; simp) (k := k) (by unfold Big at hk; omega) (s := ([], 0)) ⟨rfl, by decide, by decide⟩]
  unfold takenP
  cases hx : itx (takeG n d ks l) l.length 0 ([], 0) with
  | inl s => simp only [Option.bind_some, Lr]; simp [hpos]
  | inr r =>
    have hr : ∀ m i s, itx (takeG n d ks l) m i s = .inr r → r = ([], false) := by
      intro m
      induction m with
      | zero => intro i s h; cases h
      | succ m ih =>
        intro i s h
        unfold itx at h
        cases hg : takeG n d ks l i s with
        | inl s' => rw [hg] at h; exact ih _ _ h
        | inr r' =>
          rw [hg] at h; cases h
          unfold takeG at hg
          split at hg <;> cases hg
          rfl
    rw [hr _ _ _ hx]
    simp only [Option.bind_some, Lr]
theorem l12Good_eq (hk : Big ≤ k) (n : Int) (d : List Door) (ks l : List Int) (u : Int) (hd : d.length ≤ 1048576) (hks : ks.length ≤ 1048576) (hl : l.length ≤ 1048576) :
    spec_l12Good.f k n d ks l u = some (decide (IsMaze n d ks ∧ l.length ≤ 60 ∧ 0 ≤ u ∧ u ≤ 1000) && (takenP n d ks l).2) := by
  unfold spec_l12Good.f
  rw [l2Maze_eq hk n d ks hd hks]
  by_cases hm : IsMaze n d ks
  rotate_left 1
  · simp [hm]
  simp only [hm, decide_true, Bool.not_true, Bool.false_eq_true, if_false, Option.bind_some, in_eq, l2Taken_eq hk n d ks l hm hl, true_and]
  by_cases c1 : (l.length : Int) > 60
  · have : ¬ l.length ≤ 60 := by omega
    simp [c1, this]
  · have h1 : l.length ≤ 60 := by omega
    by_cases c2 : 0 ≤ u ∧ u ≤ 1000 <;> simp [c1, h1, c2]
theorem IsVisit_eq (hk : Big ≤ k) (n : Int) (d : List Door) (ks l : List Int) (u : Int) (hd : d.length ≤ 1048576) (hks : ks.length ≤ 1048576) (hl : l.length ≤ 1048576) :
    impl_IsVisit.f k n d ks l u = some (decide (IsMaze n d ks ∧ l.length ≤ 60 ∧ 0 ≤ u ∧ u ≤ 1000) && (takenP n d ks l).2) := by
  unfold impl_IsVisit.f
  rw [IsMaze_eq hk n d ks hd hks]
  by_cases hm : IsMaze n d ks
  rotate_left 1
  · simp [hm]
  simp only [hm, decide_true, Bool.not_true, Bool.false_eq_true, if_false, Option.bind_some, within_eq, taken_eq hk n d ks l hm hl, true_and]
  by_cases c1 : (l.length : Int) > 60
  · have : ¬ l.length ≤ 60 := by omega
    simp [c1, this]
  · have h1 : l.length ≤ 60 := by omega
    by_cases c2 : 0 ≤ u ∧ u ≤ 1000 <;> simp [c1, h1, c2]
theorem szVisit_eq (n : Int) (d : List Door) (ks l : List Int) (u m : Int) (h0 : 0 ≤ m) (hm : m ≤ 1048576) (h1 : d.length ≤ maxLen) (h2 : ks.length ≤ maxLen) (h3 : l.length ≤ maxLen) :
    laws_szVisit.f k n d ks l u m = some (szo m (d.length + ks.length + l.length)) := by
  unfold laws_szVisit.f
  rw [szMaze_eq n d ks _ h0 hm h1 h2, Option.bind_some, ← szo_add]
  by_cases hc : szo m (d.length + ks.length) < 0
  · simp [hc]
  · rw [szIntS_eq l _ (by omega) (szo_range (by omega) (by omega)).2 h3]
theorem toVisit_eq (hk : Big ≤ k) (n : Int) (d : List Door) (ks l : List Int) (u : Int) (hd : d.length ≤ 1048576) (hks : ks.length ≤ 1048576) (hl : l.length ≤ 1048576) : laws_toVisit.f k n d ks l u = some (n, d, ks, l, u) := by
  unfold laws_toVisit.f
  rw [toMaze_eq hk n d ks hd hks, Option.bind_some, toIntS_eq hk l hl]; rfl
theorem eqVisit_eq (hk : Big ≤ k) (n : Int) (d : List Door) (ks l : List Int) (u : Int) (n' : Int) (d' : List Door) (ks' l' : List Int) (u' : Int) (hd : d.length ≤ 1048576) (hks : ks.length ≤ 1048576) (hl : l.length ≤ 1048576) :
    laws_eqVisit.f k n d ks l u n' d' ks' l' u' = some (decide ((n, d, ks, l, u) = (n', d', ks', l', u'))) := by
  unfold laws_eqVisit.f
  rw [eqMaze_eq hk n n' d d' ks ks' hd hks, eqIntS_eq hk l l' hl]
  by_cases h1 : (n, d, ks) = (n', d', ks')
  · by_cases h2 : l = l' <;> by_cases h3 : u = u' <;> simp_all
  · have : ¬ (n, d, ks, l, u) = (n', d', ks', l', u') := by
      intro e; simp only [Prod.mk.injEq] at e h1; exact h1 ⟨e.1, e.2.1, e.2.2.1⟩
    rw [decide_eq_false h1, decide_eq_false this]; rfl
theorem szo_pos {a : Nat} (h : (a : Int) ≤ 1048576) : decide (szo 1048576 a < 0) = false := by unfold szo; rw [if_pos h]; simp; omega
theorem szo_neg {a : Nat} (h : ¬ (a : Int) ≤ 1048576) : decide (szo 1048576 a < 0) = true := by unfold szo; rw [if_neg h]; rfl
theorem laws_FnExactIsVisit.pure (x : Int × List (Int × Int × Int) × List Int × List Int × Int) (h : wfd x) : ∃ k, laws_FnExactIsVisit.f k x.1 x.2.1 x.2.2.1 x.2.2.2.1 x.2.2.2.2 = some true := by
  refine ⟨Big, ?_⟩
  have hk : Big ≤ Big := Nat.le_refl _
  obtain ⟨n, d, ks, l, u⟩ := x
  have h1 : d.length ≤ maxLen := h.2.1.1
  have h2 : ks.length ≤ maxLen := h.2.2.1.1
  have h3 : l.length ≤ maxLen := h.2.2.2.1.1
  unfold laws_FnExactIsVisit.f
  simp only [szVisit_eq n d ks l u _ (by decide : (0 : Int) ≤ 1048576) (Int.le_refl _) h1 h2 h3, Option.bind_some]
  by_cases hc : ((d.length + ks.length + l.length : Nat) : Int) ≤ 1048576
  · simp only [szo_pos hc, Bool.false_eq_true, if_false, toVisit_eq hk n d ks l u (by omega) (by omega) (by omega), Option.bind_some, spec_IsVisit.f, l12Good_eq hk n d ks l u (by omega) (by omega) (by omega), IsVisit_eq hk n d ks l u (by omega) (by omega) (by omega), eqVisit_eq hk n d ks l u n d ks l u (by omega) (by omega) (by omega)]
    simp
  · simp only [szo_neg hc, if_true]
theorem last_eq (l : List Int) (h : 0 < l.length) (hl : l.length ≤ 1048576) : rdl l (w64 ((l.length : Int) - 1)) = some (l[l.length - 1]'(by omega)) := by
  have e1 : w64 ((l.length : Int) - 1) = ((l.length - 1 : Nat) : Int) := by rw [w64_id (by omega) (by omega)]; omega
  rw [e1, rdl_lt (by omega)]
theorem laws_FnExactHasNow.pure (x : Int × List (Int × Int × Int) × List Int × List Int × Int) (h : wfd x) : ∃ k, laws_FnExactHasNow.f k x.1 x.2.1 x.2.2.1 x.2.2.2.1 x.2.2.2.2 = some true := by
  refine ⟨Big, ?_⟩
  have hk : Big ≤ Big := Nat.le_refl _
  obtain ⟨n, d, ks, l, u⟩ := x
  have h1 : d.length ≤ maxLen := h.2.1.1
  have h2 : ks.length ≤ maxLen := h.2.2.1.1
  have h3 : l.length ≤ maxLen := h.2.2.2.1.1
  unfold laws_FnExactHasNow.f
  simp only [szVisit_eq n d ks l u _ (by decide : (0 : Int) ≤ 1048576) (Int.le_refl _) h1 h2 h3, Option.bind_some]
  by_cases hc : ((d.length + ks.length + l.length : Nat) : Int) ≤ 1048576
  · have hsame : spec_HasNow.f Big n d ks l u = impl_HasNow.f Big n d ks l u ∧ ∃ r, impl_HasNow.f Big n d ks l u = some r := by
      unfold spec_HasNow.f impl_HasNow.f
      rw [l12Good_eq hk n d ks l u (by omega) (by omega) (by omega), IsVisit_eq hk n d ks l u (by omega) (by omega) (by omega)]
      by_cases hg : IsMaze n d ks ∧ l.length ≤ 60 ∧ 0 ≤ u ∧ u ≤ 1000
      · cases ht : (takenP n d ks l).2 with
        | false => simp [hg]
        | true =>
          have hlen := takenP_length hg.1 ht
          simp only [decide_eq_true hg, Bool.and_self, Bool.not_true, Bool.false_eq_true, if_false, Option.bind_some, spec_l12Has.f, impl_hasNow.f, l2Taken_eq hk n d ks l hg.1 (by omega), taken_eq hk n d ks l hg.1 (by omega)]
          rw [last_eq _ (by omega) (by omega)]
          exact ⟨trivial, _, rfl⟩
      · simp [hg]
    obtain ⟨e, r, hr⟩ := hsame
    simp only [szo_pos hc, Bool.false_eq_true, if_false, toVisit_eq hk n d ks l u (by omega) (by omega) (by omega), Option.bind_some, e, hr, eqVisit_eq hk n d ks l u n d ks l u (by omega) (by omega) (by omega)]
    simp
  · simp only [szo_neg hc, if_true]
end
end Go.Proofs

/- A part of the proof of FnExactIsTrap: the plain law. No condition. -/
import Derived.Test.YteaphppkjcngiaaFnExactIsTrapG
/- The plain laws of FnExactIsTrap, FnExactIsVisit and FnExactHasNow. -/
namespace Go.Proofs
open Go Go.Ga Go.Ga.Wf
set_option linter.unusedVariables false
set_option linter.unusedSimpArgs false
section
variable {k : Nat}
def risingB (lo hi : Int) (l : List Int) (i : Nat) : Bool := if h : i < l.length then decide (lo ≤ l[i] ∧ l[i] ≤ hi) && (decide (i = 0) || decide (l[i - 1] < l[i])) else true
theorem rising_eq (hk : Big ≤ k) (l : List Int) (lo hi : Int) (hl : l.length ≤ 1048576) : spec_l1Rising.f k l lo hi = some (decide (∀ i, i < l.length → risingB lo hi l i = true)) := by
  unfold spec_l1Rising.f
  rw [loop_all (l := spec_l1Rising.l0 k l lo hi) (N := l.length) (risingB lo hi l) (z := false) (fun m i hi' => by
    rw [spec_l1Rising.l0]
    have h1 : ((i : Int) < (l.length : Int)) := by omega
    have hw : w64 ((i : Int) + 1) = ((i + 1 : Nat) : Int) := w64_id (by omega) (by omega)
    simp only [h1, decide_true, if_true, rdl_lt hi', Option.bind_some, hw, in_eq]
    unfold risingB
    rw [dif_pos hi']
    by_cases c : lo ≤ l[i] ∧ l[i] ≤ hi
    rotate_left 1
    · simp [c]
    rcases Nat.eq_zero_or_pos i with rfl | hp
    · simp [c]
    · have e1 : w64 ((i : Int) - 1) = ((i - 1 : Nat) : Int) := by rw [w64_id (by omega) (by omega)]; omega
      have hi1 : i - 1 < l.length := by omega
      have hp' : (i : Int) > 0 := by omega
      have hne : ¬ i = 0 := by omega
      simp only [c, decide_true, Bool.not_true, Bool.false_eq_true, if_false, hp', if_true, e1, rdl_lt hi1, Option.bind_some, hne, decide_false, Bool.true_and, Bool.false_or, and_self]
      by_cases hlt : l[i - 1] < l[i]
      · simp [hlt, show ¬ (l[i - 1] ≥ l[i]) by omega]
      · simp [hlt, show (l[i - 1] ≥ l[i]) by omega])
    (fun m => by rw [spec_l1Rising.l0]; simp) (by unfold Big at hk; omega), Option.bind_some, Lr_ite]
  split <;> rename_i h <;> simp [h]
  exact h
def IsTrapP (n : Int) (d : List Door) (ks tr : List Int) : Prop := IsMaze n d ks ∧ ∀ i, i < tr.length → risingB 0 ((d.length : Int) - 1) tr i = true
instance (n : Int) (d : List Door) (ks tr : List Int) : Decidable (IsTrapP n d ks tr) := by unfold IsTrapP; infer_instance
theorem l11Trap_eq (hk : Big ≤ k) (n : Int) (d : List Door) (ks tr : List Int) (hd : d.length ≤ 1048576) (hl : ks.length ≤ 1048576) (ht : tr.length ≤ 1048576) : spec_l11Trap.f k n d ks tr = some (decide (IsTrapP n d ks tr)) := by
  unfold spec_l11Trap.f
  have e : w64 ((d.length : Int) - 1) = (d.length : Int) - 1 := w64_id (by omega) (by omega)
  rw [l2Maze_eq hk n d ks hd hl, e, rising_eq hk _ _ _ ht]
  by_cases c1 : IsMaze n d ks
  · by_cases c2 : ∀ i, i < tr.length → risingB 0 ((d.length : Int) - 1) tr i = true
    · have : IsTrapP n d ks tr := ⟨c1, c2⟩
      rw [decide_eq_true c1, decide_eq_true c2, decide_eq_true this]; rfl
    · have : ¬ IsTrapP n d ks tr := fun h => c2 h.2
      rw [decide_eq_true c1, decide_eq_false c2, decide_eq_false this]; rfl
  · have : ¬ IsTrapP n d ks tr := fun h => c1 h.1
    rw [decide_eq_false c1, decide_eq_false this]; rfl
theorem IsTrap_eq (hk : Big ≤ k) (n : Int) (d : List Door) (ks tr : List Int) (hd : d.length ≤ 1048576) (hl : ks.length ≤ 1048576) (ht : tr.length ≤ 1048576) : impl_IsTrap.f k n d ks tr = some (decide (IsTrapP n d ks tr)) := by
  unfold impl_IsTrap.f
  have e : w64 ((d.length : Int) - 1) = (d.length : Int) - 1 := w64_id (by omega) (by omega)
  rw [IsMaze_eq hk n d ks hd hl]
  rw [loop_all (l := impl_IsTrap.l0 k d tr) (N := tr.length) (risingB 0 ((d.length : Int) - 1) tr) (z := false) (fun m i hi' => by
    rw [impl_IsTrap.l0]
    have h1 : ((i : Int) < (tr.length : Int)) := by omega
    have hw : w64 ((i : Int) + 1) = ((i + 1 : Nat) : Int) := w64_id (by omega) (by omega)
    simp only [h1, decide_true, if_true, rdl_lt hi', Option.bind_some, hw, within_eq, e]
    unfold risingB
    rw [dif_pos hi']
    by_cases c : 0 ≤ tr[i] ∧ tr[i] ≤ (d.length : Int) - 1
    rotate_left 1
    · simp [c]
    rcases Nat.eq_zero_or_pos i with rfl | hp
    · simp [c]
    · have e1 : w64 ((i : Int) - 1) = ((i - 1 : Nat) : Int) := by rw [w64_id (by omega) (by omega)]; omega
      have hi1 : i - 1 < tr.length := by omega
      have hp' : (i : Int) > 0 := by omega
      have hne : ¬ i = 0 := by omega
      simp only [c, decide_true, Bool.not_true, Bool.false_eq_true, if_false, hp', if_true, e1, rdl_lt hi1, Option.bind_some, hne, decide_false, Bool.true_and, Bool.false_or, and_self]
      by_cases hlt : tr[i - 1] < tr[i]
      · simp [hlt, show ¬ (tr[i] ≤ tr[i - 1]) by omega]
      · simp [hlt, show (tr[i] ≤ tr[i - 1]) by omega])
    (fun m => by rw [impl_IsTrap.l0]; simp) (by unfold Big at hk; omega), Option.bind_some, Option.bind_some, Lr_ite]
  by_cases c1 : IsMaze n d ks
  · by_cases c2 : ∀ i, i < tr.length → risingB 0 ((d.length : Int) - 1) tr i = true
    · have : IsTrapP n d ks tr := ⟨c1, c2⟩
      rw [decide_eq_true c1, if_pos c2, decide_eq_true this]; rfl
    · have : ¬ IsTrapP n d ks tr := fun h => c2 h.2
      rw [decide_eq_true c1, if_neg c2, decide_eq_false this]; rfl
  · have : ¬ IsTrapP n d ks tr := fun h => c1 h.1
    rw [decide_eq_false c1, decide_eq_false this]; rfl
theorem laws_FnExactIsTrap.pure (x : Int × List (Int × Int × Int) × List Int × List Int) (h : wfd x) : ∃ k, laws_FnExactIsTrap.f k x.1 x.2.1 x.2.2.1 x.2.2.2 = some true := by
  refine ⟨Big, ?_⟩
  have hk : Big ≤ Big := Nat.le_refl _
  obtain ⟨n, d, ks, tr⟩ := x
  have h1 : d.length ≤ maxLen := h.2.1.1
  have h2 : ks.length ≤ maxLen := h.2.2.1.1
  have h3 : tr.length ≤ maxLen := h.2.2.2.1
  unfold laws_FnExactIsTrap.f laws_szTrap.f
  rw [szMaze_eq n d ks _ (by decide) (by decide) h1 h2, Option.bind_some]
  have hsz : (if decide (szo 1048576 (d.length + ks.length) < 0) = true then some (-1) else (laws_szIntS.f Big tr (szo 1048576 (d.length + ks.length))).bind fun t14 => if decide (t14 < 0) = true then some (-1) else some t14) = some (szo 1048576 (d.length + ks.length + tr.length)) := by
    rw [← szo_add]
    by_cases hc : szo 1048576 (d.length + ks.length) < 0
    · simp [hc]
    · rw [szIntS_eq tr _ (by omega) (szo_range (by omega) (by omega)).2 h3]
  simp only [hsz, Option.bind_some]
  by_cases hc : ((d.length + ks.length + tr.length : Nat) : Int) ≤ 1048576
  · have : ¬ szo 1048576 (d.length + ks.length + tr.length) < 0 := by unfold szo; rw [if_pos hc]; omega
    have ht : laws_toTrap.f Big n d ks tr = some (n, d, ks, tr) := by
      unfold laws_toTrap.f
      rw [toMaze_eq hk n d ks (by omega) (by omega), Option.bind_some, toIntS_eq hk tr (by omega)]; rfl
    have he : laws_eqTrap.f Big n d ks tr n d ks tr = some true := by
      unfold laws_eqTrap.f
      rw [eqMaze_eq hk n n d d ks ks (by omega) (by omega), eqIntS_eq hk tr tr (by omega)]
      simp
    rw [if_neg (by simpa using this), ht]
    simp only [Option.bind_some, spec_IsTrap.f, l11Trap_eq hk n d ks tr (by omega) (by omega) (by omega), IsTrap_eq hk n d ks tr (by omega) (by omega) (by omega), he]
    simp
  · have : szo 1048576 (d.length + ks.length + tr.length) < 0 := by unfold szo; rw [if_neg hc]; omega
    rw [if_pos (by simpa using this)]
end
end Go.Proofs

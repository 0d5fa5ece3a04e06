/- A part of the proof of FnExactStepsFrom: the plain law. No condition. -/
import Derived.Test.YtefpihelkbmpjaaFnExactStepsFromE
/- Plain laws: A -/
namespace Go.Proofs
open Go Go.Ga Go.Ga.Wf
set_option linter.unusedVariables false
set_option linter.unusedSimpArgs false
section
variable {k : Nat}
theorem within_eq (x a b : Int) : impl_within.f k x a b = some (decide (a ≤ x ∧ x ≤ b)) := by
  unfold impl_within.f
  by_cases h : a ≤ x <;> simp [h]
theorem in_eq (x a b : Int) : spec_l1In.f k x a b = some (decide (a ≤ x ∧ x ≤ b)) := by
  unfold spec_l1In.f
  by_cases h : a ≤ x <;> simp [h, ge_iff_le]
end
end Go.Proofs

/- Plain laws: B -/
namespace Go.Ga
open Go
def szo (m : Int) (n : Nat) : Int := if (n : Int) ≤ m then m - n else -1
theorem loop_copy {α : Type} {l : Nat → List α → Int → Option (List α)} {a : List α}
    (hs : ∀ n (i : Nat) (s : List α) (hi : i < a.length), s.length = a.length → l (n + 1) s (i : Int) = l n (s.set i a[i]) ((i + 1 : Nat) : Int))
    (he : ∀ n s, l (n + 1) s (a.length : Int) = some s) {k : Nat} (hk : a.length < k) {s : List α} (h0 : s.length = a.length) : l k s 0 = some a := by
  have key : ∀ m i k s, i + m = a.length → m < k → s.length = a.length → (∀ j, j < i → s[j]? = a[j]?) → l k s (i : Int) = some a := by
    intro m
    induction m with
    | zero =>
      intro i k s hi hk h1 h2
      obtain ⟨n, rfl⟩ : ∃ n, k = n + 1 := ⟨k - 1, by omega⟩
      have : i = a.length := by omega
      subst this
      rw [he]
      congr 1
      refine List.ext_getElem? fun j => ?_
      rcases Nat.lt_or_ge j a.length with h | h
      · exact h2 j h
      · rw [List.getElem?_eq_none (by omega), List.getElem?_eq_none h]
    | succ m ih =>
      intro i k s hi hk h1 h2
      obtain ⟨n, rfl⟩ : ∃ n, k = n + 1 := ⟨k - 1, by omega⟩
      rw [hs n i s (by omega) h1]
      refine ih (i + 1) n _ (by omega) (by omega) (by simpa using h1) fun j hj => ?_
      rcases Nat.eq_or_lt_of_le (Nat.le_of_lt_succ hj) with rfl | h
      · rw [List.getElem?_set_self (by omega), List.getElem?_eq_getElem (by omega)]
      · rw [List.getElem?_set_ne (by omega)]; exact h2 j h
  have := key a.length 0 k s (by omega) hk h0 (by omega)
  simpa using this
theorem loop_eq {α : Type} [DecidableEq α] {l : Nat → Int → Option (Unit ⊕ Bool)} {a b : List α} (hl : a.length = b.length)
    (hs : ∀ n (i : Nat) (hi : i < a.length), l (n + 1) (i : Int) = if a[i] = b[i] then l n ((i + 1 : Nat) : Int) else some (.inr false))
    (he : ∀ n, l (n + 1) (a.length : Int) = some (.inl ())) {k : Nat} (hk : a.length < k) : l k 0 = some (if a = b then .inl () else .inr false) := by
  rw [loop_all (l := l) (N := a.length) (fun i => decide (a[i]? = b[i]?)) (z := false) (fun n i hi => by
    rw [hs n i hi, List.getElem?_eq_getElem hi, List.getElem?_eq_getElem (by omega)]
    simp) he hk]
  congr 1
  have : (∀ i, i < a.length → decide (a[i]? = b[i]?) = true) ↔ a = b := by
    constructor
    · intro h
      refine List.ext_getElem? fun i => ?_
      rcases Nat.lt_or_ge i a.length with h1 | h1
      · simpa using h i h1
      · rw [List.getElem?_eq_none h1, List.getElem?_eq_none (by omega)]
    · rintro rfl i _; simp
  by_cases h : a = b
  · rw [if_pos h, if_pos (this.2 h)]
  · rw [if_neg h, if_neg (fun H => h (this.1 H))]
theorem w64_1 : w64 1 = 1 := rfl
theorem w64_2 : w64 2 = 2 := rfl
theorem w64_3 : w64 3 = 3 := rfl
theorem rdl3_0 {α : Type} {x y z : α} : rdl [x, y, z] 0 = some x := rfl
theorem rdl3_1 {α : Type} {x y z : α} : rdl [x, y, z] 1 = some y := rfl
theorem rdl3_2 {α : Type} {x y z : α} : rdl [x, y, z] 2 = some z := rfl
end Go.Ga
namespace Go.Proofs
open Go Go.Ga Go.Ga.Wf
set_option linter.unusedVariables false
set_option linter.unusedSimpArgs false
section
variable {k : Nat}
theorem big_split (hk : Big ≤ k) : ∃ n, k = n + 5 := ⟨k - 5, by unfold Big at hk; omega⟩
theorem maxLen_eq : maxLen = 9223372036854775807 := by decide
theorem szIntS_eq (l : List Int) (m : Int) (h0 : 0 ≤ m) (hm : m ≤ 1048576) (hl : l.length ≤ maxLen) : laws_szIntS.f k l m = some (szo m l.length) := by
  unfold laws_szIntS.f szo
  rw [maxLen_eq] at hl
  rw [w64_id (by omega) (by omega)]
  by_cases h : (l.length : Int) ≤ m
  · rw [if_neg (by simp; omega), if_pos h]
  · rw [if_pos (by simp; omega), if_neg h]
theorem szIntA3S_eq (l : List (Int × Int × Int)) (m : Int) (h0 : 0 ≤ m) (hm : m ≤ 1048576) (hl : l.length ≤ maxLen) : laws_szIntA3S.f k l m = some (szo m l.length) := by
  unfold laws_szIntA3S.f szo
  rw [maxLen_eq] at hl
  rw [w64_id (by omega) (by omega)]
  by_cases h : (l.length : Int) ≤ m
  · rw [if_neg (by simp; omega), if_pos h]
  · rw [if_pos (by simp; omega), if_neg h]
theorem szo_add (m : Int) (a b : Nat) : (if decide (szo m a < 0) = true then some (-1) else (some (szo (szo m a) b)).bind fun t => if decide (t < 0) = true then some (-1) else some t) = some (szo m (a + b)) := by
  unfold szo
  by_cases h : (a : Int) ≤ m
  · have h1 : ¬ (m - (a : Int) < 0) := by omega
    by_cases h2 : (b : Int) ≤ m - a
    · have h3 : ¬ (m - (a : Int) - b < 0) := by omega
      have h4 : ((a + b : Nat) : Int) ≤ m := by omega
      simp only [h, h1, h2, h3, h4, if_true, decide_false, Bool.false_eq_true, if_false, Option.bind_some]; congr 1; omega
    · have h4 : ¬ ((a + b : Nat) : Int) ≤ m := by omega
      simp only [h, h1, h2, h4, if_true, decide_false, Bool.false_eq_true, if_false, Option.bind_some]; simp
  · have h4 : ¬ ((a + b : Nat) : Int) ≤ m := by omega
    simp only [h, h4, if_false]; simp
theorem szo_range {m : Int} {n : Nat} (h0 : 0 ≤ m) (hm : m ≤ 1048576) : -1 ≤ szo m n ∧ szo m n ≤ 1048576 := by unfold szo; split <;> omega
theorem szMaze_eq (n : Int) (d : List (Int × Int × Int)) (ks : List Int) (m : Int) (h0 : 0 ≤ m) (hm : m ≤ 1048576) (hd : d.length ≤ maxLen) (hl : ks.length ≤ maxLen) :
    laws_szMaze.f k n d ks m = some (szo m (d.length + ks.length)) := by
  unfold laws_szMaze.f
  rw [szIntA3S_eq d m h0 hm hd, Option.bind_some, ← szo_add]
  by_cases h : szo m d.length < 0
  · simp [h]
  · rw [szIntS_eq ks _ (by omega) (szo_range h0 hm).2 hl]
theorem toIntS_eq (hk : Big ≤ k) (l : List Int) (hl : l.length ≤ 1048576) : laws_toIntS.f k l = some l := by
  unfold laws_toIntS.f
  rw [if_pos (by omega)]
  rw [loop_copy (l := laws_toIntS.l0 k l) (a := l) (fun n i s hi hs => by
    rw [laws_toIntS.l0]
    have h1 : ((i : Int) < (l.length : Int)) := by omega
    have hw : w64 ((i : Int) + 1) = ((i + 1 : Nat) : Int) := w64_id (by omega) (by omega)
    simp only [h1, decide_true, if_true, rdl_lt hi, rdl_lt (hs ▸ hi), Option.bind_some, hw, Int.toNat_natCast])
    (fun n s => by rw [laws_toIntS.l0]; simp) (by unfold Big at hk; omega) (by simp)]
  rfl
theorem toIntA3_eq (hk : Big ≤ k) (a b c : Int) : laws_toIntA3.f k a b c = some (a, b, c) := by
  obtain ⟨n, rfl⟩ := big_split hk
  unfold laws_toIntA3.f
  simp [laws_toIntA3.l0, w64_1, w64_2, w64_3, rdl3_0, rdl3_1, rdl3_2]
theorem toIntA3S_eq (hk : Big ≤ k) (l : List (Int × Int × Int)) (hl : l.length ≤ 1048576) : laws_toIntA3S.f k l = some l := by
  unfold laws_toIntA3S.f
  rw [if_pos (by omega)]
  rw [loop_copy (l := laws_toIntA3S.l0 k l) (a := l) (fun n i s hi hs => by
    rw [laws_toIntA3S.l0]
    have h1 : ((i : Int) < (l.length : Int)) := by omega
    have hw : w64 ((i : Int) + 1) = ((i + 1 : Nat) : Int) := w64_id (by omega) (by omega)
    simp only [h1, decide_true, if_true, rdl_lt hi, rdl_lt (hs ▸ hi), Option.bind_some, hw, Int.toNat_natCast, toIntA3_eq hk])
    (fun n s => by rw [laws_toIntA3S.l0]; simp) (by unfold Big at hk; omega) (by simp)]
  rfl
theorem toMaze_eq (hk : Big ≤ k) (n : Int) (d : List (Int × Int × Int)) (ks : List Int) (hd : d.length ≤ 1048576) (hl : ks.length ≤ 1048576) : laws_toMaze.f k n d ks = some (n, d, ks) := by
  unfold laws_toMaze.f
  rw [toIntA3S_eq hk d hd, Option.bind_some, toIntS_eq hk ks hl, Option.bind_some]
theorem eqIntS_eq (hk : Big ≤ k) (a b : List Int) (hl : a.length ≤ 1048576) : laws_eqIntS.f k a b = some (decide (a = b)) := by
  unfold laws_eqIntS.f
  by_cases h : a.length = b.length
  · rw [if_neg (by simp; omega), loop_eq (l := laws_eqIntS.l0 k a b) h (fun n i hi => by
      rw [laws_eqIntS.l0]
      have h1 : ((i : Int) < (a.length : Int)) := by omega
      have hw : w64 ((i : Int) + 1) = ((i + 1 : Nat) : Int) := w64_id (by omega) (by omega)
      simp only [h1, decide_true, if_true, rdl_lt hi, rdl_lt (h ▸ hi), Option.bind_some, hw]
      by_cases h2 : a[i] = b[i] <;> simp [h2]) (fun n => by rw [laws_eqIntS.l0]; simp) (by unfold Big at hk; omega), Option.bind_some, Lr_ite]
    by_cases h2 : a = b <;> simp [h2]
  · rw [if_pos (by simp; omega)]
    have : a ≠ b := fun e => h (by rw [e])
    simp [this]
theorem eqIntA3_eq (hk : Big ≤ k) (a b c a' b' c' : Int) : laws_eqIntA3.f k a b c a' b' c' = some (decide ((a, b, c) = (a', b', c'))) := by
  obtain ⟨n, rfl⟩ := big_split hk
  unfold laws_eqIntA3.f
  by_cases h1 : a = a' <;> by_cases h2 : b = b' <;> by_cases h3 : c = c' <;>
    simp [laws_eqIntA3.l0, w64_1, w64_2, w64_3, rdl3_0, rdl3_1, rdl3_2, h1, h2, h3, Lr]
theorem eqIntA3S_eq (hk : Big ≤ k) (a b : List (Int × Int × Int)) (hl : a.length ≤ 1048576) : laws_eqIntA3S.f k a b = some (decide (a = b)) := by
  unfold laws_eqIntA3S.f
  by_cases h : a.length = b.length
  · rw [if_neg (by simp; omega), loop_eq (l := laws_eqIntA3S.l0 k a b) h (fun n i hi => by
      rw [laws_eqIntA3S.l0]
      have h1 : ((i : Int) < (a.length : Int)) := by omega
      have hw : w64 ((i : Int) + 1) = ((i + 1 : Nat) : Int) := w64_id (by omega) (by omega)
      simp only [h1, decide_true, if_true, rdl_lt hi, rdl_lt (h ▸ hi), Option.bind_some, hw, eqIntA3_eq hk]
      by_cases h2 : a[i] = b[i] <;> simp [h2]) (fun n => by rw [laws_eqIntA3S.l0]; simp) (by unfold Big at hk; omega), Option.bind_some, Lr_ite]
    by_cases h2 : a = b <;> simp [h2]
  · rw [if_pos (by simp; omega)]
    have : a ≠ b := fun e => h (by rw [e])
    simp [this]
theorem eqMaze_eq (hk : Big ≤ k) (n n' : Int) (d d' : List (Int × Int × Int)) (ks ks' : List Int) (hd : d.length ≤ 1048576) (hl : ks.length ≤ 1048576) :
    laws_eqMaze.f k n d ks n' d' ks' = some (decide ((n, d, ks) = (n', d', ks'))) := by
  unfold laws_eqMaze.f
  rw [eqIntA3S_eq hk d d' hd, eqIntS_eq hk ks ks' hl]
  by_cases h1 : n = n' <;> by_cases h2 : d = d' <;> by_cases h3 : ks = ks' <;> simp [h1, h2, h3]
end
end Go.Proofs

/- Plain laws: C -/
namespace Go.Proofs
open Go Go.Ga Go.Ga.Wf
set_option linter.unusedVariables false
set_option linter.unusedSimpArgs false
abbrev Door := Int × Int × Int
def DoorOk (n : Int) (x : Door) : Prop := 0 ≤ x.1 ∧ x.1 < x.2.1 ∧ x.2.1 < n ∧ 0 ≤ x.2.2 ∧ x.2.2 ≤ 63
def DoorLt (a b : Door) : Prop := a.1 < b.1 ∨ (a.1 = b.1 ∧ (a.2.1 < b.2.1 ∨ (a.2.1 = b.2.1 ∧ a.2.2 < b.2.2)))
instance (n : Int) (x : Door) : Decidable (DoorOk n x) := by unfold DoorOk; infer_instance
instance (a b : Door) : Decidable (DoorLt a b) := by unfold DoorLt; infer_instance
def doorB (n : Int) (d : List Door) (i : Nat) : Bool := if h : i < d.length then decide (DoorOk n d[i]) && (decide (i = 0) || decide (DoorLt d[i - 1] d[i])) else true
def setB (ks : List Int) (i : Nat) : Bool := if h : i < ks.length then decide (0 ≤ ks[i] ∧ ks[i] ≤ 63) else true
def IsMaze (n : Int) (d : List Door) (ks : List Int) : Prop :=
  1 ≤ n ∧ n ≤ 12 ∧ d.length ≤ 30 ∧ (ks.length : Int) = n ∧ (∀ i, i < d.length → doorB n d i = true) ∧ ∀ i, i < ks.length → setB ks i = true
instance (n : Int) (d : List Door) (ks : List Int) : Decidable (IsMaze n d ks) := by unfold IsMaze; infer_instance
section
variable {k : Nat}
def cmpI (x y : Int) : Int := if x < y then -1 else if x > y then 1 else 0
theorem compare_eq (x y : Int) : cmp_Compare_int.f k x y = some (cmpI x y) := by
  unfold cmp_Compare_int.f cmp_isNaN_int.f cmpI
  simp only [bne_self_eq_false, Option.bind_some, Bool.false_eq_true, if_false, decide_eq_true_eq]
  repeat' split
  all_goals rfl
theorem or3_eq (hk : Big ≤ k) (x y z : Int) : cmp_Or_int.f k [x, y, z] = some (if x ≠ 0 then x else if y ≠ 0 then y else z) := by
  obtain ⟨n, rfl⟩ := big_split hk
  unfold cmp_Or_int.f
  by_cases h1 : x = 0 <;> by_cases h2 : y = 0 <;> by_cases h3 : z = 0 <;>
    simp [cmp_Or_int.l0, w64_1, w64_2, w64_3, rdl3_0, rdl3_1, rdl3_2, h1, h2, h3, Lr]
theorem compareDoors_eq (hk : Big ≤ k) (x y : Door) : ∃ c, impl_compareDoors.f k x.1 x.2.1 x.2.2 y.1 y.2.1 y.2.2 = some c ∧ (c ≥ 0 ↔ ¬ DoorLt x y) ∧ (c = 0 ↔ x = y) := by
  unfold impl_compareDoors.f
  refine ⟨_, by simp only [compare_eq, Option.bind_some, or3_eq hk]; rfl, ?_, ?_⟩
  · unfold DoorLt cmpI
    repeat' split
    all_goals omega
  · obtain ⟨a, b, c⟩ := x; obtain ⟨a', b', c'⟩ := y
    simp only [Prod.mk.injEq]
    unfold cmpI
    repeat' split
    all_goals omega
theorem before_eq (hk : Big ≤ k) (x y : Door) : spec_l2Before.f k x.1 x.2.1 x.2.2 y.1 y.2.1 y.2.2 = some (decide (DoorLt x y)) := by
  obtain ⟨n, rfl⟩ := big_split hk
  obtain ⟨a, b, c⟩ := x; obtain ⟨a', b', c'⟩ := y
  unfold spec_l2Before.f DoorLt
  by_cases h1 : a = a' <;> by_cases h2 : b = b' <;> by_cases h3 : c = c' <;>
    simp [spec_l2Before.l0, w64_1, w64_2, w64_3, rdl3_0, rdl3_1, rdl3_2, h1, h2, h3, Lr]
theorem isSet_eq (x : Int) : impl_isSet.f k x = some (decide (0 ≤ x ∧ x ≤ 63)) := by unfold impl_isSet.f; rw [within_eq]; rfl
theorem l2Set_eq (x : Int) : spec_l2Set.f k x = some (decide (0 ≤ x ∧ x ≤ 63)) := by unfold spec_l2Set.f; rw [in_eq]; rfl
theorem containsFunc_eq (hk : Big ≤ k) (l : List Int) (hl : l.length ≤ 1048576) (p : Int → Option Bool) (q : Int → Bool) (hp : ∀ x ∈ l, p x = some (q x)) :
    slices_ContainsFunc_int_int.f k l p = some (l.any q) := by
  unfold slices_ContainsFunc_int_int.f slices_IndexFunc_int_int.f
  have := loop_find (l := slices_IndexFunc_int_int.l0 k l p) (N := l.length) (fun i => if h : i < l.length then (if q l[i] = true then some (i : Int) else none) else none) (z := .inl ()) (fun n i hi => by
    rw [slices_IndexFunc_int_int.l0]
    have h1 : ((i : Int) < (l.length : Int)) := by omega
    have hw : w64 ((i : Int) + 1) = ((i + 1 : Nat) : Int) := w64_id (by omega) (by omega)
    simp only [h1, decide_true, if_true, rdl_lt hi, Option.bind_some, hw, hp _ (List.getElem_mem hi), hi, dite_true]
    cases q l[i] <;> simp) (fun n => by rw [slices_IndexFunc_int_int.l0]; simp) (k := k) (by unfold Big at hk; omega)
  rw [this, Option.bind_some]
  cases hf : (List.range l.length).findSome? (fun i => if h : i < l.length then (if q l[i] = true then some (i : Int) else none) else none) with
  | none =>
    simp only [Lr, Option.bind_some]
    rw [List.findSome?_eq_none_iff] at hf
    have : l.any q = false := by
      rw [List.any_eq_false]
      intro x hx
      obtain ⟨i, hi, rfl⟩ := List.getElem_of_mem hx
      have := hf i (List.mem_range.2 hi)
      simpa [hi] using this
    simp [this]
  | some r =>
    simp only [Lr, Option.bind_some]
    obtain ⟨i, hi, h⟩ := List.exists_of_findSome?_eq_some hf
    have hi' := List.mem_range.1 hi
    simp only [hi', dite_true] at h
    split at h
    · rename_i h1; cases h
      have : l.any q = true := List.any_eq_true.2 ⟨_, List.getElem_mem hi', h1⟩
      simp [this]
    · cases h
theorem IsMaze_eq (hk : Big ≤ k) (n : Int) (d : List Door) (ks : List Int) (hd : d.length ≤ 1048576) (hl : ks.length ≤ 1048576) : impl_IsMaze.f k n d ks = some (decide (IsMaze n d ks)) := by
  unfold impl_IsMaze.f
  have hloop := loop_all (l := impl_IsMaze.l0 k n d) (N := d.length) (doorB n d) (z := false) (fun m i hi => by
    rw [impl_IsMaze.l0]
    have h1 : ((i : Int) < (d.length : Int)) := by omega
    have hw : w64 ((i : Int) + 1) = ((i + 1 : Nat) : Int) := w64_id (by omega) (by omega)
    simp only [h1, decide_true, if_true, rdl_lt hi, Option.bind_some, hw, isSet_eq]
    unfold doorB DoorOk
    rw [dif_pos hi]
    by_cases c1 : d[i].1 < 0
    · simp [c1, show ¬ (0 ≤ d[i].1) by omega]
    by_cases c2 : d[i].1 ≥ d[i].2.1
    · simp [c1, c2, show ¬ (d[i].1 < d[i].2.1) by omega]
    by_cases c3 : d[i].2.1 ≥ n
    · simp [c1, c2, c3, show ¬ (d[i].2.1 < n) by omega]
    by_cases c4 : 0 ≤ d[i].2.2 ∧ d[i].2.2 ≤ 63
    · have c : (0 ≤ d[i].1 ∧ d[i].1 < d[i].2.1 ∧ d[i].2.1 < n ∧ 0 ≤ d[i].2.2 ∧ d[i].2.2 ≤ 63) := ⟨by omega, by omega, by omega, c4⟩
      rcases Nat.eq_zero_or_pos i with rfl | hp
      · simp [c1, c2, c3, c4, c]
      · have e1 : w64 ((i : Int) - 1) = ((i - 1 : Nat) : Int) := by rw [w64_id (by omega) (by omega)]; omega
        have hi1 : i - 1 < d.length := by omega
        obtain ⟨cc, hc1, hc2, _⟩ := compareDoors_eq hk d[i - 1] d[i]
        have hp' : (i : Int) > 0 := by omega
        have hne : ¬ i = 0 := by omega
        simp only [c1, c2, c3, c4, decide_false, Bool.false_eq_true, if_false, decide_true, Bool.not_true, hp', if_true, e1, rdl_lt hi1, Option.bind_some, hc1, c, hne, Bool.true_and, Bool.false_or, and_self]
        by_cases hlt : DoorLt d[i - 1] d[i]
        · have : ¬ cc ≥ 0 := fun h => hc2.1 h hlt
          simp [hlt, this]
        · have : cc ≥ 0 := hc2.2 hlt
          simp [hlt, this]
    · simp [c1, c2, c3, c4, show ¬ (0 ≤ d[i].1 ∧ d[i].1 < d[i].2.1 ∧ d[i].2.1 < n ∧ 0 ≤ d[i].2.2 ∧ d[i].2.2 ≤ 63) from fun h => c4 h.2.2.2])
    (fun m => by rw [impl_IsMaze.l0]; simp) (k := k) (by unfold Big at hk; omega)
  rw [hloop, containsFunc_eq hk ks hl _ (fun x => !decide (0 ≤ x ∧ x ≤ 63)) (fun x _ => by simp [impl_IsMaze_1.f, isSet_eq]), within_eq]
  have hset : (∀ i, i < ks.length → setB ks i = true) ↔ ks.any (fun x => !decide (0 ≤ x ∧ x ≤ 63)) = false := by
    rw [List.any_eq_false]
    constructor
    · intro H x hx
      obtain ⟨i, hi, rfl⟩ := List.getElem_of_mem hx
      have := H i hi; simpa [setB, hi] using this
    · intro H i hi
      have := H _ (List.getElem_mem hi); simpa [setB, hi] using this
  simp only [Option.bind_some, Lr_ite]
  by_cases c1 : 1 ≤ n ∧ n ≤ 12
  rotate_left 1
  · have : ¬ IsMaze n d ks := fun h => c1 ⟨h.1, h.2.1⟩
    simp [c1, this]
  by_cases c2 : (d.length : Int) > 30
  · have : ¬ IsMaze n d ks := fun h => by have := h.2.2.1; omega
    simp [c1, c2, this]
  by_cases c3 : (ks.length : Int) = n
  rotate_left 1
  · have : ¬ IsMaze n d ks := fun h => c3 h.2.2.2.1
    simp [c1, c2, c3, this]
  by_cases c4 : ∀ i, i < d.length → doorB n d i = true
  rotate_left 1
  · have : ¬ IsMaze n d ks := fun h => c4 h.2.2.2.2.1
    simp only [c1, c2, c3, c4, this, decide_true, Bool.not_true, Bool.false_eq_true, if_false, decide_false, bne_self_eq_false, Option.bind_some, and_self]
  cases c5 : ks.any (fun x => !decide (0 ≤ x ∧ x ≤ 63)) with
  | true =>
    have : ¬ IsMaze n d ks := fun h => by have := hset.1 h.2.2.2.2.2; rw [c5] at this; cases this
    simp only [c1, c2, c3, c4, this, decide_true, Bool.not_true, Bool.false_eq_true, if_false, decide_false, bne_self_eq_false, Option.bind_some, and_self, if_true]
    simp
  | false =>
    have : IsMaze n d ks := ⟨c1.1, c1.2, by omega, c3, c4, hset.2 c5⟩
    simp only [c1, c2, c3, c4, this, decide_true, Bool.not_true, Bool.false_eq_true, if_false, decide_false, bne_self_eq_false, Option.bind_some, and_self, if_true]
    simp; exact c4
theorem l2Maze_eq (hk : Big ≤ k) (n : Int) (d : List Door) (ks : List Int) (hd : d.length ≤ 1048576) (hl : ks.length ≤ 1048576) : spec_l2Maze.f k n d ks = some (decide (IsMaze n d ks)) := by
  unfold spec_l2Maze.f
  rw [in_eq]
  by_cases c1 : 1 ≤ n ∧ n ≤ 12
  rotate_left 1
  · have : ¬ IsMaze n d ks := fun h => c1 ⟨h.1, h.2.1⟩
    simp [c1, this]
  by_cases c2 : (d.length : Int) > 30
  · have : ¬ IsMaze n d ks := fun h => by have := h.2.2.1; omega
    simp [c1, c2, this]
  by_cases c3 : (ks.length : Int) = n
  rotate_left 1
  · have : ¬ IsMaze n d ks := fun h => c3 h.2.2.2.1
    simp [c1, c2, c3, this]
  have e0 : w64 (n - 1) = n - 1 := w64_id (by omega) (by omega)
  have hloop := loop_all (l := spec_l2Maze.l0 k n d) (N := d.length) (doorB n d) (z := false) (fun m i hi => by
    rw [spec_l2Maze.l0]
    have h1 : ((i : Int) < (d.length : Int)) := by omega
    have hw : w64 ((i : Int) + 1) = ((i + 1 : Nat) : Int) := w64_id (by omega) (by omega)
    simp only [h1, decide_true, if_true, rdl_lt hi, Option.bind_some, hw, l2Set_eq, in_eq, e0]
    unfold doorB DoorOk
    rw [dif_pos hi]
    by_cases b1 : 0 ≤ d[i].1 ∧ d[i].1 ≤ n - 1
    rotate_left 1
    · have nn : ¬ (0 ≤ d[i].1 ∧ d[i].1 < d[i].2.1 ∧ d[i].2.1 < n ∧ 0 ≤ d[i].2.2 ∧ d[i].2.2 ≤ 63) := fun h => b1 ⟨h.1, by omega⟩
      rw [decide_eq_false nn]
      simp only [b1, decide_true, decide_false, Bool.not_true, Bool.not_false, Bool.false_eq_true, if_false, if_true, Bool.false_and, and_self, Option.bind_some]
    have e1 : w64 (d[i].1 + 1) = d[i].1 + 1 := w64_id (by omega) (by omega)
    rw [e1]
    by_cases b2 : d[i].1 + 1 ≤ d[i].2.1 ∧ d[i].2.1 ≤ n - 1
    rotate_left 1
    · have nn : ¬ (0 ≤ d[i].1 ∧ d[i].1 < d[i].2.1 ∧ d[i].2.1 < n ∧ 0 ≤ d[i].2.2 ∧ d[i].2.2 ≤ 63) := fun h => b2 ⟨by omega, by omega⟩
      rw [decide_eq_false nn]
      simp only [b1, b2, decide_true, decide_false, Bool.not_true, Bool.not_false, Bool.false_eq_true, if_false, if_true, Bool.false_and, and_self, Option.bind_some]
    by_cases b3 : 0 ≤ d[i].2.2 ∧ d[i].2.2 ≤ 63
    rotate_left 1
    · have nn : ¬ (0 ≤ d[i].1 ∧ d[i].1 < d[i].2.1 ∧ d[i].2.1 < n ∧ 0 ≤ d[i].2.2 ∧ d[i].2.2 ≤ 63) := fun h => b3 h.2.2.2
      rw [decide_eq_false nn]
      simp only [b1, b2, b3, decide_true, decide_false, Bool.not_true, Bool.not_false, Bool.false_eq_true, if_false, if_true, Bool.false_and, and_self, Option.bind_some]
    have c : (0 ≤ d[i].1 ∧ d[i].1 < d[i].2.1 ∧ d[i].2.1 < n ∧ 0 ≤ d[i].2.2 ∧ d[i].2.2 ≤ 63) := ⟨by omega, by omega, by omega, b3⟩
    rcases Nat.eq_zero_or_pos i with rfl | hp
    · simp [b1, b2, b3, c]
    · have e2 : w64 ((i : Int) - 1) = ((i - 1 : Nat) : Int) := by rw [w64_id (by omega) (by omega)]; omega
      have hi1 : i - 1 < d.length := by omega
      have hp' : (i : Int) > 0 := by omega
      have hne : ¬ i = 0 := by omega
      simp only [b1, b2, b3, decide_false, Bool.false_eq_true, if_false, decide_true, Bool.not_true, hp', if_true, e2, rdl_lt hi1, Option.bind_some, before_eq hk, c, hne, Bool.true_and, Bool.false_or, and_self]
      by_cases hlt : DoorLt d[i - 1] d[i] <;> simp [hlt])
    (fun m => by rw [spec_l2Maze.l0]; simp) (k := k) (by unfold Big at hk; omega)
  have hn : (ks.length : Int) = n := c3
  have hloop2 := loop_all (l := spec_l2Maze.l1 k n ks) (N := ks.length) (setB ks) (z := false) (fun m i hi => by
    rw [spec_l2Maze.l1]
    have h1 : ((i : Int) < n) := by omega
    have hw : w64 ((i : Int) + 1) = ((i + 1 : Nat) : Int) := w64_id (by omega) (by omega)
    simp only [h1, decide_true, if_true, rdl_lt hi, Option.bind_some, hw, l2Set_eq, setB, hi, dite_true]
    by_cases hs : 0 ≤ ks[i] ∧ ks[i] ≤ 63 <;> simp [hs])
    (fun m => by rw [spec_l2Maze.l1]; simp [hn]) (k := k) (by unfold Big at hk; omega)
  rw [hloop, hloop2]
  simp only [Option.bind_some, Lr_ite]
  by_cases c4 : ∀ i, i < d.length → doorB n d i = true
  rotate_left 1
  · have : ¬ IsMaze n d ks := fun h => c4 h.2.2.2.2.1
    simp only [c1, c2, c3, c4, this, decide_true, Bool.not_true, Bool.false_eq_true, if_false, decide_false, bne_self_eq_false, Option.bind_some, and_self]
  by_cases c5 : ∀ i, i < ks.length → setB ks i = true
  · have : IsMaze n d ks := ⟨c1.1, c1.2, by omega, c3, c4, c5⟩
    simp only [c1, c2, c3, this, decide_true, Bool.not_true, Bool.false_eq_true, if_false, decide_false, bne_self_eq_false, Option.bind_some, and_self, if_true]
    rw [if_pos c4, if_pos c5]
  · have : ¬ IsMaze n d ks := fun h => c5 h.2.2.2.2.2
    simp only [c1, c2, c3, this, decide_true, Bool.not_true, Bool.false_eq_true, if_false, decide_false, bne_self_eq_false, Option.bind_some, and_self, if_true]
    rw [if_pos c4, if_neg c5]
end
end Go.Proofs

/- Plain laws: D -/
namespace Go.Proofs
open Go Go.Ga Go.Ga.Wf
set_option linter.unusedVariables false
set_option linter.unusedSimpArgs false
section
variable {k : Nat}
def risingB (lo hi : Int) (l : List Int) (i : Nat) : Bool := if h : i < l.length then decide (lo ≤ l[i] ∧ l[i] ≤ hi) && (decide (i = 0) || decide (l[i - 1] < l[i])) else true
theorem rising_eq (hk : Big ≤ k) (l : List Int) (lo hi : Int) (hl : l.length ≤ 1048576) : spec_l1Rising.f k l lo hi = some (decide (∀ i, i < l.length → risingB lo hi l i = true)) := by
  unfold spec_l1Rising.f
  rw [loop_all (l := spec_l1Rising.l0 k l lo hi) (N := l.length) (risingB lo hi l) (z := false) (fun m i hi' => by
    rw [spec_l1Rising.l0]
    have h1 : ((i : Int) < (l.length : Int)) := by omega
    have hw : w64 ((i : Int) + 1) = ((i + 1 : Nat) : Int) := w64_id (by omega) (by omega)
    simp only [h1, decide_true, if_true, rdl_lt hi', Option.bind_some, hw, in_eq]
    unfold risingB
    rw [dif_pos hi']
    by_cases c : lo ≤ l[i] ∧ l[i] ≤ hi
    rotate_left 1
    · simp [c]
    rcases Nat.eq_zero_or_pos i with rfl | hp
    · simp [c]
    · have e1 : w64 ((i : Int) - 1) = ((i - 1 : Nat) : Int) := by rw [w64_id (by omega) (by omega)]; omega
      have hi1 : i - 1 < l.length := by omega
      have hp' : (i : Int) > 0 := by omega
      have hne : ¬ i = 0 := by omega
      simp only [c, decide_true, Bool.not_true, Bool.false_eq_true, if_false, hp', if_true, e1, rdl_lt hi1, Option.bind_some, hne, decide_false, Bool.true_and, Bool.false_or, and_self]
      by_cases hlt : l[i - 1] < l[i]
      · simp [hlt, show ¬ (l[i - 1] ≥ l[i]) by omega]
      · simp [hlt, show (l[i - 1] ≥ l[i]) by omega])
    (fun m => by rw [spec_l1Rising.l0]; simp) (by unfold Big at hk; omega), Option.bind_some, Lr_ite]
  split <;> rename_i h <;> simp [h]
  exact h
def IsTrapP (n : Int) (d : List Door) (ks tr : List Int) : Prop := IsMaze n d ks ∧ ∀ i, i < tr.length → risingB 0 ((d.length : Int) - 1) tr i = true
instance (n : Int) (d : List Door) (ks tr : List Int) : Decidable (IsTrapP n d ks tr) := by unfold IsTrapP; infer_instance
theorem l11Trap_eq (hk : Big ≤ k) (n : Int) (d : List Door) (ks tr : List Int) (hd : d.length ≤ 1048576) (hl : ks.length ≤ 1048576) (ht : tr.length ≤ 1048576) : spec_l11Trap.f k n d ks tr = some (decide (IsTrapP n d ks tr)) := by
  unfold spec_l11Trap.f
  have e : w64 ((d.length : Int) - 1) = (d.length : Int) - 1 := w64_id (by omega) (by omega)
  rw [l2Maze_eq hk n d ks hd hl, e, rising_eq hk _ _ _ ht]
  by_cases c1 : IsMaze n d ks
  · by_cases c2 : ∀ i, i < tr.length → risingB 0 ((d.length : Int) - 1) tr i = true
    · have : IsTrapP n d ks tr := ⟨c1, c2⟩
      rw [decide_eq_true c1, decide_eq_true c2, decide_eq_true this]; rfl
    · have : ¬ IsTrapP n d ks tr := fun h => c2 h.2
      rw [decide_eq_true c1, decide_eq_false c2, decide_eq_false this]; rfl
  · have : ¬ IsTrapP n d ks tr := fun h => c1 h.1
    rw [decide_eq_false c1, decide_eq_false this]; rfl
theorem IsTrap_eq (hk : Big ≤ k) (n : Int) (d : List Door) (ks tr : List Int) (hd : d.length ≤ 1048576) (hl : ks.length ≤ 1048576) (ht : tr.length ≤ 1048576) : impl_IsTrap.f k n d ks tr = some (decide (IsTrapP n d ks tr)) := by
  unfold impl_IsTrap.f
  have e : w64 ((d.length : Int) - 1) = (d.length : Int) - 1 := w64_id (by omega) (by omega)
  rw [IsMaze_eq hk n d ks hd hl]
  rw [loop_all (l := impl_IsTrap.l0 k d tr) (N := tr.length) (risingB 0 ((d.length : Int) - 1) tr) (z := false) (fun m i hi' => by
    rw [impl_IsTrap.l0]
    have h1 : ((i : Int) < (tr.length : Int)) := by omega
    have hw : w64 ((i : Int) + 1) = ((i + 1 : Nat) : Int) := w64_id (by omega) (by omega)
    simp only [h1, decide_true, if_true, rdl_lt hi', Option.bind_some, hw, within_eq, e]
    unfold risingB
    rw [dif_pos hi']
    by_cases c : 0 ≤ tr[i] ∧ tr[i] ≤ (d.length : Int) - 1
    rotate_left 1
    · simp [c]
    rcases Nat.eq_zero_or_pos i with rfl | hp
    · simp [c]
    · have e1 : w64 ((i : Int) - 1) = ((i - 1 : Nat) : Int) := by rw [w64_id (by omega) (by omega)]; omega
      have hi1 : i - 1 < tr.length := by omega
      have hp' : (i : Int) > 0 := by omega
      have hne : ¬ i = 0 := by omega
      simp only [c, decide_true, Bool.not_true, Bool.false_eq_true, if_false, hp', if_true, e1, rdl_lt hi1, Option.bind_some, hne, decide_false, Bool.true_and, Bool.false_or, and_self]
      by_cases hlt : tr[i - 1] < tr[i]
      · simp [hlt, show ¬ (tr[i] ≤ tr[i - 1]) by omega]
      · simp [hlt, show (tr[i] ≤ tr[i - 1]) by omega])
    (fun m => by rw [impl_IsTrap.l0]; simp) (by unfold Big at hk; omega), Option.bind_some, Option.bind_some, Lr_ite]
  by_cases c1 : IsMaze n d ks
  · by_cases c2 : ∀ i, i < tr.length → risingB 0 ((d.length : Int) - 1) tr i = true
    · have : IsTrapP n d ks tr := ⟨c1, c2⟩
      rw [decide_eq_true c1, if_pos c2, decide_eq_true this]; rfl
    · have : ¬ IsTrapP n d ks tr := fun h => c2 h.2
      rw [decide_eq_true c1, if_neg c2, decide_eq_false this]; rfl
  · have : ¬ IsTrapP n d ks tr := fun h => c1 h.1
    rw [decide_eq_false c1, decide_eq_false this]; rfl
end
end Go.Proofs

/- Plain laws: E -/
namespace Go.Proofs
open Go Go.Ga Go.Ga.Wf
set_option linter.unusedVariables false
set_option linter.unusedSimpArgs false
section
variable {k : Nat}
/-- a door with its ends and its colours in bounds, for some node count of at most twelve -/
def Small (x : Door) : Prop := 0 ≤ x.1 ∧ x.1 < 12 ∧ 0 ≤ x.2.1 ∧ x.2.1 < 12 ∧ 0 ≤ x.2.2 ∧ x.2.2 ≤ 63
theorem IsMaze.small {n : Int} {d : List Door} {ks : List Int} (h : IsMaze n d ks) : ∀ x ∈ d, Small x := by
  intro x hx
  obtain ⟨i, hi, rfl⟩ := List.getElem_of_mem hx
  have h1 := h.2.2.2.2.1 i hi
  unfold doorB at h1
  rw [dif_pos hi, Bool.and_eq_true, decide_eq_true_eq] at h1
  have := h1.1; unfold DoorOk at this; unfold Small
  have := h.2.1
  omega
theorem IsMaze.keys {n : Int} {d : List Door} {ks : List Int} (h : IsMaze n d ks) : ∀ x ∈ ks, 0 ≤ x ∧ x ≤ 63 := by
  intro x hx
  obtain ⟨i, hi, rfl⟩ := List.getElem_of_mem hx
  have h1 := h.2.2.2.2.2 i hi
  simpa [setB, hi] using h1
/-- the door stands open to one who has h and leads from a to b -/
def goes (a b h : Int) (x : Door) : Bool := ((decide (x.1 = a) && decide (x.2.1 = b)) || (decide (x.2.1 = a) && decide (x.1 = b))) && subB x.2.2.toNat h.toNat
theorem has_eq (h c : Int) (hc : 0 ≤ c ∧ c ≤ 63) (hh : 0 ≤ h ∧ h ≤ 63) : impl_has.f k h c = some (subB c.toNat h.toNat) := by
  unfold impl_has.f
  obtain ⟨a, rfl⟩ := Int.eq_ofNat_of_zero_le hh.1
  obtain ⟨b, rfl⟩ := Int.eq_ofNat_of_zero_le hc.1
  rw [has_clr (by omega)]; rfl
theorem l2Has_eq (h c : Int) (hc : 0 ≤ c ∧ c ≤ 63) (hh : 0 ≤ h ∧ h ≤ 63) : spec_l2Has.f k h c = some (subB c.toNat h.toNat) := by
  unfold spec_l2Has.f
  obtain ⟨a, rfl⟩ := Int.eq_ofNat_of_zero_le hh.1
  obtain ⟨b, rfl⟩ := Int.eq_ofNat_of_zero_le hc.1
  rw [has_and (by omega) (by omega)]; rfl
end
end Go.Proofs

/- Plain laws: F -/
namespace Go.Proofs
open Go Go.Ga Go.Ga.Wf
set_option linter.unusedVariables false
set_option linter.unusedSimpArgs false
section
variable {k : Nat}
theorem szo_pos {a : Nat} (h : (a : Int) ≤ 1048576) : decide (szo 1048576 a < 0) = false := by unfold szo; rw [if_pos h]; simp; omega
theorem szo_neg {a : Nat} (h : ¬ (a : Int) ≤ 1048576) : decide (szo 1048576 a < 0) = true := by unfold szo; rw [if_neg h]; rfl
end
end Go.Proofs

/- Plain laws: G -/
namespace Go.Proofs
open Go Go.Ga Go.Ga.Wf
set_option linter.unusedVariables false
set_option linter.unusedSimpArgs false
section
variable {k : Nat}
def ups (m : Int) (n : Nat) : List Int := (List.range n).map fun i => m + (i : Nat)
def ups3 (m : Int) (n : Nat) : List Door := (List.range n).map fun i => (m + 3 * (i : Nat), m + 3 * (i : Nat) + 1, m + 3 * (i : Nat) + 2)
theorem ups_length (m : Int) (n : Nat) : (ups m n).length = n := by simp [ups]
theorem ups3_length (m : Int) (n : Nat) : (ups3 m n).length = n := by simp [ups3]
theorem ups_get {m : Int} {n i : Nat} (h : i < n) : (ups m n)[i]'(by rw [ups_length]; exact h) = m + i := by simp [ups]
theorem markIntS_eq (hk : Big ≤ k) (l : List Int) (m : Int) (h0 : 0 ≤ m) (hm : m ≤ 1073741824) (hl : l.length ≤ 1048576) : laws_markIntS.f k l m = some (m + l.length, ups m l.length) := by
  unfold laws_markIntS.f
  have := loop_state (l := fun n (s : List Int × Int) i => laws_markIntS.l0 k n s.1 s.2 i) (N := l.length) (g := fun i s => (s.1.set i s.2, s.2 + 1)) (out := fun s => some (s.2, s.1))
    (fun i s => s.2 = m + i ∧ s.1.length = l.length ∧ ∀ j, j < i → s.1[j]? = some (m + (j : Nat))) (fun n i s hi hI => by
      obtain ⟨h1, h2, h3⟩ := hI
      have e1 : ((i : Int) < (s.1.length : Int)) := by omega
      have hw : w64 ((i : Int) + 1) = ((i + 1 : Nat) : Int) := w64_id (by omega) (by omega)
      have hw2 : w64 (s.2 + 1) = s.2 + 1 := w64_id (by omega) (by omega)
      refine ⟨?_, ?_, ?_, ?_⟩
      · show laws_markIntS.l0 k (n + 1) s.1 s.2 (i : Int) = _
        rw [laws_markIntS.l0]
        simp only [e1, decide_true, if_true, rdl_lt (show i < s.1.length by omega), Option.bind_some, hw, hw2, Int.toNat_natCast]
      · show s.2 + 1 = _; rw [h1]; omega
      · simpa using h2
      · intro j hj
        show (s.1.set i s.2)[j]? = _
        rcases Nat.eq_or_lt_of_le (Nat.le_of_lt_succ hj) with rfl | h
        · rw [List.getElem?_set_self (by omega), h1]
        · rw [List.getElem?_set_ne (by omega)]; exact h3 j h)
    (fun n s hI => by
      show laws_markIntS.l0 k (n + 1) s.1 s.2 (l.length : Int) = _
      rw [laws_markIntS.l0, hI.2.1]; simp) (k := k) (by unfold Big at hk; omega) (s := (l, m)) ⟨by simp, rfl, fun j hj => by omega⟩
  obtain ⟨h1, h2, h3, h4⟩ := this
  simp only at h1
  rw [h1, Option.bind_some]
  have e : (itr (fun i (s : List Int × Int) => (s.1.set i s.2, s.2 + 1)) l.length 0 (l, m)).1 = ups m l.length := by
    refine List.ext_getElem? fun j => ?_
    rcases Nat.lt_or_ge j l.length with h | h
    · rw [h4 j h, List.getElem?_eq_getElem (by rw [ups_length]; exact h), ups_get h]
    · rw [List.getElem?_eq_none (by omega), List.getElem?_eq_none (by rw [ups_length]; exact h)]
  rw [e, h2]
theorem heldIntS_eq (hk : Big ≤ k) (n : Nat) (m : Int) (h0 : 0 ≤ m) (hm : m ≤ 1073741824) (hl : n ≤ 1048576) : laws_heldIntS.f k (ups m n) m = some (m + n) := by
  unfold laws_heldIntS.f
  have hlen := ups_length m n
  have := loop_exit (R := Int) (T := Int) (l := fun q (s : Int) i => laws_heldIntS.l0 k (ups m n) q s i) (N := n) (g := fun _ s => .inl (s + 1)) (out := fun s => some (.inl s)) (fun i s => s = m + i) (fun q i s hi hI => by
      left
      have e1 : ((i : Int) < ((ups m n).length : Int)) := by omega
      have hw : w64 ((i : Int) + 1) = ((i + 1 : Nat) : Int) := w64_id (by omega) (by omega)
      have hw2 : w64 (s + 1) = s + 1 := w64_id (by omega) (by omega)
      refine ⟨_, rfl, ?_, by omega⟩
      rw [laws_heldIntS.l0]
      simp only [e1, decide_true, if_true, rdl_lt (show i < (ups m n).length by omega), ups_get hi, Option.bind_some, hI, bne_self_eq_false, Bool.false_eq_true, if_false, hw]
      rw [← hI, hw2])
    (fun q s hI => by rw [laws_heldIntS.l0, hlen]; simp) (k := k) (by unfold Big at hk; omega) (s := m) (by simp)
  rw [this]
  have e : ∀ p i s, itx (R := Int) (fun _ (s : Int) => .inl (s + 1)) p i s = .inl (s + p) := by
    intro p
    induction p with
    | zero => intro i s; simp [itx]
    | succ p ih => intro i s; simp only [itx]; rw [ih]; congr 1; omega
  rw [e]
  rfl
theorem rdl_set {α : Type} {l : List α} {i : Nat} {x : α} (h : i < l.length) : rdl (l.set i x) (i : Int) = some x := by
  rw [rdl_lt (by simpa using h)]; simp
theorem markA3_l1 (hk : Big ≤ k) (l : List Door) (i : Nat) (hi : i < l.length) (m : Int) (h0 : 0 ≤ m) (hm : m ≤ 2147483648) : laws_markIntA3S.l1 k (i : Int) k l m 0 = some (l.set i (m, m + 1, m + 2), m + 3) := by
  obtain ⟨n, rfl⟩ := big_split hk
  have w1 : w64 (m + 1) = m + 1 := w64_id (by omega) (by omega)
  have w2 : w64 (m + 1 + 1) = m + 2 := by rw [w64_id (by omega) (by omega)]; omega
  have w3 : w64 (m + 2 + 1) = m + 3 := by rw [w64_id (by omega) (by omega)]; omega
  simp [laws_markIntA3S.l1, w64_1, w64_2, w64_3, rdl3_0, rdl3_1, rdl3_2, rdl_lt hi, rdl_set hi, w1, w2, w3, List.set_set]
theorem ups3_get {m : Int} {n i : Nat} (h : i < n) : (ups3 m n)[i]'(by rw [ups3_length]; exact h) = (m + 3 * (i : Nat), m + 3 * (i : Nat) + 1, m + 3 * (i : Nat) + 2) := by simp [ups3]
theorem markIntA3S_eq (hk : Big ≤ k) (l : List Door) (m : Int) (h0 : 0 ≤ m) (hm : m ≤ 1073741824) (hl : l.length ≤ 1048576) : laws_markIntA3S.f k l m = some (m + 3 * l.length, ups3 m l.length) := by
  unfold laws_markIntA3S.f
  have := loop_state (l := fun n (s : List Door × Int) i => laws_markIntA3S.l0 k n s.1 s.2 i) (N := l.length) (g := fun i s => (s.1.set i (s.2, s.2 + 1, s.2 + 2), s.2 + 3)) (out := fun s => some (s.2, s.1))
    (fun i s => s.2 = m + 3 * i ∧ s.1.length = l.length ∧ ∀ j, j < i → s.1[j]? = some (m + 3 * (j : Nat), m + 3 * (j : Nat) + 1, m + 3 * (j : Nat) + 2)) (fun n i s hi hI => by
      obtain ⟨h1, h2, h3⟩ := hI
      have e1 : ((i : Int) < (s.1.length : Int)) := by omega
      have hw : w64 ((i : Int) + 1) = ((i + 1 : Nat) : Int) := w64_id (by omega) (by omega)
      refine ⟨?_, ?_, ?_, ?_⟩
      · show laws_markIntA3S.l0 k (n + 1) s.1 s.2 (i : Int) = _
        rw [laws_markIntA3S.l0]
        simp only [e1, decide_true, if_true, markA3_l1 hk s.1 i (by omega) s.2 (by omega) (by omega), Option.bind_some, hw]
      · show s.2 + 3 = _; rw [h1]; omega
      · simpa using h2
      · intro j hj
        show (s.1.set i (s.2, s.2 + 1, s.2 + 2))[j]? = _
        rcases Nat.eq_or_lt_of_le (Nat.le_of_lt_succ hj) with rfl | h
        · rw [List.getElem?_set_self (by omega), h1]
        · rw [List.getElem?_set_ne (by omega)]; exact h3 j h)
    (fun n s hI => by
      show laws_markIntA3S.l0 k (n + 1) s.1 s.2 (l.length : Int) = _
      rw [laws_markIntA3S.l0, hI.2.1]; simp) (k := k) (by unfold Big at hk; omega) (s := (l, m)) ⟨by simp, rfl, fun j hj => by omega⟩
  obtain ⟨h1, h2, h3, h4⟩ := this
  simp only at h1
  rw [h1, Option.bind_some]
  have e : (itr (fun i (s : List Door × Int) => (s.1.set i (s.2, s.2 + 1, s.2 + 2), s.2 + 3)) l.length 0 (l, m)).1 = ups3 m l.length := by
    refine List.ext_getElem? fun j => ?_
    rcases Nat.lt_or_ge j l.length with h | h
    · rw [h4 j h, List.getElem?_eq_getElem (by rw [ups3_length]; exact h), ups3_get h]
    · rw [List.getElem?_eq_none (by omega), List.getElem?_eq_none (by rw [ups3_length]; exact h)]
  rw [e, h2]
theorem markMaze_eq (hk : Big ≤ k) (n : Int) (d : List Door) (ks : List Int) (m : Int) (h0 : 0 ≤ m) (hm : m ≤ 536870912) (hd : d.length ≤ 1048576) (hl : ks.length ≤ 1048576) :
    laws_markMaze.f k n d ks m = some (m + 3 * d.length + ks.length, ups3 m d.length, ups (m + 3 * d.length) ks.length) := by
  unfold laws_markMaze.f
  rw [markIntA3S_eq hk d m h0 (by omega) hd, Option.bind_some]
  simp only [markIntS_eq hk ks (m + 3 * d.length) (by omega) (by omega) hl, Option.bind_some]
end
end Go.Proofs

/- Plain laws: H -/
namespace Go.Proofs
open Go Go.Ga Go.Ga.Wf
/-! loops that go on as long as there is something to do -/
theorem loop_res {S β : Type} {l : Nat → S → Option β} (Inv : S → Prop) (mu : S → Nat) (res : S → β)
    (hs : ∀ n s, Inv s → (∃ s', l (n + 1) s = l n s' ∧ res s' = res s ∧ Inv s' ∧ mu s' < mu s) ∨ l (n + 1) s = some (res s)) : ∀ k s, mu s < k → Inv s → l k s = some (res s) := by
  intro k
  induction k with
  | zero => intro s h; omega
  | succ k ih =>
    intro s h hI
    rcases hs k s hI with ⟨s', h1, h2, h3, h4⟩ | h1
    · rw [h1, ih s' (by omega) h3, h2]
    · exact h1
theorem loop_good {S β : Type} {l : Nat → S → Option β} (Inv : S → Prop) (mu : S → Nat) (Good : β → Prop)
    (hs : ∀ n s, Inv s → (∃ s', l (n + 1) s = l n s' ∧ Inv s' ∧ mu s' < mu s) ∨ (∃ r, l (n + 1) s = some r ∧ Good r)) : ∀ k s, mu s < k → Inv s → ∃ r, l k s = some r ∧ Good r := by
  intro k
  induction k with
  | zero => intro s h; omega
  | succ k ih =>
    intro s h hI
    rcases hs k s hI with ⟨s', h1, h3, h4⟩ | h1
    · obtain ⟨r, h5, h6⟩ := ih s' (by omega) h3
      exact ⟨r, by rw [h1, h5], h6⟩
    · exact h1
/-- the digits that stand, ascending -/
def upto (m n : Nat) : List Int := ((List.range n).filter fun t => m.testBit t).map fun (t : Nat) => (t : Int)
theorem upto_succ (m n : Nat) : upto m (n + 1) = upto m n ++ (if m.testBit n = true then [(n : Int)] else []) := by
  unfold upto
  rw [List.range_succ, List.filter_append, List.map_append]
  congr 1
  by_cases h : m.testBit n = true <;> simp [h]
theorem upto_more {m n n' : Nat} (hm : m < 2 ^ n) (h : n ≤ n') : upto m n' = upto m n := by
  induction n' with
  | zero => have : n = 0 := by omega
            rw [this]
  | succ n' ih =>
    rcases Nat.eq_or_lt_of_le h with h | h
    · rw [h]
    · rw [upto_succ, ih (by omega), Nat.testBit_lt_two_pow (Nat.lt_of_lt_of_le hm (Nat.pow_le_pow_right (by omega) (by omega)))]; simp
theorem upto_length (m n : Nat) : (upto m n).length ≤ n := by
  unfold upto
  rw [List.length_map]
  exact Nat.le_trans (List.length_filter_le _ _) (by simp)
/-! what is reached -/
inductive Rch (d : List Door) (h x : Int) : Int → Prop
  | here : Rch d h x x
  | step {y z : Int} : Rch d h x y → d.any (goes y z h) = true → Rch d h x z
theorem goes_small {d : List Door} (hs : ∀ x ∈ d, Small x) {y z h : Int} (hg : d.any (goes y z h) = true) : (0 ≤ y ∧ y < 12) ∧ 0 ≤ z ∧ z < 12 := by
  obtain ⟨x, hx, hg⟩ := List.any_eq_true.1 hg
  have sm := hs x hx
  unfold Small at sm
  unfold goes at hg
  simp only [Bool.and_eq_true, Bool.or_eq_true, decide_eq_true_eq] at hg
  omega
theorem Rch.small {d : List Door} (hs : ∀ x ∈ d, Small x) {h x z : Int} (hx : 0 ≤ x ∧ x < 12) (hr : Rch d h x z) : 0 ≤ z ∧ z < 12 := by
  cases hr with
  | here => exact hx
  | step _ hg => exact (goes_small hs hg).2
/-! doors and keys within bounds -/
def DoorIn (n : Int) (x : Door) : Prop := 0 ≤ x.1 ∧ x.1 < n ∧ 0 ≤ x.2.1 ∧ x.2.1 < n ∧ 0 ≤ x.2.2 ∧ x.2.2 ≤ 63
structure Okm (n : Int) (d : List Door) (ks : List Int) : Prop where
  lo : 1 ≤ n
  hi : n ≤ 12
  few : d.length ≤ 1048576
  len : (ks.length : Int) = n
  doors : ∀ x ∈ d, DoorIn n x
  keys : ∀ x ∈ ks, 0 ≤ x ∧ x ≤ 63
theorem IsMaze.okm {n : Int} {d : List Door} {ks : List Int} (h : IsMaze n d ks) : Okm n d ks where
  lo := h.1
  hi := h.2.1
  few := by have := h.2.2.1; omega
  len := h.2.2.2.1
  doors := fun x hx => by
    obtain ⟨i, hi, rfl⟩ := List.getElem_of_mem hx
    have h1 := h.2.2.2.2.1 i hi
    unfold doorB at h1
    rw [dif_pos hi, Bool.and_eq_true, decide_eq_true_eq] at h1
    have := h1.1; unfold DoorOk at this; unfold DoorIn
    omega
  keys := h.keys
theorem Okm.small {n : Int} {d : List Door} {ks : List Int} (h : Okm n d ks) : ∀ x ∈ d, Small x := fun x hx => by
  have h1 := h.doors x hx
  have h2 := h.hi
  unfold DoorIn at h1; unfold Small
  omega
/-! what one has -/
theorem bor_le63 {a b : Int} (ha : 0 ≤ a ∧ a ≤ 63) (hb : 0 ≤ b ∧ b ≤ 63) : (0 ≤ bor a b ∧ bor a b ≤ 63) ∧ a ≤ bor a b := by
  obtain ⟨x, rfl⟩ := Int.eq_ofNat_of_zero_le ha.1
  obtain ⟨y, rfl⟩ := Int.eq_ofNat_of_zero_le hb.1
  have e : bor (x : Int) (y : Int) = ((x ||| y : Nat) : Int) := bor_nat (by omega) (by omega)
  have h1 : x ||| y < 64 := Nat.or_lt_two_pow (n := 6) (by omega) (by omega)
  have h2 : x ≤ x ||| y := Nat.left_le_or
  rw [e]; omega
theorem keys_getD {ks : List Int} (hk : ∀ x ∈ ks, 0 ≤ x ∧ x ≤ 63) (i : Nat) : 0 ≤ ks.getD i 0 ∧ ks.getD i 0 ≤ 63 := by
  by_cases h : i < ks.length
  · rw [List.getD_eq_getElem?_getD, List.getElem?_eq_getElem h]; exact hk _ (List.getElem_mem h)
  · rw [List.getD_eq_getElem?_getD, List.getElem?_eq_none (by omega)]; simp
end Go.Proofs

/- Plain laws: I -/
namespace Go.Proofs
open Go Go.Ga Go.Ga.Wf
set_option linter.unusedVariables false
set_option linter.unusedSimpArgs false
section
variable {k : Nat}
/-! a trap -/
theorem szTrap_eq (n : Int) (d : List Door) (ks tr : List Int) (m : Int) (h0 : 0 ≤ m) (hm : m ≤ 1048576) (h1 : d.length ≤ maxLen) (h2 : ks.length ≤ maxLen) (h3 : tr.length ≤ maxLen) :
    laws_szTrap.f k n d ks tr m = some (szo m (d.length + ks.length + tr.length)) := by
  unfold laws_szTrap.f
  rw [szMaze_eq n d ks _ h0 hm h1 h2, Option.bind_some, ← szo_add]
  by_cases hc : szo m (d.length + ks.length) < 0
  · simp [hc]
  · rw [szIntS_eq tr _ (by omega) (szo_range (by omega) (by omega)).2 h3]
theorem toTrap_eq (hk : Big ≤ k) (n : Int) (d : List Door) (ks tr : List Int) (hd : d.length ≤ 1048576) (hks : ks.length ≤ 1048576) (hl : tr.length ≤ 1048576) : laws_toTrap.f k n d ks tr = some (n, d, ks, tr) := by
  unfold laws_toTrap.f
  rw [toMaze_eq hk n d ks hd hks, Option.bind_some, toIntS_eq hk tr hl]; rfl
theorem eqTrap_eq (hk : Big ≤ k) (n : Int) (d : List Door) (ks tr : List Int) (n' : Int) (d' : List Door) (ks' tr' : List Int) (hd : d.length ≤ 1048576) (hks : ks.length ≤ 1048576) (hl : tr.length ≤ 1048576) :
    laws_eqTrap.f k n d ks tr n' d' ks' tr' = some (decide ((n, d, ks, tr) = (n', d', ks', tr'))) := by
  unfold laws_eqTrap.f
  rw [eqMaze_eq hk n n' d d' ks ks' hd hks, eqIntS_eq hk tr tr' hl]
  by_cases h1 : (n, d, ks) = (n', d', ks')
  · by_cases h2 : tr = tr' <;> simp_all
  · have : ¬ (n, d, ks, tr) = (n', d', ks', tr') := by
      intro e; simp only [Prod.mk.injEq] at e h1; exact h1 ⟨e.1, e.2.1, e.2.2.1⟩
    rw [decide_eq_false h1, decide_eq_false this]; rfl
theorem markTrap_eq (hk : Big ≤ k) (n : Int) (d : List Door) (ks tr : List Int) (m : Int) (h0 : 0 ≤ m) (hm : m ≤ 268435456) (hd : d.length ≤ 1048576) (hks : ks.length ≤ 1048576) (hl : tr.length ≤ 1048576) :
    laws_markTrap.f k n d ks tr m = some (m + 3 * d.length + ks.length + tr.length, ups3 m d.length, ups (m + 3 * d.length) ks.length, ups (m + 3 * d.length + ks.length) tr.length) := by
  unfold laws_markTrap.f
  rw [markMaze_eq hk n d ks m h0 (by omega) hd hks, Option.bind_some]
  simp only [markIntS_eq hk tr (m + 3 * d.length + ks.length) (by omega) (by omega) hl, Option.bind_some]
end
end Go.Proofs

/- Plain laws: J -/
namespace Go.Proofs
open Go Go.Ga Go.Ga.Wf
set_option linter.unusedVariables false
set_option linter.unusedSimpArgs false
section
variable {k : Nat}
/-- the door at place i leads from a to b for one who has h -/
def goesT (tr : List Int) (a b h : Int) (i : Nat) (x : Door) : Bool := ((decide (x.1 = a) && decide (x.2.1 = b)) || (decide (x.2.1 = a) && decide (x.1 = b) && !tr.contains (i : Int))) && subB x.2.2.toNat h.toNat
def anyT (d : List Door) (tr : List Int) (a b h : Int) (m : Nat) : Bool := (List.range m).any fun i => match d[i]? with | some x => goesT tr a b h i x | none => false
theorem anyT_succ (d : List Door) (tr : List Int) (a b h : Int) (m : Nat) (hm : m < d.length) : anyT d tr a b h (m + 1) = (anyT d tr a b h m || goesT tr a b h m d[m]) := by
  unfold anyT
  rw [List.range_succ, List.any_append]
  simp [List.getElem?_eq_getElem hm]
theorem l1Has_eq (hk : Big ≤ k) (l : List Int) (x : Int) (hl : l.length ≤ 1048576) : spec_l1Has.f k l x = some (l.contains x) := by
  unfold spec_l1Has.f
  rw [loop_all (l := spec_l1Has.l0 k l x) (N := l.length) (fun i => if h : i < l.length then l[i] != x else true) (z := true) (fun n i hi => by
    rw [spec_l1Has.l0]
    have h1 : ((i : Int) < (l.length : Int)) := by omega
    have hw : w64 ((i : Int) + 1) = ((i + 1 : Nat) : Int) := w64_id (by omega) (by omega)
    simp only [h1, decide_true, if_true, rdl_lt hi, Option.bind_some, hi, dite_true, hw]
    cases h3 : l[i] == x <;> simp [bne, h3]) (fun n => by
    rw [spec_l1Has.l0]; simp) (k := k) (by unfold Big at hk; omega)]
  simp only [Option.bind_some, Lr_ite]
  by_cases h : x ∈ l
  · have hc : l.contains x = true := by simpa using h
    rw [hc, if_neg]
    intro H
    obtain ⟨i, hi, rfl⟩ := List.getElem_of_mem h
    have := H i hi; simp [hi] at this
  · have hc : l.contains x = false := by simpa using h
    rw [hc, if_pos]
    intro i hi
    simp only [hi, dite_true, bne_iff_ne, ne_eq]
    intro e; exact h (e ▸ List.getElem_mem hi)
theorem index_eq (hk : Big ≤ k) (l : List Int) (x : Int) (hl : l.length ≤ 1048576) : ∃ r, slices_Index_int_int.f k l x = some r ∧ ((x ∈ l ∧ 0 ≤ r ∧ r.toNat < l.length ∧ l[r.toNat]? = some x ∧ ∀ j, j < r.toNat → l[j]? ≠ some x) ∨ (x ∉ l ∧ r = -1)) := by
  unfold slices_Index_int_int.f
  rw [loop_find (l := slices_Index_int_int.l0 k l x) (N := l.length) (fun (i : Nat) => if l[i]? = some x then some (i : Int) else none) (z := .inl ()) (fun n i hi => by
    rw [slices_Index_int_int.l0]
    have h1 : ((i : Int) < (l.length : Int)) := by omega
    have hw : w64 ((i : Int) + 1) = ((i + 1 : Nat) : Int) := w64_id (by omega) (by omega)
    simp only [h1, decide_true, if_true, rdl_lt hi, Option.bind_some, hw, List.getElem?_eq_getElem hi, Option.some.injEq]
    by_cases h3 : l[i] = x
    · simp [h3]
    · simp [h3, Ne.symm h3]) (fun n => by rw [slices_Index_int_int.l0]; simp) (k := k) (by unfold Big at hk; omega), Option.bind_some]
  cases hf : (List.range l.length).findSome? (fun (i : Nat) => if l[i]? = some x then some (i : Int) else none) with
  | none =>
    refine ⟨-1, rfl, .inr ⟨fun hx => ?_, rfl⟩⟩
    rw [List.findSome?_eq_none_iff] at hf
    obtain ⟨i, hi, rfl⟩ := List.getElem_of_mem hx
    have := hf i (List.mem_range.2 hi)
    simp [List.getElem?_eq_getElem hi] at this
  | some r =>
    have hmin : ∀ (N s : Nat), (List.range' s N).findSome? (fun (i : Nat) => if l[i]? = some x then some (i : Int) else none) = some r → ∃ m : Nat, r = (m : Int) ∧ s ≤ m ∧ m < s + N ∧ l[m]? = some x ∧ ∀ j, s ≤ j → j < m → l[j]? ≠ some x := by
      intro N
      induction N with
      | zero => intro s h; simp at h
      | succ N ih =>
        intro s h
        rw [List.range'_succ, List.findSome?_cons] at h
        by_cases hs : l[s]? = some x
        · rw [if_pos hs] at h; simp only [Option.some.injEq] at h
          exact ⟨s, h.symm, Nat.le_refl _, by omega, hs, fun j h1 h2 => by omega⟩
        · rw [if_neg hs] at h; simp only at h
          obtain ⟨m, h1, h2, h3, h4, h5⟩ := ih (s + 1) h
          exact ⟨m, h1, by omega, by omega, h4, fun j h6 h7 => by
            rcases Nat.eq_or_lt_of_le h6 with rfl | h8
            · exact hs
            · exact h5 j (by omega) h7⟩
    rw [List.range_eq_range'] at hf
    obtain ⟨m, rfl, _, h3, h4, h5⟩ := hmin _ _ hf
    exact ⟨_, rfl, .inl ⟨List.mem_of_getElem? h4, by omega, by omega, by simpa using h4, fun j hj => h5 j (by omega) (by omega)⟩⟩
theorem contains_eq (hk : Big ≤ k) (l : List Int) (x : Int) (hl : l.length ≤ 1048576) : slices_Contains_int_int.f k l x = some (l.contains x) := by
  unfold slices_Contains_int_int.f
  obtain ⟨r, h1, h2⟩ := index_eq hk l x hl
  rw [h1, Option.bind_some]
  rcases h2 with ⟨h3, h4, _⟩ | ⟨h3, rfl⟩
  · simp [h3, h4]
  · simp [h3]
theorem l11Goes_eq (hk : Big ≤ k) (n : Int) (d : List Door) (ks tr : List Int) (a b h : Int) (hd : d.length ≤ 1048576) (ht : tr.length ≤ 1048576) (hs : ∀ x ∈ d, Small x) (hh : 0 ≤ h ∧ h ≤ 63) : spec_l11Goes.f k n d ks tr a b h = some (anyT d tr a b h d.length) := by
  unfold spec_l11Goes.f
  rw [loop_all (l := spec_l11Goes.l0 k d tr a b h) (N := d.length) (fun i => if hi : i < d.length then !goesT tr a b h i d[i] else true) (z := true) (fun m i hi => by
    rw [spec_l11Goes.l0]
    have h1 : ((i : Int) < (d.length : Int)) := by omega
    have hw : w64 ((i : Int) + 1) = ((i + 1 : Nat) : Int) := w64_id (by omega) (by omega)
    have sm := hs _ (List.getElem_mem hi)
    unfold Small at sm
    simp only [h1, decide_true, if_true, rdl_lt hi, Option.bind_some, hw, l2Has_eq h d[i].2.2 (by omega) hh, hi, dite_true, l1Has_eq hk tr _ ht]
    unfold goesT
    cases subB d[i].2.2.toNat h.toNat
    · simp
    · by_cases c1 : d[i].1 = a <;> by_cases c2 : d[i].2.1 = b <;> by_cases c3 : d[i].1 = b <;> by_cases c4 : d[i].2.1 = a <;> cases tr.contains (i : Int) <;> simp_all)
    (fun m => by rw [spec_l11Goes.l0]; simp) (by unfold Big at hk; omega), Option.bind_some, Lr_ite]
  cases hc : anyT d tr a b h d.length with
  | true =>
    rw [if_neg]
    intro H
    unfold anyT at hc
    obtain ⟨i, hi, hg⟩ := List.any_eq_true.1 hc
    have hi := List.mem_range.1 hi
    rw [List.getElem?_eq_getElem hi] at hg
    have := H i hi
    simp only at hg
    simp [hi, hg] at this
  | false =>
    rw [if_pos]
    intro i hi
    unfold anyT at hc
    have := List.any_eq_false.1 hc i (List.mem_range.2 hi)
    rw [List.getElem?_eq_getElem hi] at this
    simp only at this
    simp [hi, this]
theorem trapSteps_eq (hk : Big ≤ k) (n : Int) (d : List Door) (ks tr : List Int) (a h : Int) (hd : d.length ≤ 1048576) (ht : tr.length ≤ 1048576) (hs : ∀ x ∈ d, Small x) (hh : 0 ≤ h ∧ h ≤ 63) :
    ∃ m : Nat, impl_trapSteps.f k n d ks tr a h = some (m : Int) ∧ m < 4096 ∧ ∀ t : Nat, m.testBit t = anyT d tr a (t : Int) h d.length := by
  unfold impl_trapSteps.f
  have := loop_good (l := fun q (s : Int × Nat) => impl_trapSteps.l0 k d tr a h q s.1 (s.2 : Int)) (fun s => s.2 ≤ d.length ∧ ∃ m : Nat, s.1 = (m : Int) ∧ m < 4096 ∧ ∀ t : Nat, m.testBit t = anyT d tr a (t : Int) h s.2) (fun s => d.length - s.2)
    (fun r => ∃ m : Nat, r = (m : Int) ∧ m < 4096 ∧ ∀ t : Nat, m.testBit t = anyT d tr a (t : Int) h d.length) (fun q ⟨s, i⟩ hI => by
    obtain ⟨hil, m, hm1, hm2, hm3⟩ := hI
    simp only at hil hm1 hm3
    subst hm1
    by_cases hi : i < d.length
    rotate_left 1
    · right
      have : i = d.length := by omega
      subst this
      refine ⟨_, ?_, m, rfl, hm2, hm3⟩
      show impl_trapSteps.l0 k d tr a h (q + 1) (m : Int) (d.length : Int) = _
      rw [impl_trapSteps.l0]; simp
    left
    have sm := hs _ (List.getElem_mem hi)
    unfold Small at sm
    obtain ⟨u, hu⟩ := Int.eq_ofNat_of_zero_le sm.1
    obtain ⟨v, hv⟩ := Int.eq_ofNat_of_zero_le sm.2.2.1
    have hu12 : u < 12 := by omega
    have hv12 : v < 12 := by omega
    have hpu : 2 ^ u < 4096 := Nat.pow_lt_pow_right (a := 2) (by omega) hu12
    have hpv : 2 ^ v < 4096 := Nat.pow_lt_pow_right (a := 2) (by omega) hv12
    have hor : ∀ z y : Nat, z < 4096 → y < 4096 → z ||| y < 4096 := fun z y hz hy => Nat.or_lt_two_pow (n := 12) hz hy
    have e1 : ∀ z : Nat, z < 4096 → bor (z : Int) (shl 1 d[i].2.1) = ((z ||| 2 ^ v : Nat) : Int) := fun z hz => by
      rw [hv]; show bor (z : Int) (shl 1 ((v : Nat) : Int)) = _
      rw [shl_one (by omega), bor_nat (by omega) (by omega)]
    have e2 : ∀ z : Nat, z < 4096 → bor (z : Int) (shl 1 d[i].1) = ((z ||| 2 ^ u : Nat) : Int) := fun z hz => by
      rw [hu]; show bor (z : Int) (shl 1 ((u : Nat) : Int)) = _
      rw [shl_one (by omega), bor_nat (by omega) (by omega)]
    have hd2 : ∀ t : Nat, decide (d[i].2.1 = (t : Int)) = decide (v = t) := fun t => decide_eq_decide.2 (by omega)
    have hd1 : ∀ t : Nat, decide (d[i].1 = (t : Int)) = decide (u = t) := fun t => decide_eq_decide.2 (by omega)
    have hlast : ∀ t : Nat, anyT d tr a (t : Int) h (i + 1) = (m.testBit t || (((decide (d[i].1 = a) && decide (v = t)) || (decide (d[i].2.1 = a) && decide (u = t) && !tr.contains (i : Int))) && subB d[i].2.2.toNat h.toNat)) := fun t => by
      rw [anyT_succ _ _ _ _ _ _ hi, hm3 t]
      simp only [goesT, hd1, hd2]
    have h1 : ((i : Int) < (d.length : Int)) := by omega
    have hw : w64 ((i : Int) + 1) = ((i + 1 : Nat) : Int) := w64_id (by omega) (by omega)
    have n1 : ¬ d[i].1 < 0 := by omega
    have n2 : ¬ d[i].2.1 < 0 := by omega
    have key : ∃ m' : Nat, m' < 4096 ∧ (∀ t : Nat, m'.testBit t = anyT d tr a (t : Int) h (i + 1)) ∧ impl_trapSteps.l0 k d tr a h (q + 1) (m : Int) (i : Int) = impl_trapSteps.l0 k d tr a h q (m' : Int) ((i + 1 : Nat) : Int) := by
      rw [impl_trapSteps.l0]
      simp only [h1, decide_true, if_true, rdl_lt hi, Option.bind_some, hw, has_eq h d[i].2.2 (by omega) hh, n1, n2, not_false_eq_true, contains_eq hk tr _ ht]
      cases hsb : subB d[i].2.2.toNat h.toNat with
      | false => exact ⟨m, hm2, fun t => by rw [hlast t, hsb]; simp, by simp⟩
      | true =>
        by_cases c1 : d[i].1 = a <;> by_cases c2 : d[i].2.1 = a <;> cases c3 : tr.contains (i : Int)
        · exact ⟨m ||| 2 ^ v ||| 2 ^ u, hor _ _ (hor _ _ hm2 hpv) hpu, fun t => by
            rw [hlast t, hsb, c3]; simp [c1, c2, Nat.testBit_or, Nat.testBit_two_pow]; cases m.testBit t <;> simp, by
            rw [← e2 _ (hor _ _ hm2 hpv), ← e1 _ hm2]; simp [c1, c2]⟩
        · exact ⟨m ||| 2 ^ v, hor _ _ hm2 hpv, fun t => by
            rw [hlast t, hsb, c3]; simp [c1, c2, Nat.testBit_or, Nat.testBit_two_pow], by
            rw [← e1 _ hm2]; simp [c1, c2]⟩
        · exact ⟨m ||| 2 ^ v, hor _ _ hm2 hpv, fun t => by
            rw [hlast t, hsb, c3]; simp [c1, c2, Nat.testBit_or, Nat.testBit_two_pow], by
            rw [← e1 _ hm2]; simp [c1, c2]⟩
        · exact ⟨m ||| 2 ^ v, hor _ _ hm2 hpv, fun t => by
            rw [hlast t, hsb, c3]; simp [c1, c2, Nat.testBit_or, Nat.testBit_two_pow], by
            rw [← e1 _ hm2]; simp [c1, c2]⟩
        · exact ⟨m ||| 2 ^ u, hor _ _ hm2 hpu, fun t => by
            rw [hlast t, hsb, c3]; simp [c1, c2, Nat.testBit_or, Nat.testBit_two_pow], by
            rw [← e2 _ hm2]; simp [c1, c2]⟩
        all_goals exact ⟨m, hm2, fun t => by rw [hlast t, hsb, c3]; simp [c1, c2], by simp [c1, c2]⟩
    obtain ⟨m', k1, k2, k3⟩ := key
    exact ⟨(m', i + 1), k3, ⟨by simp only; omega, m', rfl, k1, k2⟩, by simp only; omega⟩)
    k (0, 0) (by simp only; unfold Big at hk; omega) ⟨by simp, 0, rfl, by omega, fun t => by simp [anyT]⟩
  obtain ⟨r, h1, m, h2, h3, h4⟩ := this
  refine ⟨m, ?_, h3, h4⟩
  show (impl_trapSteps.l0 k d tr a h k 0 ((0 : Nat) : Int)).bind _ = _
  rw [h1, h2]; rfl
theorem rdl_key {n : Int} {ks : List Int} (hl : (ks.length : Int) = n) {y : Int} (h : 0 ≤ y ∧ y ≤ n - 1) : rdl ks y = some (ks.getD y.toNat 0) := by
  have hlt : y.toNat < ks.length := by omega
  unfold rdl; rw [if_pos h.1, List.getElem?_eq_getElem hlt, List.getD_eq_getElem?_getD, List.getElem?_eq_getElem hlt]; rfl
end
end Go.Proofs

/- Plain laws: K -/
namespace Go.Proofs
open Go Go.Ga Go.Ga.Wf
set_option linter.unusedVariables false
set_option linter.unusedSimpArgs false
theorem bit1_nat {a t : Nat} (ha : a < 9223372036854775808) (h : t < 64) : (band (shr (a : Int) (t : Int)) 1 == 1) = a.testBit t := by
  have h0 := bit_nat ha h
  rw [shr_nat h, show (1 : Int) = ((1 : Nat) : Int) from rfl, band_nat (Nat.lt_of_le_of_lt (Nat.div_le_self _ _) ha) (by omega)] at h0 ⊢
  rw [Nat.and_one_is_mod] at h0 ⊢
  have := Nat.mod_two_eq_zero_or_one (a / 2 ^ t)
  rcases this with h | h
  · rw [h] at h0 ⊢; simp at h0 ⊢; exact h0
  · rw [h] at h0 ⊢; simp at h0 ⊢; exact h0
theorem pow2_le {a b : Nat} (h : a ≤ b) : 2 ^ a ≤ 2 ^ b := Nat.pow_le_pow_right (by omega) h
section
variable {k : Nat}
theorem members_eqn (hk : Big ≤ k) (n m : Nat) (hn : n ≤ 62) (hm : m < 2 ^ n) : impl_members.f k (m : Int) = some (upto m n) := by
  have h62 : m < 4611686018427387904 := Nat.lt_of_lt_of_le hm (pow2_le (b := 62) hn)
  unfold impl_members.f
  have := loop_res (l := fun q (s : List Int × Nat) => impl_members.l0 k (m : Int) q s.1 (s.2 : Int)) (fun s => s.1 = upto m s.2 ∧ s.2 ≤ n) (fun s => n - s.2) (fun _ => upto m n) (fun q ⟨l, c⟩ hI => by
    obtain ⟨h1, h2⟩ := hI
    simp only at h1 h2
    simp only
    subst h1
    have n1 : ¬ (c : Int) < 0 := by omega
    have hw : w64 ((c : Int) + 1) = ((c + 1 : Nat) : Int) := w64_id (by omega) (by omega)
    rw [impl_members.l0]
    simp only [n1, not_false_eq_true, if_true, shr_nat (show c < 64 by omega)]
    by_cases hp : m / 2 ^ c = 0
    · right
      have : m < 2 ^ c := by
        rcases Nat.lt_or_ge m (2 ^ c) with h | h
        · exact h
        · have := Nat.div_pos h (Nat.two_pow_pos c); omega
      rw [hp, upto_more this h2]; simp
    · left
      have hc : c < n := by
        rcases Nat.lt_or_ge c n with h | h
        · exact h
        · exfalso; apply hp; exact Nat.div_eq_of_lt (Nat.lt_of_lt_of_le hm (pow2_le h))
      have hpos : ((m / 2 ^ c : Nat) : Int) > 0 := by have := Nat.pos_of_ne_zero hp; generalize m / 2 ^ c = v at *; omega
      have hb : (band ((m / 2 ^ c : Nat) : Int) 1 == 1) = m.testBit c := by rw [← shr_nat (show c < 64 by omega), bit1_nat (by omega) (by omega)]
      refine ⟨(upto m (c + 1), c + 1), ?_, trivial, ⟨rfl, hc⟩, by simp only; omega⟩
      simp only [hpos, decide_true, if_true, hb, hw]
      rw [upto_succ]
      have hlen := upto_length m c
      cases m.testBit c with
      | false => simp
      | true => rw [if_pos rfl, if_pos rfl, if_pos (by simp; omega)]; rfl) k ([], 0) (by simp only; unfold Big at hk; omega) ⟨rfl, by simp⟩
  simp only at this
  rw [show ((0 : Nat) : Int) = 0 from rfl] at this
  rw [this]; rfl
/-! the reference -/
/-! the program -/
end
end Go.Proofs

/- Plain laws: L -/
namespace Go.Proofs
open Go Go.Ga Go.Ga.Wf
set_option linter.unusedVariables false
set_option linter.unusedSimpArgs false
section
variable {k : Nat}
/-! without a colour -/
end
end Go.Proofs

/- Plain laws: M -/
namespace Go.Proofs
open Go Go.Ga Go.Ga.Wf
set_option linter.unusedVariables false
set_option linter.unusedSimpArgs false
abbrev MazeT := Int × List Door × List Int
def mz1 (t : MazeT) : Nat := t.2.1.length + t.2.2.length
def mz : List MazeT → Nat
  | [] => 0
  | t :: l => mz1 t + mz l
def iz : List (List Int) → Nat
  | [] => 0
  | t :: l => t.length + iz l
theorem mz_mem : ∀ {l : List MazeT} {t : MazeT}, t ∈ l → mz1 t ≤ mz l
  | x :: l, t, h => by
    rcases List.mem_cons.1 h with rfl | h
    · simp [mz]
    · have := mz_mem h; simp [mz]; omega
theorem iz_mem : ∀ {l : List (List Int)} {t : List Int}, t ∈ l → t.length ≤ iz l
  | x :: l, t, h => by
    rcases List.mem_cons.1 h with rfl | h
    · simp [iz]
    · have := iz_mem h; simp [iz]; omega
section
variable {k : Nat}
/-- worlds within bounds -/
structure WB (ms : List MazeT) (os : List (List Int)) : Prop where
  ml : ms.length ≤ 1048576
  ol : os.length ≤ 1048576
  md : ∀ t ∈ ms, t.2.1.length ≤ 1048576 ∧ t.2.2.length ≤ 1048576
  od : ∀ t ∈ os, t.length ≤ 1048576
def wz (ms : List MazeT) (os : List (List Int)) : Nat := ms.length + mz ms + (os.length + iz os)
theorem WB.of {ms : List MazeT} {os : List (List Int)} (h : ((wz ms os : Nat) : Int) ≤ 1048576) : WB ms os := by
  unfold wz at h
  refine ⟨by omega, by omega, fun t ht => ?_, fun t ht => ?_⟩
  · have := mz_mem ht; unfold mz1 at this; omega
  · have := iz_mem ht; omega
/-! marks -/
/-! valid worlds -/
def worldOk (ms : List MazeT) (os : List (List Int)) (i : Nat) : Bool :=
  if h : i < ms.length then decide (IsMaze ms[i].1 ms[i].2.1 ms[i].2.2) && decide (((os.getD i []).length : Int) = ms[i].1) && (os.getD i []).all (fun o => decide (0 ≤ o ∧ o ≤ (ms.length : Int) - 1)) else true
def IsWorldsP (ms : List MazeT) (os : List (List Int)) : Prop := (1 ≤ ms.length ∧ ms.length ≤ 3) ∧ os.length = ms.length ∧ ∀ i, i < ms.length → worldOk ms os i = true
instance (ms : List MazeT) (os : List (List Int)) : Decidable (IsWorldsP ms os) := by unfold IsWorldsP; infer_instance
/-! one maze alone -/
end
end Go.Proofs

/- Plain laws: N -/
namespace Go.Proofs
open Go Go.Ga Go.Ga.Wf
set_option linter.unusedVariables false
set_option linter.unusedSimpArgs false
/-- what is appended for each number below n -/
def appUpto {β : Type} (F : Nat → List β) (n : Nat) : List β := (List.range n).flatMap F
theorem appUpto_succ {β : Type} (F : Nat → List β) (n : Nat) : appUpto F (n + 1) = appUpto F n ++ F n := by
  unfold appUpto; rw [List.range_succ, List.flatMap_append]; simp
theorem appUpto_length {β : Type} (F : Nat → List β) (c : Nat) (hF : ∀ i, (F i).length ≤ c) : ∀ n, (appUpto F n).length ≤ n * c
  | 0 => by simp [appUpto]
  | n + 1 => by
    have := appUpto_length F c hF n
    have := hF n
    rw [appUpto_succ, List.length_append, Nat.succ_mul]; omega
theorem loop_app {β γ : Type} {l : Nat → List β → Int → Option γ} (N : Nat) (F : Nat → List β) (out : Option γ)
    (hs : ∀ n (i : Nat), i < N → l (n + 1) (appUpto F i) (i : Int) = l n (appUpto F i ++ F i) ((i + 1 : Nat) : Int))
    (he : ∀ n, l (n + 1) (appUpto F N) (N : Int) = out) {k : Nat} (hk : N < k) : l k [] 0 = out := by
  have key : ∀ m i k, i + m = N → m < k → l k (appUpto F i) (i : Int) = out := by
    intro m
    induction m with
    | zero =>
      intro i k hi hk
      obtain ⟨n, rfl⟩ : ∃ n, k = n + 1 := ⟨k - 1, by omega⟩
      have : i = N := by omega
      subst this
      exact he n
    | succ m ih =>
      intro i k hi hk
      obtain ⟨n, rfl⟩ : ∃ n, k = n + 1 := ⟨k - 1, by omega⟩
      rw [hs n i (by omega), ← appUpto_succ]
      exact ih (i + 1) n (by omega) (by omega)
  exact key N 0 k (by omega) hk
theorem appUpto_upto (p : Nat → Bool) (m : Nat) : ∀ n, (∀ y, y < n → m.testBit y = p y) → appUpto (fun y => if p y = true then [(y : Int)] else []) n = upto m n
  | 0, _ => rfl
  | n + 1, h => by
    rw [appUpto_succ, upto_succ, appUpto_upto p m n (fun y hy => h y (by omega)), h n (by omega)]
theorem quo64 {y c : Int} (hy : 0 ≤ y ∧ y < 12) (hc : 0 ≤ c ∧ c ≤ 63) : quo (y * 64 + c) 64 = y := by
  unfold quo
  rw [Int.tdiv_eq_ediv_of_nonneg (by omega)]
  have : (y * 64 + c) / 64 = y := by omega
  rw [this]
  exact w64_id (by omega) (by omega)
section
variable {k : Nat}
theorem isNode_eq (hk : Big ≤ k) (n : Int) (d : List Door) (ks l : List Int) (hd : d.length ≤ 1048576) (hks : ks.length ≤ 1048576) (hl : l.length ≤ 1048576) :
    impl_isNode.f k n d ks l = some (decide (IsMaze n d ks) && l.all (fun x => decide (0 ≤ x ∧ x ≤ n - 1))) := by
  unfold impl_isNode.f
  rw [IsMaze_eq hk n d ks hd hks]
  by_cases hm : IsMaze n d ks
  rotate_left 1
  · simp [hm]
  have en : w64 (n - 1) = n - 1 := w64_id (by have := hm.1; omega) (by have := hm.2.1; omega)
  simp only [hm, decide_true, Option.bind_some, if_true, containsFunc_eq hk l hl (fun z0 => impl_isNode_1.f k z0 n d ks) (fun x => !decide (0 ≤ x ∧ x ≤ n - 1)) (fun x _ => by simp [impl_isNode_1.f, within_eq, en]), Bool.true_and]
  rw [List.all_eq_not_any_not]
theorem isTrapState_eq (hk : Big ≤ k) (n : Int) (d : List Door) (ks tr : List Int) (x s : Int) (hd : d.length ≤ 1048576) (hks : ks.length ≤ 1048576) (ht : tr.length ≤ 1048576) :
    impl_isTrapState.f k n d ks tr x s = some (decide (IsTrapP n d ks tr ∧ (0 ≤ x ∧ x ≤ n - 1) ∧ 0 ≤ s ∧ s ≤ 63)) := by
  unfold impl_isTrapState.f
  rw [IsTrap_eq hk n d ks tr hd hks ht]
  by_cases hT : IsTrapP n d ks tr
  rotate_left 1
  · simp [hT]
  simp only [hT, decide_true, Option.bind_some, if_true, isNode_eq hk n d ks [x] hd hks (by simp), hT.1, isSet_eq, true_and, Bool.true_and, List.all_cons, List.all_nil, Bool.and_true]
  by_cases h1 : 0 ≤ x ∧ x ≤ n - 1 <;> by_cases h2 : 0 ≤ s ∧ s ≤ 63 <;> simp [h1, h2]
theorem l11State_eq (hk : Big ≤ k) (n : Int) (d : List Door) (ks tr : List Int) (x s : Int) (hd : d.length ≤ 1048576) (hks : ks.length ≤ 1048576) (ht : tr.length ≤ 1048576) :
    spec_l11State.f k n d ks tr x s = some (decide (IsTrapP n d ks tr ∧ (0 ≤ x ∧ x ≤ n - 1) ∧ 0 ≤ s ∧ s ≤ 63)) := by
  unfold spec_l11State.f
  rw [l11Trap_eq hk n d ks tr hd hks ht]
  by_cases hT : IsTrapP n d ks tr
  rotate_left 1
  · simp [hT]
  have en : w64 (n - 1) = n - 1 := w64_id (by have := hT.1.1; omega) (by have := hT.1.2.1; omega)
  simp only [hT, decide_true, Option.bind_some, if_true, in_eq, en, l2Set_eq, true_and]
  by_cases h1 : 0 ≤ x ∧ x ≤ n - 1 <;> by_cases h2 : 0 ≤ s ∧ s ≤ 63 <;> simp [h1, h2]
/-- the states behind a step -/
def stepG (d : List Door) (ks tr : List Int) (x s : Int) (y : Nat) : List Int := if anyT d tr x (y : Int) s d.length = true then [(y : Int) * 64 + bor s (ks.getD y 0)] else []
theorem stepG_le (d : List Door) (ks tr : List Int) (x s : Int) (y : Nat) : (stepG d ks tr x s y).length ≤ 1 := by unfold stepG; split <;> simp
theorem l4Id_eq (y c : Int) (hy : 0 ≤ y ∧ y ≤ 1000) (hc : 0 ≤ c ∧ c ≤ 63) : spec_l4Id.f k y c = some (y * 64 + c) := by
  unfold spec_l4Id.f
  rw [w64_id (x := y * 64) (by omega) (by omega), w64_id (by omega) (by omega)]
theorem l11Step_eq (hk : Big ≤ k) (n : Int) (d : List Door) (ks tr : List Int) (x s : Int) (hm : IsMaze n d ks) (ht : tr.length ≤ 1048576) (hs : 0 ≤ s ∧ s ≤ 63) :
    spec_l11Step.f k n d ks tr x s = some (appUpto (stepG d ks tr x s) n.toNat) := by
  unfold spec_l11Step.f
  have om := hm.okm
  have hlo := om.lo
  have hhi := om.hi
  rw [loop_app (l := fun q s' i => spec_l11Step.l0 k n d ks tr x s q s' i) n.toNat (stepG d ks tr x s) (some (appUpto (stepG d ks tr x s) n.toNat)) (fun q i hi => by
    have hlt : ((i : Int) < n) := by omega
    have hw : w64 ((i : Int) + 1) = ((i + 1 : Nat) : Int) := w64_id (by omega) (by omega)
    have hle := appUpto_length (stepG d ks tr x s) 1 (stepG_le d ks tr x s) i
    have hr := rdl_key om.len (y := (i : Int)) ⟨by omega, by omega⟩
    have hbo := (bor_le63 hs (keys_getD om.keys i)).1
    rw [Int.toNat_natCast] at hr
    rw [spec_l11Step.l0]
    simp only [hlt, decide_true, if_true, l11Goes_eq hk n d ks tr x (i : Int) s om.few ht hm.small hs, Option.bind_some, hr, l4Id_eq (i : Int) _ ⟨by omega, by omega⟩ hbo, hw]
    unfold stepG at hle ⊢
    cases anyT d tr x (i : Int) s d.length with
    | false => simp
    | true =>
      simp only [if_true]
      rw [if_pos (by rw [List.length_append]; simp only [List.length_singleton]; omega)]
      rfl) (fun q => by
    rw [spec_l11Step.l0, if_neg (by simp; omega)]) (by unfold Big at hk; omega)]
  rfl
theorem anyT_lt {n : Int} {d : List Door} {ks : List Int} (om : Okm n d ks) {tr : List Int} {x y s : Int} {m : Nat} (h : anyT d tr x y s m = true) : 0 ≤ y ∧ y < n := by
  unfold anyT at h
  obtain ⟨i, _, hg⟩ := List.any_eq_true.1 h
  split at hg
  · rename_i z hz
    have hz := om.doors z (List.mem_of_getElem? hz)
    unfold DoorIn at hz
    unfold goesT at hg
    simp only [Bool.and_eq_true, Bool.or_eq_true, decide_eq_true_eq] at hg
    omega
  · cases hg
/-- the nodes behind a step, ascending -/
def stepN (d : List Door) (tr : List Int) (n x s : Int) : List Int := appUpto (fun y => if anyT d tr x (y : Int) s d.length = true then [(y : Int)] else []) n.toNat
theorem trapMembers_eq (hk : Big ≤ k) (n : Int) (d : List Door) (ks tr : List Int) (x s : Int) (hm : IsMaze n d ks) (ht : tr.length ≤ 1048576) (hs : 0 ≤ s ∧ s ≤ 63) :
    ((impl_trapSteps.f k n d ks tr x s).bind fun t => impl_members.f k t) = some (stepN d tr n x s) := by
  have om := hm.okm
  obtain ⟨m, h1, h2, h3⟩ := trapSteps_eq hk n d ks tr x s om.few ht hm.small hs
  rw [h1, Option.bind_some]
  have hlt : m < 2 ^ n.toNat := Nat.lt_pow_two_of_testBit _ fun i hi => by
    rw [h3 i]
    cases hc : anyT d tr x (i : Int) s d.length with
    | false => rfl
    | true => have := anyT_lt om hc; omega
  rw [members_eqn hk n.toNat m (by have := om.hi; omega) hlt]
  unfold stepN
  rw [appUpto_upto (fun y => anyT d tr x (y : Int) s d.length) m n.toNat (fun y _ => h3 y)]
theorem stepN_length (d : List Door) (tr : List Int) (n x s : Int) : (stepN d tr n x s).length ≤ n.toNat := by
  unfold stepN
  have := appUpto_length (fun y => if anyT d tr x (y : Int) s d.length = true then [(y : Int)] else []) 1 (fun i => by split <;> simp) n.toNat
  omega
theorem map_quo (d : List Door) (ks tr : List Int) (x s : Int) (hk : ∀ x ∈ ks, 0 ≤ x ∧ x ≤ 63) (hs : 0 ≤ s ∧ s ≤ 63) : ∀ n, n ≤ 12 → (appUpto (stepG d ks tr x s) n).map (fun z => quo z 64) = appUpto (fun y => if anyT d tr x (y : Int) s d.length = true then [(y : Int)] else []) n
  | 0, _ => rfl
  | n + 1, hn => by
    rw [appUpto_succ, appUpto_succ, List.map_append, map_quo d ks tr x s hk hs n (by omega)]
    congr 1
    unfold stepG
    split
    · rw [List.map_singleton, quo64 ⟨by omega, by omega⟩ (bor_le63 hs (keys_getD hk n)).1]
    · rfl
theorem map_app {α β : Type} (g : α → β) (dflt : α) (L : List α) : appUpto (fun i => [g (L.getD i dflt)]) L.length = L.map g := by
  have : ∀ i, i ≤ L.length → appUpto (fun i => [g (L.getD i dflt)]) i = (L.take i).map g := by
    intro i
    induction i with
    | zero => intro _; rfl
    | succ i ih =>
      intro hi
      rw [appUpto_succ, ih (by omega), List.take_add_one, List.getElem?_eq_getElem (by omega), List.map_append]
      simp [List.getD_eq_getElem?_getD, List.getElem?_eq_getElem (show i < L.length by omega)]
  rw [this _ (Nat.le_refl _), List.take_length]
noncomputable def stepsR (n : Int) (d : List Door) (ks tr : List Int) (x s : Int) : List Int × Bool :=
  if IsTrapP n d ks tr ∧ (0 ≤ x ∧ x ≤ n - 1) ∧ 0 ≤ s ∧ s ≤ 63 then (stepN d tr n x s, true) else ([], false)
theorem impl_StepsFrom_eq (hk : Big ≤ k) (n : Int) (d : List Door) (ks tr : List Int) (x s : Int) (hd : d.length ≤ 1048576) (hks : ks.length ≤ 1048576) (ht : tr.length ≤ 1048576) : impl_StepsFrom.f k n d ks tr x s = some (stepsR n d ks tr x s) := by
  unfold impl_StepsFrom.f stepsR
  rw [isTrapState_eq hk n d ks tr x s hd hks ht]
  by_cases h : IsTrapP n d ks tr ∧ (0 ≤ x ∧ x ≤ n - 1) ∧ 0 ≤ s ∧ s ≤ 63
  rotate_left 1
  · simp [h]
  have := trapMembers_eq hk n d ks tr x s h.1.1 ht h.2.2
  obtain ⟨m, h1, h2, h3⟩ := trapSteps_eq hk n d ks tr x s h.1.1.okm.few ht h.1.1.small h.2.2
  rw [h1, Option.bind_some] at this
  rw [if_pos h, decide_eq_true h]
  simp only [Option.bind_some, Bool.not_true, Bool.false_eq_true, if_false, h1, this]
theorem spec_StepsFrom_eq (hk : Big ≤ k) (n : Int) (d : List Door) (ks tr : List Int) (x s : Int) (hd : d.length ≤ 1048576) (hks : ks.length ≤ 1048576) (ht : tr.length ≤ 1048576) : spec_StepsFrom.f k n d ks tr x s = some (stepsR n d ks tr x s) := by
  unfold spec_StepsFrom.f stepsR
  rw [l11State_eq hk n d ks tr x s hd hks ht]
  by_cases h : IsTrapP n d ks tr ∧ (0 ≤ x ∧ x ≤ n - 1) ∧ 0 ≤ s ∧ s ≤ 63
  rotate_left 1
  · simp [h]
  have hle := appUpto_length (stepG d ks tr x s) 1 (stepG_le d ks tr x s) n.toNat
  have hhi := h.1.1.okm.hi
  rw [if_pos h, decide_eq_true h]
  simp only [Option.bind_some, Bool.not_true, Bool.false_eq_true, if_false, l11Step_eq hk n d ks tr x s h.1.1 ht h.2.2]
  have hmq := map_quo d ks tr x s h.1.1.okm.keys h.2.2 n.toNat (by omega)
  generalize appUpto (stepG d ks tr x s) n.toNat = L at *
  rw [loop_app (l := fun q s' i => spec_StepsFrom.l0 k L q s' i) L.length (fun i => [quo (L.getD i 0) 64]) (some (stepN d tr n x s)) (fun q i hi => by
    have hlt : ((i : Int) < (L.length : Int)) := by omega
    have hw : w64 ((i : Int) + 1) = ((i + 1 : Nat) : Int) := w64_id (by omega) (by omega)
    have hle := appUpto_length (fun i => [quo (L.getD i 0) 64]) 1 (fun _ => Nat.le_refl _) i
    have hg : L.getD i 0 = L[i] := by rw [List.getD_eq_getElem?_getD, List.getElem?_eq_getElem hi]; rfl
    rw [spec_StepsFrom.l0]
    simp only [hlt, decide_true, if_true, rdl_lt hi, Option.bind_some, hw, hg]
    rw [if_pos (by rw [List.length_append]; simp only [List.length_singleton]; omega)]) (fun q => by
    rw [spec_StepsFrom.l0, if_neg (by simp), map_app (fun z => quo z 64) 0 L, hmq]; rfl) (by unfold Big at hk; omega)]
  rfl
theorem stepsR_len (n : Int) (d : List Door) (ks tr : List Int) (x s : Int) : (stepsR n d ks tr x s).1.length ≤ 1048576 := by
  unfold stepsR
  split
  · rename_i h
    have := stepN_length d tr n x s
    have := h.1.1.okm.hi
    simp only; omega
  · simp
theorem laws_FnExactStepsFrom.pure (x : Int × List (Int × Int × Int) × List Int × List Int) (y z : Int) (h : wfd x) (h' : wfd y) (h'' : wfd z) : ∃ k, laws_FnExactStepsFrom.f k x.1 x.2.1 x.2.2.1 x.2.2.2 y z = some true := by
  refine ⟨Big, ?_⟩
  have hk : Big ≤ Big := Nat.le_refl _
  obtain ⟨n, d, ks, tr⟩ := x
  have h1 : d.length ≤ maxLen := h.2.1.1
  have h2 : ks.length ≤ maxLen := h.2.2.1.1
  have h3 : tr.length ≤ maxLen := h.2.2.2.1
  unfold laws_FnExactStepsFrom.f
  simp only [szTrap_eq n d ks tr _ (by decide : (0 : Int) ≤ 1048576) (Int.le_refl _) h1 h2 h3, Option.bind_some]
  by_cases hc : ((d.length + ks.length + tr.length : Nat) : Int) ≤ 1048576
  · have e2 := impl_StepsFrom_eq hk n d ks tr y z (by omega) (by omega) (by omega)
    have e3 := spec_StepsFrom_eq hk n d ks tr y z (by omega) (by omega) (by omega)
    have hb := stepsR_len n d ks tr y z
    generalize stepsR n d ks tr y z = r at *
    obtain ⟨l, b⟩ := r
    simp only at hb
    have p1 : decide ((1 : Int) + 3 * d.length + ks.length + tr.length < 0) = false := decide_eq_false (by omega)
    have p2 : decide ((1 : Int) + l.length < 0) = false := decide_eq_false (by omega)
    simp only [p1, p2, szo_pos hc, Bool.false_eq_true, if_false, toTrap_eq hk n d ks tr (by omega) (by omega) (by omega), e2, e3, Option.bind_some, eqIntS_eq hk l l hb, eqTrap_eq hk n d ks tr n d ks tr (by omega) (by omega) (by omega), markTrap_eq hk n d ks tr 1 (by omega) (by omega) (by omega) (by omega) (by omega),
      markIntS_eq hk l 1 (by omega) (by omega) hb, heldIntS_eq hk l.length 1 (by omega) (by omega) hb]
    simp
  · simp only [szo_neg hc, if_true]
/-! idle nodes -/
/-! nodes ahead -/
/-! a new console -/
/-! what a world can ever reach -/
theorem IsWorldsP.at {ms : List MazeT} {os : List (List Int)} (h : IsWorldsP ms os) (i : Nat) (hi : i < ms.length) : IsMaze ms[i].1 ms[i].2.1 ms[i].2.2 ∧ ∃ hio : i < os.length, (os[i].length : Int) = ms[i].1 ∧ ∀ o ∈ os[i], 0 ≤ o ∧ o ≤ (ms.length : Int) - 1 := by
  have h1 := h.2.2 i hi
  unfold worldOk at h1
  have hio : i < os.length := by have := h.2.1; omega
  have hod : os.getD i [] = os[i] := by rw [List.getD_eq_getElem?_getD, List.getElem?_eq_getElem hio]; rfl
  rw [dif_pos hi, hod] at h1
  simp only [Bool.and_eq_true, decide_eq_true_eq, List.all_eq_true] at h1
  exact ⟨h1.1.1, hio, h1.1.2, h1.2⟩
end
end Go.Proofs

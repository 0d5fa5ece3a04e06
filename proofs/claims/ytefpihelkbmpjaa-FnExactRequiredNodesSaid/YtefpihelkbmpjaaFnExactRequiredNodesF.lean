/- A part of the proof of FnExactRequiredNodes: the plain law. No condition. -/
import Derived.Test.YtefpihelkbmpjaaFnExactRequiredNodesE
/- Plain laws: A -/
namespace Go.Proofs
open Go Go.Ga Go.Ga.Wf
set_option linter.unusedVariables false
set_option linter.unusedSimpArgs false
section
variable {k : Nat}
theorem within_eq (x a b : Int) : impl_within.f k x a b = some (decide (a ≤ x ∧ x ≤ b)) := by
  unfold impl_within.f
  by_cases h : a ≤ x <;> simp [h]
theorem in_eq (x a b : Int) : spec_l1In.f k x a b = some (decide (a ≤ x ∧ x ≤ b)) := by
  unfold spec_l1In.f
  by_cases h : a ≤ x <;> simp [h, ge_iff_le]
end
end Go.Proofs

/- Plain laws: B -/
namespace Go.Ga
open Go
def szo (m : Int) (n : Nat) : Int := if (n : Int) ≤ m then m - n else -1
theorem loop_copy {α : Type} {l : Nat → List α → Int → Option (List α)} {a : List α}
    (hs : ∀ n (i : Nat) (s : List α) (hi : i < a.length), s.length = a.length → l (n + 1) s (i : Int) = l n (s.set i a[i]) ((i + 1 : Nat) : Int))
    (he : ∀ n s, l (n + 1) s (a.length : Int) = some s) {k : Nat} (hk : a.length < k) {s : List α} (h0 : s.length = a.length) : l k s 0 = some a := by
  have key : ∀ m i k s, i + m = a.length → m < k → s.length = a.length → (∀ j, j < i → s[j]? = a[j]?) → l k s (i : Int) = some a := by
    intro m
    induction m with
    | zero =>
      intro i k s hi hk h1 h2
      obtain ⟨n, rfl⟩ : ∃ n, k = n + 1 := ⟨k - 1, by omega⟩
      have : i = a.length := by omega
      subst this
      rw [he]
      congr 1
      refine List.ext_getElem? fun j => ?_
      rcases Nat.lt_or_ge j a.length with h | h
      · exact h2 j h
      · rw [List.getElem?_eq_none (by omega), List.getElem?_eq_none h]
    | succ m ih =>
      intro i k s hi hk h1 h2
      obtain ⟨n, rfl⟩ : ∃ n, k = n + 1 := ⟨k - 1, by omega⟩
      rw [hs n i s (by omega) h1]
      refine ih (i + 1) n _ (by omega) (by omega) (by simpa using h1) fun j hj => ?_
      rcases Nat.eq_or_lt_of_le (Nat.le_of_lt_succ hj) with rfl | h
      · rw [List.getElem?_set_self (by omega), List.getElem?_eq_getElem (by omega)]
      · rw [List.getElem?_set_ne (by omega)]; exact h2 j h
  have := key a.length 0 k s (by omega) hk h0 (by omega)
  simpa using this
theorem loop_eq {α : Type} [DecidableEq α] {l : Nat → Int → Option (Unit ⊕ Bool)} {a b : List α} (hl : a.length = b.length)
    (hs : ∀ n (i : Nat) (hi : i < a.length), l (n + 1) (i : Int) = if a[i] = b[i] then l n ((i + 1 : Nat) : Int) else some (.inr false))
    (he : ∀ n, l (n + 1) (a.length : Int) = some (.inl ())) {k : Nat} (hk : a.length < k) : l k 0 = some (if a = b then .inl () else .inr false) := by
  rw [loop_all (l := l) (N := a.length) (fun i => decide (a[i]? = b[i]?)) (z := false) (fun n i hi => by
    rw [hs n i hi, List.getElem?_eq_getElem hi, List.getElem?_eq_getElem (by omega)]
    simp) he hk]
  congr 1
  have : (∀ i, i < a.length → decide (a[i]? = b[i]?) = true) ↔ a = b := by
    constructor
    · intro h
      refine List.ext_getElem? fun i => ?_
      rcases Nat.lt_or_ge i a.length with h1 | h1
      · simpa using h i h1
      · rw [List.getElem?_eq_none h1, List.getElem?_eq_none (by omega)]
    · rintro rfl i _; simp
  by_cases h : a = b
  · rw [if_pos h, if_pos (this.2 h)]
  · rw [if_neg h, if_neg (fun H => h (this.1 H))]
theorem w64_1 : w64 1 = 1 := rfl
theorem w64_2 : w64 2 = 2 := rfl
theorem w64_3 : w64 3 = 3 := rfl
theorem rdl3_0 {α : Type} {x y z : α} : rdl [x, y, z] 0 = some x := rfl
theorem rdl3_1 {α : Type} {x y z : α} : rdl [x, y, z] 1 = some y := rfl
theorem rdl3_2 {α : Type} {x y z : α} : rdl [x, y, z] 2 = some z := rfl
end Go.Ga
namespace Go.Proofs
open Go Go.Ga Go.Ga.Wf
set_option linter.unusedVariables false
set_option linter.unusedSimpArgs false
section
variable {k : Nat}
theorem big_split (hk : Big ≤ k) : ∃ n, k = n + 5 := ⟨k - 5, by unfold Big at hk; omega⟩
theorem maxLen_eq : maxLen = 9223372036854775807 := by decide
theorem szIntS_eq (l : List Int) (m : Int) (h0 : 0 ≤ m) (hm : m ≤ 1048576) (hl : l.length ≤ maxLen) : laws_szIntS.f k l m = some (szo m l.length) := by
  unfold laws_szIntS.f szo
  rw [maxLen_eq] at hl
  rw [w64_id (by omega) (by omega)]
  by_cases h : (l.length : Int) ≤ m
  · rw [if_neg (by simp; omega), if_pos h]
  · rw [if_pos (by simp; omega), if_neg h]
theorem szIntA3S_eq (l : List (Int × Int × Int)) (m : Int) (h0 : 0 ≤ m) (hm : m ≤ 1048576) (hl : l.length ≤ maxLen) : laws_szIntA3S.f k l m = some (szo m l.length) := by
  unfold laws_szIntA3S.f szo
  rw [maxLen_eq] at hl
  rw [w64_id (by omega) (by omega)]
  by_cases h : (l.length : Int) ≤ m
  · rw [if_neg (by simp; omega), if_pos h]
  · rw [if_pos (by simp; omega), if_neg h]
theorem szo_add (m : Int) (a b : Nat) : (if decide (szo m a < 0) = true then some (-1) else (some (szo (szo m a) b)).bind fun t => if decide (t < 0) = true then some (-1) else some t) = some (szo m (a + b)) := by
  unfold szo
  by_cases h : (a : Int) ≤ m
  · have h1 : ¬ (m - (a : Int) < 0) := by omega
    by_cases h2 : (b : Int) ≤ m - a
    · have h3 : ¬ (m - (a : Int) - b < 0) := by omega
      have h4 : ((a + b : Nat) : Int) ≤ m := by omega
      simp only [h, h1, h2, h3, h4, if_true, decide_false, Bool.false_eq_true, if_false, Option.bind_some]; congr 1; omega
    · have h4 : ¬ ((a + b : Nat) : Int) ≤ m := by omega
      simp only [h, h1, h2, h4, if_true, decide_false, Bool.false_eq_true, if_false, Option.bind_some]; simp
  · have h4 : ¬ ((a + b : Nat) : Int) ≤ m := by omega
    simp only [h, h4, if_false]; simp
theorem szo_range {m : Int} {n : Nat} (h0 : 0 ≤ m) (hm : m ≤ 1048576) : -1 ≤ szo m n ∧ szo m n ≤ 1048576 := by unfold szo; split <;> omega
theorem szMaze_eq (n : Int) (d : List (Int × Int × Int)) (ks : List Int) (m : Int) (h0 : 0 ≤ m) (hm : m ≤ 1048576) (hd : d.length ≤ maxLen) (hl : ks.length ≤ maxLen) :
    laws_szMaze.f k n d ks m = some (szo m (d.length + ks.length)) := by
  unfold laws_szMaze.f
  rw [szIntA3S_eq d m h0 hm hd, Option.bind_some, ← szo_add]
  by_cases h : szo m d.length < 0
  · simp [h]
  · rw [szIntS_eq ks _ (by omega) (szo_range h0 hm).2 hl]
theorem toIntS_eq (hk : Big ≤ k) (l : List Int) (hl : l.length ≤ 1048576) : laws_toIntS.f k l = some l := by
  unfold laws_toIntS.f
  rw [if_pos (by omega)]
  rw [loop_copy (l := laws_toIntS.l0 k l) (a := l) (fun n i s hi hs => by
    rw [laws_toIntS.l0]
    have h1 : ((i : Int) < (l.length : Int)) := by omega
    have hw : w64 ((i : Int) + 1) = ((i + 1 : Nat) : Int) := w64_id (by omega) (by omega)
    simp only [h1, decide_true, if_true, rdl_lt hi, rdl_lt (hs ▸ hi), Option.bind_some, hw, Int.toNat_natCast])
    (fun n s => by rw [laws_toIntS.l0]; simp) (by unfold Big at hk; omega) (by simp)]
  rfl
theorem toIntA3_eq (hk : Big ≤ k) (a b c : Int) : laws_toIntA3.f k a b c = some (a, b, c) := by
  obtain ⟨n, rfl⟩ := big_split hk
  unfold laws_toIntA3.f
  simp [laws_toIntA3.l0, w64_1, w64_2, w64_3, rdl3_0, rdl3_1, rdl3_2]
theorem toIntA3S_eq (hk : Big ≤ k) (l : List (Int × Int × Int)) (hl : l.length ≤ 1048576) : laws_toIntA3S.f k l = some l := by
  unfold laws_toIntA3S.f
  rw [if_pos (by omega)]
  rw [loop_copy (l := laws_toIntA3S.l0 k l) (a := l) (fun n i s hi hs => by
    rw [laws_toIntA3S.l0]
    have h1 : ((i : Int) < (l.length : Int)) := by omega
    have hw : w64 ((i : Int) + 1) = ((i + 1 : Nat) : Int) := w64_id (by omega) (by omega)
    simp only [h1, decide_true, if_true, rdl_lt hi, rdl_lt (hs ▸ hi), Option.bind_some, hw, Int.toNat_natCast, toIntA3_eq hk])
    (fun n s => by rw [laws_toIntA3S.l0]; simp) (by unfold Big at hk; omega) (by simp)]
  rfl
theorem toMaze_eq (hk : Big ≤ k) (n : Int) (d : List (Int × Int × Int)) (ks : List Int) (hd : d.length ≤ 1048576) (hl : ks.length ≤ 1048576) : laws_toMaze.f k n d ks = some (n, d, ks) := by
  unfold laws_toMaze.f
  rw [toIntA3S_eq hk d hd, Option.bind_some, toIntS_eq hk ks hl, Option.bind_some]
theorem eqIntS_eq (hk : Big ≤ k) (a b : List Int) (hl : a.length ≤ 1048576) : laws_eqIntS.f k a b = some (decide (a = b)) := by
  unfold laws_eqIntS.f
  by_cases h : a.length = b.length
  · rw [if_neg (by simp; omega), loop_eq (l := laws_eqIntS.l0 k a b) h (fun n i hi => by
      rw [laws_eqIntS.l0]
      have h1 : ((i : Int) < (a.length : Int)) := by omega
      have hw : w64 ((i : Int) + 1) = ((i + 1 : Nat) : Int) := w64_id (by omega) (by omega)
      simp only [h1, decide_true, if_true, rdl_lt hi, rdl_lt (h ▸ hi), Option.bind_some, hw]
      by_cases h2 : a[i] = b[i] <;> simp [h2]) (fun n => by rw [laws_eqIntS.l0]; simp) (by unfold Big at hk; omega), Option.bind_some, Lr_ite]
    by_cases h2 : a = b <;> simp [h2]
  · rw [if_pos (by simp; omega)]
    have : a ≠ b := fun e => h (by rw [e])
    simp [this]
theorem eqIntA3_eq (hk : Big ≤ k) (a b c a' b' c' : Int) : laws_eqIntA3.f k a b c a' b' c' = some (decide ((a, b, c) = (a', b', c'))) := by
  obtain ⟨n, rfl⟩ := big_split hk
  unfold laws_eqIntA3.f
  by_cases h1 : a = a' <;> by_cases h2 : b = b' <;> by_cases h3 : c = c' <;>
    simp [laws_eqIntA3.l0, w64_1, w64_2, w64_3, rdl3_0, rdl3_1, rdl3_2, h1, h2, h3, Lr]
theorem eqIntA3S_eq (hk : Big ≤ k) (a b : List (Int × Int × Int)) (hl : a.length ≤ 1048576) : laws_eqIntA3S.f k a b = some (decide (a = b)) := by
  unfold laws_eqIntA3S.f
  by_cases h : a.length = b.length
  · rw [if_neg (by simp; omega), loop_eq (l := laws_eqIntA3S.l0 k a b) h (fun n i hi => by
      rw [laws_eqIntA3S.l0]
      have h1 : ((i : Int) < (a.length : Int)) := by omega
      have hw : w64 ((i : Int) + 1) = ((i + 1 : Nat) : Int) := w64_id (by omega) (by omega)
      simp only [h1, decide_true, if_true, rdl_lt hi, rdl_lt (h ▸ hi), Option.bind_some, hw, eqIntA3_eq hk]
      by_cases h2 : a[i] = b[i] <;> simp [h2]) (fun n => by rw [laws_eqIntA3S.l0]; simp) (by unfold Big at hk; omega), Option.bind_some, Lr_ite]
    by_cases h2 : a = b <;> simp [h2]
  · rw [if_pos (by simp; omega)]
    have : a ≠ b := fun e => h (by rw [e])
    simp [this]
theorem eqMaze_eq (hk : Big ≤ k) (n n' : Int) (d d' : List (Int × Int × Int)) (ks ks' : List Int) (hd : d.length ≤ 1048576) (hl : ks.length ≤ 1048576) :
    laws_eqMaze.f k n d ks n' d' ks' = some (decide ((n, d, ks) = (n', d', ks'))) := by
  unfold laws_eqMaze.f
  rw [eqIntA3S_eq hk d d' hd, eqIntS_eq hk ks ks' hl]
  by_cases h1 : n = n' <;> by_cases h2 : d = d' <;> by_cases h3 : ks = ks' <;> simp [h1, h2, h3]
end
end Go.Proofs

/- Plain laws: C -/
namespace Go.Proofs
open Go Go.Ga Go.Ga.Wf
set_option linter.unusedVariables false
set_option linter.unusedSimpArgs false
abbrev Door := Int × Int × Int
def DoorOk (n : Int) (x : Door) : Prop := 0 ≤ x.1 ∧ x.1 < x.2.1 ∧ x.2.1 < n ∧ 0 ≤ x.2.2 ∧ x.2.2 ≤ 63
def DoorLt (a b : Door) : Prop := a.1 < b.1 ∨ (a.1 = b.1 ∧ (a.2.1 < b.2.1 ∨ (a.2.1 = b.2.1 ∧ a.2.2 < b.2.2)))
instance (n : Int) (x : Door) : Decidable (DoorOk n x) := by unfold DoorOk; infer_instance
instance (a b : Door) : Decidable (DoorLt a b) := by unfold DoorLt; infer_instance
def doorB (n : Int) (d : List Door) (i : Nat) : Bool := if h : i < d.length then decide (DoorOk n d[i]) && (decide (i = 0) || decide (DoorLt d[i - 1] d[i])) else true
def setB (ks : List Int) (i : Nat) : Bool := if h : i < ks.length then decide (0 ≤ ks[i] ∧ ks[i] ≤ 63) else true
def IsMaze (n : Int) (d : List Door) (ks : List Int) : Prop :=
  1 ≤ n ∧ n ≤ 12 ∧ d.length ≤ 30 ∧ (ks.length : Int) = n ∧ (∀ i, i < d.length → doorB n d i = true) ∧ ∀ i, i < ks.length → setB ks i = true
instance (n : Int) (d : List Door) (ks : List Int) : Decidable (IsMaze n d ks) := by unfold IsMaze; infer_instance
section
variable {k : Nat}
def cmpI (x y : Int) : Int := if x < y then -1 else if x > y then 1 else 0
theorem compare_eq (x y : Int) : cmp_Compare_int.f k x y = some (cmpI x y) := by
  unfold cmp_Compare_int.f cmp_isNaN_int.f cmpI
  simp only [bne_self_eq_false, Option.bind_some, Bool.false_eq_true, if_false, decide_eq_true_eq]
  repeat' split
  all_goals rfl
theorem or3_eq (hk : Big ≤ k) (x y z : Int) : cmp_Or_int.f k [x, y, z] = some (if x ≠ 0 then x else if y ≠ 0 then y else z) := by
  obtain ⟨n, rfl⟩ := big_split hk
  unfold cmp_Or_int.f
  by_cases h1 : x = 0 <;> by_cases h2 : y = 0 <;> by_cases h3 : z = 0 <;>
    simp [cmp_Or_int.l0, w64_1, w64_2, w64_3, rdl3_0, rdl3_1, rdl3_2, h1, h2, h3, Lr]
theorem compareDoors_eq (hk : Big ≤ k) (x y : Door) : ∃ c, impl_compareDoors.f k x.1 x.2.1 x.2.2 y.1 y.2.1 y.2.2 = some c ∧ (c ≥ 0 ↔ ¬ DoorLt x y) ∧ (c = 0 ↔ x = y) := by
  unfold impl_compareDoors.f
  refine ⟨_, by simp only [compare_eq, Option.bind_some, or3_eq hk]; rfl, ?_, ?_⟩
  · unfold DoorLt cmpI
    repeat' split
    all_goals omega
  · obtain ⟨a, b, c⟩ := x; obtain ⟨a', b', c'⟩ := y
    simp only [Prod.mk.injEq]
    unfold cmpI
    repeat' split
    all_goals omega
theorem before_eq (hk : Big ≤ k) (x y : Door) : spec_l2Before.f k x.1 x.2.1 x.2.2 y.1 y.2.1 y.2.2 = some (decide (DoorLt x y)) := by
  obtain ⟨n, rfl⟩ := big_split hk
  obtain ⟨a, b, c⟩ := x; obtain ⟨a', b', c'⟩ := y
  unfold spec_l2Before.f DoorLt
  by_cases h1 : a = a' <;> by_cases h2 : b = b' <;> by_cases h3 : c = c' <;>
    simp [spec_l2Before.l0, w64_1, w64_2, w64_3, rdl3_0, rdl3_1, rdl3_2, h1, h2, h3, Lr]
theorem isSet_eq (x : Int) : impl_isSet.f k x = some (decide (0 ≤ x ∧ x ≤ 63)) := by unfold impl_isSet.f; rw [within_eq]; rfl
theorem l2Set_eq (x : Int) : spec_l2Set.f k x = some (decide (0 ≤ x ∧ x ≤ 63)) := by unfold spec_l2Set.f; rw [in_eq]; rfl
theorem containsFunc_eq (hk : Big ≤ k) (l : List Int) (hl : l.length ≤ 1048576) (p : Int → Option Bool) (q : Int → Bool) (hp : ∀ x ∈ l, p x = some (q x)) :
    slices_ContainsFunc_int_int.f k l p = some (l.any q) := by
  unfold slices_ContainsFunc_int_int.f slices_IndexFunc_int_int.f
  have := loop_find (l := slices_IndexFunc_int_int.l0 k l p) (N := l.length) (fun i => if h : i < l.length then (if q l[i] = true then some (i : Int) else none) else none) (z := .inl ()) (fun n i hi => by
    rw [slices_IndexFunc_int_int.l0]
    have h1 : ((i : Int) < (l.length : Int)) := by omega
    have hw : w64 ((i : Int) + 1) = ((i + 1 : Nat) : Int) := w64_id (by omega) (by omega)
    simp only [h1, decide_true, if_true, rdl_lt hi, Option.bind_some, hw, hp _ (List.getElem_mem hi), hi, dite_true]
    cases q l[i] <;> simp) (fun n => by rw [slices_IndexFunc_int_int.l0]; simp) (k := k) (by unfold Big at hk; omega)
  rw [this, Option.bind_some]
  cases hf : (List.range l.length).findSome? (fun i => if h : i < l.length then (if q l[i] = true then some (i : Int) else none) else none) with
  | none =>
    simp only [Lr, Option.bind_some]
    rw [List.findSome?_eq_none_iff] at hf
    have : l.any q = false := by
      rw [List.any_eq_false]
      intro x hx
      obtain ⟨i, hi, rfl⟩ := List.getElem_of_mem hx
      have := hf i (List.mem_range.2 hi)
      simpa [hi] using this
    simp [this]
  | some r =>
    simp only [Lr, Option.bind_some]
    obtain ⟨i, hi, h⟩ := List.exists_of_findSome?_eq_some hf
    have hi' := List.mem_range.1 hi
    simp only [hi', dite_true] at h
    split at h
    · rename_i h1; cases h
      have : l.any q = true := List.any_eq_true.2 ⟨_, List.getElem_mem hi', h1⟩
      simp [this]
    · cases h
theorem IsMaze_eq (hk : Big ≤ k) (n : Int) (d : List Door) (ks : List Int) (hd : d.length ≤ 1048576) (hl : ks.length ≤ 1048576) : impl_IsMaze.f k n d ks = some (decide (IsMaze n d ks)) := by
  unfold impl_IsMaze.f
  have hloop := loop_all (l := impl_IsMaze.l0 k n d) (N := d.length) (doorB n d) (z := false) (fun m i hi => by
    rw [impl_IsMaze.l0]
    have h1 : ((i : Int) < (d.length : Int)) := by omega
    have hw : w64 ((i : Int) + 1) = ((i + 1 : Nat) : Int) := w64_id (by omega) (by omega)
    simp only [h1, decide_true, if_true, rdl_lt hi, Option.bind_some, hw, isSet_eq]
    unfold doorB DoorOk
    rw [dif_pos hi]
    by_cases c1 : d[i].1 < 0
    · simp [c1, show ¬ (0 ≤ d[i].1) by omega]
    by_cases c2 : d[i].1 ≥ d[i].2.1
    · simp [c1, c2, show ¬ (d[i].1 < d[i].2.1) by omega]
    by_cases c3 : d[i].2.1 ≥ n
    · simp [c1, c2, c3, show ¬ (d[i].2.1 < n) by omega]
    by_cases c4 : 0 ≤ d[i].2.2 ∧ d[i].2.2 ≤ 63
    · have c : (0 ≤ d[i].1 ∧ d[i].1 < d[i].2.1 ∧ d[i].2.1 < n ∧ 0 ≤ d[i].2.2 ∧ d[i].2.2 ≤ 63) := ⟨by omega, by omega, by omega, c4⟩
      rcases Nat.eq_zero_or_pos i with rfl | hp
      · simp [c1, c2, c3, c4, c]
      · have e1 : w64 ((i : Int) - 1) = ((i - 1 : Nat) : Int) := by rw [w64_id (by omega) (by omega)]; omega
        have hi1 : i - 1 < d.length := by omega
        obtain ⟨cc, hc1, hc2, _⟩ := compareDoors_eq hk d[i - 1] d[i]
        have hp' : (i : Int) > 0 := by omega
        have hne : ¬ i = 0 := by omega
        simp only [c1, c2, c3, c4, decide_false, Bool.false_eq_true, if_false, decide_true, Bool.not_true, hp', if_true, e1, rdl_lt hi1, Option.bind_some, hc1, c, hne, Bool.true_and, Bool.false_or, and_self]
        by_cases hlt : DoorLt d[i - 1] d[i]
        · have : ¬ cc ≥ 0 := fun h => hc2.1 h hlt
          simp [hlt, this]
        · have : cc ≥ 0 := hc2.2 hlt
          simp [hlt, this]
    · simp [c1, c2, c3, c4, show ¬ (0 ≤ d[i].1 ∧ d[i].1 < d[i].2.1 ∧ d[i].2.1 < n ∧ 0 ≤ d[i].2.2 ∧ d[i].2.2 ≤ 63) from fun h => c4 h.2.2.2])
    (fun m => by rw [impl_IsMaze.l0]; simp) (k := k) (by unfold Big at hk; omega)
  rw [hloop, containsFunc_eq hk ks hl _ (fun x => !decide (0 ≤ x ∧ x ≤ 63)) (fun x _ => by simp [impl_IsMaze_1.f, isSet_eq]), within_eq]
  have hset : (∀ i, i < ks.length → setB ks i = true) ↔ ks.any (fun x => !decide (0 ≤ x ∧ x ≤ 63)) = false := by
    rw [List.any_eq_false]
    constructor
    · intro H x hx
      obtain ⟨i, hi, rfl⟩ := List.getElem_of_mem hx
      have := H i hi; simpa [setB, hi] using this
    · intro H i hi
      have := H _ (List.getElem_mem hi); simpa [setB, hi] using this
  simp only [Option.bind_some, Lr_ite]
  by_cases c1 : 1 ≤ n ∧ n ≤ 12
  rotate_left 1
  · have : ¬ IsMaze n d ks := fun h => c1 ⟨h.1, h.2.1⟩
    simp [c1, this]
  by_cases c2 : (d.length : Int) > 30
  · have : ¬ IsMaze n d ks := fun h => by have := h.2.2.1; omega
    simp [c1, c2, this]
  by_cases c3 : (ks.length : Int) = n
  rotate_left 1
  · have : ¬ IsMaze n d ks := fun h => c3 h.2.2.2.1
    simp [c1, c2, c3, this]
  by_cases c4 : ∀ i, i < d.length → doorB n d i = true
  rotate_left 1
  · have : ¬ IsMaze n d ks := fun h => c4 h.2.2.2.2.1
    simp only [c1, c2, c3, c4, this, decide_true, Bool.not_true, Bool.false_eq_true, if_false, decide_false, bne_self_eq_false, Option.bind_some, and_self]
  cases c5 : ks.any (fun x => !decide (0 ≤ x ∧ x ≤ 63)) with
  | true =>
    have : ¬ IsMaze n d ks := fun h => by have := hset.1 h.2.2.2.2.2; rw [c5] at this; cases this
    simp only [c1, c2, c3, c4, this, decide_true, Bool.not_true, Bool.false_eq_true, if_false, decide_false, bne_self_eq_false, Option.bind_some, and_self, if_true]
    simp
  | false =>
    have : IsMaze n d ks := ⟨c1.1, c1.2, by omega, c3, c4, hset.2 c5⟩
    simp only [c1, c2, c3, c4, this, decide_true, Bool.not_true, Bool.false_eq_true, if_false, decide_false, bne_self_eq_false, Option.bind_some, and_self, if_true]
    simp; exact c4
theorem l2Maze_eq (hk : Big ≤ k) (n : Int) (d : List Door) (ks : List Int) (hd : d.length ≤ 1048576) (hl : ks.length ≤ 1048576) : spec_l2Maze.f k n d ks = some (decide (IsMaze n d ks)) := by
  unfold spec_l2Maze.f
  rw [in_eq]
  by_cases c1 : 1 ≤ n ∧ n ≤ 12
  rotate_left 1
  · have : ¬ IsMaze n d ks := fun h => c1 ⟨h.1, h.2.1⟩
    simp [c1, this]
  by_cases c2 : (d.length : Int) > 30
  · have : ¬ IsMaze n d ks := fun h => by have := h.2.2.1; omega
    simp [c1, c2, this]
  by_cases c3 : (ks.length : Int) = n
  rotate_left 1
  · have : ¬ IsMaze n d ks := fun h => c3 h.2.2.2.1
    simp [c1, c2, c3, this]
  have e0 : w64 (n - 1) = n - 1 := w64_id (by omega) (by omega)
  have hloop := loop_all (l := spec_l2Maze.l0 k n d) (N := d.length) (doorB n d) (z := false) (fun m i hi => by
    rw [spec_l2Maze.l0]
    have h1 : ((i : Int) < (d.length : Int)) := by omega
    have hw : w64 ((i : Int) + 1) = ((i + 1 : Nat) : Int) := w64_id (by omega) (by omega)
    simp only [h1, decide_true, if_true, rdl_lt hi, Option.bind_some, hw, l2Set_eq, in_eq, e0]
    unfold doorB DoorOk
    rw [dif_pos hi]
    by_cases b1 : 0 ≤ d[i].1 ∧ d[i].1 ≤ n - 1
    rotate_left 1
    · have nn : ¬ (0 ≤ d[i].1 ∧ d[i].1 < d[i].2.1 ∧ d[i].2.1 < n ∧ 0 ≤ d[i].2.2 ∧ d[i].2.2 ≤ 63) := fun h => b1 ⟨h.1, by omega⟩
      rw [decide_eq_false nn]
      simp only [b1, decide_true, decide_false, Bool.not_true, Bool.not_false, Bool.false_eq_true, if_false, if_true, Bool.false_and, and_self, Option.bind_some]
    have e1 : w64 (d[i].1 + 1) = d[i].1 + 1 := w64_id (by omega) (by omega)
    rw [e1]
    by_cases b2 : d[i].1 + 1 ≤ d[i].2.1 ∧ d[i].2.1 ≤ n - 1
    rotate_left 1
    · have nn : ¬ (0 ≤ d[i].1 ∧ d[i].1 < d[i].2.1 ∧ d[i].2.1 < n ∧ 0 ≤ d[i].2.2 ∧ d[i].2.2 ≤ 63) := fun h => b2 ⟨by omega, by omega⟩
      rw [decide_eq_false nn]
      simp only [b1, b2, decide_true, decide_false, Bool.not_true, Bool.not_false, Bool.false_eq_true, if_false, if_true, Bool.false_and, and_self, Option.bind_some]
    by_cases b3 : 0 ≤ d[i].2.2 ∧ d[i].2.2 ≤ 63
    rotate_left 1
    · have nn : ¬ (0 ≤ d[i].1 ∧ d[i].1 < d[i].2.1 ∧ d[i].2.1 < n ∧ 0 ≤ d[i].2.2 ∧ d[i].2.2 ≤ 63) := fun h => b3 h.2.2.2
      rw [decide_eq_false nn]
      simp only [b1, b2, b3, decide_true, decide_false, Bool.not_true, Bool.not_false, Bool.false_eq_true, if_false, if_true, Bool.false_and, and_self, Option.bind_some]
    have c : (0 ≤ d[i].1 ∧ d[i].1 < d[i].2.1 ∧ d[i].2.1 < n ∧ 0 ≤ d[i].2.2 ∧ d[i].2.2 ≤ 63) := ⟨by omega, by omega, by omega, b3⟩
    rcases Nat.eq_zero_or_pos i with rfl | hp
    · simp [b1, b2, b3, c]
    · have e2 : w64 ((i : Int) - 1) = ((i - 1 : Nat) : Int) := by rw [w64_id (by omega) (by omega)]; omega
      have hi1 : i - 1 < d.length := by omega
      have hp' : (i : Int) > 0 := by omega
      have hne : ¬ i = 0 := by omega
      simp only [b1, b2, b3, decide_false, Bool.false_eq_true, if_false, decide_true, Bool.not_true, hp', if_true, e2, rdl_lt hi1, Option.bind_some, before_eq hk, c, hne, Bool.true_and, Bool.false_or, and_self]
      by_cases hlt : DoorLt d[i - 1] d[i] <;> simp [hlt])
    (fun m => by rw [spec_l2Maze.l0]; simp) (k := k) (by unfold Big at hk; omega)
  have hn : (ks.length : Int) = n := c3
  have hloop2 := loop_all (l := spec_l2Maze.l1 k n ks) (N := ks.length) (setB ks) (z := false) (fun m i hi => by
    rw [spec_l2Maze.l1]
    have h1 : ((i : Int) < n) := by omega
    have hw : w64 ((i : Int) + 1) = ((i + 1 : Nat) : Int) := w64_id (by omega) (by omega)
    simp only [h1, decide_true, if_true, rdl_lt hi, Option.bind_some, hw, l2Set_eq, setB, hi, dite_true]
    by_cases hs : 0 ≤ ks[i] ∧ ks[i] ≤ 63 <;> simp [hs])
    (fun m => by rw [spec_l2Maze.l1]; simp [hn]) (k := k) (by unfold Big at hk; omega)
  rw [hloop, hloop2]
  simp only [Option.bind_some, Lr_ite]
  by_cases c4 : ∀ i, i < d.length → doorB n d i = true
  rotate_left 1
  · have : ¬ IsMaze n d ks := fun h => c4 h.2.2.2.2.1
    simp only [c1, c2, c3, c4, this, decide_true, Bool.not_true, Bool.false_eq_true, if_false, decide_false, bne_self_eq_false, Option.bind_some, and_self]
  by_cases c5 : ∀ i, i < ks.length → setB ks i = true
  · have : IsMaze n d ks := ⟨c1.1, c1.2, by omega, c3, c4, c5⟩
    simp only [c1, c2, c3, this, decide_true, Bool.not_true, Bool.false_eq_true, if_false, decide_false, bne_self_eq_false, Option.bind_some, and_self, if_true]
    rw [if_pos c4, if_pos c5]
  · have : ¬ IsMaze n d ks := fun h => c5 h.2.2.2.2.2
    simp only [c1, c2, c3, this, decide_true, Bool.not_true, Bool.false_eq_true, if_false, decide_false, bne_self_eq_false, Option.bind_some, and_self, if_true]
    rw [if_pos c4, if_neg c5]
end
end Go.Proofs

/- Plain laws: D -/
namespace Go.Proofs
open Go Go.Ga Go.Ga.Wf
set_option linter.unusedVariables false
set_option linter.unusedSimpArgs false
section
variable {k : Nat}
def risingB (lo hi : Int) (l : List Int) (i : Nat) : Bool := if h : i < l.length then decide (lo ≤ l[i] ∧ l[i] ≤ hi) && (decide (i = 0) || decide (l[i - 1] < l[i])) else true
def IsTrapP (n : Int) (d : List Door) (ks tr : List Int) : Prop := IsMaze n d ks ∧ ∀ i, i < tr.length → risingB 0 ((d.length : Int) - 1) tr i = true
instance (n : Int) (d : List Door) (ks tr : List Int) : Decidable (IsTrapP n d ks tr) := by unfold IsTrapP; infer_instance
end
end Go.Proofs

/- Plain laws: E -/
namespace Go.Proofs
open Go Go.Ga Go.Ga.Wf
set_option linter.unusedVariables false
set_option linter.unusedSimpArgs false
section
variable {k : Nat}
/-- a door with its ends and its colours in bounds, for some node count of at most twelve -/
def Small (x : Door) : Prop := 0 ≤ x.1 ∧ x.1 < 12 ∧ 0 ≤ x.2.1 ∧ x.2.1 < 12 ∧ 0 ≤ x.2.2 ∧ x.2.2 ≤ 63
theorem IsMaze.small {n : Int} {d : List Door} {ks : List Int} (h : IsMaze n d ks) : ∀ x ∈ d, Small x := by
  intro x hx
  obtain ⟨i, hi, rfl⟩ := List.getElem_of_mem hx
  have h1 := h.2.2.2.2.1 i hi
  unfold doorB at h1
  rw [dif_pos hi, Bool.and_eq_true, decide_eq_true_eq] at h1
  have := h1.1; unfold DoorOk at this; unfold Small
  have := h.2.1
  omega
theorem IsMaze.keys {n : Int} {d : List Door} {ks : List Int} (h : IsMaze n d ks) : ∀ x ∈ ks, 0 ≤ x ∧ x ≤ 63 := by
  intro x hx
  obtain ⟨i, hi, rfl⟩ := List.getElem_of_mem hx
  have h1 := h.2.2.2.2.2 i hi
  simpa [setB, hi] using h1
/-- the door stands open to one who has h and leads from a to b -/
def goes (a b h : Int) (x : Door) : Bool := ((decide (x.1 = a) && decide (x.2.1 = b)) || (decide (x.2.1 = a) && decide (x.1 = b))) && subB x.2.2.toNat h.toNat
theorem has_eq (h c : Int) (hc : 0 ≤ c ∧ c ≤ 63) (hh : 0 ≤ h ∧ h ≤ 63) : impl_has.f k h c = some (subB c.toNat h.toNat) := by
  unfold impl_has.f
  obtain ⟨a, rfl⟩ := Int.eq_ofNat_of_zero_le hh.1
  obtain ⟨b, rfl⟩ := Int.eq_ofNat_of_zero_le hc.1
  rw [has_clr (by omega)]; rfl
theorem l2Has_eq (h c : Int) (hc : 0 ≤ c ∧ c ≤ 63) (hh : 0 ≤ h ∧ h ≤ 63) : spec_l2Has.f k h c = some (subB c.toNat h.toNat) := by
  unfold spec_l2Has.f
  obtain ⟨a, rfl⟩ := Int.eq_ofNat_of_zero_le hh.1
  obtain ⟨b, rfl⟩ := Int.eq_ofNat_of_zero_le hc.1
  rw [has_and (by omega) (by omega)]; rfl
theorem steps_eq (hk : Big ≤ k) (n : Int) (d : List Door) (ks : List Int) (a h : Int) (hd : d.length ≤ 1048576) (hs : ∀ x ∈ d, Small x) (hh : 0 ≤ h ∧ h ≤ 63) :
    ∃ m : Nat, impl_steps.f k n d ks a h = some (m : Int) ∧ m < 4096 ∧ ∀ t : Nat, m.testBit t = d.any (goes a (t : Int) h) := by
  unfold impl_steps.f
  let g : Nat → Int → Int := fun i s => if hi : i < d.length then
    (let s1 := if subB d[i].2.2.toNat h.toNat = true ∧ d[i].1 = a then bor s (shl 1 d[i].2.1) else s
     if subB d[i].2.2.toNat h.toNat = true ∧ d[i].2.1 = a then bor s1 (shl 1 d[i].1) else s1) else s
  have := loop_state (l := fun n s i => impl_steps.l0 k d a h n s i) (N := d.length) (g := g) (out := some) (fun i s => ∃ m : Nat, s = (m : Int) ∧ m < 4096 ∧ ∀ t : Nat, m.testBit t = (d.take i).any (goes a (t : Int) h)) (fun m i s hi hI => by
    obtain ⟨q, rfl, hq, hb⟩ := hI
    have sm := hs _ (List.getElem_mem hi)
    unfold Small at sm
    obtain ⟨u, hu⟩ := Int.eq_ofNat_of_zero_le sm.1
    obtain ⟨v, hv⟩ := Int.eq_ofNat_of_zero_le sm.2.2.1
    have hu12 : u < 12 := by omega
    have hv12 : v < 12 := by omega
    have hpu : 2 ^ u < 4096 := Nat.pow_lt_pow_right (a := 2) (by omega) hu12
    have hpv : 2 ^ v < 4096 := Nat.pow_lt_pow_right (a := 2) (by omega) hv12
    have e1 : ∀ z : Nat, z < 4096 → bor (z : Int) (shl 1 d[i].2.1) = ((z ||| 2 ^ v : Nat) : Int) := fun z hz => by
      rw [hv]; show bor (z : Int) (shl 1 ((v : Nat) : Int)) = _
      rw [shl_one (by omega), bor_nat (by omega) (by omega)]
    have e2 : ∀ z : Nat, z < 4096 → bor (z : Int) (shl 1 d[i].1) = ((z ||| 2 ^ u : Nat) : Int) := fun z hz => by
      rw [hu]; show bor (z : Int) (shl 1 ((u : Nat) : Int)) = _
      rw [shl_one (by omega), bor_nat (by omega) (by omega)]
    have hor : ∀ z y : Nat, z < 4096 → y < 4096 → z ||| y < 4096 := fun z y hz hy => Nat.or_lt_two_pow (n := 12) hz hy
    have htake : d.take (i + 1) = d.take i ++ [d[i]] := by rw [List.take_add_one, List.getElem?_eq_getElem hi]; rfl
    refine ⟨?_, ?_⟩
    · rw [impl_steps.l0]
      have h1 : ((i : Int) < (d.length : Int)) := by omega
      have hw : w64 ((i : Int) + 1) = ((i + 1 : Nat) : Int) := w64_id (by omega) (by omega)
      have n1 : ¬ d[i].1 < 0 := by omega
      have n2 : ¬ d[i].2.1 < 0 := by omega
      simp only [h1, decide_true, if_true, rdl_lt hi, Option.bind_some, hw, has_eq h d[i].2.2 (by omega) hh, n1, n2, not_false_eq_true, if_true, g, hi, dite_true]
      cases subB d[i].2.2.toNat h.toNat
      · simp
      · by_cases c1 : d[i].1 = a <;> by_cases c2 : d[i].2.1 = a <;> simp [c1, c2]
    · simp only [g, hi, dite_true]
      have hd2 : ∀ t : Nat, decide (d[i].2.1 = (t : Int)) = decide (v = t) := fun t => decide_eq_decide.2 (by omega)
      have hd1 : ∀ t : Nat, decide (d[i].1 = (t : Int)) = decide (u = t) := fun t => decide_eq_decide.2 (by omega)
      have hlast : ∀ t : Nat, (d.take (i + 1)).any (goes a (t : Int) h) = (q.testBit t || (((decide (d[i].1 = a) && decide (v = t)) || (decide (d[i].2.1 = a) && decide (u = t))) && subB d[i].2.2.toNat h.toNat)) := fun t => by
        rw [htake, List.any_append, hb t]
        simp only [List.any_cons, List.any_nil, Bool.or_false, goes, hd1, hd2]
      cases hsb : subB d[i].2.2.toNat h.toNat with
      | false => exact ⟨q, by simp, hq, fun t => by rw [hlast t, hsb]; simp⟩
      | true =>
        by_cases c1 : d[i].1 = a <;> by_cases c2 : d[i].2.1 = a
        · exact ⟨q ||| 2 ^ v ||| 2 ^ u, by rw [if_pos ⟨rfl, c2⟩, if_pos ⟨rfl, c1⟩, e1 q hq, e2 _ (hor _ _ hq hpv)], hor _ _ (hor _ _ hq hpv) hpu, fun t => by
            rw [hlast t, hsb]; simp [c1, c2, Nat.testBit_or, Nat.testBit_two_pow]; cases q.testBit t <;> simp⟩
        · exact ⟨q ||| 2 ^ v, by rw [if_neg (fun h => c2 h.2), if_pos ⟨rfl, c1⟩, e1 q hq], hor _ _ hq hpv, fun t => by
            rw [hlast t, hsb]; simp [c1, c2, Nat.testBit_or, Nat.testBit_two_pow]⟩
        · exact ⟨q ||| 2 ^ u, by rw [if_pos ⟨rfl, c2⟩, if_neg (fun h => c1 h.2), e2 q hq], hor _ _ hq hpu, fun t => by
            rw [hlast t, hsb]; simp [c1, c2, Nat.testBit_or, Nat.testBit_two_pow]⟩
        · exact ⟨q, by simp [c1, c2], hq, fun t => by rw [hlast t, hsb]; simp [c1, c2]⟩)
    (fun m s _ => by show impl_steps.l0 k d a h (m + 1) s (d.length : Int) = _; rw [impl_steps.l0]; simp) (k := k) (by unfold Big at hk; omega) (s := 0) ⟨0, rfl, by omega, by simp⟩
  obtain ⟨h1, m, h2, h3, h4⟩ := this
  refine ⟨m, ?_, h3, ?_⟩
  · rw [h1, h2]; rfl
  · intro t; rw [h4 t, List.take_length]
end
end Go.Proofs

/- Plain laws: F -/
namespace Go.Proofs
open Go Go.Ga Go.Ga.Wf
set_option linter.unusedVariables false
set_option linter.unusedSimpArgs false
section
variable {k : Nat}
theorem szo_pos {a : Nat} (h : (a : Int) ≤ 1048576) : decide (szo 1048576 a < 0) = false := by unfold szo; rw [if_pos h]; simp; omega
theorem szo_neg {a : Nat} (h : ¬ (a : Int) ≤ 1048576) : decide (szo 1048576 a < 0) = true := by unfold szo; rw [if_neg h]; rfl
end
end Go.Proofs

/- Plain laws: G -/
namespace Go.Proofs
open Go Go.Ga Go.Ga.Wf
set_option linter.unusedVariables false
set_option linter.unusedSimpArgs false
section
variable {k : Nat}
def ups (m : Int) (n : Nat) : List Int := (List.range n).map fun i => m + (i : Nat)
def ups3 (m : Int) (n : Nat) : List Door := (List.range n).map fun i => (m + 3 * (i : Nat), m + 3 * (i : Nat) + 1, m + 3 * (i : Nat) + 2)
theorem ups_length (m : Int) (n : Nat) : (ups m n).length = n := by simp [ups]
theorem ups3_length (m : Int) (n : Nat) : (ups3 m n).length = n := by simp [ups3]
theorem ups_get {m : Int} {n i : Nat} (h : i < n) : (ups m n)[i]'(by rw [ups_length]; exact h) = m + i := by simp [ups]
theorem markIntS_eq (hk : Big ≤ k) (l : List Int) (m : Int) (h0 : 0 ≤ m) (hm : m ≤ 1073741824) (hl : l.length ≤ 1048576) : laws_markIntS.f k l m = some (m + l.length, ups m l.length) := by
  unfold laws_markIntS.f
  have := loop_state (l := fun n (s : List Int × Int) i => laws_markIntS.l0 k n s.1 s.2 i) (N := l.length) (g := fun i s => (s.1.set i s.2, s.2 + 1)) (out := fun s => some (s.2, s.1))
    (fun i s => s.2 = m + i ∧ s.1.length = l.length ∧ ∀ j, j < i → s.1[j]? = some (m + (j : Nat))) (fun n i s hi hI => by
      obtain ⟨h1, h2, h3⟩ := hI
      have e1 : ((i : Int) < (s.1.length : Int)) := by omega
      have hw : w64 ((i : Int) + 1) = ((i + 1 : Nat) : Int) := w64_id (by omega) (by omega)
      have hw2 : w64 (s.2 + 1) = s.2 + 1 := w64_id (by omega) (by omega)
      refine ⟨?_, ?_, ?_, ?_⟩
      · show laws_markIntS.l0 k (n + 1) s.1 s.2 (i : Int) = _
        rw [laws_markIntS.l0]
        simp only [e1, decide_true, if_true, rdl_lt (show i < s.1.length by omega), Option.bind_some, hw, hw2, Int.toNat_natCast]
      · show s.2 + 1 = _; rw [h1]; omega
      · simpa using h2
      · intro j hj
        show (s.1.set i s.2)[j]? = _
        rcases Nat.eq_or_lt_of_le (Nat.le_of_lt_succ hj) with rfl | h
        · rw [List.getElem?_set_self (by omega), h1]
        · rw [List.getElem?_set_ne (by omega)]; exact h3 j h)
    (fun n s hI => by
      show laws_markIntS.l0 k (n + 1) s.1 s.2 (l.length : Int) = _
      rw [laws_markIntS.l0, hI.2.1]; simp) (k := k) (by unfold Big at hk; omega) (s := (l, m)) ⟨by simp, rfl, fun j hj => by omega⟩
  obtain ⟨h1, h2, h3, h4⟩ := this
  simp only at h1
  rw [h1, Option.bind_some]
  have e : (itr (fun i (s : List Int × Int) => (s.1.set i s.2, s.2 + 1)) l.length 0 (l, m)).1 = ups m l.length := by
    refine List.ext_getElem? fun j => ?_
    rcases Nat.lt_or_ge j l.length with h | h
    · rw [h4 j h, List.getElem?_eq_getElem (by rw [ups_length]; exact h), ups_get h]
    · rw [List.getElem?_eq_none (by omega), List.getElem?_eq_none (by rw [ups_length]; exact h)]
  rw [e, h2]
theorem heldIntS_eq (hk : Big ≤ k) (n : Nat) (m : Int) (h0 : 0 ≤ m) (hm : m ≤ 1073741824) (hl : n ≤ 1048576) : laws_heldIntS.f k (ups m n) m = some (m + n) := by
  unfold laws_heldIntS.f
  have hlen := ups_length m n
  have := loop_exit (R := Int) (T := Int) (l := fun q (s : Int) i => laws_heldIntS.l0 k (ups m n) q s i) (N := n) (g := fun _ s => .inl (s + 1)) (out := fun s => some (.inl s)) (fun i s => s = m + i) (fun q i s hi hI => by
      left
      have e1 : ((i : Int) < ((ups m n).length : Int)) := by omega
      have hw : w64 ((i : Int) + 1) = ((i + 1 : Nat) : Int) := w64_id (by omega) (by omega)
      have hw2 : w64 (s + 1) = s + 1 := w64_id (by omega) (by omega)
      refine ⟨_, rfl, ?_, by omega⟩
      rw [laws_heldIntS.l0]
      simp only [e1, decide_true, if_true, rdl_lt (show i < (ups m n).length by omega), ups_get hi, Option.bind_some, hI, bne_self_eq_false, Bool.false_eq_true, if_false, hw]
      rw [← hI, hw2])
    (fun q s hI => by rw [laws_heldIntS.l0, hlen]; simp) (k := k) (by unfold Big at hk; omega) (s := m) (by simp)
  rw [this]
  have e : ∀ p i s, itx (R := Int) (fun _ (s : Int) => .inl (s + 1)) p i s = .inl (s + p) := by
    intro p
    induction p with
    | zero => intro i s; simp [itx]
    | succ p ih => intro i s; simp only [itx]; rw [ih]; congr 1; omega
  rw [e]
  rfl
theorem rdl_set {α : Type} {l : List α} {i : Nat} {x : α} (h : i < l.length) : rdl (l.set i x) (i : Int) = some x := by
  rw [rdl_lt (by simpa using h)]; simp
theorem markA3_l1 (hk : Big ≤ k) (l : List Door) (i : Nat) (hi : i < l.length) (m : Int) (h0 : 0 ≤ m) (hm : m ≤ 2147483648) : laws_markIntA3S.l1 k (i : Int) k l m 0 = some (l.set i (m, m + 1, m + 2), m + 3) := by
  obtain ⟨n, rfl⟩ := big_split hk
  have w1 : w64 (m + 1) = m + 1 := w64_id (by omega) (by omega)
  have w2 : w64 (m + 1 + 1) = m + 2 := by rw [w64_id (by omega) (by omega)]; omega
  have w3 : w64 (m + 2 + 1) = m + 3 := by rw [w64_id (by omega) (by omega)]; omega
  simp [laws_markIntA3S.l1, w64_1, w64_2, w64_3, rdl3_0, rdl3_1, rdl3_2, rdl_lt hi, rdl_set hi, w1, w2, w3, List.set_set]
theorem ups3_get {m : Int} {n i : Nat} (h : i < n) : (ups3 m n)[i]'(by rw [ups3_length]; exact h) = (m + 3 * (i : Nat), m + 3 * (i : Nat) + 1, m + 3 * (i : Nat) + 2) := by simp [ups3]
theorem markIntA3S_eq (hk : Big ≤ k) (l : List Door) (m : Int) (h0 : 0 ≤ m) (hm : m ≤ 1073741824) (hl : l.length ≤ 1048576) : laws_markIntA3S.f k l m = some (m + 3 * l.length, ups3 m l.length) := by
  unfold laws_markIntA3S.f
  have := loop_state (l := fun n (s : List Door × Int) i => laws_markIntA3S.l0 k n s.1 s.2 i) (N := l.length) (g := fun i s => (s.1.set i (s.2, s.2 + 1, s.2 + 2), s.2 + 3)) (out := fun s => some (s.2, s.1))
    (fun i s => s.2 = m + 3 * i ∧ s.1.length = l.length ∧ ∀ j, j < i → s.1[j]? = some (m + 3 * (j : Nat), m + 3 * (j : Nat) + 1, m + 3 * (j : Nat) + 2)) (fun n i s hi hI => by
      obtain ⟨h1, h2, h3⟩ := hI
      have e1 : ((i : Int) < (s.1.length : Int)) := by omega
      have hw : w64 ((i : Int) + 1) = ((i + 1 : Nat) : Int) := w64_id (by omega) (by omega)
      refine ⟨?_, ?_, ?_, ?_⟩
      · show laws_markIntA3S.l0 k (n + 1) s.1 s.2 (i : Int) = _
        rw [laws_markIntA3S.l0]
        simp only [e1, decide_true, if_true, markA3_l1 hk s.1 i (by omega) s.2 (by omega) (by omega), Option.bind_some, hw]
      · show s.2 + 3 = _; rw [h1]; omega
      · simpa using h2
      · intro j hj
        show (s.1.set i (s.2, s.2 + 1, s.2 + 2))[j]? = _
        rcases Nat.eq_or_lt_of_le (Nat.le_of_lt_succ hj) with rfl | h
        · rw [List.getElem?_set_self (by omega), h1]
        · rw [List.getElem?_set_ne (by omega)]; exact h3 j h)
    (fun n s hI => by
      show laws_markIntA3S.l0 k (n + 1) s.1 s.2 (l.length : Int) = _
      rw [laws_markIntA3S.l0, hI.2.1]; simp) (k := k) (by unfold Big at hk; omega) (s := (l, m)) ⟨by simp, rfl, fun j hj => by omega⟩
  obtain ⟨h1, h2, h3, h4⟩ := this
  simp only at h1
  rw [h1, Option.bind_some]
  have e : (itr (fun i (s : List Door × Int) => (s.1.set i (s.2, s.2 + 1, s.2 + 2), s.2 + 3)) l.length 0 (l, m)).1 = ups3 m l.length := by
    refine List.ext_getElem? fun j => ?_
    rcases Nat.lt_or_ge j l.length with h | h
    · rw [h4 j h, List.getElem?_eq_getElem (by rw [ups3_length]; exact h), ups3_get h]
    · rw [List.getElem?_eq_none (by omega), List.getElem?_eq_none (by rw [ups3_length]; exact h)]
  rw [e, h2]
theorem markMaze_eq (hk : Big ≤ k) (n : Int) (d : List Door) (ks : List Int) (m : Int) (h0 : 0 ≤ m) (hm : m ≤ 536870912) (hd : d.length ≤ 1048576) (hl : ks.length ≤ 1048576) :
    laws_markMaze.f k n d ks m = some (m + 3 * d.length + ks.length, ups3 m d.length, ups (m + 3 * d.length) ks.length) := by
  unfold laws_markMaze.f
  rw [markIntA3S_eq hk d m h0 (by omega) hd, Option.bind_some]
  simp only [markIntS_eq hk ks (m + 3 * d.length) (by omega) (by omega) hl, Option.bind_some]
end
end Go.Proofs

/- Plain laws: H -/
namespace Go.Proofs
open Go Go.Ga Go.Ga.Wf
/-! loops that go on as long as there is something to do -/
theorem loop_res {S β : Type} {l : Nat → S → Option β} (Inv : S → Prop) (mu : S → Nat) (res : S → β)
    (hs : ∀ n s, Inv s → (∃ s', l (n + 1) s = l n s' ∧ res s' = res s ∧ Inv s' ∧ mu s' < mu s) ∨ l (n + 1) s = some (res s)) : ∀ k s, mu s < k → Inv s → l k s = some (res s) := by
  intro k
  induction k with
  | zero => intro s h; omega
  | succ k ih =>
    intro s h hI
    rcases hs k s hI with ⟨s', h1, h2, h3, h4⟩ | h1
    · rw [h1, ih s' (by omega) h3, h2]
    · exact h1
theorem loop_good {S β : Type} {l : Nat → S → Option β} (Inv : S → Prop) (mu : S → Nat) (Good : β → Prop)
    (hs : ∀ n s, Inv s → (∃ s', l (n + 1) s = l n s' ∧ Inv s' ∧ mu s' < mu s) ∨ (∃ r, l (n + 1) s = some r ∧ Good r)) : ∀ k s, mu s < k → Inv s → ∃ r, l k s = some r ∧ Good r := by
  intro k
  induction k with
  | zero => intro s h; omega
  | succ k ih =>
    intro s h hI
    rcases hs k s hI with ⟨s', h1, h3, h4⟩ | h1
    · obtain ⟨r, h5, h6⟩ := ih s' (by omega) h3
      exact ⟨r, by rw [h1, h5], h6⟩
    · exact h1
/-- two rising lists of the same members -/
theorem sorted_ext : ∀ {a b : List Int}, a.Pairwise (· < ·) → b.Pairwise (· < ·) → (∀ x, x ∈ a ↔ x ∈ b) → a = b
  | [], [], _, _, _ => rfl
  | [], y :: b, _, _, h => by have := (h y).2 (List.mem_cons_self ..); cases this
  | x :: a, [], _, _, h => by have := (h x).1 (List.mem_cons_self ..); cases this
  | x :: a, y :: b, ha, hb, h => by
    rw [List.pairwise_cons] at ha hb
    have hxy : x = y := by
      rcases List.mem_cons.1 ((h x).1 (List.mem_cons_self ..)) with h1 | h1
      · exact h1
      · rcases List.mem_cons.1 ((h y).2 (List.mem_cons_self ..)) with h2 | h2
        · exact h2.symm
        · have := hb.1 x h1; have := ha.1 y h2; omega
    subst hxy
    rw [sorted_ext ha.2 hb.2 (fun z => ?_)]
    constructor
    · intro hz
      rcases List.mem_cons.1 ((h z).1 (List.mem_cons_of_mem _ hz)) with h1 | h1
      · have := ha.1 z hz; omega
      · exact h1
    · intro hz
      rcases List.mem_cons.1 ((h z).2 (List.mem_cons_of_mem _ hz)) with h1 | h1
      · have := hb.1 z hz; omega
      · exact h1
/-- the number with the digits p, below n -/
def bitsOf (p : Nat → Bool) : Nat → Nat
  | 0 => 0
  | n + 1 => bitsOf p n ||| (if p n = true then 2 ^ n else 0)
theorem bitsOf_test (p : Nat → Bool) : ∀ n t, (bitsOf p n).testBit t = (decide (t < n) && p t)
  | 0, t => by simp [bitsOf]
  | n + 1, t => by
    rw [bitsOf, Nat.testBit_or, bitsOf_test p n t]
    by_cases h : t = n
    · subst h; cases p t <;> simp [Nat.testBit_two_pow_self]
    · have h1 : decide (t < n + 1) = decide (t < n) := decide_eq_decide.2 (by omega)
      have h2 : (if p n = true then 2 ^ n else 0 : Nat).testBit t = false := by
        split
        · rw [Nat.testBit_two_pow]; simp; omega
        · simp
      rw [h1, h2, Bool.or_false]
theorem bitsOf_lt (p : Nat → Bool) (n : Nat) : bitsOf p n < 2 ^ n := Nat.lt_pow_two_of_testBit _ fun i hi => by rw [bitsOf_test]; simp; omega
/-- the digits that stand, ascending -/
def upto (m n : Nat) : List Int := ((List.range n).filter fun t => m.testBit t).map fun (t : Nat) => (t : Int)
theorem mem_upto {m n : Nat} {x : Int} : x ∈ upto m n ↔ ∃ t : Nat, t < n ∧ m.testBit t = true ∧ x = t := by
  unfold upto
  simp only [List.mem_map, List.mem_filter, List.mem_range]
  constructor
  · rintro ⟨t, ⟨h1, h2⟩, rfl⟩; exact ⟨t, h1, h2, rfl⟩
  · rintro ⟨t, h1, h2, rfl⟩; exact ⟨t, ⟨h1, h2⟩, rfl⟩
theorem upto_sorted (m n : Nat) : (upto m n).Pairwise (· < ·) := by
  unfold upto
  rw [List.pairwise_map]
  refine List.Pairwise.imp (fun {a b} (h : a < b) => by omega) (List.Pairwise.filter _ List.pairwise_lt_range)
theorem upto_succ (m n : Nat) : upto m (n + 1) = upto m n ++ (if m.testBit n = true then [(n : Int)] else []) := by
  unfold upto
  rw [List.range_succ, List.filter_append, List.map_append]
  congr 1
  by_cases h : m.testBit n = true <;> simp [h]
theorem upto_more {m n n' : Nat} (hm : m < 2 ^ n) (h : n ≤ n') : upto m n' = upto m n := by
  induction n' with
  | zero => have : n = 0 := by omega
            rw [this]
  | succ n' ih =>
    rcases Nat.eq_or_lt_of_le h with h | h
    · rw [h]
    · rw [upto_succ, ih (by omega), Nat.testBit_lt_two_pow (Nat.lt_of_lt_of_le hm (Nat.pow_le_pow_right (by omega) (by omega)))]; simp
theorem upto_length (m n : Nat) : (upto m n).length ≤ n := by
  unfold upto
  rw [List.length_map]
  exact Nat.le_trans (List.length_filter_le _ _) (by simp)
/-! what is reached -/
inductive Rch (d : List Door) (h x : Int) : Int → Prop
  | here : Rch d h x x
  | step {y z : Int} : Rch d h x y → d.any (goes y z h) = true → Rch d h x z
theorem goes_small {d : List Door} (hs : ∀ x ∈ d, Small x) {y z h : Int} (hg : d.any (goes y z h) = true) : (0 ≤ y ∧ y < 12) ∧ 0 ≤ z ∧ z < 12 := by
  obtain ⟨x, hx, hg⟩ := List.any_eq_true.1 hg
  have sm := hs x hx
  unfold Small at sm
  unfold goes at hg
  simp only [Bool.and_eq_true, Bool.or_eq_true, decide_eq_true_eq] at hg
  omega
theorem Rch.small {d : List Door} (hs : ∀ x ∈ d, Small x) {h x z : Int} (hx : 0 ≤ x ∧ x < 12) (hr : Rch d h x z) : 0 ≤ z ∧ z < 12 := by
  cases hr with
  | here => exact hx
  | step _ hg => exact (goes_small hs hg).2
open Classical in
noncomputable def reachN (d : List Door) (x h : Int) : Nat := bitsOf (fun t => decide (Rch d h x (t : Int))) 12
theorem reachN_lt (d : List Door) (x h : Int) : reachN d x h < 4096 := bitsOf_lt _ 12
theorem reachN_test {d : List Door} {x h : Int} (hs : ∀ x ∈ d, Small x) (hx : 0 ≤ x ∧ x < 12) (t : Nat) : (reachN d x h).testBit t = true ↔ Rch d h x (t : Int) := by
  unfold reachN
  rw [bitsOf_test]
  constructor
  · intro h1; simp at h1; exact h1.2
  · intro h1
    have := h1.small hs hx
    simp [h1]; omega
theorem reachN_eq {d : List Door} {x h : Int} (hs : ∀ x ∈ d, Small x) (hx : 0 ≤ x ∧ x < 12) {r : Nat} (hr : r < 4096) (h1 : ∀ t : Nat, t < 12 → (r.testBit t = true ↔ Rch d h x (t : Int))) : r = reachN d x h := by
  apply Nat.eq_of_testBit_eq
  intro t
  rw [Bool.eq_iff_iff, reachN_test hs hx]
  by_cases ht : t < 12
  · exact h1 t ht
  · constructor
    · intro h2
      rw [Nat.testBit_lt_two_pow (Nat.lt_of_lt_of_le hr (Nat.pow_le_pow_right (n := 2) (by omega) (by omega : 12 ≤ t)))] at h2
      cases h2
    · intro h2; have := h2.small hs hx; omega
/-- the nodes, ascending -/
noncomputable def nodesL (d : List Door) (x h : Int) : List Int := upto (reachN d x h) 12
theorem mem_nodesL {d : List Door} {x h : Int} (hs : ∀ x ∈ d, Small x) (hx : 0 ≤ x ∧ x < 12) {z : Int} : z ∈ nodesL d x h ↔ Rch d h x z := by
  unfold nodesL
  rw [mem_upto]
  constructor
  · rintro ⟨t, _, h2, rfl⟩; exact (reachN_test hs hx t).1 h2
  · intro hr
    have := hr.small hs hx
    obtain ⟨t, rfl⟩ := Int.eq_ofNat_of_zero_le this.1
    exact ⟨t, by omega, (reachN_test hs hx t).2 hr, rfl⟩
/-! doors and keys within bounds -/
def DoorIn (n : Int) (x : Door) : Prop := 0 ≤ x.1 ∧ x.1 < n ∧ 0 ≤ x.2.1 ∧ x.2.1 < n ∧ 0 ≤ x.2.2 ∧ x.2.2 ≤ 63
structure Okm (n : Int) (d : List Door) (ks : List Int) : Prop where
  lo : 1 ≤ n
  hi : n ≤ 12
  few : d.length ≤ 1048576
  len : (ks.length : Int) = n
  doors : ∀ x ∈ d, DoorIn n x
  keys : ∀ x ∈ ks, 0 ≤ x ∧ x ≤ 63
theorem IsMaze.okm {n : Int} {d : List Door} {ks : List Int} (h : IsMaze n d ks) : Okm n d ks where
  lo := h.1
  hi := h.2.1
  few := by have := h.2.2.1; omega
  len := h.2.2.2.1
  doors := fun x hx => by
    obtain ⟨i, hi, rfl⟩ := List.getElem_of_mem hx
    have h1 := h.2.2.2.2.1 i hi
    unfold doorB at h1
    rw [dif_pos hi, Bool.and_eq_true, decide_eq_true_eq] at h1
    have := h1.1; unfold DoorOk at this; unfold DoorIn
    omega
  keys := h.keys
theorem Okm.small {n : Int} {d : List Door} {ks : List Int} (h : Okm n d ks) : ∀ x ∈ d, Small x := fun x hx => by
  have h1 := h.doors x hx
  have h2 := h.hi
  unfold DoorIn at h1; unfold Small
  omega
theorem Rch.lt {n : Int} {d : List Door} {ks : List Int} (hm : Okm n d ks) {h x z : Int} (hx : 0 ≤ x ∧ x < n) (hr : Rch d h x z) : 0 ≤ z ∧ z < n := by
  cases hr with
  | here => exact hx
  | step _ hg =>
    obtain ⟨y, hy, hg⟩ := List.any_eq_true.1 hg
    have sm := hm.doors y hy
    unfold DoorIn at sm
    unfold goes at hg
    simp only [Bool.and_eq_true, Bool.or_eq_true, decide_eq_true_eq] at hg
    omega
theorem nodesL_lt {n : Int} {d : List Door} {ks : List Int} (hm : Okm n d ks) {h x z : Int} (hx : 0 ≤ x ∧ x < n) (hz : z ∈ nodesL d x h) : 0 ≤ z ∧ z < n :=
  Rch.lt hm hx ((mem_nodesL hm.small (by have := hm.hi; omega)).1 hz)
/-! what one has -/
def gain (ks l : List Int) (h : Int) : Int := l.foldl (fun s x => bor s (ks.getD x.toNat 0)) h
theorem bor_le63 {a b : Int} (ha : 0 ≤ a ∧ a ≤ 63) (hb : 0 ≤ b ∧ b ≤ 63) : (0 ≤ bor a b ∧ bor a b ≤ 63) ∧ a ≤ bor a b := by
  obtain ⟨x, rfl⟩ := Int.eq_ofNat_of_zero_le ha.1
  obtain ⟨y, rfl⟩ := Int.eq_ofNat_of_zero_le hb.1
  have e : bor (x : Int) (y : Int) = ((x ||| y : Nat) : Int) := bor_nat (by omega) (by omega)
  have h1 : x ||| y < 64 := Nat.or_lt_two_pow (n := 6) (by omega) (by omega)
  have h2 : x ≤ x ||| y := Nat.left_le_or
  rw [e]; omega
theorem keys_getD {ks : List Int} (hk : ∀ x ∈ ks, 0 ≤ x ∧ x ≤ 63) (i : Nat) : 0 ≤ ks.getD i 0 ∧ ks.getD i 0 ≤ 63 := by
  by_cases h : i < ks.length
  · rw [List.getD_eq_getElem?_getD, List.getElem?_eq_getElem h]; exact hk _ (List.getElem_mem h)
  · rw [List.getD_eq_getElem?_getD, List.getElem?_eq_none (by omega)]; simp
theorem gain_le {ks : List Int} (hk : ∀ x ∈ ks, 0 ≤ x ∧ x ≤ 63) : ∀ (l : List Int) {h : Int}, 0 ≤ h ∧ h ≤ 63 → (0 ≤ gain ks l h ∧ gain ks l h ≤ 63) ∧ h ≤ gain ks l h
  | [], h, hh => ⟨hh, Int.le_refl _⟩
  | x :: l, h, hh => by
    have h1 := bor_le63 hh (keys_getD hk x.toNat)
    have h2 := gain_le hk l h1.1
    have e : gain ks (x :: l) h = gain ks l (bor h (ks.getD x.toNat 0)) := rfl
    rw [e]
    exact ⟨h2.1, Int.le_trans h1.2 h2.2⟩
noncomputable def nextH (d : List Door) (ks : List Int) (h : Int) : Int := gain ks (nodesL d 0 h) h
theorem nextH_le {n : Int} {d : List Door} {ks : List Int} (hm : Okm n d ks) {h : Int} (hh : 0 ≤ h ∧ h ≤ 63) : (0 ≤ nextH d ks h ∧ nextH d ks h ≤ 63) ∧ h ≤ nextH d ks h := gain_le hm.keys _ hh
/-- what one has at the beginning of each round -/
noncomputable def chain (d : List Door) (ks : List Int) : Nat → Int → List Int
  | 0, h => [h]
  | f + 1, h => if nextH d ks h = h then [h] else h :: chain d ks f (nextH d ks h)
noncomputable def lastH (d : List Door) (ks : List Int) : Nat → Int → Int
  | 0, h => h
  | f + 1, h => if nextH d ks h = h then h else lastH d ks f (nextH d ks h)
theorem chain_ne (d : List Door) (ks : List Int) (f : Nat) (h : Int) : chain d ks f h ≠ [] := by
  cases f with
  | zero => simp [chain]
  | succ f => unfold chain; split <;> simp
theorem chain_last (d : List Door) (ks : List Int) : ∀ f h, (chain d ks f h).getLast? = some (lastH d ks f h)
  | 0, h => rfl
  | f + 1, h => by
    unfold chain lastH
    by_cases hc : nextH d ks h = h
    · rw [if_pos hc, if_pos hc]; rfl
    · rw [if_neg hc, if_neg hc, List.getLast?_cons, chain_last d ks f]; rfl
theorem chain_length (d : List Door) (ks : List Int) : ∀ f h, (chain d ks f h).length ≤ f + 1
  | 0, h => by simp [chain]
  | f + 1, h => by
    unfold chain; split
    · simp
    · have := chain_length d ks f (nextH d ks h); simp; omega
/-- more rounds than there are colours change nothing -/
theorem lastH_more {n : Int} {d : List Door} {ks : List Int} (hm : Okm n d ks) : ∀ (f g : Nat) {h : Int}, 0 ≤ h ∧ h ≤ 63 → 63 - h < f → f ≤ g → lastH d ks g h = lastH d ks f h ∧ chain d ks g h = chain d ks f h
  | 0, _, h, hh, h1, _ => by omega
  | f + 1, 0, h, hh, h1, h2 => by omega
  | f + 1, g + 1, h, hh, h1, h2 => by
    have hn := nextH_le hm hh
    by_cases hc : nextH d ks h = h
    · simp only [lastH, chain, if_pos hc]; exact ⟨trivial, trivial⟩
    · have ih := lastH_more hm f g hn.1 (by omega) (by omega)
      simp only [lastH, chain, if_neg hc, ih.1, ih.2]; exact ⟨trivial, trivial⟩
noncomputable def winsB (n : Int) (d : List Door) (ks : List Int) (first : Int) : Bool := (reachN d 0 (lastH d ks 64 first)).testBit (n - 1).toNat
end Go.Proofs

/- Plain laws: I -/
namespace Go.Proofs
open Go Go.Ga Go.Ga.Wf
set_option linter.unusedVariables false
set_option linter.unusedSimpArgs false
section
variable {k : Nat}
theorem clone3_eq (l : List Door) (hl : l.length ≤ 1048576) : slices_Clone__3int__3int.f k l = some l := by
  unfold slices_Clone__3int__3int.f; rw [List.nil_append, if_pos (by omega)]
theorem clone_eq (l : List Int) (hl : l.length ≤ 1048576) : slices_Clone_int_int.f k l = some l := by
  unfold slices_Clone_int_int.f; rw [List.nil_append, if_pos (by omega)]
theorem own_eq (n : Int) (d : List Door) (ks : List Int) (hd : d.length ≤ 1048576) (hl : ks.length ≤ 1048576) : impl_own.f k n d ks = some (n, d, ks) := by
  unfold impl_own.f; rw [clone3_eq d hd, Option.bind_some, clone_eq ks hl]; rfl
theorem l1Own_eq (l : List Int) (hl : l.length ≤ 1048576) : spec_l1Own.f k l = some l := by
  unfold spec_l1Own.f; rw [List.nil_append, if_pos (by omega)]
theorem l2Own_eq (n : Int) (d : List Door) (ks : List Int) (hd : d.length ≤ 1048576) (hl : ks.length ≤ 1048576) : spec_l2Own.f k n d ks = some (n, d, ks) := by
  unfold spec_l2Own.f; rw [List.nil_append, if_pos (by omega), l1Own_eq ks hl]; rfl
/-! a trap -/
end
end Go.Proofs

/- Plain laws: J -/
namespace Go.Proofs
open Go Go.Ga Go.Ga.Wf
set_option linter.unusedVariables false
set_option linter.unusedSimpArgs false
section
variable {k : Nat}
theorem l1Has_eq (hk : Big ≤ k) (l : List Int) (x : Int) (hl : l.length ≤ 1048576) : spec_l1Has.f k l x = some (l.contains x) := by
  unfold spec_l1Has.f
  rw [loop_all (l := spec_l1Has.l0 k l x) (N := l.length) (fun i => if h : i < l.length then l[i] != x else true) (z := true) (fun n i hi => by
    rw [spec_l1Has.l0]
    have h1 : ((i : Int) < (l.length : Int)) := by omega
    have hw : w64 ((i : Int) + 1) = ((i + 1 : Nat) : Int) := w64_id (by omega) (by omega)
    simp only [h1, decide_true, if_true, rdl_lt hi, Option.bind_some, hi, dite_true, hw]
    cases h3 : l[i] == x <;> simp [bne, h3]) (fun n => by
    rw [spec_l1Has.l0]; simp) (k := k) (by unfold Big at hk; omega)]
  simp only [Option.bind_some, Lr_ite]
  by_cases h : x ∈ l
  · have hc : l.contains x = true := by simpa using h
    rw [hc, if_neg]
    intro H
    obtain ⟨i, hi, rfl⟩ := List.getElem_of_mem h
    have := H i hi; simp [hi] at this
  · have hc : l.contains x = false := by simpa using h
    rw [hc, if_pos]
    intro i hi
    simp only [hi, dite_true, bne_iff_ne, ne_eq]
    intro e; exact h (e ▸ List.getElem_mem hi)
end
end Go.Proofs

/- Plain laws: K -/
namespace Go.Proofs
open Go Go.Ga Go.Ga.Wf
set_option linter.unusedVariables false
set_option linter.unusedSimpArgs false
theorem bit1_nat {a t : Nat} (ha : a < 9223372036854775808) (h : t < 64) : (band (shr (a : Int) (t : Int)) 1 == 1) = a.testBit t := by
  have h0 := bit_nat ha h
  rw [shr_nat h, show (1 : Int) = ((1 : Nat) : Int) from rfl, band_nat (Nat.lt_of_le_of_lt (Nat.div_le_self _ _) ha) (by omega)] at h0 ⊢
  rw [Nat.and_one_is_mod] at h0 ⊢
  have := Nat.mod_two_eq_zero_or_one (a / 2 ^ t)
  rcases this with h | h
  · rw [h] at h0 ⊢; simp at h0 ⊢; exact h0
  · rw [h] at h0 ⊢; simp at h0 ⊢; exact h0
theorem pow2_le {a b : Nat} (h : a ≤ b) : 2 ^ a ≤ 2 ^ b := Nat.pow_le_pow_right (by omega) h
section
variable {k : Nat}
theorem members_eqn (hk : Big ≤ k) (n m : Nat) (hn : n ≤ 62) (hm : m < 2 ^ n) : impl_members.f k (m : Int) = some (upto m n) := by
  have h62 : m < 4611686018427387904 := Nat.lt_of_lt_of_le hm (pow2_le (b := 62) hn)
  unfold impl_members.f
  have := loop_res (l := fun q (s : List Int × Nat) => impl_members.l0 k (m : Int) q s.1 (s.2 : Int)) (fun s => s.1 = upto m s.2 ∧ s.2 ≤ n) (fun s => n - s.2) (fun _ => upto m n) (fun q ⟨l, c⟩ hI => by
    obtain ⟨h1, h2⟩ := hI
    simp only at h1 h2
    simp only
    subst h1
    have n1 : ¬ (c : Int) < 0 := by omega
    have hw : w64 ((c : Int) + 1) = ((c + 1 : Nat) : Int) := w64_id (by omega) (by omega)
    rw [impl_members.l0]
    simp only [n1, not_false_eq_true, if_true, shr_nat (show c < 64 by omega)]
    by_cases hp : m / 2 ^ c = 0
    · right
      have : m < 2 ^ c := by
        rcases Nat.lt_or_ge m (2 ^ c) with h | h
        · exact h
        · have := Nat.div_pos h (Nat.two_pow_pos c); omega
      rw [hp, upto_more this h2]; simp
    · left
      have hc : c < n := by
        rcases Nat.lt_or_ge c n with h | h
        · exact h
        · exfalso; apply hp; exact Nat.div_eq_of_lt (Nat.lt_of_lt_of_le hm (pow2_le h))
      have hpos : ((m / 2 ^ c : Nat) : Int) > 0 := by have := Nat.pos_of_ne_zero hp; generalize m / 2 ^ c = v at *; omega
      have hb : (band ((m / 2 ^ c : Nat) : Int) 1 == 1) = m.testBit c := by rw [← shr_nat (show c < 64 by omega), bit1_nat (by omega) (by omega)]
      refine ⟨(upto m (c + 1), c + 1), ?_, trivial, ⟨rfl, hc⟩, by simp only; omega⟩
      simp only [hpos, decide_true, if_true, hb, hw]
      rw [upto_succ]
      have hlen := upto_length m c
      cases m.testBit c with
      | false => simp
      | true => rw [if_pos rfl, if_pos rfl, if_pos (by simp; omega)]; rfl) k ([], 0) (by simp only; unfold Big at hk; omega) ⟨rfl, by simp⟩
  simp only at this
  rw [show ((0 : Nat) : Int) = 0 from rfl] at this
  rw [this]; rfl
theorem members_eq (hk : Big ≤ k) (m : Nat) (hm : m < 4096) : impl_members.f k (m : Int) = some (upto m 12) := members_eqn hk 12 m (by omega) hm
/-- n put to its place -/
def putP (n : Int) : List Int → List Int
  | [] => [n]
  | x :: l => if x < n then x :: putP n l else if x = n then x :: l else n :: x :: l
theorem mem_putP (n : Int) : ∀ (l : List Int) (z : Int), z ∈ putP n l ↔ z = n ∨ z ∈ l
  | [], z => by simp [putP]
  | x :: l, z => by
    unfold putP
    split
    · rw [List.mem_cons, mem_putP n l z, List.mem_cons]
      constructor
      · rintro (h | h | h) <;> simp [h]
      · rintro (h | h | h) <;> simp [h]
    · split
      · rename_i h; subst h; simp
      · simp
theorem putP_sorted (n : Int) : ∀ (l : List Int), l.Pairwise (· < ·) → (putP n l).Pairwise (· < ·)
  | [], _ => by simp [putP]
  | x :: l, h => by
    rw [List.pairwise_cons] at h
    unfold putP
    split
    · rename_i hx
      rw [List.pairwise_cons]
      refine ⟨fun z hz => ?_, putP_sorted n l h.2⟩
      rcases (mem_putP n l z).1 hz with h1 | h1
      · omega
      · exact h.1 z h1
    · split
      · rw [List.pairwise_cons]; exact h
      · rw [List.pairwise_cons, List.pairwise_cons]
        refine ⟨fun z hz => ?_, h⟩
        rcases List.mem_cons.1 hz with h1 | h1
        · omega
        · have := h.1 z h1; omega
theorem putP_length (n : Int) : ∀ (l : List Int), l.Pairwise (· < ·) → n ∉ l → (putP n l).length = l.length + 1
  | [], _, _ => rfl
  | x :: l, h, hn => by
    rw [List.pairwise_cons] at h
    unfold putP
    rw [List.mem_cons, not_or] at hn
    split
    · rw [List.length_cons, putP_length n l h.2 hn.2, List.length_cons]
    · rw [if_neg (fun e => hn.1 e.symm)]; rfl
theorem putP_split (n : Int) : ∀ (l : List Int) (j : Nat), j ≤ l.length → (∀ i (h : i < l.length), i < j → l[i] < n) → (∀ (h : j < l.length), ¬ l[j] < n) →
    putP n l = if l[j]? = some n then l else l.take j ++ [n] ++ l.drop j
  | [], j, hj, _, _ => by simp at hj; subst hj; rfl
  | x :: l, 0, hj, h1, h2 => by
    have := h2 (by simp)
    simp only [List.getElem_cons_zero] at this
    unfold putP
    rw [if_neg this]
    by_cases hx : x = n
    · simp [hx]
    · simp [hx]
  | x :: l, j + 1, hj, h1, h2 => by
    have h0 := h1 0 (by simp) (by omega)
    simp only [List.getElem_cons_zero] at h0
    have ih := putP_split n l j (by simpa using hj) (fun i h hi => by have := h1 (i + 1) (by simpa using h) (by omega); rwa [List.getElem_cons_succ] at this) (fun h => by have := h2 (by simpa using h); rwa [List.getElem_cons_succ] at this)
    unfold putP
    rw [if_pos h0, ih]
    simp only [List.getElem?_cons_succ, List.take_succ_cons, List.drop_succ_cons]
    split <;> simp
theorem l1Put_eq (hk : Big ≤ k) (l : List Int) (n : Int) (hl : l.length ≤ 1048576) : spec_l1Put.f k l n = some (putP n l) := by
  unfold spec_l1Put.f
  have := loop_good (l := fun q (i : Nat) => spec_l1Put.l0 k l n q (i : Int)) (fun i => i ≤ l.length ∧ ∀ j (h : j < l.length), j < i → l[j] < n) (fun i => l.length - i)
    (fun r => ∃ i : Nat, r = (i : Int) ∧ i ≤ l.length ∧ (∀ j (h : j < l.length), j < i → l[j] < n) ∧ ∀ (h : i < l.length), ¬ l[i] < n) (fun q i hI => by
      obtain ⟨h1, h2⟩ := hI
      by_cases hi : i < l.length
      · have hlt : ((i : Int) < (l.length : Int)) := by omega
        have hw : w64 ((i : Int) + 1) = ((i + 1 : Nat) : Int) := w64_id (by omega) (by omega)
        rw [spec_l1Put.l0]
        simp only [hlt, decide_true, if_true, rdl_lt hi, Option.bind_some, hw]
        by_cases c : l[i] < n
        · left
          refine ⟨i + 1, by simp [c], ⟨by omega, fun j h hj => ?_⟩, by omega⟩
          rcases Nat.eq_or_lt_of_le (Nat.le_of_lt_succ hj) with rfl | h'
          · exact c
          · exact h2 j h h'
        · right
          exact ⟨_, by simp [c], i, rfl, h1, h2, fun _ => c⟩
      · right
        have : ¬ ((i : Int) < (l.length : Int)) := by omega
        rw [spec_l1Put.l0]
        exact ⟨_, by simp [this], i, rfl, h1, h2, fun h => absurd h hi⟩) k 0 (by unfold Big at hk; omega) ⟨by omega, fun j _ h => by omega⟩
  obtain ⟨r, h1, i, rfl, h3, h4, h5⟩ := this
  rw [show ((0 : Nat) : Int) = 0 from rfl] at h1
  rw [h1, Option.bind_some, putP_split n l i h3 h4 h5]
  have hsl0 : slc l 0 (i : Int) = some (l.take i) := by unfold slc; simp; omega
  have hsl1 : slc l (i : Int) (l.length : Int) = some (l.drop i) := by
    unfold slc
    simp only [Int.toNat_natCast]
    rw [if_pos (by omega), List.take_of_length_le (by simp)]
  by_cases hi : i < l.length
  · have hlt : ((i : Int) < (l.length : Int)) := by omega
    simp only [hlt, decide_true, if_true, rdl_lt hi, Option.bind_some, List.getElem?_eq_getElem hi, Option.some.injEq]
    by_cases hc : l[i] = n
    · simp [hc]
    · simp only [hc, beq_iff_eq, if_false, hsl0, hsl1, Option.bind_some, List.nil_append]
      rw [if_pos (by simp; omega), if_pos (by simp; omega), if_pos (by simp; omega)]; rfl
  · have hlt : ¬ ((i : Int) < (l.length : Int)) := by omega
    simp only [hlt, decide_false, Bool.false_eq_true, if_false, Option.bind_some, hsl0, hsl1, List.nil_append, List.getElem?_eq_none (show l.length ≤ i by omega)]
    rw [if_pos (by simp; omega), if_pos (by simp; omega), if_pos (by simp; omega)]
    simp
theorem sorted_len : ∀ (l : List Int) (a b : Int), l.Pairwise (· < ·) → (∀ x ∈ l, a ≤ x ∧ x < b) → a ≤ b → (l.length : Int) ≤ b - a
  | [], a, b, _, _, h => by simp; omega
  | x :: l, a, b, hp, hx, h => by
    rw [List.pairwise_cons] at hp
    have h1 := hx x (List.mem_cons_self ..)
    have := sorted_len l (x + 1) b hp.2 (fun z hz => ⟨by have := hp.1 z hz; omega, (hx z (List.mem_cons_of_mem _ hz)).2⟩) (by omega)
    rw [List.length_cons]; omega
/-! the reference -/
structure RInv (d : List Door) (h x : Int) (out list : List Int) : Prop where
  sorted : out.Pairwise (· < ·)
  same : ∀ z, z ∈ out ↔ z ∈ list
  len : out.length = list.length
  start : x ∈ list
  rch : ∀ z ∈ list, Rch d h x z
theorem RInv.le {d : List Door} {h x : Int} {out list : List Int} (hI : RInv d h x out list) (hs : ∀ x ∈ d, Small x) (hx : 0 ≤ x ∧ x < 12) : list.length ≤ 12 := by
  have := sorted_len out 0 12 hI.sorted (fun z hz => (hI.rch z ((hI.same z).1 hz)).small hs hx) (by omega)
  rw [hI.len] at this; omega
theorem RInv.put {d : List Door} {h x y : Int} {out list : List Int} (hI : RInv d h x out list) (hy : y ∉ out) (hr : Rch d h x y) : RInv d h x (putP y out) (list ++ [y]) where
  sorted := putP_sorted y out hI.sorted
  same := fun z => by rw [mem_putP, List.mem_append, List.mem_singleton, hI.same z]; exact Or.comm
  len := by rw [putP_length y out hI.sorted hy, List.length_append, hI.len]; rfl
  start := List.mem_append_left _ hI.start
  rch := fun z hz => by
    rcases List.mem_append.1 hz with h1 | h1
    · exact hI.rch z h1
    · rw [List.mem_singleton.1 h1]; exact hr
theorem l2Reach_l1 (hk : Big ≤ k) (d : List Door) (x h : Int) (hd : d.length ≤ 1048576) (hs : ∀ x ∈ d, Small x) (hx : 0 ≤ x ∧ x < 12) (hh : 0 ≤ h ∧ h ≤ 63) (out list : List Int) (j : Nat) (hj : j < list.length) (hI : RInv d h x out list) :
    ∃ r, spec_l2Reach.l1 k d h (j : Int) k out list 0 = some r ∧ RInv d h x r.1 r.2 ∧ (∃ tl, r.2 = list ++ tl) ∧ ∀ z, d.any (goes list[j] z h) = true → z ∈ r.2 := by
  have hjr := hI.rch _ (List.getElem_mem hj)
  have hjs := hjr.small hs hx
  have := loop_good (l := fun q (s : List Int × List Int × Nat) => spec_l2Reach.l1 k d h (j : Int) q s.1 s.2.1 (s.2.2 : Int)) (fun s => s.2.2 ≤ d.length ∧ RInv d h x s.1 s.2.1 ∧ (∃ tl, s.2.1 = list ++ tl) ∧ ∀ z, (d.take s.2.2).any (goes list[j] z h) = true → z ∈ s.2.1)
    (fun s => d.length - s.2.2) (fun r => RInv d h x r.1 r.2 ∧ (∃ tl, r.2 = list ++ tl) ∧ ∀ z, d.any (goes list[j] z h) = true → z ∈ r.2) (fun q ⟨o, l, i⟩ hJ => by
    obtain ⟨h1, h2, ⟨tl, h3⟩, h4⟩ := hJ
    simp only at h1 h2 h3 h4
    simp only
    by_cases hi : i < d.length
    rotate_left 1
    · right
      have : i = d.length := by omega
      subst this
      rw [List.take_length] at h4
      rw [spec_l2Reach.l1]
      exact ⟨(o, l), by simp, h2, ⟨tl, h3⟩, h4⟩
    left
    have h1' : ((i : Int) < (d.length : Int)) := by omega
    have hw : w64 ((i : Int) + 1) = ((i + 1 : Nat) : Int) := w64_id (by omega) (by omega)
    have sm := hs _ (List.getElem_mem hi)
    unfold Small at sm
    have hjl : j < l.length := by rw [h3, List.length_append]; omega
    have hlj : l[j] = list[j] := by subst h3; exact List.getElem_append_left hj
    have hll := h2.le hs hx
    have ho : o.length ≤ 12 := by rw [h2.len]; exact hll
    have htake : d.take (i + 1) = d.take i ++ [d[i]] := by rw [List.take_add_one, List.getElem?_eq_getElem hi]; rfl
    have hlast : ∀ z, (d.take (i + 1)).any (goes list[j] z h) = ((d.take i).any (goes list[j] z h) || goes list[j] z h d[i]) := fun z => by rw [htake, List.any_append]; simp
    have hwy : w64 (w64 (d[i].1 + d[i].2.1) - list[j]) = d[i].1 + d[i].2.1 - list[j] := by rw [w64_id (x := d[i].1 + d[i].2.1) (by omega) (by omega), w64_id (by omega) (by omega)]
    rw [spec_l2Reach.l1]
    simp only [h1', decide_true, if_true, rdl_lt hi, Option.bind_some, hw, l2Has_eq h d[i].2.2 (by omega) hh, rdl_lt hjl, hlj, hwy]
    cases hsb : subB d[i].2.2.toNat h.toNat with
    | false =>
      refine ⟨(o, l, i + 1), by simp, ⟨by simp only; omega, h2, ⟨tl, h3⟩, fun z hz => ?_⟩, by simp only; omega⟩
      rw [hlast z] at hz
      simp only [goes, hsb, Bool.and_false, Bool.or_false] at hz
      exact h4 z hz
    | true =>
      by_cases c : d[i].1 = list[j] ∨ d[i].2.1 = list[j]
      rotate_left 1
      · rw [not_or] at c
        refine ⟨(o, l, i + 1), by simp [c.1, c.2], ⟨by simp only; omega, h2, ⟨tl, h3⟩, fun z hz => ?_⟩, by simp only; omega⟩
        rw [hlast z] at hz
        have : goes list[j] z h d[i] = false := by unfold goes; simp [c.1, c.2]
        rw [this, Bool.or_false] at hz
        exact h4 z hz
      · have hy : goes list[j] (d[i].1 + d[i].2.1 - list[j]) h d[i] = true := by
          unfold goes; rw [hsb]
          rcases c with c | c
          · rw [show d[i].1 + d[i].2.1 - list[j] = d[i].2.1 by omega]; simp [c]
          · rw [show d[i].1 + d[i].2.1 - list[j] = d[i].1 by omega]; simp [c]
        have hyr : Rch d h x (d[i].1 + d[i].2.1 - list[j]) := .step hjr (List.any_eq_true.2 ⟨_, List.getElem_mem hi, hy⟩)
        have hz' : ∀ z, goes list[j] z h d[i] = true → z = d[i].1 + d[i].2.1 - list[j] := fun z hz => by
          unfold goes at hz
          simp only [Bool.and_eq_true, Bool.or_eq_true, decide_eq_true_eq] at hz
          omega
        have hcond : (if (d[i].1 != list[j]) = true then some (d[i].2.1 != list[j]) else some false) = some false := by
          rcases c with c | c <;> simp [c]
        simp only [Bool.not_true, Bool.false_eq_true, if_false, hcond, Option.bind_some, l1Has_eq hk o _ (by omega)]
        by_cases hm : (d[i].1 + d[i].2.1 - list[j]) ∈ o
        · have hc : o.contains (d[i].1 + d[i].2.1 - list[j]) = true := by simpa using hm
          refine ⟨(o, l, i + 1), by simp only [hc]; simp, ⟨by simp only; omega, h2, ⟨tl, h3⟩, fun z hz => ?_⟩, by simp only; omega⟩
          rw [hlast z] at hz
          rcases Bool.or_eq_true _ _ ▸ hz with hz | hz
          · exact h4 z hz
          · rw [hz' z hz]; exact (h2.same _).1 hm
        · have hc : o.contains (d[i].1 + d[i].2.1 - list[j]) = false := by simpa using hm
          refine ⟨(putP (d[i].1 + d[i].2.1 - list[j]) o, l ++ [d[i].1 + d[i].2.1 - list[j]], i + 1), ?_, ⟨by simp only; omega, h2.put hm hyr, ⟨tl ++ [d[i].1 + d[i].2.1 - list[j]], by simp only; rw [h3, List.append_assoc]⟩, fun z hz => ?_⟩, by simp only; omega⟩
          · simp only [hc, Bool.not_false, if_true, l1Put_eq hk o _ (show o.length ≤ 1048576 by omega), Option.bind_some]
            rw [if_pos (by simp; omega)]; rfl
          · simp only
            rw [hlast z] at hz
            rcases Bool.or_eq_true _ _ ▸ hz with hz | hz
            · exact List.mem_append_left _ (h4 z hz)
            · rw [hz' z hz]; exact List.mem_append_right _ (List.mem_singleton.2 rfl))
    k (out, list, 0) (by simp only; unfold Big at hk; omega) ⟨by simp, hI, ⟨[], by simp⟩, fun z hz => by simp at hz⟩
  simpa using this
theorem l2Reach_eq (hk : Big ≤ k) (n : Int) (d : List Door) (ks : List Int) (x h : Int) (hd : d.length ≤ 1048576) (hs : ∀ x ∈ d, Small x) (hx : 0 ≤ x ∧ x < 12) (hh : 0 ≤ h ∧ h ≤ 63) : spec_l2Reach.f k n d ks x h = some (nodesL d x h) := by
  unfold spec_l2Reach.f
  have := loop_good (l := fun q (s : List Int × List Int × Nat) => spec_l2Reach.l0 k d h q s.1 s.2.1 (s.2.2 : Int)) (fun s => s.2.2 ≤ s.2.1.length ∧ RInv d h x s.1 s.2.1 ∧ ∀ j (hj : j < s.2.1.length), j < s.2.2 → ∀ z, d.any (goes s.2.1[j] z h) = true → z ∈ s.2.1)
    (fun s => 12 - s.2.2) (fun r => r = nodesL d x h) (fun q ⟨o, l, j⟩ hJ => by
    obtain ⟨h1, h2, h3⟩ := hJ
    simp only at h1 h2 h3
    simp only
    have hll := h2.le hs hx
    rw [spec_l2Reach.l0]
    by_cases hj : j < l.length
    · left
      have hlt : ((j : Int) < (l.length : Int)) := by omega
      have hw : w64 ((j : Int) + 1) = ((j + 1 : Nat) : Int) := w64_id (by omega) (by omega)
      obtain ⟨⟨o', l'⟩, e1, e2, ⟨tl, e3⟩, e4⟩ := l2Reach_l1 hk d x h hd hs hx hh o l j hj h2
      simp only at e2 e3 e4
      simp only [hlt, decide_true, if_true, e1, Option.bind_some, hw]
      refine ⟨(o', l', j + 1), rfl, ⟨by simp only; rw [e3, List.length_append]; omega, e2, fun i hi hij z hz => ?_⟩, by simp only; omega⟩
      simp only at hi hz hij ⊢
      have hil : i < l.length := by omega
      have hli : l'[i] = l[i] := by subst e3; exact List.getElem_append_left hil
      rw [hli] at hz
      rcases Nat.eq_or_lt_of_le (Nat.le_of_lt_succ hij) with rfl | h'
      · exact e4 z hz
      · rw [e3]; exact List.mem_append_left _ (h3 i hil h' z hz)
    · right
      have hlt : ¬ ((j : Int) < (l.length : Int)) := by omega
      refine ⟨o, by simp [hlt], ?_⟩
      refine sorted_ext h2.sorted (upto_sorted _ _) fun z => ?_
      show z ∈ o ↔ z ∈ nodesL d x h
      rw [h2.same z, mem_nodesL hs hx]
      refine ⟨h2.rch z, fun hr => ?_⟩
      induction hr with
      | here => exact h2.start
      | step _ hg ih =>
        obtain ⟨i, hi, e⟩ := List.getElem_of_mem ih
        exact h3 i hi (by omega) _ (by rw [e]; exact hg))
    k ([x], [x], 0) (by simp only; unfold Big at hk; omega) ⟨by simp, ⟨by simp, fun z => Iff.rfl, rfl, by simp, fun z hz => by rw [List.mem_singleton.1 hz]; exact .here⟩, fun j _ h => by simp only at h; omega⟩
  obtain ⟨r, h1, h2⟩ := this
  simp only at h1
  rw [show ((0 : Nat) : Int) = 0 from rfl] at h1
  rw [h1, Option.bind_some, h2]
/-! the program -/
theorem upto_or : ∀ (n a b : Nat), (∀ t, t < n → a.testBit t = true → b.testBit t = true → False) → (upto (a ||| b) n).length = (upto a n).length + (upto b n).length
  | 0, a, b, _ => rfl
  | n + 1, a, b, h => by
    rw [upto_succ, upto_succ, upto_succ, List.length_append, List.length_append, List.length_append, upto_or n a b (fun t ht => h t (by omega)), Nat.testBit_or]
    have h1 := h n (by omega)
    cases ha : a.testBit n <;> cases hb : b.testBit n
    · simp
    · simp; omega
    · simp; omega
    · exact absurd (h1 ha hb) id
theorem reach_eq (hk : Big ≤ k) (n : Int) (d : List Door) (ks : List Int) (x h : Int) (hd : d.length ≤ 1048576) (hs : ∀ x ∈ d, Small x) (hx : 0 ≤ x ∧ x < 12) (hh : 0 ≤ h ∧ h ≤ 63) : impl_reach.f k n d ks x h = some (reachN d x h : Int) := by
  unfold impl_reach.f
  obtain ⟨y, rfl⟩ := Int.eq_ofNat_of_zero_le hx.1
  have hy : y < 12 := by omega
  have n1 : ¬ ((y : Int) < 0) := by omega
  have e1 : shl 1 (y : Int) = ((2 ^ y : Nat) : Int) := shl_one (by omega)
  rw [if_pos n1, e1]
  have := loop_good (l := fun q (s : Int × List Int) => impl_reach.l0 k n d ks h q s.1 s.2) (fun s => ∃ o : Nat, s.1 = (o : Int) ∧ o < 4096 ∧ (∀ t ∈ s.2, ∃ u : Nat, t = (u : Int) ∧ o.testBit u = true) ∧ (∀ t : Nat, o.testBit t = true → Rch d h (y : Int) (t : Int)) ∧ o.testBit y = true ∧
      (∀ t : Nat, o.testBit t = true → (t : Int) ∈ s.2 ∨ ∀ z : Nat, d.any (goes (t : Int) (z : Int) h) = true → o.testBit z = true) ∧ s.2.length ≤ (upto s.1.toNat 12).length + 1)
    (fun s => s.2.length + 2 * (12 - (upto s.1.toNat 12).length)) (fun r => r = (reachN d (y : Int) h : Int)) (fun q ⟨o', l⟩ hJ => by
    obtain ⟨o, h1, h2, h3, h4, h5, h6, h7⟩ := hJ
    simp only at h1 h3 h6 h7
    subst h1
    simp only
    rw [impl_reach.l0]
    cases l with
    | nil =>
      right
      refine ⟨(o : Int), by simp, ?_⟩
      rw [reachN_eq hs hx h2 (fun t _ => ⟨h4 t, fun hr => ?_⟩)]
      have key : ∀ z, Rch d h (y : Int) z → ∃ u : Nat, z = (u : Int) ∧ o.testBit u = true := by
        intro z hz
        induction hz with
        | here => exact ⟨y, rfl, h5⟩
        | step _ hg ih =>
          obtain ⟨u, rfl, hu⟩ := ih
          have hz := (goes_small hs hg).2
          obtain ⟨v, rfl⟩ := Int.eq_ofNat_of_zero_le hz.1
          rcases h6 u hu with h8 | h8
          · cases h8
          · exact ⟨v, rfl, h8 v hg⟩
      obtain ⟨u, hu, hb⟩ := key _ hr
      have : t = u := by omega
      rw [this]; exact hb
    | cons t0 tl =>
      left
      obtain ⟨u, rfl, hu⟩ := h3 t0 (List.mem_cons_self ..)
      have hpos : (((u : Int) :: tl).length : Int) > 0 := by simp
      have hr0 : rdl ((u : Int) :: tl) 0 = some (u : Int) := rfl
      obtain ⟨m, hm1, hm2, hm3⟩ := steps_eq hk n d ks (u : Int) h hd hs hh
      have hsl : slc ((u : Int) :: tl) 1 (((u : Int) :: tl).length : Int) = some tl := by unfold slc; simp; omega
      have hb : bclr (m : Int) (o : Int) = ((m ^^^ (m &&& o) : Nat) : Int) := bclr_nat (by omega)
      have hnt : ∀ t, (m ^^^ (m &&& o)).testBit t = (m.testBit t && !o.testBit t) := fun t => by
        rw [Nat.testBit_xor, Nat.testBit_and]; cases m.testBit t <;> cases o.testBit t <;> rfl
      generalize hnx : m ^^^ (m &&& o) = nx at *
      have hnl : nx < 4096 := by rw [← hnx]; exact Nat.xor_lt_two_pow (n := 12) hm2 (Nat.and_lt_two_pow (n := 12) _ h2)
      have hor : bor (o : Int) (nx : Int) = ((o ||| nx : Nat) : Int) := bor_nat (by omega) (by omega)
      have hul := upto_length nx 12
      have hcnt : (upto (o ||| nx) 12).length = (upto o 12).length + (upto nx 12).length := upto_or 12 o nx (fun t _ ha hb => by rw [hnt t, ha] at hb; simp at hb)
      have hcl := upto_length (o ||| nx) 12
      simp only [hpos, decide_true, if_true, hr0, Option.bind_some, hm1, hsl, hb, members_eq hk nx hnl, hor]
      have hco := upto_length o 12
      rw [if_pos (by simp at h7 ⊢; omega)]
      refine ⟨(((o ||| nx : Nat) : Int), tl ++ upto nx 12), rfl, ⟨o ||| nx, rfl, Nat.or_lt_two_pow (n := 12) h2 hnl, fun t ht => ?_, fun t ht => ?_, ?_, fun t ht => ?_, ?_⟩, ?_⟩
      · simp only at ht
        rcases List.mem_append.1 ht with ht | ht
        · obtain ⟨v, rfl, hv⟩ := h3 t (List.mem_cons_of_mem _ ht)
          exact ⟨v, rfl, by rw [Nat.testBit_or, hv]; rfl⟩
        · obtain ⟨v, _, hv, rfl⟩ := mem_upto.1 ht
          exact ⟨v, rfl, by rw [Nat.testBit_or, hv, Bool.or_true]⟩
      · rw [Nat.testBit_or] at ht
        rcases Bool.or_eq_true _ _ ▸ ht with ht | ht
        · exact h4 t ht
        · rw [hnt t, hm3 t] at ht
          simp only [Bool.and_eq_true] at ht
          exact .step (h4 u hu) ht.1
      · rw [Nat.testBit_or, h5]; rfl
      · simp only
        rw [Nat.testBit_or] at ht
        cases hot : o.testBit t with
        | true =>
          rcases h6 t hot with h8 | h8
          · rcases List.mem_cons.1 h8 with h9 | h9
            · right
              intro z hz
              have : t = u := by omega
              subst this
              rw [Nat.testBit_or, hnt z, hm3 z, hz]
              cases o.testBit z <;> rfl
            · exact .inl (List.mem_append_left _ h9)
          · right
            intro z hz
            rw [Nat.testBit_or, h8 z hz]; rfl
        | false =>
          rw [hot, Bool.false_or] at ht
          left
          refine List.mem_append_right _ (mem_upto.2 ⟨t, ?_, ht, rfl⟩)
          rcases Nat.lt_or_ge t 12 with h | h
          · exact h
          · rw [Nat.testBit_lt_two_pow (Nat.lt_of_lt_of_le hnl (pow2_le (a := 12) h))] at ht; cases ht
      · simp only [List.length_cons, Int.toNat_natCast] at h7
        simp only [List.length_append, Int.toNat_natCast]; omega
      · simp only [Int.toNat_natCast, List.length_append, List.length_cons]
        omega) k (((2 ^ y : Nat) : Int), [(y : Int)]) (by simp only [List.length_singleton]; unfold Big at hk; omega)
    ⟨2 ^ y, rfl, Nat.pow_lt_pow_right (a := 2) (by omega) hy, fun t ht => ⟨y, List.mem_singleton.1 ht, Nat.testBit_two_pow_self⟩, fun t ht => by
      rw [Nat.testBit_two_pow] at ht
      have : y = t := by simpa using ht
      rw [this]; exact .here, Nat.testBit_two_pow_self, fun t ht => by
      rw [Nat.testBit_two_pow] at ht
      have : y = t := by simpa using ht
      left; simp [this], by simp⟩
  obtain ⟨r, h1, h2⟩ := this
  simp only at h1
  rw [h1, Option.bind_some, h2]
end
end Go.Proofs

/- Plain laws: L -/
namespace Go.Proofs
open Go Go.Ga Go.Ga.Wf
set_option linter.unusedVariables false
set_option linter.unusedSimpArgs false
theorem loop_fold {α S β : Type} {l : Nat → S → Int → Option β} (L : List α) (f : S → α → S) (out : S → Option β) (P : S → Prop)
    (hs : ∀ n (i : Nat) s (hi : i < L.length), P s → l (n + 1) s (i : Int) = l n (f s L[i]) ((i + 1 : Nat) : Int) ∧ P (f s L[i]))
    (he : ∀ n s, P s → l (n + 1) s (L.length : Int) = out s) {k : Nat} (hk : L.length < k) {s : S} (h0 : P s) : l k s 0 = out (L.foldl f s) ∧ P (L.foldl f s) := by
  have key : ∀ m i k s, i + m = L.length → m < k → P s → l k s (i : Int) = out ((L.drop i).foldl f s) ∧ P ((L.drop i).foldl f s) := by
    intro m
    induction m with
    | zero =>
      intro i k s hi hk hP
      obtain ⟨n, rfl⟩ : ∃ n, k = n + 1 := ⟨k - 1, by omega⟩
      have : i = L.length := by omega
      subst this
      rw [List.drop_length]
      exact ⟨he n s hP, hP⟩
    | succ m ih =>
      intro i k s hi hk hP
      obtain ⟨n, rfl⟩ : ∃ n, k = n + 1 := ⟨k - 1, by omega⟩
      obtain ⟨h1, h2⟩ := hs n i s (by omega) hP
      rw [List.drop_eq_getElem_cons (by omega), List.foldl_cons, h1]
      exact ih (i + 1) n _ (by omega) (by omega) h2
  have := key L.length 0 k s (by omega) hk h0
  simpa using this
theorem chain64 {n : Int} {d : List Door} {ks : List Int} (hm : Okm n d ks) {h : Int} (hh : 0 ≤ h ∧ h ≤ 63) :
    chain d ks 64 h = (if nextH d ks h = h then [h] else h :: chain d ks 64 (nextH d ks h)) ∧ lastH d ks 64 h = if nextH d ks h = h then h else lastH d ks 64 (nextH d ks h) := by
  have hn := nextH_le hm hh
  by_cases hc : nextH d ks h = h
  · simp only [chain, lastH, if_pos hc]; exact ⟨trivial, trivial⟩
  · have := lastH_more hm 63 64 hn.1 (by omega) (by omega)
    rw [if_neg hc, if_neg hc, this.1, this.2]
    rw [show chain d ks 64 h = chain d ks (63 + 1) h from rfl, show lastH d ks 64 h = lastH d ks (63 + 1) h from rfl]
    unfold chain lastH
    rw [if_neg hc, if_neg hc]; exact ⟨rfl, rfl⟩
section
variable {k : Nat}
theorem rdl_keys {n : Int} {d : List Door} {ks : List Int} (hm : Okm n d ks) {y : Int} (h : 0 ≤ y ∧ y < n) : rdl ks y = some (ks.getD y.toNat 0) := by
  have hl := hm.len
  have hlt : y.toNat < ks.length := by omega
  unfold rdl; rw [if_pos h.1, List.getElem?_eq_getElem hlt, List.getD_eq_getElem?_getD, List.getElem?_eq_getElem hlt]; rfl
theorem nodesL_len (d : List Door) (x h : Int) : (nodesL d x h).length ≤ 12 := upto_length _ _
theorem rounds_l1 (hk : Big ≤ k) {n : Int} {d : List Door} {ks : List Int} (hm : Okm n d ks) (L : List Int) (hL : ∀ z ∈ L, 0 ≤ z ∧ z < n) (hl : L.length ≤ 1048576) (h : Int) : impl_rounds.l1 k ks L k h 0 = some (gain ks L h) := by
  refine (loop_fold (l := fun q s i => impl_rounds.l1 k ks L q s i) L (fun s x => bor s (ks.getD x.toNat 0)) some (fun _ => True) (fun q i s hi _ => ⟨?_, trivial⟩) (fun q s _ => ?_) (by unfold Big at hk; omega) trivial).1
  · have hlt : ((i : Int) < (L.length : Int)) := by omega
    have hw : w64 ((i : Int) + 1) = ((i + 1 : Nat) : Int) := w64_id (by omega) (by omega)
    show impl_rounds.l1 k ks L (q + 1) s (i : Int) = _
    rw [impl_rounds.l1]
    simp only [hlt, decide_true, if_true, rdl_lt hi, Option.bind_some, rdl_keys hm (hL _ (List.getElem_mem hi)), hw]
  · show impl_rounds.l1 k ks L (q + 1) s (L.length : Int) = _
    rw [impl_rounds.l1]; simp
theorem rounds_eq (hk : Big ≤ k) {n : Int} {d : List Door} {ks : List Int} (hm : Okm n d ks) {h : Int} (hh : 0 ≤ h ∧ h ≤ 63) : impl_rounds.f k n d ks h = some ((chain d ks 64 h).map fun h => (h, (reachN d 0 h : Int))) := by
  unfold impl_rounds.f
  have hlo := hm.lo
  have := loop_res (l := fun q (s : List (Int × Int) × Int) => impl_rounds.l0 k n d ks q s.1 s.2) (fun s => (0 ≤ s.2 ∧ s.2 ≤ 63) ∧ (s.1.length : Int) ≤ s.2) (fun s => 64 - s.2.toNat)
    (fun s => .inr (s.1 ++ (chain d ks 64 s.2).map fun h => (h, (reachN d 0 h : Int)))) (fun q ⟨acc, h⟩ hI => by
      obtain ⟨h1, h2⟩ := hI
      simp only at h1 h2
      have hn := nextH_le hm h1
      have hr := reachN_lt d 0 h
      have e1 := members_eq hk _ hr
      have e2 := rounds_l1 hk hm (nodesL d 0 h) (fun z hz => nodesL_lt hm (by omega) hz) (by have := nodesL_len d 0 h; omega) h
      simp only
      rw [impl_rounds.l0, (chain64 hm h1).1]
      simp only [reach_eq hk n d ks 0 h hm.few hm.small (by omega) h1, Option.bind_some, e1]
      rw [show upto (reachN d 0 h) 12 = nodesL d 0 h from rfl, e2, Option.bind_some, if_pos (by simp; omega), show gain ks (nodesL d 0 h) h = nextH d ks h from rfl]
      by_cases hc : nextH d ks h = h
      · right; simp [hc]
      · left
        refine ⟨(acc ++ [(h, (reachN d 0 h : Int))], nextH d ks h), by simp [hc], ?_, ⟨hn.1, by simp; omega⟩, by simp only; omega⟩
        simp [hc]) k ([], h) (by simp only; unfold Big at hk; omega) ⟨hh, by simp; omega⟩
  simp only at this
  rw [this]; rfl
theorem atLast_eq (hk : Big ≤ k) {n : Int} {d : List Door} {ks : List Int} (hm : Okm n d ks) {h : Int} (hh : 0 ≤ h ∧ h ≤ 63) : impl_atLast.f k n d ks h = some (lastH d ks 64 h, (reachN d 0 (lastH d ks 64 h) : Int)) := by
  unfold impl_atLast.f
  rw [rounds_eq hk hm hh, Option.bind_some]
  have hl := chain_length d ks 64 h
  have hne := chain_ne d ks 64 h
  have hpos : 0 < (chain d ks 64 h).length := List.length_pos_iff.2 hne
  have hlast := chain_last d ks 64 h
  rw [List.getLast?_eq_getElem?] at hlast
  have hw : w64 ((((chain d ks 64 h).map fun h => (h, (reachN d 0 h : Int))).length : Int) - 1) = (((chain d ks 64 h).length - 1 : Nat) : Int) := by
    rw [List.length_map, w64_id (by omega) (by omega)]; omega
  rw [hw, rdl_nat, List.getElem?_map, hlast]; rfl
theorem canWin_eq (hk : Big ≤ k) {n : Int} {d : List Door} {ks : List Int} (hm : Okm n d ks) {h : Int} (hh : 0 ≤ h ∧ h ≤ 63) : impl_canWin.f k n d ks h = some (winsB n d ks h) := by
  unfold impl_canWin.f
  have hlo := hm.lo
  have hhi := hm.hi
  have hw : w64 (n - 1) = n - 1 := w64_id (by omega) (by omega)
  obtain ⟨m, hm'⟩ := Int.eq_ofNat_of_zero_le (show 0 ≤ n - 1 by omega)
  have hr := reachN_lt d 0 (lastH d ks 64 h)
  simp only [atLast_eq hk hm hh, Option.bind_some, hw]
  rw [if_pos (by omega)]
  congr 1
  unfold winsB
  rw [hm']
  exact bit1_nat (by omega) (by omega)
theorem l2Close_l1 (hk : Big ≤ k) {n : Int} {d : List Door} {ks : List Int} (hm : Okm n d ks) (L : List Int) (hL : ∀ z ∈ L, 0 ≤ z ∧ z < n) (hl : L.length ≤ 1048576) (h : Int) : spec_l2Close.l1 k ks L k h 0 = some (gain ks L h) := by
  refine (loop_fold (l := fun q s i => spec_l2Close.l1 k ks L q s i) L (fun s x => bor s (ks.getD x.toNat 0)) some (fun _ => True) (fun q i s hi _ => ⟨?_, trivial⟩) (fun q s _ => ?_) (by unfold Big at hk; omega) trivial).1
  · have hlt : ((i : Int) < (L.length : Int)) := by omega
    have hw : w64 ((i : Int) + 1) = ((i + 1 : Nat) : Int) := w64_id (by omega) (by omega)
    show spec_l2Close.l1 k ks L (q + 1) s (i : Int) = _
    rw [spec_l2Close.l1]
    simp only [hlt, decide_true, if_true, rdl_lt hi, Option.bind_some, rdl_keys hm (hL _ (List.getElem_mem hi)), hw]
  · show spec_l2Close.l1 k ks L (q + 1) s (L.length : Int) = _
    rw [spec_l2Close.l1]; simp
theorem l2Close_eq (hk : Big ≤ k) {n : Int} {d : List Door} {ks : List Int} (hm : Okm n d ks) {h : Int} (hh : 0 ≤ h ∧ h ≤ 63) : spec_l2Close.f k n d ks h = some (lastH d ks 64 h, nodesL d 0 (lastH d ks 64 h)) := by
  unfold spec_l2Close.f
  have hlo := hm.lo
  have := loop_res (l := fun q (h : Int) => spec_l2Close.l0 k n d ks q h) (fun h => 0 ≤ h ∧ h ≤ 63) (fun h => 64 - h.toNat)
    (fun h => .inr (lastH d ks 64 h, nodesL d 0 (lastH d ks 64 h))) (fun q h h1 => by
      have hn := nextH_le hm h1
      have e2 := l2Close_l1 hk hm (nodesL d 0 h) (fun z hz => nodesL_lt hm (by omega) hz) (by have := nodesL_len d 0 h; omega) h
      rw [spec_l2Close.l0, (chain64 hm h1).2]
      simp only [l2Reach_eq hk n d ks 0 h hm.few hm.small (by omega) h1, Option.bind_some, e2]
      rw [show gain ks (nodesL d 0 h) h = nextH d ks h from rfl]
      by_cases hc : nextH d ks h = h
      · right; simp [hc]
      · left
        refine ⟨nextH d ks h, by simp [hc], by simp [hc], hn.1, by omega⟩) k h (by unfold Big at hk; omega) hh
  rw [this]; rfl
theorem contains_nodesL {d : List Door} {x h : Int} {m : Nat} (hm : m < 12) : (nodesL d x h).contains (m : Int) = (reachN d x h).testBit m := by
  rw [Bool.eq_iff_iff, List.contains_iff_mem]
  unfold nodesL
  rw [mem_upto]
  constructor
  · rintro ⟨t, _, h2, h3⟩; have : t = m := by omega
    rw [← this]; exact h2
  · intro h; exact ⟨m, hm, h, rfl⟩
theorem l3Wins_eq (hk : Big ≤ k) {n : Int} {d : List Door} {ks : List Int} (hm : Okm n d ks) {h : Int} (hh : 0 ≤ h ∧ h ≤ 63) : spec_l3Wins.f k n d ks h = some (winsB n d ks h) := by
  unfold spec_l3Wins.f
  have hlo := hm.lo
  have hhi := hm.hi
  have hw : w64 (n - 1) = n - 1 := w64_id (by omega) (by omega)
  obtain ⟨m, hm'⟩ := Int.eq_ofNat_of_zero_le (show 0 ≤ n - 1 by omega)
  have hl := nodesL_len d 0 (lastH d ks 64 h)
  simp only [l2Close_eq hk hm hh, Option.bind_some, hw, l1Has_eq hk _ (n - 1) (show (nodesL d 0 (lastH d ks 64 h)).length ≤ 1048576 by omega)]
  congr 1
  unfold winsB
  rw [hm']
  exact contains_nodesL (by omega)
theorem asked_eq (hk : Big ≤ k) (n : Int) (d : List Door) (ks : List Int) (h : Int) (hd : d.length ≤ 1048576) (hl : ks.length ≤ 1048576) : impl_asked.f k n d ks h = some (decide (IsMaze n d ks ∧ 0 ≤ h ∧ h ≤ 63)) := by
  unfold impl_asked.f
  rw [IsMaze_eq hk n d ks hd hl]
  by_cases hm : IsMaze n d ks <;> simp [hm, isSet_eq]
theorem l3Ask_eq (hk : Big ≤ k) (n : Int) (d : List Door) (ks : List Int) (h : Int) (hd : d.length ≤ 1048576) (hl : ks.length ≤ 1048576) : spec_l3Ask.f k n d ks h = some (decide (IsMaze n d ks ∧ 0 ≤ h ∧ h ≤ 63)) := by
  unfold spec_l3Ask.f
  rw [l2Maze_eq hk n d ks hd hl]
  by_cases hm : IsMaze n d ks <;> simp [hm, l2Set_eq]
open Classical in
theorem won_eq (hk : Big ≤ k) (n : Int) (d : List Door) (ks : List Int) (h : Int) (hd : d.length ≤ 1048576) (hl : ks.length ≤ 1048576) : impl_won.f k n d ks h = some (decide ((IsMaze n d ks ∧ 0 ≤ h ∧ h ≤ 63) ∧ winsB n d ks h = true)) := by
  unfold impl_won.f
  rw [asked_eq hk n d ks h hd hl]
  by_cases hm : IsMaze n d ks ∧ 0 ≤ h ∧ h ≤ 63
  · simp [hm, canWin_eq hk hm.1.okm hm.2]
  · simp [hm]
open Classical in
theorem l3Can_eq (hk : Big ≤ k) (n : Int) (d : List Door) (ks : List Int) (h : Int) (hd : d.length ≤ 1048576) (hl : ks.length ≤ 1048576) : spec_l3Can.f k n d ks h = some (decide ((IsMaze n d ks ∧ 0 ≤ h ∧ h ≤ 63) ∧ winsB n d ks h = true)) := by
  unfold spec_l3Can.f
  rw [l3Ask_eq hk n d ks h hd hl]
  by_cases hm : IsMaze n d ks ∧ 0 ≤ h ∧ h ≤ 63
  · simp [hm, l3Wins_eq hk hm.1.okm hm.2]
  · simp [hm]
/-! without a colour -/
end
end Go.Proofs

/- Plain laws: M -/
namespace Go.Proofs
open Go Go.Ga Go.Ga.Wf
set_option linter.unusedVariables false
set_option linter.unusedSimpArgs false
abbrev MazeT := Int × List Door × List Int
def mz1 (t : MazeT) : Nat := t.2.1.length + t.2.2.length
def mz : List MazeT → Nat
  | [] => 0
  | t :: l => mz1 t + mz l
def iz : List (List Int) → Nat
  | [] => 0
  | t :: l => t.length + iz l
theorem mz_mem : ∀ {l : List MazeT} {t : MazeT}, t ∈ l → mz1 t ≤ mz l
  | x :: l, t, h => by
    rcases List.mem_cons.1 h with rfl | h
    · simp [mz]
    · have := mz_mem h; simp [mz]; omega
theorem iz_mem : ∀ {l : List (List Int)} {t : List Int}, t ∈ l → t.length ≤ iz l
  | x :: l, t, h => by
    rcases List.mem_cons.1 h with rfl | h
    · simp [iz]
    · have := iz_mem h; simp [iz]; omega
section
variable {k : Nat}
/-- worlds within bounds -/
structure WB (ms : List MazeT) (os : List (List Int)) : Prop where
  ml : ms.length ≤ 1048576
  ol : os.length ≤ 1048576
  md : ∀ t ∈ ms, t.2.1.length ≤ 1048576 ∧ t.2.2.length ≤ 1048576
  od : ∀ t ∈ os, t.length ≤ 1048576
def wz (ms : List MazeT) (os : List (List Int)) : Nat := ms.length + mz ms + (os.length + iz os)
theorem WB.of {ms : List MazeT} {os : List (List Int)} (h : ((wz ms os : Nat) : Int) ≤ 1048576) : WB ms os := by
  unfold wz at h
  refine ⟨by omega, by omega, fun t ht => ?_, fun t ht => ?_⟩
  · have := mz_mem ht; unfold mz1 at this; omega
  · have := iz_mem ht; omega
/-! marks -/
/-! valid worlds -/
def worldOk (ms : List MazeT) (os : List (List Int)) (i : Nat) : Bool :=
  if h : i < ms.length then decide (IsMaze ms[i].1 ms[i].2.1 ms[i].2.2) && decide (((os.getD i []).length : Int) = ms[i].1) && (os.getD i []).all (fun o => decide (0 ≤ o ∧ o ≤ (ms.length : Int) - 1)) else true
def IsWorldsP (ms : List MazeT) (os : List (List Int)) : Prop := (1 ≤ ms.length ∧ ms.length ≤ 3) ∧ os.length = ms.length ∧ ∀ i, i < ms.length → worldOk ms os i = true
instance (ms : List MazeT) (os : List (List Int)) : Decidable (IsWorldsP ms os) := by unfold IsWorldsP; infer_instance
/-! one maze alone -/
end
end Go.Proofs

/- Plain laws: N -/
namespace Go.Proofs
open Go Go.Ga Go.Ga.Wf
set_option linter.unusedVariables false
set_option linter.unusedSimpArgs false
/-- what is appended for each number below n -/
def appUpto {β : Type} (F : Nat → List β) (n : Nat) : List β := (List.range n).flatMap F
theorem appUpto_succ {β : Type} (F : Nat → List β) (n : Nat) : appUpto F (n + 1) = appUpto F n ++ F n := by
  unfold appUpto; rw [List.range_succ, List.flatMap_append]; simp
theorem appUpto_length {β : Type} (F : Nat → List β) (c : Nat) (hF : ∀ i, (F i).length ≤ c) : ∀ n, (appUpto F n).length ≤ n * c
  | 0 => by simp [appUpto]
  | n + 1 => by
    have := appUpto_length F c hF n
    have := hF n
    rw [appUpto_succ, List.length_append, Nat.succ_mul]; omega
theorem loop_app {β γ : Type} {l : Nat → List β → Int → Option γ} (N : Nat) (F : Nat → List β) (out : Option γ)
    (hs : ∀ n (i : Nat), i < N → l (n + 1) (appUpto F i) (i : Int) = l n (appUpto F i ++ F i) ((i + 1 : Nat) : Int))
    (he : ∀ n, l (n + 1) (appUpto F N) (N : Int) = out) {k : Nat} (hk : N < k) : l k [] 0 = out := by
  have key : ∀ m i k, i + m = N → m < k → l k (appUpto F i) (i : Int) = out := by
    intro m
    induction m with
    | zero =>
      intro i k hi hk
      obtain ⟨n, rfl⟩ : ∃ n, k = n + 1 := ⟨k - 1, by omega⟩
      have : i = N := by omega
      subst this
      exact he n
    | succ m ih =>
      intro i k hi hk
      obtain ⟨n, rfl⟩ : ∃ n, k = n + 1 := ⟨k - 1, by omega⟩
      rw [hs n i (by omega), ← appUpto_succ]
      exact ih (i + 1) n (by omega) (by omega)
  exact key N 0 k (by omega) hk
section
variable {k : Nat}
/-! idle nodes -/
/-- what the laws over a maze, a number and a list as the answer come to -/
theorem law_mzi (k : Nat) (hk : Big ≤ k) (n : Int) (d : List Door) (ks : List Int) (l : List Int) (b : Bool) (hd : d.length ≤ 1048576) (hl : ks.length ≤ 1048576) (hb : l.length ≤ 1048576) :
    decide ((1 : Int) + 3 * d.length + ks.length < 0) = false ∧ decide ((1 : Int) + l.length < 0) = false ∧ laws_markMaze.f k n d ks 1 = some ((1 : Int) + 3 * d.length + ks.length, ups3 1 d.length, ups (1 + 3 * d.length) ks.length) ∧ laws_markIntS.f k l 1 = some ((1 : Int) + l.length, ups 1 l.length) ∧ laws_heldIntS.f k (ups 1 l.length) 1 = some ((1 : Int) + l.length) :=
  ⟨decide_eq_false (by omega), decide_eq_false (by omega), markMaze_eq hk n d ks 1 (by omega) (by omega) hd hl, markIntS_eq hk l 1 (by omega) (by omega) hb, heldIntS_eq hk l.length 1 (by omega) (by omega) hb⟩
/-! nodes ahead -/
/-! a new console -/
/-! what a world can ever reach -/
theorem IsWorldsP.at {ms : List MazeT} {os : List (List Int)} (h : IsWorldsP ms os) (i : Nat) (hi : i < ms.length) : IsMaze ms[i].1 ms[i].2.1 ms[i].2.2 ∧ ∃ hio : i < os.length, (os[i].length : Int) = ms[i].1 ∧ ∀ o ∈ os[i], 0 ≤ o ∧ o ≤ (ms.length : Int) - 1 := by
  have h1 := h.2.2 i hi
  unfold worldOk at h1
  have hio : i < os.length := by have := h.2.1; omega
  have hod : os.getD i [] = os[i] := by rw [List.getD_eq_getElem?_getD, List.getElem?_eq_getElem hio]; rfl
  rw [dif_pos hi, hod] at h1
  simp only [Bool.and_eq_true, decide_eq_true_eq, List.all_eq_true] at h1
  exact ⟨h1.1.1, hio, h1.1.2, h1.2⟩
end
end Go.Proofs

/- Plain laws: O -/
namespace Go.Proofs
open Go Go.Ga Go.Ga.Wf
set_option linter.unusedVariables false
set_option linter.unusedSimpArgs false
theorem slc_pre {α : Type} (l : List α) (i : Nat) (h : i ≤ l.length) : slc l 0 (i : Int) = some (l.take i) := by
  unfold slc; rw [if_pos ⟨Int.le_refl _, by omega, by omega⟩]; simp
theorem slc_suf {α : Type} (l : List α) (i : Nat) (h : i ≤ l.length) : slc l (i : Int) (l.length : Int) = some (l.drop i) := by
  unfold slc; rw [if_pos ⟨by omega, by omega, by omega⟩]; simp
theorem filter_app {α : Type} (p : α → Bool) (dflt : α) (L : List α) : appUpto (fun i => if p (L.getD i dflt) = true then [L.getD i dflt] else []) L.length = L.filter p := by
  have : ∀ i, i ≤ L.length → appUpto (fun i => if p (L.getD i dflt) = true then [L.getD i dflt] else []) i = (L.take i).filter p := by
    intro i
    induction i with
    | zero => intro _; rfl
    | succ i ih =>
      intro hi
      rw [appUpto_succ, ih (by omega), List.take_add_one, List.getElem?_eq_getElem (by omega), List.filter_append]
      simp only [List.getD_eq_getElem?_getD, List.getElem?_eq_getElem (show i < L.length by omega), Option.getD_some, Option.toList_some]
      by_cases h : p L[i] = true
      · simp [h]
      · simp [h]
  rw [this _ (Nat.le_refl _), List.take_length]
section
variable {k : Nat}
theorem indexFunc3_eq (hk : Big ≤ k) (l : List Door) (hl : l.length ≤ 1048576) (f : Int → Int → Int → Option Bool) (p : Door → Bool) (hf : ∀ t ∈ l, f t.1 t.2.1 t.2.2 = some (p t)) :
    ∃ r, slices_IndexFunc__3int__3int.f k l f = some r ∧ ((r = -1 ∧ ∀ t ∈ l, p t = false) ∨ ∃ m : Nat, r = (m : Int) ∧ m < l.length ∧ (l.take m).filter (fun t => !p t) = l.take m ∧ ∀ h : m < l.length, p l[m] = true) := by
  unfold slices_IndexFunc__3int__3int.f
  have := loop_good (l := fun q (i : Nat) => slices_IndexFunc__3int__3int.l0 k l f q (i : Int)) (fun i => i ≤ l.length ∧ ∀ j (h : j < l.length), j < i → p l[j] = false) (fun i => l.length - i)
    (fun r => (r = .inl () ∧ ∀ t ∈ l, p t = false) ∨ ∃ m : Nat, r = .inr (m : Int) ∧ m < l.length ∧ (l.take m).filter (fun t => !p t) = l.take m ∧ ∀ h : m < l.length, p l[m] = true) (fun q i hI => by
      obtain ⟨h1, h2⟩ := hI
      by_cases hi : i < l.length
      · have hlt : ((i : Int) < (l.length : Int)) := by omega
        have hw : w64 ((i : Int) + 1) = ((i + 1 : Nat) : Int) := w64_id (by omega) (by omega)
        rw [slices_IndexFunc__3int__3int.l0]
        simp only [hlt, decide_true, if_true, rdl_lt hi, Option.bind_some, hw, hf _ (List.getElem_mem hi)]
        cases c : p l[i] with
        | true =>
          right
          refine ⟨.inr (i : Int), by simp, .inr ⟨i, rfl, hi, ?_, fun _ => c⟩⟩
          rw [List.filter_eq_self]
          intro t ht
          obtain ⟨j, hj, rfl⟩ := List.getElem_of_mem ht
          rw [List.length_take] at hj
          rw [List.getElem_take, h2 j (by omega) (by omega)]; rfl
        | false =>
          left
          refine ⟨i + 1, by simp, ⟨by omega, fun j h hj => ?_⟩, by omega⟩
          rcases Nat.eq_or_lt_of_le (Nat.le_of_lt_succ hj) with rfl | h'
          · exact c
          · exact h2 j h h'
      · right
        have : ¬ ((i : Int) < (l.length : Int)) := by omega
        rw [slices_IndexFunc__3int__3int.l0]
        refine ⟨.inl (), by simp [this], .inl ⟨rfl, fun t ht => ?_⟩⟩
        obtain ⟨j, hj, rfl⟩ := List.getElem_of_mem ht
        exact h2 j hj (by omega)) k 0 (by unfold Big at hk; omega) ⟨by omega, fun j _ h => by omega⟩
  obtain ⟨r, h1, h2⟩ := this
  rw [show ((0 : Nat) : Int) = 0 from rfl] at h1
  rw [h1, Option.bind_some]
  rcases h2 with ⟨rfl, h2⟩ | ⟨m, rfl, h2⟩
  · exact ⟨-1, rfl, .inl ⟨rfl, h2⟩⟩
  · exact ⟨m, rfl, .inr ⟨m, rfl, h2⟩⟩
theorem deleteFunc3_eq (hk : Big ≤ k) (l : List Door) (hl : l.length ≤ 1048576) (f : Int → Int → Int → Option Bool) (p : Door → Bool) (hf : ∀ t ∈ l, f t.1 t.2.1 t.2.2 = some (p t)) :
    slices_DeleteFunc__3int__3int.f k l f = some (l.filter fun t => !p t) := by
  unfold slices_DeleteFunc__3int__3int.f
  obtain ⟨r, h1, h2⟩ := indexFunc3_eq hk l hl f p hf
  rw [h1, Option.bind_some]
  rcases h2 with ⟨rfl, h2⟩ | ⟨m, rfl, h2, h3, h4⟩
  · rw [if_pos (by decide)]
    congr 1
    symm; rw [List.filter_eq_self]
    intro t ht; rw [h2 t ht]; rfl
  have hne : ¬ ((m : Int) == -1) = true := by rw [beq_iff_eq]; omega
  rw [if_neg hne, show w64 ((m : Int) + 1) = ((m + 1 : Nat) : Int) from w64_id (by omega) (by omega)]
  have htk : ∀ i (hi : i < l.length), l.take (i + 1) = l.take i ++ [l[i]] := fun i hi => by rw [List.take_add_one, List.getElem?_eq_getElem hi]; rfl
  have := loop_good (l := fun q (s : List Door × Nat × Nat) => slices_DeleteFunc__3int__3int.l0 k f q s.1 (s.2.1 : Int) (s.2.2 : Int))
    (fun s => s.1.length = l.length ∧ s.2.1 < s.2.2 ∧ s.2.2 ≤ l.length ∧ s.1.take s.2.1 = (l.take s.2.2).filter (fun t => !p t) ∧ ∀ j, s.2.2 ≤ j → s.1[j]? = l[j]?) (fun s => l.length - s.2.2)
    (fun r => ∃ c : Nat, r.2 = (c : Int) ∧ c ≤ l.length ∧ r.1.length = l.length ∧ r.1.take c = l.filter (fun t => !p t)) (fun q ⟨x, c, i⟩ hI => by
      obtain ⟨e1, e2, e3, e4, e5⟩ := hI
      simp only at e1 e2 e3 e4 e5
      simp only
      rw [slices_DeleteFunc__3int__3int.l0]
      by_cases hi : i < l.length
      · left
        have hlt : ((i : Int) < (x.length : Int)) := by omega
        have hw : w64 ((i : Int) + 1) = ((i + 1 : Nat) : Int) := w64_id (by omega) (by omega)
        have hwc : w64 ((c : Int) + 1) = ((c + 1 : Nat) : Int) := w64_id (by omega) (by omega)
        have hxi : rdl x (i : Int) = some l[i] := by rw [rdl_nat, e5 i (Nat.le_refl _), List.getElem?_eq_getElem hi]
        simp only [hlt, decide_true, if_true, hxi, Option.bind_some, hw, hf _ (List.getElem_mem hi), rdl_lt (show c < x.length by omega), hwc, Int.toNat_natCast]
        cases hp : p l[i] with
        | true =>
          refine ⟨(x, c, i + 1), by simp, ⟨e1, by simp only; omega, by simp only; omega, ?_, fun j hj => e5 j (by simp only at hj; omega)⟩, by simp only; omega⟩
          simp only
          rw [htk i hi, List.filter_append, e4]; simp [hp]
        | false =>
          refine ⟨(x.set c l[i], c + 1, i + 1), by simp, ⟨by simp only [List.length_set]; exact e1, by simp only; omega, by simp only; omega, ?_, fun j hj => ?_⟩, by simp only; omega⟩
          · simp only
            rw [htk i hi, List.filter_append, ← e4, List.take_add_one, List.getElem?_set_self (by omega), List.take_set_of_le (Nat.le_refl _)]
            simp [hp]
          · simp only at hj ⊢
            rw [List.getElem?_set_ne (by omega)]; exact e5 j (by omega)
      · right
        have hlt : ¬ ((i : Int) < (x.length : Int)) := by omega
        refine ⟨(x, (c : Int)), by simp [hlt], c, rfl, by omega, e1, ?_⟩
        rw [e4, List.take_of_length_le (by omega)]) k (l, m, m + 1) (by simp only; unfold Big at hk; omega) ⟨rfl, by simp only; omega, by simp only; omega, by
          simp only
          rw [htk m h2, List.filter_append, h3]; simp [h4 h2], fun j _ => rfl⟩
  obtain ⟨⟨x, c'⟩, g1, c, g2, g3, g4, g5⟩ := this
  simp only at g1 g2 g4 g5
  subst g2
  rw [g1, Option.bind_some]
  simp only
  rw [slc_suf x c (by omega), Option.bind_some, slc_pre _ c (by simp; omega), Option.bind_some]
  congr 1
  rw [Int.toNat_natCast, List.append_assoc, List.take_append_of_le_length (by simp; omega), List.take_take, Nat.min_self, g5]
def keepB (x : Int) (t : Door) : Bool := !(t.1 == x || t.2.1 == x)
def noNode (d : List Door) (x : Int) : List Door := d.filter (keepB x)
theorem Okm.sub {n : Int} {d : List Door} {ks : List Int} (hm : Okm n d ks) {d' : List Door} (h1 : d'.length ≤ d.length) (h2 : ∀ t ∈ d', t ∈ d) : Okm n d' ks :=
  ⟨hm.lo, hm.hi, Nat.le_trans h1 hm.few, hm.len, fun x hx => hm.doors x (h2 x hx), hm.keys⟩
theorem Okm.noNode {n : Int} {d : List Door} {ks : List Int} (hm : Okm n d ks) (x : Int) : Okm n (noNode d x) ks := hm.sub (List.length_filter_le _ _) fun _ h => (List.mem_filter.1 h).1
theorem withoutNode_eq (hk : Big ≤ k) (n : Int) (d : List Door) (ks : List Int) (x : Int) (hd : d.length ≤ 1048576) (hl : ks.length ≤ 1048576) : impl_withoutNode.f k n d ks x = some (n, noNode d x, ks) := by
  unfold impl_withoutNode.f
  simp only [own_eq n d ks hd hl, Option.bind_some]
  rw [deleteFunc3_eq hk d hd (fun z0 z1 z2 => impl_withoutNode_1.f k z0 z1 z2 x) (fun t => t.1 == x || t.2.1 == x) (fun t _ => by
    unfold impl_withoutNode_1.f
    cases c : (t.1 == x) <;> simp [c]), Option.bind_some]; rfl
theorem l3Node_eq (hk : Big ≤ k) (n : Int) (d : List Door) (ks : List Int) (x : Int) (hd : d.length ≤ 1048576) (hl : ks.length ≤ 1048576) : spec_l3Node.f k n d ks x = some (n, noNode d x, ks) := by
  unfold spec_l3Node.f
  simp only [l2Own_eq n d ks hd hl, Option.bind_some]
  rw [loop_app (l := fun q s' i => spec_l3Node.l0 k d x q i s') d.length (fun i => if keepB x (d.getD i (0, 0, 0)) = true then [d.getD i (0, 0, 0)] else []) (some (noNode d x)) (fun q i hi => by
    have hlt : ((i : Int) < (d.length : Int)) := by omega
    have hww : w64 ((i : Int) + 1) = ((i + 1 : Nat) : Int) := w64_id (by omega) (by omega)
    have hle := appUpto_length (fun i => if keepB x (d.getD i (0, 0, 0)) = true then [d.getD i (0, 0, 0)] else []) 1 (fun i => by split <;> simp) i
    generalize appUpto (fun i => if keepB x (d.getD i (0, 0, 0)) = true then [d.getD i (0, 0, 0)] else []) i = s at *
    rw [spec_l3Node.l0, List.getD_eq_getElem?_getD, List.getElem?_eq_getElem hi]
    have hb : (s ++ [d[i]]).length < 1099511627776 := by rw [List.length_append, List.length_singleton]; omega
    simp only [hlt, decide_true, if_true, rdl_lt hi, Option.bind_some, hww, Option.getD_some, if_pos hb]
    unfold keepB
    by_cases h1 : d[i].1 = x
    · simp [h1]
    · by_cases h2 : d[i].2.1 = x
      · simp [h1, h2]
      · simp [h1, h2]) (fun q => by
      show spec_l3Node.l0 k d x (q + 1) (d.length : Int) _ = _
      rw [spec_l3Node.l0, filter_app (keepB x) (0, 0, 0) d]; simp [noNode]) (by unfold Big at hk; omega)]
  rfl
noncomputable def reqNG (n : Int) (d : List Door) (ks : List Int) (h : Int) (x : Nat) : List Int := if winsB n (noNode d ((x : Int) + 1)) ks h = true then [] else [(x : Int) + 1]
theorem reqNG_le (n : Int) (d : List Door) (ks : List Int) (h : Int) (x : Nat) : (reqNG n d ks h x).length ≤ 1 := by unfold reqNG; split <;> simp
open Classical in
noncomputable def reqNR (n : Int) (d : List Door) (ks : List Int) (h : Int) : List Int × Bool :=
  if (IsMaze n d ks ∧ 0 ≤ h ∧ h ≤ 63) ∧ winsB n d ks h = true then (appUpto (reqNG n d ks h) (n.toNat - 2), true) else ([], false)
theorem impl_RequiredNodes_eq (hk : Big ≤ k) (n : Int) (d : List Door) (ks : List Int) (h : Int) (hd : d.length ≤ 1048576) (hl : ks.length ≤ 1048576) : impl_RequiredNodes.f k n d ks h = some (reqNR n d ks h) := by
  unfold impl_RequiredNodes.f reqNR
  rw [won_eq hk n d ks h hd hl]
  by_cases hw : (IsMaze n d ks ∧ 0 ≤ h ∧ h ≤ 63) ∧ winsB n d ks h = true
  rotate_left 1
  · rw [if_neg hw, decide_eq_false hw]; rfl
  have om := hw.1.1.okm
  have hlo := om.lo
  have hhi := om.hi
  have hlen := om.len
  rw [if_pos hw, decide_eq_true hw]
  simp only [Option.bind_some, Bool.not_true, Bool.false_eq_true, if_false]
  have := loop_app (l := fun q s' (i : Int) => impl_RequiredNodes.l0 k n d ks h q s' (i + 1)) ((n.toNat - 2)) (reqNG n d ks h) (some (appUpto (reqNG n d ks h) ((n.toNat - 2)))) (fun q x hi => by
    have hi' : x < (n.toNat - 2) := hi
    have hlt : ((x : Int) + 1 < w64 (n - 1)) := by rw [w64_id (by omega) (by omega)]; omega
    have hww : w64 ((x : Int) + 1 + 1) = ((x + 1 : Nat) : Int) + 1 := by rw [w64_id (by omega) (by omega)]; omega
    have hle := appUpto_length (reqNG n d ks h) 1 (reqNG_le n d ks h) x
    try simp only
    rw [impl_RequiredNodes.l0]
    simp only [hlt, decide_true, if_true, withoutNode_eq hk n d ks ((x : Int) + 1) hd hl, Option.bind_some, canWin_eq hk (om.noNode ((x : Int) + 1)) hw.1.2, hww]
    rw [show reqNG n d ks h x = if winsB n (noNode d ((x : Int) + 1)) ks h = true then [] else [(x : Int) + 1] from rfl]
    cases winsB n (noNode d ((x : Int) + 1)) ks h with
    | true => simp
    | false =>
      simp only [Bool.not_false, if_true]
      rw [if_pos (by rw [List.length_append]; simp only [List.length_singleton]; omega)]
      simp) (fun q => by
      try simp only
      rw [impl_RequiredNodes.l0, if_neg (by simp only [decide_eq_true_eq, w64_id (show -9223372036854775808 ≤ n - 1 by omega) (by omega)]; omega)]) (k := k) (by unfold Big at hk; omega)
  try simp only [Int.zero_add] at this
  rw [this]; rfl
theorem spec_RequiredNodes_eq (hk : Big ≤ k) (n : Int) (d : List Door) (ks : List Int) (h : Int) (hd : d.length ≤ 1048576) (hl : ks.length ≤ 1048576) : spec_RequiredNodes.f k n d ks h = some (reqNR n d ks h) := by
  unfold spec_RequiredNodes.f reqNR
  rw [l3Can_eq hk n d ks h hd hl]
  by_cases hw : (IsMaze n d ks ∧ 0 ≤ h ∧ h ≤ 63) ∧ winsB n d ks h = true
  rotate_left 1
  · rw [if_neg hw, decide_eq_false hw]; rfl
  have om := hw.1.1.okm
  have hlo := om.lo
  have hhi := om.hi
  have hlen := om.len
  rw [if_pos hw, decide_eq_true hw]
  simp only [Option.bind_some, Bool.not_true, Bool.false_eq_true, if_false]
  have := loop_app (l := fun q s' (i : Int) => spec_RequiredNodes.l0 k n d ks h q s' (i + 1)) ((n.toNat - 2)) (reqNG n d ks h) (some (appUpto (reqNG n d ks h) ((n.toNat - 2)))) (fun q x hi => by
    have hi' : x < (n.toNat - 2) := hi
    have hlt : ((x : Int) + 1 < w64 (n - 1)) := by rw [w64_id (by omega) (by omega)]; omega
    have hww : w64 ((x : Int) + 1 + 1) = ((x + 1 : Nat) : Int) + 1 := by rw [w64_id (by omega) (by omega)]; omega
    have hle := appUpto_length (reqNG n d ks h) 1 (reqNG_le n d ks h) x
    try simp only
    rw [spec_RequiredNodes.l0]
    simp only [hlt, decide_true, if_true, l3Node_eq hk n d ks ((x : Int) + 1) hd hl, Option.bind_some, l3Wins_eq hk (om.noNode ((x : Int) + 1)) hw.1.2, hww]
    rw [show reqNG n d ks h x = if winsB n (noNode d ((x : Int) + 1)) ks h = true then [] else [(x : Int) + 1] from rfl]
    cases winsB n (noNode d ((x : Int) + 1)) ks h with
    | true => simp
    | false =>
      simp only [Bool.not_false, if_true]
      rw [if_pos (by rw [List.length_append]; simp only [List.length_singleton]; omega)]
      simp) (fun q => by
      try simp only
      rw [spec_RequiredNodes.l0, if_neg (by simp only [decide_eq_true_eq, w64_id (show -9223372036854775808 ≤ n - 1 by omega) (by omega)]; omega)]) (k := k) (by unfold Big at hk; omega)
  try simp only [Int.zero_add] at this
  rw [this]; rfl
theorem reqNR_len (n : Int) (d : List Door) (ks : List Int) (h : Int) : (reqNR n d ks h).1.length ≤ 1048576 := by
  unfold reqNR
  split
  · rename_i hw
    have := appUpto_length (reqNG n d ks h) 1 (reqNG_le n d ks h) ((n.toNat - 2))
    have := hw.1.1.okm.hi
    have := hw.1.1.okm.few
    simp only; omega
  · simp
theorem laws_FnExactRequiredNodes.pure (x : Int × List (Int × Int × Int) × List Int) (y : Int) (h : wfd x) (h' : wfd y) : ∃ k, laws_FnExactRequiredNodes.f k x.1 x.2.1 x.2.2 y = some true := by
  refine ⟨Big, ?_⟩
  have hk : Big ≤ Big := Nat.le_refl _
  obtain ⟨n, d, ks⟩ := x
  have h1 : d.length ≤ maxLen := h.2.1.1
  have h2 : ks.length ≤ maxLen := h.2.2.1
  unfold laws_FnExactRequiredNodes.f
  simp only [szMaze_eq n d ks _ (by decide : (0 : Int) ≤ 1048576) (Int.le_refl _) h1 h2, Option.bind_some]
  by_cases hc : ((d.length + ks.length : Nat) : Int) ≤ 1048576
  · have e2 := impl_RequiredNodes_eq hk n d ks y (by omega) (by omega)
    have e3 := spec_RequiredNodes_eq hk n d ks y (by omega) (by omega)
    have hb := reqNR_len n d ks y
    generalize reqNR n d ks y = r at *
    obtain ⟨l, b⟩ := r
    simp only at hb
    obtain ⟨p1, p2, p3, p4, p5⟩ := law_mzi Big hk n d ks l b (by omega) (by omega) hb
    simp only [p1, p2, p3, p4, p5, szo_pos hc, Bool.false_eq_true, if_false, toMaze_eq hk n d ks (by omega) (by omega), e2, e3, Option.bind_some, eqIntS_eq hk l l hb, eqMaze_eq hk n n d d ks ks (by omega) (by omega)]
    simp
  · simp only [szo_neg hc, if_true]
end
end Go.Proofs

/- A part of the proof of FnExactGiveKeys: the plain law. No condition. -/
import Derived.Test.YtefpihelkbmpjaaFnExactGiveKeysE
/- Plain laws: A -/
namespace Go.Proofs
open Go Go.Ga Go.Ga.Wf
set_option linter.unusedVariables false
set_option linter.unusedSimpArgs false
section
variable {k : Nat}
theorem within_eq (x a b : Int) : impl_within.f k x a b = some (decide (a ≤ x ∧ x ≤ b)) := by
  unfold impl_within.f
  by_cases h : a ≤ x <;> simp [h]
theorem in_eq (x a b : Int) : spec_l1In.f k x a b = some (decide (a ≤ x ∧ x ≤ b)) := by
  unfold spec_l1In.f
  by_cases h : a ≤ x <;> simp [h, ge_iff_le]
end
end Go.Proofs

/- Plain laws: B -/
namespace Go.Ga
open Go
def szo (m : Int) (n : Nat) : Int := if (n : Int) ≤ m then m - n else -1
theorem loop_copy {α : Type} {l : Nat → List α → Int → Option (List α)} {a : List α}
    (hs : ∀ n (i : Nat) (s : List α) (hi : i < a.length), s.length = a.length → l (n + 1) s (i : Int) = l n (s.set i a[i]) ((i + 1 : Nat) : Int))
    (he : ∀ n s, l (n + 1) s (a.length : Int) = some s) {k : Nat} (hk : a.length < k) {s : List α} (h0 : s.length = a.length) : l k s 0 = some a := by
  have key : ∀ m i k s, i + m = a.length → m < k → s.length = a.length → (∀ j, j < i → s[j]? = a[j]?) → l k s (i : Int) = some a := by
    intro m
    induction m with
    | zero =>
      intro i k s hi hk h1 h2
      obtain ⟨n, rfl⟩ : ∃ n, k = n + 1 := ⟨k - 1, by omega⟩
      have : i = a.length := by omega
      subst this
      rw [he]
      congr 1
      refine List.ext_getElem? fun j => ?_
      rcases Nat.lt_or_ge j a.length with h | h
      · exact h2 j h
      · rw [List.getElem?_eq_none (by omega), List.getElem?_eq_none h]
    | succ m ih =>
      intro i k s hi hk h1 h2
      obtain ⟨n, rfl⟩ : ∃ n, k = n + 1 := ⟨k - 1, by omega⟩
      rw [hs n i s (by omega) h1]
      refine ih (i + 1) n _ (by omega) (by omega) (by simpa using h1) fun j hj => ?_
      rcases Nat.eq_or_lt_of_le (Nat.le_of_lt_succ hj) with rfl | h
      · rw [List.getElem?_set_self (by omega), List.getElem?_eq_getElem (by omega)]
      · rw [List.getElem?_set_ne (by omega)]; exact h2 j h
  have := key a.length 0 k s (by omega) hk h0 (by omega)
  simpa using this
theorem loop_eq {α : Type} [DecidableEq α] {l : Nat → Int → Option (Unit ⊕ Bool)} {a b : List α} (hl : a.length = b.length)
    (hs : ∀ n (i : Nat) (hi : i < a.length), l (n + 1) (i : Int) = if a[i] = b[i] then l n ((i + 1 : Nat) : Int) else some (.inr false))
    (he : ∀ n, l (n + 1) (a.length : Int) = some (.inl ())) {k : Nat} (hk : a.length < k) : l k 0 = some (if a = b then .inl () else .inr false) := by
  rw [loop_all (l := l) (N := a.length) (fun i => decide (a[i]? = b[i]?)) (z := false) (fun n i hi => by
    rw [hs n i hi, List.getElem?_eq_getElem hi, List.getElem?_eq_getElem (by omega)]
    simp) he hk]
  congr 1
  have : (∀ i, i < a.length → decide (a[i]? = b[i]?) = true) ↔ a = b := by
    constructor
    · intro h
      refine List.ext_getElem? fun i => ?_
      rcases Nat.lt_or_ge i a.length with h1 | h1
      · simpa using h i h1
      · rw [List.getElem?_eq_none h1, List.getElem?_eq_none (by omega)]
    · rintro rfl i _; simp
  by_cases h : a = b
  · rw [if_pos h, if_pos (this.2 h)]
  · rw [if_neg h, if_neg (fun H => h (this.1 H))]
theorem w64_1 : w64 1 = 1 := rfl
theorem w64_2 : w64 2 = 2 := rfl
theorem w64_3 : w64 3 = 3 := rfl
theorem rdl3_0 {α : Type} {x y z : α} : rdl [x, y, z] 0 = some x := rfl
theorem rdl3_1 {α : Type} {x y z : α} : rdl [x, y, z] 1 = some y := rfl
theorem rdl3_2 {α : Type} {x y z : α} : rdl [x, y, z] 2 = some z := rfl
end Go.Ga
namespace Go.Proofs
open Go Go.Ga Go.Ga.Wf
set_option linter.unusedVariables false
set_option linter.unusedSimpArgs false
section
variable {k : Nat}
theorem big_split (hk : Big ≤ k) : ∃ n, k = n + 5 := ⟨k - 5, by unfold Big at hk; omega⟩
theorem maxLen_eq : maxLen = 9223372036854775807 := by decide
theorem szIntS_eq (l : List Int) (m : Int) (h0 : 0 ≤ m) (hm : m ≤ 1048576) (hl : l.length ≤ maxLen) : laws_szIntS.f k l m = some (szo m l.length) := by
  unfold laws_szIntS.f szo
  rw [maxLen_eq] at hl
  rw [w64_id (by omega) (by omega)]
  by_cases h : (l.length : Int) ≤ m
  · rw [if_neg (by simp; omega), if_pos h]
  · rw [if_pos (by simp; omega), if_neg h]
theorem szIntA3S_eq (l : List (Int × Int × Int)) (m : Int) (h0 : 0 ≤ m) (hm : m ≤ 1048576) (hl : l.length ≤ maxLen) : laws_szIntA3S.f k l m = some (szo m l.length) := by
  unfold laws_szIntA3S.f szo
  rw [maxLen_eq] at hl
  rw [w64_id (by omega) (by omega)]
  by_cases h : (l.length : Int) ≤ m
  · rw [if_neg (by simp; omega), if_pos h]
  · rw [if_pos (by simp; omega), if_neg h]
theorem szo_add (m : Int) (a b : Nat) : (if decide (szo m a < 0) = true then some (-1) else (some (szo (szo m a) b)).bind fun t => if decide (t < 0) = true then some (-1) else some t) = some (szo m (a + b)) := by
  unfold szo
  by_cases h : (a : Int) ≤ m
  · have h1 : ¬ (m - (a : Int) < 0) := by omega
    by_cases h2 : (b : Int) ≤ m - a
    · have h3 : ¬ (m - (a : Int) - b < 0) := by omega
      have h4 : ((a + b : Nat) : Int) ≤ m := by omega
      simp only [h, h1, h2, h3, h4, if_true, decide_false, Bool.false_eq_true, if_false, Option.bind_some]; congr 1; omega
    · have h4 : ¬ ((a + b : Nat) : Int) ≤ m := by omega
      simp only [h, h1, h2, h4, if_true, decide_false, Bool.false_eq_true, if_false, Option.bind_some]; simp
  · have h4 : ¬ ((a + b : Nat) : Int) ≤ m := by omega
    simp only [h, h4, if_false]; simp
theorem szo_range {m : Int} {n : Nat} (h0 : 0 ≤ m) (hm : m ≤ 1048576) : -1 ≤ szo m n ∧ szo m n ≤ 1048576 := by unfold szo; split <;> omega
theorem szMaze_eq (n : Int) (d : List (Int × Int × Int)) (ks : List Int) (m : Int) (h0 : 0 ≤ m) (hm : m ≤ 1048576) (hd : d.length ≤ maxLen) (hl : ks.length ≤ maxLen) :
    laws_szMaze.f k n d ks m = some (szo m (d.length + ks.length)) := by
  unfold laws_szMaze.f
  rw [szIntA3S_eq d m h0 hm hd, Option.bind_some, ← szo_add]
  by_cases h : szo m d.length < 0
  · simp [h]
  · rw [szIntS_eq ks _ (by omega) (szo_range h0 hm).2 hl]
theorem toIntS_eq (hk : Big ≤ k) (l : List Int) (hl : l.length ≤ 1048576) : laws_toIntS.f k l = some l := by
  unfold laws_toIntS.f
  rw [if_pos (by omega)]
  rw [loop_copy (l := laws_toIntS.l0 k l) (a := l) (fun n i s hi hs => by
    rw [laws_toIntS.l0]
    have h1 : ((i : Int) < (l.length : Int)) := by omega
    have hw : w64 ((i : Int) + 1) = ((i + 1 : Nat) : Int) := w64_id (by omega) (by omega)
    simp only [h1, decide_true, if_true, rdl_lt hi, rdl_lt (hs ▸ hi), Option.bind_some, hw, Int.toNat_natCast])
    (fun n s => by rw [laws_toIntS.l0]; simp) (by unfold Big at hk; omega) (by simp)]
  rfl
theorem toIntA3_eq (hk : Big ≤ k) (a b c : Int) : laws_toIntA3.f k a b c = some (a, b, c) := by
  obtain ⟨n, rfl⟩ := big_split hk
  unfold laws_toIntA3.f
  simp [laws_toIntA3.l0, w64_1, w64_2, w64_3, rdl3_0, rdl3_1, rdl3_2]
theorem toIntA3S_eq (hk : Big ≤ k) (l : List (Int × Int × Int)) (hl : l.length ≤ 1048576) : laws_toIntA3S.f k l = some l := by
  unfold laws_toIntA3S.f
  rw [if_pos (by omega)]
  rw [loop_copy (l := laws_toIntA3S.l0 k l) (a := l) (fun n i s hi hs => by
    rw [laws_toIntA3S.l0]
    have h1 : ((i : Int) < (l.length : Int)) := by omega
    have hw : w64 ((i : Int) + 1) = ((i + 1 : Nat) : Int) := w64_id (by omega) (by omega)
    simp only [h1, decide_true, if_true, rdl_lt hi, rdl_lt (hs ▸ hi), Option.bind_some, hw, Int.toNat_natCast, toIntA3_eq hk])
    (fun n s => by rw [laws_toIntA3S.l0]; simp) (by unfold Big at hk; omega) (by simp)]
  rfl
theorem toMaze_eq (hk : Big ≤ k) (n : Int) (d : List (Int × Int × Int)) (ks : List Int) (hd : d.length ≤ 1048576) (hl : ks.length ≤ 1048576) : laws_toMaze.f k n d ks = some (n, d, ks) := by
  unfold laws_toMaze.f
  rw [toIntA3S_eq hk d hd, Option.bind_some, toIntS_eq hk ks hl, Option.bind_some]
theorem eqIntS_eq (hk : Big ≤ k) (a b : List Int) (hl : a.length ≤ 1048576) : laws_eqIntS.f k a b = some (decide (a = b)) := by
  unfold laws_eqIntS.f
  by_cases h : a.length = b.length
  · rw [if_neg (by simp; omega), loop_eq (l := laws_eqIntS.l0 k a b) h (fun n i hi => by
      rw [laws_eqIntS.l0]
      have h1 : ((i : Int) < (a.length : Int)) := by omega
      have hw : w64 ((i : Int) + 1) = ((i + 1 : Nat) : Int) := w64_id (by omega) (by omega)
      simp only [h1, decide_true, if_true, rdl_lt hi, rdl_lt (h ▸ hi), Option.bind_some, hw]
      by_cases h2 : a[i] = b[i] <;> simp [h2]) (fun n => by rw [laws_eqIntS.l0]; simp) (by unfold Big at hk; omega), Option.bind_some, Lr_ite]
    by_cases h2 : a = b <;> simp [h2]
  · rw [if_pos (by simp; omega)]
    have : a ≠ b := fun e => h (by rw [e])
    simp [this]
theorem eqIntA3_eq (hk : Big ≤ k) (a b c a' b' c' : Int) : laws_eqIntA3.f k a b c a' b' c' = some (decide ((a, b, c) = (a', b', c'))) := by
  obtain ⟨n, rfl⟩ := big_split hk
  unfold laws_eqIntA3.f
  by_cases h1 : a = a' <;> by_cases h2 : b = b' <;> by_cases h3 : c = c' <;>
    simp [laws_eqIntA3.l0, w64_1, w64_2, w64_3, rdl3_0, rdl3_1, rdl3_2, h1, h2, h3, Lr]
theorem eqIntA3S_eq (hk : Big ≤ k) (a b : List (Int × Int × Int)) (hl : a.length ≤ 1048576) : laws_eqIntA3S.f k a b = some (decide (a = b)) := by
  unfold laws_eqIntA3S.f
  by_cases h : a.length = b.length
  · rw [if_neg (by simp; omega), loop_eq (l := laws_eqIntA3S.l0 k a b) h (fun n i hi => by
      rw [laws_eqIntA3S.l0]
      have h1 : ((i : Int) < (a.length : Int)) := by omega
      have hw : w64 ((i : Int) + 1) = ((i + 1 : Nat) : Int) := w64_id (by omega) (by omega)
      simp only [h1, decide_true, if_true, rdl_lt hi, rdl_lt (h ▸ hi), Option.bind_some, hw, eqIntA3_eq hk]
      by_cases h2 : a[i] = b[i] <;> simp [h2]) (fun n => by rw [laws_eqIntA3S.l0]; simp) (by unfold Big at hk; omega), Option.bind_some, Lr_ite]
    by_cases h2 : a = b <;> simp [h2]
  · rw [if_pos (by simp; omega)]
    have : a ≠ b := fun e => h (by rw [e])
    simp [this]
theorem eqMaze_eq (hk : Big ≤ k) (n n' : Int) (d d' : List (Int × Int × Int)) (ks ks' : List Int) (hd : d.length ≤ 1048576) (hl : ks.length ≤ 1048576) :
    laws_eqMaze.f k n d ks n' d' ks' = some (decide ((n, d, ks) = (n', d', ks'))) := by
  unfold laws_eqMaze.f
  rw [eqIntA3S_eq hk d d' hd, eqIntS_eq hk ks ks' hl]
  by_cases h1 : n = n' <;> by_cases h2 : d = d' <;> by_cases h3 : ks = ks' <;> simp [h1, h2, h3]
end
end Go.Proofs

/- Plain laws: C -/
namespace Go.Proofs
open Go Go.Ga Go.Ga.Wf
set_option linter.unusedVariables false
set_option linter.unusedSimpArgs false
abbrev Door := Int × Int × Int
def DoorOk (n : Int) (x : Door) : Prop := 0 ≤ x.1 ∧ x.1 < x.2.1 ∧ x.2.1 < n ∧ 0 ≤ x.2.2 ∧ x.2.2 ≤ 63
def DoorLt (a b : Door) : Prop := a.1 < b.1 ∨ (a.1 = b.1 ∧ (a.2.1 < b.2.1 ∨ (a.2.1 = b.2.1 ∧ a.2.2 < b.2.2)))
instance (n : Int) (x : Door) : Decidable (DoorOk n x) := by unfold DoorOk; infer_instance
instance (a b : Door) : Decidable (DoorLt a b) := by unfold DoorLt; infer_instance
def doorB (n : Int) (d : List Door) (i : Nat) : Bool := if h : i < d.length then decide (DoorOk n d[i]) && (decide (i = 0) || decide (DoorLt d[i - 1] d[i])) else true
def setB (ks : List Int) (i : Nat) : Bool := if h : i < ks.length then decide (0 ≤ ks[i] ∧ ks[i] ≤ 63) else true
def IsMaze (n : Int) (d : List Door) (ks : List Int) : Prop :=
  1 ≤ n ∧ n ≤ 12 ∧ d.length ≤ 30 ∧ (ks.length : Int) = n ∧ (∀ i, i < d.length → doorB n d i = true) ∧ ∀ i, i < ks.length → setB ks i = true
instance (n : Int) (d : List Door) (ks : List Int) : Decidable (IsMaze n d ks) := by unfold IsMaze; infer_instance
section
variable {k : Nat}
def cmpI (x y : Int) : Int := if x < y then -1 else if x > y then 1 else 0
theorem compare_eq (x y : Int) : cmp_Compare_int.f k x y = some (cmpI x y) := by
  unfold cmp_Compare_int.f cmp_isNaN_int.f cmpI
  simp only [bne_self_eq_false, Option.bind_some, Bool.false_eq_true, if_false, decide_eq_true_eq]
  repeat' split
  all_goals rfl
theorem or3_eq (hk : Big ≤ k) (x y z : Int) : cmp_Or_int.f k [x, y, z] = some (if x ≠ 0 then x else if y ≠ 0 then y else z) := by
  obtain ⟨n, rfl⟩ := big_split hk
  unfold cmp_Or_int.f
  by_cases h1 : x = 0 <;> by_cases h2 : y = 0 <;> by_cases h3 : z = 0 <;>
    simp [cmp_Or_int.l0, w64_1, w64_2, w64_3, rdl3_0, rdl3_1, rdl3_2, h1, h2, h3, Lr]
theorem compareDoors_eq (hk : Big ≤ k) (x y : Door) : ∃ c, impl_compareDoors.f k x.1 x.2.1 x.2.2 y.1 y.2.1 y.2.2 = some c ∧ (c ≥ 0 ↔ ¬ DoorLt x y) ∧ (c = 0 ↔ x = y) := by
  unfold impl_compareDoors.f
  refine ⟨_, by simp only [compare_eq, Option.bind_some, or3_eq hk]; rfl, ?_, ?_⟩
  · unfold DoorLt cmpI
    repeat' split
    all_goals omega
  · obtain ⟨a, b, c⟩ := x; obtain ⟨a', b', c'⟩ := y
    simp only [Prod.mk.injEq]
    unfold cmpI
    repeat' split
    all_goals omega
theorem before_eq (hk : Big ≤ k) (x y : Door) : spec_l2Before.f k x.1 x.2.1 x.2.2 y.1 y.2.1 y.2.2 = some (decide (DoorLt x y)) := by
  obtain ⟨n, rfl⟩ := big_split hk
  obtain ⟨a, b, c⟩ := x; obtain ⟨a', b', c'⟩ := y
  unfold spec_l2Before.f DoorLt
  by_cases h1 : a = a' <;> by_cases h2 : b = b' <;> by_cases h3 : c = c' <;>
    simp [spec_l2Before.l0, w64_1, w64_2, w64_3, rdl3_0, rdl3_1, rdl3_2, h1, h2, h3, Lr]
theorem isSet_eq (x : Int) : impl_isSet.f k x = some (decide (0 ≤ x ∧ x ≤ 63)) := by unfold impl_isSet.f; rw [within_eq]; rfl
theorem l2Set_eq (x : Int) : spec_l2Set.f k x = some (decide (0 ≤ x ∧ x ≤ 63)) := by unfold spec_l2Set.f; rw [in_eq]; rfl
theorem containsFunc_eq (hk : Big ≤ k) (l : List Int) (hl : l.length ≤ 1048576) (p : Int → Option Bool) (q : Int → Bool) (hp : ∀ x ∈ l, p x = some (q x)) :
    slices_ContainsFunc_int_int.f k l p = some (l.any q) := by
  unfold slices_ContainsFunc_int_int.f slices_IndexFunc_int_int.f
  have := loop_find (l := slices_IndexFunc_int_int.l0 k l p) (N := l.length) (fun i => if h : i < l.length then (if q l[i] = true then some (i : Int) else none) else none) (z := .inl ()) (fun n i hi => by
    rw [slices_IndexFunc_int_int.l0]
    have h1 : ((i : Int) < (l.length : Int)) := by omega
    have hw : w64 ((i : Int) + 1) = ((i + 1 : Nat) : Int) := w64_id (by omega) (by omega)
    simp only [h1, decide_true, if_true, rdl_lt hi, Option.bind_some, hw, hp _ (List.getElem_mem hi), hi, dite_true]
    cases q l[i] <;> simp) (fun n => by rw [slices_IndexFunc_int_int.l0]; simp) (k := k) (by unfold Big at hk; omega)
  rw [this, Option.bind_some]
  cases hf : (List.range l.length).findSome? (fun i => if h : i < l.length then (if q l[i] = true then some (i : Int) else none) else none) with
  | none =>
    simp only [Lr, Option.bind_some]
    rw [List.findSome?_eq_none_iff] at hf
    have : l.any q = false := by
      rw [List.any_eq_false]
      intro x hx
      obtain ⟨i, hi, rfl⟩ := List.getElem_of_mem hx
      have := hf i (List.mem_range.2 hi)
      simpa [hi] using this
    simp [this]
  | some r =>
    simp only [Lr, Option.bind_some]
    obtain ⟨i, hi, h⟩ := List.exists_of_findSome?_eq_some hf
    have hi' := List.mem_range.1 hi
    simp only [hi', dite_true] at h
    split at h
    · rename_i h1; cases h
      have : l.any q = true := List.any_eq_true.2 ⟨_, List.getElem_mem hi', h1⟩
      simp [this]
    · cases h
theorem IsMaze_eq (hk : Big ≤ k) (n : Int) (d : List Door) (ks : List Int) (hd : d.length ≤ 1048576) (hl : ks.length ≤ 1048576) : impl_IsMaze.f k n d ks = some (decide (IsMaze n d ks)) := by
  unfold impl_IsMaze.f
  have hloop := loop_all (l := impl_IsMaze.l0 k n d) (N := d.length) (doorB n d) (z := false) (fun m i hi => by
    rw [impl_IsMaze.l0]
    have h1 : ((i : Int) < (d.length : Int)) := by omega
    have hw : w64 ((i : Int) + 1) = ((i + 1 : Nat) : Int) := w64_id (by omega) (by omega)
    simp only [h1, decide_true, if_true, rdl_lt hi, Option.bind_some, hw, isSet_eq]
    unfold doorB DoorOk
    rw [dif_pos hi]
    by_cases c1 : d[i].1 < 0
    · simp [c1, show ¬ (0 ≤ d[i].1) by omega]
    by_cases c2 : d[i].1 ≥ d[i].2.1
    · simp [c1, c2, show ¬ (d[i].1 < d[i].2.1) by omega]
    by_cases c3 : d[i].2.1 ≥ n
    · simp [c1, c2, c3, show ¬ (d[i].2.1 < n) by omega]
    by_cases c4 : 0 ≤ d[i].2.2 ∧ d[i].2.2 ≤ 63
    · have c : (0 ≤ d[i].1 ∧ d[i].1 < d[i].2.1 ∧ d[i].2.1 < n ∧ 0 ≤ d[i].2.2 ∧ d[i].2.2 ≤ 63) := ⟨by omega, by omega, by omega, c4⟩
      rcases Nat.eq_zero_or_pos i with rfl | hp
      · simp [c1, c2, c3, c4, c]
      · have e1 : w64 ((i : Int) - 1) = ((i - 1 : Nat) : Int) := by rw [w64_id (by omega) (by omega)]; omega
        have hi1 : i - 1 < d.length := by omega
        obtain ⟨cc, hc1, hc2, _⟩ := compareDoors_eq hk d[i - 1] d[i]
        have hp' : (i : Int) > 0 := by omega
        have hne : ¬ i = 0 := by omega
        simp only [c1, c2, c3, c4, decide_false, Bool.false_eq_true, if_false, decide_true, Bool.not_true, hp', if_true, e1, rdl_lt hi1, Option.bind_some, hc1, c, hne, Bool.true_and, Bool.false_or, and_self]
        by_cases hlt : DoorLt d[i - 1] d[i]
        · have : ¬ cc ≥ 0 := fun h => hc2.1 h hlt
          simp [hlt, this]
        · have : cc ≥ 0 := hc2.2 hlt
          simp [hlt, this]
    · simp [c1, c2, c3, c4, show ¬ (0 ≤ d[i].1 ∧ d[i].1 < d[i].2.1 ∧ d[i].2.1 < n ∧ 0 ≤ d[i].2.2 ∧ d[i].2.2 ≤ 63) from fun h => c4 h.2.2.2])
    (fun m => by rw [impl_IsMaze.l0]; simp) (k := k) (by unfold Big at hk; omega)
  rw [hloop, containsFunc_eq hk ks hl _ (fun x => !decide (0 ≤ x ∧ x ≤ 63)) (fun x _ => by simp [impl_IsMaze_1.f, isSet_eq]), within_eq]
  have hset : (∀ i, i < ks.length → setB ks i = true) ↔ ks.any (fun x => !decide (0 ≤ x ∧ x ≤ 63)) = false := by
    rw [List.any_eq_false]
    constructor
    · intro H x hx
      obtain ⟨i, hi, rfl⟩ := List.getElem_of_mem hx
      have := H i hi; simpa [setB, hi] using this
    · intro H i hi
      have := H _ (List.getElem_mem hi); simpa [setB, hi] using this
  simp only [Option.bind_some, Lr_ite]
  by_cases c1 : 1 ≤ n ∧ n ≤ 12
  rotate_left 1
  · have : ¬ IsMaze n d ks := fun h => c1 ⟨h.1, h.2.1⟩
    simp [c1, this]
  by_cases c2 : (d.length : Int) > 30
  · have : ¬ IsMaze n d ks := fun h => by have := h.2.2.1; omega
    simp [c1, c2, this]
  by_cases c3 : (ks.length : Int) = n
  rotate_left 1
  · have : ¬ IsMaze n d ks := fun h => c3 h.2.2.2.1
    simp [c1, c2, c3, this]
  by_cases c4 : ∀ i, i < d.length → doorB n d i = true
  rotate_left 1
  · have : ¬ IsMaze n d ks := fun h => c4 h.2.2.2.2.1
    simp only [c1, c2, c3, c4, this, decide_true, Bool.not_true, Bool.false_eq_true, if_false, decide_false, bne_self_eq_false, Option.bind_some, and_self]
  cases c5 : ks.any (fun x => !decide (0 ≤ x ∧ x ≤ 63)) with
  | true =>
    have : ¬ IsMaze n d ks := fun h => by have := hset.1 h.2.2.2.2.2; rw [c5] at this; cases this
    simp only [c1, c2, c3, c4, this, decide_true, Bool.not_true, Bool.false_eq_true, if_false, decide_false, bne_self_eq_false, Option.bind_some, and_self, if_true]
    simp
  | false =>
    have : IsMaze n d ks := ⟨c1.1, c1.2, by omega, c3, c4, hset.2 c5⟩
    simp only [c1, c2, c3, c4, this, decide_true, Bool.not_true, Bool.false_eq_true, if_false, decide_false, bne_self_eq_false, Option.bind_some, and_self, if_true]
    simp; exact c4
theorem l2Maze_eq (hk : Big ≤ k) (n : Int) (d : List Door) (ks : List Int) (hd : d.length ≤ 1048576) (hl : ks.length ≤ 1048576) : spec_l2Maze.f k n d ks = some (decide (IsMaze n d ks)) := by
  unfold spec_l2Maze.f
  rw [in_eq]
  by_cases c1 : 1 ≤ n ∧ n ≤ 12
  rotate_left 1
  · have : ¬ IsMaze n d ks := fun h => c1 ⟨h.1, h.2.1⟩
    simp [c1, this]
  by_cases c2 : (d.length : Int) > 30
  · have : ¬ IsMaze n d ks := fun h => by have := h.2.2.1; omega
    simp [c1, c2, this]
  by_cases c3 : (ks.length : Int) = n
  rotate_left 1
  · have : ¬ IsMaze n d ks := fun h => c3 h.2.2.2.1
    simp [c1, c2, c3, this]
  have e0 : w64 (n - 1) = n - 1 := w64_id (by omega) (by omega)
  have hloop := loop_all (l := spec_l2Maze.l0 k n d) (N := d.length) (doorB n d) (z := false) (fun m i hi => by
    rw [spec_l2Maze.l0]
    have h1 : ((i : Int) < (d.length : Int)) := by omega
    have hw : w64 ((i : Int) + 1) = ((i + 1 : Nat) : Int) := w64_id (by omega) (by omega)
    simp only [h1, decide_true, if_true, rdl_lt hi, Option.bind_some, hw, l2Set_eq, in_eq, e0]
    unfold doorB DoorOk
    rw [dif_pos hi]
    by_cases b1 : 0 ≤ d[i].1 ∧ d[i].1 ≤ n - 1
    rotate_left 1
    · have nn : ¬ (0 ≤ d[i].1 ∧ d[i].1 < d[i].2.1 ∧ d[i].2.1 < n ∧ 0 ≤ d[i].2.2 ∧ d[i].2.2 ≤ 63) := fun h => b1 ⟨h.1, by omega⟩
      rw [decide_eq_false nn]
      simp only [b1, decide_true, decide_false, Bool.not_true, Bool.not_false, Bool.false_eq_true, if_false, if_true, Bool.false_and, and_self, Option.bind_some]
    have e1 : w64 (d[i].1 + 1) = d[i].1 + 1 := w64_id (by omega) (by omega)
    rw [e1]
    by_cases b2 : d[i].1 + 1 ≤ d[i].2.1 ∧ d[i].2.1 ≤ n - 1
    rotate_left 1
    · have nn : ¬ (0 ≤ d[i].1 ∧ d[i].1 < d[i].2.1 ∧ d[i].2.1 < n ∧ 0 ≤ d[i].2.2 ∧ d[i].2.2 ≤ 63) := fun h => b2 ⟨by omega, by omega⟩
      rw [decide_eq_false nn]
      simp only [b1, b2, decide_true, decide_false, Bool.not_true, Bool.not_false, Bool.false_eq_true, if_false, if_true, Bool.false_and, and_self, Option.bind_some]
    by_cases b3 : 0 ≤ d[i].2.2 ∧ d[i].2.2 ≤ 63
    rotate_left 1
    · have nn : ¬ (0 ≤ d[i].1 ∧ d[i].1 < d[i].2.1 ∧ d[i].2.1 < n ∧ 0 ≤ d[i].2.2 ∧ d[i].2.2 ≤ 63) := fun h => b3 h.2.2.2
      rw [decide_eq_false nn]
      simp only [b1, b2, b3, decide_true, decide_false, Bool.not_true, Bool.not_false, Bool.false_eq_true, if_false, if_true, Bool.false_and, and_self, Option.bind_some]
    have c : (0 ≤ d[i].1 ∧ d[i].1 < d[i].2.1 ∧ d[i].2.1 < n ∧ 0 ≤ d[i].2.2 ∧ d[i].2.2 ≤ 63) := ⟨by omega, by omega, by omega, b3⟩
    rcases Nat.eq_zero_or_pos i with rfl | hp
    · simp [b1, b2, b3, c]
    · have e2 : w64 ((i : Int) - 1) = ((i - 1 : Nat) : Int) := by rw [w64_id (by omega) (by omega)]; omega
      have hi1 : i - 1 < d.length := by omega
      have hp' : (i : Int) > 0 := by omega
      have hne : ¬ i = 0 := by omega
      simp only [b1, b2, b3, decide_false, Bool.false_eq_true, if_false, decide_true, Bool.not_true, hp', if_true, e2, rdl_lt hi1, Option.bind_some, before_eq hk, c, hne, Bool.true_and, Bool.false_or, and_self]
      by_cases hlt : DoorLt d[i - 1] d[i] <;> simp [hlt])
    (fun m => by rw [spec_l2Maze.l0]; simp) (k := k) (by unfold Big at hk; omega)
  have hn : (ks.length : Int) = n := c3
  have hloop2 := loop_all (l := spec_l2Maze.l1 k n ks) (N := ks.length) (setB ks) (z := false) (fun m i hi => by
    rw [spec_l2Maze.l1]
    have h1 : ((i : Int) < n) := by omega
    have hw : w64 ((i : Int) + 1) = ((i + 1 : Nat) : Int) := w64_id (by omega) (by omega)
    simp only [h1, decide_true, if_true, rdl_lt hi, Option.bind_some, hw, l2Set_eq, setB, hi, dite_true]
    by_cases hs : 0 ≤ ks[i] ∧ ks[i] ≤ 63 <;> simp [hs])
    (fun m => by rw [spec_l2Maze.l1]; simp [hn]) (k := k) (by unfold Big at hk; omega)
  rw [hloop, hloop2]
  simp only [Option.bind_some, Lr_ite]
  by_cases c4 : ∀ i, i < d.length → doorB n d i = true
  rotate_left 1
  · have : ¬ IsMaze n d ks := fun h => c4 h.2.2.2.2.1
    simp only [c1, c2, c3, c4, this, decide_true, Bool.not_true, Bool.false_eq_true, if_false, decide_false, bne_self_eq_false, Option.bind_some, and_self]
  by_cases c5 : ∀ i, i < ks.length → setB ks i = true
  · have : IsMaze n d ks := ⟨c1.1, c1.2, by omega, c3, c4, c5⟩
    simp only [c1, c2, c3, this, decide_true, Bool.not_true, Bool.false_eq_true, if_false, decide_false, bne_self_eq_false, Option.bind_some, and_self, if_true]
    rw [if_pos c4, if_pos c5]
  · have : ¬ IsMaze n d ks := fun h => c5 h.2.2.2.2.2
    simp only [c1, c2, c3, this, decide_true, Bool.not_true, Bool.false_eq_true, if_false, decide_false, bne_self_eq_false, Option.bind_some, and_self, if_true]
    rw [if_pos c4, if_neg c5]
end
end Go.Proofs

/- Plain laws: D -/
namespace Go.Proofs
open Go Go.Ga Go.Ga.Wf
set_option linter.unusedVariables false
set_option linter.unusedSimpArgs false
section
variable {k : Nat}
def risingB (lo hi : Int) (l : List Int) (i : Nat) : Bool := if h : i < l.length then decide (lo ≤ l[i] ∧ l[i] ≤ hi) && (decide (i = 0) || decide (l[i - 1] < l[i])) else true
def IsTrapP (n : Int) (d : List Door) (ks tr : List Int) : Prop := IsMaze n d ks ∧ ∀ i, i < tr.length → risingB 0 ((d.length : Int) - 1) tr i = true
instance (n : Int) (d : List Door) (ks tr : List Int) : Decidable (IsTrapP n d ks tr) := by unfold IsTrapP; infer_instance
end
end Go.Proofs

/- Plain laws: E -/
namespace Go.Proofs
open Go Go.Ga Go.Ga.Wf
set_option linter.unusedVariables false
set_option linter.unusedSimpArgs false
section
variable {k : Nat}
end
end Go.Proofs

/- Plain laws: F -/
namespace Go.Proofs
open Go Go.Ga Go.Ga.Wf
set_option linter.unusedVariables false
set_option linter.unusedSimpArgs false
section
variable {k : Nat}
theorem szo_pos {a : Nat} (h : (a : Int) ≤ 1048576) : decide (szo 1048576 a < 0) = false := by unfold szo; rw [if_pos h]; simp; omega
theorem szo_neg {a : Nat} (h : ¬ (a : Int) ≤ 1048576) : decide (szo 1048576 a < 0) = true := by unfold szo; rw [if_neg h]; rfl
end
end Go.Proofs

/- Plain laws: G -/
namespace Go.Proofs
open Go Go.Ga Go.Ga.Wf
set_option linter.unusedVariables false
set_option linter.unusedSimpArgs false
section
variable {k : Nat}
def ups (m : Int) (n : Nat) : List Int := (List.range n).map fun i => m + (i : Nat)
def ups3 (m : Int) (n : Nat) : List Door := (List.range n).map fun i => (m + 3 * (i : Nat), m + 3 * (i : Nat) + 1, m + 3 * (i : Nat) + 2)
theorem ups_length (m : Int) (n : Nat) : (ups m n).length = n := by simp [ups]
theorem ups3_length (m : Int) (n : Nat) : (ups3 m n).length = n := by simp [ups3]
theorem ups_get {m : Int} {n i : Nat} (h : i < n) : (ups m n)[i]'(by rw [ups_length]; exact h) = m + i := by simp [ups]
theorem markIntS_eq (hk : Big ≤ k) (l : List Int) (m : Int) (h0 : 0 ≤ m) (hm : m ≤ 1073741824) (hl : l.length ≤ 1048576) : laws_markIntS.f k l m = some (m + l.length, ups m l.length) := by
  unfold laws_markIntS.f
  have := loop_state (l := fun n (s : List Int × Int) i => laws_markIntS.l0 k n s.1 s.2 i) (N := l.length) (g := fun i s => (s.1.set i s.2, s.2 + 1)) (out := fun s => some (s.2, s.1))
    (fun i s => s.2 = m + i ∧ s.1.length = l.length ∧ ∀ j, j < i → s.1[j]? = some (m + (j : Nat))) (fun n i s hi hI => by
      obtain ⟨h1, h2, h3⟩ := hI
      have e1 : ((i : Int) < (s.1.length : Int)) := by omega
      have hw : w64 ((i : Int) + 1) = ((i + 1 : Nat) : Int) := w64_id (by omega) (by omega)
      have hw2 : w64 (s.2 + 1) = s.2 + 1 := w64_id (by omega) (by omega)
      refine ⟨?_, ?_, ?_, ?_⟩
      · show laws_markIntS.l0 k (n + 1) s.1 s.2 (i : Int) = _
        rw [laws_markIntS.l0]
        simp only [e1, decide_true, if_true, rdl_lt (show i < s.1.length by omega), Option.bind_some, hw, hw2, Int.toNat_natCast]
      · show s.2 + 1 = _; rw [h1]; omega
      · simpa using h2
      · intro j hj
        show (s.1.set i s.2)[j]? = _
        rcases Nat.eq_or_lt_of_le (Nat.le_of_lt_succ hj) with rfl | h
        · rw [List.getElem?_set_self (by omega), h1]
        · rw [List.getElem?_set_ne (by omega)]; exact h3 j h)
    (fun n s hI => by
      show laws_markIntS.l0 k (n + 1) s.1 s.2 (l.length : Int) = _
      rw [laws_markIntS.l0, hI.2.1]; simp) (k := k) (by unfold Big at hk; omega) (s := (l, m)) ⟨by simp, rfl, fun j hj => by omega⟩
  obtain ⟨h1, h2, h3, h4⟩ := this
  simp only at h1
  rw [h1, Option.bind_some]
  have e : (itr (fun i (s : List Int × Int) => (s.1.set i s.2, s.2 + 1)) l.length 0 (l, m)).1 = ups m l.length := by
    refine List.ext_getElem? fun j => ?_
    rcases Nat.lt_or_ge j l.length with h | h
    · rw [h4 j h, List.getElem?_eq_getElem (by rw [ups_length]; exact h), ups_get h]
    · rw [List.getElem?_eq_none (by omega), List.getElem?_eq_none (by rw [ups_length]; exact h)]
  rw [e, h2]
theorem heldIntS_eq (hk : Big ≤ k) (n : Nat) (m : Int) (h0 : 0 ≤ m) (hm : m ≤ 1073741824) (hl : n ≤ 1048576) : laws_heldIntS.f k (ups m n) m = some (m + n) := by
  unfold laws_heldIntS.f
  have hlen := ups_length m n
  have := loop_exit (R := Int) (T := Int) (l := fun q (s : Int) i => laws_heldIntS.l0 k (ups m n) q s i) (N := n) (g := fun _ s => .inl (s + 1)) (out := fun s => some (.inl s)) (fun i s => s = m + i) (fun q i s hi hI => by
      left
      have e1 : ((i : Int) < ((ups m n).length : Int)) := by omega
      have hw : w64 ((i : Int) + 1) = ((i + 1 : Nat) : Int) := w64_id (by omega) (by omega)
      have hw2 : w64 (s + 1) = s + 1 := w64_id (by omega) (by omega)
      refine ⟨_, rfl, ?_, by omega⟩
      rw [laws_heldIntS.l0]
      simp only [e1, decide_true, if_true, rdl_lt (show i < (ups m n).length by omega), ups_get hi, Option.bind_some, hI, bne_self_eq_false, Bool.false_eq_true, if_false, hw]
      rw [← hI, hw2])
    (fun q s hI => by rw [laws_heldIntS.l0, hlen]; simp) (k := k) (by unfold Big at hk; omega) (s := m) (by simp)
  rw [this]
  have e : ∀ p i s, itx (R := Int) (fun _ (s : Int) => .inl (s + 1)) p i s = .inl (s + p) := by
    intro p
    induction p with
    | zero => intro i s; simp [itx]
    | succ p ih => intro i s; simp only [itx]; rw [ih]; congr 1; omega
  rw [e]
  rfl
theorem rdl_set {α : Type} {l : List α} {i : Nat} {x : α} (h : i < l.length) : rdl (l.set i x) (i : Int) = some x := by
  rw [rdl_lt (by simpa using h)]; simp
theorem markA3_l1 (hk : Big ≤ k) (l : List Door) (i : Nat) (hi : i < l.length) (m : Int) (h0 : 0 ≤ m) (hm : m ≤ 2147483648) : laws_markIntA3S.l1 k (i : Int) k l m 0 = some (l.set i (m, m + 1, m + 2), m + 3) := by
  obtain ⟨n, rfl⟩ := big_split hk
  have w1 : w64 (m + 1) = m + 1 := w64_id (by omega) (by omega)
  have w2 : w64 (m + 1 + 1) = m + 2 := by rw [w64_id (by omega) (by omega)]; omega
  have w3 : w64 (m + 2 + 1) = m + 3 := by rw [w64_id (by omega) (by omega)]; omega
  simp [laws_markIntA3S.l1, w64_1, w64_2, w64_3, rdl3_0, rdl3_1, rdl3_2, rdl_lt hi, rdl_set hi, w1, w2, w3, List.set_set]
theorem ups3_get {m : Int} {n i : Nat} (h : i < n) : (ups3 m n)[i]'(by rw [ups3_length]; exact h) = (m + 3 * (i : Nat), m + 3 * (i : Nat) + 1, m + 3 * (i : Nat) + 2) := by simp [ups3]
theorem markIntA3S_eq (hk : Big ≤ k) (l : List Door) (m : Int) (h0 : 0 ≤ m) (hm : m ≤ 1073741824) (hl : l.length ≤ 1048576) : laws_markIntA3S.f k l m = some (m + 3 * l.length, ups3 m l.length) := by
  unfold laws_markIntA3S.f
  have := loop_state (l := fun n (s : List Door × Int) i => laws_markIntA3S.l0 k n s.1 s.2 i) (N := l.length) (g := fun i s => (s.1.set i (s.2, s.2 + 1, s.2 + 2), s.2 + 3)) (out := fun s => some (s.2, s.1))
    (fun i s => s.2 = m + 3 * i ∧ s.1.length = l.length ∧ ∀ j, j < i → s.1[j]? = some (m + 3 * (j : Nat), m + 3 * (j : Nat) + 1, m + 3 * (j : Nat) + 2)) (fun n i s hi hI => by
      obtain ⟨h1, h2, h3⟩ := hI
      have e1 : ((i : Int) < (s.1.length : Int)) := by omega
      have hw : w64 ((i : Int) + 1) = ((i + 1 : Nat) : Int) := w64_id (by omega) (by omega)
      refine ⟨?_, ?_, ?_, ?_⟩
      · show laws_markIntA3S.l0 k (n + 1) s.1 s.2 (i : Int) = _
        rw [laws_markIntA3S.l0]
        simp only [e1, decide_true, if_true, markA3_l1 hk s.1 i (by omega) s.2 (by omega) (by omega), Option.bind_some, hw]
      · show s.2 + 3 = _; rw [h1]; omega
      · simpa using h2
      · intro j hj
        show (s.1.set i (s.2, s.2 + 1, s.2 + 2))[j]? = _
        rcases Nat.eq_or_lt_of_le (Nat.le_of_lt_succ hj) with rfl | h
        · rw [List.getElem?_set_self (by omega), h1]
        · rw [List.getElem?_set_ne (by omega)]; exact h3 j h)
    (fun n s hI => by
      show laws_markIntA3S.l0 k (n + 1) s.1 s.2 (l.length : Int) = _
      rw [laws_markIntA3S.l0, hI.2.1]; simp) (k := k) (by unfold Big at hk; omega) (s := (l, m)) ⟨by simp, rfl, fun j hj => by omega⟩
  obtain ⟨h1, h2, h3, h4⟩ := this
  simp only at h1
  rw [h1, Option.bind_some]
  have e : (itr (fun i (s : List Door × Int) => (s.1.set i (s.2, s.2 + 1, s.2 + 2), s.2 + 3)) l.length 0 (l, m)).1 = ups3 m l.length := by
    refine List.ext_getElem? fun j => ?_
    rcases Nat.lt_or_ge j l.length with h | h
    · rw [h4 j h, List.getElem?_eq_getElem (by rw [ups3_length]; exact h), ups3_get h]
    · rw [List.getElem?_eq_none (by omega), List.getElem?_eq_none (by rw [ups3_length]; exact h)]
  rw [e, h2]
theorem heldA3_l1 (hk : Big ≤ k) (n i : Nat) (hi : i < n) (m : Int) (h0 : 0 ≤ m) (hm : m + 3 * n ≤ 2147483648) : laws_heldIntA3S.l1 k (ups3 m n) (i : Int) k (m + 3 * i) 0 = some (.inl (m + 3 * i + 3)) := by
  obtain ⟨q, rfl⟩ := big_split hk
  have w1 : w64 (m + 3 * i + 1) = m + 3 * i + 1 := w64_id (by omega) (by omega)
  have w2 : w64 (m + 3 * i + 1 + 1) = m + 3 * i + 2 := by rw [w64_id (by omega) (by omega)]; omega
  have w3 : w64 (m + 3 * i + 2 + 1) = m + 3 * i + 3 := by rw [w64_id (by omega) (by omega)]; omega
  simp [laws_heldIntA3S.l1, w64_1, w64_2, w64_3, rdl3_0, rdl3_1, rdl3_2, rdl_lt (show i < (ups3 m n).length by rw [ups3_length]; exact hi), ups3_get hi, w1, w2, w3]
theorem heldIntA3S_eq (hk : Big ≤ k) (n : Nat) (m : Int) (h0 : 0 ≤ m) (hm : m ≤ 1073741824) (hl : n ≤ 1048576) : laws_heldIntA3S.f k (ups3 m n) m = some (m + 3 * n) := by
  unfold laws_heldIntA3S.f
  have hlen := ups3_length m n
  have := loop_exit (R := Int) (T := Int) (l := fun q (s : Int) i => laws_heldIntA3S.l0 k (ups3 m n) q s i) (N := n) (g := fun _ s => .inl (s + 3)) (out := fun s => some (.inl s)) (fun i s => s = m + 3 * i) (fun q i s hi hI => by
      left
      have e1 : ((i : Int) < ((ups3 m n).length : Int)) := by omega
      have hw : w64 ((i : Int) + 1) = ((i + 1 : Nat) : Int) := w64_id (by omega) (by omega)
      refine ⟨_, rfl, ?_, by omega⟩
      subst hI
      rw [laws_heldIntA3S.l0]
      simp only [e1, decide_true, if_true, heldA3_l1 hk n i hi m h0 (by omega), Option.bind_some, Lr, hw])
    (fun q s hI => by rw [laws_heldIntA3S.l0, hlen]; simp) (k := k) (by unfold Big at hk; omega) (s := m) (by simp)
  rw [this]
  have e : ∀ p i s, itx (R := Int) (fun _ (s : Int) => .inl (s + 3)) p i s = .inl (s + 3 * p) := by
    intro p
    induction p with
    | zero => intro i s; simp [itx]
    | succ p ih => intro i s; simp only [itx]; rw [ih]; congr 1; omega
  rw [e]
  rfl
end
end Go.Proofs

/- Plain laws: H -/
namespace Go.Proofs
open Go Go.Ga Go.Ga.Wf
/-! loops that go on as long as there is something to do -/
theorem loop_res {S β : Type} {l : Nat → S → Option β} (Inv : S → Prop) (mu : S → Nat) (res : S → β)
    (hs : ∀ n s, Inv s → (∃ s', l (n + 1) s = l n s' ∧ res s' = res s ∧ Inv s' ∧ mu s' < mu s) ∨ l (n + 1) s = some (res s)) : ∀ k s, mu s < k → Inv s → l k s = some (res s) := by
  intro k
  induction k with
  | zero => intro s h; omega
  | succ k ih =>
    intro s h hI
    rcases hs k s hI with ⟨s', h1, h2, h3, h4⟩ | h1
    · rw [h1, ih s' (by omega) h3, h2]
    · exact h1
/-! what is reached -/
/-! doors and keys within bounds -/
/-! what one has -/
end Go.Proofs

/- Plain laws: I -/
namespace Go.Proofs
open Go Go.Ga Go.Ga.Wf
set_option linter.unusedVariables false
set_option linter.unusedSimpArgs false
section
variable {k : Nat}
theorem clone3_eq (l : List Door) (hl : l.length ≤ 1048576) : slices_Clone__3int__3int.f k l = some l := by
  unfold slices_Clone__3int__3int.f; rw [List.nil_append, if_pos (by omega)]
theorem clone_eq (l : List Int) (hl : l.length ≤ 1048576) : slices_Clone_int_int.f k l = some l := by
  unfold slices_Clone_int_int.f; rw [List.nil_append, if_pos (by omega)]
theorem own_eq (n : Int) (d : List Door) (ks : List Int) (hd : d.length ≤ 1048576) (hl : ks.length ≤ 1048576) : impl_own.f k n d ks = some (n, d, ks) := by
  unfold impl_own.f; rw [clone3_eq d hd, Option.bind_some, clone_eq ks hl]; rfl
theorem l1Own_eq (l : List Int) (hl : l.length ≤ 1048576) : spec_l1Own.f k l = some l := by
  unfold spec_l1Own.f; rw [List.nil_append, if_pos (by omega)]
theorem l2Own_eq (n : Int) (d : List Door) (ks : List Int) (hd : d.length ≤ 1048576) (hl : ks.length ≤ 1048576) : spec_l2Own.f k n d ks = some (n, d, ks) := by
  unfold spec_l2Own.f; rw [List.nil_append, if_pos (by omega), l1Own_eq ks hl]; rfl
/-! a trap -/
end
end Go.Proofs

/- Plain laws: J -/
namespace Go.Proofs
open Go Go.Ga Go.Ga.Wf
set_option linter.unusedVariables false
set_option linter.unusedSimpArgs false
section
variable {k : Nat}
end
end Go.Proofs

/- Plain laws: K -/
namespace Go.Proofs
open Go Go.Ga Go.Ga.Wf
set_option linter.unusedVariables false
set_option linter.unusedSimpArgs false
section
variable {k : Nat}
/-! the reference -/
/-! the program -/
end
end Go.Proofs

/- Plain laws: L -/
namespace Go.Proofs
open Go Go.Ga Go.Ga.Wf
set_option linter.unusedVariables false
set_option linter.unusedSimpArgs false
section
variable {k : Nat}
/-! without a colour -/
end
end Go.Proofs

/- Plain laws: M -/
namespace Go.Proofs
open Go Go.Ga Go.Ga.Wf
set_option linter.unusedVariables false
set_option linter.unusedSimpArgs false
abbrev MazeT := Int × List Door × List Int
def mz1 (t : MazeT) : Nat := t.2.1.length + t.2.2.length
def mz : List MazeT → Nat
  | [] => 0
  | t :: l => mz1 t + mz l
def iz : List (List Int) → Nat
  | [] => 0
  | t :: l => t.length + iz l
theorem mz_mem : ∀ {l : List MazeT} {t : MazeT}, t ∈ l → mz1 t ≤ mz l
  | x :: l, t, h => by
    rcases List.mem_cons.1 h with rfl | h
    · simp [mz]
    · have := mz_mem h; simp [mz]; omega
theorem iz_mem : ∀ {l : List (List Int)} {t : List Int}, t ∈ l → t.length ≤ iz l
  | x :: l, t, h => by
    rcases List.mem_cons.1 h with rfl | h
    · simp [iz]
    · have := iz_mem h; simp [iz]; omega
section
variable {k : Nat}
theorem szMazeS_eq (hk : Big ≤ k) (l : List MazeT) (m : Int) (h0 : 0 ≤ m) (hm : m ≤ 1048576) (hl : l.length ≤ maxLen) (hd : ∀ t ∈ l, t.2.1.length ≤ maxLen ∧ t.2.2.length ≤ maxLen) : laws_szMazeS.f k l m = some (szo m (l.length + mz l)) := by
  unfold laws_szMazeS.f
  rw [maxLen_eq] at hl
  rw [w64_id (by omega) (by omega)]
  by_cases h : (l.length : Int) ≤ m
  rotate_left 1
  · rw [if_pos (by simp; omega)]; unfold szo; rw [if_neg (by omega)]
  rw [if_neg (by simp; omega)]
  have := loop_res (l := fun q (s : Int × Nat) => laws_szMazeS.l0 k l q s.1 (s.2 : Int)) (fun s => s.2 ≤ l.length ∧ 0 ≤ s.1 ∧ s.1 ≤ 1048576) (fun s => l.length - s.2)
    (fun s => if ((mz (l.drop s.2) : Nat) : Int) ≤ s.1 then .inl (s.1 - mz (l.drop s.2)) else .inr (-1)) (fun q ⟨x, i⟩ hI => by
      obtain ⟨h1, h2⟩ := hI
      simp only at h1 h2
      simp only
      by_cases hi : i < l.length
      rotate_left 1
      · right
        have : i = l.length := by omega
        subst this
        rw [laws_szMazeS.l0]; simp [mz]; omega
      have hlt : ((i : Int) < (l.length : Int)) := by omega
      have hw : w64 ((i : Int) + 1) = ((i + 1 : Nat) : Int) := w64_id (by omega) (by omega)
      have hdi := hd _ (List.getElem_mem hi)
      rw [laws_szMazeS.l0, List.drop_eq_getElem_cons hi]
      have hz : mz (l[i] :: l.drop (i + 1)) = mz1 l[i] + mz (l.drop (i + 1)) := rfl
      generalize mz (l[i] :: l.drop (i + 1)) = Z at *
      simp only [hlt, decide_true, if_true, rdl_lt hi, Option.bind_some, hw, szMaze_eq _ _ _ x h2.1 h2.2 hdi.1 hdi.2]
      have e1 : mz1 l[i] = l[i].2.1.length + l[i].2.2.length := rfl
      rw [← e1]
      unfold szo
      by_cases hc : ((mz1 l[i] : Nat) : Int) ≤ x
      · left
        rw [if_pos hc]
        refine ⟨(x - mz1 l[i], i + 1), ?_, ?_, ⟨by simp only; omega, by simp only; omega⟩, by simp only; omega⟩
        · rw [if_neg (by simp; omega)]
        · simp only
          by_cases hc2 : ((mz (l.drop (i + 1)) : Nat) : Int) ≤ x - mz1 l[i]
          · rw [if_pos hc2, if_pos (by omega)]; congr 1; omega
          · rw [if_neg hc2, if_neg (by omega)]
      · right
        rw [if_neg hc, if_pos (by decide), if_neg (by omega)]) k (m - l.length, 0) (by simp only; unfold Big at hk; omega) ⟨by simp, by simp only; omega, by simp only; omega⟩
  simp only [List.drop_zero] at this
  rw [show ((0 : Nat) : Int) = 0 from rfl] at this
  rw [this, Option.bind_some]
  unfold szo
  by_cases hc : ((mz l : Nat) : Int) ≤ m - l.length
  · rw [if_pos hc, if_pos (by omega)]; simp only [Lr]; congr 1; omega
  · rw [if_neg hc, if_neg (by omega)]; rfl
theorem szIntSS_eq (hk : Big ≤ k) (l : List (List Int)) (m : Int) (h0 : 0 ≤ m) (hm : m ≤ 1048576) (hl : l.length ≤ maxLen) (hd : ∀ t ∈ l, t.length ≤ maxLen) : laws_szIntSS.f k l m = some (szo m (l.length + iz l)) := by
  unfold laws_szIntSS.f
  rw [maxLen_eq] at hl
  rw [w64_id (by omega) (by omega)]
  by_cases h : (l.length : Int) ≤ m
  rotate_left 1
  · rw [if_pos (by simp; omega)]; unfold szo; rw [if_neg (by omega)]
  rw [if_neg (by simp; omega)]
  have := loop_res (l := fun q (s : Int × Nat) => laws_szIntSS.l0 k l q s.1 (s.2 : Int)) (fun s => s.2 ≤ l.length ∧ 0 ≤ s.1 ∧ s.1 ≤ 1048576) (fun s => l.length - s.2)
    (fun s => if ((iz (l.drop s.2) : Nat) : Int) ≤ s.1 then .inl (s.1 - iz (l.drop s.2)) else .inr (-1)) (fun q ⟨x, i⟩ hI => by
      obtain ⟨h1, h2⟩ := hI
      simp only at h1 h2
      simp only
      by_cases hi : i < l.length
      rotate_left 1
      · right
        have : i = l.length := by omega
        subst this
        rw [laws_szIntSS.l0]; simp [iz]; omega
      have hlt : ((i : Int) < (l.length : Int)) := by omega
      have hw : w64 ((i : Int) + 1) = ((i + 1 : Nat) : Int) := w64_id (by omega) (by omega)
      have hdi := hd _ (List.getElem_mem hi)
      rw [laws_szIntSS.l0, List.drop_eq_getElem_cons hi]
      have hz : iz (l[i] :: l.drop (i + 1)) = l[i].length + iz (l.drop (i + 1)) := rfl
      generalize iz (l[i] :: l.drop (i + 1)) = Z at *
      simp only [hlt, decide_true, if_true, rdl_lt hi, Option.bind_some, hw, szIntS_eq _ x h2.1 h2.2 hdi]
      unfold szo
      by_cases hc : ((l[i].length : Nat) : Int) ≤ x
      · left
        rw [if_pos hc]
        refine ⟨(x - l[i].length, i + 1), ?_, ?_, ⟨by simp only; omega, by simp only; omega⟩, by simp only; omega⟩
        · rw [if_neg (by simp; omega)]
        · simp only
          by_cases hc2 : ((iz (l.drop (i + 1)) : Nat) : Int) ≤ x - l[i].length
          · rw [if_pos hc2, if_pos (by omega)]; congr 1; omega
          · rw [if_neg hc2, if_neg (by omega)]
      · right
        rw [if_neg hc, if_pos (by decide), if_neg (by omega)]) k (m - l.length, 0) (by simp only; unfold Big at hk; omega) ⟨by simp, by simp only; omega, by simp only; omega⟩
  simp only [List.drop_zero] at this
  rw [show ((0 : Nat) : Int) = 0 from rfl] at this
  rw [this, Option.bind_some]
  unfold szo
  by_cases hc : ((iz l : Nat) : Int) ≤ m - l.length
  · rw [if_pos hc, if_pos (by omega)]; simp only [Lr]; congr 1; omega
  · rw [if_neg hc, if_neg (by omega)]; rfl
/-- worlds within bounds -/
structure WB (ms : List MazeT) (os : List (List Int)) : Prop where
  ml : ms.length ≤ 1048576
  ol : os.length ≤ 1048576
  md : ∀ t ∈ ms, t.2.1.length ≤ 1048576 ∧ t.2.2.length ≤ 1048576
  od : ∀ t ∈ os, t.length ≤ 1048576
def wz (ms : List MazeT) (os : List (List Int)) : Nat := ms.length + mz ms + (os.length + iz os)
theorem WB.of {ms : List MazeT} {os : List (List Int)} (h : ((wz ms os : Nat) : Int) ≤ 1048576) : WB ms os := by
  unfold wz at h
  refine ⟨by omega, by omega, fun t ht => ?_, fun t ht => ?_⟩
  · have := mz_mem ht; unfold mz1 at this; omega
  · have := iz_mem ht; omega
theorem szWorlds_eq (hk : Big ≤ k) (ms : List MazeT) (os : List (List Int)) (m : Int) (h0 : 0 ≤ m) (hm : m ≤ 1048576) (h1 : ms.length ≤ maxLen) (h2 : ∀ t ∈ ms, t.2.1.length ≤ maxLen ∧ t.2.2.length ≤ maxLen) (h3 : os.length ≤ maxLen) (h4 : ∀ t ∈ os, t.length ≤ maxLen) :
    laws_szWorlds.f k ms os m = some (szo m (wz ms os)) := by
  unfold laws_szWorlds.f wz
  rw [szMazeS_eq hk ms m h0 hm h1 h2, Option.bind_some, ← szo_add]
  by_cases h : szo m (ms.length + mz ms) < 0
  · simp [h]
  · rw [szIntSS_eq hk os _ (by omega) (szo_range h0 hm).2 h3 h4]
theorem toMazeS_eq (hk : Big ≤ k) (l : List MazeT) (hl : l.length ≤ 1048576) (hd : ∀ t ∈ l, t.2.1.length ≤ 1048576 ∧ t.2.2.length ≤ 1048576) : laws_toMazeS.f k l = some l := by
  unfold laws_toMazeS.f
  rw [if_pos (by omega)]
  rw [loop_copy (l := laws_toMazeS.l0 k l) (a := l) (fun n i s hi hs => by
    rw [laws_toMazeS.l0]
    have h1 : ((i : Int) < (l.length : Int)) := by omega
    have hw : w64 ((i : Int) + 1) = ((i + 1 : Nat) : Int) := w64_id (by omega) (by omega)
    have hdi := hd _ (List.getElem_mem hi)
    rw [if_pos (by simpa using h1), rdl_lt hi, Option.bind_some, toMaze_eq hk l[i].1 l[i].2.1 l[i].2.2 hdi.1 hdi.2, Option.bind_some, rdl_lt (show i < s.length by omega)]
    show laws_toMazeS.l0 k l n (s.set (i : Int).toNat l[i]) (w64 ((i : Int) + 1)) = _
    rw [hw, Int.toNat_natCast])
    (fun n s => by rw [laws_toMazeS.l0]; simp) (by unfold Big at hk; omega) (by rw [List.length_replicate, Int.toNat_natCast]), Option.bind_some]
theorem toIntSS_eq (hk : Big ≤ k) (l : List (List Int)) (hl : l.length ≤ 1048576) (hd : ∀ t ∈ l, t.length ≤ 1048576) : laws_toIntSS.f k l = some l := by
  unfold laws_toIntSS.f
  rw [if_pos (by omega)]
  rw [loop_copy (l := laws_toIntSS.l0 k l) (a := l) (fun n i s hi hs => by
    rw [laws_toIntSS.l0]
    have h1 : ((i : Int) < (l.length : Int)) := by omega
    have hw : w64 ((i : Int) + 1) = ((i + 1 : Nat) : Int) := w64_id (by omega) (by omega)
    rw [if_pos (by simpa using h1), rdl_lt hi, Option.bind_some, toIntS_eq hk l[i] (hd _ (List.getElem_mem hi)), Option.bind_some, rdl_lt (show i < s.length by omega), Option.bind_some, hw, Int.toNat_natCast])
    (fun n s => by rw [laws_toIntSS.l0]; simp) (by unfold Big at hk; omega) (by rw [List.length_replicate, Int.toNat_natCast]), Option.bind_some]
theorem toWorlds_eq (hk : Big ≤ k) (ms : List MazeT) (os : List (List Int)) (h : WB ms os) : laws_toWorlds.f k ms os = some (ms, os) := by
  unfold laws_toWorlds.f
  rw [toMazeS_eq hk ms h.ml h.md, Option.bind_some, toIntSS_eq hk os h.ol h.od]; rfl
theorem eqMazeS_eq (hk : Big ≤ k) (a b : List MazeT) (hl : a.length ≤ 1048576) (hd : ∀ t ∈ a, t.2.1.length ≤ 1048576 ∧ t.2.2.length ≤ 1048576) : laws_eqMazeS.f k a b = some (decide (a = b)) := by
  unfold laws_eqMazeS.f
  by_cases h : a.length = b.length
  · rw [if_neg (by simp; omega), loop_eq (l := laws_eqMazeS.l0 k a b) h (fun n i hi => by
      rw [laws_eqMazeS.l0]
      have h1 : ((i : Int) < (a.length : Int)) := by omega
      have hw : w64 ((i : Int) + 1) = ((i + 1 : Nat) : Int) := w64_id (by omega) (by omega)
      have hdi := hd _ (List.getElem_mem hi)
      simp only [h1, decide_true, if_true, rdl_lt hi, rdl_lt (show i < b.length from h ▸ hi), Option.bind_some, hw, eqMaze_eq hk _ _ _ _ _ _ hdi.1 hdi.2]
      by_cases h2 : a[i] = b[i] <;> simp [h2]) (fun n => by rw [laws_eqMazeS.l0]; simp) (by unfold Big at hk; omega), Option.bind_some, Lr_ite]
    by_cases h2 : a = b <;> simp [h2]
  · rw [if_pos (by simp; omega)]
    have : a ≠ b := fun e => h (by rw [e])
    simp [this]
theorem eqIntSS_eq (hk : Big ≤ k) (a b : List (List Int)) (hl : a.length ≤ 1048576) (hd : ∀ t ∈ a, t.length ≤ 1048576) : laws_eqIntSS.f k a b = some (decide (a = b)) := by
  unfold laws_eqIntSS.f
  by_cases h : a.length = b.length
  · rw [if_neg (by simp; omega), loop_eq (l := laws_eqIntSS.l0 k a b) h (fun n i hi => by
      rw [laws_eqIntSS.l0]
      have h1 : ((i : Int) < (a.length : Int)) := by omega
      have hw : w64 ((i : Int) + 1) = ((i + 1 : Nat) : Int) := w64_id (by omega) (by omega)
      simp only [h1, decide_true, if_true, rdl_lt hi, rdl_lt (show i < b.length from h ▸ hi), Option.bind_some, hw, eqIntS_eq hk _ _ (hd _ (List.getElem_mem hi))]
      by_cases h2 : a[i] = b[i] <;> simp [h2]) (fun n => by rw [laws_eqIntSS.l0]; simp) (by unfold Big at hk; omega), Option.bind_some, Lr_ite]
    by_cases h2 : a = b <;> simp [h2]
  · rw [if_pos (by simp; omega)]
    have : a ≠ b := fun e => h (by rw [e])
    simp [this]
theorem eqWorlds_eq (hk : Big ≤ k) (ms : List MazeT) (os : List (List Int)) (ms' : List MazeT) (os' : List (List Int)) (h : WB ms os) : laws_eqWorlds.f k ms os ms' os' = some (decide (ms = ms') && decide (os = os')) := by
  unfold laws_eqWorlds.f
  rw [eqMazeS_eq hk ms ms' h.ml h.md, eqIntSS_eq hk os os' h.ol h.od]
  by_cases h1 : ms = ms' <;> by_cases h2 : os = os' <;> simp [h1, h2]
/-! marks -/
def msz (t : MazeT) : Nat := 1 + 3 * t.2.1.length + t.2.2.length
def mszs : List MazeT → Nat
  | [] => 0
  | t :: l => msz t + mszs l
theorem mszs_append : ∀ (a b : List MazeT), mszs (a ++ b) = mszs a + mszs b
  | [], b => by simp [mszs]
  | x :: a, b => by simp [mszs, mszs_append a b]; omega
theorem iz_append : ∀ (a b : List (List Int)), iz (a ++ b) = iz a + iz b
  | [], b => by simp [iz]
  | x :: a, b => by simp [iz, iz_append a b]; omega
def mark1 (m : Int) (t : MazeT) : MazeT := (m, ups3 (m + 1) t.2.1.length, ups (m + 1 + 3 * t.2.1.length) t.2.2.length)
def markM : Int → List MazeT → List MazeT
  | _, [] => []
  | m, t :: l => mark1 m t :: markM (m + msz t) l
def markI : Int → List (List Int) → List (List Int)
  | _, [] => []
  | m, t :: l => ups m t.length :: markI (m + t.length) l
theorem markM_append : ∀ (a b : List MazeT) (m : Int), markM m (a ++ b) = markM m a ++ markM (m + mszs a) b
  | [], b, m => by simp [markM, mszs]
  | x :: a, b, m => by simp only [List.cons_append, markM, markM_append a b, mszs]; rw [show m + ((msz x : Nat) : Int) + ((mszs a : Nat) : Int) = m + ((msz x + mszs a : Nat) : Int) by omega]
theorem markI_append : ∀ (a b : List (List Int)) (m : Int), markI m (a ++ b) = markI m a ++ markI (m + iz a) b
  | [], b, m => by simp [markI, iz]
  | x :: a, b, m => by simp only [List.cons_append, markI, markI_append a b, iz]; rw [show m + ((x.length : Nat) : Int) + ((iz a : Nat) : Int) = m + ((x.length + iz a : Nat) : Int) by omega]
theorem markM_length : ∀ (l : List MazeT) (m : Int), (markM m l).length = l.length
  | [], m => rfl
  | x :: l, m => by simp [markM, markM_length l]
theorem markI_length : ∀ (l : List (List Int)) (m : Int), (markI m l).length = l.length
  | [], m => rfl
  | x :: l, m => by simp [markI, markI_length l]
theorem mszs_take (l : List MazeT) (i : Nat) (hi : i < l.length) : mszs (l.take (i + 1)) = mszs (l.take i) + msz l[i] := by
  rw [List.take_add_one, List.getElem?_eq_getElem hi, mszs_append]; simp [mszs]
theorem iz_take (l : List (List Int)) (i : Nat) (hi : i < l.length) : iz (l.take (i + 1)) = iz (l.take i) + l[i].length := by
  rw [List.take_add_one, List.getElem?_eq_getElem hi, iz_append]; simp [iz]
theorem mszs_le (l : List MazeT) (i : Nat) : mszs (l.take i) ≤ mszs l := by
  have := mszs_append (l.take i) (l.drop i); rw [List.take_append_drop] at this; omega
theorem iz_le (l : List (List Int)) (i : Nat) : iz (l.take i) ≤ iz l := by
  have := iz_append (l.take i) (l.drop i); rw [List.take_append_drop] at this; omega
theorem set_mid {α : Type} (a : List α) (x y : α) (b : List α) : (a ++ x :: b).set a.length y = a ++ y :: b := by
  rw [List.set_append_right _ _ (Nat.le_refl _)]; simp
theorem rdl_mid {α : Type} (a : List α) (x : α) (b : List α) : rdl (a ++ x :: b) (a.length : Int) = some x := by
  rw [rdl_nat]; simp
theorem markMazeS_eq (hk : Big ≤ k) (l : List MazeT) (m : Int) (h0 : 0 ≤ m) (hm : m + mszs l ≤ 268435456) (hl : l.length ≤ 1048576) (hd : ∀ t ∈ l, t.2.1.length ≤ 1048576 ∧ t.2.2.length ≤ 1048576) :
    laws_markMazeS.f k l m = some (m + mszs l, markM m l) := by
  unfold laws_markMazeS.f
  have := loop_res (l := fun q (s : List MazeT × Int × Nat) => laws_markMazeS.l0 k q s.1 s.2.1 (s.2.2 : Int)) (fun s => s.2.2 ≤ l.length ∧ s.1 = markM m (l.take s.2.2) ++ l.drop s.2.2 ∧ s.2.1 = m + mszs (l.take s.2.2)) (fun s => l.length - s.2.2)
    (fun _ => (m + mszs l, markM m l)) (fun q ⟨x, u, i⟩ hI => by
      obtain ⟨h1, h2, h3⟩ := hI
      simp only at h1 h2 h3
      simp only
      have hxl : x.length = l.length := by rw [h2, List.length_append, markM_length, List.length_take, List.length_drop]; omega
      by_cases hi : i < l.length
      rotate_left 1
      · right
        have : i = l.length := by omega
        subst this
        rw [laws_markMazeS.l0]
        simp only [show ¬ ((l.length : Int) < (x.length : Int)) by omega, decide_false, Bool.false_eq_true, if_false]
        simp only [h2, h3]
        simp
      left
      have hle := mszs_le l (i + 1)
      have htk := mszs_take l i hi
      have hdi := hd _ (List.getElem_mem hi)
      have hlt : ((i : Int) < (x.length : Int)) := by omega
      have hw : w64 ((i : Int) + 1) = ((i + 1 : Nat) : Int) := w64_id (by omega) (by omega)
      have hA : (markM m (l.take i)).length = i := by rw [markM_length, List.length_take]; omega
      have hmsz : msz l[i] = 1 + 3 * l[i].2.1.length + l[i].2.2.length := rfl
      have hw1 : w64 (u + 1) = u + 1 := w64_id (by omega) (by omega)
      rw [List.drop_eq_getElem_cons hi] at h2
      generalize hAA : markM m (l.take i) = A at *
      generalize hBB : l.drop (i + 1) = B at *
      subst h2
      have r1 : ∀ y : MazeT, rdl (A ++ y :: B) (i : Int) = some y := fun y => by rw [← hA]; exact rdl_mid A y B
      have s1 : ∀ y z : MazeT, (A ++ y :: B).set i z = A ++ z :: B := fun y z => by rw [← hA]; exact set_mid A y z B
      refine ⟨(A ++ mark1 u l[i] :: B, u + msz l[i], i + 1), ?_, trivial, ⟨by simp only; omega, ?_, ?_⟩, by simp only; omega⟩
      · rw [laws_markMazeS.l0]
        have m1 := markIntA3S_eq hk l[i].2.1 (u + 1) (by omega) (by omega) hdi.1
        have m2 := markIntS_eq hk l[i].2.2 (u + 1 + 3 * l[i].2.1.length) (by omega) (by omega) hdi.2
        simp only [hlt, decide_true, if_true, r1, s1, Option.bind_some, hw1, Int.toNat_natCast, m1, m2, hw]
        rw [show u + 1 + 3 * ((l[i].2.1.length : Nat) : Int) + ((l[i].2.2.length : Nat) : Int) = u + ((msz l[i] : Nat) : Int) by rw [hmsz]; omega]
        rfl
      · simp only
        rw [List.take_add_one, List.getElem?_eq_getElem hi, markM_append, hAA, ← h3]
        simp [markM, hBB]
      · simp only
        rw [htk, h3]; omega) k (l, m, 0) (by simp only; unfold Big at hk; omega) ⟨by simp, by simp [markM], by simp [mszs]⟩
  simp only at this
  rw [show ((0 : Nat) : Int) = 0 from rfl] at this
  rw [this]; rfl
theorem heldMazeS_eq (hk : Big ≤ k) (l : List MazeT) (m : Int) (h0 : 0 ≤ m) (hm : m + mszs l ≤ 268435456) (hl : l.length ≤ 1048576) (hd : ∀ t ∈ l, t.2.1.length ≤ 1048576 ∧ t.2.2.length ≤ 1048576) :
    laws_heldMazeS.f k (markM m l) m = some (m + mszs l) := by
  unfold laws_heldMazeS.f
  have hml := markM_length l m
  have := loop_res (l := fun q (s : Int × Nat) => laws_heldMazeS.l0 k (markM m l) q s.1 (s.2 : Int)) (fun s => s.2 ≤ l.length ∧ s.1 = m + mszs (l.take s.2)) (fun s => l.length - s.2)
    (fun _ => .inl (m + mszs l)) (fun q ⟨u, i⟩ hI => by
      obtain ⟨h1, h3⟩ := hI
      simp only at h1 h3
      simp only
      by_cases hi : i < l.length
      rotate_left 1
      · right
        have : i = l.length := by omega
        subst this
        rw [laws_heldMazeS.l0]
        simp [hml, h3]
      left
      have hle := mszs_le l (i + 1)
      have htk := mszs_take l i hi
      have hdi := hd _ (List.getElem_mem hi)
      have hlt : ((i : Int) < ((markM m l).length : Int)) := by omega
      have hw : w64 ((i : Int) + 1) = ((i + 1 : Nat) : Int) := w64_id (by omega) (by omega)
      have hA : (markM m (l.take i)).length = i := by rw [markM_length, List.length_take]; omega
      have hmsz : msz l[i] = 1 + 3 * l[i].2.1.length + l[i].2.2.length := rfl
      have hw1 : w64 (u + 1) = u + 1 := w64_id (by omega) (by omega)
      have hel : rdl (markM m l) (i : Int) = some (mark1 u l[i]) := by
        have : markM m l = markM m (l.take i) ++ mark1 u l[i] :: markM (u + msz l[i]) (l.drop (i + 1)) := by
          conv => lhs; rw [← List.take_append_drop i l, List.drop_eq_getElem_cons hi, markM_append, ← h3]
          rfl
        rw [this]
        have := rdl_mid (markM m (l.take i)) (mark1 u l[i]) (markM (u + msz l[i]) (l.drop (i + 1)))
        rwa [hA] at this
      refine ⟨(u + msz l[i], i + 1), ?_, trivial, ⟨by simp only; omega, by simp only; rw [htk, h3]; omega⟩, by simp only; omega⟩
      have m1 := heldIntA3S_eq hk l[i].2.1.length (u + 1) (by omega) (by omega) hdi.1
      have m2 := heldIntS_eq hk l[i].2.2.length (u + 1 + 3 * l[i].2.1.length) (by omega) (by omega) hdi.2
      have p1 : decide (u + 1 + 3 * ((l[i].2.1.length : Nat) : Int) < 0) = false := decide_eq_false (by omega)
      have p2 : decide (u + 1 + 3 * ((l[i].2.1.length : Nat) : Int) + ((l[i].2.2.length : Nat) : Int) < 0) = false := decide_eq_false (by omega)
      rw [laws_heldMazeS.l0]
      simp only [hlt, decide_true, if_true, hel, Option.bind_some, mark1, bne_self_eq_false, Bool.false_eq_true, if_false, hw1, m1, m2, p1, p2, hw]
      rw [show u + 1 + 3 * ((l[i].2.1.length : Nat) : Int) + ((l[i].2.2.length : Nat) : Int) = u + ((msz l[i] : Nat) : Int) by rw [hmsz]; omega]) k (m, 0) (by simp only; unfold Big at hk; omega) ⟨by simp, by simp [mszs]⟩
  simp only at this
  rw [show ((0 : Nat) : Int) = 0 from rfl] at this
  rw [this]; rfl
theorem markIntSS_eq (hk : Big ≤ k) (l : List (List Int)) (m : Int) (h0 : 0 ≤ m) (hm : m + iz l ≤ 268435456) (hl : l.length ≤ 1048576) (hd : ∀ t ∈ l, t.length ≤ 1048576) :
    laws_markIntSS.f k l m = some (m + iz l, markI m l) := by
  unfold laws_markIntSS.f
  have := loop_res (l := fun q (s : List (List Int) × Int × Nat) => laws_markIntSS.l0 k q s.1 s.2.1 (s.2.2 : Int)) (fun s => s.2.2 ≤ l.length ∧ s.1 = markI m (l.take s.2.2) ++ l.drop s.2.2 ∧ s.2.1 = m + iz (l.take s.2.2)) (fun s => l.length - s.2.2)
    (fun _ => (m + iz l, markI m l)) (fun q ⟨x, u, i⟩ hI => by
      obtain ⟨h1, h2, h3⟩ := hI
      simp only at h1 h2 h3
      simp only
      have hxl : x.length = l.length := by rw [h2, List.length_append, markI_length, List.length_take, List.length_drop]; omega
      by_cases hi : i < l.length
      rotate_left 1
      · right
        have : i = l.length := by omega
        subst this
        rw [laws_markIntSS.l0]
        simp only [show ¬ ((l.length : Int) < (x.length : Int)) by omega, decide_false, Bool.false_eq_true, if_false]
        simp only [h2, h3]
        simp
      left
      have hle := iz_le l (i + 1)
      have htk := iz_take l i hi
      have hdi := hd _ (List.getElem_mem hi)
      have hlt : ((i : Int) < (x.length : Int)) := by omega
      have hw : w64 ((i : Int) + 1) = ((i + 1 : Nat) : Int) := w64_id (by omega) (by omega)
      have hA : (markI m (l.take i)).length = i := by rw [markI_length, List.length_take]; omega
      rw [List.drop_eq_getElem_cons hi] at h2
      generalize hAA : markI m (l.take i) = A at *
      generalize hBB : l.drop (i + 1) = B at *
      subst h2
      have r1 : ∀ y : List Int, rdl (A ++ y :: B) (i : Int) = some y := fun y => by rw [← hA]; exact rdl_mid A y B
      have s1 : ∀ y z : List Int, (A ++ y :: B).set i z = A ++ z :: B := fun y z => by rw [← hA]; exact set_mid A y z B
      refine ⟨(A ++ ups u l[i].length :: B, u + l[i].length, i + 1), ?_, trivial, ⟨by simp only; omega, ?_, ?_⟩, by simp only; omega⟩
      · rw [laws_markIntSS.l0]
        have m2 := markIntS_eq hk l[i] u (by omega) (by omega) hdi
        simp only [hlt, decide_true, if_true, r1, s1, Option.bind_some, Int.toNat_natCast, m2, hw]
      · simp only
        rw [List.take_add_one, List.getElem?_eq_getElem hi, markI_append, hAA, ← h3]
        simp [markI, hBB]
      · simp only
        rw [htk, h3]; omega) k (l, m, 0) (by simp only; unfold Big at hk; omega) ⟨by simp, by simp [markI], by simp [iz]⟩
  simp only at this
  rw [show ((0 : Nat) : Int) = 0 from rfl] at this
  rw [this]; rfl
theorem heldIntSS_eq (hk : Big ≤ k) (l : List (List Int)) (m : Int) (h0 : 0 ≤ m) (hm : m + iz l ≤ 268435456) (hl : l.length ≤ 1048576) (hd : ∀ t ∈ l, t.length ≤ 1048576) :
    laws_heldIntSS.f k (markI m l) m = some (m + iz l) := by
  unfold laws_heldIntSS.f
  have hml := markI_length l m
  have := loop_res (l := fun q (s : Int × Nat) => laws_heldIntSS.l0 k (markI m l) q s.1 (s.2 : Int)) (fun s => s.2 ≤ l.length ∧ s.1 = m + iz (l.take s.2)) (fun s => l.length - s.2)
    (fun _ => .inl (m + iz l)) (fun q ⟨u, i⟩ hI => by
      obtain ⟨h1, h3⟩ := hI
      simp only at h1 h3
      simp only
      by_cases hi : i < l.length
      rotate_left 1
      · right
        have : i = l.length := by omega
        subst this
        rw [laws_heldIntSS.l0]
        simp [hml, h3]
      left
      have hle := iz_le l (i + 1)
      have htk := iz_take l i hi
      have hdi := hd _ (List.getElem_mem hi)
      have hlt : ((i : Int) < ((markI m l).length : Int)) := by omega
      have hw : w64 ((i : Int) + 1) = ((i + 1 : Nat) : Int) := w64_id (by omega) (by omega)
      have hA : (markI m (l.take i)).length = i := by rw [markI_length, List.length_take]; omega
      have hel : rdl (markI m l) (i : Int) = some (ups u l[i].length) := by
        have : markI m l = markI m (l.take i) ++ ups u l[i].length :: markI (u + l[i].length) (l.drop (i + 1)) := by
          conv => lhs; rw [← List.take_append_drop i l, List.drop_eq_getElem_cons hi, markI_append, ← h3]
          rfl
        rw [this]
        have := rdl_mid (markI m (l.take i)) (ups u l[i].length) (markI (u + l[i].length) (l.drop (i + 1)))
        rwa [hA] at this
      refine ⟨(u + l[i].length, i + 1), ?_, trivial, ⟨by simp only; omega, by simp only; rw [htk, h3]; omega⟩, by simp only; omega⟩
      have m2 := heldIntS_eq hk l[i].length u (by omega) (by omega) hdi
      have p2 : decide (u + ((l[i].length : Nat) : Int) < 0) = false := decide_eq_false (by omega)
      rw [laws_heldIntSS.l0]
      simp only [hlt, decide_true, if_true, hel, Option.bind_some, m2, p2, Bool.false_eq_true, if_false, hw]) k (m, 0) (by simp only; unfold Big at hk; omega) ⟨by simp, by simp [iz]⟩
  simp only at this
  rw [show ((0 : Nat) : Int) = 0 from rfl] at this
  rw [this]; rfl
theorem markWorlds_eq (hk : Big ≤ k) (ms : List MazeT) (os : List (List Int)) (m : Int) (h0 : 0 ≤ m) (hm : m + mszs ms + iz os ≤ 268435456) (h : WB ms os) : laws_markWorlds.f k ms os m = some (m + mszs ms + iz os, markM m ms, markI (m + mszs ms) os) := by
  unfold laws_markWorlds.f
  simp only [markMazeS_eq hk ms m h0 (by omega) h.ml h.md, Option.bind_some, markIntSS_eq hk os (m + mszs ms) (by omega) hm h.ol h.od]
theorem heldWorlds_eq (hk : Big ≤ k) (ms : List MazeT) (os : List (List Int)) (m : Int) (h0 : 0 ≤ m) (hm : m + mszs ms + iz os ≤ 268435456) (h : WB ms os) : laws_heldWorlds.f k (markM m ms) (markI (m + mszs ms) os) m = some (m + mszs ms + iz os) := by
  unfold laws_heldWorlds.f
  rw [heldMazeS_eq hk ms m h0 (by omega) h.ml h.md, Option.bind_some, if_neg (by simp; omega), heldIntSS_eq hk os (m + mszs ms) (by omega) hm h.ol h.od, Option.bind_some, if_neg (by simp; omega)]
/-! valid worlds -/
def worldOk (ms : List MazeT) (os : List (List Int)) (i : Nat) : Bool :=
  if h : i < ms.length then decide (IsMaze ms[i].1 ms[i].2.1 ms[i].2.2) && decide (((os.getD i []).length : Int) = ms[i].1) && (os.getD i []).all (fun o => decide (0 ≤ o ∧ o ≤ (ms.length : Int) - 1)) else true
def IsWorldsP (ms : List MazeT) (os : List (List Int)) : Prop := (1 ≤ ms.length ∧ ms.length ≤ 3) ∧ os.length = ms.length ∧ ∀ i, i < ms.length → worldOk ms os i = true
instance (ms : List MazeT) (os : List (List Int)) : Decidable (IsWorldsP ms os) := by unfold IsWorldsP; infer_instance
theorem IsWorlds_eq (hk : Big ≤ k) (ms : List MazeT) (os : List (List Int)) (hb : WB ms os) : impl_IsWorlds.f k ms os = some (decide (IsWorldsP ms os)) := by
  unfold impl_IsWorlds.f
  rw [within_eq]
  by_cases c1 : 1 ≤ (ms.length : Int) ∧ (ms.length : Int) ≤ 3
  rotate_left 1
  · have : ¬ IsWorldsP ms os := fun h => c1 (by have := h.1; omega)
    simp [c1, this]
  by_cases c2 : os.length = ms.length
  rotate_left 1
  · have : ¬ IsWorldsP ms os := fun h => c2 h.2.1
    have c2' : ¬ (os.length : Int) = (ms.length : Int) := by omega
    simp [c1, c2', this]
  have hw1 : w64 ((ms.length : Int) - 1) = (ms.length : Int) - 1 := w64_id (by omega) (by omega)
  simp only [c1, decide_true, Option.bind_some, Bool.not_true, Bool.false_eq_true, if_false, c2, bne_self_eq_false, and_self]
  rw [loop_all (l := impl_IsWorlds.l0 k ms os) (N := ms.length) (worldOk ms os) (z := false) (fun q i hi => by
    have hio : i < os.length := by omega
    have hlt : ((i : Int) < (ms.length : Int)) := by omega
    have hw : w64 ((i : Int) + 1) = ((i + 1 : Nat) : Int) := w64_id (by omega) (by omega)
    have hdi := hb.md _ (List.getElem_mem hi)
    have hoi := hb.od _ (List.getElem_mem hio)
    have hod : os.getD i [] = os[i] := by rw [List.getD_eq_getElem?_getD, List.getElem?_eq_getElem hio]; rfl
    rw [impl_IsWorlds.l0]
    simp only [hlt, decide_true, if_true, rdl_lt hi, rdl_lt hio, Option.bind_some, hw, IsMaze_eq hk _ _ _ hdi.1 hdi.2, containsFunc_eq hk os[i] hoi (fun z0 => impl_IsWorlds_1.f k z0 ms os) (fun x => !decide (0 ≤ x ∧ x ≤ (ms.length : Int) - 1)) (fun x _ => by simp [impl_IsWorlds_1.f, within_eq, hw1])]
    unfold worldOk
    rw [dif_pos hi, hod]
    by_cases e1 : IsMaze ms[i].1 ms[i].2.1 ms[i].2.2
    rotate_left 1
    · simp [e1]
    by_cases e2 : (os[i].length : Int) = ms[i].1
    rotate_left 1
    · simp [e1, e2]
    have e3 : os[i].any (fun x => !decide (0 ≤ x ∧ x ≤ (ms.length : Int) - 1)) = !os[i].all (fun o => decide (0 ≤ o ∧ o ≤ (ms.length : Int) - 1)) := by
      rw [List.not_all_eq_any_not]
    simp only [e1, e2, decide_true, Bool.not_true, Bool.false_eq_true, if_false, bne_self_eq_false, Option.bind_some, e3, Bool.true_and]
    cases os[i].all (fun o => decide (0 ≤ o ∧ o ≤ (ms.length : Int) - 1)) <;> simp) (fun q => by rw [impl_IsWorlds.l0]; simp) (by have := hb.ml; unfold Big at hk; omega), Option.bind_some, Lr_ite]
  by_cases c3 : ∀ i, i < ms.length → worldOk ms os i = true
  · rw [if_pos c3, decide_eq_true (show IsWorldsP ms os from ⟨by omega, c2, c3⟩)]
  · rw [if_neg c3, decide_eq_false (fun h : IsWorldsP ms os => c3 h.2.2)]
theorem l10Worlds_eq (hk : Big ≤ k) (ms : List MazeT) (os : List (List Int)) (hb : WB ms os) : spec_l10Worlds.f k ms os = some (decide (IsWorldsP ms os)) := by
  unfold spec_l10Worlds.f
  rw [in_eq]
  by_cases c1 : 1 ≤ (ms.length : Int) ∧ (ms.length : Int) ≤ 3
  rotate_left 1
  · have : ¬ IsWorldsP ms os := fun h => c1 (by have := h.1; omega)
    simp [c1, this]
  by_cases c2 : os.length = ms.length
  rotate_left 1
  · have : ¬ IsWorldsP ms os := fun h => c2 h.2.1
    have c2' : ¬ (os.length : Int) = (ms.length : Int) := by omega
    simp [c1, c2', this]
  have hw1 : w64 ((ms.length : Int) - 1) = (ms.length : Int) - 1 := w64_id (by omega) (by omega)
  simp only [c1, decide_true, Option.bind_some, Bool.not_true, Bool.false_eq_true, if_false, c2, bne_self_eq_false, and_self]
  rw [loop_all (l := spec_l10Worlds.l0 k ms os) (N := ms.length) (worldOk ms os) (z := false) (fun q i hi => by
    have hio : i < os.length := by omega
    have hlt : ((i : Int) < (ms.length : Int)) := by omega
    have hw : w64 ((i : Int) + 1) = ((i + 1 : Nat) : Int) := w64_id (by omega) (by omega)
    have hdi := hb.md _ (List.getElem_mem hi)
    have hoi := hb.od _ (List.getElem_mem hio)
    have hod : os.getD i [] = os[i] := by rw [List.getD_eq_getElem?_getD, List.getElem?_eq_getElem hio]; rfl
    have hin := loop_all (l := spec_l10Worlds.l1 k ms os (i : Int)) (N := os[i].length) (fun j => if hj : j < os[i].length then decide (0 ≤ os[i][j] ∧ os[i][j] ≤ (ms.length : Int) - 1) else true) (z := false) (fun q j hj => by
      have hlt : ((j : Int) < (os[i].length : Int)) := by omega
      have hw : w64 ((j : Int) + 1) = ((j + 1 : Nat) : Int) := w64_id (by omega) (by omega)
      rw [spec_l10Worlds.l1]
      simp only [rdl_lt hio, Option.bind_some, hlt, decide_true, if_true, rdl_lt hj, in_eq, hw1, hw, hj, dite_true]
      by_cases hc : 0 ≤ os[i][j] ∧ os[i][j] ≤ (ms.length : Int) - 1 <;> simp [hc]) (fun q => by rw [spec_l10Worlds.l1]; simp [rdl_lt hio]) (k := k) (by unfold Big at hk; omega)
    have hall : (∀ j, j < os[i].length → (if hj : j < os[i].length then decide (0 ≤ os[i][j] ∧ os[i][j] ≤ (ms.length : Int) - 1) else true) = true) ↔ os[i].all (fun o => decide (0 ≤ o ∧ o ≤ (ms.length : Int) - 1)) = true := by
      rw [List.all_eq_true]
      constructor
      · intro H x hx
        obtain ⟨j, hj, rfl⟩ := List.getElem_of_mem hx
        have := H j hj; rwa [dif_pos hj] at this
      · intro H j hj
        rw [dif_pos hj]; exact H _ (List.getElem_mem hj)
    rw [spec_l10Worlds.l0]
    simp only [hlt, decide_true, if_true, rdl_lt hi, rdl_lt hio, Option.bind_some, hw, l2Maze_eq hk _ _ _ hdi.1 hdi.2, hin]
    unfold worldOk
    rw [dif_pos hi, hod]
    by_cases e1 : IsMaze ms[i].1 ms[i].2.1 ms[i].2.2
    rotate_left 1
    · simp [e1]
    by_cases e2 : (os[i].length : Int) = ms[i].1
    rotate_left 1
    · simp [e1, e2]
    simp only [e1, e2, decide_true, Bool.not_true, Bool.false_eq_true, if_false, bne_self_eq_false, Option.bind_some, Bool.true_and, Lr_ite]
    by_cases e3 : os[i].all (fun o => decide (0 ≤ o ∧ o ≤ (ms.length : Int) - 1)) = true
    · rw [if_pos (hall.2 e3), if_pos e3]
    · rw [if_neg (fun h => e3 (hall.1 h)), if_neg e3]) (fun q => by rw [spec_l10Worlds.l0]; simp) (by have := hb.ml; unfold Big at hk; omega), Option.bind_some, Lr_ite]
  by_cases c3 : ∀ i, i < ms.length → worldOk ms os i = true
  · rw [if_pos c3, decide_eq_true (show IsWorldsP ms os from ⟨by omega, c2, c3⟩)]
  · rw [if_neg c3, decide_eq_false (fun h : IsWorldsP ms os => c3 h.2.2)]
theorem wfd_worlds {ms : List MazeT} {os : List (List Int)} (h : wfd (ms, os)) : (ms.length ≤ maxLen ∧ ∀ t ∈ ms, t.2.1.length ≤ maxLen ∧ t.2.2.length ≤ maxLen) ∧ os.length ≤ maxLen ∧ ∀ t ∈ os, t.length ≤ maxLen :=
  ⟨⟨h.1.1, fun t ht => ⟨(h.1.2 t ht).2.1.1, (h.1.2 t ht).2.2.1⟩⟩, h.2.1, fun t ht => (h.2.2 t ht).1⟩
/-! one maze alone -/
end
end Go.Proofs

/- Plain laws: N -/
namespace Go.Proofs
open Go Go.Ga Go.Ga.Wf
set_option linter.unusedVariables false
set_option linter.unusedSimpArgs false
section
variable {k : Nat}
theorem isNode_eq (hk : Big ≤ k) (n : Int) (d : List Door) (ks l : List Int) (hd : d.length ≤ 1048576) (hks : ks.length ≤ 1048576) (hl : l.length ≤ 1048576) :
    impl_isNode.f k n d ks l = some (decide (IsMaze n d ks) && l.all (fun x => decide (0 ≤ x ∧ x ≤ n - 1))) := by
  unfold impl_isNode.f
  rw [IsMaze_eq hk n d ks hd hks]
  by_cases hm : IsMaze n d ks
  rotate_left 1
  · simp [hm]
  have en : w64 (n - 1) = n - 1 := w64_id (by have := hm.1; omega) (by have := hm.2.1; omega)
  simp only [hm, decide_true, Option.bind_some, if_true, containsFunc_eq hk l hl (fun z0 => impl_isNode_1.f k z0 n d ks) (fun x => !decide (0 ≤ x ∧ x ≤ n - 1)) (fun x _ => by simp [impl_isNode_1.f, within_eq, en]), Bool.true_and]
  rw [List.all_eq_not_any_not]
/-! idle nodes -/
/-! nodes ahead -/
/-! a new console -/
/-! what a world can ever reach -/
theorem isWorld_eq (hk : Big ≤ k) (ms : List MazeT) (os : List (List Int)) (a : Int) (hb : WB ms os) : impl_isWorld.f k ms os a = some (decide (IsWorldsP ms os ∧ 0 ≤ a ∧ a ≤ (ms.length : Int) - 1)) := by
  unfold impl_isWorld.f
  have hl := hb.ml
  rw [IsWorlds_eq hk ms os hb, w64_id (by omega) (by omega)]
  by_cases h : IsWorldsP ms os <;> simp [h, within_eq]
theorem l10World_eq (hk : Big ≤ k) (ms : List MazeT) (os : List (List Int)) (a : Int) (hb : WB ms os) : spec_l10World.f k ms os a = some (decide (IsWorldsP ms os ∧ 0 ≤ a ∧ a ≤ (ms.length : Int) - 1)) := by
  unfold spec_l10World.f
  have hl := hb.ml
  rw [l10Worlds_eq hk ms os hb, w64_id (by omega) (by omega)]
  by_cases h : IsWorldsP ms os <;> simp [h, in_eq]
theorem IsWorldsP.at {ms : List MazeT} {os : List (List Int)} (h : IsWorldsP ms os) (i : Nat) (hi : i < ms.length) : IsMaze ms[i].1 ms[i].2.1 ms[i].2.2 ∧ ∃ hio : i < os.length, (os[i].length : Int) = ms[i].1 ∧ ∀ o ∈ os[i], 0 ≤ o ∧ o ≤ (ms.length : Int) - 1 := by
  have h1 := h.2.2 i hi
  unfold worldOk at h1
  have hio : i < os.length := by have := h.2.1; omega
  have hod : os.getD i [] = os[i] := by rw [List.getD_eq_getElem?_getD, List.getElem?_eq_getElem hio]; rfl
  rw [dif_pos hi, hod] at h1
  simp only [Bool.and_eq_true, decide_eq_true_eq, List.all_eq_true] at h1
  exact ⟨h1.1.1, hio, h1.1.2, h1.2⟩
end
end Go.Proofs

/- Plain laws: O -/
namespace Go.Proofs
open Go Go.Ga Go.Ga.Wf
set_option linter.unusedVariables false
set_option linter.unusedSimpArgs false
section
variable {k : Nat}
end
end Go.Proofs

/- Plain laws: P -/
namespace Go.Proofs
open Go Go.Ga Go.Ga.Wf
set_option linter.unusedVariables false
set_option linter.unusedSimpArgs false
theorem loop_copy2 {α β γ : Type} {l : Nat → Int → List α → List β → Option γ} (a : List α) (b : List β) (hab : b.length = a.length) (out : Option γ)
    (hs : ∀ n (i : Nat) (hi : i < a.length) (hj : i < b.length), l (n + 1) (i : Int) (a.take i) (b.take i) = l n ((i + 1 : Nat) : Int) (a.take i ++ [a[i]]) (b.take i ++ [b[i]]))
    (he : ∀ n, l (n + 1) (a.length : Int) a b = out) {k : Nat} (hk : a.length < k) : l k 0 [] [] = out := by
  have key : ∀ m i k, i + m = a.length → m < k → l k (i : Int) (a.take i) (b.take i) = out := by
    intro m
    induction m with
    | zero =>
      intro i k hi hk
      obtain ⟨n, rfl⟩ : ∃ n, k = n + 1 := ⟨k - 1, by omega⟩
      have : i = a.length := by omega
      subst this
      rw [List.take_length, List.take_of_length_le (by omega)]
      exact he n
    | succ m ih =>
      intro i k hi hk
      obtain ⟨n, rfl⟩ : ∃ n, k = n + 1 := ⟨k - 1, by omega⟩
      have e1 : a.take i ++ [a[i]] = a.take (i + 1) := by rw [List.take_add_one, List.getElem?_eq_getElem (by omega)]; rfl
      have e2 : b.take i ++ [b[i]] = b.take (i + 1) := by rw [List.take_add_one, List.getElem?_eq_getElem (by omega)]; rfl
      rw [hs n i (by omega) (by omega), e1, e2]
      exact ih (i + 1) n (by omega) (by omega)
  have := key a.length 0 k (by omega) hk
  simpa using this
theorem mszs_mz : ∀ (l : List MazeT), mszs l ≤ l.length + 3 * mz l
  | [] => by simp [mszs]
  | t :: l => by have := mszs_mz l; simp only [mszs, msz, mz, mz1, List.length_cons]; omega
theorem iz_set : ∀ (l : List (List Int)) (i : Nat) (v : List Int), (∀ h : i < l.length, v.length = l[i].length) → iz (l.set i v) = iz l
  | [], i, v, _ => rfl
  | x :: l, 0, v, h => by have := h (by simp); simp only [List.set_cons_zero, iz]; simp at this; omega
  | x :: l, i + 1, v, h => by
    have := iz_set l i v (fun hi => by have := h (by simpa using hi); simpa using this)
    simp only [List.set_cons_succ, iz, this]
section
variable {k : Nat}
noncomputable def giveP (ms : List MazeT) (os : List (List Int)) (a x b : Int) : Prop :=
  (IsWorldsP ms os ∧ 0 ≤ a ∧ a ≤ (ms.length : Int) - 1) ∧ (0 ≤ x ∧ x ≤ (ms.getD a.toNat (0, [], [])).1 - 1) ∧ 0 ≤ b ∧ b ≤ (ms.length : Int) - 1
open Classical in
noncomputable def giveR (ms : List MazeT) (os : List (List Int)) (a x b : Int) : List MazeT × List (List Int) × Bool :=
  if giveP ms os a x b then (ms, os.set a.toNat ((os.getD a.toNat []).set x.toNat b), true) else ([], [], false)
theorem impl_GiveKeys_l0 (hk : Big ≤ k) (ms : List MazeT) (os : List (List Int)) (hb : WB ms os) (hl : os.length = ms.length) : impl_GiveKeys.l0 k ms os k 0 [] [] = some (ms, os) := by
  refine loop_copy2 (l := fun q i a b => impl_GiveKeys.l0 k ms os q i a b) ms os hl _ (fun q i hi hj => ?_) (fun q => ?_) (by have := hb.ml; unfold Big at hk; omega)
  · have hlt : ((i : Int) < (ms.length : Int)) := by omega
    have hw : w64 ((i : Int) + 1) = ((i + 1 : Nat) : Int) := w64_id (by have := hb.ml; omega) (by have := hb.ml; omega)
    have hdi := hb.md _ (List.getElem_mem hi)
    have hoi := hb.od _ (List.getElem_mem hj)
    have hml := hb.ml
    show impl_GiveKeys.l0 k ms os (q + 1) (i : Int) _ _ = _
    rw [impl_GiveKeys.l0]
    simp only [hlt, decide_true, if_true, rdl_lt hi, rdl_lt hj, Option.bind_some, hw, own_eq _ _ _ hdi.1 hdi.2, clone_eq _ hoi]
    rw [if_pos (by rw [List.length_append, List.length_take]; simp only [List.length_singleton]; omega), if_pos (by rw [List.length_append, List.length_take]; simp only [List.length_singleton]; omega)]
  · show impl_GiveKeys.l0 k ms os (q + 1) (ms.length : Int) _ _ = _
    rw [impl_GiveKeys.l0]; simp
theorem l10Own_l0 (hk : Big ≤ k) (ms : List MazeT) (os : List (List Int)) (hb : WB ms os) (hl : os.length = ms.length) : spec_l10Own.l0 k ms os k 0 [] [] = some (ms, os) := by
  refine loop_copy2 (l := fun q i a b => spec_l10Own.l0 k ms os q i a b) ms os hl _ (fun q i hi hj => ?_) (fun q => ?_) (by have := hb.ml; unfold Big at hk; omega)
  · have hlt : ((i : Int) < (ms.length : Int)) := by omega
    have hw : w64 ((i : Int) + 1) = ((i + 1 : Nat) : Int) := w64_id (by have := hb.ml; omega) (by have := hb.ml; omega)
    have hdi := hb.md _ (List.getElem_mem hi)
    have hoi := hb.od _ (List.getElem_mem hj)
    have hml := hb.ml
    show spec_l10Own.l0 k ms os (q + 1) (i : Int) _ _ = _
    rw [spec_l10Own.l0]
    simp only [hlt, decide_true, if_true, rdl_lt hi, rdl_lt hj, Option.bind_some, hw, l2Own_eq _ _ _ hdi.1 hdi.2, l1Own_eq _ hoi]
    rw [if_pos (by rw [List.length_append, List.length_take]; simp only [List.length_singleton]; omega), if_pos (by rw [List.length_append, List.length_take]; simp only [List.length_singleton]; omega)]
  · show spec_l10Own.l0 k ms os (q + 1) (ms.length : Int) _ _ = _
    rw [spec_l10Own.l0]; simp
theorem give_core {ms : List MazeT} {os : List (List Int)} {a x b : Int} (hb : WB ms os) (hp : giveP ms os a x b) :
    rdl os a = some (os.getD a.toNat []) ∧ (∃ t, rdl (os.getD a.toNat []) x = some t) ∧ a.toNat < os.length ∧ rdl ms a = some (ms.getD a.toNat (0, [], [])) := by
  obtain ⟨⟨hw, h1, h2⟩, ⟨h3, h4⟩, h5, h6⟩ := hp
  obtain ⟨i, rfl⟩ := Int.eq_ofNat_of_zero_le h1
  obtain ⟨y, rfl⟩ := Int.eq_ofNat_of_zero_le h3
  have hi : i < ms.length := by omega
  obtain ⟨_, hio, ho, _⟩ := hw.at i hi
  rw [Int.toNat_natCast] at h4 ⊢
  rw [List.getD_eq_getElem?_getD, List.getElem?_eq_getElem hi] at h4
  simp only [Option.getD_some] at h4
  have hod : os.getD i [] = os[i] := by rw [List.getD_eq_getElem?_getD, List.getElem?_eq_getElem hio]; rfl
  have hmd : ms.getD i (0, [], []) = ms[i] := by rw [List.getD_eq_getElem?_getD, List.getElem?_eq_getElem hi]; rfl
  rw [hod, hmd]
  exact ⟨rdl_lt hio, ⟨_, rdl_lt (show y < os[i].length by omega)⟩, hio, rdl_lt hi⟩
theorem impl_GiveKeys_eq (hk : Big ≤ k) (ms : List MazeT) (os : List (List Int)) (a x b : Int) (hb : WB ms os) : impl_GiveKeys.f k ms os a x b = some (giveR ms os a x b) := by
  unfold impl_GiveKeys.f giveR
  rw [isWorld_eq hk ms os a hb, isWorld_eq hk ms os b hb]
  by_cases h1 : IsWorldsP ms os ∧ 0 ≤ a ∧ a ≤ (ms.length : Int) - 1
  rotate_left 1
  · have hn : ¬ giveP ms os a x b := fun h => h1 h.1
    rw [if_neg hn, decide_eq_false h1]; rfl
  by_cases h2 : 0 ≤ b ∧ b ≤ (ms.length : Int) - 1
  rotate_left 1
  · have hn : ¬ giveP ms os a x b := fun h => h2 h.2.2
    have hn2 : ¬ (IsWorldsP ms os ∧ 0 ≤ b ∧ b ≤ (ms.length : Int) - 1) := fun h => h2 h.2
    rw [if_neg hn, decide_eq_true h1, decide_eq_false hn2]; rfl
  obtain ⟨i, rfl⟩ := Int.eq_ofNat_of_zero_le h1.2.1
  have hi : i < ms.length := by have := h1.2.2; omega
  have hdi := hb.md _ (List.getElem_mem hi)
  have hm := (h1.1.at i hi).1
  have hmd : ms.getD i (0, [], []) = ms[i] := by rw [List.getD_eq_getElem?_getD, List.getElem?_eq_getElem hi]; rfl
  rw [decide_eq_true h1, decide_eq_true (show IsWorldsP ms os ∧ 0 ≤ b ∧ b ≤ (ms.length : Int) - 1 from ⟨h1.1, h2⟩)]
  simp only [Option.bind_some, Bool.not_true, Bool.false_eq_true, if_false, rdl_lt hi, isNode_eq hk ms[i].1 ms[i].2.1 ms[i].2.2 [x] hdi.1 hdi.2 (by simp), decide_eq_true hm, Bool.true_and, List.all_cons, List.all_nil, Bool.and_true]
  by_cases h3 : 0 ≤ x ∧ x ≤ ms[i].1 - 1
  · have hp : giveP ms os (i : Int) x b := ⟨h1, by rw [Int.toNat_natCast, hmd]; exact h3, h2⟩
    obtain ⟨c1, ⟨t, c2⟩, _, _⟩ := give_core hb hp
    rw [if_pos hp, decide_eq_true h3]
    simp only [Bool.not_true, Bool.false_eq_true, if_false, impl_GiveKeys_l0 hk ms os hb h1.1.2.1, Option.bind_some, c1, c2]
  · have hn : ¬ giveP ms os (i : Int) x b := fun h => h3 (by have := h.2.1; rwa [Int.toNat_natCast, hmd] at this)
    rw [if_neg hn, decide_eq_false h3]; rfl
theorem spec_GiveKeys_eq (hk : Big ≤ k) (ms : List MazeT) (os : List (List Int)) (a x b : Int) (hb : WB ms os) : spec_GiveKeys.f k ms os a x b = some (giveR ms os a x b) := by
  unfold spec_GiveKeys.f giveR
  rw [l10World_eq hk ms os a hb]
  by_cases h1 : IsWorldsP ms os ∧ 0 ≤ a ∧ a ≤ (ms.length : Int) - 1
  rotate_left 1
  · have hn : ¬ giveP ms os a x b := fun h => h1 h.1
    rw [if_neg hn, decide_eq_false h1]; rfl
  obtain ⟨i, rfl⟩ := Int.eq_ofNat_of_zero_le h1.2.1
  have hi : i < ms.length := by have := h1.2.2; omega
  have hdi := hb.md _ (List.getElem_mem hi)
  have hm := (h1.1.at i hi).1
  have hml := hb.ml
  have hmd : ms.getD i (0, [], []) = ms[i] := by rw [List.getD_eq_getElem?_getD, List.getElem?_eq_getElem hi]; rfl
  rw [decide_eq_true h1]
  have en : w64 (ms[i].1 - 1) = ms[i].1 - 1 := w64_id (by have := hm.1; omega) (by have := hm.2.1; omega)
  have en2 : w64 ((ms.length : Int) - 1) = (ms.length : Int) - 1 := w64_id (by omega) (by omega)
  simp only [Option.bind_some, Bool.not_true, Bool.false_eq_true, if_false, rdl_lt hi, in_eq, en, en2]
  by_cases h3 : 0 ≤ x ∧ x ≤ ms[i].1 - 1
  rotate_left 1
  · have hn : ¬ giveP ms os (i : Int) x b := fun h => h3 (by have := h.2.1; rwa [Int.toNat_natCast, hmd] at this)
    rw [if_neg hn, decide_eq_false h3]; rfl
  by_cases h2 : 0 ≤ b ∧ b ≤ (ms.length : Int) - 1
  rotate_left 1
  · have hn : ¬ giveP ms os (i : Int) x b := fun h => h2 h.2.2
    rw [if_neg hn, decide_eq_true h3, decide_eq_false h2]; rfl
  have hp : giveP ms os (i : Int) x b := ⟨h1, by rw [Int.toNat_natCast, hmd]; exact h3, h2⟩
  obtain ⟨c1, ⟨t, c2⟩, _, _⟩ := give_core hb hp
  rw [if_pos hp, decide_eq_true h3, decide_eq_true h2]
  unfold spec_l10Own.f
  simp only [Bool.not_true, Bool.false_eq_true, if_false, l10Own_l0 hk ms os hb h1.1.2.1, Option.bind_some, c1, c2]
theorem giveR_wb {ms : List MazeT} {os : List (List Int)} {a x b : Int} (hc : ((wz ms os : Nat) : Int) ≤ 1048576) : WB (giveR ms os a x b).1 (giveR ms os a x b).2.1 ∧ mszs (giveR ms os a x b).1 + iz (giveR ms os a x b).2.1 ≤ 268435455 := by
  have hb := WB.of hc
  unfold giveR
  by_cases hp : giveP ms os a x b
  · rw [if_pos hp]
    obtain ⟨_, _, hl, _⟩ := give_core hb hp
    have hlen : ((os.getD a.toNat []).set x.toNat b).length = os[a.toNat].length := by rw [List.length_set, List.getD_eq_getElem?_getD, List.getElem?_eq_getElem hl]; rfl
    refine ⟨⟨hb.ml, by rw [List.length_set]; exact hb.ol, hb.md, fun t ht => ?_⟩, ?_⟩
    · rcases List.mem_or_eq_of_mem_set ht with h | h
      · exact hb.od t h
      · rw [h, hlen]; exact hb.od _ (List.getElem_mem hl)
    · have h1 := mszs_mz ms
      have h2 := iz_set os a.toNat ((os.getD a.toNat []).set x.toNat b) (fun h => hlen)
      simp only
      rw [h2]
      unfold wz at hc; omega
  · rw [if_neg hp]
    exact ⟨⟨by simp, by simp, fun t ht => by simp at ht, fun t ht => by simp at ht⟩, by simp [mszs, iz]⟩
theorem laws_FnExactGiveKeys.pure (x : List (Int × List (Int × Int × Int) × List Int) × List (List Int)) (y z u : Int) (h : wfd x) (h' : wfd y) (h'' : wfd z) (h3 : wfd u) : ∃ k, laws_FnExactGiveKeys.f k x.1 x.2 y z u = some true := by
  refine ⟨Big, ?_⟩
  have hk : Big ≤ Big := Nat.le_refl _
  obtain ⟨ms, os⟩ := x
  have hw := wfd_worlds h
  unfold laws_FnExactGiveKeys.f
  simp only [szWorlds_eq hk ms os _ (by decide : (0 : Int) ≤ 1048576) (Int.le_refl _) hw.1.1 hw.1.2 hw.2.1 hw.2.2, Option.bind_some]
  by_cases hc : ((wz ms os : Nat) : Int) ≤ 1048576
  · have hb := WB.of hc
    have hm0 : mszs ms + iz os ≤ 268435455 := by have := mszs_mz ms; unfold wz at hc; omega
    have e2 := impl_GiveKeys_eq hk ms os y z u hb
    have e3 := spec_GiveKeys_eq hk ms os y z u hb
    have hr := giveR_wb (a := y) (x := z) (b := u) hc
    generalize giveR ms os y z u = r at *
    obtain ⟨ms', os', b⟩ := r
    simp only at hr
    have p1 : decide ((1 : Int) + mszs ms + iz os < 0) = false := decide_eq_false (by omega)
    have p2 : decide ((1 : Int) + mszs ms' + iz os' < 0) = false := decide_eq_false (by omega)
    simp only [p1, p2, szo_pos hc, Bool.false_eq_true, if_false, toWorlds_eq hk ms os hb, e2, e3, Option.bind_some, eqWorlds_eq hk ms os ms os hb, eqWorlds_eq hk ms' os' ms' os' hr.1,
      markWorlds_eq hk ms os 1 (by omega) (by omega) hb, markWorlds_eq hk ms' os' 1 (by omega) (by omega) hr.1, heldWorlds_eq hk ms' os' 1 (by omega) (by omega) hr.1]
    simp
  · simp only [szo_neg hc, if_true]
end
end Go.Proofs

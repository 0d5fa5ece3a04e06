/- A part of the proof of FnExactNewConsole: the plain law. No condition. -/
import Derived.Test.YtefpihelkbmpjaaFnExactNewConsoleE
/- Plain laws: A -/
namespace Go.Proofs
open Go Go.Ga Go.Ga.Wf
set_option linter.unusedVariables false
set_option linter.unusedSimpArgs false
section
variable {k : Nat}
theorem within_eq (x a b : Int) : impl_within.f k x a b = some (decide (a ≤ x ∧ x ≤ b)) := by
  unfold impl_within.f
  by_cases h : a ≤ x <;> simp [h]
theorem in_eq (x a b : Int) : spec_l1In.f k x a b = some (decide (a ≤ x ∧ x ≤ b)) := by
  unfold spec_l1In.f
  by_cases h : a ≤ x <;> simp [h, ge_iff_le]
end
end Go.Proofs

/- Plain laws: B -/
namespace Go.Ga
open Go
def szo (m : Int) (n : Nat) : Int := if (n : Int) ≤ m then m - n else -1
theorem loop_copy {α : Type} {l : Nat → List α → Int → Option (List α)} {a : List α}
    (hs : ∀ n (i : Nat) (s : List α) (hi : i < a.length), s.length = a.length → l (n + 1) s (i : Int) = l n (s.set i a[i]) ((i + 1 : Nat) : Int))
    (he : ∀ n s, l (n + 1) s (a.length : Int) = some s) {k : Nat} (hk : a.length < k) {s : List α} (h0 : s.length = a.length) : l k s 0 = some a := by
  have key : ∀ m i k s, i + m = a.length → m < k → s.length = a.length → (∀ j, j < i → s[j]? = a[j]?) → l k s (i : Int) = some a := by
    intro m
    induction m with
    | zero =>
      intro i k s hi hk h1 h2
      obtain ⟨n, rfl⟩ : ∃ n, k = n + 1 := ⟨k - 1, by omega⟩
      have : i = a.length := by omega
      subst this
      rw [he]
      congr 1
      refine List.ext_getElem? fun j => ?_
      rcases Nat.lt_or_ge j a.length with h | h
      · exact h2 j h
      · rw [List.getElem?_eq_none (by omega), List.getElem?_eq_none h]
    | succ m ih =>
      intro i k s hi hk h1 h2
      obtain ⟨n, rfl⟩ : ∃ n, k = n + 1 := ⟨k - 1, by omega⟩
      rw [hs n i s (by omega) h1]
      refine ih (i + 1) n _ (by omega) (by omega) (by simpa using h1) fun j hj => ?_
      rcases Nat.eq_or_lt_of_le (Nat.le_of_lt_succ hj) with rfl | h
      · rw [List.getElem?_set_self (by omega), List.getElem?_eq_getElem (by omega)]
      · rw [List.getElem?_set_ne (by omega)]; exact h2 j h
  have := key a.length 0 k s (by omega) hk h0 (by omega)
  simpa using this
theorem loop_eq {α : Type} [DecidableEq α] {l : Nat → Int → Option (Unit ⊕ Bool)} {a b : List α} (hl : a.length = b.length)
    (hs : ∀ n (i : Nat) (hi : i < a.length), l (n + 1) (i : Int) = if a[i] = b[i] then l n ((i + 1 : Nat) : Int) else some (.inr false))
    (he : ∀ n, l (n + 1) (a.length : Int) = some (.inl ())) {k : Nat} (hk : a.length < k) : l k 0 = some (if a = b then .inl () else .inr false) := by
  rw [loop_all (l := l) (N := a.length) (fun i => decide (a[i]? = b[i]?)) (z := false) (fun n i hi => by
    rw [hs n i hi, List.getElem?_eq_getElem hi, List.getElem?_eq_getElem (by omega)]
    simp) he hk]
  congr 1
  have : (∀ i, i < a.length → decide (a[i]? = b[i]?) = true) ↔ a = b := by
    constructor
    · intro h
      refine List.ext_getElem? fun i => ?_
      rcases Nat.lt_or_ge i a.length with h1 | h1
      · simpa using h i h1
      · rw [List.getElem?_eq_none h1, List.getElem?_eq_none (by omega)]
    · rintro rfl i _; simp
  by_cases h : a = b
  · rw [if_pos h, if_pos (this.2 h)]
  · rw [if_neg h, if_neg (fun H => h (this.1 H))]
theorem w64_1 : w64 1 = 1 := rfl
theorem w64_2 : w64 2 = 2 := rfl
theorem w64_3 : w64 3 = 3 := rfl
theorem rdl3_0 {α : Type} {x y z : α} : rdl [x, y, z] 0 = some x := rfl
theorem rdl3_1 {α : Type} {x y z : α} : rdl [x, y, z] 1 = some y := rfl
theorem rdl3_2 {α : Type} {x y z : α} : rdl [x, y, z] 2 = some z := rfl
end Go.Ga
namespace Go.Proofs
open Go Go.Ga Go.Ga.Wf
set_option linter.unusedVariables false
set_option linter.unusedSimpArgs false
section
variable {k : Nat}
theorem big_split (hk : Big ≤ k) : ∃ n, k = n + 5 := ⟨k - 5, by unfold Big at hk; omega⟩
theorem maxLen_eq : maxLen = 9223372036854775807 := by decide
theorem szIntS_eq (l : List Int) (m : Int) (h0 : 0 ≤ m) (hm : m ≤ 1048576) (hl : l.length ≤ maxLen) : laws_szIntS.f k l m = some (szo m l.length) := by
  unfold laws_szIntS.f szo
  rw [maxLen_eq] at hl
  rw [w64_id (by omega) (by omega)]
  by_cases h : (l.length : Int) ≤ m
  · rw [if_neg (by simp; omega), if_pos h]
  · rw [if_pos (by simp; omega), if_neg h]
theorem szIntA3S_eq (l : List (Int × Int × Int)) (m : Int) (h0 : 0 ≤ m) (hm : m ≤ 1048576) (hl : l.length ≤ maxLen) : laws_szIntA3S.f k l m = some (szo m l.length) := by
  unfold laws_szIntA3S.f szo
  rw [maxLen_eq] at hl
  rw [w64_id (by omega) (by omega)]
  by_cases h : (l.length : Int) ≤ m
  · rw [if_neg (by simp; omega), if_pos h]
  · rw [if_pos (by simp; omega), if_neg h]
theorem szo_add (m : Int) (a b : Nat) : (if decide (szo m a < 0) = true then some (-1) else (some (szo (szo m a) b)).bind fun t => if decide (t < 0) = true then some (-1) else some t) = some (szo m (a + b)) := by
  unfold szo
  by_cases h : (a : Int) ≤ m
  · have h1 : ¬ (m - (a : Int) < 0) := by omega
    by_cases h2 : (b : Int) ≤ m - a
    · have h3 : ¬ (m - (a : Int) - b < 0) := by omega
      have h4 : ((a + b : Nat) : Int) ≤ m := by omega
      simp only [h, h1, h2, h3, h4, if_true, decide_false, Bool.false_eq_true, if_false, Option.bind_some]; congr 1; omega
    · have h4 : ¬ ((a + b : Nat) : Int) ≤ m := by omega
      simp only [h, h1, h2, h4, if_true, decide_false, Bool.false_eq_true, if_false, Option.bind_some]; simp
  · have h4 : ¬ ((a + b : Nat) : Int) ≤ m := by omega
    simp only [h, h4, if_false]; simp
theorem szo_range {m : Int} {n : Nat} (h0 : 0 ≤ m) (hm : m ≤ 1048576) : -1 ≤ szo m n ∧ szo m n ≤ 1048576 := by unfold szo; split <;> omega
theorem szMaze_eq (n : Int) (d : List (Int × Int × Int)) (ks : List Int) (m : Int) (h0 : 0 ≤ m) (hm : m ≤ 1048576) (hd : d.length ≤ maxLen) (hl : ks.length ≤ maxLen) :
    laws_szMaze.f k n d ks m = some (szo m (d.length + ks.length)) := by
  unfold laws_szMaze.f
  rw [szIntA3S_eq d m h0 hm hd, Option.bind_some, ← szo_add]
  by_cases h : szo m d.length < 0
  · simp [h]
  · rw [szIntS_eq ks _ (by omega) (szo_range h0 hm).2 hl]
theorem toIntS_eq (hk : Big ≤ k) (l : List Int) (hl : l.length ≤ 1048576) : laws_toIntS.f k l = some l := by
  unfold laws_toIntS.f
  rw [if_pos (by omega)]
  rw [loop_copy (l := laws_toIntS.l0 k l) (a := l) (fun n i s hi hs => by
    rw [laws_toIntS.l0]
    have h1 : ((i : Int) < (l.length : Int)) := by omega
    have hw : w64 ((i : Int) + 1) = ((i + 1 : Nat) : Int) := w64_id (by omega) (by omega)
    simp only [h1, decide_true, if_true, rdl_lt hi, rdl_lt (hs ▸ hi), Option.bind_some, hw, Int.toNat_natCast])
    (fun n s => by rw [laws_toIntS.l0]; simp) (by unfold Big at hk; omega) (by simp)]
  rfl
theorem toIntA3_eq (hk : Big ≤ k) (a b c : Int) : laws_toIntA3.f k a b c = some (a, b, c) := by
  obtain ⟨n, rfl⟩ := big_split hk
  unfold laws_toIntA3.f
  simp [laws_toIntA3.l0, w64_1, w64_2, w64_3, rdl3_0, rdl3_1, rdl3_2]
theorem toIntA3S_eq (hk : Big ≤ k) (l : List (Int × Int × Int)) (hl : l.length ≤ 1048576) : laws_toIntA3S.f k l = some l := by
  unfold laws_toIntA3S.f
  rw [if_pos (by omega)]
  rw [loop_copy (l := laws_toIntA3S.l0 k l) (a := l) (fun n i s hi hs => by
    rw [laws_toIntA3S.l0]
    have h1 : ((i : Int) < (l.length : Int)) := by omega
    have hw : w64 ((i : Int) + 1) = ((i + 1 : Nat) : Int) := w64_id (by omega) (by omega)
    simp only [h1, decide_true, if_true, rdl_lt hi, rdl_lt (hs ▸ hi), Option.bind_some, hw, Int.toNat_natCast, toIntA3_eq hk])
    (fun n s => by rw [laws_toIntA3S.l0]; simp) (by unfold Big at hk; omega) (by simp)]
  rfl
theorem toMaze_eq (hk : Big ≤ k) (n : Int) (d : List (Int × Int × Int)) (ks : List Int) (hd : d.length ≤ 1048576) (hl : ks.length ≤ 1048576) : laws_toMaze.f k n d ks = some (n, d, ks) := by
  unfold laws_toMaze.f
  rw [toIntA3S_eq hk d hd, Option.bind_some, toIntS_eq hk ks hl, Option.bind_some]
theorem eqIntS_eq (hk : Big ≤ k) (a b : List Int) (hl : a.length ≤ 1048576) : laws_eqIntS.f k a b = some (decide (a = b)) := by
  unfold laws_eqIntS.f
  by_cases h : a.length = b.length
  · rw [if_neg (by simp; omega), loop_eq (l := laws_eqIntS.l0 k a b) h (fun n i hi => by
      rw [laws_eqIntS.l0]
      have h1 : ((i : Int) < (a.length : Int)) := by omega
      have hw : w64 ((i : Int) + 1) = ((i + 1 : Nat) : Int) := w64_id (by omega) (by omega)
      simp only [h1, decide_true, if_true, rdl_lt hi, rdl_lt (h ▸ hi), Option.bind_some, hw]
      by_cases h2 : a[i] = b[i] <;> simp [h2]) (fun n => by rw [laws_eqIntS.l0]; simp) (by unfold Big at hk; omega), Option.bind_some, Lr_ite]
    by_cases h2 : a = b <;> simp [h2]
  · rw [if_pos (by simp; omega)]
    have : a ≠ b := fun e => h (by rw [e])
    simp [this]
theorem eqIntA3_eq (hk : Big ≤ k) (a b c a' b' c' : Int) : laws_eqIntA3.f k a b c a' b' c' = some (decide ((a, b, c) = (a', b', c'))) := by
  obtain ⟨n, rfl⟩ := big_split hk
  unfold laws_eqIntA3.f
  by_cases h1 : a = a' <;> by_cases h2 : b = b' <;> by_cases h3 : c = c' <;>
    simp [laws_eqIntA3.l0, w64_1, w64_2, w64_3, rdl3_0, rdl3_1, rdl3_2, h1, h2, h3, Lr]
theorem eqIntA3S_eq (hk : Big ≤ k) (a b : List (Int × Int × Int)) (hl : a.length ≤ 1048576) : laws_eqIntA3S.f k a b = some (decide (a = b)) := by
  unfold laws_eqIntA3S.f
  by_cases h : a.length = b.length
  · rw [if_neg (by simp; omega), loop_eq (l := laws_eqIntA3S.l0 k a b) h (fun n i hi => by
      rw [laws_eqIntA3S.l0]
      have h1 : ((i : Int) < (a.length : Int)) := by omega
      have hw : w64 ((i : Int) + 1) = ((i + 1 : Nat) : Int) := w64_id (by omega) (by omega)
      simp only [h1, decide_true, if_true, rdl_lt hi, rdl_lt (h ▸ hi), Option.bind_some, hw, eqIntA3_eq hk]
      by_cases h2 : a[i] = b[i] <;> simp [h2]) (fun n => by rw [laws_eqIntA3S.l0]; simp) (by unfold Big at hk; omega), Option.bind_some, Lr_ite]
    by_cases h2 : a = b <;> simp [h2]
  · rw [if_pos (by simp; omega)]
    have : a ≠ b := fun e => h (by rw [e])
    simp [this]
theorem eqMaze_eq (hk : Big ≤ k) (n n' : Int) (d d' : List (Int × Int × Int)) (ks ks' : List Int) (hd : d.length ≤ 1048576) (hl : ks.length ≤ 1048576) :
    laws_eqMaze.f k n d ks n' d' ks' = some (decide ((n, d, ks) = (n', d', ks'))) := by
  unfold laws_eqMaze.f
  rw [eqIntA3S_eq hk d d' hd, eqIntS_eq hk ks ks' hl]
  by_cases h1 : n = n' <;> by_cases h2 : d = d' <;> by_cases h3 : ks = ks' <;> simp [h1, h2, h3]
end
end Go.Proofs

/- Plain laws: C -/
namespace Go.Proofs
open Go Go.Ga Go.Ga.Wf
set_option linter.unusedVariables false
set_option linter.unusedSimpArgs false
abbrev Door := Int × Int × Int
def DoorOk (n : Int) (x : Door) : Prop := 0 ≤ x.1 ∧ x.1 < x.2.1 ∧ x.2.1 < n ∧ 0 ≤ x.2.2 ∧ x.2.2 ≤ 63
def DoorLt (a b : Door) : Prop := a.1 < b.1 ∨ (a.1 = b.1 ∧ (a.2.1 < b.2.1 ∨ (a.2.1 = b.2.1 ∧ a.2.2 < b.2.2)))
instance (n : Int) (x : Door) : Decidable (DoorOk n x) := by unfold DoorOk; infer_instance
instance (a b : Door) : Decidable (DoorLt a b) := by unfold DoorLt; infer_instance
def doorB (n : Int) (d : List Door) (i : Nat) : Bool := if h : i < d.length then decide (DoorOk n d[i]) && (decide (i = 0) || decide (DoorLt d[i - 1] d[i])) else true
def setB (ks : List Int) (i : Nat) : Bool := if h : i < ks.length then decide (0 ≤ ks[i] ∧ ks[i] ≤ 63) else true
def IsMaze (n : Int) (d : List Door) (ks : List Int) : Prop :=
  1 ≤ n ∧ n ≤ 12 ∧ d.length ≤ 30 ∧ (ks.length : Int) = n ∧ (∀ i, i < d.length → doorB n d i = true) ∧ ∀ i, i < ks.length → setB ks i = true
instance (n : Int) (d : List Door) (ks : List Int) : Decidable (IsMaze n d ks) := by unfold IsMaze; infer_instance
section
variable {k : Nat}
def cmpI (x y : Int) : Int := if x < y then -1 else if x > y then 1 else 0
theorem compare_eq (x y : Int) : cmp_Compare_int.f k x y = some (cmpI x y) := by
  unfold cmp_Compare_int.f cmp_isNaN_int.f cmpI
  simp only [bne_self_eq_false, Option.bind_some, Bool.false_eq_true, if_false, decide_eq_true_eq]
  repeat' split
  all_goals rfl
theorem or3_eq (hk : Big ≤ k) (x y z : Int) : cmp_Or_int.f k [x, y, z] = some (if x ≠ 0 then x else if y ≠ 0 then y else z) := by
  obtain ⟨n, rfl⟩ := big_split hk
  unfold cmp_Or_int.f
  by_cases h1 : x = 0 <;> by_cases h2 : y = 0 <;> by_cases h3 : z = 0 <;>
    simp [cmp_Or_int.l0, w64_1, w64_2, w64_3, rdl3_0, rdl3_1, rdl3_2, h1, h2, h3, Lr]
theorem compareDoors_eq (hk : Big ≤ k) (x y : Door) : ∃ c, impl_compareDoors.f k x.1 x.2.1 x.2.2 y.1 y.2.1 y.2.2 = some c ∧ (c ≥ 0 ↔ ¬ DoorLt x y) ∧ (c = 0 ↔ x = y) := by
  unfold impl_compareDoors.f
  refine ⟨_, by simp only [compare_eq, Option.bind_some, or3_eq hk]; rfl, ?_, ?_⟩
  · unfold DoorLt cmpI
    repeat' split
    all_goals omega
  · obtain ⟨a, b, c⟩ := x; obtain ⟨a', b', c'⟩ := y
    simp only [Prod.mk.injEq]
    unfold cmpI
    repeat' split
    all_goals omega
theorem before_eq (hk : Big ≤ k) (x y : Door) : spec_l2Before.f k x.1 x.2.1 x.2.2 y.1 y.2.1 y.2.2 = some (decide (DoorLt x y)) := by
  obtain ⟨n, rfl⟩ := big_split hk
  obtain ⟨a, b, c⟩ := x; obtain ⟨a', b', c'⟩ := y
  unfold spec_l2Before.f DoorLt
  by_cases h1 : a = a' <;> by_cases h2 : b = b' <;> by_cases h3 : c = c' <;>
    simp [spec_l2Before.l0, w64_1, w64_2, w64_3, rdl3_0, rdl3_1, rdl3_2, h1, h2, h3, Lr]
theorem isSet_eq (x : Int) : impl_isSet.f k x = some (decide (0 ≤ x ∧ x ≤ 63)) := by unfold impl_isSet.f; rw [within_eq]; rfl
theorem l2Set_eq (x : Int) : spec_l2Set.f k x = some (decide (0 ≤ x ∧ x ≤ 63)) := by unfold spec_l2Set.f; rw [in_eq]; rfl
theorem containsFunc_eq (hk : Big ≤ k) (l : List Int) (hl : l.length ≤ 1048576) (p : Int → Option Bool) (q : Int → Bool) (hp : ∀ x ∈ l, p x = some (q x)) :
    slices_ContainsFunc_int_int.f k l p = some (l.any q) := by
  unfold slices_ContainsFunc_int_int.f slices_IndexFunc_int_int.f
  have := loop_find (l := slices_IndexFunc_int_int.l0 k l p) (N := l.length) (fun i => if h : i < l.length then (if q l[i] = true then some (i : Int) else none) else none) (z := .inl ()) (fun n i hi => by
    rw [slices_IndexFunc_int_int.l0]
    have h1 : ((i : Int) < (l.length : Int)) := by omega
    have hw : w64 ((i : Int) + 1) = ((i + 1 : Nat) : Int) := w64_id (by omega) (by omega)
    simp only [h1, decide_true, if_true, rdl_lt hi, Option.bind_some, hw, hp _ (List.getElem_mem hi), hi, dite_true]
    cases q l[i] <;> simp) (fun n => by rw [slices_IndexFunc_int_int.l0]; simp) (k := k) (by unfold Big at hk; omega)
  rw [this, Option.bind_some]
  cases hf : (List.range l.length).findSome? (fun i => if h : i < l.length then (if q l[i] = true then some (i : Int) else none) else none) with
  | none =>
    simp only [Lr, Option.bind_some]
    rw [List.findSome?_eq_none_iff] at hf
    have : l.any q = false := by
      rw [List.any_eq_false]
      intro x hx
      obtain ⟨i, hi, rfl⟩ := List.getElem_of_mem hx
      have := hf i (List.mem_range.2 hi)
      simpa [hi] using this
    simp [this]
  | some r =>
    simp only [Lr, Option.bind_some]
    obtain ⟨i, hi, h⟩ := List.exists_of_findSome?_eq_some hf
    have hi' := List.mem_range.1 hi
    simp only [hi', dite_true] at h
    split at h
    · rename_i h1; cases h
      have : l.any q = true := List.any_eq_true.2 ⟨_, List.getElem_mem hi', h1⟩
      simp [this]
    · cases h
theorem IsMaze_eq (hk : Big ≤ k) (n : Int) (d : List Door) (ks : List Int) (hd : d.length ≤ 1048576) (hl : ks.length ≤ 1048576) : impl_IsMaze.f k n d ks = some (decide (IsMaze n d ks)) := by
  unfold impl_IsMaze.f
  have hloop := loop_all (l := impl_IsMaze.l0 k n d) (N := d.length) (doorB n d) (z := false) (fun m i hi => by
    rw [impl_IsMaze.l0]
    have h1 : ((i : Int) < (d.length : Int)) := by omega
    have hw : w64 ((i : Int) + 1) = ((i + 1 : Nat) : Int) := w64_id (by omega) (by omega)
    simp only [h1, decide_true, if_true, rdl_lt hi, Option.bind_some, hw, isSet_eq]
    unfold doorB DoorOk
    rw [dif_pos hi]
    by_cases c1 : d[i].1 < 0
    · simp [c1, show ¬ (0 ≤ d[i].1) by omega]
    by_cases c2 : d[i].1 ≥ d[i].2.1
    · simp [c1, c2, show ¬ (d[i].1 < d[i].2.1) by omega]
    by_cases c3 : d[i].2.1 ≥ n
    · simp [c1, c2, c3, show ¬ (d[i].2.1 < n) by omega]
    by_cases c4 : 0 ≤ d[i].2.2 ∧ d[i].2.2 ≤ 63
    · have c : (0 ≤ d[i].1 ∧ d[i].1 < d[i].2.1 ∧ d[i].2.1 < n ∧ 0 ≤ d[i].2.2 ∧ d[i].2.2 ≤ 63) := ⟨by omega, by omega, by omega, c4⟩
      rcases Nat.eq_zero_or_pos i with rfl | hp
      · simp [c1, c2, c3, c4, c]
      · have e1 : w64 ((i : Int) - 1) = ((i - 1 : Nat) : Int) := by rw [w64_id (by omega) (by omega)]; omega
        have hi1 : i - 1 < d.length := by omega
        obtain ⟨cc, hc1, hc2, _⟩ := compareDoors_eq hk d[i - 1] d[i]
        have hp' : (i : Int) > 0 := by omega
        have hne : ¬ i = 0 := by omega
        simp only [c1, c2, c3, c4, decide_false, Bool.false_eq_true, if_false, decide_true, Bool.not_true, hp', if_true, e1, rdl_lt hi1, Option.bind_some, hc1, c, hne, Bool.true_and, Bool.false_or, and_self]
        by_cases hlt : DoorLt d[i - 1] d[i]
        · have : ¬ cc ≥ 0 := fun h => hc2.1 h hlt
          simp [hlt, this]
        · have : cc ≥ 0 := hc2.2 hlt
          simp [hlt, this]
    · simp [c1, c2, c3, c4, show ¬ (0 ≤ d[i].1 ∧ d[i].1 < d[i].2.1 ∧ d[i].2.1 < n ∧ 0 ≤ d[i].2.2 ∧ d[i].2.2 ≤ 63) from fun h => c4 h.2.2.2])
    (fun m => by rw [impl_IsMaze.l0]; simp) (k := k) (by unfold Big at hk; omega)
  rw [hloop, containsFunc_eq hk ks hl _ (fun x => !decide (0 ≤ x ∧ x ≤ 63)) (fun x _ => by simp [impl_IsMaze_1.f, isSet_eq]), within_eq]
  have hset : (∀ i, i < ks.length → setB ks i = true) ↔ ks.any (fun x => !decide (0 ≤ x ∧ x ≤ 63)) = false := by
    rw [List.any_eq_false]
    constructor
    · intro H x hx
      obtain ⟨i, hi, rfl⟩ := List.getElem_of_mem hx
      have := H i hi; simpa [setB, hi] using this
    · intro H i hi
      have := H _ (List.getElem_mem hi); simpa [setB, hi] using this
  simp only [Option.bind_some, Lr_ite]
  by_cases c1 : 1 ≤ n ∧ n ≤ 12
  rotate_left 1
  · have : ¬ IsMaze n d ks := fun h => c1 ⟨h.1, h.2.1⟩
    simp [c1, this]
  by_cases c2 : (d.length : Int) > 30
  · have : ¬ IsMaze n d ks := fun h => by have := h.2.2.1; omega
    simp [c1, c2, this]
  by_cases c3 : (ks.length : Int) = n
  rotate_left 1
  · have : ¬ IsMaze n d ks := fun h => c3 h.2.2.2.1
    simp [c1, c2, c3, this]
  by_cases c4 : ∀ i, i < d.length → doorB n d i = true
  rotate_left 1
  · have : ¬ IsMaze n d ks := fun h => c4 h.2.2.2.2.1
    simp only [c1, c2, c3, c4, this, decide_true, Bool.not_true, Bool.false_eq_true, if_false, decide_false, bne_self_eq_false, Option.bind_some, and_self]
  cases c5 : ks.any (fun x => !decide (0 ≤ x ∧ x ≤ 63)) with
  | true =>
    have : ¬ IsMaze n d ks := fun h => by have := hset.1 h.2.2.2.2.2; rw [c5] at this; cases this
    simp only [c1, c2, c3, c4, this, decide_true, Bool.not_true, Bool.false_eq_true, if_false, decide_false, bne_self_eq_false, Option.bind_some, and_self, if_true]
    simp
  | false =>
    have : IsMaze n d ks := ⟨c1.1, c1.2, by omega, c3, c4, hset.2 c5⟩
    simp only [c1, c2, c3, c4, this, decide_true, Bool.not_true, Bool.false_eq_true, if_false, decide_false, bne_self_eq_false, Option.bind_some, and_self, if_true]
    simp; exact c4
theorem l2Maze_eq (hk : Big ≤ k) (n : Int) (d : List Door) (ks : List Int) (hd : d.length ≤ 1048576) (hl : ks.length ≤ 1048576) : spec_l2Maze.f k n d ks = some (decide (IsMaze n d ks)) := by
  unfold spec_l2Maze.f
  rw [in_eq]
  by_cases c1 : 1 ≤ n ∧ n ≤ 12
  rotate_left 1
  · have : ¬ IsMaze n d ks := fun h => c1 ⟨h.1, h.2.1⟩
    simp [c1, this]
  by_cases c2 : (d.length : Int) > 30
  · have : ¬ IsMaze n d ks := fun h => by have := h.2.2.1; omega
    simp [c1, c2, this]
  by_cases c3 : (ks.length : Int) = n
  rotate_left 1
  · have : ¬ IsMaze n d ks := fun h => c3 h.2.2.2.1
    simp [c1, c2, c3, this]
  have e0 : w64 (n - 1) = n - 1 := w64_id (by omega) (by omega)
  have hloop := loop_all (l := spec_l2Maze.l0 k n d) (N := d.length) (doorB n d) (z := false) (fun m i hi => by
    rw [spec_l2Maze.l0]
    have h1 : ((i : Int) < (d.length : Int)) := by omega
    have hw : w64 ((i : Int) + 1) = ((i + 1 : Nat) : Int) := w64_id (by omega) (by omega)
    simp only [h1, decide_true, if_true, rdl_lt hi, Option.bind_some, hw, l2Set_eq, in_eq, e0]
    unfold doorB DoorOk
    rw [dif_pos hi]
    by_cases b1 : 0 ≤ d[i].1 ∧ d[i].1 ≤ n - 1
    rotate_left 1
    · have nn : ¬ (0 ≤ d[i].1 ∧ d[i].1 < d[i].2.1 ∧ d[i].2.1 < n ∧ 0 ≤ d[i].2.2 ∧ d[i].2.2 ≤ 63) := fun h => b1 ⟨h.1, by omega⟩
      rw [decide_eq_false nn]
      simp only [b1, decide_true, decide_false, Bool.not_true, Bool.not_false, Bool.false_eq_true, if_false, if_true, Bool.false_and, and_self, Option.bind_some]
    have e1 : w64 (d[i].1 + 1) = d[i].1 + 1 := w64_id (by omega) (by omega)
    rw [e1]
    by_cases b2 : d[i].1 + 1 ≤ d[i].2.1 ∧ d[i].2.1 ≤ n - 1
    rotate_left 1
    · have nn : ¬ (0 ≤ d[i].1 ∧ d[i].1 < d[i].2.1 ∧ d[i].2.1 < n ∧ 0 ≤ d[i].2.2 ∧ d[i].2.2 ≤ 63) := fun h => b2 ⟨by omega, by omega⟩
      rw [decide_eq_false nn]
      simp only [b1, b2, decide_true, decide_false, Bool.not_true, Bool.not_false, Bool.false_eq_true, if_false, if_true, Bool.false_and, and_self, Option.bind_some]
    by_cases b3 : 0 ≤ d[i].2.2 ∧ d[i].2.2 ≤ 63
    rotate_left 1
    · have nn : ¬ (0 ≤ d[i].1 ∧ d[i].1 < d[i].2.1 ∧ d[i].2.1 < n ∧ 0 ≤ d[i].2.2 ∧ d[i].2.2 ≤ 63) := fun h => b3 h.2.2.2
      rw [decide_eq_false nn]
      simp only [b1, b2, b3, decide_true, decide_false, Bool.not_true, Bool.not_false, Bool.false_eq_true, if_false, if_true, Bool.false_and, and_self, Option.bind_some]
    have c : (0 ≤ d[i].1 ∧ d[i].1 < d[i].2.1 ∧ d[i].2.1 < n ∧ 0 ≤ d[i].2.2 ∧ d[i].2.2 ≤ 63) := ⟨by omega, by omega, by omega, b3⟩
    rcases Nat.eq_zero_or_pos i with rfl | hp
    · simp [b1, b2, b3, c]
    · have e2 : w64 ((i : Int) - 1) = ((i - 1 : Nat) : Int) := by rw [w64_id (by omega) (by omega)]; omega
      have hi1 : i - 1 < d.length := by omega
      have hp' : (i : Int) > 0 := by omega
      have hne : ¬ i = 0 := by omega
      simp only [b1, b2, b3, decide_false, Bool.false_eq_true, if_false, decide_true, Bool.not_true, hp', if_true, e2, rdl_lt hi1, Option.bind_some, before_eq hk, c, hne, Bool.true_and, Bool.false_or, and_self]
      by_cases hlt : DoorLt d[i - 1] d[i] <;> simp [hlt])
    (fun m => by rw [spec_l2Maze.l0]; simp) (k := k) (by unfold Big at hk; omega)
  have hn : (ks.length : Int) = n := c3
  have hloop2 := loop_all (l := spec_l2Maze.l1 k n ks) (N := ks.length) (setB ks) (z := false) (fun m i hi => by
    rw [spec_l2Maze.l1]
    have h1 : ((i : Int) < n) := by omega
    have hw : w64 ((i : Int) + 1) = ((i + 1 : Nat) : Int) := w64_id (by omega) (by omega)
    simp only [h1, decide_true, if_true, rdl_lt hi, Option.bind_some, hw, l2Set_eq, setB, hi, dite_true]
    by_cases hs : 0 ≤ ks[i] ∧ ks[i] ≤ 63 <;> simp [hs])
    (fun m => by rw [spec_l2Maze.l1]; simp [hn]) (k := k) (by unfold Big at hk; omega)
  rw [hloop, hloop2]
  simp only [Option.bind_some, Lr_ite]
  by_cases c4 : ∀ i, i < d.length → doorB n d i = true
  rotate_left 1
  · have : ¬ IsMaze n d ks := fun h => c4 h.2.2.2.2.1
    simp only [c1, c2, c3, c4, this, decide_true, Bool.not_true, Bool.false_eq_true, if_false, decide_false, bne_self_eq_false, Option.bind_some, and_self]
  by_cases c5 : ∀ i, i < ks.length → setB ks i = true
  · have : IsMaze n d ks := ⟨c1.1, c1.2, by omega, c3, c4, c5⟩
    simp only [c1, c2, c3, this, decide_true, Bool.not_true, Bool.false_eq_true, if_false, decide_false, bne_self_eq_false, Option.bind_some, and_self, if_true]
    rw [if_pos c4, if_pos c5]
  · have : ¬ IsMaze n d ks := fun h => c5 h.2.2.2.2.2
    simp only [c1, c2, c3, this, decide_true, Bool.not_true, Bool.false_eq_true, if_false, decide_false, bne_self_eq_false, Option.bind_some, and_self, if_true]
    rw [if_pos c4, if_neg c5]
end
end Go.Proofs

/- Plain laws: D -/
namespace Go.Proofs
open Go Go.Ga Go.Ga.Wf
set_option linter.unusedVariables false
set_option linter.unusedSimpArgs false
section
variable {k : Nat}
def risingB (lo hi : Int) (l : List Int) (i : Nat) : Bool := if h : i < l.length then decide (lo ≤ l[i] ∧ l[i] ≤ hi) && (decide (i = 0) || decide (l[i - 1] < l[i])) else true
def IsTrapP (n : Int) (d : List Door) (ks tr : List Int) : Prop := IsMaze n d ks ∧ ∀ i, i < tr.length → risingB 0 ((d.length : Int) - 1) tr i = true
instance (n : Int) (d : List Door) (ks tr : List Int) : Decidable (IsTrapP n d ks tr) := by unfold IsTrapP; infer_instance
end
end Go.Proofs

/- Plain laws: E -/
namespace Go.Proofs
open Go Go.Ga Go.Ga.Wf
set_option linter.unusedVariables false
set_option linter.unusedSimpArgs false
section
variable {k : Nat}
/-- a door with its ends and its colours in bounds, for some node count of at most twelve -/
def Small (x : Door) : Prop := 0 ≤ x.1 ∧ x.1 < 12 ∧ 0 ≤ x.2.1 ∧ x.2.1 < 12 ∧ 0 ≤ x.2.2 ∧ x.2.2 ≤ 63
theorem IsMaze.small {n : Int} {d : List Door} {ks : List Int} (h : IsMaze n d ks) : ∀ x ∈ d, Small x := by
  intro x hx
  obtain ⟨i, hi, rfl⟩ := List.getElem_of_mem hx
  have h1 := h.2.2.2.2.1 i hi
  unfold doorB at h1
  rw [dif_pos hi, Bool.and_eq_true, decide_eq_true_eq] at h1
  have := h1.1; unfold DoorOk at this; unfold Small
  have := h.2.1
  omega
theorem IsMaze.keys {n : Int} {d : List Door} {ks : List Int} (h : IsMaze n d ks) : ∀ x ∈ ks, 0 ≤ x ∧ x ≤ 63 := by
  intro x hx
  obtain ⟨i, hi, rfl⟩ := List.getElem_of_mem hx
  have h1 := h.2.2.2.2.2 i hi
  simpa [setB, hi] using h1
/-- the door stands open to one who has h and leads from a to b -/
def goes (a b h : Int) (x : Door) : Bool := ((decide (x.1 = a) && decide (x.2.1 = b)) || (decide (x.2.1 = a) && decide (x.1 = b))) && subB x.2.2.toNat h.toNat
theorem has_eq (h c : Int) (hc : 0 ≤ c ∧ c ≤ 63) (hh : 0 ≤ h ∧ h ≤ 63) : impl_has.f k h c = some (subB c.toNat h.toNat) := by
  unfold impl_has.f
  obtain ⟨a, rfl⟩ := Int.eq_ofNat_of_zero_le hh.1
  obtain ⟨b, rfl⟩ := Int.eq_ofNat_of_zero_le hc.1
  rw [has_clr (by omega)]; rfl
theorem l2Has_eq (h c : Int) (hc : 0 ≤ c ∧ c ≤ 63) (hh : 0 ≤ h ∧ h ≤ 63) : spec_l2Has.f k h c = some (subB c.toNat h.toNat) := by
  unfold spec_l2Has.f
  obtain ⟨a, rfl⟩ := Int.eq_ofNat_of_zero_le hh.1
  obtain ⟨b, rfl⟩ := Int.eq_ofNat_of_zero_le hc.1
  rw [has_and (by omega) (by omega)]; rfl
theorem joins_eq (x : Door) (a b : Int) : spec_l2Joins.f k x.1 x.2.1 x.2.2 a b = some ((decide (x.1 = a) && decide (x.2.1 = b)) || (decide (x.2.1 = a) && decide (x.1 = b))) := by
  unfold spec_l2Joins.f
  by_cases h1 : x.1 = a <;> by_cases h2 : x.2.1 = b <;> by_cases h3 : x.1 = b <;> by_cases h4 : x.2.1 = a <;> simp_all
theorem l2Open_eq (hk : Big ≤ k) (n : Int) (d : List Door) (ks : List Int) (a b h : Int) (hd : d.length ≤ 1048576) (hs : ∀ x ∈ d, Small x) (hh : 0 ≤ h ∧ h ≤ 63) : spec_l2Open.f k n d ks a b h = some (d.any (goes a b h)) := by
  unfold spec_l2Open.f
  rw [loop_all (l := spec_l2Open.l0 k d a b h) (N := d.length) (fun i => if hi : i < d.length then !goes a b h d[i] else true) (z := true) (fun m i hi => by
    rw [spec_l2Open.l0]
    have h1 : ((i : Int) < (d.length : Int)) := by omega
    have hw : w64 ((i : Int) + 1) = ((i + 1 : Nat) : Int) := w64_id (by omega) (by omega)
    have sm := hs _ (List.getElem_mem hi)
    unfold Small at sm
    simp only [h1, decide_true, if_true, rdl_lt hi, Option.bind_some, hw, joins_eq, l2Has_eq h d[i].2.2 (by omega) hh, hi, dite_true]
    unfold goes
    cases ((decide (d[i].1 = a) && decide (d[i].2.1 = b)) || (decide (d[i].2.1 = a) && decide (d[i].1 = b))) <;> cases subB d[i].2.2.toNat h.toNat <;> rfl)
    (fun m => by rw [spec_l2Open.l0]; simp) (by unfold Big at hk; omega), Option.bind_some, Lr_ite]
  cases hc : d.any (goes a b h) with
  | true =>
    rw [if_neg]
    intro H
    obtain ⟨x, hx, hg⟩ := List.any_eq_true.1 hc
    obtain ⟨i, hi, rfl⟩ := List.getElem_of_mem hx
    have := H i hi
    simp [hi, hg] at this
  | false =>
    rw [if_pos]
    intro i hi
    have := List.any_eq_false.1 hc _ (List.getElem_mem hi)
    simp [hi, this]
theorem steps_eq (hk : Big ≤ k) (n : Int) (d : List Door) (ks : List Int) (a h : Int) (hd : d.length ≤ 1048576) (hs : ∀ x ∈ d, Small x) (hh : 0 ≤ h ∧ h ≤ 63) :
    ∃ m : Nat, impl_steps.f k n d ks a h = some (m : Int) ∧ m < 4096 ∧ ∀ t : Nat, m.testBit t = d.any (goes a (t : Int) h) := by
  unfold impl_steps.f
  let g : Nat → Int → Int := fun i s => if hi : i < d.length then
    (let s1 := if subB d[i].2.2.toNat h.toNat = true ∧ d[i].1 = a then bor s (shl 1 d[i].2.1) else s
     if subB d[i].2.2.toNat h.toNat = true ∧ d[i].2.1 = a then bor s1 (shl 1 d[i].1) else s1) else s
  have := loop_state (l := fun n s i => impl_steps.l0 k d a h n s i) (N := d.length) (g := g) (out := some) (fun i s => ∃ m : Nat, s = (m : Int) ∧ m < 4096 ∧ ∀ t : Nat, m.testBit t = (d.take i).any (goes a (t : Int) h)) (fun m i s hi hI => by
    obtain ⟨q, rfl, hq, hb⟩ := hI
    have sm := hs _ (List.getElem_mem hi)
    unfold Small at sm
    obtain ⟨u, hu⟩ := Int.eq_ofNat_of_zero_le sm.1
    obtain ⟨v, hv⟩ := Int.eq_ofNat_of_zero_le sm.2.2.1
    have hu12 : u < 12 := by omega
    have hv12 : v < 12 := by omega
    have hpu : 2 ^ u < 4096 := Nat.pow_lt_pow_right (a := 2) (by omega) hu12
    have hpv : 2 ^ v < 4096 := Nat.pow_lt_pow_right (a := 2) (by omega) hv12
    have e1 : ∀ z : Nat, z < 4096 → bor (z : Int) (shl 1 d[i].2.1) = ((z ||| 2 ^ v : Nat) : Int) := fun z hz => by
      rw [hv]; show bor (z : Int) (shl 1 ((v : Nat) : Int)) = _
      rw [shl_one (by omega), bor_nat (by omega) (by omega)]
    have e2 : ∀ z : Nat, z < 4096 → bor (z : Int) (shl 1 d[i].1) = ((z ||| 2 ^ u : Nat) : Int) := fun z hz => by
      rw [hu]; show bor (z : Int) (shl 1 ((u : Nat) : Int)) = _
      rw [shl_one (by omega), bor_nat (by omega) (by omega)]
    have hor : ∀ z y : Nat, z < 4096 → y < 4096 → z ||| y < 4096 := fun z y hz hy => Nat.or_lt_two_pow (n := 12) hz hy
    have htake : d.take (i + 1) = d.take i ++ [d[i]] := by rw [List.take_add_one, List.getElem?_eq_getElem hi]; rfl
    refine ⟨?_, ?_⟩
    · rw [impl_steps.l0]
      have h1 : ((i : Int) < (d.length : Int)) := by omega
      have hw : w64 ((i : Int) + 1) = ((i + 1 : Nat) : Int) := w64_id (by omega) (by omega)
      have n1 : ¬ d[i].1 < 0 := by omega
      have n2 : ¬ d[i].2.1 < 0 := by omega
      simp only [h1, decide_true, if_true, rdl_lt hi, Option.bind_some, hw, has_eq h d[i].2.2 (by omega) hh, n1, n2, not_false_eq_true, if_true, g, hi, dite_true]
      cases subB d[i].2.2.toNat h.toNat
      · simp
      · by_cases c1 : d[i].1 = a <;> by_cases c2 : d[i].2.1 = a <;> simp [c1, c2]
    · simp only [g, hi, dite_true]
      have hd2 : ∀ t : Nat, decide (d[i].2.1 = (t : Int)) = decide (v = t) := fun t => decide_eq_decide.2 (by omega)
      have hd1 : ∀ t : Nat, decide (d[i].1 = (t : Int)) = decide (u = t) := fun t => decide_eq_decide.2 (by omega)
      have hlast : ∀ t : Nat, (d.take (i + 1)).any (goes a (t : Int) h) = (q.testBit t || (((decide (d[i].1 = a) && decide (v = t)) || (decide (d[i].2.1 = a) && decide (u = t))) && subB d[i].2.2.toNat h.toNat)) := fun t => by
        rw [htake, List.any_append, hb t]
        simp only [List.any_cons, List.any_nil, Bool.or_false, goes, hd1, hd2]
      cases hsb : subB d[i].2.2.toNat h.toNat with
      | false => exact ⟨q, by simp, hq, fun t => by rw [hlast t, hsb]; simp⟩
      | true =>
        by_cases c1 : d[i].1 = a <;> by_cases c2 : d[i].2.1 = a
        · exact ⟨q ||| 2 ^ v ||| 2 ^ u, by rw [if_pos ⟨rfl, c2⟩, if_pos ⟨rfl, c1⟩, e1 q hq, e2 _ (hor _ _ hq hpv)], hor _ _ (hor _ _ hq hpv) hpu, fun t => by
            rw [hlast t, hsb]; simp [c1, c2, Nat.testBit_or, Nat.testBit_two_pow]; cases q.testBit t <;> simp⟩
        · exact ⟨q ||| 2 ^ v, by rw [if_neg (fun h => c2 h.2), if_pos ⟨rfl, c1⟩, e1 q hq], hor _ _ hq hpv, fun t => by
            rw [hlast t, hsb]; simp [c1, c2, Nat.testBit_or, Nat.testBit_two_pow]⟩
        · exact ⟨q ||| 2 ^ u, by rw [if_pos ⟨rfl, c2⟩, if_neg (fun h => c1 h.2), e2 q hq], hor _ _ hq hpu, fun t => by
            rw [hlast t, hsb]; simp [c1, c2, Nat.testBit_or, Nat.testBit_two_pow]⟩
        · exact ⟨q, by simp [c1, c2], hq, fun t => by rw [hlast t, hsb]; simp [c1, c2]⟩)
    (fun m s _ => by show impl_steps.l0 k d a h (m + 1) s (d.length : Int) = _; rw [impl_steps.l0]; simp) (k := k) (by unfold Big at hk; omega) (s := 0) ⟨0, rfl, by omega, by simp⟩
  obtain ⟨h1, m, h2, h3, h4⟩ := this
  refine ⟨m, ?_, h3, ?_⟩
  · rw [h1, h2]; rfl
  · intro t; rw [h4 t, List.take_length]
end
end Go.Proofs

/- Plain laws: F -/
namespace Go.Proofs
open Go Go.Ga Go.Ga.Wf
set_option linter.unusedVariables false
set_option linter.unusedSimpArgs false
section
variable {k : Nat}
theorem bor_63 {a b : Int} (ha : 0 ≤ a ∧ a ≤ 63) (hb : 0 ≤ b ∧ b ≤ 63) : 0 ≤ bor a b ∧ bor a b ≤ 63 := by
  obtain ⟨x, rfl⟩ := Int.eq_ofNat_of_zero_le ha.1
  obtain ⟨y, rfl⟩ := Int.eq_ofNat_of_zero_le hb.1
  have e : bor (Int.ofNat x) (Int.ofNat y) = ((x ||| y : Nat) : Int) := bor_nat (by omega) (by omega)
  have : x ||| y < 64 := Nat.or_lt_two_pow (n := 6) (by omega) (by omega)
  show 0 ≤ bor (Int.ofNat x) (Int.ofNat y) ∧ bor (Int.ofNat x) (Int.ofNat y) ≤ 63
  rw [e]; omega
/-- the walk's place i can't be gone to -/
def badT (n : Int) (d : List Door) (l : List Int) (i : Nat) (h : Int) : Bool :=
  if hi : i < l.length then !decide (0 ≤ l[i] ∧ l[i] ≤ n - 1) || (decide (i = 0) && decide (l[i] ≠ 0)) || (decide (0 < i) && !d.any (goes l[i - 1] l[i] h)) else true
def takeG (n : Int) (d : List Door) (ks l : List Int) (i : Nat) (s : List Int × Int) : (List Int × Int) ⊕ (List Int × Bool) :=
  if badT n d l i s.2 = true then .inr ([], false) else .inl (s.1 ++ [bor s.2 (ks.getD (l.getD i 0).toNat 0)], bor s.2 (ks.getD (l.getD i 0).toNat 0))
def takenP (n : Int) (d : List Door) (ks l : List Int) : List Int × Bool :=
  match itx (takeG n d ks l) l.length 0 ([], 0) with
  | .inl s => (s.1, decide (0 < l.length))
  | .inr _ => ([], false)
def TInv (i : Nat) (s : List Int × Int) : Prop := s.1.length = i ∧ 0 ≤ s.2 ∧ s.2 ≤ 63
theorem takeG_inv {n : Int} {d : List Door} {ks l : List Int} (hm : IsMaze n d ks) : ∀ i s s', i < l.length → TInv i s → takeG n d ks l i s = .inl s' → TInv (i + 1) s' := by
  intro i s s' hi hI h
  unfold takeG at h
  split at h
  · cases h
  · rename_i hb
    cases h
    unfold badT at hb
    rw [dif_pos hi] at hb
    simp only [Bool.or_eq_true, Bool.not_eq_true', decide_eq_false_iff_not, not_or, Decidable.not_not] at hb
    have hr := hb.1.1
    have hlen : l[i].toNat < ks.length := by have := hm.2.2.2.1; omega
    have hg : l.getD i 0 = l[i] := by simp [List.getD, List.getElem?_eq_getElem hi]
    have hk : ks.getD l[i].toNat 0 = ks[l[i].toNat] := by simp [List.getD, List.getElem?_eq_getElem hlen]
    have := bor_63 hI.2 (hm.keys _ (List.getElem_mem hlen))
    refine ⟨by simp [hI.1], ?_⟩
    show 0 ≤ bor s.2 (ks.getD (l.getD i 0).toNat 0) ∧ bor s.2 (ks.getD (l.getD i 0).toNat 0) ≤ 63
    rw [hg, hk]; exact this
theorem l2Taken_eq (hk : Big ≤ k) (n : Int) (d : List Door) (ks l : List Int) (hm : IsMaze n d ks) (hl : l.length ≤ 1048576) : spec_l2Taken.f k n d ks l = some (takenP n d ks l) := by
  unfold spec_l2Taken.f
  have hd : d.length ≤ 1048576 := by have := hm.2.2.1; omega
  have en : w64 (n - 1) = n - 1 := w64_id (by have := hm.1; omega) (by have := hm.2.1; omega)
  rw [loop_exit (l := fun m (s : List Int × Int) i => spec_l2Taken.l0 k n d ks l m s.1 s.2 i) (N := l.length) (g := takeG n d ks l) (out := fun s => some (.inl s.1)) TInv (fun m i s hi hI => by
    have h1 : ((i : Int) < (l.length : Int)) := by omega
    have hw : w64 ((i : Int) + 1) = ((i + 1 : Nat) : Int) := w64_id (by omega) (by omega)
    have hbad : ((rdl l (i : Int)).bind fun t18 => (spec_l1In.f k t18 0 (w64 (n - 1))).bind fun t23 => if (!t23) = true then some true else (if ((i : Int) == 0) = true then (rdl l 0).bind fun t30 => (if (t30 != 0) = true then some true else (if (decide ((i : Int) > 0)) = true then (rdl l (w64 ((i : Int) - 1))).bind fun t43 => (rdl l (i : Int)).bind fun t47 => (spec_l2Open.f k n d ks t43 t47 s.2).bind fun t50 => some (!t50) else some false)) else (if (decide ((i : Int) > 0)) = true then (rdl l (w64 ((i : Int) - 1))).bind fun t43 => (rdl l (i : Int)).bind fun t47 => (spec_l2Open.f k n d ks t43 t47 s.2).bind fun t50 => some (!t50) else some false)))
        = some (badT n d l i s.2) := by
      unfold badT
      simp only [rdl_lt hi, Option.bind_some, in_eq, en, dif_pos hi]
      by_cases c : 0 ≤ l[i] ∧ l[i] ≤ n - 1
      rotate_left 1
      · simp [c]
      rcases Nat.eq_zero_or_pos i with rfl | hp
      · have : rdl l 0 = some l[0] := rdl_lt hi
        have hn : decide (0 ≤ l[0] ∧ l[0] ≤ n - 1) = true := decide_eq_true c
        simp only [hn, this]
        have h1n := hm.1
        by_cases c0 : l[0] = 0 <;> simp [c0, h1n, show ¬ n < 1 by omega]
      · have e1 : w64 ((i : Int) - 1) = ((i - 1 : Nat) : Int) := by rw [w64_id (by omega) (by omega)]; omega
        have hi1 : i - 1 < l.length := by omega
        have hp' : (i : Int) > 0 := by omega
        have hz : ((i : Int) == 0) = false := by simp; omega
        have hne : ¬ i = 0 := by omega
        simp only [hz, Bool.false_eq_true, if_false, hp', decide_true, if_true, e1, rdl_lt hi1, rdl_lt hi, Option.bind_some, l2Open_eq hk n d ks _ _ _ hd hm.small ⟨hI.2.1, hI.2.2⟩, c, hne, decide_false, Bool.false_and, Bool.or_false, hp, Bool.true_and, Bool.not_true, Bool.false_or, and_self]
    show (∃ s', takeG n d ks l i s = .inl s' ∧ spec_l2Taken.l0 k n d ks l (m + 1) s.1 s.2 (i : Int) = spec_l2Taken.l0 k n d ks l m s'.1 s'.2 ((i + 1 : Nat) : Int) ∧ TInv (i + 1) s') ∨ (∃ r, takeG n d ks l i s = .inr r ∧ spec_l2Taken.l0 k n d ks l (m + 1) s.1 s.2 (i : Int) = some (.inr r))
    rw [spec_l2Taken.l0, if_pos (by simpa using h1), hbad, Option.bind_some]
    have hinv := takeG_inv (l := l) hm i s
    cases hb : badT n d l i s.2 with
    | true => right; exact ⟨_, by unfold takeG; rw [if_pos hb], by simp⟩
    | false =>
      left
      have hgo : takeG n d ks l i s = .inl (s.1 ++ [bor s.2 (ks.getD (l.getD i 0).toNat 0)], bor s.2 (ks.getD (l.getD i 0).toNat 0)) := by unfold takeG; rw [if_neg (by simp [hb])]
      refine ⟨_, hgo, ?_, hinv _ hi hI hgo⟩
      unfold badT at hb
      rw [dif_pos hi] at hb
      simp only [Bool.or_eq_false_iff, Bool.not_eq_false', decide_eq_true_eq] at hb
      have hr := hb.1.1
      have hlen : l[i].toNat < ks.length := by have := hm.2.2.2.1; omega
      have hg : l.getD i 0 = l[i] := by simp [List.getD, List.getElem?_eq_getElem hi]
      have hkk : ks.getD l[i].toNat 0 = ks[l[i].toNat] := by simp [List.getD, List.getElem?_eq_getElem hlen]
      have hrd : rdl ks l[i] = some ks[l[i].toNat] := by unfold rdl; rw [if_pos hr.1, List.getElem?_eq_getElem hlen]
      rw [if_neg (by simp), rdl_lt hi, Option.bind_some, hrd, Option.bind_some, if_pos (by have := hI.1; simp; omega), hw, hg, hkk])
    (fun m s _ => by show spec_l2Taken.l0 k n d ks l (m + 1) s.1 s.2 (l.length : Int) = _; rw [spec_l2Taken.l0]; simp) (k := k) (by unfold Big at hk; omega) (s := ([], 0)) ⟨rfl, by decide, by decide⟩]
  unfold takenP
  cases hx : itx (takeG n d ks l) l.length 0 ([], 0) with
  | inl s =>
    have := (itx_inv TInv (takeG_inv hm) ⟨rfl, by decide, by decide⟩ hx).1
    simp only [Option.bind_some, Lr, this]
    simp
  | inr r =>
    have hr : ∀ m i s, itx (takeG n d ks l) m i s = .inr r → r = ([], false) := by
      intro m
      induction m with
      | zero => intro i s h; cases h
      | succ m ih =>
        intro i s h
        unfold itx at h
        cases hg : takeG n d ks l i s with
        | inl s' => rw [hg] at h; exact ih _ _ h
        | inr r' =>
          rw [hg] at h; cases h
          unfold takeG at hg
          split at hg <;> cases hg
          rfl
    rw [hr _ _ _ hx]
    simp only [Option.bind_some, Lr]
theorem taken_eq (hk : Big ≤ k) (n : Int) (d : List Door) (ks l : List Int) (hm : IsMaze n d ks) (hl : l.length ≤ 1048576) : impl_taken.f k n d ks l = some (takenP n d ks l) := by
  unfold impl_taken.f
  have hd : d.length ≤ 1048576 := by have := hm.2.2.1; omega
  have en : w64 (n - 1) = n - 1 := w64_id (by have := hm.1; omega) (by have := hm.2.1; omega)
  rcases Nat.eq_zero_or_pos l.length with h0 | hpos
  · have : l = [] := List.length_eq_zero_iff.1 h0
    subst this
    simp [takenP, itx]
  have hl0 : rdl l 0 = some l[0] := rdl_lt hpos
  have hz : ((l.length : Int) == 0) = false := by rw [beq_eq_false_iff_ne]; omega
  simp only [hz, Bool.false_eq_true, if_false, hl0, Option.bind_some]
  by_cases c0 : l[0] = 0
  rotate_left 1
  · have : (l[0] != 0) = true := by simpa using c0
    rw [if_pos this]
    have hb : badT n d l 0 0 = true := by
      unfold badT; rw [dif_pos hpos]; simp [c0]
    unfold takenP
    obtain ⟨m, hm'⟩ : ∃ m, l.length = m + 1 := ⟨l.length - 1, by omega⟩
    rw [hm']
    unfold itx takeG
    rw [if_pos hb]
  have : ¬ ((l[0] != 0) = true) := by simp [c0]
  rw [if_neg this]
  rw [loop_exit (l := fun m (s : List Int × Int) i => impl_taken.l0 k n d ks l m s.1 s.2 i) (N := l.length) (g := takeG n d ks l) (out := fun s => some (.inl s.1)) TInv (fun m i s hi hI => by
    have h1 : ((i : Int) < (l.length : Int)) := by omega
    have hw : w64 ((i : Int) + 1) = ((i + 1 : Nat) : Int) := w64_id (by omega) (by omega)
    have hbad : ((impl_within.f k l[i] 0 (w64 (n - 1))).bind fun t31 => (if (!t31) = true then some true else (if (decide ((i : Int) > 0)) = true then (rdl l (w64 ((i : Int) - 1))).bind fun t41 => (impl_steps.f k n d ks t41 s.2).bind fun t44 => if ¬ l[i] < 0 then some ((band (shr t44 l[i]) 1) == 0) else none else some false))) = some (badT n d l i s.2) := by
      unfold badT
      simp only [within_eq, en, Option.bind_some, dif_pos hi]
      by_cases c : 0 ≤ l[i] ∧ l[i] ≤ n - 1
      rotate_left 1
      · simp [c]
      rcases Nat.eq_zero_or_pos i with rfl | hp
      · have h1n := hm.1
        simp [c0, h1n, show ¬ n < 1 by omega]
      · have e1 : w64 ((i : Int) - 1) = ((i - 1 : Nat) : Int) := by rw [w64_id (by omega) (by omega)]; omega
        have hi1 : i - 1 < l.length := by omega
        have hp' : (i : Int) > 0 := by omega
        have hne : ¬ i = 0 := by omega
        obtain ⟨q, hq1, hq2, hq3⟩ := steps_eq hk n d ks l[i - 1] s.2 hd hm.small ⟨hI.2.1, hI.2.2⟩
        obtain ⟨t, ht⟩ := Int.eq_ofNat_of_zero_le c.1
        have ht' : l[i] = (t : Int) := ht
        have hnn := hm.2.1
        have hb : (band (shr (q : Int) l[i]) 1 == 0) = !d.any (goes l[i - 1] l[i] s.2) := by
          rw [ht', bit_nat (by omega) (by omega), hq3]
        have hn : ¬ l[i] < 0 := by omega
        simp only [hp', decide_true, if_true, e1, rdl_lt hi1, Option.bind_some, hq1, c, hne, decide_false, Bool.false_and, Bool.or_false, hp, Bool.true_and, Bool.not_true, Bool.false_or, and_self, Bool.false_eq_true, if_false, hn, not_false_eq_true, hb]
    show (∃ s', takeG n d ks l i s = .inl s' ∧ impl_taken.l0 k n d ks l (m + 1) s.1 s.2 (i : Int) = impl_taken.l0 k n d ks l m s'.1 s'.2 ((i + 1 : Nat) : Int) ∧ TInv (i + 1) s') ∨ (∃ r, takeG n d ks l i s = .inr r ∧ impl_taken.l0 k n d ks l (m + 1) s.1 s.2 (i : Int) = some (.inr r))
    rw [impl_taken.l0, if_pos (by simpa using h1), rdl_lt hi, Option.bind_some, hbad, Option.bind_some]
    have hinv := takeG_inv (l := l) hm i s
    cases hb : badT n d l i s.2 with
    | true => right; exact ⟨_, by unfold takeG; rw [if_pos hb], by simp⟩
    | false =>
      left
      have hgo : takeG n d ks l i s = .inl (s.1 ++ [bor s.2 (ks.getD (l.getD i 0).toNat 0)], bor s.2 (ks.getD (l.getD i 0).toNat 0)) := by unfold takeG; rw [if_neg (by simp [hb])]
      refine ⟨_, hgo, ?_, hinv _ hi hI hgo⟩
      unfold badT at hb
      rw [dif_pos hi] at hb
      simp only [Bool.or_eq_false_iff, Bool.not_eq_false', decide_eq_true_eq] at hb
      have hr := hb.1.1
      have hlen : l[i].toNat < ks.length := by have := hm.2.2.2.1; omega
      have hg : l.getD i 0 = l[i] := by simp [List.getD, List.getElem?_eq_getElem hi]
      have hkk : ks.getD l[i].toNat 0 = ks[l[i].toNat] := by simp [List.getD, List.getElem?_eq_getElem hlen]
      have hrd : rdl ks l[i] = some ks[l[i].toNat] := by unfold rdl; rw [if_pos hr.1, List.getElem?_eq_getElem hlen]
      rw [if_neg (by simp), hrd, Option.bind_some, if_pos (by have := hI.1; simp; omega), hw, hg, hkk])
    (fun m s _ => by show impl_taken.l0 k n d ks l (m + 1) s.1 s.2 (l.length : Int) = _; rw [impl_taken.l0]; simp) (k := k) (by unfold Big at hk; omega) (s := ([], 0)) ⟨rfl, by decide, by decide⟩]
  unfold takenP
  cases hx : itx (takeG n d ks l) l.length 0 ([], 0) with
  | inl s => simp only [Option.bind_some, Lr]; simp [hpos]
  | inr r =>
    have hr : ∀ m i s, itx (takeG n d ks l) m i s = .inr r → r = ([], false) := by
      intro m
      induction m with
      | zero => intro i s h; cases h
      | succ m ih =>
        intro i s h
        unfold itx at h
        cases hg : takeG n d ks l i s with
        | inl s' => rw [hg] at h; exact ih _ _ h
        | inr r' =>
          rw [hg] at h; cases h
          unfold takeG at hg
          split at hg <;> cases hg
          rfl
    rw [hr _ _ _ hx]
    simp only [Option.bind_some, Lr]
theorem l12Good_eq (hk : Big ≤ k) (n : Int) (d : List Door) (ks l : List Int) (u : Int) (hd : d.length ≤ 1048576) (hks : ks.length ≤ 1048576) (hl : l.length ≤ 1048576) :
    spec_l12Good.f k n d ks l u = some (decide (IsMaze n d ks ∧ l.length ≤ 60 ∧ 0 ≤ u ∧ u ≤ 1000) && (takenP n d ks l).2) := by
  unfold spec_l12Good.f
  rw [l2Maze_eq hk n d ks hd hks]
  by_cases hm : IsMaze n d ks
  rotate_left 1
  · simp [hm]
  simp only [hm, decide_true, Bool.not_true, Bool.false_eq_true, if_false, Option.bind_some, in_eq, l2Taken_eq hk n d ks l hm hl, true_and]
  by_cases c1 : (l.length : Int) > 60
  · have : ¬ l.length ≤ 60 := by omega
    simp [c1, this]
  · have h1 : l.length ≤ 60 := by omega
    by_cases c2 : 0 ≤ u ∧ u ≤ 1000 <;> simp [c1, h1, c2]
theorem IsVisit_eq (hk : Big ≤ k) (n : Int) (d : List Door) (ks l : List Int) (u : Int) (hd : d.length ≤ 1048576) (hks : ks.length ≤ 1048576) (hl : l.length ≤ 1048576) :
    impl_IsVisit.f k n d ks l u = some (decide (IsMaze n d ks ∧ l.length ≤ 60 ∧ 0 ≤ u ∧ u ≤ 1000) && (takenP n d ks l).2) := by
  unfold impl_IsVisit.f
  rw [IsMaze_eq hk n d ks hd hks]
  by_cases hm : IsMaze n d ks
  rotate_left 1
  · simp [hm]
  simp only [hm, decide_true, Bool.not_true, Bool.false_eq_true, if_false, Option.bind_some, within_eq, taken_eq hk n d ks l hm hl, true_and]
  by_cases c1 : (l.length : Int) > 60
  · have : ¬ l.length ≤ 60 := by omega
    simp [c1, this]
  · have h1 : l.length ≤ 60 := by omega
    by_cases c2 : 0 ≤ u ∧ u ≤ 1000 <;> simp [c1, h1, c2]
theorem szVisit_eq (n : Int) (d : List Door) (ks l : List Int) (u m : Int) (h0 : 0 ≤ m) (hm : m ≤ 1048576) (h1 : d.length ≤ maxLen) (h2 : ks.length ≤ maxLen) (h3 : l.length ≤ maxLen) :
    laws_szVisit.f k n d ks l u m = some (szo m (d.length + ks.length + l.length)) := by
  unfold laws_szVisit.f
  rw [szMaze_eq n d ks _ h0 hm h1 h2, Option.bind_some, ← szo_add]
  by_cases hc : szo m (d.length + ks.length) < 0
  · simp [hc]
  · rw [szIntS_eq l _ (by omega) (szo_range (by omega) (by omega)).2 h3]
theorem toVisit_eq (hk : Big ≤ k) (n : Int) (d : List Door) (ks l : List Int) (u : Int) (hd : d.length ≤ 1048576) (hks : ks.length ≤ 1048576) (hl : l.length ≤ 1048576) : laws_toVisit.f k n d ks l u = some (n, d, ks, l, u) := by
  unfold laws_toVisit.f
  rw [toMaze_eq hk n d ks hd hks, Option.bind_some, toIntS_eq hk l hl]; rfl
theorem eqVisit_eq (hk : Big ≤ k) (n : Int) (d : List Door) (ks l : List Int) (u : Int) (n' : Int) (d' : List Door) (ks' l' : List Int) (u' : Int) (hd : d.length ≤ 1048576) (hks : ks.length ≤ 1048576) (hl : l.length ≤ 1048576) :
    laws_eqVisit.f k n d ks l u n' d' ks' l' u' = some (decide ((n, d, ks, l, u) = (n', d', ks', l', u'))) := by
  unfold laws_eqVisit.f
  rw [eqMaze_eq hk n n' d d' ks ks' hd hks, eqIntS_eq hk l l' hl]
  by_cases h1 : (n, d, ks) = (n', d', ks')
  · by_cases h2 : l = l' <;> by_cases h3 : u = u' <;> simp_all
  · have : ¬ (n, d, ks, l, u) = (n', d', ks', l', u') := by
      intro e; simp only [Prod.mk.injEq] at e h1; exact h1 ⟨e.1, e.2.1, e.2.2.1⟩
    rw [decide_eq_false h1, decide_eq_false this]; rfl
theorem szo_pos {a : Nat} (h : (a : Int) ≤ 1048576) : decide (szo 1048576 a < 0) = false := by unfold szo; rw [if_pos h]; simp; omega
theorem szo_neg {a : Nat} (h : ¬ (a : Int) ≤ 1048576) : decide (szo 1048576 a < 0) = true := by unfold szo; rw [if_neg h]; rfl
end
end Go.Proofs

/- Plain laws: G -/
namespace Go.Proofs
open Go Go.Ga Go.Ga.Wf
set_option linter.unusedVariables false
set_option linter.unusedSimpArgs false
section
variable {k : Nat}
def ups (m : Int) (n : Nat) : List Int := (List.range n).map fun i => m + (i : Nat)
def ups3 (m : Int) (n : Nat) : List Door := (List.range n).map fun i => (m + 3 * (i : Nat), m + 3 * (i : Nat) + 1, m + 3 * (i : Nat) + 2)
theorem ups_length (m : Int) (n : Nat) : (ups m n).length = n := by simp [ups]
theorem ups3_length (m : Int) (n : Nat) : (ups3 m n).length = n := by simp [ups3]
theorem ups_get {m : Int} {n i : Nat} (h : i < n) : (ups m n)[i]'(by rw [ups_length]; exact h) = m + i := by simp [ups]
theorem markIntS_eq (hk : Big ≤ k) (l : List Int) (m : Int) (h0 : 0 ≤ m) (hm : m ≤ 1073741824) (hl : l.length ≤ 1048576) : laws_markIntS.f k l m = some (m + l.length, ups m l.length) := by
  unfold laws_markIntS.f
  have := loop_state (l := fun n (s : List Int × Int) i => laws_markIntS.l0 k n s.1 s.2 i) (N := l.length) (g := fun i s => (s.1.set i s.2, s.2 + 1)) (out := fun s => some (s.2, s.1))
    (fun i s => s.2 = m + i ∧ s.1.length = l.length ∧ ∀ j, j < i → s.1[j]? = some (m + (j : Nat))) (fun n i s hi hI => by
      obtain ⟨h1, h2, h3⟩ := hI
      have e1 : ((i : Int) < (s.1.length : Int)) := by omega
      have hw : w64 ((i : Int) + 1) = ((i + 1 : Nat) : Int) := w64_id (by omega) (by omega)
      have hw2 : w64 (s.2 + 1) = s.2 + 1 := w64_id (by omega) (by omega)
      refine ⟨?_, ?_, ?_, ?_⟩
      · show laws_markIntS.l0 k (n + 1) s.1 s.2 (i : Int) = _
        rw [laws_markIntS.l0]
        simp only [e1, decide_true, if_true, rdl_lt (show i < s.1.length by omega), Option.bind_some, hw, hw2, Int.toNat_natCast]
      · show s.2 + 1 = _; rw [h1]; omega
      · simpa using h2
      · intro j hj
        show (s.1.set i s.2)[j]? = _
        rcases Nat.eq_or_lt_of_le (Nat.le_of_lt_succ hj) with rfl | h
        · rw [List.getElem?_set_self (by omega), h1]
        · rw [List.getElem?_set_ne (by omega)]; exact h3 j h)
    (fun n s hI => by
      show laws_markIntS.l0 k (n + 1) s.1 s.2 (l.length : Int) = _
      rw [laws_markIntS.l0, hI.2.1]; simp) (k := k) (by unfold Big at hk; omega) (s := (l, m)) ⟨by simp, rfl, fun j hj => by omega⟩
  obtain ⟨h1, h2, h3, h4⟩ := this
  simp only at h1
  rw [h1, Option.bind_some]
  have e : (itr (fun i (s : List Int × Int) => (s.1.set i s.2, s.2 + 1)) l.length 0 (l, m)).1 = ups m l.length := by
    refine List.ext_getElem? fun j => ?_
    rcases Nat.lt_or_ge j l.length with h | h
    · rw [h4 j h, List.getElem?_eq_getElem (by rw [ups_length]; exact h), ups_get h]
    · rw [List.getElem?_eq_none (by omega), List.getElem?_eq_none (by rw [ups_length]; exact h)]
  rw [e, h2]
theorem heldIntS_eq (hk : Big ≤ k) (n : Nat) (m : Int) (h0 : 0 ≤ m) (hm : m ≤ 1073741824) (hl : n ≤ 1048576) : laws_heldIntS.f k (ups m n) m = some (m + n) := by
  unfold laws_heldIntS.f
  have hlen := ups_length m n
  have := loop_exit (R := Int) (T := Int) (l := fun q (s : Int) i => laws_heldIntS.l0 k (ups m n) q s i) (N := n) (g := fun _ s => .inl (s + 1)) (out := fun s => some (.inl s)) (fun i s => s = m + i) (fun q i s hi hI => by
      left
      have e1 : ((i : Int) < ((ups m n).length : Int)) := by omega
      have hw : w64 ((i : Int) + 1) = ((i + 1 : Nat) : Int) := w64_id (by omega) (by omega)
      have hw2 : w64 (s + 1) = s + 1 := w64_id (by omega) (by omega)
      refine ⟨_, rfl, ?_, by omega⟩
      rw [laws_heldIntS.l0]
      simp only [e1, decide_true, if_true, rdl_lt (show i < (ups m n).length by omega), ups_get hi, Option.bind_some, hI, bne_self_eq_false, Bool.false_eq_true, if_false, hw]
      rw [← hI, hw2])
    (fun q s hI => by rw [laws_heldIntS.l0, hlen]; simp) (k := k) (by unfold Big at hk; omega) (s := m) (by simp)
  rw [this]
  have e : ∀ p i s, itx (R := Int) (fun _ (s : Int) => .inl (s + 1)) p i s = .inl (s + p) := by
    intro p
    induction p with
    | zero => intro i s; simp [itx]
    | succ p ih => intro i s; simp only [itx]; rw [ih]; congr 1; omega
  rw [e]
  rfl
theorem rdl_set {α : Type} {l : List α} {i : Nat} {x : α} (h : i < l.length) : rdl (l.set i x) (i : Int) = some x := by
  rw [rdl_lt (by simpa using h)]; simp
theorem markA3_l1 (hk : Big ≤ k) (l : List Door) (i : Nat) (hi : i < l.length) (m : Int) (h0 : 0 ≤ m) (hm : m ≤ 2147483648) : laws_markIntA3S.l1 k (i : Int) k l m 0 = some (l.set i (m, m + 1, m + 2), m + 3) := by
  obtain ⟨n, rfl⟩ := big_split hk
  have w1 : w64 (m + 1) = m + 1 := w64_id (by omega) (by omega)
  have w2 : w64 (m + 1 + 1) = m + 2 := by rw [w64_id (by omega) (by omega)]; omega
  have w3 : w64 (m + 2 + 1) = m + 3 := by rw [w64_id (by omega) (by omega)]; omega
  simp [laws_markIntA3S.l1, w64_1, w64_2, w64_3, rdl3_0, rdl3_1, rdl3_2, rdl_lt hi, rdl_set hi, w1, w2, w3, List.set_set]
theorem ups3_get {m : Int} {n i : Nat} (h : i < n) : (ups3 m n)[i]'(by rw [ups3_length]; exact h) = (m + 3 * (i : Nat), m + 3 * (i : Nat) + 1, m + 3 * (i : Nat) + 2) := by simp [ups3]
theorem markIntA3S_eq (hk : Big ≤ k) (l : List Door) (m : Int) (h0 : 0 ≤ m) (hm : m ≤ 1073741824) (hl : l.length ≤ 1048576) : laws_markIntA3S.f k l m = some (m + 3 * l.length, ups3 m l.length) := by
  unfold laws_markIntA3S.f
  have := loop_state (l := fun n (s : List Door × Int) i => laws_markIntA3S.l0 k n s.1 s.2 i) (N := l.length) (g := fun i s => (s.1.set i (s.2, s.2 + 1, s.2 + 2), s.2 + 3)) (out := fun s => some (s.2, s.1))
    (fun i s => s.2 = m + 3 * i ∧ s.1.length = l.length ∧ ∀ j, j < i → s.1[j]? = some (m + 3 * (j : Nat), m + 3 * (j : Nat) + 1, m + 3 * (j : Nat) + 2)) (fun n i s hi hI => by
      obtain ⟨h1, h2, h3⟩ := hI
      have e1 : ((i : Int) < (s.1.length : Int)) := by omega
      have hw : w64 ((i : Int) + 1) = ((i + 1 : Nat) : Int) := w64_id (by omega) (by omega)
      refine ⟨?_, ?_, ?_, ?_⟩
      · show laws_markIntA3S.l0 k (n + 1) s.1 s.2 (i : Int) = _
        rw [laws_markIntA3S.l0]
        simp only [e1, decide_true, if_true, markA3_l1 hk s.1 i (by omega) s.2 (by omega) (by omega), Option.bind_some, hw]
      · show s.2 + 3 = _; rw [h1]; omega
      · simpa using h2
      · intro j hj
        show (s.1.set i (s.2, s.2 + 1, s.2 + 2))[j]? = _
        rcases Nat.eq_or_lt_of_le (Nat.le_of_lt_succ hj) with rfl | h
        · rw [List.getElem?_set_self (by omega), h1]
        · rw [List.getElem?_set_ne (by omega)]; exact h3 j h)
    (fun n s hI => by
      show laws_markIntA3S.l0 k (n + 1) s.1 s.2 (l.length : Int) = _
      rw [laws_markIntA3S.l0, hI.2.1]; simp) (k := k) (by unfold Big at hk; omega) (s := (l, m)) ⟨by simp, rfl, fun j hj => by omega⟩
  obtain ⟨h1, h2, h3, h4⟩ := this
  simp only at h1
  rw [h1, Option.bind_some]
  have e : (itr (fun i (s : List Door × Int) => (s.1.set i (s.2, s.2 + 1, s.2 + 2), s.2 + 3)) l.length 0 (l, m)).1 = ups3 m l.length := by
    refine List.ext_getElem? fun j => ?_
    rcases Nat.lt_or_ge j l.length with h | h
    · rw [h4 j h, List.getElem?_eq_getElem (by rw [ups3_length]; exact h), ups3_get h]
    · rw [List.getElem?_eq_none (by omega), List.getElem?_eq_none (by rw [ups3_length]; exact h)]
  rw [e, h2]
theorem heldA3_l1 (hk : Big ≤ k) (n i : Nat) (hi : i < n) (m : Int) (h0 : 0 ≤ m) (hm : m + 3 * n ≤ 2147483648) : laws_heldIntA3S.l1 k (ups3 m n) (i : Int) k (m + 3 * i) 0 = some (.inl (m + 3 * i + 3)) := by
  obtain ⟨q, rfl⟩ := big_split hk
  have w1 : w64 (m + 3 * i + 1) = m + 3 * i + 1 := w64_id (by omega) (by omega)
  have w2 : w64 (m + 3 * i + 1 + 1) = m + 3 * i + 2 := by rw [w64_id (by omega) (by omega)]; omega
  have w3 : w64 (m + 3 * i + 2 + 1) = m + 3 * i + 3 := by rw [w64_id (by omega) (by omega)]; omega
  simp [laws_heldIntA3S.l1, w64_1, w64_2, w64_3, rdl3_0, rdl3_1, rdl3_2, rdl_lt (show i < (ups3 m n).length by rw [ups3_length]; exact hi), ups3_get hi, w1, w2, w3]
theorem heldIntA3S_eq (hk : Big ≤ k) (n : Nat) (m : Int) (h0 : 0 ≤ m) (hm : m ≤ 1073741824) (hl : n ≤ 1048576) : laws_heldIntA3S.f k (ups3 m n) m = some (m + 3 * n) := by
  unfold laws_heldIntA3S.f
  have hlen := ups3_length m n
  have := loop_exit (R := Int) (T := Int) (l := fun q (s : Int) i => laws_heldIntA3S.l0 k (ups3 m n) q s i) (N := n) (g := fun _ s => .inl (s + 3)) (out := fun s => some (.inl s)) (fun i s => s = m + 3 * i) (fun q i s hi hI => by
      left
      have e1 : ((i : Int) < ((ups3 m n).length : Int)) := by omega
      have hw : w64 ((i : Int) + 1) = ((i + 1 : Nat) : Int) := w64_id (by omega) (by omega)
      refine ⟨_, rfl, ?_, by omega⟩
      subst hI
      rw [laws_heldIntA3S.l0]
      simp only [e1, decide_true, if_true, heldA3_l1 hk n i hi m h0 (by omega), Option.bind_some, Lr, hw])
    (fun q s hI => by rw [laws_heldIntA3S.l0, hlen]; simp) (k := k) (by unfold Big at hk; omega) (s := m) (by simp)
  rw [this]
  have e : ∀ p i s, itx (R := Int) (fun _ (s : Int) => .inl (s + 3)) p i s = .inl (s + 3 * p) := by
    intro p
    induction p with
    | zero => intro i s; simp [itx]
    | succ p ih => intro i s; simp only [itx]; rw [ih]; congr 1; omega
  rw [e]
  rfl
theorem markMaze_eq (hk : Big ≤ k) (n : Int) (d : List Door) (ks : List Int) (m : Int) (h0 : 0 ≤ m) (hm : m ≤ 536870912) (hd : d.length ≤ 1048576) (hl : ks.length ≤ 1048576) :
    laws_markMaze.f k n d ks m = some (m + 3 * d.length + ks.length, ups3 m d.length, ups (m + 3 * d.length) ks.length) := by
  unfold laws_markMaze.f
  rw [markIntA3S_eq hk d m h0 (by omega) hd, Option.bind_some]
  simp only [markIntS_eq hk ks (m + 3 * d.length) (by omega) (by omega) hl, Option.bind_some]
theorem markVisit_eq (hk : Big ≤ k) (n : Int) (d : List Door) (ks l : List Int) (u m : Int) (h0 : 0 ≤ m) (hm : m ≤ 268435456) (hd : d.length ≤ 1048576) (hks : ks.length ≤ 1048576) (hl : l.length ≤ 1048576) :
    laws_markVisit.f k n d ks l u m = some (m + 3 * d.length + ks.length + l.length, ups3 m d.length, ups (m + 3 * d.length) ks.length, ups (m + 3 * d.length + ks.length) l.length) := by
  unfold laws_markVisit.f
  rw [markMaze_eq hk n d ks m h0 (by omega) hd hks, Option.bind_some]
  simp only [markIntS_eq hk l (m + 3 * d.length + ks.length) (by omega) (by omega) hl, Option.bind_some]
theorem heldMaze_eq (hk : Big ≤ k) (n : Int) (a b : Nat) (m : Int) (h0 : 0 ≤ m) (hm : m ≤ 536870912) (ha : a ≤ 1048576) (hb : b ≤ 1048576) :
    laws_heldMaze.f k n (ups3 m a) (ups (m + 3 * a) b) m = some (m + 3 * a + b) := by
  unfold laws_heldMaze.f
  rw [heldIntA3S_eq hk a m h0 (by omega) ha, Option.bind_some, if_neg (by simp; omega), heldIntS_eq hk b (m + 3 * a) (by omega) (by omega) hb, Option.bind_some, if_neg (by simp; omega)]
theorem heldVisit_eq (hk : Big ≤ k) (n : Int) (a b c : Nat) (u m : Int) (h0 : 0 ≤ m) (hm : m ≤ 268435456) (ha : a ≤ 1048576) (hb : b ≤ 1048576) (hc : c ≤ 1048576) :
    laws_heldVisit.f k n (ups3 m a) (ups (m + 3 * a) b) (ups (m + 3 * a + b) c) u m = some (m + 3 * a + b + c) := by
  unfold laws_heldVisit.f
  rw [heldMaze_eq hk n a b m h0 (by omega) ha hb, Option.bind_some, if_neg (by simp; omega), heldIntS_eq hk c (m + 3 * a + b) (by omega) (by omega) hc, Option.bind_some, if_neg (by simp; omega)]
end
end Go.Proofs

/- Plain laws: H -/
namespace Go.Proofs
open Go Go.Ga Go.Ga.Wf
/-! loops that go on as long as there is something to do -/
/-! what is reached -/
/-! doors and keys within bounds -/
/-! what one has -/
end Go.Proofs

/- Plain laws: I -/
namespace Go.Proofs
open Go Go.Ga Go.Ga.Wf
set_option linter.unusedVariables false
set_option linter.unusedSimpArgs false
section
variable {k : Nat}
theorem clone3_eq (l : List Door) (hl : l.length ≤ 1048576) : slices_Clone__3int__3int.f k l = some l := by
  unfold slices_Clone__3int__3int.f; rw [List.nil_append, if_pos (by omega)]
theorem clone_eq (l : List Int) (hl : l.length ≤ 1048576) : slices_Clone_int_int.f k l = some l := by
  unfold slices_Clone_int_int.f; rw [List.nil_append, if_pos (by omega)]
theorem own_eq (n : Int) (d : List Door) (ks : List Int) (hd : d.length ≤ 1048576) (hl : ks.length ≤ 1048576) : impl_own.f k n d ks = some (n, d, ks) := by
  unfold impl_own.f; rw [clone3_eq d hd, Option.bind_some, clone_eq ks hl]; rfl
theorem l1Own_eq (l : List Int) (hl : l.length ≤ 1048576) : spec_l1Own.f k l = some l := by
  unfold spec_l1Own.f; rw [List.nil_append, if_pos (by omega)]
theorem l2Own_eq (n : Int) (d : List Door) (ks : List Int) (hd : d.length ≤ 1048576) (hl : ks.length ≤ 1048576) : spec_l2Own.f k n d ks = some (n, d, ks) := by
  unfold spec_l2Own.f; rw [List.nil_append, if_pos (by omega), l1Own_eq ks hl]; rfl
theorem l12Own_eq (n : Int) (d : List Door) (ks l : List Int) (u : Int) (hd : d.length ≤ 1048576) (hl : ks.length ≤ 1048576) (hw : l.length ≤ 1048576) : spec_l12Own.f k n d ks l u = some (n, d, ks, l, u) := by
  unfold spec_l12Own.f; simp only [l2Own_eq n d ks hd hl, Option.bind_some, l1Own_eq l hw]
theorem ownVisit_eq (n : Int) (d : List Door) (ks l : List Int) (u : Int) (hd : d.length ≤ 1048576) (hl : ks.length ≤ 1048576) (hw : l.length ≤ 1048576) : impl_ownVisit.f k n d ks l u = some (n, d, ks, l, u) := by
  unfold impl_ownVisit.f; simp only [own_eq n d ks hd hl, Option.bind_some, clone_eq l hw]
/-! a trap -/
end
end Go.Proofs

/- Plain laws: J -/
namespace Go.Proofs
open Go Go.Ga Go.Ga.Wf
set_option linter.unusedVariables false
set_option linter.unusedSimpArgs false
section
variable {k : Nat}
end
end Go.Proofs

/- Plain laws: K -/
namespace Go.Proofs
open Go Go.Ga Go.Ga.Wf
set_option linter.unusedVariables false
set_option linter.unusedSimpArgs false
section
variable {k : Nat}
/-! the reference -/
/-! the program -/
end
end Go.Proofs

/- Plain laws: L -/
namespace Go.Proofs
open Go Go.Ga Go.Ga.Wf
set_option linter.unusedVariables false
set_option linter.unusedSimpArgs false
section
variable {k : Nat}
/-! without a colour -/
end
end Go.Proofs

/- Plain laws: M -/
namespace Go.Proofs
open Go Go.Ga Go.Ga.Wf
set_option linter.unusedVariables false
set_option linter.unusedSimpArgs false
abbrev MazeT := Int × List Door × List Int
def mz1 (t : MazeT) : Nat := t.2.1.length + t.2.2.length
def mz : List MazeT → Nat
  | [] => 0
  | t :: l => mz1 t + mz l
def iz : List (List Int) → Nat
  | [] => 0
  | t :: l => t.length + iz l
theorem mz_mem : ∀ {l : List MazeT} {t : MazeT}, t ∈ l → mz1 t ≤ mz l
  | x :: l, t, h => by
    rcases List.mem_cons.1 h with rfl | h
    · simp [mz]
    · have := mz_mem h; simp [mz]; omega
theorem iz_mem : ∀ {l : List (List Int)} {t : List Int}, t ∈ l → t.length ≤ iz l
  | x :: l, t, h => by
    rcases List.mem_cons.1 h with rfl | h
    · simp [iz]
    · have := iz_mem h; simp [iz]; omega
section
variable {k : Nat}
/-- worlds within bounds -/
structure WB (ms : List MazeT) (os : List (List Int)) : Prop where
  ml : ms.length ≤ 1048576
  ol : os.length ≤ 1048576
  md : ∀ t ∈ ms, t.2.1.length ≤ 1048576 ∧ t.2.2.length ≤ 1048576
  od : ∀ t ∈ os, t.length ≤ 1048576
def wz (ms : List MazeT) (os : List (List Int)) : Nat := ms.length + mz ms + (os.length + iz os)
theorem WB.of {ms : List MazeT} {os : List (List Int)} (h : ((wz ms os : Nat) : Int) ≤ 1048576) : WB ms os := by
  unfold wz at h
  refine ⟨by omega, by omega, fun t ht => ?_, fun t ht => ?_⟩
  · have := mz_mem ht; unfold mz1 at this; omega
  · have := iz_mem ht; omega
/-! marks -/
/-! valid worlds -/
def worldOk (ms : List MazeT) (os : List (List Int)) (i : Nat) : Bool :=
  if h : i < ms.length then decide (IsMaze ms[i].1 ms[i].2.1 ms[i].2.2) && decide (((os.getD i []).length : Int) = ms[i].1) && (os.getD i []).all (fun o => decide (0 ≤ o ∧ o ≤ (ms.length : Int) - 1)) else true
def IsWorldsP (ms : List MazeT) (os : List (List Int)) : Prop := (1 ≤ ms.length ∧ ms.length ≤ 3) ∧ os.length = ms.length ∧ ∀ i, i < ms.length → worldOk ms os i = true
instance (ms : List MazeT) (os : List (List Int)) : Decidable (IsWorldsP ms os) := by unfold IsWorldsP; infer_instance
/-! one maze alone -/
end
end Go.Proofs

/- Plain laws: N -/
namespace Go.Proofs
open Go Go.Ga Go.Ga.Wf
set_option linter.unusedVariables false
set_option linter.unusedSimpArgs false
section
variable {k : Nat}
/-! idle nodes -/
/-! nodes ahead -/
/-! a new console -/
def newConsoleP (n : Int) (d : List Door) (ks l : List Int) (u : Int) : Int × List Door × List Int × List Int × Int × ByteArray × ByteArray × Int × Bool :=
  if (decide (IsMaze n d ks ∧ l.length ≤ 60 ∧ 0 ≤ u ∧ u ≤ 1000) && (takenP n d ks l).2) = true then (n, d, ks, l, u, ByteArray.empty, ByteArray.empty, 0, true) else (0, [], [], [], 0, ByteArray.empty, ByteArray.empty, 0, false)
theorem NewConsole_eq (hk : Big ≤ k) (n : Int) (d : List Door) (ks l : List Int) (u : Int) (hd : d.length ≤ 1048576) (hks : ks.length ≤ 1048576) (hl : l.length ≤ 1048576) :
    impl_NewConsole.f k n d ks l u = some (newConsoleP n d ks l u) ∧ spec_NewConsole.f k n d ks l u = some (newConsoleP n d ks l u) := by
  unfold impl_NewConsole.f spec_NewConsole.f newConsoleP
  rw [IsVisit_eq hk n d ks l u hd hks hl, l12Good_eq hk n d ks l u hd hks hl]
  cases (decide (IsMaze n d ks ∧ l.length ≤ 60 ∧ 0 ≤ u ∧ u ≤ 1000) && (takenP n d ks l).2) with
  | false => exact ⟨rfl, rfl⟩
  | true =>
    constructor
    · simp only [Option.bind_some, Bool.not_true, Bool.false_eq_true, if_false, ownVisit_eq n d ks l u hd hks hl, if_true]
    · simp only [Option.bind_some, Bool.not_true, Bool.false_eq_true, if_false, l12Own_eq n d ks l u hd hks hl, if_true]
theorem newConsoleP_len {n : Int} {d : List Door} {ks l : List Int} {u : Int} (hd : d.length ≤ 1048576) (hks : ks.length ≤ 1048576) (hl : l.length ≤ 1048576) :
    (newConsoleP n d ks l u).2.1.length ≤ 1048576 ∧ (newConsoleP n d ks l u).2.2.1.length ≤ 1048576 ∧ (newConsoleP n d ks l u).2.2.2.1.length ≤ 1048576 := by
  unfold newConsoleP; split <;> simp <;> omega
theorem laws_FnExactNewConsole.pure (x : Int × List (Int × Int × Int) × List Int × List Int × Int) (h : wfd x) : ∃ k, laws_FnExactNewConsole.f k x.1 x.2.1 x.2.2.1 x.2.2.2.1 x.2.2.2.2 = some true := by
  refine ⟨Big, ?_⟩
  have hk : Big ≤ Big := Nat.le_refl _
  obtain ⟨n, d, ks, w, u⟩ := x
  have h1 : d.length ≤ maxLen := h.2.1.1
  have h2 : ks.length ≤ maxLen := h.2.2.1.1
  have h3 : w.length ≤ maxLen := h.2.2.2.1.1
  unfold laws_FnExactNewConsole.f
  simp only [szVisit_eq n d ks w u _ (by decide : (0 : Int) ≤ 1048576) (Int.le_refl _) h1 h2 h3, Option.bind_some]
  by_cases hc : ((d.length + ks.length + w.length : Nat) : Int) ≤ 1048576
  · obtain ⟨e2, e3⟩ := NewConsole_eq hk n d ks w u (by omega) (by omega) (by omega)
    have hb := newConsoleP_len (n := n) (d := d) (ks := ks) (l := w) (u := u) (by omega) (by omega) (by omega)
    generalize newConsoleP n d ks w u = r at *
    obtain ⟨n', d', ks', l', u', s1, s2, c, b⟩ := r
    simp only at hb
    have p1 : decide ((1 : Int) + 3 * d.length + ks.length + w.length < 0) = false := decide_eq_false (by omega)
    have p2 : decide ((1 : Int) + 3 * d'.length + ks'.length + l'.length < 0) = false := decide_eq_false (by omega)
    have q1 : laws_eqConsole.f Big n' d' ks' l' u' s1 s2 c n' d' ks' l' u' s1 s2 c = some true := by
      unfold laws_eqConsole.f laws_eqLog.f
      rw [eqVisit_eq hk n' d' ks' l' u' n' d' ks' l' u' hb.1 hb.2.1 hb.2.2]
      simp
    have q2 : laws_markConsole.f Big n' d' ks' l' u' s1 s2 c 1 = some ((1 : Int) + 3 * d'.length + ks'.length + l'.length, ups3 1 d'.length, ups (1 + 3 * d'.length) ks'.length, ups (1 + 3 * d'.length + ks'.length) l'.length) := by
      unfold laws_markConsole.f
      rw [markVisit_eq hk n' d' ks' l' u' 1 (by omega) (by omega) hb.1 hb.2.1 hb.2.2]; rfl
    have q3 : laws_heldConsole.f Big n' (ups3 1 d'.length) (ups (1 + 3 * d'.length) ks'.length) (ups (1 + 3 * d'.length + ks'.length) l'.length) u' s1 s2 c 1 = some ((1 : Int) + 3 * d'.length + ks'.length + l'.length) := by
      unfold laws_heldConsole.f
      rw [heldVisit_eq hk n' d'.length ks'.length l'.length u' 1 (by omega) (by omega) hb.1 hb.2.1 hb.2.2, Option.bind_some, p2]; rfl
    simp only [p1, p2, q1, q2, q3, szo_pos hc, Bool.false_eq_true, if_false, toVisit_eq hk n d ks w u (by omega) (by omega) (by omega), e2, e3, Option.bind_some, eqVisit_eq hk n d ks w u n d ks w u (by omega) (by omega) (by omega), markVisit_eq hk n d ks w u 1 (by omega) (by omega) (by omega) (by omega) (by omega)]
    simp
  · simp only [szo_neg hc, if_true]
/-! what a world can ever reach -/
theorem IsWorldsP.at {ms : List MazeT} {os : List (List Int)} (h : IsWorldsP ms os) (i : Nat) (hi : i < ms.length) : IsMaze ms[i].1 ms[i].2.1 ms[i].2.2 ∧ ∃ hio : i < os.length, (os[i].length : Int) = ms[i].1 ∧ ∀ o ∈ os[i], 0 ≤ o ∧ o ≤ (ms.length : Int) - 1 := by
  have h1 := h.2.2 i hi
  unfold worldOk at h1
  have hio : i < os.length := by have := h.2.1; omega
  have hod : os.getD i [] = os[i] := by rw [List.getD_eq_getElem?_getD, List.getElem?_eq_getElem hio]; rfl
  rw [dif_pos hi, hod] at h1
  simp only [Bool.and_eq_true, decide_eq_true_eq, List.all_eq_true] at h1
  exact ⟨h1.1.1, hio, h1.1.2, h1.2⟩
end
end Go.Proofs

/- A part of the proof of FnExactIsWorlds: the plain law. No condition. -/
import Derived.Test.YteaphppkjcngiaaFnExactIsWorldsD
/- Plain laws: A -/
namespace Go.Proofs
open Go Go.Ga Go.Ga.Wf
set_option linter.unusedVariables false
set_option linter.unusedSimpArgs false
section
variable {k : Nat}
theorem within_eq (x a b : Int) : impl_within.f k x a b = some (decide (a ≤ x ∧ x ≤ b)) := by
  unfold impl_within.f
  by_cases h : a ≤ x <;> simp [h]
theorem in_eq (x a b : Int) : spec_l1In.f k x a b = some (decide (a ≤ x ∧ x ≤ b)) := by
  unfold spec_l1In.f
  by_cases h : a ≤ x <;> simp [h, ge_iff_le]
end
end Go.Proofs

/- Plain laws: B -/
namespace Go.Ga
open Go
def szo (m : Int) (n : Nat) : Int := if (n : Int) ≤ m then m - n else -1
theorem loop_copy {α : Type} {l : Nat → List α → Int → Option (List α)} {a : List α}
    (hs : ∀ n (i : Nat) (s : List α) (hi : i < a.length), s.length = a.length → l (n + 1) s (i : Int) = l n (s.set i a[i]) ((i + 1 : Nat) : Int))
    (he : ∀ n s, l (n + 1) s (a.length : Int) = some s) {k : Nat} (hk : a.length < k) {s : List α} (h0 : s.length = a.length) : l k s 0 = some a := by
  have key : ∀ m i k s, i + m = a.length → m < k → s.length = a.length → (∀ j, j < i → s[j]? = a[j]?) → l k s (i : Int) = some a := by
    intro m
    induction m with
    | zero =>
      intro i k s hi hk h1 h2
      obtain ⟨n, rfl⟩ : ∃ n, k = n + 1 := ⟨k - 1, by omega⟩
      have : i = a.length := by omega
      subst this
      rw [he]
      congr 1
      refine List.ext_getElem? fun j => ?_
      rcases Nat.lt_or_ge j a.length with h | h
      · exact h2 j h
      · rw [List.getElem?_eq_none (by omega), List.getElem?_eq_none h]
    | succ m ih =>
      intro i k s hi hk h1 h2
      obtain ⟨n, rfl⟩ : ∃ n, k = n + 1 := ⟨k - 1, by omega⟩
      rw [hs n i s (by omega) h1]
      refine ih (i + 1) n _ (by omega) (by omega) (by simpa using h1) fun j hj => ?_
      rcases Nat.eq_or_lt_of_le (Nat.le_of_lt_succ hj) with rfl | h
      · rw [List.getElem?_set_self (by omega), List.getElem?_eq_getElem (by omega)]
      · rw [List.getElem?_set_ne (by omega)]; exact h2 j h
  have := key a.length 0 k s (by omega) hk h0 (by omega)
  simpa using this
theorem loop_eq {α : Type} [DecidableEq α] {l : Nat → Int → Option (Unit ⊕ Bool)} {a b : List α} (hl : a.length = b.length)
    (hs : ∀ n (i : Nat) (hi : i < a.length), l (n + 1) (i : Int) = if a[i] = b[i] then l n ((i + 1 : Nat) : Int) else some (.inr false))
    (he : ∀ n, l (n + 1) (a.length : Int) = some (.inl ())) {k : Nat} (hk : a.length < k) : l k 0 = some (if a = b then .inl () else .inr false) := by
  rw [loop_all (l := l) (N := a.length) (fun i => decide (a[i]? = b[i]?)) (z := false) (fun n i hi => by
    rw [hs n i hi, List.getElem?_eq_getElem hi, List.getElem?_eq_getElem (by omega)]
    simp) he hk]
  congr 1
  have : (∀ i, i < a.length → decide (a[i]? = b[i]?) = true) ↔ a = b := by
    constructor
    · intro h
      refine List.ext_getElem? fun i => ?_
      rcases Nat.lt_or_ge i a.length with h1 | h1
      · simpa using h i h1
      · rw [List.getElem?_eq_none h1, List.getElem?_eq_none (by omega)]
    · rintro rfl i _; simp
  by_cases h : a = b
  · rw [if_pos h, if_pos (this.2 h)]
  · rw [if_neg h, if_neg (fun H => h (this.1 H))]
theorem w64_1 : w64 1 = 1 := rfl
theorem w64_2 : w64 2 = 2 := rfl
theorem w64_3 : w64 3 = 3 := rfl
theorem rdl3_0 {α : Type} {x y z : α} : rdl [x, y, z] 0 = some x := rfl
theorem rdl3_1 {α : Type} {x y z : α} : rdl [x, y, z] 1 = some y := rfl
theorem rdl3_2 {α : Type} {x y z : α} : rdl [x, y, z] 2 = some z := rfl
end Go.Ga
namespace Go.Proofs
open Go Go.Ga Go.Ga.Wf
set_option linter.unusedVariables false
set_option linter.unusedSimpArgs false
section
variable {k : Nat}
theorem big_split (hk : Big ≤ k) : ∃ n, k = n + 5 := ⟨k - 5, by unfold Big at hk; omega⟩
theorem maxLen_eq : maxLen = 9223372036854775807 := by decide
theorem szIntS_eq (l : List Int) (m : Int) (h0 : 0 ≤ m) (hm : m ≤ 1048576) (hl : l.length ≤ maxLen) : laws_szIntS.f k l m = some (szo m l.length) := by
  unfold laws_szIntS.f szo
  rw [maxLen_eq] at hl
  rw [w64_id (by omega) (by omega)]
  by_cases h : (l.length : Int) ≤ m
  · rw [if_neg (by simp; omega), if_pos h]
  · rw [if_pos (by simp; omega), if_neg h]
theorem szIntA3S_eq (l : List (Int × Int × Int)) (m : Int) (h0 : 0 ≤ m) (hm : m ≤ 1048576) (hl : l.length ≤ maxLen) : laws_szIntA3S.f k l m = some (szo m l.length) := by
  unfold laws_szIntA3S.f szo
  rw [maxLen_eq] at hl
  rw [w64_id (by omega) (by omega)]
  by_cases h : (l.length : Int) ≤ m
  · rw [if_neg (by simp; omega), if_pos h]
  · rw [if_pos (by simp; omega), if_neg h]
theorem szo_add (m : Int) (a b : Nat) : (if decide (szo m a < 0) = true then some (-1) else (some (szo (szo m a) b)).bind fun t => if decide (t < 0) = true then some (-1) else some t) = some (szo m (a + b)) := by
  unfold szo
  by_cases h : (a : Int) ≤ m
  · have h1 : ¬ (m - (a : Int) < 0) := by omega
    by_cases h2 : (b : Int) ≤ m - a
    · have h3 : ¬ (m - (a : Int) - b < 0) := by omega
      have h4 : ((a + b : Nat) : Int) ≤ m := by omega
      simp only [h, h1, h2, h3, h4, if_true, decide_false, Bool.false_eq_true, if_false, Option.bind_some]; congr 1; omega
    · have h4 : ¬ ((a + b : Nat) : Int) ≤ m := by omega
      simp only [h, h1, h2, h4, if_true, decide_false, Bool.false_eq_true, if_false, Option.bind_some]; simp
  · have h4 : ¬ ((a + b : Nat) : Int) ≤ m := by omega
    simp only [h, h4, if_false]; simp
theorem szo_range {m : Int} {n : Nat} (h0 : 0 ≤ m) (hm : m ≤ 1048576) : -1 ≤ szo m n ∧ szo m n ≤ 1048576 := by unfold szo; split <;> omega
theorem szMaze_eq (n : Int) (d : List (Int × Int × Int)) (ks : List Int) (m : Int) (h0 : 0 ≤ m) (hm : m ≤ 1048576) (hd : d.length ≤ maxLen) (hl : ks.length ≤ maxLen) :
    laws_szMaze.f k n d ks m = some (szo m (d.length + ks.length)) := by
  unfold laws_szMaze.f
  rw [szIntA3S_eq d m h0 hm hd, Option.bind_some, ← szo_add]
  by_cases h : szo m d.length < 0
  · simp [h]
  · rw [szIntS_eq ks _ (by omega) (szo_range h0 hm).2 hl]
theorem toIntS_eq (hk : Big ≤ k) (l : List Int) (hl : l.length ≤ 1048576) : laws_toIntS.f k l = some l := by
  unfold laws_toIntS.f
  rw [if_pos (by omega)]
  rw [loop_copy (l := laws_toIntS.l0 k l) (a := l) (fun n i s hi hs => by
    rw [laws_toIntS.l0]
    have h1 : ((i : Int) < (l.length : Int)) := by omega
    have hw : w64 ((i : Int) + 1) = ((i + 1 : Nat) : Int) := w64_id (by omega) (by omega)
    simp only [h1, decide_true, if_true, rdl_lt hi, rdl_lt (hs ▸ hi), Option.bind_some, hw, Int.toNat_natCast])
    (fun n s => by rw [laws_toIntS.l0]; simp) (by unfold Big at hk; omega) (by simp)]
  rfl
theorem toIntA3_eq (hk : Big ≤ k) (a b c : Int) : laws_toIntA3.f k a b c = some (a, b, c) := by
  obtain ⟨n, rfl⟩ := big_split hk
  unfold laws_toIntA3.f
  simp [laws_toIntA3.l0, w64_1, w64_2, w64_3, rdl3_0, rdl3_1, rdl3_2]
theorem toIntA3S_eq (hk : Big ≤ k) (l : List (Int × Int × Int)) (hl : l.length ≤ 1048576) : laws_toIntA3S.f k l = some l := by
  unfold laws_toIntA3S.f
  rw [if_pos (by omega)]
  rw [loop_copy (l := laws_toIntA3S.l0 k l) (a := l) (fun n i s hi hs => by
    rw [laws_toIntA3S.l0]
    have h1 : ((i : Int) < (l.length : Int)) := by omega
    have hw : w64 ((i : Int) + 1) = ((i + 1 : Nat) : Int) := w64_id (by omega) (by omega)
    simp only [h1, decide_true, if_true, rdl_lt hi, rdl_lt (hs ▸ hi), Option.bind_some, hw, Int.toNat_natCast, toIntA3_eq hk])
    (fun n s => by rw [laws_toIntA3S.l0]; simp) (by unfold Big at hk; omega) (by simp)]
  rfl
theorem toMaze_eq (hk : Big ≤ k) (n : Int) (d : List (Int × Int × Int)) (ks : List Int) (hd : d.length ≤ 1048576) (hl : ks.length ≤ 1048576) : laws_toMaze.f k n d ks = some (n, d, ks) := by
  unfold laws_toMaze.f
  rw [toIntA3S_eq hk d hd, Option.bind_some, toIntS_eq hk ks hl, Option.bind_some]
theorem eqIntS_eq (hk : Big ≤ k) (a b : List Int) (hl : a.length ≤ 1048576) : laws_eqIntS.f k a b = some (decide (a = b)) := by
  unfold laws_eqIntS.f
  by_cases h : a.length = b.length
  · rw [if_neg (by simp; omega), loop_eq (l := laws_eqIntS.l0 k a b) h (fun n i hi => by
      rw [laws_eqIntS.l0]
      have h1 : ((i : Int) < (a.length : Int)) := by omega
      have hw : w64 ((i : Int) + 1) = ((i + 1 : Nat) : Int) := w64_id (by omega) (by omega)
      simp only [h1, decide_true, if_true, rdl_lt hi, rdl_lt (h ▸ hi), Option.bind_some, hw]
      by_cases h2 : a[i] = b[i] <;> simp [h2]) (fun n => by rw [laws_eqIntS.l0]; simp) (by unfold Big at hk; omega), Option.bind_some, Lr_ite]
    by_cases h2 : a = b <;> simp [h2]
  · rw [if_pos (by simp; omega)]
    have : a ≠ b := fun e => h (by rw [e])
    simp [this]
theorem eqIntA3_eq (hk : Big ≤ k) (a b c a' b' c' : Int) : laws_eqIntA3.f k a b c a' b' c' = some (decide ((a, b, c) = (a', b', c'))) := by
  obtain ⟨n, rfl⟩ := big_split hk
  unfold laws_eqIntA3.f
  by_cases h1 : a = a' <;> by_cases h2 : b = b' <;> by_cases h3 : c = c' <;>
    simp [laws_eqIntA3.l0, w64_1, w64_2, w64_3, rdl3_0, rdl3_1, rdl3_2, h1, h2, h3, Lr]
theorem eqIntA3S_eq (hk : Big ≤ k) (a b : List (Int × Int × Int)) (hl : a.length ≤ 1048576) : laws_eqIntA3S.f k a b = some (decide (a = b)) := by
  unfold laws_eqIntA3S.f
  by_cases h : a.length = b.length
  · rw [if_neg (by simp; omega), loop_eq (l := laws_eqIntA3S.l0 k a b) h (fun n i hi => by
      rw [laws_eqIntA3S.l0]
      have h1 : ((i : Int) < (a.length : Int)) := by omega
      have hw : w64 ((i : Int) + 1) = ((i + 1 : Nat) : Int) := w64_id (by omega) (by omega)
      simp only [h1, decide_true, if_true, rdl_lt hi, rdl_lt (h ▸ hi), Option.bind_some, hw, eqIntA3_eq hk]
      by_cases h2 : a[i] = b[i] <;> simp [h2]) (fun n => by rw [laws_eqIntA3S.l0]; simp) (by unfold Big at hk; omega), Option.bind_some, Lr_ite]
    by_cases h2 : a = b <;> simp [h2]
  · rw [if_pos (by simp; omega)]
    have : a ≠ b := fun e => h (by rw [e])
    simp [this]
theorem eqMaze_eq (hk : Big ≤ k) (n n' : Int) (d d' : List (Int × Int × Int)) (ks ks' : List Int) (hd : d.length ≤ 1048576) (hl : ks.length ≤ 1048576) :
    laws_eqMaze.f k n d ks n' d' ks' = some (decide ((n, d, ks) = (n', d', ks'))) := by
  unfold laws_eqMaze.f
  rw [eqIntA3S_eq hk d d' hd, eqIntS_eq hk ks ks' hl]
  by_cases h1 : n = n' <;> by_cases h2 : d = d' <;> by_cases h3 : ks = ks' <;> simp [h1, h2, h3]
end
end Go.Proofs

/- Plain laws: C -/
namespace Go.Proofs
open Go Go.Ga Go.Ga.Wf
set_option linter.unusedVariables false
set_option linter.unusedSimpArgs false
abbrev Door := Int × Int × Int
def DoorOk (n : Int) (x : Door) : Prop := 0 ≤ x.1 ∧ x.1 < x.2.1 ∧ x.2.1 < n ∧ 0 ≤ x.2.2 ∧ x.2.2 ≤ 63
def DoorLt (a b : Door) : Prop := a.1 < b.1 ∨ (a.1 = b.1 ∧ (a.2.1 < b.2.1 ∨ (a.2.1 = b.2.1 ∧ a.2.2 < b.2.2)))
instance (n : Int) (x : Door) : Decidable (DoorOk n x) := by unfold DoorOk; infer_instance
instance (a b : Door) : Decidable (DoorLt a b) := by unfold DoorLt; infer_instance
def doorB (n : Int) (d : List Door) (i : Nat) : Bool := if h : i < d.length then decide (DoorOk n d[i]) && (decide (i = 0) || decide (DoorLt d[i - 1] d[i])) else true
def setB (ks : List Int) (i : Nat) : Bool := if h : i < ks.length then decide (0 ≤ ks[i] ∧ ks[i] ≤ 63) else true
def IsMaze (n : Int) (d : List Door) (ks : List Int) : Prop :=
  1 ≤ n ∧ n ≤ 12 ∧ d.length ≤ 30 ∧ (ks.length : Int) = n ∧ (∀ i, i < d.length → doorB n d i = true) ∧ ∀ i, i < ks.length → setB ks i = true
instance (n : Int) (d : List Door) (ks : List Int) : Decidable (IsMaze n d ks) := by unfold IsMaze; infer_instance
section
variable {k : Nat}
def cmpI (x y : Int) : Int := if x < y then -1 else if x > y then 1 else 0
theorem compare_eq (x y : Int) : cmp_Compare_int.f k x y = some (cmpI x y) := by
  unfold cmp_Compare_int.f cmp_isNaN_int.f cmpI
  simp only [bne_self_eq_false, Option.bind_some, Bool.false_eq_true, if_false, decide_eq_true_eq]
  repeat' split
  all_goals rfl
theorem or3_eq (hk : Big ≤ k) (x y z : Int) : cmp_Or_int.f k [x, y, z] = some (if x ≠ 0 then x else if y ≠ 0 then y else z) := by
  obtain ⟨n, rfl⟩ := big_split hk
  unfold cmp_Or_int.f
  by_cases h1 : x = 0 <;> by_cases h2 : y = 0 <;> by_cases h3 : z = 0 <;>
    simp [cmp_Or_int.l0, w64_1, w64_2, w64_3, rdl3_0, rdl3_1, rdl3_2, h1, h2, h3, Lr]
theorem compareDoors_eq (hk : Big ≤ k) (x y : Door) : ∃ c, impl_compareDoors.f k x.1 x.2.1 x.2.2 y.1 y.2.1 y.2.2 = some c ∧ (c ≥ 0 ↔ ¬ DoorLt x y) ∧ (c = 0 ↔ x = y) := by
  unfold impl_compareDoors.f
  refine ⟨_, by simp only [compare_eq, Option.bind_some, or3_eq hk]; rfl, ?_, ?_⟩
  · unfold DoorLt cmpI
    repeat' split
    all_goals omega
  · obtain ⟨a, b, c⟩ := x; obtain ⟨a', b', c'⟩ := y
    simp only [Prod.mk.injEq]
    unfold cmpI
    repeat' split
    all_goals omega
theorem before_eq (hk : Big ≤ k) (x y : Door) : spec_l2Before.f k x.1 x.2.1 x.2.2 y.1 y.2.1 y.2.2 = some (decide (DoorLt x y)) := by
  obtain ⟨n, rfl⟩ := big_split hk
  obtain ⟨a, b, c⟩ := x; obtain ⟨a', b', c'⟩ := y
  unfold spec_l2Before.f DoorLt
  by_cases h1 : a = a' <;> by_cases h2 : b = b' <;> by_cases h3 : c = c' <;>
    simp [spec_l2Before.l0, w64_1, w64_2, w64_3, rdl3_0, rdl3_1, rdl3_2, h1, h2, h3, Lr]
theorem isSet_eq (x : Int) : impl_isSet.f k x = some (decide (0 ≤ x ∧ x ≤ 63)) := by unfold impl_isSet.f; rw [within_eq]; rfl
theorem l2Set_eq (x : Int) : spec_l2Set.f k x = some (decide (0 ≤ x ∧ x ≤ 63)) := by unfold spec_l2Set.f; rw [in_eq]; rfl
theorem containsFunc_eq (hk : Big ≤ k) (l : List Int) (hl : l.length ≤ 1048576) (p : Int → Option Bool) (q : Int → Bool) (hp : ∀ x ∈ l, p x = some (q x)) :
    slices_ContainsFunc_int_int.f k l p = some (l.any q) := by
  unfold slices_ContainsFunc_int_int.f slices_IndexFunc_int_int.f
  have := loop_find (l := slices_IndexFunc_int_int.l0 k l p) (N := l.length) (fun i => if h : i < l.length then (if q l[i] = true then some (i : Int) else none) else none) (z := .inl ()) (fun n i hi => by
    rw [slices_IndexFunc_int_int.l0]
    have h1 : ((i : Int) < (l.length : Int)) := by omega
    have hw : w64 ((i : Int) + 1) = ((i + 1 : Nat) : Int) := w64_id (by omega) (by omega)
    simp only [h1, decide_true, if_true, rdl_lt hi, Option.bind_some, hw, hp _ (List.getElem_mem hi), hi, dite_true]
    cases q l[i] <;> simp) (fun n => by rw [slices_IndexFunc_int_int.l0]; simp) (k := k) (by unfold Big at hk; omega)
  rw [this, Option.bind_some]
  cases hf : (List.range l.length).findSome? (fun i => if h : i < l.length then (if q l[i] = true then some (i : Int) else none) else none) with
  | none =>
    simp only [Lr, Option.bind_some]
    rw [List.findSome?_eq_none_iff] at hf
    have : l.any q = false := by
      rw [List.any_eq_false]
      intro x hx
      obtain ⟨i, hi, rfl⟩ := List.getElem_of_mem hx
      have := hf i (List.mem_range.2 hi)
      simpa [hi] using this
    simp [this]
  | some r =>
    simp only [Lr, Option.bind_some]
    obtain ⟨i, hi, h⟩ := List.exists_of_findSome?_eq_some hf
    have hi' := List.mem_range.1 hi
    simp only [hi', dite_true] at h
    split at h
    · rename_i h1; cases h
      have : l.any q = true := List.any_eq_true.2 ⟨_, List.getElem_mem hi', h1⟩
      simp [this]
    · cases h
theorem IsMaze_eq (hk : Big ≤ k) (n : Int) (d : List Door) (ks : List Int) (hd : d.length ≤ 1048576) (hl : ks.length ≤ 1048576) : impl_IsMaze.f k n d ks = some (decide (IsMaze n d ks)) := by
  unfold impl_IsMaze.f
  have hloop := loop_all (l := impl_IsMaze.l0 k n d) (N := d.length) (doorB n d) (z := false) (fun m i hi => by
    rw [impl_IsMaze.l0]
    have h1 : ((i : Int) < (d.length : Int)) := by omega
    have hw : w64 ((i : Int) + 1) = ((i + 1 : Nat) : Int) := w64_id (by omega) (by omega)
    simp only [h1, decide_true, if_true, rdl_lt hi, Option.bind_some, hw, isSet_eq]
    unfold doorB DoorOk
    rw [dif_pos hi]
    by_cases c1 : d[i].1 < 0
    · simp [c1, show ¬ (0 ≤ d[i].1) by omega]
    by_cases c2 : d[i].1 ≥ d[i].2.1
    · simp [c1, c2, show ¬ (d[i].1 < d[i].2.1) by omega]
    by_cases c3 : d[i].2.1 ≥ n
    · simp [c1, c2, c3, show ¬ (d[i].2.1 < n) by omega]
    by_cases c4 : 0 ≤ d[i].2.2 ∧ d[i].2.2 ≤ 63
    · have c : (0 ≤ d[i].1 ∧ d[i].1 < d[i].2.1 ∧ d[i].2.1 < n ∧ 0 ≤ d[i].2.2 ∧ d[i].2.2 ≤ 63) := ⟨by omega, by omega, by omega, c4⟩
      rcases Nat.eq_zero_or_pos i with rfl | hp
      · simp [c1, c2, c3, c4, c]
      · have e1 : w64 ((i : Int) - 1) = ((i - 1 : Nat) : Int) := by rw [w64_id (by omega) (by omega)]; omega
        have hi1 : i - 1 < d.length := by omega
        obtain ⟨cc, hc1, hc2, _⟩ := compareDoors_eq hk d[i - 1] d[i]
        have hp' : (i : Int) > 0 := by omega
        have hne : ¬ i = 0 := by omega
        simp only [c1, c2, c3, c4, decide_false, Bool.false_eq_true, if_false, decide_true, Bool.not_true, hp', if_true, e1, rdl_lt hi1, Option.bind_some, hc1, c, hne, Bool.true_and, Bool.false_or, and_self]
        by_cases hlt : DoorLt d[i - 1] d[i]
        · have : ¬ cc ≥ 0 := fun h => hc2.1 h hlt
          simp [hlt, this]
        · have : cc ≥ 0 := hc2.2 hlt
          simp [hlt, this]
    · simp [c1, c2, c3, c4, show ¬ (0 ≤ d[i].1 ∧ d[i].1 < d[i].2.1 ∧ d[i].2.1 < n ∧ 0 ≤ d[i].2.2 ∧ d[i].2.2 ≤ 63) from fun h => c4 h.2.2.2])
    (fun m => by rw [impl_IsMaze.l0]; simp) (k := k) (by unfold Big at hk; omega)
  rw [hloop, containsFunc_eq hk ks hl _ (fun x => !decide (0 ≤ x ∧ x ≤ 63)) (fun x _ => by simp [impl_IsMaze_1.f, isSet_eq]), within_eq]
  have hset : (∀ i, i < ks.length → setB ks i = true) ↔ ks.any (fun x => !decide (0 ≤ x ∧ x ≤ 63)) = false := by
    rw [List.any_eq_false]
    constructor
    · intro H x hx
      obtain ⟨i, hi, rfl⟩ := List.getElem_of_mem hx
      have := H i hi; simpa [setB, hi] using this
    · intro H i hi
      have := H _ (List.getElem_mem hi); simpa [setB, hi] using this
  simp only [Option.bind_some, Lr_ite]
  by_cases c1 : 1 ≤ n ∧ n ≤ 12
  rotate_left 1
  · have : ¬ IsMaze n d ks := fun h => c1 ⟨h.1, h.2.1⟩
    simp [c1, this]
  by_cases c2 : (d.length : Int) > 30
  · have : ¬ IsMaze n d ks := fun h => by have := h.2.2.1; omega
    simp [c1, c2, this]
  by_cases c3 : (ks.length : Int) = n
  rotate_left 1
  · have : ¬ IsMaze n d ks := fun h => c3 h.2.2.2.1
    simp [c1, c2, c3, this]
  by_cases c4 : ∀ i, i < d.length → doorB n d i = true
  rotate_left 1
  · have : ¬ IsMaze n d ks := fun h => c4 h.2.2.2.2.1
    simp only [c1, c2, c3, c4, this, decide_true, Bool.not_true, Bool.false_eq_true, if_false, decide_false, bne_self_eq_false, Option.bind_some, and_self]
  cases c5 : ks.any (fun x => !decide (0 ≤ x ∧ x ≤ 63)) with
  | true =>
    have : ¬ IsMaze n d ks := fun h => by have := hset.1 h.2.2.2.2.2; rw [c5] at this; cases this
    simp only [c1, c2, c3, c4, this, decide_true, Bool.not_true, Bool.false_eq_true, if_false, decide_false, bne_self_eq_false, Option.bind_some, and_self, if_true]
    simp
  | false =>
    have : IsMaze n d ks := ⟨c1.1, c1.2, by omega, c3, c4, hset.2 c5⟩
    simp only [c1, c2, c3, c4, this, decide_true, Bool.not_true, Bool.false_eq_true, if_false, decide_false, bne_self_eq_false, Option.bind_some, and_self, if_true]
    simp; exact c4
theorem l2Maze_eq (hk : Big ≤ k) (n : Int) (d : List Door) (ks : List Int) (hd : d.length ≤ 1048576) (hl : ks.length ≤ 1048576) : spec_l2Maze.f k n d ks = some (decide (IsMaze n d ks)) := by
  unfold spec_l2Maze.f
  rw [in_eq]
  by_cases c1 : 1 ≤ n ∧ n ≤ 12
  rotate_left 1
  · have : ¬ IsMaze n d ks := fun h => c1 ⟨h.1, h.2.1⟩
    simp [c1, this]
  by_cases c2 : (d.length : Int) > 30
  · have : ¬ IsMaze n d ks := fun h => by have := h.2.2.1; omega
    simp [c1, c2, this]
  by_cases c3 : (ks.length : Int) = n
  rotate_left 1
  · have : ¬ IsMaze n d ks := fun h => c3 h.2.2.2.1
    simp [c1, c2, c3, this]
  have e0 : w64 (n - 1) = n - 1 := w64_id (by omega) (by omega)
  have hloop := loop_all (l := spec_l2Maze.l0 k n d) (N := d.length) (doorB n d) (z := false) (fun m i hi => by
    rw [spec_l2Maze.l0]
    have h1 : ((i : Int) < (d.length : Int)) := by omega
    have hw : w64 ((i : Int) + 1) = ((i + 1 : Nat) : Int) := w64_id (by omega) (by omega)
    simp only [h1, decide_true, if_true, rdl_lt hi, Option.bind_some, hw, l2Set_eq, in_eq, e0]
    unfold doorB DoorOk
    rw [dif_pos hi]
    by_cases b1 : 0 ≤ d[i].1 ∧ d[i].1 ≤ n - 1
    rotate_left 1
    · have nn : ¬ (0 ≤ d[i].1 ∧ d[i].1 < d[i].2.1 ∧ d[i].2.1 < n ∧ 0 ≤ d[i].2.2 ∧ d[i].2.2 ≤ 63) := fun h => b1 ⟨h.1, by omega⟩
      rw [decide_eq_false nn]
      simp only [b1, decide_true, decide_false, Bool.not_true, Bool.not_false, Bool.false_eq_true, if_false, if_true, Bool.false_and, and_self, Option.bind_some]
    have e1 : w64 (d[i].1 + 1) = d[i].1 + 1 := w64_id (by omega) (by omega)
    rw [e1]
    by_cases b2 : d[i].1 + 1 ≤ d[i].2.1 ∧ d[i].2.1 ≤ n - 1
    rotate_left 1
    · have nn : ¬ (0 ≤ d[i].1 ∧ d[i].1 < d[i].2.1 ∧ d[i].2.1 < n ∧ 0 ≤ d[i].2.2 ∧ d[i].2.2 ≤ 63) := fun h => b2 ⟨by omega, by omega⟩
      rw [decide_eq_false nn]
      simp only [b1, b2, decide_true, decide_false, Bool.not_true, Bool.not_false, Bool.false_eq_true, if_false, if_true, Bool.false_and, and_self, Option.bind_some]
    by_cases b3 : 0 ≤ d[i].2.2 ∧ d[i].2.2 ≤ 63
    rotate_left 1
    · have nn : ¬ (0 ≤ d[i].1 ∧ d[i].1 < d[i].2.1 ∧ d[i].2.1 < n ∧ 0 ≤ d[i].2.2 ∧ d[i].2.2 ≤ 63) := fun h => b3 h.2.2.2
      rw [decide_eq_false nn]
      simp only [b1, b2, b3, decide_true, decide_false, Bool.not_true, Bool.not_false, Bool.false_eq_true, if_false, if_true, Bool.false_and, and_self, Option.bind_some]
    have c : (0 ≤ d[i].1 ∧ d[i].1 < d[i].2.1 ∧ d[i].2.1 < n ∧ 0 ≤ d[i].2.2 ∧ d[i].2.2 ≤ 63) := ⟨by omega, by omega, by omega, b3⟩
    rcases Nat.eq_zero_or_pos i with rfl | hp
    · simp [b1, b2, b3, c]
    · have e2 : w64 ((i : Int) - 1) = ((i - 1 : Nat) : Int) := by rw [w64_id (by omega) (by omega)]; omega
      have hi1 : i - 1 < d.length := by omega
      have hp' : (i : Int) > 0 := by omega
      have hne : ¬ i = 0 := by omega
      simp only [b1, b2, b3, decide_false, Bool.false_eq_true, if_false, decide_true, Bool.not_true, hp', if_true, e2, rdl_lt hi1, Option.bind_some, before_eq hk, c, hne, Bool.true_and, Bool.false_or, and_self]
      by_cases hlt : DoorLt d[i - 1] d[i] <;> simp [hlt])
    (fun m => by rw [spec_l2Maze.l0]; simp) (k := k) (by unfold Big at hk; omega)
  have hn : (ks.length : Int) = n := c3
  have hloop2 := loop_all (l := spec_l2Maze.l1 k n ks) (N := ks.length) (setB ks) (z := false) (fun m i hi => by
    rw [spec_l2Maze.l1]
    have h1 : ((i : Int) < n) := by omega
    have hw : w64 ((i : Int) + 1) = ((i + 1 : Nat) : Int) := w64_id (by omega) (by omega)
    simp only [h1, decide_true, if_true, rdl_lt hi, Option.bind_some, hw, l2Set_eq, setB, hi, dite_true]
    by_cases hs : 0 ≤ ks[i] ∧ ks[i] ≤ 63 <;> simp [hs])
    (fun m => by rw [spec_l2Maze.l1]; simp [hn]) (k := k) (by unfold Big at hk; omega)
  rw [hloop, hloop2]
  simp only [Option.bind_some, Lr_ite]
  by_cases c4 : ∀ i, i < d.length → doorB n d i = true
  rotate_left 1
  · have : ¬ IsMaze n d ks := fun h => c4 h.2.2.2.2.1
    simp only [c1, c2, c3, c4, this, decide_true, Bool.not_true, Bool.false_eq_true, if_false, decide_false, bne_self_eq_false, Option.bind_some, and_self]
  by_cases c5 : ∀ i, i < ks.length → setB ks i = true
  · have : IsMaze n d ks := ⟨c1.1, c1.2, by omega, c3, c4, c5⟩
    simp only [c1, c2, c3, this, decide_true, Bool.not_true, Bool.false_eq_true, if_false, decide_false, bne_self_eq_false, Option.bind_some, and_self, if_true]
    rw [if_pos c4, if_pos c5]
  · have : ¬ IsMaze n d ks := fun h => c5 h.2.2.2.2.2
    simp only [c1, c2, c3, this, decide_true, Bool.not_true, Bool.false_eq_true, if_false, decide_false, bne_self_eq_false, Option.bind_some, and_self, if_true]
    rw [if_pos c4, if_neg c5]
end
end Go.Proofs

/- Plain laws: D -/
namespace Go.Proofs
open Go Go.Ga Go.Ga.Wf
set_option linter.unusedVariables false
set_option linter.unusedSimpArgs false
section
variable {k : Nat}
def risingB (lo hi : Int) (l : List Int) (i : Nat) : Bool := if h : i < l.length then decide (lo ≤ l[i] ∧ l[i] ≤ hi) && (decide (i = 0) || decide (l[i - 1] < l[i])) else true
def IsTrapP (n : Int) (d : List Door) (ks tr : List Int) : Prop := IsMaze n d ks ∧ ∀ i, i < tr.length → risingB 0 ((d.length : Int) - 1) tr i = true
instance (n : Int) (d : List Door) (ks tr : List Int) : Decidable (IsTrapP n d ks tr) := by unfold IsTrapP; infer_instance
end
end Go.Proofs

/- Plain laws: E -/
namespace Go.Proofs
open Go Go.Ga Go.Ga.Wf
set_option linter.unusedVariables false
set_option linter.unusedSimpArgs false
section
variable {k : Nat}
end
end Go.Proofs

/- Plain laws: F -/
namespace Go.Proofs
open Go Go.Ga Go.Ga.Wf
set_option linter.unusedVariables false
set_option linter.unusedSimpArgs false
section
variable {k : Nat}
theorem szo_pos {a : Nat} (h : (a : Int) ≤ 1048576) : decide (szo 1048576 a < 0) = false := by unfold szo; rw [if_pos h]; simp; omega
theorem szo_neg {a : Nat} (h : ¬ (a : Int) ≤ 1048576) : decide (szo 1048576 a < 0) = true := by unfold szo; rw [if_neg h]; rfl
end
end Go.Proofs

/- Plain laws: G -/
namespace Go.Proofs
open Go Go.Ga Go.Ga.Wf
set_option linter.unusedVariables false
set_option linter.unusedSimpArgs false
section
variable {k : Nat}
end
end Go.Proofs

/- Plain laws: H -/
namespace Go.Proofs
open Go Go.Ga Go.Ga.Wf
/-! loops that go on as long as there is something to do -/
theorem loop_res {S β : Type} {l : Nat → S → Option β} (Inv : S → Prop) (mu : S → Nat) (res : S → β)
    (hs : ∀ n s, Inv s → (∃ s', l (n + 1) s = l n s' ∧ res s' = res s ∧ Inv s' ∧ mu s' < mu s) ∨ l (n + 1) s = some (res s)) : ∀ k s, mu s < k → Inv s → l k s = some (res s) := by
  intro k
  induction k with
  | zero => intro s h; omega
  | succ k ih =>
    intro s h hI
    rcases hs k s hI with ⟨s', h1, h2, h3, h4⟩ | h1
    · rw [h1, ih s' (by omega) h3, h2]
    · exact h1
/-! what is reached -/
/-! doors and keys within bounds -/
/-! what one has -/
end Go.Proofs

/- Plain laws: I -/
namespace Go.Proofs
open Go Go.Ga Go.Ga.Wf
set_option linter.unusedVariables false
set_option linter.unusedSimpArgs false
section
variable {k : Nat}
/-! a trap -/
end
end Go.Proofs

/- Plain laws: J -/
namespace Go.Proofs
open Go Go.Ga Go.Ga.Wf
set_option linter.unusedVariables false
set_option linter.unusedSimpArgs false
section
variable {k : Nat}
end
end Go.Proofs

/- Plain laws: K -/
namespace Go.Proofs
open Go Go.Ga Go.Ga.Wf
set_option linter.unusedVariables false
set_option linter.unusedSimpArgs false
section
variable {k : Nat}
/-! the reference -/
/-! the program -/
end
end Go.Proofs

/- Plain laws: L -/
namespace Go.Proofs
open Go Go.Ga Go.Ga.Wf
set_option linter.unusedVariables false
set_option linter.unusedSimpArgs false
section
variable {k : Nat}
/-! without a colour -/
end
end Go.Proofs

/- Plain laws: M -/
namespace Go.Proofs
open Go Go.Ga Go.Ga.Wf
set_option linter.unusedVariables false
set_option linter.unusedSimpArgs false
abbrev MazeT := Int × List Door × List Int
def mz1 (t : MazeT) : Nat := t.2.1.length + t.2.2.length
def mz : List MazeT → Nat
  | [] => 0
  | t :: l => mz1 t + mz l
def iz : List (List Int) → Nat
  | [] => 0
  | t :: l => t.length + iz l
theorem mz_mem : ∀ {l : List MazeT} {t : MazeT}, t ∈ l → mz1 t ≤ mz l
  | x :: l, t, h => by
    rcases List.mem_cons.1 h with rfl | h
    · simp [mz]
    · have := mz_mem h; simp [mz]; omega
theorem iz_mem : ∀ {l : List (List Int)} {t : List Int}, t ∈ l → t.length ≤ iz l
  | x :: l, t, h => by
    rcases List.mem_cons.1 h with rfl | h
    · simp [iz]
    · have := iz_mem h; simp [iz]; omega
section
variable {k : Nat}
theorem szMazeS_eq (hk : Big ≤ k) (l : List MazeT) (m : Int) (h0 : 0 ≤ m) (hm : m ≤ 1048576) (hl : l.length ≤ maxLen) (hd : ∀ t ∈ l, t.2.1.length ≤ maxLen ∧ t.2.2.length ≤ maxLen) : laws_szMazeS.f k l m = some (szo m (l.length + mz l)) := by
  unfold laws_szMazeS.f
  rw [maxLen_eq] at hl
  rw [w64_id (by omega) (by omega)]
  by_cases h : (l.length : Int) ≤ m
  rotate_left 1
  · rw [if_pos (by simp; omega)]; unfold szo; rw [if_neg (by omega)]
  rw [if_neg (by simp; omega)]
  have := loop_res (l := fun q (s : Int × Nat) => laws_szMazeS.l0 k l q s.1 (s.2 : Int)) (fun s => s.2 ≤ l.length ∧ 0 ≤ s.1 ∧ s.1 ≤ 1048576) (fun s => l.length - s.2)
    (fun s => if ((mz (l.drop s.2) : Nat) : Int) ≤ s.1 then .inl (s.1 - mz (l.drop s.2)) else .inr (-1)) (fun q ⟨x, i⟩ hI => by
      obtain ⟨h1, h2⟩ := hI
      simp only at h1 h2
      simp only
      by_cases hi : i < l.length
      rotate_left 1
      · right
        have : i = l.length := by omega
        subst this
        rw [laws_szMazeS.l0]; simp [mz]; omega
      have hlt : ((i : Int) < (l.length : Int)) := by omega
      have hw : w64 ((i : Int) + 1) = ((i + 1 : Nat) : Int) := w64_id (by omega) (by omega)
      have hdi := hd _ (List.getElem_mem hi)
      rw [laws_szMazeS.l0, List.drop_eq_getElem_cons hi]
      have hz : mz (l[i] :: l.drop (i + 1)) = mz1 l[i] + mz (l.drop (i + 1)) := rfl
      generalize mz (l[i] :: l.drop (i + 1)) = Z at *
      simp only [hlt, decide_true, if_true, rdl_lt hi, Option.bind_some, hw, szMaze_eq _ _ _ x h2.1 h2.2 hdi.1 hdi.2]
      have e1 : mz1 l[i] = l[i].2.1.length + l[i].2.2.length := rfl
      rw [← e1]
      unfold szo
      by_cases hc : ((mz1 l[i] : Nat) : Int) ≤ x
      · left
        rw [if_pos hc]
        refine ⟨(x - mz1 l[i], i + 1), ?_, ?_, ⟨by simp only; omega, by simp only; omega⟩, by simp only; omega⟩
        · rw [if_neg (by simp; omega)]
        · simp only
          by_cases hc2 : ((mz (l.drop (i + 1)) : Nat) : Int) ≤ x - mz1 l[i]
          · rw [if_pos hc2, if_pos (by omega)]; congr 1; omega
          · rw [if_neg hc2, if_neg (by omega)]
      · right
        rw [if_neg hc, if_pos (by decide), if_neg (by omega)]) k (m - l.length, 0) (by simp only; unfold Big at hk; omega) ⟨by simp, by simp only; omega, by simp only; omega⟩
  simp only [List.drop_zero] at this
  rw [show ((0 : Nat) : Int) = 0 from rfl] at this
  rw [this, Option.bind_some]
  unfold szo
  by_cases hc : ((mz l : Nat) : Int) ≤ m - l.length
  · rw [if_pos hc, if_pos (by omega)]; simp only [Lr]; congr 1; omega
  · rw [if_neg hc, if_neg (by omega)]; rfl
theorem szIntSS_eq (hk : Big ≤ k) (l : List (List Int)) (m : Int) (h0 : 0 ≤ m) (hm : m ≤ 1048576) (hl : l.length ≤ maxLen) (hd : ∀ t ∈ l, t.length ≤ maxLen) : laws_szIntSS.f k l m = some (szo m (l.length + iz l)) := by
  unfold laws_szIntSS.f
  rw [maxLen_eq] at hl
  rw [w64_id (by omega) (by omega)]
  by_cases h : (l.length : Int) ≤ m
  rotate_left 1
  · rw [if_pos (by simp; omega)]; unfold szo; rw [if_neg (by omega)]
  rw [if_neg (by simp; omega)]
  have := loop_res (l := fun q (s : Int × Nat) => laws_szIntSS.l0 k l q s.1 (s.2 : Int)) (fun s => s.2 ≤ l.length ∧ 0 ≤ s.1 ∧ s.1 ≤ 1048576) (fun s => l.length - s.2)
    (fun s => if ((iz (l.drop s.2) : Nat) : Int) ≤ s.1 then .inl (s.1 - iz (l.drop s.2)) else .inr (-1)) (fun q ⟨x, i⟩ hI => by
      obtain ⟨h1, h2⟩ := hI
      simp only at h1 h2
      simp only
      by_cases hi : i < l.length
      rotate_left 1
      · right
        have : i = l.length := by omega
        subst this
        rw [laws_szIntSS.l0]; simp [iz]; omega
      have hlt : ((i : Int) < (l.length : Int)) := by omega
      have hw : w64 ((i : Int) + 1) = ((i + 1 : Nat) : Int) := w64_id (by omega) (by omega)
      have hdi := hd _ (List.getElem_mem hi)
      rw [laws_szIntSS.l0, List.drop_eq_getElem_cons hi]
      have hz : iz (l[i] :: l.drop (i + 1)) = l[i].length + iz (l.drop (i + 1)) := rfl
      generalize iz (l[i] :: l.drop (i + 1)) = Z at *
      simp only [hlt, decide_true, if_true, rdl_lt hi, Option.bind_some, hw, szIntS_eq _ x h2.1 h2.2 hdi]
      unfold szo
      by_cases hc : ((l[i].length : Nat) : Int) ≤ x
      · left
        rw [if_pos hc]
        refine ⟨(x - l[i].length, i + 1), ?_, ?_, ⟨by simp only; omega, by simp only; omega⟩, by simp only; omega⟩
        · rw [if_neg (by simp; omega)]
        · simp only
          by_cases hc2 : ((iz (l.drop (i + 1)) : Nat) : Int) ≤ x - l[i].length
          · rw [if_pos hc2, if_pos (by omega)]; congr 1; omega
          · rw [if_neg hc2, if_neg (by omega)]
      · right
        rw [if_neg hc, if_pos (by decide), if_neg (by omega)]) k (m - l.length, 0) (by simp only; unfold Big at hk; omega) ⟨by simp, by simp only; omega, by simp only; omega⟩
  simp only [List.drop_zero] at this
  rw [show ((0 : Nat) : Int) = 0 from rfl] at this
  rw [this, Option.bind_some]
  unfold szo
  by_cases hc : ((iz l : Nat) : Int) ≤ m - l.length
  · rw [if_pos hc, if_pos (by omega)]; simp only [Lr]; congr 1; omega
  · rw [if_neg hc, if_neg (by omega)]; rfl
/-- worlds within bounds -/
structure WB (ms : List MazeT) (os : List (List Int)) : Prop where
  ml : ms.length ≤ 1048576
  ol : os.length ≤ 1048576
  md : ∀ t ∈ ms, t.2.1.length ≤ 1048576 ∧ t.2.2.length ≤ 1048576
  od : ∀ t ∈ os, t.length ≤ 1048576
def wz (ms : List MazeT) (os : List (List Int)) : Nat := ms.length + mz ms + (os.length + iz os)
theorem WB.of {ms : List MazeT} {os : List (List Int)} (h : ((wz ms os : Nat) : Int) ≤ 1048576) : WB ms os := by
  unfold wz at h
  refine ⟨by omega, by omega, fun t ht => ?_, fun t ht => ?_⟩
  · have := mz_mem ht; unfold mz1 at this; omega
  · have := iz_mem ht; omega
theorem szWorlds_eq (hk : Big ≤ k) (ms : List MazeT) (os : List (List Int)) (m : Int) (h0 : 0 ≤ m) (hm : m ≤ 1048576) (h1 : ms.length ≤ maxLen) (h2 : ∀ t ∈ ms, t.2.1.length ≤ maxLen ∧ t.2.2.length ≤ maxLen) (h3 : os.length ≤ maxLen) (h4 : ∀ t ∈ os, t.length ≤ maxLen) :
    laws_szWorlds.f k ms os m = some (szo m (wz ms os)) := by
  unfold laws_szWorlds.f wz
  rw [szMazeS_eq hk ms m h0 hm h1 h2, Option.bind_some, ← szo_add]
  by_cases h : szo m (ms.length + mz ms) < 0
  · simp [h]
  · rw [szIntSS_eq hk os _ (by omega) (szo_range h0 hm).2 h3 h4]
theorem toMazeS_eq (hk : Big ≤ k) (l : List MazeT) (hl : l.length ≤ 1048576) (hd : ∀ t ∈ l, t.2.1.length ≤ 1048576 ∧ t.2.2.length ≤ 1048576) : laws_toMazeS.f k l = some l := by
  unfold laws_toMazeS.f
  rw [if_pos (by omega)]
  rw [loop_copy (l := laws_toMazeS.l0 k l) (a := l) (fun n i s hi hs => by
    rw [laws_toMazeS.l0]
    have h1 : ((i : Int) < (l.length : Int)) := by omega
    have hw : w64 ((i : Int) + 1) = ((i + 1 : Nat) : Int) := w64_id (by omega) (by omega)
    have hdi := hd _ (List.getElem_mem hi)
    rw [if_pos (by simpa using h1), rdl_lt hi, Option.bind_some, toMaze_eq hk l[i].1 l[i].2.1 l[i].2.2 hdi.1 hdi.2, Option.bind_some, rdl_lt (show i < s.length by omega)]
    show laws_toMazeS.l0 k l n (s.set (i : Int).toNat l[i]) (w64 ((i : Int) + 1)) = _
    rw [hw, Int.toNat_natCast])
    (fun n s => by rw [laws_toMazeS.l0]; simp) (by unfold Big at hk; omega) (by rw [List.length_replicate, Int.toNat_natCast]), Option.bind_some]
theorem toIntSS_eq (hk : Big ≤ k) (l : List (List Int)) (hl : l.length ≤ 1048576) (hd : ∀ t ∈ l, t.length ≤ 1048576) : laws_toIntSS.f k l = some l := by
  unfold laws_toIntSS.f
  rw [if_pos (by omega)]
  rw [loop_copy (l := laws_toIntSS.l0 k l) (a := l) (fun n i s hi hs => by
    rw [laws_toIntSS.l0]
    have h1 : ((i : Int) < (l.length : Int)) := by omega
    have hw : w64 ((i : Int) + 1) = ((i + 1 : Nat) : Int) := w64_id (by omega) (by omega)
    rw [if_pos (by simpa using h1), rdl_lt hi, Option.bind_some, toIntS_eq hk l[i] (hd _ (List.getElem_mem hi)), Option.bind_some, rdl_lt (show i < s.length by omega), Option.bind_some, hw, Int.toNat_natCast])
    (fun n s => by rw [laws_toIntSS.l0]; simp) (by unfold Big at hk; omega) (by rw [List.length_replicate, Int.toNat_natCast]), Option.bind_some]
theorem toWorlds_eq (hk : Big ≤ k) (ms : List MazeT) (os : List (List Int)) (h : WB ms os) : laws_toWorlds.f k ms os = some (ms, os) := by
  unfold laws_toWorlds.f
  rw [toMazeS_eq hk ms h.ml h.md, Option.bind_some, toIntSS_eq hk os h.ol h.od]; rfl
theorem eqMazeS_eq (hk : Big ≤ k) (a b : List MazeT) (hl : a.length ≤ 1048576) (hd : ∀ t ∈ a, t.2.1.length ≤ 1048576 ∧ t.2.2.length ≤ 1048576) : laws_eqMazeS.f k a b = some (decide (a = b)) := by
  unfold laws_eqMazeS.f
  by_cases h : a.length = b.length
  · rw [if_neg (by simp; omega), loop_eq (l := laws_eqMazeS.l0 k a b) h (fun n i hi => by
      rw [laws_eqMazeS.l0]
      have h1 : ((i : Int) < (a.length : Int)) := by omega
      have hw : w64 ((i : Int) + 1) = ((i + 1 : Nat) : Int) := w64_id (by omega) (by omega)
      have hdi := hd _ (List.getElem_mem hi)
      simp only [h1, decide_true, if_true, rdl_lt hi, rdl_lt (show i < b.length from h ▸ hi), Option.bind_some, hw, eqMaze_eq hk _ _ _ _ _ _ hdi.1 hdi.2]
      by_cases h2 : a[i] = b[i] <;> simp [h2]) (fun n => by rw [laws_eqMazeS.l0]; simp) (by unfold Big at hk; omega), Option.bind_some, Lr_ite]
    by_cases h2 : a = b <;> simp [h2]
  · rw [if_pos (by simp; omega)]
    have : a ≠ b := fun e => h (by rw [e])
    simp [this]
theorem eqIntSS_eq (hk : Big ≤ k) (a b : List (List Int)) (hl : a.length ≤ 1048576) (hd : ∀ t ∈ a, t.length ≤ 1048576) : laws_eqIntSS.f k a b = some (decide (a = b)) := by
  unfold laws_eqIntSS.f
  by_cases h : a.length = b.length
  · rw [if_neg (by simp; omega), loop_eq (l := laws_eqIntSS.l0 k a b) h (fun n i hi => by
      rw [laws_eqIntSS.l0]
      have h1 : ((i : Int) < (a.length : Int)) := by omega
      have hw : w64 ((i : Int) + 1) = ((i + 1 : Nat) : Int) := w64_id (by omega) (by omega)
      simp only [h1, decide_true, if_true, rdl_lt hi, rdl_lt (show i < b.length from h ▸ hi), Option.bind_some, hw, eqIntS_eq hk _ _ (hd _ (List.getElem_mem hi))]
      by_cases h2 : a[i] = b[i] <;> simp [h2]) (fun n => by rw [laws_eqIntSS.l0]; simp) (by unfold Big at hk; omega), Option.bind_some, Lr_ite]
    by_cases h2 : a = b <;> simp [h2]
  · rw [if_pos (by simp; omega)]
    have : a ≠ b := fun e => h (by rw [e])
    simp [this]
theorem eqWorlds_eq (hk : Big ≤ k) (ms : List MazeT) (os : List (List Int)) (ms' : List MazeT) (os' : List (List Int)) (h : WB ms os) : laws_eqWorlds.f k ms os ms' os' = some (decide (ms = ms') && decide (os = os')) := by
  unfold laws_eqWorlds.f
  rw [eqMazeS_eq hk ms ms' h.ml h.md, eqIntSS_eq hk os os' h.ol h.od]
  by_cases h1 : ms = ms' <;> by_cases h2 : os = os' <;> simp [h1, h2]
/-! marks -/
/-! valid worlds -/
def worldOk (ms : List MazeT) (os : List (List Int)) (i : Nat) : Bool :=
  if h : i < ms.length then decide (IsMaze ms[i].1 ms[i].2.1 ms[i].2.2) && decide (((os.getD i []).length : Int) = ms[i].1) && (os.getD i []).all (fun o => decide (0 ≤ o ∧ o ≤ (ms.length : Int) - 1)) else true
def IsWorldsP (ms : List MazeT) (os : List (List Int)) : Prop := (1 ≤ ms.length ∧ ms.length ≤ 3) ∧ os.length = ms.length ∧ ∀ i, i < ms.length → worldOk ms os i = true
instance (ms : List MazeT) (os : List (List Int)) : Decidable (IsWorldsP ms os) := by unfold IsWorldsP; infer_instance
theorem IsWorlds_eq (hk : Big ≤ k) (ms : List MazeT) (os : List (List Int)) (hb : WB ms os) : impl_IsWorlds.f k ms os = some (decide (IsWorldsP ms os)) := by
  unfold impl_IsWorlds.f
  rw [within_eq]
  by_cases c1 : 1 ≤ (ms.length : Int) ∧ (ms.length : Int) ≤ 3
  rotate_left 1
  · have : ¬ IsWorldsP ms os := fun h => c1 (by have := h.1; omega)
    simp [c1, this]
  by_cases c2 : os.length = ms.length
  rotate_left 1
  · have : ¬ IsWorldsP ms os := fun h => c2 h.2.1
    have c2' : ¬ (os.length : Int) = (ms.length : Int) := by omega
    simp [c1, c2', this]
  have hw1 : w64 ((ms.length : Int) - 1) = (ms.length : Int) - 1 := w64_id (by omega) (by omega)
  simp only [c1, decide_true, Option.bind_some, Bool.not_true, Bool.false_eq_true, if_false, c2, bne_self_eq_false, and_self]
  rw [loop_all (l := impl_IsWorlds.l0 k ms os) (N := ms.length) (worldOk ms os) (z := false) (fun q i hi => by
    have hio : i < os.length := by omega
    have hlt : ((i : Int) < (ms.length : Int)) := by omega
    have hw : w64 ((i : Int) + 1) = ((i + 1 : Nat) : Int) := w64_id (by omega) (by omega)
    have hdi := hb.md _ (List.getElem_mem hi)
    have hoi := hb.od _ (List.getElem_mem hio)
    have hod : os.getD i [] = os[i] := by rw [List.getD_eq_getElem?_getD, List.getElem?_eq_getElem hio]; rfl
    rw [impl_IsWorlds.l0]
    simp only [hlt, decide_true, if_true, rdl_lt hi, rdl_lt hio, Option.bind_some, hw, IsMaze_eq hk _ _ _ hdi.1 hdi.2, containsFunc_eq hk os[i] hoi (fun z0 => impl_IsWorlds_1.f k z0 ms os) (fun x => !decide (0 ≤ x ∧ x ≤ (ms.length : Int) - 1)) (fun x _ => by simp [impl_IsWorlds_1.f, within_eq, hw1])]
    unfold worldOk
    rw [dif_pos hi, hod]
    by_cases e1 : IsMaze ms[i].1 ms[i].2.1 ms[i].2.2
    rotate_left 1
    · simp [e1]
    by_cases e2 : (os[i].length : Int) = ms[i].1
    rotate_left 1
    · simp [e1, e2]
    have e3 : os[i].any (fun x => !decide (0 ≤ x ∧ x ≤ (ms.length : Int) - 1)) = !os[i].all (fun o => decide (0 ≤ o ∧ o ≤ (ms.length : Int) - 1)) := by
      rw [List.not_all_eq_any_not]
    simp only [e1, e2, decide_true, Bool.not_true, Bool.false_eq_true, if_false, bne_self_eq_false, Option.bind_some, e3, Bool.true_and]
    cases os[i].all (fun o => decide (0 ≤ o ∧ o ≤ (ms.length : Int) - 1)) <;> simp) (fun q => by rw [impl_IsWorlds.l0]; simp) (by have := hb.ml; unfold Big at hk; omega), Option.bind_some, Lr_ite]
  by_cases c3 : ∀ i, i < ms.length → worldOk ms os i = true
  · rw [if_pos c3, decide_eq_true (show IsWorldsP ms os from ⟨by omega, c2, c3⟩)]
  · rw [if_neg c3, decide_eq_false (fun h : IsWorldsP ms os => c3 h.2.2)]
theorem l10Worlds_eq (hk : Big ≤ k) (ms : List MazeT) (os : List (List Int)) (hb : WB ms os) : spec_l10Worlds.f k ms os = some (decide (IsWorldsP ms os)) := by
  unfold spec_l10Worlds.f
  rw [in_eq]
  by_cases c1 : 1 ≤ (ms.length : Int) ∧ (ms.length : Int) ≤ 3
  rotate_left 1
  · have : ¬ IsWorldsP ms os := fun h => c1 (by have := h.1; omega)
    simp [c1, this]
  by_cases c2 : os.length = ms.length
  rotate_left 1
  · have : ¬ IsWorldsP ms os := fun h => c2 h.2.1
    have c2' : ¬ (os.length : Int) = (ms.length : Int) := by omega
    simp [c1, c2', this]
  have hw1 : w64 ((ms.length : Int) - 1) = (ms.length : Int) - 1 := w64_id (by omega) (by omega)
  simp only [c1, decide_true, Option.bind_some, Bool.not_true, Bool.false_eq_true, if_false, c2, bne_self_eq_false, and_self]
  rw [loop_all (l := spec_l10Worlds.l0 k ms os) (N := ms.length) (worldOk ms os) (z := false) (fun q i hi => by
    have hio : i < os.length := by omega
    have hlt : ((i : Int) < (ms.length : Int)) := by omega
    have hw : w64 ((i : Int) + 1) = ((i + 1 : Nat) : Int) := w64_id (by omega) (by omega)
    have hdi := hb.md _ (List.getElem_mem hi)
    have hoi := hb.od _ (List.getElem_mem hio)
    have hod : os.getD i [] = os[i] := by rw [List.getD_eq_getElem?_getD, List.getElem?_eq_getElem hio]; rfl
    have hin := loop_all (l := spec_l10Worlds.l1 k ms os (i : Int)) (N := os[i].length) (fun j => if hj : j < os[i].length then decide (0 ≤ os[i][j] ∧ os[i][j] ≤ (ms.length : Int) - 1) else true) (z := false) (fun q j hj => by
      have hlt : ((j : Int) < (os[i].length : Int)) := by omega
      have hw : w64 ((j : Int) + 1) = ((j + 1 : Nat) : Int) := w64_id (by omega) (by omega)
      rw [spec_l10Worlds.l1]
      simp only [rdl_lt hio, Option.bind_some, hlt, decide_true, if_true, rdl_lt hj, in_eq, hw1, hw, hj, dite_true]
      by_cases hc : 0 ≤ os[i][j] ∧ os[i][j] ≤ (ms.length : Int) - 1 <;> simp [hc]) (fun q => by rw [spec_l10Worlds.l1]; simp [rdl_lt hio]) (k := k) (by unfold Big at hk; omega)
    have hall : (∀ j, j < os[i].length → (if hj : j < os[i].length then decide (0 ≤ os[i][j] ∧ os[i][j] ≤ (ms.length : Int) - 1) else true) = true) ↔ os[i].all (fun o => decide (0 ≤ o ∧ o ≤ (ms.length : Int) - 1)) = true := by
      rw [List.all_eq_true]
      constructor
      · intro H x hx
        obtain ⟨j, hj, rfl⟩ := List.getElem_of_mem hx
        have := H j hj; rwa [dif_pos hj] at this
      · intro H j hj
        rw [dif_pos hj]; exact H _ (List.getElem_mem hj)
    rw [spec_l10Worlds.l0]
    simp only [hlt, decide_true, if_true, rdl_lt hi, rdl_lt hio, Option.bind_some, hw, l2Maze_eq hk _ _ _ hdi.1 hdi.2, hin]
    unfold worldOk
    rw [dif_pos hi, hod]
    by_cases e1 : IsMaze ms[i].1 ms[i].2.1 ms[i].2.2
    rotate_left 1
    · simp [e1]
    by_cases e2 : (os[i].length : Int) = ms[i].1
    rotate_left 1
    · simp [e1, e2]
    simp only [e1, e2, decide_true, Bool.not_true, Bool.false_eq_true, if_false, bne_self_eq_false, Option.bind_some, Bool.true_and, Lr_ite]
    by_cases e3 : os[i].all (fun o => decide (0 ≤ o ∧ o ≤ (ms.length : Int) - 1)) = true
    · rw [if_pos (hall.2 e3), if_pos e3]
    · rw [if_neg (fun h => e3 (hall.1 h)), if_neg e3]) (fun q => by rw [spec_l10Worlds.l0]; simp) (by have := hb.ml; unfold Big at hk; omega), Option.bind_some, Lr_ite]
  by_cases c3 : ∀ i, i < ms.length → worldOk ms os i = true
  · rw [if_pos c3, decide_eq_true (show IsWorldsP ms os from ⟨by omega, c2, c3⟩)]
  · rw [if_neg c3, decide_eq_false (fun h : IsWorldsP ms os => c3 h.2.2)]
theorem wfd_worlds {ms : List MazeT} {os : List (List Int)} (h : wfd (ms, os)) : (ms.length ≤ maxLen ∧ ∀ t ∈ ms, t.2.1.length ≤ maxLen ∧ t.2.2.length ≤ maxLen) ∧ os.length ≤ maxLen ∧ ∀ t ∈ os, t.length ≤ maxLen :=
  ⟨⟨h.1.1, fun t ht => ⟨(h.1.2 t ht).2.1.1, (h.1.2 t ht).2.2.1⟩⟩, h.2.1, fun t ht => (h.2.2 t ht).1⟩
theorem laws_FnExactIsWorlds.pure (x : List (Int × List (Int × Int × Int) × List Int) × List (List Int)) (h : wfd x) : ∃ k, laws_FnExactIsWorlds.f k x.1 x.2 = some true := by
  refine ⟨Big, ?_⟩
  have hk : Big ≤ Big := Nat.le_refl _
  obtain ⟨ms, os⟩ := x
  have hw := wfd_worlds h
  unfold laws_FnExactIsWorlds.f
  simp only [szWorlds_eq hk ms os _ (by decide : (0 : Int) ≤ 1048576) (Int.le_refl _) hw.1.1 hw.1.2 hw.2.1 hw.2.2, Option.bind_some]
  by_cases hc : ((wz ms os : Nat) : Int) ≤ 1048576
  · have hb := WB.of hc
    simp only [szo_pos hc, Bool.false_eq_true, if_false, toWorlds_eq hk ms os hb, spec_IsWorlds.f, l10Worlds_eq hk ms os hb, IsWorlds_eq hk ms os hb, Option.bind_some, eqWorlds_eq hk ms os ms os hb]
    simp
  · simp only [szo_neg hc, if_true]
/-! one maze alone -/
end
end Go.Proofs

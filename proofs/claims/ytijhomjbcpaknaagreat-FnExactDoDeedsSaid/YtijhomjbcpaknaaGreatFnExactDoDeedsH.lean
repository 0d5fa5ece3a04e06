/- A part of the proof of FnExactDoDeeds: the plain law. No condition. -/
import Derived.Test.YtijhomjbcpaknaaGreatFnExactDoDeedsB
import Derived.Test.YtijhomjbcpaknaaGreatFnExactDoDeedsC
import Derived.Test.YtijhomjbcpaknaaGreatFnExactDoDeedsD
import Derived.Test.YtijhomjbcpaknaaGreatFnExactDoDeedsE
import Derived.Test.YtijhomjbcpaknaaGreatFnExactDoDeedsF
import Derived.Test.YtijhomjbcpaknaaGreatFnExactDoDeedsG
set_option linter.unusedSimpArgs false
/- Plain laws: A -/
namespace Go.Proofs
open Go Go.Ga Go.Ga.Wf
set_option linter.unusedVariables false
set_option linter.unusedSimpArgs false
section
variable {k : Nat}
theorem within_eq (x a b : Int) : impl_within.f k x a b = some (decide (a ≤ x ∧ x ≤ b)) := by
  unfold impl_within.f
  by_cases h : a ≤ x <;> simp [h]
theorem in_eq (x a b : Int) : spec_l1In.f k x a b = some (decide (a ≤ x ∧ x ≤ b)) := by
  unfold spec_l1In.f
  by_cases h : a ≤ x <;> simp [h, ge_iff_le]
end
end Go.Proofs

/- Plain laws: B -/
namespace Go.Ga
open Go
def szo (m : Int) (n : Nat) : Int := if (n : Int) ≤ m then m - n else -1
theorem loop_copy {α : Type} {l : Nat → List α → Int → Option (List α)} {a : List α}
    (hs : ∀ n (i : Nat) (s : List α) (hi : i < a.length), s.length = a.length → l (n + 1) s (i : Int) = l n (s.set i a[i]) ((i + 1 : Nat) : Int))
    (he : ∀ n s, l (n + 1) s (a.length : Int) = some s) {k : Nat} (hk : a.length < k) {s : List α} (h0 : s.length = a.length) : l k s 0 = some a := by
  have key : ∀ m i k s, i + m = a.length → m < k → s.length = a.length → (∀ j, j < i → s[j]? = a[j]?) → l k s (i : Int) = some a := by
    intro m
    induction m with
    | zero =>
      intro i k s hi hk h1 h2
      obtain ⟨n, rfl⟩ : ∃ n, k = n + 1 := ⟨k - 1, by omega⟩
      have : i = a.length := by omega
      subst this
      rw [he]
      congr 1
      refine List.ext_getElem? fun j => ?_
      rcases Nat.lt_or_ge j a.length with h | h
      · exact h2 j h
      · rw [List.getElem?_eq_none (by omega), List.getElem?_eq_none h]
    | succ m ih =>
      intro i k s hi hk h1 h2
      obtain ⟨n, rfl⟩ : ∃ n, k = n + 1 := ⟨k - 1, by omega⟩
      rw [hs n i s (by omega) h1]
      refine ih (i + 1) n _ (by omega) (by omega) (by simpa using h1) fun j hj => ?_
      rcases Nat.eq_or_lt_of_le (Nat.le_of_lt_succ hj) with rfl | h
      · rw [List.getElem?_set_self (by omega), List.getElem?_eq_getElem (by omega)]
      · rw [List.getElem?_set_ne (by omega)]; exact h2 j h
  have := key a.length 0 k s (by omega) hk h0 (by omega)
  simpa using this
theorem loop_eq {α : Type} [DecidableEq α] {l : Nat → Int → Option (Unit ⊕ Bool)} {a b : List α} (hl : a.length = b.length)
    (hs : ∀ n (i : Nat) (hi : i < a.length), l (n + 1) (i : Int) = if a[i] = b[i] then l n ((i + 1 : Nat) : Int) else some (.inr false))
    (he : ∀ n, l (n + 1) (a.length : Int) = some (.inl ())) {k : Nat} (hk : a.length < k) : l k 0 = some (if a = b then .inl () else .inr false) := by
  rw [loop_all (l := l) (N := a.length) (fun i => decide (a[i]? = b[i]?)) (z := false) (fun n i hi => by
    rw [hs n i hi, List.getElem?_eq_getElem hi, List.getElem?_eq_getElem (by omega)]
    simp) he hk]
  congr 1
  have : (∀ i, i < a.length → decide (a[i]? = b[i]?) = true) ↔ a = b := by
    constructor
    · intro h
      refine List.ext_getElem? fun i => ?_
      rcases Nat.lt_or_ge i a.length with h1 | h1
      · simpa using h i h1
      · rw [List.getElem?_eq_none h1, List.getElem?_eq_none (by omega)]
    · rintro rfl i _; simp
  by_cases h : a = b
  · rw [if_pos h, if_pos (this.2 h)]
  · rw [if_neg h, if_neg (fun H => h (this.1 H))]
theorem w64_1 : w64 1 = 1 := rfl
theorem w64_2 : w64 2 = 2 := rfl
theorem w64_3 : w64 3 = 3 := rfl
theorem rdl3_0 {α : Type} {x y z : α} : rdl [x, y, z] 0 = some x := rfl
theorem rdl3_1 {α : Type} {x y z : α} : rdl [x, y, z] 1 = some y := rfl
theorem rdl3_2 {α : Type} {x y z : α} : rdl [x, y, z] 2 = some z := rfl
end Go.Ga
namespace Go.Proofs
open Go Go.Ga Go.Ga.Wf
set_option linter.unusedVariables false
set_option linter.unusedSimpArgs false
section
variable {k : Nat}
theorem big_split (hk : Big ≤ k) : ∃ n, k = n + 5 := ⟨k - 5, by unfold Big at hk; omega⟩
theorem maxLen_eq : maxLen = 9223372036854775807 := by decide
theorem szIntS_eq (l : List Int) (m : Int) (h0 : 0 ≤ m) (hm : m ≤ 1048576) (hl : l.length ≤ maxLen) : laws_szIntS.f k l m = some (szo m l.length) := by
  unfold laws_szIntS.f szo
  rw [maxLen_eq] at hl
  rw [w64_id (by omega) (by omega)]
  by_cases h : (l.length : Int) ≤ m
  · rw [if_neg (by simp; omega), if_pos h]
  · rw [if_pos (by simp; omega), if_neg h]
theorem szIntA3S_eq (l : List (Int × Int × Int)) (m : Int) (h0 : 0 ≤ m) (hm : m ≤ 1048576) (hl : l.length ≤ maxLen) : laws_szIntA3S.f k l m = some (szo m l.length) := by
  unfold laws_szIntA3S.f szo
  rw [maxLen_eq] at hl
  rw [w64_id (by omega) (by omega)]
  by_cases h : (l.length : Int) ≤ m
  · rw [if_neg (by simp; omega), if_pos h]
  · rw [if_pos (by simp; omega), if_neg h]
theorem szo_add (m : Int) (a b : Nat) : (if decide (szo m a < 0) = true then some (-1) else (some (szo (szo m a) b)).bind fun t => if decide (t < 0) = true then some (-1) else some t) = some (szo m (a + b)) := by
  unfold szo
  by_cases h : (a : Int) ≤ m
  · have h1 : ¬ (m - (a : Int) < 0) := by omega
    by_cases h2 : (b : Int) ≤ m - a
    · have h3 : ¬ (m - (a : Int) - b < 0) := by omega
      have h4 : ((a + b : Nat) : Int) ≤ m := by omega
      simp only [h, h1, h2, h3, h4, if_true, decide_false, Bool.false_eq_true, if_false, Option.bind_some]; congr 1; omega
    · have h4 : ¬ ((a + b : Nat) : Int) ≤ m := by omega
      simp only [h, h1, h2, h4, if_true, decide_false, Bool.false_eq_true, if_false, Option.bind_some]; simp
  · have h4 : ¬ ((a + b : Nat) : Int) ≤ m := by omega
    simp only [h, h4, if_false]; simp
theorem szo_range {m : Int} {n : Nat} (h0 : 0 ≤ m) (hm : m ≤ 1048576) : -1 ≤ szo m n ∧ szo m n ≤ 1048576 := by unfold szo; split <;> omega
theorem szMaze_eq (n : Int) (d : List (Int × Int × Int)) (ks : List Int) (m : Int) (h0 : 0 ≤ m) (hm : m ≤ 1048576) (hd : d.length ≤ maxLen) (hl : ks.length ≤ maxLen) :
    laws_szMaze.f k n d ks m = some (szo m (d.length + ks.length)) := by
  unfold laws_szMaze.f
  rw [szIntA3S_eq d m h0 hm hd, Option.bind_some, ← szo_add]
  by_cases h : szo m d.length < 0
  · simp [h]
  · rw [szIntS_eq ks _ (by omega) (szo_range h0 hm).2 hl]
theorem toIntS_eq (hk : Big ≤ k) (l : List Int) (hl : l.length ≤ 1048576) : laws_toIntS.f k l = some l := by
  unfold laws_toIntS.f
  rw [if_pos (by omega)]
  rw [loop_copy (l := laws_toIntS.l0 k l) (a := l) (fun n i s hi hs => by
    rw [laws_toIntS.l0]
    have h1 : ((i : Int) < (l.length : Int)) := by omega
    have hw : w64 ((i : Int) + 1) = ((i + 1 : Nat) : Int) := w64_id (by omega) (by omega)
    simp only [h1, decide_true, if_true, rdl_lt hi, rdl_lt (hs ▸ hi), Option.bind_some, hw, Int.toNat_natCast])
    (fun n s => by rw [laws_toIntS.l0]; simp) (by unfold Big at hk; omega) (by simp)]
  rfl
theorem toIntA3_eq (hk : Big ≤ k) (a b c : Int) : laws_toIntA3.f k a b c = some (a, b, c) := by
  obtain ⟨n, rfl⟩ := big_split hk
  unfold laws_toIntA3.f
  simp [laws_toIntA3.l0, w64_1, w64_2, w64_3, rdl3_0, rdl3_1, rdl3_2]
theorem toIntA3S_eq (hk : Big ≤ k) (l : List (Int × Int × Int)) (hl : l.length ≤ 1048576) : laws_toIntA3S.f k l = some l := by
  unfold laws_toIntA3S.f
  rw [if_pos (by omega)]
  rw [loop_copy (l := laws_toIntA3S.l0 k l) (a := l) (fun n i s hi hs => by
    rw [laws_toIntA3S.l0]
    have h1 : ((i : Int) < (l.length : Int)) := by omega
    have hw : w64 ((i : Int) + 1) = ((i + 1 : Nat) : Int) := w64_id (by omega) (by omega)
    simp only [h1, decide_true, if_true, rdl_lt hi, rdl_lt (hs ▸ hi), Option.bind_some, hw, Int.toNat_natCast, toIntA3_eq hk])
    (fun n s => by rw [laws_toIntA3S.l0]; simp) (by unfold Big at hk; omega) (by simp)]
  rfl
theorem toMaze_eq (hk : Big ≤ k) (n : Int) (d : List (Int × Int × Int)) (ks : List Int) (hd : d.length ≤ 1048576) (hl : ks.length ≤ 1048576) : laws_toMaze.f k n d ks = some (n, d, ks) := by
  unfold laws_toMaze.f
  rw [toIntA3S_eq hk d hd, Option.bind_some, toIntS_eq hk ks hl, Option.bind_some]
theorem eqIntS_eq (hk : Big ≤ k) (a b : List Int) (hl : a.length ≤ 1048576) : laws_eqIntS.f k a b = some (decide (a = b)) := by
  unfold laws_eqIntS.f
  by_cases h : a.length = b.length
  · rw [if_neg (by simp; omega), loop_eq (l := laws_eqIntS.l0 k a b) h (fun n i hi => by
      rw [laws_eqIntS.l0]
      have h1 : ((i : Int) < (a.length : Int)) := by omega
      have hw : w64 ((i : Int) + 1) = ((i + 1 : Nat) : Int) := w64_id (by omega) (by omega)
      simp only [h1, decide_true, if_true, rdl_lt hi, rdl_lt (h ▸ hi), Option.bind_some, hw]
      by_cases h2 : a[i] = b[i] <;> simp [h2]) (fun n => by rw [laws_eqIntS.l0]; simp) (by unfold Big at hk; omega), Option.bind_some, Lr_ite]
    by_cases h2 : a = b <;> simp [h2]
  · rw [if_pos (by simp; omega)]
    have : a ≠ b := fun e => h (by rw [e])
    simp [this]
theorem eqIntA3_eq (hk : Big ≤ k) (a b c a' b' c' : Int) : laws_eqIntA3.f k a b c a' b' c' = some (decide ((a, b, c) = (a', b', c'))) := by
  obtain ⟨n, rfl⟩ := big_split hk
  unfold laws_eqIntA3.f
  by_cases h1 : a = a' <;> by_cases h2 : b = b' <;> by_cases h3 : c = c' <;>
    simp [laws_eqIntA3.l0, w64_1, w64_2, w64_3, rdl3_0, rdl3_1, rdl3_2, h1, h2, h3, Lr]
theorem eqIntA3S_eq (hk : Big ≤ k) (a b : List (Int × Int × Int)) (hl : a.length ≤ 1048576) : laws_eqIntA3S.f k a b = some (decide (a = b)) := by
  unfold laws_eqIntA3S.f
  by_cases h : a.length = b.length
  · rw [if_neg (by simp; omega), loop_eq (l := laws_eqIntA3S.l0 k a b) h (fun n i hi => by
      rw [laws_eqIntA3S.l0]
      have h1 : ((i : Int) < (a.length : Int)) := by omega
      have hw : w64 ((i : Int) + 1) = ((i + 1 : Nat) : Int) := w64_id (by omega) (by omega)
      simp only [h1, decide_true, if_true, rdl_lt hi, rdl_lt (h ▸ hi), Option.bind_some, hw, eqIntA3_eq hk]
      by_cases h2 : a[i] = b[i] <;> simp [h2]) (fun n => by rw [laws_eqIntA3S.l0]; simp) (by unfold Big at hk; omega), Option.bind_some, Lr_ite]
    by_cases h2 : a = b <;> simp [h2]
  · rw [if_pos (by simp; omega)]
    have : a ≠ b := fun e => h (by rw [e])
    simp [this]
theorem eqMaze_eq (hk : Big ≤ k) (n n' : Int) (d d' : List (Int × Int × Int)) (ks ks' : List Int) (hd : d.length ≤ 1048576) (hl : ks.length ≤ 1048576) :
    laws_eqMaze.f k n d ks n' d' ks' = some (decide ((n, d, ks) = (n', d', ks'))) := by
  unfold laws_eqMaze.f
  rw [eqIntA3S_eq hk d d' hd, eqIntS_eq hk ks ks' hl]
  by_cases h1 : n = n' <;> by_cases h2 : d = d' <;> by_cases h3 : ks = ks' <;> simp [h1, h2, h3]
end
end Go.Proofs

/- Plain laws: C -/
namespace Go.Proofs
open Go Go.Ga Go.Ga.Wf
set_option linter.unusedVariables false
set_option linter.unusedSimpArgs false
abbrev Door := Int × Int × Int
def DoorOk (n : Int) (x : Door) : Prop := 0 ≤ x.1 ∧ x.1 < x.2.1 ∧ x.2.1 < n ∧ 0 ≤ x.2.2 ∧ x.2.2 ≤ 63
def DoorLt (a b : Door) : Prop := a.1 < b.1 ∨ (a.1 = b.1 ∧ (a.2.1 < b.2.1 ∨ (a.2.1 = b.2.1 ∧ a.2.2 < b.2.2)))
instance (n : Int) (x : Door) : Decidable (DoorOk n x) := by unfold DoorOk; infer_instance
instance (a b : Door) : Decidable (DoorLt a b) := by unfold DoorLt; infer_instance
def doorB (n : Int) (d : List Door) (i : Nat) : Bool := if h : i < d.length then decide (DoorOk n d[i]) && (decide (i = 0) || decide (DoorLt d[i - 1] d[i])) else true
def setB (ks : List Int) (i : Nat) : Bool := if h : i < ks.length then decide (0 ≤ ks[i] ∧ ks[i] ≤ 63) else true
def IsMaze (n : Int) (d : List Door) (ks : List Int) : Prop :=
  1 ≤ n ∧ n ≤ 12 ∧ d.length ≤ 30 ∧ (ks.length : Int) = n ∧ (∀ i, i < d.length → doorB n d i = true) ∧ ∀ i, i < ks.length → setB ks i = true
instance (n : Int) (d : List Door) (ks : List Int) : Decidable (IsMaze n d ks) := by unfold IsMaze; infer_instance
section
variable {k : Nat}
def cmpI (x y : Int) : Int := if x < y then -1 else if x > y then 1 else 0
theorem compare_eq (x y : Int) : cmp_Compare_int.f k x y = some (cmpI x y) := by
  unfold cmp_Compare_int.f cmp_isNaN_int.f cmpI
  simp only [bne_self_eq_false, Option.bind_some, Bool.false_eq_true, if_false, decide_eq_true_eq]
  repeat' split
  all_goals rfl
theorem or3_eq (hk : Big ≤ k) (x y z : Int) : cmp_Or_int.f k [x, y, z] = some (if x ≠ 0 then x else if y ≠ 0 then y else z) := by
  obtain ⟨n, rfl⟩ := big_split hk
  unfold cmp_Or_int.f
  by_cases h1 : x = 0 <;> by_cases h2 : y = 0 <;> by_cases h3 : z = 0 <;>
    simp [cmp_Or_int.l0, w64_1, w64_2, w64_3, rdl3_0, rdl3_1, rdl3_2, h1, h2, h3, Lr]
theorem compareDoors_eq (hk : Big ≤ k) (x y : Door) : ∃ c, impl_compareDoors.f k x.1 x.2.1 x.2.2 y.1 y.2.1 y.2.2 = some c ∧ (c ≥ 0 ↔ ¬ DoorLt x y) ∧ (c = 0 ↔ x = y) := by
  unfold impl_compareDoors.f
  refine ⟨_, by simp only [compare_eq, Option.bind_some, or3_eq hk]; rfl, ?_, ?_⟩
  · unfold DoorLt cmpI
    repeat' split
    all_goals omega
  · obtain ⟨a, b, c⟩ := x; obtain ⟨a', b', c'⟩ := y
    simp only [Prod.mk.injEq]
    unfold cmpI
    repeat' split
    all_goals omega
theorem before_eq (hk : Big ≤ k) (x y : Door) : spec_l2Before.f k x.1 x.2.1 x.2.2 y.1 y.2.1 y.2.2 = some (decide (DoorLt x y)) := by
  obtain ⟨n, rfl⟩ := big_split hk
  obtain ⟨a, b, c⟩ := x; obtain ⟨a', b', c'⟩ := y
  unfold spec_l2Before.f DoorLt
  by_cases h1 : a = a' <;> by_cases h2 : b = b' <;> by_cases h3 : c = c' <;>
    simp [spec_l2Before.l0, w64_1, w64_2, w64_3, rdl3_0, rdl3_1, rdl3_2, h1, h2, h3, Lr]
theorem isSet_eq (x : Int) : impl_isSet.f k x = some (decide (0 ≤ x ∧ x ≤ 63)) := by unfold impl_isSet.f; rw [within_eq]; rfl
theorem l2Set_eq (x : Int) : spec_l2Set.f k x = some (decide (0 ≤ x ∧ x ≤ 63)) := by unfold spec_l2Set.f; rw [in_eq]; rfl
theorem containsFunc_eq (hk : Big ≤ k) (l : List Int) (hl : l.length ≤ 1048576) (p : Int → Option Bool) (q : Int → Bool) (hp : ∀ x ∈ l, p x = some (q x)) :
    slices_ContainsFunc_int_int.f k l p = some (l.any q) := by
  unfold slices_ContainsFunc_int_int.f slices_IndexFunc_int_int.f
  have := loop_find (l := slices_IndexFunc_int_int.l0 k l p) (N := l.length) (fun i => if h : i < l.length then (if q l[i] = true then some (i : Int) else none) else none) (z := .inl ()) (fun n i hi => by
    rw [slices_IndexFunc_int_int.l0]
    have h1 : ((i : Int) < (l.length : Int)) := by omega
    have hw : w64 ((i : Int) + 1) = ((i + 1 : Nat) : Int) := w64_id (by omega) (by omega)
    simp only [h1, decide_true, if_true, rdl_lt hi, Option.bind_some, hw, hp _ (List.getElem_mem hi), hi, dite_true]
    cases q l[i] <;> simp) (fun n => by rw [slices_IndexFunc_int_int.l0]; simp) (k := k) (by unfold Big at hk; omega)
  rw [this, Option.bind_some]
  cases hf : (List.range l.length).findSome? (fun i => if h : i < l.length then (if q l[i] = true then some (i : Int) else none) else none) with
  | none =>
    simp only [Lr, Option.bind_some]
    rw [List.findSome?_eq_none_iff] at hf
    have : l.any q = false := by
      rw [List.any_eq_false]
      intro x hx
      obtain ⟨i, hi, rfl⟩ := List.getElem_of_mem hx
      have := hf i (List.mem_range.2 hi)
      simpa [hi] using this
    simp [this]
  | some r =>
    simp only [Lr, Option.bind_some]
    obtain ⟨i, hi, h⟩ := List.exists_of_findSome?_eq_some hf
    have hi' := List.mem_range.1 hi
    simp only [hi', dite_true] at h
    split at h
    · rename_i h1; cases h
      have : l.any q = true := List.any_eq_true.2 ⟨_, List.getElem_mem hi', h1⟩
      simp [this]
    · cases h
theorem IsMaze_eq (hk : Big ≤ k) (n : Int) (d : List Door) (ks : List Int) (hd : d.length ≤ 1048576) (hl : ks.length ≤ 1048576) : impl_IsMaze.f k n d ks = some (decide (IsMaze n d ks)) := by
  unfold impl_IsMaze.f
  have hloop := loop_all (l := impl_IsMaze.l0 k n d) (N := d.length) (doorB n d) (z := false) (fun m i hi => by
    rw [impl_IsMaze.l0]
    have h1 : ((i : Int) < (d.length : Int)) := by omega
    have hw : w64 ((i : Int) + 1) = ((i + 1 : Nat) : Int) := w64_id (by omega) (by omega)
    simp only [h1, decide_true, if_true, rdl_lt hi, Option.bind_some, hw, isSet_eq]
    unfold doorB DoorOk
    rw [dif_pos hi]
    by_cases c1 : d[i].1 < 0
    · simp [c1, show ¬ (0 ≤ d[i].1) by omega]
    by_cases c2 : d[i].1 ≥ d[i].2.1
    · simp [c1, c2, show ¬ (d[i].1 < d[i].2.1) by omega]
    by_cases c3 : d[i].2.1 ≥ n
    · simp [c1, c2, c3, show ¬ (d[i].2.1 < n) by omega]
    by_cases c4 : 0 ≤ d[i].2.2 ∧ d[i].2.2 ≤ 63
    · have c : (0 ≤ d[i].1 ∧ d[i].1 < d[i].2.1 ∧ d[i].2.1 < n ∧ 0 ≤ d[i].2.2 ∧ d[i].2.2 ≤ 63) := ⟨by omega, by omega, by omega, c4⟩
      rcases Nat.eq_zero_or_pos i with rfl | hp
      · simp [c1, c2, c3, c4, c]
      · have e1 : w64 ((i : Int) - 1) = ((i - 1 : Nat) : Int) := by rw [w64_id (by omega) (by omega)]; omega
        have hi1 : i - 1 < d.length := by omega
        obtain ⟨cc, hc1, hc2, _⟩ := compareDoors_eq hk d[i - 1] d[i]
        have hp' : (i : Int) > 0 := by omega
        have hne : ¬ i = 0 := by omega
        simp only [c1, c2, c3, c4, decide_false, Bool.false_eq_true, if_false, decide_true, Bool.not_true, hp', if_true, e1, rdl_lt hi1, Option.bind_some, hc1, c, hne, Bool.true_and, Bool.false_or, and_self]
        by_cases hlt : DoorLt d[i - 1] d[i]
        · have : ¬ cc ≥ 0 := fun h => hc2.1 h hlt
          simp [hlt, this]
        · have : cc ≥ 0 := hc2.2 hlt
          simp [hlt, this]
    · simp [c1, c2, c3, c4, show ¬ (0 ≤ d[i].1 ∧ d[i].1 < d[i].2.1 ∧ d[i].2.1 < n ∧ 0 ≤ d[i].2.2 ∧ d[i].2.2 ≤ 63) from fun h => c4 h.2.2.2])
    (fun m => by rw [impl_IsMaze.l0]; simp) (k := k) (by unfold Big at hk; omega)
  rw [hloop, containsFunc_eq hk ks hl _ (fun x => !decide (0 ≤ x ∧ x ≤ 63)) (fun x _ => by simp [impl_IsMaze_1.f, isSet_eq]), within_eq]
  have hset : (∀ i, i < ks.length → setB ks i = true) ↔ ks.any (fun x => !decide (0 ≤ x ∧ x ≤ 63)) = false := by
    rw [List.any_eq_false]
    constructor
    · intro H x hx
      obtain ⟨i, hi, rfl⟩ := List.getElem_of_mem hx
      have := H i hi; simpa [setB, hi] using this
    · intro H i hi
      have := H _ (List.getElem_mem hi); simpa [setB, hi] using this
  simp only [Option.bind_some, Lr_ite]
  by_cases c1 : 1 ≤ n ∧ n ≤ 12
  rotate_left 1
  · have : ¬ IsMaze n d ks := fun h => c1 ⟨h.1, h.2.1⟩
    simp [c1, this]
  by_cases c2 : (d.length : Int) > 30
  · have : ¬ IsMaze n d ks := fun h => by have := h.2.2.1; omega
    simp [c1, c2, this]
  by_cases c3 : (ks.length : Int) = n
  rotate_left 1
  · have : ¬ IsMaze n d ks := fun h => c3 h.2.2.2.1
    simp [c1, c2, c3, this]
  by_cases c4 : ∀ i, i < d.length → doorB n d i = true
  rotate_left 1
  · have : ¬ IsMaze n d ks := fun h => c4 h.2.2.2.2.1
    simp only [c1, c2, c3, c4, this, decide_true, Bool.not_true, Bool.false_eq_true, if_false, decide_false, bne_self_eq_false, Option.bind_some, and_self]
  cases c5 : ks.any (fun x => !decide (0 ≤ x ∧ x ≤ 63)) with
  | true =>
    have : ¬ IsMaze n d ks := fun h => by have := hset.1 h.2.2.2.2.2; rw [c5] at this; cases this
    simp only [c1, c2, c3, c4, this, decide_true, Bool.not_true, Bool.false_eq_true, if_false, decide_false, bne_self_eq_false, Option.bind_some, and_self, if_true]
    simp
  | false =>
    have : IsMaze n d ks := ⟨c1.1, c1.2, by omega, c3, c4, hset.2 c5⟩
    simp only [c1, c2, c3, c4, this, decide_true, Bool.not_true, Bool.false_eq_true, if_false, decide_false, bne_self_eq_false, Option.bind_some, and_self, if_true]
    simp; exact c4
theorem l2Maze_eq (hk : Big ≤ k) (n : Int) (d : List Door) (ks : List Int) (hd : d.length ≤ 1048576) (hl : ks.length ≤ 1048576) : spec_l2Maze.f k n d ks = some (decide (IsMaze n d ks)) := by
  unfold spec_l2Maze.f
  rw [in_eq]
  by_cases c1 : 1 ≤ n ∧ n ≤ 12
  rotate_left 1
  · have : ¬ IsMaze n d ks := fun h => c1 ⟨h.1, h.2.1⟩
    simp [c1, this]
  by_cases c2 : (d.length : Int) > 30
  · have : ¬ IsMaze n d ks := fun h => by have := h.2.2.1; omega
    simp [c1, c2, this]
  by_cases c3 : (ks.length : Int) = n
  rotate_left 1
  · have : ¬ IsMaze n d ks := fun h => c3 h.2.2.2.1
    simp [c1, c2, c3, this]
  have e0 : w64 (n - 1) = n - 1 := w64_id (by omega) (by omega)
  have hloop := loop_all (l := spec_l2Maze.l0 k n d) (N := d.length) (doorB n d) (z := false) (fun m i hi => by
    rw [spec_l2Maze.l0]
    have h1 : ((i : Int) < (d.length : Int)) := by omega
    have hw : w64 ((i : Int) + 1) = ((i + 1 : Nat) : Int) := w64_id (by omega) (by omega)
    simp only [h1, decide_true, if_true, rdl_lt hi, Option.bind_some, hw, l2Set_eq, in_eq, e0]
    unfold doorB DoorOk
    rw [dif_pos hi]
    by_cases b1 : 0 ≤ d[i].1 ∧ d[i].1 ≤ n - 1
    rotate_left 1
    · have nn : ¬ (0 ≤ d[i].1 ∧ d[i].1 < d[i].2.1 ∧ d[i].2.1 < n ∧ 0 ≤ d[i].2.2 ∧ d[i].2.2 ≤ 63) := fun h => b1 ⟨h.1, by omega⟩
      rw [decide_eq_false nn]
      simp only [b1, decide_true, decide_false, Bool.not_true, Bool.not_false, Bool.false_eq_true, if_false, if_true, Bool.false_and, and_self, Option.bind_some]
    have e1 : w64 (d[i].1 + 1) = d[i].1 + 1 := w64_id (by omega) (by omega)
    rw [e1]
    by_cases b2 : d[i].1 + 1 ≤ d[i].2.1 ∧ d[i].2.1 ≤ n - 1
    rotate_left 1
    · have nn : ¬ (0 ≤ d[i].1 ∧ d[i].1 < d[i].2.1 ∧ d[i].2.1 < n ∧ 0 ≤ d[i].2.2 ∧ d[i].2.2 ≤ 63) := fun h => b2 ⟨by omega, by omega⟩
      rw [decide_eq_false nn]
      simp only [b1, b2, decide_true, decide_false, Bool.not_true, Bool.not_false, Bool.false_eq_true, if_false, if_true, Bool.false_and, and_self, Option.bind_some]
    by_cases b3 : 0 ≤ d[i].2.2 ∧ d[i].2.2 ≤ 63
    rotate_left 1
    · have nn : ¬ (0 ≤ d[i].1 ∧ d[i].1 < d[i].2.1 ∧ d[i].2.1 < n ∧ 0 ≤ d[i].2.2 ∧ d[i].2.2 ≤ 63) := fun h => b3 h.2.2.2
      rw [decide_eq_false nn]
      simp only [b1, b2, b3, decide_true, decide_false, Bool.not_true, Bool.not_false, Bool.false_eq_true, if_false, if_true, Bool.false_and, and_self, Option.bind_some]
    have c : (0 ≤ d[i].1 ∧ d[i].1 < d[i].2.1 ∧ d[i].2.1 < n ∧ 0 ≤ d[i].2.2 ∧ d[i].2.2 ≤ 63) := ⟨by omega, by omega, by omega, b3⟩
    rcases Nat.eq_zero_or_pos i with rfl | hp
    · simp [b1, b2, b3, c]
    · have e2 : w64 ((i : Int) - 1) = ((i - 1 : Nat) : Int) := by rw [w64_id (by omega) (by omega)]; omega
      have hi1 : i - 1 < d.length := by omega
      have hp' : (i : Int) > 0 := by omega
      have hne : ¬ i = 0 := by omega
      simp only [b1, b2, b3, decide_false, Bool.false_eq_true, if_false, decide_true, Bool.not_true, hp', if_true, e2, rdl_lt hi1, Option.bind_some, before_eq hk, c, hne, Bool.true_and, Bool.false_or, and_self]
      by_cases hlt : DoorLt d[i - 1] d[i] <;> simp [hlt])
    (fun m => by rw [spec_l2Maze.l0]; simp) (k := k) (by unfold Big at hk; omega)
  have hn : (ks.length : Int) = n := c3
  have hloop2 := loop_all (l := spec_l2Maze.l1 k n ks) (N := ks.length) (setB ks) (z := false) (fun m i hi => by
    rw [spec_l2Maze.l1]
    have h1 : ((i : Int) < n) := by omega
    have hw : w64 ((i : Int) + 1) = ((i + 1 : Nat) : Int) := w64_id (by omega) (by omega)
    simp only [h1, decide_true, if_true, rdl_lt hi, Option.bind_some, hw, l2Set_eq, setB, hi, dite_true]
    by_cases hs : 0 ≤ ks[i] ∧ ks[i] ≤ 63 <;> simp [hs])
    (fun m => by rw [spec_l2Maze.l1]; simp [hn]) (k := k) (by unfold Big at hk; omega)
  rw [hloop, hloop2]
  simp only [Option.bind_some, Lr_ite]
  by_cases c4 : ∀ i, i < d.length → doorB n d i = true
  rotate_left 1
  · have : ¬ IsMaze n d ks := fun h => c4 h.2.2.2.2.1
    simp only [c1, c2, c3, c4, this, decide_true, Bool.not_true, Bool.false_eq_true, if_false, decide_false, bne_self_eq_false, Option.bind_some, and_self]
  by_cases c5 : ∀ i, i < ks.length → setB ks i = true
  · have : IsMaze n d ks := ⟨c1.1, c1.2, by omega, c3, c4, c5⟩
    simp only [c1, c2, c3, this, decide_true, Bool.not_true, Bool.false_eq_true, if_false, decide_false, bne_self_eq_false, Option.bind_some, and_self, if_true]
    rw [if_pos c4, if_pos c5]
  · have : ¬ IsMaze n d ks := fun h => c5 h.2.2.2.2.2
    simp only [c1, c2, c3, this, decide_true, Bool.not_true, Bool.false_eq_true, if_false, decide_false, bne_self_eq_false, Option.bind_some, and_self, if_true]
    rw [if_pos c4, if_neg c5]
end
end Go.Proofs

/- Plain laws: D -/
namespace Go.Proofs
open Go Go.Ga Go.Ga.Wf
set_option linter.unusedVariables false
set_option linter.unusedSimpArgs false
section
variable {k : Nat}
def risingB (lo hi : Int) (l : List Int) (i : Nat) : Bool := if h : i < l.length then decide (lo ≤ l[i] ∧ l[i] ≤ hi) && (decide (i = 0) || decide (l[i - 1] < l[i])) else true
def IsTrapP (n : Int) (d : List Door) (ks tr : List Int) : Prop := IsMaze n d ks ∧ ∀ i, i < tr.length → risingB 0 ((d.length : Int) - 1) tr i = true
instance (n : Int) (d : List Door) (ks tr : List Int) : Decidable (IsTrapP n d ks tr) := by unfold IsTrapP; infer_instance
end
end Go.Proofs

/- Plain laws: E -/
namespace Go.Proofs
open Go Go.Ga Go.Ga.Wf
set_option linter.unusedVariables false
set_option linter.unusedSimpArgs false
section
variable {k : Nat}
/-- a door with its ends and its colours in bounds, for some node count of at most twelve -/
def Small (x : Door) : Prop := 0 ≤ x.1 ∧ x.1 < 12 ∧ 0 ≤ x.2.1 ∧ x.2.1 < 12 ∧ 0 ≤ x.2.2 ∧ x.2.2 ≤ 63
theorem IsMaze.small {n : Int} {d : List Door} {ks : List Int} (h : IsMaze n d ks) : ∀ x ∈ d, Small x := by
  intro x hx
  obtain ⟨i, hi, rfl⟩ := List.getElem_of_mem hx
  have h1 := h.2.2.2.2.1 i hi
  unfold doorB at h1
  rw [dif_pos hi, Bool.and_eq_true, decide_eq_true_eq] at h1
  have := h1.1; unfold DoorOk at this; unfold Small
  have := h.2.1
  omega
theorem IsMaze.keys {n : Int} {d : List Door} {ks : List Int} (h : IsMaze n d ks) : ∀ x ∈ ks, 0 ≤ x ∧ x ≤ 63 := by
  intro x hx
  obtain ⟨i, hi, rfl⟩ := List.getElem_of_mem hx
  have h1 := h.2.2.2.2.2 i hi
  simpa [setB, hi] using h1
/-- the door stands open to one who has h and leads from a to b -/
def goes (a b h : Int) (x : Door) : Bool := ((decide (x.1 = a) && decide (x.2.1 = b)) || (decide (x.2.1 = a) && decide (x.1 = b))) && subB x.2.2.toNat h.toNat
theorem has_eq (h c : Int) (hc : 0 ≤ c ∧ c ≤ 63) (hh : 0 ≤ h ∧ h ≤ 63) : impl_has.f k h c = some (subB c.toNat h.toNat) := by
  unfold impl_has.f
  obtain ⟨a, rfl⟩ := Int.eq_ofNat_of_zero_le hh.1
  obtain ⟨b, rfl⟩ := Int.eq_ofNat_of_zero_le hc.1
  rw [has_clr (by omega)]; rfl
theorem l2Has_eq (h c : Int) (hc : 0 ≤ c ∧ c ≤ 63) (hh : 0 ≤ h ∧ h ≤ 63) : spec_l2Has.f k h c = some (subB c.toNat h.toNat) := by
  unfold spec_l2Has.f
  obtain ⟨a, rfl⟩ := Int.eq_ofNat_of_zero_le hh.1
  obtain ⟨b, rfl⟩ := Int.eq_ofNat_of_zero_le hc.1
  rw [has_and (by omega) (by omega)]; rfl
theorem joins_eq (x : Door) (a b : Int) : spec_l2Joins.f k x.1 x.2.1 x.2.2 a b = some ((decide (x.1 = a) && decide (x.2.1 = b)) || (decide (x.2.1 = a) && decide (x.1 = b))) := by
  unfold spec_l2Joins.f
  by_cases h1 : x.1 = a <;> by_cases h2 : x.2.1 = b <;> by_cases h3 : x.1 = b <;> by_cases h4 : x.2.1 = a <;> simp_all
theorem l2Open_eq (hk : Big ≤ k) (n : Int) (d : List Door) (ks : List Int) (a b h : Int) (hd : d.length ≤ 1048576) (hs : ∀ x ∈ d, Small x) (hh : 0 ≤ h ∧ h ≤ 63) : spec_l2Open.f k n d ks a b h = some (d.any (goes a b h)) := by
  unfold spec_l2Open.f
  rw [loop_all (l := spec_l2Open.l0 k d a b h) (N := d.length) (fun i => if hi : i < d.length then !goes a b h d[i] else true) (z := true) (fun m i hi => by
    rw [spec_l2Open.l0]
    have h1 : ((i : Int) < (d.length : Int)) := by omega
    have hw : w64 ((i : Int) + 1) = ((i + 1 : Nat) : Int) := w64_id (by omega) (by omega)
    have sm := hs _ (List.getElem_mem hi)
    unfold Small at sm
    simp only [h1, decide_true, if_true, rdl_lt hi, Option.bind_some, hw, joins_eq, l2Has_eq h d[i].2.2 (by omega) hh, hi, dite_true]
    unfold goes
    cases ((decide (d[i].1 = a) && decide (d[i].2.1 = b)) || (decide (d[i].2.1 = a) && decide (d[i].1 = b))) <;> cases subB d[i].2.2.toNat h.toNat <;> rfl)
    (fun m => by rw [spec_l2Open.l0]; simp) (by unfold Big at hk; omega), Option.bind_some, Lr_ite]
  cases hc : d.any (goes a b h) with
  | true =>
    rw [if_neg]
    intro H
    obtain ⟨x, hx, hg⟩ := List.any_eq_true.1 hc
    obtain ⟨i, hi, rfl⟩ := List.getElem_of_mem hx
    have := H i hi
    simp [hi, hg] at this
  | false =>
    rw [if_pos]
    intro i hi
    have := List.any_eq_false.1 hc _ (List.getElem_mem hi)
    simp [hi, this]
theorem steps_eq (hk : Big ≤ k) (n : Int) (d : List Door) (ks : List Int) (a h : Int) (hd : d.length ≤ 1048576) (hs : ∀ x ∈ d, Small x) (hh : 0 ≤ h ∧ h ≤ 63) :
    ∃ m : Nat, impl_steps.f k n d ks a h = some (m : Int) ∧ m < 4096 ∧ ∀ t : Nat, m.testBit t = d.any (goes a (t : Int) h) := by
  unfold impl_steps.f
  let g : Nat → Int → Int := fun i s => if hi : i < d.length then
    (let s1 := if subB d[i].2.2.toNat h.toNat = true ∧ d[i].1 = a then bor s (shl 1 d[i].2.1) else s
     if subB d[i].2.2.toNat h.toNat = true ∧ d[i].2.1 = a then bor s1 (shl 1 d[i].1) else s1) else s
  have := loop_state (l := fun n s i => impl_steps.l0 k d a h n s i) (N := d.length) (g := g) (out := some) (fun i s => ∃ m : Nat, s = (m : Int) ∧ m < 4096 ∧ ∀ t : Nat, m.testBit t = (d.take i).any (goes a (t : Int) h)) (fun m i s hi hI => by
    obtain ⟨q, rfl, hq, hb⟩ := hI
    have sm := hs _ (List.getElem_mem hi)
    unfold Small at sm
    obtain ⟨u, hu⟩ := Int.eq_ofNat_of_zero_le sm.1
    obtain ⟨v, hv⟩ := Int.eq_ofNat_of_zero_le sm.2.2.1
    have hu12 : u < 12 := by omega
    have hv12 : v < 12 := by omega
    have hpu : 2 ^ u < 4096 := Nat.pow_lt_pow_right (a := 2) (by omega) hu12
    have hpv : 2 ^ v < 4096 := Nat.pow_lt_pow_right (a := 2) (by omega) hv12
    have e1 : ∀ z : Nat, z < 4096 → bor (z : Int) (shl 1 d[i].2.1) = ((z ||| 2 ^ v : Nat) : Int) := fun z hz => by
      rw [hv]; show bor (z : Int) (shl 1 ((v : Nat) : Int)) = _
      rw [shl_one (by omega), bor_nat (by omega) (by omega)]
    have e2 : ∀ z : Nat, z < 4096 → bor (z : Int) (shl 1 d[i].1) = ((z ||| 2 ^ u : Nat) : Int) := fun z hz => by
      rw [hu]; show bor (z : Int) (shl 1 ((u : Nat) : Int)) = _
      rw [shl_one (by omega), bor_nat (by omega) (by omega)]
    have hor : ∀ z y : Nat, z < 4096 → y < 4096 → z ||| y < 4096 := fun z y hz hy => Nat.or_lt_two_pow (n := 12) hz hy
    have htake : d.take (i + 1) = d.take i ++ [d[i]] := by rw [List.take_add_one, List.getElem?_eq_getElem hi]; rfl
    refine ⟨?_, ?_⟩
    · rw [impl_steps.l0]
      have h1 : ((i : Int) < (d.length : Int)) := by omega
      have hw : w64 ((i : Int) + 1) = ((i + 1 : Nat) : Int) := w64_id (by omega) (by omega)
      have n1 : ¬ d[i].1 < 0 := by omega
      have n2 : ¬ d[i].2.1 < 0 := by omega
      simp only [h1, decide_true, if_true, rdl_lt hi, Option.bind_some, hw, has_eq h d[i].2.2 (by omega) hh, n1, n2, not_false_eq_true, if_true, g, hi, dite_true]
      cases subB d[i].2.2.toNat h.toNat
      · simp
      · by_cases c1 : d[i].1 = a <;> by_cases c2 : d[i].2.1 = a <;> simp [c1, c2]
    · simp only [g, hi, dite_true]
      have hd2 : ∀ t : Nat, decide (d[i].2.1 = (t : Int)) = decide (v = t) := fun t => decide_eq_decide.2 (by omega)
      have hd1 : ∀ t : Nat, decide (d[i].1 = (t : Int)) = decide (u = t) := fun t => decide_eq_decide.2 (by omega)
      have hlast : ∀ t : Nat, (d.take (i + 1)).any (goes a (t : Int) h) = (q.testBit t || (((decide (d[i].1 = a) && decide (v = t)) || (decide (d[i].2.1 = a) && decide (u = t))) && subB d[i].2.2.toNat h.toNat)) := fun t => by
        rw [htake, List.any_append, hb t]
        simp only [List.any_cons, List.any_nil, Bool.or_false, goes, hd1, hd2]
      cases hsb : subB d[i].2.2.toNat h.toNat with
      | false => exact ⟨q, by simp, hq, fun t => by rw [hlast t, hsb]; simp⟩
      | true =>
        by_cases c1 : d[i].1 = a <;> by_cases c2 : d[i].2.1 = a
        · exact ⟨q ||| 2 ^ v ||| 2 ^ u, by rw [if_pos ⟨rfl, c2⟩, if_pos ⟨rfl, c1⟩, e1 q hq, e2 _ (hor _ _ hq hpv)], hor _ _ (hor _ _ hq hpv) hpu, fun t => by
            rw [hlast t, hsb]; simp [c1, c2, Nat.testBit_or, Nat.testBit_two_pow]; cases q.testBit t <;> simp⟩
        · exact ⟨q ||| 2 ^ v, by rw [if_neg (fun h => c2 h.2), if_pos ⟨rfl, c1⟩, e1 q hq], hor _ _ hq hpv, fun t => by
            rw [hlast t, hsb]; simp [c1, c2, Nat.testBit_or, Nat.testBit_two_pow]⟩
        · exact ⟨q ||| 2 ^ u, by rw [if_pos ⟨rfl, c2⟩, if_neg (fun h => c1 h.2), e2 q hq], hor _ _ hq hpu, fun t => by
            rw [hlast t, hsb]; simp [c1, c2, Nat.testBit_or, Nat.testBit_two_pow]⟩
        · exact ⟨q, by simp [c1, c2], hq, fun t => by rw [hlast t, hsb]; simp [c1, c2]⟩)
    (fun m s _ => by show impl_steps.l0 k d a h (m + 1) s (d.length : Int) = _; rw [impl_steps.l0]; simp) (k := k) (by unfold Big at hk; omega) (s := 0) ⟨0, rfl, by omega, by simp⟩
  obtain ⟨h1, m, h2, h3, h4⟩ := this
  refine ⟨m, ?_, h3, ?_⟩
  · rw [h1, h2]; rfl
  · intro t; rw [h4 t, List.take_length]
end
end Go.Proofs

/- Plain laws: F -/
namespace Go.Proofs
open Go Go.Ga Go.Ga.Wf
set_option linter.unusedVariables false
set_option linter.unusedSimpArgs false
section
variable {k : Nat}
theorem bor_63 {a b : Int} (ha : 0 ≤ a ∧ a ≤ 63) (hb : 0 ≤ b ∧ b ≤ 63) : 0 ≤ bor a b ∧ bor a b ≤ 63 := by
  obtain ⟨x, rfl⟩ := Int.eq_ofNat_of_zero_le ha.1
  obtain ⟨y, rfl⟩ := Int.eq_ofNat_of_zero_le hb.1
  have e : bor (Int.ofNat x) (Int.ofNat y) = ((x ||| y : Nat) : Int) := bor_nat (by omega) (by omega)
  have : x ||| y < 64 := Nat.or_lt_two_pow (n := 6) (by omega) (by omega)
  show 0 ≤ bor (Int.ofNat x) (Int.ofNat y) ∧ bor (Int.ofNat x) (Int.ofNat y) ≤ 63
  rw [e]; omega
/-- the walk's place i can't be gone to -/
def badT (n : Int) (d : List Door) (l : List Int) (i : Nat) (h : Int) : Bool :=
  if hi : i < l.length then !decide (0 ≤ l[i] ∧ l[i] ≤ n - 1) || (decide (i = 0) && decide (l[i] ≠ 0)) || (decide (0 < i) && !d.any (goes l[i - 1] l[i] h)) else true
def takeG (n : Int) (d : List Door) (ks l : List Int) (i : Nat) (s : List Int × Int) : (List Int × Int) ⊕ (List Int × Bool) :=
  if badT n d l i s.2 = true then .inr ([], false) else .inl (s.1 ++ [bor s.2 (ks.getD (l.getD i 0).toNat 0)], bor s.2 (ks.getD (l.getD i 0).toNat 0))
def takenP (n : Int) (d : List Door) (ks l : List Int) : List Int × Bool :=
  match itx (takeG n d ks l) l.length 0 ([], 0) with
  | .inl s => (s.1, decide (0 < l.length))
  | .inr _ => ([], false)
def TInv (i : Nat) (s : List Int × Int) : Prop := s.1.length = i ∧ 0 ≤ s.2 ∧ s.2 ≤ 63
theorem takeG_inv {n : Int} {d : List Door} {ks l : List Int} (hm : IsMaze n d ks) : ∀ i s s', i < l.length → TInv i s → takeG n d ks l i s = .inl s' → TInv (i + 1) s' := by
  intro i s s' hi hI h
  unfold takeG at h
  split at h
  · cases h
  · rename_i hb
    cases h
    unfold badT at hb
    rw [dif_pos hi] at hb
    simp only [Bool.or_eq_true, Bool.not_eq_true', decide_eq_false_iff_not, not_or, Decidable.not_not] at hb
    have hr := hb.1.1
    have hlen : l[i].toNat < ks.length := by have := hm.2.2.2.1; omega
    have hg : l.getD i 0 = l[i] := by simp [List.getD, List.getElem?_eq_getElem hi]
    have hk : ks.getD l[i].toNat 0 = ks[l[i].toNat] := by simp [List.getD, List.getElem?_eq_getElem hlen]
    have := bor_63 hI.2 (hm.keys _ (List.getElem_mem hlen))
    refine ⟨by simp [hI.1], ?_⟩
    show 0 ≤ bor s.2 (ks.getD (l.getD i 0).toNat 0) ∧ bor s.2 (ks.getD (l.getD i 0).toNat 0) ≤ 63
    rw [hg, hk]; exact this
theorem takenP_length {n : Int} {d : List Door} {ks l : List Int} (hm : IsMaze n d ks) (h : (takenP n d ks l).2 = true) : (takenP n d ks l).1.length = l.length ∧ 0 < l.length := by
  unfold takenP at h ⊢
  cases hx : itx (takeG n d ks l) l.length 0 ([], 0) with
  | inl s =>
    rw [hx] at h
    exact ⟨(itx_inv TInv (takeG_inv hm) ⟨rfl, by decide, by decide⟩ hx).1, by simpa using h⟩
  | inr r => rw [hx] at h; cases h
theorem l2Taken_eq (hk : Big ≤ k) (n : Int) (d : List Door) (ks l : List Int) (hm : IsMaze n d ks) (hl : l.length ≤ 1048576) : spec_l2Taken.f k n d ks l = some (takenP n d ks l) := by
  unfold spec_l2Taken.f
  have hd : d.length ≤ 1048576 := by have := hm.2.2.1; omega
  have en : w64 (n - 1) = n - 1 := w64_id (by have := hm.1; omega) (by have := hm.2.1; omega)
  rw [loop_exit (l := fun m (s : List Int × Int) i => spec_l2Taken.l0 k n d ks l m s.1 s.2 i) (N := l.length) (g := takeG n d ks l) (out := fun s => some (.inl s.1)) TInv (fun m i s hi hI => by
    have h1 : ((i : Int) < (l.length : Int)) := by omega
    have hw : w64 ((i : Int) + 1) = ((i + 1 : Nat) : Int) := w64_id (by omega) (by omega)
    have hbad : ((rdl l (i : Int)).bind fun t18 => (spec_l1In.f k t18 0 (w64 (n - 1))).bind fun t23 => if (!t23) = true then some true else (if ((i : Int) == 0) = true then (rdl l 0).bind fun t30 => (if (t30 != 0) = true then some true else (if (decide ((i : Int) > 0)) = true then (rdl l (w64 ((i : Int) - 1))).bind fun t43 => (rdl l (i : Int)).bind fun t47 => (spec_l2Open.f k n d ks t43 t47 s.2).bind fun t50 => some (!t50) else some false)) else (if (decide ((i : Int) > 0)) = true then (rdl l (w64 ((i : Int) - 1))).bind fun t43 => (rdl l (i : Int)).bind fun t47 => (spec_l2Open.f k n d ks t43 t47 s.2).bind fun t50 => some (!t50) else some false)))
        = some (badT n d l i s.2) := by
      unfold badT
      simp only [rdl_lt hi, Option.bind_some, in_eq, en, dif_pos hi]
      by_cases c : 0 ≤ l[i] ∧ l[i] ≤ n - 1
      rotate_left 1
      · simp [c]
      rcases Nat.eq_zero_or_pos i with rfl | hp
      · have : rdl l 0 = some l[0] := rdl_lt hi
        have hn : decide (0 ≤ l[0] ∧ l[0] ≤ n - 1) = true := decide_eq_true c
        simp only [hn, this]
        have h1n := hm.1
        by_cases c0 : l[0] = 0 <;> simp [c0, h1n, show ¬ n < 1 by omega]
      · have e1 : w64 ((i : Int) - 1) = ((i - 1 : Nat) : Int) := by rw [w64_id (by omega) (by omega)]; omega
        have hi1 : i - 1 < l.length := by omega
        have hp' : (i : Int) > 0 := by omega
        have hz : ((i : Int) == 0) = false := by simp; omega
        have hne : ¬ i = 0 := by omega
        simp only [hz, Bool.false_eq_true, if_false, hp', decide_true, if_true, e1, rdl_lt hi1, rdl_lt hi, Option.bind_some, l2Open_eq hk n d ks _ _ _ hd hm.small ⟨hI.2.1, hI.2.2⟩, c, hne, decide_false, Bool.false_and, Bool.or_false, hp, Bool.true_and, Bool.not_true, Bool.false_or, and_self]
    show (∃ s', takeG n d ks l i s = .inl s' ∧ spec_l2Taken.l0 k n d ks l (m + 1) s.1 s.2 (i : Int) = spec_l2Taken.l0 k n d ks l m s'.1 s'.2 ((i + 1 : Nat) : Int) ∧ TInv (i + 1) s') ∨ (∃ r, takeG n d ks l i s = .inr r ∧ spec_l2Taken.l0 k n d ks l (m + 1) s.1 s.2 (i : Int) = some (.inr r))
    rw [spec_l2Taken.l0, if_pos (by simpa using h1), hbad, Option.bind_some]
    have hinv := takeG_inv (l := l) hm i s
    cases hb : badT n d l i s.2 with
    | true => right; exact ⟨_, by unfold takeG; rw [if_pos hb], by simp⟩
    | false =>
      left
      have hgo : takeG n d ks l i s = .inl (s.1 ++ [bor s.2 (ks.getD (l.getD i 0).toNat 0)], bor s.2 (ks.getD (l.getD i 0).toNat 0)) := by unfold takeG; rw [if_neg (by simp [hb])]
      refine ⟨_, hgo, ?_, hinv _ hi hI hgo⟩
      unfold badT at hb
      rw [dif_pos hi] at hb
      simp only [Bool.or_eq_false_iff, Bool.not_eq_false', decide_eq_true_eq] at hb
      have hr := hb.1.1
      have hlen : l[i].toNat < ks.length := by have := hm.2.2.2.1; omega
      have hg : l.getD i 0 = l[i] := by simp [List.getD, List.getElem?_eq_getElem hi]
      have hkk : ks.getD l[i].toNat 0 = ks[l[i].toNat] := by simp [List.getD, List.getElem?_eq_getElem hlen]
      have hrd : rdl ks l[i] = some ks[l[i].toNat] := by unfold rdl; rw [if_pos hr.1, List.getElem?_eq_getElem hlen]
      rw [if_neg (by simp), rdl_lt hi, Option.bind_some, hrd, Option.bind_some, if_pos (by have := hI.1; simp; omega), hw, hg, hkk])
    (fun m s _ => by show spec_l2Taken.l0 k n d ks l (m + 1) s.1 s.2 (l.length : Int) = _; rw [spec_l2Taken.l0]; simp) (k := k) (by unfold Big at hk; omega) (s := ([], 0)) ⟨rfl, by decide, by decide⟩]
  unfold takenP
  cases hx : itx (takeG n d ks l) l.length 0 ([], 0) with
  | inl s =>
    have := (itx_inv TInv (takeG_inv hm) ⟨rfl, by decide, by decide⟩ hx).1
    simp only [Option.bind_some, Lr, this]
    simp
  | inr r =>
    have hr : ∀ m i s, itx (takeG n d ks l) m i s = .inr r → r = ([], false) := by
      intro m
      induction m with
      | zero => intro i s h; cases h
      | succ m ih =>
        intro i s h
        unfold itx at h
        cases hg : takeG n d ks l i s with
        | inl s' => rw [hg] at h; exact ih _ _ h
        | inr r' =>
          rw [hg] at h; cases h
          unfold takeG at hg
          split at hg <;> cases hg
          rfl
    rw [hr _ _ _ hx]
    simp only [Option.bind_some, Lr]
theorem taken_eq (hk : Big ≤ k) (n : Int) (d : List Door) (ks l : List Int) (hm : IsMaze n d ks) (hl : l.length ≤ 1048576) : impl_taken.f k n d ks l = some (takenP n d ks l) := by
  unfold impl_taken.f
  have hd : d.length ≤ 1048576 := by have := hm.2.2.1; omega
  have en : w64 (n - 1) = n - 1 := w64_id (by have := hm.1; omega) (by have := hm.2.1; omega)
  rcases Nat.eq_zero_or_pos l.length with h0 | hpos
  · have : l = [] := List.length_eq_zero_iff.1 h0
    subst this
    simp [takenP, itx]
  have hl0 : rdl l 0 = some l[0] := rdl_lt hpos
  have hz : ((l.length : Int) == 0) = false := by rw [beq_eq_false_iff_ne]; omega
  simp only [hz, Bool.false_eq_true, if_false, hl0, Option.bind_some]
  by_cases c0 : l[0] = 0
  rotate_left 1
  · have : (l[0] != 0) = true := by simpa using c0
    rw [if_pos this]
    have hb : badT n d l 0 0 = true := by
      unfold badT; rw [dif_pos hpos]; simp [c0]
    unfold takenP
    obtain ⟨m, hm'⟩ : ∃ m, l.length = m + 1 := ⟨l.length - 1, by omega⟩
    rw [hm']
    unfold itx takeG
    rw [if_pos hb]
  have : ¬ ((l[0] != 0) = true) := by simp [c0]
  rw [if_neg this]
  rw [loop_exit (l := fun m (s : List Int × Int) i => impl_taken.l0 k n d ks l m s.1 s.2 i) (N := l.length) (g := takeG n d ks l) (out := fun s => some (.inl s.1)) TInv (fun m i s hi hI => by
    have h1 : ((i : Int) < (l.length : Int)) := by omega
    have hw : w64 ((i : Int) + 1) = ((i + 1 : Nat) : Int) := w64_id (by omega) (by omega)
    have hbad : ((impl_within.f k l[i] 0 (w64 (n - 1))).bind fun t31 => (if (!t31) = true then some true else (if (decide ((i : Int) > 0)) = true then (rdl l (w64 ((i : Int) - 1))).bind fun t41 => (impl_steps.f k n d ks t41 s.2).bind fun t44 => if ¬ l[i] < 0 then some ((band (shr t44 l[i]) 1) == 0) else none else some false))) = some (badT n d l i s.2) := by
      unfold badT
      simp only [within_eq, en, Option.bind_some, dif_pos hi]
      by_cases c : 0 ≤ l[i] ∧ l[i] ≤ n - 1
      rotate_left 1
      · simp [c]
      rcases Nat.eq_zero_or_pos i with rfl | hp
      · have h1n := hm.1
        simp [c0, h1n, show ¬ n < 1 by omega]
      · have e1 : w64 ((i : Int) - 1) = ((i - 1 : Nat) : Int) := by rw [w64_id (by omega) (by omega)]; omega
        have hi1 : i - 1 < l.length := by omega
        have hp' : (i : Int) > 0 := by omega
        have hne : ¬ i = 0 := by omega
        obtain ⟨q, hq1, hq2, hq3⟩ := steps_eq hk n d ks l[i - 1] s.2 hd hm.small ⟨hI.2.1, hI.2.2⟩
        obtain ⟨t, ht⟩ := Int.eq_ofNat_of_zero_le c.1
        have ht' : l[i] = (t : Int) := ht
        have hnn := hm.2.1
        have hb : (band (shr (q : Int) l[i]) 1 == 0) = !d.any (goes l[i - 1] l[i] s.2) := by
          rw [ht', bit_nat (by omega) (by omega), hq3]
        have hn : ¬ l[i] < 0 := by omega
        simp only [hp', decide_true, if_true, e1, rdl_lt hi1, Option.bind_some, hq1, c, hne, decide_false, Bool.false_and, Bool.or_false, hp, Bool.true_and, Bool.not_true, Bool.false_or, and_self, Bool.false_eq_true, if_false, hn, not_false_eq_true, hb]
    show (∃ s', takeG n d ks l i s = .inl s' ∧ impl_taken.l0 k n d ks l (m + 1) s.1 s.2 (i : Int) = impl_taken.l0 k n d ks l m s'.1 s'.2 ((i + 1 : Nat) : Int) ∧ TInv (i + 1) s') ∨ (∃ r, takeG n d ks l i s = .inr r ∧ impl_taken.l0 k n d ks l (m + 1) s.1 s.2 (i : Int) = some (.inr r))
    rw [impl_taken.l0, if_pos (by simpa using h1), rdl_lt hi, Option.bind_some, hbad, Option.bind_some]
    have hinv := takeG_inv (l := l) hm i s
    cases hb : badT n d l i s.2 with
    | true => right; exact ⟨_, by unfold takeG; rw [if_pos hb], by simp⟩
    | false =>
      left
      have hgo : takeG n d ks l i s = .inl (s.1 ++ [bor s.2 (ks.getD (l.getD i 0).toNat 0)], bor s.2 (ks.getD (l.getD i 0).toNat 0)) := by unfold takeG; rw [if_neg (by simp [hb])]
      refine ⟨_, hgo, ?_, hinv _ hi hI hgo⟩
      unfold badT at hb
      rw [dif_pos hi] at hb
      simp only [Bool.or_eq_false_iff, Bool.not_eq_false', decide_eq_true_eq] at hb
      have hr := hb.1.1
      have hlen : l[i].toNat < ks.length := by have := hm.2.2.2.1; omega
      have hg : l.getD i 0 = l[i] := by simp [List.getD, List.getElem?_eq_getElem hi]
      have hkk : ks.getD l[i].toNat 0 = ks[l[i].toNat] := by simp [List.getD, List.getElem?_eq_getElem hlen]
      have hrd : rdl ks l[i] = some ks[l[i].toNat] := by unfold rdl; rw [if_pos hr.1, List.getElem?_eq_getElem hlen]
      rw [if_neg (by simp), hrd, Option.bind_some, if_pos (by have := hI.1; simp; omega), hw, hg, hkk])
    (fun m s _ => by show impl_taken.l0 k n d ks l (m + 1) s.1 s.2 (l.length : Int) = _; rw [impl_taken.l0]; simp) (k := k) (by unfold Big at hk; omega) (s := ([], 0)) ⟨rfl, by decide, by decide⟩]
  unfold takenP
  cases hx : itx (takeG n d ks l) l.length 0 ([], 0) with
  | inl s => simp only [Option.bind_some, Lr]; simp [hpos]
  | inr r =>
    have hr : ∀ m i s, itx (takeG n d ks l) m i s = .inr r → r = ([], false) := by
      intro m
      induction m with
      | zero => intro i s h; cases h
      | succ m ih =>
        intro i s h
        unfold itx at h
        cases hg : takeG n d ks l i s with
        | inl s' => rw [hg] at h; exact ih _ _ h
        | inr r' =>
          rw [hg] at h; cases h
          unfold takeG at hg
          split at hg <;> cases hg
          rfl
    rw [hr _ _ _ hx]
    simp only [Option.bind_some, Lr]
theorem l12Good_eq (hk : Big ≤ k) (n : Int) (d : List Door) (ks l : List Int) (u : Int) (hd : d.length ≤ 1048576) (hks : ks.length ≤ 1048576) (hl : l.length ≤ 1048576) :
    spec_l12Good.f k n d ks l u = some (decide (IsMaze n d ks ∧ l.length ≤ 60 ∧ 0 ≤ u ∧ u ≤ 1000) && (takenP n d ks l).2) := by
  unfold spec_l12Good.f
  rw [l2Maze_eq hk n d ks hd hks]
  by_cases hm : IsMaze n d ks
  rotate_left 1
  · simp [hm]
  simp only [hm, decide_true, Bool.not_true, Bool.false_eq_true, if_false, Option.bind_some, in_eq, l2Taken_eq hk n d ks l hm hl, true_and]
  by_cases c1 : (l.length : Int) > 60
  · have : ¬ l.length ≤ 60 := by omega
    simp [c1, this]
  · have h1 : l.length ≤ 60 := by omega
    by_cases c2 : 0 ≤ u ∧ u ≤ 1000 <;> simp [c1, h1, c2]
theorem IsVisit_eq (hk : Big ≤ k) (n : Int) (d : List Door) (ks l : List Int) (u : Int) (hd : d.length ≤ 1048576) (hks : ks.length ≤ 1048576) (hl : l.length ≤ 1048576) :
    impl_IsVisit.f k n d ks l u = some (decide (IsMaze n d ks ∧ l.length ≤ 60 ∧ 0 ≤ u ∧ u ≤ 1000) && (takenP n d ks l).2) := by
  unfold impl_IsVisit.f
  rw [IsMaze_eq hk n d ks hd hks]
  by_cases hm : IsMaze n d ks
  rotate_left 1
  · simp [hm]
  simp only [hm, decide_true, Bool.not_true, Bool.false_eq_true, if_false, Option.bind_some, within_eq, taken_eq hk n d ks l hm hl, true_and]
  by_cases c1 : (l.length : Int) > 60
  · have : ¬ l.length ≤ 60 := by omega
    simp [c1, this]
  · have h1 : l.length ≤ 60 := by omega
    by_cases c2 : 0 ≤ u ∧ u ≤ 1000 <;> simp [c1, h1, c2]
theorem szVisit_eq (n : Int) (d : List Door) (ks l : List Int) (u m : Int) (h0 : 0 ≤ m) (hm : m ≤ 1048576) (h1 : d.length ≤ maxLen) (h2 : ks.length ≤ maxLen) (h3 : l.length ≤ maxLen) :
    laws_szVisit.f k n d ks l u m = some (szo m (d.length + ks.length + l.length)) := by
  unfold laws_szVisit.f
  rw [szMaze_eq n d ks _ h0 hm h1 h2, Option.bind_some, ← szo_add]
  by_cases hc : szo m (d.length + ks.length) < 0
  · simp [hc]
  · rw [szIntS_eq l _ (by omega) (szo_range (by omega) (by omega)).2 h3]
theorem toVisit_eq (hk : Big ≤ k) (n : Int) (d : List Door) (ks l : List Int) (u : Int) (hd : d.length ≤ 1048576) (hks : ks.length ≤ 1048576) (hl : l.length ≤ 1048576) : laws_toVisit.f k n d ks l u = some (n, d, ks, l, u) := by
  unfold laws_toVisit.f
  rw [toMaze_eq hk n d ks hd hks, Option.bind_some, toIntS_eq hk l hl]; rfl
theorem eqVisit_eq (hk : Big ≤ k) (n : Int) (d : List Door) (ks l : List Int) (u : Int) (n' : Int) (d' : List Door) (ks' l' : List Int) (u' : Int) (hd : d.length ≤ 1048576) (hks : ks.length ≤ 1048576) (hl : l.length ≤ 1048576) :
    laws_eqVisit.f k n d ks l u n' d' ks' l' u' = some (decide ((n, d, ks, l, u) = (n', d', ks', l', u'))) := by
  unfold laws_eqVisit.f
  rw [eqMaze_eq hk n n' d d' ks ks' hd hks, eqIntS_eq hk l l' hl]
  by_cases h1 : (n, d, ks) = (n', d', ks')
  · by_cases h2 : l = l' <;> by_cases h3 : u = u' <;> simp_all
  · have : ¬ (n, d, ks, l, u) = (n', d', ks', l', u') := by
      intro e; simp only [Prod.mk.injEq] at e h1; exact h1 ⟨e.1, e.2.1, e.2.2.1⟩
    rw [decide_eq_false h1, decide_eq_false this]; rfl
theorem szo_pos {a : Nat} (h : (a : Int) ≤ 1048576) : decide (szo 1048576 a < 0) = false := by unfold szo; rw [if_pos h]; simp; omega
theorem szo_neg {a : Nat} (h : ¬ (a : Int) ≤ 1048576) : decide (szo 1048576 a < 0) = true := by unfold szo; rw [if_neg h]; rfl
end
end Go.Proofs

/- Plain laws: G -/
namespace Go.Proofs
open Go Go.Ga Go.Ga.Wf
set_option linter.unusedVariables false
set_option linter.unusedSimpArgs false
section
variable {k : Nat}
def ups (m : Int) (n : Nat) : List Int := (List.range n).map fun i => m + (i : Nat)
def ups3 (m : Int) (n : Nat) : List Door := (List.range n).map fun i => (m + 3 * (i : Nat), m + 3 * (i : Nat) + 1, m + 3 * (i : Nat) + 2)
theorem ups_length (m : Int) (n : Nat) : (ups m n).length = n := by simp [ups]
theorem ups3_length (m : Int) (n : Nat) : (ups3 m n).length = n := by simp [ups3]
theorem ups_get {m : Int} {n i : Nat} (h : i < n) : (ups m n)[i]'(by rw [ups_length]; exact h) = m + i := by simp [ups]
theorem markIntS_eq (hk : Big ≤ k) (l : List Int) (m : Int) (h0 : 0 ≤ m) (hm : m ≤ 1073741824) (hl : l.length ≤ 1048576) : laws_markIntS.f k l m = some (m + l.length, ups m l.length) := by
  unfold laws_markIntS.f
  have := loop_state (l := fun n (s : List Int × Int) i => laws_markIntS.l0 k n s.1 s.2 i) (N := l.length) (g := fun i s => (s.1.set i s.2, s.2 + 1)) (out := fun s => some (s.2, s.1))
    (fun i s => s.2 = m + i ∧ s.1.length = l.length ∧ ∀ j, j < i → s.1[j]? = some (m + (j : Nat))) (fun n i s hi hI => by
      obtain ⟨h1, h2, h3⟩ := hI
      have e1 : ((i : Int) < (s.1.length : Int)) := by omega
      have hw : w64 ((i : Int) + 1) = ((i + 1 : Nat) : Int) := w64_id (by omega) (by omega)
      have hw2 : w64 (s.2 + 1) = s.2 + 1 := w64_id (by omega) (by omega)
      refine ⟨?_, ?_, ?_, ?_⟩
      · show laws_markIntS.l0 k (n + 1) s.1 s.2 (i : Int) = _
        rw [laws_markIntS.l0]
        simp only [e1, decide_true, if_true, rdl_lt (show i < s.1.length by omega), Option.bind_some, hw, hw2, Int.toNat_natCast]
      · show s.2 + 1 = _; rw [h1]; omega
      · simpa using h2
      · intro j hj
        show (s.1.set i s.2)[j]? = _
        rcases Nat.eq_or_lt_of_le (Nat.le_of_lt_succ hj) with rfl | h
        · rw [List.getElem?_set_self (by omega), h1]
        · rw [List.getElem?_set_ne (by omega)]; exact h3 j h)
    (fun n s hI => by
      show laws_markIntS.l0 k (n + 1) s.1 s.2 (l.length : Int) = _
      rw [laws_markIntS.l0, hI.2.1]; simp) (k := k) (by unfold Big at hk; omega) (s := (l, m)) ⟨by simp, rfl, fun j hj => by omega⟩
  obtain ⟨h1, h2, h3, h4⟩ := this
  simp only at h1
  rw [h1, Option.bind_some]
  have e : (itr (fun i (s : List Int × Int) => (s.1.set i s.2, s.2 + 1)) l.length 0 (l, m)).1 = ups m l.length := by
    refine List.ext_getElem? fun j => ?_
    rcases Nat.lt_or_ge j l.length with h | h
    · rw [h4 j h, List.getElem?_eq_getElem (by rw [ups_length]; exact h), ups_get h]
    · rw [List.getElem?_eq_none (by omega), List.getElem?_eq_none (by rw [ups_length]; exact h)]
  rw [e, h2]
theorem heldIntS_eq (hk : Big ≤ k) (n : Nat) (m : Int) (h0 : 0 ≤ m) (hm : m ≤ 1073741824) (hl : n ≤ 1048576) : laws_heldIntS.f k (ups m n) m = some (m + n) := by
  unfold laws_heldIntS.f
  have hlen := ups_length m n
  have := loop_exit (R := Int) (T := Int) (l := fun q (s : Int) i => laws_heldIntS.l0 k (ups m n) q s i) (N := n) (g := fun _ s => .inl (s + 1)) (out := fun s => some (.inl s)) (fun i s => s = m + i) (fun q i s hi hI => by
      left
      have e1 : ((i : Int) < ((ups m n).length : Int)) := by omega
      have hw : w64 ((i : Int) + 1) = ((i + 1 : Nat) : Int) := w64_id (by omega) (by omega)
      have hw2 : w64 (s + 1) = s + 1 := w64_id (by omega) (by omega)
      refine ⟨_, rfl, ?_, by omega⟩
      rw [laws_heldIntS.l0]
      simp only [e1, decide_true, if_true, rdl_lt (show i < (ups m n).length by omega), ups_get hi, Option.bind_some, hI, bne_self_eq_false, Bool.false_eq_true, if_false, hw]
      rw [← hI, hw2])
    (fun q s hI => by rw [laws_heldIntS.l0, hlen]; simp) (k := k) (by unfold Big at hk; omega) (s := m) (by simp)
  rw [this]
  have e : ∀ p i s, itx (R := Int) (fun _ (s : Int) => .inl (s + 1)) p i s = .inl (s + p) := by
    intro p
    induction p with
    | zero => intro i s; simp [itx]
    | succ p ih => intro i s; simp only [itx]; rw [ih]; congr 1; omega
  rw [e]
  rfl
theorem rdl_set {α : Type} {l : List α} {i : Nat} {x : α} (h : i < l.length) : rdl (l.set i x) (i : Int) = some x := by
  rw [rdl_lt (by simpa using h)]; simp
theorem markA3_l1 (hk : Big ≤ k) (l : List Door) (i : Nat) (hi : i < l.length) (m : Int) (h0 : 0 ≤ m) (hm : m ≤ 2147483648) : laws_markIntA3S.l1 k (i : Int) k l m 0 = some (l.set i (m, m + 1, m + 2), m + 3) := by
  obtain ⟨n, rfl⟩ := big_split hk
  have w1 : w64 (m + 1) = m + 1 := w64_id (by omega) (by omega)
  have w2 : w64 (m + 1 + 1) = m + 2 := by rw [w64_id (by omega) (by omega)]; omega
  have w3 : w64 (m + 2 + 1) = m + 3 := by rw [w64_id (by omega) (by omega)]; omega
  simp [laws_markIntA3S.l1, w64_1, w64_2, w64_3, rdl3_0, rdl3_1, rdl3_2, rdl_lt hi, rdl_set hi, w1, w2, w3, List.set_set]
theorem ups3_get {m : Int} {n i : Nat} (h : i < n) : (ups3 m n)[i]'(by rw [ups3_length]; exact h) = (m + 3 * (i : Nat), m + 3 * (i : Nat) + 1, m + 3 * (i : Nat) + 2) := by simp [ups3]
theorem markIntA3S_eq (hk : Big ≤ k) (l : List Door) (m : Int) (h0 : 0 ≤ m) (hm : m ≤ 1073741824) (hl : l.length ≤ 1048576) : laws_markIntA3S.f k l m = some (m + 3 * l.length, ups3 m l.length) := by
  unfold laws_markIntA3S.f
  have := loop_state (l := fun n (s : List Door × Int) i => laws_markIntA3S.l0 k n s.1 s.2 i) (N := l.length) (g := fun i s => (s.1.set i (s.2, s.2 + 1, s.2 + 2), s.2 + 3)) (out := fun s => some (s.2, s.1))
    (fun i s => s.2 = m + 3 * i ∧ s.1.length = l.length ∧ ∀ j, j < i → s.1[j]? = some (m + 3 * (j : Nat), m + 3 * (j : Nat) + 1, m + 3 * (j : Nat) + 2)) (fun n i s hi hI => by
      obtain ⟨h1, h2, h3⟩ := hI
      have e1 : ((i : Int) < (s.1.length : Int)) := by omega
      have hw : w64 ((i : Int) + 1) = ((i + 1 : Nat) : Int) := w64_id (by omega) (by omega)
      refine ⟨?_, ?_, ?_, ?_⟩
      · show laws_markIntA3S.l0 k (n + 1) s.1 s.2 (i : Int) = _
        rw [laws_markIntA3S.l0]
        simp only [e1, decide_true, if_true, markA3_l1 hk s.1 i (by omega) s.2 (by omega) (by omega), Option.bind_some, hw]
      · show s.2 + 3 = _; rw [h1]; omega
      · simpa using h2
      · intro j hj
        show (s.1.set i (s.2, s.2 + 1, s.2 + 2))[j]? = _
        rcases Nat.eq_or_lt_of_le (Nat.le_of_lt_succ hj) with rfl | h
        · rw [List.getElem?_set_self (by omega), h1]
        · rw [List.getElem?_set_ne (by omega)]; exact h3 j h)
    (fun n s hI => by
      show laws_markIntA3S.l0 k (n + 1) s.1 s.2 (l.length : Int) = _
      rw [laws_markIntA3S.l0, hI.2.1]; simp) (k := k) (by unfold Big at hk; omega) (s := (l, m)) ⟨by simp, rfl, fun j hj => by omega⟩
  obtain ⟨h1, h2, h3, h4⟩ := this
  simp only at h1
  rw [h1, Option.bind_some]
  have e : (itr (fun i (s : List Door × Int) => (s.1.set i (s.2, s.2 + 1, s.2 + 2), s.2 + 3)) l.length 0 (l, m)).1 = ups3 m l.length := by
    refine List.ext_getElem? fun j => ?_
    rcases Nat.lt_or_ge j l.length with h | h
    · rw [h4 j h, List.getElem?_eq_getElem (by rw [ups3_length]; exact h), ups3_get h]
    · rw [List.getElem?_eq_none (by omega), List.getElem?_eq_none (by rw [ups3_length]; exact h)]
  rw [e, h2]
theorem heldA3_l1 (hk : Big ≤ k) (n i : Nat) (hi : i < n) (m : Int) (h0 : 0 ≤ m) (hm : m + 3 * n ≤ 2147483648) : laws_heldIntA3S.l1 k (ups3 m n) (i : Int) k (m + 3 * i) 0 = some (.inl (m + 3 * i + 3)) := by
  obtain ⟨q, rfl⟩ := big_split hk
  have w1 : w64 (m + 3 * i + 1) = m + 3 * i + 1 := w64_id (by omega) (by omega)
  have w2 : w64 (m + 3 * i + 1 + 1) = m + 3 * i + 2 := by rw [w64_id (by omega) (by omega)]; omega
  have w3 : w64 (m + 3 * i + 2 + 1) = m + 3 * i + 3 := by rw [w64_id (by omega) (by omega)]; omega
  simp [laws_heldIntA3S.l1, w64_1, w64_2, w64_3, rdl3_0, rdl3_1, rdl3_2, rdl_lt (show i < (ups3 m n).length by rw [ups3_length]; exact hi), ups3_get hi, w1, w2, w3]
theorem heldIntA3S_eq (hk : Big ≤ k) (n : Nat) (m : Int) (h0 : 0 ≤ m) (hm : m ≤ 1073741824) (hl : n ≤ 1048576) : laws_heldIntA3S.f k (ups3 m n) m = some (m + 3 * n) := by
  unfold laws_heldIntA3S.f
  have hlen := ups3_length m n
  have := loop_exit (R := Int) (T := Int) (l := fun q (s : Int) i => laws_heldIntA3S.l0 k (ups3 m n) q s i) (N := n) (g := fun _ s => .inl (s + 3)) (out := fun s => some (.inl s)) (fun i s => s = m + 3 * i) (fun q i s hi hI => by
      left
      have e1 : ((i : Int) < ((ups3 m n).length : Int)) := by omega
      have hw : w64 ((i : Int) + 1) = ((i + 1 : Nat) : Int) := w64_id (by omega) (by omega)
      refine ⟨_, rfl, ?_, by omega⟩
      subst hI
      rw [laws_heldIntA3S.l0]
      simp only [e1, decide_true, if_true, heldA3_l1 hk n i hi m h0 (by omega), Option.bind_some, Lr, hw])
    (fun q s hI => by rw [laws_heldIntA3S.l0, hlen]; simp) (k := k) (by unfold Big at hk; omega) (s := m) (by simp)
  rw [this]
  have e : ∀ p i s, itx (R := Int) (fun _ (s : Int) => .inl (s + 3)) p i s = .inl (s + 3 * p) := by
    intro p
    induction p with
    | zero => intro i s; simp [itx]
    | succ p ih => intro i s; simp only [itx]; rw [ih]; congr 1; omega
  rw [e]
  rfl
theorem markMaze_eq (hk : Big ≤ k) (n : Int) (d : List Door) (ks : List Int) (m : Int) (h0 : 0 ≤ m) (hm : m ≤ 536870912) (hd : d.length ≤ 1048576) (hl : ks.length ≤ 1048576) :
    laws_markMaze.f k n d ks m = some (m + 3 * d.length + ks.length, ups3 m d.length, ups (m + 3 * d.length) ks.length) := by
  unfold laws_markMaze.f
  rw [markIntA3S_eq hk d m h0 (by omega) hd, Option.bind_some]
  simp only [markIntS_eq hk ks (m + 3 * d.length) (by omega) (by omega) hl, Option.bind_some]
theorem markVisit_eq (hk : Big ≤ k) (n : Int) (d : List Door) (ks l : List Int) (u m : Int) (h0 : 0 ≤ m) (hm : m ≤ 268435456) (hd : d.length ≤ 1048576) (hks : ks.length ≤ 1048576) (hl : l.length ≤ 1048576) :
    laws_markVisit.f k n d ks l u m = some (m + 3 * d.length + ks.length + l.length, ups3 m d.length, ups (m + 3 * d.length) ks.length, ups (m + 3 * d.length + ks.length) l.length) := by
  unfold laws_markVisit.f
  rw [markMaze_eq hk n d ks m h0 (by omega) hd hks, Option.bind_some]
  simp only [markIntS_eq hk l (m + 3 * d.length + ks.length) (by omega) (by omega) hl, Option.bind_some]
theorem heldMaze_eq (hk : Big ≤ k) (n : Int) (a b : Nat) (m : Int) (h0 : 0 ≤ m) (hm : m ≤ 536870912) (ha : a ≤ 1048576) (hb : b ≤ 1048576) :
    laws_heldMaze.f k n (ups3 m a) (ups (m + 3 * a) b) m = some (m + 3 * a + b) := by
  unfold laws_heldMaze.f
  rw [heldIntA3S_eq hk a m h0 (by omega) ha, Option.bind_some, if_neg (by simp; omega), heldIntS_eq hk b (m + 3 * a) (by omega) (by omega) hb, Option.bind_some, if_neg (by simp; omega)]
theorem heldVisit_eq (hk : Big ≤ k) (n : Int) (a b c : Nat) (u m : Int) (h0 : 0 ≤ m) (hm : m ≤ 268435456) (ha : a ≤ 1048576) (hb : b ≤ 1048576) (hc : c ≤ 1048576) :
    laws_heldVisit.f k n (ups3 m a) (ups (m + 3 * a) b) (ups (m + 3 * a + b) c) u m = some (m + 3 * a + b + c) := by
  unfold laws_heldVisit.f
  rw [heldMaze_eq hk n a b m h0 (by omega) ha hb, Option.bind_some, if_neg (by simp; omega), heldIntS_eq hk c (m + 3 * a + b) (by omega) (by omega) hc, Option.bind_some, if_neg (by simp; omega)]
end
end Go.Proofs

/- Plain laws: H -/
namespace Go.Proofs
open Go Go.Ga Go.Ga.Wf
/-! loops that go on as long as there is something to do -/
theorem loop_res {S β : Type} {l : Nat → S → Option β} (Inv : S → Prop) (mu : S → Nat) (res : S → β)
    (hs : ∀ n s, Inv s → (∃ s', l (n + 1) s = l n s' ∧ res s' = res s ∧ Inv s' ∧ mu s' < mu s) ∨ l (n + 1) s = some (res s)) : ∀ k s, mu s < k → Inv s → l k s = some (res s) := by
  intro k
  induction k with
  | zero => intro s h; omega
  | succ k ih =>
    intro s h hI
    rcases hs k s hI with ⟨s', h1, h2, h3, h4⟩ | h1
    · rw [h1, ih s' (by omega) h3, h2]
    · exact h1
theorem loop_good {S β : Type} {l : Nat → S → Option β} (Inv : S → Prop) (mu : S → Nat) (Good : β → Prop)
    (hs : ∀ n s, Inv s → (∃ s', l (n + 1) s = l n s' ∧ Inv s' ∧ mu s' < mu s) ∨ (∃ r, l (n + 1) s = some r ∧ Good r)) : ∀ k s, mu s < k → Inv s → ∃ r, l k s = some r ∧ Good r := by
  intro k
  induction k with
  | zero => intro s h; omega
  | succ k ih =>
    intro s h hI
    rcases hs k s hI with ⟨s', h1, h3, h4⟩ | h1
    · obtain ⟨r, h5, h6⟩ := ih s' (by omega) h3
      exact ⟨r, by rw [h1, h5], h6⟩
    · exact h1
/-- the number with the digits p, below n -/
def bitsOf (p : Nat → Bool) : Nat → Nat
  | 0 => 0
  | n + 1 => bitsOf p n ||| (if p n = true then 2 ^ n else 0)
/-- the digits that stand, ascending -/
def upto (m n : Nat) : List Int := ((List.range n).filter fun t => m.testBit t).map fun (t : Nat) => (t : Int)
theorem upto_succ (m n : Nat) : upto m (n + 1) = upto m n ++ (if m.testBit n = true then [(n : Int)] else []) := by
  unfold upto
  rw [List.range_succ, List.filter_append, List.map_append]
  congr 1
  by_cases h : m.testBit n = true <;> simp [h]
/-! what is reached -/
inductive Rch (d : List Door) (h x : Int) : Int → Prop
  | here : Rch d h x x
  | step {y z : Int} : Rch d h x y → d.any (goes y z h) = true → Rch d h x z
theorem goes_small {d : List Door} (hs : ∀ x ∈ d, Small x) {y z h : Int} (hg : d.any (goes y z h) = true) : (0 ≤ y ∧ y < 12) ∧ 0 ≤ z ∧ z < 12 := by
  obtain ⟨x, hx, hg⟩ := List.any_eq_true.1 hg
  have sm := hs x hx
  unfold Small at sm
  unfold goes at hg
  simp only [Bool.and_eq_true, Bool.or_eq_true, decide_eq_true_eq] at hg
  omega
theorem Rch.small {d : List Door} (hs : ∀ x ∈ d, Small x) {h x z : Int} (hx : 0 ≤ x ∧ x < 12) (hr : Rch d h x z) : 0 ≤ z ∧ z < 12 := by
  cases hr with
  | here => exact hx
  | step _ hg => exact (goes_small hs hg).2
open Classical in
noncomputable def reachN (d : List Door) (x h : Int) : Nat := bitsOf (fun t => decide (Rch d h x (t : Int))) 12
/-! doors and keys within bounds -/
def DoorIn (n : Int) (x : Door) : Prop := 0 ≤ x.1 ∧ x.1 < n ∧ 0 ≤ x.2.1 ∧ x.2.1 < n ∧ 0 ≤ x.2.2 ∧ x.2.2 ≤ 63
structure Okm (n : Int) (d : List Door) (ks : List Int) : Prop where
  lo : 1 ≤ n
  hi : n ≤ 12
  few : d.length ≤ 1048576
  len : (ks.length : Int) = n
  doors : ∀ x ∈ d, DoorIn n x
  keys : ∀ x ∈ ks, 0 ≤ x ∧ x ≤ 63
theorem IsMaze.okm {n : Int} {d : List Door} {ks : List Int} (h : IsMaze n d ks) : Okm n d ks where
  lo := h.1
  hi := h.2.1
  few := by have := h.2.2.1; omega
  len := h.2.2.2.1
  doors := fun x hx => by
    obtain ⟨i, hi, rfl⟩ := List.getElem_of_mem hx
    have h1 := h.2.2.2.2.1 i hi
    unfold doorB at h1
    rw [dif_pos hi, Bool.and_eq_true, decide_eq_true_eq] at h1
    have := h1.1; unfold DoorOk at this; unfold DoorIn
    omega
  keys := h.keys
theorem Okm.small {n : Int} {d : List Door} {ks : List Int} (h : Okm n d ks) : ∀ x ∈ d, Small x := fun x hx => by
  have h1 := h.doors x hx
  have h2 := h.hi
  unfold DoorIn at h1; unfold Small
  omega
theorem Rch.lt {n : Int} {d : List Door} {ks : List Int} (hm : Okm n d ks) {h x z : Int} (hx : 0 ≤ x ∧ x < n) (hr : Rch d h x z) : 0 ≤ z ∧ z < n := by
  cases hr with
  | here => exact hx
  | step _ hg =>
    obtain ⟨y, hy, hg⟩ := List.any_eq_true.1 hg
    have sm := hm.doors y hy
    unfold DoorIn at sm
    unfold goes at hg
    simp only [Bool.and_eq_true, Bool.or_eq_true, decide_eq_true_eq] at hg
    omega
/-! what one has -/
end Go.Proofs

/- Plain laws: I -/
namespace Go.Proofs
open Go Go.Ga Go.Ga.Wf
set_option linter.unusedVariables false
set_option linter.unusedSimpArgs false
section
variable {k : Nat}
theorem clone3_eq (l : List Door) (hl : l.length ≤ 1048576) : slices_Clone__3int__3int.f k l = some l := by
  unfold slices_Clone__3int__3int.f; rw [List.nil_append, if_pos (by omega)]
theorem clone_eq (l : List Int) (hl : l.length ≤ 1048576) : slices_Clone_int_int.f k l = some l := by
  unfold slices_Clone_int_int.f; rw [List.nil_append, if_pos (by omega)]
theorem own_eq (n : Int) (d : List Door) (ks : List Int) (hd : d.length ≤ 1048576) (hl : ks.length ≤ 1048576) : impl_own.f k n d ks = some (n, d, ks) := by
  unfold impl_own.f; rw [clone3_eq d hd, Option.bind_some, clone_eq ks hl]; rfl
theorem l1Own_eq (l : List Int) (hl : l.length ≤ 1048576) : spec_l1Own.f k l = some l := by
  unfold spec_l1Own.f; rw [List.nil_append, if_pos (by omega)]
theorem l2Own_eq (n : Int) (d : List Door) (ks : List Int) (hd : d.length ≤ 1048576) (hl : ks.length ≤ 1048576) : spec_l2Own.f k n d ks = some (n, d, ks) := by
  unfold spec_l2Own.f; rw [List.nil_append, if_pos (by omega), l1Own_eq ks hl]; rfl
theorem l12Own_eq (n : Int) (d : List Door) (ks l : List Int) (u : Int) (hd : d.length ≤ 1048576) (hl : ks.length ≤ 1048576) (hw : l.length ≤ 1048576) : spec_l12Own.f k n d ks l u = some (n, d, ks, l, u) := by
  unfold spec_l12Own.f; simp only [l2Own_eq n d ks hd hl, Option.bind_some, l1Own_eq l hw]
theorem ownVisit_eq (n : Int) (d : List Door) (ks l : List Int) (u : Int) (hd : d.length ≤ 1048576) (hl : ks.length ≤ 1048576) (hw : l.length ≤ 1048576) : impl_ownVisit.f k n d ks l u = some (n, d, ks, l, u) := by
  unfold impl_ownVisit.f; simp only [own_eq n d ks hd hl, Option.bind_some, clone_eq l hw]
/-! a trap -/
end
end Go.Proofs

/- Plain laws: J -/
namespace Go.Proofs
open Go Go.Ga Go.Ga.Wf
set_option linter.unusedVariables false
set_option linter.unusedSimpArgs false
section
variable {k : Nat}
end
end Go.Proofs

/- Plain laws: K -/
namespace Go.Proofs
open Go Go.Ga Go.Ga.Wf
set_option linter.unusedVariables false
set_option linter.unusedSimpArgs false
section
variable {k : Nat}
/-- n put to its place -/
def putP (n : Int) : List Int → List Int
  | [] => [n]
  | x :: l => if x < n then x :: putP n l else if x = n then x :: l else n :: x :: l
theorem mem_putP (n : Int) : ∀ (l : List Int) (z : Int), z ∈ putP n l ↔ z = n ∨ z ∈ l
  | [], z => by simp [putP]
  | x :: l, z => by
    unfold putP
    split
    · rw [List.mem_cons, mem_putP n l z, List.mem_cons]
      constructor
      · rintro (h | h | h) <;> simp [h]
      · rintro (h | h | h) <;> simp [h]
    · split
      · rename_i h; subst h; simp
      · simp
theorem putP_sorted (n : Int) : ∀ (l : List Int), l.Pairwise (· < ·) → (putP n l).Pairwise (· < ·)
  | [], _ => by simp [putP]
  | x :: l, h => by
    rw [List.pairwise_cons] at h
    unfold putP
    split
    · rename_i hx
      rw [List.pairwise_cons]
      refine ⟨fun z hz => ?_, putP_sorted n l h.2⟩
      rcases (mem_putP n l z).1 hz with h1 | h1
      · omega
      · exact h.1 z h1
    · split
      · rw [List.pairwise_cons]; exact h
      · rw [List.pairwise_cons, List.pairwise_cons]
        refine ⟨fun z hz => ?_, h⟩
        rcases List.mem_cons.1 hz with h1 | h1
        · omega
        · have := h.1 z h1; omega
theorem putP_length (n : Int) : ∀ (l : List Int), l.Pairwise (· < ·) → n ∉ l → (putP n l).length = l.length + 1
  | [], _, _ => rfl
  | x :: l, h, hn => by
    rw [List.pairwise_cons] at h
    unfold putP
    rw [List.mem_cons, not_or] at hn
    split
    · rw [List.length_cons, putP_length n l h.2 hn.2, List.length_cons]
    · rw [if_neg (fun e => hn.1 e.symm)]; rfl
theorem sorted_len : ∀ (l : List Int) (a b : Int), l.Pairwise (· < ·) → (∀ x ∈ l, a ≤ x ∧ x < b) → a ≤ b → (l.length : Int) ≤ b - a
  | [], a, b, _, _, h => by simp; omega
  | x :: l, a, b, hp, hx, h => by
    rw [List.pairwise_cons] at hp
    have h1 := hx x (List.mem_cons_self ..)
    have := sorted_len l (x + 1) b hp.2 (fun z hz => ⟨by have := hp.1 z hz; omega, (hx z (List.mem_cons_of_mem _ hz)).2⟩) (by omega)
    rw [List.length_cons]; omega
/-! the reference -/
structure RInv (d : List Door) (h x : Int) (out list : List Int) : Prop where
  sorted : out.Pairwise (· < ·)
  same : ∀ z, z ∈ out ↔ z ∈ list
  len : out.length = list.length
  start : x ∈ list
  rch : ∀ z ∈ list, Rch d h x z
theorem RInv.le {d : List Door} {h x : Int} {out list : List Int} (hI : RInv d h x out list) (hs : ∀ x ∈ d, Small x) (hx : 0 ≤ x ∧ x < 12) : list.length ≤ 12 := by
  have := sorted_len out 0 12 hI.sorted (fun z hz => (hI.rch z ((hI.same z).1 hz)).small hs hx) (by omega)
  rw [hI.len] at this; omega
theorem RInv.put {d : List Door} {h x y : Int} {out list : List Int} (hI : RInv d h x out list) (hy : y ∉ out) (hr : Rch d h x y) : RInv d h x (putP y out) (list ++ [y]) where
  sorted := putP_sorted y out hI.sorted
  same := fun z => by rw [mem_putP, List.mem_append, List.mem_singleton, hI.same z]; exact Or.comm
  len := by rw [putP_length y out hI.sorted hy, List.length_append, hI.len]; rfl
  start := List.mem_append_left _ hI.start
  rch := fun z hz => by
    rcases List.mem_append.1 hz with h1 | h1
    · exact hI.rch z h1
    · rw [List.mem_singleton.1 h1]; exact hr
/-! the program -/
end
end Go.Proofs

/- Plain laws: L -/
namespace Go.Proofs
open Go Go.Ga Go.Ga.Wf
set_option linter.unusedVariables false
set_option linter.unusedSimpArgs false
section
variable {k : Nat}
/-! without a colour -/
end
end Go.Proofs

/- Plain laws: M -/
namespace Go.Proofs
open Go Go.Ga Go.Ga.Wf
set_option linter.unusedVariables false
set_option linter.unusedSimpArgs false
abbrev MazeT := Int × List Door × List Int
def mz1 (t : MazeT) : Nat := t.2.1.length + t.2.2.length
def mz : List MazeT → Nat
  | [] => 0
  | t :: l => mz1 t + mz l
def iz : List (List Int) → Nat
  | [] => 0
  | t :: l => t.length + iz l
theorem mz_mem : ∀ {l : List MazeT} {t : MazeT}, t ∈ l → mz1 t ≤ mz l
  | x :: l, t, h => by
    rcases List.mem_cons.1 h with rfl | h
    · simp [mz]
    · have := mz_mem h; simp [mz]; omega
theorem iz_mem : ∀ {l : List (List Int)} {t : List Int}, t ∈ l → t.length ≤ iz l
  | x :: l, t, h => by
    rcases List.mem_cons.1 h with rfl | h
    · simp [iz]
    · have := iz_mem h; simp [iz]; omega
section
variable {k : Nat}
/-- worlds within bounds -/
structure WB (ms : List MazeT) (os : List (List Int)) : Prop where
  ml : ms.length ≤ 1048576
  ol : os.length ≤ 1048576
  md : ∀ t ∈ ms, t.2.1.length ≤ 1048576 ∧ t.2.2.length ≤ 1048576
  od : ∀ t ∈ os, t.length ≤ 1048576
def wz (ms : List MazeT) (os : List (List Int)) : Nat := ms.length + mz ms + (os.length + iz os)
theorem WB.of {ms : List MazeT} {os : List (List Int)} (h : ((wz ms os : Nat) : Int) ≤ 1048576) : WB ms os := by
  unfold wz at h
  refine ⟨by omega, by omega, fun t ht => ?_, fun t ht => ?_⟩
  · have := mz_mem ht; unfold mz1 at this; omega
  · have := iz_mem ht; omega
/-! marks -/
/-! valid worlds -/
def worldOk (ms : List MazeT) (os : List (List Int)) (i : Nat) : Bool :=
  if h : i < ms.length then decide (IsMaze ms[i].1 ms[i].2.1 ms[i].2.2) && decide (((os.getD i []).length : Int) = ms[i].1) && (os.getD i []).all (fun o => decide (0 ≤ o ∧ o ≤ (ms.length : Int) - 1)) else true
def IsWorldsP (ms : List MazeT) (os : List (List Int)) : Prop := (1 ≤ ms.length ∧ ms.length ≤ 3) ∧ os.length = ms.length ∧ ∀ i, i < ms.length → worldOk ms os i = true
instance (ms : List MazeT) (os : List (List Int)) : Decidable (IsWorldsP ms os) := by unfold IsWorldsP; infer_instance
/-! one maze alone -/
end
end Go.Proofs

/- Plain laws: N -/
namespace Go.Proofs
open Go Go.Ga Go.Ga.Wf
set_option linter.unusedVariables false
set_option linter.unusedSimpArgs false
section
variable {k : Nat}
theorem isNode_eq (hk : Big ≤ k) (n : Int) (d : List Door) (ks l : List Int) (hd : d.length ≤ 1048576) (hks : ks.length ≤ 1048576) (hl : l.length ≤ 1048576) :
    impl_isNode.f k n d ks l = some (decide (IsMaze n d ks) && l.all (fun x => decide (0 ≤ x ∧ x ≤ n - 1))) := by
  unfold impl_isNode.f
  rw [IsMaze_eq hk n d ks hd hks]
  by_cases hm : IsMaze n d ks
  rotate_left 1
  · simp [hm]
  have en : w64 (n - 1) = n - 1 := w64_id (by have := hm.1; omega) (by have := hm.2.1; omega)
  simp only [hm, decide_true, Option.bind_some, if_true, containsFunc_eq hk l hl (fun z0 => impl_isNode_1.f k z0 n d ks) (fun x => !decide (0 ≤ x ∧ x ≤ n - 1)) (fun x _ => by simp [impl_isNode_1.f, within_eq, en]), Bool.true_and]
  rw [List.all_eq_not_any_not]
/-! idle nodes -/
/-! nodes ahead -/
/-! a new console -/
/-! what a world can ever reach -/
theorem IsWorldsP.at {ms : List MazeT} {os : List (List Int)} (h : IsWorldsP ms os) (i : Nat) (hi : i < ms.length) : IsMaze ms[i].1 ms[i].2.1 ms[i].2.2 ∧ ∃ hio : i < os.length, (os[i].length : Int) = ms[i].1 ∧ ∀ o ∈ os[i], 0 ≤ o ∧ o ≤ (ms.length : Int) - 1 := by
  have h1 := h.2.2 i hi
  unfold worldOk at h1
  have hio : i < os.length := by have := h.2.1; omega
  have hod : os.getD i [] = os[i] := by rw [List.getD_eq_getElem?_getD, List.getElem?_eq_getElem hio]; rfl
  rw [dif_pos hi, hod] at h1
  simp only [Bool.and_eq_true, decide_eq_true_eq, List.all_eq_true] at h1
  exact ⟨h1.1.1, hio, h1.1.2, h1.2⟩
end
end Go.Proofs

/- Plain laws: O -/
namespace Go.Proofs
open Go Go.Ga Go.Ga.Wf
set_option linter.unusedVariables false
set_option linter.unusedSimpArgs false
theorem slc_pre {α : Type} (l : List α) (i : Nat) (h : i ≤ l.length) : slc l 0 (i : Int) = some (l.take i) := by
  unfold slc; rw [if_pos ⟨Int.le_refl _, by omega, by omega⟩]; simp
theorem slc_suf {α : Type} (l : List α) (i : Nat) (h : i ≤ l.length) : slc l (i : Int) (l.length : Int) = some (l.drop i) := by
  unfold slc; rw [if_pos ⟨by omega, by omega, by omega⟩]; simp
theorem slc_mid {α : Type} (l : List α) (i j : Nat) (h : i ≤ j) (hj : j ≤ l.length) : slc l (i : Int) (j : Int) = some ((l.take j).drop i) := by
  unfold slc; rw [if_pos ⟨by omega, by omega, by omega⟩]; simp
section
variable {k : Nat}
theorem delete3_eq (l : List Door) (x : Nat) (hx : x < l.length) (hl : l.length ≤ 1048576) : slices_Delete__3int__3int.f k l (x : Int) ((x + 1 : Nat) : Int) = some (l.take x ++ l.drop (x + 1)) := by
  unfold slices_Delete__3int__3int.f
  rw [slc_mid l x (x + 1) (by omega) (by omega), Option.bind_some, if_neg (by simp; omega), slc_pre l x (by omega), Option.bind_some, slc_suf l (x + 1) (by omega), Option.bind_some, if_pos (by omega)]
def noDoor (d : List Door) (x : Nat) : List Door := d.take x ++ d.drop (x + 1)
theorem noDoor_mem {d : List Door} {x : Nat} {t : Door} (h : t ∈ noDoor d x) : t ∈ d := by
  rcases List.mem_append.1 h with h | h
  · exact List.mem_of_mem_take h
  · exact List.mem_of_mem_drop h
theorem noDoor_len (d : List Door) (x : Nat) : (noDoor d x).length ≤ d.length := by unfold noDoor; simp; omega
theorem Okm.sub {n : Int} {d : List Door} {ks : List Int} (hm : Okm n d ks) {d' : List Door} (h1 : d'.length ≤ d.length) (h2 : ∀ t ∈ d', t ∈ d) : Okm n d' ks :=
  ⟨hm.lo, hm.hi, Nat.le_trans h1 hm.few, hm.len, fun x hx => hm.doors x (h2 x hx), hm.keys⟩
theorem Okm.noDoor {n : Int} {d : List Door} {ks : List Int} (hm : Okm n d ks) (x : Nat) : Okm n (noDoor d x) ks := hm.sub (noDoor_len d x) fun _ h => noDoor_mem h
theorem dropped_eq (n : Int) (d : List Door) (ks : List Int) (x : Nat) (hx : x < d.length) (hd : d.length ≤ 1048576) (hl : ks.length ≤ 1048576) : impl_dropped.f k n d ks (x : Int) = some (n, noDoor d x, ks) := by
  unfold impl_dropped.f
  have hw : w64 ((x : Int) + 1) = ((x + 1 : Nat) : Int) := w64_id (by omega) (by omega)
  simp only [own_eq n d ks hd hl, Option.bind_some, hw]
  rw [delete3_eq d x hx hd, Option.bind_some]; rfl
end
end Go.Proofs

/- Plain laws: P -/
namespace Go.Proofs
open Go Go.Ga Go.Ga.Wf
set_option linter.unusedVariables false
set_option linter.unusedSimpArgs false
section
variable {k : Nat}
end
end Go.Proofs

/- Plain laws: Q -/
namespace Go.Proofs
open Go Go.Ga Go.Ga.Wf
set_option linter.unusedVariables false
set_option linter.unusedSimpArgs false
theorem itr_snoc {S : Type} (g : Nat → S → S) : ∀ m i s, itr g (m + 1) i s = g (i + m) (itr g m i s)
  | 0, i, s => rfl
  | m + 1, i, s => by
    show itr g (m + 1) (i + 1) (g i s) = _
    rw [itr_snoc g m (i + 1) (g i s), show i + 1 + m = i + (m + 1) by omega]; rfl
theorem getD_set {α : Type} (l : List α) (i j : Nat) (v d : α) : (l.set i v).getD j d = if i = j ∧ i < l.length then v else l.getD j d := by
  rw [List.getD_eq_getElem?_getD, List.getD_eq_getElem?_getD]
  by_cases h : i = j
  · subst h
    by_cases h2 : i < l.length
    · rw [List.getElem?_set_self h2, if_pos ⟨rfl, h2⟩]; rfl
    · rw [if_neg (fun h => h2 h.2), List.set_eq_of_length_le (by omega)]
  · rw [List.getElem?_set_ne h, if_neg (fun h' => h h'.1)]
theorem itr_at {α : Type} (F : Nat → α → α) (d : α) (R : List α) : ∀ m, m ≤ R.length → (itr (fun i R => R.set i (F i (R.getD i d))) m 0 R).length = R.length ∧ ∀ j, (itr (fun i R => R.set i (F i (R.getD i d))) m 0 R).getD j d = if j < m then F j (R.getD j d) else R.getD j d
  | 0, _ => ⟨rfl, fun j => by simp [itr]⟩
  | m + 1, h => by
    obtain ⟨h1, h2⟩ := itr_at F d R m (by omega)
    rw [itr_snoc, Nat.zero_add]
    refine ⟨by rw [List.length_set]; exact h1, fun j => ?_⟩
    rw [getD_set, h1, h2 j, h2 m]
    by_cases hj : m = j
    · subst hj; rw [if_pos ⟨rfl, by omega⟩, if_neg (by omega), if_pos (by omega)]
    · rw [if_neg (fun h => hj h.1)]
      by_cases h3 : j < m
      · rw [if_pos h3, if_pos (by omega)]
      · rw [if_neg h3, if_neg (by omega)]
/-! what grows -/
def updR (rd : Int) (row : List Int) (x : Int) : List Int := if row.getD x.toNat 0 < 0 then row.set x.toNat rd else row
theorem updR_len (rd : Int) (row : List Int) (x : Int) : (updR rd row x).length = row.length := by unfold updR; split <;> simp
theorem fold_updR (rd : Int) (b : Nat) (row : List Int) : ∀ n, ((upto b n).foldl (updR rd) row).length = row.length ∧ ∀ t, t < row.length → ((upto b n).foldl (updR rd) row).getD t 0 = if (t < n ∧ b.testBit t = true) ∧ row.getD t 0 < 0 then rd else row.getD t 0
  | 0 => ⟨rfl, fun t _ => by simp [upto]⟩
  | n + 1 => by
    obtain ⟨h1, h2⟩ := fold_updR rd b row n
    rw [upto_succ, List.foldl_append]
    by_cases hb : b.testBit n = true
    rotate_left 1
    · rw [if_neg hb, List.foldl_nil]
      refine ⟨h1, fun t ht => ?_⟩
      rw [h2 t ht]
      by_cases htn : t = n
      · subst htn; rw [if_neg (fun h => hb h.1.2), if_neg (fun h => hb h.1.2)]
      · by_cases hlt : t < n
        · simp only [hlt, show t < n + 1 by omega]
        · simp only [hlt, show ¬ t < n + 1 by omega]
    · rw [if_pos hb, List.foldl_cons, List.foldl_nil]
      generalize (upto b n).foldl (updR rd) row = w at *
      refine ⟨by rw [updR_len]; exact h1, fun t ht => ?_⟩
      unfold updR
      rw [Int.toNat_natCast]
      by_cases htn : t = n
      · subst htn
        have e := h2 t ht
        rw [if_neg (fun h => by omega)] at e
        rw [e]
        by_cases hv : row.getD t 0 < 0
        · rw [if_pos hv, getD_set, if_pos ⟨rfl, by omega⟩, if_pos ⟨⟨by omega, hb⟩, hv⟩]
        · rw [if_neg hv, if_neg (fun h => hv h.2), e]
      · have e : (if w.getD n 0 < 0 then w.set n rd else w).getD t 0 = w.getD t 0 := by
          split
          · rw [getD_set, if_neg (fun h => htn h.1.symm)]
          · rfl
        rw [e, h2 t ht]
        by_cases hlt : t < n
        · simp only [hlt, show t < n + 1 by omega]
        · simp only [hlt, show ¬ t < n + 1 by omega]
def mzD (ms : List MazeT) (i : Nat) : MazeT := ms.getD i (0, [], [])
def szW (ms : List MazeT) (i : Nat) : Nat := (mzD ms i).1.toNat
noncomputable def bW (ms : List MazeT) (h : List Int) (i : Nat) : Nat := reachN (mzD ms i).2.1 0 (h.getD i 0)
noncomputable def goalW (ms : List MazeT) (h : List Int) (i : Nat) : Bool := (bW ms h i).testBit (szW ms i - 1)
noncomputable def rowF (ms : List MazeT) (h : List Int) (rd : Int) (i : Nat) (row : List Int) : List Int := (upto (bW ms h i) (szW ms i)).foldl (updR rd) row
noncomputable def wonF (ms : List MazeT) (h : List Int) (rd : Int) (i : Nat) (v : Int) : Int := if goalW ms h i = true ∧ v < 0 then rd else v
structure Facts (ms : List MazeT) (os : List (List Int)) (i : Nat) : Prop where
  mz : IsMaze (mzD ms i).1 (mzD ms i).2.1 (mzD ms i).2.2
  rd : rdl ms (i : Int) = some (mzD ms i)
  ro : rdl os (i : Int) = some (os.getD i [])
  ol : (os.getD i []).length = szW ms i
  kl : (mzD ms i).2.2.length = szW ms i
  own : ∀ o ∈ os.getD i [], 0 ≤ o ∧ o ≤ (ms.length : Int) - 1
  lo : 1 ≤ szW ms i
  hi : szW ms i ≤ 12
  sz : (mzD ms i).1 = (szW ms i : Int)
theorem IsWorldsP.facts {ms : List MazeT} {os : List (List Int)} (hw : IsWorldsP ms os) (i : Nat) (hi : i < ms.length) : Facts ms os i := by
  obtain ⟨hm, hio, h1, h2⟩ := hw.at i hi
  have e1 : ms[i] = mzD ms i := by unfold mzD; rw [List.getD_eq_getElem?_getD, List.getElem?_eq_getElem hi]; rfl
  have e2 : os[i] = os.getD i [] := by rw [List.getD_eq_getElem?_getD, List.getElem?_eq_getElem hio]; rfl
  rw [e1] at hm h1
  rw [e2] at h1 h2
  have om := hm.okm
  have hlo := om.lo
  have hhi := om.hi
  have hlen := om.len
  have hz : szW ms i = (mzD ms i).1.toNat := rfl
  exact ⟨hm, by rw [rdl_lt hi, e1], by rw [rdl_lt hio, e2], by omega, by omega, h2, by omega, by omega, by omega⟩
section
variable {k : Nat}
noncomputable def rowsA (ms : List MazeT) (h : List Int) (rd : Int) (R : List (List Int)) : List (List Int) := itr (fun i R => R.set i (rowF ms h rd i (R.getD i []))) ms.length 0 R
noncomputable def wonA (ms : List MazeT) (h : List Int) (rd : Int) (W : List Int) : List Int := itr (fun i W => W.set i (wonF ms h rd i (W.getD i 0))) ms.length 0 W
structure RW (ms : List MazeT) (W : List Int) (R : List (List Int)) : Prop where
  wl : W.length = ms.length
  rl : R.length = ms.length
  row : ∀ j, j < ms.length → (R.getD j []).length = szW ms j
  same : ∀ j, j < ms.length → W.getD j 0 = (R.getD j []).getD (szW ms j - 1) 0
theorem RW.step {ms : List MazeT} {os : List (List Int)} (hw : IsWorldsP ms os) {W : List Int} {R : List (List Int)} (hI : RW ms W R) (h : List Int) (rd : Int) : RW ms (wonA ms h rd W) (rowsA ms h rd R) := by
  obtain ⟨a1, a2⟩ := itr_at (wonF ms h rd) 0 W ms.length (by rw [hI.wl]; exact Nat.le_refl _)
  obtain ⟨b1, b2⟩ := itr_at (rowF ms h rd) [] R ms.length (by rw [hI.rl]; exact Nat.le_refl _)
  refine ⟨a1.trans hI.wl, b1.trans hI.rl, fun j hj => ?_, fun j hj => ?_⟩
  · unfold rowsA
    rw [b2 j, if_pos hj]
    unfold rowF
    rw [(fold_updR rd _ _ _).1]; exact hI.row j hj
  · have hf := hw.facts j hj
    have hlo := hf.lo
    unfold rowsA wonA
    rw [b2 j, if_pos hj, a2 j, if_pos hj]
    unfold rowF wonF
    rw [(fold_updR rd _ _ _).2 _ (by rw [hI.row j hj]; omega), hI.same j hj]
    have : szW ms j - 1 < szW ms j := by omega
    simp only [this, true_and]
    rfl
end
end Go.Proofs

/- Plain laws: R -/
namespace Go.Proofs
open Go Go.Ga Go.Ga.Wf
set_option linter.unusedVariables false
set_option linter.unusedSimpArgs false
section
variable {k : Nat}
end
end Go.Proofs

/- Plain laws: S -/
namespace Go.Proofs
open Go Go.Ga Go.Ga.Wf
set_option linter.unusedVariables false
set_option linter.unusedSimpArgs false
/-- a path of v steps to a goal -/
inductive Pth (nx : Nat → List Nat) (goal : Nat → Bool) : Nat → Nat → Prop
  | here {i : Nat} : goal i = true → Pth nx goal i 0
  | step {i j v : Nat} : j ∈ nx i → Pth nx goal j v → Pth nx goal i (v + 1)
/-! by truth -/
def cntF : List Bool → Nat
  | [] => 0
  | b :: l => (if b = true then 0 else 1) + cntF l
theorem cntF_set : ∀ (l : List Bool) (i : Nat), i < l.length → l.getD i false = false → cntF (l.set i true) + 1 = cntF l
  | [], i, h, _ => by simp at h
  | b :: l, 0, _, h => by
    simp only [List.getD_cons_zero] at h
    subst h
    simp only [List.set_cons_zero, cntF]; simp; omega
  | b :: l, i + 1, h, hv => by
    have := cntF_set l i (by simpa using h) (by simpa using hv)
    simp only [List.set_cons_succ, cntF]; omega
def goodG (nx : Nat → List Nat) (goal : Nat → Bool) (i : Nat) (p : List Bool × Bool) : List Bool × Bool :=
  if p.1.getD i false = true then p else if (goal i || (nx i).any fun t => p.1.getD t false) = true then (p.1.set i true, true) else p
structure GI (nx : Nat → List Nat) (goal : Nat → Bool) (m : Nat) (o : List Bool) (i : Nat) (p : List Bool × Bool) : Prop where
  len : p.1.length = m
  sound : ∀ t, p.1.getD t false = true → ∃ v, Pth nx goal t v
  le : cntF p.1 ≤ cntF o
  no : p.2 = false → p.1 = o ∧ ∀ j, j < i → o.getD j false = true ∨ (goal j = false ∧ ∀ t ∈ nx j, o.getD t false = false)
  yes : p.2 = true → cntF p.1 < cntF o
theorem GI.step {nx : Nat → List Nat} {goal : Nat → Bool} {m : Nat} {o : List Bool} {i : Nat} {p : List Bool × Bool} (h : GI nx goal m o i p) (hi : i < m) : GI nx goal m o (i + 1) (goodG nx goal i p) := by
  unfold goodG
  by_cases c1 : p.1.getD i false = true
  · rw [if_pos c1]
    refine ⟨h.len, h.sound, h.le, fun hf => ⟨(h.no hf).1, fun j hj => ?_⟩, h.yes⟩
    by_cases hji : j = i
    · subst hji; left; rw [← (h.no hf).1]; exact c1
    · exact (h.no hf).2 j (by omega)
  · rw [if_neg c1]
    by_cases c2 : (goal i || (nx i).any fun t => p.1.getD t false) = true
    · rw [if_pos c2]
      have hc := cntF_set p.1 i (by rw [h.len]; exact hi) (by simpa using c1)
      have hle := h.le
      refine ⟨by rw [List.length_set]; exact h.len, fun t ht => ?_, by simp only; omega, (fun hf => by cases hf), fun _ => by simp only; omega⟩
      simp only at ht
      rw [getD_set] at ht
      by_cases hti : i = t ∧ i < p.1.length
      · rw [← hti.1]
        rcases Bool.or_eq_true _ _ ▸ c2 with hg | hg
        · exact ⟨0, .here hg⟩
        · obtain ⟨j, hj, hv⟩ := List.any_eq_true.1 hg
          obtain ⟨v, hp⟩ := h.sound j hv
          exact ⟨v + 1, .step hj hp⟩
      · rw [if_neg hti] at ht
        exact h.sound t ht
    · rw [if_neg c2]
      refine ⟨h.len, h.sound, h.le, fun hf => ⟨(h.no hf).1, fun j hj => ?_⟩, h.yes⟩
      by_cases hji : j = i
      · subst hji
        right
        rw [← (h.no hf).1]
        simp only [Bool.or_eq_true, not_or, Bool.not_eq_true] at c2
        refine ⟨c2.1, fun t ht => ?_⟩
        cases hv : p.1.getD t false with
        | false => rfl
        | true =>
          have : ((nx j).any fun t => p.1.getD t false) = true := List.any_eq_true.2 ⟨t, ht, hv⟩
          rw [this] at c2; cases c2.2
      · exact (h.no hf).2 j (by omega)
/-! by numbers -/
def fv (v : Int) : Nat := if v < 0 then 2000 else v.toNat
def mu : List Int → Nat
  | [] => 0
  | v :: l => fv v + mu l
def cp : List Int → Nat
  | [] => 0
  | v :: l => (if v < 0 then 0 else 1) + cp l
theorem mu_set : ∀ (l : List Int) (i : Nat) (v : Int), i < l.length → mu (l.set i v) + fv (l.getD i 0) = mu l + fv v
  | [], i, v, h => by simp at h
  | x :: l, 0, v, _ => by simp only [List.set_cons_zero, mu, List.getD_cons_zero]; omega
  | x :: l, i + 1, v, h => by
    have := mu_set l i v (by simpa using h)
    simp only [List.set_cons_succ, mu, List.getD_cons_succ]; omega
theorem cp_set : ∀ (l : List Int) (i : Nat) (v : Int), i < l.length → 0 ≤ v → cp (l.set i v) + (if l.getD i 0 < 0 then 0 else 1) = cp l + 1
  | [], i, v, h, _ => by simp at h
  | x :: l, 0, v, _, hv => by
    have : ¬ v < 0 := by omega
    simp only [List.set_cons_zero, cp, List.getD_cons_zero, this, if_false]; omega
  | x :: l, i + 1, v, h, hv => by
    have := cp_set l i v (by simpa using h) hv
    simp only [List.set_cons_succ, cp, List.getD_cons_succ]; omega
theorem cp_le : ∀ l : List Int, cp l ≤ l.length
  | [] => Nat.le_refl _
  | v :: l => by have := cp_le l; simp only [cp, List.length_cons]; split <;> omega
def relax (i : Nat) (p : Bool × Arr 768) (j : Nat) : Bool × Arr 768 :=
  if 0 ≤ p.2.l.getD j 0 ∧ (p.2.l.getD i 0 < 0 ∨ p.2.l.getD j 0 + 1 < p.2.l.getD i 0) then (true, p.2.put (i : Int) (p.2.l.getD j 0 + 1)) else p
/-- an array of numbers of steps -/
structure DI (nx : Nat → List Nat) (goal : Nat → Bool) (m : Nat) (l : List Int) : Prop where
  bnd : ∀ t, l.getD t 0 ≤ cp l
  sound : ∀ t, t < l.length → 0 ≤ l.getD t 0 → Pth nx goal t (l.getD t 0).toNat
  gz : ∀ t, t < m → goal t = true → l.getD t 0 = 0
def Rlx (l : List Int) (i j : Nat) : Prop := 0 ≤ l.getD j 0 → 0 ≤ l.getD i 0 ∧ l.getD i 0 ≤ l.getD j 0 + 1
structure PI (nx : Nat → List Nat) (goal : Nat → Bool) (m : Nat) (o : Arr 768) (i : Nat) (p : Bool × Arr 768) : Prop where
  di : DI nx goal m p.2.l
  le : mu p.2.l ≤ mu o.l
  no : p.1 = false → p.2.l = o.l ∧ ∀ t, t < i → ∀ j ∈ nx t, Rlx o.l t j
  yes : p.1 = true → mu p.2.l < mu o.l
theorem PI.relax {nx : Nat → List Nat} {goal : Nat → Bool} {m : Nat} {o : Arr 768} {i : Nat} {p : Bool × Arr 768} (h : PI nx goal m o i p) (hm : m ≤ 768) (hi : i < m) {j : Nat} (hj : j ∈ nx i) (hjm : j < m) :
    PI nx goal m o i (Go.Proofs.relax i p j) ∧ ((Go.Proofs.relax i p j).1 = false → p.1 = false ∧ Rlx o.l i j) := by
  unfold Go.Proofs.relax
  have hlen := p.2.len
  have hcl := cp_le p.2.l
  by_cases c : 0 ≤ p.2.l.getD j 0 ∧ (p.2.l.getD i 0 < 0 ∨ p.2.l.getD j 0 + 1 < p.2.l.getD i 0)
  · rw [if_pos c]
    have hbj := h.di.bnd j
    have hbi := h.di.bnd i
    have hmu := mu_set p.2.l i (p.2.l.getD j 0 + 1) (by omega)
    have hcp := cp_set p.2.l i (p.2.l.getD j 0 + 1) (by omega) (by omega)
    have hput : (p.2.put (i : Int) (p.2.l.getD j 0 + 1)).l = p.2.l.set i (p.2.l.getD j 0 + 1) := rfl
    have hfv : fv (p.2.l.getD j 0 + 1) < fv (p.2.l.getD i 0) := by
      unfold fv
      rw [if_neg (by omega)]
      split
      · omega
      · omega
    have hle := h.le
    refine ⟨⟨⟨fun t => ?_, fun t ht h0 => ?_, fun t ht hg => ?_⟩, ?_, (fun hf => by cases hf), fun _ => ?_⟩, fun hf => by cases hf⟩
    · simp only; rw [hput, getD_set]
      have hbt := h.di.bnd t
      split
      · split at hcp <;> omega
      · split at hcp <;> omega
    · simp only at ht h0 ⊢
      rw [hput] at ht h0 ⊢
      rw [getD_set] at h0 ⊢
      by_cases hti : i = t ∧ i < p.2.l.length
      · rw [if_pos hti] at h0 ⊢
        rw [← hti.1, show (p.2.l.getD j 0 + 1).toNat = (p.2.l.getD j 0).toNat + 1 by omega]
        exact .step hj (h.di.sound j (by omega) c.1)
      · rw [if_neg hti] at h0 ⊢
        exact h.di.sound t (by simpa using ht) h0
    · simp only
      have hz := h.di.gz t ht hg
      rw [hput, getD_set]
      by_cases hti : i = t ∧ i < p.2.l.length
      · rw [← hti.1] at hz; omega
      · rw [if_neg hti]; exact hz
    · simp only; rw [hput]; omega
    · simp only; rw [hput]; omega
  · rw [if_neg c]
    refine ⟨h, fun hf => ⟨hf, ?_⟩⟩
    have ho := (h.no hf).1
    unfold Rlx
    rw [← ho]
    intro h0
    omega
theorem PI.row {nx : Nat → List Nat} {goal : Nat → Bool} {m : Nat} {o : Arr 768} {i : Nat} {p : Bool × Arr 768} (h : PI nx goal m o i p) (hm : m ≤ 768) (hi : i < m) (hn : ∀ j ∈ nx i, j < m) : PI nx goal m o (i + 1) ((nx i).foldl (Go.Proofs.relax i) p) := by
  have key : ∀ (L done : List Nat) (p : Bool × Arr 768), (∀ j ∈ L, j ∈ nx i) → PI nx goal m o i p → (p.1 = false → ∀ j ∈ done, Rlx o.l i j) → PI nx goal m o i (L.foldl (Go.Proofs.relax i) p) ∧ ((L.foldl (Go.Proofs.relax i) p).1 = false → ∀ j, j ∈ done ∨ j ∈ L → Rlx o.l i j) := by
    intro L
    induction L with
    | nil => intro done p _ h1 h2; exact ⟨h1, fun hf j hj => by rcases hj with hj | hj; exact h2 hf j hj; cases hj⟩
    | cons j L ih =>
      intro done p hL h1 h2
      obtain ⟨g1, g2⟩ := h1.relax hm hi (hL j (List.mem_cons_self ..)) (hn j (hL j (List.mem_cons_self ..)))
      obtain ⟨k1, k2⟩ := ih (done ++ [j]) (Go.Proofs.relax i p j) (fun t ht => hL t (List.mem_cons_of_mem _ ht)) g1 (fun hf t ht => by
        rcases List.mem_append.1 ht with ht | ht
        · exact h2 (g2 hf).1 t ht
        · rw [List.mem_singleton.1 ht]; exact (g2 hf).2)
      refine ⟨k1, fun hf t ht => ?_⟩
      rcases ht with ht | ht
      · exact k2 hf t (.inl (List.mem_append_left _ ht))
      · rcases List.mem_cons.1 ht with rfl | ht
        · exact k2 hf t (.inl (List.mem_append_right _ (List.mem_singleton.2 rfl)))
        · exact k2 hf t (.inr ht)
  obtain ⟨k1, k2⟩ := key (nx i) [] p (fun j hj => hj) h (fun _ j hj => by cases hj)
  refine ⟨k1.di, k1.le, fun hf => ⟨(k1.no hf).1, fun t ht j hj => ?_⟩, k1.yes⟩
  by_cases hti : t = i
  · subst hti; exact k2 hf j (.inr hj)
  · exact (k1.no hf).2 t (by omega) j hj
end Go.Proofs

/- Plain laws: T -/
namespace Go.Proofs
open Go Go.Ga Go.Ga.Wf
set_option linter.unusedVariables false
set_option linter.unusedSimpArgs false
section
variable {k : Nat}
end
end Go.Proofs

/- Plain laws: U -/
namespace Go.Proofs
open Go Go.Ga Go.Ga.Wf
set_option linter.unusedVariables false
set_option linter.unusedSimpArgs false
section
variable {k : Nat}
end
end Go.Proofs

/- Plain laws: V -/
namespace Go.Proofs
open Go Go.Ga Go.Ga.Wf
set_option linter.unusedVariables false
set_option linter.unusedSimpArgs false
section
variable {k : Nat}
end
end Go.Proofs

/- Plain laws: W -/
namespace Go.Proofs
open Go Go.Ga Go.Ga.Wf
set_option linter.unusedVariables false
set_option linter.unusedSimpArgs false
/-- reached from a -/
inductive Rc (nx : Nat → List Nat) (a : Nat) : Nat → Prop
  | here : Rc nx a a
  | step {i j : Nat} : Rc nx a i → j ∈ nx i → Rc nx a j
def vis (v : Int) (p : List Int × List Nat) (j : Nat) : List Int × List Nat := if p.1.getD j 0 < 0 then (p.1.set j v, p.2 ++ [j]) else p
structure FI (nx : Nat → List Nat) (a m : Nat) (V0 : List Int) (p : List Int × List Nat) : Prop where
  len : p.1.length = V0.length
  keep : ∀ t, 0 ≤ V0.getD t 0 → p.1.getD t 0 = V0.getD t 0
  bnd : ∀ t, p.1.getD t 0 ≤ cp p.1
  sound : ∀ t, t < p.1.length → 0 ≤ p.1.getD t 0 → Rc nx a t
  new : ∀ t ∈ p.2, t < m ∧ 0 ≤ p.1.getD t 0
  only : ∀ t, 0 ≤ p.1.getD t 0 → 0 ≤ V0.getD t 0 ∨ t ∈ p.2
  cnt : cp p.1 = cp V0 + p.2.length
theorem FI.vis {nx : Nat → List Nat} {a m : Nat} {V0 : List Int} {p : List Int × List Nat} (h : FI nx a m V0 p) (hm : m ≤ V0.length) {i j : Nat} (hi : i < V0.length) (h0 : 0 ≤ V0.getD i 0) (hb0 : V0.getD i 0 ≤ cp V0) (hs0 : Rc nx a i) (hj : j ∈ nx i) (hjm : j < m) :
    FI nx a m V0 (Go.Proofs.vis (V0.getD i 0 + 1) p j) ∧ 0 ≤ (Go.Proofs.vis (V0.getD i 0 + 1) p j).1.getD j 0 := by
  have hlen := h.len
  have hcnt := h.cnt
  unfold Go.Proofs.vis
  by_cases c : p.1.getD j 0 < 0
  rotate_left 1
  · rw [if_neg c]; exact ⟨h, by omega⟩
  rw [if_pos c]
  have hcp := cp_set p.1 j (V0.getD i 0 + 1) (by omega) (by omega)
  rw [if_pos c] at hcp
  refine ⟨⟨by rw [List.length_set]; exact h.len, fun t ht => ?_, fun t => ?_, fun t ht h1 => ?_, fun t ht => ?_, fun t ht => ?_, by simp only [List.length_append, List.length_singleton]; omega⟩, ?_⟩
  · have hk := h.keep t ht
    simp only; rw [getD_set]
    split
    · rename_i hc; rw [← hc.1] at hk ht; omega
    · exact hk
  · simp only; rw [getD_set]
    have := h.bnd t
    split <;> omega
  · simp only at ht h1
    rw [getD_set] at h1
    by_cases hc : j = t ∧ j < p.1.length
    · rw [← hc.1]; exact .step hs0 hj
    · rw [if_neg hc] at h1; exact h.sound t (by simpa using ht) h1
  · simp only at ht ⊢
    rcases List.mem_append.1 ht with ht | ht
    · have := h.new t ht
      refine ⟨this.1, ?_⟩
      rw [getD_set]; split <;> omega
    · rw [List.mem_singleton.1 ht]
      refine ⟨hjm, ?_⟩
      rw [getD_set, if_pos ⟨rfl, by omega⟩]; omega
  · simp only at ht ⊢
    rw [getD_set] at ht
    by_cases hc : j = t ∧ j < p.1.length
    · right; rw [← hc.1]; exact List.mem_append_right _ (List.mem_singleton.2 rfl)
    · rw [if_neg hc] at ht
      rcases h.only t ht with h' | h'
      · exact .inl h'
      · exact .inr (List.mem_append_left _ h')
  · simp only; rw [getD_set, if_pos ⟨rfl, by omega⟩]; omega
end Go.Proofs

/- Plain laws: X -/
namespace Go.Proofs
open Go Go.Ga Go.Ga.Wf
set_option linter.unusedVariables false
set_option linter.unusedSimpArgs false
section
variable {k : Nat}
end
end Go.Proofs

/- Plain laws: Y -/
namespace Go.Proofs
open Go Go.Ga Go.Ga.Wf
set_option linter.unusedVariables false
set_option linter.unusedSimpArgs false
section
variable {k : Nat}
end
end Go.Proofs

/- Plain laws: Z -/
namespace Go.Proofs
open Go Go.Ga Go.Ga.Wf
set_option linter.unusedVariables false
set_option linter.unusedSimpArgs false
section
variable {k : Nat}
/-! counts -/
end
end Go.Proofs

/- Plain laws: AA -/
namespace Go.Proofs
open Go Go.Ga Go.Ga.Wf
set_option linter.unusedVariables false
set_option linter.unusedSimpArgs false
section
variable {k : Nat}
end
end Go.Proofs

/- Plain laws: BB -/
namespace Go.Proofs
open Go Go.Ga Go.Ga.Wf
set_option linter.unusedVariables false
set_option linter.unusedSimpArgs false
/-- a path of v steps from a -/
inductive Rp (nx : Nat → List Nat) (a : Nat) : Nat → Nat → Prop
  | here : Rp nx a a 0
  | step {i j v : Nat} : Rp nx a i v → j ∈ nx i → Rp nx a j (v + 1)
theorem Rp.front {nx : Nat → List Nat} {a b : Nat} (hj : b ∈ nx a) {t v : Nat} (hr : Rp nx b t v) : Rp nx a t (v + 1) := by
  induction hr with
  | here => exact .step .here hj
  | step _ hj' ih => exact .step ih hj'
theorem Pth.rp {nx : Nat → List Nat} {goal : Nat → Bool} {a v : Nat} (hp : Pth nx goal a v) : ∃ t, goal t = true ∧ Rp nx a t v := by
  induction hp with
  | here hg => exact ⟨_, hg, .here⟩
  | step hj _ ih =>
    obtain ⟨t, h1, h2⟩ := ih
    exact ⟨t, h1, Rp.front hj h2⟩
end Go.Proofs

/- Plain laws: CC -/
namespace Go.Proofs
open Go Go.Ga Go.Ga.Wf
set_option linter.unusedVariables false
set_option linter.unusedSimpArgs false
section
variable {k : Nat}
end
end Go.Proofs

/- Plain laws: DD -/
namespace Go.Proofs
open Go Go.Ga Go.Ga.Wf
set_option linter.unusedVariables false
set_option linter.unusedSimpArgs false
end Go.Proofs

/- Plain laws: EE -/
namespace Go.Proofs
open Go Go.Ga Go.Ga.Wf
set_option linter.unusedVariables false
set_option linter.unusedSimpArgs false
section
variable {k : Nat}
end
end Go.Proofs

/- Plain laws: FF -/
namespace Go.Proofs
open Go Go.Ga Go.Ga.Wf
set_option linter.unusedVariables false
set_option linter.unusedSimpArgs false
section
variable {k : Nat}
end
end Go.Proofs

/- Plain laws: GG -/
namespace Go.Proofs
open Go Go.Ga Go.Ga.Wf
set_option linter.unusedVariables false
set_option linter.unusedSimpArgs false
section
variable {k : Nat}
end
end Go.Proofs

/- Plain laws: HH -/
namespace Go.Proofs
open Go Go.Ga Go.Ga.Wf
set_option linter.unusedVariables false
set_option linter.unusedSimpArgs false
section
variable {k : Nat}
end
end Go.Proofs

/- Plain laws: II -/
namespace Go.Proofs
open Go Go.Ga Go.Ga.Wf
set_option linter.unusedVariables false
set_option linter.unusedSimpArgs false
/-- the order of words of one length -/
def lx : List Nat → List Nat → Prop
  | x :: xs, y :: ys => x < y ∨ (x = y ∧ lx xs ys)
  | _, _ => False
theorem lx_trans : ∀ {p q r : List Nat}, lx p q → lx q r → lx p r
  | x :: p, y :: q, z :: r, h, k => by
    rcases h with h | h <;> rcases k with k | k
    · exact .inl (by omega)
    · exact .inl (by omega)
    · exact .inl (by omega)
    · exact .inr ⟨by omega, lx_trans h.2 k.2⟩
  | [], _, _, h, _ => h.elim
  | _ :: _, [], _, h, _ => h.elim
  | _ :: _, _ :: _, [], _, k => k.elim
theorem lx_app : ∀ {p q : List Nat} (s t : List Nat), lx p q → lx (p ++ s) (q ++ t)
  | x :: p, y :: q, s, t, h => by
    rcases h with h | h
    · exact .inl h
    · exact .inr ⟨h.1, lx_app s t h.2⟩
  | [], _, _, _, h => h.elim
  | _ :: _, [], _, _, h => h.elim
def klt (p q : List Nat) : Prop := p.length < q.length ∨ (p.length = q.length ∧ lx p q)
def kle (p q : List Nat) : Prop := p = q ∨ klt p q
theorem klt_trans {p q r : List Nat} (h : klt p q) (k : klt q r) : klt p r := by
  rcases h with h | h <;> rcases k with k | k
  · exact .inl (by omega)
  · exact .inl (by omega)
  · exact .inl (by omega)
  · exact .inr ⟨by omega, lx_trans h.2 k.2⟩
theorem kle_trans {p q r : List Nat} (h : kle p q) (k : kle q r) : kle p r := by
  rcases h with rfl | h
  · exact k
  · rcases k with rfl | k
    · exact .inr h
    · exact .inr (klt_trans h k)
theorem kle_len {p q : List Nat} (h : kle p q) : p.length ≤ q.length := by
  rcases h with rfl | h | h <;> omega
theorem klt_snoc {p q : List Nat} (x y : Nat) (h : klt p q) : klt (p ++ [x]) (q ++ [y]) := by
  rcases h with h | h
  · exact .inl (by simp; omega)
  · exact .inr ⟨by simp; omega, lx_app _ _ h.2⟩
theorem kle_snoc {p q : List Nat} (x : Nat) (h : kle p q) : kle (p ++ [x]) (q ++ [x]) := by
  rcases h with rfl | h
  · exact .inl rfl
  · exact .inr (klt_snoc x x h)
theorem klt_more {p q : List Nat} (y : Nat) (h : kle p q) : klt p (q ++ [y]) := .inl (by have := kle_len h; simp; omega)
/-- a path, and where it leads -/
inductive Sp (nx : Nat → List Nat) (a : Nat) : List Nat → Nat → Prop
  | nil : Sp nx a [] a
  | snoc {p : List Nat} {u j : Nat} : Sp nx a p u → j ∈ nx u → Sp nx a (p ++ [j]) j
theorem Sp.rp {nx : Nat → List Nat} {a : Nat} {p : List Nat} {t : Nat} (h : Sp nx a p t) : Rp nx a t p.length := by
  induction h with
  | nil => exact .here
  | snoc _ hj ih => rw [List.length_append]; exact .step ih hj
theorem Sp.cons {nx : Nat → List Nat} {a b : Nat} (hb : b ∈ nx a) {p : List Nat} {t : Nat} (h : Sp nx b p t) : Sp nx a (b :: p) t := by
  induction h with
  | nil => exact .snoc (p := []) .nil hb
  | snoc _ hj ih => rw [← List.cons_append]; exact .snoc ih hj
/-- the queue, and the path to each of its states -/
structure OD (nx : Nat → List Nat) (a m : Nat) (V B : List Int) (done td : List Nat) (pf : Nat → List Nat) : Prop where
  a0 : pf a = []
  vis : ∀ t, t < m → (0 ≤ V.getD t 0 ↔ t ∈ done ++ td)
  lt : ∀ t ∈ done ++ td, t < m
  sp : ∀ t ∈ done ++ td, Sp nx a (pf t) t
  len : ∀ t ∈ done ++ td, ((pf t).length : Int) = V.getD t 0
  par : ∀ t ∈ done ++ td, t ≠ a → ∃ u : Nat, u ∈ done ∧ B.getD t 0 = u ∧ pf t = pf u ++ [t]
  sort : (done ++ td).Pairwise (fun u v => klt (pf u) (pf v))
  cl : ∀ u ∈ done, ∀ j ∈ nx u, j ∈ done ++ td ∧ kle (pf j) (pf u ++ [j])
/-- whoever is first in the queue has the first path -/
theorem OD.first {nx : Nat → List Nat} {a m : Nat} {V B : List Int} {done rest : List Nat} {i : Nat} {pf : Nat → List Nat} (h : OD nx a m V B done (i :: rest) pf) (ha : a < m) (ha0 : 0 ≤ V.getD a 0) {gd : Nat → Bool} (hg : ∀ t ∈ done, gd t = true) {p : List Nat} {t : Nat} (hp : Sp nx a p t) (ht : gd t = false) : kle (pf i) p := by
  have hsrt := List.pairwise_append.1 h.sort
  have hsrt2 := List.pairwise_cons.1 hsrt.2.1
  have htd : ∀ u ∈ i :: rest, kle (pf i) (pf u) := fun u hu => by
    rcases List.mem_cons.1 hu with rfl | hu
    · exact .inl rfl
    · exact .inr (hsrt2.1 u hu)
  have key : ∀ {p : List Nat} {u : Nat}, Sp nx a p u → (u ∈ done ++ i :: rest ∧ kle (pf u) p) ∨ kle (pf i) p := by
    intro p u hp
    induction hp with
    | nil => exact .inl ⟨(h.vis a ha).1 ha0, .inl h.a0⟩
    | snoc _ hj ih =>
      rcases ih with ⟨h1, h2⟩ | h1
      · rcases List.mem_append.1 h1 with h3 | h3
        · obtain ⟨h4, h5⟩ := h.cl _ h3 _ hj
          exact .inl ⟨h4, kle_trans h5 (kle_snoc _ h2)⟩
        · exact .inr (kle_trans (htd _ h3) (.inr (klt_more _ h2)))
      · exact .inr (.inr (klt_more _ h1))
  rcases key hp with ⟨h1, h2⟩ | h1
  · rcases List.mem_append.1 h1 with h3 | h3
    · rw [hg t h3] at ht; cases ht
    · exact kle_trans (htd t h3) h2
  · exact h1
end Go.Proofs

/- Plain laws: JJ -/
namespace Go.Proofs
open Go Go.Ga Go.Ga.Wf
set_option linter.unusedVariables false
set_option linter.unusedSimpArgs false
section
variable {k : Nat}
/-! the program's walk: step by step to what is nearer -/
end
end Go.Proofs

/- Plain laws: KK -/
namespace Go.Proofs
open Go Go.Ga Go.Ga.Wf
set_option linter.unusedVariables false
set_option linter.unusedSimpArgs false
section
variable {k : Nat}
end
end Go.Proofs

/- Plain laws: LL -/
namespace Go.Proofs
open Go Go.Ga Go.Ga.Wf
set_option linter.unusedVariables false
set_option linter.unusedSimpArgs false
theorem sorted_extG {α : Type} {r : α → α → Prop} (irr : ∀ a, ¬ r a a) (tr : ∀ a b c, r a b → r b c → r a c) : ∀ {a b : List α}, a.Pairwise r → b.Pairwise r → (∀ x, x ∈ a ↔ x ∈ b) → a = b
  | [], [], _, _, _ => rfl
  | [], y :: b, _, _, h => by have := (h y).2 (List.mem_cons_self ..); cases this
  | x :: a, [], _, _, h => by have := (h x).1 (List.mem_cons_self ..); cases this
  | x :: a, y :: b, ha, hb, h => by
    have ha' := List.pairwise_cons.1 ha
    have hb' := List.pairwise_cons.1 hb
    have hxy : x = y := by
      rcases List.mem_cons.1 ((h x).1 (List.mem_cons_self ..)) with e | e
      · exact e
      · rcases List.mem_cons.1 ((h y).2 (List.mem_cons_self ..)) with e' | e'
        · exact e'.symm
        · exact absurd (tr _ _ _ (hb'.1 x e) (ha'.1 y e')) (irr y)
    subst hxy
    congr 1
    refine sorted_extG irr tr ha'.2 hb'.2 fun z => ⟨fun hz => ?_, fun hz => ?_⟩
    · rcases List.mem_cons.1 ((h z).1 (List.mem_cons_of_mem _ hz)) with e | e
      · exact absurd (e ▸ ha'.1 z hz) (irr z)
      · exact e
    · rcases List.mem_cons.1 ((h z).2 (List.mem_cons_of_mem _ hz)) with e | e
      · exact absurd (e ▸ hb'.1 z hz) (irr z)
      · exact e
theorem dlt_irr (x : Door) : ¬ DoorLt x x := by unfold DoorLt; omega
theorem dlt_trans (x y z : Door) (h : DoorLt x y) (k : DoorLt y z) : DoorLt x z := by unfold DoorLt at *; omega
theorem dlt_tri (x y : Door) : DoorLt x y ∨ x = y ∨ DoorLt y x := by
  obtain ⟨a, b, c⟩ := x
  obtain ⟨a', b', c'⟩ := y
  unfold DoorLt
  simp only [Prod.mk.injEq]
  omega
def insD (e : Door) : List Door → List Door
  | [] => [e]
  | x :: l => if DoorLt x e then x :: insD e l else e :: x :: l
theorem mem_insD (e : Door) : ∀ (l : List Door) (z : Door), z ∈ insD e l ↔ z = e ∨ z ∈ l
  | [], z => by simp [insD]
  | x :: l, z => by
    unfold insD
    split
    · rw [List.mem_cons, mem_insD e l z, List.mem_cons]; exact ⟨fun h => by rcases h with h | h | h; exact .inr (.inl h); exact .inl h; exact .inr (.inr h), fun h => by rcases h with h | h | h; exact .inr (.inl h); exact .inl h; exact .inr (.inr h)⟩
    · rw [List.mem_cons]
theorem insD_sorted (e : Door) : ∀ (l : List Door), l.Pairwise DoorLt → e ∉ l → (insD e l).Pairwise DoorLt
  | [], _, _ => List.pairwise_singleton _ _
  | x :: l, h, hn => by
    have h' := List.pairwise_cons.1 h
    have hn' : x ≠ e ∧ e ∉ l := ⟨fun h => hn (h ▸ List.mem_cons_self ..), fun h => hn (List.mem_cons_of_mem _ h)⟩
    unfold insD
    split
    · rename_i hlt
      refine List.pairwise_cons.2 ⟨fun z hz => ?_, insD_sorted e l h'.2 hn'.2⟩
      rcases (mem_insD e l z).1 hz with rfl | hz
      · exact hlt
      · exact h'.1 z hz
    · rename_i hlt
      have hex : DoorLt e x := by
        rcases dlt_tri x e with h1 | h1 | h1
        · exact absurd h1 hlt
        · exact absurd h1 hn'.1
        · exact h1
      refine List.pairwise_cons.2 ⟨fun z hz => ?_, h⟩
      rcases List.mem_cons.1 hz with rfl | hz
      · exact hex
      · exact dlt_trans _ _ _ hex (h'.1 z hz)
theorem insD_length (e : Door) : ∀ (l : List Door), (insD e l).length = l.length + 1
  | [] => rfl
  | x :: l => by unfold insD; split <;> simp [insD_length e l]
theorem insD_split (e : Door) : ∀ (l : List Door) (j : Nat), j ≤ l.length → (∀ i (h : i < l.length), i < j → DoorLt l[i] e) → (∀ (h : j < l.length), ¬ DoorLt l[j] e) → insD e l = l.take j ++ e :: l.drop j
  | [], j, hj, _, _ => by have : j = 0 := by simpa using hj
                          subst this; rfl
  | x :: l, 0, _, _, h => by
    have := h (by simp)
    simp only [List.getElem_cons_zero] at this
    simp [insD, this]
  | x :: l, j + 1, hj, h1, h2 => by
    have := h1 0 (by simp) (by omega)
    simp only [List.getElem_cons_zero] at this
    simp only [insD, if_pos this, List.take_succ_cons, List.drop_succ_cons, List.cons_append]
    congr 1
    exact insD_split e l j (by simpa using hj) (fun i hi hij => by have := h1 (i + 1) (by simpa using hi) (by omega); simpa using this) (fun hi => by have := h2 (by simpa using hi); simpa using this)
/-- the library's sort: by whatever order of doors -/
theorem sortD_eq {l : List Door} {e : Door} (hs : l.Pairwise DoorLt) (he : e ∉ l) : ((l ++ [e]).mergeSort fun x y => !decide (DoorLt y x)) = insD e l := by
  have hp := List.mergeSort_perm (l ++ [e]) (fun x y => !decide (DoorLt y x))
  have hle := List.pairwise_mergeSort (le := fun x y : Door => !decide (DoorLt y x)) (fun a b c h1 h2 => by
    simp only [Bool.not_eq_true', decide_eq_false_iff_not] at *
    rcases dlt_tri a b with h | h | h
    · intro h3; exact h2 (dlt_trans _ _ _ h3 h)
    · rw [h]; exact h2
    · exact absurd h h1) (fun a b => by
    rcases dlt_tri a b with h | h | h
    · have : ¬ DoorLt b a := fun h' => dlt_irr _ (dlt_trans _ _ _ h h')
      simp [this]
    · subst h; simp [dlt_irr]
    · have : ¬ DoorLt a b := fun h' => dlt_irr _ (dlt_trans _ _ _ h h')
      simp [this]) (l ++ [e])
  have hnd : (l ++ [e]).Nodup := by
    rw [List.nodup_append]
    refine ⟨hs.imp (S := fun a b => a ≠ b) (fun {a b} h (e : a = b) => by subst e; exact dlt_irr _ h), by simp, fun a ha b hb hab => ?_⟩
    rw [List.mem_singleton.1 hb] at hab; exact he (hab ▸ ha)
  have hlt : ((l ++ [e]).mergeSort fun x y => !decide (DoorLt y x)).Pairwise DoorLt := (hle.and (hp.nodup_iff.2 hnd)).imp fun {a b} ⟨h1, h2⟩ => by
    simp only [Bool.not_eq_true', decide_eq_false_iff_not] at h1
    rcases dlt_tri a b with h | h | h
    · exact h
    · exact absurd h h2
    · exact absurd h h1
  refine sorted_extG dlt_irr dlt_trans hlt (insD_sorted e l hs he) fun x => ?_
  rw [hp.mem_iff, mem_insD, List.mem_append, List.mem_singleton]
  exact ⟨fun h => h.symm, fun h => h.symm⟩
end Go.Proofs

/- Plain laws: MM -/
namespace Go.Proofs
open Go Go.Ga Go.Ga.Wf
set_option linter.unusedVariables false
set_option linter.unusedSimpArgs false
section
variable {k : Nat}
end
end Go.Proofs

/- Plain laws: NN -/
namespace Go.Proofs
open Go Go.Ga Go.Ga.Wf
set_option linter.unusedVariables false
set_option linter.unusedSimpArgs false
theorem pairwise_adj {l : List Door} (h : ∀ i, (hi : i + 1 < l.length) → DoorLt l[i] l[i + 1]) : l.Pairwise DoorLt := by
  induction l with
  | nil => exact List.Pairwise.nil
  | cons x l ih =>
    have ih' := ih fun i hi => by have := h (i + 1) (by simpa using hi); simpa using this
    cases l with
    | nil => exact List.pairwise_singleton _ _
    | cons y l =>
      have hxy : DoorLt x y := by have := h 0 (by simp); simpa using this
      refine List.pairwise_cons.2 ⟨fun z hz => ?_, ih'⟩
      rcases List.mem_cons.1 hz with rfl | hz
      · exact hxy
      · exact dlt_trans _ _ _ hxy ((List.pairwise_cons.1 ih').1 z hz)
theorem IsMaze.sorted {n : Int} {d : List Door} {ks : List Int} (h : IsMaze n d ks) : d.Pairwise DoorLt := pairwise_adj fun i hi => by
  have := h.2.2.2.2.1 (i + 1) hi
  unfold doorB at this
  rw [dif_pos hi] at this
  have h2 := (Bool.and_eq_true _ _ ▸ this).2
  simp only [Nat.add_eq_zero_iff, Nat.one_ne_zero, and_false, decide_false, Bool.false_or, Nat.add_sub_cancel, decide_eq_true_eq] at h2
  exact h2
theorem IsMaze.ordered {n : Int} {d : List Door} {ks : List Int} (h : IsMaze n d ks) : ∀ x ∈ d, x.1 < x.2.1 := fun x hx => by
  obtain ⟨i, hi, rfl⟩ := List.getElem_of_mem hx
  have := h.2.2.2.2.1 i hi
  unfold doorB at this
  rw [dif_pos hi] at this
  have := (Bool.and_eq_true _ _ ▸ this).1
  exact (of_decide_eq_true this).2.1
section
variable {k : Nat}
def goodV (n : Int) (d : List Door) (ks l : List Int) (u : Int) : Bool := decide (IsMaze n d ks ∧ l.length ≤ 60 ∧ 0 ≤ u ∧ u ≤ 1000) && (takenP n d ks l).2
abbrev VR := Int × List Door × List Int × List Int × Int × Bool
def noV : VR := (0, [], [], [], 0, false)
def keepV (n : Int) (d : List Door) (ks l : List Int) (u : Int) : VR := if goodV n d ks l u = true then (n, d, ks, l, u, true) else noV
def doorE (A B C : Int) : Door := (imin A B, imax A B, C)
def deedP (n : Int) (d : List Door) (ks l : List Int) (u K A B C : Int) : VR :=
  if K = 1 then if B = 0 ∧ C = 0 then keepV n d ks (l ++ [A]) (u + 1) else noV
  else if K = 2 then if A = 0 ∧ B = 0 ∧ C = 0 then keepV n d ks (l.take (l.length - 1)) (u + 1) else noV
  else if K = 3 then if C = 0 ∧ (0 ≤ A ∧ A ≤ n - 1) ∧ 0 ≤ B ∧ B ≤ 63 then keepV n d (ks.set A.toNat B) l (u + 1) else noV
  else if K = 4 then if (0 ≤ A ∧ A ≤ n - 1) ∧ (0 ≤ B ∧ B ≤ n - 1) ∧ A ≠ B ∧ (0 ≤ C ∧ C ≤ 63) ∧ doorE A B C ∉ d ∧ d.length ≠ 30 then keepV n (insD (doorE A B C) d) ks l (u + 1) else noV
  else if K = 5 then if B = 0 ∧ C = 0 ∧ 0 ≤ A ∧ A ≤ (d.length : Int) - 1 then keepV n (noDoor d A.toNat) ks l (u + 1) else noV
  else noV
theorem goodV_m {n : Int} {d : List Door} {ks l : List Int} {u : Int} (h : goodV n d ks l u = true) : IsMaze n d ks ∧ l.length ≤ 60 ∧ 0 ≤ u ∧ u ≤ 1000 := by
  unfold goodV at h; exact of_decide_eq_true (Bool.and_eq_true _ _ ▸ h).1
theorem goodV_l {n : Int} {d : List Door} {ks l : List Int} {u : Int} (h : goodV n d ks l u = true) : 0 < l.length :=
  (takenP_length (goodV_m h).1 (by unfold goodV at h; exact (Bool.and_eq_true _ _ ▸ h).2)).2
theorem IsVisit_eqV (hk : Big ≤ k) (n : Int) (d : List Door) (ks l : List Int) (u : Int) (hd : d.length ≤ 1048576) (hks : ks.length ≤ 1048576) (hl : l.length ≤ 1048576) :
    impl_IsVisit.f k n d ks l u = some (goodV n d ks l u) := IsVisit_eq hk n d ks l u hd hks hl
theorem l12Good_eqV (hk : Big ≤ k) (n : Int) (d : List Door) (ks l : List Int) (u : Int) (hd : d.length ≤ 1048576) (hks : ks.length ≤ 1048576) (hl : l.length ≤ 1048576) :
    spec_l12Good.f k n d ks l u = some (goodV n d ks l u) := l12Good_eq hk n d ks l u hd hks hl
/-! copies and order -/
theorem index3_eq (hk : Big ≤ k) (l : List Door) (e : Door) (hl : l.length ≤ 1048576) : slices_Contains__3int__3int.f k l e.1 e.2.1 e.2.2 = some (decide (e ∈ l)) := by
  unfold slices_Contains__3int__3int.f slices_Index__3int__3int.f
  have := loop_find (l := slices_Index__3int__3int.l0 k l e.1 e.2.1 e.2.2) (N := l.length) (fun i => if h : i < l.length then (if e = l[i] then some (i : Int) else none) else none) (z := .inl ()) (fun n i hi => by
    rw [slices_Index__3int__3int.l0]
    have h1 : ((i : Int) < (l.length : Int)) := by omega
    have hw : w64 ((i : Int) + 1) = ((i + 1 : Nat) : Int) := w64_id (by omega) (by omega)
    simp only [h1, decide_true, if_true, rdl_lt hi, Option.bind_some, hw, hi, dite_true]
    by_cases c : e = l[i] <;> simp [c]) (fun n => by rw [slices_Index__3int__3int.l0]; simp) (k := k) (by unfold Big at hk; omega)
  rw [this, Option.bind_some]
  cases hf : (List.range l.length).findSome? (fun i => if h : i < l.length then (if e = l[i] then some (i : Int) else none) else none) with
  | none =>
    simp only [Lr, Option.bind_some]
    rw [List.findSome?_eq_none_iff] at hf
    have : e ∉ l := by
      intro hx
      obtain ⟨i, hi, he⟩ := List.getElem_of_mem hx
      have := hf i (List.mem_range.2 hi)
      simp only [hi, dite_true, he, if_true] at this
      cases this
    simp [this]
  | some r =>
    simp only [Lr, Option.bind_some]
    obtain ⟨i, hi, h⟩ := List.exists_of_findSome?_eq_some hf
    have hi' := List.mem_range.1 hi
    simp only [hi', dite_true] at h
    split at h
    · rename_i h1; cases h
      have : e ∈ l := h1 ▸ List.getElem_mem hi'
      simp [this]
    · cases h
theorem compact_eq (hk : Big ≤ k) (l : List Door) (hl : l.length ≤ 1048576) (hs : l.Pairwise DoorLt) : slices_Compact__3int__3int.f k l = some l := by
  unfold slices_Compact__3int__3int.f
  by_cases h2 : (l.length : Int) < 2
  · rw [if_pos (by simpa using h2)]
  rw [if_neg (by simpa using h2)]
  have key := loop_res (l := fun n (s : Nat) => slices_Compact__3int__3int.l0 k l n (s : Int)) (Inv := fun i => 1 ≤ i ∧ i ≤ l.length) (mu := fun i => l.length - i) (fun _ => Sum.inl ()) (fun m i hI => by
    try simp only at hI
    by_cases hi : i < l.length
    · left
      refine ⟨i + 1, ?_, rfl, by (try simp only); omega, by (try simp only); omega⟩
      have h1 : ((i : Int) < (l.length : Int)) := by omega
      have hw : w64 ((i : Int) + 1) = ((i + 1 : Nat) : Int) := w64_id (by omega) (by omega)
      have e1 : w64 ((i : Int) - 1) = ((i - 1 : Nat) : Int) := by rw [w64_id (by omega) (by omega)]; omega
      have hi1 : i - 1 < l.length := by omega
      have hne : ¬ l[i] = l[i - 1] := fun e => by
        have := (List.pairwise_iff_getElem.1 hs) (i - 1) i hi1 hi (by omega)
        rw [e] at this; exact dlt_irr _ this
      simp only [slices_Compact__3int__3int.l0, h1, decide_true, if_true, rdl_lt hi, e1, rdl_lt hi1, Option.bind_some, hw]
      rw [if_neg (fun h => hne (of_decide_eq_true h))]
    · right
      have : ¬ ((i : Int) < (l.length : Int)) := by omega
      simp only [slices_Compact__3int__3int.l0, this, decide_false, Bool.false_eq_true, if_false]) k 1 (by (try simp only); unfold Big at hk; omega) (by (try simp only); omega)
  have key' : slices_Compact__3int__3int.l0 k l k 1 = some (.inl ()) := key
  rw [key', Option.bind_some]; rfl
theorem tidy_eq (hk : Big ≤ k) (n : Int) (d : List Door) (ks : List Int) (e : Door) (hd : d.length ≤ 1000) (hs : d.Pairwise DoorLt) (ho : ∀ x ∈ d ++ [e], x.1 < x.2.1) (he : e ∉ d) : impl_tidy.f k n (d ++ [e]) ks = some (n, insD e d, ks) := by
  unfold impl_tidy.f
  have hlen : (d ++ [e]).length = d.length + 1 := by simp
  generalize hL : d ++ [e] = L at *
  have key := loop_res (l := fun m (s : List Door × Nat) => impl_tidy.l0 k L m s.1 (s.2 : Int)) (Inv := fun s => s.1 = L ∧ s.2 ≤ L.length) (mu := fun s => L.length - s.2) (fun _ => L) (fun m s hI => by
    obtain ⟨x, i⟩ := s
    try simp only at hI
    obtain ⟨rfl, hI⟩ := hI
    by_cases hi : i < x.length
    · left
      refine ⟨(x, i + 1), ?_, rfl, ⟨rfl, by (try simp only); omega⟩, by (try simp only); omega⟩
      have h1 : ((i : Int) < (x.length : Int)) := by omega
      have hw : w64 ((i : Int) + 1) = ((i + 1 : Nat) : Int) := w64_id (by omega) (by omega)
      have ho' := ho x[i] (List.getElem_mem hi)
      have hse : x.set i (imin x[i].1 x[i].2.1, imax x[i].1 x[i].2.1, x[i].2.2) = x := by
        have e1 : imin x[i].1 x[i].2.1 = x[i].1 := by unfold imin; rw [if_neg (by omega)]
        have e2 : imax x[i].1 x[i].2.1 = x[i].2.1 := by unfold imax; rw [if_pos (by omega)]
        rw [e1, e2]
        exact List.set_getElem_self hi
      simp only [impl_tidy.l0, h1, decide_true, if_true, rdl_lt hi, Option.bind_some, hw, Int.toNat_natCast, hse]
    · right
      have : ¬ ((i : Int) < (x.length : Int)) := by omega
      simp only [impl_tidy.l0, this, decide_false, Bool.false_eq_true, if_false]) k (L, 0) (by (try simp only); unfold Big at hk; omega) ⟨rfl, by (try simp only); omega⟩
  have key' : impl_tidy.l0 k L k L 0 = some L := key
  rw [key', Option.bind_some]
  have hsort : slices_SortFunc__3int__3int.f k L (fun z0 z1 z2 z3 z4 z5 => impl_compareDoors.f k z0 z1 z2 z3 z4 z5) = some (insD e d) := by
    unfold slices_SortFunc__3int__3int.f
    have hcf : ∀ x y : Door, (compareDoors_eq hk x y).choose < 0 ↔ DoorLt x y := fun x y => by
      have := (compareDoors_eq hk x y).choose_spec.2.1
      by_cases c : DoorLt x y
      · have h3 : ¬ (compareDoors_eq hk x y).choose ≥ 0 := fun h => this.1 h c
        exact ⟨fun _ => c, fun _ => by omega⟩
      · have h3 := this.2 c
        exact ⟨fun h => by omega, fun h => absurd h c⟩
    rw [if_pos ⟨by omega, fun x y => (compareDoors_eq hk x y).choose, hcf, fun x y => (compareDoors_eq hk x y).choose_spec.1⟩]
    refine congrArg some ?_
    rw [← hL]
    exact sortD_eq hs he
  rw [hsort, Option.bind_some, compact_eq hk _ (by rw [insD_length]; omega) (insD_sorted e d hs he)]; rfl
theorem doorE_lt {A B C : Int} (h : A ≠ B) : (doorE A B C).1 < (doorE A B C).2.1 := by
  unfold doorE imin imax; simp only; split <;> split <;> omega
theorem AddDoor_eq (hk : Big ≤ k) {n : Int} {d : List Door} {ks : List Int} (hm : IsMaze n d ks) (A B C : Int) :
    impl_AddDoor.f k n d ks A B C = some (if (0 ≤ A ∧ A ≤ n - 1) ∧ (0 ≤ B ∧ B ≤ n - 1) ∧ A ≠ B ∧ (0 ≤ C ∧ C ≤ 63) ∧ doorE A B C ∉ d ∧ d.length ≠ 30 then (n, insD (doorE A B C) d, ks, true) else (0, [], [], false)) := by
  have h30 := hm.2.2.1
  have hks : ks.length ≤ 12 := by have h1 := hm.2.1; have h2 := hm.2.2.2.1; omega
  unfold impl_AddDoor.f
  rw [isNode_eq hk n d ks [A, B] (by omega) (by omega) (by simp)]
  simp only [hm, decide_true, Bool.true_and, List.all_cons, List.all_nil, Bool.and_true, Option.bind_some]
  by_cases c1 : 0 ≤ A ∧ A ≤ n - 1
  rotate_left 1
  · refine Eq.trans ?_ (congrArg some (if_neg (fun h => c1 h.1))).symm; simp [c1]
  by_cases c2 : 0 ≤ B ∧ B ≤ n - 1
  rotate_left 1
  · refine Eq.trans ?_ (congrArg some (if_neg (fun h => c2 h.2.1))).symm; simp [c2]
  by_cases c3 : A = B
  · refine Eq.trans ?_ (congrArg some (if_neg (fun h => h.2.2.1 c3))).symm; simp [c1, c3]
  by_cases c4 : 0 ≤ C ∧ C ≤ 63
  rotate_left 1
  · refine Eq.trans ?_ (congrArg some (if_neg (fun h => c4 h.2.2.2.1))).symm; simp [c1, c2, c3, isSet_eq, c4]
  have hc := index3_eq hk d (doorE A B C) (by omega)
  rw [show slices_Contains__3int__3int.f k d (imin A B) (imax A B) C = some (decide (doorE A B C ∈ d)) from hc]
  by_cases c5 : doorE A B C ∈ d
  · refine Eq.trans ?_ (congrArg some (if_neg (fun h => h.2.2.2.2.1 c5))).symm; simp [c1, c2, c3, isSet_eq, c4, c5]
  by_cases c6 : d.length = 30
  · refine Eq.trans ?_ (congrArg some (if_neg (fun h => h.2.2.2.2.2 c6))).symm; simp [c1, c2, c3, isSet_eq, c4, c5, c6]
  refine Eq.trans ?_ (congrArg some (if_pos ⟨c1, c2, c3, c4, c5, c6⟩)).symm
  have c6' : ¬ (d.length : Int) = 30 := by omega
  have hl : (d ++ [(imin A B, imax A B, C)]).length < 1099511627776 := by simp; omega
  have ht := tidy_eq hk n d ks (doorE A B C) (by omega) hm.sorted (fun x hx => by
    rcases List.mem_append.1 hx with hx | hx
    · exact hm.ordered x hx
    · rw [List.mem_singleton.1 hx]; exact doorE_lt c3) c5
  simp only [c1, c2, c3, isSet_eq, c4, c5, c6', decide_true, decide_false, and_self, Bool.not_true, Bool.not_false, Bool.true_and, Bool.false_eq_true, if_false, show (A == B) = false from by simpa using c3, show ((d.length : Int) == 30) = false from by simpa using c6', Option.bind_some, own_eq n d ks (by omega) (by omega)]
  rw [if_pos hl]
  rw [show d ++ [(imin A B, imax A B, C)] = d ++ [doorE A B C] from rfl, ht, Option.bind_some]
/-! the reference -/
theorem l2Put_eq (hk : Big ≤ k) (d : List Door) (A B C : Int) (hd : d.length ≤ 1000) (hs : d.Pairwise DoorLt) : spec_l2Put.f k d A B C = some (if doorE A B C ∈ d then d else insD (doorE A B C) d) := by
  unfold spec_l2Put.f spec_l1Least.f spec_l1Most.f
  have e1 : (if decide (A < B) = true then some A else some B) = some (imin A B) := by
    unfold imin; by_cases c : A < B
    · rw [if_pos (by simpa using c), if_neg (by omega)]
    · rw [if_neg (by simpa using c)]; split
      · rfl
      · congr 1; omega
  have e2 : (if decide (A > B) = true then some A else some B) = some (imax A B) := by
    unfold imax; by_cases c : A > B
    · rw [if_pos (by simpa using c), if_neg (by omega)]
    · rw [if_neg (by simpa using c)]; split
      · rfl
      · congr 1; omega
  rw [e1, e2, Option.bind_some, Option.bind_some]
  have key := loop_good (l := fun m (s : Nat) => spec_l2Put.l0 k d C (imin A B) (imax A B) m (s : Int)) (Inv := fun i => i ≤ d.length ∧ ∀ j (hj : j < d.length), j < i → DoorLt d[j] (doorE A B C)) (mu := fun i => d.length - i)
    (fun r => ∃ i : Nat, r = (i : Int) ∧ i ≤ d.length ∧ (∀ j (hj : j < d.length), j < i → DoorLt d[j] (doorE A B C)) ∧ ∀ (h : i < d.length), ¬ DoorLt d[i] (doorE A B C)) (fun m i hI => by
    try simp only at hI
    obtain ⟨hI1, hI2⟩ := hI
    by_cases hi : i < d.length
    · have h1 : ((i : Int) < (d.length : Int)) := by omega
      have hw : w64 ((i : Int) + 1) = ((i + 1 : Nat) : Int) := w64_id (by omega) (by omega)
      have hb : spec_l2Before.f k d[i].1 d[i].2.1 d[i].2.2 (imin A B) (imax A B) C = some (decide (DoorLt d[i] (doorE A B C))) := before_eq hk d[i] (doorE A B C)
      by_cases c : DoorLt d[i] (doorE A B C)
      · left
        refine ⟨i + 1, ?_, ⟨by omega, fun j hj hji => ?_⟩, by (try simp only); omega⟩
        · simp only [spec_l2Put.l0, h1, decide_true, if_true, rdl_lt hi, Option.bind_some, hb, c, hw]
        · rcases Nat.lt_or_ge j i with h | h
          · exact hI2 j hj h
          · have : j = i := by omega
            subst this; exact c
      · right
        refine ⟨(i : Int), ?_, i, rfl, hI1, hI2, fun _ => c⟩
        simp only [spec_l2Put.l0, h1, decide_true, if_true, rdl_lt hi, Option.bind_some, hb, c, decide_false, Bool.false_eq_true, if_false]
    · right
      refine ⟨(i : Int), ?_, i, rfl, hI1, hI2, fun h => absurd h hi⟩
      have : ¬ ((i : Int) < (d.length : Int)) := by omega
      simp only [spec_l2Put.l0, this, decide_false, Bool.false_eq_true, if_false, Option.bind_some]) k 0 (by (try simp only); unfold Big at hk; omega) ⟨by omega, fun j _ h => absurd h (by omega)⟩
  obtain ⟨r, g1, i, rfl, g3, g4, g5⟩ := key
  rw [show spec_l2Put.l0 k d C (imin A B) (imax A B) k 0 = some (i : Int) from g1, Option.bind_some]
  by_cases hi : i < d.length
  · have h1 : ((i : Int) < (d.length : Int)) := by omega
    simp only [h1, decide_true, if_true, rdl_lt hi, Option.bind_some]
    have hiff : (d[i].1, d[i].2.1, d[i].2.2) = (imin A B, imax A B, C) ↔ doorE A B C ∈ d := by
      constructor
      · intro h
        have : doorE A B C = d[i] := h.symm
        rw [this]; exact List.getElem_mem hi
      · intro h
        obtain ⟨j, hj, he⟩ := List.getElem_of_mem h
        have hp := List.pairwise_iff_getElem.1 hs
        have : j = i := by
          rcases Nat.lt_trichotomy j i with h | h | h
          · have := g4 j hj h; rw [he] at this; exact absurd this (dlt_irr _)
          · exact h
          · have := hp i j hi hj h; rw [he] at this; exact absurd this (g5 hi)
        subst this; exact he
    by_cases c : doorE A B C ∈ d
    · rw [if_pos (by simpa using hiff.2 c), if_pos c]
    · rw [if_neg (by simpa using fun h => c (hiff.1 h)), if_neg c]
      rw [slc_pre d i (by omega), Option.bind_some, slc_suf d i (by omega), Option.bind_some, if_pos (by simp; omega), if_pos (by simp; omega), if_pos (by simp; omega), Option.bind_some, insD_split _ d i g3 g4 g5]
      congr 1; simp [doorE]
  · have h1 : ¬ ((i : Int) < (d.length : Int)) := by omega
    have c : doorE A B C ∉ d := fun h => by
      obtain ⟨j, hj, he⟩ := List.getElem_of_mem h
      have := g4 j hj (by omega); rw [he] at this; exact absurd this (dlt_irr _)
    simp only [h1, decide_false, Bool.false_eq_true, if_false, Option.bind_some]
    rw [if_neg c, slc_pre d i (by omega), Option.bind_some, slc_suf d i (by omega), Option.bind_some, if_pos (by simp; omega), if_pos (by simp; omega), if_pos (by simp; omega), Option.bind_some, insD_split _ d i g3 g4 g5]
    congr 1; simp [doorE]
theorem specAddDoor_eq (hk : Big ≤ k) {n : Int} {d : List Door} {ks : List Int} (hm : IsMaze n d ks) (A B C : Int) :
    spec_AddDoor.f k n d ks A B C = some (if ((0 ≤ A ∧ A ≤ n - 1) ∧ (0 ≤ B ∧ B ≤ n - 1) ∧ A ≠ B ∧ (0 ≤ C ∧ C ≤ 63) ∧ doorE A B C ∉ d) ∧ IsMaze n (insD (doorE A B C) d) ks then (n, insD (doorE A B C) d, ks, true) else (0, [], [], false)) := by
  have h30 := hm.2.2.1
  have hks : ks.length ≤ 12 := by have h1 := hm.2.1; have h2 := hm.2.2.2.1; omega
  unfold spec_AddDoor.f spec_l2Node.f
  have en : w64 (n - 1) = n - 1 := w64_id (by have := hm.1; omega) (by have := hm.2.1; omega)
  simp only [l2Maze_eq hk n d ks (by omega) (by omega), hm, decide_true, Option.bind_some, if_true, in_eq, en]
  by_cases c1 : 0 ≤ A ∧ A ≤ n - 1
  rotate_left 1
  · refine Eq.trans ?_ (congrArg some (if_neg (fun h => c1 h.1.1))).symm; simp [c1]
  by_cases c2 : 0 ≤ B ∧ B ≤ n - 1
  rotate_left 1
  · refine Eq.trans ?_ (congrArg some (if_neg (fun h => c2 h.1.2.1))).symm; simp [c1, c2]
  by_cases c3 : A = B
  · refine Eq.trans ?_ (congrArg some (if_neg (fun h => h.1.2.2.1 c3))).symm; simp [c1, c2, c3]
  by_cases c4 : 0 ≤ C ∧ C ≤ 63
  rotate_left 1
  · refine Eq.trans ?_ (congrArg some (if_neg (fun h => c4 h.1.2.2.2.1))).symm; simp [c1, c2, c3, l2Set_eq, c4]
  simp only [c1, c2, c3, l2Set_eq, c4, and_self, decide_true, decide_false, Bool.not_true, Bool.false_eq_true, if_false, beq_iff_eq, Option.bind_some, l2Own_eq n d ks (by omega) (by omega), l2Put_eq hk d A B C (by omega) hm.sorted]
  by_cases c5 : doorE A B C ∈ d
  · refine Eq.trans ?_ (congrArg some (if_neg (fun h => h.1.2.2.2.2 c5))).symm; simp [c5]
  rw [if_neg c5, if_neg (by rw [insD_length]; omega)]
  unfold spec_l2Kept.f
  rw [l2Maze_eq hk n _ ks (by rw [insD_length]; omega) (by omega), Option.bind_some]
  by_cases c6 : IsMaze n (insD (doorE A B C) d) ks
  · simp [c1, c2, c3, c4, c5, c6]
  · simp [c6]
theorem specDropDoor_eq (hk : Big ≤ k) {n : Int} {d : List Door} {ks : List Int} (hm : IsMaze n d ks) (A : Int) :
    spec_DropDoor.f k n d ks A = some (if 0 ≤ A ∧ A ≤ (d.length : Int) - 1 then (n, noDoor d A.toNat, ks, true) else (0, [], [], false)) := by
  have h30 := hm.2.2.1
  have hks : ks.length ≤ 12 := by have h1 := hm.2.1; have h2 := hm.2.2.2.1; omega
  unfold spec_DropDoor.f
  have en : w64 ((d.length : Int) - 1) = (d.length : Int) - 1 := w64_id (by omega) (by omega)
  simp only [l2Maze_eq hk n d ks (by omega) (by omega), hm, decide_true, Option.bind_some, in_eq, en, Bool.not_true, Bool.false_eq_true, if_false]
  by_cases c : 0 ≤ A ∧ A ≤ (d.length : Int) - 1
  · obtain ⟨x, rfl⟩ : ∃ x : Nat, A = x := ⟨A.toNat, by omega⟩
    have hx : x < d.length := by omega
    have hw : w64 ((x : Int) + 1) = ((x + 1 : Nat) : Int) := w64_id (by omega) (by omega)
    rw [if_pos c]
    simp only [c, and_self, decide_true, Bool.not_true, Bool.false_eq_true, if_false, l2Own_eq n d ks (by omega) (by omega), Option.bind_some, hw]
    rw [slc_pre d x (by omega), Option.bind_some, slc_suf d (x + 1) (by omega), Option.bind_some, if_pos (by simp; omega), if_pos (by simp; omega)]; rfl
  · rw [if_neg c]; simp [c]
theorem DropDoor_eq (hk : Big ≤ k) {n : Int} {d : List Door} {ks : List Int} (hm : IsMaze n d ks) (A : Int) :
    impl_DropDoor.f k n d ks A = some (if 0 ≤ A ∧ A ≤ (d.length : Int) - 1 then (n, noDoor d A.toNat, ks, true) else (0, [], [], false)) := by
  have h30 := hm.2.2.1
  have hks : ks.length ≤ 12 := by have h1 := hm.2.1; have h2 := hm.2.2.2.1; omega
  unfold impl_DropDoor.f
  have en : w64 ((d.length : Int) - 1) = (d.length : Int) - 1 := w64_id (by omega) (by omega)
  simp only [IsMaze_eq hk n d ks (by omega) (by omega), hm, decide_true, Option.bind_some, within_eq, en, Bool.not_true, Bool.false_eq_true, if_false]
  by_cases c : 0 ≤ A ∧ A ≤ (d.length : Int) - 1
  · obtain ⟨x, rfl⟩ : ∃ x : Nat, A = x := ⟨A.toNat, by omega⟩
    have hx : x < d.length := by omega
    rw [if_pos c]
    simp only [c, and_self, decide_true, Bool.not_true, Bool.false_eq_true, if_false, dropped_eq n d ks x hx (by omega) (by omega), Option.bind_some]
    rfl
  · rw [if_neg c]; simp [c]
theorem PutKeys_eq (hk : Big ≤ k) {n : Int} {d : List Door} {ks : List Int} (hm : IsMaze n d ks) (A B : Int) :
    impl_PutKeys.f k n d ks A B = some (if (0 ≤ A ∧ A ≤ n - 1) ∧ 0 ≤ B ∧ B ≤ 63 then (n, d, ks.set A.toNat B, true) else (0, [], [], false)) := by
  have h30 := hm.2.2.1
  have hks : ks.length ≤ 12 := by have h1 := hm.2.1; have h2 := hm.2.2.2.1; omega
  unfold impl_PutKeys.f
  rw [isNode_eq hk n d ks [A] (by omega) (by omega) (by simp)]
  simp only [hm, decide_true, Bool.true_and, List.all_cons, List.all_nil, Bool.and_true, Option.bind_some, isSet_eq]
  by_cases c1 : 0 ≤ A ∧ A ≤ n - 1
  rotate_left 1
  · refine Eq.trans ?_ (congrArg some (if_neg (fun h => c1 h.1))).symm; simp [c1]
  by_cases c2 : 0 ≤ B ∧ B ≤ 63
  rotate_left 1
  · refine Eq.trans ?_ (congrArg some (if_neg (fun h => c2 h.2))).symm; simp [c1, c2]
  refine Eq.trans ?_ (congrArg some (if_pos ⟨c1, c2⟩)).symm
  obtain ⟨x, rfl⟩ : ∃ x : Nat, A = x := ⟨A.toNat, by omega⟩
  have hx : x < ks.length := by have := hm.2.2.2.1; omega
  unfold impl_put.f
  simp only [c1, c2, and_self, decide_true, Bool.not_true, Bool.false_eq_true, if_false, own_eq n d ks (by omega) (by omega), Option.bind_some, rdl_lt hx]
/-! a deed -/
theorem fin_impl (hk : Big ≤ k) (y : Bool) (n : Int) (d : List Door) (ks l : List Int) (u : Int) (hd : d.length ≤ 1048576) (hks : ks.length ≤ 1048576) (hl : l.length ≤ 1048576) :
    ((if (!y) = true then some true else (impl_IsVisit.f k n d ks l u).bind fun t96 => some (!t96)).bind fun y98 => (if y98 = true then some ((0, [], [], [], 0, false) : VR) else some (n, d, ks, l, u, true))) = some (if y = true then keepV n d ks l u else noV) := by
  rw [IsVisit_eqV hk n d ks l u hd hks hl]
  cases y
  · rfl
  · cases h : goodV n d ks l u <;> simp [keepV, noV, h]
theorem fin_spec (hk : Big ≤ k) (y : Bool) (n : Int) (d : List Door) (ks l : List Int) (u : Int) (hd : d.length ≤ 1048576) (hks : ks.length ≤ 1048576) (hl : l.length ≤ 1048576) :
    ((if (!y) = true then some true else (spec_l12Good.f k n d ks l u).bind fun t96 => some (!t96)).bind fun y98 => (if y98 = true then some ((0, [], [], [], 0, false) : VR) else (spec_l12Own.f k n d ks l u).bind fun (t28_1, t28_2, t28_3, t28_4, t28_5) => some (t28_1, t28_2, t28_3, t28_4, t28_5, true))) = some (if y = true then keepV n d ks l u else noV) := by
  rw [l12Good_eqV hk n d ks l u hd hks hl, l12Own_eq n d ks l u hd hks hl]
  cases y
  · rfl
  · cases h : goodV n d ks l u <;> simp [keepV, noV, h]
theorem done_eq (hk : Big ≤ k) {n : Int} {d : List Door} {ks l : List Int} {u : Int} (hv : goodV n d ks l u = true) (K A B C : Int) : impl_done.f k n d ks l u K A B C = some (deedP n d ks l u K A B C) := by
  obtain ⟨hm, hl60, hu⟩ := goodV_m hv
  have hl0 := goodV_l hv
  have h30 := hm.2.2.1
  have hks : ks.length ≤ 12 := by have h1 := hm.2.1; have h2 := hm.2.2.2.1; omega
  have hu1 : w64 (u + 1) = u + 1 := w64_id (by omega) (by omega)
  unfold impl_done.f
  simp only [ownVisit_eq n d ks l u (by omega) (by omega) (by omega), Option.bind_some, hu1, beq_self_eq_true, Bool.true_and, Bool.and_true]
  have eA : (l ++ [A]).length < 1099511627776 := by simp; omega
  have eS : slc l 0 (w64 ((l.length : Int) - 1)) = some (l.take (l.length - 1)) := by
    rw [show w64 ((l.length : Int) - 1) = ((l.length - 1 : Nat) : Int) from by rw [w64_id (by omega) (by omega)]; omega]
    exact slc_pre l _ (by omega)
  by_cases k1 : K = 1
  · subst k1
    unfold deedP
    by_cases c : B = 0 ∧ C = 0
    · simp only [c.1, c.2, beq_self_eq_true, Bool.and_self, if_true, if_pos eA, Option.bind_some, and_self]
      refine (fin_impl hk true n d ks (l ++ [A]) (u + 1) (by omega) (by omega) (by simp; omega)).trans ?_; rw [if_pos rfl]
    · have : ((1 : Int) == 1 && (B == 0 && C == 0)) = false := by
        rw [Bool.eq_false_iff]; intro h; simp at h; exact c h
      simp only [this, Bool.false_eq_true, if_false, if_true, if_neg c, Option.bind_some, show ((1 : Int) == 2) = false from rfl, show ((1 : Int) == 3) = false from rfl, show ((1 : Int) == 4) = false from rfl, show ((1 : Int) == 5) = false from rfl, Bool.false_and]
      exact (fin_impl hk false n d ks l (u + 1) (by omega) (by omega) (by omega)).trans rfl
  by_cases k2 : K = 2
  · subst k2
    unfold deedP
    by_cases c : A = 0 ∧ B = 0 ∧ C = 0
    · simp only [c.1, c.2.1, c.2.2, beq_self_eq_true, Bool.and_self, if_true, eS, Option.bind_some, and_self, show ((2 : Int) == 1) = false from rfl, Bool.false_and, Bool.false_eq_true, if_false, show ¬ ((2 : Int) = 1) from by decide]
      refine (fin_impl hk true n d ks _ (u + 1) (by omega) (by omega) (by simp; omega)).trans ?_; rw [if_pos rfl]
    · have : ((2 : Int) == 2 && (A == 0 && (B == 0 && C == 0))) = false := by
        rw [Bool.eq_false_iff]; intro h; simp at h; exact c h
      simp only [this, Bool.false_eq_true, if_false, if_true, if_neg c, Option.bind_some, show ((2 : Int) == 1) = false from rfl, show ((2 : Int) == 3) = false from rfl, show ((2 : Int) == 4) = false from rfl, show ((2 : Int) == 5) = false from rfl, Bool.false_and, show ¬ ((2 : Int) = 1) from by decide]
      exact (fin_impl hk false n d ks l (u + 1) (by omega) (by omega) (by omega)).trans rfl
  by_cases k3 : K = 3
  · subst k3
    unfold deedP
    by_cases c0 : C = 0
    · simp only [c0, beq_self_eq_true, Bool.and_self, if_true, Option.bind_some, true_and, show ((3 : Int) == 1) = false from rfl, show ((3 : Int) == 2) = false from rfl, Bool.false_and, Bool.false_eq_true, if_false, show ¬ ((3 : Int) = 1) from by decide, show ¬ ((3 : Int) = 2) from by decide, PutKeys_eq hk hm A B]
      by_cases c : (0 ≤ A ∧ A ≤ n - 1) ∧ 0 ≤ B ∧ B ≤ 63
      · rw [if_pos c, if_pos c]
        simp only
        refine (fin_impl hk true n d _ l (u + 1) (by omega) (by simp; omega) (by omega)).trans ?_; rw [if_pos rfl]
      · rw [if_neg c, if_neg c]
        simp only
        exact (fin_impl hk false 0 [] [] l (u + 1) (by simp) (by simp) (by omega)).trans rfl
    · have : ((3 : Int) == 3 && C == 0) = false := by
        rw [Bool.eq_false_iff]; intro h; simp at h; exact c0 h
      simp only [this, Bool.false_eq_true, if_false, if_true, c0, false_and, Option.bind_some, show ((3 : Int) == 1) = false from rfl, show ((3 : Int) == 2) = false from rfl, show ((3 : Int) == 4) = false from rfl, show ((3 : Int) == 5) = false from rfl, Bool.false_and, show ¬ ((3 : Int) = 1) from by decide, show ¬ ((3 : Int) = 2) from by decide]
      exact (fin_impl hk false n d ks l (u + 1) (by omega) (by omega) (by omega)).trans rfl
  by_cases k4 : K = 4
  · subst k4
    unfold deedP
    simp only [beq_self_eq_true, Bool.and_self, if_true, Option.bind_some, show ((4 : Int) == 1) = false from rfl, show ((4 : Int) == 2) = false from rfl, show ((4 : Int) == 3) = false from rfl, Bool.false_and, Bool.false_eq_true, if_false, show ¬ ((4 : Int) = 1) from by decide, show ¬ ((4 : Int) = 2) from by decide, show ¬ ((4 : Int) = 3) from by decide, AddDoor_eq hk hm A B C]
    by_cases c : (0 ≤ A ∧ A ≤ n - 1) ∧ (0 ≤ B ∧ B ≤ n - 1) ∧ A ≠ B ∧ (0 ≤ C ∧ C ≤ 63) ∧ doorE A B C ∉ d ∧ d.length ≠ 30
    · rw [if_pos c, if_pos c]
      simp only
      refine (fin_impl hk true n _ ks l (u + 1) (by rw [insD_length]; omega) (by omega) (by omega)).trans ?_; rw [if_pos rfl]
    · rw [if_neg c, if_neg c]
      simp only
      exact (fin_impl hk false 0 [] [] l (u + 1) (by simp) (by simp) (by omega)).trans rfl
  by_cases k5 : K = 5
  · subst k5
    unfold deedP
    by_cases c0 : B = 0 ∧ C = 0
    · simp only [c0.1, c0.2, beq_self_eq_true, Bool.and_self, if_true, Option.bind_some, true_and, show ((5 : Int) == 1) = false from rfl, show ((5 : Int) == 2) = false from rfl, show ((5 : Int) == 3) = false from rfl, show ((5 : Int) == 4) = false from rfl, Bool.false_and, Bool.false_eq_true, if_false, show ¬ ((5 : Int) = 1) from by decide, show ¬ ((5 : Int) = 2) from by decide, show ¬ ((5 : Int) = 3) from by decide, show ¬ ((5 : Int) = 4) from by decide, DropDoor_eq hk hm A]
      by_cases c : 0 ≤ A ∧ A ≤ (d.length : Int) - 1
      · rw [if_pos c, if_pos c]
        simp only
        refine (fin_impl hk true n _ ks l (u + 1) (Nat.le_trans (noDoor_len _ _) (by omega)) (by omega) (by omega)).trans ?_; rw [if_pos rfl]
      · rw [if_neg c, if_neg c]
        simp only
        exact (fin_impl hk false 0 [] [] l (u + 1) (by simp) (by simp) (by omega)).trans rfl
    · have : ((5 : Int) == 5 && (B == 0 && C == 0)) = false := by
        rw [Bool.eq_false_iff]; intro h; simp at h; exact c0 h
      have nn : ¬ (B = 0 ∧ C = 0 ∧ 0 ≤ A ∧ A ≤ (d.length : Int) - 1) := fun h => c0 ⟨h.1, h.2.1⟩
      simp only [this, Bool.false_eq_true, if_false, if_true, if_neg nn, Option.bind_some, show ((5 : Int) == 1) = false from rfl, show ((5 : Int) == 2) = false from rfl, show ((5 : Int) == 3) = false from rfl, show ((5 : Int) == 4) = false from rfl, Bool.false_and, show ¬ ((5 : Int) = 1) from by decide, show ¬ ((5 : Int) = 2) from by decide, show ¬ ((5 : Int) = 3) from by decide, show ¬ ((5 : Int) = 4) from by decide]
      exact (fin_impl hk false n d ks l (u + 1) (by omega) (by omega) (by omega)).trans rfl
  have e1 : (K == 1) = false := by simpa using k1
  have e2 : (K == 2) = false := by simpa using k2
  have e3 : (K == 3) = false := by simpa using k3
  have e4 : (K == 4) = false := by simpa using k4
  have e5 : (K == 5) = false := by simpa using k5
  unfold deedP
  simp only [e1, e2, e3, e4, e5, k1, k2, k3, k4, k5, Bool.false_and, Bool.false_eq_true, if_false, Option.bind_some]
  exact (fin_impl hk false n d ks l (u + 1) (by omega) (by omega) (by omega)).trans rfl
theorem keepV_bad {n : Int} {d : List Door} {ks l : List Int} {u : Int} (h : ¬ goodV n d ks l u = true) : keepV n d ks l u = noV := if_neg h
theorem l12Do_eq (hk : Big ≤ k) {n : Int} {d : List Door} {ks l : List Int} {u : Int} (hv : goodV n d ks l u = true) (K A B C : Int) : spec_l12Do.f k n d ks l u K A B C = some (deedP n d ks l u K A B C) := by
  obtain ⟨hm, hl60, hu⟩ := goodV_m hv
  have hl0 := goodV_l hv
  have h30 := hm.2.2.1
  have hks : ks.length ≤ 12 := by have h1 := hm.2.1; have h2 := hm.2.2.2.1; omega
  have hu1 : w64 (u + 1) = u + 1 := w64_id (by omega) (by omega)
  have en : w64 (n - 1) = n - 1 := w64_id (by have := hm.1; omega) (by have := hm.2.1; omega)
  unfold spec_l12Do.f spec_l12Make.f
  simp only [l12Own_eq n d ks l u (by omega) (by omega) (by omega), Option.bind_some, hu1, in_eq, en]
  have eA : (l ++ [A]).length < 1099511627776 := by simp; omega
  have eW : w64 ((l.length : Int) - 1) = ((l.length - 1 : Nat) : Int) := by rw [w64_id (by omega) (by omega)]; omega
  by_cases k1 : K = 1
  · subst k1
    unfold deedP
    simp only [beq_self_eq_true, if_true, if_pos eA]
    by_cases c1 : B = 0
    · by_cases c2 : C = 0
      · simp only [c1, c2, beq_self_eq_true, if_true, Option.bind_some, and_self]
        refine (fin_spec hk true n d ks (l ++ [A]) (u + 1) (by omega) (by omega) (by simp; omega)).trans ?_; rw [if_pos rfl]
      · have e2 : (C == 0) = false := by simpa using c2
        simp only [c1, c2, e2, beq_self_eq_true, if_true, Option.bind_some, and_false, if_false]
        exact (fin_spec hk false n d ks (l ++ [A]) (u + 1) (by omega) (by omega) (by simp; omega)).trans rfl
    · have e2 : (B == 0) = false := by simpa using c1
      simp only [c1, e2, Bool.false_eq_true, if_true, Option.bind_some, false_and, if_false]
      exact (fin_spec hk false n d ks (l ++ [A]) (u + 1) (by omega) (by omega) (by simp; omega)).trans rfl
  have e1 : (K == 1) = false := by simpa using k1
  by_cases k2 : K = 2
  · subst k2
    unfold deedP
    have hmost : ∃ t : Nat, spec_l1Most.f k 1 (w64 ((l.length : Int) - 1)) = some (t : Int) ∧ (1 < l.length → t = l.length - 1) ∧ t ≤ l.length := by
      unfold spec_l1Most.f
      rw [eW]
      by_cases c : (1 : Int) > ((l.length - 1 : Nat) : Int)
      · exact ⟨1, by simp only [c, decide_true, if_true]; rfl, by omega, by omega⟩
      · exact ⟨l.length - 1, by simp only [c, decide_false, Bool.false_eq_true, if_false], fun _ => rfl, by omega⟩
    obtain ⟨t, ht1, ht2, ht3⟩ := hmost
    simp only [e1, beq_self_eq_true, if_true, ht1, Option.bind_some, slc_pre l t ht3, Bool.false_eq_true, if_false, k1]
    by_cases c0 : (l.length : Int) > 1
    · have ht2' := ht2 (by omega)
      simp only [c0, decide_true, if_true, ht2']
      by_cases c1 : A = 0
      · by_cases c2 : B = 0
        · by_cases c3 : C = 0
          · simp only [c1, c2, c3, beq_self_eq_true, if_true, Option.bind_some, and_self]
            refine (fin_spec hk true n d ks _ (u + 1) (by omega) (by omega) (by simp; omega)).trans ?_; rw [if_pos rfl]
          · have e3 : (C == 0) = false := by simpa using c3
            simp only [c1, c2, c3, e3, beq_self_eq_true, if_true, Option.bind_some, and_false, if_false]
            exact (fin_spec hk false n d ks _ (u + 1) (by omega) (by omega) (by simp; omega)).trans rfl
        · have e3 : (B == 0) = false := by simpa using c2
          simp only [c1, c2, e3, beq_self_eq_true, if_true, Option.bind_some, and_false, false_and, if_false, Bool.false_eq_true]
          exact (fin_spec hk false n d ks _ (u + 1) (by omega) (by omega) (by simp; omega)).trans rfl
      · have e3 : (A == 0) = false := by simpa using c1
        simp only [c1, e3, Option.bind_some, false_and, if_false, Bool.false_eq_true]
        exact (fin_spec hk false n d ks _ (u + 1) (by omega) (by omega) (by simp; omega)).trans rfl
    · have hl1 : l.length - 1 = 0 := by omega
      simp only [c0, decide_false, Bool.false_eq_true, if_false, Option.bind_some, hl1, List.take_zero]
      rw [fin_spec hk false n d ks _ (u + 1) (by omega) (by omega) (by simp; omega)]
      have hb : keepV n d ks [] (u + 1) = noV := keepV_bad fun h => by have := goodV_l h; simp at this
      rw [hb]
      simp
  have e2 : (K == 2) = false := by simpa using k2
  by_cases k3 : K = 3
  · subst k3
    unfold deedP
    simp only [e1, e2, beq_self_eq_true, if_true, Bool.false_eq_true, if_false, k1, k2]
    by_cases c1 : 0 ≤ A ∧ A ≤ n - 1
    rotate_left 1
    · refine Eq.trans ?_ (congrArg some (if_neg (fun h => c1 h.2.1))).symm
      simp only [c1, decide_false, Bool.not_false, if_true, Option.bind_some]
      exact (fin_spec hk false n d ks l (u + 1) (by omega) (by omega) (by omega)).trans rfl
    by_cases c2 : C = 0
    rotate_left 1
    · refine Eq.trans ?_ (congrArg some (if_neg (fun h => c2 h.1))).symm
      have e3 : (C != 0) = true := by simpa using c2
      simp only [c1, and_self, decide_true, Bool.not_true, Bool.false_eq_true, if_false, e3, if_true, Option.bind_some]
      exact (fin_spec hk false n d ks l (u + 1) (by omega) (by omega) (by omega)).trans rfl
    subst c2
    obtain ⟨x, rfl⟩ : ∃ x : Nat, A = x := ⟨A.toNat, by omega⟩
    have hx : x < ks.length := by have := hm.2.2.2.1; omega
    simp only [c1, and_self, decide_true, Bool.not_true, Bool.false_eq_true, if_false, bne_self_eq_false, Option.bind_some, rdl_lt hx, true_and, Int.toNat_natCast]
    refine (fin_spec hk true n d (ks.set x B) l (u + 1) (by omega) (by simp; omega) (by omega)).trans ?_; rw [if_pos rfl]
    by_cases c3 : 0 ≤ B ∧ B ≤ 63
    · rw [if_pos c3]
    · rw [if_neg c3]
      refine congrArg some (keepV_bad fun h => ?_)
      have hm' := (goodV_m h).1
      have := hm'.2.2.2.2.2 x (by simpa using hx)
      unfold setB at this
      rw [dif_pos (by simpa using hx)] at this
      simp only [List.getElem_set_self] at this
      exact c3 (of_decide_eq_true this)
  have e3 : (K == 3) = false := by simpa using k3
  by_cases k4 : K = 4
  · subst k4
    unfold deedP
    simp only [e1, e2, e3, beq_self_eq_true, if_true, Bool.false_eq_true, if_false, k1, k2, k3, specAddDoor_eq hk hm A B C, Option.bind_some]
    by_cases c : (0 ≤ A ∧ A ≤ n - 1) ∧ (0 ≤ B ∧ B ≤ n - 1) ∧ A ≠ B ∧ (0 ≤ C ∧ C ≤ 63) ∧ doorE A B C ∉ d
    · by_cases c6 : IsMaze n (insD (doorE A B C) d) ks
      · have : d.length ≠ 30 := fun h => by have := c6.2.2.1; rw [insD_length] at this; omega
        rw [if_pos (And.intro c c6), if_pos (show (0 ≤ A ∧ A ≤ n - 1) ∧ (0 ≤ B ∧ B ≤ n - 1) ∧ A ≠ B ∧ (0 ≤ C ∧ C ≤ 63) ∧ doorE A B C ∉ d ∧ d.length ≠ 30 from ⟨c.1, c.2.1, c.2.2.1, c.2.2.2.1, c.2.2.2.2, this⟩)]
        simp only
        refine (fin_spec hk true n _ ks l (u + 1) (by rw [insD_length]; omega) (by omega) (by omega)).trans ?_; rw [if_pos rfl]
      · rw [if_neg (show ¬ (((0 ≤ A ∧ A ≤ n - 1) ∧ (0 ≤ B ∧ B ≤ n - 1) ∧ A ≠ B ∧ (0 ≤ C ∧ C ≤ 63) ∧ doorE A B C ∉ d) ∧ IsMaze n (insD (doorE A B C) d) ks) from fun h => c6 h.2), keepV_bad fun h => c6 (goodV_m h).1, ite_self]
        simp only
        exact (fin_spec hk false 0 [] [] l (u + 1) (by simp) (by simp) (by omega)).trans rfl
    · rw [if_neg (show ¬ (((0 ≤ A ∧ A ≤ n - 1) ∧ (0 ≤ B ∧ B ≤ n - 1) ∧ A ≠ B ∧ (0 ≤ C ∧ C ≤ 63) ∧ doorE A B C ∉ d) ∧ IsMaze n (insD (doorE A B C) d) ks) from fun h => c h.1), if_neg (show ¬ ((0 ≤ A ∧ A ≤ n - 1) ∧ (0 ≤ B ∧ B ≤ n - 1) ∧ A ≠ B ∧ (0 ≤ C ∧ C ≤ 63) ∧ doorE A B C ∉ d ∧ d.length ≠ 30) from fun h => c ⟨h.1, h.2.1, h.2.2.1, h.2.2.2.1, h.2.2.2.2.1⟩)]
      simp only
      exact (fin_spec hk false 0 [] [] l (u + 1) (by simp) (by simp) (by omega)).trans rfl
  have e4 : (K == 4) = false := by simpa using k4
  by_cases k5 : K = 5
  · subst k5
    unfold deedP
    simp only [e1, e2, e3, e4, beq_self_eq_true, if_true, Bool.false_eq_true, if_false, k1, k2, k3, k4, specDropDoor_eq hk hm A, Option.bind_some]
    by_cases c : 0 ≤ A ∧ A ≤ (d.length : Int) - 1
    · rw [if_pos c]
      by_cases c1 : B = 0
      · by_cases c2 : C = 0
        · simp only [c1, c2, beq_self_eq_true, if_true, Option.bind_some, true_and, c, and_self]
          refine (fin_spec hk true n _ ks l (u + 1) (Nat.le_trans (noDoor_len _ _) (by omega)) (by omega) (by omega)).trans ?_; rw [if_pos rfl]
        · have e6 : (C == 0) = false := by simpa using c2
          simp only [c1, c2, e6, beq_self_eq_true, if_true, Option.bind_some, and_false, false_and, if_false]
          exact (fin_spec hk false n _ ks l (u + 1) (Nat.le_trans (noDoor_len _ _) (by omega)) (by omega) (by omega)).trans rfl
      · have e6 : (B == 0) = false := by simpa using c1
        simp only [c1, e6, if_true, Option.bind_some, false_and, if_false, Bool.false_eq_true]
        exact (fin_spec hk false n _ ks l (u + 1) (Nat.le_trans (noDoor_len _ _) (by omega)) (by omega) (by omega)).trans rfl
    · rw [if_neg c, if_neg (show ¬ (B = 0 ∧ C = 0 ∧ 0 ≤ A ∧ A ≤ (d.length : Int) - 1) from fun h => c h.2.2)]
      simp only [Bool.false_eq_true, if_false, Option.bind_some]
      exact (fin_spec hk false 0 [] [] l (u + 1) (by simp) (by simp) (by omega)).trans rfl
  have e5 : (K == 5) = false := by simpa using k5
  unfold deedP
  simp only [e1, e2, e3, e4, e5, k1, k2, k3, k4, k5, Bool.false_eq_true, if_false, Option.bind_some]
  exact (fin_spec hk false n d ks l (u + 1) (by omega) (by omega) (by omega)).trans rfl
end
end Go.Proofs

/- Plain laws: OO -/
namespace Go.Proofs
open Go Go.Ga Go.Ga.Wf
set_option linter.unusedVariables false
set_option linter.unusedSimpArgs false
section
variable {k : Nat}
/-! the rounds of the reference, and when each node is entered -/
/-! colours of a set -/
/-! depth -/
/-! swaps -/
end
end Go.Proofs

/- Plain laws: PP -/
namespace Go.Proofs
open Go Go.Ga Go.Ga.Wf
set_option linter.unusedVariables false
set_option linter.unusedSimpArgs false
section
variable {k : Nat}
end
end Go.Proofs

/- Plain laws: QQ -/
namespace Go.Proofs
open Go Go.Ga Go.Ga.Wf
set_option linter.unusedVariables false
set_option linter.unusedSimpArgs false
abbrev De := Int × Int × Int × Int
section
variable {k : Nat}
theorem szDeedS_eq (l : List De) (m : Int) (h0 : -1 ≤ m) (hm : m ≤ 1048576) (hl : l.length ≤ maxLen) : laws_szDeedS.f k l m = some (szo m l.length) := by
  unfold laws_szDeedS.f szo
  rw [maxLen_eq] at hl
  by_cases hb : (l.length : Int) ≤ 9223372036854775807 + m
  · rw [w64_id (by omega) (by omega)]
    by_cases h : (l.length : Int) ≤ m
    · rw [if_neg (by simp; omega), if_pos h]
    · rw [if_pos (by simp; omega), if_neg h]
  · have e : m = -1 := by omega
    subst e
    have e2 : (l.length : Int) = 9223372036854775807 := by omega
    rw [e2, if_neg (show ¬ ((9223372036854775807 : Int) ≤ -1) by decide)]
    rw [if_pos (by rw [decide_eq_true_iff]; rw [w64_id (by omega) (by omega)]; omega)]
theorem toDeedS_eq (hk : Big ≤ k) (l : List De) (hl : l.length ≤ 1048576) : laws_toDeedS.f k l = some l := by
  unfold laws_toDeedS.f
  rw [if_pos (by omega)]
  rw [loop_copy (l := laws_toDeedS.l0 k l) (a := l) (fun n i s hi hs => by
    rw [laws_toDeedS.l0]
    have h1 : ((i : Int) < (l.length : Int)) := by omega
    have hw : w64 ((i : Int) + 1) = ((i + 1 : Nat) : Int) := w64_id (by omega) (by omega)
    simp only [h1, decide_true, if_true, rdl_lt hi, rdl_lt (hs ▸ hi), Option.bind_some, hw, Int.toNat_natCast, laws_toDeed.f])
    (fun n s => by rw [laws_toDeedS.l0]; simp) (by unfold Big at hk; omega) (by simp)]
  rfl
theorem eqDeed_eq (a b c d a' b' c' d' : Int) : laws_eqDeed.f k a b c d a' b' c' d' = some (decide ((a, b, c, d) = (a', b', c', d'))) := by
  unfold laws_eqDeed.f
  by_cases h1 : a = a' <;> by_cases h2 : b = b' <;> by_cases h3 : c = c' <;> by_cases h4 : d = d' <;> simp [h1, h2, h3, h4]
theorem eqDeedS_eq (hk : Big ≤ k) (a b : List De) (hl : a.length ≤ 1048576) : laws_eqDeedS.f k a b = some (decide (a = b)) := by
  unfold laws_eqDeedS.f
  by_cases h : a.length = b.length
  · rw [if_neg (by simp; omega), loop_eq (l := laws_eqDeedS.l0 k a b) h (fun n i hi => by
      rw [laws_eqDeedS.l0]
      have h1 : ((i : Int) < (a.length : Int)) := by omega
      have hw : w64 ((i : Int) + 1) = ((i + 1 : Nat) : Int) := w64_id (by omega) (by omega)
      simp only [h1, decide_true, if_true, rdl_lt hi, rdl_lt (h ▸ hi), Option.bind_some, hw, eqDeed_eq]
      by_cases h2 : a[i] = b[i] <;> simp [h2]) (fun n => by rw [laws_eqDeedS.l0]; simp) (by unfold Big at hk; omega), Option.bind_some, Lr_ite]
    by_cases h2 : a = b <;> simp [h2]
  · rw [if_pos (by simp; omega)]
    have : a ≠ b := fun e => h (by rw [e])
    simp [this]
theorem markDeedS_eq (hk : Big ≤ k) (l : List De) (m : Int) (h0 : 0 ≤ m) (hm : m ≤ 1073741824) (hl : l.length ≤ 1048576) : ∃ r, laws_markDeedS.f k l m = some (m + 4 * l.length, r) := by
  unfold laws_markDeedS.f
  have := loop_good (l := fun q (s : List De × Nat) => laws_markDeedS.l0 k q s.1 (m + 4 * (s.2 : Int)) (s.2 : Int)) (fun s => s.1.length = l.length ∧ s.2 ≤ l.length) (fun s => l.length - s.2) (fun r => r.1 = m + 4 * l.length) (fun q ⟨x, i⟩ hI => by
    obtain ⟨h1, h2⟩ := hI
    simp only at h1 h2
    simp only
    rw [laws_markDeedS.l0]
    by_cases hi : i < l.length
    · left
      have hlt : ((i : Int) < (x.length : Int)) := by omega
      have hi' : i < x.length := by omega
      have hw : w64 ((i : Int) + 1) = ((i + 1 : Nat) : Int) := w64_id (by omega) (by omega)
      have e1 : w64 (m + 4 * (i : Int) + 1) = m + 4 * (i : Int) + 1 := w64_id (by omega) (by omega)
      have e2 : w64 (m + 4 * (i : Int) + 1 + 1) = m + 4 * (i : Int) + 1 + 1 := w64_id (by omega) (by omega)
      have e3 : w64 (m + 4 * (i : Int) + 1 + 1 + 1) = m + 4 * (i : Int) + 1 + 1 + 1 := w64_id (by omega) (by omega)
      have e4 : w64 (m + 4 * (i : Int) + 1 + 1 + 1 + 1) = m + 4 * ((i + 1 : Nat) : Int) := by rw [w64_id (by omega) (by omega)]; omega
      have hs : ∀ (y : List De), y.length = l.length → ∃ t, rdl y (i : Int) = some t := fun y hy => ⟨_, rdl_lt (show i < y.length by omega)⟩
      obtain ⟨t1, ht1⟩ := hs x h1
      obtain ⟨t2, ht2⟩ := hs (x.set i (m + 4 * (i : Int), t1.2.1, t1.2.2.1, t1.2.2.2)) (by rw [List.length_set]; exact h1)
      obtain ⟨t3, ht3⟩ := hs ((x.set i (m + 4 * (i : Int), t1.2.1, t1.2.2.1, t1.2.2.2)).set i (t2.1, m + 4 * (i : Int) + 1, t2.2.2.1, t2.2.2.2)) (by rw [List.length_set, List.length_set]; exact h1)
      obtain ⟨t4, ht4⟩ := hs (((x.set i (m + 4 * (i : Int), t1.2.1, t1.2.2.1, t1.2.2.2)).set i (t2.1, m + 4 * (i : Int) + 1, t2.2.2.1, t2.2.2.2)).set i (t3.1, t3.2.1, m + 4 * (i : Int) + 1 + 1, t3.2.2.2)) (by rw [List.length_set, List.length_set, List.length_set]; exact h1)
      refine ⟨((((x.set i (m + 4 * (i : Int), t1.2.1, t1.2.2.1, t1.2.2.2)).set i (t2.1, m + 4 * (i : Int) + 1, t2.2.2.1, t2.2.2.2)).set i (t3.1, t3.2.1, m + 4 * (i : Int) + 1 + 1, t3.2.2.2)).set i (t4.1, t4.2.1, t4.2.2.1, m + 4 * (i : Int) + 1 + 1 + 1), i + 1), ?_, ⟨by simp only [List.length_set]; exact h1, hi⟩, by simp only; omega⟩
      simp only [hlt, decide_true, if_true, ht1, Option.bind_some, Int.toNat_natCast, e1, e2, e3, e4, ht2, ht3, ht4, hw]
    · right
      have : i = l.length := by omega
      subst this
      refine ⟨(m + 4 * (l.length : Int), x), by simp [h1], rfl⟩) k (l, 0) (by simp only; unfold Big at hk; omega) ⟨rfl, by simp⟩
  obtain ⟨⟨r1, r2⟩, h1, h2⟩ := this
  simp only at h1 h2
  subst h2
  rw [show m + 4 * ((0 : Nat) : Int) = m by omega, show ((0 : Nat) : Int) = 0 from rfl] at h1
  exact ⟨r2, by rw [h1]; rfl⟩
/-! the deeds -/
def GoodR (r : VR) : Prop := r.2.2.2.2.2 = true → goodV r.1 r.2.1 r.2.2.1 r.2.2.2.1 r.2.2.2.2.1 = true
theorem keepV_goodR (n : Int) (d : List Door) (ks l : List Int) (u : Int) : GoodR (keepV n d ks l u) := by
  unfold keepV GoodR
  split
  · rename_i h; exact fun _ => h
  · intro h; cases h
theorem deedP_goodR (n : Int) (d : List Door) (ks l : List Int) (u K A B C : Int) : GoodR (deedP n d ks l u K A B C) := by
  have h0 : GoodR noV := fun h => by cases h
  unfold deedP
  repeat' split
  all_goals first
    | exact keepV_goodR _ _ _ _ _
    | exact h0
theorem deeds_same (hk : Big ≤ k) (a : List De) : ∀ (q : Nat) (x : Int) (n : Int) (d : List Door) (ks l : List Int) (u : Int), goodV n d ks l u = true → impl_DoDeeds.l0 k a q x n d ks l u = spec_DoDeeds.l0 k a q x n d ks l u
  | 0, x, n, d, ks, l, u, _ => rfl
  | q + 1, x, n, d, ks, l, u, hv => by
    rw [impl_DoDeeds.l0, spec_DoDeeds.l0]
    by_cases hx : x < (a.length : Int)
    · simp only [hx, decide_true, if_true]
      cases hr : rdl a x with
      | none => rfl
      | some t =>
        simp only [Option.bind_some, done_eq hk hv, l12Do_eq hk hv]
        have hg := deedP_goodR n d ks l u t.1 t.2.1 t.2.2.1 t.2.2.2
        generalize deedP n d ks l u t.1 t.2.1 t.2.2.1 t.2.2.2 = r at hg
        obtain ⟨n', d', ks', l', u', b⟩ := r
        cases b with
        | false => rfl
        | true =>
          simp only [Bool.not_true, Bool.false_eq_true, if_false]
          exact deeds_same hk a q _ n' d' ks' l' u' (hg rfl)
    · simp only [hx, decide_false, Bool.false_eq_true, if_false]
abbrev DS := (Int × List Door × List Int × List Int × Int) ⊕ (Int × List Door × List Int × List Int × Int × Int × Bool)
def fewD (d : List Door) (ks l : List Int) : Prop := d.length ≤ 1048576 ∧ ks.length ≤ 1048576 ∧ l.length ≤ 1048576
def GoodS : DS → Prop
  | .inl v => fewD v.2.1 v.2.2.1 v.2.2.2.1
  | .inr v => fewD v.2.1 v.2.2.1 v.2.2.2.1
theorem goodV_few {n : Int} {d : List Door} {ks l : List Int} {u : Int} (h : goodV n d ks l u = true) : fewD d ks l := by
  obtain ⟨hm, h60, _⟩ := goodV_m h
  have h30 := hm.2.2.1
  have hks : ks.length ≤ 12 := by have h1 := hm.2.1; have h2 := hm.2.2.2.1; omega
  unfold fewD; omega
theorem deeds_l0 (hk : Big ≤ k) (a : List De) (ha : a.length ≤ 1048576) {n : Int} {d : List Door} {ks l : List Int} {u : Int} (hv : goodV n d ks l u = true) :
    ∃ r : DS, impl_DoDeeds.l0 k a k 0 n d ks l u = some r ∧ GoodS r := by
  have := loop_good (l := fun q (s : Nat × Int × List Door × List Int × List Int × Int) => impl_DoDeeds.l0 k a q (s.1 : Int) s.2.1 s.2.2.1 s.2.2.2.1 s.2.2.2.2.1 s.2.2.2.2.2) (fun s => s.1 ≤ a.length ∧ goodV s.2.1 s.2.2.1 s.2.2.2.1 s.2.2.2.2.1 s.2.2.2.2.2 = true) (fun s => a.length - s.1) GoodS (fun q ⟨i, n, d, ks, l, u⟩ hI => by
    obtain ⟨h1, h2⟩ := hI
    simp only at h1 h2
    simp only
    rw [impl_DoDeeds.l0]
    by_cases hi : i < a.length
    · have hlt : ((i : Int) < (a.length : Int)) := by omega
      have hw : w64 ((i : Int) + 1) = ((i + 1 : Nat) : Int) := w64_id (by omega) (by omega)
      simp only [hlt, decide_true, if_true, rdl_lt hi, Option.bind_some, done_eq hk h2, hw]
      have hg := deedP_goodR n d ks l u a[i].1 a[i].2.1 a[i].2.2.1 a[i].2.2.2
      generalize deedP n d ks l u a[i].1 a[i].2.1 a[i].2.2.1 a[i].2.2.2 = r at hg
      obtain ⟨n', d', ks', l', u', b⟩ := r
      cases b with
      | false => right; exact ⟨.inr (n, d, ks, l, u, (i : Int), true), rfl, goodV_few h2⟩
      | true =>
        left
        refine ⟨(i + 1, n', d', ks', l', u'), by simp, ⟨hi, hg rfl⟩, by simp only; omega⟩
    · right
      have hlt : ¬ ((i : Int) < (a.length : Int)) := by omega
      exact ⟨.inl (n, d, ks, l, u), by simp [hlt], goodV_few h2⟩) k (0, n, d, ks, l, u) (by simp only; unfold Big at hk; omega) ⟨by simp, hv⟩
  exact this
theorem DoDeeds_both (hk : Big ≤ k) (n : Int) (d : List Door) (ks l : List Int) (u : Int) (a : List De) (hd : d.length ≤ 1048576) (hks : ks.length ≤ 1048576) (hl : l.length ≤ 1048576) (ha : a.length ≤ 1048576) :
    ∃ r : Int × List Door × List Int × List Int × Int × Int × Bool, impl_DoDeeds.f k n d ks l u a = some r ∧ spec_DoDeeds.f k n d ks l u a = some r ∧ fewD r.2.1 r.2.2.1 r.2.2.2.1 := by
  unfold impl_DoDeeds.f spec_DoDeeds.f
  rw [IsVisit_eqV hk n d ks l u hd hks hl, l12Good_eqV hk n d ks l u hd hks hl]
  by_cases hv : goodV n d ks l u = true
  rotate_left 1
  · have : goodV n d ks l u = false := by simpa using hv
    rw [this]
    exact ⟨(0, [], [], [], 0, 0, false), rfl, rfl, by simp [fewD]⟩
  rw [hv]
  obtain ⟨r, h1, h2⟩ := deeds_l0 hk a ha hv
  have h3 := deeds_same hk a k 0 n d ks l u hv
  rw [h1] at h3
  simp only [Option.bind_some, Bool.not_true, Bool.false_eq_true, if_false, ownVisit_eq n d ks l u hd hks hl, l12Own_eq n d ks l u hd hks hl, h1, ← h3]
  cases r with
  | inl v =>
    obtain ⟨n', d', ks', l', u'⟩ := v
    exact ⟨(n', d', ks', l', u', (a.length : Int), true), rfl, rfl, h2⟩
  | inr v => exact ⟨v, rfl, rfl, h2⟩
theorem laws_FnExactDoDeeds.pure (x : Int × List (Int × Int × Int) × List Int × List Int × Int) (y : List (Int × Int × Int × Int)) (h : wfd x) (h' : wfd y) : ∃ k, laws_FnExactDoDeeds.f k x.1 x.2.1 x.2.2.1 x.2.2.2.1 x.2.2.2.2 y = some true := by
  refine ⟨Big, ?_⟩
  have hk : Big ≤ Big := Nat.le_refl _
  obtain ⟨n, d, ks, l, u⟩ := x
  have h1 : d.length ≤ maxLen := h.2.1.1
  have h2 : ks.length ≤ maxLen := h.2.2.1.1
  have h3 : l.length ≤ maxLen := h.2.2.2.1.1
  have h4 : y.length ≤ maxLen := h'.1
  unfold laws_FnExactDoDeeds.f
  simp only [szVisit_eq n d ks l u _ (by decide : (0 : Int) ≤ 1048576) (Int.le_refl _) h1 h2 h3, Option.bind_some]
  by_cases hc : ((d.length + ks.length + l.length : Nat) : Int) ≤ 1048576
  · have hsz := szo_range (m := 1048576) (n := d.length + ks.length + l.length) (by decide) (by decide)
    have hs4 := szDeedS_eq (k := Big) y (szo 1048576 (d.length + ks.length + l.length)) hsz.1 hsz.2 h4
    simp only [szo_pos hc, Bool.false_eq_true, if_false, hs4, Option.bind_some]
    have hval : szo 1048576 (d.length + ks.length + l.length) = 1048576 - ((d.length + ks.length + l.length : Nat) : Int) := by unfold szo; rw [if_pos hc]
    by_cases hc2 : (y.length : Int) ≤ szo 1048576 (d.length + ks.length + l.length)
    · have hneg : decide (szo (szo 1048576 (d.length + ks.length + l.length)) y.length < 0) = false := by
        unfold szo at hc2 ⊢
        rw [if_pos hc] at hc2 ⊢
        rw [if_pos hc2, decide_eq_false_iff_not]; omega
      obtain ⟨⟨n', d', ks', l', u', i', b⟩, e2, e3, hb⟩ := DoDeeds_both hk n d ks l u y (by omega) (by omega) (by omega) (by omega)
      simp only [fewD] at hb
      have hbd : d.length ≤ 1048576 ∧ ks.length ≤ 1048576 ∧ l.length ≤ 1048576 ∧ y.length ≤ 1048576 := by omega
      obtain ⟨rm, hmk⟩ := markDeedS_eq hk y (1 + 3 * d.length + ks.length + l.length) (by omega) (by omega) hbd.2.2.2
      have p1 : decide ((1 : Int) + 3 * d.length + ks.length + l.length + 4 * y.length < 0) = false := decide_eq_false (by omega)
      have p2 : decide ((1 : Int) + 3 * d'.length + ks'.length + l'.length < 0) = false := decide_eq_false (by omega)
      simp only [p1, p2, hneg, Bool.false_eq_true, if_false, toVisit_eq hk n d ks l u hbd.1 hbd.2.1 hbd.2.2.1, toDeedS_eq hk y hbd.2.2.2, e2, e3, Option.bind_some, eqVisit_eq hk n' d' ks' l' u' _ _ _ _ _ hb.1 hb.2.1 hb.2.2, eqVisit_eq hk n d ks l u n d ks l u hbd.1 hbd.2.1 hbd.2.2.1, eqDeedS_eq hk y y hbd.2.2.2, markVisit_eq hk n d ks l u 1 (by omega) (by omega) hbd.1 hbd.2.1 hbd.2.2.1, hmk,
        markVisit_eq hk n' d' ks' l' u' 1 (by omega) (by omega) hb.1 hb.2.1 hb.2.2, heldVisit_eq hk n' d'.length ks'.length l'.length u' 1 (by omega) (by omega) hb.1 hb.2.1 hb.2.2]
      simp
    · have hneg : decide (szo (szo 1048576 (d.length + ks.length + l.length)) y.length < 0) = true := by
        have : szo (szo 1048576 (d.length + ks.length + l.length)) y.length = -1 := if_neg hc2
        rw [this]; rfl
      simp only [hneg, if_true]
  · simp only [szo_neg hc, if_true]
end
end Go.Proofs

/- A part of the proof of FnExactTurnDoor: the plain law. No condition. -/
import Derived.Test.YtoigeobocefoiaaFnExactTurnDoorA
import Derived.Test.YtoigeobocefoiaaFnExactTurnDoorB
import Derived.Test.YtoigeobocefoiaaFnExactTurnDoorC
import Derived.Test.YtoigeobocefoiaaFnExactTurnDoorD
set_option linter.unusedSimpArgs false
namespace Go.Proofs
open Go Go.Ga Go.Ga.Wf
set_option linter.unusedVariables false
set_option linter.unusedSimpArgs false
section
variable {k : Nat}
theorem within_eq (x a b : Int) : impl_within.f k x a b = some (decide (a ≤ x ∧ x ≤ b)) := by
 unfold impl_within.f
 by_cases h : a ≤ x <;> simp [h]
theorem in_eq (x a b : Int) : spec_l1In.f k x a b = some (decide (a ≤ x ∧ x ≤ b)) := by
 unfold spec_l1In.f
 by_cases h : a ≤ x <;> simp [h, ge_iff_le]
def plainB (bad : List UInt8) (b : UInt8) : Bool := decide (32 ≤ (b.toNat : Int) ∧ (b.toNat : Int) ≤ 126) && !bad.contains b
def isRecord (a b : ByteArray) : Prop := (1 ≤ a.size ∧ a.size ≤ 160 ∧ ∀ i (h : i < a.size), plainB [35, 64] a[i] = true) ∧ b.size ≤ 250 ∧ ∀ i (h : i < b.size), plainB [35] b[i] = true
end
end Go.Proofs

namespace Go.Ga
open Go
def szo (m : Int) (n : Nat) : Int := if (n : Int) ≤ m then m - n else -1
theorem loop_copy {α : Type} {l : Nat → List α → Int → Option (List α)} {a : List α}
    (hs : ∀ n (i : Nat) (s : List α) (hi : i < a.length), s.length = a.length → l (n + 1) s (i : Int) = l n (s.set i a[i]) ((i + 1 : Nat) : Int))
    (he : ∀ n s, l (n + 1) s (a.length : Int) = some s) {k : Nat} (hk : a.length < k) {s : List α} (h0 : s.length = a.length) : l k s 0 = some a := by
  have key : ∀ m i k s, i + m = a.length → m < k → s.length = a.length → (∀ j, j < i → s[j]? = a[j]?) → l k s (i : Int) = some a := by
    intro m
    induction m with
    | zero =>
      intro i k s hi hk h1 h2
      obtain ⟨n, rfl⟩ : ∃ n, k = n + 1 := ⟨k - 1, by omega⟩
      have : i = a.length := by omega
      subst this
      rw [he]
      congr 1
      refine List.ext_getElem? fun j => ?_
      rcases Nat.lt_or_ge j a.length with h | h
      · exact h2 j h
      · rw [List.getElem?_eq_none (by omega), List.getElem?_eq_none h]
    | succ m ih =>
      intro i k s hi hk h1 h2
      obtain ⟨n, rfl⟩ : ∃ n, k = n + 1 := ⟨k - 1, by omega⟩
      rw [hs n i s (by omega) h1]
      refine ih (i + 1) n _ (by omega) (by omega) (by simpa using h1) fun j hj => ?_
      rcases Nat.eq_or_lt_of_le (Nat.le_of_lt_succ hj) with rfl | h
      · rw [List.getElem?_set_self (by omega), List.getElem?_eq_getElem (by omega)]
      · rw [List.getElem?_set_ne (by omega)]; exact h2 j h
  have := key a.length 0 k s (by omega) hk h0 (by omega)
  simpa using this
theorem loop_eq {α : Type} [DecidableEq α] {l : Nat → Int → Option (Unit ⊕ Bool)} {a b : List α} (hl : a.length = b.length)
  (hs : ∀ n (i : Nat) (hi : i < a.length), l (n + 1) (i : Int) = if a[i] = b[i] then l n ((i + 1 : Nat) : Int) else some (.inr false))
  (he : ∀ n, l (n + 1) (a.length : Int) = some (.inl ())) {k : Nat} (hk : a.length < k) : l k 0 = some (if a = b then .inl () else .inr false) := by
 rw [loop_all (l := l) (N := a.length) (fun i => decide (a[i]? = b[i]?)) (z := false) (fun n i hi => by
  rw [hs n i hi, List.getElem?_eq_getElem hi, List.getElem?_eq_getElem (by omega)]
  simp) he hk]
 congr 1
 have : (∀ i, i < a.length → decide (a[i]? = b[i]?) = true) ↔ a = b := by
  constructor
  ·intro h
   refine List.ext_getElem? fun i => ?_
   rcases Nat.lt_or_ge i a.length with h1 | h1
   ·simpa using h i h1
   ·rw [List.getElem?_eq_none h1, List.getElem?_eq_none (by omega)]
  ·rintro rfl i _; simp
 by_cases h : a = b
 ·rw [if_pos h, if_pos (this.2 h)]
 ·rw [if_neg h, if_neg (fun H => h (this.1 H))]
theorem w64_1 : w64 1 = 1 := rfl
theorem w64_2 : w64 2 = 2 := rfl
theorem w64_3 : w64 3 = 3 := rfl
theorem rdl3_0 {α : Type} {x y z : α} : rdl [x, y, z] 0 = some x := rfl
theorem rdl3_1 {α : Type} {x y z : α} : rdl [x, y, z] 1 = some y := rfl
theorem rdl3_2 {α : Type} {x y z : α} : rdl [x, y, z] 2 = some z := rfl
end Go.Ga
namespace Go.Proofs
open Go Go.Ga Go.Ga.Wf
set_option linter.unusedVariables false
set_option linter.unusedSimpArgs false
section
variable {k : Nat}
theorem big_split (hk : Big ≤ k) : ∃ n, k = n + 5 := ⟨k - 5, by unfold Big at hk; omega⟩
theorem maxLen_eq : maxLen = 9223372036854775807 := by decide
theorem szIntS_eq (l : List Int) (m : Int) (h0 : 0 ≤ m) (hm : m ≤ 1048576) (hl : l.length ≤ maxLen) : laws_szIntS.f k l m = some (szo m l.length) := by
 unfold laws_szIntS.f szo
 rw [maxLen_eq] at hl
 rw [w64_id (by omega) (by omega)]
 by_cases h : (l.length : Int) ≤ m
 ·rw [if_neg (by simp; omega), if_pos h]
 ·rw [if_pos (by simp; omega), if_neg h]
theorem szIntA3S_eq (l : List (Int × Int × Int)) (m : Int) (h0 : 0 ≤ m) (hm : m ≤ 1048576) (hl : l.length ≤ maxLen) : laws_szIntA3S.f k l m = some (szo m l.length) := by
 unfold laws_szIntA3S.f szo
 rw [maxLen_eq] at hl
 rw [w64_id (by omega) (by omega)]
 by_cases h : (l.length : Int) ≤ m
 ·rw [if_neg (by simp; omega), if_pos h]
 ·rw [if_pos (by simp; omega), if_neg h]
theorem szo_add (m : Int) (a b : Nat) : (if decide (szo m a < 0) = true then some (-1) else (some (szo (szo m a) b)).bind fun t => if decide (t < 0) = true then some (-1) else some t) = some (szo m (a + b)) := by
 unfold szo
 by_cases h : (a : Int) ≤ m
 ·have h1 : ¬ (m - (a : Int) < 0) := by omega
  by_cases h2 : (b : Int) ≤ m - a
  ·have h3 : ¬ (m - (a : Int) - b < 0) := by omega
   have h4 : ((a + b : Nat) : Int) ≤ m := by omega
   simp only [h, h1, h2, h3, h4, if_true, decide_false, Bool.false_eq_true, if_false, Option.bind_some]; congr 1; omega
  ·have h4 : ¬ ((a + b : Nat) : Int) ≤ m := by omega
   simp only [h, h1, h2, h4, if_true, decide_false, Bool.false_eq_true, if_false, Option.bind_some]; simp
 ·have h4 : ¬ ((a + b : Nat) : Int) ≤ m := by omega
  simp only [h, h4, if_false]; simp
theorem szo_range {m : Int} {n : Nat} (h0 : 0 ≤ m) (hm : m ≤ 1048576) : -1 ≤ szo m n ∧ szo m n ≤ 1048576 := by unfold szo; split <;> omega
theorem szMaze_eq (n : Int) (d : List (Int × Int × Int)) (ks : List Int) (m : Int) (h0 : 0 ≤ m) (hm : m ≤ 1048576) (hd : d.length ≤ maxLen) (hl : ks.length ≤ maxLen) :
  laws_szMaze.f k n d ks m = some (szo m (d.length + ks.length)) := by
 unfold laws_szMaze.f
 rw [szIntA3S_eq d m h0 hm hd, Option.bind_some, ← szo_add]
 by_cases h : szo m d.length < 0
 ·simp [h]
 ·rw [szIntS_eq ks _ (by omega) (szo_range h0 hm).2 hl]
theorem toIntS_eq (hk : Big ≤ k) (l : List Int) (hl : l.length ≤ 1048576) : laws_toIntS.f k l = some l := by
 unfold laws_toIntS.f
 rw [if_pos (by omega)]
 rw [loop_copy (l := laws_toIntS.l0 k l) (a := l) (fun n i s hi hs => by
  rw [laws_toIntS.l0]
  have h1 : ((i : Int) < (l.length : Int)) := by omega
  have hw : w64 ((i : Int) + 1) = ((i + 1 : Nat) : Int) := w64_id (by omega) (by omega)
  simp only [h1, decide_true, if_true, rdl_lt hi, rdl_lt (hs ▸ hi), Option.bind_some, hw, Int.toNat_natCast])
  (fun n s => by rw [laws_toIntS.l0]; simp) (by unfold Big at hk; omega) (by simp)]
 rfl
theorem toIntA3_eq (hk : Big ≤ k) (a b c : Int) : laws_toIntA3.f k a b c = some (a, b, c) := by
 obtain ⟨n, rfl⟩ := big_split hk
 unfold laws_toIntA3.f
 simp [laws_toIntA3.l0, w64_1, w64_2, w64_3, rdl3_0, rdl3_1, rdl3_2]
theorem toIntA3S_eq (hk : Big ≤ k) (l : List (Int × Int × Int)) (hl : l.length ≤ 1048576) : laws_toIntA3S.f k l = some l := by
 unfold laws_toIntA3S.f
 rw [if_pos (by omega)]
 rw [loop_copy (l := laws_toIntA3S.l0 k l) (a := l) (fun n i s hi hs => by
  rw [laws_toIntA3S.l0]
  have h1 : ((i : Int) < (l.length : Int)) := by omega
  have hw : w64 ((i : Int) + 1) = ((i + 1 : Nat) : Int) := w64_id (by omega) (by omega)
  simp only [h1, decide_true, if_true, rdl_lt hi, rdl_lt (hs ▸ hi), Option.bind_some, hw, Int.toNat_natCast, toIntA3_eq hk])
  (fun n s => by rw [laws_toIntA3S.l0]; simp) (by unfold Big at hk; omega) (by simp)]
 rfl
theorem toMaze_eq (hk : Big ≤ k) (n : Int) (d : List (Int × Int × Int)) (ks : List Int) (hd : d.length ≤ 1048576) (hl : ks.length ≤ 1048576) : laws_toMaze.f k n d ks = some (n, d, ks) := by
 unfold laws_toMaze.f
 rw [toIntA3S_eq hk d hd, Option.bind_some, toIntS_eq hk ks hl, Option.bind_some]
theorem eqIntS_eq (hk : Big ≤ k) (a b : List Int) (hl : a.length ≤ 1048576) : laws_eqIntS.f k a b = some (decide (a = b)) := by
 unfold laws_eqIntS.f
 by_cases h : a.length = b.length
 ·rw [if_neg (by simp; omega), loop_eq (l := laws_eqIntS.l0 k a b) h (fun n i hi => by
   rw [laws_eqIntS.l0]
   have h1 : ((i : Int) < (a.length : Int)) := by omega
   have hw : w64 ((i : Int) + 1) = ((i + 1 : Nat) : Int) := w64_id (by omega) (by omega)
   simp only [h1, decide_true, if_true, rdl_lt hi, rdl_lt (h ▸ hi), Option.bind_some, hw]
   by_cases h2 : a[i] = b[i] <;> simp [h2]) (fun n => by rw [laws_eqIntS.l0]; simp) (by unfold Big at hk; omega), Option.bind_some, Lr_ite]
  by_cases h2 : a = b <;> simp [h2]
 ·rw [if_pos (by simp; omega)]
  have : a ≠ b := fun e => h (by rw [e])
  simp [this]
theorem eqIntA3_eq (hk : Big ≤ k) (a b c a' b' c' : Int) : laws_eqIntA3.f k a b c a' b' c' = some (decide ((a, b, c) = (a', b', c'))) := by
 obtain ⟨n, rfl⟩ := big_split hk
 unfold laws_eqIntA3.f
 by_cases h1 : a = a' <;> by_cases h2 : b = b' <;> by_cases h3 : c = c' <;>
  simp [laws_eqIntA3.l0, w64_1, w64_2, w64_3, rdl3_0, rdl3_1, rdl3_2, h1, h2, h3, Lr]
theorem eqIntA3S_eq (hk : Big ≤ k) (a b : List (Int × Int × Int)) (hl : a.length ≤ 1048576) : laws_eqIntA3S.f k a b = some (decide (a = b)) := by
 unfold laws_eqIntA3S.f
 by_cases h : a.length = b.length
 ·rw [if_neg (by simp; omega), loop_eq (l := laws_eqIntA3S.l0 k a b) h (fun n i hi => by
   rw [laws_eqIntA3S.l0]
   have h1 : ((i : Int) < (a.length : Int)) := by omega
   have hw : w64 ((i : Int) + 1) = ((i + 1 : Nat) : Int) := w64_id (by omega) (by omega)
   simp only [h1, decide_true, if_true, rdl_lt hi, rdl_lt (h ▸ hi), Option.bind_some, hw, eqIntA3_eq hk]
   by_cases h2 : a[i] = b[i] <;> simp [h2]) (fun n => by rw [laws_eqIntA3S.l0]; simp) (by unfold Big at hk; omega), Option.bind_some, Lr_ite]
  by_cases h2 : a = b <;> simp [h2]
 ·rw [if_pos (by simp; omega)]
  have : a ≠ b := fun e => h (by rw [e])
  simp [this]
theorem eqMaze_eq (hk : Big ≤ k) (n n' : Int) (d d' : List (Int × Int × Int)) (ks ks' : List Int) (hd : d.length ≤ 1048576) (hl : ks.length ≤ 1048576) :
  laws_eqMaze.f k n d ks n' d' ks' = some (decide ((n, d, ks) = (n', d', ks'))) := by
 unfold laws_eqMaze.f
 rw [eqIntA3S_eq hk d d' hd, eqIntS_eq hk ks ks' hl]
 by_cases h1 : n = n' <;> by_cases h2 : d = d' <;> by_cases h3 : ks = ks' <;> simp [h1, h2, h3]
end
end Go.Proofs

namespace Go.Proofs
open Go Go.Ga Go.Ga.Wf
set_option linter.unusedVariables false
set_option linter.unusedSimpArgs false
abbrev Door := Int × Int × Int
def DoorOk (n : Int) (x : Door) : Prop := 0 ≤ x.1 ∧ x.1 < x.2.1 ∧ x.2.1 < n ∧ 0 ≤ x.2.2 ∧ x.2.2 ≤ 63
def DoorLt (a b : Door) : Prop := a.1 < b.1 ∨ (a.1 = b.1 ∧ (a.2.1 < b.2.1 ∨ (a.2.1 = b.2.1 ∧ a.2.2 < b.2.2)))
instance (n : Int) (x : Door) : Decidable (DoorOk n x) := by unfold DoorOk; infer_instance
instance (a b : Door) : Decidable (DoorLt a b) := by unfold DoorLt; infer_instance
def doorB (n : Int) (d : List Door) (i : Nat) : Bool := if h : i < d.length then decide (DoorOk n d[i]) && (decide (i = 0) || decide (DoorLt d[i - 1] d[i])) else true
def setB (ks : List Int) (i : Nat) : Bool := if h : i < ks.length then decide (0 ≤ ks[i] ∧ ks[i] ≤ 63) else true
def IsMaze (n : Int) (d : List Door) (ks : List Int) : Prop :=
 1 ≤ n ∧ n ≤ 12 ∧ d.length ≤ 30 ∧ (ks.length : Int) = n ∧ (∀ i, i < d.length → doorB n d i = true) ∧ ∀ i, i < ks.length → setB ks i = true
instance (n : Int) (d : List Door) (ks : List Int) : Decidable (IsMaze n d ks) := by unfold IsMaze; infer_instance
section
variable {k : Nat}
def cmpI (x y : Int) : Int := if x < y then -1 else if x > y then 1 else 0
theorem compare_eq (x y : Int) : cmp_Compare_int.f k x y = some (cmpI x y) := by
 unfold cmp_Compare_int.f cmp_isNaN_int.f cmpI
 simp only [bne_self_eq_false, Option.bind_some, Bool.false_eq_true, if_false, decide_eq_true_eq]
 repeat' split
 all_goals rfl
theorem or3_eq (hk : Big ≤ k) (x y z : Int) : cmp_Or_int.f k [x, y, z] = some (if x ≠ 0 then x else if y ≠ 0 then y else z) := by
 obtain ⟨n, rfl⟩ := big_split hk
 unfold cmp_Or_int.f
 by_cases h1 : x = 0 <;> by_cases h2 : y = 0 <;> by_cases h3 : z = 0 <;>
  simp [cmp_Or_int.l0, w64_1, w64_2, w64_3, rdl3_0, rdl3_1, rdl3_2, h1, h2, h3, Lr]
theorem compareDoors_eq (hk : Big ≤ k) (x y : Door) : ∃ c, impl_compareDoors.f k x.1 x.2.1 x.2.2 y.1 y.2.1 y.2.2 = some c ∧ (c ≥ 0 ↔ ¬ DoorLt x y) ∧ (c = 0 ↔ x = y) := by
 unfold impl_compareDoors.f
 refine ⟨_, by simp only [compare_eq, Option.bind_some, or3_eq hk]; rfl, ?_, ?_⟩
 ·unfold DoorLt cmpI
  repeat' split
  all_goals omega
 ·obtain ⟨a, b, c⟩ := x; obtain ⟨a', b', c'⟩ := y
  simp only [Prod.mk.injEq]
  unfold cmpI
  repeat' split
  all_goals omega
theorem before_eq (hk : Big ≤ k) (x y : Door) : spec_l2Before.f k x.1 x.2.1 x.2.2 y.1 y.2.1 y.2.2 = some (decide (DoorLt x y)) := by
 obtain ⟨n, rfl⟩ := big_split hk
 obtain ⟨a, b, c⟩ := x; obtain ⟨a', b', c'⟩ := y
 unfold spec_l2Before.f DoorLt
 by_cases h1 : a = a' <;> by_cases h2 : b = b' <;> by_cases h3 : c = c' <;>
  simp [spec_l2Before.l0, w64_1, w64_2, w64_3, rdl3_0, rdl3_1, rdl3_2, h1, h2, h3, Lr]
theorem isSet_eq (x : Int) : impl_isSet.f k x = some (decide (0 ≤ x ∧ x ≤ 63)) := by unfold impl_isSet.f; rw [within_eq]; rfl
theorem l2Set_eq (x : Int) : spec_l2Set.f k x = some (decide (0 ≤ x ∧ x ≤ 63)) := by unfold spec_l2Set.f; rw [in_eq]; rfl
theorem containsFunc_eq (hk : Big ≤ k) (l : List Int) (hl : l.length ≤ 1048576) (p : Int → Option Bool) (q : Int → Bool) (hp : ∀ x ∈ l, p x = some (q x)) :
    slices_ContainsFunc_int_int.f k l p = some (l.any q) := by
  unfold slices_ContainsFunc_int_int.f slices_IndexFunc_int_int.f
  have := loop_find (l := slices_IndexFunc_int_int.l0 k l p) (N := l.length) (fun i => if h : i < l.length then (if q l[i] = true then some (i : Int) else none) else none) (z := .inl ()) (fun n i hi => by
    rw [slices_IndexFunc_int_int.l0]
    have h1 : ((i : Int) < (l.length : Int)) := by omega
    have hw : w64 ((i : Int) + 1) = ((i + 1 : Nat) : Int) := w64_id (by omega) (by omega)
    simp only [h1, decide_true, if_true, rdl_lt hi, Option.bind_some, hw, hp _ (List.getElem_mem hi), hi, dite_true]
    cases q l[i] <;> simp) (fun n => by rw [slices_IndexFunc_int_int.l0]; simp) (k := k) (by unfold Big at hk; omega)
  rw [this, Option.bind_some]
  cases hf : (List.range l.length).findSome? (fun i => if h : i < l.length then (if q l[i] = true then some (i : Int) else none) else none) with
  | none =>
    simp only [Lr, Option.bind_some]
    rw [List.findSome?_eq_none_iff] at hf
    have : l.any q = false := by
      rw [List.any_eq_false]
      intro x hx
      obtain ⟨i, hi, rfl⟩ := List.getElem_of_mem hx
      have := hf i (List.mem_range.2 hi)
      simpa [hi] using this
    simp [this]
  | some r =>
    simp only [Lr, Option.bind_some]
    obtain ⟨i, hi, h⟩ := List.exists_of_findSome?_eq_some hf
    have hi' := List.mem_range.1 hi
    simp only [hi', dite_true] at h
    split at h
    · rename_i h1; cases h
      have : l.any q = true := List.any_eq_true.2 ⟨_, List.getElem_mem hi', h1⟩
      simp [this]
    · cases h
theorem IsMaze_eq (hk : Big ≤ k) (n : Int) (d : List Door) (ks : List Int) (hd : d.length ≤ 1048576) (hl : ks.length ≤ 1048576) : impl_IsMaze.f k n d ks = some (decide (IsMaze n d ks)) := by
  unfold impl_IsMaze.f
  have hloop := loop_all (l := impl_IsMaze.l0 k n d) (N := d.length) (doorB n d) (z := false) (fun m i hi => by
    rw [impl_IsMaze.l0]
    have h1 : ((i : Int) < (d.length : Int)) := by omega
    have hw : w64 ((i : Int) + 1) = ((i + 1 : Nat) : Int) := w64_id (by omega) (by omega)
    simp only [h1, decide_true, if_true, rdl_lt hi, Option.bind_some, hw, isSet_eq]
    unfold doorB DoorOk
    rw [dif_pos hi]
    by_cases c1 : d[i].1 < 0
    · simp [c1, show ¬ (0 ≤ d[i].1) by omega]
    by_cases c2 : d[i].1 ≥ d[i].2.1
    · simp [c1, c2, show ¬ (d[i].1 < d[i].2.1) by omega]
    by_cases c3 : d[i].2.1 ≥ n
    · simp [c1, c2, c3, show ¬ (d[i].2.1 < n) by omega]
    by_cases c4 : 0 ≤ d[i].2.2 ∧ d[i].2.2 ≤ 63
    · have c : (0 ≤ d[i].1 ∧ d[i].1 < d[i].2.1 ∧ d[i].2.1 < n ∧ 0 ≤ d[i].2.2 ∧ d[i].2.2 ≤ 63) := ⟨by omega, by omega, by omega, c4⟩
      rcases Nat.eq_zero_or_pos i with rfl | hp
      · simp [c1, c2, c3, c4, c]
      · have e1 : w64 ((i : Int) - 1) = ((i - 1 : Nat) : Int) := by rw [w64_id (by omega) (by omega)]; omega
        have hi1 : i - 1 < d.length := by omega
        obtain ⟨cc, hc1, hc2, _⟩ := compareDoors_eq hk d[i - 1] d[i]
        have hp' : (i : Int) > 0 := by omega
        have hne : ¬ i = 0 := by omega
        simp only [c1, c2, c3, c4, decide_false, Bool.false_eq_true, if_false, decide_true, Bool.not_true, hp', if_true, e1, rdl_lt hi1, Option.bind_some, hc1, c, hne, Bool.true_and, Bool.false_or, and_self]
        by_cases hlt : DoorLt d[i - 1] d[i]
        · have : ¬ cc ≥ 0 := fun h => hc2.1 h hlt
          simp [hlt, this]
        · have : cc ≥ 0 := hc2.2 hlt
          simp [hlt, this]
    · simp [c1, c2, c3, c4, show ¬ (0 ≤ d[i].1 ∧ d[i].1 < d[i].2.1 ∧ d[i].2.1 < n ∧ 0 ≤ d[i].2.2 ∧ d[i].2.2 ≤ 63) from fun h => c4 h.2.2.2])
    (fun m => by rw [impl_IsMaze.l0]; simp) (k := k) (by unfold Big at hk; omega)
  rw [hloop, containsFunc_eq hk ks hl _ (fun x => !decide (0 ≤ x ∧ x ≤ 63)) (fun x _ => by simp [impl_IsMaze_1.f, isSet_eq]), within_eq]
  have hset : (∀ i, i < ks.length → setB ks i = true) ↔ ks.any (fun x => !decide (0 ≤ x ∧ x ≤ 63)) = false := by
    rw [List.any_eq_false]
    constructor
    · intro H x hx
      obtain ⟨i, hi, rfl⟩ := List.getElem_of_mem hx
      have := H i hi; simpa [setB, hi] using this
    · intro H i hi
      have := H _ (List.getElem_mem hi); simpa [setB, hi] using this
  simp only [Option.bind_some, Lr_ite]
  by_cases c1 : 1 ≤ n ∧ n ≤ 12
  rotate_left 1
  · have : ¬ IsMaze n d ks := fun h => c1 ⟨h.1, h.2.1⟩
    simp [c1, this]
  by_cases c2 : (d.length : Int) > 30
  · have : ¬ IsMaze n d ks := fun h => by have := h.2.2.1; omega
    simp [c1, c2, this]
  by_cases c3 : (ks.length : Int) = n
  rotate_left 1
  · have : ¬ IsMaze n d ks := fun h => c3 h.2.2.2.1
    simp [c1, c2, c3, this]
  by_cases c4 : ∀ i, i < d.length → doorB n d i = true
  rotate_left 1
  · have : ¬ IsMaze n d ks := fun h => c4 h.2.2.2.2.1
    simp only [c1, c2, c3, c4, this, decide_true, Bool.not_true, Bool.false_eq_true, if_false, decide_false, bne_self_eq_false, Option.bind_some, and_self]
  cases c5 : ks.any (fun x => !decide (0 ≤ x ∧ x ≤ 63)) with
  | true =>
    have : ¬ IsMaze n d ks := fun h => by have := hset.1 h.2.2.2.2.2; rw [c5] at this; cases this
    simp only [c1, c2, c3, c4, this, decide_true, Bool.not_true, Bool.false_eq_true, if_false, decide_false, bne_self_eq_false, Option.bind_some, and_self, if_true]
    simp
  | false =>
    have : IsMaze n d ks := ⟨c1.1, c1.2, by omega, c3, c4, hset.2 c5⟩
    simp only [c1, c2, c3, c4, this, decide_true, Bool.not_true, Bool.false_eq_true, if_false, decide_false, bne_self_eq_false, Option.bind_some, and_self, if_true]
    simp; exact c4
theorem l2Maze_eq (hk : Big ≤ k) (n : Int) (d : List Door) (ks : List Int) (hd : d.length ≤ 1048576) (hl : ks.length ≤ 1048576) : spec_l2Maze.f k n d ks = some (decide (IsMaze n d ks)) := by
 unfold spec_l2Maze.f
 rw [in_eq]
 by_cases c1 : 1 ≤ n ∧ n ≤ 12
 rotate_left 1
 ·have : ¬ IsMaze n d ks := fun h => c1 ⟨h.1, h.2.1⟩
  simp [c1, this]
 by_cases c2 : (d.length : Int) > 30
 ·have : ¬ IsMaze n d ks := fun h => by have := h.2.2.1; omega
  simp [c1, c2, this]
 by_cases c3 : (ks.length : Int) = n
 rotate_left 1
 ·have : ¬ IsMaze n d ks := fun h => c3 h.2.2.2.1
  simp [c1, c2, c3, this]
 have e0 : w64 (n - 1) = n - 1 := w64_id (by omega) (by omega)
 have hloop := loop_all (l := spec_l2Maze.l0 k n d) (N := d.length) (doorB n d) (z := false) (fun m i hi => by
  rw [spec_l2Maze.l0]
  have h1 : ((i : Int) < (d.length : Int)) := by omega
  have hw : w64 ((i : Int) + 1) = ((i + 1 : Nat) : Int) := w64_id (by omega) (by omega)
  simp only [h1, decide_true, if_true, rdl_lt hi, Option.bind_some, hw, l2Set_eq, in_eq, e0]
  unfold doorB DoorOk
  rw [dif_pos hi]
  by_cases b1 : 0 ≤ d[i].1 ∧ d[i].1 ≤ n - 1
  rotate_left 1
  ·have nn : ¬ (0 ≤ d[i].1 ∧ d[i].1 < d[i].2.1 ∧ d[i].2.1 < n ∧ 0 ≤ d[i].2.2 ∧ d[i].2.2 ≤ 63) := fun h => b1 ⟨h.1, by omega⟩
   rw [decide_eq_false nn]
   simp only [b1, decide_true, decide_false, Bool.not_true, Bool.not_false, Bool.false_eq_true, if_false, if_true, Bool.false_and, and_self, Option.bind_some]
  have e1 : w64 (d[i].1 + 1) = d[i].1 + 1 := w64_id (by omega) (by omega)
  rw [e1]
  by_cases b2 : d[i].1 + 1 ≤ d[i].2.1 ∧ d[i].2.1 ≤ n - 1
  rotate_left 1
  ·have nn : ¬ (0 ≤ d[i].1 ∧ d[i].1 < d[i].2.1 ∧ d[i].2.1 < n ∧ 0 ≤ d[i].2.2 ∧ d[i].2.2 ≤ 63) := fun h => b2 ⟨by omega, by omega⟩
   rw [decide_eq_false nn]
   simp only [b1, b2, decide_true, decide_false, Bool.not_true, Bool.not_false, Bool.false_eq_true, if_false, if_true, Bool.false_and, and_self, Option.bind_some]
  by_cases b3 : 0 ≤ d[i].2.2 ∧ d[i].2.2 ≤ 63
  rotate_left 1
  ·have nn : ¬ (0 ≤ d[i].1 ∧ d[i].1 < d[i].2.1 ∧ d[i].2.1 < n ∧ 0 ≤ d[i].2.2 ∧ d[i].2.2 ≤ 63) := fun h => b3 h.2.2.2
   rw [decide_eq_false nn]
   simp only [b1, b2, b3, decide_true, decide_false, Bool.not_true, Bool.not_false, Bool.false_eq_true, if_false, if_true, Bool.false_and, and_self, Option.bind_some]
  have c : (0 ≤ d[i].1 ∧ d[i].1 < d[i].2.1 ∧ d[i].2.1 < n ∧ 0 ≤ d[i].2.2 ∧ d[i].2.2 ≤ 63) := ⟨by omega, by omega, by omega, b3⟩
  rcases Nat.eq_zero_or_pos i with rfl | hp
  ·simp [b1, b2, b3, c]
  ·have e2 : w64 ((i : Int) - 1) = ((i - 1 : Nat) : Int) := by rw [w64_id (by omega) (by omega)]; omega
   have hi1 : i - 1 < d.length := by omega
   have hp' : (i : Int) > 0 := by omega
   have hne : ¬ i = 0 := by omega
   simp only [b1, b2, b3, decide_false, Bool.false_eq_true, if_false, decide_true, Bool.not_true, hp', if_true, e2, rdl_lt hi1, Option.bind_some, before_eq hk, c, hne, Bool.true_and, Bool.false_or, and_self]
   by_cases hlt : DoorLt d[i - 1] d[i] <;> simp [hlt])
  (fun m => by rw [spec_l2Maze.l0]; simp) (k := k) (by unfold Big at hk; omega)
 have hn : (ks.length : Int) = n := c3
 have hloop2 := loop_all (l := spec_l2Maze.l1 k n ks) (N := ks.length) (setB ks) (z := false) (fun m i hi => by
  rw [spec_l2Maze.l1]
  have h1 : ((i : Int) < n) := by omega
  have hw : w64 ((i : Int) + 1) = ((i + 1 : Nat) : Int) := w64_id (by omega) (by omega)
  simp only [h1, decide_true, if_true, rdl_lt hi, Option.bind_some, hw, l2Set_eq, setB, hi, dite_true]
  by_cases hs : 0 ≤ ks[i] ∧ ks[i] ≤ 63 <;> simp [hs])
  (fun m => by rw [spec_l2Maze.l1]; simp [hn]) (k := k) (by unfold Big at hk; omega)
 rw [hloop, hloop2]
 simp only [Option.bind_some, Lr_ite]
 by_cases c4 : ∀ i, i < d.length → doorB n d i = true
 rotate_left 1
 ·have : ¬ IsMaze n d ks := fun h => c4 h.2.2.2.2.1
  simp only [c1, c2, c3, c4, this, decide_true, Bool.not_true, Bool.false_eq_true, if_false, decide_false, bne_self_eq_false, Option.bind_some, and_self]
 by_cases c5 : ∀ i, i < ks.length → setB ks i = true
 ·have : IsMaze n d ks := ⟨c1.1, c1.2, by omega, c3, c4, c5⟩
  simp only [c1, c2, c3, this, decide_true, Bool.not_true, Bool.false_eq_true, if_false, decide_false, bne_self_eq_false, Option.bind_some, and_self, if_true]
  rw [if_pos c4, if_pos c5]
 ·have : ¬ IsMaze n d ks := fun h => c5 h.2.2.2.2.2
  simp only [c1, c2, c3, this, decide_true, Bool.not_true, Bool.false_eq_true, if_false, decide_false, bne_self_eq_false, Option.bind_some, and_self, if_true]
  rw [if_pos c4, if_neg c5]
end

section
variable {k : Nat}
def risingB (lo hi : Int) (l : List Int) (i : Nat) : Bool := if h : i < l.length then decide (lo ≤ l[i] ∧ l[i] ≤ hi) && (decide (i = 0) || decide (l[i - 1] < l[i])) else true
theorem rising_eq (hk : Big ≤ k) (l : List Int) (lo hi : Int) (hl : l.length ≤ 1048576) : spec_l1Rising.f k l lo hi = some (decide (∀ i, i < l.length → risingB lo hi l i = true)) := by
 unfold spec_l1Rising.f
 rw [loop_all (l := spec_l1Rising.l0 k l lo hi) (N := l.length) (risingB lo hi l) (z := false) (fun m i hi' => by
  rw [spec_l1Rising.l0]
  have h1 : ((i : Int) < (l.length : Int)) := by omega
  have hw : w64 ((i : Int) + 1) = ((i + 1 : Nat) : Int) := w64_id (by omega) (by omega)
  simp only [h1, decide_true, if_true, rdl_lt hi', Option.bind_some, hw, in_eq]
  unfold risingB
  rw [dif_pos hi']
  by_cases c : lo ≤ l[i] ∧ l[i] ≤ hi
  rotate_left 1
  ·simp [c]
  rcases Nat.eq_zero_or_pos i with rfl | hp
  ·simp [c]
  ·have e1 : w64 ((i : Int) - 1) = ((i - 1 : Nat) : Int) := by rw [w64_id (by omega) (by omega)]; omega
   have hi1 : i - 1 < l.length := by omega
   have hp' : (i : Int) > 0 := by omega
   have hne : ¬ i = 0 := by omega
   simp only [c, decide_true, Bool.not_true, Bool.false_eq_true, if_false, hp', if_true, e1, rdl_lt hi1, Option.bind_some, hne, decide_false, Bool.true_and, Bool.false_or, and_self]
   by_cases hlt : l[i - 1] < l[i]
   ·simp [hlt, show ¬ (l[i - 1] ≥ l[i]) by omega]
   ·simp [hlt, show (l[i - 1] ≥ l[i]) by omega])
  (fun m => by rw [spec_l1Rising.l0]; simp) (by unfold Big at hk; omega), Option.bind_some, Lr_ite]
 split <;> rename_i h <;> simp [h]
 exact h
def IsTrapP (n : Int) (d : List Door) (ks tr : List Int) : Prop := IsMaze n d ks ∧ ∀ i, i < tr.length → risingB 0 ((d.length : Int) - 1) tr i = true
instance (n : Int) (d : List Door) (ks tr : List Int) : Decidable (IsTrapP n d ks tr) := by unfold IsTrapP; infer_instance
theorem l11Trap_eq (hk : Big ≤ k) (n : Int) (d : List Door) (ks tr : List Int) (hd : d.length ≤ 1048576) (hl : ks.length ≤ 1048576) (ht : tr.length ≤ 1048576) : spec_l11Trap.f k n d ks tr = some (decide (IsTrapP n d ks tr)) := by
 unfold spec_l11Trap.f
 have e : w64 ((d.length : Int) - 1) = (d.length : Int) - 1 := w64_id (by omega) (by omega)
 rw [l2Maze_eq hk n d ks hd hl, e, rising_eq hk _ _ _ ht]
 by_cases c1 : IsMaze n d ks
 ·by_cases c2 : ∀ i, i < tr.length → risingB 0 ((d.length : Int) - 1) tr i = true
  ·have : IsTrapP n d ks tr := ⟨c1, c2⟩
   rw [decide_eq_true c1, decide_eq_true c2, decide_eq_true this]; rfl
  ·have : ¬ IsTrapP n d ks tr := fun h => c2 h.2
   rw [decide_eq_true c1, decide_eq_false c2, decide_eq_false this]; rfl
 ·have : ¬ IsTrapP n d ks tr := fun h => c1 h.1
  rw [decide_eq_false c1, decide_eq_false this]; rfl
theorem IsTrap_eq (hk : Big ≤ k) (n : Int) (d : List Door) (ks tr : List Int) (hd : d.length ≤ 1048576) (hl : ks.length ≤ 1048576) (ht : tr.length ≤ 1048576) : impl_IsTrap.f k n d ks tr = some (decide (IsTrapP n d ks tr)) := by
 unfold impl_IsTrap.f
 have e : w64 ((d.length : Int) - 1) = (d.length : Int) - 1 := w64_id (by omega) (by omega)
 rw [IsMaze_eq hk n d ks hd hl]
 rw [loop_all (l := impl_IsTrap.l0 k d tr) (N := tr.length) (risingB 0 ((d.length : Int) - 1) tr) (z := false) (fun m i hi' => by
  rw [impl_IsTrap.l0]
  have h1 : ((i : Int) < (tr.length : Int)) := by omega
  have hw : w64 ((i : Int) + 1) = ((i + 1 : Nat) : Int) := w64_id (by omega) (by omega)
  simp only [h1, decide_true, if_true, rdl_lt hi', Option.bind_some, hw, within_eq, e]
  unfold risingB
  rw [dif_pos hi']
  by_cases c : 0 ≤ tr[i] ∧ tr[i] ≤ (d.length : Int) - 1
  rotate_left 1
  ·simp [c]
  rcases Nat.eq_zero_or_pos i with rfl | hp
  ·simp [c]
  ·have e1 : w64 ((i : Int) - 1) = ((i - 1 : Nat) : Int) := by rw [w64_id (by omega) (by omega)]; omega
   have hi1 : i - 1 < tr.length := by omega
   have hp' : (i : Int) > 0 := by omega
   have hne : ¬ i = 0 := by omega
   simp only [c, decide_true, Bool.not_true, Bool.false_eq_true, if_false, hp', if_true, e1, rdl_lt hi1, Option.bind_some, hne, decide_false, Bool.true_and, Bool.false_or, and_self]
   by_cases hlt : tr[i - 1] < tr[i]
   ·simp [hlt, show ¬ (tr[i] ≤ tr[i - 1]) by omega]
   ·simp [hlt, show (tr[i] ≤ tr[i - 1]) by omega])
  (fun m => by rw [impl_IsTrap.l0]; simp) (by unfold Big at hk; omega), Option.bind_some, Option.bind_some, Lr_ite]
 by_cases c1 : IsMaze n d ks
 ·by_cases c2 : ∀ i, i < tr.length → risingB 0 ((d.length : Int) - 1) tr i = true
  ·have : IsTrapP n d ks tr := ⟨c1, c2⟩
   rw [decide_eq_true c1, if_pos c2, decide_eq_true this]; rfl
  ·have : ¬ IsTrapP n d ks tr := fun h => c2 h.2
   rw [decide_eq_true c1, if_neg c2, decide_eq_false this]; rfl
 ·have : ¬ IsTrapP n d ks tr := fun h => c1 h.1
  rw [decide_eq_false c1, decide_eq_false this]; rfl
end

section
variable {k : Nat}
theorem IsMaze.keys {n : Int} {d : List Door} {ks : List Int} (h : IsMaze n d ks) : ∀ x ∈ ks, 0 ≤ x ∧ x ≤ 63 := by
 intro x hx
 obtain ⟨i, hi, rfl⟩ := List.getElem_of_mem hx
 have h1 := h.2.2.2.2.2 i hi
 simpa [setB, hi] using h1
def goes (a b h : Int) (x : Door) : Bool := ((decide (x.1 = a) && decide (x.2.1 = b)) || (decide (x.2.1 = a) && decide (x.1 = b))) && subB x.2.2.toNat h.toNat
end

section
variable {k : Nat}
def badT (n : Int) (d : List Door) (l : List Int) (i : Nat) (h : Int) : Bool :=
 if hi : i < l.length then !decide (0 ≤ l[i] ∧ l[i] ≤ n - 1) || (decide (i = 0) && decide (l[i] ≠ 0)) || (decide (0 < i) && !d.any (goes l[i - 1] l[i] h)) else true
def takeG (n : Int) (d : List Door) (ks l : List Int) (i : Nat) (s : List Int × Int) : (List Int × Int) ⊕ (List Int × Bool) :=
 if badT n d l i s.2 = true then .inr ([], false) else .inl (s.1 ++ [bor s.2 (ks.getD (l.getD i 0).toNat 0)], bor s.2 (ks.getD (l.getD i 0).toNat 0))
def takenP (n : Int) (d : List Door) (ks l : List Int) : List Int × Bool :=
  match itx (takeG n d ks l) l.length 0 ([], 0) with
  | .inl s => (s.1, decide (0 < l.length))
  | .inr _ => ([], false)
theorem szo_pos {a : Nat} (h : (a : Int) ≤ 1048576) : decide (szo 1048576 a < 0) = false := by unfold szo; rw [if_pos h]; simp; omega
theorem szo_neg {a : Nat} (h : ¬ (a : Int) ≤ 1048576) : decide (szo 1048576 a < 0) = true := by unfold szo; rw [if_neg h]; rfl
end

section
variable {k : Nat}
def ups (m : Int) (n : Nat) : List Int := (List.range n).map fun i => m + (i : Nat)
def ups3 (m : Int) (n : Nat) : List Door := (List.range n).map fun i => (m + 3 * (i : Nat), m + 3 * (i : Nat) + 1, m + 3 * (i : Nat) + 2)
theorem ups_length (m : Int) (n : Nat) : (ups m n).length = n := by simp [ups]
theorem ups3_length (m : Int) (n : Nat) : (ups3 m n).length = n := by simp [ups3]
theorem ups_get {m : Int} {n i : Nat} (h : i < n) : (ups m n)[i]'(by rw [ups_length]; exact h) = m + i := by simp [ups]
theorem markIntS_eq (hk : Big ≤ k) (l : List Int) (m : Int) (h0 : 0 ≤ m) (hm : m ≤ 1073741824) (hl : l.length ≤ 1048576) : laws_markIntS.f k l m = some (m + l.length, ups m l.length) := by
 unfold laws_markIntS.f
 have := loop_state (l := fun n (s : List Int × Int) i => laws_markIntS.l0 k n s.1 s.2 i) (N := l.length) (g := fun i s => (s.1.set i s.2, s.2 + 1)) (out := fun s => some (s.2, s.1))
  (fun i s => s.2 = m + i ∧ s.1.length = l.length ∧ ∀ j, j < i → s.1[j]? = some (m + (j : Nat))) (fun n i s hi hI => by
   obtain ⟨h1, h2, h3⟩ := hI
   have e1 : ((i : Int) < (s.1.length : Int)) := by omega
   have hw : w64 ((i : Int) + 1) = ((i + 1 : Nat) : Int) := w64_id (by omega) (by omega)
   have hw2 : w64 (s.2 + 1) = s.2 + 1 := w64_id (by omega) (by omega)
   refine ⟨?_, ?_, ?_, ?_⟩
   ·show laws_markIntS.l0 k (n + 1) s.1 s.2 (i : Int) = _
    rw [laws_markIntS.l0]
    simp only [e1, decide_true, if_true, rdl_lt (show i < s.1.length by omega), Option.bind_some, hw, hw2, Int.toNat_natCast]
   ·show s.2 + 1 = _; rw [h1]; omega
   ·simpa using h2
   ·intro j hj
    show (s.1.set i s.2)[j]? = _
    rcases Nat.eq_or_lt_of_le (Nat.le_of_lt_succ hj) with rfl | h
    ·rw [List.getElem?_set_self (by omega), h1]
    ·rw [List.getElem?_set_ne (by omega)]; exact h3 j h)
  (fun n s hI => by
   show laws_markIntS.l0 k (n + 1) s.1 s.2 (l.length : Int) = _
   rw [laws_markIntS.l0, hI.2.1]; simp) (k := k) (by unfold Big at hk; omega) (s := (l, m)) ⟨by simp, rfl, fun j hj => by omega⟩
 obtain ⟨h1, h2, h3, h4⟩ := this
 simp only at h1
 rw [h1, Option.bind_some]
 have e : (itr (fun i (s : List Int × Int) => (s.1.set i s.2, s.2 + 1)) l.length 0 (l, m)).1 = ups m l.length := by
  refine List.ext_getElem? fun j => ?_
  rcases Nat.lt_or_ge j l.length with h | h
  ·rw [h4 j h, List.getElem?_eq_getElem (by rw [ups_length]; exact h), ups_get h]
  ·rw [List.getElem?_eq_none (by omega), List.getElem?_eq_none (by rw [ups_length]; exact h)]
 rw [e, h2]
theorem heldIntS_eq (hk : Big ≤ k) (n : Nat) (m : Int) (h0 : 0 ≤ m) (hm : m ≤ 1073741824) (hl : n ≤ 1048576) : laws_heldIntS.f k (ups m n) m = some (m + n) := by
  unfold laws_heldIntS.f
  have hlen := ups_length m n
  have := loop_exit (R := Int) (T := Int) (l := fun q (s : Int) i => laws_heldIntS.l0 k (ups m n) q s i) (N := n) (g := fun _ s => .inl (s + 1)) (out := fun s => some (.inl s)) (fun i s => s = m + i) (fun q i s hi hI => by
      left
      have e1 : ((i : Int) < ((ups m n).length : Int)) := by omega
      have hw : w64 ((i : Int) + 1) = ((i + 1 : Nat) : Int) := w64_id (by omega) (by omega)
      have hw2 : w64 (s + 1) = s + 1 := w64_id (by omega) (by omega)
      refine ⟨_, rfl, ?_, by omega⟩
      rw [laws_heldIntS.l0]
      simp only [e1, decide_true, if_true, rdl_lt (show i < (ups m n).length by omega), ups_get hi, Option.bind_some, hI, bne_self_eq_false, Bool.false_eq_true, if_false, hw]
      rw [← hI, hw2])
    (fun q s hI => by rw [laws_heldIntS.l0, hlen]; simp) (k := k) (by unfold Big at hk; omega) (s := m) (by simp)
  rw [this]
  have e : ∀ p i s, itx (R := Int) (fun _ (s : Int) => .inl (s + 1)) p i s = .inl (s + p) := by
    intro p
    induction p with
    | zero => intro i s; simp [itx]
    | succ p ih => intro i s; simp only [itx]; rw [ih]; congr 1; omega
  rw [e]
  rfl
theorem rdl_set {α : Type} {l : List α} {i : Nat} {x : α} (h : i < l.length) : rdl (l.set i x) (i : Int) = some x := by
 rw [rdl_lt (by simpa using h)]; simp
theorem markA3_l1 (hk : Big ≤ k) (l : List Door) (i : Nat) (hi : i < l.length) (m : Int) (h0 : 0 ≤ m) (hm : m ≤ 2147483648) : laws_markIntA3S.l1 k (i : Int) k l m 0 = some (l.set i (m, m + 1, m + 2), m + 3) := by
 obtain ⟨n, rfl⟩ := big_split hk
 have w1 : w64 (m + 1) = m + 1 := w64_id (by omega) (by omega)
 have w2 : w64 (m + 1 + 1) = m + 2 := by rw [w64_id (by omega) (by omega)]; omega
 have w3 : w64 (m + 2 + 1) = m + 3 := by rw [w64_id (by omega) (by omega)]; omega
 simp [laws_markIntA3S.l1, w64_1, w64_2, w64_3, rdl3_0, rdl3_1, rdl3_2, rdl_lt hi, rdl_set hi, w1, w2, w3, List.set_set]
theorem ups3_get {m : Int} {n i : Nat} (h : i < n) : (ups3 m n)[i]'(by rw [ups3_length]; exact h) = (m + 3 * (i : Nat), m + 3 * (i : Nat) + 1, m + 3 * (i : Nat) + 2) := by simp [ups3]
theorem markIntA3S_eq (hk : Big ≤ k) (l : List Door) (m : Int) (h0 : 0 ≤ m) (hm : m ≤ 1073741824) (hl : l.length ≤ 1048576) : laws_markIntA3S.f k l m = some (m + 3 * l.length, ups3 m l.length) := by
 unfold laws_markIntA3S.f
 have := loop_state (l := fun n (s : List Door × Int) i => laws_markIntA3S.l0 k n s.1 s.2 i) (N := l.length) (g := fun i s => (s.1.set i (s.2, s.2 + 1, s.2 + 2), s.2 + 3)) (out := fun s => some (s.2, s.1))
  (fun i s => s.2 = m + 3 * i ∧ s.1.length = l.length ∧ ∀ j, j < i → s.1[j]? = some (m + 3 * (j : Nat), m + 3 * (j : Nat) + 1, m + 3 * (j : Nat) + 2)) (fun n i s hi hI => by
   obtain ⟨h1, h2, h3⟩ := hI
   have e1 : ((i : Int) < (s.1.length : Int)) := by omega
   have hw : w64 ((i : Int) + 1) = ((i + 1 : Nat) : Int) := w64_id (by omega) (by omega)
   refine ⟨?_, ?_, ?_, ?_⟩
   ·show laws_markIntA3S.l0 k (n + 1) s.1 s.2 (i : Int) = _
    rw [laws_markIntA3S.l0]
    simp only [e1, decide_true, if_true, markA3_l1 hk s.1 i (by omega) s.2 (by omega) (by omega), Option.bind_some, hw]
   ·show s.2 + 3 = _; rw [h1]; omega
   ·simpa using h2
   ·intro j hj
    show (s.1.set i (s.2, s.2 + 1, s.2 + 2))[j]? = _
    rcases Nat.eq_or_lt_of_le (Nat.le_of_lt_succ hj) with rfl | h
    ·rw [List.getElem?_set_self (by omega), h1]
    ·rw [List.getElem?_set_ne (by omega)]; exact h3 j h)
  (fun n s hI => by
   show laws_markIntA3S.l0 k (n + 1) s.1 s.2 (l.length : Int) = _
   rw [laws_markIntA3S.l0, hI.2.1]; simp) (k := k) (by unfold Big at hk; omega) (s := (l, m)) ⟨by simp, rfl, fun j hj => by omega⟩
 obtain ⟨h1, h2, h3, h4⟩ := this
 simp only at h1
 rw [h1, Option.bind_some]
 have e : (itr (fun i (s : List Door × Int) => (s.1.set i (s.2, s.2 + 1, s.2 + 2), s.2 + 3)) l.length 0 (l, m)).1 = ups3 m l.length := by
  refine List.ext_getElem? fun j => ?_
  rcases Nat.lt_or_ge j l.length with h | h
  ·rw [h4 j h, List.getElem?_eq_getElem (by rw [ups3_length]; exact h), ups3_get h]
  ·rw [List.getElem?_eq_none (by omega), List.getElem?_eq_none (by rw [ups3_length]; exact h)]
 rw [e, h2]
theorem heldA3_l1 (hk : Big ≤ k) (n i : Nat) (hi : i < n) (m : Int) (h0 : 0 ≤ m) (hm : m + 3 * n ≤ 2147483648) : laws_heldIntA3S.l1 k (ups3 m n) (i : Int) k (m + 3 * i) 0 = some (.inl (m + 3 * i + 3)) := by
 obtain ⟨q, rfl⟩ := big_split hk
 have w1 : w64 (m + 3 * i + 1) = m + 3 * i + 1 := w64_id (by omega) (by omega)
 have w2 : w64 (m + 3 * i + 1 + 1) = m + 3 * i + 2 := by rw [w64_id (by omega) (by omega)]; omega
 have w3 : w64 (m + 3 * i + 2 + 1) = m + 3 * i + 3 := by rw [w64_id (by omega) (by omega)]; omega
 simp [laws_heldIntA3S.l1, w64_1, w64_2, w64_3, rdl3_0, rdl3_1, rdl3_2, rdl_lt (show i < (ups3 m n).length by rw [ups3_length]; exact hi), ups3_get hi, w1, w2, w3]
theorem heldIntA3S_eq (hk : Big ≤ k) (n : Nat) (m : Int) (h0 : 0 ≤ m) (hm : m ≤ 1073741824) (hl : n ≤ 1048576) : laws_heldIntA3S.f k (ups3 m n) m = some (m + 3 * n) := by
  unfold laws_heldIntA3S.f
  have hlen := ups3_length m n
  have := loop_exit (R := Int) (T := Int) (l := fun q (s : Int) i => laws_heldIntA3S.l0 k (ups3 m n) q s i) (N := n) (g := fun _ s => .inl (s + 3)) (out := fun s => some (.inl s)) (fun i s => s = m + 3 * i) (fun q i s hi hI => by
      left
      have e1 : ((i : Int) < ((ups3 m n).length : Int)) := by omega
      have hw : w64 ((i : Int) + 1) = ((i + 1 : Nat) : Int) := w64_id (by omega) (by omega)
      refine ⟨_, rfl, ?_, by omega⟩
      subst hI
      rw [laws_heldIntA3S.l0]
      simp only [e1, decide_true, if_true, heldA3_l1 hk n i hi m h0 (by omega), Option.bind_some, Lr, hw])
    (fun q s hI => by rw [laws_heldIntA3S.l0, hlen]; simp) (k := k) (by unfold Big at hk; omega) (s := m) (by simp)
  rw [this]
  have e : ∀ p i s, itx (R := Int) (fun _ (s : Int) => .inl (s + 3)) p i s = .inl (s + 3 * p) := by
    intro p
    induction p with
    | zero => intro i s; simp [itx]
    | succ p ih => intro i s; simp only [itx]; rw [ih]; congr 1; omega
  rw [e]
  rfl
theorem markMaze_eq (hk : Big ≤ k) (n : Int) (d : List Door) (ks : List Int) (m : Int) (h0 : 0 ≤ m) (hm : m ≤ 536870912) (hd : d.length ≤ 1048576) (hl : ks.length ≤ 1048576) :
  laws_markMaze.f k n d ks m = some (m + 3 * d.length + ks.length, ups3 m d.length, ups (m + 3 * d.length) ks.length) := by
 unfold laws_markMaze.f
 rw [markIntA3S_eq hk d m h0 (by omega) hd, Option.bind_some]
 simp only [markIntS_eq hk ks (m + 3 * d.length) (by omega) (by omega) hl, Option.bind_some]
theorem heldMaze_eq (hk : Big ≤ k) (n : Int) (a b : Nat) (m : Int) (h0 : 0 ≤ m) (hm : m ≤ 536870912) (ha : a ≤ 1048576) (hb : b ≤ 1048576) :
  laws_heldMaze.f k n (ups3 m a) (ups (m + 3 * a) b) m = some (m + 3 * a + b) := by
 unfold laws_heldMaze.f
 rw [heldIntA3S_eq hk a m h0 (by omega) ha, Option.bind_some, if_neg (by simp; omega), heldIntS_eq hk b (m + 3 * a) (by omega) (by omega) hb, Option.bind_some, if_neg (by simp; omega)]
end
end Go.Proofs

namespace Go.Proofs
open Go Go.Ga Go.Ga.Wf

theorem sorted_ext : ∀ {a b : List Int}, a.Pairwise (· < ·) → b.Pairwise (· < ·) → (∀ x, x ∈ a ↔ x ∈ b) → a = b
  | [], [], _, _, _ => rfl
  | [], y :: b, _, _, h => by have := (h y).2 (List.mem_cons_self ..); cases this
  | x :: a, [], _, _, h => by have := (h x).1 (List.mem_cons_self ..); cases this
  | x :: a, y :: b, ha, hb, h => by
    rw [List.pairwise_cons] at ha hb
    have hxy : x = y := by
      rcases List.mem_cons.1 ((h x).1 (List.mem_cons_self ..)) with h1 | h1
      · exact h1
      · rcases List.mem_cons.1 ((h y).2 (List.mem_cons_self ..)) with h2 | h2
        · exact h2.symm
        · have := hb.1 x h1; have := ha.1 y h2; omega
    subst hxy
    rw [sorted_ext ha.2 hb.2 (fun z => ?_)]
    constructor
    · intro hz
      rcases List.mem_cons.1 ((h z).1 (List.mem_cons_of_mem _ hz)) with h1 | h1
      · have := ha.1 z hz; omega
      · exact h1
    · intro hz
      rcases List.mem_cons.1 ((h z).2 (List.mem_cons_of_mem _ hz)) with h1 | h1
      · have := hb.1 z hz; omega
      · exact h1
def bitsOf (p : Nat → Bool) : Nat → Nat
  | 0 => 0
  | n + 1 => bitsOf p n ||| (if p n = true then 2 ^ n else 0)
def upto (m n : Nat) : List Int := ((List.range n).filter fun t => m.testBit t).map fun (t : Nat) => (t : Int)
theorem upto_succ (m n : Nat) : upto m (n + 1) = upto m n ++ (if m.testBit n = true then [(n : Int)] else []) := by
 unfold upto
 rw [List.range_succ, List.filter_append, List.map_append]
 congr 1
 by_cases h : m.testBit n = true <;> simp [h]

inductive Rch (d : List Door) (h x : Int) : Int → Prop
  | here : Rch d h x x
  | step {y z : Int} : Rch d h x y → d.any (goes y z h) = true → Rch d h x z
open Classical in
noncomputable def reachN (d : List Door) (x h : Int) : Nat := bitsOf (fun t => decide (Rch d h x (t : Int))) 12
noncomputable def nodesL (d : List Door) (x h : Int) : List Int := upto (reachN d x h) 12

def DoorIn (n : Int) (x : Door) : Prop := 0 ≤ x.1 ∧ x.1 < n ∧ 0 ≤ x.2.1 ∧ x.2.1 < n ∧ 0 ≤ x.2.2 ∧ x.2.2 ≤ 63
structure Okm (n : Int) (d : List Door) (ks : List Int) : Prop where
 lo : 1 ≤ n
 hi : n ≤ 12
 few : d.length ≤ 1048576
 len : (ks.length : Int) = n
 doors : ∀ x ∈ d, DoorIn n x
 keys : ∀ x ∈ ks, 0 ≤ x ∧ x ≤ 63
theorem IsMaze.okm {n : Int} {d : List Door} {ks : List Int} (h : IsMaze n d ks) : Okm n d ks where
 lo := h.1
 hi := h.2.1
 few := by have := h.2.2.1; omega
 len := h.2.2.2.1
 doors := fun x hx => by
  obtain ⟨i, hi, rfl⟩ := List.getElem_of_mem hx
  have h1 := h.2.2.2.2.1 i hi
  unfold doorB at h1
  rw [dif_pos hi, Bool.and_eq_true, decide_eq_true_eq] at h1
  have := h1.1; unfold DoorOk at this; unfold DoorIn
  omega
 keys := h.keys

def gain (ks l : List Int) (h : Int) : Int := l.foldl (fun s x => bor s (ks.getD x.toNat 0)) h
noncomputable def nextH (d : List Door) (ks : List Int) (h : Int) : Int := gain ks (nodesL d 0 h) h
noncomputable def lastH (d : List Door) (ks : List Int) : Nat → Int → Int
  | 0, h => h
  | f + 1, h => if nextH d ks h = h then h else lastH d ks f (nextH d ks h)
end Go.Proofs

namespace Go.Proofs
open Go Go.Ga Go.Ga.Wf
set_option linter.unusedVariables false
set_option linter.unusedSimpArgs false
section
variable {k : Nat}
theorem clone3_eq (l : List Door) (hl : l.length ≤ 1048576) : slices_Clone__3int__3int.f k l = some l := by
 unfold slices_Clone__3int__3int.f; rw [List.nil_append, if_pos (by omega)]
theorem clone_eq (l : List Int) (hl : l.length ≤ 1048576) : slices_Clone_int_int.f k l = some l := by
 unfold slices_Clone_int_int.f; rw [List.nil_append, if_pos (by omega)]
theorem own_eq (n : Int) (d : List Door) (ks : List Int) (hd : d.length ≤ 1048576) (hl : ks.length ≤ 1048576) : impl_own.f k n d ks = some (n, d, ks) := by
 unfold impl_own.f; rw [clone3_eq d hd, Option.bind_some, clone_eq ks hl]; rfl
theorem l1Own_eq (l : List Int) (hl : l.length ≤ 1048576) : spec_l1Own.f k l = some l := by
 unfold spec_l1Own.f; rw [List.nil_append, if_pos (by omega)]
theorem l2Own_eq (n : Int) (d : List Door) (ks : List Int) (hd : d.length ≤ 1048576) (hl : ks.length ≤ 1048576) : spec_l2Own.f k n d ks = some (n, d, ks) := by
 unfold spec_l2Own.f; rw [List.nil_append, if_pos (by omega), l1Own_eq ks hl]; rfl

theorem szTrap_eq (n : Int) (d : List Door) (ks tr : List Int) (m : Int) (h0 : 0 ≤ m) (hm : m ≤ 1048576) (h1 : d.length ≤ maxLen) (h2 : ks.length ≤ maxLen) (h3 : tr.length ≤ maxLen) :
  laws_szTrap.f k n d ks tr m = some (szo m (d.length + ks.length + tr.length)) := by
 unfold laws_szTrap.f
 rw [szMaze_eq n d ks _ h0 hm h1 h2, Option.bind_some, ← szo_add]
 by_cases hc : szo m (d.length + ks.length) < 0
 ·simp [hc]
 ·rw [szIntS_eq tr _ (by omega) (szo_range (by omega) (by omega)).2 h3]
theorem toTrap_eq (hk : Big ≤ k) (n : Int) (d : List Door) (ks tr : List Int) (hd : d.length ≤ 1048576) (hks : ks.length ≤ 1048576) (hl : tr.length ≤ 1048576) : laws_toTrap.f k n d ks tr = some (n, d, ks, tr) := by
 unfold laws_toTrap.f
 rw [toMaze_eq hk n d ks hd hks, Option.bind_some, toIntS_eq hk tr hl]; rfl
theorem eqTrap_eq (hk : Big ≤ k) (n : Int) (d : List Door) (ks tr : List Int) (n' : Int) (d' : List Door) (ks' tr' : List Int) (hd : d.length ≤ 1048576) (hks : ks.length ≤ 1048576) (hl : tr.length ≤ 1048576) :
  laws_eqTrap.f k n d ks tr n' d' ks' tr' = some (decide ((n, d, ks, tr) = (n', d', ks', tr'))) := by
 unfold laws_eqTrap.f
 rw [eqMaze_eq hk n n' d d' ks ks' hd hks, eqIntS_eq hk tr tr' hl]
 by_cases h1 : (n, d, ks) = (n', d', ks')
 ·by_cases h2 : tr = tr' <;> simp_all
 ·have : ¬ (n, d, ks, tr) = (n', d', ks', tr') := by
   intro e; simp only [Prod.mk.injEq] at e h1; exact h1 ⟨e.1, e.2.1, e.2.2.1⟩
  rw [decide_eq_false h1, decide_eq_false this]; rfl
theorem markTrap_eq (hk : Big ≤ k) (n : Int) (d : List Door) (ks tr : List Int) (m : Int) (h0 : 0 ≤ m) (hm : m ≤ 268435456) (hd : d.length ≤ 1048576) (hks : ks.length ≤ 1048576) (hl : tr.length ≤ 1048576) :
  laws_markTrap.f k n d ks tr m = some (m + 3 * d.length + ks.length + tr.length, ups3 m d.length, ups (m + 3 * d.length) ks.length, ups (m + 3 * d.length + ks.length) tr.length) := by
 unfold laws_markTrap.f
 rw [markMaze_eq hk n d ks m h0 (by omega) hd hks, Option.bind_some]
 simp only [markIntS_eq hk tr (m + 3 * d.length + ks.length) (by omega) (by omega) hl, Option.bind_some]
theorem heldTrap_eq (hk : Big ≤ k) (n : Int) (a b c : Nat) (m : Int) (h0 : 0 ≤ m) (hm : m ≤ 268435456) (ha : a ≤ 1048576) (hb : b ≤ 1048576) (hc : c ≤ 1048576) :
  laws_heldTrap.f k n (ups3 m a) (ups (m + 3 * a) b) (ups (m + 3 * a + b) c) m = some (m + 3 * a + b + c) := by
 unfold laws_heldTrap.f
 rw [heldMaze_eq hk n a b m h0 (by omega) ha hb, Option.bind_some, if_neg (by simp; omega), heldIntS_eq hk c (m + 3 * a + b) (by omega) (by omega) hc, Option.bind_some, if_neg (by simp; omega)]
end

section
variable {k : Nat}
theorem l1Has_eq (hk : Big ≤ k) (l : List Int) (x : Int) (hl : l.length ≤ 1048576) : spec_l1Has.f k l x = some (l.contains x) := by
 unfold spec_l1Has.f
 rw [loop_all (l := spec_l1Has.l0 k l x) (N := l.length) (fun i => if h : i < l.length then l[i] != x else true) (z := true) (fun n i hi => by
  rw [spec_l1Has.l0]
  have h1 : ((i : Int) < (l.length : Int)) := by omega
  have hw : w64 ((i : Int) + 1) = ((i + 1 : Nat) : Int) := w64_id (by omega) (by omega)
  simp only [h1, decide_true, if_true, rdl_lt hi, Option.bind_some, hi, dite_true, hw]
  cases h3 : l[i] == x <;> simp [bne, h3]) (fun n => by
  rw [spec_l1Has.l0]; simp) (k := k) (by unfold Big at hk; omega)]
 simp only [Option.bind_some, Lr_ite]
 by_cases h : x ∈ l
 ·have hc : l.contains x = true := by simpa using h
  rw [hc, if_neg]
  intro H
  obtain ⟨i, hi, rfl⟩ := List.getElem_of_mem h
  have := H i hi; simp [hi] at this
 ·have hc : l.contains x = false := by simpa using h
  rw [hc, if_pos]
  intro i hi
  simp only [hi, dite_true, bne_iff_ne, ne_eq]
  intro e; exact h (e ▸ List.getElem_mem hi)
end

section
variable {k : Nat}

structure RInv (d : List Door) (h x : Int) (out list : List Int) : Prop where
 sorted : out.Pairwise (· < ·)
 same : ∀ z, z ∈ out ↔ z ∈ list
 len : out.length = list.length
 start : x ∈ list
 rch : ∀ z ∈ list, Rch d h x z
end

section
variable {k : Nat}
end

abbrev MazeT := Int × List Door × List Int
def mz1 (t : MazeT) : Nat := t.2.1.length + t.2.2.length
def mz : List MazeT → Nat
  | [] => 0
  | t :: l => mz1 t + mz l
section
variable {k : Nat}
structure WB (ms : List MazeT) (os : List (List Int)) : Prop where
 ml : ms.length ≤ 1048576
 ol : os.length ≤ 1048576
 md : ∀ t ∈ ms, t.2.1.length ≤ 1048576 ∧ t.2.2.length ≤ 1048576
 od : ∀ t ∈ os, t.length ≤ 1048576

def worldOk (ms : List MazeT) (os : List (List Int)) (i : Nat) : Bool :=
 if h : i < ms.length then decide (IsMaze ms[i].1 ms[i].2.1 ms[i].2.2) && decide (((os.getD i []).length : Int) = ms[i].1) && (os.getD i []).all (fun o => decide (0 ≤ o ∧ o ≤ (ms.length : Int) - 1)) else true
def IsWorldsP (ms : List MazeT) (os : List (List Int)) : Prop := (1 ≤ ms.length ∧ ms.length ≤ 3) ∧ os.length = ms.length ∧ ∀ i, i < ms.length → worldOk ms os i = true
instance (ms : List MazeT) (os : List (List Int)) : Decidable (IsWorldsP ms os) := by unfold IsWorldsP; infer_instance
end

def appUpto {β : Type} (F : Nat → List β) (n : Nat) : List β := (List.range n).flatMap F
theorem appUpto_succ {β : Type} (F : Nat → List β) (n : Nat) : appUpto F (n + 1) = appUpto F n ++ F n := by
 unfold appUpto; rw [List.range_succ, List.flatMap_append]; simp
theorem appUpto_length {β : Type} (F : Nat → List β) (c : Nat) (hF : ∀ i, (F i).length ≤ c) : ∀ n, (appUpto F n).length ≤ n * c
  | 0 => by simp [appUpto]
  | n + 1 => by
    have := appUpto_length F c hF n
    have := hF n
    rw [appUpto_succ, List.length_append, Nat.succ_mul]; omega
theorem loop_app {β γ : Type} {l : Nat → List β → Int → Option γ} (N : Nat) (F : Nat → List β) (out : Option γ)
    (hs : ∀ n (i : Nat), i < N → l (n + 1) (appUpto F i) (i : Int) = l n (appUpto F i ++ F i) ((i + 1 : Nat) : Int))
    (he : ∀ n, l (n + 1) (appUpto F N) (N : Int) = out) {k : Nat} (hk : N < k) : l k [] 0 = out := by
  have key : ∀ m i k, i + m = N → m < k → l k (appUpto F i) (i : Int) = out := by
    intro m
    induction m with
    | zero =>
      intro i k hi hk
      obtain ⟨n, rfl⟩ : ∃ n, k = n + 1 := ⟨k - 1, by omega⟩
      have : i = N := by omega
      subst this
      exact he n
    | succ m ih =>
      intro i k hi hk
      obtain ⟨n, rfl⟩ : ∃ n, k = n + 1 := ⟨k - 1, by omega⟩
      rw [hs n i (by omega), ← appUpto_succ]
      exact ih (i + 1) n (by omega) (by omega)
  exact key N 0 k (by omega) hk
section
variable {k : Nat}

theorem IsWorldsP.at {ms : List MazeT} {os : List (List Int)} (h : IsWorldsP ms os) (i : Nat) (hi : i < ms.length) : IsMaze ms[i].1 ms[i].2.1 ms[i].2.2 ∧ ∃ hio : i < os.length, (os[i].length : Int) = ms[i].1 ∧ ∀ o ∈ os[i], 0 ≤ o ∧ o ≤ (ms.length : Int) - 1 := by
 have h1 := h.2.2 i hi
 unfold worldOk at h1
 have hio : i < os.length := by have := h.2.1; omega
 have hod : os.getD i [] = os[i] := by rw [List.getD_eq_getElem?_getD, List.getElem?_eq_getElem hio]; rfl
 rw [dif_pos hi, hod] at h1
 simp only [Bool.and_eq_true, decide_eq_true_eq, List.all_eq_true] at h1
 exact ⟨h1.1.1, hio, h1.1.2, h1.2⟩
end

theorem slc_pre {α : Type} (l : List α) (i : Nat) (h : i ≤ l.length) : slc l 0 (i : Int) = some (l.take i) := by
 unfold slc; rw [if_pos ⟨Int.le_refl _, by omega, by omega⟩]; simp
theorem slc_suf {α : Type} (l : List α) (i : Nat) (h : i ≤ l.length) : slc l (i : Int) (l.length : Int) = some (l.drop i) := by
 unfold slc; rw [if_pos ⟨by omega, by omega, by omega⟩]; simp
theorem slc_mid {α : Type} (l : List α) (i j : Nat) (h : i ≤ j) (hj : j ≤ l.length) : slc l (i : Int) (j : Int) = some ((l.take j).drop i) := by
 unfold slc; rw [if_pos ⟨by omega, by omega, by omega⟩]; simp
section
variable {k : Nat}
end

section
variable {k : Nat}
end

theorem itr_snoc {S : Type} (g : Nat → S → S) : ∀ m i s, itr g (m + 1) i s = g (i + m) (itr g m i s)
  | 0, i, s => rfl
  | m + 1, i, s => by
    show itr g (m + 1) (i + 1) (g i s) = _
    rw [itr_snoc g m (i + 1) (g i s), show i + 1 + m = i + (m + 1) by omega]; rfl
theorem getD_set {α : Type} (l : List α) (i j : Nat) (v d : α) : (l.set i v).getD j d = if i = j ∧ i < l.length then v else l.getD j d := by
 rw [List.getD_eq_getElem?_getD, List.getD_eq_getElem?_getD]
 by_cases h : i = j
 ·subst h
  by_cases h2 : i < l.length
  ·rw [List.getElem?_set_self h2, if_pos ⟨rfl, h2⟩]; rfl
  ·rw [if_neg (fun h => h2 h.2), List.set_eq_of_length_le (by omega)]
 ·rw [List.getElem?_set_ne h, if_neg (fun h' => h h'.1)]
theorem itr_at {α : Type} (F : Nat → α → α) (d : α) (R : List α) : ∀ m, m ≤ R.length → (itr (fun i R => R.set i (F i (R.getD i d))) m 0 R).length = R.length ∧ ∀ j, (itr (fun i R => R.set i (F i (R.getD i d))) m 0 R).getD j d = if j < m then F j (R.getD j d) else R.getD j d
  | 0, _ => ⟨rfl, fun j => by simp [itr]⟩
  | m + 1, h => by
    obtain ⟨h1, h2⟩ := itr_at F d R m (by omega)
    rw [itr_snoc, Nat.zero_add]
    refine ⟨by rw [List.length_set]; exact h1, fun j => ?_⟩
    rw [getD_set, h1, h2 j, h2 m]
    by_cases hj : m = j
    · subst hj; rw [if_pos ⟨rfl, by omega⟩, if_neg (by omega), if_pos (by omega)]
    · rw [if_neg (fun h => hj h.1)]
      by_cases h3 : j < m
      · rw [if_pos h3, if_pos (by omega)]
      · rw [if_neg h3, if_neg (by omega)]

structure Grow (h nx : List Int) : Prop where
 len : nx.length = h.length
 rng : ∀ x ∈ nx, 0 ≤ x ∧ x ≤ 63
 ge : ∀ j, h.getD j 0 ≤ nx.getD j 0
def updR (rd : Int) (row : List Int) (x : Int) : List Int := if row.getD x.toNat 0 < 0 then row.set x.toNat rd else row
theorem updR_len (rd : Int) (row : List Int) (x : Int) : (updR rd row x).length = row.length := by unfold updR; split <;> simp
theorem fold_updR (rd : Int) (b : Nat) (row : List Int) : ∀ n, ((upto b n).foldl (updR rd) row).length = row.length ∧ ∀ t, t < row.length → ((upto b n).foldl (updR rd) row).getD t 0 = if (t < n ∧ b.testBit t = true) ∧ row.getD t 0 < 0 then rd else row.getD t 0
  | 0 => ⟨rfl, fun t _ => by simp [upto]⟩
  | n + 1 => by
    obtain ⟨h1, h2⟩ := fold_updR rd b row n
    rw [upto_succ, List.foldl_append]
    by_cases hb : b.testBit n = true
    rotate_left 1
    · rw [if_neg hb, List.foldl_nil]
      refine ⟨h1, fun t ht => ?_⟩
      rw [h2 t ht]
      by_cases htn : t = n
      · subst htn; rw [if_neg (fun h => hb h.1.2), if_neg (fun h => hb h.1.2)]
      · by_cases hlt : t < n
        · simp only [hlt, show t < n + 1 by omega]
        · simp only [hlt, show ¬ t < n + 1 by omega]
    · rw [if_pos hb, List.foldl_cons, List.foldl_nil]
      generalize (upto b n).foldl (updR rd) row = w at *
      refine ⟨by rw [updR_len]; exact h1, fun t ht => ?_⟩
      unfold updR
      rw [Int.toNat_natCast]
      by_cases htn : t = n
      · subst htn
        have e := h2 t ht
        rw [if_neg (fun h => by omega)] at e
        rw [e]
        by_cases hv : row.getD t 0 < 0
        · rw [if_pos hv, getD_set, if_pos ⟨rfl, by omega⟩, if_pos ⟨⟨by omega, hb⟩, hv⟩]
        · rw [if_neg hv, if_neg (fun h => hv h.2), e]
      · have e : (if w.getD n 0 < 0 then w.set n rd else w).getD t 0 = w.getD t 0 := by
          split
          · rw [getD_set, if_neg (fun h => htn h.1.symm)]
          · rfl
        rw [e, h2 t ht]
        by_cases hlt : t < n
        · simp only [hlt, show t < n + 1 by omega]
        · simp only [hlt, show ¬ t < n + 1 by omega]
def mzD (ms : List MazeT) (i : Nat) : MazeT := ms.getD i (0, [], [])
def szW (ms : List MazeT) (i : Nat) : Nat := (mzD ms i).1.toNat
noncomputable def bW (ms : List MazeT) (h : List Int) (i : Nat) : Nat := reachN (mzD ms i).2.1 0 (h.getD i 0)
noncomputable def goalW (ms : List MazeT) (h : List Int) (i : Nat) : Bool := (bW ms h i).testBit (szW ms i - 1)
noncomputable def rowF (ms : List MazeT) (h : List Int) (rd : Int) (i : Nat) (row : List Int) : List Int := (upto (bW ms h i) (szW ms i)).foldl (updR rd) row
noncomputable def wonF (ms : List MazeT) (h : List Int) (rd : Int) (i : Nat) (v : Int) : Int := if goalW ms h i = true ∧ v < 0 then rd else v
structure Facts (ms : List MazeT) (os : List (List Int)) (i : Nat) : Prop where
 mz : IsMaze (mzD ms i).1 (mzD ms i).2.1 (mzD ms i).2.2
 rd : rdl ms (i : Int) = some (mzD ms i)
 ro : rdl os (i : Int) = some (os.getD i [])
 ol : (os.getD i []).length = szW ms i
 kl : (mzD ms i).2.2.length = szW ms i
 own : ∀ o ∈ os.getD i [], 0 ≤ o ∧ o ≤ (ms.length : Int) - 1
 lo : 1 ≤ szW ms i
 hi : szW ms i ≤ 12
 sz : (mzD ms i).1 = (szW ms i : Int)
theorem IsWorldsP.facts {ms : List MazeT} {os : List (List Int)} (hw : IsWorldsP ms os) (i : Nat) (hi : i < ms.length) : Facts ms os i := by
 obtain ⟨hm, hio, h1, h2⟩ := hw.at i hi
 have e1 : ms[i] = mzD ms i := by unfold mzD; rw [List.getD_eq_getElem?_getD, List.getElem?_eq_getElem hi]; rfl
 have e2 : os[i] = os.getD i [] := by rw [List.getD_eq_getElem?_getD, List.getElem?_eq_getElem hio]; rfl
 rw [e1] at hm h1
 rw [e2] at h1 h2
 have om := hm.okm
 have hlo := om.lo
 have hhi := om.hi
 have hlen := om.len
 have hz : szW ms i = (mzD ms i).1.toNat := rfl
 exact ⟨hm, by rw [rdl_lt hi, e1], by rw [rdl_lt hio, e2], by omega, by omega, h2, by omega, by omega, by omega⟩
section
variable {k : Nat}
noncomputable def rowsA (ms : List MazeT) (h : List Int) (rd : Int) (R : List (List Int)) : List (List Int) := itr (fun i R => R.set i (rowF ms h rd i (R.getD i []))) ms.length 0 R
noncomputable def wonA (ms : List MazeT) (h : List Int) (rd : Int) (W : List Int) : List Int := itr (fun i W => W.set i (wonF ms h rd i (W.getD i 0))) ms.length 0 W
structure RW (ms : List MazeT) (W : List Int) (R : List (List Int)) : Prop where
 wl : W.length = ms.length
 rl : R.length = ms.length
 row : ∀ j, j < ms.length → (R.getD j []).length = szW ms j
 same : ∀ j, j < ms.length → W.getD j 0 = (R.getD j []).getD (szW ms j - 1) 0
theorem RW.step {ms : List MazeT} {os : List (List Int)} (hw : IsWorldsP ms os) {W : List Int} {R : List (List Int)} (hI : RW ms W R) (h : List Int) (rd : Int) : RW ms (wonA ms h rd W) (rowsA ms h rd R) := by
 obtain ⟨a1, a2⟩ := itr_at (wonF ms h rd) 0 W ms.length (by rw [hI.wl]; exact Nat.le_refl _)
 obtain ⟨b1, b2⟩ := itr_at (rowF ms h rd) [] R ms.length (by rw [hI.rl]; exact Nat.le_refl _)
 refine ⟨a1.trans hI.wl, b1.trans hI.rl, fun j hj => ?_, fun j hj => ?_⟩
 ·unfold rowsA
  rw [b2 j, if_pos hj]
  unfold rowF
  rw [(fold_updR rd _ _ _).1]; exact hI.row j hj
 ·have hf := hw.facts j hj
  have hlo := hf.lo
  unfold rowsA wonA
  rw [b2 j, if_pos hj, a2 j, if_pos hj]
  unfold rowF wonF
  rw [(fold_updR rd _ _ _).2 _ (by rw [hI.row j hj]; omega), hI.same j hj]
  have : szW ms j - 1 < szW ms j := by omega
  simp only [this, true_and]
  rfl
structure Played (ms : List MazeT) (S : List (List Int)) (W : List Int) (R : List (List Int)) : Prop where
 sl : S.length ≤ 300
 each : ∀ t ∈ S, t.length = ms.length
 rw : RW ms W R
end

section
variable {k : Nat}
end

inductive Pth (nx : Nat → List Nat) (goal : Nat → Bool) : Nat → Nat → Prop
  | here {i : Nat} : goal i = true → Pth nx goal i 0
  | step {i j v : Nat} : j ∈ nx i → Pth nx goal j v → Pth nx goal i (v + 1)

def cntF : List Bool → Nat
  | [] => 0
  | b :: l => (if b = true then 0 else 1) + cntF l
structure GI (nx : Nat → List Nat) (goal : Nat → Bool) (m : Nat) (o : List Bool) (i : Nat) (p : List Bool × Bool) : Prop where
 len : p.1.length = m
 sound : ∀ t, p.1.getD t false = true → ∃ v, Pth nx goal t v
 le : cntF p.1 ≤ cntF o
 no : p.2 = false → p.1 = o ∧ ∀ j, j < i → o.getD j false = true ∨ (goal j = false ∧ ∀ t ∈ nx j, o.getD t false = false)
 yes : p.2 = true → cntF p.1 < cntF o

def fv (v : Int) : Nat := if v < 0 then 2000 else v.toNat
def mu : List Int → Nat
  | [] => 0
  | v :: l => fv v + mu l
def cp : List Int → Nat
  | [] => 0
  | v :: l => (if v < 0 then 0 else 1) + cp l
structure DI (nx : Nat → List Nat) (goal : Nat → Bool) (m : Nat) (l : List Int) : Prop where
 bnd : ∀ t, l.getD t 0 ≤ cp l
 sound : ∀ t, t < l.length → 0 ≤ l.getD t 0 → Pth nx goal t (l.getD t 0).toNat
 gz : ∀ t, t < m → goal t = true → l.getD t 0 = 0
def Rlx (l : List Int) (i j : Nat) : Prop := 0 ≤ l.getD j 0 → 0 ≤ l.getD i 0 ∧ l.getD i 0 ≤ l.getD j 0 + 1
structure PI (nx : Nat → List Nat) (goal : Nat → Bool) (m : Nat) (o : Arr 768) (i : Nat) (p : Bool × Arr 768) : Prop where
 di : DI nx goal m p.2.l
 le : mu p.2.l ≤ mu o.l
 no : p.1 = false → p.2.l = o.l ∧ ∀ t, t < i → ∀ j ∈ nx t, Rlx o.l t j
 yes : p.1 = true → mu p.2.l < mu o.l

section
variable {k : Nat}
end

section
variable {k : Nat}
end

section
variable {k : Nat}
end

inductive Rc (nx : Nat → List Nat) (a : Nat) : Nat → Prop
  | here : Rc nx a a
  | step {i j : Nat} : Rc nx a i → j ∈ nx i → Rc nx a j
def vis (v : Int) (p : List Int × List Nat) (j : Nat) : List Int × List Nat := if p.1.getD j 0 < 0 then (p.1.set j v, p.2 ++ [j]) else p
structure WI (nx : Nat → List Nat) (a m : Nat) (V : List Int) (todo : List Nat) : Prop where
 bnd : ∀ t, V.getD t 0 ≤ cp V
 sound : ∀ t, t < V.length → 0 ≤ V.getD t 0 → Rc nx a t
 start : 0 ≤ V.getD a 0
 tin : ∀ t ∈ todo, t < m ∧ 0 ≤ V.getD t 0
 tl : todo.length ≤ cp V
 cl : ∀ t, t < m → 0 ≤ V.getD t 0 → t ∈ todo ∨ ∀ j ∈ nx t, 0 ≤ V.getD j 0
structure FI (nx : Nat → List Nat) (a m : Nat) (V0 : List Int) (p : List Int × List Nat) : Prop where
 len : p.1.length = V0.length
 keep : ∀ t, 0 ≤ V0.getD t 0 → p.1.getD t 0 = V0.getD t 0
 bnd : ∀ t, p.1.getD t 0 ≤ cp p.1
 sound : ∀ t, t < p.1.length → 0 ≤ p.1.getD t 0 → Rc nx a t
 new : ∀ t ∈ p.2, t < m ∧ 0 ≤ p.1.getD t 0
 only : ∀ t, 0 ≤ p.1.getD t 0 → 0 ≤ V0.getD t 0 ∨ t ∈ p.2
 cnt : cp p.1 = cp V0 + p.2.length

section
variable {k : Nat}
end

section
variable {k : Nat}
end

section
variable {k : Nat}
end

section
variable {k : Nat}
end

inductive Rp (nx : Nat → List Nat) (a : Nat) : Nat → Nat → Prop
  | here : Rp nx a a 0
  | step {i j v : Nat} : Rp nx a i v → j ∈ nx i → Rp nx a j (v + 1)
structure BI (nx : Nat → List Nat) (a m : Nat) (V : List Int) (td : List Nat) : Prop where
 z : V.getD a 0 = 0
 rp : ∀ t, 0 ≤ V.getD t 0 → t < V.length → Rp nx a t (V.getD t 0).toNat
 sort : td.Pairwise (fun x y => V.getD x 0 ≤ V.getD y 0)
 top : ∀ i rest, td = i :: rest → ∀ t, V.getD t 0 ≤ V.getD i 0 + 1
 cl : ∀ t, t < m → 0 ≤ V.getD t 0 → t ∈ td ∨ ∀ j ∈ nx t, 0 ≤ V.getD j 0 ∧ V.getD j 0 ≤ V.getD t 0 + 1

section
variable {k : Nat}
end

structure Bf (nx : Nat → List Nat) (a : Nat) (V B : List Int) : Prop where
 len : B.length = V.length
 neg : ∀ t, t < V.length → (B.getD t 0 < 0 ↔ V.getD t 0 < 0)
 at0 : B.getD a 0 = a
 pre : ∀ t, t < V.length → t ≠ a → 0 ≤ V.getD t 0 → ∃ u : Nat, u < V.length ∧ B.getD t 0 = u ∧ 0 ≤ V.getD u 0 ∧ V.getD t 0 = V.getD u 0 + 1

section
variable {k : Nat}
end

section
variable {k : Nat}
end

section
variable {k : Nat}
end

section
variable {k : Nat}
end

def lx : List Nat → List Nat → Prop
  | x :: xs, y :: ys => x < y ∨ (x = y ∧ lx xs ys)
  | _, _ => False
def klt (p q : List Nat) : Prop := p.length < q.length ∨ (p.length = q.length ∧ lx p q)
def kle (p q : List Nat) : Prop := p = q ∨ klt p q
inductive Sp (nx : Nat → List Nat) (a : Nat) : List Nat → Nat → Prop
  | nil : Sp nx a [] a
  | snoc {p : List Nat} {u j : Nat} : Sp nx a p u → j ∈ nx u → Sp nx a (p ++ [j]) j
theorem Sp.rp {nx : Nat → List Nat} {a : Nat} {p : List Nat} {t : Nat} (h : Sp nx a p t) : Rp nx a t p.length := by
  induction h with
  | nil => exact .here
  | snoc _ hj ih => rw [List.length_append]; exact .step ih hj
theorem Sp.cons {nx : Nat → List Nat} {a b : Nat} (hb : b ∈ nx a) {p : List Nat} {t : Nat} (h : Sp nx b p t) : Sp nx a (b :: p) t := by
  induction h with
  | nil => exact .snoc (p := []) .nil hb
  | snoc _ hj ih => rw [← List.cons_append]; exact .snoc ih hj
structure OD (nx : Nat → List Nat) (a m : Nat) (V B : List Int) (done td : List Nat) (pf : Nat → List Nat) : Prop where
 a0 : pf a = []
 vis : ∀ t, t < m → (0 ≤ V.getD t 0 ↔ t ∈ done ++ td)
 lt : ∀ t ∈ done ++ td, t < m
 sp : ∀ t ∈ done ++ td, Sp nx a (pf t) t
 len : ∀ t ∈ done ++ td, ((pf t).length : Int) = V.getD t 0
 par : ∀ t ∈ done ++ td, t ≠ a → ∃ u : Nat, u ∈ done ∧ B.getD t 0 = u ∧ pf t = pf u ++ [t]
 sort : (done ++ td).Pairwise (fun u v => klt (pf u) (pf v))
 cl : ∀ u ∈ done, ∀ j ∈ nx u, j ∈ done ++ td ∧ kle (pf j) (pf u ++ [j])
structure OF (nx : Nat → List Nat) (a m i : Nat) (done rest : List Nat) (q : (List Int × List Int) × List Nat) (pf0 pf : Nat → List Nat) (pre : List Nat) : Prop where
 lenV : q.1.2.length = q.1.1.length
 hm : m ≤ q.1.1.length
 keep : ∀ t ∈ done ++ i :: rest, pf t = pf0 t
 vis : ∀ t, t < m → (0 ≤ q.1.1.getD t 0 ↔ t ∈ (done ++ i :: rest) ++ q.2)
 lt : ∀ t ∈ (done ++ i :: rest) ++ q.2, t < m
 sp : ∀ t ∈ (done ++ i :: rest) ++ q.2, Sp nx a (pf t) t
 len : ∀ t ∈ (done ++ i :: rest) ++ q.2, ((pf t).length : Int) = q.1.1.getD t 0
 par : ∀ t ∈ (done ++ i :: rest) ++ q.2, t ≠ a → ∃ u : Nat, u ∈ done ++ [i] ∧ q.1.2.getD t 0 = u ∧ pf t = pf u ++ [t]
 sort : ((done ++ i :: rest) ++ q.2).Pairwise (fun u v => klt (pf u) (pf v))
 new : ∀ u ∈ q.2, pf u = pf i ++ [u]
 bl : ∀ u ∈ done ++ i :: rest, ∀ j, klt (pf u) (pf i ++ [j])
 cl : ∀ j ∈ pre, j ∈ (done ++ i :: rest) ++ q.2 ∧ kle (pf j) (pf i ++ [j])

theorem upto_one_sorted (c : Nat → Bool) : ∀ n, (appUpto (fun y => if c y = true then [(y : Int)] else []) n).Pairwise (· < ·) ∧ ∀ y ∈ appUpto (fun y => if c y = true then [(y : Int)] else []) n, y < n
  | 0 => ⟨.nil, fun y hy => by cases hy⟩
  | n + 1 => by
    obtain ⟨h1, h2⟩ := upto_one_sorted c n
    rw [appUpto_succ]
    refine ⟨List.pairwise_append.2 ⟨h1, ?_, fun x hx y hy => ?_⟩, fun y hy => ?_⟩
    · split
      · exact List.pairwise_singleton _ _
      · exact .nil
    · have := h2 x hx
      split at hy
      · rw [List.mem_singleton.1 hy]; exact this
      · cases hy
    · rcases List.mem_append.1 hy with h | h
      · have := h2 y h; omega
      · split at h
        · rw [List.mem_singleton.1 h]; omega
        · cases h
section
variable {k : Nat}
end

section
variable {k : Nat}
end

end Go.Proofs

namespace Go.Proofs
open Go Go.Ga Go.Ga.Wf
set_option linter.unusedVariables false
set_option linter.unusedSimpArgs false
section
variable {k : Nat}
end

section
variable {k : Nat}
end

structure FOk (n : Nat) (cs fs : List Int) : Prop where
 nodes : ∀ x ∈ fs, 0 ≤ x ∧ x < n
 cols : ∀ c ∈ cs, 0 ≤ c ∧ c ≤ 5
 few : fs.length ≤ cs.length
 lim : cs.length ≤ 1000
section
variable {k : Nat}

def FillP (n : Int) (x : Nat) (fs : List Int) : Prop := fs.length = (upto x 12).length ∧ ∀ z ∈ fs, 0 ≤ z ∧ z ≤ n - 1
instance (n : Int) (x : Nat) (fs : List Int) : Decidable (FillP n x fs) := by unfold FillP; infer_instance

theorem getD_at {l : List Int} {i : Nat} (hi : i < l.length) : l.getD i 0 = l[i] := by rw [List.getD_eq_getElem?_getD, List.getElem?_eq_getElem hi]; rfl
end

def pickN (free : List Int) (c : Int) : Int := free.getD (rem c (free.length : Int)).toNat 0
theorem pick_rem {free : List Int} {c : Int} (hf : 0 < free.length) (hc : 0 ≤ c) : 0 ≤ rem c (free.length : Int) ∧ (rem c (free.length : Int)).toNat < free.length := by
 unfold rem
 rw [Int.tmod_eq_emod_of_nonneg hc]
 have h1 := Int.emod_nonneg c (b := (free.length : Int)) (by omega)
 have h2 := Int.emod_lt_of_pos c (b := (free.length : Int)) (by omega)
 omega
theorem pick_mem {free : List Int} {c : Int} (hf : 0 < free.length) (hc : 0 ≤ c) : pickN free c ∈ free := by
 have := pick_rem hf hc
 unfold pickN
 rw [getD_at this.2]; exact List.getElem_mem _
section
variable {k : Nat}
def MakesP (x : Nat) (o ch : List Int) : Prop := o.Perm (upto x 12) ∧ (∀ c ∈ ch, 0 ≤ c) ∧ ch.length = o.length
instance (x : Nat) (o ch : List Int) : Decidable (MakesP x o ch) := by unfold MakesP; infer_instance
end

section
variable {k : Nat}
end

def B (l : List UInt8) : ByteArray := ⟨l.toArray⟩
def upTo (c : UInt8) (l : List UInt8) : List UInt8 := l.takeWhile (· != c)
section
variable {k : Nat}

def sumG (l : List UInt8) (i : Nat) (h : Int) : Int := rem (w64 ((w64 ((w64 (41 * h)) + (IntKind.i64.wrap ((l.getD i 0).toNat : Int)))) + 1)) 999979
def sumP (l : List UInt8) : Int := itr (sumG l) l.length 0 7
def sealL (l : List UInt8) : List UInt8 := l ++ [35] ++ Lib.itoa (sumP l)

def ahead (n : Nat) : List UInt8 := Lib.itoa (n : Int) ++ [32]

open Classical in
noncomputable def decP (n : Nat) (l : List UInt8) : Option (List UInt8 × List UInt8) :=
 if (upTo 35 l).take (ahead n).length = ahead n ∧ 64 ∈ (upTo 35 l).drop (ahead n).length ∧
  isRecord (B (upTo 64 ((upTo 35 l).drop (ahead n).length))) (B (((upTo 35 l).drop (ahead n).length).drop ((upTo 64 ((upTo 35 l).drop (ahead n).length)).length + 1))) ∧ sealL (upTo 35 l) = l
 then some (upTo 64 ((upTo 35 l).drop (ahead n).length), ((upTo 35 l).drop (ahead n).length).drop ((upTo 64 ((upTo 35 l).drop (ahead n).length)).length + 1)) else none
end

section
variable {k : Nat}
end

section
variable {k : Nat}
end


theorem subB_iff {c a : Nat} : subB c a = true ↔ ∀ t, c.testBit t = true → a.testBit t = true := by
  unfold subB
  rw [beq_iff_eq]
  constructor
  · intro h t ht
    rw [← h, Nat.testBit_and] at ht
    simp at ht; exact ht.2
  · intro h
    apply Nat.eq_of_testBit_eq
    intro t
    rw [Nat.testBit_and]
    cases c1 : c.testBit t with
    | false => rfl
    | true => rw [h t c1]; rfl
theorem subB_trans {a b c : Nat} (h1 : subB a b = true) (h2 : subB b c = true) : subB a c = true :=
 subB_iff.2 fun t ht => subB_iff.1 h2 t (subB_iff.1 h1 t ht)
theorem goes_mono {a b h h' : Int} (hs : subB h.toNat h'.toNat = true) {x : Door} (hg : goes a b h x = true) : goes a b h' x = true := by
 unfold goes at hg ⊢
 rw [Bool.and_eq_true] at hg ⊢
 exact ⟨hg.1, subB_trans hg.2 hs⟩
theorem Rch.mono {d : List Door} {h h' x z : Int} (hs : subB h.toNat h'.toNat = true) (hr : Rch d h x z) : Rch d h' x z := by
  induction hr with
  | here => exact .here
  | step _ hg ih =>
    refine .step ih ?_
    obtain ⟨y, hy, hg⟩ := List.any_eq_true.1 hg
    exact List.any_eq_true.2 ⟨y, hy, goes_mono hs hg⟩
section
variable {k : Nat}
end

def FewP (n : Int) (d : List Door) (ks : List Int) (h : Int) : Prop := (IsMaze n d ks ∧ 0 ≤ h ∧ h ≤ 63) ∧ n ≤ 8 ∧ (upto h.toNat 12).length ≤ 4
instance (n : Int) (d : List Door) (ks : List Int) (h : Int) : Decidable (FewP n d ks h) := by unfold FewP; infer_instance
section
variable {k : Nat}
end
section
variable {k : Nat}
end

section
variable {k : Nat}
end

variable {k : Nat} {c : List By} {a s : Int}

variable {k : Nat} {c : List By} {a s : Int}

section
variable {k : Nat}
def AskF (n : Int) (d : List Door) (ks : List Int) (h : Int) (fs : List Int) : Prop := (IsMaze n d ks ∧ 0 ≤ h ∧ h ≤ 63) ∧ FillP n h.toNat fs
instance (n : Int) (d : List Door) (ks : List Int) (h : Int) (fs : List Int) : Decidable (AskF n d ks h fs) := by unfold AskF; infer_instance
end

variable {k : Nat} {c : List By} {a s : Int}

def StP (n : Int) (d : List Door) (ks tr : List Int) (x s : Int) : Prop := IsTrapP n d ks tr ∧ (0 ≤ x ∧ x ≤ n - 1) ∧ 0 ≤ s ∧ s ≤ 63
noncomputable instance (n : Int) (d : List Door) (ks tr : List Int) (x s : Int) : Decidable (StP n d ks tr x s) := Classical.propDecidable _

variable {k : Nat}

variable {k : Nat} {c : List By} {a s : Int}
def SwF (n : Int) (d : List Door) (ks : List Int) (h : Int) (fs : List Int) (a b : Int) : Prop := AskF n d ks h fs ∧ a ≠ b ∧ a ∈ upto h.toNat 12 ∧ b ∈ upto h.toNat 12
instance (n : Int) (d : List Door) (ks : List Int) (h : Int) (fs : List Int) (a b : Int) : Decidable (SwF n d ks h fs a b) := by unfold SwF; infer_instance

variable {k : Nat} {c : List By}

variable {k : Nat}

variable {k : Nat} {c : List By} {a s : Int}

variable {k : Nat} {c : List By}

variable {k : Nat} {c : List By} {a s : Int}

variable {k : Nat} {c : List By} {a s : Int}

variable {k : Nat} {ms : List MazeT} {os : List (List Int)} {rel : Bool}

structure Le6 (a b : List Int) : Prop where
 len : b.length = a.length
 ra : ∀ x ∈ a, 0 ≤ x ∧ x ≤ 63
 rb : ∀ x ∈ b, 0 ≤ x ∧ x ≤ 63
 sub : ∀ j, subB (a.getD j 0).toNat (b.getD j 0).toNat = true

variable {k : Nat} {c : List By} {a s : Int} {ms : List MazeT} {os : List (List Int)}

variable {k : Nat} {c : List By} {a s : Int} {ms : List MazeT} {os : List (List Int)}

structure Rows (S : List (List Int)) (n : Nat) : Prop where
 few : S.length ≤ 300 ∧ n ≤ 100
 len : ∀ r (h : r < S.length), S[r].length = n
 up : ∀ r (h : r + 1 < S.length) j (h1 : j < S[r].length) (h2 : j < S[r + 1].length), band S[r + 1][j] S[r][j] = S[r][j]

variable {k : Nat} {c : List By} {a s : Int} {n : Int} {d : List Door} {ks l : List Int} {u : Int}
def nowH (n : Int) (d : List Door) (ks l : List Int) : Int := (takenP n d ks l).1.getD (l.length - 1) 0
structure Walked (n : Int) (d : List Door) (ks l : List Int) : Prop where
 pos : 0 < l.length
 rng : 0 ≤ nowH n d ks l ∧ nowH n d ks l ≤ 63
 node : ∀ x ∈ l, 0 ≤ x ∧ x ≤ n - 1
 sub : subB (nowH n d ks l).toNat (lastH d ks 64 0).toNat = true
 rch : ∀ x ∈ l, Rch d (lastH d ks 64 0) 0 x
 st : itx (takeG n d ks l) l.length 0 ([], 0) = .inl ((takenP n d ks l).1, nowH n d ks l)

variable {k : Nat} {c : List By} {a s : Int} {n : Int} {d : List Door} {ks l : List Int} {u : Int}

variable {k : Nat} {n : Int} {d : List Door} {ks l : List Int} {u : Int}

variable {k : Nat} {n : Int} {d : List Door} {ks : List Int}

variable {k : Nat} {n : Int} {d : List Door} {ks : List Int}
def keysN (ks : List Int) (N : Nat) : Int := gain ks (upto N 12) 0
structure Grown (d : List Door) (ks : List Int) (A R : Nat) : Prop where
 zero : R.testBit 0 = true
 sub : ∀ t, R.testBit t = true → A.testBit t = true
 all : ∀ Q : Nat → Prop, Q 0 → (∀ X : Nat, (∀ t, X.testBit t = true → Q t ∧ A.testBit t = true) → ∀ z ∈ upto X 12, ∀ t : Nat, d.any (goes z (t : Int) (keysN ks X)) = true → A.testBit t = true → Q t) → ∀ t, R.testBit t = true → Q t

variable {k : Nat} {n : Int} {d : List Door} {ks : List Int}

variable {k : Nat} {n : Int} {d : List Door} {ks : List Int}

variable {k : Nat} {n : Int} {d : List Door} {ks : List Int} {h : Int}

variable {k : Nat} {n : Int} {d : List Door} {ks : List Int} {h : Int} {c : List By}

variable {k : Nat} {ms : List MazeT} {os : List (List Int)} {rel : Bool}

variable {k : Nat} {ms ms' : List MazeT} {os os' : List (List Int)} {rel : Bool}
structure Moved (ms ms' : List MazeT) (os os' : List (List Int)) (s : Nat → Nat) : Prop where
 len : ms'.length = ms.length
 to : ∀ i, i < ms.length → s i < ms.length
 inj : ∀ i j, i < ms.length → j < ms.length → s i = s j → i = j
 onto : ∀ j, j < ms.length → ∃ i, i < ms.length ∧ s i = j
 mz : ∀ i, i < ms.length → mzD ms' i = mzD ms (s i)
 own : ∀ i, i < ms.length → ∀ x, x < szW ms (s i) → 0 ≤ (os'.getD i []).getD x 0 ∧ ((os'.getD i []).getD x 0).toNat < ms.length ∧ s ((os'.getD i []).getD x 0).toNat = ((os.getD (s i) []).getD x 0).toNat

variable {k : Nat}

variable {k : Nat}

variable {n : Int} {d : List Door} {ks : List Int}

variable {k : Nat}

variable {k : Nat} {n : Int} {d : List Door} {ks : List Int}

variable {k : Nat} {n : Int} {d : List Door} {ks : List Int}

variable {k : Nat} {c : List By}

variable {k : Nat} {ms : List MazeT} {os : List (List Int)}

variable {k : Nat} {ms : List MazeT} {os : List (List Int)}
end Go.Proofs

namespace Go.Proofs
open Go Go.Ga Go.Ga.Wf
set_option linter.unusedVariables false
set_option linter.unusedSimpArgs false
set_option maxHeartbeats 4000000
variable {k : Nat} {ms : List MazeT} {os : List (List Int)}
end Go.Proofs

namespace Go.Proofs
open Go Go.Ga Go.Ga.Wf
set_option linter.unusedVariables false
set_option linter.unusedSimpArgs false
theorem split_at {l : List Int} (h : l.Pairwise (· < ·)) (c : Int) : l.take (l.countP fun y => decide (y < c)) = l.filter (fun y => decide (y < c)) ∧ l.drop (l.countP fun y => decide (y < c)) = l.filter (fun y => decide (c ≤ y)) := by
  induction l with
  | nil => exact ⟨rfl, rfl⟩
  | cons x l ih =>
    rw [List.pairwise_cons] at h
    by_cases hx : x < c
    · obtain ⟨h1, h2⟩ := ih h.2
      have hx2 : ¬ c ≤ x := by omega
      rw [List.countP_cons_of_pos (by simpa using hx), List.filter_cons_of_pos (by simpa using hx), List.filter_cons_of_neg (by simpa using hx2), List.take_succ_cons, List.drop_succ_cons, h1, h2]
      exact ⟨rfl, rfl⟩
    · have hall : ∀ y ∈ x :: l, c ≤ y := fun y hy => by
        rcases List.mem_cons.1 hy with rfl | hy
        · omega
        · have := h.1 y hy; omega
      have h0 : (x :: l).countP (fun y => decide (y < c)) = 0 := List.countP_eq_zero.2 fun y hy => by have := hall y hy; simp; omega
      rw [h0]
      refine ⟨?_, ?_⟩
      · rw [List.take_zero]; symm; rw [List.filter_eq_nil_iff]; intro y hy; have := hall y hy; simp; omega
      · rw [List.drop_zero]; symm; rw [List.filter_eq_self]; intro y hy; have := hall y hy; simpa using this
def tog (l : List Int) (c : Int) : List Int := if c ∈ l then l.filter (fun y => decide (y < c)) ++ l.filter (fun y => decide (c < y)) else l.filter (fun y => decide (y < c)) ++ [c] ++ l.filter (fun y => decide (c < y))
theorem mem_tog {l : List Int} {c x : Int} : x ∈ tog l c ↔ (x ∈ l ∧ x ≠ c) ∨ (x = c ∧ c ∉ l) := by
 unfold tog
 split <;> rename_i h
 ·simp only [List.mem_append, List.mem_filter, decide_eq_true_eq]
  constructor
  ·rintro (⟨h1, h2⟩ | ⟨h1, h2⟩)
   ·exact .inl ⟨h1, by omega⟩
   ·exact .inl ⟨h1, by omega⟩
  ·rintro (⟨h1, h2⟩ | ⟨_, h2⟩)
   ·rcases Int.lt_or_gt_of_ne h2 with h3 | h3
    ·exact .inl ⟨h1, h3⟩
    ·exact .inr ⟨h1, h3⟩
   ·exact absurd h h2
 ·simp only [List.mem_append, List.mem_filter, decide_eq_true_eq, List.mem_singleton]
  constructor
  ·rintro ((⟨h1, h2⟩ | h1) | ⟨h1, h2⟩)
   ·exact .inl ⟨h1, by omega⟩
   ·exact .inr ⟨h1, h⟩
   ·exact .inl ⟨h1, by omega⟩
  ·rintro (⟨h1, h2⟩ | ⟨h2, _⟩)
   ·rcases Int.lt_or_gt_of_ne h2 with h3 | h3
    ·exact .inl (.inl ⟨h1, h3⟩)
    ·exact .inr ⟨h1, h3⟩
   ·exact .inl (.inr h2)
theorem tog_sorted {l : List Int} (h : l.Pairwise (· < ·)) (c : Int) : (tog l c).Pairwise (· < ·) := by
 have h1 : ∀ p : Int → Bool, (l.filter p).Pairwise (· < ·) := fun p => h.filter p
 unfold tog
 split
 ·refine List.pairwise_append.2 ⟨h1 _, h1 _, fun x hx y hy => ?_⟩
  simp only [List.mem_filter, decide_eq_true_eq] at hx hy; omega
 ·refine List.pairwise_append.2 ⟨List.pairwise_append.2 ⟨h1 _, List.pairwise_singleton _ _, fun x hx y hy => ?_⟩, h1 _, fun x hx y hy => ?_⟩
  ·simp only [List.mem_filter, decide_eq_true_eq, List.mem_singleton] at hx hy; omega
  ·simp only [List.mem_append, List.mem_filter, decide_eq_true_eq, List.mem_singleton] at hx hy; omega
theorem tog_ins {l : List Int} (h : l.Pairwise (· < ·)) {c : Int} (hc : c ∉ l) : l.take (l.countP fun y => decide (y < c)) ++ [c] ++ l.drop (l.countP fun y => decide (y < c)) = tog l c := by
 obtain ⟨h1, h2⟩ := split_at h c
 unfold tog
 rw [if_neg hc, h1, h2]
 congr 1
 refine List.filter_congr fun y hy => ?_
 have : y ≠ c := fun e => hc (e ▸ hy)
 rw [decide_eq_decide]; omega
theorem tog_del {l : List Int} (h : l.Pairwise (· < ·)) {c : Int} (hc : c ∈ l) : (l.countP fun y => decide (y < c)) < l.length ∧ l.take (l.countP fun y => decide (y < c)) ++ l.drop ((l.countP fun y => decide (y < c)) + 1) = tog l c := by
 obtain ⟨h1, h2⟩ := split_at h c
 have h3 : l.filter (fun y => decide (c ≤ y)) = c :: l.filter (fun y => decide (c < y)) := by
  refine sorted_ext (h.filter _) ?_ fun x => ?_
  ·rw [List.pairwise_cons]
   exact ⟨fun y hy => by simpa using (List.mem_filter.1 hy).2, h.filter _⟩
  ·simp only [List.mem_cons, List.mem_filter, decide_eq_true_eq]
   constructor
   ·rintro ⟨h4, h5⟩
    rcases Int.lt_or_eq_of_le h5 with h6 | h6
    ·exact .inr ⟨h4, h6⟩
    ·exact .inl h6.symm
   ·rintro (rfl | ⟨h4, h5⟩)
    ·exact ⟨hc, Int.le_refl _⟩
    ·exact ⟨h4, by omega⟩
 rw [h3] at h2
 refine ⟨?_, ?_⟩
 ·have := congrArg List.length h2
  rw [List.length_drop, List.length_cons] at this; omega
 ·rw [h1, ← List.drop_drop, h2, List.drop_one, List.tail_cons]
  unfold tog; rw [if_pos hc]
theorem tog_upto {l : List Int} (h : l.Pairwise (· < ·)) {m : Nat} (hr : ∀ y ∈ l, 0 ≤ y ∧ y < (m : Int)) {c : Int} (hc : 0 ≤ c ∧ c < (m : Int)) : appUpto (fun y => if (l.contains (y : Int) != decide ((y : Int) = c)) = true then [(y : Int)] else []) m = tog l c := by
 refine sorted_ext (upto_one_sorted (fun y => l.contains (y : Int) != decide ((y : Int) = c)) m).1 (tog_sorted h c) fun x => ?_
 rw [mem_tog]
 unfold appUpto
 rw [List.mem_flatMap]
 constructor
 ·rintro ⟨y, hy, hx⟩
  split at hx <;> rename_i hb
  ·rw [List.mem_singleton] at hx; subst hx
   by_cases e : (y : Int) = c
   ·by_cases e2 : (y : Int) ∈ l
    ·simp [e2, e] at hb; exact absurd (e ▸ e2) hb
    ·exact .inr ⟨e, e ▸ e2⟩
   ·by_cases e2 : (y : Int) ∈ l
    ·exact .inl ⟨e2, e⟩
    ·simp [e2, e] at hb
  ·cases hx
 ·intro hx
  have hx0 : 0 ≤ x ∧ x < (m : Int) := by
   rcases hx with ⟨h1, _⟩ | ⟨rfl, _⟩
   ·exact hr x h1
   ·exact hc
  obtain ⟨y, rfl⟩ := Int.eq_ofNat_of_zero_le hx0.1
  refine ⟨y, List.mem_range.2 (by omega), ?_⟩
  rw [if_pos, List.mem_singleton]
  rcases hx with ⟨h1, h2⟩ | ⟨h1, h2⟩
  ·simp [h1, h2]
  ·rw [← h1] at h2
   have e1 : l.contains (y : Int) = false := by
    rw [Bool.eq_false_iff]; intro e; exact h2 (List.contains_iff_mem.1 e)
   rw [e1, decide_eq_true h1]; rfl

variable {k : Nat} {n : Int} {d : List Door} {ks tr : List Int}

section
variable {k : Nat}
end
variable {k : Nat} {n : Int} {d : List Door} {ks tr : List Int}

section
variable {k : Nat}
theorem rising_iff {lo hi : Int} {l : List Int} : (∀ i, i < l.length → risingB lo hi l i = true) ↔ (l.Pairwise (· < ·) ∧ ∀ y ∈ l, lo ≤ y ∧ y ≤ hi) := by
  constructor
  · intro h
    have h1 : ∀ i (hi' : i < l.length), (lo ≤ l[i] ∧ l[i] ≤ hi) ∧ ∀ h0 : 0 < i, l[i - 1] < l[i] := fun i hi' => by
      have := h i hi'
      unfold risingB at this
      rw [dif_pos hi', Bool.and_eq_true, Bool.or_eq_true, decide_eq_true_eq, decide_eq_true_eq, decide_eq_true_eq] at this
      exact ⟨this.1, fun h0 => this.2.resolve_left (by omega)⟩
    refine ⟨?_, fun y hy => ?_⟩
    · rw [List.pairwise_iff_getElem]
      have key : ∀ m i (hi' : i + m + 1 < l.length), l[i] < l[i + m + 1] := by
        intro m
        induction m with
        | zero => intro i hi'; exact (h1 (i + 0 + 1) hi').2 (by omega)
        | succ m ih => intro i hi'; exact Int.lt_trans (ih i (by omega)) ((h1 (i + (m + 1) + 1) hi').2 (by omega))
      intro i j hi' hj hij
      have := key (j - i - 1) i (by omega)
      simp only [show i + (j - i - 1) + 1 = j by omega] at this
      exact this
    · obtain ⟨i, hi', rfl⟩ := List.getElem_of_mem hy
      exact (h1 i hi').1
  · rintro ⟨h1, h2⟩ i hi'
    unfold risingB
    rw [dif_pos hi', Bool.and_eq_true, Bool.or_eq_true, decide_eq_true_eq, decide_eq_true_eq, decide_eq_true_eq]
    refine ⟨h2 _ (List.getElem_mem hi'), ?_⟩
    by_cases h0 : i = 0
    · exact .inl h0
    · exact .inr (List.pairwise_iff_getElem.1 h1 (i - 1) i (by omega) hi' (by omega))
theorem trap_iff {n : Int} {d : List Door} {ks tr : List Int} : IsTrapP n d ks tr ↔ IsMaze n d ks ∧ tr.Pairwise (· < ·) ∧ ∀ y ∈ tr, 0 ≤ y ∧ y < (d.length : Int) := by
 unfold IsTrapP
 rw [rising_iff]
 constructor
 ·rintro ⟨h1, h2, h3⟩; exact ⟨h1, h2, fun y hy => by have := h3 y hy; omega⟩
 ·rintro ⟨h1, h2, h3⟩; exact ⟨h1, h2, fun y hy => by have := h3 y hy; omega⟩
theorem trap_tog {n : Int} {d : List Door} {ks tr : List Int} (hT : IsTrapP n d ks tr) {c : Int} (hc : 0 ≤ c ∧ c ≤ (d.length : Int) - 1) : IsTrapP n d ks (tog tr c) := by
 obtain ⟨h1, h2, h3⟩ := trap_iff.1 hT
 refine trap_iff.2 ⟨h1, tog_sorted h2 c, fun y hy => ?_⟩
 rcases mem_tog.1 hy with h | h
 ·exact h3 y h.1
 ·omega
theorem delete1_eq (l : List Int) (x : Nat) (hx : x < l.length) (hl : l.length ≤ 1048576) : slices_Delete_int_int.f k l (x : Int) ((x + 1 : Nat) : Int) = some (l.take x ++ l.drop (x + 1)) := by
 unfold slices_Delete_int_int.f
 rw [slc_mid l x (x + 1) (by omega) (by omega), Option.bind_some, if_neg (by simp; omega), slc_pre l x (by omega), Option.bind_some, slc_suf l (x + 1) (by omega), Option.bind_some, if_pos (by omega)]
def turnP (n : Int) (d : List Door) (ks tr : List Int) (c : Int) : Int × List Door × List Int × List Int × Bool := if IsTrapP n d ks tr ∧ 0 ≤ c ∧ c ≤ (d.length : Int) - 1 then (n, d, ks, tog tr c, true) else (0, [], [], [], false)
theorem impl_TurnDoor_eq (hk : Big ≤ k) (n : Int) (d : List Door) (ks tr : List Int) (c : Int) (hd : d.length ≤ 1048576) (hl : ks.length ≤ 1048576) (ht : tr.length ≤ 1048576) : impl_TurnDoor.f k n d ks tr c = some (turnP n d ks tr c) := by
 unfold impl_TurnDoor.f turnP
 rw [IsTrap_eq hk n d ks tr hd hl ht, Option.bind_some, within_eq, show w64 ((d.length : Int) - 1) = (d.length : Int) - 1 from w64_id (by omega) (by omega), Option.bind_some]
 by_cases h : IsTrapP n d ks tr
 rotate_left 1
 ·rw [if_neg (show ¬ (IsTrapP n d ks tr ∧ 0 ≤ c ∧ c ≤ (d.length : Int) - 1) from fun e => h e.1), decide_eq_false h]; rfl
 by_cases h2 : 0 ≤ c ∧ c ≤ (d.length : Int) - 1
 rotate_left 1
 ·rw [if_neg (show ¬ (IsTrapP n d ks tr ∧ 0 ≤ c ∧ c ≤ (d.length : Int) - 1) from fun e => h2 e.2), decide_eq_true h, decide_eq_false h2]; rfl
 rw [if_pos (show IsTrapP n d ks tr ∧ 0 ≤ c ∧ c ≤ (d.length : Int) - 1 from ⟨h, h2⟩), decide_eq_true h, decide_eq_true h2]
 obtain ⟨_, hs, hr⟩ := trap_iff.1 h
 have hs2 : tr.Pairwise (· ≤ ·) := hs.imp fun h => by omega
 simp only [Bool.not_true, Bool.false_eq_true, if_false, Option.bind_some, clone_eq tr ht, own_eq n d ks hd hl]
 unfold slices_BinarySearch_int_int.f
 rw [if_pos ⟨hs2, by omega⟩, Option.bind_some]
 have hcl := List.countP_le_length (p := fun y => decide (y < c)) (l := tr)
 by_cases hin : c ∈ tr
 ·obtain ⟨e1, e2⟩ := tog_del hs hin
  have hcon : tr.contains c = true := List.contains_iff_mem.2 hin
  simp only [hcon, if_true]
  generalize tr.countP (fun y => decide (y < c)) = q at *
  rw [show w64 ((q : Int) + 1) = ((q + 1 : Nat) : Int) from w64_id (by omega) (by omega), delete1_eq tr q e1 ht, e2]
  rfl
 ·have e1 := tog_ins hs hin
  have hcon : tr.contains c = false := by
   rw [Bool.eq_false_iff]; intro e; exact hin (List.contains_iff_mem.1 e)
  simp only [hcon, Bool.false_eq_true, if_false]
  generalize tr.countP (fun y => decide (y < c)) = q at *
  unfold slices_Insert_int_int.f
  rw [if_pos ⟨by omega, by omega, by simp, by simp; omega⟩, Int.toNat_natCast, e1]
  rfl
theorem spec_TurnDoor_eq (hk : Big ≤ k) (n : Int) (d : List Door) (ks tr : List Int) (c : Int) (hd : d.length ≤ 1048576) (hl : ks.length ≤ 1048576) (ht : tr.length ≤ 1048576) : spec_TurnDoor.f k n d ks tr c = some (turnP n d ks tr c) := by
 unfold spec_TurnDoor.f turnP
 rw [l11Trap_eq hk n d ks tr hd hl ht, Option.bind_some, in_eq, show w64 ((d.length : Int) - 1) = (d.length : Int) - 1 from w64_id (by omega) (by omega), Option.bind_some]
 by_cases h : IsTrapP n d ks tr
 rotate_left 1
 ·rw [if_neg (show ¬ (IsTrapP n d ks tr ∧ 0 ≤ c ∧ c ≤ (d.length : Int) - 1) from fun e => h e.1), decide_eq_false h]; rfl
 by_cases h2 : 0 ≤ c ∧ c ≤ (d.length : Int) - 1
 rotate_left 1
 ·rw [if_neg (show ¬ (IsTrapP n d ks tr ∧ 0 ≤ c ∧ c ≤ (d.length : Int) - 1) from fun e => h2 e.2), decide_eq_true h, decide_eq_false h2]; rfl
 rw [if_pos (show IsTrapP n d ks tr ∧ 0 ≤ c ∧ c ≤ (d.length : Int) - 1 from ⟨h, h2⟩), decide_eq_true h, decide_eq_true h2]
 obtain ⟨_, hs, hr⟩ := trap_iff.1 h
 have hup := tog_upto hs hr (m := d.length) (c := c) (by omega)
 have hloop := loop_app (l := fun q (s : List Int) i => spec_TurnDoor.l0 k d tr c q i s) d.length (fun y => if (tr.contains (y : Int) != decide ((y : Int) = c)) = true then [(y : Int)] else []) (some (tog tr c)) (fun q i hi => by
  have hle := appUpto_length (fun y : Nat => if (tr.contains (y : Int) != decide ((y : Int) = c)) = true then [(y : Int)] else []) 1 (fun i => by split <;> simp) i
  generalize appUpto (fun y : Nat => if (tr.contains (y : Int) != decide ((y : Int) = c)) = true then [(y : Int)] else []) i = s at *
  show spec_TurnDoor.l0 k d tr c (q + 1) (i : Int) s = _
  rw [spec_TurnDoor.l0, if_pos (by rw [decide_eq_true_eq]; omega), l1Has_eq hk tr _ ht, Option.bind_some, show w64 ((i : Int) + 1) = ((i + 1 : Nat) : Int) from w64_id (by omega) (by omega)]
  have e : ((i : Int) == c) = decide ((i : Int) = c) := rfl
  rw [e]
  by_cases hb : (tr.contains (i : Int) != decide ((i : Int) = c)) = true
  ·rw [if_pos hb, if_pos hb, if_pos (by simp; omega), Option.bind_some]
  ·rw [if_neg hb, if_neg hb, Option.bind_some, List.append_nil]) (fun q => by
  show spec_TurnDoor.l0 k d tr c (q + 1) (d.length : Int) _ = _
  rw [spec_TurnDoor.l0, if_neg (by simp), hup]) (k := k) (by unfold Big at hk; omega)
 simp only [Bool.not_true, Bool.false_eq_true, if_false, Option.bind_some, l2Own_eq n d ks hd hl]
 have hloop' : spec_TurnDoor.l0 k d tr c k 0 [] = some (tog tr c) := hloop
 rw [hloop', Option.bind_some]
theorem turnP_len {n : Int} {d : List Door} {ks tr : List Int} {c : Int} (hd : d.length ≤ 1048576) (hl : ks.length ≤ 1048576) :
  (turnP n d ks tr c).2.1.length ≤ 1048576 ∧ (turnP n d ks tr c).2.2.1.length ≤ 1048576 ∧ (turnP n d ks tr c).2.2.2.1.length ≤ 1048576 := by
 unfold turnP
 split <;> rename_i h
 ·refine ⟨hd, hl, ?_⟩
  obtain ⟨_, hs, hr⟩ := trap_iff.1 (trap_tog h.1 h.2)
  have hnd : (tog tr c).Nodup := hs.imp fun h => by omega
  simp only
  have h1 : (tog tr c).length ≤ (List.range d.length).length := by
   have : ((tog tr c).map Int.toNat).Nodup := by
    rw [List.nodup_iff_pairwise_ne, List.pairwise_map]
    exact hs.imp_of_mem fun {x y} hx hy hxy => by have := hr x hx; have := hr y hy; omega
   have h2 := this.length_le_of_subset (l₂ := List.range d.length) (fun z hz => by
    obtain ⟨y, hy, rfl⟩ := List.mem_map.1 hz
    have := hr y hy
    exact List.mem_range.2 (by omega))
   simpa using h2
  simp at h1; omega
 ·simp
theorem laws_FnExactTurnDoor.pure (x : Int × List (Int × Int × Int) × List Int × List Int) (y : Int) (h : wfd x) (h' : wfd y) : ∃ k, laws_FnExactTurnDoor.f k x.1 x.2.1 x.2.2.1 x.2.2.2 y = some true := by
 refine ⟨Big, ?_⟩
 have hk : Big ≤ Big := Nat.le_refl _
 obtain ⟨n, d, ks, tr⟩ := x
 have h1 : d.length ≤ maxLen := h.2.1.1
 have h2 : ks.length ≤ maxLen := h.2.2.1.1
 have h3 : tr.length ≤ maxLen := h.2.2.2.1
 unfold laws_FnExactTurnDoor.f
 simp only [szTrap_eq n d ks tr _ (by decide : (0 : Int) ≤ 1048576) (Int.le_refl _) h1 h2 h3, Option.bind_some]
 by_cases hc : ((d.length + ks.length + tr.length : Nat) : Int) ≤ 1048576
 ·have e2 := impl_TurnDoor_eq hk n d ks tr y (by omega) (by omega) (by omega)
  have e3 := spec_TurnDoor_eq hk n d ks tr y (by omega) (by omega) (by omega)
  have hb := turnP_len (n := n) (d := d) (ks := ks) (tr := tr) (c := y) (by omega) (by omega)
  generalize turnP n d ks tr y = r at *
  obtain ⟨n', d', ks', l', b⟩ := r
  simp only at hb
  have p1 : decide ((1 : Int) + 3 * d.length + ks.length + tr.length < 0) = false := decide_eq_false (by omega)
  have p2 : decide ((1 : Int) + 3 * d'.length + ks'.length + l'.length < 0) = false := decide_eq_false (by omega)
  simp only [p1, p2, szo_pos hc, Bool.false_eq_true, if_false, toTrap_eq hk n d ks tr (by omega) (by omega) (by omega), e2, e3, Option.bind_some, eqTrap_eq hk n' d' ks' l' _ _ _ _ hb.1 hb.2.1 hb.2.2, eqTrap_eq hk n d ks tr n d ks tr (by omega) (by omega) (by omega), markTrap_eq hk n d ks tr 1 (by omega) (by omega) (by omega) (by omega) (by omega),
   markTrap_eq hk n' d' ks' l' 1 (by omega) (by omega) hb.1 hb.2.1 hb.2.2, heldTrap_eq hk n' d'.length ks'.length l'.length 1 (by omega) (by omega) hb.1 hb.2.1 hb.2.2]
  simp
 ·simp only [szo_neg hc, if_true]
end
end Go.Proofs

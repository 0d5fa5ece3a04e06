/- A part of the proof of FnExactHasNow: the plain law. No condition. -/
import Derived.Test.YteaphppkjcngiaaFnExactHasNowE
/- The plain law of FnExactIsValidRecord. -/
namespace Go.Proofs
open Go Go.Ga Go.Ga.Wf
set_option linter.unusedVariables false
set_option linter.unusedSimpArgs false
section
variable {k : Nat}
theorem within_eq (x a b : Int) : impl_within.f k x a b = some (decide (a ≤ x ∧ x ≤ b)) := by
  unfold impl_within.f
  by_cases h : a ≤ x <;> simp [h]
theorem in_eq (x a b : Int) : spec_l1In.f k x a b = some (decide (a ≤ x ∧ x ≤ b)) := by
  unfold spec_l1In.f
  by_cases h : a ≤ x <;> simp [h, ge_iff_le]
/-- a byte that may stand: printable, and none of these -/
def plainB (bad : List UInt8) (b : UInt8) : Bool := decide (32 ≤ (b.toNat : Int) ∧ (b.toNat : Int) ≤ 126) && !bad.contains b
theorem indexByte_ge' (l : List UInt8) (b : UInt8) : (0 ≤ Lib.indexByte l b) ↔ l.contains b = true := by
  induction l with
  | nil => simp [Lib.indexByte]
  | cons a l ih =>
    have := Lib.indexByte_ge l b
    simp only [Lib.indexByte, List.contains_cons, Bool.or_eq_true]
    by_cases h : (a == b) = true
    · simp [h]
      left; rw [beq_iff_eq] at h; exact h.symm
    · have h' : ¬ (b == a) = true := by intro e; rw [beq_iff_eq] at e; exact h (by simp [e])
      simp only [h, h', false_or, ← ih, if_false]
      by_cases h2 : (Lib.indexByte l b == -1) = true
      · rw [beq_iff_eq] at h2; simp [h2]
      · rw [if_neg h2]; rw [beq_iff_eq] at h2; omega
theorem isPlain_eq (hk : Big ≤ k) (s : ByteArray) (bad : List UInt8) (hs : s.size ≤ 1048576) :
    impl_isPlain.f k s ⟨bad.toArray⟩ = some (decide (∀ i (h : i < s.size), plainB bad s[i] = true)) := by
  unfold impl_isPlain.f
  have := loop_all (l := impl_isPlain.l0 k s ⟨bad.toArray⟩) (N := s.size) (fun i => if h : i < s.size then plainB bad s[i] else true) (z := false) (fun n i hi => by
    rw [impl_isPlain.l0]
    have h1 : ((i : Int) < (s.size : Int)) := by omega
    have hw : w64 ((i : Int) + 1) = ((i + 1 : Nat) : Int) := w64_id (by omega) (by omega)
    simp only [h1, decide_true, if_true, bta_lt hi, Option.bind_some, wrap_byte, within_eq, hi, dite_true, hw, plainB, strings_IndexByte.f, stringslite_IndexByte.f, bytea, Int.toNat_natCast, UInt8.ofNat_toNat, Nat.toUInt8, ge_iff_le, indexByte_ge']
    by_cases h2 : 32 ≤ (s[i].toNat : Int) ∧ (s[i].toNat : Int) ≤ 126 <;> cases h3 : bad.contains s[i] <;> simp [h2, h3]) (fun n => by
    rw [impl_isPlain.l0]; simp) (k := k) (by unfold Big at hk; omega)
  rw [this]
  simp only [Option.bind_some, Lr_ite]
  by_cases h : ∀ i (h : i < s.size), plainB bad s[i] = true
  · rw [if_pos (fun i hi => by simp [hi, h i hi])]; simp [h]
  · rw [if_neg (fun H => h (fun i hi => by have := H i hi; simpa [hi] using this))]; simp [h]
theorem l12Bytes_eq (hk : Big ≤ k) (s : ByteArray) (m : Int) (hs : s.size ≤ 1048576) :
    spec_l12Bytes.f k s m = some (decide ((∀ i (h : i < s.size), plainB [35] s[i] = true) ∧ (s.size : Int) ≤ m)) := by
  unfold spec_l12Bytes.f
  have := loop_all (l := spec_l12Bytes.l0 k s) (N := s.size) (fun i => if h : i < s.size then plainB [35] s[i] else true) (z := false) (fun n i hi => by
    rw [spec_l12Bytes.l0]
    have h1 : ((i : Int) < (s.size : Int)) := by omega
    have hw : w64 ((i : Int) + 1) = ((i + 1 : Nat) : Int) := w64_id (by omega) (by omega)
    have he : (((s[i].toNat : Int)) == 35) = ([35].contains s[i]) := by
      simp only [List.contains_cons, List.contains_nil, Bool.or_false]
      rw [Bool.eq_iff_iff, beq_iff_eq, beq_iff_eq, ← UInt8.toNat_inj]
      simp; omega
    simp only [h1, decide_true, if_true, bta_lt hi, Option.bind_some, wrap_byte, in_eq, hi, dite_true, hw, plainB, he]
    by_cases h2 : 32 ≤ (s[i].toNat : Int) ∧ (s[i].toNat : Int) ≤ 126 <;> cases h3 : [35].contains s[i] <;> simp [h2, h3]) (fun n => by
    rw [spec_l12Bytes.l0]; simp) (k := k) (by unfold Big at hk; omega)
  rw [this]
  simp only [Option.bind_some, Lr_ite]
  by_cases h : ∀ i (h : i < s.size), plainB [35] s[i] = true
  · rw [if_pos (fun i hi => by simp [hi, h i hi])]; simp [h]
  · rw [if_neg (fun H => h (fun i hi => by have := H i hi; simpa [hi] using this))]; simp [h]
theorem l1Stands_eq (hk : Big ≤ k) (s : ByteArray) (c : UInt8) (hs : s.size ≤ 1048576) :
    spec_l1Stands.f k s (c.toNat : Int) = some (!decide (∀ i (h : i < s.size), s[i] ≠ c)) := by
  unfold spec_l1Stands.f
  have := loop_all (l := spec_l1Stands.l0 k s (c.toNat : Int)) (N := s.size) (fun i => if h : i < s.size then s[i] != c else true) (z := true) (fun n i hi => by
    rw [spec_l1Stands.l0]
    have h1 : ((i : Int) < (s.size : Int)) := by omega
    have hw : w64 ((i : Int) + 1) = ((i + 1 : Nat) : Int) := w64_id (by omega) (by omega)
    have he : (((s[i].toNat : Int)) == (c.toNat : Int)) = (s[i] == c) := by
      rw [Bool.eq_iff_iff, beq_iff_eq, beq_iff_eq, ← UInt8.toNat_inj]; omega
    simp only [h1, decide_true, if_true, bta_lt hi, Option.bind_some, hi, dite_true, hw, he]
    cases h3 : s[i] == c <;> simp [bne, h3]) (fun n => by
    rw [spec_l1Stands.l0]; simp) (k := k) (by unfold Big at hk; omega)
  rw [this]
  simp only [Option.bind_some, Lr_ite]
  by_cases h : ∀ i (h : i < s.size), s[i] ≠ c
  · rw [if_pos (fun i hi => by simp [hi, h i hi])]; simp [h]
  · rw [if_neg (fun H => h (fun i hi => by have := H i hi; simpa [hi] using this))]; simp [h]
theorem szLogRecord_eq (a b : ByteArray) (m : Int) (hm : m ≤ 1048576) (h0 : 0 ≤ m) (ha : a.size ≤ maxLen) (hb : b.size ≤ maxLen) :
    laws_szLogRecord.f k a b m = some (if (a.size : Int) + b.size ≤ m then m - a.size - b.size else -1) := by
  unfold laws_szLogRecord.f
  have hM : maxLen = 9223372036854775807 := by decide
  have e1 : w64 (m - a.size) = m - a.size := w64_id (by omega) (by omega)
  rw [e1]
  by_cases h1 : m - (a.size : Int) < 0
  · have : ¬ ((a.size : Int) + b.size ≤ m) := by omega
    simp [h1, this]
  · have e2 : w64 (m - a.size - b.size) = m - a.size - b.size := w64_id (by omega) (by omega)
    rw [e2]
    by_cases h2 : m - (a.size : Int) - b.size < 0
    · have : ¬ ((a.size : Int) + b.size ≤ m) := by omega
      simp [h1, h2, this]
    · have : ((a.size : Int) + b.size ≤ m) := by omega
      simp [h1, h2, this]
/-- what is a record -/
def isRecord (a b : ByteArray) : Prop := (1 ≤ a.size ∧ a.size ≤ 160 ∧ ∀ i (h : i < a.size), plainB [35, 64] a[i] = true) ∧ b.size ≤ 250 ∧ ∀ i (h : i < b.size), plainB [35] b[i] = true
open Classical in
theorem impl_IsValidRecord_eq (hk : Big ≤ k) (a b : ByteArray) (ha : a.size ≤ 1048576) (hb : b.size ≤ 1048576) : impl_IsValidRecord.f k a b = some (decide (isRecord a b)) := by
  unfold impl_IsValidRecord.f impl_isCommand.f
  have e1 := isPlain_eq hk a [35, 64] ha
  have e2 := isPlain_eq hk b [35] hb
  rw [show ByteArray.mk #[35, 64] = ⟨[35, 64].toArray⟩ from rfl, show ByteArray.mk #[35] = ⟨[35].toArray⟩ from rfl, e1, e2, within_eq]
  unfold isRecord
  by_cases h1 : (1 : Int) ≤ a.size ∧ (a.size : Int) ≤ 160
  · have h1' : 1 ≤ a.size ∧ a.size ≤ 160 := by omega
    by_cases h2 : ∀ i (h : i < a.size), plainB [35, 64] a[i] = true
    · by_cases h3 : b.size ≤ 250
      · have h3' : (b.size : Int) ≤ 250 := by omega
        simp [h1, h1', h2, h3, h3']
      · have h3' : ¬ (b.size : Int) ≤ 250 := by omega
        simp [h1, h1', h2, h3, h3']
    · simp [h1, h1', h2]
  · have h1' : ¬ (1 ≤ a.size ∧ a.size ≤ 160) := by omega
    have : ∀ q : Prop, ¬ (1 ≤ a.size ∧ a.size ≤ 160 ∧ q) := fun q h => h1' ⟨h.1, h.2.1⟩
    simp [h1, this]
open Classical in
theorem spec_IsValidRecord_eq (hk : Big ≤ k) (a b : ByteArray) (ha : a.size ≤ 1048576) (hb : b.size ≤ 1048576) : spec_IsValidRecord.f k a b = some (decide (isRecord a b)) := by
  unfold spec_IsValidRecord.f spec_l12Record.f
  have hs := l1Stands_eq hk a 64 ha
  rw [show (((64 : UInt8).toNat : Int)) = 64 from rfl] at hs
  rw [l12Bytes_eq hk a 160 ha, l12Bytes_eq hk b 250 hb, hs]
  have he : (a.toList == ByteArray.empty.toList) = decide (a.size = 0) := by
    rw [ByteArray.toList_empty, Bool.eq_iff_iff, beq_iff_eq, decide_eq_true_iff, ← List.length_eq_zero_iff, ByteArray.toList_eq]
    exact Iff.rfl
  rw [he]
  have hp : (∀ i (h : i < a.size), plainB [35, 64] a[i] = true) ↔ (∀ i (h : i < a.size), plainB [35] a[i] = true) ∧ ∀ i (h : i < a.size), a[i] ≠ 64 := by
    constructor
    · intro H
      refine ⟨fun i h => ?_, fun i h => ?_⟩ <;> have := H i h <;> simp [plainB] at this ⊢ <;> simp [this]
    · rintro ⟨H1, H2⟩ i h
      have h1 := H1 i h; have h2 := H2 i h
      simp [plainB] at h1 ⊢
      exact ⟨h1.1, h1.2, h2⟩
  unfold isRecord
  rw [hp]
  by_cases h0 : a.size = 0
  · simp [h0]
  · have h0' : 1 ≤ a.size := by omega
    by_cases h1 : ∀ i (h : i < a.size), plainB [35] a[i] = true
    · by_cases h2 : a.size ≤ 160
      · have h2' : (a.size : Int) ≤ 160 := by omega
        by_cases h3 : ∀ i (h : i < a.size), a[i] ≠ 64
        · have h3' : (∀ i (h : i < a.size), ¬ a[i] = 64) := h3
          by_cases h4 : b.size ≤ 250
          · have h4' : (b.size : Int) ≤ 250 := by omega
            simp [h0, h0', h1, h2, h2', h3', h4, h4']
          · have h4' : ¬ (b.size : Int) ≤ 250 := by omega
            simp [h0, h0', h1, h2, h2', h3', h4, h4']
        · simp [h0, h1, h2', h3]
      · have h2' : ¬ (a.size : Int) ≤ 160 := by omega
        simp [h0, h1, h2, h2']
    · simp [h0, h1]
theorem laws_FnExactIsValidRecord.pure (x : ByteArray × ByteArray) (h : wfd x) : ∃ k, laws_FnExactIsValidRecord.f k x.1 x.2 = some true := by
  refine ⟨Big, ?_⟩
  obtain ⟨a, b⟩ := x
  have ha : a.size ≤ maxLen := h.1
  have hb : b.size ≤ maxLen := h.2
  unfold laws_FnExactIsValidRecord.f
  rw [szLogRecord_eq a b _ (Int.le_refl _) (by decide) ha hb]
  by_cases hg : (a.size : Int) + b.size ≤ 1048576
  · have : ¬ (1048576 - (a.size : Int) - b.size < 0) := by omega
    simp only [Option.bind_some, if_pos hg, this, decide_false, Bool.false_eq_true, if_false, laws_toLogRecord.f, impl_IsValidRecord_eq (Nat.le_refl _) a b (by omega) (by omega), spec_IsValidRecord_eq (Nat.le_refl _) a b (by omega) (by omega)]
    simp
  · simp [hg]
end
end Go.Proofs

/- What a maze is, by the program and by the reference: the same. -/
namespace Go.Proofs
open Go Go.Ga Go.Ga.Wf
set_option linter.unusedVariables false
set_option linter.unusedSimpArgs false
abbrev Door := Int × Int × Int
def DoorOk (n : Int) (x : Door) : Prop := 0 ≤ x.1 ∧ x.1 < x.2.1 ∧ x.2.1 < n ∧ 0 ≤ x.2.2 ∧ x.2.2 ≤ 63
def DoorLt (a b : Door) : Prop := a.1 < b.1 ∨ (a.1 = b.1 ∧ (a.2.1 < b.2.1 ∨ (a.2.1 = b.2.1 ∧ a.2.2 < b.2.2)))
instance (n : Int) (x : Door) : Decidable (DoorOk n x) := by unfold DoorOk; infer_instance
instance (a b : Door) : Decidable (DoorLt a b) := by unfold DoorLt; infer_instance
def doorB (n : Int) (d : List Door) (i : Nat) : Bool := if h : i < d.length then decide (DoorOk n d[i]) && (decide (i = 0) || decide (DoorLt d[i - 1] d[i])) else true
def setB (ks : List Int) (i : Nat) : Bool := if h : i < ks.length then decide (0 ≤ ks[i] ∧ ks[i] ≤ 63) else true
def IsMaze (n : Int) (d : List Door) (ks : List Int) : Prop :=
  1 ≤ n ∧ n ≤ 12 ∧ d.length ≤ 30 ∧ (ks.length : Int) = n ∧ (∀ i, i < d.length → doorB n d i = true) ∧ ∀ i, i < ks.length → setB ks i = true
instance (n : Int) (d : List Door) (ks : List Int) : Decidable (IsMaze n d ks) := by unfold IsMaze; infer_instance
section
variable {k : Nat}
def cmpI (x y : Int) : Int := if x < y then -1 else if x > y then 1 else 0
theorem compare_eq (x y : Int) : cmp_Compare_int.f k x y = some (cmpI x y) := by
  unfold cmp_Compare_int.f cmp_isNaN_int.f cmpI
  simp only [bne_self_eq_false, Option.bind_some, Bool.false_eq_true, if_false, decide_eq_true_eq]
  repeat' split
  all_goals rfl
theorem or3_eq (hk : Big ≤ k) (x y z : Int) : cmp_Or_int.f k [x, y, z] = some (if x ≠ 0 then x else if y ≠ 0 then y else z) := by
  obtain ⟨n, rfl⟩ := big_split hk
  unfold cmp_Or_int.f
  by_cases h1 : x = 0 <;> by_cases h2 : y = 0 <;> by_cases h3 : z = 0 <;>
    simp [cmp_Or_int.l0, w64_1, w64_2, w64_3, rdl3_0, rdl3_1, rdl3_2, h1, h2, h3, Lr]
theorem compareDoors_eq (hk : Big ≤ k) (x y : Door) : ∃ c, impl_compareDoors.f k x.1 x.2.1 x.2.2 y.1 y.2.1 y.2.2 = some c ∧ (c ≥ 0 ↔ ¬ DoorLt x y) ∧ (c = 0 ↔ x = y) := by
  unfold impl_compareDoors.f
  refine ⟨_, by simp only [compare_eq, Option.bind_some, or3_eq hk]; rfl, ?_, ?_⟩
  · unfold DoorLt cmpI
    repeat' split
    all_goals omega
  · obtain ⟨a, b, c⟩ := x; obtain ⟨a', b', c'⟩ := y
    simp only [Prod.mk.injEq]
    unfold cmpI
    repeat' split
    all_goals omega
theorem before_eq (hk : Big ≤ k) (x y : Door) : spec_l2Before.f k x.1 x.2.1 x.2.2 y.1 y.2.1 y.2.2 = some (decide (DoorLt x y)) := by
  obtain ⟨n, rfl⟩ := big_split hk
  obtain ⟨a, b, c⟩ := x; obtain ⟨a', b', c'⟩ := y
  unfold spec_l2Before.f DoorLt
  by_cases h1 : a = a' <;> by_cases h2 : b = b' <;> by_cases h3 : c = c' <;>
    simp [spec_l2Before.l0, w64_1, w64_2, w64_3, rdl3_0, rdl3_1, rdl3_2, h1, h2, h3, Lr]
theorem isSet_eq (x : Int) : impl_isSet.f k x = some (decide (0 ≤ x ∧ x ≤ 63)) := by unfold impl_isSet.f; rw [within_eq]; rfl
theorem l2Set_eq (x : Int) : spec_l2Set.f k x = some (decide (0 ≤ x ∧ x ≤ 63)) := by unfold spec_l2Set.f; rw [in_eq]; rfl
theorem containsFunc_eq (hk : Big ≤ k) (l : List Int) (hl : l.length ≤ 1048576) (p : Int → Option Bool) (q : Int → Bool) (hp : ∀ x ∈ l, p x = some (q x)) :
    slices_ContainsFunc_int_int.f k l p = some (l.any q) := by
  unfold slices_ContainsFunc_int_int.f slices_IndexFunc_int_int.f
  have := loop_find (l := slices_IndexFunc_int_int.l0 k l p) (N := l.length) (fun i => if h : i < l.length then (if q l[i] = true then some (i : Int) else none) else none) (z := .inl ()) (fun n i hi => by
    rw [slices_IndexFunc_int_int.l0]
    have h1 : ((i : Int) < (l.length : Int)) := by omega
    have hw : w64 ((i : Int) + 1) = ((i + 1 : Nat) : Int) := w64_id (by omega) (by omega)
    simp only [h1, decide_true, if_true, rdl_lt hi, Option.bind_some, hw, hp _ (List.getElem_mem hi), hi, dite_true]
    cases q l[i] <;> simp) (fun n => by rw [slices_IndexFunc_int_int.l0]; simp) (k := k) (by unfold Big at hk; omega)
  rw [this, Option.bind_some]
  cases hf : (List.range l.length).findSome? (fun i => if h : i < l.length then (if q l[i] = true then some (i : Int) else none) else none) with
  | none =>
    simp only [Lr, Option.bind_some]
    rw [List.findSome?_eq_none_iff] at hf
    have : l.any q = false := by
      rw [List.any_eq_false]
      intro x hx
      obtain ⟨i, hi, rfl⟩ := List.getElem_of_mem hx
      have := hf i (List.mem_range.2 hi)
      simpa [hi] using this
    simp [this]
  | some r =>
    simp only [Lr, Option.bind_some]
    obtain ⟨i, hi, h⟩ := List.exists_of_findSome?_eq_some hf
    have hi' := List.mem_range.1 hi
    simp only [hi', dite_true] at h
    split at h
    · rename_i h1; cases h
      have : l.any q = true := List.any_eq_true.2 ⟨_, List.getElem_mem hi', h1⟩
      simp [this]
    · cases h
theorem IsMaze_eq (hk : Big ≤ k) (n : Int) (d : List Door) (ks : List Int) (hd : d.length ≤ 1048576) (hl : ks.length ≤ 1048576) : impl_IsMaze.f k n d ks = some (decide (IsMaze n d ks)) := by
  unfold impl_IsMaze.f
  have hloop := loop_all (l := impl_IsMaze.l0 k n d) (N := d.length) (doorB n d) (z := false) (fun m i hi => by
    rw [impl_IsMaze.l0]
    have h1 : ((i : Int) < (d.length : Int)) := by omega
    have hw : w64 ((i : Int) + 1) = ((i + 1 : Nat) : Int) := w64_id (by omega) (by omega)
    simp only [h1, decide_true, if_true, rdl_lt hi, Option.bind_some, hw, isSet_eq]
    unfold doorB DoorOk
    rw [dif_pos hi]
    by_cases c1 : d[i].1 < 0
    · simp [c1, show ¬ (0 ≤ d[i].1) by omega]
    by_cases c2 : d[i].1 ≥ d[i].2.1
    · simp [c1, c2, show ¬ (d[i].1 < d[i].2.1) by omega]
    by_cases c3 : d[i].2.1 ≥ n
    · simp [c1, c2, c3, show ¬ (d[i].2.1 < n) by omega]
    by_cases c4 : 0 ≤ d[i].2.2 ∧ d[i].2.2 ≤ 63
    · have c : (0 ≤ d[i].1 ∧ d[i].1 < d[i].2.1 ∧ d[i].2.1 < n ∧ 0 ≤ d[i].2.2 ∧ d[i].2.2 ≤ 63) := ⟨by omega, by omega, by omega, c4⟩
      rcases Nat.eq_zero_or_pos i with rfl | hp
      · simp [c1, c2, c3, c4, c]
      · have e1 : w64 ((i : Int) - 1) = ((i - 1 : Nat) : Int) := by rw [w64_id (by omega) (by omega)]; omega
        have hi1 : i - 1 < d.length := by omega
        obtain ⟨cc, hc1, hc2, _⟩ := compareDoors_eq hk d[i - 1] d[i]
        have hp' : (i : Int) > 0 := by omega
        have hne : ¬ i = 0 := by omega
        simp only [c1, c2, c3, c4, decide_false, Bool.false_eq_true, if_false, decide_true, Bool.not_true, hp', if_true, e1, rdl_lt hi1, Option.bind_some, hc1, c, hne, Bool.true_and, Bool.false_or, and_self]
        by_cases hlt : DoorLt d[i - 1] d[i]
        · have : ¬ cc ≥ 0 := fun h => hc2.1 h hlt
          simp [hlt, this]
        · have : cc ≥ 0 := hc2.2 hlt
          simp [hlt, this]
    · simp [c1, c2, c3, c4, show ¬ (0 ≤ d[i].1 ∧ d[i].1 < d[i].2.1 ∧ d[i].2.1 < n ∧ 0 ≤ d[i].2.2 ∧ d[i].2.2 ≤ 63) from fun h => c4 h.2.2.2])
    (fun m => by rw [impl_IsMaze.l0]; simp) (k := k) (by unfold Big at hk; omega)
  rw [hloop, containsFunc_eq hk ks hl _ (fun x => !decide (0 ≤ x ∧ x ≤ 63)) (fun x _ => by simp [impl_IsMaze_1.f, isSet_eq]), within_eq]
  have hset : (∀ i, i < ks.length → setB ks i = true) ↔ ks.any (fun x => !decide (0 ≤ x ∧ x ≤ 63)) = false := by
    rw [List.any_eq_false]
    constructor
    · intro H x hx
      obtain ⟨i, hi, rfl⟩ := List.getElem_of_mem hx
      have := H i hi; simpa [setB, hi] using this
    · intro H i hi
      have := H _ (List.getElem_mem hi); simpa [setB, hi] using this
  simp only [Option.bind_some, Lr_ite]
  by_cases c1 : 1 ≤ n ∧ n ≤ 12
  rotate_left 1
  · have : ¬ IsMaze n d ks := fun h => c1 ⟨h.1, h.2.1⟩
    simp [c1, this]
  by_cases c2 : (d.length : Int) > 30
  · have : ¬ IsMaze n d ks := fun h => by have := h.2.2.1; omega
    simp [c1, c2, this]
  by_cases c3 : (ks.length : Int) = n
  rotate_left 1
  · have : ¬ IsMaze n d ks := fun h => c3 h.2.2.2.1
    simp [c1, c2, c3, this]
  by_cases c4 : ∀ i, i < d.length → doorB n d i = true
  rotate_left 1
  · have : ¬ IsMaze n d ks := fun h => c4 h.2.2.2.2.1
    simp only [c1, c2, c3, c4, this, decide_true, Bool.not_true, Bool.false_eq_true, if_false, decide_false, bne_self_eq_false, Option.bind_some, and_self]
  cases c5 : ks.any (fun x => !decide (0 ≤ x ∧ x ≤ 63)) with
  | true =>
    have : ¬ IsMaze n d ks := fun h => by have := hset.1 h.2.2.2.2.2; rw [c5] at this; cases this
    simp only [c1, c2, c3, c4, this, decide_true, Bool.not_true, Bool.false_eq_true, if_false, decide_false, bne_self_eq_false, Option.bind_some, and_self, if_true]
    simp
  | false =>
    have : IsMaze n d ks := ⟨c1.1, c1.2, by omega, c3, c4, hset.2 c5⟩
    simp only [c1, c2, c3, c4, this, decide_true, Bool.not_true, Bool.false_eq_true, if_false, decide_false, bne_self_eq_false, Option.bind_some, and_self, if_true]
    simp; exact c4
theorem l2Maze_eq (hk : Big ≤ k) (n : Int) (d : List Door) (ks : List Int) (hd : d.length ≤ 1048576) (hl : ks.length ≤ 1048576) : spec_l2Maze.f k n d ks = some (decide (IsMaze n d ks)) := by
  unfold spec_l2Maze.f
  rw [in_eq]
  by_cases c1 : 1 ≤ n ∧ n ≤ 12
  rotate_left 1
  · have : ¬ IsMaze n d ks := fun h => c1 ⟨h.1, h.2.1⟩
    simp [c1, this]
  by_cases c2 : (d.length : Int) > 30
  · have : ¬ IsMaze n d ks := fun h => by have := h.2.2.1; omega
    simp [c1, c2, this]
  by_cases c3 : (ks.length : Int) = n
  rotate_left 1
  · have : ¬ IsMaze n d ks := fun h => c3 h.2.2.2.1
    simp [c1, c2, c3, this]
  have e0 : w64 (n - 1) = n - 1 := w64_id (by omega) (by omega)
  have hloop := loop_all (l := spec_l2Maze.l0 k n d) (N := d.length) (doorB n d) (z := false) (fun m i hi => by
    rw [spec_l2Maze.l0]
    have h1 : ((i : Int) < (d.length : Int)) := by omega
    have hw : w64 ((i : Int) + 1) = ((i + 1 : Nat) : Int) := w64_id (by omega) (by omega)
    simp only [h1, decide_true, if_true, rdl_lt hi, Option.bind_some, hw, l2Set_eq, in_eq, e0]
    unfold doorB DoorOk
    rw [dif_pos hi]
    by_cases b1 : 0 ≤ d[i].1 ∧ d[i].1 ≤ n - 1
    rotate_left 1
    · have nn : ¬ (0 ≤ d[i].1 ∧ d[i].1 < d[i].2.1 ∧ d[i].2.1 < n ∧ 0 ≤ d[i].2.2 ∧ d[i].2.2 ≤ 63) := fun h => b1 ⟨h.1, by omega⟩
      rw [decide_eq_false nn]
      simp only [b1, decide_true, decide_false, Bool.not_true, Bool.not_false, Bool.false_eq_true, if_false, if_true, Bool.false_and, and_self, Option.bind_some]
    have e1 : w64 (d[i].1 + 1) = d[i].1 + 1 := w64_id (by omega) (by omega)
    rw [e1]
    by_cases b2 : d[i].1 + 1 ≤ d[i].2.1 ∧ d[i].2.1 ≤ n - 1
    rotate_left 1
    · have nn : ¬ (0 ≤ d[i].1 ∧ d[i].1 < d[i].2.1 ∧ d[i].2.1 < n ∧ 0 ≤ d[i].2.2 ∧ d[i].2.2 ≤ 63) := fun h => b2 ⟨by omega, by omega⟩
      rw [decide_eq_false nn]
      simp only [b1, b2, decide_true, decide_false, Bool.not_true, Bool.not_false, Bool.false_eq_true, if_false, if_true, Bool.false_and, and_self, Option.bind_some]
    by_cases b3 : 0 ≤ d[i].2.2 ∧ d[i].2.2 ≤ 63
    rotate_left 1
    · have nn : ¬ (0 ≤ d[i].1 ∧ d[i].1 < d[i].2.1 ∧ d[i].2.1 < n ∧ 0 ≤ d[i].2.2 ∧ d[i].2.2 ≤ 63) := fun h => b3 h.2.2.2
      rw [decide_eq_false nn]
      simp only [b1, b2, b3, decide_true, decide_false, Bool.not_true, Bool.not_false, Bool.false_eq_true, if_false, if_true, Bool.false_and, and_self, Option.bind_some]
    have c : (0 ≤ d[i].1 ∧ d[i].1 < d[i].2.1 ∧ d[i].2.1 < n ∧ 0 ≤ d[i].2.2 ∧ d[i].2.2 ≤ 63) := ⟨by omega, by omega, by omega, b3⟩
    rcases Nat.eq_zero_or_pos i with rfl | hp
    · simp [b1, b2, b3, c]
    · have e2 : w64 ((i : Int) - 1) = ((i - 1 : Nat) : Int) := by rw [w64_id (by omega) (by omega)]; omega
      have hi1 : i - 1 < d.length := by omega
      have hp' : (i : Int) > 0 := by omega
      have hne : ¬ i = 0 := by omega
      simp only [b1, b2, b3, decide_false, Bool.false_eq_true, if_false, decide_true, Bool.not_true, hp', if_true, e2, rdl_lt hi1, Option.bind_some, before_eq hk, c, hne, Bool.true_and, Bool.false_or, and_self]
      by_cases hlt : DoorLt d[i - 1] d[i] <;> simp [hlt])
    (fun m => by rw [spec_l2Maze.l0]; simp) (k := k) (by unfold Big at hk; omega)
  have hn : (ks.length : Int) = n := c3
  have hloop2 := loop_all (l := spec_l2Maze.l1 k n ks) (N := ks.length) (setB ks) (z := false) (fun m i hi => by
    rw [spec_l2Maze.l1]
    have h1 : ((i : Int) < n) := by omega
    have hw : w64 ((i : Int) + 1) = ((i + 1 : Nat) : Int) := w64_id (by omega) (by omega)
    simp only [h1, decide_true, if_true, rdl_lt hi, Option.bind_some, hw, l2Set_eq, setB, hi, dite_true]
    by_cases hs : 0 ≤ ks[i] ∧ ks[i] ≤ 63 <;> simp [hs])
    (fun m => by rw [spec_l2Maze.l1]; simp [hn]) (k := k) (by unfold Big at hk; omega)
  rw [hloop, hloop2]
  simp only [Option.bind_some, Lr_ite]
  by_cases c4 : ∀ i, i < d.length → doorB n d i = true
  rotate_left 1
  · have : ¬ IsMaze n d ks := fun h => c4 h.2.2.2.2.1
    simp only [c1, c2, c3, c4, this, decide_true, Bool.not_true, Bool.false_eq_true, if_false, decide_false, bne_self_eq_false, Option.bind_some, and_self]
  by_cases c5 : ∀ i, i < ks.length → setB ks i = true
  · have : IsMaze n d ks := ⟨c1.1, c1.2, by omega, c3, c4, c5⟩
    simp only [c1, c2, c3, this, decide_true, Bool.not_true, Bool.false_eq_true, if_false, decide_false, bne_self_eq_false, Option.bind_some, and_self, if_true]
    rw [if_pos c4, if_pos c5]
  · have : ¬ IsMaze n d ks := fun h => c5 h.2.2.2.2.2
    simp only [c1, c2, c3, this, decide_true, Bool.not_true, Bool.false_eq_true, if_false, decide_false, bne_self_eq_false, Option.bind_some, and_self, if_true]
    rw [if_pos c4, if_neg c5]
end
end Go.Proofs

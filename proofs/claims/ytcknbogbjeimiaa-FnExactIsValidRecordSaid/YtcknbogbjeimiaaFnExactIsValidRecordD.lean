/- A part of the proof of FnExactIsValidRecord: the plain law. No condition. -/
import Derived.Test.YtcknbogbjeimiaaFnExactIsValidRecordC
/- The plain law of FnExactIsValidRecord. -/
namespace Go.Proofs
open Go Go.Ga Go.Ga.Wf
set_option linter.unusedVariables false
set_option linter.unusedSimpArgs false
section
variable {k : Nat}
theorem within_eq (x a b : Int) : impl_within.f k x a b = some (decide (a ≤ x ∧ x ≤ b)) := by
  unfold impl_within.f
  by_cases h : a ≤ x <;> simp [h]
theorem in_eq (x a b : Int) : spec_l1In.f k x a b = some (decide (a ≤ x ∧ x ≤ b)) := by
  unfold spec_l1In.f
  by_cases h : a ≤ x <;> simp [h, ge_iff_le]
/-- a byte that may stand: printable, and none of these -/
def plainB (bad : List UInt8) (b : UInt8) : Bool := decide (32 ≤ (b.toNat : Int) ∧ (b.toNat : Int) ≤ 126) && !bad.contains b
theorem indexByte_ge' (l : List UInt8) (b : UInt8) : (0 ≤ Lib.indexByte l b) ↔ l.contains b = true := by
  induction l with
  | nil => simp [Lib.indexByte]
  | cons a l ih =>
    have := Lib.indexByte_ge l b
    simp only [Lib.indexByte, List.contains_cons, Bool.or_eq_true]
    by_cases h : (a == b) = true
    · simp [h]
      left; rw [beq_iff_eq] at h; exact h.symm
    · have h' : ¬ (b == a) = true := by intro e; rw [beq_iff_eq] at e; exact h (by simp [e])
      simp only [h, h', false_or, ← ih, if_false]
      by_cases h2 : (Lib.indexByte l b == -1) = true
      · rw [beq_iff_eq] at h2; simp [h2]
      · rw [if_neg h2]; rw [beq_iff_eq] at h2; omega
theorem isPlain_eq (hk : Big ≤ k) (s : ByteArray) (bad : List UInt8) (hs : s.size ≤ 1048576) :
    impl_isPlain.f k s ⟨bad.toArray⟩ = some (decide (∀ i (h : i < s.size), plainB bad s[i] = true)) := by
  unfold impl_isPlain.f
  have := loop_all (l := impl_isPlain.l0 k s ⟨bad.toArray⟩) (N := s.size) (fun i => if h : i < s.size then plainB bad s[i] else true) (z := false) (fun n i hi => by
    rw [impl_isPlain.l0]
    have h1 : ((i : Int) < (s.size : Int)) := by omega
    have hw : w64 ((i : Int) + 1) = ((i + 1 : Nat) : Int) := w64_id (by omega) (by omega)
    simp only [h1, decide_true, if_true, bta_lt hi, Option.bind_some, wrap_byte, within_eq, hi, dite_true, hw, plainB, strings_IndexByte.f, stringslite_IndexByte.f, bytea, Int.toNat_natCast, UInt8.ofNat_toNat, Nat.toUInt8, ge_iff_le, indexByte_ge']
    by_cases h2 : 32 ≤ (s[i].toNat : Int) ∧ (s[i].toNat : Int) ≤ 126 <;> cases h3 : bad.contains s[i] <;> simp [h2, h3]) (fun n => by
    rw [impl_isPlain.l0]; simp) (k := k) (by unfold Big at hk; omega)
  rw [this]
  simp only [Option.bind_some, Lr_ite]
  by_cases h : ∀ i (h : i < s.size), plainB bad s[i] = true
  · rw [if_pos (fun i hi => by simp [hi, h i hi])]; simp [h]
  · rw [if_neg (fun H => h (fun i hi => by have := H i hi; simpa [hi] using this))]; simp [h]
theorem l12Bytes_eq (hk : Big ≤ k) (s : ByteArray) (m : Int) (hs : s.size ≤ 1048576) :
    spec_l12Bytes.f k s m = some (decide ((∀ i (h : i < s.size), plainB [35] s[i] = true) ∧ (s.size : Int) ≤ m)) := by
  unfold spec_l12Bytes.f
  have := loop_all (l := spec_l12Bytes.l0 k s) (N := s.size) (fun i => if h : i < s.size then plainB [35] s[i] else true) (z := false) (fun n i hi => by
    rw [spec_l12Bytes.l0]
    have h1 : ((i : Int) < (s.size : Int)) := by omega
    have hw : w64 ((i : Int) + 1) = ((i + 1 : Nat) : Int) := w64_id (by omega) (by omega)
    have he : (((s[i].toNat : Int)) == 35) = ([35].contains s[i]) := by
      simp only [List.contains_cons, List.contains_nil, Bool.or_false]
      rw [Bool.eq_iff_iff, beq_iff_eq, beq_iff_eq, ← UInt8.toNat_inj]
      simp; omega
    simp only [h1, decide_true, if_true, bta_lt hi, Option.bind_some, wrap_byte, in_eq, hi, dite_true, hw, plainB, he]
    by_cases h2 : 32 ≤ (s[i].toNat : Int) ∧ (s[i].toNat : Int) ≤ 126 <;> cases h3 : [35].contains s[i] <;> simp [h2, h3]) (fun n => by
    rw [spec_l12Bytes.l0]; simp) (k := k) (by unfold Big at hk; omega)
  rw [this]
  simp only [Option.bind_some, Lr_ite]
  by_cases h : ∀ i (h : i < s.size), plainB [35] s[i] = true
  · rw [if_pos (fun i hi => by simp [hi, h i hi])]; simp [h]
  · rw [if_neg (fun H => h (fun i hi => by have := H i hi; simpa [hi] using this))]; simp [h]
theorem l1Stands_eq (hk : Big ≤ k) (s : ByteArray) (c : UInt8) (hs : s.size ≤ 1048576) :
    spec_l1Stands.f k s (c.toNat : Int) = some (!decide (∀ i (h : i < s.size), s[i] ≠ c)) := by
  unfold spec_l1Stands.f
  have := loop_all (l := spec_l1Stands.l0 k s (c.toNat : Int)) (N := s.size) (fun i => if h : i < s.size then s[i] != c else true) (z := true) (fun n i hi => by
    rw [spec_l1Stands.l0]
    have h1 : ((i : Int) < (s.size : Int)) := by omega
    have hw : w64 ((i : Int) + 1) = ((i + 1 : Nat) : Int) := w64_id (by omega) (by omega)
    have he : (((s[i].toNat : Int)) == (c.toNat : Int)) = (s[i] == c) := by
      rw [Bool.eq_iff_iff, beq_iff_eq, beq_iff_eq, ← UInt8.toNat_inj]; omega
    simp only [h1, decide_true, if_true, bta_lt hi, Option.bind_some, hi, dite_true, hw, he]
    cases h3 : s[i] == c <;> simp [bne, h3]) (fun n => by
    rw [spec_l1Stands.l0]; simp) (k := k) (by unfold Big at hk; omega)
  rw [this]
  simp only [Option.bind_some, Lr_ite]
  by_cases h : ∀ i (h : i < s.size), s[i] ≠ c
  · rw [if_pos (fun i hi => by simp [hi, h i hi])]; simp [h]
  · rw [if_neg (fun H => h (fun i hi => by have := H i hi; simpa [hi] using this))]; simp [h]
theorem szLogRecord_eq (a b : ByteArray) (m : Int) (hm : m ≤ 1048576) (h0 : 0 ≤ m) (ha : a.size ≤ maxLen) (hb : b.size ≤ maxLen) :
    laws_szLogRecord.f k a b m = some (if (a.size : Int) + b.size ≤ m then m - a.size - b.size else -1) := by
  unfold laws_szLogRecord.f
  have hM : maxLen = 9223372036854775807 := by decide
  have e1 : w64 (m - a.size) = m - a.size := w64_id (by omega) (by omega)
  rw [e1]
  by_cases h1 : m - (a.size : Int) < 0
  · have : ¬ ((a.size : Int) + b.size ≤ m) := by omega
    simp [h1, this]
  · have e2 : w64 (m - a.size - b.size) = m - a.size - b.size := w64_id (by omega) (by omega)
    rw [e2]
    by_cases h2 : m - (a.size : Int) - b.size < 0
    · have : ¬ ((a.size : Int) + b.size ≤ m) := by omega
      simp [h1, h2, this]
    · have : ((a.size : Int) + b.size ≤ m) := by omega
      simp [h1, h2, this]
/-- what is a record -/
def isRecord (a b : ByteArray) : Prop := (1 ≤ a.size ∧ a.size ≤ 160 ∧ ∀ i (h : i < a.size), plainB [35, 64] a[i] = true) ∧ b.size ≤ 250 ∧ ∀ i (h : i < b.size), plainB [35] b[i] = true
open Classical in
theorem impl_IsValidRecord_eq (hk : Big ≤ k) (a b : ByteArray) (ha : a.size ≤ 1048576) (hb : b.size ≤ 1048576) : impl_IsValidRecord.f k a b = some (decide (isRecord a b)) := by
  unfold impl_IsValidRecord.f impl_isCommand.f
  have e1 := isPlain_eq hk a [35, 64] ha
  have e2 := isPlain_eq hk b [35] hb
  rw [show ByteArray.mk #[35, 64] = ⟨[35, 64].toArray⟩ from rfl, show ByteArray.mk #[35] = ⟨[35].toArray⟩ from rfl, e1, e2, within_eq]
  unfold isRecord
  by_cases h1 : (1 : Int) ≤ a.size ∧ (a.size : Int) ≤ 160
  · have h1' : 1 ≤ a.size ∧ a.size ≤ 160 := by omega
    by_cases h2 : ∀ i (h : i < a.size), plainB [35, 64] a[i] = true
    · by_cases h3 : b.size ≤ 250
      · have h3' : (b.size : Int) ≤ 250 := by omega
        simp [h1, h1', h2, h3, h3']
      · have h3' : ¬ (b.size : Int) ≤ 250 := by omega
        simp [h1, h1', h2, h3, h3']
    · simp [h1, h1', h2]
  · have h1' : ¬ (1 ≤ a.size ∧ a.size ≤ 160) := by omega
    have : ∀ q : Prop, ¬ (1 ≤ a.size ∧ a.size ≤ 160 ∧ q) := fun q h => h1' ⟨h.1, h.2.1⟩
    simp [h1, this]
open Classical in
theorem spec_IsValidRecord_eq (hk : Big ≤ k) (a b : ByteArray) (ha : a.size ≤ 1048576) (hb : b.size ≤ 1048576) : spec_IsValidRecord.f k a b = some (decide (isRecord a b)) := by
  unfold spec_IsValidRecord.f spec_l12Record.f
  have hs := l1Stands_eq hk a 64 ha
  rw [show (((64 : UInt8).toNat : Int)) = 64 from rfl] at hs
  rw [l12Bytes_eq hk a 160 ha, l12Bytes_eq hk b 250 hb, hs]
  have he : (a.toList == ByteArray.empty.toList) = decide (a.size = 0) := by
    rw [ByteArray.toList_empty, Bool.eq_iff_iff, beq_iff_eq, decide_eq_true_iff, ← List.length_eq_zero_iff, ByteArray.toList_eq]
    exact Iff.rfl
  rw [he]
  have hp : (∀ i (h : i < a.size), plainB [35, 64] a[i] = true) ↔ (∀ i (h : i < a.size), plainB [35] a[i] = true) ∧ ∀ i (h : i < a.size), a[i] ≠ 64 := by
    constructor
    · intro H
      refine ⟨fun i h => ?_, fun i h => ?_⟩ <;> have := H i h <;> simp [plainB] at this ⊢ <;> simp [this]
    · rintro ⟨H1, H2⟩ i h
      have h1 := H1 i h; have h2 := H2 i h
      simp [plainB] at h1 ⊢
      exact ⟨h1.1, h1.2, h2⟩
  unfold isRecord
  rw [hp]
  by_cases h0 : a.size = 0
  · simp [h0]
  · have h0' : 1 ≤ a.size := by omega
    by_cases h1 : ∀ i (h : i < a.size), plainB [35] a[i] = true
    · by_cases h2 : a.size ≤ 160
      · have h2' : (a.size : Int) ≤ 160 := by omega
        by_cases h3 : ∀ i (h : i < a.size), a[i] ≠ 64
        · have h3' : (∀ i (h : i < a.size), ¬ a[i] = 64) := h3
          by_cases h4 : b.size ≤ 250
          · have h4' : (b.size : Int) ≤ 250 := by omega
            simp [h0, h0', h1, h2, h2', h3', h4, h4']
          · have h4' : ¬ (b.size : Int) ≤ 250 := by omega
            simp [h0, h0', h1, h2, h2', h3', h4, h4']
        · simp [h0, h1, h2', h3]
      · have h2' : ¬ (a.size : Int) ≤ 160 := by omega
        simp [h0, h1, h2, h2']
    · simp [h0, h1]
theorem laws_FnExactIsValidRecord.pure (x : ByteArray × ByteArray) (h : wfd x) : ∃ k, laws_FnExactIsValidRecord.f k x.1 x.2 = some true := by
  refine ⟨Big, ?_⟩
  obtain ⟨a, b⟩ := x
  have ha : a.size ≤ maxLen := h.1
  have hb : b.size ≤ maxLen := h.2
  unfold laws_FnExactIsValidRecord.f
  rw [szLogRecord_eq a b _ (Int.le_refl _) (by decide) ha hb]
  by_cases hg : (a.size : Int) + b.size ≤ 1048576
  · have : ¬ (1048576 - (a.size : Int) - b.size < 0) := by omega
    simp only [Option.bind_some, if_pos hg, this, decide_false, Bool.false_eq_true, if_false, laws_toLogRecord.f, impl_IsValidRecord_eq (Nat.le_refl _) a b (by omega) (by omega), spec_IsValidRecord_eq (Nat.le_refl _) a b (by omega) (by omega)]
    simp
  · simp [hg]
end
end Go.Proofs

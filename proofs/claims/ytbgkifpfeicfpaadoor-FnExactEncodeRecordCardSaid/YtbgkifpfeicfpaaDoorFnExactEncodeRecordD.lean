/- A part of the proof of FnExactEncodeRecord: the plain law. No condition. -/
import Derived.Test.YtbgkifpfeicfpaaDoorFnExactEncodeRecordB
import Derived.Test.YtbgkifpfeicfpaaDoorFnExactEncodeRecordC
set_option linter.unusedSimpArgs false
/- Plain laws: A -/
namespace Go.Proofs
open Go Go.Ga Go.Ga.Wf
set_option linter.unusedVariables false
set_option linter.unusedSimpArgs false
section
variable {k : Nat}
theorem within_eq (x a b : Int) : impl_within.f k x a b = some (decide (a ≤ x ∧ x ≤ b)) := by
  unfold impl_within.f
  by_cases h : a ≤ x <;> simp [h]
theorem in_eq (x a b : Int) : spec_l1In.f k x a b = some (decide (a ≤ x ∧ x ≤ b)) := by
  unfold spec_l1In.f
  by_cases h : a ≤ x <;> simp [h, ge_iff_le]
/-- a byte that may stand: printable, and none of these -/
def plainB (bad : List UInt8) (b : UInt8) : Bool := decide (32 ≤ (b.toNat : Int) ∧ (b.toNat : Int) ≤ 126) && !bad.contains b
theorem indexByte_ge' (l : List UInt8) (b : UInt8) : (0 ≤ Lib.indexByte l b) ↔ l.contains b = true := by
  induction l with
  | nil => simp [Lib.indexByte]
  | cons a l ih =>
    have := Lib.indexByte_ge l b
    simp only [Lib.indexByte, List.contains_cons, Bool.or_eq_true]
    by_cases h : (a == b) = true
    · simp [h]
      left; rw [beq_iff_eq] at h; exact h.symm
    · have h' : ¬ (b == a) = true := by intro e; rw [beq_iff_eq] at e; exact h (by simp [e])
      simp only [h, h', false_or, ← ih, if_false]
      by_cases h2 : (Lib.indexByte l b == -1) = true
      · rw [beq_iff_eq] at h2; simp [h2]
      · rw [if_neg h2]; rw [beq_iff_eq] at h2; omega
theorem isPlain_eq (hk : Big ≤ k) (s : ByteArray) (bad : List UInt8) (hs : s.size ≤ 1048576) :
    impl_isPlain.f k s ⟨bad.toArray⟩ = some (decide (∀ i (h : i < s.size), plainB bad s[i] = true)) := by
  unfold impl_isPlain.f
  have := loop_all (l := impl_isPlain.l0 k s ⟨bad.toArray⟩) (N := s.size) (fun i => if h : i < s.size then plainB bad s[i] else true) (z := false) (fun n i hi => by
    rw [impl_isPlain.l0]
    have h1 : ((i : Int) < (s.size : Int)) := by omega
    have hw : w64 ((i : Int) + 1) = ((i + 1 : Nat) : Int) := w64_id (by omega) (by omega)
    simp only [h1, decide_true, if_true, bta_lt hi, Option.bind_some, wrap_byte, within_eq, hi, dite_true, hw, plainB, strings_IndexByte.f, stringslite_IndexByte.f, bytea, Int.toNat_natCast, UInt8.ofNat_toNat, Nat.toUInt8, ge_iff_le, indexByte_ge']
    by_cases h2 : 32 ≤ (s[i].toNat : Int) ∧ (s[i].toNat : Int) ≤ 126 <;> cases h3 : bad.contains s[i] <;> simp [h2, h3]) (fun n => by
    rw [impl_isPlain.l0]; simp) (k := k) (by unfold Big at hk; omega)
  rw [this]
  simp only [Option.bind_some, Lr_ite]
  by_cases h : ∀ i (h : i < s.size), plainB bad s[i] = true
  · rw [if_pos (fun i hi => by simp [hi, h i hi])]; simp [h]
  · rw [if_neg (fun H => h (fun i hi => by have := H i hi; simpa [hi] using this))]; simp [h]
theorem l12Bytes_eq (hk : Big ≤ k) (s : ByteArray) (m : Int) (hs : s.size ≤ 1048576) :
    spec_l12Bytes.f k s m = some (decide ((∀ i (h : i < s.size), plainB [35] s[i] = true) ∧ (s.size : Int) ≤ m)) := by
  unfold spec_l12Bytes.f
  have := loop_all (l := spec_l12Bytes.l0 k s) (N := s.size) (fun i => if h : i < s.size then plainB [35] s[i] else true) (z := false) (fun n i hi => by
    rw [spec_l12Bytes.l0]
    have h1 : ((i : Int) < (s.size : Int)) := by omega
    have hw : w64 ((i : Int) + 1) = ((i + 1 : Nat) : Int) := w64_id (by omega) (by omega)
    have he : (((s[i].toNat : Int)) == 35) = ([35].contains s[i]) := by
      simp only [List.contains_cons, List.contains_nil, Bool.or_false]
      rw [Bool.eq_iff_iff, beq_iff_eq, beq_iff_eq, ← UInt8.toNat_inj]
      simp; omega
    simp only [h1, decide_true, if_true, bta_lt hi, Option.bind_some, wrap_byte, in_eq, hi, dite_true, hw, plainB, he]
    by_cases h2 : 32 ≤ (s[i].toNat : Int) ∧ (s[i].toNat : Int) ≤ 126 <;> cases h3 : [35].contains s[i] <;> simp [h2, h3]) (fun n => by
    rw [spec_l12Bytes.l0]; simp) (k := k) (by unfold Big at hk; omega)
  rw [this]
  simp only [Option.bind_some, Lr_ite]
  by_cases h : ∀ i (h : i < s.size), plainB [35] s[i] = true
  · rw [if_pos (fun i hi => by simp [hi, h i hi])]; simp [h]
  · rw [if_neg (fun H => h (fun i hi => by have := H i hi; simpa [hi] using this))]; simp [h]
theorem l1Stands_eq (hk : Big ≤ k) (s : ByteArray) (c : UInt8) (hs : s.size ≤ 1048576) :
    spec_l1Stands.f k s (c.toNat : Int) = some (!decide (∀ i (h : i < s.size), s[i] ≠ c)) := by
  unfold spec_l1Stands.f
  have := loop_all (l := spec_l1Stands.l0 k s (c.toNat : Int)) (N := s.size) (fun i => if h : i < s.size then s[i] != c else true) (z := true) (fun n i hi => by
    rw [spec_l1Stands.l0]
    have h1 : ((i : Int) < (s.size : Int)) := by omega
    have hw : w64 ((i : Int) + 1) = ((i + 1 : Nat) : Int) := w64_id (by omega) (by omega)
    have he : (((s[i].toNat : Int)) == (c.toNat : Int)) = (s[i] == c) := by
      rw [Bool.eq_iff_iff, beq_iff_eq, beq_iff_eq, ← UInt8.toNat_inj]; omega
    simp only [h1, decide_true, if_true, bta_lt hi, Option.bind_some, hi, dite_true, hw, he]
    cases h3 : s[i] == c <;> simp [bne, h3]) (fun n => by
    rw [spec_l1Stands.l0]; simp) (k := k) (by unfold Big at hk; omega)
  rw [this]
  simp only [Option.bind_some, Lr_ite]
  by_cases h : ∀ i (h : i < s.size), s[i] ≠ c
  · rw [if_pos (fun i hi => by simp [hi, h i hi])]; simp [h]
  · rw [if_neg (fun H => h (fun i hi => by have := H i hi; simpa [hi] using this))]; simp [h]
theorem szLogRecord_eq (a b : ByteArray) (m : Int) (hm : m ≤ 1048576) (h0 : 0 ≤ m) (ha : a.size ≤ maxLen) (hb : b.size ≤ maxLen) :
    laws_szLogRecord.f k a b m = some (if (a.size : Int) + b.size ≤ m then m - a.size - b.size else -1) := by
  unfold laws_szLogRecord.f
  have hM : maxLen = 9223372036854775807 := by decide
  have e1 : w64 (m - a.size) = m - a.size := w64_id (by omega) (by omega)
  rw [e1]
  by_cases h1 : m - (a.size : Int) < 0
  · have : ¬ ((a.size : Int) + b.size ≤ m) := by omega
    simp [h1, this]
  · have e2 : w64 (m - a.size - b.size) = m - a.size - b.size := w64_id (by omega) (by omega)
    rw [e2]
    by_cases h2 : m - (a.size : Int) - b.size < 0
    · have : ¬ ((a.size : Int) + b.size ≤ m) := by omega
      simp [h1, h2, this]
    · have : ((a.size : Int) + b.size ≤ m) := by omega
      simp [h1, h2, this]
/-- what is a record -/
def isRecord (a b : ByteArray) : Prop := (1 ≤ a.size ∧ a.size ≤ 160 ∧ ∀ i (h : i < a.size), plainB [35, 64] a[i] = true) ∧ b.size ≤ 250 ∧ ∀ i (h : i < b.size), plainB [35] b[i] = true
open Classical in
theorem impl_IsValidRecord_eq (hk : Big ≤ k) (a b : ByteArray) (ha : a.size ≤ 1048576) (hb : b.size ≤ 1048576) : impl_IsValidRecord.f k a b = some (decide (isRecord a b)) := by
  unfold impl_IsValidRecord.f impl_isCommand.f
  have e1 := isPlain_eq hk a [35, 64] ha
  have e2 := isPlain_eq hk b [35] hb
  rw [show ByteArray.mk #[35, 64] = ⟨[35, 64].toArray⟩ from rfl, show ByteArray.mk #[35] = ⟨[35].toArray⟩ from rfl, e1, e2, within_eq]
  unfold isRecord
  by_cases h1 : (1 : Int) ≤ a.size ∧ (a.size : Int) ≤ 160
  · have h1' : 1 ≤ a.size ∧ a.size ≤ 160 := by omega
    by_cases h2 : ∀ i (h : i < a.size), plainB [35, 64] a[i] = true
    · by_cases h3 : b.size ≤ 250
      · have h3' : (b.size : Int) ≤ 250 := by omega
        simp [h1, h1', h2, h3, h3']
      · have h3' : ¬ (b.size : Int) ≤ 250 := by omega
        simp [h1, h1', h2, h3, h3']
    · simp [h1, h1', h2]
  · have h1' : ¬ (1 ≤ a.size ∧ a.size ≤ 160) := by omega
    have : ∀ q : Prop, ¬ (1 ≤ a.size ∧ a.size ≤ 160 ∧ q) := fun q h => h1' ⟨h.1, h.2.1⟩
    simp [h1, this]
end
end Go.Proofs

/- Plain laws: B -/
namespace Go.Ga
open Go
end Go.Ga
namespace Go.Proofs
open Go Go.Ga Go.Ga.Wf
set_option linter.unusedVariables false
set_option linter.unusedSimpArgs false
section
variable {k : Nat}
end
end Go.Proofs

/- Plain laws: C -/
namespace Go.Proofs
open Go Go.Ga Go.Ga.Wf
set_option linter.unusedVariables false
set_option linter.unusedSimpArgs false
abbrev Door := Int × Int × Int
def DoorOk (n : Int) (x : Door) : Prop := 0 ≤ x.1 ∧ x.1 < x.2.1 ∧ x.2.1 < n ∧ 0 ≤ x.2.2 ∧ x.2.2 ≤ 63
def DoorLt (a b : Door) : Prop := a.1 < b.1 ∨ (a.1 = b.1 ∧ (a.2.1 < b.2.1 ∨ (a.2.1 = b.2.1 ∧ a.2.2 < b.2.2)))
instance (n : Int) (x : Door) : Decidable (DoorOk n x) := by unfold DoorOk; infer_instance
instance (a b : Door) : Decidable (DoorLt a b) := by unfold DoorLt; infer_instance
def doorB (n : Int) (d : List Door) (i : Nat) : Bool := if h : i < d.length then decide (DoorOk n d[i]) && (decide (i = 0) || decide (DoorLt d[i - 1] d[i])) else true
def setB (ks : List Int) (i : Nat) : Bool := if h : i < ks.length then decide (0 ≤ ks[i] ∧ ks[i] ≤ 63) else true
def IsMaze (n : Int) (d : List Door) (ks : List Int) : Prop :=
  1 ≤ n ∧ n ≤ 12 ∧ d.length ≤ 30 ∧ (ks.length : Int) = n ∧ (∀ i, i < d.length → doorB n d i = true) ∧ ∀ i, i < ks.length → setB ks i = true
instance (n : Int) (d : List Door) (ks : List Int) : Decidable (IsMaze n d ks) := by unfold IsMaze; infer_instance
section
variable {k : Nat}
end
end Go.Proofs

/- Plain laws: D -/
namespace Go.Proofs
open Go Go.Ga Go.Ga.Wf
set_option linter.unusedVariables false
set_option linter.unusedSimpArgs false
section
variable {k : Nat}
def risingB (lo hi : Int) (l : List Int) (i : Nat) : Bool := if h : i < l.length then decide (lo ≤ l[i] ∧ l[i] ≤ hi) && (decide (i = 0) || decide (l[i - 1] < l[i])) else true
def IsTrapP (n : Int) (d : List Door) (ks tr : List Int) : Prop := IsMaze n d ks ∧ ∀ i, i < tr.length → risingB 0 ((d.length : Int) - 1) tr i = true
instance (n : Int) (d : List Door) (ks tr : List Int) : Decidable (IsTrapP n d ks tr) := by unfold IsTrapP; infer_instance
end
end Go.Proofs

/- Plain laws: E -/
namespace Go.Proofs
open Go Go.Ga Go.Ga.Wf
set_option linter.unusedVariables false
set_option linter.unusedSimpArgs false
section
variable {k : Nat}
/-- a door with its ends and its colours in bounds, for some node count of at most twelve -/
def Small (x : Door) : Prop := 0 ≤ x.1 ∧ x.1 < 12 ∧ 0 ≤ x.2.1 ∧ x.2.1 < 12 ∧ 0 ≤ x.2.2 ∧ x.2.2 ≤ 63
theorem IsMaze.small {n : Int} {d : List Door} {ks : List Int} (h : IsMaze n d ks) : ∀ x ∈ d, Small x := by
  intro x hx
  obtain ⟨i, hi, rfl⟩ := List.getElem_of_mem hx
  have h1 := h.2.2.2.2.1 i hi
  unfold doorB at h1
  rw [dif_pos hi, Bool.and_eq_true, decide_eq_true_eq] at h1
  have := h1.1; unfold DoorOk at this; unfold Small
  have := h.2.1
  omega
theorem IsMaze.keys {n : Int} {d : List Door} {ks : List Int} (h : IsMaze n d ks) : ∀ x ∈ ks, 0 ≤ x ∧ x ≤ 63 := by
  intro x hx
  obtain ⟨i, hi, rfl⟩ := List.getElem_of_mem hx
  have h1 := h.2.2.2.2.2 i hi
  simpa [setB, hi] using h1
/-- the door stands open to one who has h and leads from a to b -/
def goes (a b h : Int) (x : Door) : Bool := ((decide (x.1 = a) && decide (x.2.1 = b)) || (decide (x.2.1 = a) && decide (x.1 = b))) && subB x.2.2.toNat h.toNat
end
end Go.Proofs

/- Plain laws: F -/
namespace Go.Proofs
open Go Go.Ga Go.Ga.Wf
set_option linter.unusedVariables false
set_option linter.unusedSimpArgs false
section
variable {k : Nat}
end
end Go.Proofs

/- Plain laws: G -/
namespace Go.Proofs
open Go Go.Ga Go.Ga.Wf
set_option linter.unusedVariables false
set_option linter.unusedSimpArgs false
section
variable {k : Nat}
end
end Go.Proofs

/- Plain laws: H -/
namespace Go.Proofs
open Go Go.Ga Go.Ga.Wf
/-! loops that go on as long as there is something to do -/
/-- the number with the digits p, below n -/
def bitsOf (p : Nat → Bool) : Nat → Nat
  | 0 => 0
  | n + 1 => bitsOf p n ||| (if p n = true then 2 ^ n else 0)
/-- the digits that stand, ascending -/
def upto (m n : Nat) : List Int := ((List.range n).filter fun t => m.testBit t).map fun (t : Nat) => (t : Int)
theorem upto_succ (m n : Nat) : upto m (n + 1) = upto m n ++ (if m.testBit n = true then [(n : Int)] else []) := by
  unfold upto
  rw [List.range_succ, List.filter_append, List.map_append]
  congr 1
  by_cases h : m.testBit n = true <;> simp [h]
/-! what is reached -/
inductive Rch (d : List Door) (h x : Int) : Int → Prop
  | here : Rch d h x x
  | step {y z : Int} : Rch d h x y → d.any (goes y z h) = true → Rch d h x z
theorem goes_small {d : List Door} (hs : ∀ x ∈ d, Small x) {y z h : Int} (hg : d.any (goes y z h) = true) : (0 ≤ y ∧ y < 12) ∧ 0 ≤ z ∧ z < 12 := by
  obtain ⟨x, hx, hg⟩ := List.any_eq_true.1 hg
  have sm := hs x hx
  unfold Small at sm
  unfold goes at hg
  simp only [Bool.and_eq_true, Bool.or_eq_true, decide_eq_true_eq] at hg
  omega
theorem Rch.small {d : List Door} (hs : ∀ x ∈ d, Small x) {h x z : Int} (hx : 0 ≤ x ∧ x < 12) (hr : Rch d h x z) : 0 ≤ z ∧ z < 12 := by
  cases hr with
  | here => exact hx
  | step _ hg => exact (goes_small hs hg).2
open Classical in
noncomputable def reachN (d : List Door) (x h : Int) : Nat := bitsOf (fun t => decide (Rch d h x (t : Int))) 12
/-! doors and keys within bounds -/
def DoorIn (n : Int) (x : Door) : Prop := 0 ≤ x.1 ∧ x.1 < n ∧ 0 ≤ x.2.1 ∧ x.2.1 < n ∧ 0 ≤ x.2.2 ∧ x.2.2 ≤ 63
structure Okm (n : Int) (d : List Door) (ks : List Int) : Prop where
  lo : 1 ≤ n
  hi : n ≤ 12
  few : d.length ≤ 1048576
  len : (ks.length : Int) = n
  doors : ∀ x ∈ d, DoorIn n x
  keys : ∀ x ∈ ks, 0 ≤ x ∧ x ≤ 63
theorem IsMaze.okm {n : Int} {d : List Door} {ks : List Int} (h : IsMaze n d ks) : Okm n d ks where
  lo := h.1
  hi := h.2.1
  few := by have := h.2.2.1; omega
  len := h.2.2.2.1
  doors := fun x hx => by
    obtain ⟨i, hi, rfl⟩ := List.getElem_of_mem hx
    have h1 := h.2.2.2.2.1 i hi
    unfold doorB at h1
    rw [dif_pos hi, Bool.and_eq_true, decide_eq_true_eq] at h1
    have := h1.1; unfold DoorOk at this; unfold DoorIn
    omega
  keys := h.keys
theorem Okm.small {n : Int} {d : List Door} {ks : List Int} (h : Okm n d ks) : ∀ x ∈ d, Small x := fun x hx => by
  have h1 := h.doors x hx
  have h2 := h.hi
  unfold DoorIn at h1; unfold Small
  omega
theorem Rch.lt {n : Int} {d : List Door} {ks : List Int} (hm : Okm n d ks) {h x z : Int} (hx : 0 ≤ x ∧ x < n) (hr : Rch d h x z) : 0 ≤ z ∧ z < n := by
  cases hr with
  | here => exact hx
  | step _ hg =>
    obtain ⟨y, hy, hg⟩ := List.any_eq_true.1 hg
    have sm := hm.doors y hy
    unfold DoorIn at sm
    unfold goes at hg
    simp only [Bool.and_eq_true, Bool.or_eq_true, decide_eq_true_eq] at hg
    omega
/-! what one has -/
end Go.Proofs

/- Plain laws: I -/
namespace Go.Proofs
open Go Go.Ga Go.Ga.Wf
set_option linter.unusedVariables false
set_option linter.unusedSimpArgs false
section
variable {k : Nat}
/-! a trap -/
end
end Go.Proofs

/- Plain laws: J -/
namespace Go.Proofs
open Go Go.Ga Go.Ga.Wf
set_option linter.unusedVariables false
set_option linter.unusedSimpArgs false
section
variable {k : Nat}
end
end Go.Proofs

/- Plain laws: K -/
namespace Go.Proofs
open Go Go.Ga Go.Ga.Wf
set_option linter.unusedVariables false
set_option linter.unusedSimpArgs false
section
variable {k : Nat}
/-- n put to its place -/
def putP (n : Int) : List Int → List Int
  | [] => [n]
  | x :: l => if x < n then x :: putP n l else if x = n then x :: l else n :: x :: l
theorem mem_putP (n : Int) : ∀ (l : List Int) (z : Int), z ∈ putP n l ↔ z = n ∨ z ∈ l
  | [], z => by simp [putP]
  | x :: l, z => by
    unfold putP
    split
    · rw [List.mem_cons, mem_putP n l z, List.mem_cons]
      constructor
      · rintro (h | h | h) <;> simp [h]
      · rintro (h | h | h) <;> simp [h]
    · split
      · rename_i h; subst h; simp
      · simp
theorem putP_sorted (n : Int) : ∀ (l : List Int), l.Pairwise (· < ·) → (putP n l).Pairwise (· < ·)
  | [], _ => by simp [putP]
  | x :: l, h => by
    rw [List.pairwise_cons] at h
    unfold putP
    split
    · rename_i hx
      rw [List.pairwise_cons]
      refine ⟨fun z hz => ?_, putP_sorted n l h.2⟩
      rcases (mem_putP n l z).1 hz with h1 | h1
      · omega
      · exact h.1 z h1
    · split
      · rw [List.pairwise_cons]; exact h
      · rw [List.pairwise_cons, List.pairwise_cons]
        refine ⟨fun z hz => ?_, h⟩
        rcases List.mem_cons.1 hz with h1 | h1
        · omega
        · have := h.1 z h1; omega
theorem putP_length (n : Int) : ∀ (l : List Int), l.Pairwise (· < ·) → n ∉ l → (putP n l).length = l.length + 1
  | [], _, _ => rfl
  | x :: l, h, hn => by
    rw [List.pairwise_cons] at h
    unfold putP
    rw [List.mem_cons, not_or] at hn
    split
    · rw [List.length_cons, putP_length n l h.2 hn.2, List.length_cons]
    · rw [if_neg (fun e => hn.1 e.symm)]; rfl
theorem sorted_len : ∀ (l : List Int) (a b : Int), l.Pairwise (· < ·) → (∀ x ∈ l, a ≤ x ∧ x < b) → a ≤ b → (l.length : Int) ≤ b - a
  | [], a, b, _, _, h => by simp; omega
  | x :: l, a, b, hp, hx, h => by
    rw [List.pairwise_cons] at hp
    have h1 := hx x (List.mem_cons_self ..)
    have := sorted_len l (x + 1) b hp.2 (fun z hz => ⟨by have := hp.1 z hz; omega, (hx z (List.mem_cons_of_mem _ hz)).2⟩) (by omega)
    rw [List.length_cons]; omega
/-! the reference -/
structure RInv (d : List Door) (h x : Int) (out list : List Int) : Prop where
  sorted : out.Pairwise (· < ·)
  same : ∀ z, z ∈ out ↔ z ∈ list
  len : out.length = list.length
  start : x ∈ list
  rch : ∀ z ∈ list, Rch d h x z
theorem RInv.le {d : List Door} {h x : Int} {out list : List Int} (hI : RInv d h x out list) (hs : ∀ x ∈ d, Small x) (hx : 0 ≤ x ∧ x < 12) : list.length ≤ 12 := by
  have := sorted_len out 0 12 hI.sorted (fun z hz => (hI.rch z ((hI.same z).1 hz)).small hs hx) (by omega)
  rw [hI.len] at this; omega
theorem RInv.put {d : List Door} {h x y : Int} {out list : List Int} (hI : RInv d h x out list) (hy : y ∉ out) (hr : Rch d h x y) : RInv d h x (putP y out) (list ++ [y]) where
  sorted := putP_sorted y out hI.sorted
  same := fun z => by rw [mem_putP, List.mem_append, List.mem_singleton, hI.same z]; exact Or.comm
  len := by rw [putP_length y out hI.sorted hy, List.length_append, hI.len]; rfl
  start := List.mem_append_left _ hI.start
  rch := fun z hz => by
    rcases List.mem_append.1 hz with h1 | h1
    · exact hI.rch z h1
    · rw [List.mem_singleton.1 h1]; exact hr
/-! the program -/
end
end Go.Proofs

/- Plain laws: L -/
namespace Go.Proofs
open Go Go.Ga Go.Ga.Wf
set_option linter.unusedVariables false
set_option linter.unusedSimpArgs false
section
variable {k : Nat}
/-! without a colour -/
end
end Go.Proofs

/- Plain laws: M -/
namespace Go.Proofs
open Go Go.Ga Go.Ga.Wf
set_option linter.unusedVariables false
set_option linter.unusedSimpArgs false
abbrev MazeT := Int × List Door × List Int
def mz1 (t : MazeT) : Nat := t.2.1.length + t.2.2.length
def mz : List MazeT → Nat
  | [] => 0
  | t :: l => mz1 t + mz l
def iz : List (List Int) → Nat
  | [] => 0
  | t :: l => t.length + iz l
theorem mz_mem : ∀ {l : List MazeT} {t : MazeT}, t ∈ l → mz1 t ≤ mz l
  | x :: l, t, h => by
    rcases List.mem_cons.1 h with rfl | h
    · simp [mz]
    · have := mz_mem h; simp [mz]; omega
theorem iz_mem : ∀ {l : List (List Int)} {t : List Int}, t ∈ l → t.length ≤ iz l
  | x :: l, t, h => by
    rcases List.mem_cons.1 h with rfl | h
    · simp [iz]
    · have := iz_mem h; simp [iz]; omega
section
variable {k : Nat}
/-- worlds within bounds -/
structure WB (ms : List MazeT) (os : List (List Int)) : Prop where
  ml : ms.length ≤ 1048576
  ol : os.length ≤ 1048576
  md : ∀ t ∈ ms, t.2.1.length ≤ 1048576 ∧ t.2.2.length ≤ 1048576
  od : ∀ t ∈ os, t.length ≤ 1048576
def wz (ms : List MazeT) (os : List (List Int)) : Nat := ms.length + mz ms + (os.length + iz os)
theorem WB.of {ms : List MazeT} {os : List (List Int)} (h : ((wz ms os : Nat) : Int) ≤ 1048576) : WB ms os := by
  unfold wz at h
  refine ⟨by omega, by omega, fun t ht => ?_, fun t ht => ?_⟩
  · have := mz_mem ht; unfold mz1 at this; omega
  · have := iz_mem ht; omega
/-! marks -/
/-! valid worlds -/
def worldOk (ms : List MazeT) (os : List (List Int)) (i : Nat) : Bool :=
  if h : i < ms.length then decide (IsMaze ms[i].1 ms[i].2.1 ms[i].2.2) && decide (((os.getD i []).length : Int) = ms[i].1) && (os.getD i []).all (fun o => decide (0 ≤ o ∧ o ≤ (ms.length : Int) - 1)) else true
def IsWorldsP (ms : List MazeT) (os : List (List Int)) : Prop := (1 ≤ ms.length ∧ ms.length ≤ 3) ∧ os.length = ms.length ∧ ∀ i, i < ms.length → worldOk ms os i = true
instance (ms : List MazeT) (os : List (List Int)) : Decidable (IsWorldsP ms os) := by unfold IsWorldsP; infer_instance
/-! one maze alone -/
end
end Go.Proofs

/- Plain laws: N -/
namespace Go.Proofs
open Go Go.Ga Go.Ga.Wf
set_option linter.unusedVariables false
set_option linter.unusedSimpArgs false
section
variable {k : Nat}
/-! idle nodes -/
/-! nodes ahead -/
/-! a new console -/
/-! what a world can ever reach -/
theorem IsWorldsP.at {ms : List MazeT} {os : List (List Int)} (h : IsWorldsP ms os) (i : Nat) (hi : i < ms.length) : IsMaze ms[i].1 ms[i].2.1 ms[i].2.2 ∧ ∃ hio : i < os.length, (os[i].length : Int) = ms[i].1 ∧ ∀ o ∈ os[i], 0 ≤ o ∧ o ≤ (ms.length : Int) - 1 := by
  have h1 := h.2.2 i hi
  unfold worldOk at h1
  have hio : i < os.length := by have := h.2.1; omega
  have hod : os.getD i [] = os[i] := by rw [List.getD_eq_getElem?_getD, List.getElem?_eq_getElem hio]; rfl
  rw [dif_pos hi, hod] at h1
  simp only [Bool.and_eq_true, decide_eq_true_eq, List.all_eq_true] at h1
  exact ⟨h1.1.1, hio, h1.1.2, h1.2⟩
end
end Go.Proofs

/- Plain laws: O -/
namespace Go.Proofs
open Go Go.Ga Go.Ga.Wf
set_option linter.unusedVariables false
set_option linter.unusedSimpArgs false
section
variable {k : Nat}
end
end Go.Proofs

/- Plain laws: P -/
namespace Go.Proofs
open Go Go.Ga Go.Ga.Wf
set_option linter.unusedVariables false
set_option linter.unusedSimpArgs false
section
variable {k : Nat}
end
end Go.Proofs

/- Plain laws: Q -/
namespace Go.Proofs
open Go Go.Ga Go.Ga.Wf
set_option linter.unusedVariables false
set_option linter.unusedSimpArgs false
theorem itr_snoc {S : Type} (g : Nat → S → S) : ∀ m i s, itr g (m + 1) i s = g (i + m) (itr g m i s)
  | 0, i, s => rfl
  | m + 1, i, s => by
    show itr g (m + 1) (i + 1) (g i s) = _
    rw [itr_snoc g m (i + 1) (g i s), show i + 1 + m = i + (m + 1) by omega]; rfl
theorem getD_set {α : Type} (l : List α) (i j : Nat) (v d : α) : (l.set i v).getD j d = if i = j ∧ i < l.length then v else l.getD j d := by
  rw [List.getD_eq_getElem?_getD, List.getD_eq_getElem?_getD]
  by_cases h : i = j
  · subst h
    by_cases h2 : i < l.length
    · rw [List.getElem?_set_self h2, if_pos ⟨rfl, h2⟩]; rfl
    · rw [if_neg (fun h => h2 h.2), List.set_eq_of_length_le (by omega)]
  · rw [List.getElem?_set_ne h, if_neg (fun h' => h h'.1)]
theorem itr_at {α : Type} (F : Nat → α → α) (d : α) (R : List α) : ∀ m, m ≤ R.length → (itr (fun i R => R.set i (F i (R.getD i d))) m 0 R).length = R.length ∧ ∀ j, (itr (fun i R => R.set i (F i (R.getD i d))) m 0 R).getD j d = if j < m then F j (R.getD j d) else R.getD j d
  | 0, _ => ⟨rfl, fun j => by simp [itr]⟩
  | m + 1, h => by
    obtain ⟨h1, h2⟩ := itr_at F d R m (by omega)
    rw [itr_snoc, Nat.zero_add]
    refine ⟨by rw [List.length_set]; exact h1, fun j => ?_⟩
    rw [getD_set, h1, h2 j, h2 m]
    by_cases hj : m = j
    · subst hj; rw [if_pos ⟨rfl, by omega⟩, if_neg (by omega), if_pos (by omega)]
    · rw [if_neg (fun h => hj h.1)]
      by_cases h3 : j < m
      · rw [if_pos h3, if_pos (by omega)]
      · rw [if_neg h3, if_neg (by omega)]
/-! what grows -/
def updR (rd : Int) (row : List Int) (x : Int) : List Int := if row.getD x.toNat 0 < 0 then row.set x.toNat rd else row
theorem updR_len (rd : Int) (row : List Int) (x : Int) : (updR rd row x).length = row.length := by unfold updR; split <;> simp
theorem fold_updR (rd : Int) (b : Nat) (row : List Int) : ∀ n, ((upto b n).foldl (updR rd) row).length = row.length ∧ ∀ t, t < row.length → ((upto b n).foldl (updR rd) row).getD t 0 = if (t < n ∧ b.testBit t = true) ∧ row.getD t 0 < 0 then rd else row.getD t 0
  | 0 => ⟨rfl, fun t _ => by simp [upto]⟩
  | n + 1 => by
    obtain ⟨h1, h2⟩ := fold_updR rd b row n
    rw [upto_succ, List.foldl_append]
    by_cases hb : b.testBit n = true
    rotate_left 1
    · rw [if_neg hb, List.foldl_nil]
      refine ⟨h1, fun t ht => ?_⟩
      rw [h2 t ht]
      by_cases htn : t = n
      · subst htn; rw [if_neg (fun h => hb h.1.2), if_neg (fun h => hb h.1.2)]
      · by_cases hlt : t < n
        · simp only [hlt, show t < n + 1 by omega]
        · simp only [hlt, show ¬ t < n + 1 by omega]
    · rw [if_pos hb, List.foldl_cons, List.foldl_nil]
      generalize (upto b n).foldl (updR rd) row = w at *
      refine ⟨by rw [updR_len]; exact h1, fun t ht => ?_⟩
      unfold updR
      rw [Int.toNat_natCast]
      by_cases htn : t = n
      · subst htn
        have e := h2 t ht
        rw [if_neg (fun h => by omega)] at e
        rw [e]
        by_cases hv : row.getD t 0 < 0
        · rw [if_pos hv, getD_set, if_pos ⟨rfl, by omega⟩, if_pos ⟨⟨by omega, hb⟩, hv⟩]
        · rw [if_neg hv, if_neg (fun h => hv h.2), e]
      · have e : (if w.getD n 0 < 0 then w.set n rd else w).getD t 0 = w.getD t 0 := by
          split
          · rw [getD_set, if_neg (fun h => htn h.1.symm)]
          · rfl
        rw [e, h2 t ht]
        by_cases hlt : t < n
        · simp only [hlt, show t < n + 1 by omega]
        · simp only [hlt, show ¬ t < n + 1 by omega]
def mzD (ms : List MazeT) (i : Nat) : MazeT := ms.getD i (0, [], [])
def szW (ms : List MazeT) (i : Nat) : Nat := (mzD ms i).1.toNat
noncomputable def bW (ms : List MazeT) (h : List Int) (i : Nat) : Nat := reachN (mzD ms i).2.1 0 (h.getD i 0)
noncomputable def goalW (ms : List MazeT) (h : List Int) (i : Nat) : Bool := (bW ms h i).testBit (szW ms i - 1)
noncomputable def rowF (ms : List MazeT) (h : List Int) (rd : Int) (i : Nat) (row : List Int) : List Int := (upto (bW ms h i) (szW ms i)).foldl (updR rd) row
noncomputable def wonF (ms : List MazeT) (h : List Int) (rd : Int) (i : Nat) (v : Int) : Int := if goalW ms h i = true ∧ v < 0 then rd else v
structure Facts (ms : List MazeT) (os : List (List Int)) (i : Nat) : Prop where
  mz : IsMaze (mzD ms i).1 (mzD ms i).2.1 (mzD ms i).2.2
  rd : rdl ms (i : Int) = some (mzD ms i)
  ro : rdl os (i : Int) = some (os.getD i [])
  ol : (os.getD i []).length = szW ms i
  kl : (mzD ms i).2.2.length = szW ms i
  own : ∀ o ∈ os.getD i [], 0 ≤ o ∧ o ≤ (ms.length : Int) - 1
  lo : 1 ≤ szW ms i
  hi : szW ms i ≤ 12
  sz : (mzD ms i).1 = (szW ms i : Int)
theorem IsWorldsP.facts {ms : List MazeT} {os : List (List Int)} (hw : IsWorldsP ms os) (i : Nat) (hi : i < ms.length) : Facts ms os i := by
  obtain ⟨hm, hio, h1, h2⟩ := hw.at i hi
  have e1 : ms[i] = mzD ms i := by unfold mzD; rw [List.getD_eq_getElem?_getD, List.getElem?_eq_getElem hi]; rfl
  have e2 : os[i] = os.getD i [] := by rw [List.getD_eq_getElem?_getD, List.getElem?_eq_getElem hio]; rfl
  rw [e1] at hm h1
  rw [e2] at h1 h2
  have om := hm.okm
  have hlo := om.lo
  have hhi := om.hi
  have hlen := om.len
  have hz : szW ms i = (mzD ms i).1.toNat := rfl
  exact ⟨hm, by rw [rdl_lt hi, e1], by rw [rdl_lt hio, e2], by omega, by omega, h2, by omega, by omega, by omega⟩
section
variable {k : Nat}
noncomputable def rowsA (ms : List MazeT) (h : List Int) (rd : Int) (R : List (List Int)) : List (List Int) := itr (fun i R => R.set i (rowF ms h rd i (R.getD i []))) ms.length 0 R
noncomputable def wonA (ms : List MazeT) (h : List Int) (rd : Int) (W : List Int) : List Int := itr (fun i W => W.set i (wonF ms h rd i (W.getD i 0))) ms.length 0 W
structure RW (ms : List MazeT) (W : List Int) (R : List (List Int)) : Prop where
  wl : W.length = ms.length
  rl : R.length = ms.length
  row : ∀ j, j < ms.length → (R.getD j []).length = szW ms j
  same : ∀ j, j < ms.length → W.getD j 0 = (R.getD j []).getD (szW ms j - 1) 0
theorem RW.step {ms : List MazeT} {os : List (List Int)} (hw : IsWorldsP ms os) {W : List Int} {R : List (List Int)} (hI : RW ms W R) (h : List Int) (rd : Int) : RW ms (wonA ms h rd W) (rowsA ms h rd R) := by
  obtain ⟨a1, a2⟩ := itr_at (wonF ms h rd) 0 W ms.length (by rw [hI.wl]; exact Nat.le_refl _)
  obtain ⟨b1, b2⟩ := itr_at (rowF ms h rd) [] R ms.length (by rw [hI.rl]; exact Nat.le_refl _)
  refine ⟨a1.trans hI.wl, b1.trans hI.rl, fun j hj => ?_, fun j hj => ?_⟩
  · unfold rowsA
    rw [b2 j, if_pos hj]
    unfold rowF
    rw [(fold_updR rd _ _ _).1]; exact hI.row j hj
  · have hf := hw.facts j hj
    have hlo := hf.lo
    unfold rowsA wonA
    rw [b2 j, if_pos hj, a2 j, if_pos hj]
    unfold rowF wonF
    rw [(fold_updR rd _ _ _).2 _ (by rw [hI.row j hj]; omega), hI.same j hj]
    have : szW ms j - 1 < szW ms j := by omega
    simp only [this, true_and]
    rfl
end
end Go.Proofs

/- Plain laws: R -/
namespace Go.Proofs
open Go Go.Ga Go.Ga.Wf
set_option linter.unusedVariables false
set_option linter.unusedSimpArgs false
section
variable {k : Nat}
end
end Go.Proofs

/- Plain laws: S -/
namespace Go.Proofs
open Go Go.Ga Go.Ga.Wf
set_option linter.unusedVariables false
set_option linter.unusedSimpArgs false
/-- a path of v steps to a goal -/
inductive Pth (nx : Nat → List Nat) (goal : Nat → Bool) : Nat → Nat → Prop
  | here {i : Nat} : goal i = true → Pth nx goal i 0
  | step {i j v : Nat} : j ∈ nx i → Pth nx goal j v → Pth nx goal i (v + 1)
/-! by truth -/
def cntF : List Bool → Nat
  | [] => 0
  | b :: l => (if b = true then 0 else 1) + cntF l
theorem cntF_set : ∀ (l : List Bool) (i : Nat), i < l.length → l.getD i false = false → cntF (l.set i true) + 1 = cntF l
  | [], i, h, _ => by simp at h
  | b :: l, 0, _, h => by
    simp only [List.getD_cons_zero] at h
    subst h
    simp only [List.set_cons_zero, cntF]; simp; omega
  | b :: l, i + 1, h, hv => by
    have := cntF_set l i (by simpa using h) (by simpa using hv)
    simp only [List.set_cons_succ, cntF]; omega
def goodG (nx : Nat → List Nat) (goal : Nat → Bool) (i : Nat) (p : List Bool × Bool) : List Bool × Bool :=
  if p.1.getD i false = true then p else if (goal i || (nx i).any fun t => p.1.getD t false) = true then (p.1.set i true, true) else p
structure GI (nx : Nat → List Nat) (goal : Nat → Bool) (m : Nat) (o : List Bool) (i : Nat) (p : List Bool × Bool) : Prop where
  len : p.1.length = m
  sound : ∀ t, p.1.getD t false = true → ∃ v, Pth nx goal t v
  le : cntF p.1 ≤ cntF o
  no : p.2 = false → p.1 = o ∧ ∀ j, j < i → o.getD j false = true ∨ (goal j = false ∧ ∀ t ∈ nx j, o.getD t false = false)
  yes : p.2 = true → cntF p.1 < cntF o
theorem GI.step {nx : Nat → List Nat} {goal : Nat → Bool} {m : Nat} {o : List Bool} {i : Nat} {p : List Bool × Bool} (h : GI nx goal m o i p) (hi : i < m) : GI nx goal m o (i + 1) (goodG nx goal i p) := by
  unfold goodG
  by_cases c1 : p.1.getD i false = true
  · rw [if_pos c1]
    refine ⟨h.len, h.sound, h.le, fun hf => ⟨(h.no hf).1, fun j hj => ?_⟩, h.yes⟩
    by_cases hji : j = i
    · subst hji; left; rw [← (h.no hf).1]; exact c1
    · exact (h.no hf).2 j (by omega)
  · rw [if_neg c1]
    by_cases c2 : (goal i || (nx i).any fun t => p.1.getD t false) = true
    · rw [if_pos c2]
      have hc := cntF_set p.1 i (by rw [h.len]; exact hi) (by simpa using c1)
      have hle := h.le
      refine ⟨by rw [List.length_set]; exact h.len, fun t ht => ?_, by simp only; omega, (fun hf => by cases hf), fun _ => by simp only; omega⟩
      simp only at ht
      rw [getD_set] at ht
      by_cases hti : i = t ∧ i < p.1.length
      · rw [← hti.1]
        rcases Bool.or_eq_true _ _ ▸ c2 with hg | hg
        · exact ⟨0, .here hg⟩
        · obtain ⟨j, hj, hv⟩ := List.any_eq_true.1 hg
          obtain ⟨v, hp⟩ := h.sound j hv
          exact ⟨v + 1, .step hj hp⟩
      · rw [if_neg hti] at ht
        exact h.sound t ht
    · rw [if_neg c2]
      refine ⟨h.len, h.sound, h.le, fun hf => ⟨(h.no hf).1, fun j hj => ?_⟩, h.yes⟩
      by_cases hji : j = i
      · subst hji
        right
        rw [← (h.no hf).1]
        simp only [Bool.or_eq_true, not_or, Bool.not_eq_true] at c2
        refine ⟨c2.1, fun t ht => ?_⟩
        cases hv : p.1.getD t false with
        | false => rfl
        | true =>
          have : ((nx j).any fun t => p.1.getD t false) = true := List.any_eq_true.2 ⟨t, ht, hv⟩
          rw [this] at c2; cases c2.2
      · exact (h.no hf).2 j (by omega)
/-! by numbers -/
def fv (v : Int) : Nat := if v < 0 then 2000 else v.toNat
def mu : List Int → Nat
  | [] => 0
  | v :: l => fv v + mu l
def cp : List Int → Nat
  | [] => 0
  | v :: l => (if v < 0 then 0 else 1) + cp l
theorem mu_set : ∀ (l : List Int) (i : Nat) (v : Int), i < l.length → mu (l.set i v) + fv (l.getD i 0) = mu l + fv v
  | [], i, v, h => by simp at h
  | x :: l, 0, v, _ => by simp only [List.set_cons_zero, mu, List.getD_cons_zero]; omega
  | x :: l, i + 1, v, h => by
    have := mu_set l i v (by simpa using h)
    simp only [List.set_cons_succ, mu, List.getD_cons_succ]; omega
theorem cp_set : ∀ (l : List Int) (i : Nat) (v : Int), i < l.length → 0 ≤ v → cp (l.set i v) + (if l.getD i 0 < 0 then 0 else 1) = cp l + 1
  | [], i, v, h, _ => by simp at h
  | x :: l, 0, v, _, hv => by
    have : ¬ v < 0 := by omega
    simp only [List.set_cons_zero, cp, List.getD_cons_zero, this, if_false]; omega
  | x :: l, i + 1, v, h, hv => by
    have := cp_set l i v (by simpa using h) hv
    simp only [List.set_cons_succ, cp, List.getD_cons_succ]; omega
theorem cp_le : ∀ l : List Int, cp l ≤ l.length
  | [] => Nat.le_refl _
  | v :: l => by have := cp_le l; simp only [cp, List.length_cons]; split <;> omega
def relax (i : Nat) (p : Bool × Arr 768) (j : Nat) : Bool × Arr 768 :=
  if 0 ≤ p.2.l.getD j 0 ∧ (p.2.l.getD i 0 < 0 ∨ p.2.l.getD j 0 + 1 < p.2.l.getD i 0) then (true, p.2.put (i : Int) (p.2.l.getD j 0 + 1)) else p
/-- an array of numbers of steps -/
structure DI (nx : Nat → List Nat) (goal : Nat → Bool) (m : Nat) (l : List Int) : Prop where
  bnd : ∀ t, l.getD t 0 ≤ cp l
  sound : ∀ t, t < l.length → 0 ≤ l.getD t 0 → Pth nx goal t (l.getD t 0).toNat
  gz : ∀ t, t < m → goal t = true → l.getD t 0 = 0
def Rlx (l : List Int) (i j : Nat) : Prop := 0 ≤ l.getD j 0 → 0 ≤ l.getD i 0 ∧ l.getD i 0 ≤ l.getD j 0 + 1
structure PI (nx : Nat → List Nat) (goal : Nat → Bool) (m : Nat) (o : Arr 768) (i : Nat) (p : Bool × Arr 768) : Prop where
  di : DI nx goal m p.2.l
  le : mu p.2.l ≤ mu o.l
  no : p.1 = false → p.2.l = o.l ∧ ∀ t, t < i → ∀ j ∈ nx t, Rlx o.l t j
  yes : p.1 = true → mu p.2.l < mu o.l
theorem PI.relax {nx : Nat → List Nat} {goal : Nat → Bool} {m : Nat} {o : Arr 768} {i : Nat} {p : Bool × Arr 768} (h : PI nx goal m o i p) (hm : m ≤ 768) (hi : i < m) {j : Nat} (hj : j ∈ nx i) (hjm : j < m) :
    PI nx goal m o i (Go.Proofs.relax i p j) ∧ ((Go.Proofs.relax i p j).1 = false → p.1 = false ∧ Rlx o.l i j) := by
  unfold Go.Proofs.relax
  have hlen := p.2.len
  have hcl := cp_le p.2.l
  by_cases c : 0 ≤ p.2.l.getD j 0 ∧ (p.2.l.getD i 0 < 0 ∨ p.2.l.getD j 0 + 1 < p.2.l.getD i 0)
  · rw [if_pos c]
    have hbj := h.di.bnd j
    have hbi := h.di.bnd i
    have hmu := mu_set p.2.l i (p.2.l.getD j 0 + 1) (by omega)
    have hcp := cp_set p.2.l i (p.2.l.getD j 0 + 1) (by omega) (by omega)
    have hput : (p.2.put (i : Int) (p.2.l.getD j 0 + 1)).l = p.2.l.set i (p.2.l.getD j 0 + 1) := rfl
    have hfv : fv (p.2.l.getD j 0 + 1) < fv (p.2.l.getD i 0) := by
      unfold fv
      rw [if_neg (by omega)]
      split
      · omega
      · omega
    have hle := h.le
    refine ⟨⟨⟨fun t => ?_, fun t ht h0 => ?_, fun t ht hg => ?_⟩, ?_, (fun hf => by cases hf), fun _ => ?_⟩, fun hf => by cases hf⟩
    · simp only; rw [hput, getD_set]
      have hbt := h.di.bnd t
      split
      · split at hcp <;> omega
      · split at hcp <;> omega
    · simp only at ht h0 ⊢
      rw [hput] at ht h0 ⊢
      rw [getD_set] at h0 ⊢
      by_cases hti : i = t ∧ i < p.2.l.length
      · rw [if_pos hti] at h0 ⊢
        rw [← hti.1, show (p.2.l.getD j 0 + 1).toNat = (p.2.l.getD j 0).toNat + 1 by omega]
        exact .step hj (h.di.sound j (by omega) c.1)
      · rw [if_neg hti] at h0 ⊢
        exact h.di.sound t (by simpa using ht) h0
    · simp only
      have hz := h.di.gz t ht hg
      rw [hput, getD_set]
      by_cases hti : i = t ∧ i < p.2.l.length
      · rw [← hti.1] at hz; omega
      · rw [if_neg hti]; exact hz
    · simp only; rw [hput]; omega
    · simp only; rw [hput]; omega
  · rw [if_neg c]
    refine ⟨h, fun hf => ⟨hf, ?_⟩⟩
    have ho := (h.no hf).1
    unfold Rlx
    rw [← ho]
    intro h0
    omega
theorem PI.row {nx : Nat → List Nat} {goal : Nat → Bool} {m : Nat} {o : Arr 768} {i : Nat} {p : Bool × Arr 768} (h : PI nx goal m o i p) (hm : m ≤ 768) (hi : i < m) (hn : ∀ j ∈ nx i, j < m) : PI nx goal m o (i + 1) ((nx i).foldl (Go.Proofs.relax i) p) := by
  have key : ∀ (L done : List Nat) (p : Bool × Arr 768), (∀ j ∈ L, j ∈ nx i) → PI nx goal m o i p → (p.1 = false → ∀ j ∈ done, Rlx o.l i j) → PI nx goal m o i (L.foldl (Go.Proofs.relax i) p) ∧ ((L.foldl (Go.Proofs.relax i) p).1 = false → ∀ j, j ∈ done ∨ j ∈ L → Rlx o.l i j) := by
    intro L
    induction L with
    | nil => intro done p _ h1 h2; exact ⟨h1, fun hf j hj => by rcases hj with hj | hj; exact h2 hf j hj; cases hj⟩
    | cons j L ih =>
      intro done p hL h1 h2
      obtain ⟨g1, g2⟩ := h1.relax hm hi (hL j (List.mem_cons_self ..)) (hn j (hL j (List.mem_cons_self ..)))
      obtain ⟨k1, k2⟩ := ih (done ++ [j]) (Go.Proofs.relax i p j) (fun t ht => hL t (List.mem_cons_of_mem _ ht)) g1 (fun hf t ht => by
        rcases List.mem_append.1 ht with ht | ht
        · exact h2 (g2 hf).1 t ht
        · rw [List.mem_singleton.1 ht]; exact (g2 hf).2)
      refine ⟨k1, fun hf t ht => ?_⟩
      rcases ht with ht | ht
      · exact k2 hf t (.inl (List.mem_append_left _ ht))
      · rcases List.mem_cons.1 ht with rfl | ht
        · exact k2 hf t (.inl (List.mem_append_right _ (List.mem_singleton.2 rfl)))
        · exact k2 hf t (.inr ht)
  obtain ⟨k1, k2⟩ := key (nx i) [] p (fun j hj => hj) h (fun _ j hj => by cases hj)
  refine ⟨k1.di, k1.le, fun hf => ⟨(k1.no hf).1, fun t ht j hj => ?_⟩, k1.yes⟩
  by_cases hti : t = i
  · subst hti; exact k2 hf j (.inr hj)
  · exact (k1.no hf).2 t (by omega) j hj
end Go.Proofs

/- Plain laws: T -/
namespace Go.Proofs
open Go Go.Ga Go.Ga.Wf
set_option linter.unusedVariables false
set_option linter.unusedSimpArgs false
section
variable {k : Nat}
end
end Go.Proofs

/- Plain laws: U -/
namespace Go.Proofs
open Go Go.Ga Go.Ga.Wf
set_option linter.unusedVariables false
set_option linter.unusedSimpArgs false
section
variable {k : Nat}
end
end Go.Proofs

/- Plain laws: V -/
namespace Go.Proofs
open Go Go.Ga Go.Ga.Wf
set_option linter.unusedVariables false
set_option linter.unusedSimpArgs false
section
variable {k : Nat}
end
end Go.Proofs

/- Plain laws: W -/
namespace Go.Proofs
open Go Go.Ga Go.Ga.Wf
set_option linter.unusedVariables false
set_option linter.unusedSimpArgs false
/-- reached from a -/
inductive Rc (nx : Nat → List Nat) (a : Nat) : Nat → Prop
  | here : Rc nx a a
  | step {i j : Nat} : Rc nx a i → j ∈ nx i → Rc nx a j
def vis (v : Int) (p : List Int × List Nat) (j : Nat) : List Int × List Nat := if p.1.getD j 0 < 0 then (p.1.set j v, p.2 ++ [j]) else p
structure FI (nx : Nat → List Nat) (a m : Nat) (V0 : List Int) (p : List Int × List Nat) : Prop where
  len : p.1.length = V0.length
  keep : ∀ t, 0 ≤ V0.getD t 0 → p.1.getD t 0 = V0.getD t 0
  bnd : ∀ t, p.1.getD t 0 ≤ cp p.1
  sound : ∀ t, t < p.1.length → 0 ≤ p.1.getD t 0 → Rc nx a t
  new : ∀ t ∈ p.2, t < m ∧ 0 ≤ p.1.getD t 0
  only : ∀ t, 0 ≤ p.1.getD t 0 → 0 ≤ V0.getD t 0 ∨ t ∈ p.2
  cnt : cp p.1 = cp V0 + p.2.length
theorem FI.vis {nx : Nat → List Nat} {a m : Nat} {V0 : List Int} {p : List Int × List Nat} (h : FI nx a m V0 p) (hm : m ≤ V0.length) {i j : Nat} (hi : i < V0.length) (h0 : 0 ≤ V0.getD i 0) (hb0 : V0.getD i 0 ≤ cp V0) (hs0 : Rc nx a i) (hj : j ∈ nx i) (hjm : j < m) :
    FI nx a m V0 (Go.Proofs.vis (V0.getD i 0 + 1) p j) ∧ 0 ≤ (Go.Proofs.vis (V0.getD i 0 + 1) p j).1.getD j 0 := by
  have hlen := h.len
  have hcnt := h.cnt
  unfold Go.Proofs.vis
  by_cases c : p.1.getD j 0 < 0
  rotate_left 1
  · rw [if_neg c]; exact ⟨h, by omega⟩
  rw [if_pos c]
  have hcp := cp_set p.1 j (V0.getD i 0 + 1) (by omega) (by omega)
  rw [if_pos c] at hcp
  refine ⟨⟨by rw [List.length_set]; exact h.len, fun t ht => ?_, fun t => ?_, fun t ht h1 => ?_, fun t ht => ?_, fun t ht => ?_, by simp only [List.length_append, List.length_singleton]; omega⟩, ?_⟩
  · have hk := h.keep t ht
    simp only; rw [getD_set]
    split
    · rename_i hc; rw [← hc.1] at hk ht; omega
    · exact hk
  · simp only; rw [getD_set]
    have := h.bnd t
    split <;> omega
  · simp only at ht h1
    rw [getD_set] at h1
    by_cases hc : j = t ∧ j < p.1.length
    · rw [← hc.1]; exact .step hs0 hj
    · rw [if_neg hc] at h1; exact h.sound t (by simpa using ht) h1
  · simp only at ht ⊢
    rcases List.mem_append.1 ht with ht | ht
    · have := h.new t ht
      refine ⟨this.1, ?_⟩
      rw [getD_set]; split <;> omega
    · rw [List.mem_singleton.1 ht]
      refine ⟨hjm, ?_⟩
      rw [getD_set, if_pos ⟨rfl, by omega⟩]; omega
  · simp only at ht ⊢
    rw [getD_set] at ht
    by_cases hc : j = t ∧ j < p.1.length
    · right; rw [← hc.1]; exact List.mem_append_right _ (List.mem_singleton.2 rfl)
    · rw [if_neg hc] at ht
      rcases h.only t ht with h' | h'
      · exact .inl h'
      · exact .inr (List.mem_append_left _ h')
  · simp only; rw [getD_set, if_pos ⟨rfl, by omega⟩]; omega
end Go.Proofs

/- Plain laws: X -/
namespace Go.Proofs
open Go Go.Ga Go.Ga.Wf
set_option linter.unusedVariables false
set_option linter.unusedSimpArgs false
section
variable {k : Nat}
end
end Go.Proofs

/- Plain laws: Y -/
namespace Go.Proofs
open Go Go.Ga Go.Ga.Wf
set_option linter.unusedVariables false
set_option linter.unusedSimpArgs false
section
variable {k : Nat}
end
end Go.Proofs

/- Plain laws: Z -/
namespace Go.Proofs
open Go Go.Ga Go.Ga.Wf
set_option linter.unusedVariables false
set_option linter.unusedSimpArgs false
section
variable {k : Nat}
/-! counts -/
end
end Go.Proofs

/- Plain laws: AA -/
namespace Go.Proofs
open Go Go.Ga Go.Ga.Wf
set_option linter.unusedVariables false
set_option linter.unusedSimpArgs false
section
variable {k : Nat}
end
end Go.Proofs

/- Plain laws: BB -/
namespace Go.Proofs
open Go Go.Ga Go.Ga.Wf
set_option linter.unusedVariables false
set_option linter.unusedSimpArgs false
/-- a path of v steps from a -/
inductive Rp (nx : Nat → List Nat) (a : Nat) : Nat → Nat → Prop
  | here : Rp nx a a 0
  | step {i j v : Nat} : Rp nx a i v → j ∈ nx i → Rp nx a j (v + 1)
theorem Rp.front {nx : Nat → List Nat} {a b : Nat} (hj : b ∈ nx a) {t v : Nat} (hr : Rp nx b t v) : Rp nx a t (v + 1) := by
  induction hr with
  | here => exact .step .here hj
  | step _ hj' ih => exact .step ih hj'
theorem Pth.rp {nx : Nat → List Nat} {goal : Nat → Bool} {a v : Nat} (hp : Pth nx goal a v) : ∃ t, goal t = true ∧ Rp nx a t v := by
  induction hp with
  | here hg => exact ⟨_, hg, .here⟩
  | step hj _ ih =>
    obtain ⟨t, h1, h2⟩ := ih
    exact ⟨t, h1, Rp.front hj h2⟩
end Go.Proofs

/- Plain laws: CC -/
namespace Go.Proofs
open Go Go.Ga Go.Ga.Wf
set_option linter.unusedVariables false
set_option linter.unusedSimpArgs false
section
variable {k : Nat}
end
end Go.Proofs

/- Plain laws: DD -/
namespace Go.Proofs
open Go Go.Ga Go.Ga.Wf
set_option linter.unusedVariables false
set_option linter.unusedSimpArgs false
end Go.Proofs

/- Plain laws: EE -/
namespace Go.Proofs
open Go Go.Ga Go.Ga.Wf
set_option linter.unusedVariables false
set_option linter.unusedSimpArgs false
section
variable {k : Nat}
end
end Go.Proofs

/- Plain laws: FF -/
namespace Go.Proofs
open Go Go.Ga Go.Ga.Wf
set_option linter.unusedVariables false
set_option linter.unusedSimpArgs false
section
variable {k : Nat}
end
end Go.Proofs

/- Plain laws: GG -/
namespace Go.Proofs
open Go Go.Ga Go.Ga.Wf
set_option linter.unusedVariables false
set_option linter.unusedSimpArgs false
section
variable {k : Nat}
end
end Go.Proofs

/- Plain laws: HH -/
namespace Go.Proofs
open Go Go.Ga Go.Ga.Wf
set_option linter.unusedVariables false
set_option linter.unusedSimpArgs false
section
variable {k : Nat}
end
end Go.Proofs

/- Plain laws: II -/
namespace Go.Proofs
open Go Go.Ga Go.Ga.Wf
set_option linter.unusedVariables false
set_option linter.unusedSimpArgs false
/-- the order of words of one length -/
def lx : List Nat → List Nat → Prop
  | x :: xs, y :: ys => x < y ∨ (x = y ∧ lx xs ys)
  | _, _ => False
theorem lx_trans : ∀ {p q r : List Nat}, lx p q → lx q r → lx p r
  | x :: p, y :: q, z :: r, h, k => by
    rcases h with h | h <;> rcases k with k | k
    · exact .inl (by omega)
    · exact .inl (by omega)
    · exact .inl (by omega)
    · exact .inr ⟨by omega, lx_trans h.2 k.2⟩
  | [], _, _, h, _ => h.elim
  | _ :: _, [], _, h, _ => h.elim
  | _ :: _, _ :: _, [], _, k => k.elim
theorem lx_app : ∀ {p q : List Nat} (s t : List Nat), lx p q → lx (p ++ s) (q ++ t)
  | x :: p, y :: q, s, t, h => by
    rcases h with h | h
    · exact .inl h
    · exact .inr ⟨h.1, lx_app s t h.2⟩
  | [], _, _, _, h => h.elim
  | _ :: _, [], _, _, h => h.elim
def klt (p q : List Nat) : Prop := p.length < q.length ∨ (p.length = q.length ∧ lx p q)
def kle (p q : List Nat) : Prop := p = q ∨ klt p q
theorem klt_trans {p q r : List Nat} (h : klt p q) (k : klt q r) : klt p r := by
  rcases h with h | h <;> rcases k with k | k
  · exact .inl (by omega)
  · exact .inl (by omega)
  · exact .inl (by omega)
  · exact .inr ⟨by omega, lx_trans h.2 k.2⟩
theorem kle_trans {p q r : List Nat} (h : kle p q) (k : kle q r) : kle p r := by
  rcases h with rfl | h
  · exact k
  · rcases k with rfl | k
    · exact .inr h
    · exact .inr (klt_trans h k)
theorem kle_len {p q : List Nat} (h : kle p q) : p.length ≤ q.length := by
  rcases h with rfl | h | h <;> omega
theorem klt_snoc {p q : List Nat} (x y : Nat) (h : klt p q) : klt (p ++ [x]) (q ++ [y]) := by
  rcases h with h | h
  · exact .inl (by simp; omega)
  · exact .inr ⟨by simp; omega, lx_app _ _ h.2⟩
theorem kle_snoc {p q : List Nat} (x : Nat) (h : kle p q) : kle (p ++ [x]) (q ++ [x]) := by
  rcases h with rfl | h
  · exact .inl rfl
  · exact .inr (klt_snoc x x h)
theorem klt_more {p q : List Nat} (y : Nat) (h : kle p q) : klt p (q ++ [y]) := .inl (by have := kle_len h; simp; omega)
/-- a path, and where it leads -/
inductive Sp (nx : Nat → List Nat) (a : Nat) : List Nat → Nat → Prop
  | nil : Sp nx a [] a
  | snoc {p : List Nat} {u j : Nat} : Sp nx a p u → j ∈ nx u → Sp nx a (p ++ [j]) j
theorem Sp.rp {nx : Nat → List Nat} {a : Nat} {p : List Nat} {t : Nat} (h : Sp nx a p t) : Rp nx a t p.length := by
  induction h with
  | nil => exact .here
  | snoc _ hj ih => rw [List.length_append]; exact .step ih hj
theorem Sp.cons {nx : Nat → List Nat} {a b : Nat} (hb : b ∈ nx a) {p : List Nat} {t : Nat} (h : Sp nx b p t) : Sp nx a (b :: p) t := by
  induction h with
  | nil => exact .snoc (p := []) .nil hb
  | snoc _ hj ih => rw [← List.cons_append]; exact .snoc ih hj
/-- the queue, and the path to each of its states -/
structure OD (nx : Nat → List Nat) (a m : Nat) (V B : List Int) (done td : List Nat) (pf : Nat → List Nat) : Prop where
  a0 : pf a = []
  vis : ∀ t, t < m → (0 ≤ V.getD t 0 ↔ t ∈ done ++ td)
  lt : ∀ t ∈ done ++ td, t < m
  sp : ∀ t ∈ done ++ td, Sp nx a (pf t) t
  len : ∀ t ∈ done ++ td, ((pf t).length : Int) = V.getD t 0
  par : ∀ t ∈ done ++ td, t ≠ a → ∃ u : Nat, u ∈ done ∧ B.getD t 0 = u ∧ pf t = pf u ++ [t]
  sort : (done ++ td).Pairwise (fun u v => klt (pf u) (pf v))
  cl : ∀ u ∈ done, ∀ j ∈ nx u, j ∈ done ++ td ∧ kle (pf j) (pf u ++ [j])
/-- whoever is first in the queue has the first path -/
theorem OD.first {nx : Nat → List Nat} {a m : Nat} {V B : List Int} {done rest : List Nat} {i : Nat} {pf : Nat → List Nat} (h : OD nx a m V B done (i :: rest) pf) (ha : a < m) (ha0 : 0 ≤ V.getD a 0) {gd : Nat → Bool} (hg : ∀ t ∈ done, gd t = true) {p : List Nat} {t : Nat} (hp : Sp nx a p t) (ht : gd t = false) : kle (pf i) p := by
  have hsrt := List.pairwise_append.1 h.sort
  have hsrt2 := List.pairwise_cons.1 hsrt.2.1
  have htd : ∀ u ∈ i :: rest, kle (pf i) (pf u) := fun u hu => by
    rcases List.mem_cons.1 hu with rfl | hu
    · exact .inl rfl
    · exact .inr (hsrt2.1 u hu)
  have key : ∀ {p : List Nat} {u : Nat}, Sp nx a p u → (u ∈ done ++ i :: rest ∧ kle (pf u) p) ∨ kle (pf i) p := by
    intro p u hp
    induction hp with
    | nil => exact .inl ⟨(h.vis a ha).1 ha0, .inl h.a0⟩
    | snoc _ hj ih =>
      rcases ih with ⟨h1, h2⟩ | h1
      · rcases List.mem_append.1 h1 with h3 | h3
        · obtain ⟨h4, h5⟩ := h.cl _ h3 _ hj
          exact .inl ⟨h4, kle_trans h5 (kle_snoc _ h2)⟩
        · exact .inr (kle_trans (htd _ h3) (.inr (klt_more _ h2)))
      · exact .inr (.inr (klt_more _ h1))
  rcases key hp with ⟨h1, h2⟩ | h1
  · rcases List.mem_append.1 h1 with h3 | h3
    · rw [hg t h3] at ht; cases ht
    · exact kle_trans (htd t h3) h2
  · exact h1
end Go.Proofs

/- Plain laws: JJ -/
namespace Go.Proofs
open Go Go.Ga Go.Ga.Wf
set_option linter.unusedVariables false
set_option linter.unusedSimpArgs false
section
variable {k : Nat}
/-! the program's walk: step by step to what is nearer -/
end
end Go.Proofs

/- Plain laws: KK -/
namespace Go.Proofs
open Go Go.Ga Go.Ga.Wf
set_option linter.unusedVariables false
set_option linter.unusedSimpArgs false
section
variable {k : Nat}
end
end Go.Proofs

/- Plain laws: LL -/
namespace Go.Proofs
open Go Go.Ga Go.Ga.Wf
set_option linter.unusedVariables false
set_option linter.unusedSimpArgs false
end Go.Proofs

/- Plain laws: MM -/
namespace Go.Proofs
open Go Go.Ga Go.Ga.Wf
set_option linter.unusedVariables false
set_option linter.unusedSimpArgs false
section
variable {k : Nat}
end
end Go.Proofs

/- Plain laws: NN -/
namespace Go.Proofs
open Go Go.Ga Go.Ga.Wf
set_option linter.unusedVariables false
set_option linter.unusedSimpArgs false
section
variable {k : Nat}
/-! copies and order -/
/-! the reference -/
/-! a deed -/
end
end Go.Proofs

/- Plain laws: OO -/
namespace Go.Proofs
open Go Go.Ga Go.Ga.Wf
set_option linter.unusedVariables false
set_option linter.unusedSimpArgs false
section
variable {k : Nat}
/-! the rounds of the reference, and when each node is entered -/
/-! colours of a set -/
/-! depth -/
/-! swaps -/
end
end Go.Proofs

/- Plain laws: PP -/
namespace Go.Proofs
open Go Go.Ga Go.Ga.Wf
set_option linter.unusedVariables false
set_option linter.unusedSimpArgs false
section
variable {k : Nat}
end
end Go.Proofs

/- Plain laws: QQ -/
namespace Go.Proofs
open Go Go.Ga Go.Ga.Wf
set_option linter.unusedVariables false
set_option linter.unusedSimpArgs false
section
variable {k : Nat}
/-! the deeds -/
end
end Go.Proofs

/- Plain laws: RR -/
namespace Go.Proofs
open Go Go.Ga Go.Ga.Wf
set_option linter.unusedVariables false
set_option linter.unusedSimpArgs false
def B (l : List UInt8) : ByteArray := ⟨l.toArray⟩
theorem B_all (s : ByteArray) : ∃ l, s = B l := ⟨s.data.toList, by cases s; simp [B]⟩
theorem B_size (l : List UInt8) : (B l).size = l.length := by simp [B, ByteArray.size]
theorem B_app (a b : List UInt8) : B a ++ B b = B (a ++ b) := by
  apply ByteArray.ext; simp [B]
theorem B_list (l : List UInt8) : (B l).toList = l := by rw [Lib.toList_data]; simp [B]
theorem B_cut (l : List UInt8) (i j : Nat) (hij : i ≤ j) (hj : j ≤ l.length) : scut (B l) (i : Int) (j : Int) = some (B ((l.take j).drop i)) := by
  unfold scut
  rw [if_pos ⟨by omega, by omega, by rw [B_size]; omega⟩]
  congr 1
  apply ByteArray.ext
  apply Array.toList_inj.1
  simp [B, List.drop_take]
theorem B_bta (l : List UInt8) (i : Nat) (hi : i < l.length) : bta (B l) (i : Int) = some l[i] := by
  have : i < (B l).size := by rw [B_size]; exact hi
  rw [bta_lt this]; rfl
theorem dig (n : Nat) (h : n < 10) : (([48, 49, 50, 51, 52, 53, 54, 55, 56, 57] : List UInt8).take (n + 1)).drop n = [UInt8.ofNat (48 + n)] := by
  have : ∀ n, n < 10 → (([48, 49, 50, 51, 52, 53, 54, 55, 56, 57] : List UInt8).take (n + 1)).drop n = [UInt8.ofNat (48 + n)] := by decide
  exact this n h
def upTo (c : UInt8) (l : List UInt8) : List UInt8 := l.takeWhile (· != c)
theorem idx_eq (c : UInt8) : ∀ l : List UInt8, Lib.indexByte l c = if c ∈ l then ((upTo c l).length : Int) else -1
  | [] => rfl
  | b :: l => by
    have ih := idx_eq c l
    unfold Lib.indexByte upTo
    by_cases h : b = c
    · subst h; simp
    · have h1 : (b == c) = false := by simpa using h
      have h2 : (b != c) = true := by simpa using h
      have h3 : (c ∈ b :: l) ↔ c ∈ l := by simp [Ne.symm h]
      rw [h1, ih, List.takeWhile_cons, h2]
      by_cases hc : c ∈ l
      · rw [if_pos hc, if_pos (h3.2 hc)]
        have : ¬ (((upTo c l).length : Int) == -1) = true := by rw [beq_iff_eq]; omega
        rw [if_neg (by simp), if_neg this]
        simp [upTo]
      · rw [if_neg hc, if_neg (fun h => hc (h3.1 h))]; rfl
theorem itoa_nat (n : Nat) : Lib.itoa (n : Int) = Lib.decDigits n := by
  unfold Lib.itoa; rw [if_neg (by omega), Int.toNat_natCast]
section
variable {k : Nat}
theorem num_r : ∀ (m q n : Nat), n < 10 ^ (m + 1) → m < q → m ≤ 14 → spec_l1Num.r k q (n : Int) = some (B (Lib.decDigits n)) ∧ (Lib.decDigits n).length ≤ m + 1
  | m, 0, n, _, h, _ => by omega
  | 0, q + 1, n, hn, _, _ => by
    have hn' : n < 10 := by simpa using hn
    have h0 : ¬ (n : Int) < 0 := by omega
    have h1 : (n : Int) < 10 := by omega
    have hw : w64 ((n : Int) + 1) = ((n + 1 : Nat) : Int) := w64_id (by omega) (by omega)
    rw [spec_l1Num.r, Lib.decDigits, dif_pos hn']
    simp only [h0, h1, decide_false, decide_true, Bool.false_eq_true, if_false, if_true, hw]
    rw [show ByteArray.mk #[48, 49, 50, 51, 52, 53, 54, 55, 56, 57] = B [48, 49, 50, 51, 52, 53, 54, 55, 56, 57] from rfl, B_cut _ n (n + 1) (by omega) (by simp; omega), dig n hn']
    exact ⟨rfl, by simp⟩
  | m + 1, q + 1, n, hn, hq, hm => by
    by_cases hn' : n < 10
    · have := num_r 0 (q + 1) n (by simpa using hn') (by omega) (by omega)
      exact ⟨this.1, by omega⟩
    have h0 : ¬ (n : Int) < 0 := by omega
    have h1 : ¬ (n : Int) < 10 := by omega
    have h10 : 10 ^ (m + 1) ≤ 10 ^ 14 := Nat.pow_le_pow_right (by omega) (by omega)
    have e10 : 10 ^ (m + 1 + 1) = 10 ^ (m + 1) * 10 := Nat.pow_succ ..
    rw [e10] at hn
    have hsm : n < 1000000000000000 := by
      have : (10 : Nat) ^ 14 = 100000000000000 := rfl
      generalize 10 ^ (m + 1) = v at *
      omega
    have hq10 : quo (n : Int) 10 = ((n / 10 : Nat) : Int) := by
      unfold quo
      rw [Int.tdiv_eq_ediv_of_nonneg (by omega)]
      rw [show (n : Int) / 10 = ((n / 10 : Nat) : Int) by omega]
      exact w64_id (by omega) (by omega)
    have hr10 : rem (n : Int) 10 = ((n % 10 : Nat) : Int) := by
      unfold rem
      rw [Int.tmod_eq_emod_of_nonneg (by omega)]; omega
    have hw : w64 (((n % 10 : Nat) : Int) + 1) = ((n % 10 + 1 : Nat) : Int) := w64_id (by omega) (by omega)
    obtain ⟨i1, i2⟩ := num_r m q (n / 10) (by generalize 10 ^ (m + 1) = v at *; omega) (by omega) (by omega)
    rw [spec_l1Num.r, Lib.decDigits, dif_neg hn']
    simp only [h0, h1, decide_false, Bool.false_eq_true, if_false, hq10, hr10, hw, i1, Option.bind_some]
    rw [show ByteArray.mk #[48, 49, 50, 51, 52, 53, 54, 55, 56, 57] = B [48, 49, 50, 51, 52, 53, 54, 55, 56, 57] from rfl, B_cut _ (n % 10) (n % 10 + 1) (by omega) (by simp; omega), dig (n % 10) (by omega), Option.bind_some, B_app, if_pos (by rw [B_size, List.length_append]; simp; omega)]
    exact ⟨rfl, by rw [List.length_append]; simp; omega⟩
theorem l1Num_eq (hk : Big ≤ k) (n : Nat) (hn : n < 1000000) : spec_l1Num.f k (n : Int) = some (B (Lib.itoa (n : Int))) := by
  rw [itoa_nat]
  exact (num_r 5 k n (by simpa using hn) (by unfold Big at hk; omega) (by omega)).1
theorem itoa_len (n : Nat) (hn : n < 1000000) : (Lib.itoa (n : Int)).length ≤ 6 := by
  rw [itoa_nat]
  exact (num_r (k := 0) 5 6 n (by simpa using hn) (by omega) (by omega)).2
theorem itoa_len2 (n : Nat) (hn : n < 100) : (Lib.itoa (n : Int)).length ≤ 2 := by
  rw [itoa_nat]
  exact (num_r (k := 0) 1 2 n (by simpa using hn) (by omega) (by omega)).2
theorem Itoa_eq (n : Int) (h0 : 0 ≤ n) (h1 : n < 1000000) : strconv_Itoa.f k n = some (B (Lib.itoa n)) := by
  unfold strconv_Itoa.f
  rw [if_pos ⟨by omega, by omega⟩]; rfl
/-! checksums -/
def sumG (l : List UInt8) (i : Nat) (h : Int) : Int := rem (w64 ((w64 ((w64 (41 * h)) + (IntKind.i64.wrap ((l.getD i 0).toNat : Int)))) + 1)) 999979
def sumP (l : List UInt8) : Int := itr (sumG l) l.length 0 7
theorem sumG_range (l : List UInt8) (i : Nat) (h : Int) (hh : 0 ≤ h ∧ h < 999979) : 0 ≤ sumG l i h ∧ sumG l i h < 999979 := by
  unfold sumG
  rw [wrap_byte]
  have hb := (l.getD i 0).toNat_lt
  have e1 : w64 (41 * h) = 41 * h := w64_id (by omega) (by omega)
  have e2 : w64 (41 * h + ((l.getD i 0).toNat : Int)) = 41 * h + ((l.getD i 0).toNat : Int) := w64_id (by omega) (by omega)
  have e3 : w64 (41 * h + ((l.getD i 0).toNat : Int) + 1) = 41 * h + ((l.getD i 0).toNat : Int) + 1 := w64_id (by omega) (by omega)
  rw [e1, e2, e3]
  unfold rem
  rw [Int.tmod_eq_emod_of_nonneg (by omega)]
  have h1 := Int.emod_nonneg (41 * h + ((l.getD i 0).toNat : Int) + 1) (b := 999979) (by omega)
  have h2 := Int.emod_lt_of_pos (41 * h + ((l.getD i 0).toNat : Int) + 1) (b := 999979) (by omega)
  exact ⟨h1, h2⟩
theorem checksum_eq (hk : Big ≤ k) (l : List UInt8) (hl : l.length ≤ 1048576) : impl_checksum.f k (B l) = some (sumP l) ∧ 0 ≤ sumP l ∧ sumP l < 999979 := by
  unfold impl_checksum.f
  have := loop_state (l := fun q (h : Int) i => impl_checksum.l0 k (B l) q h i) (N := l.length) (g := sumG l) (out := some) (fun _ h => 0 ≤ h ∧ h < 999979) (fun q i h hi hh => by
    refine ⟨?_, sumG_range l i h hh⟩
    have hlt : ((i : Int) < ((B l).size : Int)) := by rw [B_size]; omega
    have hw : w64 ((i : Int) + 1) = ((i + 1 : Nat) : Int) := w64_id (by omega) (by omega)
    rw [impl_checksum.l0]
    simp only [hlt, decide_true, if_true, B_bta l i hi, Option.bind_some, hw]
    unfold sumG
    rw [List.getD_eq_getElem?_getD, List.getElem?_eq_getElem hi]; rfl) (fun q h _ => by
    show impl_checksum.l0 k (B l) (q + 1) h (l.length : Int) = _
    rw [impl_checksum.l0, B_size]; simp) (k := k) (by unfold Big at hk; omega) (s := 7) (by omega)
  rw [this.1]
  exact ⟨rfl, this.2⟩
theorem l1Sum_eq (hk : Big ≤ k) (l : List UInt8) (hl : l.length ≤ 1048576) : spec_l1Sum.f k (B l) = some (sumP l) := by
  unfold spec_l1Sum.f
  have := loop_state (l := fun q (h : Int) i => spec_l1Sum.l0 k (B l) q h i) (N := l.length) (g := sumG l) (out := some) (fun _ h => 0 ≤ h ∧ h < 999979) (fun q i h hi hh => by
    refine ⟨?_, sumG_range l i h hh⟩
    have hlt : ((i : Int) < ((B l).size : Int)) := by rw [B_size]; omega
    have hw : w64 ((i : Int) + 1) = ((i + 1 : Nat) : Int) := w64_id (by omega) (by omega)
    rw [spec_l1Sum.l0]
    simp only [hlt, decide_true, if_true, B_bta l i hi, Option.bind_some, hw]
    unfold sumG
    rw [List.getD_eq_getElem?_getD, List.getElem?_eq_getElem hi]; rfl) (fun q h _ => by
    show spec_l1Sum.l0 k (B l) (q + 1) h (l.length : Int) = _
    rw [spec_l1Sum.l0, B_size]; simp) (k := k) (by unfold Big at hk; omega) (s := 7) (by omega)
  rw [this.1]; rfl
def sealL (l : List UInt8) : List UInt8 := l ++ [35] ++ Lib.itoa (sumP l)
theorem sumP_nat (l : List UInt8) (hl : l.length ≤ 1048576) : ∃ n : Nat, sumP l = (n : Int) ∧ n < 999979 := by
  have := (checksum_eq (Nat.le_refl Big) l hl).2
  exact ⟨(sumP l).toNat, by omega, by omega⟩
theorem sealL_len (l : List UInt8) (hl : l.length ≤ 1048576) : (sealL l).length ≤ l.length + 7 := by
  obtain ⟨n, h1, h2⟩ := sumP_nat l hl
  have := itoa_len n (by omega)
  unfold sealL
  rw [h1, List.length_append, List.length_append]; simp; omega
theorem l1Seal_eq (hk : Big ≤ k) (l : List UInt8) (hl : l.length ≤ 1048576) : spec_l1Seal.f k (B l) = some (B (sealL l)) := by
  unfold spec_l1Seal.f
  obtain ⟨n, h1, h2⟩ := sumP_nat l hl
  have h3 := itoa_len n (by omega)
  rw [show ByteArray.mk #[35] = B [35] from rfl, B_app, if_pos (by rw [B_size, List.length_append]; simp; omega), l1Sum_eq hk l hl, Option.bind_some, h1, l1Num_eq hk n (by omega), Option.bind_some, B_app, if_pos (by rw [B_size, List.length_append, List.length_append]; simp; omega)]
  unfold sealL; rw [h1]
/-! one byte in a text -/
theorem strIndex_eq (l : List UInt8) (c : UInt8) : stringslite_Index.f k (B l) (B [c]) = some (Lib.indexByte l c) := by
  unfold stringslite_Index.f
  have e1 : (((B [c]).size : Int) == 0) = false := rfl
  have e2 : (((B [c]).size : Int) == 1) = true := rfl
  rw [e1, e2, B_list, B_list]
  simp only [Bool.false_eq_true, if_false, if_true, Option.bind_some]
  by_cases h : [c] = l
  · subst h
    rw [if_pos (by simp)]
    simp [Lib.indexByte]
  · have : ([c] == l) = false := by simpa using h
    rw [this]
    simp only [Bool.false_eq_true, if_false]
    have hb := B_bta [c] 0 (by simp)
    rw [show ((0 : Nat) : Int) = 0 from rfl] at hb
    rw [hb, Option.bind_some]
    unfold stringslite_IndexByte.f bytea
    rw [Option.bind_some, Int.toNat_natCast]
    simp [B]
theorem Contains_eq (l : List UInt8) (c : UInt8) : strings_Contains.f k (B l) (B [c]) = some (decide (c ∈ l)) := by
  unfold strings_Contains.f strings_Index.f
  rw [strIndex_eq, Option.bind_some, Option.bind_some, idx_eq]
  by_cases h : c ∈ l <;> simp [h]
/-! records -/
open Classical in
theorem l12Record_eq (hk : Big ≤ k) (a b : ByteArray) (ha : a.size ≤ 1048576) (hb : b.size ≤ 1048576) : spec_l12Record.f k a b = some (decide (isRecord a b)) := by
  unfold spec_l12Record.f
  have hs := l1Stands_eq hk a 64 ha
  rw [show (((64 : UInt8).toNat : Int)) = 64 from rfl] at hs
  rw [l12Bytes_eq hk a 160 ha, l12Bytes_eq hk b 250 hb, hs]
  have he : (a.toList == ByteArray.empty.toList) = decide (a.size = 0) := by
    rw [ByteArray.toList_empty, Bool.eq_iff_iff, beq_iff_eq, decide_eq_true_iff, ← List.length_eq_zero_iff, ByteArray.toList_eq]
    exact Iff.rfl
  rw [he]
  have hp : (∀ i (h : i < a.size), plainB [35, 64] a[i] = true) ↔ (∀ i (h : i < a.size), plainB [35] a[i] = true) ∧ ∀ i (h : i < a.size), a[i] ≠ 64 := by
    constructor
    · intro H
      refine ⟨fun i h => ?_, fun i h => ?_⟩ <;> have := H i h <;> simp [plainB] at this ⊢ <;> simp [this]
    · rintro ⟨H1, H2⟩ i h
      have h1 := H1 i h; have h2 := H2 i h
      simp [plainB] at h1 ⊢
      exact ⟨h1.1, h1.2, h2⟩
  unfold isRecord
  rw [hp]
  by_cases h0 : a.size = 0
  · simp [h0]
  · have h0' : 1 ≤ a.size := by omega
    by_cases h1 : ∀ i (h : i < a.size), plainB [35] a[i] = true
    · by_cases h2 : a.size ≤ 160
      · have h2' : (a.size : Int) ≤ 160 := by omega
        by_cases h3 : ∀ i (h : i < a.size), a[i] ≠ 64
        · have h3' : (∀ i (h : i < a.size), ¬ a[i] = 64) := h3
          by_cases h4 : b.size ≤ 250
          · have h4' : (b.size : Int) ≤ 250 := by omega
            simp [h0, h0', h1, h2, h2', h3', h4, h4']
          · have h4' : ¬ (b.size : Int) ≤ 250 := by omega
            simp [h0, h0', h1, h2, h2', h3', h4, h4']
        · simp [h0, h1, h2', h3]
      · have h2' : ¬ (a.size : Int) ≤ 160 := by omega
        simp [h0, h1, h2, h2']
    · simp [h0, h1]
def ahead (n : Nat) : List UInt8 := Lib.itoa (n : Int) ++ [32]
def recL (n : Nat) (c r : List UInt8) : List UInt8 := ahead n ++ c ++ [64] ++ r
def lineL (n : Nat) (c r : List UInt8) : List UInt8 := sealL (recL n c r) ++ [10]
theorem l12Line_eq (hk : Big ≤ k) (n : Nat) (hn : n < 100) (c r : List UInt8) (hc : c.length + r.length ≤ 1048000) : spec_l12Line.f k (n : Int) (B c) (B r) = some (B (lineL n c r)) := by
  unfold spec_l12Line.f
  have h1 := itoa_len2 n hn
  have hs := sealL_len (recL n c r) (by unfold recL ahead; simp; omega)
  have hr : (recL n c r).length ≤ 4 + c.length + r.length := by unfold recL ahead; simp; omega
  rw [l1Num_eq hk n (by omega), Option.bind_some, show ByteArray.mk #[32] = B [32] from rfl, show ByteArray.mk #[64] = B [64] from rfl, show ByteArray.mk #[10] = B [10] from rfl, B_app, B_app, B_app, B_app]
  rw [if_pos (by rw [B_size]; simp; omega), if_pos (by rw [B_size]; simp; omega), if_pos (by rw [B_size]; simp; omega), if_pos (by rw [B_size]; simp; omega)]
  rw [show Lib.itoa (n : Int) ++ [32] ++ c ++ [64] ++ r = recL n c r from rfl, l1Seal_eq hk _ (by omega), Option.bind_some, B_app, if_pos (by rw [B_size, List.length_append]; simp; omega)]
  rfl
theorem AppendChecksum_eq (hk : Big ≤ k) (l : List UInt8) (hl : l.length ≤ 1048576) : impl_AppendChecksum.f k (B l) = some (if l.length ≤ 4000 ∧ 35 ∉ l ∧ (sealL l).length ≤ 4000 then (B (sealL l), true) else (B [], false)) := by
  unfold impl_AppendChecksum.f
  rw [show ByteArray.mk #[35] = B [35] from rfl, Contains_eq, B_size]
  by_cases h1 : l.length ≤ 4000
  rotate_left 1
  · have : (l.length : Int) > 4000 := by omega
    refine Eq.trans ?_ (congrArg some (if_neg (fun h => h1 h.1))).symm
    simp only [this, decide_true, if_true, Option.bind_some]; rfl
  have h1' : ¬ (l.length : Int) > 4000 := by omega
  by_cases h2 : (35 : UInt8) ∈ l
  · refine Eq.trans ?_ (congrArg some (if_neg (fun h => h.2.1 h2))).symm
    simp only [h1', h2, decide_true, decide_false, Bool.false_eq_true, if_false, if_true, Option.bind_some]; rfl
  obtain ⟨n, h3, h4⟩ := sumP_nat l hl
  have h5 := itoa_len n (by omega)
  have hc := (checksum_eq hk l hl).1
  rw [decide_eq_false h1', decide_eq_false h2]
  simp only [Bool.false_eq_true, if_false, Option.bind_some, B_app]
  rw [if_pos (by rw [B_size, List.length_append]; simp; omega), hc, Option.bind_some, Itoa_eq (sumP l) (by omega) (by omega), Option.bind_some, B_app, if_pos (by rw [B_size, h3, List.length_append, List.length_append]; simp; omega), B_size]
  rw [show l ++ [35] ++ Lib.itoa (sumP l) = sealL l from rfl]
  by_cases h6 : (sealL l).length ≤ 4000
  · rw [if_neg (by rw [decide_eq_true_iff]; omega)]
    exact (congrArg some (if_pos ⟨h1, h2, h6⟩)).symm
  · rw [if_pos (by rw [decide_eq_true_iff]; omega)]
    exact (congrArg some (if_neg (fun h => h6 h.2.2))).symm
/-! a line -/
theorem isRecord_len {a b : List UInt8} (h : isRecord (B a) (B b)) : a.length ≤ 160 ∧ b.length ≤ 250 := by
  have h1 := h.1.2.1; have h2 := h.2.1
  rw [B_size] at h1 h2
  exact ⟨h1, h2⟩
end
end Go.Proofs

/- Plain laws: SS -/
namespace Go.Proofs
open Go Go.Ga Go.Ga.Wf
set_option linter.unusedVariables false
set_option linter.unusedSimpArgs false
section
variable {k : Nat}
/-! which logs are valid -/
/-! the laws -/
open Classical in
theorem EncodeRecord_eq (hk : Big ≤ k) (n : Int) (c r : List UInt8) (hc : c.length + r.length ≤ 1048000) : impl_EncodeRecord.f k n (B c) (B r) = some (if (0 ≤ n ∧ n ≤ 59) ∧ isRecord (B c) (B r) then (B (lineL n.toNat c r), true) else (B [], false)) := by
  unfold impl_EncodeRecord.f
  rw [within_eq, impl_IsValidRecord_eq hk _ _ (by rw [B_size]; omega) (by rw [B_size]; omega), Option.bind_some]
  by_cases h1 : 0 ≤ n ∧ n ≤ 59
  rotate_left 1
  · refine Eq.trans ?_ (congrArg some (if_neg (fun h => h1 h.1))).symm
    rw [decide_eq_false h1]; rfl
  by_cases h2 : isRecord (B c) (B r)
  rotate_left 1
  · refine Eq.trans ?_ (congrArg some (if_neg (fun h => h2 h.2))).symm
    rw [decide_eq_true h1, decide_eq_false h2]; rfl
  refine Eq.trans ?_ (congrArg some (if_pos ⟨h1, h2⟩)).symm
  rw [decide_eq_true h1, decide_eq_true h2]
  obtain ⟨m, rfl⟩ := Int.eq_ofNat_of_zero_le h1.1
  have hm : m < 100 := by omega
  have hi := itoa_len2 m hm
  have hl := isRecord_len h2
  have hrl : (recL m c r).length ≤ 420 := by unfold recL ahead; simp; omega
  have hs := sealL_len (recL m c r) (by omega)
  simp only [Bool.not_true, Bool.false_eq_true, if_false, Option.bind_some]
  rw [Itoa_eq (m : Int) (by omega) (by omega), Option.bind_some, show ByteArray.mk #[32] = B [32] from rfl, show ByteArray.mk #[64] = B [64] from rfl, show ByteArray.mk #[10] = B [10] from rfl, B_app, B_app, B_app, B_app]
  rw [if_pos (by rw [B_size]; simp; omega), if_pos (by rw [B_size]; simp; omega), if_pos (by rw [B_size]; simp; omega), if_pos (by rw [B_size]; simp; omega)]
  rw [show Lib.itoa (m : Int) ++ [32] ++ c ++ [64] ++ r = recL m c r from rfl, AppendChecksum_eq hk _ (by omega), Option.bind_some]
  have h35 : (35 : UInt8) ∉ recL m c r := by
    intro h
    have hplain : ∀ (x : List UInt8) (bad : List UInt8), (35 : UInt8) ∈ bad → (∀ i (h : i < (B x).size), plainB bad (B x)[i] = true) → (35 : UInt8) ∉ x := by
      intro x bad hb hx hm
      obtain ⟨i, hi, he⟩ := List.getElem_of_mem hm
      have := hx i (by rw [B_size]; exact hi)
      have e : (B x)[i]'(by rw [B_size]; exact hi) = x[i] := rfl
      rw [e, he] at this
      unfold plainB at this
      have h2 := (Bool.and_eq_true _ _ ▸ this).2
      simp [hb] at h2
    have hdig : ∀ u, (35 : UInt8) ∉ Lib.decDigits u := by
      intro u
      induction u using Nat.strongRecOn with
      | ind u ih =>
        rw [Lib.decDigits]
        have hd10 : ∀ v, v < 10 → (35 : UInt8) ≠ UInt8.ofNat (48 + v) := by decide
        split
        · intro h
          exact hd10 u (by assumption) (List.mem_singleton.1 h)
        · intro h
          rcases List.mem_append.1 h with h | h
          · exact ih (u / 10) (by omega) h
          · exact hd10 (u % 10) (by omega) (List.mem_singleton.1 h)
    unfold recL ahead at h
    rw [itoa_nat] at h
    simp only [List.mem_append, List.mem_singleton] at h
    rcases h with (((h | h) | h) | h) | h
    · exact hdig m h
    · exact absurd h (by decide)
    · exact hplain c [35, 64] (by simp) h2.1.2.2 h
    · exact absurd h (by decide)
    · exact hplain r [35] (by simp) h2.2.2 h
  rw [if_pos (show (recL m c r).length ≤ 4000 ∧ 35 ∉ recL m c r ∧ (sealL (recL m c r)).length ≤ 4000 from ⟨by omega, h35, by omega⟩)]
  simp only [Bool.not_true, Bool.false_eq_true, if_false, B_app]
  rw [if_pos (by rw [B_size, List.length_append]; simp; omega), Int.toNat_natCast]; rfl
open Classical in
theorem laws_FnExactEncodeRecord.pure (y : Int) (x : ByteArray × ByteArray) (h' : wfd y) (h : wfd x) : ∃ k, laws_FnExactEncodeRecord.f k y x.1 x.2 = some true := by
  refine ⟨Big, ?_⟩
  have hk : Big ≤ Big := Nat.le_refl _
  obtain ⟨a, b⟩ := x
  have ha : a.size ≤ maxLen := h.1
  have hb : b.size ≤ maxLen := h.2
  unfold laws_FnExactEncodeRecord.f
  rw [szLogRecord_eq a b _ (Int.le_refl _) (by decide) ha hb]
  obtain ⟨c, rfl⟩ := B_all a
  obtain ⟨r, rfl⟩ := B_all b
  rw [B_size, B_size]
  by_cases hg : (c.length : Int) + r.length ≤ 1048576
  · have hn : ¬ (1048576 - (c.length : Int) - r.length < 0) := by omega
    have e : ∃ z, impl_EncodeRecord.f Big y (B c) (B r) = some z ∧ spec_EncodeRecord.f Big y (B c) (B r) = some z := by
      by_cases h2 : isRecord (B c) (B r)
      · have hl := isRecord_len h2
        rw [EncodeRecord_eq hk y c r (by omega)]
        refine ⟨_, rfl, ?_⟩
        unfold spec_EncodeRecord.f
        rw [in_eq, l12Record_eq hk _ _ (by rw [B_size]; omega) (by rw [B_size]; omega), Option.bind_some, decide_eq_true h2]
        by_cases h1 : 0 ≤ y ∧ y ≤ 59
        · refine Eq.trans ?_ (congrArg some (if_pos ⟨h1, h2⟩)).symm
          rw [decide_eq_true h1]
          obtain ⟨m, rfl⟩ := Int.eq_ofNat_of_zero_le h1.1
          simp only [Bool.not_true, Bool.false_eq_true, if_false, Option.bind_some]
          rw [l12Line_eq hk m (by omega) c r (by omega), Int.toNat_natCast]; rfl
        · refine Eq.trans ?_ (congrArg some (if_neg (fun h => h1 h.1))).symm
          rw [decide_eq_false h1]; rfl
      · refine ⟨(ByteArray.empty, false), ?_, ?_⟩
        · unfold impl_EncodeRecord.f
          rw [within_eq, impl_IsValidRecord_eq hk _ _ (by rw [B_size]; omega) (by rw [B_size]; omega), Option.bind_some, decide_eq_false h2]
          by_cases h1 : 0 ≤ y ∧ y ≤ 59
          · rw [decide_eq_true h1]; rfl
          · rw [decide_eq_false h1]; rfl
        · unfold spec_EncodeRecord.f
          rw [in_eq, l12Record_eq hk _ _ (by rw [B_size]; omega) (by rw [B_size]; omega), Option.bind_some, decide_eq_false h2]
          by_cases h1 : 0 ≤ y ∧ y ≤ 59
          · rw [decide_eq_true h1]; rfl
          · rw [decide_eq_false h1]; rfl
    obtain ⟨⟨z1, z2⟩, e1, e2⟩ := e
    simp only [Option.bind_some, if_pos hg, hn, decide_false, Bool.false_eq_true, if_false, laws_toLogRecord.f, e1, e2]
    simp
  · simp [hg]
/-! marks in records -/
end
end Go.Proofs

/- A part of the proof of FnExactIsValidRecord: plain facts on the model. No condition. -/
import Derived.Test.YtcknbogbjeimiaaFnExactIsValidRecordB
/- Plain laws: the bounded words, reading, and loops as the printer prints them. No program in sight. -/
namespace Go.Ga
open Go
open Go.Ga.Rp (rep own)
open Go.Ga.Flat (enc)
open Go.Ga.Wf (wfd)
/-- rounds enough for all loops that the guards let in -/
def Big : Nat := 1125899906842624
theorem w64_id {x : Int} (h : -9223372036854775808 ≤ x) (h' : x ≤ 9223372036854775807) : w64 x = x := by
  unfold w64 IntKind.wrap
  simp [IntKind.bits, IntKind.signed]
  omega
theorem rdl_nat {α : Type} (l : List α) (i : Nat) : rdl l (i : Int) = l[i]? := by simp [rdl]
theorem rdl_lt {α : Type} {l : List α} {i : Nat} (h : i < l.length) : rdl l (i : Int) = some l[i] := by simp [rdl, h]
theorem bta_lt {s : ByteArray} {i : Nat} (h : i < s.size) : bta s (i : Int) = some s[i] := by simp [bta, h]
theorem wrap_byte (b : UInt8) : IntKind.i64.wrap (b.toNat : Int) = b.toNat := by
  have h := b.toNat_lt
  exact w64_id (by omega) (by omega)

/-! loops -/
def itr {S : Type} (g : Nat → S → S) : Nat → Nat → S → S
  | 0, _, s => s
  | m + 1, i, s => itr g m (i + 1) (g i s)
theorem loop_state {S β : Type} {l : Nat → S → Int → Option β} {N : Nat} {g : Nat → S → S} {out : S → Option β} (Inv : Nat → S → Prop)
    (hs : ∀ n i s, i < N → Inv i s → l (n + 1) s (i : Int) = l n (g i s) ((i + 1 : Nat) : Int) ∧ Inv (i + 1) (g i s))
    (he : ∀ n s, Inv N s → l (n + 1) s (N : Int) = out s) {k : Nat} (hk : N < k) {s : S} (h0 : Inv 0 s) :
    l k s 0 = out (itr g N 0 s) ∧ Inv N (itr g N 0 s) := by
  have key : ∀ m i k s, i + m = N → m < k → Inv i s → l k s (i : Int) = out (itr g m i s) ∧ Inv N (itr g m i s) := by
    intro m
    induction m with
    | zero =>
      intro i k s hi hk hI
      obtain ⟨n, rfl⟩ : ∃ n, k = n + 1 := ⟨k - 1, by omega⟩
      have : i = N := by omega
      subst this
      exact ⟨he n s hI, hI⟩
    | succ m ih =>
      intro i k s hi hk hI
      obtain ⟨n, rfl⟩ : ∃ n, k = n + 1 := ⟨k - 1, by omega⟩
      obtain ⟨h1, h2⟩ := hs n i s (by omega) hI
      rw [h1]
      exact ih (i + 1) n _ (by omega) (by omega) h2
  have := key N 0 k s (by omega) hk h0
  simpa using this
/-- with an exit -/
def itx {S R : Type} (g : Nat → S → S ⊕ R) : Nat → Nat → S → S ⊕ R
  | 0, _, s => .inl s
  | m + 1, i, s => match g i s with | .inl s' => itx g m (i + 1) s' | .inr r => .inr r
theorem loop_exit {S R T : Type} {l : Nat → S → Int → Option (T ⊕ R)} {N : Nat} {g : Nat → S → S ⊕ R} {out : S → Option (T ⊕ R)} (Inv : Nat → S → Prop)
    (hs : ∀ n i s, i < N → Inv i s → (∃ s', g i s = .inl s' ∧ l (n + 1) s (i : Int) = l n s' ((i + 1 : Nat) : Int) ∧ Inv (i + 1) s') ∨ (∃ r, g i s = .inr r ∧ l (n + 1) s (i : Int) = some (.inr r)))
    (he : ∀ n s, Inv N s → l (n + 1) s (N : Int) = out s) {k : Nat} (hk : N < k) {s : S} (h0 : Inv 0 s) :
    l k s 0 = (match itx g N 0 s with | .inl s' => out s' | .inr r => some (.inr r)) := by
  have key : ∀ m i k s, i + m = N → m < k → Inv i s → l k s (i : Int) = (match itx g m i s with | .inl s' => out s' | .inr r => some (.inr r)) := by
    intro m
    induction m with
    | zero =>
      intro i k s hi hk hI
      obtain ⟨n, rfl⟩ : ∃ n, k = n + 1 := ⟨k - 1, by omega⟩
      have : i = N := by omega
      subst this
      exact he n s hI
    | succ m ih =>
      intro i k s hi hk hI
      obtain ⟨n, rfl⟩ : ∃ n, k = n + 1 := ⟨k - 1, by omega⟩
      rcases hs n i s (by omega) hI with ⟨s', h1, h2, h3⟩ | ⟨r, h1, h2⟩
      · rw [h2, ih (i + 1) n _ (by omega) (by omega) h3]; simp [itx, h1]
      · rw [h2]; simp [itx, h1]
  have := key N 0 k s (by omega) hk h0
  simpa using this
/-- all elements, or else `z` -/
theorem loop_all {R : Type} {l : Nat → Int → Option (Unit ⊕ R)} {N : Nat} (ok : Nat → Bool) {z : R}
    (hs : ∀ n (i : Nat), i < N → l (n + 1) (i : Int) = if ok i = true then l n ((i + 1 : Nat) : Int) else some (.inr z))
    (he : ∀ n, l (n + 1) (N : Int) = some (.inl ())) {k : Nat} (hk : N < k) :
    l k 0 = some (if ∀ i, i < N → ok i = true then .inl () else .inr z) := by
  have key : ∀ m i k, i + m = N → m < k → l k (i : Int) = some (if (List.range' i m).all ok = true then .inl () else .inr z) := by
    intro m
    induction m with
    | zero =>
      intro i k hi hk
      obtain ⟨n, rfl⟩ : ∃ n, k = n + 1 := ⟨k - 1, by omega⟩
      have : i = N := by omega
      subst this
      rw [he]; rfl
    | succ m ih =>
      intro i k hi hk
      obtain ⟨n, rfl⟩ : ∃ n, k = n + 1 := ⟨k - 1, by omega⟩
      rw [hs n i (by omega), List.range'_succ, List.all_cons]
      by_cases h : ok i = true
      · rw [if_pos h, ih (i + 1) n (by omega) (by omega), h, Bool.true_and]
      · rw [if_neg h, if_neg (by simp [h])]
  have := key N 0 k (by omega) hk
  rw [show ((0 : Nat) : Int) = 0 from rfl] at this
  rw [this]
  congr 1
  have e : (List.range' 0 N).all ok = true ↔ ∀ i, i < N → ok i = true := by simp [List.all_eq_true, List.mem_range'_1]
  by_cases h : (List.range' 0 N).all ok = true
  · rw [if_pos h, if_pos (e.1 h)]
  · rw [if_neg h, if_neg (fun H => h (e.2 H))]
theorem Lr_ite {X : Type} {R : Type} {c : Prop} [Decidable c] {z : R} {g : R → Option X} {f : Unit → Option X} : Lr (if c then .inl () else .inr z) g f = if c then f () else g z := by split <;> rfl
end Go.Ga

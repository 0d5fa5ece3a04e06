/- A part of the proof of FnVisits: the plain law. No condition. -/
import Derived.Test.YtebbaacgalipaaaGreatFnVisitsB
import Derived.Test.YtebbaacgalipaaaGreatFnVisitsC
import Derived.Test.YtebbaacgalipaaaGreatFnVisitsD
import Derived.Test.YtebbaacgalipaaaGreatFnVisitsE
import Derived.Test.YtebbaacgalipaaaGreatFnVisitsF
import Derived.Test.YtebbaacgalipaaaGreatFnVisitsG
import Derived.Test.YtebbaacgalipaaaGreatFnVisitsH
set_option linter.unusedSimpArgs false
namespace Go.Proofs
open Go Go.Ga Go.Ga.Wf
set_option linter.unusedVariables false
set_option linter.unusedSimpArgs false
theorem bor_bit {a b : Int} (ha : 0 ≤ a ∧ a ≤ 63) (hb : 0 ≤ b ∧ b ≤ 63) (t : Nat) : (bor a b).toNat.testBit t = (a.toNat.testBit t || b.toNat.testBit t) := by
 obtain ⟨x, rfl⟩ := Int.eq_ofNat_of_zero_le ha.1
 obtain ⟨y, rfl⟩ := Int.eq_ofNat_of_zero_le hb.1
 rw [bor_nat (by omega) (by omega), Int.toNat_natCast, Int.toNat_natCast, Int.toNat_natCast, Nat.testBit_or]
theorem bor_within {a b : Int} (ha : 0 ≤ a ∧ a ≤ 63) (hb : 0 ≤ b ∧ b ≤ 63) {H : Nat} (h1 : subB a.toNat H = true) (h2 : subB b.toNat H = true) : subB (bor a b).toNat H = true :=
 subB_iff.2 fun t ht => by
  rw [bor_bit ha hb, Bool.or_eq_true] at ht
  exact ht.elim (subB_iff.1 h1 t) (subB_iff.1 h2 t)
theorem bor_right {a b : Int} (ha : 0 ≤ a ∧ a ≤ 63) (hb : 0 ≤ b ∧ b ≤ 63) : subB b.toNat (bor a b).toNat = true :=
 subB_iff.2 fun t ht => by rw [bor_bit ha hb, ht, Bool.or_true]
theorem gain_has {ks : List Int} (hk : ∀ x ∈ ks, 0 ≤ x ∧ x ≤ 63) : ∀ (l : List Int) {h : Int}, 0 ≤ h ∧ h ≤ 63 → ∀ z ∈ l, subB (ks.getD z.toNat 0).toNat (gain ks l h).toNat = true
  | [], h, hh, z, hz => by cases hz
  | x :: l, h, hh, z, hz => by
    have hx := keys_getD hk x.toNat
    have h1 := bor_le63 hh hx
    have e : gain ks (x :: l) h = gain ks l (bor h (ks.getD x.toNat 0)) := rfl
    rw [e]
    rcases List.mem_cons.1 hz with rfl | hz
    · exact subB_trans (bor_right hh hx) (gain_sub hk l h1.1)
    · exact gain_has hk l h1.1 z hz
def Closed (d : List Door) (ks : List Int) (H : Int) : Prop := ∀ z, Rch d H 0 z → subB (ks.getD z.toNat 0).toNat H.toNat = true
theorem lastH_closed {n : Int} {d : List Door} {ks : List Int} (hm : Okm n d ks) {h : Int} (hh : 0 ≤ h ∧ h ≤ 63) : Closed d ks (lastH d ks 64 h) := fun z hz => by
 have hr := lastH_range hm 64 hh
 have hf := lastH_fix hm 64 hh (by omega)
 have := gain_has hm.keys (nodesL d 0 (lastH d ks 64 h)) hr z ((mem_nodesL hm.small (by omega)).2 hz)
 rw [show gain ks (nodesL d 0 (lastH d ks 64 h)) (lastH d ks 64 h) = nextH d ks (lastH d ks 64 h) from rfl, hf] at this
 exact this
section
variable {k : Nat}
def AskF (n : Int) (d : List Door) (ks : List Int) (h : Int) (fs : List Int) : Prop := (IsMaze n d ks ∧ 0 ≤ h ∧ h ≤ 63) ∧ FillP n h.toNat fs
instance (n : Int) (d : List Door) (ks : List Int) (h : Int) (fs : List Int) : Decidable (AskF n d ks h fs) := by unfold AskF; infer_instance
end

variable {k : Nat} {c : List By} {a s : Int}

def StP (n : Int) (d : List Door) (ks tr : List Int) (x s : Int) : Prop := IsTrapP n d ks tr ∧ (0 ≤ x ∧ x ≤ n - 1) ∧ 0 ≤ s ∧ s ≤ 63
noncomputable instance (n : Int) (d : List Door) (ks tr : List Int) (x s : Int) : Decidable (StP n d ks tr x s) := Classical.propDecidable _

variable {k : Nat}

variable {k : Nat} {c : List By} {a s : Int}
theorem vMaze_self (hk : Big ≤ k) (n : Int) (d : List Door) (ks : List Int) (hd : d.length ≤ 1048576) (hks : ks.length ≤ 1048576) : laws_vMaze.f k n d ks n d ks = some true := by
 unfold laws_vMaze.f
 have h := Tot.loop (l := fun q (i : Nat) => laws_vMaze.l0 k d d q (i : Int)) (fun i => i ≤ d.length) (fun i => d.length - i) (fun r => r = Sum.inl ()) (fun q i hI ih => by
  rw [laws_vMaze.l0]
  by_cases hi : i < d.length
  ·rw [if_pos (by simpa using hi), rdl_lt hi]
   simp only [Option.bind_some, decide_true, Bool.not_true, Bool.false_eq_true, if_false]
   rw [show w64 ((i : Int) + 1) = ((i + 1 : Nat) : Int) from w64_id (by omega) (by omega)]
   exact ih (i + 1) (by omega) (by omega)
  ·rw [if_neg (by simpa using hi)]; exact Tot.ret rfl) k 0 (by unfold Big at hk; omega) (by omega)
 obtain ⟨r, h1, rfl⟩ := h
 rw [show ((0 : Nat) : Int) = 0 from rfl] at h1
 simp only [bne_self_eq_false, Bool.false_eq_true, if_false, vInts_eq hk ks ks hks, Option.bind_some, decide_true, Bool.not_true, h1, Lr]
def SwF (n : Int) (d : List Door) (ks : List Int) (h : Int) (fs : List Int) (a b : Int) : Prop := AskF n d ks h fs ∧ a ≠ b ∧ a ∈ upto h.toNat 12 ∧ b ∈ upto h.toNat 12
instance (n : Int) (d : List Door) (ks : List Int) (h : Int) (fs : List Int) (a b : Int) : Decidable (SwF n d ks h fs a b) := by unfold SwF; infer_instance

variable {k : Nat} {c : List By}
theorem GainAtLast_eq (hk : Big ≤ k) (n : Int) (d : List Door) (ks : List Int) (h : Int) (hd : d.length ≤ 1048576) (hks : ks.length ≤ 1048576) :
  impl_GainAtLast.f k n d ks h = some (if IsMaze n d ks ∧ 0 ≤ h ∧ h ≤ 63 then (lastH d ks 64 h, nodesL d 0 (lastH d ks 64 h), true) else (0, [], false)) := by
 unfold impl_GainAtLast.f
 rw [asked_eq hk n d ks h hd hks, Option.bind_some]
 by_cases hT : IsMaze n d ks ∧ 0 ≤ h ∧ h ≤ 63
 ·have hl := reachN_lt d 0 (lastH d ks 64 h)
  rw [decide_eq_true hT, if_pos hT, if_neg (by simp), atLast_eq hk hT.1.okm hT.2, Option.bind_some]
  simp only
  rw [members_eq hk _ hl]; rfl
 ·rw [decide_eq_false hT, if_neg hT]; rfl

variable {k : Nat}

variable {k : Nat} {c : List By} {a s : Int}

variable {k : Nat} {c : List By}

variable {k : Nat} {c : List By} {a s : Int}

variable {k : Nat} {c : List By} {a s : Int}

variable {k : Nat} {ms : List MazeT} {os : List (List Int)} {rel : Bool}

structure Le6 (a b : List Int) : Prop where
 len : b.length = a.length
 ra : ∀ x ∈ a, 0 ≤ x ∧ x ≤ 63
 rb : ∀ x ∈ b, 0 ≤ x ∧ x ≤ 63
 sub : ∀ j, subB (a.getD j 0).toNat (b.getD j 0).toNat = true

variable {k : Nat} {c : List By} {a s : Int} {ms : List MazeT} {os : List (List Int)}

variable {k : Nat} {c : List By} {a s : Int} {ms : List MazeT} {os : List (List Int)}

structure Rows (S : List (List Int)) (n : Nat) : Prop where
 few : S.length ≤ 300 ∧ n ≤ 100
 len : ∀ r (h : r < S.length), S[r].length = n
 up : ∀ r (h : r + 1 < S.length) j (h1 : j < S[r].length) (h2 : j < S[r + 1].length), band S[r + 1][j] S[r][j] = S[r][j]

variable {k : Nat} {c : List By} {a s : Int} {n : Int} {d : List Door} {ks l : List Int} {u : Int}
theorem itx_snoc {S R : Type} (g : Nat → S → S ⊕ R) : ∀ m i s, itx g (m + 1) i s = (match itx g m i s with | .inl s' => g (i + m) s' | .inr r => .inr r)
  | 0, i, s => by
    show (match g i s with | .inl s' => itx g 0 (i + 1) s' | .inr r => .inr r) = g (i + 0) s
    rw [Nat.add_zero]
    cases g i s <;> rfl
  | m + 1, i, s => by
    have e : itx g (m + 1 + 1) i s = (match g i s with | .inl s' => itx g (m + 1) (i + 1) s' | .inr r => .inr r) := rfl
    have e2 : itx g (m + 1) i s = (match g i s with | .inl s' => itx g m (i + 1) s' | .inr r => .inr r) := rfl
    rw [e, e2]
    cases g i s with
    | inl s' =>
      simp only
      rw [itx_snoc g m (i + 1) s', show i + 1 + m = i + (m + 1) by omega]
    | inr r => rfl
theorem itx_one {S R : Type} (g : Nat → S → S ⊕ R) (i : Nat) (s : S) : itx g 1 i s = g i s := by
 have := itx_snoc g 0 i s
 rw [this]; rfl
theorem itx_congr {S R : Type} (g g' : Nat → S → S ⊕ R) : ∀ m i s, (∀ j s, i ≤ j → j < i + m → g j s = g' j s) → itx g m i s = itx g' m i s
  | 0, i, s, _ => rfl
  | m + 1, i, s, h => by
    have e : itx g (m + 1) i s = (match g i s with | .inl s' => itx g m (i + 1) s' | .inr r => .inr r) := rfl
    have e2 : itx g' (m + 1) i s = (match g' i s with | .inl s' => itx g' m (i + 1) s' | .inr r => .inr r) := rfl
    rw [e, e2, h i s (by omega) (by omega)]
    cases g' i s with
    | inl s' => exact itx_congr g g' m (i + 1) s' (fun j s h1 h2 => h j s (by omega) (by omega))
    | inr r => rfl
def nowH (n : Int) (d : List Door) (ks l : List Int) : Int := (takenP n d ks l).1.getD (l.length - 1) 0
theorem goodV_t (h : goodV n d ks l u = true) : (takenP n d ks l).2 = true := by
 unfold goodV at h; exact (Bool.and_eq_true _ _ ▸ h).2
theorem goodV_iff : goodV n d ks l u = true ↔ (IsMaze n d ks ∧ l.length ≤ 60 ∧ 0 ≤ u ∧ u ≤ 1000) ∧ (takenP n d ks l).2 = true := by
 unfold goodV; rw [Bool.and_eq_true, decide_eq_true_iff]
structure Walked (n : Int) (d : List Door) (ks l : List Int) : Prop where
 pos : 0 < l.length
 rng : 0 ≤ nowH n d ks l ∧ nowH n d ks l ≤ 63
 node : ∀ x ∈ l, 0 ≤ x ∧ x ≤ n - 1
 sub : subB (nowH n d ks l).toNat (lastH d ks 64 0).toNat = true
 rch : ∀ x ∈ l, Rch d (lastH d ks 64 0) 0 x
 st : itx (takeG n d ks l) l.length 0 ([], 0) = .inl ((takenP n d ks l).1, nowH n d ks l)
theorem walked (hm : IsMaze n d ks) (ht : (takenP n d ks l).2 = true) : Walked n d ks l := by
  have hlen := takenP_length hm ht
  have hrg := takenP_range hm ht
  have om := hm.okm
  have hcl := lastH_closed om (h := 0) (by omega)
  have hlr := lastH_range om 64 (h := 0) (by omega)
  have ht' := ht
  unfold takenP at ht'
  cases hx : itx (takeG n d ks l) l.length 0 ([], 0) with
  | inr r => rw [hx] at ht'; cases ht'
  | inl st =>
    have e1 : (takenP n d ks l).1 = st.1 := by unfold takenP; rw [hx]
    have H := itx_inv (N := l.length) (fun i (s : List Int × Int) => (TInv i s ∧ subB s.2.toNat (lastH d ks 64 0).toNat = true) ∧ (∀ j (hj : j < l.length), j < i → Rch d (lastH d ks 64 0) 0 l[j]) ∧ (0 < i → s.1.getD (i - 1) 0 = s.2)) (fun i s s' hi hI hg => by
      have h1 := takeG_inv hm i s s' hi hI.1.1 hg
      obtain ⟨⟨⟨i0, i1⟩, i2⟩, i3, i4⟩ := hI
      unfold takeG at hg
      split at hg
      · cases hg
      rename_i hb
      cases hg
      unfold badT at hb
      rw [dif_pos hi] at hb
      simp only [Bool.or_eq_true, Bool.and_eq_true, Bool.not_eq_true', decide_eq_false_iff_not, decide_eq_true_eq, not_or, Decidable.not_not, not_and, Bool.not_eq_false] at hb
      obtain ⟨⟨hb1, hb2⟩, hb3⟩ := hb
      have hg : l.getD i 0 = l[i] := by simp [List.getD, List.getElem?_eq_getElem hi]
      have hkey := keys_getD hm.okm.keys (l.getD i 0).toNat
      have hr : Rch d (lastH d ks 64 0) 0 l[i] := by
        rcases Nat.eq_zero_or_pos i with h0 | h0
        · subst h0
          rw [hb2 rfl]; exact .here
        · refine .step (i3 (i - 1) (by omega) (by omega)) ?_
          obtain ⟨x, hx, hgo⟩ := List.any_eq_true.1 (hb3 h0)
          exact List.any_eq_true.2 ⟨x, hx, goes_mono i2 hgo⟩
      refine ⟨⟨h1, bor_within i1 hkey i2 ?_⟩, fun j hj hji => ?_, fun _ => ?_⟩
      · rw [hg]; exact hcl _ hr
      · rcases Nat.lt_or_eq_of_le (Nat.lt_succ_iff.1 hji) with h | rfl
        · exact i3 j hj h
        · exact hr
      · show (s.1 ++ [bor s.2 (ks.getD (l.getD i 0).toNat 0)]).getD (i + 1 - 1) 0 = bor s.2 (ks.getD (l.getD i 0).toNat 0)
        rw [Nat.add_sub_cancel, List.getD_eq_getElem?_getD, ← i0, List.getElem?_append_right (Nat.le_refl _), Nat.sub_self]; rfl) ⟨⟨⟨rfl, by decide, by decide⟩, subB_iff.2 fun t ht => by simp at ht⟩, fun j _ h => by omega, fun h => by omega⟩ hx
    obtain ⟨⟨⟨_, j1⟩, j2⟩, j3, j4⟩ := H
    have e2 : nowH n d ks l = st.2 := by unfold nowH; rw [e1]; exact j4 hlen.2
    refine ⟨hlen.2, by rw [e2]; exact j1, fun x hx => ?_, by rw [e2]; exact j2, fun x hx => ?_, by rw [hx, e1, e2]⟩
    · obtain ⟨i, hi, rfl⟩ := List.getElem_of_mem hx; exact hrg.2 i hi
    · obtain ⟨i, hi, rfl⟩ := List.getElem_of_mem hx; exact j3 i hi hi
theorem taken_one (hm : IsMaze n d ks) : (takenP n d ks [0]).2 = true := by
 have hlo := hm.okm.lo
 have hb : badT n d [0] 0 0 = false := by
  unfold badT
  rw [dif_pos (by simp)]
  simp; omega
 unfold takenP
 have t1 : takeG n d ks [0] 0 ([], 0) = .inl ([] ++ [bor 0 (ks.getD (([0] : List Int).getD 0 0).toNat 0)], bor 0 (ks.getD (([0] : List Int).getD 0 0).toNat 0)) := by
  unfold takeG
  rw [hb]; rfl
 rw [show ([0] : List Int).length = 1 from rfl, itx_one, t1]
 rfl
theorem good_new (hm : IsMaze n d ks) : goodV n d ks [0] 0 = true := goodV_iff.2 ⟨⟨hm, by simp, by omega, by omega⟩, taken_one hm⟩
theorem taken_snoc {A : Int} (hm : IsMaze n d ks) (h1 : (takenP n d ks l).2 = true) (h2 : (takenP n d ks (l ++ [A])).2 = true) :
  (0 ≤ A ∧ A ≤ n - 1) ∧ d.any (goes (l.getD (l.length - 1) 0) A (nowH n d ks l)) = true ∧ nowH n d ks (l ++ [A]) = bor (nowH n d ks l) (ks.getD A.toNat 0) := by
 have w1 := walked hm h1
 have w2 := walked hm h2
 have e := w2.st
 have hl : (l ++ [A]).length = l.length + 1 := by simp
 rw [hl, itx_snoc, Nat.zero_add] at e
 rw [itx_congr (takeG n d ks (l ++ [A])) (takeG n d ks l) l.length 0 ([], 0) (fun j st _ hj => by
  have hj' : j < l.length := by omega
  have b : badT n d (l ++ [A]) j st.2 = badT n d l j st.2 := by
   unfold badT
   rw [dif_pos (by rw [hl]; omega), dif_pos hj']
   have e1 : (l ++ [A])[j]'(by rw [hl]; omega) = l[j] := List.getElem_append_left hj'
   have e2 : (l ++ [A])[j - 1]'(by rw [hl]; omega) = l[j - 1] := List.getElem_append_left (by omega)
   rw [e1, e2]
  have g : (l ++ [A]).getD j 0 = l.getD j 0 := by
   rw [List.getD_eq_getElem?_getD, List.getD_eq_getElem?_getD, List.getElem?_append_left hj']
  unfold takeG
  rw [b, g]), w1.st] at e
 simp only at e
 have hpos := w1.pos
 unfold takeG at e
 split at e
 ·cases e
 rename_i hb
 unfold badT at hb
 rw [dif_pos (by rw [hl]; omega)] at hb
 have e1 : (l ++ [A])[l.length]'(by rw [hl]; omega) = A := by simp
 have e2 : (l ++ [A])[l.length - 1]'(by rw [hl]; omega) = l[l.length - 1]'(by omega) := List.getElem_append_left (by omega)
 rw [e1, e2] at hb
 simp only [Bool.or_eq_true, Bool.and_eq_true, Bool.not_eq_true', decide_eq_false_iff_not, decide_eq_true_eq, not_or, Decidable.not_not, not_and, Bool.not_eq_false] at hb
 have g : (l ++ [A]).getD l.length 0 = A := by
  rw [List.getD_eq_getElem?_getD, List.getElem?_append_right (Nat.le_refl _), Nat.sub_self]; rfl
 have gl : l.getD (l.length - 1) 0 = l[l.length - 1]'(by omega) := by
  rw [List.getD_eq_getElem?_getD, List.getElem?_eq_getElem (by omega)]; rfl
 rw [g] at e
 refine ⟨w2.node A (by simp), by rw [gl]; exact hb.2 hpos, ?_⟩
 have := congrArg Prod.snd (Sum.inl.inj e)
 exact this.symm

def hasR (n : Int) (d : List Door) (ks l : List Int) (u : Int) : Int × Bool := if goodV n d ks l u = true then (nowH n d ks l, true) else (0, false)
theorem HasNow_both (hk : Big ≤ k) (n : Int) (d : List Door) (ks l : List Int) (u : Int) (hd : d.length ≤ 1048576) (hks : ks.length ≤ 1048576) (hl : l.length ≤ 1048576) :
  impl_HasNow.f k n d ks l u = some (hasR n d ks l u) ∧ spec_HasNow.f k n d ks l u = some (hasR n d ks l u) := by
 unfold spec_HasNow.f impl_HasNow.f
 rw [l12Good_eqV hk n d ks l u hd hks hl, IsVisit_eqV hk n d ks l u hd hks hl]
 by_cases hg : goodV n d ks l u = true
 ·have hm := (goodV_m hg).1
  have ht := goodV_t hg
  have hlen := takenP_length hm ht
  have e : hasR n d ks l u = (nowH n d ks l, true) := if_pos hg
  have e2 : rdl (takenP n d ks l).1 (w64 (((takenP n d ks l).1.length : Int) - 1)) = some (nowH n d ks l) := by
   rw [show w64 (((takenP n d ks l).1.length : Int) - 1) = ((l.length - 1 : Nat) : Int) by rw [w64_id (by omega) (by omega)]; omega]
   exact rdl_getD (by omega) _
  rw [hg, e]
  simp only [Bool.not_true, Bool.false_eq_true, if_false, Option.bind_some, spec_l12Has.f, impl_hasNow.f, l2Taken_eq hk n d ks l hm hl, taken_eq hk n d ks l hm hl, e2]
  exact ⟨trivial, trivial⟩
 ·have e : hasR n d ks l u = (0, false) := if_neg hg
  have hg' : goodV n d ks l u = false := by simpa using hg
  rw [hg', e]
  exact ⟨rfl, rfl⟩
theorem ahead_good (hg : goodV n d ks l u = true) : aheadR n d ks l u = (nodesL d (l.getD (l.length - 1) 0) (nowH n d ks l), true) := if_pos (goodV_iff.1 hg)
theorem ahead_bad (hg : ¬ goodV n d ks l u = true) : aheadR n d ks l u = ([], false) := if_neg fun h => hg (goodV_iff.2 h)
theorem l12Ahead_eq (hk : Big ≤ k) (hg : goodV n d ks l u = true) : spec_l12Ahead.f k n d ks l u = some (nodesL d (l.getD (l.length - 1) 0) (nowH n d ks l)) := by
 obtain ⟨hm, h60, _⟩ := goodV_m hg
 have hF := goodV_few hg
 have h := (NodesAhead_eq hk n d ks l u hF.1 hF.2.1 hF.2.2).2
 unfold spec_NodesAhead.f at h
 rw [l12Good_eqV hk n d ks l u hF.1 hF.2.1 hF.2.2, hg, ahead_good hg, Option.bind_some, if_neg (by decide)] at h
 obtain ⟨x, h1, h2⟩ := bind_some h
 rw [h1]
 exact congrArg some (congrArg Prod.fst (Option.some.inj h2))
theorem last_mem (h : 0 < l.length) : l.getD (l.length - 1) 0 ∈ l := by
 rw [List.getD_eq_getElem?_getD, List.getElem?_eq_getElem (by omega)]
 exact List.getElem_mem _
theorem ahead_self (hg : goodV n d ks l u = true) : l.getD (l.length - 1) 0 ∈ nodesL d (l.getD (l.length - 1) 0) (nowH n d ks l) := by
 have hm := (goodV_m hg).1
 have w := walked hm (goodV_t hg)
 have h1 := w.node _ (last_mem w.pos)
 have hhi := hm.okm.hi
 exact (mem_nodesL hm.okm.small (by omega)).2 .here

def VS (d : List Door) (ks l : List Int) (u : Int) : Prop := d.length ≤ 100 ∧ ks.length ≤ 100 ∧ l.length ≤ 100 ∧ -10 ≤ u ∧ u ≤ 2000
theorem good_VS (hg : goodV n d ks l u = true) : VS d ks l u := by
 obtain ⟨hm, h60, h1, h2⟩ := goodV_m hg
 have h30 := hm.2.2.1
 have hks : ks.length ≤ 12 := by have h1 := hm.2.1; have h2 := hm.2.2.2.1; omega
 exact ⟨by omega, by omega, by omega, by omega, by omega⟩
theorem leastT (x y : Int) : Tot (spec_l1Least.f k x y) (fun _ => True) := by
 unfold spec_l1Least.f; exact Tot.ite (fun _ => Tot.ret trivial) (fun _ => Tot.ret trivial)
theorem mostT (x y : Int) : Tot (spec_l1Most.f k x y) (fun _ => True) := by
 unfold spec_l1Most.f; exact Tot.ite (fun _ => Tot.ret trivial) (fun _ => Tot.ret trivial)
theorem deed12_ok (hk : Big ≤ k) (hc : CodeOk c) (ha : Pos (a + 1000)) (h0 : 0 ≤ a) (n : Int) (hv : VS d ks l u) : Tot (spec_l1Cur_deed12.f k c a s n d ks l u) (fun r => a ≤ r.2.2.2.2.1 ∧ r.2.2.2.2.1 ≤ a + 40) := by
 have hA : a + 1000 ≤ 100000000 := ha.2
 clear ha
 have P : ∀ x : Int, a ≤ x → x ≤ a + 500 → Pos x := fun x h1 h2 => by unfold Pos; omega
 obtain ⟨v1, v2, v3, v4, v5⟩ := hv
 unfold spec_l1Cur_deed12.f
 refine Tot.bind (among_ok hc (P _ (by omega) (by omega)) _ (by simp)) ?_
 rintro ⟨K, a1, s1⟩ ⟨_, h1⟩
 simp only at h1 ⊢
 refine Tot.bind (leastT _ _) fun m1 _ => Tot.bind (mostT _ _) fun m2 _ => ?_
 refine Tot.bind (P := fun r => a ≤ r.1 ∧ r.1 ≤ a + 20) ?_ ?_
 ·refine Tot.ite (fun _ => ?_) (fun _ => Tot.bind (P := fun r => a ≤ r.1 ∧ r.1 ≤ a + 20) (Tot.ite (fun _ => ?_) (fun _ => Tot.bind (P := fun r => a ≤ r.1 ∧ r.1 ≤ a + 20) (Tot.ite (fun _ => ?_) (fun _ => Tot.bind (P := fun r => a ≤ r.1 ∧ r.1 ≤ a + 20) (Tot.ite (fun _ => ?_) (fun _ => Tot.ret (by simp only; omega))) ?_)) ?_)) ?_)
  ·refine Tot.bind (pick_ok hc (P _ (by omega) (by omega)) _) ?_
   rintro ⟨A, a2, s2⟩ ⟨_, _, h2⟩
   simp only at h2 ⊢
   rw [l12Good_eqV hk n d ks l u (by omega) (by omega) (by omega), Option.bind_some]
   refine Tot.bind (P := fun r => (r.1 = true → goodV n d ks l u = true) ∧ a ≤ r.2.1 ∧ r.2.1 ≤ a + 10) ?_ ?_
   ·refine Tot.ite (fun hg => ?_) (fun _ => Tot.ret ⟨fun h => Bool.noConfusion h, by simp only; omega, by simp only; omega⟩)
    refine Tot.bind (one_ok hc (P _ (by omega) (by omega)) _) ?_
    rintro ⟨t, a3, s3⟩ h3
    simp only at h3
    exact Tot.ret ⟨fun _ => hg, by simp only; omega, by simp only; omega⟩
   ·rintro ⟨t, a3, s3⟩ ⟨hg, h3⟩
    simp only at hg h3 ⊢
    refine Tot.bind (P := fun r => a ≤ r.1 ∧ r.1 ≤ a + 20) ?_ ?_
    ·refine Tot.ite (fun ht => ?_) (fun _ => Tot.ret (by simp only; omega))
     have hg' := hg ht
     rw [l12Ahead_eq hk hg', Option.bind_some]
     have hm := ahead_self hg'
     have hpos := List.length_pos_of_mem hm
     generalize nodesL d (l.getD (l.length - 1) 0) (nowH n d ks l) = L at *
     refine Tot.bind (pick_ok hc (P _ (by omega) (by omega)) _) ?_
     rintro ⟨i, a4, s4⟩ ⟨h4, h5, h6⟩
     simp only at h4 h5 h6 ⊢
     refine Tot.bind (Tot.rdl h4 (by omega)) fun x _ => Tot.ret (by simp only; omega)
    ·rintro ⟨a4, s4, x⟩ h4
     exact Tot.ret h4
  ·refine Tot.bind (pick_ok hc (P _ (by omega) (by omega)) _) ?_
   rintro ⟨A, a2, s2⟩ ⟨_, _, h2⟩
   simp only at h2 ⊢
   refine Tot.bind (colours_ok hk hc (P _ (by omega) (by omega)) (by omega)) ?_
   rintro ⟨B, a3, s3⟩ ⟨_, h3⟩
   simp only at h3 ⊢
   exact Tot.ret (by simp only; omega)
  ·refine Tot.bind (pick_ok hc (P _ (by omega) (by omega)) _) ?_
   rintro ⟨A, a2, s2⟩ ⟨_, _, h2⟩
   simp only at h2 ⊢
   refine Tot.bind (pick_ok hc (P _ (by omega) (by omega)) _) ?_
   rintro ⟨B, a3, s3⟩ ⟨_, _, h3⟩
   simp only at h3 ⊢
   refine Tot.bind (few_ok hk hc (P _ (by omega) (by omega)) (by omega) _) ?_
   rintro ⟨C, a4, s4⟩ h4
   simp only at h4 ⊢
   exact Tot.ret (by simp only; omega)
  ·refine Tot.bind (leastT _ _) fun m3 _ => Tot.bind (mostT _ _) fun m4 _ => ?_
   refine Tot.bind (pick_ok hc (P _ (by omega) (by omega)) _) ?_
   rintro ⟨A, a2, s2⟩ ⟨_, _, h2⟩
   simp only at h2 ⊢
   exact Tot.ret (by simp only; omega)
  ·rintro ⟨a2, s2, A⟩ h; exact Tot.ret h
  ·rintro ⟨a2, s2, A, B, C⟩ h; exact Tot.ret h
  ·rintro ⟨a2, s2, A, B, C⟩ h; exact Tot.ret h
 ·rintro ⟨a2, s2, A, B, C⟩ h2
  simp only at h2 ⊢
  refine Tot.bind (pick_ok hc (P _ (by omega) (by omega)) _) ?_
  rintro ⟨z, a3, s3⟩ ⟨_, _, h3⟩
  simp only at h3 ⊢
  have Q : ∀ (L : List Int), L ≠ [] → ∀ {β : Type} (f : Int → Int → Int → β) (p : β → Int), (∀ x b s, p (f x b s) = b) → Tot ((spec_l1Cur_among.f k c a3 s3 L).bind fun (x, b, s) => some (f x b s)) (fun r => a ≤ p r ∧ p r ≤ a + 40) := fun L hL β f p hp => by
   refine Tot.bind (among_ok hc (P _ (by omega) (by omega)) _ hL) ?_
   rintro ⟨x, b, s⟩ ⟨_, h⟩
   simp only at h ⊢
   exact Tot.ret (by rw [hp]; omega)
  refine Tot.bind (P := fun r => a ≤ r.1 ∧ r.1 ≤ a + 40) (Tot.ite (fun _ => Q _ (by simp) (fun x b s => (b, s, K, x, B, C)) (·.1) (fun _ _ _ => rfl)) (fun _ => Tot.bind (P := fun r => a ≤ r.1 ∧ r.1 ≤ a + 40) (Tot.ite (fun _ => Q _ (by simp) (fun x b s => (b, s, K, x, C)) (·.1) (fun _ _ _ => rfl)) (fun _ => Tot.bind (P := fun r => a ≤ r.1 ∧ r.1 ≤ a + 40) (Tot.ite (fun _ => Q _ (by simp) (fun x b s => (b, s, K, x)) (·.1) (fun _ _ _ => rfl)) (fun _ => Tot.bind (P := fun r => a ≤ r.1 ∧ r.1 ≤ a + 40) (Tot.ite (fun _ => Q _ (by simp) (fun x b s => (b, s, x)) (·.1) (fun _ _ _ => rfl)) (fun _ => Tot.ret (by simp only; omega))) ?_)) ?_)) ?_)) ?_
  ·rintro ⟨b, s, x⟩ h; exact Tot.ret h
  ·rintro ⟨b, s, x, y⟩ h; exact Tot.ret h
  ·rintro ⟨b, s, x, y, z⟩ h; exact Tot.ret h
  ·rintro ⟨b, s, x, y, z, w⟩ h; exact Tot.ret h

variable {k : Nat} {c : List By} {a s : Int} {n : Int} {d : List Door} {ks l : List Int} {u : Int}
theorem deedP_good {K A B C : Int} {r : VR} (e : deedP n d ks l u K A B C = r) (h : r.2.2.2.2.2 = true) : goodV r.1 r.2.1 r.2.2.1 r.2.2.2.1 r.2.2.2.2.1 = true := by
 subst e; exact deedP_goodR n d ks l u K A B C h
theorem visit0_ok (hk : Big ≤ k) (hc : CodeOk c) (b : Bool) (m : Nat) (hm : m ≤ 8) {a : Int} (ha : 0 ≤ a ∧ a ≤ 500) (hg : b = true → goodV n d ks l u = true) (hv : VS d ks l u) (hl : l.length ≤ 60) :
  Tot (spec_l1Cur_visit.l0 k c b k (m : Int) a s n d ks l u) (fun r => (VS r.2.2.2.1 r.2.2.2.2.1 r.2.2.2.2.2.1 r.2.2.2.2.2.2 ∧ r.2.2.2.2.2.1.length ≤ 60) ∧ 0 ≤ r.1 ∧ r.1 ≤ 1000) := by
 have P : ∀ x : Int, 0 ≤ x → x ≤ 10000 → Pos x := fun x h1 h2 => by unfold Pos; omega
 refine Tot.loop (l := fun q (st : Nat × Int × Int × Int × List Door × List Int × List Int × Int) => spec_l1Cur_visit.l0 k c b q (st.1 : Int) st.2.1 st.2.2.1 st.2.2.2.1 st.2.2.2.2.1 st.2.2.2.2.2.1 st.2.2.2.2.2.2.1 st.2.2.2.2.2.2.2)
  (fun st => (st.1 ≤ m ∧ 0 ≤ st.2.1 ∧ st.2.1 + 50 * st.1 ≤ 500 + 50 * m) ∧ (b = true → goodV st.2.2.2.1 st.2.2.2.2.1 st.2.2.2.2.2.1 st.2.2.2.2.2.2.1 st.2.2.2.2.2.2.2 = true) ∧ VS st.2.2.2.2.1 st.2.2.2.2.2.1 st.2.2.2.2.2.2.1 st.2.2.2.2.2.2.2 ∧ st.2.2.2.2.2.2.1.length ≤ 60) (fun st => st.1)
  (fun r => (VS r.2.2.2.1 r.2.2.2.2.1 r.2.2.2.2.2.1 r.2.2.2.2.2.2 ∧ r.2.2.2.2.2.1.length ≤ 60) ∧ 0 ≤ r.1 ∧ r.1 ≤ 1000) (fun q st hI ih => ?_) k (m, a, s, n, d, ks, l, u) (by simp only; unfold Big at hk; omega) ⟨⟨by simp, by simp only; omega, by simp only; omega⟩, hg, hv, hl⟩
 obtain ⟨i, b1, s1, n, d, ks, l, u⟩ := st
 obtain ⟨⟨e1, e2, e3⟩, e4, e5, e6⟩ := hI
 simp only at e1 e2 e3 e4 e5 e6 ih ⊢
 rw [spec_l1Cur_visit.l0]
 refine Tot.bind (P := fun y => y = true → 0 < i ∧ b = true) (Tot.ite (fun h => Tot.ret fun h' => ⟨by have := of_decide_eq_true h; omega, h'⟩) (fun _ => Tot.ret fun h => Bool.noConfusion h)) fun y hy => ?_
 refine Tot.ite (fun h => ?_) (fun h => Tot.ret ⟨⟨e5, e6⟩, by simp only; omega, by simp only; omega⟩)
 obtain ⟨hi, hb⟩ := hy h
 have hgood := e4 hb
 refine Tot.bind (P := fun r => (0 ≤ r.2.1 ∧ r.2.1 ≤ b1 + 40) ∧ (r.1 = true → goodV r.2.2.2.1 r.2.2.2.2.1 r.2.2.2.2.2.1 r.2.2.2.2.2.2.1 r.2.2.2.2.2.2.2 = true)) ?_ ?_
 ·refine Tot.bind (deed12_ok hk hc (P _ (by omega) (by omega)) (by omega) n e5) ?_
  rintro ⟨K, A, B, C, b2, s2⟩ h2
  simp only at h2 ⊢
  rw [l12Do_eq hk hgood, Option.bind_some]
  generalize hr : deedP n d ks l u K A B C = r
  obtain ⟨n', d', ks', l', u', f⟩ := r
  exact Tot.ret ⟨by simp only; omega, fun hf => deedP_good hr hf⟩
 rintro ⟨f, b2, s2, n', d', ks', l', u'⟩ ⟨h2, h3⟩
 simp only at h2 h3 ⊢
 refine Tot.bind (P := fun r => goodV r.1 r.2.1 r.2.2.1 r.2.2.2.1 r.2.2.2.2 = true) (Tot.ite (fun hf => Tot.ret (h3 hf)) (fun _ => Tot.ret hgood)) ?_
 rintro ⟨n2, d2, ks2, l2, u2⟩ hg2
 simp only at hg2 ⊢
 rw [show w64 ((i : Int) - 1) = ((i - 1 : Nat) : Int) by rw [w64_id (by omega) (by omega)]; omega]
 exact ih (i - 1, b2, s2, n2, d2, ks2, l2, u2) ⟨⟨by simp only; omega, by simp only; omega, by simp only; omega⟩, fun _ => hg2, good_VS hg2, (goodV_m hg2).2.1⟩ (by simp only; omega)
theorem visit_ok (hk : Big ≤ k) (hc : CodeOk c) : Tot (spec_l1Cur_visit.f k c 0 0) (fun r => VS r.2.1 r.2.2.1 r.2.2.2.1 r.2.2.2.2.1 ∧ 0 ≤ r.2.2.2.2.2.1 ∧ r.2.2.2.2.2.1 ≤ 1100) := by
 have P : ∀ x : Int, 0 ≤ x → x ≤ 10000 → Pos x := fun x h1 h2 => by unfold Pos; omega
 unfold spec_l1Cur_visit.f
 refine Tot.bind (among_ok hc (P _ (by omega) (by omega)) _ (by simp)) ?_
 rintro ⟨z, a1, s1⟩ ⟨hz, h1⟩
 simp only [List.mem_cons, List.not_mem_nil, or_false] at hz
 simp only at hz h1 ⊢
 refine Tot.bind (someMaze_ok hk hc (P _ (by omega) (by omega)) (by omega) z (by omega)) ?_
 rintro ⟨m, d0, ks0, a2, s2⟩ ⟨hM, h2⟩
 simp only at hM h2 ⊢
 rw [spec_NewVisit_eq hk m d0 ks0 (by have := hM.2.1; omega) (by have := hM.2.2; omega), Option.bind_some]
 have hN : ∃ n d ks l u b, newVisitP m d0 ks0 = (n, d, ks, l, u, b) ∧ (b = true → goodV n d ks l u = true) ∧ VS d ks l u ∧ l.length ≤ 60 := by
  unfold newVisitP
  by_cases hm : IsMaze m d0 ks0
  ·have hg := good_new hm
   exact ⟨_, _, _, _, _, _, if_pos hm, fun _ => hg, good_VS hg, by simp⟩
  ·exact ⟨_, _, _, _, _, _, if_neg hm, fun h => Bool.noConfusion h, by unfold VS; simp, by simp⟩
 obtain ⟨n, d, ks, l, u, b, e, hg, hv, hl⟩ := hN
 rw [e]
 simp only
 refine Tot.bind (pick_ok hc (P _ (by omega) (by omega)) _) ?_
 rintro ⟨t, a3, s3⟩ ⟨g1, g2, g3⟩
 simp only at g1 g2 g3 ⊢
 obtain ⟨t, rfl⟩ := Int.eq_ofNat_of_zero_le g1
 rw [show w64 (1 + (t : Int)) = ((t + 1 : Nat) : Int) by rw [w64_id (by omega) (by omega)]; omega]
 refine Tot.bind (visit0_ok hk hc b (t + 1) (by omega) (by omega) hg hv hl) ?_
 rintro ⟨a4, s4, n4, d4, ks4, l4, u4⟩ ⟨⟨⟨v1, v2, v3, v4, v5⟩, v6⟩, h4⟩
 simp only at v1 v2 v3 v4 v5 v6 h4 ⊢
 refine Tot.bind (pick_ok hc (P _ (by omega) (by omega)) _) ?_
 rintro ⟨z2, a5, s5⟩ ⟨_, _, h5⟩
 simp only at h5 ⊢
 refine Tot.bind (P := fun r => (0 ≤ r.1 ∧ r.1 ≤ 1100) ∧ r.2.2.2.1.length ≤ 100 ∧ -10 ≤ r.2.2.2.2 ∧ r.2.2.2.2 ≤ 2000) ?_ ?_
 ·refine Tot.ite (fun _ => ?_) (fun _ => Tot.bind (P := fun r => (0 ≤ r.1 ∧ r.1 ≤ 1100) ∧ r.2.2.2.length ≤ 100) (Tot.ite (fun _ => ?_) (fun _ => Tot.bind (P := fun r => (0 ≤ r.1 ∧ r.1 ≤ 1100) ∧ r.2.2.2.length ≤ 100) (Tot.ite (fun _ => Tot.ret ⟨by simp only; omega, by simp⟩) (fun _ => Tot.bind (P := fun r => 0 ≤ r.1 ∧ r.1 ≤ 1100) (Tot.ite (fun _ => ?_) (fun _ => Tot.ret (by simp only; omega))) ?_)) ?_)) ?_)
  ·refine Tot.bind (among_ok hc (P _ (by omega) (by omega)) _ (by simp)) ?_
   rintro ⟨x, b, s⟩ ⟨hx, h⟩
   simp only [List.mem_cons, List.not_mem_nil, or_false] at hx
   simp only at h ⊢
   exact Tot.ret ⟨by simp only; omega, by simp only; omega, by simp only; omega, by simp only; omega⟩
  ·rw [l1Own_eq l4 (by omega), Option.bind_some]
   refine Tot.bind (among_ok hc (P _ (by omega) (by omega)) _ (by simp)) ?_
   rintro ⟨x, b, s⟩ ⟨_, h⟩
   simp only at h ⊢
   rw [if_pos (by simp; omega)]
   exact Tot.ret ⟨by simp only; omega, by simp; omega⟩
  ·refine Tot.bind (among_ok hc (P _ (by omega) (by omega)) _ (by simp)) ?_
   rintro ⟨x, b, s⟩ ⟨_, h⟩
   simp only at h ⊢
   exact Tot.ret (by simp only; omega)
  ·rintro ⟨b, s, x⟩ h; exact Tot.ret ⟨h, by simp only; omega⟩
  ·rintro ⟨b, s, x, y⟩ h; exact Tot.ret h
  ·rintro ⟨b, s, x, y⟩ h; exact Tot.ret ⟨h.1, h.2, by simp only; omega, by simp only; omega⟩
 ·rintro ⟨a6, s6, n6, l6, u6⟩ ⟨h6, h7, h8⟩
  exact Tot.ret ⟨⟨v1, v2, h7, h8⟩, h6⟩
theorem DrawDoDeed_ok (hk : Big ≤ k) (hc : CodeOk c) : Tot (spec_DrawDoDeed.f k c) (fun r => VS r.2.1 r.2.2.1 r.2.2.2.1 r.2.2.2.2.1) := by
 unfold spec_DrawDoDeed.f
 refine Tot.bind (visit_ok hk hc) ?_
 rintro ⟨n, d, ks, l, u, a1, s1⟩ ⟨hv, h1⟩
 simp only at hv h1 ⊢
 refine Tot.bind (deed12_ok hk hc (by unfold Pos; omega) (by omega) n hv) ?_
 rintro ⟨K, A, B, C, b2, s2⟩ _
 exact Tot.ret hv
theorem deeds0_ok (hk : Big ≤ k) (hc : CodeOk c) (m : Nat) (hm : m ≤ 8) {a : Int} (ha : 0 ≤ a ∧ a ≤ 2000) (hv : VS d ks l u) :
  Tot (spec_DrawDoDeeds.l0 k c k [] (m : Int) a s n d ks l u) (fun r => r.length ≤ 8) := by
 have P : ∀ x : Int, 0 ≤ x → x ≤ 10000 → Pos x := fun x h1 h2 => by unfold Pos; omega
 refine Tot.loop (l := fun q (st : List De × Nat × Int × Int × Int × List Door × List Int × List Int × Int) => spec_DrawDoDeeds.l0 k c q st.1 (st.2.1 : Int) st.2.2.1 st.2.2.2.1 st.2.2.2.2.1 st.2.2.2.2.2.1 st.2.2.2.2.2.2.1 st.2.2.2.2.2.2.2.1 st.2.2.2.2.2.2.2.2)
  (fun st => (st.2.1 + st.1.length ≤ m ∧ 0 ≤ st.2.2.1 ∧ st.2.2.1 + 50 * st.2.1 ≤ 2000 + 50 * m) ∧ VS st.2.2.2.2.2.1 st.2.2.2.2.2.2.1 st.2.2.2.2.2.2.2.1 st.2.2.2.2.2.2.2.2) (fun st => st.2.1)
  (fun r => r.length ≤ 8) (fun q st hI ih => ?_) k ([], m, a, s, n, d, ks, l, u) (by simp only; unfold Big at hk; omega) ⟨⟨by simp, by simp only; omega, by simp only; omega⟩, hv⟩
 obtain ⟨L, i, b1, s1, n, d, ks, l, u⟩ := st
 obtain ⟨⟨e1, e2, e3⟩, e5⟩ := hI
 simp only at e1 e2 e3 e5 ih ⊢
 have e5' := e5
 obtain ⟨v1, v2, v3, v4, v5⟩ := e5
 rw [spec_DrawDoDeeds.l0]
 refine Tot.bind (P := fun y => y = true → 0 < i ∧ goodV n d ks l u = true) (Tot.ite (fun h => ?_) (fun _ => Tot.ret fun h => Bool.noConfusion h)) fun y hy => ?_
 ·rw [l12Good_eqV hk n d ks l u (by omega) (by omega) (by omega), Option.bind_some]
  exact Tot.ret fun h' => ⟨by have := of_decide_eq_true h; omega, h'⟩
 refine Tot.ite (fun h => ?_) (fun h => Tot.ret (by omega))
 obtain ⟨hi, hgood⟩ := hy h
 refine Tot.bind (deed12_ok hk hc (P _ (by omega) (by omega)) (by omega) n e5') ?_
 rintro ⟨K, A, B, C, b2, s2⟩ h2
 simp only at h2 ⊢
 rw [if_pos (by simp; omega), l12Do_eq hk hgood, Option.bind_some]
 generalize hr : deedP n d ks l u K A B C = r
 obtain ⟨n', d', ks', l', u', f⟩ := r
 simp only
 refine Tot.bind (P := fun r => goodV r.1 r.2.1 r.2.2.1 r.2.2.2.1 r.2.2.2.2 = true) (Tot.ite (fun hf => Tot.ret (deedP_good hr hf)) (fun _ => Tot.ret hgood)) ?_
 rintro ⟨n2, d2, ks2, l2, u2⟩ hg2
 simp only at hg2 ⊢
 rw [show w64 ((i : Int) - 1) = ((i - 1 : Nat) : Int) by rw [w64_id (by omega) (by omega)]; omega]
 exact ih (L ++ [(K, A, B, C)], i - 1, b2, s2, n2, d2, ks2, l2, u2) ⟨⟨by simp; omega, by simp only; omega, by simp only; omega⟩, good_VS hg2⟩ (by simp only; omega)
theorem DrawDoDeeds_ok (hk : Big ≤ k) (hc : CodeOk c) : Tot (spec_DrawDoDeeds.f k c) (fun r => VS r.2.1 r.2.2.1 r.2.2.2.1 r.2.2.2.2.1 ∧ r.2.2.2.2.2.length ≤ 8) := by
 unfold spec_DrawDoDeeds.f
 refine Tot.bind (visit_ok hk hc) ?_
 rintro ⟨n, d, ks, l, u, a1, s1⟩ ⟨hv, h1⟩
 simp only at hv h1 ⊢
 refine Tot.bind (pick_ok hc (by unfold Pos; omega) _) ?_
 rintro ⟨t, a3, s3⟩ ⟨g1, g2, g3⟩
 simp only at g1 g2 g3 ⊢
 obtain ⟨t, rfl⟩ := Int.eq_ofNat_of_zero_le g1
 refine Tot.bind (deeds0_ok hk hc t (by omega) (by omega) hv) fun L hL => ?_
 exact Tot.ret ⟨hv, hL⟩
theorem DrawNewVisit_ok (hk : Big ≤ k) (hc : CodeOk c) : Tot (spec_DrawNewVisit.f k c) (fun r => MzS r.1 r.2.1 r.2.2) := by
 unfold spec_DrawNewVisit.f
 refine Tot.bind (maze_ok hk hc (by unfold Pos; omega) (by omega)) ?_
 rintro ⟨n, d, ks, a1, s1⟩ ⟨h, _⟩
 exact Tot.ret h

variable {k : Nat} {n : Int} {d : List Door} {ks l : List Int} {u : Int}
theorem vHas_eq (hk : Big ≤ k) (x : List Int) (y : Int) (hx : x.length ≤ 1048576) : laws_vHas.f k x y = some (x.contains y) := by
 unfold laws_vHas.f
 have := Tot.loop (l := fun q (i : Nat) => laws_vHas.l0 k x y q (i : Int)) (fun i => i ≤ x.length ∧ ∀ j (h : j < x.length), j < i → x[j] ≠ y) (fun i => x.length - i) (fun r => r = if x.contains y then .inr true else .inl ()) (fun q i hI ih => by
  obtain ⟨h1, h2⟩ := hI
  rw [laws_vHas.l0]
  by_cases hi : i < x.length
  ·rw [if_pos (by simpa using hi), rdl_lt hi, Option.bind_some]
   by_cases e : x[i] = y
   ·rw [if_pos (by simpa using e)]
    refine Tot.ret ?_
    rw [if_pos (by rw [List.contains_iff_mem, ← e]; exact List.getElem_mem hi)]
   ·rw [if_neg (by simpa using e), show w64 ((i : Int) + 1) = ((i + 1 : Nat) : Int) from w64_id (by omega) (by omega)]
    refine ih (i + 1) ⟨by omega, fun j h hj => ?_⟩ (by omega)
    rcases Nat.eq_or_lt_of_le (Nat.le_of_lt_succ hj) with rfl | h'
    ·exact e
    ·exact h2 j h h'
  ·rw [if_neg (by simpa using hi)]
   refine Tot.ret ?_
   rw [if_neg]
   rw [List.contains_iff_mem]
   intro hm
   obtain ⟨j, hj, e⟩ := List.getElem_of_mem hm
   exact h2 j hj (by omega) e) k 0 (by unfold Big at hk; omega) ⟨by omega, fun j _ h => by omega⟩
 obtain ⟨r, h1, rfl⟩ := this
 rw [show ((0 : Nat) : Int) = 0 from rfl] at h1
 rw [h1, Option.bind_some]
 by_cases h : x.contains y = true
 ·rw [if_pos h, h]; rfl
 ·rw [if_neg h]
  have : x.contains y = false := by simpa using h
  rw [this]; rfl
theorem vHas_mem (hk : Big ≤ k) {x : List Int} {y : Int} (hx : x.length ≤ 1048576) (h : y ∈ x) : laws_vHas.f k x y = some true := by
 rw [vHas_eq hk x y hx]
 exact congrArg some (List.contains_iff_mem.2 h)
theorem vWithin_true (hk : Big ≤ k) {x y : List Int} (hx : x.length ≤ 1048576) (hy : y.length ≤ 1048576) (h : ∀ z ∈ x, z ∈ y) : laws_vWithin.f k x y = some true := by
 unfold laws_vWithin.f
 have := Tot.loop (l := fun q (i : Nat) => laws_vWithin.l0 k x y q (i : Int)) (fun i => i ≤ x.length) (fun i => x.length - i) (fun r => r = .inl ()) (fun q i hI ih => by
  rw [laws_vWithin.l0]
  by_cases hi : i < x.length
  ·rw [if_pos (by simpa using hi), rdl_lt hi, Option.bind_some, vHas_mem hk hy (h _ (List.getElem_mem hi)), Option.bind_some, if_neg (by decide), show w64 ((i : Int) + 1) = ((i + 1 : Nat) : Int) from w64_id (by omega) (by omega)]
   exact ih (i + 1) (by omega) (by omega)
  ·rw [if_neg (by simpa using hi)]
   exact Tot.ret rfl) k 0 (by unfold Big at hk; omega) (by omega)
 obtain ⟨r, h1, rfl⟩ := this
 rw [show ((0 : Nat) : Int) = 0 from rfl] at h1
 rw [h1, Option.bind_some]; rfl
theorem vVisit_self (hk : Big ≤ k) (n : Int) (d : List Door) (ks l : List Int) (u : Int) (hd : d.length ≤ 1048576) (hks : ks.length ≤ 1048576) (hl : l.length ≤ 1048576) : laws_vVisit.f k n d ks l u n d ks l u = some true := by
 unfold laws_vVisit.f
 rw [vMaze_self hk n d ks hd hks, Option.bind_some, if_pos rfl, vInts_eq hk l l hl, decide_eq_true rfl, Option.bind_some, if_pos rfl, Option.bind_some, beq_self_eq_true]
theorem newVisitP_few (n : Int) (d : List Door) (ks : List Int) (hd : d.length ≤ 1048576) (hks : ks.length ≤ 1048576) : (newVisitP n d ks).2.1.length ≤ 1048576 ∧ (newVisitP n d ks).2.2.1.length ≤ 1048576 ∧ (newVisitP n d ks).2.2.2.1.length ≤ 1048576 := by
 unfold newVisitP
 split
 ·exact ⟨hd, hks, by simp⟩
 ·simp
theorem deeds_good (hk : Big ≤ k) (a : List De) : ∀ (q : Nat) (x : Int) (n : Int) (d : List Door) (ks l : List Int) (u : Int), goodV n d ks l u = true → ∀ r, impl_DoDeeds.l0 k a q x n d ks l u = some r →
    (∀ v, r = .inl v → goodV v.1 v.2.1 v.2.2.1 v.2.2.2.1 v.2.2.2.2 = true) ∧ ∀ v, r = .inr v → goodV v.1 v.2.1 v.2.2.1 v.2.2.2.1 v.2.2.2.2.1 = true
  | 0, x, n, d, ks, l, u, _, r, h => by rw [impl_DoDeeds.l0] at h; cases h
  | q + 1, x, n, d, ks, l, u, hv, r, h => by
    rw [impl_DoDeeds.l0] at h
    split at h
    · obtain ⟨t, _, h⟩ := bind_some h
      rw [done_eq hk hv, Option.bind_some] at h
      have hg := deedP_goodR n d ks l u t.1 t.2.1 t.2.2.1 t.2.2.2
      generalize deedP n d ks l u t.1 t.2.1 t.2.2.1 t.2.2.2 = z at hg h
      obtain ⟨n', d', ks', l', u', b⟩ := z
      cases b with
      | false =>
        have h' := Option.some.inj h
        subst h'
        exact ⟨fun v hv' => (nomatch hv'), fun v hv' => by cases hv'; exact hv⟩
      | true => exact deeds_good hk a q _ n' d' ks' l' u' (hg rfl) r h
    · have h' := Option.some.inj h
      subst h'
      exact ⟨fun v hv' => by cases hv'; exact hv, fun v hv' => (nomatch hv')⟩
theorem DoDeeds_good (hk : Big ≤ k) (n : Int) (d : List Door) (ks l : List Int) (u : Int) (a : List De) (hd : d.length ≤ 1048576) (hks : ks.length ≤ 1048576) (hl : l.length ≤ 1048576) {r : Int × List Door × List Int × List Int × Int × Int × Bool} (h : impl_DoDeeds.f k n d ks l u a = some r) (hf : r.2.2.2.2.2.2 = true) :
    goodV r.1 r.2.1 r.2.2.1 r.2.2.2.1 r.2.2.2.2.1 = true := by
  unfold impl_DoDeeds.f at h
  rw [IsVisit_eqV hk n d ks l u hd hks hl, Option.bind_some] at h
  by_cases hv : goodV n d ks l u = true
  rotate_left 1
  · have hv' : goodV n d ks l u = false := by simpa using hv
    rw [hv', if_pos (by decide)] at h
    have h' := Option.some.inj h
    subst h'
    cases hf
  rw [hv, if_neg (by decide), ownVisit_eq n d ks l u hd hks hl, Option.bind_some] at h
  obtain ⟨s, h1, h2⟩ := bind_some h
  obtain ⟨g1, g2⟩ := deeds_good hk a k 0 n d ks l u hv s h1
  cases s with
  | inl v =>
    have h' := Option.some.inj h2
    subst h'
    exact g1 v rfl
  | inr v =>
    have h' := Option.some.inj h2
    subst h'
    exact g2 v rfl
theorem keepV_count {n : Int} {d : List Door} {ks l : List Int} {u : Int} (h : (keepV n d ks l u).2.2.2.2.2 = true) : (keepV n d ks l u).2.2.2.2.1 = u := by
 unfold keepV at h ⊢
 split
 ·rfl
 ·rename_i hn; rw [if_neg hn] at h; cases h
theorem deedP_count {K A B C : Int} (h : (deedP n d ks l u K A B C).2.2.2.2.2 = true) : (deedP n d ks l u K A B C).2.2.2.2.1 = u + 1 := by
  have h0 : noV.2.2.2.2.2 = true → noV.2.2.2.2.1 = u + 1 := fun h => by cases h
  revert h
  unfold deedP
  repeat' split
  all_goals first
    | exact keepV_count
    | exact h0
theorem back_eq {A : Int} (h1 : goodV n d ks l u = true) (h2 : goodV n d ks (l ++ [A]) (u + 1) = true) (hu : u + 1 ≠ 1000) : doDeedP n d ks (l ++ [A]) (u + 1) 2 0 0 0 = (n, d, ks, l, u + 1 + 1, true) := by
 unfold doDeedP
 rw [if_pos h2]
 unfold deedP
 rw [if_neg (by decide), if_pos rfl, if_pos ⟨rfl, rfl, rfl⟩]
 have e : (l ++ [A]).take ((l ++ [A]).length - 1) = l := by simp
 rw [e]
 obtain ⟨g1, g2⟩ := goodV_iff.1 h1
 obtain ⟨g3, _⟩ := goodV_iff.1 h2
 exact if_pos (goodV_iff.2 ⟨⟨g1.1, g1.2.1, by have := g3.2.2; omega, by have := g3.2.2; omega⟩, g2⟩)
theorem band_le {a b : Int} (ha : 0 ≤ a ∧ a ≤ 63) (hb : 0 ≤ b ∧ b ≤ 63) (h : subB a.toNat b.toNat = true) : band a b = a := by
 obtain ⟨x, rfl⟩ := Int.eq_ofNat_of_zero_le ha.1
 obtain ⟨y, rfl⟩ := Int.eq_ofNat_of_zero_le hb.1
 rw [band_nat (by omega) (by omega)]
 congr 1
 rw [Int.toNat_natCast, Int.toNat_natCast] at h
 unfold subB at h
 rw [beq_iff_eq] at h
 exact h
theorem band_ge {a b : Int} (ha : 0 ≤ a ∧ a ≤ 63) (hb : 0 ≤ b ∧ b ≤ 63) (h : subB a.toNat b.toNat = true) : band b a = a := by
 obtain ⟨x, rfl⟩ := Int.eq_ofNat_of_zero_le ha.1
 obtain ⟨y, rfl⟩ := Int.eq_ofNat_of_zero_le hb.1
 rw [band_nat (by omega) (by omega)]
 congr 1
 rw [Int.toNat_natCast, Int.toNat_natCast] at h
 unfold subB at h
 rw [beq_iff_eq] at h
 rw [Nat.and_comm]; exact h
theorem laws_FnVisits.pure (x : List By) (h : wfd x) : ∃ k, laws_FnVisits.f k x = some true := by
  refine ⟨Big, ?_⟩
  have hk : Big ≤ Big := Nat.le_refl _
  unfold laws_FnVisits.f laws_vBig.f
  rw [Option.bind_some]
  by_cases hb : (x.length : Int) > 65536
  · rw [if_pos (by simpa using hb)]
  rw [if_neg (by simpa using hb)]
  have hc := code_ok h (by omega)
  obtain ⟨⟨m, dm, km⟩, e1, hM⟩ := DrawNewVisit_ok (k := Big) hk hc
  obtain ⟨c1, e2, hc1⟩ := vCut_ok (k := Big) 1 (by omega) hc (by omega)
  obtain ⟨⟨n, d, ks, l, u, K, A, B, C⟩, e3, v1, v2, v3, v4, v5⟩ := DrawDoDeed_ok (k := Big) hk hc1
  obtain ⟨c2, e4, hc2⟩ := vCut_ok (k := Big) 2 (by omega) hc (by omega)
  obtain ⟨⟨n2, d2, ks2, l2, u2, L⟩, e5, ⟨w1, w2, w3, w4, w5⟩, hL⟩ := DrawDoDeeds_ok (k := Big) hk hc2
  obtain ⟨_, hM2, hM3⟩ := hM
  simp only at hM2 hM3 v1 v2 v3 v4 v5 w1 w2 w3 w4 w5 hL
  have q1 := impl_NewVisit_eq hk m dm km (by omega) (by omega)
  have q2 := spec_NewVisit_eq hk m dm km (by omega) (by omega)
  have q3 := impl_DoDeed_eq hk n d ks l u K A B C (by omega) (by omega) (by omega)
  have q4 := spec_DoDeed_eq hk n d ks l u K A B C (by omega) (by omega) (by omega)
  obtain ⟨r, q5, q6, f1, f2, f3⟩ := DoDeeds_both hk n2 d2 ks2 l2 u2 L (by omega) (by omega) (by omega) (by omega)
  have hend := DoDeeds_good hk n2 d2 ks2 l2 u2 L (by omega) (by omega) (by omega) q5
  obtain ⟨q7, q8⟩ := HasNow_both hk n d ks l u (by omega) (by omega) (by omega)
  obtain ⟨q9, q10⟩ := NodesAhead_eq hk n d ks l u (by omega) (by omega) (by omega)
  have q11 := IsVisit_eqV hk n d ks l u (by omega) (by omega) (by omega)
  have q12 : spec_IsVisit.f Big n d ks l u = some (goodV n d ks l u) := by
    unfold spec_IsVisit.f
    rw [l12Good_eqV hk n d ks l u (by omega) (by omega) (by omega)]; rfl
  obtain ⟨g1, g2, g3⟩ := newVisitP_few m dm km (by omega) (by omega)
  obtain ⟨g4, g5, g6⟩ := doDeedP_len n d ks l u K A B C
  have a1 := aheadR_len n d ks l u
  have a2 := vInts_eq hk (aheadR n d ks l u).1 (aheadR n d ks l u).1 a1
  have a3 : (hasR n d ks l u).2 = goodV n d ks l u := by
    unfold hasR; split
    · rename_i h; exact h.symm
    · rename_i h; exact (by simpa using h : goodV n d ks l u = false).symm
  have a4 : (aheadR n d ks l u).2 = goodV n d ks l u := by
    by_cases hg : goodV n d ks l u = true
    · rw [ahead_good hg, hg]
    · rw [ahead_bad hg]; exact (by simpa using hg : goodV n d ks l u = false).symm
  generalize hN : newVisitP m dm km = N at *
  obtain ⟨N1, N2, N3, N4, N5, N6⟩ := N
  generalize hb' : doDeedP n d ks l u K A B C = b at *
  obtain ⟨b1, b2, b3, b4, b5, b6⟩ := b
  obtain ⟨r1, r2, r3, r4, r5, r6, r7⟩ := r
  simp only at g1 g2 g3 g4 g5 g6 f1 f2 f3 hend
  have s1 := vVisit_self hk N1 N2 N3 N4 N5 g1 g2 g3
  have s2 := vVisit_self hk b1 b2 b3 b4 b5 g4 g5 g6
  have s3 := vVisit_self hk r1 r2 r3 r4 r5 f1 f2 f3
  have s4 := IsVisit_eqV hk r1 r2 r3 r4 r5 f1 f2 f3
  have s5 := IsVisit_eqV hk b1 b2 b3 b4 b5 g4 g5 g6
  have s6 : (if r7 = true then (impl_IsVisit.f Big r1 r2 r3 r4 r5).bind fun t187 => some (!t187) else some false) = some false := by
    cases r7 with
    | false => rfl
    | true => rw [if_pos rfl, s4, hend rfl]; rfl
  rw [e1, Option.bind_some]
  try simp only
  rw [q1, Option.bind_some, q2, Option.bind_some]
  try simp only
  rw [e2, Option.bind_some, e3, Option.bind_some]
  try simp only
  rw [q3, Option.bind_some, q4, Option.bind_some]
  try simp only
  rw [e4, Option.bind_some, e5, Option.bind_some]
  try simp only
  rw [q5, Option.bind_some, q6, Option.bind_some]
  try simp only
  rw [q7, Option.bind_some, q8, Option.bind_some]
  try simp only
  rw [q9, Option.bind_some, q10, Option.bind_some]
  simp only [s1, s2, s3, s6, q11, q12, a2, a3, a4, decide_true, Option.bind_some, bne_self_eq_false, Bool.not_true, Bool.false_eq_true, if_false]
  by_cases hg : goodV n d ks l u = true
  rotate_left 1
  · have hg' : goodV n d ks l u = false := by simpa using hg
    have hb6 : b6 = false := by
      have : doDeedP n d ks l u K A B C = noV := if_neg hg
      rw [this] at hb'
      exact (congrArg (fun z : VR => z.2.2.2.2.2) hb').symm
    rw [hg', if_neg (by decide), hb6, if_pos (by decide)]
  have hm := (goodV_m hg).1
  have om := hm.okm
  have ht := goodV_t hg
  have w := walked hm ht
  have hlo := om.lo
  have hhi := om.hi
  have hlr := lastH_range om 64 (h := 0) (by omega)
  have p1 : impl_GainAtLast.f Big n d ks 0 = some (lastH d ks 64 0, nodesL d 0 (lastH d ks 64 0), true) := by
    rw [GainAtLast_eq hk n d ks 0 (by omega) (by omega), if_pos ⟨hm, by omega, by omega⟩]
  have p2 : hasR n d ks l u = (nowH n d ks l, true) := if_pos hg
  have p3 := ahead_good hg
  have hnl := nodesL_len d 0 (lastH d ks 64 0)
  have hnl2 := nodesL_len d (l.getD (l.length - 1) 0) (nowH n d ks l)
  have hlast := last_mem w.pos
  have hln := w.node _ hlast
  have p4 : laws_vWithin.f Big l (nodesL d 0 (lastH d ks 64 0)) = some true := vWithin_true hk (by omega) (by omega) fun z hz => (mem_nodesL om.small (by omega)).2 (w.rch z hz)
  have htrans : ∀ z, Rch d (nowH n d ks l) (l.getD (l.length - 1) 0) z → Rch d (lastH d ks 64 0) 0 z := fun z hz => by
    induction hz with
    | here => exact w.rch _ hlast
    | step _ hgo ih =>
      refine .step ih ?_
      obtain ⟨y, hy, hgo⟩ := List.any_eq_true.1 hgo
      exact List.any_eq_true.2 ⟨y, hy, goes_mono w.sub hgo⟩
  have p5 : laws_vWithin.f Big (nodesL d (l.getD (l.length - 1) 0) (nowH n d ks l)) (nodesL d 0 (lastH d ks 64 0)) = some true := vWithin_true hk (by omega) (by omega) fun z hz =>
    (mem_nodesL om.small (by omega)).2 (htrans z ((mem_nodesL om.small (by omega)).1 hz))
  have p6 : band (nowH n d ks l) (lastH d ks 64 0) = nowH n d ks l := band_le w.rng hlr w.sub
  rw [hg, if_pos rfl, p1, Option.bind_some]
  simp only [p2, p3, p4, p5, p6, Option.bind_some, bne_self_eq_false, Bool.not_true, Bool.false_eq_true, if_false]
  cases b6 with
  | false => rfl
  | true =>
    have hdeed : deedP n d ks l u K A B C = (b1, b2, b3, b4, b5, true) := by rw [← hb']; exact (if_pos hg).symm
    have hbg : goodV b1 b2 b3 b4 b5 = true := deedP_good hdeed rfl
    have hcount : b5 = u + 1 := by
      have := deedP_count (n := n) (d := d) (ks := ks) (l := l) (u := u) (K := K) (A := A) (B := B) (C := C) (by rw [hdeed])
      rw [hdeed] at this; exact this
    have hw : w64 (u + 1) = u + 1 := w64_id (by omega) (by omega)
    subst hcount
    simp only [Bool.not_true, Bool.false_eq_true, if_false, s5, hbg, hw, Option.bind_some, bne_self_eq_false]
    by_cases hK : K = 1
    rotate_left 1
    · have : (K != 1) = true := by rw [bne_iff_ne]; exact hK
      rw [this]; rfl
    subst hK
    have hK1 : ((1 : Int) != 1) = false := by decide
    rw [hK1, if_neg (by decide), Option.bind_some]
    by_cases h1000 : u + 1 = 1000
    · have : (u + 1 == 1000) = true := by rw [beq_iff_eq]; exact h1000
      rw [this, if_pos rfl]
    have h1000' : (u + 1 == 1000) = false := by rw [beq_eq_false_iff_ne]; exact h1000
    rw [h1000', if_neg (by decide)]
    have hBC : B = 0 ∧ C = 0 := by
      unfold deedP at hdeed
      rw [if_pos rfl] at hdeed
      by_cases h' : B = 0 ∧ C = 0
      · exact h'
      · rw [if_neg h'] at hdeed
        exact Bool.noConfusion (congrArg (fun z : VR => z.2.2.2.2.2) hdeed : false = true)
    have hkeep : keepV n d ks (l ++ [A]) (u + 1) = (b1, b2, b3, b4, u + 1, true) := by
      unfold deedP at hdeed
      rw [if_pos rfl, if_pos hBC] at hdeed; exact hdeed
    have hgA : goodV n d ks (l ++ [A]) (u + 1) = true := by
      by_cases h' : goodV n d ks (l ++ [A]) (u + 1) = true
      · exact h'
      · rw [keepV_bad h'] at hkeep
        exact Bool.noConfusion (congrArg (fun z : VR => z.2.2.2.2.2) hkeep : false = true)
    have hkk : (n, d, ks, l ++ [A], u + 1, true) = (b1, b2, b3, b4, u + 1, true) := by
      rw [← hkeep]; exact (if_pos hgA).symm
    simp only [Prod.mk.injEq, and_true] at hkk
    obtain ⟨rfl, rfl, rfl, rfl, _⟩ := hkk
    have hA := taken_snoc hm ht (goodV_t hgA)
    obtain ⟨t1, t2, t3⟩ := hA
    have hla : (l ++ [A]).length ≤ 200 := by simp; omega
    obtain ⟨m1, _⟩ := HasNow_both hk n d ks (l ++ [A]) (u + 1) (by omega) (by omega) (by omega)
    have m2 : hasR n d ks (l ++ [A]) (u + 1) = (nowH n d ks (l ++ [A]), true) := if_pos hgA
    have m3 := impl_DoDeed_eq hk n d ks (l ++ [A]) (u + 1) 2 0 0 0 (by omega) (by omega) (by omega)
    rw [back_eq hg hgA h1000] at m3
    have m4 := vVisit_self hk n d ks l u (by omega) (by omega) (by omega)
    have w2 := walked hm (goodV_t hgA)
    have m5 : band (nowH n d ks (l ++ [A])) (nowH n d ks l) = nowH n d ks l := band_ge w.rng w2.rng (by rw [t3]; exact subB_bor w.rng (keys_getD om.keys _))
    have m6 : laws_vHas.f Big (nodesL d (l.getD (l.length - 1) 0) (nowH n d ks l)) A = some true := vHas_mem hk (by omega) ((mem_nodesL om.small (by omega)).2 (.step .here t2))
    rw [m1, m2, Option.bind_some]
    simp only
    rw [m3, Option.bind_some]
    simp only [m4, m5, m6, beq_self_eq_true, if_true, Option.bind_some]
end Go.Proofs

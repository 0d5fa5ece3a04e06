/- A part of the proof of FnRequired: the plain law. No condition. -/
import Derived.Test.YtebbaacgalipaaaGreatFnRequiredB
import Derived.Test.YtebbaacgalipaaaGreatFnRequiredC
import Derived.Test.YtebbaacgalipaaaGreatFnRequiredE
import Derived.Test.YtebbaacgalipaaaGreatFnRequiredF
import Derived.Test.YtebbaacgalipaaaGreatFnRequiredG
set_option linter.unusedSimpArgs false
namespace Go.Proofs
open Go Go.Ga Go.Ga.Wf
set_option linter.unusedVariables false
set_option linter.unusedSimpArgs false
variable {k : Nat} {n : Int} {d : List Door} {ks l : List Int} {u : Int}
theorem vHas_eq (hk : Big ≤ k) (x : List Int) (y : Int) (hx : x.length ≤ 1048576) : laws_vHas.f k x y = some (x.contains y) := by
 unfold laws_vHas.f
 have := Tot.loop (l := fun q (i : Nat) => laws_vHas.l0 k x y q (i : Int)) (fun i => i ≤ x.length ∧ ∀ j (h : j < x.length), j < i → x[j] ≠ y) (fun i => x.length - i) (fun r => r = if x.contains y then .inr true else .inl ()) (fun q i hI ih => by
  obtain ⟨h1, h2⟩ := hI
  rw [laws_vHas.l0]
  by_cases hi : i < x.length
  ·rw [if_pos (by simpa using hi), rdl_lt hi, Option.bind_some]
   by_cases e : x[i] = y
   ·rw [if_pos (by simpa using e)]
    refine Tot.ret ?_
    rw [if_pos (by rw [List.contains_iff_mem, ← e]; exact List.getElem_mem hi)]
   ·rw [if_neg (by simpa using e), show w64 ((i : Int) + 1) = ((i + 1 : Nat) : Int) from w64_id (by omega) (by omega)]
    refine ih (i + 1) ⟨by omega, fun j h hj => ?_⟩ (by omega)
    rcases Nat.eq_or_lt_of_le (Nat.le_of_lt_succ hj) with rfl | h'
    ·exact e
    ·exact h2 j h h'
  ·rw [if_neg (by simpa using hi)]
   refine Tot.ret ?_
   rw [if_neg]
   rw [List.contains_iff_mem]
   intro hm
   obtain ⟨j, hj, e⟩ := List.getElem_of_mem hm
   exact h2 j hj (by omega) e) k 0 (by unfold Big at hk; omega) ⟨by omega, fun j _ h => by omega⟩
 obtain ⟨r, h1, rfl⟩ := this
 rw [show ((0 : Nat) : Int) = 0 from rfl] at h1
 rw [h1, Option.bind_some]
 by_cases h : x.contains y = true
 ·rw [if_pos h, h]; rfl
 ·rw [if_neg h]
  have : x.contains y = false := by simpa using h
  rw [this]; rfl

variable {k : Nat} {n : Int} {d : List Door} {ks : List Int}
theorem cmpOr_eq (hk : Big ≤ k) (x y : Int) : cmp_Or_int.f k [x, y] = some (if x ≠ 0 then x else y) := by
 unfold cmp_Or_int.f
 obtain ⟨q, rfl⟩ : ∃ q, k = q + 3 := ⟨k - 3, by unfold Big at hk; omega⟩
 have r0 : rdl [x, y] 0 = some x := rdl_lt (l := [x, y]) (i := 0) (by simp)
 have r1 : rdl [x, y] 1 = some y := rdl_lt (l := [x, y]) (i := 1) (by simp)
 have w0 : w64 ((0 : Int) + 1) = 1 := by decide
 have w1 : w64 ((1 : Int) + 1) = 2 := by decide
 have hl : (([x, y] : List Int).length : Int) = 2 := rfl
 rw [cmp_Or_int.l0, hl, if_pos (by decide), r0, Option.bind_some]
 by_cases hx : x = 0
 ·rw [if_neg (by simp [hx]), w0, cmp_Or_int.l0, hl, if_pos (by decide), r1, Option.bind_some]
  by_cases hy : y = 0
  ·rw [if_neg (by simp [hy]), w1, cmp_Or_int.l0, hl, if_neg (by decide), if_neg (by simp [hx]), hy]; rfl
  ·rw [if_pos (by simp [hy]), if_neg (by simp [hx])]; rfl
 ·rw [if_pos (by simp [hx]), if_pos hx]; rfl
def ocP (k : Nat) (z : Int) : Int := (bits_OnesCount.f k z).getD 0
theorem oc_eq (z : Int) : bits_OnesCount.f k z = some (ocP k z) := by
 unfold ocP bits_OnesCount.f bits_OnesCount64.f; rfl
def cfP (k : Nat) (x y : Int) : Int := if cmpI (ocP k (IntKind.u64.wrap x)) (ocP k (IntKind.u64.wrap y)) ≠ 0 then cmpI (ocP k (IntKind.u64.wrap x)) (ocP k (IntKind.u64.wrap y)) else cmpI x y
theorem compareSets_eq (hk : Big ≤ k) (x y : Int) : impl_compareSets.f k x y = some (cfP k x y) := by
 unfold impl_compareSets.f
 rw [oc_eq, Option.bind_some, oc_eq, Option.bind_some, compare_eq, Option.bind_some, compare_eq, Option.bind_some, cmpOr_eq hk, Option.bind_some]
 rfl
theorem cf_lt (x y : Int) : Go.Proofs.ltOf (cfP k) x y = decide (ocP k (IntKind.u64.wrap x) < ocP k (IntKind.u64.wrap y) ∨ ocP k (IntKind.u64.wrap x) = ocP k (IntKind.u64.wrap y) ∧ x < y) := by
 unfold Go.Proofs.ltOf cfP cmpI
 generalize ocP k (IntKind.u64.wrap x) = a
 generalize ocP k (IntKind.u64.wrap y) = b
 refine decide_eq_decide.2 ?_
 by_cases h1 : a < b
 ·simp [h1]
 ·by_cases h2 : a > b
  ·have h3 : ¬ a = b := by omega
   simp [h1, h2, h3]
  ·have h3 : a = b := by omega
   subst h3
   by_cases h4 : x < y
   ·simp [h4]
   ·by_cases h5 : x > y <;> simp [h4, h5]
theorem cf_whole : Whole (cfP k) := by
 refine ⟨⟨fun x => ?_, fun x y z => ?_, fun x y z => ?_⟩, fun x y h1 h2 => ?_⟩
 ·rw [cf_lt, decide_eq_false_iff_not]; omega
 ·rw [cf_lt, cf_lt, cf_lt, decide_eq_true_eq, decide_eq_true_eq, decide_eq_true_eq]; omega
 ·rw [cf_lt, cf_lt, cf_lt, decide_eq_false_iff_not, decide_eq_false_iff_not, decide_eq_false_iff_not]; omega
 ·rw [cf_lt, decide_eq_false_iff_not] at h1 h2; omega
theorem sortSets (hk : Big ≤ k) (l : List Int) (hl : l.length ≤ 1048576) : ∃ r, slices_SortFunc_int_int.f k l (fun z0 z1 => impl_compareSets.f k z0 z1) = some r ∧ r.length = l.length ∧ ∀ x, x ∈ r ↔ x ∈ l := by
 unfold slices_SortFunc_int_int.f
 have h : l.length < 4611686018427387904 ∧ ∃ cf : Int → Int → Int, Whole cf ∧ ∀ x y : Int, impl_compareSets.f k x y = some (cf x y) := ⟨by omega, cfP k, cf_whole, fun x y => compareSets_eq hk x y⟩
 rw [dif_pos h]
 exact ⟨_, rfl, List.length_mergeSort _, fun x => List.mem_mergeSort⟩
theorem containsF_eq (hk : Big ≤ k) (x : List Int) (hx : x.length ≤ 1048576) (f : Int → Option Bool) (g : Int → Bool) (h : ∀ z ∈ x, f z = some (g z)) : slices_ContainsFunc_int_int.f k x f = some (x.any g) := by
 unfold slices_ContainsFunc_int_int.f slices_IndexFunc_int_int.f
 have := Tot.loop (l := fun q (i : Nat) => slices_IndexFunc_int_int.l0 k x f q (i : Int)) (fun i => i ≤ x.length ∧ ∀ j (h : j < x.length), j < i → g x[j] = false) (fun i => x.length - i) (fun r => (r = .inl () ∧ x.any g = false) ∨ ∃ i : Nat, r = .inr (i : Int) ∧ x.any g = true) (fun q i hI ih => by
  obtain ⟨h1, h2⟩ := hI
  rw [slices_IndexFunc_int_int.l0]
  by_cases hi : i < x.length
  ·rw [if_pos (by simpa using hi), rdl_lt hi, Option.bind_some, h _ (List.getElem_mem hi), Option.bind_some]
   by_cases e : g x[i] = true
   ·rw [if_pos e]
    exact Tot.ret (.inr ⟨i, rfl, List.any_eq_true.2 ⟨x[i], List.getElem_mem hi, e⟩⟩)
   ·rw [if_neg e, show w64 ((i : Int) + 1) = ((i + 1 : Nat) : Int) from w64_id (by omega) (by omega)]
    refine ih (i + 1) ⟨by omega, fun j h hj => ?_⟩ (by omega)
    rcases Nat.eq_or_lt_of_le (Nat.le_of_lt_succ hj) with rfl | h'
    ·simpa using e
    ·exact h2 j h h'
  ·rw [if_neg (by simpa using hi)]
   refine Tot.ret (.inl ⟨rfl, ?_⟩)
   rw [List.any_eq_false]
   intro y hy
   obtain ⟨j, hj, rfl⟩ := List.getElem_of_mem hy
   rw [h2 j hj (by omega)]; decide) k 0 (by unfold Big at hk; omega) ⟨by omega, fun j _ h => by omega⟩
 obtain ⟨r, h1, h2⟩ := this
 rw [show ((0 : Nat) : Int) = 0 from rfl] at h1
 rw [h1, Option.bind_some]
 rcases h2 with ⟨rfl, h2⟩ | ⟨i, rfl, h2⟩
 ·rw [h2]; rfl
 ·rw [h2]
  simp only [Lr, Option.bind_some]
  rw [decide_eq_true (by omega)]
theorem clutter_ok (hk : Big ≤ k) (l : List Int) (hl : l.length ≤ 1000) (hr : ∀ x ∈ l, 0 ≤ x ∧ x ≤ 63) : Tot (impl_clutter.f k l) (fun r => (∀ o ∈ r, o ∈ l) ∧ (∀ s ∈ l, ∃ o ∈ r, subB o.toNat s.toNat = true) ∧ r.length ≤ 1000) := by
 unfold impl_clutter.f
 rw [clone_eq l (by omega), Option.bind_some]
 obtain ⟨t, e1, e2, e3⟩ := sortSets hk l (by omega)
 rw [e1, Option.bind_some]
 have L := Tot.loop (l := fun q (s : List Int × Nat) => impl_clutter.l0 k t q s.1 (s.2 : Int)) (fun s => s.2 ≤ t.length ∧ s.1.length ≤ s.2 ∧ (∀ o ∈ s.1, o ∈ t) ∧ ∀ j (h : j < t.length), j < s.2 → ∃ o ∈ s.1, subB o.toNat t[j].toNat = true) (fun s => t.length - s.2)
  (fun r => (∀ o ∈ r, o ∈ t) ∧ (∀ s ∈ t, ∃ o ∈ r, subB o.toNat s.toNat = true) ∧ r.length ≤ t.length) (fun q s hI ih => by
  obtain ⟨x, i⟩ := s
  obtain ⟨h1, h2, h3, h4⟩ := hI
  simp only at h1 h2 h3 h4 ih ⊢
  rw [impl_clutter.l0]
  by_cases hi : i < t.length
  ·rw [if_pos (by simpa using hi), rdl_lt hi, Option.bind_some]
   have ht := hr _ ((e3 _).1 (List.getElem_mem hi))
   rw [containsF_eq hk x (by omega) _ (fun z => subB z.toNat t[i].toNat) (fun z hz => by
    have hz' := hr _ ((e3 _).1 (h3 z hz))
    unfold impl_clutter_1.f
    rw [has_eq _ _ hz' ht]; rfl), Option.bind_some]
   by_cases ha : x.any (fun z => subB z.toNat t[i].toNat) = true
   ·rw [ha, if_neg (by decide), Option.bind_some, show w64 ((i : Int) + 1) = ((i + 1 : Nat) : Int) from w64_id (by omega) (by omega)]
    refine ih (x, i + 1) ⟨by simp only; omega, by simp only; omega, h3, fun j hj hji => ?_⟩ (by simp only; omega)
    rcases Nat.eq_or_lt_of_le (Nat.le_of_lt_succ hji) with rfl | h'
    ·obtain ⟨o, ho, hs⟩ := List.any_eq_true.1 ha
     exact ⟨o, ho, hs⟩
    ·exact h4 j hj h'
   ·have ha' : x.any (fun z => subB z.toNat t[i].toNat) = false := by simpa using ha
    rw [ha', if_pos (by decide), if_pos (by simp; omega), Option.bind_some, show w64 ((i : Int) + 1) = ((i + 1 : Nat) : Int) from w64_id (by omega) (by omega)]
    refine ih (x ++ [t[i]], i + 1) ⟨by simp only; omega, by simp; omega, fun o ho => ?_, fun j hj hji => ?_⟩ (by simp only; omega)
    ·rcases List.mem_append.1 ho with h' | h'
     ·exact h3 o h'
     ·rw [List.mem_singleton.1 h']; exact List.getElem_mem hi
    ·rcases Nat.eq_or_lt_of_le (Nat.le_of_lt_succ hji) with rfl | h'
     ·exact ⟨t[j], by simp, subB_refl _⟩
     ·obtain ⟨o, ho, hs⟩ := h4 j hj h'
      exact ⟨o, List.mem_append_left _ ho, hs⟩
  ·rw [if_neg (by simpa using hi)]
   refine Tot.ret ⟨h3, fun s hs => ?_, by omega⟩
   obtain ⟨j, hj, rfl⟩ := List.getElem_of_mem hs
   exact h4 j hj (by omega)) k ([], 0) (by simp only; unfold Big at hk; omega) ⟨by simp, by simp, fun o ho => by simp at ho, fun j _ h => by simp at h⟩
 refine Tot.bind L fun r hr' => Tot.ret ⟨fun o ho => (e3 o).1 (hr'.1 o ho), fun s hs => hr'.2.1 s ((e3 s).2 hs), by omega⟩
theorem those_ok (hk : Big ≤ k) (f : Int → Option Bool) (g : Nat → Bool) (h : ∀ i : Nat, i < 64 → f (i : Int) = some (g i)) : Tot (impl_those.f k f) (fun r => (∀ s, s ∈ r ↔ ∃ i : Nat, i < 64 ∧ s = (i : Int) ∧ g i = true) ∧ r.length ≤ 64) := by
 unfold impl_those.f
 have L := Tot.loop (l := fun q (s : List Int × Nat) => impl_those.l0 k f q s.1 (s.2 : Int)) (fun s => s.2 ≤ 64 ∧ s.1.length ≤ s.2 ∧ ∀ x, x ∈ s.1 ↔ ∃ i : Nat, i < s.2 ∧ x = (i : Int) ∧ g i = true) (fun s => 64 - s.2)
  (fun r => (∀ s, s ∈ r ↔ ∃ i : Nat, i < 64 ∧ s = (i : Int) ∧ g i = true) ∧ r.length ≤ 64) (fun q s hI ih => by
  obtain ⟨x, i⟩ := s
  obtain ⟨h1, h2, h3⟩ := hI
  simp only at h1 h2 h3 ih ⊢
  rw [impl_those.l0]
  by_cases hi : i < 64
  ·rw [if_pos (by rw [decide_eq_true_iff]; omega), h i hi, Option.bind_some, show w64 ((i : Int) + 1) = ((i + 1 : Nat) : Int) from w64_id (by omega) (by omega)]
   by_cases hg : g i = true
   ·rw [if_pos hg, if_pos (by simp; omega), Option.bind_some]
    refine ih (x ++ [(i : Int)], i + 1) ⟨by simp only; omega, by simp; omega, fun y => ?_⟩ (by simp only; omega)
    rw [List.mem_append, List.mem_singleton, h3]
    constructor
    ·rintro (⟨j, hj, e, hg'⟩ | rfl)
     ·exact ⟨j, by omega, e, hg'⟩
     ·exact ⟨i, by simp only; omega, rfl, hg⟩
    ·rintro ⟨j, hj, e, hg'⟩
     simp only at hj
     rcases Nat.eq_or_lt_of_le (Nat.le_of_lt_succ hj) with h' | h'
     ·right; rw [e, h']
     ·exact .inl ⟨j, h', e, hg'⟩
   ·rw [if_neg hg, Option.bind_some]
    refine ih (x, i + 1) ⟨by simp only; omega, by simp only; omega, fun y => ?_⟩ (by simp only; omega)
    rw [h3]
    constructor
    ·rintro ⟨j, hj, e, hg'⟩
     exact ⟨j, by simp only; omega, e, hg'⟩
    ·rintro ⟨j, hj, e, hg'⟩
     simp only at hj
     rcases Nat.eq_or_lt_of_le (Nat.le_of_lt_succ hj) with h' | h'
     ·rw [h'] at hg'; exact absurd hg' hg
     ·exact ⟨j, h', e, hg'⟩
  ·rw [if_neg (by rw [decide_eq_true_iff]; omega)]
   have : i = 64 := by omega
   subst this
   exact Tot.ret ⟨h3, by omega⟩) k ([], 0) (by simp only; unfold Big at hk; omega) ⟨by simp, by simp, fun y => ⟨fun h => by simp at h, fun ⟨j, hj, _⟩ => by simp at hj⟩⟩
 exact Tot.bind L fun r hr => Tot.ret hr

def keysW (ks : List Int) (s : Int) : List Int := ks.map fun x => band x s
theorem band_63 {a b : Int} (ha : 0 ≤ a ∧ a ≤ 63) (hb : 0 ≤ b ∧ b ≤ 63) : 0 ≤ band a b ∧ band a b ≤ 63 := by
 obtain ⟨x, rfl⟩ := Int.eq_ofNat_of_zero_le ha.1
 obtain ⟨y, rfl⟩ := Int.eq_ofNat_of_zero_le hb.1
 have h1 : x &&& y ≤ x := Nat.and_le_left
 have e : band ((x : Nat) : Int) ((y : Nat) : Int) = ((x &&& y : Nat) : Int) := band_nat (by omega) (by omega)
 show 0 ≤ band ((x : Nat) : Int) ((y : Nat) : Int) ∧ band ((x : Nat) : Int) ((y : Nat) : Int) ≤ 63
 rw [e]; omega
theorem setWins_eq (hk : Big ≤ k) (hm : IsMaze n d ks) {s : Int} (hs : 0 ≤ s ∧ s ≤ 63) : impl_setWins.f k n d ks s = some (winsB n d (keysW ks s) 0) := by
 have om := hm.okm
 have hlen := om.len
 have hhi := om.hi
 have h30 := hm.2.2.1
 unfold impl_setWins.f
 simp only [own_eq n d ks (show d.length ≤ 1048576 by omega) (show ks.length ≤ 1048576 by omega), Option.bind_some]
 rw [loop_map (l := fun q st i => impl_setWins.l0 k s ks q i st) ks (fun x => band x s) some (fun q i st hi h1 h2 => by
  have hlt : ((i : Int) < (ks.length : Int)) := by omega
  have hw : w64 ((i : Int) + 1) = ((i + 1 : Nat) : Int) := w64_id (by omega) (by omega)
  show impl_setWins.l0 k s ks (q + 1) (i : Int) st = _
  rw [impl_setWins.l0]
  simp only [hlt, decide_true, if_true, rdl_nat, h2, Option.bind_some, hw, Int.toNat_natCast]) (fun q st h1 => by
  show impl_setWins.l0 k s ks (q + 1) (ks.length : Int) st = _
  rw [impl_setWins.l0]; simp) (by unfold Big at hk; omega), Option.bind_some]
 rw [show (ks.map fun x => band x s) = keysW ks s from rfl, canWin_eq hk (show Okm n d (keysW ks s) from om.mapKeys (fun x => band x s) (fun x hx => band_63 hx hs)) (by omega)]
 rfl
theorem LeastWins_ok (hk : Big ≤ k) (hm : IsMaze n d ks) : Tot (impl_LeastWins.f k n d ks) (fun r => r.2 = true ∧ r.1.length ≤ 1000 ∧ (∀ o ∈ r.1, (0 ≤ o ∧ o ≤ 63) ∧ winsB n d (keysW ks o) 0 = true) ∧ ∀ s : Int, 0 ≤ s ∧ s ≤ 63 → winsB n d (keysW ks s) 0 = true → ∃ o ∈ r.1, subB o.toNat s.toNat = true) := by
 have h30 := hm.2.2.1
 have hlen := hm.okm.len
 have hhi := hm.okm.hi
 unfold impl_LeastWins.f impl_winning.f
 rw [IsMaze_eq hk n d ks (by omega) (by omega), decide_eq_true hm, Option.bind_some, if_neg (by decide)]
 refine Tot.bind (P := fun r => (∀ s, s ∈ r ↔ ∃ i : Nat, i < 64 ∧ s = (i : Int) ∧ winsB n d (keysW ks (i : Int)) 0 = true) ∧ r.length ≤ 64) ?_ ?_
 ·refine Tot.bind (those_ok hk _ (fun i => winsB n d (keysW ks (i : Int)) 0) (fun i hi => ?_)) fun r hr => Tot.ret hr
  unfold impl_winning_1.f
  rw [setWins_eq hk hm (by omega)]; rfl
 ·intro l hl
  refine Tot.bind (clutter_ok hk l (by omega) (fun x hx => ?_)) fun r hr => Tot.ret ⟨rfl, hr.2.2, fun o ho => ?_, fun s hs hw => ?_⟩
  ·obtain ⟨i, hi, rfl, _⟩ := (hl.1 x).1 hx
   omega
  ·obtain ⟨i, hi, rfl, hw⟩ := (hl.1 o).1 (hr.1 o ho)
   exact ⟨by omega, hw⟩
  ·obtain ⟨i, rfl⟩ := Int.eq_ofNat_of_zero_le hs.1
   exact hr.2.1 _ ((hl.1 _).2 ⟨i, by omega, rfl, hw⟩)

variable {k : Nat} {n : Int} {d : List Door} {ks : List Int}
def keysN (ks : List Int) (N : Nat) : Int := gain ks (upto N 12) 0
theorem keysN_rng (om : Okm n d ks) (N : Nat) : 0 ≤ keysN ks N ∧ keysN ks N ≤ 63 := (gain_le om.keys _ (by omega)).1
theorem upto_in {N : Nat} (om : Okm n d ks) (hN : N < 2 ^ n.toNat) {z : Int} (hz : z ∈ upto N 12) : 0 ≤ z ∧ z < n := by
 obtain ⟨t, h1, h2, rfl⟩ := mem_upto.1 hz
 have h3 : t < n.toNat := by
  rcases Nat.lt_or_ge t n.toNat with h | h
  ·exact h
  ·have := Nat.testBit_lt_two_pow (Nat.lt_of_lt_of_le hN (Nat.pow_le_pow_right (by omega) h))
   rw [this] at h2; cases h2
 omega
theorem small12 (om : Okm n d ks) {N : Nat} (hN : N < 2 ^ n.toNat) : N < 4096 := by
 have := om.hi
 exact Nat.lt_of_lt_of_le hN (Nat.pow_le_pow_right (n := 2) (by omega) (show n.toNat ≤ 12 by omega))
theorem upto_len12 (N : Nat) : (upto N 12).length ≤ 12 := by
 unfold upto
 rw [List.length_map]
 exact Nat.le_trans (List.length_filter_le _ _) (by simp)
theorem keysOf_val (hk : Big ≤ k) (om : Okm n d ks) {N : Nat} (hN : N < 2 ^ n.toNat) : impl_keysOf.f k n d ks (N : Int) = some (keysN ks N) := by
 have hlen := om.len
 have hhi := om.hi
 have hul := upto_len12 N
 unfold impl_keysOf.f
 rw [members_eq hk N (small12 om hN), Option.bind_some]
 have := (loop_fold (l := fun q s x => impl_keysOf.l0 k ks (upto N 12) q s x) (upto N 12) (fun s x => bor s (ks.getD x.toNat 0)) some (fun _ => True) (fun q i s hi _ => by
  refine ⟨?_, trivial⟩
  have hz := upto_in om hN (List.getElem_mem hi)
  have hlt : ((i : Int) < ((upto N 12).length : Int)) := by omega
  have hw : w64 ((i : Int) + 1) = ((i + 1 : Nat) : Int) := w64_id (by omega) (by omega)
  rw [impl_keysOf.l0]
  simp only [hlt, decide_true, if_true, rdl_lt hi, Option.bind_some, rdl_getDI hz.1 (show ((upto N 12)[i]).toNat < ks.length by omega) 0, hw]) (fun q s _ => by
  show impl_keysOf.l0 k ks (upto N 12) (q + 1) s ((upto N 12).length : Int) = _
  rw [impl_keysOf.l0]; simp) (k := k) (by unfold Big at hk; omega) (s := 0) trivial).1
 rw [this]; rfl
theorem nexts_ok (hk : Big ≤ k) (hm : IsMaze n d ks) {N : Nat} (hN : N < 2 ^ n.toNat) : Tot (impl_nexts.f k n d ks (N : Int)) (fun r => ∃ R : Nat, r = (R : Int) ∧ R < 4096 ∧ ∀ t, R.testBit t = true ↔ (∃ z ∈ upto N 12, d.any (goes z (t : Int) (keysN ks N)) = true) ∧ N.testBit t = false) := by
 have om := hm.okm
 have h30 := hm.2.2.1
 have hul := upto_len12 N
 unfold impl_nexts.f
 rw [keysOf_val hk om hN, Option.bind_some, members_eq hk N (small12 om hN), Option.bind_some]
 have L := Tot.loop (l := fun q (s : Nat × Nat) => impl_nexts.l0 k n d ks (keysN ks N) (upto N 12) q (s.1 : Int) (s.2 : Int)) (fun s => s.2 ≤ (upto N 12).length ∧ s.1 < 4096 ∧ ∀ t, s.1.testBit t = true ↔ ∃ z ∈ (upto N 12).take s.2, d.any (goes z (t : Int) (keysN ks N)) = true) (fun s => (upto N 12).length - s.2)
  (fun r => ∃ R : Nat, r = (R : Int) ∧ R < 4096 ∧ ∀ t, R.testBit t = true ↔ ∃ z ∈ upto N 12, d.any (goes z (t : Int) (keysN ks N)) = true) (fun q s hI ih => by
  obtain ⟨R, i⟩ := s
  obtain ⟨h1, h2, h3⟩ := hI
  simp only at h1 h2 h3 ih ⊢
  rw [impl_nexts.l0]
  by_cases hi : i < (upto N 12).length
  ·obtain ⟨m, e1, e2, e3⟩ := steps_eq hk n d ks (upto N 12)[i] (keysN ks N) (by omega) om.small (keysN_rng om N)
   rw [if_pos (by simpa using hi), rdl_lt hi, Option.bind_some, e1, Option.bind_some, bor_nat (by omega) (by omega), show w64 ((i : Int) + 1) = ((i + 1 : Nat) : Int) from w64_id (by omega) (by omega)]
   refine ih (R ||| m, i + 1) ⟨by simp only; omega, Nat.or_lt_two_pow (n := 12) h2 e2, fun t => ?_⟩ (by simp only; omega)
   simp only
   rw [Nat.testBit_or, Bool.or_eq_true, h3, e3, List.take_succ_eq_append_getElem hi]
   constructor
   ·rintro (⟨z, hz, hg⟩ | hg)
    ·exact ⟨z, List.mem_append_left _ hz, hg⟩
    ·exact ⟨_, List.mem_append_right _ (List.mem_singleton.2 rfl), hg⟩
   ·rintro ⟨z, hz, hg⟩
    rcases List.mem_append.1 hz with h | h
    ·exact .inl ⟨z, h, hg⟩
    ·rw [List.mem_singleton.1 h] at hg; exact .inr hg
  ·rw [if_neg (by simpa using hi)]
   refine Tot.ret ⟨R, rfl, h2, fun t => ?_⟩
   rw [h3, List.take_of_length_le (by omega)]) k (0, 0) (by simp only; unfold Big at hk; omega) ⟨by simp, by simp, fun t => by simp⟩
 refine Tot.bind L ?_
 rintro r ⟨R, rfl, h1, h2⟩
 rw [bclr_nat (by omega)]
 refine Tot.ret ⟨_, rfl, Nat.xor_lt_two_pow (n := 12) h1 (Nat.lt_of_le_of_lt Nat.and_le_left h1), fun t => ?_⟩
 rw [Nat.testBit_xor, Nat.testBit_and, ← h2]
 cases R.testBit t <;> cases N.testBit t <;> simp
structure Grown (d : List Door) (ks : List Int) (A R : Nat) : Prop where
 zero : R.testBit 0 = true
 sub : ∀ t, R.testBit t = true → A.testBit t = true
 all : ∀ Q : Nat → Prop, Q 0 → (∀ X : Nat, (∀ t, X.testBit t = true → Q t ∧ A.testBit t = true) → ∀ z ∈ upto X 12, ∀ t : Nat, d.any (goes z (t : Int) (keysN ks X)) = true → A.testBit t = true → Q t) → ∀ t, R.testBit t = true → Q t
theorem largest_ok (hk : Big ≤ k) (hm : IsMaze n d ks) {A : Nat} (hA : A < 2 ^ n.toNat) (h0 : A.testBit 0 = true) :
    Tot (impl_largest.f k n d ks (A : Int)) (fun r => ∃ R : Nat, r = (R : Int) ∧ R < 2 ^ n.toNat ∧ Grown d ks A R ∧ ∀ z ∈ upto R 12, ∀ t : Nat, d.any (goes z (t : Int) (keysN ks R)) = true → A.testBit t = true → R.testBit t = true) := by
  have om := hm.okm
  have hA' := small12 om hA
  have hlo := om.lo
  have hb1 : band (A : Int) 1 = ((1 : Nat) : Int) := by
    rw [show (1 : Int) = ((1 : Nat) : Int) from rfl, band_nat (by omega) (by omega)]
    congr 1
    rw [Nat.and_one_is_mod]
    have := Nat.testBit_zero A
    rw [h0] at this
    simpa using this
  have h1n : (1 : Nat) < 2 ^ n.toNat := Nat.one_lt_two_pow (by omega)
  unfold impl_largest.f
  rw [hb1]
  obtain ⟨r, e1, R1, rfl, h2, h3⟩ := nexts_ok hk hm h1n
  rw [e1, Option.bind_some, band_nat (by omega) (by omega)]
  have L := Tot.loop (l := fun q (s : Nat × Nat) => impl_largest.l0 k n d ks (A : Int) q (s.1 : Int) (s.2 : Int)) (fun s => s.1 < 2 ^ n.toNat ∧ Grown d ks A s.1 ∧ s.2 < 4096 ∧ ∀ t, s.2.testBit t = true ↔ ((∃ z ∈ upto s.1 12, d.any (goes z (t : Int) (keysN ks s.1)) = true) ∧ s.1.testBit t = false) ∧ A.testBit t = true) (fun s => 4096 - s.1)
    (fun r => ∃ R : Nat, r = (R : Int) ∧ R < 2 ^ n.toNat ∧ Grown d ks A R ∧ ∀ z ∈ upto R 12, ∀ t : Nat, d.any (goes z (t : Int) (keysN ks R)) = true → A.testBit t = true → R.testBit t = true) (fun q s hI ih => by
    obtain ⟨R, S⟩ := s
    obtain ⟨g1, g2, g3, g4⟩ := hI
    simp only at g1 g2 g3 g4 ih ⊢
    have g1' := small12 om g1
    rw [impl_largest.l0]
    by_cases hS : S = 0
    · subst hS
      rw [if_neg (by simp)]
      refine Tot.ret ⟨R, rfl, g1, g2, fun z hz t hg hAt => ?_⟩
      cases hR : R.testBit t with
      | true => rfl
      | false =>
        have := (g4 t).2 ⟨⟨⟨z, hz, hg⟩, hR⟩, hAt⟩
        simp at this
    · rw [if_pos (by simp; omega), bor_nat (by omega) (by omega)]
      have hSA : ∀ t, S.testBit t = true → A.testBit t = true := fun t ht => ((g4 t).1 ht).2
      have hS2 : S < 2 ^ n.toNat := by
        refine Nat.lt_of_le_of_lt (m := A) ?_ hA
        have e : S &&& A = S := Nat.eq_of_testBit_eq fun t => by
          rw [Nat.testBit_and]
          cases hs : S.testBit t with
          | false => rfl
          | true => rw [hSA t hs]; rfl
        rw [← e]; exact Nat.and_le_right
      have hRS : R ||| S < 2 ^ n.toNat := Nat.or_lt_two_pow g1 hS2
      obtain ⟨r, e1, R2, rfl, h2, h3⟩ := nexts_ok hk hm hRS
      rw [e1, Option.bind_some, band_nat (by omega) (by omega)]
      have hlt : R < R ||| S := by
        have h1 : R ≤ R ||| S := Nat.left_le_or
        rcases Nat.lt_or_eq_of_le h1 with h | h
        · exact h
        · exfalso
          apply hS
          refine Nat.eq_of_testBit_eq fun t => ?_
          rw [Nat.zero_testBit]
          cases hs : S.testBit t with
          | false => rfl
          | true =>
            have := ((g4 t).1 hs).1.2
            have h5 : (R ||| S).testBit t = true := by rw [Nat.testBit_or, hs, Bool.or_true]
            rw [← h, this] at h5; cases h5
      refine ih (R ||| S, R2 &&& A) ⟨hRS, ⟨?_, fun t ht => ?_, fun Q hQ hc t ht => ?_⟩, Nat.lt_of_le_of_lt Nat.and_le_left h2, fun t => ?_⟩ (by simp only; omega)
      · rw [Nat.testBit_or, g2.zero]; rfl
      · rw [Nat.testBit_or, Bool.or_eq_true] at ht
        exact ht.elim (g2.sub t) (hSA t)
      · rw [Nat.testBit_or, Bool.or_eq_true] at ht
        rcases ht with ht | ht
        · exact g2.all Q hQ hc t ht
        · obtain ⟨⟨⟨z, hz, hg⟩, _⟩, hAt⟩ := (g4 t).1 ht
          exact hc R (fun t' ht' => ⟨g2.all Q hQ hc t' ht', g2.sub t' ht'⟩) z hz t hg hAt
      · simp only
        rw [Nat.testBit_and, Bool.and_eq_true, h3]) k (1, R1 &&& A) (by simp only; unfold Big at hk; omega) ⟨h1n, ⟨(show (1 : Nat).testBit 0 = true by decide), fun t ht => ?_, fun Q hQ _ t ht => ?_⟩, Nat.lt_of_le_of_lt Nat.and_le_left h2, fun t => ?_⟩
  · exact Tot.bind L fun r hr => Tot.ret hr
  · have : t = 0 := by
      rw [Nat.testBit_one_eq_true_iff_self_eq_zero] at ht; exact ht
    rw [this]; exact h0
  · have : t = 0 := by
      rw [Nat.testBit_one_eq_true_iff_self_eq_zero] at ht; exact ht
    rw [this]; exact hQ
  · simp only
    rw [Nat.testBit_and, Bool.and_eq_true, h3]

variable {k : Nat} {n : Int} {d : List Door} {ks : List Int}
theorem noNode_any {x a b h : Int} : (noNode d x).any (goes a b h) = true ↔ d.any (goes a b h) = true ∧ a ≠ x ∧ b ≠ x := by
 unfold noNode
 rw [List.any_eq_true, List.any_eq_true]
 constructor
 ·rintro ⟨t, ht, hg⟩
  obtain ⟨h1, h2⟩ := List.mem_filter.1 ht
  refine ⟨⟨t, h1, hg⟩, ?_⟩
  unfold keepB at h2
  unfold goes at hg
  simp only [Bool.not_eq_true', Bool.or_eq_false_iff, beq_eq_false_iff_ne, Bool.and_eq_true, Bool.or_eq_true, decide_eq_true_eq] at h2 hg
  obtain ⟨h3, h4⟩ := h2
  rcases hg.1 with ⟨e1, e2⟩ | ⟨e1, e2⟩
  ·rw [e1] at h3; rw [e2] at h4; exact ⟨h3, h4⟩
  ·rw [e1] at h4; rw [e2] at h3; exact ⟨h4, h3⟩
 ·rintro ⟨⟨t, ht, hg⟩, ha, hb⟩
  refine ⟨t, List.mem_filter.2 ⟨ht, ?_⟩, hg⟩
  unfold keepB
  unfold goes at hg
  simp only [Bool.not_eq_true', Bool.or_eq_false_iff, beq_eq_false_iff_ne, Bool.and_eq_true, Bool.or_eq_true, decide_eq_true_eq] at hg ⊢
  rcases hg.1 with ⟨e1, e2⟩ | ⟨e1, e2⟩
  ·rw [e1, e2]; exact ⟨ha, hb⟩
  ·rw [e1, e2]; exact ⟨hb, ha⟩
theorem Rch.noNode_sub {x h a z : Int} (hr : Rch (noNode d x) h a z) : Rch d h a z := by
  induction hr with
  | here => exact .here
  | step _ hg ih => exact .step ih (noNode_any.1 hg).1
theorem Rch.avoid {x h z : Int} (hx : ¬ Rch d h 0 x) (hr : Rch d h 0 z) : Rch (noNode d x) h 0 z := by
  induction hr with
  | here => exact .here
  | @step y z hr hg ih =>
    refine .step ih (noNode_any.2 ⟨hg, fun e => hx (e ▸ hr), fun e => hx (e ▸ .step hr hg)⟩)
theorem need_reached (om : Okm n d ks) {x : Int} (h1 : winsB n d ks 0 = true) (h2 : winsB n (noNode d x) ks 0 = false) : Rch d (lastH d ks 64 0) 0 x := by
 by_cases hx : Rch d (lastH d ks 64 0) 0 x
 ·exact hx
 exfalso
 have om' := om.noNode x
 have hc := lastH_closed om (h := 0) (by omega)
 have hc' := lastH_closed om' (h := 0) (by omega)
 have hs : subB (lastH (noNode d x) ks 64 0).toNat (lastH d ks 64 0).toNat = true :=
  lastH_least om' (fun z hz => hc z hz.noNode_sub) 64 (by omega) (subB_iff.2 fun t ht => by simp at ht)
 have hx' : ¬ Rch d (lastH (noNode d x) ks 64 0) 0 x := fun h => hx (h.mono hs)
 have hs' : subB (lastH d ks 64 0).toNat (lastH (noNode d x) ks 64 0).toNat = true :=
  lastH_least om (fun z hz => hc' z (hz.avoid hx')) 64 (by omega) (subB_iff.2 fun t ht => by simp at ht)
 have hw := (winsB_iff om 0).1 h1
 have : winsB n (noNode d x) ks 0 = true := (winsB_iff om' 0).2 (((hw.mono hs').avoid hx'))
 rw [this] at h2; cases h2
theorem gain_bits {H : Nat} (om : Okm n d ks) {X : Nat} (h : ∀ z ∈ upto X 12, subB (ks.getD z.toNat 0).toNat H = true) : subB (keysN ks X).toNat H = true :=
 gain_within om.keys _ (by omega) (subB_iff.2 fun t ht => by simp at ht) h
theorem entered_all (hm : IsMaze n d ks) {R : Nat} (hR : R < 2 ^ n.toNat) (hg : Grown d ks (2 ^ n.toNat - 1) R) (hc : ∀ z ∈ upto R 12, ∀ t : Nat, d.any (goes z (t : Int) (keysN ks R)) = true → (2 ^ n.toNat - 1).testBit t = true → R.testBit t = true) {z : Int} (hz : Rch d (lastH d ks 64 0) 0 z) : ∃ t : Nat, z = (t : Int) ∧ R.testBit t = true := by
  have om := hm.okm
  have hhi := om.hi
  have hlo := om.lo
  have key : ∀ z, Rch d (keysN ks R) 0 z → ∃ t : Nat, z = (t : Int) ∧ R.testBit t = true := fun z hz => by
    induction hz with
    | here => exact ⟨0, rfl, hg.zero⟩
    | @step y z hr hgo ih =>
      obtain ⟨t, rfl, ht⟩ := ih
      have hz := nodesL_lt om (x := 0) (by omega) ((mem_nodesL om.small (by omega)).2 (Rch.step hr hgo))
      obtain ⟨u, rfl⟩ := Int.eq_ofNat_of_zero_le hz.1
      refine ⟨u, rfl, hc (t : Int) (mem_upto.2 ⟨t, ?_, ht, rfl⟩) u hgo ?_⟩
      · rcases Nat.lt_or_ge t 12 with h | h
        · exact h
        · have := Nat.testBit_lt_two_pow (Nat.lt_of_lt_of_le (small12 om hR) (Nat.pow_le_pow_right (n := 2) (by omega) (show 12 ≤ t from h)))
          rw [this] at ht; cases ht
      · rw [Nat.testBit_two_pow_sub_one, decide_eq_true_iff]; omega
  refine key z (hz.mono ?_)
  refine lastH_least om (fun y hy => ?_) 64 (by omega) (subB_iff.2 fun t ht => by simp at ht)
  obtain ⟨t, rfl, ht⟩ := key y hy
  have h12 : t < 12 := by
    rcases Nat.lt_or_ge t 12 with h | h
    · exact h
    · have := Nat.testBit_lt_two_pow (Nat.lt_of_lt_of_le (small12 om hR) (Nat.pow_le_pow_right (n := 2) (by omega) (show 12 ≤ t from h)))
      rw [this] at ht; cases ht
  exact gain_has om.keys (upto R 12) (by omega) _ (mem_upto.2 ⟨t, h12, ht, rfl⟩)
theorem without_all (hm : IsMaze n d ks) {x : Nat} (hx : 0 < x) {A R : Nat} (hA : ∀ t, A.testBit t = true → t ≠ x) (hg : Grown d ks A R) : ∀ t, R.testBit t = true → Rch (noNode d (x : Int)) (lastH (noNode d (x : Int)) ks 64 0) 0 (t : Int) := by
 have om := hm.okm
 have om' := om.noNode (x : Int)
 have hc' := lastH_closed om' (h := 0) (by omega)
 refine hg.all (fun t => Rch (noNode d (x : Int)) (lastH (noNode d (x : Int)) ks 64 0) 0 (t : Int)) .here (fun X hX z hz t hgo hAt => ?_)
 obtain ⟨y, _, hy, rfl⟩ := mem_upto.1 hz
 have hy' := hX y hy
 have hs : subB (keysN ks X).toNat (lastH (noNode d (x : Int)) ks 64 0).toNat = true := gain_bits om fun z hz => by
  obtain ⟨u, _, hu, rfl⟩ := mem_upto.1 hz
  exact hc' _ (hX u hu).1
 refine .step hy'.1 ?_
 obtain ⟨w, hw, hgw⟩ := List.any_eq_true.1 (noNode_any.2 ⟨hgo, by have := hA y hy'.2; omega, by have := hA t hAt; omega⟩ : (noNode d (x : Int)).any (goes (y : Int) (t : Int) (keysN ks X)) = true)
 exact List.any_eq_true.2 ⟨w, hw, goes_mono hs hgw⟩

variable {k : Nat} {n : Int} {d : List Door} {ks : List Int}
theorem IsMaze.setKeys (h : IsMaze n d ks) {K : List Int} (hl : K.length = ks.length) (hK : ∀ x ∈ K, 0 ≤ x ∧ x ≤ 63) : IsMaze n d K := by
 obtain ⟨h1, h2, h3, h4, h5, h6⟩ := h
 refine ⟨h1, h2, h3, by rw [hl]; exact h4, h5, fun i hi => ?_⟩
 unfold setB
 rw [dif_pos hi, decide_eq_true (hK _ (List.getElem_mem hi))]
theorem IsMaze.doorOk (h : IsMaze n d ks) : ∀ x ∈ d, DoorOk n x := fun x hx => by
 obtain ⟨i, hi, rfl⟩ := List.getElem_of_mem hx
 have h5 := h.2.2.2.2.1 i hi
 unfold doorB at h5
 rw [dif_pos hi, Bool.and_eq_true, decide_eq_true_iff] at h5
 exact h5.1
theorem IsMaze.setDoors (h : IsMaze n d ks) {D : List Door} (hs : D.Sublist d) : IsMaze n D ks := by
 have hd := h.doorOk
 have hp := h.sorted.sublist hs
 obtain ⟨h1, h2, h3, h4, h5, h6⟩ := h
 refine ⟨h1, h2, Nat.le_trans hs.length_le h3, h4, fun i hi => ?_, h6⟩
 unfold doorB
 rw [dif_pos hi, decide_eq_true (hd _ (hs.subset (List.getElem_mem hi))), Bool.true_and, Bool.or_eq_true, decide_eq_true_iff, decide_eq_true_iff]
 rcases Nat.eq_zero_or_pos i with h0 | h0
 ·exact .inl h0
 ·exact .inr ((List.pairwise_iff_getElem.1 hp) (i - 1) i (by omega) hi (by omega))
theorem IsMaze.noNode (h : IsMaze n d ks) (x : Int) : IsMaze n (Go.Proofs.noNode d x) ks := h.setDoors (List.filter_sublist)
theorem IsMaze.noDoor (h : IsMaze n d ks) (x : Nat) : IsMaze n (Go.Proofs.noDoor d x) ks := by
 refine h.setDoors ?_
 unfold Go.Proofs.noDoor
 have e : d = d.take x ++ d.drop x := (List.take_append_drop x d).symm
 conv => rhs; rw [e]
 refine List.Sublist.append (List.Sublist.refl _) ?_
 rw [← List.drop_drop]
 exact List.drop_sublist _ _
def noColour (ks : List Int) (c : Nat) : List Int := ks.map fun x => bclr x (shl 1 (c : Int))
theorem IsMaze.noColour (h : IsMaze n d ks) {c : Nat} (hc : c < 6) : IsMaze n d (Go.Proofs.noColour ks c) :=
 h.setKeys (by unfold Go.Proofs.noColour; simp) fun x hx => by
  unfold Go.Proofs.noColour at hx
  obtain ⟨y, hy, rfl⟩ := List.mem_map.1 hx
  exact bclr_63 (h.okm.keys y hy) (shl1_nn c hc)
theorem IsMaze.noKeys (h : IsMaze n d ks) (x : Nat) : IsMaze n d (ks.set x 0) :=
 h.setKeys (by simp) fun y hy => by
  rcases List.mem_or_eq_of_mem_set hy with h' | rfl
  ·exact h.okm.keys y h'
  ·omega

theorem noColour_keysW {c : Nat} (hc : c < 6) (hk : ∀ x ∈ ks, 0 ≤ x ∧ x ≤ 63) : noColour ks c = keysW ks (((63 ^^^ 2 ^ c : Nat)) : Int) := by
 unfold noColour keysW
 refine List.map_congr_left fun x hx => ?_
 obtain ⟨h0, h1⟩ := hk x hx
 obtain ⟨m, rfl⟩ := Int.eq_ofNat_of_zero_le h0
 have h2 : 63 ^^^ 2 ^ c < 64 := Nat.xor_lt_two_pow (n := 6) (by decide) (Nat.pow_lt_pow_right (by decide) hc)
 rw [shl_one (by omega), bclr_nat (by omega), band_nat (by omega) (by omega)]
 congr 1
 have hm : m < 64 := by omega
 refine Nat.eq_of_testBit_eq fun t => ?_
 rw [Nat.testBit_xor, Nat.testBit_and, Nat.testBit_and, Nat.testBit_xor, Nat.testBit_two_pow]
 have h63 : (63 : Nat).testBit t = decide (t < 6) := by
  rw [show (63 : Nat) = 2 ^ 6 - 1 from rfl, Nat.testBit_two_pow_sub_one]
 rw [h63]
 rcases Nat.lt_or_ge t 6 with h | h
 ·rw [decide_eq_true h]
  cases m.testBit t <;> by_cases e : c = t <;> simp [e]
 ·have : m.testBit t = false := Nat.testBit_lt_two_pow (Nat.lt_of_lt_of_le hm (Nat.pow_le_pow_right (n := 2) (by omega) (show 6 ≤ t from h)))
  rw [this]; simp
theorem wins_keys (om : Okm n d ks) {K : List Int} (om' : Okm n d K) (hk : ∀ i, subB (ks.getD i 0).toNat (K.getD i 0).toNat = true) {h : Int} (hh : 0 ≤ h ∧ h ≤ 63) (hw : winsB n d ks h = true) : winsB n d K h = true := by
 refine (winsB_iff om' h).2 (((winsB_iff om h).1 hw).mono ?_)
 have hc := lastH_closed om' hh
 exact lastH_least om (fun z hz => subB_trans (hk z.toNat) (hc z hz)) 64 hh (lastH_sub om' 64 hh)
theorem keysW_sub (hk : ∀ x ∈ ks, 0 ≤ x ∧ x ≤ 63) {s t : Int} (hs : 0 ≤ s ∧ s ≤ 63) (ht : 0 ≤ t ∧ t ≤ 63) (h : subB s.toNat t.toNat = true) (i : Nat) : subB ((keysW ks s).getD i 0).toNat ((keysW ks t).getD i 0).toNat = true := by
 have e : ∀ s : Int, (keysW ks s).getD i 0 = if i < ks.length then band (ks.getD i 0) s else 0 := fun s => by
  unfold keysW
  rw [List.getD_eq_getElem?_getD, List.getElem?_map, List.getD_eq_getElem?_getD]
  split
  ·rename_i hi; rw [List.getElem?_eq_getElem hi]; rfl
  ·rename_i hi; rw [List.getElem?_eq_none (by omega)]; rfl
 rw [e, e]
 split
 ·have hx := keys_getD hk i
  generalize ks.getD i 0 = x at hx
  obtain ⟨x, rfl⟩ := Int.eq_ofNat_of_zero_le hx.1
  obtain ⟨s, rfl⟩ := Int.eq_ofNat_of_zero_le hs.1
  obtain ⟨t, rfl⟩ := Int.eq_ofNat_of_zero_le ht.1
  have b1 : band (Int.ofNat x) (Int.ofNat s) = ((x &&& s : Nat) : Int) := band_nat (by omega) (by omega)
  have b2 : band (Int.ofNat x) (Int.ofNat t) = ((x &&& t : Nat) : Int) := band_nat (by omega) (by omega)
  show subB (band (Int.ofNat x) (Int.ofNat s)).toNat (band (Int.ofNat x) (Int.ofNat t)).toNat = true
  rw [b1, b2, Int.toNat_natCast, Int.toNat_natCast]
  refine subB_iff.2 fun u hu => ?_
  rw [Nat.testBit_and, Bool.and_eq_true] at hu ⊢
  exact ⟨hu.1, subB_iff.1 h u (by simpa using hu.2)⟩
 ·exact subB_refl _
theorem keysW_okm (om : Okm n d ks) {s : Int} (hs : 0 ≤ s ∧ s ≤ 63) : Okm n d (keysW ks s) := om.mapKeys (fun x => band x s) fun x hx => band_63 hx hs
theorem least_colour (hm : IsMaze n d ks) {L : List Int} (h1 : ∀ o ∈ L, (0 ≤ o ∧ o ≤ 63) ∧ winsB n d (keysW ks o) 0 = true) (h2 : ∀ s : Int, 0 ≤ s ∧ s ≤ 63 → winsB n d (keysW ks s) 0 = true → ∃ o ∈ L, subB o.toNat s.toNat = true) {c : Nat} (hc : c < 6) :
    L.all (fun o => o.toNat.testBit c) = !winsB n d (noColour ks c) 0 := by
  have om := hm.okm
  rw [noColour_keysW hc om.keys]
  have hS : (63 ^^^ 2 ^ c) < 64 := Nat.xor_lt_two_pow (n := 6) (by decide) (Nat.pow_lt_pow_right (by decide) hc)
  have hbit : ∀ t, (63 ^^^ 2 ^ c).testBit t = (decide (t < 6) && !decide (c = t)) := fun t => by
    rw [Nat.testBit_xor, Nat.testBit_two_pow, show (63 : Nat) = 2 ^ 6 - 1 from rfl, Nat.testBit_two_pow_sub_one]
    rcases Nat.lt_or_ge t 6 with h | h
    · by_cases e : c = t <;> simp [h, e]
    · have : ¬ c = t := by omega
      have h' : ¬ t < 6 := by omega
      simp [h', this]
  cases hw : winsB n d (keysW ks ((63 ^^^ 2 ^ c : Nat) : Int)) 0 with
  | true =>
    obtain ⟨o, ho, hs⟩ := h2 _ (by omega) hw
    rw [Bool.not_true, List.all_eq_false]
    refine ⟨o, ho, ?_⟩
    intro hb
    have := subB_iff.1 hs c hb
    rw [Int.toNat_natCast, hbit] at this
    simp at this
  | false =>
    rw [Bool.not_false, List.all_eq_true]
    intro o ho
    obtain ⟨hr, hwo⟩ := h1 o ho
    cases hb : o.toNat.testBit c with
    | true => rfl
    | false =>
      exfalso
      have hsub : subB o.toNat (((63 ^^^ 2 ^ c : Nat) : Int)).toNat = true := subB_iff.2 fun t ht => by
        rw [Int.toNat_natCast, hbit]
        have h6 : t < 6 := by
          rcases Nat.lt_or_ge t 6 with h | h
          · exact h
          · have := Nat.testBit_lt_two_pow (Nat.lt_of_lt_of_le (show o.toNat < 2 ^ 6 by omega) (Nat.pow_le_pow_right (n := 2) (by omega) (show 6 ≤ t from h)))
            rw [this] at ht; cases ht
        have hne : ¬ c = t := fun e => by rw [← e, hb] at ht; cases ht
        simp [h6, hne]
      have := wins_keys (keysW_okm om hr) (keysW_okm om (show 0 ≤ ((63 ^^^ 2 ^ c : Nat) : Int) ∧ ((63 ^^^ 2 ^ c : Nat) : Int) ≤ 63 by omega)) (keysW_sub om.keys hr (by omega) hsub) (by omega) hwo
      rw [this] at hw; cases hw

theorem canEnter_true (hk : Big ≤ k) (hm : IsMaze n d ks) {x : Nat} (hx : (x : Int) ≤ n - 1) (hr : Rch d (lastH d ks 64 0) 0 (x : Int)) : impl_canEnter.f k n d ks (x : Int) = some true := by
 have om := hm.okm
 have hhi := om.hi
 have hlo := om.lo
 have h30 := hm.2.2.1
 have hlen := om.len
 obtain ⟨m, rfl⟩ := Int.eq_ofNat_of_zero_le (show 0 ≤ n by omega)
 unfold impl_canEnter.f
 rw [isNode_eq hk _ d ks [(x : Int)] (by omega) (by omega) (by simp), decide_eq_true hm, Option.bind_some]
 have hall : [(x : Int)].all (fun y => decide (0 ≤ y ∧ y ≤ (m : Int) - 1)) = true := by
  simp only [List.all_cons, List.all_nil, Bool.and_true, decide_eq_true_eq]; omega
 rw [hall, if_pos (by decide)]
 unfold impl_entered.f
 rw [allNodes_eq m (by omega) d ks, Option.bind_some]
 have hpos : 0 < 2 ^ m := Nat.two_pow_pos m
 obtain ⟨r, e1, R, rfl, h1, h2, h3⟩ := largest_ok hk hm (A := 2 ^ m - 1) (by rw [Int.toNat_natCast]; omega) (by rw [Nat.testBit_two_pow_sub_one, decide_eq_true_iff]; omega)
 rw [e1, Option.bind_some, Option.bind_some, if_pos (by omega), Option.bind_some]
 rw [Int.toNat_natCast] at h1
 have key := entered_all hm (R := R) (by rw [Int.toNat_natCast]; exact h1) (by rw [Int.toNat_natCast]; exact h2) (by rw [Int.toNat_natCast]; exact h3) hr
 obtain ⟨t, et, ht⟩ := key
 have : t = x := by omega
 subst this
 have hb := bit1_nat (a := R) (t := t) (by have := small12 om (N := R) (by rw [Int.toNat_natCast]; exact h1); omega) (by omega)
 rw [hb, ht]
theorem Precedes_true (hk : Big ≤ k) (hm : IsMaze n d ks) {x : Nat} (hx0 : 0 < x) (hx : (x : Int) < n - 1) (h1 : winsB n d ks 0 = true) (h2 : winsB n (noNode d (x : Int)) ks 0 = false) : impl_Precedes.f k n d ks (x : Int) (n - 1) = some (true, true) := by
  have om := hm.okm
  have om' := om.noNode (x : Int)
  have hhi := om.hi
  have hlo := om.lo
  have h30 := hm.2.2.1
  have hlen := om.len
  have hgoal := (winsB_iff om 0).1 h1
  have hxr := need_reached om h1 h2
  obtain ⟨m, rfl⟩ := Int.eq_ofNat_of_zero_le (show 0 ≤ n by omega)
  have en : (m : Int) - 1 = ((m - 1 : Nat) : Int) := by omega
  unfold impl_Precedes.f
  rw [isNode_eq hk _ d ks [(x : Int), (m : Int) - 1] (by omega) (by omega) (by simp), decide_eq_true hm, Option.bind_some]
  have hall : [(x : Int), (m : Int) - 1].all (fun y => decide (0 ≤ y ∧ y ≤ (m : Int) - 1)) = true := by
    simp only [List.all_cons, List.all_nil, Bool.and_true, Bool.and_eq_true, decide_eq_true_eq]; omega
  rw [hall, if_neg (by decide), if_pos (by simp; omega), canEnter_true hk hm (by omega) hxr, Option.bind_some, if_pos rfl]
  rw [en] at hgoal ⊢
  rw [canEnter_true hk hm (by omega) hgoal, Option.bind_some, if_pos rfl]
  unfold impl_without.f
  rw [allNodes_eq m (by omega) d ks, Option.bind_some, if_pos (by omega), shl_one (by omega), bclr_nat (by have := Nat.pow_le_pow_right (n := 2) (by omega) (show m ≤ 12 by omega); omega)]
  have hpos : 0 < 2 ^ m := Nat.two_pow_pos m
  have hbit : ∀ t, ((2 ^ m - 1) ^^^ ((2 ^ m - 1) &&& 2 ^ x)).testBit t = (decide (t < m) && !decide (x = t)) := fun t => by
    rw [Nat.testBit_xor, Nat.testBit_and, Nat.testBit_two_pow_sub_one, Nat.testBit_two_pow]
    by_cases h : t < m <;> by_cases e : x = t <;> simp [h, e]
  have hlt : (2 ^ m - 1) ^^^ ((2 ^ m - 1) &&& 2 ^ x) < 2 ^ m := Nat.xor_lt_two_pow (by omega) (Nat.lt_of_le_of_lt Nat.and_le_left (by omega))
  generalize (2 ^ m - 1) ^^^ ((2 ^ m - 1) &&& 2 ^ x) = A at hbit hlt
  obtain ⟨r, e1, R, rfl, g1, g2, g3⟩ := largest_ok hk hm (A := A) (by rw [Int.toNat_natCast]; exact hlt) (by rw [hbit]; simp; omega)
  rw [e1, Option.bind_some, Option.bind_some, if_pos (by omega)]
  rw [Int.toNat_natCast] at g1
  have hR : R.testBit (m - 1) = false := by
    cases hb : R.testBit (m - 1) with
    | false => rfl
    | true =>
      exfalso
      have := without_all hm hx0 (A := A) (R := R) (fun t ht e => by rw [hbit, e] at ht; simp at ht) g2 (m - 1) hb
      have hw := (winsB_iff om' 0).2 (by rw [en]; exact this)
      rw [hw] at h2; cases h2
  have hb := bit1_nat (a := R) (t := m - 1) (by have := small12 om (N := R) (by rw [Int.toNat_natCast]; exact g1); omega) (by omega)
  rw [hR] at hb
  have hz : (band (shr (R : Int) ((m - 1 : Nat) : Int)) 1 == 0) = true := by
    rw [beq_iff_eq]
    rw [beq_eq_false_iff_ne] at hb
    rw [shr_nat (by omega)] at hb ⊢
    have hs := small12 om (N := R) (by rw [Int.toNat_natCast]; exact g1)
    have hd : R / 2 ^ (m - 1) ≤ R := Nat.div_le_self _ _
    rw [show (1 : Int) = ((1 : Nat) : Int) from rfl, band_nat (by omega) (by omega)] at hb ⊢
    rw [Nat.and_one_is_mod] at hb ⊢
    omega
  rw [hz]; rfl

variable {k : Nat} {n : Int} {d : List Door} {ks : List Int} {h : Int}

def sumC (p : Nat → Bool) : Int := itr (fun i s => if p i = true then bor s (shl 1 (i : Int)) else s) 6 0 0
theorem sumC_bits (p : Nat → Bool) : ∃ N : Nat, sumC p = (N : Int) ∧ N < 64 ∧ ∀ t, N.testBit t = (decide (t < 6) && p t) := by
 have := itr_invI (g := fun i (s : Int) => if p i = true then bor s (shl 1 (i : Int)) else s) (fun i s => i ≤ 6 → ∃ N : Nat, s = (N : Int) ∧ N < 64 ∧ ∀ t, N.testBit t = (decide (t < i) && p t)) 6 0 0 (fun j s _ hj hI h6 => by
  obtain ⟨N, rfl, h1, h2⟩ := hI (by omega)
  by_cases hp : p j = true
  ·simp only [hp, if_true]
   have h3 : 2 ^ j < 64 := Nat.pow_lt_pow_right (a := 2) (n := 6) (by decide) (by omega)
   rw [shl_one (by omega), bor_nat (by omega) (by omega)]
   refine ⟨_, rfl, Nat.or_lt_two_pow (n := 6) h1 h3, fun t => ?_⟩
   rw [Nat.testBit_or, h2, Nat.testBit_two_pow]
   by_cases e : j = t
   ·subst e; simp [hp]
   ·by_cases h4 : t < j
    ·have : t < j + 1 := by omega
     simp [e, h4, this]
    ·have : ¬ t < j + 1 := by omega
     simp [e, h4, this]
  ·simp only [hp]
   refine ⟨N, by simp, h1, fun t => ?_⟩
   rw [h2]
   by_cases e : t = j
   ·subst e
    have : p t = false := by simpa using hp
    simp [this]
   ·by_cases h4 : t < j
    ·have : t < j + 1 := by omega
     simp [h4, this]
    ·have : ¬ t < j + 1 := by omega
     simp [h4, this]) (fun _ => ⟨0, rfl, by decide, fun t => by simp⟩)
 exact this (by omega)
theorem sumC_at (p : Nat → Bool) {c : Nat} (hc : c < 6) : (band (shr (sumC p) (c : Int)) 1 == 1) = p c := by
 obtain ⟨N, e, h1, h2⟩ := sumC_bits p
 rw [e, bit1_nat (by omega) (by omega), h2, decide_eq_true hc, Bool.true_and]
theorem reqC_sum (n : Int) (d : List Door) (ks : List Int) (h : Int) : itr (reqC n d ks h) 6 0 0 = sumC fun c => !winsB n d (noColour ks c) h := by
 unfold sumC
 refine itr_congr _ _ _ _ _ fun j s _ _ => ?_
 unfold reqC
 show (if winsB n d (noColour ks j) h = true then s else bor s (shl 1 (j : Int))) = (if (!winsB n d (noColour ks j) h) = true then bor s (shl 1 (j : Int)) else s)
 cases winsB n d (noColour ks j) h <;> rfl
noncomputable def helpP (n : Int) (d : List Door) (ks : List Int) (h : Int) (c : Nat) : Bool := winsB n d ks (bor h (shl 1 (c : Int)))
theorem bor_col {c : Nat} (hc : c < 6) (hh : 0 ≤ h ∧ h ≤ 63) : 0 ≤ bor h (shl 1 (c : Int)) ∧ bor h (shl 1 (c : Int)) ≤ 63 := by
 have h3 : 2 ^ c < 64 := Nat.pow_lt_pow_right (a := 2) (n := 6) (by decide) hc
 refine (bor_le63 hh ?_).1
 rw [shl_one (by omega)]
 generalize 2 ^ c = m at h3
 omega
noncomputable def helpR (n : Int) (d : List Door) (ks : List Int) (h : Int) [Decidable ((IsMaze n d ks ∧ 0 ≤ h ∧ h ≤ 63) ∧ winsB n d ks h = false)] : Int × Bool := if (IsMaze n d ks ∧ 0 ≤ h ∧ h ≤ 63) ∧ winsB n d ks h = false then (sumC (helpP n d ks h), true) else (0, false)
open Classical in
theorem Helpful_both (hk : Big ≤ k) (n : Int) (d : List Door) (ks : List Int) (h : Int) (hd : d.length ≤ 1048576) (hl : ks.length ≤ 1048576) : impl_HelpfulColours.f k n d ks h = some (helpR n d ks h) ∧ spec_HelpfulColours.f k n d ks h = some (helpR n d ks h) := by
 unfold impl_HelpfulColours.f spec_HelpfulColours.f
 rw [asked_eq hk n d ks h hd hl, l3Ask_eq hk n d ks h hd hl, Option.bind_some, Option.bind_some]
 by_cases hT : IsMaze n d ks ∧ 0 ≤ h ∧ h ≤ 63
 rotate_left 1
 ·rw [decide_eq_false hT, show helpR n d ks h = (0, false) from if_neg fun h' => hT h'.1]; exact ⟨rfl, rfl⟩
 rw [decide_eq_true hT, if_neg (by decide), if_neg (by decide), canWin_eq hk hT.1.okm hT.2, l3Wins_eq hk hT.1.okm hT.2, Option.bind_some, Option.bind_some]
 by_cases hw : winsB n d ks h = true
 ·rw [show helpR n d ks h = (0, false) from if_neg (fun h' => by rw [h'.2] at hw; cases hw), hw]; exact ⟨rfl, rfl⟩
 ·have hw' : winsB n d ks h = false := by simpa using hw
  rw [show helpR n d ks h = (sumC (helpP n d ks h), true) from if_pos ⟨hT, hw'⟩, hw']
  have om := hT.1.okm
  constructor
  ·have := (loop_state (l := fun q (s : Int) i => impl_HelpfulColours.l0 k n d ks h q s i) (N := 6) (g := fun i s => if helpP n d ks h i = true then bor s (shl 1 (i : Int)) else s) (out := some) (fun _ _ => True) (fun q i s hi _ => by
    refine ⟨?_, trivial⟩
    have hlt : ((i : Int) < 6) := by omega
    have hww : w64 ((i : Int) + 1) = ((i + 1 : Nat) : Int) := w64_id (by omega) (by omega)
    have hn : ¬ (i : Int) < 0 := by omega
    rw [impl_HelpfulColours.l0]
    simp only [hlt, decide_true, if_true, hn, not_false_eq_true, canWin_eq hk om (bor_col hi hT.2), Option.bind_some, hww]
    unfold helpP
    cases winsB n d ks (bor h (shl 1 (i : Int))) <;> rfl) (fun q s _ => by
    show impl_HelpfulColours.l0 k n d ks h (q + 1) s 6 = _
    rw [impl_HelpfulColours.l0]; simp) (k := k) (by unfold Big at hk; omega) (s := 0) trivial).1
   rw [if_neg (by decide), this]; rfl
  ·have := (loop_state (l := fun q (s : Int) i => spec_HelpfulColours.l0 k n d ks h q s i) (N := 6) (g := fun i s => if helpP n d ks h i = true then bor s (shl 1 (i : Int)) else s) (out := some) (fun _ _ => True) (fun q i s hi _ => by
    refine ⟨?_, trivial⟩
    have hlt : ((i : Int) < 6) := by omega
    have hww : w64 ((i : Int) + 1) = ((i + 1 : Nat) : Int) := w64_id (by omega) (by omega)
    have hn : ¬ (i : Int) < 0 := by omega
    rw [spec_HelpfulColours.l0]
    simp only [hlt, decide_true, if_true, hn, not_false_eq_true, l3Wins_eq hk om (bor_col hi hT.2), Option.bind_some, hww]
    unfold helpP
    cases winsB n d ks (bor h (shl 1 (i : Int))) <;> rfl) (fun q s _ => by
    show spec_HelpfulColours.l0 k n d ks h (q + 1) s 6 = _
    rw [spec_HelpfulColours.l0]; simp) (k := k) (by unfold Big at hk; omega) (s := 0) trivial).1
   rw [Option.bind_some, if_neg (by decide), this]; rfl

theorem mem_upto' {β : Type} {F : Nat → List β} {m : Nat} {x : β} : x ∈ appUpto F m ↔ ∃ i, i < m ∧ x ∈ F i := by
 unfold appUpto
 simp only [List.mem_flatMap, List.mem_range]
theorem reqN_mem {x m : Nat} (hx : x < m) : ((appUpto (reqNG n d ks h) m).contains ((x : Int) + 1)) = !winsB n (noNode d ((x : Int) + 1)) ks h := by
 rw [Bool.eq_iff_iff, List.contains_iff_mem, mem_upto']
 constructor
 ·rintro ⟨i, hi, hm⟩
  unfold reqNG at hm
  split at hm
  ·cases hm
  ·rename_i hw
   have e := List.mem_singleton.1 hm
   rw [e]
   simpa using hw
 ·intro hw
  refine ⟨x, hx, ?_⟩
  unfold reqNG
  rw [if_neg (by simpa using hw)]
  exact List.mem_singleton.2 rfl
theorem reqD_mem {x m : Nat} (hx : x < m) : ((appUpto (reqDG n d ks h) m).contains (x : Int)) = !winsB n (noDoor d x) ks h := by
 rw [Bool.eq_iff_iff, List.contains_iff_mem, mem_upto']
 constructor
 ·rintro ⟨i, hi, hm⟩
  unfold reqDG at hm
  split at hm
  ·cases hm
  ·rename_i hw
   have e : x = i := by have := List.mem_singleton.1 hm; omega
   subst e
   simpa using hw
 ·intro hw
  refine ⟨x, hx, ?_⟩
  unfold reqDG
  rw [if_neg (by simpa using hw)]
  exact List.mem_singleton.2 rfl
theorem idle_mem {x m : Nat} (hx : x < m) : ((appUpto (idleG n d ks h) m).contains (x : Int)) = winsB n d (ks.set x 0) h := by
 rw [Bool.eq_iff_iff, List.contains_iff_mem, mem_upto']
 constructor
 ·rintro ⟨i, hi, hm⟩
  unfold idleG at hm
  split at hm
  ·rename_i hw
   have e : x = i := by have := List.mem_singleton.1 hm; omega
   subst e; exact hw
  ·cases hm
 ·intro hw
  refine ⟨x, hx, ?_⟩
  unfold idleG
  rw [if_pos hw]
  exact List.mem_singleton.2 rfl

theorem CanWin_of (hk : Big ≤ k) (hm : IsMaze n d ks) (hh : 0 ≤ h ∧ h ≤ 63) : impl_CanWin.f k n d ks h = some (winsB n d ks h, true) := by
 have h30 := hm.2.2.1
 have hlen := hm.okm.len
 have hhi := hm.okm.hi
 rw [CanWin_eq hk n d ks h (by omega) (by omega), if_pos ⟨hm, hh⟩]
theorem help_l0 (hk : Big ≤ k) (hm : IsMaze n d ks) (hh : 0 ≤ h ∧ h ≤ 63) : laws_FnRequired.l0 k n d ks h (sumC (helpP n d ks h)) k 0 = some (.inl ()) := by
 have L := Tot.loop (l := fun q (i : Nat) => laws_FnRequired.l0 k n d ks h (sumC (helpP n d ks h)) q (i : Int)) (fun i => i ≤ 6) (fun i => 6 - i) (fun x => x = .inl ()) (fun q i hi ih => by
  rw [laws_FnRequired.l0]
  by_cases h6 : i < 6
  ·rw [if_pos (by rw [decide_eq_true_iff]; omega), if_pos (by omega), CanWin_of hk hm (bor_col h6 hh), Option.bind_some]
   simp only [Bool.not_true, Bool.false_eq_true, if_false]
   rw [if_pos (by omega), sumC_at _ h6]
   show Tot ((some (helpP n d ks h i != helpP n d ks h i)).bind _) _
   rw [bne_self_eq_false, Option.bind_some, if_neg (by decide), show w64 ((i : Int) + 1) = ((i + 1 : Nat) : Int) from w64_id (by omega) (by omega)]
   exact ih (i + 1) (by omega) (by omega)
  ·rw [if_neg (by rw [decide_eq_true_iff]; omega)]
   exact Tot.ret rfl) k 0 (by unfold Big at hk; omega) (by omega)
 obtain ⟨x, hx, rfl⟩ := L
 exact hx

variable {k : Nat} {n : Int} {d : List Door} {ks : List Int} {h : Int} {c : List By}
theorem DrawRequired_ok (hk : Big ≤ k) (hc : CodeOk c) : Tot (spec_DrawRequiredNodes.f k c) (fun r => MzS r.1 r.2.1 r.2.2.1 ∧ -1 ≤ r.2.2.2 ∧ r.2.2.2 ≤ 4611686018427387904) := by
 unfold spec_DrawRequiredNodes.f spec_DrawRoundsOf.f spec_l1Cur_first3.f
 refine Tot.bind (P := fun r => MzS r.1 r.2.1 r.2.2.1 ∧ -1 ≤ r.2.2.2 ∧ r.2.2.2 ≤ 4611686018427387904) (Tot.bind (P := fun r => MzS r.1 r.2.1 r.2.2.1 ∧ -1 ≤ r.2.2.2.1 ∧ r.2.2.2.1 ≤ 4611686018427387904) ?_ ?_) ?_
 ·refine Tot.bind (maze_ok hk hc (by unfold Pos; omega) (by omega)) ?_
  rintro ⟨m, d, ks, a1, s1⟩ ⟨h1, h2⟩
  simp only at h1 h2 ⊢
  refine Tot.bind (one_ok hc (by unfold Pos; omega) _) ?_
  rintro ⟨b, a2, s2⟩ h3
  simp only at h3 ⊢
  refine Tot.ite (fun _ => Tot.ret ⟨h1, by simp only; omega, by simp only; omega⟩) (fun _ => ?_)
  refine Tot.bind (colours_ok hk hc (by unfold Pos; omega) (by omega)) ?_
  rintro ⟨x, a3, s3⟩ ⟨h4, _⟩
  exact Tot.ret ⟨h1, h4⟩
 ·rintro ⟨m, d, ks, x, a3, s3⟩ h; exact Tot.ret h
 ·rintro ⟨m, d, ks, x⟩ h; exact Tot.ret h
theorem node_l6 (hk : Big ≤ k) (hm : IsMaze n d ks) (hh : 0 ≤ h ∧ h ≤ 63) (hw : winsB n d ks h = true) : laws_FnRequired.l6 k n d ks h (appUpto (reqNG n d ks h) (n.toNat - 2)) k 1 = some (.inl ()) := by
  have om := hm.okm
  have hlo := om.lo
  have hhi := om.hi
  have h30 := hm.2.2.1
  have hlen := om.len
  have hal := appUpto_length (reqNG n d ks h) 1 (reqNG_le n d ks h) (n.toNat - 2)
  have L := Tot.loop (l := fun q (i : Nat) => laws_FnRequired.l6 k n d ks h (appUpto (reqNG n d ks h) (n.toNat - 2)) q ((i : Int) + 1)) (fun i => i ≤ 12) (fun i => 12 - i) (fun x => x = .inl ()) (fun q i hi ih => by
    rw [laws_FnRequired.l6]
    have w2 : w64 ((i : Int) + 1 + 1) = ((i + 1 : Nat) : Int) + 1 := by rw [w64_id (by omega) (by omega)]; omega
    rw [w2]
    by_cases h6 : (i : Int) + 1 + 1 < n
    · have hi2 : i < n.toNat - 2 := by omega
      have e1 : impl_WithoutNode.f k n d ks ((i : Int) + 1) = some (n, noNode d ((i : Int) + 1), ks, true) := by
        unfold impl_WithoutNode.f
        rw [isNode_eq hk n d ks [(i : Int) + 1] (by omega) (by omega) (by simp), decide_eq_true hm, Option.bind_some]
        have hall : [(i : Int) + 1].all (fun y => decide (0 ≤ y ∧ y ≤ n - 1)) = true := by
          simp only [List.all_cons, List.all_nil, Bool.and_true, decide_eq_true_eq]; omega
        rw [hall, if_neg (by decide), withoutNode_eq hk n d ks _ (by omega) (by omega)]; rfl
      have e2 := CanWin_of hk (hm.noNode ((i : Int) + 1)) hh
      have e3 : laws_vHas.f k (appUpto (reqNG n d ks h) (n.toNat - 2)) ((i : Int) + 1) = some (!winsB n (noNode d ((i : Int) + 1)) ks h) := by
        rw [vHas_eq hk _ _ (by omega), reqN_mem hi2]
      rw [if_pos (by rw [decide_eq_true_iff]; omega), e1, Option.bind_some]
      simp only
      rw [e2, Option.bind_some]
      simp only [Bool.not_true, Bool.false_eq_true, if_false]
      rw [e3, Option.bind_some]
      cases hwn : winsB n (noNode d ((i : Int) + 1)) ks h with
      | true =>
        show Tot ((some (true == false)).bind _) _
        rw [show ((true : Bool) == false) = false from rfl, Option.bind_some, if_neg (by decide), Option.bind_some]
        show Tot ((if (!true) = true then some (h == 0) else some false).bind _) _
        rw [if_neg (by decide), Option.bind_some, if_neg (by decide)]
        exact ih (i + 1) (by omega) (by omega)
      | false =>
        show Tot ((some (false == true)).bind _) _
        rw [show ((false : Bool) == true) = false from rfl, Option.bind_some, if_neg (by decide), Option.bind_some]
        show Tot ((if (!false) = true then some (h == 0) else some false).bind _) _
        rw [if_pos (by decide), Option.bind_some]
        by_cases h0 : h = 0
        · subst h0
          have e4 : impl_Precedes.f k n d ks ((i : Int) + 1) (w64 (n - 1)) = some (true, true) := by
            rw [w64_id (by omega) (by omega), show (i : Int) + 1 = ((i + 1 : Nat) : Int) by omega]
            exact Precedes_true hk hm (by omega) (by omega) hw (by rw [← hwn]; rfl)
          rw [if_pos (by decide), e4, Option.bind_some]
          simp only [Bool.not_true, Bool.false_eq_true, if_false, Option.bind_some]
          exact ih (i + 1) (by omega) (by omega)
        · rw [if_neg (by rw [beq_iff_eq]; exact h0)]
          exact ih (i + 1) (by omega) (by omega)
    · rw [if_neg (by rw [decide_eq_true_iff]; omega)]
      exact Tot.ret rfl) k 0 (by unfold Big at hk; omega) (by omega)
  obtain ⟨x, hx, rfl⟩ := L
  exact hx
theorem idle_l7 (hk : Big ≤ k) (hm : IsMaze n d ks) (hh : 0 ≤ h ∧ h ≤ 63) : laws_FnRequired.l7 k n d ks h (appUpto (idleG n d ks h) n.toNat) k 0 = some (.inl ()) := by
 have om := hm.okm
 have hlo := om.lo
 have hhi := om.hi
 have hal := appUpto_length (idleG n d ks h) 1 (idleG_le n d ks h) n.toNat
 have L := Tot.loop (l := fun q (i : Nat) => laws_FnRequired.l7 k n d ks h (appUpto (idleG n d ks h) n.toNat) q (i : Int)) (fun i => i ≤ 12) (fun i => 12 - i) (fun x => x = .inl ()) (fun q i hi ih => by
  rw [laws_FnRequired.l7]
  by_cases h6 : (i : Int) < n
  ·have e1 : impl_WithoutKeys.f k n d ks (i : Int) = some (n, d, ks.set i 0, true) := by
    unfold impl_WithoutKeys.f
    rw [PutKeys_eq hk hm, if_pos ⟨by omega, by omega, by omega⟩, Option.bind_some, Int.toNat_natCast]
   have e2 := CanWin_of hk (hm.noKeys i) hh
   have e3 : laws_vHas.f k (appUpto (idleG n d ks h) n.toNat) (i : Int) = some (winsB n d (ks.set i 0) h) := by
    rw [vHas_eq hk _ _ (by omega), idle_mem (by omega)]
   rw [if_pos (by rw [decide_eq_true_iff]; omega), e1, Option.bind_some]
   simp only
   rw [e2, Option.bind_some]
   simp only [Bool.not_true, Bool.false_eq_true, if_false]
   rw [e3, Option.bind_some, bne_self_eq_false, Option.bind_some, if_neg (by decide), show w64 ((i : Int) + 1) = ((i + 1 : Nat) : Int) from w64_id (by omega) (by omega)]
   exact ih (i + 1) (by omega) (by omega)
  ·rw [if_neg (by rw [decide_eq_true_iff]; omega)]
   exact Tot.ret rfl) k 0 (by unfold Big at hk; omega) (by omega)
 obtain ⟨x, hx, rfl⟩ := L
 exact hx
theorem door_l8 (hk : Big ≤ k) (hm : IsMaze n d ks) (hh : 0 ≤ h ∧ h ≤ 63) : laws_FnRequired.l8 k n d ks h (appUpto (reqDG n d ks h) d.length) k 0 = some (.inl ()) := by
 have h30 := hm.2.2.1
 have hal := appUpto_length (reqDG n d ks h) 1 (reqDG_le n d ks h) d.length
 have L := Tot.loop (l := fun q (i : Nat) => laws_FnRequired.l8 k n d ks h (appUpto (reqDG n d ks h) d.length) q (i : Int)) (fun i => i ≤ 30) (fun i => 30 - i) (fun x => x = .inl ()) (fun q i hi ih => by
  rw [laws_FnRequired.l8]
  by_cases h6 : i < d.length
  ·have e1 : impl_DropDoor.f k n d ks (i : Int) = some (n, noDoor d i, ks, true) := by
    rw [DropDoor_eq hk hm, if_pos ⟨by omega, by omega⟩, Int.toNat_natCast]
   have e2 := CanWin_of hk (hm.noDoor i) hh
   have e3 : laws_vHas.f k (appUpto (reqDG n d ks h) d.length) (i : Int) = some (!winsB n (noDoor d i) ks h) := by
    rw [vHas_eq hk _ _ (by omega), reqD_mem h6]
   rw [if_pos (by rw [decide_eq_true_iff]; omega), e1, Option.bind_some]
   simp only
   rw [e2, Option.bind_some]
   simp only [Bool.not_true, Bool.false_eq_true, if_false]
   rw [e3, Option.bind_some, show (winsB n (noDoor d i) ks h == !winsB n (noDoor d i) ks h) = false by cases winsB n (noDoor d i) ks h <;> rfl, Option.bind_some, if_neg (by decide), show w64 ((i : Int) + 1) = ((i + 1 : Nat) : Int) from w64_id (by omega) (by omega)]
   exact ih (i + 1) (by omega) (by omega)
  ·rw [if_neg (by rw [decide_eq_true_iff]; omega)]
   exact Tot.ret rfl) k 0 (by unfold Big at hk; omega) (by omega)
 obtain ⟨x, hx, rfl⟩ := L
 exact hx
theorem each_l10 (hk : Big ≤ k) (L : List Int) (hL : L.length ≤ 1000) (hr : ∀ o ∈ L, 0 ≤ o ∧ o ≤ 63) {i : Nat} (hi : i < 6) : laws_FnRequired.l10 k L (i : Int) k true 0 = some (L.all fun o => o.toNat.testBit i) := by
  have T := Tot.loop (l := fun q (s : Nat) => laws_FnRequired.l10 k L (i : Int) q ((L.take s).all fun o => o.toNat.testBit i) (s : Int)) (fun s => s ≤ L.length) (fun s => L.length - s) (fun x => x = L.all fun o => o.toNat.testBit i) (fun q s hs ih => by
    rw [laws_FnRequired.l10]
    by_cases h6 : s < L.length
    · have ho := hr _ (List.getElem_mem h6)
      have e : (L.take (s + 1)).all (fun o => o.toNat.testBit i) = ((L.take s).all (fun o => o.toNat.testBit i) && L[s].toNat.testBit i) := by
        rw [List.take_succ_eq_append_getElem h6, List.all_append]; simp
      have eb : (band (shr L[s] (i : Int)) 1 == 1) = L[s].toNat.testBit i := by
        obtain ⟨m, hm⟩ := Int.eq_ofNat_of_zero_le ho.1
        rw [hm]
        exact bit1_nat (by omega) (by omega)
      have step : ((if ((L.take s).all fun o => o.toNat.testBit i) = true then (rdl L (s : Int)).bind fun t383 => if ¬ (i : Int) < 0 then some ((band (shr t383 (i : Int)) 1) == 1) else none else some false)) = some ((L.take (s + 1)).all fun o => o.toNat.testBit i) := by
        rw [e]
        cases (L.take s).all (fun o => o.toNat.testBit i) with
        | true => rw [if_pos rfl, rdl_lt h6, Option.bind_some, if_pos (by omega), eb, Bool.true_and]
        | false => rfl
      rw [if_pos (by rw [decide_eq_true_iff]; omega), step, Option.bind_some, show w64 ((s : Int) + 1) = ((s + 1 : Nat) : Int) from w64_id (by omega) (by omega)]
      exact ih (s + 1) (by omega) (by omega)
    · rw [if_neg (by rw [decide_eq_true_iff]; omega)]
      refine Tot.ret ?_
      rw [List.take_of_length_le (by omega)]) k 0 (by unfold Big at hk; omega) (by omega)
  obtain ⟨x, hx, rfl⟩ := T
  exact hx
theorem colour_l9 (hk : Big ≤ k) (hm : IsMaze n d ks) (hh : 0 ≤ h ∧ h ≤ 63) {L : List Int} (hL : L.length ≤ 1000) (h1 : ∀ o ∈ L, (0 ≤ o ∧ o ≤ 63) ∧ winsB n d (keysW ks o) 0 = true) (h2 : ∀ s : Int, 0 ≤ s ∧ s ≤ 63 → winsB n d (keysW ks s) 0 = true → ∃ o ∈ L, subB o.toNat s.toNat = true) :
  laws_FnRequired.l9 k n d ks h (sumC fun c => !winsB n d (noColour ks c) h) L true k 0 = some (.inl ()) := by
 have om := hm.okm
 have h30 := hm.2.2.1
 have hlen := om.len
 have hhi := om.hi
 have T := Tot.loop (l := fun q (i : Nat) => laws_FnRequired.l9 k n d ks h (sumC fun c => !winsB n d (noColour ks c) h) L true q (i : Int)) (fun i => i ≤ 6) (fun i => 6 - i) (fun x => x = .inl ()) (fun q i hi ih => by
  rw [laws_FnRequired.l9]
  by_cases h6 : i < 6
  ·have e1 : impl_WithoutColour.f k n d ks (i : Int) = some (n, d, noColour ks i, true) := by
    unfold impl_WithoutColour.f
    rw [IsMaze_eq hk n d ks (by omega) (by omega), decide_eq_true hm, Option.bind_some, if_neg (by decide), within_eq, decide_eq_true (show (0 : Int) ≤ (i : Int) ∧ (i : Int) ≤ 5 by omega), Option.bind_some, Option.bind_some, if_neg (by decide), withoutColour_eq hk n d ks i (by omega) (by omega)]; rfl
   have e2 := CanWin_of hk (hm.noColour h6) hh
   have e3 := sumC_at (fun c => !winsB n d (noColour ks c) h) h6
   rw [if_pos (by rw [decide_eq_true_iff]; omega), e1, Option.bind_some]
   simp only
   rw [e2, Option.bind_some]
   simp only [Bool.not_true, Bool.false_eq_true, if_false]
   rw [if_pos (by omega), e3, Option.bind_some, show (winsB n d (noColour ks i) h == !winsB n d (noColour ks i) h) = false by cases winsB n d (noColour ks i) h <;> rfl, if_neg (by decide), each_l10 hk L hL (fun o ho => (h1 o ho).1) h6, Option.bind_some, least_colour hm h1 h2 h6, if_pos (trivial : True), if_pos (show ¬ (i : Int) < 0 by omega), show w64 ((i : Int) + 1) = ((i + 1 : Nat) : Int) from w64_id (by omega) (by omega)]
   by_cases h0 : h = 0
   ·subst h0
    rw [if_pos (by decide), bne_self_eq_false, Option.bind_some, if_neg (by decide)]
    exact ih (i + 1) (by omega) (by omega)
   ·rw [if_neg (by rw [beq_iff_eq]; exact h0), Option.bind_some, if_neg (by decide)]
    exact ih (i + 1) (by omega) (by omega)
  ·rw [if_neg (by rw [decide_eq_true_iff]; omega)]
   exact Tot.ret rfl) k 0 (by unfold Big at hk; omega) (by omega)
 obtain ⟨x, hx, rfl⟩ := T
 exact hx
open Classical in
theorem laws_FnRequired.pure (x : List By) (hx : wfd x) : ∃ k, laws_FnRequired.f k x = some true := by
 refine ⟨Big, ?_⟩
 have hk : Big ≤ Big := Nat.le_refl _
 unfold laws_FnRequired.f laws_vBig.f
 rw [Option.bind_some]
 by_cases hb : (x.length : Int) > 65536
 ·rw [if_pos (by simpa using hb)]
 rw [if_neg (by simpa using hb)]
 have hc := code_ok hx (by omega)
 obtain ⟨⟨n, d, ks, h⟩, e1, ⟨_, hd, hl⟩, hr1, hr2⟩ := DrawRequired_ok (k := Big) hk hc
 simp only at hd hl hr1 hr2
 have q1 := impl_RequiredNodes_eq hk n d ks h (by omega) (by omega)
 have q2 := spec_RequiredNodes_eq hk n d ks h (by omega) (by omega)
 have q3 := impl_RequiredDoors_eq hk n d ks h (by omega) (by omega)
 have q4 := spec_RequiredDoors_eq hk n d ks h (by omega) (by omega)
 have q5 := impl_RequiredColours_eq hk n d ks h (by omega) (by omega)
 have q6 := spec_RequiredColours_eq hk n d ks h (by omega) (by omega)
 rw [won_eq hk n d ks h (by omega) (by omega), Option.bind_some, reqC_sum] at q5
 rw [l3Can_eq hk n d ks h (by omega) (by omega), Option.bind_some, reqC_sum] at q6
 have q7 := impl_IdleNodes_eq hk n d ks h (by omega) (by omega)
 have q8 := spec_IdleNodes_eq hk n d ks h (by omega) (by omega)
 obtain ⟨q9, q10⟩ := Helpful_both hk n d ks h (by omega) (by omega)
 rw [e1, Option.bind_some]
 simp only
 by_cases hw : (IsMaze n d ks ∧ 0 ≤ h ∧ h ≤ 63) ∧ winsB n d ks h = true
 ·obtain ⟨⟨hm, hh⟩, hwin⟩ := hw
  have hhi := hm.okm.hi
  have r1 : reqNR n d ks h = (appUpto (reqNG n d ks h) (n.toNat - 2), true) := if_pos ⟨⟨hm, hh⟩, hwin⟩
  have r2 : reqDR n d ks h = (appUpto (reqDG n d ks h) d.length, true) := if_pos ⟨⟨hm, hh⟩, hwin⟩
  have r3 : idleR n d ks h = (appUpto (idleG n d ks h) n.toNat, true) := if_pos ⟨⟨hm, hh⟩, hwin⟩
  have r4 : helpR n d ks h = (0, false) := if_neg fun h' => by rw [h'.2] at hwin; cases hwin
  rw [r1] at q1 q2
  rw [r2] at q3 q4
  rw [decide_eq_true (show (IsMaze n d ks ∧ 0 ≤ h ∧ h ≤ 63) ∧ winsB n d ks h = true from ⟨⟨hm, hh⟩, hwin⟩), if_pos rfl] at q5 q6
  rw [r3] at q7 q8
  rw [r4] at q9 q10
  have b1 := appUpto_length (reqNG n d ks h) 1 (reqNG_le n d ks h) (n.toNat - 2)
  have b2 := appUpto_length (reqDG n d ks h) 1 (reqDG_le n d ks h) d.length
  have b3 := appUpto_length (idleG n d ks h) 1 (idleG_le n d ks h) n.toNat
  have i1 := vInts_eq hk (appUpto (reqNG n d ks h) (n.toNat - 2)) (appUpto (reqNG n d ks h) (n.toNat - 2)) (by omega)
  have i2 := vInts_eq hk (appUpto (reqDG n d ks h) d.length) (appUpto (reqDG n d ks h) d.length) (by omega)
  have i3 := vInts_eq hk (appUpto (idleG n d ks h) n.toNat) (appUpto (idleG n d ks h) n.toNat) (by omega)
  obtain ⟨⟨L, ok⟩, e2, hok, hL, h1, h2⟩ := LeastWins_ok (k := Big) hk hm
  simp only at hok hL h1 h2
  subst hok
  have l6 := node_l6 hk hm hh hwin
  have l7 := idle_l7 hk hm hh
  have l8 := door_l8 hk hm hh
  have l9 := colour_l9 hk hm hh hL h1 h2
  simp only [q1, q2, q3, q4, q5, q6, q7, q8, q9, q10, i1, i2, i3, l6, l7, l8, l9, e2, decide_true, Option.bind_some, bne_self_eq_false, Bool.not_true, Bool.false_eq_true, if_false, if_true, Lr]
 ·have r1 : reqNR n d ks h = ([], false) := if_neg hw
  have r2 : reqDR n d ks h = ([], false) := if_neg hw
  have r3 : idleR n d ks h = ([], false) := if_neg hw
  rw [r1] at q1 q2
  rw [r2] at q3 q4
  rw [decide_eq_false hw, if_neg (by decide)] at q5 q6
  rw [r3] at q7 q8
  have i1 := vInts_eq hk ([] : List Int) [] (by simp)
  by_cases hT : (IsMaze n d ks ∧ 0 ≤ h ∧ h ≤ 63) ∧ winsB n d ks h = false
  ·have r4 : helpR n d ks h = (sumC (helpP n d ks h), true) := if_pos hT
   rw [r4] at q9 q10
   have l0 := help_l0 hk hT.1.1 hT.1.2
   simp only [q1, q2, q3, q4, q5, q6, q7, q8, q9, q10, i1, l0, decide_true, Option.bind_some, bne_self_eq_false, Bool.not_true, Bool.not_false, Bool.false_eq_true, if_false, if_true, Lr]
  ·have r4 : helpR n d ks h = (0, false) := if_neg hT
   rw [r4] at q9 q10
   simp only [q1, q2, q3, q4, q5, q6, q7, q8, q9, q10, i1, decide_true, Option.bind_some, bne_self_eq_false, Bool.not_true, Bool.not_false, Bool.false_eq_true, if_false, if_true, Lr]
end Go.Proofs

/- A part of the proof of FnLaid: the plain law. No condition. -/
import Derived.Test.YtebbaacgalipaaaFnLaidB
import Derived.Test.YtebbaacgalipaaaFnLaidC
import Derived.Test.YtebbaacgalipaaaFnLaidD
import Derived.Test.YtebbaacgalipaaaFnLaidE
import Derived.Test.YtebbaacgalipaaaFnLaidF
import Derived.Test.YtebbaacgalipaaaFnLaidG
import Derived.Test.YtebbaacgalipaaaFnLaidH
import Derived.Test.YtebbaacgalipaaaFnLaidI
set_option linter.unusedSimpArgs false
namespace Go.Proofs
open Go Go.Ga Go.Ga.Wf
set_option linter.unusedVariables false
set_option linter.unusedSimpArgs false

theorem subB_iff {c a : Nat} : subB c a = true ↔ ∀ t, c.testBit t = true → a.testBit t = true := by
  unfold subB
  rw [beq_iff_eq]
  constructor
  · intro h t ht
    rw [← h, Nat.testBit_and] at ht
    simp at ht; exact ht.2
  · intro h
    apply Nat.eq_of_testBit_eq
    intro t
    rw [Nat.testBit_and]
    cases c1 : c.testBit t with
    | false => rfl
    | true => rw [h t c1]; rfl
theorem subB_trans {a b c : Nat} (h1 : subB a b = true) (h2 : subB b c = true) : subB a c = true :=
 subB_iff.2 fun t ht => subB_iff.1 h2 t (subB_iff.1 h1 t ht)
theorem subB_refl (a : Nat) : subB a a = true := subB_iff.2 fun _ h => h
theorem subB_bor {a b : Int} (ha : 0 ≤ a ∧ a ≤ 63) (hb : 0 ≤ b ∧ b ≤ 63) : subB a.toNat (bor a b).toNat = true := by
 obtain ⟨x, rfl⟩ := Int.eq_ofNat_of_zero_le ha.1
 obtain ⟨y, rfl⟩ := Int.eq_ofNat_of_zero_le hb.1
 rw [bor_nat (by omega) (by omega), Int.toNat_natCast, Int.toNat_natCast]
 exact subB_iff.2 fun t ht => by rw [Nat.testBit_or, ht]; rfl
theorem goes_mono {a b h h' : Int} (hs : subB h.toNat h'.toNat = true) {x : Door} (hg : goes a b h x = true) : goes a b h' x = true := by
 unfold goes at hg ⊢
 rw [Bool.and_eq_true] at hg ⊢
 exact ⟨hg.1, subB_trans hg.2 hs⟩
theorem Rch.mono {d : List Door} {h h' x z : Int} (hs : subB h.toNat h'.toNat = true) (hr : Rch d h x z) : Rch d h' x z := by
  induction hr with
  | here => exact .here
  | step _ hg ih =>
    refine .step ih ?_
    obtain ⟨y, hy, hg⟩ := List.any_eq_true.1 hg
    exact List.any_eq_true.2 ⟨y, hy, goes_mono hs hg⟩
theorem gain_sub {ks : List Int} (hk : ∀ x ∈ ks, 0 ≤ x ∧ x ≤ 63) : ∀ (l : List Int) {h : Int}, 0 ≤ h ∧ h ≤ 63 → subB h.toNat (gain ks l h).toNat = true
  | [], h, hh => subB_refl _
  | x :: l, h, hh => by
    have h1 := bor_le63 hh (keys_getD hk x.toNat)
    have h2 := gain_sub hk l h1.1
    exact subB_trans (subB_bor hh (keys_getD hk x.toNat)) h2
theorem lastH_sub {n : Int} {d : List Door} {ks : List Int} (hm : Okm n d ks) : ∀ (f : Nat) {h : Int}, 0 ≤ h ∧ h ≤ 63 → subB h.toNat (lastH d ks f h).toNat = true
  | 0, h, hh => subB_refl _
  | f + 1, h, hh => by
    unfold lastH; split
    · exact subB_refl _
    · exact subB_trans (gain_sub hm.keys _ hh) (lastH_sub hm f (nextH_le hm hh).1)
theorem chain_sub {n : Int} {d : List Door} {ks : List Int} (hm : Okm n d ks) : ∀ (f : Nat) {h : Int}, 0 ≤ h ∧ h ≤ 63 → ∀ x ∈ chain d ks f h, subB x.toNat (lastH d ks f h).toNat = true
  | 0, h, hh => by intro x hx; simp [chain] at hx; subst hx; exact subB_refl _
  | f + 1, h, hh => by
    intro x hx
    unfold chain at hx; unfold lastH
    by_cases hc : nextH d ks h = h
    · rw [if_pos hc] at hx ⊢; simp at hx; subst hx; exact subB_refl _
    · rw [if_neg hc] at hx ⊢
      rcases List.mem_cons.1 hx with rfl | hx
      · exact subB_trans (gain_sub hm.keys _ hh) (lastH_sub hm f (nextH_le hm hh).1)
      · exact chain_sub hm f (nextH_le hm hh).1 x hx

theorem marks_zero (r : Int) (hr : r ≠ 0) (p : Nat) : ∀ (l s : List Int), p < s.length → ((l.foldl (markE r) s).getD p 0 = 0 ↔ s.getD p 0 = 0 ∧ ∀ z ∈ l, z.toNat ≠ p)
  | [], s, h => by simp
  | x :: l, s, h => by
    rw [List.foldl_cons, marks_zero r hr p l _ (by rw [markE_len]; exact h), List.forall_mem_cons]
    have key : (markE r s x).getD p 0 = 0 ↔ s.getD p 0 = 0 ∧ x.toNat ≠ p := by
      unfold markE
      by_cases hx : x.toNat = p
      · rw [hx]
        by_cases h0 : s.getD p 0 = 0
        · rw [if_pos h0, getD_set, if_pos ⟨rfl, h⟩]; simp [hr]
        · rw [if_neg h0]; exact ⟨fun e => absurd e h0, fun e => absurd e.1 h0⟩
      · by_cases h0 : s.getD x.toNat 0 = 0
        · rw [if_pos h0, getD_set, if_neg (fun e => hx e.1)]; simp [hx]
        · rw [if_neg h0]; simp [hx]
    rw [key, and_assoc]
theorem entI_zero (d : List Door) (L : List Int) (p : Nat) (s : List Int) (h : p < s.length) : ∀ m, (itr (entG d L) m 0 s).length = s.length ∧ ((itr (entG d L) m 0 s).getD p 0 = 0 ↔ s.getD p 0 = 0 ∧ ∀ i, i < m → ∀ z ∈ nodesL d 0 (L.getD i 0), z.toNat ≠ p)
  | 0 => ⟨rfl, by simp [itr]⟩
  | m + 1 => by
    obtain ⟨h1, h2⟩ := entI_zero d L p s h m
    rw [itr_snoc, Nat.zero_add]
    refine ⟨by rw [entG_len]; exact h1, ?_⟩
    unfold entG at h1 h2 ⊢
    rw [marks_zero _ (by omega) p _ _ (by rw [h1]; exact h), h2, and_assoc]
    refine and_congr_right fun _ => ?_
    constructor
    · rintro ⟨a, b⟩ i hi
      rcases Nat.lt_succ_iff_lt_or_eq.1 hi with h | rfl
      · exact a i h
      · exact b
    · intro a
      exact ⟨fun i hi => a i (by omega), a m (by omega)⟩
theorem entE_zero {n : Int} {d : List Door} {ks : List Int} (hm : Okm n d ks) {h : Int} (hh : 0 ≤ h ∧ h ≤ 63) : (entE n.toNat d ks h).getD (n - 1).toNat 0 = 0 ↔ winsB n d ks h = false := by
 have hlo := hm.lo
 have hhi := hm.hi
 unfold entE winsB
 rw [(entI_zero d (chain d ks 64 h) (n - 1).toNat (List.replicate n.toNat 0) (by rw [List.length_replicate]; omega) _).2]
 have hlast := chain_last d ks 64 h
 have hne := chain_ne d ks 64 h
 have hlen : 0 < (chain d ks 64 h).length := by
  rcases hc : chain d ks 64 h with _ | _
  ·exact absurd hc hne
  ·simp
 rw [← Bool.not_eq_true, reachN_test hm.small (by omega)]
 have hp : (((n - 1).toNat : Nat) : Int) = n - 1 := by omega
 rw [hp]
 constructor
 ·rintro ⟨_, h1⟩ h2
  rw [List.getLast?_eq_getElem?, List.getElem?_eq_getElem (by omega)] at hlast
  refine h1 ((chain d ks 64 h).length - 1) (by omega) (n - 1) ?_ rfl
  rw [List.getD_eq_getElem?_getD, List.getElem?_eq_getElem (by omega)]
  rw [show (some (chain d ks 64 h)[(chain d ks 64 h).length - 1]).getD 0 = lastH d ks 64 h from Option.some.inj hlast]
  exact (mem_nodesL hm.small (by omega)).2 h2
 ·intro h1
  refine ⟨by rw [List.getD_eq_getElem?_getD, List.getElem?_replicate]; split <;> rfl, fun i hi z hz e => h1 ?_⟩
  rw [List.getD_eq_getElem?_getD, List.getElem?_eq_getElem hi] at hz
  have hz' := (mem_nodesL hm.small (by omega)).1 hz
  have hzl := nodesL_lt hm (by omega) hz
  rw [show n - 1 = z by omega]
  exact hz'.mono (chain_sub hm 64 hh _ (List.getElem_mem hi))
theorem depth_zero {n : Int} {d : List Door} {ks : List Int} (hm : Okm n d ks) {x : Nat} {fs : List Int} (hf : FOk ks.length (upto x 12) fs) : depthP n d ks x fs = 0 ↔ winsB n d (layK ks.length (upto x 12) fs) 0 = false :=
 entE_zero (hm.lay hf) (by omega)

def rowN (n : Nat) (t : List Int) : List (List Int) := (List.range n).map fun (i : Nat) => t ++ [(i : Int)]
def allF (n : Nat) : Nat → List (List Int)
  | 0 => [[]]
  | m + 1 => (allF n m).flatMap (rowN n)
theorem allF_len (n : Nat) : ∀ m, (allF n m).length = n ^ m
  | 0 => rfl
  | m + 1 => by
    rw [allF, List.length_flatMap, show (List.map (fun a => (rowN n a).length) (allF n m)) = List.replicate (n ^ m) n from ?_]
    · rw [List.sum_replicate_nat, Nat.pow_succ]
    · rw [← allF_len n m]
      refine List.eq_replicate_iff.2 ⟨by simp, fun b hb => ?_⟩
      obtain ⟨a, _, rfl⟩ := List.mem_map.1 hb
      simp [rowN]
theorem allF_mem (n : Nat) : ∀ m, ∀ fs ∈ allF n m, fs.length = m ∧ ∀ z ∈ fs, 0 ≤ z ∧ z < n
  | 0, fs, h => by rw [List.mem_singleton.1 h]; simp
  | m + 1, fs, h => by
    obtain ⟨t, ht, h⟩ := List.mem_flatMap.1 h
    obtain ⟨i, hi, rfl⟩ := List.mem_map.1 h
    have := allF_mem n m t ht
    have hi := List.mem_range.1 hi
    refine ⟨by simp [this.1], fun z hz => ?_⟩
    rcases List.mem_append.1 hz with hz | hz
    · exact this.2 z hz
    · rw [List.mem_singleton.1 hz]; omega
theorem pow_8_4 {n m : Nat} (hn : n ≤ 8) (hm : m ≤ 4) : n ^ m ≤ 4096 :=
 Nat.le_trans (Nat.pow_le_pow_left hn m) (Nat.le_trans (Nat.pow_le_pow_right (n := 8) (by omega) hm) (by decide))
theorem rowN_succ (n : Nat) (t : List Int) : rowN (n + 1) t = rowN n t ++ [t ++ [(n : Int)]] := by
 unfold rowN; rw [List.range_succ, List.map_append]; rfl
theorem rowN_len (n : Nat) (t : List Int) : (rowN n t).length = n := by simp [rowN]
theorem flat_take (n : Nat) (l : List (List Int)) (i : Nat) (hi : i < l.length) : (l.take (i + 1)).flatMap (rowN n) = (l.take i).flatMap (rowN n) ++ rowN n l[i] := by
 rw [List.take_add_one, List.getElem?_eq_getElem hi, List.flatMap_append]; simp
theorem flat_take_len (n : Nat) (l : List (List Int)) (i : Nat) : ((l.take i).flatMap (rowN n)).length ≤ l.length * n := by
 rw [List.length_flatMap]
 have : (List.map (fun a => (rowN n a).length) (l.take i)) = List.replicate (min i l.length) n := by
  refine List.eq_replicate_iff.2 ⟨by simp, fun b hb => ?_⟩
  obtain ⟨a, _, rfl⟩ := List.mem_map.1 hb
  exact rowN_len n a
 rw [this, List.sum_replicate_nat]
 exact Nat.mul_le_mul_right n (Nat.min_le_right ..)
theorem set_same {α : Type} (l : List α) (i : Nat) (hi : i < l.length) : l.set i l[i] = l := by
 rw [List.set_getElem_self]
section
variable {k : Nat}
theorem fillings_l2 (hk : Big ≤ k) (n : Nat) (t : List Int) (ht : t.length ≤ 100) (s0 : List (List Int)) (hs : s0.length ≤ 100000) (hn : n ≤ 100) : impl_fillings.l2 k (n : Int) t k s0 0 = some (s0 ++ rowN n t) := by
 have := loop_state (l := fun q (s : List (List Int)) i => impl_fillings.l2 k (n : Int) t q s i) (N := n) (g := fun i s => s ++ [t ++ [(i : Int)]]) (out := some) (fun i s => s = s0 ++ rowN i t) (fun q i s hi hs' => by
  subst hs'
  refine ⟨?_, by rw [rowN_succ, List.append_assoc]⟩
  have hlt : ((i : Int) < (n : Int)) := by omega
  have hw : w64 ((i : Int) + 1) = ((i + 1 : Nat) : Int) := w64_id (by omega) (by omega)
  show impl_fillings.l2 k (n : Int) t (q + 1) _ (i : Int) = _
  rw [impl_fillings.l2]
  simp only [hlt, decide_true, if_true, clone_eq t (by omega), Option.bind_some, hw]
  rw [if_pos (by simp; omega), if_pos (by simp [rowN_len]; omega)]) (fun q s hs' => by
  show impl_fillings.l2 k (n : Int) t (q + 1) s (n : Int) = _
  rw [impl_fillings.l2]; simp) (k := k) (by unfold Big at hk; omega) (s := s0) (by simp [rowN])
 rw [this.1, this.2]
theorem fillings_l1 (hk : Big ≤ k) (n : Nat) (l : List (List Int)) (ht : ∀ t ∈ l, t.length ≤ 100) (hl : l.length * n ≤ 100000) (hl2 : l.length ≤ 100000) (hn : n ≤ 100) : impl_fillings.l1 k (n : Int) l k [] l 0 = some (l.flatMap (rowN n)) := by
 have := loop_state (l := fun q (s : List (List Int) × List (List Int)) i => impl_fillings.l1 k (n : Int) l q s.1 s.2 i) (N := l.length) (g := fun i s => (s.1 ++ rowN n (l.getD i []), s.2)) (out := fun s => some s.1) (fun i s => s = ((l.take i).flatMap (rowN n), l)) (fun q i s hi hs' => by
  subst hs'
  have hg : l.getD i [] = l[i] := by rw [List.getD_eq_getElem?_getD, List.getElem?_eq_getElem hi]; rfl
  refine ⟨?_, by simp only; rw [flat_take n l i hi, hg]⟩
  have hlt : ((i : Int) < (l.length : Int)) := by omega
  have hw : w64 ((i : Int) + 1) = ((i + 1 : Nat) : Int) := w64_id (by omega) (by omega)
  have hfl := flat_take_len n l i
  simp only
  rw [impl_fillings.l1]
  simp only [hlt, decide_true, if_true, rdl_lt hi, Option.bind_some, hw, fillings_l2 hk n l[i] (ht _ (List.getElem_mem hi)) _ (by omega : ((l.take i).flatMap (rowN n)).length ≤ 100000) hn, Int.toNat_natCast, set_same l i hi, hg]) (fun q s hs' => by
  try simp only
  rw [impl_fillings.l1]; simp) (k := k) (by unfold Big at hk; omega) (s := ([], l)) (by simp)
 have h2 := this.2
 have h1 := this.1
 simp only at h1
 rw [h1, h2, List.take_length]
theorem allF_le {n m i : Nat} (hn : n ≤ 8) (hm : m ≤ 4) (hi : i ≤ m) : (allF n i).length ≤ 4096 := by rw [allF_len]; exact pow_8_4 hn (by omega)
theorem fillings_eq (hk : Big ≤ k) (n : Nat) (d : List Door) (ks : List Int) {x : Nat} (hx : x < 64) (hn : n ≤ 8) (hm : (upto x 12).length ≤ 4) : impl_fillings.f k (n : Int) d ks (x : Int) = some (allF n (upto x 12).length) := by
 unfold impl_fillings.f
 rw [members_eq hk x (by omega), Option.bind_some]
 generalize upto x 12 = L at hm
 have := loop_state (l := fun q (s : List (List Int)) i => impl_fillings.l0 k (n : Int) L q s i) (N := L.length) (g := fun i s => s.flatMap (rowN n)) (out := some) (fun i s => s = allF n i) (fun q i s hi hs' => by
  subst hs'
  refine ⟨?_, rfl⟩
  have hlt : ((i : Int) < (L.length : Int)) := by omega
  have hw : w64 ((i : Int) + 1) = ((i + 1 : Nat) : Int) := w64_id (by omega) (by omega)
  have hal := allF_le hn hm (Nat.le_of_lt hi)
  have hmul : (allF n i).length * n ≤ 4096 * 8 := Nat.mul_le_mul hal hn
  show impl_fillings.l0 k (n : Int) L (q + 1) _ (i : Int) = _
  rw [impl_fillings.l0]
  simp only [hlt, decide_true, if_true, hw, fillings_l1 hk n (allF n i) (fun t ht => by have := (allF_mem n i t ht).1; omega) (by omega) (by omega) (by omega), Option.bind_some]) (fun q s hs' => by
  show impl_fillings.l0 k (n : Int) L (q + 1) s (L.length : Int) = _
  rw [impl_fillings.l0]; simp) (k := k) (by unfold Big at hk; omega) (s := [[]]) rfl
 rw [this.1, this.2]; rfl
theorem l9All_l2 (hk : Big ≤ k) (n : Nat) (l : List (List Int)) (j : Nat) (hj : j < l.length) (ht : l[j].length ≤ 100) (s0 : List (List Int)) (hs : s0.length ≤ 100000) (hn : n ≤ 100) : spec_l9All.l2 k (n : Int) (j : Int) k l s0 0 = some (l, s0 ++ rowN n l[j]) := by
 have := loop_state (l := fun q (s : List (List Int) × List (List Int)) i => spec_l9All.l2 k (n : Int) (j : Int) q s.1 s.2 i) (N := n) (g := fun i s => (s.1, s.2 ++ [l[j] ++ [(i : Int)]])) (out := some) (fun i s => s = (l, s0 ++ rowN i l[j])) (fun q i s hi hs' => by
  subst hs'
  refine ⟨?_, by simp only; rw [rowN_succ, List.append_assoc]⟩
  have hlt : ((i : Int) < (n : Int)) := by omega
  have hw : w64 ((i : Int) + 1) = ((i + 1 : Nat) : Int) := w64_id (by omega) (by omega)
  simp only
  rw [spec_l9All.l2]
  simp only [hlt, decide_true, if_true, rdl_lt hj, l1Own_eq l[j] (by omega), Option.bind_some, hw, Int.toNat_natCast, set_same l j hj]
  rw [if_pos (by simp; omega), if_pos (by simp [rowN_len]; omega)]) (fun q s hs' => by
  try simp only
  rw [spec_l9All.l2]; simp) (k := k) (by unfold Big at hk; omega) (s := (l, s0)) (by simp [rowN])
 have h1 := this.1
 simp only at h1
 rw [h1, this.2]
theorem l9All_l1 (hk : Big ≤ k) (n : Nat) (l : List (List Int)) (ht : ∀ t ∈ l, t.length ≤ 100) (hl : l.length * n ≤ 100000) (hl2 : l.length ≤ 100000) (hn : n ≤ 100) : spec_l9All.l1 k (n : Int) k l [] 0 = some (l.flatMap (rowN n)) := by
 have := loop_state (l := fun q (s : List (List Int) × List (List Int)) i => spec_l9All.l1 k (n : Int) q s.2 s.1 i) (N := l.length) (g := fun i s => (s.1 ++ rowN n (l.getD i []), s.2)) (out := fun s => some s.1) (fun i s => s = ((l.take i).flatMap (rowN n), l)) (fun q i s hi hs' => by
  subst hs'
  have hg : l.getD i [] = l[i] := by rw [List.getD_eq_getElem?_getD, List.getElem?_eq_getElem hi]; rfl
  refine ⟨?_, by simp only; rw [flat_take n l i hi, hg]⟩
  have hlt : ((i : Int) < (l.length : Int)) := by omega
  have hw : w64 ((i : Int) + 1) = ((i + 1 : Nat) : Int) := w64_id (by omega) (by omega)
  have hfl := flat_take_len n l i
  simp only
  rw [spec_l9All.l1]
  simp only [hlt, decide_true, if_true, Option.bind_some, hw, l9All_l2 hk n l i hi (ht _ (List.getElem_mem hi)) _ (by omega : ((l.take i).flatMap (rowN n)).length ≤ 100000) hn, hg]) (fun q s hs' => by
  subst hs'
  simp only
  rw [spec_l9All.l1]; simp) (k := k) (by unfold Big at hk; omega) (s := ([], l)) (by simp)
 have h2 := this.2
 have h1 := this.1
 simp only at h1
 rw [h1, h2, List.take_length]
theorem l9All_eq (hk : Big ≤ k) (n m : Nat) (hn : n ≤ 8) (hm : m ≤ 4) : spec_l9All.f k (n : Int) (m : Int) = some (allF n m) := by
 unfold spec_l9All.f
 have := loop_state (l := fun q (s : List (List Int)) i => spec_l9All.l0 k (n : Int) (m : Int) q s i) (N := m) (g := fun i s => s.flatMap (rowN n)) (out := some) (fun i s => s = allF n i) (fun q i s hi hs' => by
  subst hs'
  refine ⟨?_, rfl⟩
  have hlt : ((i : Int) < (m : Int)) := by omega
  have hw : w64 ((i : Int) + 1) = ((i + 1 : Nat) : Int) := w64_id (by omega) (by omega)
  have hal := allF_le hn hm (Nat.le_of_lt hi)
  have hmul : (allF n i).length * n ≤ 4096 * 8 := Nat.mul_le_mul hal hn
  show spec_l9All.l0 k (n : Int) (m : Int) (q + 1) _ (i : Int) = _
  rw [spec_l9All.l0]
  simp only [hlt, decide_true, if_true, hw, l9All_l1 hk n (allF n i) (fun t ht => by have := (allF_mem n i t ht).1; omega) (by omega) (by omega) (by omega), Option.bind_some]) (fun q s hs' => by
  show spec_l9All.l0 k (n : Int) (m : Int) (q + 1) s (m : Int) = _
  rw [spec_l9All.l0]; simp) (k := k) (by unfold Big at hk; omega) (s := [[]]) rfl
 rw [this.1, this.2]; rfl
end

def FewP (n : Int) (d : List Door) (ks : List Int) (h : Int) : Prop := (IsMaze n d ks ∧ 0 ≤ h ∧ h ≤ 63) ∧ n ≤ 8 ∧ (upto h.toNat 12).length ≤ 4
instance (n : Int) (d : List Door) (ks : List Int) (h : Int) : Decidable (FewP n d ks h) := by unfold FewP; infer_instance
noncomputable def winF (n : Int) (d : List Door) (ks : List Int) (h : Int) : List (List Int) := (allF n.toNat (upto h.toNat 12).length).filter fun fs => winsB n d (layK ks.length (upto h.toNat 12) fs) 0
theorem FewP.fill {n : Int} {d : List Door} {ks : List Int} {h : Int} (hF : FewP n d ks h) : ∀ fs ∈ allF n.toNat (upto h.toNat 12).length, FillP n h.toNat fs := fun fs hf => by
 have h1 := allF_mem _ _ fs hf
 have := hF.1.1.okm.lo
 exact ⟨h1.1, fun z hz => by have := h1.2 z hz; omega⟩
theorem FewP.len {n : Int} {d : List Door} {ks : List Int} {h : Int} (hF : FewP n d ks h) : (allF n.toNat (upto h.toNat 12).length).length ≤ 4096 :=
 allF_le (by have := hF.2.1; omega) hF.2.2 (Nat.le_refl _)
theorem winF_mem {n : Int} {d : List Door} {ks : List Int} {h : Int} (hF : FewP n d ks h) : ∀ fs ∈ winF n d ks h, FillP n h.toNat fs := fun fs hf => hF.fill fs (List.mem_filter.1 hf).1
section
variable {k : Nat}
theorem few_eq (hk : Big ≤ k) (n : Int) (d : List Door) (ks : List Int) (h : Int) (hd : d.length ≤ 1048576) (hl : ks.length ≤ 1048576) : spec_l9Few.f k n d ks h = some (decide (FewP n d ks h)) := by
 unfold spec_l9Few.f
 rw [l9Ask_eq hk n d ks h hd hl, Option.bind_some]
 by_cases hT : IsMaze n d ks ∧ 0 ≤ h ∧ h ≤ 63
 rotate_left 1
 ·rw [decide_eq_false hT, decide_eq_false (fun e : FewP n d ks h => hT e.1)]; rfl
 obtain ⟨x, rfl⟩ := Int.eq_ofNat_of_zero_le hT.2.1
 have hx : x < 64 := by omega
 rw [decide_eq_true hT, if_pos rfl]
 by_cases h8 : n ≤ 8
 rotate_left 1
 ·rw [decide_eq_false h8, decide_eq_false (fun e : FewP n d ks x => h8 e.2.1)]; rfl
 rw [decide_eq_true h8, if_pos rfl, l2Many_eq hk x hx, Option.bind_some, Option.bind_some]
 congr 1
 apply decide_eq_decide.2
 unfold FewP
 rw [Int.toNat_natCast]
 constructor
 ·intro e; exact ⟨hT, h8, by omega⟩
 ·intro e; have := e.2.2; omega
theorem wins_ask (hk : Big ≤ k) (n : Int) (d : List Door) (ks : List Int) (h : Int) (hd : d.length ≤ 1048576) (hl : ks.length ≤ 1048576) :
  ((impl_asked.f k n d ks h).bind fun t8 => (if (!t8) = true then some true else (if (decide (n > 8)) = true then some true else (impl_members.f k h).bind fun t17 => some (decide ((t17.length : Int) > 4))))) = some (!decide (FewP n d ks h)) := by
 rw [asked_eq hk n d ks h hd hl, Option.bind_some]
 by_cases hT : IsMaze n d ks ∧ 0 ≤ h ∧ h ≤ 63
 rotate_left 1
 ·rw [decide_eq_false hT, decide_eq_false (fun e : FewP n d ks h => hT e.1)]; rfl
 obtain ⟨x, rfl⟩ := Int.eq_ofNat_of_zero_le hT.2.1
 have hx : x < 64 := by omega
 rw [decide_eq_true hT, if_neg (by simp)]
 by_cases h8 : n ≤ 8
 rotate_left 1
 ·rw [decide_eq_true (show n > 8 by omega), decide_eq_false (fun e : FewP n d ks x => h8 e.2.1)]; rfl
 rw [decide_eq_false (show ¬ n > 8 by omega), if_neg (by simp), members_eq hk x (by omega), Option.bind_some]
 congr 1
 rw [← decide_not]
 apply decide_eq_decide.2
 unfold FewP
 rw [Int.toNat_natCast]
 constructor
 ·intro e e2; have := e2.2.2; omega
 ·intro e
  by_cases c : ((upto x 12).length : Int) > 4
  ·exact c
  ·exact absurd ⟨hT, h8, by omega⟩ e
theorem wins_eq (hk : Big ≤ k) (n : Int) (d : List Door) (ks : List Int) (h : Int) (hd : d.length ≤ 1048576) (hl : ks.length ≤ 1048576) :
  impl_wins.f k n d ks h = some (if FewP n d ks h then (winF n d ks h, true) else ([], false)) := by
 unfold impl_wins.f
 rw [wins_ask hk n d ks h hd hl, Option.bind_some]
 by_cases hF : FewP n d ks h
 rotate_left 1
 ·rw [decide_eq_false hF, if_pos (show (!false) = true from rfl), if_neg hF]
 rw [decide_eq_true hF, if_neg (by simp), if_pos hF]
 have hm := hF.1.1.okm
 have hlo := hm.lo
 have h8 := hF.2.1
 have e1 : impl_fillings.f k n d ks h = some (allF n.toNat (upto h.toNat 12).length) := by
  have := fillings_eq hk n.toNat d ks (x := h.toNat) (by have := hF.1.2; omega) (by omega) hF.2.2
  rwa [show ((n.toNat : Nat) : Int) = n by omega, show ((h.toNat : Nat) : Int) = h by have := hF.1.2; omega] at this
 have e2 : ∀ fs ∈ allF n.toNat (upto h.toNat 12).length, impl_wins_1.f k fs n d ks h = some (!winsB n d (layK ks.length (upto h.toNat 12) fs) 0) := fun fs hf => by
  have hx : h.toNat < 64 := by have := hF.1.2; omega
  have hfok := (hF.fill fs hf).fok hm hx
  have := depth_eq hk hm hx hfok
  rw [show ((h.toNat : Nat) : Int) = h by have := hF.1.2; omega] at this
  unfold impl_wins_1.f
  rw [this, Option.bind_some]
  congr 1
  have hz := depth_zero hm hfok
  rw [Bool.eq_iff_iff, beq_iff_eq, hz]; simp
 rw [e1, Option.bind_some]
 unfold slices_DeleteFunc__int__int.f
 rw [if_pos ⟨Nat.le_trans hF.len (by decide), List.all_eq_true.2 fun fs hf => by show (impl_wins_1.f k fs n d ks h).isSome = true; rw [e2 fs hf]; rfl⟩, Option.bind_some]
 congr 2
 unfold winF
 apply List.filter_congr
 intro fs hf
 show (!((impl_wins_1.f k fs n d ks h).getD false)) = _
 rw [e2 fs hf]; simp
theorem places_filter (all : List (List Int)) (p : List Int → Bool) : ∀ m, m ≤ all.length → (appUpto (fun i => if p (all.getD i []) = true then [(i : Int)] else []) m).map (fun x => List.getD all x.toNat []) = (all.take m).filter p
  | 0, _ => by simp [appUpto]
  | m + 1, hm => by
    rw [appUpto_succ, List.map_append, places_filter all p m (by omega), List.take_add_one, List.getElem?_eq_getElem (by omega : m < all.length), List.filter_append]
    congr 1
    have hg : all.getD m [] = all[m] := by rw [List.getD_eq_getElem?_getD, List.getElem?_eq_getElem (by omega : m < all.length)]; rfl
    rw [hg]
    by_cases c : p all[m] = true
    · rw [if_pos c, List.map_cons, Int.toNat_natCast, hg]
      simp [c]
    · rw [if_neg c]; simp [c]
theorem winning_eq (hk : Big ≤ k) {n : Int} {d : List Door} {ks : List Int} {h : Int} (hF : FewP n d ks h) : spec_l9Winning.f k n d ks h = some (winF n d ks h) := by
 have hm := hF.1.1.okm
 have hlo := hm.lo
 have h8 := hF.2.1
 have hh := hF.1.2
 have hx : h.toNat < 64 := by omega
 have ehn : ((h.toNat : Nat) : Int) = h := by omega
 have hlen := hm.len
 unfold spec_l9Winning.f
 have c1 := l2Many_eq hk h.toNat hx
 have c2 := colours_eq hk h.toNat hx
 rw [ehn] at c1 c2
 have c3 := l9All_eq hk n.toNat _ (by omega) hF.2.2
 rw [show ((n.toNat : Nat) : Int) = n by omega] at c3
 rw [c1, Option.bind_some, c3, Option.bind_some, Option.bind_some]
 simp only [if_true]
 have hL := hF.len
 have hfill := hF.fill
 unfold winF
 generalize allF n.toNat (upto h.toNat 12).length = all at hL hfill
 have := loop_app (l := fun q s i => spec_l9Winning.l0 k n d ks h all q s i) all.length (fun i => if winsB n d (layK ks.length (upto h.toNat 12) (all.getD i [])) 0 = true then [(i : Int)] else []) (some (appUpto (fun i => if winsB n d (layK ks.length (upto h.toNat 12) (all.getD i [])) 0 = true then [(i : Int)] else []) all.length)) (fun q i hi => by
  have hg : all.getD i [] = all[i] := by rw [List.getD_eq_getElem?_getD, List.getElem?_eq_getElem hi]; rfl
  have hlt : ((i : Int) < (all.length : Int)) := by omega
  have hw : w64 ((i : Int) + 1) = ((i + 1 : Nat) : Int) := w64_id (by omega) (by omega)
  have hfok := (hfill all[i] (List.getElem_mem hi)).fok hm hx
  have hl := appUpto_length (fun i => if winsB n d (layK ks.length (upto h.toNat 12) (all.getD i [])) 0 = true then [(i : Int)] else []) 1 (fun i => by split <;> simp) i
  rw [spec_l9Winning.l0]
  simp only [hlt, decide_true, if_true, rdl_lt hi, Option.bind_some, c2, l9Lay_eq hk n d ks hfok hm.len hm.few (by omega), l3Wins_eq hk (hm.lay hfok) (h := 0) (by omega), hw, hg]
  by_cases c : winsB n d (layK ks.length (upto h.toNat 12) all[i]) 0 = true
  ·simp only [c, if_true]
   rw [if_pos (by rw [List.length_append]; simp only [List.length_singleton]; omega), Option.bind_some]
  ·rw [if_neg c, if_neg c, Option.bind_some, List.append_nil]) (fun q => by
  rw [spec_l9Winning.l0]; simp) (k := k) (by unfold Big at hk; omega)
 rw [this, Option.bind_some]
 have hs := upto_one_sorted (fun i => winsB n d (layK ks.length (upto h.toNat 12) (all.getD i [])) 0) all.length
 have hge : ∀ m, ∀ x ∈ appUpto (fun i => if winsB n d (layK ks.length (upto h.toNat 12) (all.getD i [])) 0 = true then [(i : Int)] else []) m, 0 ≤ x := fun m x hx => by
  unfold appUpto at hx
  obtain ⟨i, _, hx⟩ := List.mem_flatMap.1 hx
  split at hx
  ·rw [List.mem_singleton.1 hx]; omega
  ·cases hx
 rw [if_pos ⟨hs.1, fun x hx => ⟨hge _ x hx, hs.2 x hx⟩⟩, places_filter all (fun fs => winsB n d (layK ks.length (upto h.toNat 12) fs) 0) all.length (Nat.le_refl _), List.take_length]
end
section
variable {k : Nat}
noncomputable def firstP (n : Int) (d : List Door) (ks : List Int) (h : Int) : List Int × Bool :=
 if FewP n d ks h then (match winF n d ks h with | [] => ([], false) | fs :: _ => (fs, true)) else ([], false)
theorem firstP_len (n : Int) (d : List Door) (ks : List Int) (h : Int) : (firstP n d ks h).1.length ≤ 12 := by
  unfold firstP
  split
  · rename_i hF
    have := winF_mem hF
    revert this
    generalize winF n d ks h = W
    intro this
    cases W with
    | nil => simp
    | cons fs t =>
      have h1 := (this fs (List.mem_cons_self ..)).1
      have := upto_length h.toNat 12
      simp only; omega
  · simp
theorem FirstFilling_impl (hk : Big ≤ k) (n : Int) (d : List Door) (ks : List Int) (h : Int) (hd : d.length ≤ 1048576) (hks : ks.length ≤ 1048576) :
    impl_FirstFilling.f k n d ks h = some (firstP n d ks h) := by
  unfold impl_FirstFilling.f firstP
  rw [wins_eq hk n d ks h hd hks, Option.bind_some]
  by_cases hF : FewP n d ks h
  rotate_left 1
  · rw [if_neg hF, if_neg hF]; rfl
  rw [if_pos hF, if_pos hF]
  cases winF n d ks h with
  | nil => rfl
  | cons fs t =>
    have e0 : (((fs :: t).length : Int) == 0) = false := by rw [beq_eq_false_iff_ne]; simp only [List.length_cons]; omega
    simp only [Bool.not_true, Bool.false_eq_true, if_false, e0, Option.bind_some]
    rfl
theorem FirstFilling_spec (hk : Big ≤ k) (n : Int) (d : List Door) (ks : List Int) (h : Int) (hd : d.length ≤ 1048576) (hks : ks.length ≤ 1048576) :
    spec_FirstFilling.f k n d ks h = some (firstP n d ks h) := by
  unfold spec_FirstFilling.f firstP
  rw [few_eq hk n d ks h hd hks, Option.bind_some]
  by_cases hF : FewP n d ks h
  rotate_left 1
  · rw [decide_eq_false hF, if_neg hF]; rfl
  rw [decide_eq_true hF, if_pos hF, if_neg (by simp), winning_eq hk hF, Option.bind_some]
  cases winF n d ks h with
  | nil => rfl
  | cons fs t =>
    have e0 : (((fs :: t).length : Int) == 0) = false := by rw [beq_eq_false_iff_ne]; simp only [List.length_cons]; omega
    simp only [Bool.false_eq_true, if_false, e0]
    rfl

theorem index_mem (hk : Big ≤ k) (l : List Int) (hl : l.length ≤ 1048576) (x : Int) (hx : x ∈ l) : slices_Index_int_int.f k l x = some ((l.idxOf x : Nat) : Int) := by
 unfold slices_Index_int_int.f
 have hlt : l.idxOf x < l.length := List.idxOf_lt_length_iff.2 hx
 have := loop_res (l := fun q (i : Nat) => slices_Index_int_int.l0 k l x q (i : Int)) (fun i => i ≤ l.idxOf x) (fun i => l.length - i) (fun _ => Sum.inr ((l.idxOf x : Nat) : Int)) (fun q i hI => by
  have hi : i < l.length := by omega
  have hlt2 : ((i : Int) < (l.length : Int)) := by omega
  have hw : w64 ((i : Int) + 1) = ((i + 1 : Nat) : Int) := w64_id (by omega) (by omega)
  simp only
  rw [slices_Index_int_int.l0]
  simp only [hlt2, decide_true, if_true, rdl_lt hi, Option.bind_some, hw]
  by_cases c : l[i] = x
  ·right
   have e : l.idxOf x = i := by
    rcases Nat.eq_or_lt_of_le hI with h | h
    ·exact h.symm
    ·exact absurd c (by have := List.not_of_lt_findIdx (p := (· == x)) (xs := l) (i := i) h; simpa using this)
   rw [if_pos (by rw [beq_iff_eq]; exact c.symm), e]
  ·left
   refine ⟨i + 1, by rw [if_neg (by rw [beq_iff_eq]; exact fun e => c e.symm)], trivial, ?_, by omega⟩
   rcases Nat.eq_or_lt_of_le hI with h | h
   ·exfalso; apply c
    have := List.getElem_idxOf hlt
    simp only [← h] at this; exact this
   ·exact h) k 0 (by unfold Big at hk; omega) (by omega)
 rw [show ((0 : Nat) : Int) = 0 from rfl] at this
 rw [this]; rfl
theorem index_not (hk : Big ≤ k) (l : List Int) (hl : l.length ≤ 1048576) (x : Int) (hx : x ∉ l) : slices_Index_int_int.f k l x = some (-1) := by
 unfold slices_Index_int_int.f
 have := loop_res (l := fun q (i : Nat) => slices_Index_int_int.l0 k l x q (i : Int)) (fun i => i ≤ l.length) (fun i => l.length - i) (fun _ => Sum.inl ()) (fun q i hI => by
  simp only
  rw [slices_Index_int_int.l0]
  by_cases hi : i < l.length
  ·left
   have hlt2 : ((i : Int) < (l.length : Int)) := by omega
   have hw : w64 ((i : Int) + 1) = ((i + 1 : Nat) : Int) := w64_id (by omega) (by omega)
   have c : ¬ x = l[i] := fun e => hx (e ▸ List.getElem_mem hi)
   refine ⟨i + 1, ?_, trivial, by omega, by omega⟩
   simp only [hlt2, decide_true, if_true, rdl_lt hi, Option.bind_some, hw]
   rw [if_neg (by rw [beq_iff_eq]; exact c)]
  ·right
   have hlt2 : ¬ ((i : Int) < (l.length : Int)) := by omega
   simp [hlt2]) k 0 (by unfold Big at hk; omega) (by omega)
 rw [show ((0 : Nat) : Int) = 0 from rfl] at this
 rw [this]; rfl
end

theorem marks_ge (r : Int) (hr : 0 ≤ r) (p : Nat) : ∀ (l s : List Int), 0 ≤ s.getD p 0 → 0 ≤ (l.foldl (markE r) s).getD p 0
  | [], s, h => h
  | x :: l, s, h => by
    rw [List.foldl_cons]
    refine marks_ge r hr p l _ ?_
    unfold markE
    split
    · rw [getD_set]; split <;> assumption
    · exact h
theorem entI_ge (d : List Door) (L : List Int) (p : Nat) (s : List Int) (h : 0 ≤ s.getD p 0) : ∀ m, 0 ≤ (itr (entG d L) m 0 s).getD p 0
  | 0 => h
  | m + 1 => by
    rw [itr_snoc]
    unfold entG
    exact marks_ge _ (by omega) p _ _ (entI_ge d L p s h m)
theorem depthP_ge (n : Int) (d : List Door) (ks : List Int) (x : Nat) (fs : List Int) : 0 ≤ depthP n d ks x fs := by
 unfold depthP entE
 refine entI_ge _ _ _ _ ?_ _
 rw [List.getD_eq_getElem?_getD, List.getElem?_replicate]; split <;> simp
section
variable {k : Nat}
end

def Tot {α : Type} (o : Option α) (P : α → Prop) : Prop := ∃ r, o = some r ∧ P r
theorem Tot.bind {α β : Type} {o : Option α} {f : α → Option β} {P : α → Prop} {Q : β → Prop} (h : Tot o P) (g : ∀ r, P r → Tot (f r) Q) : Tot (o.bind f) Q := by
 obtain ⟨r, rfl, hr⟩ := h; exact g r hr
theorem Tot.ret {α : Type} {r : α} {Q : α → Prop} (h : Q r) : Tot (some r) Q := ⟨r, rfl, h⟩
theorem Tot.ite {α : Type} {c : Prop} [Decidable c] {x y : Option α} {Q : α → Prop} (h1 : c → Tot x Q) (h2 : ¬ c → Tot y Q) : Tot (if c then x else y) Q := by
 by_cases h : c
 ·rw [if_pos h]; exact h1 h
 ·rw [if_neg h]; exact h2 h
theorem Tot.mono {α : Type} {o : Option α} {P Q : α → Prop} (h : Tot o P) (g : ∀ r, P r → Q r) : Tot o Q := by obtain ⟨r, e, hr⟩ := h; exact ⟨r, e, g r hr⟩
theorem Tot.rdl {α : Type} {l : List α} {i : Int} (h0 : 0 ≤ i) (h1 : i < l.length) : Tot (rdl l i) (fun x => x ∈ l) := by
 obtain ⟨n, rfl⟩ := Int.eq_ofNat_of_zero_le h0
 exact ⟨l[n]'(by omega), rdl_lt (by omega), List.getElem_mem _⟩
theorem Tot.loop {S β : Type} {l : Nat → S → Option β} (Inv : S → Prop) (mu : S → Nat) (Q : β → Prop)
    (hs : ∀ n s, Inv s → (∀ s', Inv s' → mu s' < mu s → Tot (l n s') Q) → Tot (l (n + 1) s) Q) : ∀ k s, mu s < k → Inv s → Tot (l k s) Q := by
  intro k
  induction k with
  | zero => intro s h; omega
  | succ k ih => exact fun s h hI => hs k s hI fun s' h1 h2 => ih s' (by omega) h1
def CodeOk (c : List By) : Prop := c.length ≤ 1000000 ∧ ∀ x ∈ c, 0 ≤ x.v ∧ x.v ≤ 255
def Pos (a : Int) : Prop := 0 ≤ a ∧ a ≤ 100000000
variable {k : Nat} {c : List By} {a s : Int}
theorem uand255 (y : Int) : 0 ≤ uand y 255 ∧ uand y 255 ≤ 255 := by
 unfold uand
 have h : (BitVec.ofInt 64 y &&& BitVec.ofInt 64 255).toNat ≤ 255 := by
  rw [BitVec.toNat_and]
  exact Nat.le_trans Nat.and_le_right (by decide)
 have h2 : IntKind.u64.wrap ((BitVec.ofInt 64 y &&& BitVec.ofInt 64 255).toNat : Int) = ((BitVec.ofInt 64 y &&& BitVec.ofInt 64 255).toNat : Int) := by
  generalize (BitVec.ofInt 64 y &&& BitVec.ofInt 64 255).toNat = m at h
  unfold IntKind.wrap
  simp [IntKind.bits, IntKind.signed]
  omega
 rw [h2]; omega
theorem next_ok (hc : CodeOk c) (ha : 0 ≤ a ∧ a ≤ 1000000000) : Tot (spec_l1Cur_next.f k c a s) (fun r => (0 ≤ r.1 ∧ r.1 ≤ 255) ∧ r.2.1 = a + 1) := by
 unfold spec_l1Cur_next.f
 obtain ⟨h0, h1⟩ := ha
 have hw : w64 (a + 1) = a + 1 := w64_id (by omega) (by omega)
 refine Tot.bind (P := fun y => 0 ≤ y ∧ y ≤ 255) ?_ fun y hy => ?_
 ·refine Tot.ite (fun h => ?_) (fun h => Tot.ret (by omega))
  refine Tot.bind (Tot.rdl h0 (by simpa using h)) fun x hx => Tot.ret ?_
  have := hc.2 x hx
  have e : IntKind.i64.wrap x.v = x.v := w64_id (by omega) (by omega)
  rw [e]; exact this
 ·rw [hw]
  refine Tot.ite (fun h => Tot.ret ⟨hy, rfl⟩) (fun h => Tot.ret ⟨?_, rfl⟩)
  have := uand255 (shr (wU (wU (wU (s * 6364136223846793005) + IntKind.u64.wrap y) + 462197)) 40)
  have e : ∀ z : Int, 0 ≤ z ∧ z ≤ 255 → IntKind.i64.wrap z = z := fun z hz => w64_id (by omega) (by omega)
  simp only
  rw [e _ this]; exact this
theorem pick_ok (hc : CodeOk c) (ha : Pos a) (n : Int) : Tot (spec_l1Cur_pick.f k c a s n) (fun r => 0 ≤ r.1 ∧ (r.1 < n ∨ r.1 = 0) ∧ a ≤ r.2.1 ∧ r.2.1 ≤ a + 2) := by
 unfold spec_l1Cur_pick.f
 refine Tot.ite (fun h => Tot.ret ⟨by simp, .inr rfl, by simp only; omega⟩) (fun h => ?_)
 have h' : 1 < n := by simpa using h
 have hp := ha
 unfold Pos at hp
 refine Tot.bind (next_ok hc (by omega)) ?_
 rintro ⟨x, a1, s1⟩ ⟨h1, h2⟩
 simp only at h1 h2 ⊢
 refine Tot.bind (P := fun r => 0 ≤ r.1 ∧ a ≤ r.2.1 ∧ r.2.1 ≤ a + 2) ?_ ?_
 ·refine Tot.ite (fun h => ?_) (fun h => Tot.ret (by simp only; omega))
  refine Tot.bind (next_ok hc (a := a1) (by omega)) ?_
  rintro ⟨x2, a2, s2⟩ ⟨h3, h4⟩
  simp only at h3 h4 ⊢
  refine Tot.ret ?_
  have e1 : w64 (x * 256) = x * 256 := w64_id (by omega) (by omega)
  rw [e1]
  have e2 : w64 (x * 256 + x2) = x * 256 + x2 := w64_id (by omega) (by omega)
  rw [e2]; simp only; omega
 ·rintro ⟨y, a2, s2⟩ ⟨h3, h4⟩
  simp only at h3 h4 ⊢
  rw [if_pos (by omega)]
  refine Tot.ret ⟨?_, .inl ?_, h4⟩
  ·exact Int.tmod_nonneg _ h3
  ·exact Int.tmod_lt_of_pos _ (by omega)
theorem one_ok (hc : CodeOk c) (ha : Pos a) (n : Int) : Tot (spec_l1Cur_one.f k c a s n) (fun r => a ≤ r.2.1 ∧ r.2.1 ≤ a + 2) := by
 unfold spec_l1Cur_one.f
 refine Tot.bind (pick_ok hc ha n) ?_
 rintro ⟨x, a1, s1⟩ ⟨_, _, h⟩
 exact Tot.ret h
theorem among_ok (hc : CodeOk c) (ha : Pos a) (l : List Int) (hl : l ≠ []) : Tot (spec_l1Cur_among.f k c a s l) (fun r => r.1 ∈ l ∧ a ≤ r.2.1 ∧ r.2.1 ≤ a + 2) := by
 unfold spec_l1Cur_among.f
 have hp : 0 < l.length := List.length_pos_iff.2 hl
 refine Tot.bind (pick_ok hc ha _) ?_
 rintro ⟨x, a1, s1⟩ ⟨h0, h1, h⟩
 simp only at h0 h1 h ⊢
 refine Tot.bind (Tot.rdl h0 (by omega)) fun t ht => Tot.ret ⟨ht, h⟩
theorem few_ok (hk : Big ≤ k) (hc : CodeOk c) (ha : Pos (a + 100)) (h0 : 0 ≤ a) (n : Int) : Tot (spec_l1Cur_few.f k c a s n) (fun r => a ≤ r.2.1 ∧ r.2.1 ≤ a + 6) := by
 unfold spec_l1Cur_few.f
 refine Tot.bind (among_ok hc (by unfold Pos at *; omega) _ (by simp)) ?_
 rintro ⟨x, a1, s1⟩ ⟨hm, h⟩
 simp only at hm h ⊢
 have hx : 0 ≤ x ∧ x ≤ 2 := by simp only [List.mem_cons, List.not_mem_nil, or_false] at hm; omega
 have := Tot.loop (l := fun q (s : Int × Int × Int × Int) => spec_l1Cur_few.l0 k c n q s.1 s.2.1 s.2.2.1 s.2.2.2) (fun s => (0 ≤ s.2.1 ∧ s.2.1 ≤ 2) ∧ a ≤ s.2.2.1 ∧ s.2.2.1 + 2 * s.2.1 ≤ a + 6) (fun s => s.2.1.toNat) (fun r => a ≤ r.2.1 ∧ r.2.1 ≤ a + 6) (fun q s hI ih => by
  obtain ⟨z, m, b, s'⟩ := s
  obtain ⟨e1, e2, e3⟩ := hI
  simp only at e1 e2 e3 ih ⊢
  rw [spec_l1Cur_few.l0]
  refine Tot.ite (fun g => ?_) (fun g => Tot.ret (by simp only; omega))
  have hm : 0 < m := by simpa using g
  refine Tot.bind (pick_ok hc (by unfold Pos at *; omega) _) ?_
  rintro ⟨t, b1, s2⟩ ⟨f1, _, f2⟩
  simp only at f1 f2 ⊢
  rw [if_pos (by omega), show w64 (m - 1) = m - 1 from w64_id (by omega) (by omega)]
  exact ih (_, m - 1, b1, s2) ⟨by simp only; omega, by simp only; omega, by simp only; omega⟩ (by simp only; omega)) k (0, x, a1, s1) (by simp only; unfold Big at hk; omega) ⟨hx, by simp only; omega, by simp only; omega⟩
 refine Tot.bind this ?_
 rintro ⟨r, b, s2⟩ h
 exact Tot.ret h
theorem colours_ok (hk : Big ≤ k) (hc : CodeOk c) (ha : Pos (a + 100)) (h0 : 0 ≤ a) : Tot (spec_l1Cur_colours.f k c a s) (fun r => (-1 ≤ r.1 ∧ r.1 ≤ 4611686018427387904) ∧ a ≤ r.2.1 ∧ r.2.1 ≤ a + 10) := by
 unfold spec_l1Cur_colours.f
 refine Tot.bind (one_ok hc (by unfold Pos at *; omega) _) ?_
 rintro ⟨b, a1, s1⟩ h
 simp only at h ⊢
 refine Tot.ite (fun g => ?_) (fun g => ?_)
 ·refine Tot.bind (among_ok hc (by unfold Pos at *; omega) _ (by simp)) ?_
  rintro ⟨x, a2, s2⟩ ⟨hm, h'⟩
  simp only at hm h' ⊢
  refine Tot.ret ⟨?_, by simp only; omega⟩
  simp only [List.mem_cons, List.not_mem_nil, or_false] at hm; simp only; omega
 ·refine Tot.bind (pick_ok hc (by unfold Pos at *; omega) _) ?_
  rintro ⟨x, a2, s2⟩ ⟨g1, g2, h'⟩
  simp only at g1 g2 h' ⊢
  have := Tot.loop (l := fun q (s : Int × Int × Int × Int) => spec_l1Cur_colours.l0 k c q s.1 s.2.1 s.2.2.1 s.2.2.2) (fun s => (0 ≤ s.1 ∧ s.1 ≤ 63) ∧ (0 ≤ s.2.1 ∧ s.2.1 ≤ 3) ∧ a ≤ s.2.2.1 ∧ s.2.2.1 + 2 * s.2.1 ≤ a + 10) (fun s => s.2.1.toNat) (fun r => (0 ≤ r.1 ∧ r.1 ≤ 63) ∧ a ≤ r.2.1 ∧ r.2.1 ≤ a + 10) (fun q s hI ih => by
   obtain ⟨z, m, b, s'⟩ := s
   obtain ⟨e0, e1, e2, e3⟩ := hI
   simp only at e0 e1 e2 e3 ih ⊢
   rw [spec_l1Cur_colours.l0]
   refine Tot.ite (fun g => ?_) (fun g => Tot.ret ⟨e0, by simp only; omega⟩)
   have hm : 0 < m := by simpa using g
   refine Tot.bind (pick_ok hc (by unfold Pos at *; omega) _) ?_
   rintro ⟨t, b1, s2⟩ ⟨f1, f3, f2⟩
   simp only at f1 f2 f3 ⊢
   obtain ⟨t, rfl⟩ := Int.eq_ofNat_of_zero_le f1
   have hsh : 0 ≤ shl 1 (t : Int) ∧ shl 1 (t : Int) ≤ 63 := by
    rw [shl_one (by omega)]
    have h32 : 2 ^ t ≤ 2 ^ 5 := Nat.pow_le_pow_right (by omega) (by omega)
    generalize 2 ^ t = w at h32 ⊢
    omega
   rw [if_pos (by omega), show w64 (m - 1) = m - 1 from w64_id (by omega) (by omega)]
   exact ih (_, m - 1, b1, s2) ⟨(bor_le63 e0 hsh).1, by simp only; omega, by simp only; omega, by simp only; omega⟩ (by simp only; omega)) k (0, x, a2, s2) (by simp only; unfold Big at hk; omega) ⟨by simp, by simp only; omega, by simp only; omega, by simp only; omega⟩
  refine Tot.bind this ?_
  rintro ⟨r, b, s2⟩ ⟨h1, h⟩
  exact Tot.ret ⟨by simp only at h1 ⊢; omega, h⟩
def MzS (n : Int) (d : List Door) (ks : List Int) : Prop := (-1 ≤ n ∧ n ≤ 4611686018427387904) ∧ d.length ≤ 40 ∧ ks.length ≤ 20
theorem putD_ok (hk : Big ≤ k) (d : List Door) (A B C : Int) (hd : d.length ≤ 100) (hs : d.Pairwise DoorLt) : Tot (spec_l2Put.f k d A B C) (fun r => r.Pairwise DoorLt ∧ r.length ≤ d.length + 1) := by
 rw [l2Put_eq hk d A B C (by omega) hs]
 refine Tot.ret ?_
 split
 ·exact ⟨hs, by omega⟩
 ·rename_i h; exact ⟨insD_sorted _ _ hs h, by rw [insD_length]; omega⟩
theorem someMaze_ok (hk : Big ≤ k) (hc : CodeOk c) (ha : Pos (a + 1000)) (h0 : 0 ≤ a) (n : Int) (hn : 1 ≤ n ∧ n ≤ 12) : Tot (spec_l1Cur_someMaze.f k c a s n) (fun r => MzS r.1 r.2.1 r.2.2.1 ∧ a ≤ r.2.2.2.1 ∧ r.2.2.2.1 ≤ a + 300) := by
 have hA : a + 1000 ≤ 100000000 := ha.2
 clear ha
 have P : ∀ x : Int, a ≤ x → x ≤ a + 500 → Pos x := fun x h1 h2 => by unfold Pos; omega
 unfold spec_l1Cur_someMaze.f
 refine Tot.bind (pick_ok hc (P _ (by omega) (by omega)) _) ?_
 rintro ⟨m, a1, s1⟩ ⟨g1, g2, g3⟩
 simp only at g1 g2 g3 ⊢
 have hm : w64 (1 + m) = 1 + m := w64_id (by omega) (by omega)
 -- the nodes
 have L0 := Tot.loop (l := fun q (s : Int × Int × List Door × List Int × Int × Int) => spec_l1Cur_someMaze.l0 k c n m q s.1 s.2.1 s.2.2.1 s.2.2.2.1 s.2.2.2.2.1 s.2.2.2.2.2)
  (fun s => (0 ≤ s.2.1 ∧ s.2.1 ≤ 13) ∧ (s.2.2.1.Pairwise DoorLt ∧ (s.2.2.1.length : Int) ≤ s.2.1) ∧ ((s.2.2.2.1.length : Int) = s.2.1 ∧ s.2.2.2.1.length ≤ n.toNat) ∧ a ≤ s.2.2.2.2.1 ∧ s.2.2.2.2.1 ≤ a + 2 + 14 * s.2.1) (fun s => (13 - s.2.1).toNat)
  (fun r => (r.2.2.1.Pairwise DoorLt ∧ r.2.2.1.length ≤ 13) ∧ r.2.2.2.length = n.toNat ∧ a ≤ r.1 ∧ r.1 ≤ a + 184) (fun q s hI ih => by
  obtain ⟨z, i, d, ks, b, s'⟩ := s
  obtain ⟨e1, ⟨e2, e3⟩, ⟨e4, e4'⟩, e5, e6⟩ := hI
  simp only at e1 e2 e3 e4 e4' e5 e6 ih ⊢
  rw [spec_l1Cur_someMaze.l0]
  refine Tot.bind (P := fun y => y = true ↔ i < n ∧ i < 13) ?_ ?_
  ·refine Tot.ite (fun h => Tot.ret ?_) (fun h => Tot.ret ?_)
   ·have : i < n := by simpa using h
    simp [this]
   ·have : ¬ i < n := by simpa using h
    simp [this]
  intro y hy
  refine Tot.ite (fun h => ?_) (fun h => Tot.ret ⟨⟨e2, by simp only; omega⟩, ?_, e5, by simp only; omega⟩)
  rotate_left 1
  ·have : ¬ (i < n ∧ i < 13) := fun hh => h (hy.2 hh)
   simp only; omega
  have hi := hy.1 h
  refine Tot.bind (one_ok hc (P _ (by omega) (by omega)) _) ?_
  rintro ⟨o, b1, s1⟩ f1
  simp only at f1 ⊢
  refine Tot.bind (P := fun r => a ≤ r.2.1 ∧ r.2.1 ≤ a + 2 + 14 * i + 4) ?_ ?_
  ·refine Tot.ite (fun h => ?_) (fun h => Tot.ret (by simp only; omega))
   refine Tot.bind (pick_ok hc (P _ (by omega) (by omega)) _) ?_
   rintro ⟨t, b2, s2⟩ ⟨f2, f3, f4⟩
   simp only at f2 f3 f4 ⊢
   rw [if_pos (by omega)]
   exact Tot.ret (by simp only; omega)
  rintro ⟨y9, b2, s2⟩ f2
  simp only at f2 ⊢
  rw [if_pos (by simp; omega)]
  refine Tot.bind (P := fun r => (r.2.2.Pairwise DoorLt ∧ (r.2.2.length : Int) ≤ i + 1) ∧ a ≤ r.1 ∧ r.1 ≤ a + 2 + 14 * i + 14) ?_ ?_
  ·refine Tot.ite (fun h => ?_) (fun h => Tot.ret ⟨⟨e2, by simp only; omega⟩, by simp only; omega⟩)
   refine Tot.bind (few_ok hk hc (by unfold Pos; omega) (by omega) _) ?_
   rintro ⟨t, b3, s3⟩ f3
   simp only at f3 ⊢
   refine Tot.bind (one_ok hc (P _ (by omega) (by omega)) _) ?_
   rintro ⟨o2, b4, s4⟩ f4
   simp only at f4 ⊢
   refine Tot.bind (P := fun _ => True) (Tot.ite (fun h => Tot.ret trivial) (fun h => Tot.ret trivial)) ?_
   intro y10 _
   refine Tot.bind (pick_ok hc (P _ (by omega) (by omega)) _) ?_
   rintro ⟨t5, b5, s5⟩ ⟨_, _, f5⟩
   simp only at f5 ⊢
   refine Tot.bind (putD_ok hk d _ _ _ (by omega) e2) ?_
   intro d2 f6
   exact Tot.ret ⟨⟨f6.1, by have := f6.2; simp only; omega⟩, by simp only; omega⟩
  rintro ⟨b3, s3, d2⟩ ⟨⟨f3, f4⟩, f5⟩
  simp only at f3 f4 f5 ⊢
  rw [show w64 (i + 1) = i + 1 from w64_id (by omega) (by omega)]
  exact ih (_, i + 1, d2, ks ++ [y9], b3, s3) ⟨by simp only; omega, ⟨f3, by simp only; omega⟩, ⟨by simp; omega, by simp; omega⟩, f5.1, by simp only; omega⟩ (by simp only; omega)) k (0, 0, [], [], a1, s1) (by simp only; unfold Big at hk; omega) ⟨by simp, ⟨.nil, by simp⟩, ⟨by simp, by simp⟩, by simp only; omega, by simp only; omega⟩
 refine Tot.bind L0 ?_
 rintro ⟨a2, s2, d, ks⟩ ⟨⟨d1, d2⟩, k1, p1, p2⟩
 simp only at d1 d2 k1 p1 p2 ⊢
 refine Tot.bind (pick_ok hc (P _ (by omega) (by omega)) _) ?_
 rintro ⟨m2, a3, s3⟩ ⟨j1, j2, j3⟩
 simp only at j1 j2 j3 ⊢
 -- more doors
 have L1 := Tot.loop (l := fun q (s : Int × Int × Int × List Door) => spec_l1Cur_someMaze.l1 k c n m q s.1 s.2.1 s.2.2.1 s.2.2.2)
  (fun s => (0 ≤ s.1 ∧ s.1 ≤ 5) ∧ (s.2.2.2.Pairwise DoorLt ∧ (s.2.2.2.length : Int) + s.1 ≤ 18) ∧ a ≤ s.2.1 ∧ s.2.1 + 10 * s.1 ≤ a + 236) (fun s => s.1.toNat)
  (fun r => r.2.2.length ≤ 18 ∧ a ≤ r.1 ∧ r.1 ≤ a + 236) (fun q s hI ih => by
  obtain ⟨i, b, s', d⟩ := s
  obtain ⟨e1, ⟨e2, e3⟩, e5, e6⟩ := hI
  simp only at e1 e2 e3 e5 e6 ih ⊢
  rw [spec_l1Cur_someMaze.l1]
  refine Tot.bind (P := fun y => y = true → i > 0) ?_ ?_
  ·refine Tot.ite (fun h => ?_) (fun h => Tot.ret (by simp))
   have : i > 0 := by simpa using h
   exact Tot.ite (fun h => Tot.ret fun _ => this) (fun h => Tot.ret fun _ => this)
  intro y hy
  refine Tot.ite (fun h => ?_) (fun h => Tot.ret ⟨by simp only; omega, e5, by simp only; omega⟩)
  have hi := hy h
  refine Tot.bind (pick_ok hc (P _ (by omega) (by omega)) _) ?_
  rintro ⟨t1, b1, s1⟩ ⟨_, _, f1⟩
  simp only at f1 ⊢
  refine Tot.bind (pick_ok hc (P _ (by omega) (by omega)) _) ?_
  rintro ⟨t2, b2, s2⟩ ⟨_, _, f2⟩
  simp only at f2 ⊢
  refine Tot.bind (P := fun r => (r.2.2.Pairwise DoorLt ∧ (r.2.2.length : Int) + i ≤ 19) ∧ a ≤ r.1 ∧ r.1 + 10 * i ≤ a + 246) ?_ ?_
  ·refine Tot.ite (fun h => ?_) (fun h => Tot.ret ⟨⟨e2, by simp only; omega⟩, by simp only; omega⟩)
   refine Tot.bind (few_ok hk hc (by unfold Pos; omega) (by omega) _) ?_
   rintro ⟨t3, b3, s3⟩ f3
   simp only at f3 ⊢
   refine Tot.bind (putD_ok hk d _ _ _ (by omega) e2) ?_
   intro d2 f6
   exact Tot.ret ⟨⟨f6.1, by have := f6.2; simp only; omega⟩, by simp only; omega⟩
  rintro ⟨b3, s3, d2⟩ ⟨⟨f3, f4⟩, f5⟩
  simp only at f3 f4 f5 ⊢
  rw [show w64 (i - 1) = i - 1 from w64_id (by omega) (by omega)]
  exact ih (i - 1, b3, s3, d2) ⟨by simp only; omega, ⟨f3, by simp only; omega⟩, f5.1, by simp only; omega⟩ (by simp only; omega)) k (m2, a3, s3, d) (by simp only; unfold Big at hk; omega) ⟨by simp only; omega, ⟨d1, by simp only; omega⟩, by simp only; omega, by simp only; omega⟩
 refine Tot.bind L1 ?_
 rintro ⟨a4, s4, e⟩ ⟨d3, p3, p4⟩
 simp only at d3 p3 p4 ⊢
 refine Tot.bind (pick_ok hc (P _ (by omega) (by omega)) _) ?_
 rintro ⟨m3, a5, s5⟩ ⟨_, _, j4⟩
 simp only at j4 ⊢
 have hn1 : w64 (n + 1) = n + 1 := w64_id (by omega) (by omega)
 refine Tot.ite (fun g => ?_) (fun _ => Tot.ite (fun g => ?_) (fun _ => Tot.ite (fun g => ?_) (fun _ => Tot.ite (fun g => ?_) (fun _ => Tot.ite (fun g => ?_) (fun _ => ?_)))))
 ·refine Tot.bind (among_ok hc (P _ (by omega) (by omega)) _ (by simp)) ?_
  rintro ⟨t, b, s6⟩ ⟨hm, h'⟩
  simp only [List.mem_cons, List.not_mem_nil, or_false, hn1] at hm
  simp only at h' ⊢
  exact Tot.ret ⟨⟨by simp only; omega, by simp only; omega, by simp only; omega⟩, by simp only; omega⟩
 ·refine Tot.bind (P := fun r => r.2.2.length ≤ 18 ∧ a ≤ r.1 ∧ r.1 ≤ a + 240) ?_ ?_
  ·refine Tot.ite (fun h => ?_) (fun h => Tot.ret ⟨d3, by simp only; omega⟩)
   have he : 0 < (e.length : Int) := by simpa using h
   refine Tot.bind (pick_ok hc (P _ (by omega) (by omega)) _) ?_
   rintro ⟨t, b, s6⟩ ⟨h1, h2, h3⟩
   simp only at h1 h2 h3 ⊢
   have hb : t < (e.length : Int) := by omega
   refine Tot.bind (Tot.rdl h1 hb) fun _ _ => Tot.bind (Tot.rdl h1 hb) fun _ _ => Tot.bind (Tot.rdl h1 hb) fun _ _ => Tot.ret ⟨by simpa using d3, by simp only; omega⟩
  rintro ⟨b, s6, e'⟩ ⟨h1, h2⟩
  exact Tot.ret ⟨⟨by simp only; omega, by simp only at h1 ⊢; omega, by simp only; omega⟩, by simp only at h2 ⊢; omega⟩
 ·refine Tot.bind (P := fun r => r.2.2.length = ks.length ∧ a ≤ r.1 ∧ r.1 ≤ a + 242) ?_ ?_
  ·refine Tot.ite (fun h => ?_) (fun h => Tot.ret ⟨rfl, by simp only; omega⟩)
   have he : 0 < (ks.length : Int) := by simpa using h
   refine Tot.bind (P := fun r => r.2.2.length = ks.length ∧ a ≤ r.1 ∧ r.1 ≤ a + 242) ?_ fun r hr => Tot.ret hr
   refine Tot.bind (pick_ok hc (P _ (by omega) (by omega)) _) ?_
   rintro ⟨t, b, s6⟩ ⟨h1, h2, h3⟩
   simp only at h1 h2 h3 ⊢
   refine Tot.bind (among_ok hc (P _ (by omega) (by omega)) _ (by simp)) ?_
   rintro ⟨t2, b2, s7⟩ ⟨_, h4⟩
   simp only at h4 ⊢
   refine Tot.bind (Tot.rdl h1 (by omega)) fun _ _ => Tot.ret ⟨by simp, by simp only; omega⟩
  rintro ⟨b, s6, e'⟩ ⟨h1, h2⟩
  exact Tot.ret ⟨⟨by simp only; omega, by simp only; omega, by simp only at h1 ⊢; omega⟩, by simp only at h2 ⊢; omega⟩
 ·refine Tot.bind (P := fun r => r.length ≤ 19) ?_ ?_
  ·refine Tot.ite (fun h => ?_) (fun h => Tot.ret (by omega))
   have he : 0 < (e.length : Int) := by simpa using h
   refine Tot.bind (Tot.rdl (Int.le_refl 0) he) fun x _ => ?_
   rw [if_pos (by simp; omega)]
   exact Tot.ret (by simp; omega)
  intro e' h1
  exact Tot.ret ⟨⟨by simp only; omega, by simp only; omega, by simp only; omega⟩, by simp only; omega⟩
 ·exact Tot.ret ⟨⟨by simp, by simp, by simp⟩, by simp only; omega⟩
 ·exact Tot.ret ⟨⟨by simp only; omega, by simp only; omega, by simp only; omega⟩, by simp only; omega⟩
theorem least_ok (x y : Int) : spec_l1Least.f k x y = some (imin x y) := by
 unfold spec_l1Least.f imin
 by_cases c : x < y
 ·rw [if_pos (by simpa using c), if_neg (by omega)]
 ·rw [if_neg (by simpa using c)]; split
  ·rfl
  ·congr 1; omega
theorem most_ok (x y : Int) : spec_l1Most.f k x y = some (imax x y) := by
 unfold spec_l1Most.f imax
 by_cases c : x > y
 ·rw [if_pos (by simpa using c)]; split <;> first | rfl | (congr 1; omega)
 ·rw [if_neg (by simpa using c)]; split <;> first | rfl | (congr 1; omega)
theorem nodeOf_ok (hc : CodeOk c) (ha : Pos (a + 100)) (h0 : 0 ≤ a) (n : Int) (d : List Door) (ks : List Int) (hn : -1 ≤ n ∧ n ≤ 4611686018427387904) : Tot (spec_l1Cur_nodeOf.f k c a s n d ks) (fun r => (-1 ≤ r.1 ∧ r.1 ≤ 4611686018427387904) ∧ a ≤ r.2.1 ∧ r.2.1 ≤ a + 4) := by
 unfold spec_l1Cur_nodeOf.f
 refine Tot.bind (one_ok hc (by unfold Pos at *; omega) _) ?_
 rintro ⟨b, a1, s1⟩ h
 simp only at h ⊢
 refine Tot.ite (fun g => ?_) (fun g => ?_)
 ·refine Tot.bind (among_ok hc (by unfold Pos at *; omega) _ (by simp)) ?_
  rintro ⟨x, a2, s2⟩ ⟨hm, h'⟩
  simp only [List.mem_cons, List.not_mem_nil, or_false] at hm
  simp only at h' ⊢
  exact Tot.ret ⟨by simp only; omega, by simp only; omega⟩
 ·rw [least_ok, Option.bind_some, most_ok, Option.bind_some]
  refine Tot.bind (pick_ok hc (by unfold Pos at *; omega) _) ?_
  rintro ⟨x, a2, s2⟩ ⟨g1, g2, h'⟩
  simp only at g1 g2 h' ⊢
  refine Tot.ret ⟨?_, by simp only; omega⟩
  have : imax (imin n 12) 1 ≤ 12 := by unfold imax imin; split <;> split <;> omega
  simp only; omega

variable {k : Nat} {c : List By} {a s : Int}

theorem vInts_eq (hk : Big ≤ k) (x y : List Int) (hx : x.length ≤ 1048576) : laws_vInts.f k x y = some (decide (x = y)) := by
 unfold laws_vInts.f
 by_cases h : x.length = y.length
 ·rw [if_neg (by simp; omega), loop_eq (l := laws_vInts.l0 k x y) h (fun n i hi => by
   rw [laws_vInts.l0]
   have h1 : ((i : Int) < (x.length : Int)) := by omega
   have hw : w64 ((i : Int) + 1) = ((i + 1 : Nat) : Int) := w64_id (by omega) (by omega)
   simp only [h1, decide_true, if_true, rdl_lt hi, rdl_lt (h ▸ hi), Option.bind_some, hw]
   by_cases h2 : x[i] = y[i] <;> simp [h2]) (fun n => by rw [laws_vInts.l0]; simp) (by unfold Big at hk; omega), Option.bind_some, Lr_ite]
  by_cases h2 : x = y <;> simp [h2]
 ·rw [if_pos (by simp; omega)]
  have : x ≠ y := fun e => h (by rw [e])
  simp [this]
theorem vPairs_eq (hk : Big ≤ k) (x y : List (Int × Int)) (hx : x.length ≤ 1048576) : laws_vPairs.f k x y = some (decide (x = y)) := by
 unfold laws_vPairs.f
 by_cases h : x.length = y.length
 ·rw [if_neg (by simp; omega), loop_eq (l := laws_vPairs.l0 k x y) h (fun n i hi => by
   rw [laws_vPairs.l0]
   have h1 : ((i : Int) < (x.length : Int)) := by omega
   have hw : w64 ((i : Int) + 1) = ((i + 1 : Nat) : Int) := w64_id (by omega) (by omega)
   simp only [h1, decide_true, if_true, rdl_lt hi, rdl_lt (h ▸ hi), Option.bind_some, hw]
   by_cases h2 : x[i] = y[i] <;> simp [h2]) (fun n => by rw [laws_vPairs.l0]; simp) (by unfold Big at hk; omega), Option.bind_some, Lr_ite]
  by_cases h2 : x = y <;> simp [h2]
 ·rw [if_pos (by simp; omega)]
  have : x ≠ y := fun e => h (by rw [e])
  simp [this]
theorem rHas_eq (hk : Big ≤ k) (x : List Int) (y : Int) (hx : x.length ≤ 1048576) : laws_rHas.f k x y = some (x.contains y) := by
 unfold laws_rHas.f
 have := Tot.loop (l := fun q (i : Nat) => laws_rHas.l0 k x y q (i : Int)) (fun i => i ≤ x.length ∧ ∀ j (h : j < x.length), j < i → x[j] ≠ y) (fun i => x.length - i) (fun r => r = if x.contains y then .inr true else .inl ()) (fun q i hI ih => by
  obtain ⟨h1, h2⟩ := hI
  rw [laws_rHas.l0]
  by_cases hi : i < x.length
  ·rw [if_pos (by simpa using hi), rdl_lt hi, Option.bind_some]
   by_cases e : x[i] = y
   ·rw [if_pos (by simpa using e)]
    refine Tot.ret ?_
    rw [if_pos (by rw [List.contains_iff_mem, ← e]; exact List.getElem_mem hi)]
   ·rw [if_neg (by simpa using e), show w64 ((i : Int) + 1) = ((i + 1 : Nat) : Int) from w64_id (by omega) (by omega)]
    refine ih (i + 1) ⟨by omega, fun j h hj => ?_⟩ (by omega)
    rcases Nat.eq_or_lt_of_le (Nat.le_of_lt_succ hj) with rfl | h'
    ·exact e
    ·exact h2 j h h'
  ·rw [if_neg (by simpa using hi)]
   refine Tot.ret ?_
   rw [if_neg]
   rw [List.contains_iff_mem]
   intro hm
   obtain ⟨j, hj, e⟩ := List.getElem_of_mem hm
   exact h2 j hj (by omega) e) k 0 (by unfold Big at hk; omega) ⟨by omega, fun j _ h => by omega⟩
 obtain ⟨r, h1, rfl⟩ := this
 rw [show ((0 : Nat) : Int) = 0 from rfl] at h1
 rw [h1, Option.bind_some]
 by_cases h : x.contains y = true
 ·rw [if_pos h, h]; rfl
 ·rw [if_neg h]
  have : x.contains y = false := by simpa using h
  rw [this]; rfl
def sumW (l : List Int) : Int := l.foldl (fun s x => w64 (s + x)) 0
theorem vAdd_eq (hk : Big ≤ k) (x : List Int) (hx : x.length ≤ 1048576) : laws_vAdd.f k x = some (sumW x) := by
 unfold laws_vAdd.f
 have := Tot.loop (l := fun q (s : Int × Nat) => laws_vAdd.l0 k x q s.1 (s.2 : Int)) (fun s => s.2 ≤ x.length ∧ (x.drop s.2).foldl (fun s x => w64 (s + x)) s.1 = sumW x) (fun s => x.length - s.2) (fun r => r = sumW x) (fun q s hI ih => by
  obtain ⟨z, i⟩ := s
  obtain ⟨h1, h2⟩ := hI
  simp only at h1 h2 ih ⊢
  rw [laws_vAdd.l0]
  by_cases hi : i < x.length
  ·rw [if_pos (by simpa using hi), rdl_lt hi, Option.bind_some, show w64 ((i : Int) + 1) = ((i + 1 : Nat) : Int) from w64_id (by omega) (by omega)]
   rw [List.drop_eq_getElem_cons hi, List.foldl_cons] at h2
   exact ih (_, i + 1) ⟨by simp only; omega, h2⟩ (by simp only; omega)
  ·rw [if_neg (by simpa using hi)]
   rw [List.drop_of_length_le (by omega)] at h2
   exact Tot.ret h2) k (0, 0) (by simp only; unfold Big at hk; omega) ⟨by simp, by simp [sumW]⟩
 obtain ⟨r, h1, rfl⟩ := this
 simp only at h1
 rw [show ((0 : Nat) : Int) = 0 from rfl] at h1
 rw [h1, Option.bind_some]

theorem wrapU8 (x : Int) : 0 ≤ IntKind.u8.wrap x ∧ IntKind.u8.wrap x ≤ 255 := by
 unfold IntKind.wrap
 simp [IntKind.bits, IntKind.signed]
 omega
theorem wrap64_range (x : Int) : -9223372036854775808 ≤ IntKind.i64.wrap x ∧ IntKind.i64.wrap x < 9223372036854775808 := by
 rw [IntKind.wrap_i64]; omega
theorem vCut_ok (n : Int) (hn : 0 ≤ n ∧ n ≤ 100) (hc : CodeOk c) (hl : c.length ≤ 65536) : ∃ c', laws_vCut.f k c n = some c' ∧ CodeOk c' := by
 unfold laws_vCut.f
 obtain ⟨m, hm, hm2, hm3⟩ : ∃ m : Nat, (if decide (n > (c.length : Int)) = true then some ((c.length : Nat) : Int) else some n) = some (m : Int) ∧ m ≤ c.length ∧ m ≤ 100 := by
  by_cases h : n > (c.length : Int)
  ·exact ⟨c.length, by rw [if_pos (by simpa using h)], Nat.le_refl _, by omega⟩
  ·exact ⟨n.toNat, by rw [if_neg (by simpa using h)]; congr 1; omega, by omega, by omega⟩
 rw [hm, Option.bind_some, slc_suf c m hm2, Option.bind_some, if_pos (by simp; omega), if_pos (by simp; omega)]
 refine ⟨_, rfl, by simp; omega, fun x hx => ?_⟩
 simp only [List.nil_append, List.mem_append, List.mem_singleton] at hx
 rcases hx with hx | rfl
 ·exact hc.2 x (List.mem_of_mem_drop hx)
 ·have := wrapU8 (m : Int)
  simpa using this
theorem code_ok {c : List By} (h : wfd c) (hl : c.length ≤ 65536) : CodeOk c := ⟨by omega, fun x hx => h.2 x hx⟩

theorem bor_range (x y : Int) : -9223372036854775808 ≤ bor x y ∧ bor x y < 9223372036854775808 := by
 unfold bor
 exact wrap64_range _
theorem fill9_ok (hk : Big ≤ k) (hc : CodeOk c) : Tot (spec_l1Cur_fill9.f k c 0 0) (fun r => MzS r.1 r.2.1 r.2.2.1 ∧ (-9223372036854775808 ≤ r.2.2.2.1 ∧ r.2.2.2.1 < 9223372036854775808) ∧ 0 ≤ r.2.2.2.2.1 ∧ r.2.2.2.2.1 ≤ 400) := by
 have P : ∀ x : Int, 0 ≤ x → x ≤ 1000 → Pos x := fun x h1 h2 => by unfold Pos; omega
 unfold spec_l1Cur_fill9.f
 refine Tot.bind (among_ok hc (P 0 (by omega) (by omega)) _ (by simp)) ?_
 rintro ⟨n, a1, s1⟩ ⟨hm, h1⟩
 simp only [List.mem_cons, List.not_mem_nil, or_false] at hm
 simp only at h1 ⊢
 refine Tot.bind (someMaze_ok hk hc (by unfold Pos; omega) (by omega) n (by omega)) ?_
 rintro ⟨n, d, ks, a2, s2⟩ ⟨hM, h2⟩
 simp only at hM h2 ⊢
 have L := Tot.loop (l := fun q (s : Int × Nat) => spec_l1Cur_fill9.l0 k d q s.1 (s.2 : Int)) (fun s => s.2 ≤ d.length ∧ -9223372036854775808 ≤ s.1 ∧ s.1 < 9223372036854775808) (fun s => d.length - s.2) (fun r => -9223372036854775808 ≤ r ∧ r < 9223372036854775808) (fun q s hI ih => by
  obtain ⟨z, i⟩ := s
  obtain ⟨e1, e2⟩ := hI
  simp only at e1 e2 ih ⊢
  rw [spec_l1Cur_fill9.l0]
  have := hM.2.1
  by_cases hi : i < d.length
  ·rw [if_pos (by simpa using hi), rdl_lt hi, Option.bind_some, show w64 ((i : Int) + 1) = ((i + 1 : Nat) : Int) from w64_id (by omega) (by omega)]
   exact ih (_, i + 1) ⟨by simp only; omega, bor_range _ _⟩ (by simp only; omega)
  ·rw [if_neg (by simpa using hi)]; exact Tot.ret e2) k (0, 0) (by simp only; have := hM.2.1; unfold Big at hk; omega) ⟨by simp, by simp⟩
 refine Tot.bind L ?_
 intro set hs
 refine Tot.bind (P := fun r => 0 ≤ r.2.1 ∧ r.2.1 ≤ 304) ?_ ?_
 ·rw [l2Set_eq, Option.bind_some]
  refine Tot.ite (fun h => ?_) (fun h => Tot.ret (by simp only; omega))
  have h' : 0 ≤ set ∧ set ≤ 63 := by simpa using h
  obtain ⟨x, rfl⟩ := Int.eq_ofNat_of_zero_le h'.1
  rw [l2Many_eq hk x (by omega), Option.bind_some]
  refine Tot.ite (fun h => ?_) (fun h => Tot.ret (by simp only; omega))
  refine Tot.bind (one_ok hc (P _ (by omega) (by omega)) _) ?_
  rintro ⟨b, a3, s3⟩ h3
  exact Tot.ret (by simp only at h3 ⊢; omega)
 rintro ⟨b, a3, s3⟩ h3
 simp only at h3 ⊢
 refine Tot.ite (fun h => Tot.ret ⟨hM, hs, by simp only; omega⟩) (fun h => ?_)
 refine Tot.bind (one_ok hc (P _ (by omega) (by omega)) _) ?_
 rintro ⟨b2, a4, s4⟩ h4
 simp only at h4 ⊢
 refine Tot.ite (fun h => ?_) (fun h => ?_)
 ·refine Tot.bind (colours_ok hk hc (P _ (by omega) (by omega)) (by omega)) ?_
  rintro ⟨x, a5, s5⟩ ⟨h5, h6⟩
  exact Tot.ret ⟨hM, by simp only at h5 ⊢; omega, by simp only at h6 ⊢; omega⟩
 ·refine Tot.bind (among_ok hc (P _ (by omega) (by omega)) _ (by simp)) ?_
  rintro ⟨x, a5, s5⟩ ⟨h5, h6⟩
  simp only [List.mem_cons, List.not_mem_nil, or_false] at h5
  exact Tot.ret ⟨hM, by simp only; omega, by simp only at h6 ⊢; omega⟩
def I64 (x : Int) : Prop := -9223372036854775808 ≤ x ∧ x < 9223372036854775808
theorem DrawLayKeys_ok (hk : Big ≤ k) (hc : CodeOk c) : Tot (spec_DrawLayKeys.f k c) (fun r => MzS r.1 r.2.1 r.2.2.1 ∧ I64 r.2.2.2.1 ∧ r.2.2.2.2.length ≤ 100) := by
 have P : ∀ x : Int, 0 ≤ x → x ≤ 10000 → Pos x := fun x h1 h2 => by unfold Pos; omega
 unfold spec_DrawLayKeys.f
 refine Tot.bind (fill9_ok hk hc) ?_
 rintro ⟨n, d, ks, x, a1, s1⟩ ⟨hM, hx, h1⟩
 simp only at hM hx h1 ⊢
 rw [l2Set_eq, Option.bind_some]
 refine Tot.bind (P := fun r => r.1.length ≤ 12 ∧ 0 ≤ r.2.1 ∧ r.2.1 ≤ 430) ?_ ?_
 ·refine Tot.ite (fun h => ?_) (fun h => Tot.ret ⟨by simp, by simp only; omega⟩)
  have h' : 0 ≤ x ∧ x ≤ 63 := by simpa using h
  obtain ⟨x, rfl⟩ := Int.eq_ofNat_of_zero_le h'.1
  have h6 := upto_len6 (x := x) (by omega)
  rw [l2Many_eq hk x (by omega), Option.bind_some]
  have L := Tot.loop (l := fun q (s : List Int × Int × Int × Int) => spec_DrawLayKeys.l0 k c n q s.1 s.2.1 s.2.2.1 s.2.2.2) (fun s => (0 ≤ s.2.1 ∧ s.2.1 ≤ 6) ∧ (s.1.length : Int) + s.2.1 ≤ 6 ∧ 0 ≤ s.2.2.1 ∧ s.2.2.1 + 2 * s.2.1 ≤ 412) (fun s => s.2.1.toNat) (fun r => r.2.2.length ≤ 12 ∧ 0 ≤ r.1 ∧ r.1 ≤ 430) (fun q s hI ih => by
   obtain ⟨l, i, b, s'⟩ := s
   obtain ⟨e1, e2, e3, e4⟩ := hI
   simp only at e1 e2 e3 e4 ih ⊢
   rw [spec_DrawLayKeys.l0]
   refine Tot.ite (fun g => ?_) (fun g => Tot.ret ⟨by simp only; omega, by simp only; omega⟩)
   have hi : 0 < i := by simpa using g
   rw [least_ok, Option.bind_some, most_ok, Option.bind_some]
   refine Tot.bind (pick_ok hc (P _ (by omega) (by omega)) _) ?_
   rintro ⟨t, a5, s5⟩ ⟨g0, g1, h6⟩
   simp only at g0 g1 h6 ⊢
   rw [if_pos (by simp; omega), show w64 (i - 1) = i - 1 from w64_id (by omega) (by omega)]
   exact ih (_, i - 1, a5, s5) ⟨by simp only; omega, by simp; omega, by simp only; omega, by simp only; omega⟩ (by simp only; omega)) k ([], ((upto x 12).length : Int), a1, s1) (by simp only; unfold Big at hk; omega) ⟨by simp only; omega, by simp; omega, by simp only; omega, by simp only; omega⟩
  refine Tot.bind L ?_
  rintro ⟨a2, s2, l⟩ ⟨h2, h3⟩
  exact Tot.ret ⟨h2, h3⟩
 rintro ⟨l, a2, s2⟩ ⟨h2, h3⟩
 simp only at h2 h3 ⊢
 refine Tot.bind (pick_ok hc (P _ (by omega) (by omega)) _) ?_
 rintro ⟨t, a3, s3⟩ ⟨_, _, h4⟩
 simp only at h4 ⊢
 refine Tot.bind (P := fun r => r.length ≤ 100) ?_ fun r hr => Tot.ret ⟨hM, hx, hr⟩
 refine Tot.ite (fun g => ?_) (fun g => ?_)
 ·rw [if_pos (by simp; omega)]; exact Tot.ret (by simp; omega)
 ·refine Tot.bind (P := fun r => r.length ≤ 100) ?_ fun r hr => Tot.ret hr
  refine Tot.ite (fun g => ?_) (fun g => Tot.ret (by omega))
  refine Tot.bind (P := fun r => r.length ≤ 100) ?_ fun r hr => Tot.ret hr
  refine Tot.ite (fun g => ?_) (fun g => Tot.ret (by omega))
  have hp : 0 < (l.length : Int) := by simpa using g
  refine Tot.bind (nodeOf_ok hc (P _ (by omega) (by omega)) (by omega) n d ks hM.1) ?_
  rintro ⟨t5, a5, s5⟩ _
  exact Tot.bind (Tot.rdl (Int.le_refl 0) hp) fun _ _ => Tot.ret (by simp; omega)

theorem bor_bit {a b : Int} (ha : 0 ≤ a ∧ a ≤ 63) (hb : 0 ≤ b ∧ b ≤ 63) (t : Nat) : (bor a b).toNat.testBit t = (a.toNat.testBit t || b.toNat.testBit t) := by
 obtain ⟨x, rfl⟩ := Int.eq_ofNat_of_zero_le ha.1
 obtain ⟨y, rfl⟩ := Int.eq_ofNat_of_zero_le hb.1
 rw [bor_nat (by omega) (by omega), Int.toNat_natCast, Int.toNat_natCast, Int.toNat_natCast, Nat.testBit_or]

theorem shl1_bit {c : Int} (h : 0 ≤ c ∧ c ≤ 5) (t : Nat) : (shl 1 c).toNat.testBit t = decide (c = t) := by
 obtain ⟨x, rfl⟩ := Int.eq_ofNat_of_zero_le h.1
 rw [shl_one (by omega), Int.toNat_natCast, Nat.testBit_two_pow]
 exact decide_eq_decide.2 (by omega)
theorem layF_bit {n : Nat} {s : List Int} (hs : KOk n s) {p : Int × Int} (h1 : 0 ≤ p.1 ∧ p.1 < n) (h2 : 0 ≤ p.2 ∧ p.2 ≤ 5) (z t : Nat) :
  ((layF s p).getD z 0).toNat.testBit t = true ↔ (s.getD z 0).toNat.testBit t = true ∨ (p.1 = z ∧ p.2 = t) := by
 unfold layF
 have hl := hs.1
 rw [getD_set]
 by_cases e : p.1.toNat = z ∧ p.1.toNat < s.length
 ·rw [if_pos e, bor_bit (keys_getD hs.2 _) (shl1_le h2), shl1_bit h2, e.1, Bool.or_eq_true, decide_eq_true_eq]
  have : p.1 = z := by omega
  simp [this]
 ·rw [if_neg e]
  constructor
  ·exact .inl
  ·rintro (h | ⟨h, _⟩)
   ·exact h
   ·exact absurd ⟨by omega, by omega⟩ e
theorem layFold_bit {n : Nat} : ∀ (l : List (Int × Int)) (s : List Int), KOk n s → (∀ p ∈ l, (0 ≤ p.1 ∧ p.1 < n) ∧ 0 ≤ p.2 ∧ p.2 ≤ 5) → ∀ z t : Nat,
    ((l.foldl layF s).getD z 0).toNat.testBit t = true ↔ (s.getD z 0).toNat.testBit t = true ∨ ∃ p ∈ l, p.1 = z ∧ p.2 = t
  | [], s, hs, hl, z, t => by simp
  | p :: l, s, hs, hl, z, t => by
    have hp := hl p (List.mem_cons_self ..)
    rw [List.foldl_cons, layFold_bit l _ (hs.lay hp.2) (fun q hq => hl q (List.mem_cons_of_mem _ hq)), layF_bit hs hp.1 hp.2]
    constructor
    · rintro ((h | h) | ⟨q, hq, h⟩)
      · exact .inl h
      · exact .inr ⟨p, List.mem_cons_self .., h⟩
      · exact .inr ⟨q, List.mem_cons_of_mem _ hq, h⟩
    · rintro (h | ⟨q, hq, h⟩)
      · exact .inl (.inl h)
      · rcases List.mem_cons.1 hq with rfl | hq
        · exact .inl (.inr h)
        · exact .inr ⟨q, hq, h⟩
theorem layK_bit {n : Nat} {cs fs : List Int} (h : FOk n cs fs) (z t : Nat) : ((layK n cs fs).getD z 0).toNat.testBit t = true ↔ ∃ p ∈ fs.zip cs, p.1 = z ∧ p.2 = t := by
 unfold layK
 rw [layFold_bit _ _ (KOk.zero n) (fun p hp => ⟨h.nodes _ (List.of_mem_zip (a := p.1) (b := p.2) hp).1, zip_cols h p hp⟩)]
 constructor
 ·rintro (h | h)
  ·rw [List.getD_eq_getElem?_getD, List.getElem?_replicate] at h
   split at h <;> simp at h
  ·exact h
 ·exact .inr

theorem sumW_sum : ∀ (l : List Int) (s : Int), (∀ x ∈ l, 0 ≤ x) → 0 ≤ s → s + l.sum ≤ 4611686018427387904 → l.foldl (fun s x => w64 (s + x)) s = s + l.sum ∧ 0 ≤ l.sum
  | [], s, h, h0, h1 => by simp
  | x :: l, s, h, h0, h1 => by
    have hx := h x (List.mem_cons_self ..)
    have hnn : ∀ (l : List Int), (∀ x ∈ l, 0 ≤ x) → 0 ≤ l.sum := fun l => by
      induction l with
      | nil => intro _; simp
      | cons y l ih => intro h; rw [List.sum_cons]; have := h y (List.mem_cons_self ..); have := ih fun z hz => h z (List.mem_cons_of_mem _ hz); omega
    have hl := hnn l fun z hz => h z (List.mem_cons_of_mem _ hz)
    rw [List.sum_cons] at h1 ⊢
    rw [List.foldl_cons, show w64 (s + x) = s + x from w64_id (by omega) (by omega)]
    have ih := sumW_sum l (s + x) (fun z hz => h z (List.mem_cons_of_mem _ hz)) (by omega) (by omega)
    exact ⟨by rw [ih.1]; omega, by omega⟩
theorem sum_set : ∀ (l : List Int) (i : Nat) (v : Int), i < l.length → (l.set i v).sum = l.sum - l.getD i 0 + v
  | [], i, v, h => by simp at h
  | y :: l, 0, v, h => by simp only [List.set_cons_zero, List.sum_cons, List.getD_cons_zero]; omega
  | y :: l, i + 1, v, h => by
    have := sum_set l i v (by simpa using h)
    simp only [List.set_cons_succ, List.sum_cons, List.getD_cons_succ, this]; omega
section
variable {k : Nat}
theorem ColoursOf_eq (hk : Big ≤ k) (h : Int) : impl_ColoursOf.f k h = some (if 0 ≤ h ∧ h ≤ 63 then (upto h.toNat 12, true) else ([], false)) := by
 unfold impl_ColoursOf.f
 rw [isSet_eq, Option.bind_some]
 by_cases hh : 0 ≤ h ∧ h ≤ 63
 ·obtain ⟨x, rfl⟩ := Int.eq_ofNat_of_zero_le hh.1
  rw [decide_eq_true hh, if_pos hh, if_neg (by simp), members_eq hk x (by omega), Int.toNat_natCast]; rfl
 ·rw [decide_eq_false hh, if_neg hh]; rfl
def AskF (n : Int) (d : List Door) (ks : List Int) (h : Int) (fs : List Int) : Prop := (IsMaze n d ks ∧ 0 ≤ h ∧ h ≤ 63) ∧ FillP n h.toNat fs
instance (n : Int) (d : List Door) (ks : List Int) (h : Int) (fs : List Int) : Decidable (AskF n d ks h fs) := by unfold AskF; infer_instance
theorem askF_eq (hk : Big ≤ k) (n : Int) (d : List Door) (ks : List Int) (h : Int) (fs : List Int) (hd : d.length ≤ 1048576) (hks : ks.length ≤ 1048576) (hf : fs.length ≤ 1048576) :
  ((impl_asked.f k n d ks h).bind fun t10 => (if (!t10) = true then some true else (impl_isFilling.f k n d ks h fs).bind fun t16 => some (!t16))) = some (!decide (AskF n d ks h fs)) := by
 rw [asked_eq hk n d ks h hd hks, Option.bind_some]
 by_cases hT : IsMaze n d ks ∧ 0 ≤ h ∧ h ≤ 63
 ·obtain ⟨x, rfl⟩ := Int.eq_ofNat_of_zero_le hT.2.1
  rw [decide_eq_true hT, if_neg (by simp), isFilling_eq hk hT.1 (by omega) fs hf, Option.bind_some]
  congr 2
  exact decide_eq_decide.2 ⟨fun e => ⟨hT, by rwa [Int.toNat_natCast]⟩, fun e => by have := e.2; rwa [Int.toNat_natCast] at this⟩
 ·rw [decide_eq_false hT, decide_eq_false (fun e : AskF n d ks h fs => hT e.1)]; rfl
theorem depth_ask (hk : Big ≤ k) {n : Int} {d : List Door} {ks : List Int} {h : Int} {fs : List Int} (ha : AskF n d ks h fs) : impl_depth.f k n d ks h fs = some (depthP n d ks h.toNat fs) := by
 have := depth_eq hk ha.1.1.okm (x := h.toNat) (by have := ha.1.2; omega) (ha.2.fok ha.1.1.okm (by have := ha.1.2; omega))
 rwa [show ((h.toNat : Nat) : Int) = h by have := ha.1.2; omega] at this
theorem FillingWins_eq (hk : Big ≤ k) (n : Int) (d : List Door) (ks : List Int) (h : Int) (fs : List Int) (hd : d.length ≤ 1048576) (hks : ks.length ≤ 1048576) (hf : fs.length ≤ 1048576) :
  impl_FillingWins.f k n d ks h fs = some (if AskF n d ks h fs then (decide (depthP n d ks h.toNat fs > 0), true) else (false, false)) := by
 unfold impl_FillingWins.f
 rw [askF_eq hk n d ks h fs hd hks hf, Option.bind_some]
 by_cases ha : AskF n d ks h fs
 ·rw [decide_eq_true ha, if_neg (by simp), if_pos ha, depth_ask hk ha]; rfl
 ·rw [decide_eq_false ha, if_pos (by simp), if_neg ha]
theorem FillingDepth_eq (hk : Big ≤ k) (n : Int) (d : List Door) (ks : List Int) (h : Int) (fs : List Int) (hd : d.length ≤ 1048576) (hks : ks.length ≤ 1048576) (hf : fs.length ≤ 1048576) :
  impl_FillingDepth.f k n d ks h fs = some (if AskF n d ks h fs then (depthP n d ks h.toNat fs, decide (depthP n d ks h.toNat fs > 0)) else (0, false)) := by
 unfold impl_FillingDepth.f
 rw [askF_eq hk n d ks h fs hd hks hf, Option.bind_some]
 by_cases ha : AskF n d ks h fs
 ·rw [decide_eq_true ha, if_neg (by simp), if_pos ha, depth_ask hk ha]; rfl
 ·rw [decide_eq_false ha, if_pos (by simp), if_neg ha]
end

variable {k : Nat} {c : List By} {a s : Int}

def StP (n : Int) (d : List Door) (ks tr : List Int) (x s : Int) : Prop := IsTrapP n d ks tr ∧ (0 ≤ x ∧ x ≤ n - 1) ∧ 0 ≤ s ∧ s ≤ 63
noncomputable instance (n : Int) (d : List Door) (ks tr : List Int) (x s : Int) : Decidable (StP n d ks tr x s) := Classical.propDecidable _

variable {k : Nat}

variable {k : Nat} {c : List By} {a s : Int}
theorem DrawFillingWins_ok (hk : Big ≤ k) (hc : CodeOk c) : Tot (spec_DrawFillingWins.f k c) (fun r => MzS r.1 r.2.1 r.2.2.1 ∧ I64 r.2.2.2.1 ∧ r.2.2.2.2.length ≤ 100) := by
 unfold spec_DrawFillingWins.f
 refine Tot.bind (DrawLayKeys_ok hk hc) ?_
 rintro ⟨n, d, ks, x, l⟩ ⟨hM, hx, hl⟩
 simp only at hM hx hl ⊢
 have hd := hM.2.1
 have hks := hM.2.2
 rw [FirstFilling_spec hk n d ks x (by omega) (by omega), Option.bind_some]
 have hfl := firstP_len n d ks x
 generalize firstP n d ks x = F at hfl ⊢
 obtain ⟨F1, F2⟩ := F
 simp only at hfl ⊢
 refine Tot.bind (P := fun _ => True) ?_ fun b _ => ?_
 ·refine Tot.ite (fun h => ?_) (fun h => Tot.ret trivial)
  refine Tot.bind (one_ok hc (by unfold Pos; omega) _) ?_
  rintro ⟨t, a1, s1⟩ _
  exact Tot.ret trivial
 ·exact Tot.ite (fun h => Tot.ret ⟨hM, hx, by simp only; omega⟩) (fun h => Tot.ret ⟨hM, hx, hl⟩)
theorem DrawSwapFilling_ok (hk : Big ≤ k) (hc : CodeOk c) : Tot (spec_DrawSwapFilling.f k c) (fun r => MzS r.1 r.2.1 r.2.2.1 ∧ I64 r.2.2.2.1 ∧ r.2.2.2.2.1.length ≤ 100) := by
 have P : ∀ x : Int, 0 ≤ x → x ≤ 1000 → Pos x := fun x h1 h2 => by unfold Pos; omega
 unfold spec_DrawSwapFilling.f
 refine Tot.bind (DrawFillingWins_ok hk hc) ?_
 rintro ⟨n, d, ks, x, l⟩ ⟨hM, hx, hl⟩
 simp only at hM hx hl ⊢
 refine Tot.bind (P := fun r => (r.1 = true → 0 ≤ x ∧ x ≤ 63 ∧ 1 < (upto x.toNat 12).length) ∧ 0 ≤ r.2.1 ∧ r.2.1 ≤ 10) ?_ ?_
 ·rw [l2Set_eq, Option.bind_some]
  refine Tot.ite (fun h => ?_) (fun h => Tot.ret ⟨by simp, by simp⟩)
  have h' : 0 ≤ x ∧ x ≤ 63 := by simpa using h
  obtain ⟨x, rfl⟩ := Int.eq_ofNat_of_zero_le h'.1
  rw [l2Many_eq hk x (by omega), Option.bind_some]
  refine Tot.ite (fun h2 => ?_) (fun h2 => Tot.ret ⟨by simp, by simp⟩)
  have h2' : (1 : Int) < ((upto x 12).length : Int) := by simpa using h2
  refine Tot.bind (one_ok hc (P _ (by omega) (by omega)) _) ?_
  rintro ⟨b, a3, s3⟩ h3
  exact Tot.ret ⟨fun _ => ⟨h'.1, h'.2, by rw [Int.toNat_natCast]; omega⟩, by simp only at h3 ⊢; omega⟩
 rintro ⟨b, a3, s3⟩ ⟨hb, h3⟩
 simp only at hb h3 ⊢
 refine Tot.ite (fun h => ?_) (fun h => ?_)
 ·have hb := hb h
  obtain ⟨x, rfl⟩ := Int.eq_ofNat_of_zero_le hb.1
  rw [Int.toNat_natCast] at hb
  rw [colours_eq hk x (by omega), Option.bind_some]
  refine Tot.bind (P := fun r => r.1 = (x : Int) ∧ r.2.2.2 = n) ?_ ?_
  ·refine Tot.bind (pick_ok hc (P _ (by omega) (by omega)) _) ?_
   rintro ⟨t, a5, s5⟩ ⟨g0, g1, h6⟩
   simp only at g0 g1 h6 ⊢
   refine Tot.bind (Tot.rdl g0 (by omega)) fun _ _ => ?_
   refine Tot.bind (pick_ok hc (P _ (by omega) (by omega)) _) ?_
   rintro ⟨t2, a6, s6⟩ ⟨g2, g3, h7⟩
   simp only at g2 g3 h7 ⊢
   exact Tot.bind (Tot.rdl g2 (by omega)) fun _ _ => Tot.ret ⟨rfl, rfl⟩
  rintro ⟨y3, y4, y5, y6⟩ ⟨g1, g2⟩
  simp only at g1 g2
  subst g1; subst g2
  exact Tot.ret ⟨hM, hx, hl⟩
 ·refine Tot.bind (P := fun r => r.1 = x ∧ r.2.2.2 = n) ?_ ?_
  ·refine Tot.bind (pick_ok hc (P _ (by omega) (by omega)) _) ?_
   rintro ⟨t, a5, s5⟩ ⟨_, _, h6⟩
   simp only at h6 ⊢
   refine Tot.bind (among_ok hc (P _ (by omega) (by omega)) _ (by simp)) ?_
   rintro ⟨t2, a6, s6⟩ _
   exact Tot.ret ⟨rfl, rfl⟩
  rintro ⟨y3, y4, y5, y6⟩ ⟨g1, g2⟩
  simp only at g1 g2
  subst g1; subst g2
  exact Tot.ret ⟨hM, hx, hl⟩
theorem vMaze_self (hk : Big ≤ k) (n : Int) (d : List Door) (ks : List Int) (hd : d.length ≤ 1048576) (hks : ks.length ≤ 1048576) : laws_vMaze.f k n d ks n d ks = some true := by
 unfold laws_vMaze.f
 have h := Tot.loop (l := fun q (i : Nat) => laws_vMaze.l0 k d d q (i : Int)) (fun i => i ≤ d.length) (fun i => d.length - i) (fun r => r = Sum.inl ()) (fun q i hI ih => by
  rw [laws_vMaze.l0]
  by_cases hi : i < d.length
  ·rw [if_pos (by simpa using hi), rdl_lt hi]
   simp only [Option.bind_some, decide_true, Bool.not_true, Bool.false_eq_true, if_false]
   rw [show w64 ((i : Int) + 1) = ((i + 1 : Nat) : Int) from w64_id (by omega) (by omega)]
   exact ih (i + 1) (by omega) (by omega)
  ·rw [if_neg (by simpa using hi)]; exact Tot.ret rfl) k 0 (by unfold Big at hk; omega) (by omega)
 obtain ⟨r, h1, rfl⟩ := h
 rw [show ((0 : Nat) : Int) = 0 from rfl] at h1
 simp only [bne_self_eq_false, Bool.false_eq_true, if_false, vInts_eq hk ks ks hks, Option.bind_some, decide_true, Bool.not_true, h1, Lr]
theorem l9Good_eq (hk : Big ≤ k) (n : Int) (d : List Door) (ks : List Int) (h : Int) (fs : List Int) (hd : d.length ≤ 1048576) (hks : ks.length ≤ 1048576) (hf : fs.length ≤ 1048576) :
  spec_l9Good.f k n d ks h fs = some (decide (AskF n d ks h fs)) := by
 unfold spec_l9Good.f
 rw [l9Ask_eq hk n d ks h hd hks, Option.bind_some]
 by_cases hT : IsMaze n d ks ∧ 0 ≤ h ∧ h ≤ 63
 ·obtain ⟨x, rfl⟩ := Int.eq_ofNat_of_zero_le hT.2.1
  have e := l9Filling_eq hk hT.1 (x := x) (by omega) fs hf
  rw [decide_eq_true hT]
  simp only [if_true, e, Option.bind_some]
  congr 1
  exact decide_eq_decide.2 ⟨fun e => ⟨hT, by rwa [Int.toNat_natCast]⟩, fun e => by have := e.2; rwa [Int.toNat_natCast] at this⟩
 ·rw [decide_eq_false hT, decide_eq_false (fun e : AskF n d ks h fs => hT e.1)]; rfl
theorem AskF.nat {n : Int} {d : List Door} {ks : List Int} {h : Int} {fs : List Int} (ha : AskF n d ks h fs) : ((h.toNat : Nat) : Int) = h ∧ h.toNat < 64 := ⟨by have := ha.1.2; omega, by have := ha.1.2; omega⟩
theorem AskF.fok {n : Int} {d : List Door} {ks : List Int} {h : Int} {fs : List Int} (ha : AskF n d ks h fs) : FOk ks.length (upto h.toNat 12) fs := ha.2.fok ha.1.1.okm ha.nat.2
theorem LayKeys_both (hk : Big ≤ k) (n : Int) (d : List Door) (ks : List Int) (h : Int) (fs : List Int) (hd : d.length ≤ 1048576) (hks : ks.length ≤ 1048576) (hf : fs.length ≤ 1048576) :
  impl_LayKeys.f k n d ks h fs = some (if AskF n d ks h fs then (n, d, layK ks.length (upto h.toNat 12) fs, true) else (0, [], [], false)) ∧
  spec_LayKeys.f k n d ks h fs = some (if AskF n d ks h fs then (n, d, layK ks.length (upto h.toNat 12) fs, true) else (0, [], [], false)) := by
 unfold impl_LayKeys.f spec_LayKeys.f
 rw [askF_eq hk n d ks h fs hd hks hf, l9Good_eq hk n d ks h fs hd hks hf, Option.bind_some, Option.bind_some]
 by_cases ha : AskF n d ks h fs
 ·obtain ⟨e, hx⟩ := ha.nat
  have h1 := members_eq hk h.toNat (by omega)
  have h2 := colours_eq hk h.toNat hx
  rw [e] at h1 h2
  rw [decide_eq_true ha, if_pos ha, if_neg (by simp), if_neg (by simp), h1, h2, Option.bind_some, Option.bind_some, laid_eq hk n d ks ha.fok hd hks, l9Lay_eq hk n d ks ha.fok ha.1.1.okm.len hd hks]
  exact ⟨rfl, rfl⟩
 ·rw [decide_eq_false ha, if_neg ha]; exact ⟨rfl, rfl⟩
theorem specFillingWins_eq (hk : Big ≤ k) (n : Int) (d : List Door) (ks : List Int) (h : Int) (fs : List Int) (hd : d.length ≤ 1048576) (hks : ks.length ≤ 1048576) (hf : fs.length ≤ 1048576) :
  spec_FillingWins.f k n d ks h fs = some (if AskF n d ks h fs then (decide (depthP n d ks h.toNat fs > 0), true) else (false, false)) := by
 unfold spec_FillingWins.f
 rw [l9Good_eq hk n d ks h fs hd hks hf, Option.bind_some]
 by_cases ha : AskF n d ks h fs
 ·obtain ⟨e, hx⟩ := ha.nat
  have h1 := l9Depth_eq hk ha.1.1.okm hx ha.fok
  rw [e] at h1
  rw [decide_eq_true ha, if_pos ha, if_neg (by simp), h1]; rfl
 ·rw [decide_eq_false ha, if_neg ha]; rfl
theorem specFillingDepth_eq (hk : Big ≤ k) (n : Int) (d : List Door) (ks : List Int) (h : Int) (fs : List Int) (hd : d.length ≤ 1048576) (hks : ks.length ≤ 1048576) (hf : fs.length ≤ 1048576) :
  spec_FillingDepth.f k n d ks h fs = some (if AskF n d ks h fs then (depthP n d ks h.toNat fs, decide (depthP n d ks h.toNat fs > 0)) else (0, false)) := by
 unfold spec_FillingDepth.f
 rw [l9Good_eq hk n d ks h fs hd hks hf, Option.bind_some]
 by_cases ha : AskF n d ks h fs
 ·obtain ⟨e, hx⟩ := ha.nat
  have h1 := l9Depth_eq hk ha.1.1.okm hx ha.fok
  have h0 := depthP_ge n d ks h.toNat fs
  rw [e] at h1
  rw [decide_eq_true ha, if_pos ha, if_neg (by simp), h1]
  simp only [Option.bind_some]
  by_cases hz : depthP n d ks h.toNat fs = 0
  ·rw [hz]; rfl
  ·rw [if_neg (by simpa using hz), decide_eq_true (show depthP n d ks h.toNat fs > 0 by omega)]
 ·rw [decide_eq_false ha, if_neg ha]; rfl
theorem IsFilling_both (hk : Big ≤ k) (n : Int) (d : List Door) (ks : List Int) (h : Int) (fs : List Int) (hd : d.length ≤ 1048576) (hks : ks.length ≤ 1048576) (hf : fs.length ≤ 1048576) :
  impl_IsFilling.f k n d ks h fs = some (if IsMaze n d ks ∧ 0 ≤ h ∧ h ≤ 63 then (decide (FillP n h.toNat fs), true) else (false, false)) ∧
  spec_IsFilling.f k n d ks h fs = some (if IsMaze n d ks ∧ 0 ≤ h ∧ h ≤ 63 then (decide (FillP n h.toNat fs), true) else (false, false)) := by
 unfold impl_IsFilling.f spec_IsFilling.f
 rw [asked_eq hk n d ks h hd hks, l9Ask_eq hk n d ks h hd hks, Option.bind_some, Option.bind_some]
 by_cases hT : IsMaze n d ks ∧ 0 ≤ h ∧ h ≤ 63
 ·obtain ⟨x, rfl⟩ := Int.eq_ofNat_of_zero_le hT.2.1
  rw [decide_eq_true hT, if_pos hT, if_neg (by simp), if_neg (by simp), isFilling_eq hk hT.1 (by omega) fs hf, l9Filling_eq hk hT.1 (by omega) fs hf, Int.toNat_natCast]
  exact ⟨rfl, rfl⟩
 ·rw [decide_eq_false hT, if_neg hT]; exact ⟨rfl, rfl⟩
def SwF (n : Int) (d : List Door) (ks : List Int) (h : Int) (fs : List Int) (a b : Int) : Prop := AskF n d ks h fs ∧ a ≠ b ∧ a ∈ upto h.toNat 12 ∧ b ∈ upto h.toNat 12
instance (n : Int) (d : List Door) (ks : List Int) (h : Int) (fs : List Int) (a b : Int) : Decidable (SwF n d ks h fs a b) := by unfold SwF; infer_instance
def swF (h : Int) (fs : List Int) (a b : Int) : List Int := swapP fs ((upto h.toNat 12).idxOf a) ((upto h.toNat 12).idxOf b)
theorem SwapFilling_both (hk : Big ≤ k) (n : Int) (d : List Door) (ks : List Int) (h : Int) (fs : List Int) (a b : Int) (hd : d.length ≤ 1048576) (hks : ks.length ≤ 1048576) (hf : fs.length ≤ 1048576) :
  impl_SwapFilling.f k n d ks h fs a b = some (if SwF n d ks h fs a b then (swF h fs a b, true) else ([], false)) ∧ spec_SwapFilling.f k n d ks h fs a b = some (if SwF n d ks h fs a b then (swF h fs a b, true) else ([], false)) := by
 unfold impl_SwapFilling.f spec_SwapFilling.f
 rw [askF_eq hk n d ks h fs hd hks hf, l9Good_eq hk n d ks h fs hd hks hf, Option.bind_some, Option.bind_some]
 by_cases ha : AskF n d ks h fs
 rotate_left 1
 ·rw [decide_eq_false ha, if_neg (show ¬ SwF n d ks h fs a b from fun e => ha e.1)]; exact ⟨rfl, rfl⟩
 obtain ⟨e, hx⟩ := ha.nat
 have h1 := members_eq hk h.toNat (by omega)
 have h2 := colours_eq hk h.toNat hx
 rw [e] at h1 h2
 have h6 := upto_len6 hx
 have hfl := ha.2.1
 rw [decide_eq_true ha]
 simp only [h1, h2, Option.bind_some, Bool.not_true, Bool.false_eq_true, if_false, l1Has_eq hk _ a (show (upto h.toNat 12).length ≤ 1048576 by omega), l1Has_eq hk _ b (show (upto h.toNat 12).length ≤ 1048576 by omega)]
 by_cases hab : a = b
 ·subst hab
  rw [if_neg (show ¬ SwF n d ks h fs a a from fun e => e.2.1 rfl)]
  refine ⟨?_, ?_⟩
  ·by_cases hm : a ∈ upto h.toNat 12
   ·rw [index_mem hk _ (by omega) a hm]; simp
   ·rw [index_not hk _ (by omega) a hm]; simp
  ·simp
 have hab' : (a == b) = false := by simpa using hab
 by_cases hm : a ∈ upto h.toNat 12
 rotate_left 1
 ·rw [if_neg (show ¬ SwF n d ks h fs a b from fun e => hm e.2.2.1)]
  have hc : (upto h.toNat 12).contains a = false := by rw [← Bool.not_eq_true]; exact fun e => hm (List.contains_iff_mem.1 e)
  refine ⟨?_, ?_⟩
  ·rw [index_not hk _ (by omega) a hm, Option.bind_some]
   by_cases hm2 : b ∈ upto h.toNat 12
   ·rw [index_mem hk _ (by omega) b hm2]; simp [hab']
   ·rw [index_not hk _ (by omega) b hm2]; simp [hab']
  ·simp [hab', hm]
 have hc : (upto h.toNat 12).contains a = true := List.contains_iff_mem.2 hm
 by_cases hm2 : b ∈ upto h.toNat 12
 rotate_left 1
 ·rw [if_neg (show ¬ SwF n d ks h fs a b from fun e => hm2 e.2.2.2)]
  have hc2 : (upto h.toNat 12).contains b = false := by rw [← Bool.not_eq_true]; exact fun e => hm2 (List.contains_iff_mem.1 e)
  refine ⟨?_, ?_⟩
  ·rw [index_mem hk _ (by omega) a hm, Option.bind_some, index_not hk _ (by omega) b hm2, Option.bind_some]
   simp [hab']
  ·simp [hab', hm, hm2]
 have hc2 : (upto h.toNat 12).contains b = true := List.contains_iff_mem.2 hm2
 have hi : (upto h.toNat 12).idxOf a < (upto h.toNat 12).length := List.idxOf_lt_length_iff.2 hm
 have hj : (upto h.toNat 12).idxOf b < (upto h.toNat 12).length := List.idxOf_lt_length_iff.2 hm2
 rw [if_pos (show SwF n d ks h fs a b from ⟨ha, hab, hm, hm2⟩), index_mem hk _ (by omega) a hm, index_mem hk _ (by omega) b hm2]
 have hsw := l9Swap_eq hk hx fs hfl _ _ hi hj
 rw [List.getElem_idxOf hi, List.getElem_idxOf hj, e] at hsw
 have p1 : decide ((((upto h.toNat 12).idxOf a : Nat) : Int) < 0) = false := decide_eq_false (by omega)
 have p2 : decide ((((upto h.toNat 12).idxOf b : Nat) : Int) < 0) = false := decide_eq_false (by omega)
 simp only [Option.bind_some, hab', hc, hc2, p1, p2, Bool.false_eq_true, if_false, Bool.not_true, hsw, swapped_eq fs ((upto h.toNat 12).idxOf a) ((upto h.toNat 12).idxOf b) (by omega) (by omega) hf]
 exact ⟨rfl, rfl⟩
theorem swapP_swap {fs : List Int} {i j : Nat} (hi : i < fs.length) (hj : j < fs.length) (hij : i ≠ j) : swapP (swapP fs i j) j i = fs := by
 refine List.ext_getElem (by simp [swapP]) fun t h1 h2 => ?_
 have hl : (swapP fs i j).length = fs.length := swapP_len fs i j
 have g : ∀ u (hu : u < fs.length), (swapP fs i j).getD u 0 = if u = j then fs.getD i 0 else if u = i then fs.getD j 0 else fs.getD u 0 := fun u hu => by
  unfold swapP
  rw [getD_set, getD_set, List.length_set]
  by_cases c1 : j = u
  ·rw [if_pos ⟨c1, hj⟩, if_pos c1.symm]
  ·rw [if_neg (show ¬ (j = u ∧ j < fs.length) from fun e => c1 e.1), if_neg (show ¬ u = j from fun e => c1 e.symm)]
   by_cases c2 : i = u
   ·rw [if_pos ⟨c2, hi⟩, if_pos c2.symm]
   ·rw [if_neg (show ¬ (i = u ∧ i < fs.length) from fun e => c2 e.1), if_neg (show ¬ u = i from fun e => c2 e.symm)]
 have key : (swapP (swapP fs i j) j i).getD t 0 = fs.getD t 0 := by
  generalize hS : swapP fs i j = S at *
  unfold swapP
  rw [getD_set, getD_set, List.length_set, g i hi, g j hj]
  by_cases c1 : i = t
  ·rw [if_pos ⟨c1, by omega⟩, if_pos rfl, c1]
  ·rw [if_neg (fun e => c1 e.1)]
   by_cases c2 : j = t
   ·rw [if_pos ⟨c2, by omega⟩, if_neg hij, if_pos rfl, c2]
   ·rw [if_neg (fun e => c2 e.1), g t h2, if_neg (fun e => c2 e.symm), if_neg (fun e => c1 e.symm)]
 rw [getD_at h1, getD_at h2] at key
 exact key
theorem swapP_sum {fs : List Int} {i j : Nat} (hi : i < fs.length) (hj : j < fs.length) (hij : i ≠ j) : (swapP fs i j).sum = fs.sum := by
 unfold swapP
 rw [sum_set _ _ _ (by rw [List.length_set]; exact hj), sum_set _ _ _ hi, getD_set, if_neg (fun e => hij e.1)]
 omega
theorem nonneg_sum {l : List Int} {m : Int} (h : ∀ x ∈ l, 0 ≤ x ∧ x ≤ m) (hm : 0 ≤ m) : 0 ≤ l.sum ∧ l.sum ≤ m * l.length := by
  induction l with
  | nil => simp
  | cons x l ih =>
    have := ih fun z hz => h z (List.mem_cons_of_mem _ hz)
    have hx := h x (List.mem_cons_self ..)
    rw [List.sum_cons, List.length_cons, Int.natCast_add, Int.mul_add]
    omega
theorem sumW_fill {n : Int} {x : Nat} (hx : x < 64) {fs : List Int} (hn : n ≤ 12) (hf : FillP n x fs) : sumW fs = fs.sum := by
 have h6 := upto_len6 hx
 by_cases h0 : fs = []
 ·subst h0; rfl
 have hn0 : 0 ≤ n - 1 := by
  obtain ⟨z, hz⟩ := List.exists_mem_of_ne_nil _ h0
  have := hf.2 z hz; omega
 have hs := nonneg_sum (l := fs) (m := 11) (fun z hz => by have := hf.2 z hz; omega) (by omega)
 have hl := hf.1
 have := sumW_sum fs 0 (fun z hz => (hf.2 z hz).1) (by omega) (by omega)
 unfold sumW
 rw [this.1]; omega
theorem IsMaze.lay {n : Int} {d : List Door} {ks : List Int} (h : IsMaze n d ks) {K : List Int} (hK : KOk ks.length K) : IsMaze n d K := by
 obtain ⟨h1, h2, h3, h4, h5, h6⟩ := h
 refine ⟨h1, h2, h3, by rw [hK.1]; exact h4, h5, fun i hi => ?_⟩
 unfold setB
 rw [dif_pos hi, decide_eq_true (hK.2 _ (List.getElem_mem hi))]
theorem WinRound_lay (hk : Big ≤ k) {n : Int} {d : List Door} {ks : List Int} {h : Int} {fs : List Int} (ha : AskF n d ks h fs) :
  impl_WinRound.f k n d (layK ks.length (upto h.toNat 12) fs) 0 = some (depthP n d ks h.toNat fs, decide (depthP n d ks h.toNat fs > 0)) := by
 have hK := layK_ok ha.fok
 have hm := ha.1.1.lay hK
 have om := hm.okm
 have hlo := om.lo
 have hhi := om.hi
 have := om.len
 unfold impl_WinRound.f
 have hq : IsMaze n d (layK ks.length (upto h.toNat 12) fs) ∧ (0 : Int) ≤ 0 ∧ (0 : Int) ≤ 63 := ⟨hm, by omega, by omega⟩
 rw [asked_eq hk n d _ 0 om.few (by omega), decide_eq_true hq, Option.bind_some, if_neg (by simp)]
 obtain ⟨e1, e2⟩ := nodeRounds_eq hk om (h := 0) (by omega)
 rw [e1, Option.bind_some, show w64 (n - 1) = n - 1 from w64_id (by omega) (by omega), rdl_getDI (by omega) (by omega) 0, Option.bind_some]
 rfl
noncomputable def goodSw (n : Int) (d : List Door) (ks : List Int) (h : Int) (fs : List Int) : List (Int × Int) × Bool := if AskF n d ks h fs ∧ depthP n d ks h.toNat fs > 0 then (swapsP n d ks h.toNat fs, true) else ([], false)
theorem GoodSwaps_eq (hk : Big ≤ k) (n : Int) (d : List Door) (ks : List Int) (h : Int) (fs : List Int) (hd : d.length ≤ 1048576) (hks : ks.length ≤ 1048576) (hl : fs.length ≤ 1048576) :
  impl_GoodSwaps.f k n d ks h fs = some (goodSw n d ks h fs) := by
 unfold impl_GoodSwaps.f goodSw
 rw [asked_eq hk n d ks h hd hks]
 by_cases hT : IsMaze n d ks ∧ 0 ≤ h ∧ h ≤ 63
 rotate_left 1
 ·rw [decide_eq_false hT, if_neg (show ¬ (AskF n d ks h fs ∧ depthP n d ks h.toNat fs > 0) from fun e => hT e.1.1)]; rfl
 obtain ⟨x, rfl⟩ := Int.eq_ofNat_of_zero_le hT.2.1
 have hx : x < 64 := by omega
 have hm := hT.1
 rw [decide_eq_true hT]
 rw [Int.toNat_natCast]
 simp only [Option.bind_some, Bool.not_true, Bool.false_eq_true, if_false, if_true, isFilling_eq hk hm hx fs hl]
 by_cases hF : FillP n x fs
 rotate_left 1
 ·rw [decide_eq_false hF, if_neg (show ¬ (AskF n d ks (x : Int) fs ∧ depthP n d ks x fs > 0) from fun e => hF (by have := e.1.2; rwa [Int.toNat_natCast] at this))]; rfl
 have ha : AskF n d ks (x : Int) fs := ⟨hT, by rwa [Int.toNat_natCast]⟩
 have h0' := depthP_ge n d ks x fs
 rw [decide_eq_true hF]
 simp only [Bool.not_true, Bool.false_eq_true, if_false, depth_eq hk hm.okm hx (hF.fok hm.okm hx), Option.bind_some]
 by_cases h0 : depthP n d ks x fs = 0
 ·rw [if_pos (by rw [beq_iff_eq]; exact h0), if_neg (show ¬ (AskF n d ks (x : Int) fs ∧ depthP n d ks x fs > 0) from fun e => by have := e.2; omega)]
 ·rw [if_neg (by rw [beq_iff_eq]; exact h0), if_pos (show AskF n d ks (x : Int) fs ∧ depthP n d ks x fs > 0 from ⟨ha, by omega⟩), members_eq hk x (by omega)]
  have e := impl_GoodSwaps_l0 hk hm.okm hx hF
  simp only [Option.bind_some, e.1]
theorem mem_swapAll {P : Nat → Nat → Bool} {C : List Int} (hn : C.Nodup) {i j : Nat} (hij : i < j) (hj : j < C.length) : (C.getD i 0, C.getD j 0) ∈ swapAll P C 0 ↔ P i j = true := by
 have inj : ∀ {u v : Nat}, u < C.length → v < C.length → C.getD u 0 = C.getD v 0 → u = v := fun hu hv e => by
  rw [getD_at hu, getD_at hv] at e
  have := idxOf_at hn hu
  rw [e, idxOf_at hn hv] at this
  exact this.symm
 unfold swapAll swapRow
 rw [List.mem_flatMap]
 constructor
 ·rintro ⟨i', hi', h⟩
  obtain ⟨j', hj', h⟩ := List.mem_filterMap.1 h
  have hi' := List.mem_range'_1.1 hi'
  have hj' := List.mem_range'_1.1 hj'
  unfold swapOne at h
  split at h
  ·rename_i hP
   have h := Option.some.inj h
   have e1 := inj (by omega) (by omega) (congrArg Prod.fst h)
   have e2 := inj (by omega) (by omega) (congrArg Prod.snd h)
   subst e1; subst e2; exact hP
  ·cases h
 ·intro hP
  refine ⟨i, List.mem_range'_1.2 ⟨by omega, by omega⟩, List.mem_filterMap.2 ⟨j, List.mem_range'_1.2 ⟨by omega, by omega⟩, ?_⟩⟩
  unfold swapOne; rw [if_pos hP]
theorem lay_has {n : Int} {d : List Door} {ks : List Int} {h : Int} {fs : List Int} (ha : AskF n d ks h fs) {i : Nat} (hi : i < fs.length) (hi2 : i < (upto h.toNat 12).length) :
  (band (shr ((layK ks.length (upto h.toNat 12) fs).getD fs[i].toNat 0) (upto h.toNat 12)[i]) 1 != 1) = false := by
 have hK := layK_ok ha.fok
 have hv := keys_getD hK.2 fs[i].toNat
 have hc := ha.fok.cols _ (List.getElem_mem hi2)
 have hf := ha.fok.nodes _ (List.getElem_mem hi)
 obtain ⟨v, hv'⟩ := Int.eq_ofNat_of_zero_le hv.1
 obtain ⟨t, ht⟩ := Int.eq_ofNat_of_zero_le hc.1
 have hbit := (layK_bit ha.fok fs[i].toNat t).2 ⟨(fs[i], (upto h.toNat 12)[i]), ?_, by omega, ht⟩
 ·rw [hv'] at hbit ⊢
  rw [ht]
  have := bit1_nat (a := v) (t := t) (by omega) (by omega)
  rw [Int.toNat_natCast] at hbit
  rw [hbit] at this
  simpa using this
 ·have : (fs.zip (upto h.toNat 12))[i]'(by rw [List.length_zip]; omega) = (fs[i], (upto h.toNat 12)[i]) := List.getElem_zip ..
  rw [← this]; exact List.getElem_mem _
theorem laid_loops (hk : Big ≤ k) {n : Int} {d : List Door} {ks : List Int} {h : Int} {fs : List Int} (ha : AskF n d ks h fs) (hd : d.length ≤ 1048576) (hks : ks.length ≤ 1048576) (hfl : fs.length ≤ 1048576)
    (L2 : Int → Int → Nat → Bool → Int → Option Bool) (L1 : Int → Nat → Int → Option (Unit ⊕ Bool)) (L0 : Nat → Int → Option (Unit ⊕ Bool))
    (h2 : ∀ x y q b z, L2 x y (q + 1) b z = (if (decide (z < ((goodSw n d ks h fs).1.length : Int))) = true then ((if b = true then some true else (rdl (goodSw n d ks h fs).1 z).bind fun t364 => (rdl (upto h.toNat 12) x).bind fun t368 => (rdl (upto h.toNat 12) y).bind fun t372 => some (decide ((t364.1, t364.2) = (t368, t372))))).bind fun y47 => L2 x y q y47 (w64 (z + 1)) else some b))
    (h1 : ∀ x q y, L1 x (q + 1) y = ((if (goodSw n d ks h fs).2 = true then some (decide (y < (fs.length : Int))) else some false)).bind fun y329 => (if y329 = true then (rdl (upto h.toNat 12) x).bind fun t338 => (rdl (upto h.toNat 12) y).bind fun t342 => (impl_SwapFilling.f k n d ks h fs t338 t342).bind fun (t344_1, t344_2) => (impl_FillingWins.f k n d ks h t344_1).bind fun (t351_1, t351_2) => (L2 x y k false 0).bind fun x47 => ((if (!t344_2) = true then some true else (if (!t351_2) = true then some true else some (t351_1 != x47)))).bind fun y387 => (if y387 = true then some (Sum.inr false) else L1 x q (w64 (y + 1))) else some (Sum.inl ())))
    (h0 : ∀ q x, L0 (q + 1) x = (if (decide (x < (fs.length : Int))) = true then (rdl fs x).bind fun t310 => (rdl (layK ks.length (upto h.toNat 12) fs) t310).bind fun t312 => (rdl (upto h.toNat 12) x).bind fun t316 => if ¬ t316 < 0 then (if ((band (shr t312 t316) 1) != 1) = true then some (Sum.inr false) else (L1 x k (w64 (x + 1))).bind fun s => Lr s (fun r => some (Sum.inr r)) fun _ => L0 q (w64 (x + 1))) else none else some (Sum.inl ()))) :
    L0 k 0 = some (Sum.inl ()) := by
  obtain ⟨eh, hx⟩ := ha.nat
  have h6 := upto_len6 hx
  have hm := ha.1.1.okm
  have hlen := hm.len
  have hfc := ha.2.1
  have hK := layK_ok ha.fok
  have hnd := lt_nodup (upto_sorted h.toNat 12)
  have key2 : ∀ i j : Nat, i < j → j < (upto h.toNat 12).length → (goodSw n d ks h fs).2 = true → L2 (i : Int) (j : Int) k false 0 = some (decide (depthP n d ks h.toNat (swapP fs i j) > 0)) := fun i j hij hj hg => by
    have hG : (goodSw n d ks h fs).1 = swapsP n d ks h.toNat fs := by
      unfold goodSw at hg ⊢
      split at hg
      · rename_i hh; rw [if_pos hh]
      · cases hg
    have hGl : (goodSw n d ks h fs).1.length ≤ 10000 := by rw [hG]; exact (impl_GoodSwaps_l0 hk hm hx ha.2).2
    have hmem : decide ((((upto h.toNat 12).getD i 0, (upto h.toNat 12).getD j 0) : Int × Int) ∈ (goodSw n d ks h fs).1) = decide (depthP n d ks h.toNat (swapP fs i j) > 0) := by
      rw [hG]
      refine decide_eq_decide.2 ?_
      unfold swapsP
      rw [mem_swapAll hnd hij hj, decide_eq_true_iff]
    rw [← hmem]
    generalize (goodSw n d ks h fs).1 = G at *
    have := Tot.loop (l := fun q (p : Bool × Nat) => L2 (i : Int) (j : Int) q p.1 (p.2 : Int)) (fun p => p.2 ≤ G.length ∧ (p.1 = true ∨ ((upto h.toNat 12).getD i 0, (upto h.toNat 12).getD j 0) ∈ G.drop p.2) = (((upto h.toNat 12).getD i 0, (upto h.toNat 12).getD j 0) ∈ G)) (fun p => G.length - p.2) (fun r => r = decide ((((upto h.toNat 12).getD i 0, (upto h.toNat 12).getD j 0) : Int × Int) ∈ G)) (fun q p hI ih => by
      obtain ⟨b, z⟩ := p
      obtain ⟨g1, g2⟩ := hI
      simp only at g1 g2 ih ⊢
      rw [h2]
      by_cases hz : z < G.length
      · rw [if_pos (by simpa using hz), rdl_lt hz, rdl_getD (l := upto h.toNat 12) (i := i) (by omega) 0, rdl_getD (l := upto h.toNat 12) (i := j) (by omega) 0]
        have e : (if b = true then some true else (some G[z]).bind fun t364 => (some ((upto h.toNat 12).getD i 0)).bind fun t368 => (some ((upto h.toNat 12).getD j 0)).bind fun t372 => some (decide ((t364.1, t364.2) = (t368, t372)))) = some (b || decide (G[z] = ((upto h.toNat 12).getD i 0, (upto h.toNat 12).getD j 0))) := by
          cases b
          · rfl
          · rfl
        rw [e, Option.bind_some, show w64 ((z : Int) + 1) = ((z + 1 : Nat) : Int) from w64_id (by omega) (by omega)]
        refine ih (b || decide (G[z] = ((upto h.toNat 12).getD i 0, (upto h.toNat 12).getD j 0)), z + 1) ⟨by simp only; omega, ?_⟩ (by simp only; omega)
        rw [← g2, List.drop_eq_getElem_cons hz]
        simp only [Bool.or_eq_true, decide_eq_true_eq, List.mem_cons, eq_iff_iff]
        constructor
        · rintro ((h | h) | h)
          · exact .inl h
          · exact .inr (.inl h.symm)
          · exact .inr (.inr h)
        · rintro (h | h | h)
          · exact .inl (.inl h)
          · exact .inl (.inr h.symm)
          · exact .inr h
      · rw [if_neg (by simpa using hz)]
        rw [List.drop_of_length_le (by omega)] at g2
        refine Tot.ret ?_
        rw [Bool.eq_iff_iff, decide_eq_true_eq, ← g2]; simp) k (false, 0) (by simp only; unfold Big at hk; omega) ⟨by simp, by simp⟩
    obtain ⟨r, e1, rfl⟩ := this
    simp only at e1
    rw [show ((0 : Nat) : Int) = 0 from rfl] at e1
    exact e1
  have key1 : ∀ i : Nat, i < fs.length → L1 (i : Int) k ((i + 1 : Nat) : Int) = some (Sum.inl ()) := fun i hi => by
    have := Tot.loop (l := fun q (j : Nat) => L1 (i : Int) q (j : Int)) (fun j => i < j ∧ j ≤ fs.length) (fun j => fs.length - j) (fun r => r = Sum.inl ()) (fun q j hI ih => by
      obtain ⟨g1, g2⟩ := hI
      rw [h1]
      cases hg : (goodSw n d ks h fs).2 with
      | false => rw [if_neg (by simp), Option.bind_some, if_neg (by simp)]; exact Tot.ret rfl
      | true =>
        rw [if_pos rfl, Option.bind_some]
        by_cases hj : j < fs.length
        · have hjc : j < (upto h.toNat 12).length := by omega
          have hic : i < (upto h.toNat 12).length := by omega
          have hne : (upto h.toNat 12)[i] ≠ (upto h.toNat 12)[j] := fun e => by
            have q1 := idxOf_at hnd hic
            rw [e, idxOf_at hnd hjc] at q1
            omega
          have hS : SwF n d ks h fs (upto h.toNat 12)[i] (upto h.toNat 12)[j] := ⟨ha, hne, List.getElem_mem hic, List.getElem_mem hjc⟩
          have hsw : swF h fs (upto h.toNat 12)[i] (upto h.toNat 12)[j] = swapP fs i j := by unfold swF; rw [idxOf_at hnd hic, idxOf_at hnd hjc]
          have ha' : AskF n d ks h (swapP fs i j) := ⟨ha.1, by rw [swapP_len]; exact hfc, fun z hz => ha.2.2 z (swapP_mem hi hj hz)⟩
          rw [if_pos (by simpa using hj), rdl_lt hic, Option.bind_some, rdl_lt hjc, Option.bind_some, (SwapFilling_both hk n d ks h fs _ _ hd hks hfl).1, if_pos hS, hsw, Option.bind_some]
          simp only
          rw [FillingWins_eq hk n d ks h _ hd hks (by rw [swapP_len]; exact hfl), if_pos ha', Option.bind_some]
          simp only
          rw [key2 i j g1 hjc hg, Option.bind_some]
          simp only [Bool.not_true, Bool.false_eq_true, if_false, bne_self_eq_false, Option.bind_some]
          rw [show w64 ((j : Int) + 1) = ((j + 1 : Nat) : Int) from w64_id (by omega) (by omega)]
          exact ih (j + 1) ⟨by omega, by omega⟩ (by omega)
        · rw [if_neg (by simpa using hj)]; exact Tot.ret rfl) k (i + 1) (by unfold Big at hk; omega) ⟨by omega, by omega⟩
    obtain ⟨r, e1, rfl⟩ := this
    exact e1
  have := Tot.loop (l := fun q (i : Nat) => L0 q (i : Int)) (fun i => i ≤ fs.length) (fun i => fs.length - i) (fun r => r = Sum.inl ()) (fun q i hI ih => by
    rw [h0]
    by_cases hi : i < fs.length
    · have hic : i < (upto h.toNat 12).length := by omega
      have hf := ha.fok.nodes _ (List.getElem_mem hi)
      have hc := ha.fok.cols _ (List.getElem_mem hic)
      rw [if_pos (by simpa using hi), rdl_lt hi, Option.bind_some, rdl_getDI hf.1 (by rw [hK.1]; omega) 0, Option.bind_some, rdl_lt hic, Option.bind_some, if_pos (by omega), lay_has ha hi hic, if_neg (by simp)]
      rw [show w64 ((i : Int) + 1) = ((i + 1 : Nat) : Int) from w64_id (by omega) (by omega), key1 i hi, Option.bind_some]
      simp only [Lr]
      exact ih (i + 1) (by omega) (by omega)
    · rw [if_neg (by simpa using hi)]; exact Tot.ret rfl) k 0 (by unfold Big at hk; omega) (by omega)
  obtain ⟨r, e1, rfl⟩ := this
  exact e1
theorem laws_FnLaid.pure (x : List By) (h : wfd x) : ∃ k, laws_FnLaid.f k x = some true := by
 refine ⟨Big, ?_⟩
 have hk : Big ≤ Big := Nat.le_refl _
 unfold laws_FnLaid.f laws_vBig.f
 rw [Option.bind_some]
 by_cases hb : (x.length : Int) > 65536
 ·rw [if_pos (by simpa using hb)]
 rw [if_neg (by simpa using hb)]
 have hc := code_ok h (by omega)
 obtain ⟨c1, v1, hc1⟩ := vCut_ok (k := Big) 1 (by omega) hc (by omega)
 obtain ⟨⟨n, d, ks, y, fs⟩, e1, hM, hy, hf⟩ := DrawFillingWins_ok (k := Big) hk hc
 obtain ⟨⟨n', d', ks', y', fs', p, q⟩, e2, hM', hy', hf'⟩ := DrawSwapFilling_ok (k := Big) hk hc1
 obtain ⟨_, hd, hks⟩ := hM
 obtain ⟨_, hd', hks'⟩ := hM'
 simp only at hd hks hf hd' hks' hf'
 have q1 := LayKeys_both hk n d ks y fs (by omega) (by omega) (by omega)
 have q2 := FillingWins_eq hk n d ks y fs (by omega) (by omega) (by omega)
 have q3 := specFillingWins_eq hk n d ks y fs (by omega) (by omega) (by omega)
 have q4 := FillingDepth_eq hk n d ks y fs (by omega) (by omega) (by omega)
 have q5 := specFillingDepth_eq hk n d ks y fs (by omega) (by omega) (by omega)
 have q6 := GoodSwaps_eq hk n d ks y fs (by omega) (by omega) (by omega)
 obtain ⟨r, q7, q8, rl⟩ := GoodSwaps_both hk n d ks y fs (by omega) (by omega) (by omega)
 rw [q6] at q7
 obtain rfl := Option.some.inj q7
 have q9 := IsFilling_both hk n d ks y fs (by omega) (by omega) (by omega)
 have q10 := SwapFilling_both hk n' d' ks' y' fs' p q (by omega) (by omega) (by omega)
 have q11 := vPairs_eq hk (goodSw n d ks y fs).1 (goodSw n d ks y fs).1 (by omega)
 have q12 := ColoursOf_eq hk y
 have hsl : (swF y' fs' p q).length = fs'.length := swapP_len ..
 have q13 := vInts_eq hk (if SwF n' d' ks' y' fs' p q then (swF y' fs' p q, true) else ([], false)).1 (if SwF n' d' ks' y' fs' p q then (swF y' fs' p q, true) else ([], false)).1 (by split <;> simp <;> omega)
 have q14 : laws_vMaze.f Big (if AskF n d ks y fs then (n, d, layK ks.length (upto y.toNat 12) fs, true) else (0, [], [], false)).1 (if AskF n d ks y fs then (n, d, layK ks.length (upto y.toNat 12) fs, true) else (0, [], [], false)).2.1 (if AskF n d ks y fs then (n, d, layK ks.length (upto y.toNat 12) fs, true) else (0, [], [], false)).2.2.1 (if AskF n d ks y fs then (n, d, layK ks.length (upto y.toNat 12) fs, true) else (0, [], [], false)).1 (if AskF n d ks y fs then (n, d, layK ks.length (upto y.toNat 12) fs, true) else (0, [], [], false)).2.1 (if AskF n d ks y fs then (n, d, layK ks.length (upto y.toNat 12) fs, true) else (0, [], [], false)).2.2.1 = some true := by
  by_cases ha : AskF n d ks y fs
  ·rw [if_pos ha]
   exact vMaze_self hk _ _ _ (by simp only; omega) (by simp only; rw [(layK_ok ha.fok).1]; omega)
  ·rw [if_neg ha]
   exact vMaze_self hk _ _ _ (by simp) (by simp)
 simp only [e1, v1, e2, q1.1, q1.2, q2, q3, q4, q5, q6, q8, q9.1, q9.2, q10.1, q10.2, Option.bind_some, bne_self_eq_false, Bool.false_eq_true, if_false, q14, q11, q13, decide_true, Bool.not_true]
 -- the swapped one
 have sw : ∀ T : Option Bool, T = some true → (if (if SwF n' d' ks' y' fs' p q then (swF y' fs' p q, true) else ([], false)).2 = true then (impl_SwapFilling.f Big n' d' ks' y' (if SwF n' d' ks' y' fs' p q then (swF y' fs' p q, true) else ([], false)).1 q p).bind fun (t248_1, t248_2) => ((if (!t248_2) = true then some true else (laws_vInts.f Big t248_1 fs').bind fun t256 => (if (!t256) = true then some true else (laws_vAdd.f Big (if SwF n' d' ks' y' fs' p q then (swF y' fs' p q, true) else ([], false)).1).bind fun t261 => (laws_vAdd.f Big fs').bind fun t263 => some (t261 != t263)))).bind fun y265 => (if y265 = true then some false else T) else T) = some true := fun T hT => by
  by_cases hS : SwF n' d' ks' y' fs' p q
  rotate_left 1
  ·rw [if_neg hS, if_neg (by simp)]; exact hT
  rw [if_pos hS]
  simp only [if_true]
  obtain ⟨ha, hab, hm1, hm2⟩ := id hS
  obtain ⟨eh, hx⟩ := ha.nat
  have hi : (upto y'.toNat 12).idxOf p < (upto y'.toNat 12).length := List.idxOf_lt_length_iff.2 hm1
  have hj : (upto y'.toNat 12).idxOf q < (upto y'.toNat 12).length := List.idxOf_lt_length_iff.2 hm2
  have hfl := ha.2.1
  have hij : (upto y'.toNat 12).idxOf p ≠ (upto y'.toNat 12).idxOf q := fun e => hab (by rw [← List.getElem_idxOf hi, ← List.getElem_idxOf hj]; simp only [e])
  have ha2 : AskF n' d' ks' y' (swF y' fs' p q) := ⟨ha.1, by rw [hsl]; exact hfl, fun z hz => ha.2.2 z (swapP_mem (by omega) (by omega) hz)⟩
  have hS2 : SwF n' d' ks' y' (swF y' fs' p q) q p := ⟨ha2, fun e => hab e.symm, hm2, hm1⟩
  have hback : swF y' (swF y' fs' p q) q p = fs' := swapP_swap (by omega) (by omega) hij
  rw [(SwapFilling_both hk n' d' ks' y' (swF y' fs' p q) q p (by omega) (by omega) (by omega)).1, if_pos hS2, hback]
  have hs1 := sumW_fill hx ha.1.1.okm.hi ha.2
  have hs2 := sumW_fill hx ha.1.1.okm.hi ha2.2
  have hs3 : (swF y' fs' p q).sum = fs'.sum := swapP_sum (by omega) (by omega) hij
  simp only [Option.bind_some, Bool.not_true, Bool.false_eq_true, if_false, vInts_eq hk fs' fs' (by omega), decide_true, vAdd_eq hk (swF y' fs' p q) (by omega), vAdd_eq hk fs' (by omega), hs1, hs2, hs3, bne_self_eq_false]
  exact hT
 have hG2 : (goodSw n d ks y fs).2 = decide (AskF n d ks y fs ∧ depthP n d ks y.toNat fs > 0) := by
  unfold goodSw
  by_cases hh : AskF n d ks y fs ∧ depthP n d ks y.toNat fs > 0
  ·rw [if_pos hh, decide_eq_true hh]
  ·rw [if_neg hh, decide_eq_false hh]
 by_cases ha : AskF n d ks y fs
 ·have hT := ha.1
  have hl0 := laid_loops hk ha (by omega) (by omega) (by omega) (fun x y' => laws_FnLaid.l2 Big (goodSw n d ks y fs).1 (upto y.toNat 12) x y') (fun x => laws_FnLaid.l1 Big n d ks y fs (goodSw n d ks y fs).1 (goodSw n d ks y fs).2 (upto y.toNat 12) x) (laws_FnLaid.l0 Big n d ks y fs (layK ks.length (upto y.toNat 12) fs) (goodSw n d ks y fs).1 (goodSw n d ks y fs).2 (upto y.toNat 12)) (fun x y' q b z => by rw [laws_FnLaid.l2]) (fun x q y' => by rw [laws_FnLaid.l1]) (fun q x => by rw [laws_FnLaid.l0])
  have hl3 := laid_loops hk ha (by omega) (by omega) (by omega) (fun x y' => laws_FnLaid.l5 Big (goodSw n d ks y fs).1 (upto y.toNat 12) x y') (fun x => laws_FnLaid.l4 Big n d ks y fs (goodSw n d ks y fs).1 (goodSw n d ks y fs).2 (upto y.toNat 12) x) (laws_FnLaid.l3 Big n d ks y fs (layK ks.length (upto y.toNat 12) fs) (goodSw n d ks y fs).1 (goodSw n d ks y fs).2 (upto y.toNat 12)) (fun x y' q b z => by rw [laws_FnLaid.l5]) (fun x q y' => by rw [laws_FnLaid.l4]) (fun q x => by rw [laws_FnLaid.l3])
  have hlen : ((upto y.toNat 12).length : Int) = (fs.length : Int) := by rw [ha.2.1]
  have hgd : (goodSw n d ks y fs).2 = decide (depthP n d ks y.toNat fs > 0) := by
   rw [hG2]; exact decide_eq_decide.2 ⟨fun e => e.2, fun e => ⟨ha, e⟩⟩
  simp only [if_pos ha, if_pos hT, decide_eq_true ha.2, if_true, bne_self_eq_false, Bool.false_eq_true, if_false, hgd, Option.bind_some, Bool.not_true]
  have hw := WinRound_lay hk ha
  rw [if_pos hT.2] at q12
  rw [hgd] at hl0 hl3
  simp only [hw, q12, Option.bind_some, bne_self_eq_false, Bool.false_eq_true, if_false, hlen, Bool.not_true]
  have e6 : (if decide (depthP n d ks y.toNat fs > 0) = true then some false else some false) = some false := by split <;> rfl
  simp only [e6, Option.bind_some, Bool.false_eq_true, if_false, hl0, hl3, Lr]
  exact sw _ rfl
 ·have hgd : (goodSw n d ks y fs).2 = false := by
   rw [hG2]; exact decide_eq_false fun e => ha e.1
  have hF : IsMaze n d ks ∧ 0 ≤ y ∧ y ≤ 63 → decide (FillP n y.toNat fs) = false := fun e => decide_eq_false fun e2 => ha ⟨e, e2⟩
  have hIF : (if IsMaze n d ks ∧ 0 ≤ y ∧ y ≤ 63 then (decide (FillP n y.toNat fs), true) else (false, false)) = (false, (if IsMaze n d ks ∧ 0 ≤ y ∧ y ≤ 63 then (decide (FillP n y.toNat fs), true) else (false, false)).2) := by
   by_cases e : IsMaze n d ks ∧ 0 ≤ y ∧ y ≤ 63
   ·rw [if_pos e, hF e]
   ·rw [if_neg e]
  rw [hIF]
  generalize (if IsMaze n d ks ∧ 0 ≤ y ∧ y ≤ 63 then (decide (FillP n y.toNat fs), true) else (false, false)).2 = w
  simp only [if_neg ha, hgd, Bool.false_eq_true, if_false, bne_self_eq_false, Bool.not_false, if_true]
  have e7 : (if w = true then some false else some false) = some false := by split <;> rfl
  simp only [e7, Option.bind_some, Bool.false_eq_true, if_false]
  exact sw _ rfl
end Go.Proofs

/- A part of the proof of FnWorlds: the plain law. No condition. -/
import Derived.Test.YtebbaacgalipaaaFnWorldsB
import Derived.Test.YtebbaacgalipaaaFnWorldsC
import Derived.Test.YtebbaacgalipaaaFnWorldsD
import Derived.Test.YtebbaacgalipaaaFnWorldsF
import Derived.Test.YtebbaacgalipaaaFnWorldsG
import Derived.Test.YtebbaacgalipaaaFnWorldsH
import Derived.Test.YtebbaacgalipaaaFnWorldsI
set_option linter.unusedSimpArgs false
namespace Go.Proofs
open Go Go.Ga Go.Ga.Wf
set_option linter.unusedVariables false
set_option linter.unusedSimpArgs false
def Tot {α : Type} (o : Option α) (P : α → Prop) : Prop := ∃ r, o = some r ∧ P r
theorem Tot.bind {α β : Type} {o : Option α} {f : α → Option β} {P : α → Prop} {Q : β → Prop} (h : Tot o P) (g : ∀ r, P r → Tot (f r) Q) : Tot (o.bind f) Q := by
 obtain ⟨r, rfl, hr⟩ := h; exact g r hr
theorem Tot.ret {α : Type} {r : α} {Q : α → Prop} (h : Q r) : Tot (some r) Q := ⟨r, rfl, h⟩
theorem Tot.ite {α : Type} {c : Prop} [Decidable c] {x y : Option α} {Q : α → Prop} (h1 : c → Tot x Q) (h2 : ¬ c → Tot y Q) : Tot (if c then x else y) Q := by
 by_cases h : c
 ·rw [if_pos h]; exact h1 h
 ·rw [if_neg h]; exact h2 h
theorem Tot.mono {α : Type} {o : Option α} {P Q : α → Prop} (h : Tot o P) (g : ∀ r, P r → Q r) : Tot o Q := by obtain ⟨r, e, hr⟩ := h; exact ⟨r, e, g r hr⟩
theorem Tot.rdl {α : Type} {l : List α} {i : Int} (h0 : 0 ≤ i) (h1 : i < l.length) : Tot (rdl l i) (fun x => x ∈ l) := by
 obtain ⟨n, rfl⟩ := Int.eq_ofNat_of_zero_le h0
 exact ⟨l[n]'(by omega), rdl_lt (by omega), List.getElem_mem _⟩
theorem Tot.loop {S β : Type} {l : Nat → S → Option β} (Inv : S → Prop) (mu : S → Nat) (Q : β → Prop)
    (hs : ∀ n s, Inv s → (∀ s', Inv s' → mu s' < mu s → Tot (l n s') Q) → Tot (l (n + 1) s) Q) : ∀ k s, mu s < k → Inv s → Tot (l k s) Q := by
  intro k
  induction k with
  | zero => intro s h; omega
  | succ k ih => exact fun s h hI => hs k s hI fun s' h1 h2 => ih s' (by omega) h1
def CodeOk (c : List By) : Prop := c.length ≤ 1000000 ∧ ∀ x ∈ c, 0 ≤ x.v ∧ x.v ≤ 255
def Pos (a : Int) : Prop := 0 ≤ a ∧ a ≤ 100000000
variable {k : Nat} {c : List By} {a s : Int}
theorem uand255 (y : Int) : 0 ≤ uand y 255 ∧ uand y 255 ≤ 255 := by
 unfold uand
 have h : (BitVec.ofInt 64 y &&& BitVec.ofInt 64 255).toNat ≤ 255 := by
  rw [BitVec.toNat_and]
  exact Nat.le_trans Nat.and_le_right (by decide)
 have h2 : IntKind.u64.wrap ((BitVec.ofInt 64 y &&& BitVec.ofInt 64 255).toNat : Int) = ((BitVec.ofInt 64 y &&& BitVec.ofInt 64 255).toNat : Int) := by
  generalize (BitVec.ofInt 64 y &&& BitVec.ofInt 64 255).toNat = m at h
  unfold IntKind.wrap
  simp [IntKind.bits, IntKind.signed]
  omega
 rw [h2]; omega
theorem next_ok (hc : CodeOk c) (ha : 0 ≤ a ∧ a ≤ 1000000000) : Tot (spec_l1Cur_next.f k c a s) (fun r => (0 ≤ r.1 ∧ r.1 ≤ 255) ∧ r.2.1 = a + 1) := by
 unfold spec_l1Cur_next.f
 obtain ⟨h0, h1⟩ := ha
 have hw : w64 (a + 1) = a + 1 := w64_id (by omega) (by omega)
 refine Tot.bind (P := fun y => 0 ≤ y ∧ y ≤ 255) ?_ fun y hy => ?_
 ·refine Tot.ite (fun h => ?_) (fun h => Tot.ret (by omega))
  refine Tot.bind (Tot.rdl h0 (by simpa using h)) fun x hx => Tot.ret ?_
  have := hc.2 x hx
  have e : IntKind.i64.wrap x.v = x.v := w64_id (by omega) (by omega)
  rw [e]; exact this
 ·rw [hw]
  refine Tot.ite (fun h => Tot.ret ⟨hy, rfl⟩) (fun h => Tot.ret ⟨?_, rfl⟩)
  have := uand255 (shr (wU (wU (wU (s * 6364136223846793005) + IntKind.u64.wrap y) + 462197)) 40)
  have e : ∀ z : Int, 0 ≤ z ∧ z ≤ 255 → IntKind.i64.wrap z = z := fun z hz => w64_id (by omega) (by omega)
  simp only
  rw [e _ this]; exact this
theorem pick_ok (hc : CodeOk c) (ha : Pos a) (n : Int) : Tot (spec_l1Cur_pick.f k c a s n) (fun r => 0 ≤ r.1 ∧ (r.1 < n ∨ r.1 = 0) ∧ a ≤ r.2.1 ∧ r.2.1 ≤ a + 2) := by
 unfold spec_l1Cur_pick.f
 refine Tot.ite (fun h => Tot.ret ⟨by simp, .inr rfl, by simp only; omega⟩) (fun h => ?_)
 have h' : 1 < n := by simpa using h
 have hp := ha
 unfold Pos at hp
 refine Tot.bind (next_ok hc (by omega)) ?_
 rintro ⟨x, a1, s1⟩ ⟨h1, h2⟩
 simp only at h1 h2 ⊢
 refine Tot.bind (P := fun r => 0 ≤ r.1 ∧ a ≤ r.2.1 ∧ r.2.1 ≤ a + 2) ?_ ?_
 ·refine Tot.ite (fun h => ?_) (fun h => Tot.ret (by simp only; omega))
  refine Tot.bind (next_ok hc (a := a1) (by omega)) ?_
  rintro ⟨x2, a2, s2⟩ ⟨h3, h4⟩
  simp only at h3 h4 ⊢
  refine Tot.ret ?_
  have e1 : w64 (x * 256) = x * 256 := w64_id (by omega) (by omega)
  rw [e1]
  have e2 : w64 (x * 256 + x2) = x * 256 + x2 := w64_id (by omega) (by omega)
  rw [e2]; simp only; omega
 ·rintro ⟨y, a2, s2⟩ ⟨h3, h4⟩
  simp only at h3 h4 ⊢
  rw [if_pos (by omega)]
  refine Tot.ret ⟨?_, .inl ?_, h4⟩
  ·exact Int.tmod_nonneg _ h3
  ·exact Int.tmod_lt_of_pos _ (by omega)
theorem one_ok (hc : CodeOk c) (ha : Pos a) (n : Int) : Tot (spec_l1Cur_one.f k c a s n) (fun r => a ≤ r.2.1 ∧ r.2.1 ≤ a + 2) := by
 unfold spec_l1Cur_one.f
 refine Tot.bind (pick_ok hc ha n) ?_
 rintro ⟨x, a1, s1⟩ ⟨_, _, h⟩
 exact Tot.ret h
theorem among_ok (hc : CodeOk c) (ha : Pos a) (l : List Int) (hl : l ≠ []) : Tot (spec_l1Cur_among.f k c a s l) (fun r => r.1 ∈ l ∧ a ≤ r.2.1 ∧ r.2.1 ≤ a + 2) := by
 unfold spec_l1Cur_among.f
 have hp : 0 < l.length := List.length_pos_iff.2 hl
 refine Tot.bind (pick_ok hc ha _) ?_
 rintro ⟨x, a1, s1⟩ ⟨h0, h1, h⟩
 simp only at h0 h1 h ⊢
 refine Tot.bind (Tot.rdl h0 (by omega)) fun t ht => Tot.ret ⟨ht, h⟩
theorem few_ok (hk : Big ≤ k) (hc : CodeOk c) (ha : Pos (a + 100)) (h0 : 0 ≤ a) (n : Int) : Tot (spec_l1Cur_few.f k c a s n) (fun r => a ≤ r.2.1 ∧ r.2.1 ≤ a + 6) := by
 unfold spec_l1Cur_few.f
 refine Tot.bind (among_ok hc (by unfold Pos at *; omega) _ (by simp)) ?_
 rintro ⟨x, a1, s1⟩ ⟨hm, h⟩
 simp only at hm h ⊢
 have hx : 0 ≤ x ∧ x ≤ 2 := by simp only [List.mem_cons, List.not_mem_nil, or_false] at hm; omega
 have := Tot.loop (l := fun q (s : Int × Int × Int × Int) => spec_l1Cur_few.l0 k c n q s.1 s.2.1 s.2.2.1 s.2.2.2) (fun s => (0 ≤ s.2.1 ∧ s.2.1 ≤ 2) ∧ a ≤ s.2.2.1 ∧ s.2.2.1 + 2 * s.2.1 ≤ a + 6) (fun s => s.2.1.toNat) (fun r => a ≤ r.2.1 ∧ r.2.1 ≤ a + 6) (fun q s hI ih => by
  obtain ⟨z, m, b, s'⟩ := s
  obtain ⟨e1, e2, e3⟩ := hI
  simp only at e1 e2 e3 ih ⊢
  rw [spec_l1Cur_few.l0]
  refine Tot.ite (fun g => ?_) (fun g => Tot.ret (by simp only; omega))
  have hm : 0 < m := by simpa using g
  refine Tot.bind (pick_ok hc (by unfold Pos at *; omega) _) ?_
  rintro ⟨t, b1, s2⟩ ⟨f1, _, f2⟩
  simp only at f1 f2 ⊢
  rw [if_pos (by omega), show w64 (m - 1) = m - 1 from w64_id (by omega) (by omega)]
  exact ih (_, m - 1, b1, s2) ⟨by simp only; omega, by simp only; omega, by simp only; omega⟩ (by simp only; omega)) k (0, x, a1, s1) (by simp only; unfold Big at hk; omega) ⟨hx, by simp only; omega, by simp only; omega⟩
 refine Tot.bind this ?_
 rintro ⟨r, b, s2⟩ h
 exact Tot.ret h
def MzS (n : Int) (d : List Door) (ks : List Int) : Prop := (-1 ≤ n ∧ n ≤ 4611686018427387904) ∧ d.length ≤ 40 ∧ ks.length ≤ 20
theorem putD_ok (hk : Big ≤ k) (d : List Door) (A B C : Int) (hd : d.length ≤ 100) (hs : d.Pairwise DoorLt) : Tot (spec_l2Put.f k d A B C) (fun r => r.Pairwise DoorLt ∧ r.length ≤ d.length + 1) := by
 rw [l2Put_eq hk d A B C (by omega) hs]
 refine Tot.ret ?_
 split
 ·exact ⟨hs, by omega⟩
 ·rename_i h; exact ⟨insD_sorted _ _ hs h, by rw [insD_length]; omega⟩
theorem someMaze_ok (hk : Big ≤ k) (hc : CodeOk c) (ha : Pos (a + 1000)) (h0 : 0 ≤ a) (n : Int) (hn : 1 ≤ n ∧ n ≤ 12) : Tot (spec_l1Cur_someMaze.f k c a s n) (fun r => MzS r.1 r.2.1 r.2.2.1 ∧ a ≤ r.2.2.2.1 ∧ r.2.2.2.1 ≤ a + 300) := by
 have hA : a + 1000 ≤ 100000000 := ha.2
 clear ha
 have P : ∀ x : Int, a ≤ x → x ≤ a + 500 → Pos x := fun x h1 h2 => by unfold Pos; omega
 unfold spec_l1Cur_someMaze.f
 refine Tot.bind (pick_ok hc (P _ (by omega) (by omega)) _) ?_
 rintro ⟨m, a1, s1⟩ ⟨g1, g2, g3⟩
 simp only at g1 g2 g3 ⊢
 have hm : w64 (1 + m) = 1 + m := w64_id (by omega) (by omega)
 -- the nodes
 have L0 := Tot.loop (l := fun q (s : Int × Int × List Door × List Int × Int × Int) => spec_l1Cur_someMaze.l0 k c n m q s.1 s.2.1 s.2.2.1 s.2.2.2.1 s.2.2.2.2.1 s.2.2.2.2.2)
  (fun s => (0 ≤ s.2.1 ∧ s.2.1 ≤ 13) ∧ (s.2.2.1.Pairwise DoorLt ∧ (s.2.2.1.length : Int) ≤ s.2.1) ∧ ((s.2.2.2.1.length : Int) = s.2.1 ∧ s.2.2.2.1.length ≤ n.toNat) ∧ a ≤ s.2.2.2.2.1 ∧ s.2.2.2.2.1 ≤ a + 2 + 14 * s.2.1) (fun s => (13 - s.2.1).toNat)
  (fun r => (r.2.2.1.Pairwise DoorLt ∧ r.2.2.1.length ≤ 13) ∧ r.2.2.2.length = n.toNat ∧ a ≤ r.1 ∧ r.1 ≤ a + 184) (fun q s hI ih => by
  obtain ⟨z, i, d, ks, b, s'⟩ := s
  obtain ⟨e1, ⟨e2, e3⟩, ⟨e4, e4'⟩, e5, e6⟩ := hI
  simp only at e1 e2 e3 e4 e4' e5 e6 ih ⊢
  rw [spec_l1Cur_someMaze.l0]
  refine Tot.bind (P := fun y => y = true ↔ i < n ∧ i < 13) ?_ ?_
  ·refine Tot.ite (fun h => Tot.ret ?_) (fun h => Tot.ret ?_)
   ·have : i < n := by simpa using h
    simp [this]
   ·have : ¬ i < n := by simpa using h
    simp [this]
  intro y hy
  refine Tot.ite (fun h => ?_) (fun h => Tot.ret ⟨⟨e2, by simp only; omega⟩, ?_, e5, by simp only; omega⟩)
  rotate_left 1
  ·have : ¬ (i < n ∧ i < 13) := fun hh => h (hy.2 hh)
   simp only; omega
  have hi := hy.1 h
  refine Tot.bind (one_ok hc (P _ (by omega) (by omega)) _) ?_
  rintro ⟨o, b1, s1⟩ f1
  simp only at f1 ⊢
  refine Tot.bind (P := fun r => a ≤ r.2.1 ∧ r.2.1 ≤ a + 2 + 14 * i + 4) ?_ ?_
  ·refine Tot.ite (fun h => ?_) (fun h => Tot.ret (by simp only; omega))
   refine Tot.bind (pick_ok hc (P _ (by omega) (by omega)) _) ?_
   rintro ⟨t, b2, s2⟩ ⟨f2, f3, f4⟩
   simp only at f2 f3 f4 ⊢
   rw [if_pos (by omega)]
   exact Tot.ret (by simp only; omega)
  rintro ⟨y9, b2, s2⟩ f2
  simp only at f2 ⊢
  rw [if_pos (by simp; omega)]
  refine Tot.bind (P := fun r => (r.2.2.Pairwise DoorLt ∧ (r.2.2.length : Int) ≤ i + 1) ∧ a ≤ r.1 ∧ r.1 ≤ a + 2 + 14 * i + 14) ?_ ?_
  ·refine Tot.ite (fun h => ?_) (fun h => Tot.ret ⟨⟨e2, by simp only; omega⟩, by simp only; omega⟩)
   refine Tot.bind (few_ok hk hc (by unfold Pos; omega) (by omega) _) ?_
   rintro ⟨t, b3, s3⟩ f3
   simp only at f3 ⊢
   refine Tot.bind (one_ok hc (P _ (by omega) (by omega)) _) ?_
   rintro ⟨o2, b4, s4⟩ f4
   simp only at f4 ⊢
   refine Tot.bind (P := fun _ => True) (Tot.ite (fun h => Tot.ret trivial) (fun h => Tot.ret trivial)) ?_
   intro y10 _
   refine Tot.bind (pick_ok hc (P _ (by omega) (by omega)) _) ?_
   rintro ⟨t5, b5, s5⟩ ⟨_, _, f5⟩
   simp only at f5 ⊢
   refine Tot.bind (putD_ok hk d _ _ _ (by omega) e2) ?_
   intro d2 f6
   exact Tot.ret ⟨⟨f6.1, by have := f6.2; simp only; omega⟩, by simp only; omega⟩
  rintro ⟨b3, s3, d2⟩ ⟨⟨f3, f4⟩, f5⟩
  simp only at f3 f4 f5 ⊢
  rw [show w64 (i + 1) = i + 1 from w64_id (by omega) (by omega)]
  exact ih (_, i + 1, d2, ks ++ [y9], b3, s3) ⟨by simp only; omega, ⟨f3, by simp only; omega⟩, ⟨by simp; omega, by simp; omega⟩, f5.1, by simp only; omega⟩ (by simp only; omega)) k (0, 0, [], [], a1, s1) (by simp only; unfold Big at hk; omega) ⟨by simp, ⟨.nil, by simp⟩, ⟨by simp, by simp⟩, by simp only; omega, by simp only; omega⟩
 refine Tot.bind L0 ?_
 rintro ⟨a2, s2, d, ks⟩ ⟨⟨d1, d2⟩, k1, p1, p2⟩
 simp only at d1 d2 k1 p1 p2 ⊢
 refine Tot.bind (pick_ok hc (P _ (by omega) (by omega)) _) ?_
 rintro ⟨m2, a3, s3⟩ ⟨j1, j2, j3⟩
 simp only at j1 j2 j3 ⊢
 -- more doors
 have L1 := Tot.loop (l := fun q (s : Int × Int × Int × List Door) => spec_l1Cur_someMaze.l1 k c n m q s.1 s.2.1 s.2.2.1 s.2.2.2)
  (fun s => (0 ≤ s.1 ∧ s.1 ≤ 5) ∧ (s.2.2.2.Pairwise DoorLt ∧ (s.2.2.2.length : Int) + s.1 ≤ 18) ∧ a ≤ s.2.1 ∧ s.2.1 + 10 * s.1 ≤ a + 236) (fun s => s.1.toNat)
  (fun r => r.2.2.length ≤ 18 ∧ a ≤ r.1 ∧ r.1 ≤ a + 236) (fun q s hI ih => by
  obtain ⟨i, b, s', d⟩ := s
  obtain ⟨e1, ⟨e2, e3⟩, e5, e6⟩ := hI
  simp only at e1 e2 e3 e5 e6 ih ⊢
  rw [spec_l1Cur_someMaze.l1]
  refine Tot.bind (P := fun y => y = true → i > 0) ?_ ?_
  ·refine Tot.ite (fun h => ?_) (fun h => Tot.ret (by simp))
   have : i > 0 := by simpa using h
   exact Tot.ite (fun h => Tot.ret fun _ => this) (fun h => Tot.ret fun _ => this)
  intro y hy
  refine Tot.ite (fun h => ?_) (fun h => Tot.ret ⟨by simp only; omega, e5, by simp only; omega⟩)
  have hi := hy h
  refine Tot.bind (pick_ok hc (P _ (by omega) (by omega)) _) ?_
  rintro ⟨t1, b1, s1⟩ ⟨_, _, f1⟩
  simp only at f1 ⊢
  refine Tot.bind (pick_ok hc (P _ (by omega) (by omega)) _) ?_
  rintro ⟨t2, b2, s2⟩ ⟨_, _, f2⟩
  simp only at f2 ⊢
  refine Tot.bind (P := fun r => (r.2.2.Pairwise DoorLt ∧ (r.2.2.length : Int) + i ≤ 19) ∧ a ≤ r.1 ∧ r.1 + 10 * i ≤ a + 246) ?_ ?_
  ·refine Tot.ite (fun h => ?_) (fun h => Tot.ret ⟨⟨e2, by simp only; omega⟩, by simp only; omega⟩)
   refine Tot.bind (few_ok hk hc (by unfold Pos; omega) (by omega) _) ?_
   rintro ⟨t3, b3, s3⟩ f3
   simp only at f3 ⊢
   refine Tot.bind (putD_ok hk d _ _ _ (by omega) e2) ?_
   intro d2 f6
   exact Tot.ret ⟨⟨f6.1, by have := f6.2; simp only; omega⟩, by simp only; omega⟩
  rintro ⟨b3, s3, d2⟩ ⟨⟨f3, f4⟩, f5⟩
  simp only at f3 f4 f5 ⊢
  rw [show w64 (i - 1) = i - 1 from w64_id (by omega) (by omega)]
  exact ih (i - 1, b3, s3, d2) ⟨by simp only; omega, ⟨f3, by simp only; omega⟩, f5.1, by simp only; omega⟩ (by simp only; omega)) k (m2, a3, s3, d) (by simp only; unfold Big at hk; omega) ⟨by simp only; omega, ⟨d1, by simp only; omega⟩, by simp only; omega, by simp only; omega⟩
 refine Tot.bind L1 ?_
 rintro ⟨a4, s4, e⟩ ⟨d3, p3, p4⟩
 simp only at d3 p3 p4 ⊢
 refine Tot.bind (pick_ok hc (P _ (by omega) (by omega)) _) ?_
 rintro ⟨m3, a5, s5⟩ ⟨_, _, j4⟩
 simp only at j4 ⊢
 have hn1 : w64 (n + 1) = n + 1 := w64_id (by omega) (by omega)
 refine Tot.ite (fun g => ?_) (fun _ => Tot.ite (fun g => ?_) (fun _ => Tot.ite (fun g => ?_) (fun _ => Tot.ite (fun g => ?_) (fun _ => Tot.ite (fun g => ?_) (fun _ => ?_)))))
 ·refine Tot.bind (among_ok hc (P _ (by omega) (by omega)) _ (by simp)) ?_
  rintro ⟨t, b, s6⟩ ⟨hm, h'⟩
  simp only [List.mem_cons, List.not_mem_nil, or_false, hn1] at hm
  simp only at h' ⊢
  exact Tot.ret ⟨⟨by simp only; omega, by simp only; omega, by simp only; omega⟩, by simp only; omega⟩
 ·refine Tot.bind (P := fun r => r.2.2.length ≤ 18 ∧ a ≤ r.1 ∧ r.1 ≤ a + 240) ?_ ?_
  ·refine Tot.ite (fun h => ?_) (fun h => Tot.ret ⟨d3, by simp only; omega⟩)
   have he : 0 < (e.length : Int) := by simpa using h
   refine Tot.bind (pick_ok hc (P _ (by omega) (by omega)) _) ?_
   rintro ⟨t, b, s6⟩ ⟨h1, h2, h3⟩
   simp only at h1 h2 h3 ⊢
   have hb : t < (e.length : Int) := by omega
   refine Tot.bind (Tot.rdl h1 hb) fun _ _ => Tot.bind (Tot.rdl h1 hb) fun _ _ => Tot.bind (Tot.rdl h1 hb) fun _ _ => Tot.ret ⟨by simpa using d3, by simp only; omega⟩
  rintro ⟨b, s6, e'⟩ ⟨h1, h2⟩
  exact Tot.ret ⟨⟨by simp only; omega, by simp only at h1 ⊢; omega, by simp only; omega⟩, by simp only at h2 ⊢; omega⟩
 ·refine Tot.bind (P := fun r => r.2.2.length = ks.length ∧ a ≤ r.1 ∧ r.1 ≤ a + 242) ?_ ?_
  ·refine Tot.ite (fun h => ?_) (fun h => Tot.ret ⟨rfl, by simp only; omega⟩)
   have he : 0 < (ks.length : Int) := by simpa using h
   refine Tot.bind (P := fun r => r.2.2.length = ks.length ∧ a ≤ r.1 ∧ r.1 ≤ a + 242) ?_ fun r hr => Tot.ret hr
   refine Tot.bind (pick_ok hc (P _ (by omega) (by omega)) _) ?_
   rintro ⟨t, b, s6⟩ ⟨h1, h2, h3⟩
   simp only at h1 h2 h3 ⊢
   refine Tot.bind (among_ok hc (P _ (by omega) (by omega)) _ (by simp)) ?_
   rintro ⟨t2, b2, s7⟩ ⟨_, h4⟩
   simp only at h4 ⊢
   refine Tot.bind (Tot.rdl h1 (by omega)) fun _ _ => Tot.ret ⟨by simp, by simp only; omega⟩
  rintro ⟨b, s6, e'⟩ ⟨h1, h2⟩
  exact Tot.ret ⟨⟨by simp only; omega, by simp only; omega, by simp only at h1 ⊢; omega⟩, by simp only at h2 ⊢; omega⟩
 ·refine Tot.bind (P := fun r => r.length ≤ 19) ?_ ?_
  ·refine Tot.ite (fun h => ?_) (fun h => Tot.ret (by omega))
   have he : 0 < (e.length : Int) := by simpa using h
   refine Tot.bind (Tot.rdl (Int.le_refl 0) he) fun x _ => ?_
   rw [if_pos (by simp; omega)]
   exact Tot.ret (by simp; omega)
  intro e' h1
  exact Tot.ret ⟨⟨by simp only; omega, by simp only; omega, by simp only; omega⟩, by simp only; omega⟩
 ·exact Tot.ret ⟨⟨by simp, by simp, by simp⟩, by simp only; omega⟩
 ·exact Tot.ret ⟨⟨by simp only; omega, by simp only; omega, by simp only; omega⟩, by simp only; omega⟩

variable {k : Nat} {c : List By} {a s : Int}

theorem vInts_eq (hk : Big ≤ k) (x y : List Int) (hx : x.length ≤ 1048576) : laws_vInts.f k x y = some (decide (x = y)) := by
 unfold laws_vInts.f
 by_cases h : x.length = y.length
 ·rw [if_neg (by simp; omega), loop_eq (l := laws_vInts.l0 k x y) h (fun n i hi => by
   rw [laws_vInts.l0]
   have h1 : ((i : Int) < (x.length : Int)) := by omega
   have hw : w64 ((i : Int) + 1) = ((i + 1 : Nat) : Int) := w64_id (by omega) (by omega)
   simp only [h1, decide_true, if_true, rdl_lt hi, rdl_lt (h ▸ hi), Option.bind_some, hw]
   by_cases h2 : x[i] = y[i] <;> simp [h2]) (fun n => by rw [laws_vInts.l0]; simp) (by unfold Big at hk; omega), Option.bind_some, Lr_ite]
  by_cases h2 : x = y <;> simp [h2]
 ·rw [if_pos (by simp; omega)]
  have : x ≠ y := fun e => h (by rw [e])
  simp [this]
theorem rInts_eq (hk : Big ≤ k) (x y : List Int) (hx : x.length ≤ 1048576) : laws_rInts.f k x y = some (decide (x = y)) := by
 unfold laws_rInts.f
 by_cases h : x.length = y.length
 ·rw [if_neg (by simp; omega), loop_eq (l := laws_rInts.l0 k x y) h (fun n i hi => by
   rw [laws_rInts.l0]
   have h1 : ((i : Int) < (x.length : Int)) := by omega
   have hw : w64 ((i : Int) + 1) = ((i + 1 : Nat) : Int) := w64_id (by omega) (by omega)
   simp only [h1, decide_true, if_true, rdl_lt hi, rdl_lt (h ▸ hi), Option.bind_some, hw]
   by_cases h2 : x[i] = y[i] <;> simp [h2]) (fun n => by rw [laws_rInts.l0]; simp) (by unfold Big at hk; omega), Option.bind_some, Lr_ite]
  by_cases h2 : x = y <;> simp [h2]
 ·rw [if_pos (by simp; omega)]
  have : x ≠ y := fun e => h (by rw [e])
  simp [this]
theorem rTable_eq (hk : Big ≤ k) (x y : List (List Int)) (hx : x.length ≤ 1048576) (hx2 : ∀ t ∈ x, t.length ≤ 1048576) : laws_rTable.f k x y = some (decide (x = y)) := by
 unfold laws_rTable.f
 by_cases h : x.length = y.length
 ·rw [if_neg (by simp; omega), loop_eq (l := laws_rTable.l0 k x y) h (fun n i hi => by
   rw [laws_rTable.l0]
   have h1 : ((i : Int) < (x.length : Int)) := by omega
   have hw : w64 ((i : Int) + 1) = ((i + 1 : Nat) : Int) := w64_id (by omega) (by omega)
   simp only [h1, decide_true, if_true, rdl_lt hi, rdl_lt (h ▸ hi), Option.bind_some, hw, rInts_eq hk x[i] (y[i]'(h ▸ hi)) (hx2 _ (List.getElem_mem hi))]
   by_cases h2 : x[i] = y[i] <;> simp [h2]) (fun n => by rw [laws_rTable.l0]; simp) (by unfold Big at hk; omega), Option.bind_some, Lr_ite]
  by_cases h2 : x = y <;> simp [h2]
 ·rw [if_pos (by simp; omega)]
  have : x ≠ y := fun e => h (by rw [e])
  simp [this]
theorem rHas_eq (hk : Big ≤ k) (x : List Int) (y : Int) (hx : x.length ≤ 1048576) : laws_rHas.f k x y = some (x.contains y) := by
 unfold laws_rHas.f
 have := Tot.loop (l := fun q (i : Nat) => laws_rHas.l0 k x y q (i : Int)) (fun i => i ≤ x.length ∧ ∀ j (h : j < x.length), j < i → x[j] ≠ y) (fun i => x.length - i) (fun r => r = if x.contains y then .inr true else .inl ()) (fun q i hI ih => by
  obtain ⟨h1, h2⟩ := hI
  rw [laws_rHas.l0]
  by_cases hi : i < x.length
  ·rw [if_pos (by simpa using hi), rdl_lt hi, Option.bind_some]
   by_cases e : x[i] = y
   ·rw [if_pos (by simpa using e)]
    refine Tot.ret ?_
    rw [if_pos (by rw [List.contains_iff_mem, ← e]; exact List.getElem_mem hi)]
   ·rw [if_neg (by simpa using e), show w64 ((i : Int) + 1) = ((i + 1 : Nat) : Int) from w64_id (by omega) (by omega)]
    refine ih (i + 1) ⟨by omega, fun j h hj => ?_⟩ (by omega)
    rcases Nat.eq_or_lt_of_le (Nat.le_of_lt_succ hj) with rfl | h'
    ·exact e
    ·exact h2 j h h'
  ·rw [if_neg (by simpa using hi)]
   refine Tot.ret ?_
   rw [if_neg]
   rw [List.contains_iff_mem]
   intro hm
   obtain ⟨j, hj, e⟩ := List.getElem_of_mem hm
   exact h2 j hj (by omega) e) k 0 (by unfold Big at hk; omega) ⟨by omega, fun j _ h => by omega⟩
 obtain ⟨r, h1, rfl⟩ := this
 rw [show ((0 : Nat) : Int) = 0 from rfl] at h1
 rw [h1, Option.bind_some]
 by_cases h : x.contains y = true
 ·rw [if_pos h, h]; rfl
 ·rw [if_neg h]
  have : x.contains y = false := by simpa using h
  rw [this]; rfl

theorem code_ok {c : List By} (h : wfd c) (hl : c.length ≤ 65536) : CodeOk c := ⟨by omega, fun x hx => h.2 x hx⟩

section
variable {k : Nat}
def AskF (n : Int) (d : List Door) (ks : List Int) (h : Int) (fs : List Int) : Prop := (IsMaze n d ks ∧ 0 ≤ h ∧ h ≤ 63) ∧ FillP n h.toNat fs
instance (n : Int) (d : List Door) (ks : List Int) (h : Int) (fs : List Int) : Decidable (AskF n d ks h fs) := by unfold AskF; infer_instance
end

variable {k : Nat} {c : List By} {a s : Int}

def StP (n : Int) (d : List Door) (ks tr : List Int) (x s : Int) : Prop := IsTrapP n d ks tr ∧ (0 ≤ x ∧ x ≤ n - 1) ∧ 0 ≤ s ∧ s ≤ 63
noncomputable instance (n : Int) (d : List Door) (ks tr : List Int) (x s : Int) : Decidable (StP n d ks tr x s) := Classical.propDecidable _

variable {k : Nat}

variable {k : Nat} {c : List By} {a s : Int}
def SwF (n : Int) (d : List Door) (ks : List Int) (h : Int) (fs : List Int) (a b : Int) : Prop := AskF n d ks h fs ∧ a ≠ b ∧ a ∈ upto h.toNat 12 ∧ b ∈ upto h.toNat 12
instance (n : Int) (d : List Door) (ks : List Int) (h : Int) (fs : List Int) (a b : Int) : Decidable (SwF n d ks h fs a b) := by unfold SwF; infer_instance

variable {k : Nat} {c : List By}

variable {k : Nat}

variable {k : Nat} {c : List By} {a s : Int}

variable {k : Nat} {c : List By}

variable {k : Nat} {c : List By} {a s : Int}

variable {k : Nat} {c : List By} {a s : Int}

variable {k : Nat} {ms : List MazeT} {os : List (List Int)} {rel : Bool}
noncomputable def hist (ms : List MazeT) (os : List (List Int)) (rel : Bool) : Nat → List Int
  | 0 => List.replicate ms.length 0
  | t + 1 => nextA ms os rel (hist ms os rel t)
theorem hist_rng (hw : IsWorldsP ms os) (rel : Bool) : ∀ t, (hist ms os rel t).length = ms.length ∧ ∀ x ∈ hist ms os rel t, 0 ≤ x ∧ x ≤ 63
  | 0 => ⟨by simp [hist], fun x hx => by rw [List.eq_of_mem_replicate hx]; omega⟩
  | t + 1 => by
    obtain ⟨h1, h2⟩ := hist_rng hw rel t
    have g := nextA_grow hw rel h2
    exact ⟨g.len.trans h1, g.rng⟩
def WonAt (ms : List MazeT) (os : List (List Int)) (rel : Bool) (m j : Nat) (v : Int) : Prop :=
 (v = -1 ∧ ∀ t, t < m → goalW ms (hist ms os rel t) j = false) ∨ ∃ w : Nat, w < m ∧ v = (w : Int) ∧ goalW ms (hist ms os rel w) j = true ∧ ∀ t, t < w → goalW ms (hist ms os rel t) j = false
theorem WonAt.step {m j : Nat} {v : Int} (h : WonAt ms os rel m j v) : WonAt ms os rel (m + 1) j (wonF ms (hist ms os rel m) (m : Int) j v) := by
 unfold wonF
 rcases h with ⟨rfl, h⟩ | ⟨w, hw, rfl, h1, h2⟩
 ·by_cases hg : goalW ms (hist ms os rel m) j = true
  ·rw [if_pos ⟨hg, by omega⟩]
   exact .inr ⟨m, by omega, rfl, hg, h⟩
  ·rw [if_neg (fun h => hg h.1)]
   refine .inl ⟨rfl, fun t ht => ?_⟩
   rcases Nat.lt_or_eq_of_le (Nat.lt_succ_iff.1 ht) with h' | rfl
   ·exact h t h'
   ·simpa using hg
 ·rw [if_neg (fun h => by have := h.2; omega)]
  exact .inr ⟨w, by omega, rfl, h1, h2⟩
def PlayF (ms : List MazeT) (os : List (List Int)) (rel : Bool) (S : List (List Int)) (W : List Int) : Prop :=
 ∃ T, T < 300 ∧ S = (List.range (T + 1)).map (hist ms os rel) ∧ hist ms os rel (T + 1) = hist ms os rel T ∧ ∀ j, j < ms.length → WonAt ms os rel (T + 1) j (W.getD j 0)
theorem play_loop2 (hk : Big ≤ k) (hw : IsWorldsP ms os) (rel : Bool) (W : List Int) (R : List (List Int)) (hI : RW ms W R) (hW0 : ∀ j, j < ms.length → W.getD j 0 = -1) :
  ∃ S W' R', impl_play.l1 k ms os rel k (hist ms os rel 0) 0 [] R = some (.inr (S, R')) ∧ spec_l10Rounds.l1 k ms os rel k 0 [hist ms os rel 0] W R = some (.inr (S, W', R')) ∧ Played ms S W' R' ∧ PlayF ms os rel S W' := by
 have h3 := hw.1
 have h00 := hist_rng hw rel 0
 have := loop_good (l := fun q (s : List Int × List (List Int) × List Int × List (List Int)) => (impl_play.l1 k ms os rel q s.1 (s.2.1.length : Int) s.2.1 s.2.2.2).bind fun a => (spec_l10Rounds.l1 k ms os rel q (s.2.1.length : Int) (s.2.1 ++ [s.1]) s.2.2.1 s.2.2.2).bind fun b => some (a, b))
  (fun s => (s.1.length = ms.length ∧ (∀ x ∈ s.1, 0 ≤ x ∧ x ≤ 63)) ∧ (s.2.1.length : Int) ≤ s.1.sum ∧ (∀ t ∈ s.2.1, t.length = ms.length) ∧ RW ms s.2.2.1 s.2.2.2 ∧ s.1 = hist ms os rel s.2.1.length ∧ s.2.1 = (List.range s.2.1.length).map (hist ms os rel) ∧ ∀ j, j < ms.length → WonAt ms os rel s.2.1.length j (s.2.2.1.getD j 0)) (fun s => (200 - s.1.sum).toNat)
  (fun r => ∃ S W' R', r = (.inr (S, R'), .inr (S, W', R')) ∧ Played ms S W' R' ∧ PlayF ms os rel S W') (fun q ⟨h, P, W, R⟩ hJ => by
   obtain ⟨⟨j1, j2⟩, j3, j4, j5, j6, j7, j8⟩ := hJ
   simp only at j1 j2 j3 j4 j5 j6 j7 j8
   simp only
   have hs := sum_le63 h j2
   have hP : P.length ≤ 189 := by omega
   have hg := nextA_grow hw rel j2
   have hsg := sum_grow h (nextA ms os rel h) hg.len hg.ge
   have hs' := sum_le63 (nextA ms os rel h) hg.rng
   have hgl := hg.len
   have hww : w64 ((P.length : Int) + 1) = (((P ++ [h]).length : Nat) : Int) := by rw [w64_id (by omega) (by omega), List.length_append]; rfl
   have e1 : impl_play.l2 k ms os rel h (P.length : Int) k h 0 R = some (rowsA ms h (P.length : Int) R, nextA ms os rel h) := play_l2 hk hw rel h j1 j2 _ R j5.rl j5.row
   have e2 : spec_l10Rounds.l2 k ms os rel (P.length : Int) h k h 0 W R = some (wonA ms h (P.length : Int) W, rowsA ms h (P.length : Int) R, nextA ms os rel h) := rounds_l2 hk hw rel h j1 j2 _ W j5.wl R j5.rl j5.row
   have hI' := j5.step hw h (P.length : Int)
   have l1 : (P ++ [h]).length < 1099511627776 := by rw [List.length_append, List.length_singleton]; omega
   have l2 : ((P ++ [h]) ++ [nextA ms os rel h]).length < 1099511627776 := by rw [List.length_append, List.length_append, List.length_singleton, List.length_singleton]; omega
   have sm : (P ++ [h]).set P.length h = P ++ [h] := set_mid P h h []
   have rm : rdl (P ++ [h]) (P.length : Int) = some h := rdl_mid P h []
   have hPl : (P ++ [h]).length = P.length + 1 := by simp
   have hPh : P ++ [h] = (List.range (P.length + 1)).map (hist ms os rel) := by
    rw [List.range_succ, List.map_append, ← j7, List.map_singleton, ← j6]
   have hwon : ∀ j, j < ms.length → WonAt ms os rel (P.length + 1) j ((wonA ms h (P.length : Int) W).getD j 0) := fun j hj => by
    obtain ⟨_, a2⟩ := itr_at (wonF ms h (P.length : Int)) 0 W ms.length (by rw [j5.wl]; exact Nat.le_refl _)
    unfold wonA
    rw [a2 j, if_pos hj, j6]
    exact (j8 j hj).step
   rw [impl_play.l1, spec_l10Rounds.l1]
   simp only [clone_eq h (show h.length ≤ 1048576 by omega), l1Own_eq h (show h.length ≤ 1048576 by omega), Option.bind_some, e1, e2, equal_eq hk (nextA ms os rel h) h (by omega), l1Same_eq hk (nextA ms os rel h) h (by omega), hww, rm, Int.toNat_natCast, sm]
   rw [if_pos l1]
   have hall : ∀ t ∈ P ++ [h], t.length = ms.length := fun t ht => by
    rcases List.mem_append.1 ht with ht | ht
    ·exact j4 t ht
    ·rw [List.mem_singleton.1 ht]; exact j1
   by_cases hc : nextA ms os rel h = h
   ·right
    refine ⟨(.inr (P ++ [h], rowsA ms h (P.length : Int) R), .inr (P ++ [h], wonA ms h (P.length : Int) W, rowsA ms h (P.length : Int) R)), ?_, P ++ [h], wonA ms h (P.length : Int) W, rowsA ms h (P.length : Int) R, rfl, ⟨by rw [List.length_append, List.length_singleton]; omega, hall, hI'⟩, P.length, by omega, hPh, ?_, hwon⟩
    ·rw [decide_eq_true hc]
     simp only [if_true, Option.bind_some]
    ·show nextA ms os rel (hist ms os rel P.length) = hist ms os rel P.length
     rw [← j6]; exact hc
   ·left
    have hlt : h.sum < (nextA ms os rel h).sum := by
     rcases Int.lt_or_eq_of_le hsg.1 with h' | h'
     ·exact h'
     ·exact absurd (hsg.2 h').symm hc
    refine ⟨(nextA ms os rel h, P ++ [h], wonA ms h (P.length : Int) W, rowsA ms h (P.length : Int) R), ?_, ⟨⟨by simp only; omega, hg.rng⟩, by simp only [List.length_append, List.length_singleton]; omega, hall, hI', ?_, ?_, ?_⟩, by simp only; omega⟩
    ·rw [decide_eq_false hc]
     simp only [Bool.false_eq_true, if_false, if_pos l2, Option.bind_some]
    ·show nextA ms os rel h = hist ms os rel (P ++ [h]).length
     rw [hPl, j6]; rfl
    ·show P ++ [h] = (List.range (P ++ [h]).length).map (hist ms os rel)
     rw [hPl]; exact hPh
    ·show ∀ j, j < ms.length → WonAt ms os rel (P ++ [h]).length j _
     rw [hPl]; exact hwon) k (hist ms os rel 0, [], W, R) (by simp only; have := sum_le63 _ h00.2; unfold Big at hk; omega) ⟨h00, by have := sum_le63 _ h00.2; simpa using this.1, by simp, hI, rfl, rfl, fun j hj => .inl ⟨hW0 j hj, fun t ht => by simp at ht⟩⟩
 obtain ⟨r, r1, S, W', R', rfl, r2⟩ := this
 simp only [List.length_nil, List.nil_append] at r1
 obtain ⟨a, a1, a2⟩ := bind_some r1
 obtain ⟨b, b1, b2⟩ := bind_some a2
 cases b2
 exact ⟨S, W', R', a1, b1, r2⟩
theorem play_full (hk : Big ≤ k) (hw : IsWorldsP ms os) (rel : Bool) :
  ∃ S W R, impl_play.f k ms os rel = some (S, R) ∧ spec_l10Rounds.f k ms os rel = some (S, W, R) ∧ Played ms S W R ∧ PlayF ms os rel S W := by
 have h3 := hw.1
 obtain ⟨S, W, R, e1, e2, e3⟩ := play_loop2 hk hw rel (List.replicate ms.length (-1)) (rows0 ms) (rows0_rw hw) (fun j hj => by rw [List.getD_eq_getElem?_getD, List.getElem?_replicate, if_pos hj]; rfl)
 obtain ⟨i1, i2⟩ := play_l0 hk hw
 have hc : 0 ≤ (ms.length : Int) ∧ (ms.length : Int) < 1099511627776 := by omega
 have h0 : hist ms os rel 0 = List.replicate ms.length 0 := rfl
 rw [h0] at e1 e2
 refine ⟨S, W, R, ?_, ?_, e3⟩
 ·unfold impl_play.f
  rw [if_pos hc, Option.bind_some, i1, Option.bind_some, Int.toNat_natCast, e1]; rfl
 ·unfold spec_l10Rounds.f
  rw [if_pos hc, l10None_eq hk ms.length (by omega)]
  simp only [Option.bind_some, i2, Int.toNat_natCast, e2]; rfl

structure Le6 (a b : List Int) : Prop where
 len : b.length = a.length
 ra : ∀ x ∈ a, 0 ≤ x ∧ x ≤ 63
 rb : ∀ x ∈ b, 0 ≤ x ∧ x ≤ 63
 sub : ∀ j, subB (a.getD j 0).toNat (b.getD j 0).toNat = true
theorem Le6.refl {a : List Int} (h : ∀ x ∈ a, 0 ≤ x ∧ x ≤ 63) : Le6 a a := ⟨rfl, h, h, fun _ => subB_refl _⟩
theorem bor_bits {a b : Int} (ha : 0 ≤ a ∧ a ≤ 63) (hb : 0 ≤ b ∧ b ≤ 63) (t : Nat) : (bor a b).toNat.testBit t = (a.toNat.testBit t || b.toNat.testBit t) := by
 obtain ⟨x, rfl⟩ := Int.eq_ofNat_of_zero_le ha.1
 obtain ⟨y, rfl⟩ := Int.eq_ofNat_of_zero_le hb.1
 rw [bor_nat (by omega) (by omega), Int.toNat_natCast, Int.toNat_natCast, Int.toNat_natCast, Nat.testBit_or]
theorem subB_bor2 {a b c : Int} (ha : 0 ≤ a ∧ a ≤ 63) (hb : 0 ≤ b ∧ b ≤ 63) (hc : 0 ≤ c ∧ c ≤ 63) (h : subB a.toNat b.toNat = true) : subB (bor a c).toNat (bor b c).toNat = true :=
 subB_iff.2 fun t ht => by
  rw [bor_bits ha hc, Bool.or_eq_true] at ht
  rw [bor_bits hb hc, Bool.or_eq_true]
  exact ht.imp (subB_iff.1 h t) id
theorem subB_borr {a b : Int} (ha : 0 ≤ a ∧ a ≤ 63) (hb : 0 ≤ b ∧ b ≤ 63) : subB b.toNat (bor a b).toNat = true :=
 subB_iff.2 fun t ht => by rw [bor_bits ha hb, ht, Bool.or_true]
theorem subB_borl {a b : Int} {c : Nat} (ha : 0 ≤ a ∧ a ≤ 63) (hb : 0 ≤ b ∧ b ≤ 63) (h1 : subB a.toNat c = true) (h2 : subB b.toNat c = true) : subB (bor a b).toNat c = true :=
 subB_iff.2 fun t ht => by
  rw [bor_bits ha hb, Bool.or_eq_true] at ht
  exact ht.elim (subB_iff.1 h1 t) (subB_iff.1 h2 t)
theorem Le6.ext {a b o ks : List Int} (h : Le6 a b) (hk : ∀ x ∈ ks, 0 ≤ x ∧ x ≤ 63) (x : Int) : Le6 a (updN o ks b x) := by
 have hg := (Grow.refl h.rb).updN (o := o) hk x
 refine ⟨hg.len.trans h.len, h.ra, hg.rng, fun j => ?_⟩
 have hb := subB_bor (keys_getD h.rb (o.getD x.toNat 0).toNat) (keys_getD hk x.toNat)
 unfold updN
 rw [getD_set]
 split
 ·rename_i hj
  rw [hj.1] at hb ⊢
  exact subB_trans (h.sub j) hb
 ·exact h.sub j
theorem Le6.both {a b o ks : List Int} (h : Le6 a b) (hk : ∀ x ∈ ks, 0 ≤ x ∧ x ≤ 63) (x : Int) : Le6 (updN o ks a x) (updN o ks b x) := by
 have hg := (Grow.refl h.rb).updN (o := o) hk x
 have hg' := (Grow.refl h.ra).updN (o := o) hk x
 refine ⟨by rw [hg.len, hg'.len]; exact h.len, hg'.rng, hg.rng, fun j => ?_⟩
 have hb := subB_bor2 (keys_getD h.ra (o.getD x.toNat 0).toNat) (keys_getD h.rb (o.getD x.toNat 0).toNat) (keys_getD hk x.toNat) (h.sub _)
 unfold updN
 rw [getD_set, getD_set, h.len]
 split
 ·exact hb
 ·exact h.sub j
theorem itr_rel {S T : Type} (R : S → T → Prop) {f : Nat → S → S} {g : Nat → T → T} : ∀ m i s t, (∀ j s t, i ≤ j → j < i + m → R s t → R (f j s) (g j t)) → R s t → R (itr f m i s) (itr g m i t)
  | 0, i, s, t, _, h => h
  | m + 1, i, s, t, H, h => by
    unfold itr
    exact itr_rel R m (i + 1) _ _ (fun j s t h1 h2 h3 => H j s t (by omega) (by omega) h3) (H i s t (by omega) (by omega) h)
theorem Le6.fold {a b o ks : List Int} (h : Le6 a b) (hk : ∀ x ∈ ks, 0 ≤ x ∧ x ≤ 63) {n m m' : Nat} (hm : ∀ t, t < n → m.testBit t = true → m'.testBit t = true) : Le6 ((upto m n).foldl (updN o ks) a) ((upto m' n).foldl (updN o ks) b) := by
 rw [fold_upto, fold_upto]
 refine itr_rel Le6 _ _ _ _ (fun j s t _ hj hst => ?_) h
 by_cases h1 : m.testBit j = true
 ·rw [if_pos h1, if_pos (hm j (by omega) h1)]; exact hst.both hk _
 ·rw [if_neg h1]
  by_cases h2 : m'.testBit j = true
  ·rw [if_pos h2]; exact hst.ext hk _
  ·rw [if_neg h2]; exact hst
theorem bW_mono {i : Nat} (hf : Facts ms os i) {h h' : List Int} (hh : Le6 h h') (t : Nat) (ht : (bW ms h i).testBit t = true) : (bW ms h' i).testBit t = true := by
 have hs := hf.mz.okm.small
 unfold bW at ht ⊢
 rw [reachN_test hs (by omega)] at ht ⊢
 exact ht.mono (hh.sub i)
theorem goal_mono {i : Nat} (hf : Facts ms os i) {h h' : List Int} (hh : Le6 h h') (hg : goalW ms h i = true) : goalW ms h' i = true := bW_mono hf hh _ hg
theorem Le6.nextA (hw : IsWorldsP ms os) {rel rel' : Bool} (hrel : rel = true → rel' = true) {h h' : List Int} (hh : Le6 h h') : Le6 (nextA ms os rel h) (nextA ms os rel' h') := by
 refine itr_rel Le6 _ _ _ _ (fun i s t _ hi hst => ?_) hh
 have hf := hw.facts i (by omega)
 unfold nextF
 refine hst.fold hf.mz.okm.keys (fun t ht hb => ?_)
 rw [bW'_test hf _ _ ht, Bool.or_eq_true] at hb ⊢
 refine hb.imp (bW_mono hf hh t) fun h2 => ?_
 rw [Bool.and_eq_true] at h2 ⊢
 exact ⟨hrel h2.1, goal_mono hf hh h2.2⟩
theorem nextA_le (hw : IsWorldsP ms os) (rel : Bool) {h : List Int} (hr : ∀ x ∈ h, 0 ≤ x ∧ x ≤ 63) : Le6 h (Go.Proofs.nextA ms os rel h) := by
 refine itr_inv (Le6 h) _ _ _ (fun j s _ hj hs => ?_) (Le6.refl hr)
 have hf := hw.facts j (by omega)
 exact foldl_inv (Le6 h) _ _ (fun s x _ hs => hs.ext hf.mz.okm.keys x) hs
theorem hist_le (hw : IsWorldsP ms os) {rel rel' : Bool} (hrel : rel = true → rel' = true) : ∀ t, Le6 (hist ms os rel t) (hist ms os rel' t)
  | 0 => Le6.refl (hist_rng hw rel 0).2
  | t + 1 => (hist_le hw hrel t).nextA hw hrel
theorem hist_step (hw : IsWorldsP ms os) (rel : Bool) (t : Nat) : Le6 (hist ms os rel t) (hist ms os rel (t + 1)) := nextA_le hw rel (hist_rng hw rel t).2
theorem hist_fix {T : Nat} (h : hist ms os rel (T + 1) = hist ms os rel T) : ∀ d, hist ms os rel (T + d) = hist ms os rel T
  | 0 => rfl
  | d + 1 => by
    show nextA ms os rel (hist ms os rel (T + d)) = _
    rw [hist_fix h d]; exact h
theorem won_sooner (hw : IsWorldsP ms os) {S S' : List (List Int)} {W W' : List Int} (hF : PlayF ms os false S W) (hT : PlayF ms os true S' W') {j : Nat} (hj : j < ms.length) (h0 : 0 ≤ W.getD j 0) : 0 ≤ W'.getD j 0 ∧ W'.getD j 0 ≤ W.getD j 0 := by
 obtain ⟨T, _, _, _, h1⟩ := hF
 obtain ⟨T', _, _, h2, h3⟩ := hT
 have hf := hw.facts j hj
 rcases h1 j hj with ⟨h4, _⟩ | ⟨w, _, h5, h6, _⟩
 ·omega
 have h7 : goalW ms (hist ms os true w) j = true := goal_mono hf (hist_le hw (fun h => by cases h) w) h6
 rcases h3 j hj with ⟨_, h8⟩ | ⟨w', _, h9, _, h10⟩
 ·exfalso
  rcases Nat.lt_or_ge w (T' + 1) with h | h
  ·rw [h8 w h] at h7; cases h7
  ·have e := hist_fix h2 (w - T')
   rw [show T' + (w - T') = w by omega] at e
   rw [e, h8 T' (by omega)] at h7; cases h7
 ·rw [h9, h5]
  refine ⟨by omega, ?_⟩
  rcases Nat.lt_or_ge w w' with h | h
  ·rw [h10 w h] at h7; cases h7
  ·omega

theorem itr_ext {g : Nat → Int → Int} : ∀ m i s, (∀ j s, i ≤ j → j < i + m → 0 ≤ s ∧ s ≤ 63 → (0 ≤ g j s ∧ g j s ≤ 63) ∧ subB s.toNat (g j s).toNat = true) → 0 ≤ s ∧ s ≤ 63 → (0 ≤ itr g m i s ∧ itr g m i s ≤ 63) ∧ subB s.toNat (itr g m i s).toNat = true
  | 0, i, s, _, h => ⟨h, subB_refl _⟩
  | m + 1, i, s, H, h => by
    unfold itr
    obtain ⟨h1, h2⟩ := H i s (by omega) (by omega) h
    obtain ⟨h3, h4⟩ := itr_ext m (i + 1) (g i s) (fun j s h5 h6 h7 => H j s (by omega) (by omega) h7) h1
    exact ⟨h3, subB_trans h2 h4⟩
theorem itr_has {g : Nat → Int → Int} {c j0 : Nat} : ∀ m i s, (∀ j s, i ≤ j → j < i + m → 0 ≤ s ∧ s ≤ 63 → (0 ≤ g j s ∧ g j s ≤ 63) ∧ subB s.toNat (g j s).toNat = true) → (∀ s, 0 ≤ s ∧ s ≤ 63 → subB c (g j0 s).toNat = true) → i ≤ j0 → j0 < i + m → 0 ≤ s ∧ s ≤ 63 → subB c (itr g m i s).toNat = true
  | 0, i, s, _, _, h1, h2, _ => by omega
  | m + 1, i, s, H, hc, h1, h2, h => by
    unfold itr
    have h3 := (H i s (by omega) (by omega) h).1
    by_cases hi : i = j0
    · subst hi
      exact subB_trans (hc s h) (itr_ext m (i + 1) (g i s) (fun j s h5 h6 h7 => H j s (by omega) (by omega) h7) h3).2
    · exact itr_has m (i + 1) (g i s) (fun j s h5 h6 h7 => H j s (by omega) (by omega) h7) hc (by omega) (by omega) h3
theorem ever1_ext {ks o : List Int} (hk : ∀ x ∈ ks, 0 ≤ x ∧ x ≤ 63) (a : Int) (x : Nat) (s : Int) (hs : 0 ≤ s ∧ s ≤ 63) : (0 ≤ ever1 ks o a x s ∧ ever1 ks o a x s ≤ 63) ∧ subB s.toNat (ever1 ks o a x s).toNat = true := by
 unfold ever1
 split
 ·exact ⟨(bor_le63 hs (keys_getD hk x)).1, subB_bor hs (keys_getD hk x)⟩
 ·exact ⟨hs, subB_refl _⟩
theorem key_ever (hw : IsWorldsP ms os) {i x : Nat} {a : Int} (hi : i < ms.length) (hx : x < szW ms i) (ho : (os.getD i []).getD x 0 = a) : subB ((mzD ms i).2.2.getD x 0).toNat (everH ms os a).toNat = true := by
 have hks : ∀ j, j < ms.length → ∀ x ∈ (mzD ms j).2.2, 0 ≤ x ∧ x ≤ 63 := fun j hj => (hw.facts j hj).mz.okm.keys
 have hlen : (mzD ms i).2.2.length = szW ms i := by
  have := (hw.facts i hi).mz.okm.len
  unfold szW; omega
 unfold everH
 refine itr_has (j0 := i) ms.length 0 0 (fun j s _ hj hs => itr_ext _ _ _ (fun x s _ _ hs => ever1_ext (hks j (by omega)) a x s hs) hs) (fun s hs => ?_) (by omega) (by omega) (by omega)
 refine itr_has (j0 := x) _ 0 s (fun x s _ _ hs => ever1_ext (hks i hi) a x s hs) (fun s hs => ?_) (by omega) (by show x < 0 + (mzD ms i).2.2.length; omega) hs
 unfold ever1
 rw [if_pos ho]
 exact subB_borr hs (keys_getD (hks i hi) x)
def everL (ms : List MazeT) (os : List (List Int)) : List Int := (List.range ms.length).map fun (j : Nat) => everH ms os (j : Int)
theorem everL_at {j : Nat} (hj : j < ms.length) : (everL ms os).getD j 0 = everH ms os (j : Int) := by
 unfold everL
 rw [List.getD_eq_getElem?_getD, List.getElem?_map, List.getElem?_range hj]; rfl
theorem everH_rng (hw : IsWorldsP ms os) (a : Int) : 0 ≤ everH ms os a ∧ everH ms os a ≤ 63 :=
 (itr_ext ms.length 0 0 (fun j s _ hj hs => itr_ext _ _ _ (fun x s _ _ hs => ever1_ext (hw.facts j (by omega)).mz.okm.keys a x s hs) hs) (by omega)).1
theorem hist_ever (hw : IsWorldsP ms os) (rel : Bool) : ∀ t, Le6 (hist ms os rel t) (everL ms os)
  | 0 => by
    have hr := hist_rng hw rel 0
    refine ⟨by rw [hr.1]; simp [everL], hr.2, fun x hx => ?_, fun j => ?_⟩
    · unfold everL at hx
      obtain ⟨j, _, rfl⟩ := List.mem_map.1 hx
      exact everH_rng hw _
    · have : (hist ms os rel 0).getD j 0 = 0 := by
        show (List.replicate ms.length (0 : Int)).getD j 0 = 0
        rw [List.getD_eq_getElem?_getD, List.getElem?_replicate]
        split <;> rfl
      rw [this]
      exact subB_iff.2 fun t ht => by simp at ht
  | t + 1 => by
    have ih := hist_ever hw rel t
    refine itr_inv (fun s => Le6 s (everL ms os)) _ _ _ (fun i s _ hi hs => ?_) ih
    have hi' : i < ms.length := by omega
    have hf := hw.facts i hi'
    refine foldl_inv (fun s => Le6 s (everL ms os)) _ _ (fun s x hx hs => ?_) hs
    obtain ⟨hx0, hx1⟩ := upto_range hx
    obtain ⟨ho, ho2⟩ := hf.ownD hx1
    have hg := (Grow.refl hs.ra).updN (o := os.getD i []) hf.mz.okm.keys x
    refine ⟨by rw [hg.len]; exact hs.len, hg.rng, hs.rb, fun j => ?_⟩
    unfold updN
    rw [getD_set]
    split
    · rename_i hj
      have hkey := key_ever hw hi' hx1 (a := (((os.getD i []).getD x.toNat 0).toNat : Int)) (by omega)
      rw [hj.1] at hkey ho2 ⊢
      rw [← everL_at ho2] at hkey
      exact subB_borl (keys_getD hs.ra j) (keys_getD hf.mz.okm.keys x.toNat) (hs.sub j) hkey
    · exact hs.sub j
theorem ever_of_goal (hw : IsWorldsP ms os) {j t : Nat} (hj : j < ms.length) (hg : goalW ms (hist ms os rel t) j = true) : everR ms os (j : Int) = (true, true) := by
 have hf := hw.facts j hj
 have h := goal_mono hf (hist_ever hw rel t) hg
 have hlo := hf.lo
 unfold goalW bW at h
 rw [everL_at hj] at h
 unfold everR
 rw [if_pos ⟨hw, by omega, by omega⟩, Int.toNat_natCast]
 have e : ((ms.getD j (0, [], [])).1 - 1).toNat = szW ms j - 1 := by unfold szW mzD; omega
 rw [e]
 exact congrArg (fun b => (b, true)) h

variable {k : Nat} {c : List By} {a s : Int} {ms : List MazeT} {os : List (List Int)}

def WS (ms : List MazeT) (os : List (List Int)) : Prop := ms.length ≤ 10 ∧ os.length ≤ 10 ∧ (∀ t ∈ ms, t.2.1.length ≤ 100 ∧ t.2.2.length ≤ 100) ∧ ∀ t ∈ os, t.length ≤ 100
theorem WS.wb (h : WS ms os) : WB ms os := ⟨by have := h.1; omega, by have := h.2.1; omega, fun t ht => by have := h.2.2.1 t ht; omega, fun t ht => by have := h.2.2.2 t ht; omega⟩
theorem rdl_zero {α : Type} (y : α) (l : List α) : rdl (y :: l) 0 = some y := rdl_lt (l := y :: l) (i := 0) (by simp)
theorem owners_ok (hk : Big ≤ k) (hc : CodeOk c) (ha : Pos (a + 100)) (h0 : 0 ≤ a) (n m : Int) : Tot (spec_l1Cur_worlds.l1 k c n m k [] 0 a s) (fun r => r.2.2.length ≤ 13 ∧ a ≤ r.1 ∧ r.1 ≤ a + 26) := by
 have hA : a + 100 ≤ 100000000 := ha.2
 have L := Tot.loop (l := fun q (st : List Int × Nat × Int × Int) => spec_l1Cur_worlds.l1 k c n m q st.1 (st.2.1 : Int) st.2.2.1 st.2.2.2) (fun st => st.1.length = st.2.1 ∧ st.2.1 ≤ 13 ∧ a ≤ st.2.2.1 ∧ st.2.2.1 ≤ a + 2 * st.2.1) (fun st => 13 - st.2.1) (fun r => r.2.2.length ≤ 13 ∧ a ≤ r.1 ∧ r.1 ≤ a + 26) (fun q st hI ih => by
  obtain ⟨l, i, b, s'⟩ := st
  obtain ⟨e1, e2, e3, e4⟩ := hI
  simp only at e1 e2 e3 e4 ih ⊢
  rw [spec_l1Cur_worlds.l1]
  refine Tot.bind (P := fun y => y = true → i < 13) (Tot.ite (fun _ => Tot.ret (fun h => by have := of_decide_eq_true h; omega)) (fun _ => Tot.ret (fun h => by cases h))) fun y hy => ?_
  refine Tot.ite (fun h => ?_) (fun h => Tot.ret ⟨by simp only; omega, by simp only; omega, by simp only; omega⟩)
  have hi := hy h
  refine Tot.bind (pick_ok hc (by unfold Pos; omega) _) ?_
  rintro ⟨t, b1, s1⟩ ⟨_, _, g⟩
  simp only at g ⊢
  rw [if_pos (by simp; omega), show w64 ((i : Int) + 1) = ((i + 1 : Nat) : Int) from w64_id (by omega) (by omega)]
  exact ih (l ++ [t], i + 1, b1, s1) ⟨by simp; omega, by simp only; omega, by simp only; omega, by simp only; omega⟩ (by simp only; omega)) k ([], 0, a, s) (by simp only; unfold Big at hk; omega) ⟨rfl, by simp, by simp, by simp⟩
 exact L
theorem worlds0_ok (hk : Big ≤ k) (hc : CodeOk c) (n : Nat) (hn : n ≤ 3) {a : Int} (ha : 0 ≤ a ∧ a ≤ 10) : Tot (spec_l1Cur_worlds.l0 k c (n : Int) k 0 [] [] a s) (fun r => (WS r.2.2.1 r.2.2.2 ∧ ∀ t ∈ r.2.2.2, t.length ≤ 13) ∧ r.2.2.1.length = n ∧ r.2.2.2.length = n ∧ 0 ≤ r.1 ∧ r.1 ≤ 2000) := by
 have P : ∀ x : Int, 0 ≤ x → x ≤ 10000 → Pos x := fun x h1 h2 => by unfold Pos; omega
 have L := Tot.loop (l := fun q (st : Nat × List MazeT × List (List Int) × Int × Int) => spec_l1Cur_worlds.l0 k c (n : Int) q (st.1 : Int) st.2.1 st.2.2.1 st.2.2.2.1 st.2.2.2.2) (fun st => st.1 ≤ n ∧ (st.2.1.length = st.1 ∧ st.2.2.1.length = st.1) ∧ ((∀ t ∈ st.2.1, t.2.1.length ≤ 100 ∧ t.2.2.length ≤ 100) ∧ ∀ t ∈ st.2.2.1, t.length ≤ 13) ∧ 0 ≤ st.2.2.2.1 ∧ st.2.2.2.1 ≤ 10 + 400 * st.1) (fun st => n - st.1)
  (fun r => (WS r.2.2.1 r.2.2.2 ∧ ∀ t ∈ r.2.2.2, t.length ≤ 13) ∧ r.2.2.1.length = n ∧ r.2.2.2.length = n ∧ 0 ≤ r.1 ∧ r.1 ≤ 2000) (fun q st hI ih => by
  obtain ⟨i, ms, os, b, s'⟩ := st
  obtain ⟨e1, ⟨e2, e3⟩, ⟨e4, e5⟩, e6, e7⟩ := hI
  simp only at e1 e2 e3 e4 e5 e6 e7 ih ⊢
  rw [spec_l1Cur_worlds.l0]
  refine Tot.ite (fun h => ?_) (fun h => Tot.ret ?_)
  rotate_left 1
  ·have : ¬ ((i : Int) < (n : Int)) := by simpa using h
   exact ⟨⟨⟨by simp only; omega, by simp only; omega, e4, fun t ht => by have := e5 t ht; omega⟩, e5⟩, by simp only; omega, by simp only; omega, by simp only; omega, by simp only; omega⟩
  have hi : i < n := by
   have : ((i : Int) < (n : Int)) := by simpa using h
   omega
  refine Tot.bind (among_ok hc (P _ (by omega) (by omega)) _ (by simp)) ?_
  rintro ⟨z, b1, s1⟩ ⟨hm, g1⟩
  simp only at hm g1 ⊢
  have hz : 1 ≤ z ∧ z ≤ 12 := by simp only [List.mem_cons, List.not_mem_nil, or_false] at hm; omega
  refine Tot.bind (someMaze_ok hk hc (P _ (by omega) (by omega)) (by omega) z hz) ?_
  rintro ⟨m, d, ks, b2, s2⟩ ⟨hM, g2⟩
  simp only at hM g2 ⊢
  refine Tot.bind (owners_ok hk hc (P _ (by omega) (by omega)) (by omega) _ _) ?_
  rintro ⟨b3, s3, o⟩ ⟨ho, g3⟩
  simp only at ho g3 ⊢
  rw [if_pos (by simp; omega), if_pos (by simp; omega), show w64 ((i : Int) + 1) = ((i + 1 : Nat) : Int) from w64_id (by omega) (by omega)]
  refine ih (i + 1, ms ++ [(m, d, ks)], os ++ [o], b3, s3) ⟨by simp only; omega, ⟨by simp; omega, by simp; omega⟩, ⟨fun t ht => ?_, fun t ht => ?_⟩, by simp only; omega, by simp only; omega⟩ (by simp only; omega)
  ·simp only [List.mem_append, List.mem_singleton] at ht
   rcases ht with ht | rfl
   ·exact e4 t ht
   ·have h1 := hM.2.1; have h2 := hM.2.2; simp only; omega
  ·simp only [List.mem_append, List.mem_singleton] at ht
   rcases ht with ht | rfl
   ·exact e5 t ht
   ·omega) k (0, [], [], a, s) (by simp only; unfold Big at hk; omega) ⟨by simp, ⟨rfl, rfl⟩, ⟨fun t ht => by simp at ht, fun t ht => by simp at ht⟩, by simp only; omega, by simp only; omega⟩
 exact L
theorem fill4_ok (hk : Big ≤ k) (h : WS ms os) (h3 : ms.length ≤ 3 ∧ os.length ≤ 3) : Tot (spec_l1Cur_worlds.l2 k k ms os) (fun r => WS r.1 r.2) := by
 refine Tot.loop (l := fun q (st : List MazeT × List (List Int)) => spec_l1Cur_worlds.l2 k q st.1 st.2) (fun st => WS st.1 st.2 ∧ st.1.length ≤ 4 ∧ st.2.length ≤ 3 + st.1.length) (fun st => 4 - st.1.length) (fun r => WS r.1 r.2) (fun q st hI ih => ?_) k (ms, os) (by simp only; unfold Big at hk; omega) ⟨h, by simp only; omega, by simp only; omega⟩
 obtain ⟨ms, os⟩ := st
 obtain ⟨⟨w1, w2, w3, w4⟩, e1, e2⟩ := hI
 simp only at w1 w2 w3 w4 e1 e2 ih ⊢
 rw [spec_l1Cur_worlds.l2]
 refine Tot.ite (fun h => ?_) (fun h => Tot.ret ⟨w1, w2, w3, w4⟩)
 have hi : (ms.length : Int) < 4 := by simpa using h
 rw [if_pos (by simp; omega), if_pos (by simp; omega)]
 refine ih (ms ++ [(1, [], [0])], os ++ [[0]]) ⟨⟨by simp; omega, by simp; omega, fun t ht => ?_, fun t ht => ?_⟩, by simp; omega, by simp; omega⟩ (by simp; omega)
 ·simp only [List.mem_append, List.mem_singleton] at ht
  rcases ht with ht | rfl
  ·exact w3 t ht
  ·simp
 ·simp only [List.mem_append, List.mem_singleton] at ht
  rcases ht with ht | rfl
  ·exact w4 t ht
  ·simp
theorem WS.set {o : List Int} (h : WS ms os) (ho : o.length ≤ 100) : WS ms (os.set 0 o) :=
 ⟨h.1, by rw [List.length_set]; exact h.2.1, h.2.2.1, fun t ht => by
  rcases List.mem_or_eq_of_mem_set ht with h' | rfl
  ·exact h.2.2.2 t h'
  ·exact ho⟩
theorem worlds_ok (hk : Big ≤ k) (hc : CodeOk c) : Tot (spec_l1Cur_worlds.f k c 0 0) (fun r => WS r.1 r.2.1 ∧ 0 ≤ r.2.2.1 ∧ r.2.2.1 ≤ 2100) := by
  have P : ∀ x : Int, 0 ≤ x → x ≤ 10000 → Pos x := fun x h1 h2 => by unfold Pos; omega
  unfold spec_l1Cur_worlds.f
  refine Tot.bind (among_ok hc (P 0 (by omega) (by omega)) _ (by simp)) ?_
  rintro ⟨n, a1, s1⟩ ⟨hm, g1⟩
  simp only [List.mem_cons, List.not_mem_nil, or_false] at hm
  simp only at hm g1 ⊢
  obtain ⟨n, rfl⟩ := Int.eq_ofNat_of_zero_le (show 0 ≤ n by omega)
  refine Tot.bind (worlds0_ok hk hc n (by omega) (by omega)) ?_
  rintro ⟨a2, s2, ms, os⟩ ⟨⟨hW, h13⟩, e1, e2, g2⟩
  simp only at hW h13 e1 e2 g2 ⊢
  refine Tot.bind (pick_ok hc (P _ (by omega) (by omega)) _) ?_
  rintro ⟨z, a3, s3⟩ ⟨_, _, g3⟩
  simp only at g3 ⊢
  obtain ⟨y, l, rfl⟩ : ∃ y l, os = y :: l := by
    cases os with
    | nil => simp at e2; omega
    | cons y l => exact ⟨y, l, rfl⟩
  have hy := hW.2.2.2 y (List.mem_cons_self ..)
  refine Tot.ite (fun _ => ?_) (fun _ => Tot.ite (fun _ => ?_) (fun _ => Tot.ite (fun _ => ?_) (fun _ => Tot.ite (fun _ => ?_) (fun _ => Tot.ite (fun _ => ?_) (fun _ => ?_)))))
  · have e := slc_suf (y :: l) 1 (by simp)
    rw [show ((1 : Nat) : Int) = 1 from rfl] at e
    rw [e]
    refine Tot.ret ⟨⟨hW.1, ?_, hW.2.2.1, fun t ht => ?_⟩, by simp only; omega, by simp only; omega⟩
    · have := hW.2.1; simp at this ⊢; omega
    · exact hW.2.2.2 t (List.mem_of_mem_drop ht)
  · rw [rdl_zero, Option.bind_some]
    refine Tot.bind (P := fun r => (0 ≤ r.1 ∧ r.1 ≤ 2100) ∧ WS ms r.2.2) ?_ ?_
    · refine Tot.ite (fun hy0 => ?_) (fun _ => Tot.ret ⟨by simp only; omega, hW.set hy⟩)
      have hy1 : 0 < y.length := by have := of_decide_eq_true hy0; omega
      obtain ⟨u, y', rfl⟩ : ∃ u y', y = u :: y' := by
        cases y with
        | nil => simp at hy1
        | cons u y' => exact ⟨u, y', rfl⟩
      simp only [Int.toNat_zero, List.set_cons_zero]
      rw [rdl_zero, Option.bind_some]
      refine Tot.bind (among_ok hc (P _ (by omega) (by omega)) _ (by simp)) ?_
      rintro ⟨v, a4, s4⟩ ⟨_, g4⟩
      simp only at g4 ⊢
      rw [rdl_zero, Option.bind_some]
      refine Tot.ret ⟨by simp only; omega, ?_⟩
      have := hW.set (o := v :: y') (by simpa using hy)
      exact this
    · rintro ⟨a4, s4, os'⟩ ⟨g4, h4⟩
      exact Tot.ret ⟨h4, g4⟩
  · rw [rdl_zero, Option.bind_some, if_pos (by simp; omega)]
    have hy13 := h13 y (List.mem_cons_self ..)
    exact Tot.ret ⟨hW.set (by simp; omega), by simp only; omega, by simp only; omega⟩
  · refine Tot.bind (fill4_ok hk hW ⟨by omega, by omega⟩) ?_
    rintro ⟨ms', os'⟩ h
    exact Tot.ret ⟨h, by simp only; omega, by simp only; omega⟩
  · exact Tot.ret ⟨⟨by simp, by simp, fun t ht => by simp at ht, fun t ht => by simp at ht⟩, by simp only; omega, by simp only; omega⟩
  · exact Tot.ret ⟨hW, by simp only; omega, by simp only; omega⟩

variable {k : Nat} {c : List By} {a s : Int} {ms : List MazeT} {os : List (List Int)}
theorem world_ok (hc : CodeOk c) (ha : Pos (a + 100)) (h0 : 0 ≤ a) : Tot (spec_l1Cur_world.f k c a s ms os) (fun _ => True) := by
 have P : ∀ x : Int, 0 ≤ x → x ≤ a + 50 → Pos x := fun x h1 h2 => by unfold Pos at *; omega
 unfold spec_l1Cur_world.f
 refine Tot.bind (one_ok hc (P _ (by omega) (by omega)) _) ?_
 rintro ⟨t, a1, s1⟩ h
 simp only at h ⊢
 refine Tot.ite (fun _ => ?_) (fun _ => ?_)
 ·refine Tot.bind (among_ok hc (P _ (by omega) (by omega)) _ (by simp)) ?_
  rintro ⟨z, a2, s2⟩ _
  exact Tot.ret trivial
 ·refine Tot.bind (P := fun _ => True) (by unfold spec_l1Most.f; exact Tot.ite (fun _ => Tot.ret trivial) (fun _ => Tot.ret trivial)) fun z _ => ?_
  refine Tot.bind (pick_ok hc (P _ (by omega) (by omega)) _) ?_
  rintro ⟨u, a2, s2⟩ _
  exact Tot.ret trivial
theorem DrawRoundSets_ok (hk : Big ≤ k) (hc : CodeOk c) : Tot (spec_DrawRoundSets.f k c) (fun r => WS r.1 r.2) := by
 unfold spec_DrawRoundSets.f spec_DrawIsWorlds.f
 refine Tot.bind (P := fun r => WS r.1 r.2) (Tot.bind (worlds_ok hk hc) ?_) ?_
 ·rintro ⟨x, y, a1, s1⟩ ⟨h, _⟩; exact Tot.ret h
 ·rintro ⟨x, y⟩ h; exact Tot.ret h
theorem DrawLeansOn_ok (hk : Big ≤ k) (hc : CodeOk c) : Tot (spec_DrawLeansOn.f k c) (fun r => WS r.1 r.2.1) := by
 unfold spec_DrawLeansOn.f
 refine Tot.bind (worlds_ok hk hc) ?_
 rintro ⟨x, y, a1, s1⟩ ⟨h, h1, h2⟩
 simp only at h h1 h2 ⊢
 refine Tot.bind (world_ok hc (by unfold Pos; omega) (by omega)) ?_
 rintro ⟨z, a2, s2⟩ _
 exact Tot.ret h

structure Vals (k : Nat) (ms : List MazeT) (os : List (List Int)) (S : List (List Int)) (W : List Int) (al : Bool) (S' : List (List Int)) (W' : List Int) (ok : Bool) : Prop where
 r1 : impl_RoundSets.f k ms os = some (S, ok)
 r2 : spec_RoundSets.f k ms os = some (S, ok)
 r3 : impl_IsWorlds.f k ms os = some ok
 r4 : impl_WonRounds.f k ms os = some (W, ok)
 r5 : spec_WonRounds.f k ms os = some (W, ok)
 r6 : impl_AllWon.f k ms os = some (al, ok)
 r7 : spec_AllWon.f k ms os = some (al, ok)
 r8 : impl_ReleaseSets.f k ms os = some (S', ok)
 r9 : spec_ReleaseSets.f k ms os = some (S', ok)
 r10 : impl_ReleaseRounds.f k ms os = some (W', ok)
 r11 : spec_ReleaseRounds.f k ms os = some (W', ok)
 b1 : S.length ≤ 300 ∧ ∀ t ∈ S, t.length ≤ 100
 b2 : S'.length ≤ 300 ∧ ∀ t ∈ S', t.length ≤ 100
 b3 : W.length ≤ 100
 b4 : W'.length ≤ 100
 good : ok = true → IsWorldsP ms os ∧ W.length = ms.length ∧ W'.length = ms.length ∧ al = !W.contains (-1) ∧ PlayF ms os false S W ∧ PlayF ms os true S' W'
theorem worlds_vals (hk : Big ≤ k) (hb : WB ms os) : ∃ S W al S' W' ok, Vals k ms os S W al S' W' ok := by
 by_cases hw : IsWorldsP ms os
 ·obtain ⟨S, W, R, e1, e2, e3, e4⟩ := play_full hk hw false
  obtain ⟨S', W', R', f1, f2, f3, f4⟩ := play_full hk hw true
  have h3 := hw.1
  have g1 := e3.rw.wl
  have g2 := f3.rw.wl
  have p1 := played_won_eq hk hw (S := S) e3.rw
  have p2 := played_won_eq hk hw (S := S') f3.rw
  have i1 := IsWorlds_eq hk ms os hb
  have i2 := l10Worlds_eq hk ms os hb
  rw [decide_eq_true hw] at i1 i2
  refine ⟨S, W, !W.contains (-1), S', W', true, ?_, ?_, i1, ?_, ?_, ?_, ?_, ?_, ?_, ?_, ?_, ⟨e3.sl, fun t ht => by rw [e3.each t ht]; omega⟩, ⟨f3.sl, fun t ht => by rw [f3.each t ht]; omega⟩, by omega, by omega, fun _ => ⟨hw, g1, g2, rfl, e4, f4⟩⟩
  ·unfold impl_RoundSets.f; simp only [i1, e1, Option.bind_some, Bool.not_true, Bool.false_eq_true, if_false]
  ·unfold spec_RoundSets.f; simp only [i2, e2, Option.bind_some, Bool.not_true, Bool.false_eq_true, if_false]
  ·unfold impl_WonRounds.f; simp only [i1, e1, p1, Option.bind_some, Bool.not_true, Bool.false_eq_true, if_false]
  ·unfold spec_WonRounds.f; simp only [i2, e2, Option.bind_some, Bool.not_true, Bool.false_eq_true, if_false]
  ·unfold impl_AllWon.f; simp only [i1, e1, p1, contains_eq hk W (-1) (by omega), Option.bind_some, Bool.not_true, Bool.false_eq_true, if_false]
  ·unfold spec_AllWon.f; simp only [i2, e2, l1Has_eq hk W (-1) (by omega), Option.bind_some, Bool.not_true, Bool.false_eq_true, if_false]
  ·unfold impl_ReleaseSets.f; simp only [i1, f1, Option.bind_some, Bool.not_true, Bool.false_eq_true, if_false]
  ·unfold spec_ReleaseSets.f; simp only [i2, f2, Option.bind_some, Bool.not_true, Bool.false_eq_true, if_false]
  ·unfold impl_ReleaseRounds.f; simp only [i1, f1, p2, Option.bind_some, Bool.not_true, Bool.false_eq_true, if_false]
  ·unfold spec_ReleaseRounds.f; simp only [i2, f2, Option.bind_some, Bool.not_true, Bool.false_eq_true, if_false]
 ·have i1 := IsWorlds_eq hk ms os hb
  have i2 := l10Worlds_eq hk ms os hb
  rw [decide_eq_false hw] at i1 i2
  refine ⟨[], [], false, [], [], false, ?_, ?_, i1, ?_, ?_, ?_, ?_, ?_, ?_, ?_, ?_, by simp, by simp, by simp, by simp, fun h => by cases h⟩
  ·unfold impl_RoundSets.f; rw [i1]; rfl
  ·unfold spec_RoundSets.f; rw [i2]; rfl
  ·unfold impl_WonRounds.f; rw [i1]; rfl
  ·unfold spec_WonRounds.f; rw [i2]; rfl
  ·unfold impl_AllWon.f; rw [i1]; rfl
  ·unfold spec_AllWon.f; rw [i2]; rfl
  ·unfold impl_ReleaseSets.f; rw [i1]; rfl
  ·unfold spec_ReleaseSets.f; rw [i2]; rfl
  ·unfold impl_ReleaseRounds.f; rw [i1]; rfl
  ·unfold spec_ReleaseRounds.f; rw [i2]; rfl
theorem leans_not (y : Int) : ∀ (n : Nat) (s : List Int) (i : Int) (out : List Int), impl_LeansOn.l0 k ms os y n s i = some out → y ∉ s → y ∉ out := by
  intro n
  induction n with
  | zero => intro s i out h; rw [impl_LeansOn.l0] at h; cases h
  | succ n ih =>
    intro s i out h hs
    rw [impl_LeansOn.l0] at h
    split at h
    · obtain ⟨t, _, h⟩ := bind_some h
      obtain ⟨b, hb, h⟩ := bind_some h
      obtain ⟨s', hs', h⟩ := bind_some h
      refine ih s' _ out h ?_
      split at hs'
      · rename_i hbt
        split at hs'
        · cases hs'
          rw [List.mem_append, List.mem_singleton]
          rintro (h' | h')
          · exact hs h'
          · subst h'
            rw [if_neg (by simp)] at hb
            cases hb
            cases hbt
        · cases hs'
      · cases hs'; exact hs
    · cases h; exact hs
structure Vals2 (k : Nat) (ms : List MazeT) (os : List (List Int)) (y : Int) (L R : List Int) (cn ok : Bool) : Prop where
 r1 : impl_LeansOn.f k ms os y = some (L, ok)
 r2 : spec_LeansOn.f k ms os y = some (L, ok)
 r3 : impl_ReachedIn.f k ms os y = some (R, ok)
 r4 : spec_ReachedIn.f k ms os y = some (R, ok)
 r5 : impl_CanEver.f k ms os y = some (cn, ok)
 r6 : spec_CanEver.f k ms os y = some (cn, ok)
 b1 : L.length ≤ 100
 b2 : R.length ≤ 100
 no : y ∉ L
 good : ok = true → ∃ W : List Int, ∃ j : Nat, impl_WonRounds.f k ms os = some (W, true) ∧ y = (j : Int) ∧ j < W.length ∧ 1 ≤ R.length ∧ R.getD (R.length - 1) 0 = W.getD j 0 ∧ (0 ≤ W.getD j 0 → cn = true)
theorem leans_no {y : Int} {L : List Int} {ok : Bool} (l1 : impl_LeansOn.f k ms os y = some (L, ok)) : y ∉ L := by
 unfold impl_LeansOn.f at l1
 obtain ⟨t, _, h⟩ := bind_some l1
 split at h
 ·cases h; simp
 ·obtain ⟨⟨t1, t2⟩, _, h⟩ := bind_some h
  obtain ⟨t3, _, h⟩ := bind_some h
  obtain ⟨t4, _, h⟩ := bind_some h
  split at h
  ·cases h; simp
  ·obtain ⟨t5, h5, h⟩ := bind_some h
   cases h
   exact leans_not y _ _ _ _ h5 (by simp)
theorem leans_ok {y : Int} {L : List Int} {ok : Bool} (i1 : impl_isWorld.f k ms os y = some true) (l1 : impl_LeansOn.f k ms os y = some (L, ok)) : ok = true := by
 unfold impl_LeansOn.f at l1
 obtain ⟨t, ht, h⟩ := bind_some l1
 rw [i1] at ht
 have ht' := Option.some.inj ht
 split at h
 ·rename_i hf
  rw [← ht'] at hf; cases hf
 ·obtain ⟨⟨t1, t2⟩, _, h⟩ := bind_some h
  obtain ⟨t3, _, h⟩ := bind_some h
  obtain ⟨t4, _, h⟩ := bind_some h
  split at h
  ·exact (congrArg Prod.snd (Option.some.inj h)).symm
  ·obtain ⟨t5, h5, h⟩ := bind_some h
   exact (congrArg Prod.snd (Option.some.inj h)).symm
theorem leans_bad {y : Int} {L : List Int} {ok : Bool} (i1 : impl_isWorld.f k ms os y = some false) (l1 : impl_LeansOn.f k ms os y = some (L, ok)) : L = [] ∧ ok = false := by
 unfold impl_LeansOn.f at l1
 rw [i1] at l1
 simp only [Option.bind_some, Bool.not_false, if_true] at l1
 cases l1
 exact ⟨rfl, rfl⟩
theorem world_good (hk : Big ≤ k) (hb : WB ms os) (hw : IsWorldsP ms os) {j : Nat} (hj : j < ms.length) {L : List Int} {ok : Bool} (l1 : impl_LeansOn.f k ms os (j : Int) = some (L, ok)) (l2 : spec_LeansOn.f k ms os (j : Int) = some (L, ok)) (l3 : L.length ≤ 12) :
  ∃ L R cn ok, Vals2 k ms os (j : Int) L R cn ok := by
 have hy : IsWorldsP ms os ∧ 0 ≤ (j : Int) ∧ (j : Int) ≤ (ms.length : Int) - 1 := ⟨hw, by omega, by omega⟩
 have i1 := isWorld_eq hk ms os (j : Int) hb
 have i2 := l10World_eq hk ms os (j : Int) hb
 rw [decide_eq_true hy] at i1 i2
 obtain ⟨c1, c2⟩ := CanEver_eq hk ms os (j : Int) hb
 have hno := leans_no l1
 have hok := leans_ok i1 l1
 subst hok
 obtain ⟨S, W, R, e1, e2, e3, e4⟩ := play_full hk hw false
 have h3 := hw.1
 have p1 := played_won_eq hk hw (S := S) e3.rw
 have j1 := IsWorlds_eq hk ms os hb
 rw [decide_eq_true hw] at j1
 have h4 := e3.rw.rl
 have h5 := e3.rw.row _ hj
 have hf := hw.facts _ hj
 have h6 := hf.hi
 have hlo := hf.lo
 have hWl := e3.rw.wl
 have er : rdl R (j : Int) = some (R.getD j []) := rdl_getD (by omega) _
 have ee : everR ms os (j : Int) = ((everR ms os (j : Int)).1, true) := by unfold everR; rw [if_pos hy]
 refine ⟨L, R.getD j [], (everR ms os (j : Int)).1, true, ⟨l1, l2, ?_, ?_, by rw [c1]; exact congrArg some ee, by rw [c2]; exact congrArg some ee, by omega, by omega, hno, fun _ => ⟨W, j, ?_, rfl, by omega, by omega, ?_, fun h0 => ?_⟩⟩⟩
 ·unfold impl_ReachedIn.f; simp only [i1, e1, er, Option.bind_some, Bool.not_true, Bool.false_eq_true, if_false]
 ·unfold spec_ReachedIn.f; simp only [i2, e2, er, Option.bind_some, Bool.not_true, Bool.false_eq_true, if_false]
 ·unfold impl_WonRounds.f; simp only [j1, e1, p1, Option.bind_some, Bool.not_true, Bool.false_eq_true, if_false]
 ·rw [h5]; exact (e3.rw.same j hj).symm
 ·obtain ⟨T, _, _, _, q⟩ := e4
  rcases q j hj with ⟨q1, _⟩ | ⟨w, _, _, q2, _⟩
  ·omega
  ·rw [ever_of_goal hw hj q2]
theorem world_bad (hk : Big ≤ k) (hb : WB ms os) {y : Int} (hw : ¬ (IsWorldsP ms os ∧ 0 ≤ y ∧ y ≤ (ms.length : Int) - 1)) {L : List Int} {ok : Bool} (l1 : impl_LeansOn.f k ms os y = some (L, ok)) (l2 : spec_LeansOn.f k ms os y = some (L, ok)) :
  ∃ L R cn ok, Vals2 k ms os y L R cn ok := by
 have i1 := isWorld_eq hk ms os y hb
 have i2 := l10World_eq hk ms os y hb
 rw [decide_eq_false hw] at i1 i2
 obtain ⟨c1, c2⟩ := CanEver_eq hk ms os y hb
 obtain ⟨rfl, rfl⟩ := leans_bad i1 l1
 have ee : everR ms os y = (false, false) := by unfold everR; rw [if_neg hw]
 rw [ee] at c1 c2
 have d1 : impl_ReachedIn.f k ms os y = some ([], false) := by unfold impl_ReachedIn.f; rw [i1]; rfl
 have d2 : spec_ReachedIn.f k ms os y = some ([], false) := by unfold spec_ReachedIn.f; rw [i2]; rfl
 exact ⟨[], [], false, false, ⟨l1, l2, d1, d2, c1, c2, by simp, by simp, by simp, fun h => by cases h⟩⟩
theorem world_vals (hk : Big ≤ k) (hb : WB ms os) (y : Int) : ∃ L R cn ok, Vals2 k ms os y L R cn ok := by
 obtain ⟨⟨L, ok⟩, l1, l2, l3⟩ := LeansOn_both hk ms os y hb
 by_cases hw : IsWorldsP ms os ∧ 0 ≤ y ∧ y ≤ (ms.length : Int) - 1
 ·obtain ⟨j, rfl⟩ := Int.eq_ofNat_of_zero_le hw.2.1
  exact world_good hk hb hw.1 (by have := hw.2.2; omega) l1 l2 l3
 ·exact world_bad hk hb hw l1 l2

theorem band_sub {a b : Int} (ha : 0 ≤ a ∧ a ≤ 63) (hb : 0 ≤ b ∧ b ≤ 63) (h : subB a.toNat b.toNat = true) : band b a = a := by
 obtain ⟨x, rfl⟩ := Int.eq_ofNat_of_zero_le ha.1
 obtain ⟨y, rfl⟩ := Int.eq_ofNat_of_zero_le hb.1
 rw [band_nat (by omega) (by omega)]
 congr 1
 rw [Int.toNat_natCast, Int.toNat_natCast] at h
 unfold subB at h
 rw [beq_iff_eq] at h
 rw [Nat.and_comm]; exact h
structure Rows (S : List (List Int)) (n : Nat) : Prop where
 few : S.length ≤ 300 ∧ n ≤ 100
 len : ∀ r (h : r < S.length), S[r].length = n
 up : ∀ r (h : r + 1 < S.length) j (h1 : j < S[r].length) (h2 : j < S[r + 1].length), band S[r + 1][j] S[r][j] = S[r][j]
theorem grow_l1 (hk : Big ≤ k) {S : List (List Int)} {n : Nat} (hS : Rows S n) {r : Nat} (h : r + 1 < S.length) : laws_FnWorlds.l1 k S ((r + 1 : Nat) : Int) k 0 = some (.inl ()) := by
 obtain ⟨h1, h2⟩ := hS.few
 have hlen := hS.len (r + 1) h
 have hlen' := hS.len r (by omega)
 have hw : w64 (((r + 1 : Nat) : Int) - 1) = (r : Int) := by rw [w64_id (by omega) (by omega)]; omega
 have L := Tot.loop (l := fun q (j : Nat) => laws_FnWorlds.l1 k S ((r + 1 : Nat) : Int) q (j : Int)) (fun j => j ≤ n) (fun j => n - j) (fun x => x = .inl ()) (fun q j hj ih => by
  rw [laws_FnWorlds.l1, rdl_lt h, Option.bind_some]
  by_cases hjn : j < n
  ·have hd : decide ((j : Int) < (S[r + 1].length : Int)) = true := decide_eq_true (by omega)
   rw [hd, if_pos rfl]
   simp only [hw, rdl_lt h, rdl_lt (show r < S.length by omega), rdl_lt (show j < S[r + 1].length by omega), rdl_lt (show j < S[r].length by omega), Option.bind_some]
   rw [hS.up r h j (by omega) (by omega), if_neg (by simp), show w64 ((j : Int) + 1) = ((j + 1 : Nat) : Int) from w64_id (by omega) (by omega)]
   exact ih (j + 1) (by omega) (by omega)
  ·have hd : decide ((j : Int) < (S[r + 1].length : Int)) = false := decide_eq_false (by omega)
   rw [hd, if_neg (by decide)]
   exact Tot.ret rfl) k 0 (by unfold Big at hk; omega) (by simp)
 obtain ⟨x, hx, rfl⟩ := L
 exact hx
theorem grow_l4 (hk : Big ≤ k) {S : List (List Int)} {n : Nat} (hS : Rows S n) {r : Nat} (h : r + 1 < S.length) : laws_FnWorlds.l4 k S ((r + 1 : Nat) : Int) k 0 = some (.inl ()) := by
 obtain ⟨h1, h2⟩ := hS.few
 have hlen := hS.len (r + 1) h
 have hlen' := hS.len r (by omega)
 have hw : w64 (((r + 1 : Nat) : Int) - 1) = (r : Int) := by rw [w64_id (by omega) (by omega)]; omega
 have L := Tot.loop (l := fun q (j : Nat) => laws_FnWorlds.l4 k S ((r + 1 : Nat) : Int) q (j : Int)) (fun j => j ≤ n) (fun j => n - j) (fun x => x = .inl ()) (fun q j hj ih => by
  rw [laws_FnWorlds.l4, rdl_lt h, Option.bind_some]
  by_cases hjn : j < n
  ·have hd : decide ((j : Int) < (S[r + 1].length : Int)) = true := decide_eq_true (by omega)
   rw [hd, if_pos rfl]
   simp only [hw, rdl_lt h, rdl_lt (show r < S.length by omega), rdl_lt (show j < S[r + 1].length by omega), rdl_lt (show j < S[r].length by omega), Option.bind_some]
   rw [hS.up r h j (by omega) (by omega), if_neg (by simp), show w64 ((j : Int) + 1) = ((j + 1 : Nat) : Int) from w64_id (by omega) (by omega)]
   exact ih (j + 1) (by omega) (by omega)
  ·have hd : decide ((j : Int) < (S[r + 1].length : Int)) = false := decide_eq_false (by omega)
   rw [hd, if_neg (by decide)]
   exact Tot.ret rfl) k 0 (by unfold Big at hk; omega) (by simp)
 obtain ⟨x, hx, rfl⟩ := L
 exact hx
theorem grow_l0 (hk : Big ≤ k) {S : List (List Int)} {n : Nat} (hS : Rows S n) : laws_FnWorlds.l0 k S k 1 = some (.inl ()) := by
 obtain ⟨h1, h2⟩ := hS.few
 have L := Tot.loop (l := fun q (r : Nat) => laws_FnWorlds.l0 k S q ((r + 1 : Nat) : Int)) (fun r => r ≤ S.length) (fun r => S.length - r) (fun x => x = .inl ()) (fun q r hr ih => by
  rw [laws_FnWorlds.l0]
  by_cases h : r + 1 < S.length
  ·rw [if_pos (by rw [decide_eq_true_iff]; omega), grow_l1 hk hS h, Option.bind_some, show w64 (((r + 1 : Nat) : Int) + 1) = ((r + 1 + 1 : Nat) : Int) from w64_id (by omega) (by omega)]
   exact ih (r + 1) (by omega) (by omega)
  ·rw [if_neg (by rw [decide_eq_true_iff]; omega)]
   exact Tot.ret rfl) k 0 (by unfold Big at hk; omega) (by simp)
 obtain ⟨x, hx, rfl⟩ := L
 exact hx
theorem grow_l3 (hk : Big ≤ k) {S : List (List Int)} {n : Nat} (hS : Rows S n) : laws_FnWorlds.l3 k S k 1 = some (.inl ()) := by
 obtain ⟨h1, h2⟩ := hS.few
 have L := Tot.loop (l := fun q (r : Nat) => laws_FnWorlds.l3 k S q ((r + 1 : Nat) : Int)) (fun r => r ≤ S.length) (fun r => S.length - r) (fun x => x = .inl ()) (fun q r hr ih => by
  rw [laws_FnWorlds.l3]
  by_cases h : r + 1 < S.length
  ·rw [if_pos (by rw [decide_eq_true_iff]; omega), grow_l4 hk hS h, Option.bind_some, show w64 (((r + 1 : Nat) : Int) + 1) = ((r + 1 + 1 : Nat) : Int) from w64_id (by omega) (by omega)]
   exact ih (r + 1) (by omega) (by omega)
  ·rw [if_neg (by rw [decide_eq_true_iff]; omega)]
   exact Tot.ret rfl) k 0 (by unfold Big at hk; omega) (by simp)
 obtain ⟨x, hx, rfl⟩ := L
 exact hx
structure Wins (k : Nat) (ms : List MazeT) (os : List (List Int)) (S : List (List Int)) (W W' : List Int) : Prop where
 few : W.length ≤ 100 ∧ W'.length = W.length
 ever : ∀ j, j < W.length → ∃ b, impl_CanEver.f k ms os (j : Int) = some (b, true) ∧ (0 ≤ W'.getD j 0 → b = true)
 lt : ∀ j, j < W.length → W.getD j 0 < (S.length : Int)
 soon : ∀ j, j < W.length → 0 ≤ W.getD j 0 → 0 ≤ W'.getD j 0 ∧ W'.getD j 0 ≤ W.getD j 0
theorem wins_l2 (hk : Big ≤ k) {S : List (List Int)} {W W' : List Int} (hS : Wins k ms os S W W') : laws_FnWorlds.l2 k ms os S W W' k 0 = some (.inl ()) := by
 obtain ⟨h1, h2⟩ := hS.few
 have L := Tot.loop (l := fun q (j : Nat) => laws_FnWorlds.l2 k ms os S W W' q (j : Int)) (fun j => j ≤ W.length) (fun j => W.length - j) (fun x => x = .inl ()) (fun q j hj ih => by
  rw [laws_FnWorlds.l2]
  by_cases h : j < W.length
  ·obtain ⟨b, e1, e2⟩ := hS.ever j h
   have h3 := hS.lt j h
   have h4 := hS.soon j h
   have r1 : rdl W (j : Int) = some (W.getD j 0) := rdl_getD h _
   have r2 : rdl W' (j : Int) = some (W'.getD j 0) := rdl_getD (by omega) _
   have h5 : decide (W.getD j 0 ≥ (S.length : Int)) = false := decide_eq_false (by omega)
   rw [if_pos (by rw [decide_eq_true_iff]; omega), e1, Option.bind_some]
   simp only [r1, r2, h5, Option.bind_some, Bool.not_true, Bool.false_eq_true, if_false]
   refine Tot.bind (P := fun y => y = false) ?_ fun y hy => ?_
   ·by_cases h6 : W.getD j 0 ≥ 0
    ·obtain ⟨h7, h8⟩ := h4 h6
     rw [if_pos (by rw [decide_eq_true_iff]; exact h6), if_neg (by rw [decide_eq_true_iff]; omega), if_neg (by rw [decide_eq_true_iff]; omega), if_pos (by rw [decide_eq_true_iff]; omega), e2 h7]
     exact Tot.ret rfl
    ·rw [if_neg (by rw [decide_eq_true_iff]; exact h6)]
     refine Tot.ite (fun h7 => ?_) (fun _ => Tot.ret rfl)
     rw [e2 (by have := of_decide_eq_true h7; omega)]
     exact Tot.ret rfl
   ·subst hy
    rw [if_neg (by decide), show w64 ((j : Int) + 1) = ((j + 1 : Nat) : Int) from w64_id (by omega) (by omega)]
    exact ih (j + 1) (by omega) (by omega)
  ·rw [if_neg (by rw [decide_eq_true_iff]; omega)]
   exact Tot.ret rfl) k 0 (by unfold Big at hk; omega) (by simp)
 obtain ⟨x, hx, rfl⟩ := L
 exact hx
theorem wins_l5 (hk : Big ≤ k) {S : List (List Int)} {W W' : List Int} (hS : Wins k ms os S W W') : laws_FnWorlds.l5 k ms os S W W' k 0 = some (.inl ()) := by
 obtain ⟨h1, h2⟩ := hS.few
 have L := Tot.loop (l := fun q (j : Nat) => laws_FnWorlds.l5 k ms os S W W' q (j : Int)) (fun j => j ≤ W.length) (fun j => W.length - j) (fun x => x = .inl ()) (fun q j hj ih => by
  rw [laws_FnWorlds.l5]
  by_cases h : j < W.length
  ·obtain ⟨b, e1, e2⟩ := hS.ever j h
   have h3 := hS.lt j h
   have h4 := hS.soon j h
   have r1 : rdl W (j : Int) = some (W.getD j 0) := rdl_getD h _
   have r2 : rdl W' (j : Int) = some (W'.getD j 0) := rdl_getD (by omega) _
   have h5 : decide (W.getD j 0 ≥ (S.length : Int)) = false := decide_eq_false (by omega)
   rw [if_pos (by rw [decide_eq_true_iff]; omega), e1, Option.bind_some]
   simp only [r1, r2, h5, Option.bind_some, Bool.not_true, Bool.false_eq_true, if_false]
   refine Tot.bind (P := fun y => y = false) ?_ fun y hy => ?_
   ·by_cases h6 : W.getD j 0 ≥ 0
    ·obtain ⟨h7, h8⟩ := h4 h6
     rw [if_pos (by rw [decide_eq_true_iff]; exact h6), if_neg (by rw [decide_eq_true_iff]; omega), if_neg (by rw [decide_eq_true_iff]; omega), if_pos (by rw [decide_eq_true_iff]; omega), e2 h7]
     exact Tot.ret rfl
    ·rw [if_neg (by rw [decide_eq_true_iff]; exact h6)]
     refine Tot.ite (fun h7 => ?_) (fun _ => Tot.ret rfl)
     rw [e2 (by have := of_decide_eq_true h7; omega)]
     exact Tot.ret rfl
   ·subst hy
    rw [if_neg (by decide), show w64 ((j : Int) + 1) = ((j + 1 : Nat) : Int) from w64_id (by omega) (by omega)]
    exact ih (j + 1) (by omega) (by omega)
  ·rw [if_neg (by rw [decide_eq_true_iff]; omega)]
   exact Tot.ret rfl) k 0 (by unfold Big at hk; omega) (by simp)
 obtain ⟨x, hx, rfl⟩ := L
 exact hx
theorem rows_of (hw : IsWorldsP ms os) {S : List (List Int)} {W : List Int} (hF : PlayF ms os false S W) : Rows S ms.length := by
 obtain ⟨T, h1, rfl, _, _⟩ := hF
 have h3 := hw.1
 refine ⟨by simp; omega, fun r h => ?_, fun r h j h4 h5 => ?_⟩
 ·rw [List.getElem_map, List.getElem_range]
  exact (hist_rng hw false r).1
 ·have g := hist_step hw false r
  simp only [List.getElem_map, List.getElem_range] at h4 h5 ⊢
  have e1 : (hist ms os false r)[j] = (hist ms os false r).getD j 0 := by rw [List.getD_eq_getElem?_getD, List.getElem?_eq_getElem h4]; rfl
  have e2 : (hist ms os false (r + 1))[j] = (hist ms os false (r + 1)).getD j 0 := by rw [List.getD_eq_getElem?_getD, List.getElem?_eq_getElem h5]; rfl
  rw [e1, e2]
  exact band_sub (keys_getD g.ra j) (keys_getD g.rb j) (g.sub j)
theorem wins_of (hk : Big ≤ k) (hb : WB ms os) (hw : IsWorldsP ms os) {S S' : List (List Int)} {W W' : List Int} (hW : W.length = ms.length) (hW' : W'.length = ms.length) (hF : PlayF ms os false S W) (hT : PlayF ms os true S' W') : Wins k ms os S W W' := by
 have h3 := hw.1
 refine ⟨⟨by omega, by omega⟩, fun j hj => ?_, fun j hj => ?_, fun j hj h0 => won_sooner hw hF hT (by omega) h0⟩
 ·have hj' : j < ms.length := by omega
  refine ⟨(everR ms os (j : Int)).1, ?_, fun h0 => ?_⟩
  ·rw [(CanEver_eq hk ms os (j : Int) hb).1]
   unfold everR
   rw [if_pos ⟨hw, by omega, by omega⟩]
  ·obtain ⟨T, _, _, _, q⟩ := hT
   rcases q j hj' with ⟨q1, _⟩ | ⟨w, _, _, q2, _⟩
   ·omega
   ·rw [ever_of_goal hw hj' q2]
 ·obtain ⟨T, _, rfl, _, q⟩ := hF
  rw [List.length_map, List.length_range]
  rcases q j (by omega) with ⟨q1, _⟩ | ⟨w, q0, q1, _⟩ <;> omega
theorem laws_FnWorlds.pure (x : List By) (h : wfd x) : ∃ k, laws_FnWorlds.f k x = some true := by
  refine ⟨Big, ?_⟩
  have hk : Big ≤ Big := Nat.le_refl _
  unfold laws_FnWorlds.f laws_rBig.f
  rw [Option.bind_some]
  by_cases hb : (x.length : Int) > 65536
  · rw [if_pos (by simpa using hb)]
  rw [if_neg (by simpa using hb)]
  have hc := code_ok h (by omega)
  obtain ⟨⟨ms, os⟩, e1, hS⟩ := DrawRoundSets_ok hk hc
  obtain ⟨⟨ms2, os2, y⟩, e2, hS2⟩ := DrawLeansOn_ok hk hc
  have hb1 := WS.wb hS
  have hb2 := WS.wb hS2
  simp only at hb1 hb2
  obtain ⟨S, W, al, S', W', ok, V⟩ := worlds_vals (k := Big) hk hb1
  obtain ⟨L, R, cn, ok2, V2⟩ := world_vals (k := Big) hk hb2 y
  have t1 := rTable_eq (k := Big) hk S S (by have := V.b1.1; omega) (fun t ht => by have := V.b1.2 t ht; omega)
  have t2 := rInts_eq (k := Big) hk W W (by have := V.b3; omega)
  have t3 := rTable_eq (k := Big) hk S' S' (by have := V.b2.1; omega) (fun t ht => by have := V.b2.2 t ht; omega)
  have t4 := rInts_eq (k := Big) hk W' W' (by have := V.b4; omega)
  have t5 := rInts_eq (k := Big) hk L L (by have := V2.b1; omega)
  have t6 := rInts_eq (k := Big) hk R R (by have := V2.b2; omega)
  have t7 := rHas_eq (k := Big) hk W (-1) (by have := V.b3; omega)
  have t8 := rHas_eq (k := Big) hk L y (by have := V2.b1; omega)
  have t9 : L.contains y = false := by
    rw [← Bool.not_eq_true, List.contains_iff_mem]; exact V2.no
  have q1 : (if ok = true then (laws_rHas.f Big W (-1)).bind fun t126 => some (al == t126) else some false) = some false := by
    cases ok with
    | false => rfl
    | true =>
      rw [if_pos rfl, t7, Option.bind_some, (V.good rfl).2.2.2.1]
      cases W.contains (-1) <;> rfl
  rw [e1, Option.bind_some]
  simp only
  rw [V.r1, Option.bind_some, V.r2, Option.bind_some]
  simp only [V.r3, V.r4, V.r5, V.r6, V.r7, V.r8, V.r9, V.r10, V.r11, t1, t2, t3, t4, q1, e2, V2.r1, V2.r2, V2.r3, V2.r4, V2.r5, V2.r6, t5, t6, t8, t9, decide_true, Option.bind_some, bne_self_eq_false, Bool.not_true, Bool.false_eq_true, if_false]
  have F1 : ok = true → laws_FnWorlds.l0 Big S Big 1 = some (.inl ()) ∧ laws_FnWorlds.l3 Big S Big 1 = some (.inl ()) ∧ laws_FnWorlds.l2 Big ms os S W W' Big 0 = some (.inl ()) ∧ laws_FnWorlds.l5 Big ms os S W W' Big 0 = some (.inl ()) := fun h => by
    obtain ⟨hw, w1, w2, _, hF, hT⟩ := V.good h
    have hR := rows_of hw hF
    have hW := wins_of hk hb1 hw w1 w2 hF hT
    exact ⟨grow_l0 hk hR, grow_l3 hk hR, wins_l2 hk hW, wins_l5 hk hW⟩
  cases ok2 with
  | false =>
    rw [if_neg (by decide)]
    cases ok with
    | false => rfl
    | true =>
      obtain ⟨f1, f2, f3, f4⟩ := F1 rfl
      rw [if_neg (by decide), f2, Option.bind_some]
      simp only [Lr]
      rw [f4]; rfl
  | true =>
    rw [if_pos rfl]
    obtain ⟨W2, j, v1, rfl, v2, v3, v4, v5⟩ := V2.good rfl
    have b2 := V2.b2
    have r1 : rdl W2 (j : Int) = some (W2.getD j 0) := rdl_getD v2 _
    have r2 : rdl R (w64 ((R.length : Int) - 1)) = some (R.getD (R.length - 1) 0) := by
      rw [show w64 ((R.length : Int) - 1) = ((R.length - 1 : Nat) : Int) by rw [w64_id (by omega) (by omega)]; omega]
      exact rdl_getD (by omega) _
    rw [v1, Option.bind_some]
    simp only [r1, r2, v4, Option.bind_some, bne_self_eq_false, Bool.not_true, Bool.false_eq_true, if_false]
    have hx : (if decide (W2.getD j 0 ≥ 0) = true then some (!cn) else some false) = some false := by
      by_cases h0 : W2.getD j 0 ≥ 0
      · rw [if_pos (by rw [decide_eq_true_iff]; exact h0), v5 h0]; rfl
      · rw [if_neg (by rw [decide_eq_true_iff]; exact h0)]
    rw [hx, Option.bind_some, if_neg (by decide)]
    cases ok with
    | false => rfl
    | true =>
      obtain ⟨f1, f2, f3, f4⟩ := F1 rfl
      rw [if_neg (by decide), f1, Option.bind_some]
      simp only [Lr]
      rw [f3]; rfl
end Go.Proofs

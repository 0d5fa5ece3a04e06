/- A part of the proof of FnFillings: the plain law. No condition. -/
import Derived.Test.YtebbaacgalipaaaFnFillingsB
import Derived.Test.YtebbaacgalipaaaFnFillingsC
import Derived.Test.YtebbaacgalipaaaFnFillingsD
import Derived.Test.YtebbaacgalipaaaFnFillingsE
import Derived.Test.YtebbaacgalipaaaFnFillingsF
import Derived.Test.YtebbaacgalipaaaFnFillingsG
import Derived.Test.YtebbaacgalipaaaFnFillingsH
set_option linter.unusedSimpArgs false
/- Plain laws: VV -/
namespace Go.Proofs
open Go Go.Ga Go.Ga.Wf
set_option linter.unusedVariables false
set_option linter.unusedSimpArgs false
theorem marks_ge (r : Int) (hr : 0 ≤ r) (p : Nat) : ∀ (l s : List Int), 0 ≤ s.getD p 0 → 0 ≤ (l.foldl (markE r) s).getD p 0
  | [], s, h => h
  | x :: l, s, h => by
    rw [List.foldl_cons]
    refine marks_ge r hr p l _ ?_
    unfold markE
    split
    · rw [getD_set]; split <;> assumption
    · exact h
theorem entI_ge (d : List Door) (L : List Int) (p : Nat) (s : List Int) (h : 0 ≤ s.getD p 0) : ∀ m, 0 ≤ (itr (entG d L) m 0 s).getD p 0
  | 0 => h
  | m + 1 => by
    rw [itr_snoc]
    unfold entG
    exact marks_ge _ (by omega) p _ _ (entI_ge d L p s h m)
theorem depthP_ge (n : Int) (d : List Door) (ks : List Int) (x : Nat) (fs : List Int) : 0 ≤ depthP n d ks x fs := by
  unfold depthP entE
  refine entI_ge _ _ _ _ ?_ _
  rw [List.getD_eq_getElem?_getD, List.getElem?_replicate]; split <;> simp
section
variable {k : Nat}
/-- the deepest so far: its place, and how deep -/
def deepG (D : List Int → Int) (W : List (List Int)) (i : Nat) (s : Int × Int) : Int × Int := if D (W.getD i []) > s.2 then ((i : Int), D (W.getD i [])) else s
theorem impl_deep (hk : Big ≤ k) (n : Int) (d : List Door) (ks : List Int) (h : Int) (D : List Int → Int) (W : List (List Int)) (hl : W.length ≤ 4096) (hD : ∀ fs ∈ W, impl_depth.f k n d ks h fs = some (D fs)) (s : Int × Int) :
    impl_DeepestFilling.l0 k n d ks h W k s.1 s.2 0 = some (itr (deepG D W) W.length 0 s) := by
  have := loop_state (l := fun q (s : Int × Int) i => impl_DeepestFilling.l0 k n d ks h W q s.1 s.2 i) (N := W.length) (g := deepG D W) (out := some) (fun _ _ => True) (fun q i s hi _ => by
    refine ⟨?_, trivial⟩
    have hg : W.getD i [] = W[i] := by rw [List.getD_eq_getElem?_getD, List.getElem?_eq_getElem hi]; rfl
    have hlt : ((i : Int) < (W.length : Int)) := by omega
    have hw : w64 ((i : Int) + 1) = ((i + 1 : Nat) : Int) := w64_id (by omega) (by omega)
    try simp only
    rw [impl_DeepestFilling.l0]
    simp only [hlt, decide_true, if_true, rdl_lt hi, Option.bind_some, hD _ (List.getElem_mem hi), hw]
    unfold deepG; rw [hg]
    by_cases c : D W[i] > s.2
    · rw [if_pos (decide_eq_true c), if_pos c]; rfl
    · rw [if_neg (by simpa using c), if_neg c]; rfl) (fun q s _ => by
    try simp only
    rw [impl_DeepestFilling.l0]; simp) (k := k) (by unfold Big at hk; omega) (s := s) trivial
  exact this.1
theorem spec_deep (hk : Big ≤ k) (n : Int) (d : List Door) (ks : List Int) (h : Int) (D : List Int → Int) (W : List (List Int)) (hl : W.length ≤ 4096) (hD : ∀ fs ∈ W, spec_l9Depth.f k n d ks h fs = some (D fs)) (s : Int × Int) :
    spec_DeepestFilling.l0 k n d ks h W k s.1 s.2 0 = some (itr (deepG D W) W.length 0 s) := by
  have := loop_state (l := fun q (s : Int × Int) i => spec_DeepestFilling.l0 k n d ks h W q s.1 s.2 i) (N := W.length) (g := deepG D W) (out := some) (fun _ _ => True) (fun q i s hi _ => by
    refine ⟨?_, trivial⟩
    have hg : W.getD i [] = W[i] := by rw [List.getD_eq_getElem?_getD, List.getElem?_eq_getElem hi]; rfl
    have hlt : ((i : Int) < (W.length : Int)) := by omega
    have hw : w64 ((i : Int) + 1) = ((i + 1 : Nat) : Int) := w64_id (by omega) (by omega)
    try simp only
    rw [spec_DeepestFilling.l0]
    simp only [hlt, decide_true, if_true, rdl_lt hi, Option.bind_some, hD _ (List.getElem_mem hi), hw]
    unfold deepG; rw [hg]
    by_cases c : D W[i] > s.2
    · rw [if_pos (decide_eq_true c), if_pos c]; rfl
    · rw [if_neg (by simpa using c), if_neg c]; rfl) (fun q s _ => by
    try simp only
    rw [spec_DeepestFilling.l0]; simp) (k := k) (by unfold Big at hk; omega) (s := s) trivial
  exact this.1
theorem deep_inv (D : List Int → Int) (W : List (List Int)) (hD : ∀ fs ∈ W, 0 < D fs) (hW : 0 < W.length) (a : Int) : ∀ m, m < W.length → itr (deepG D W) (m + 1) 0 (a, 0) = itr (deepG D W) (m + 1) 0 (0, 0) ∧ 0 ≤ (itr (deepG D W) (m + 1) 0 (0, 0)).1 ∧ (itr (deepG D W) (m + 1) 0 (0, 0)).1 < W.length ∧ 0 < (itr (deepG D W) (m + 1) 0 (0, 0)).2
  | 0, h => by
    have hg : W.getD 0 [] = W[0] := by rw [List.getD_eq_getElem?_getD, List.getElem?_eq_getElem hW]; rfl
    have h0 := hD _ (List.getElem_mem hW)
    have e : ∀ a : Int, deepG D W 0 (a, 0) = ((0 : Int), D W[0]) := fun a => by
      unfold deepG; rw [hg, if_pos h0]; rfl
    show deepG D W 0 (a, 0) = deepG D W 0 (0, 0) ∧ 0 ≤ (deepG D W 0 (0, 0)).1 ∧ (deepG D W 0 (0, 0)).1 < W.length ∧ 0 < (deepG D W 0 (0, 0)).2
    rw [e, e]
    exact ⟨rfl, Int.le_refl _, by simp only; omega, h0⟩
  | m + 1, h => by
    obtain ⟨h1, h2, h3, h4⟩ := deep_inv D W hD hW a m (by omega)
    rw [itr_snoc (deepG D W) (m + 1) 0 (a, 0), itr_snoc (deepG D W) (m + 1) 0 (0, 0), h1]
    generalize itr (deepG D W) (m + 1) 0 (0, 0) = s at *
    refine ⟨rfl, ?_⟩
    have hg : W.getD (0 + (m + 1)) [] = W[m + 1] := by rw [Nat.zero_add, List.getD_eq_getElem?_getD, List.getElem?_eq_getElem h]; rfl
    unfold deepG
    by_cases c : D (W.getD (0 + (m + 1)) []) > s.2
    · rw [if_pos c]; simp only; omega
    · rw [if_neg c]; exact ⟨h2, h3, h4⟩
end
end Go.Proofs

/- Plain laws: WW -/
namespace Go.Proofs
open Go Go.Ga Go.Ga.Wf
set_option linter.unusedVariables false
set_option linter.unusedSimpArgs false
def Tot {α : Type} (o : Option α) (P : α → Prop) : Prop := ∃ r, o = some r ∧ P r
theorem Tot.bind {α β : Type} {o : Option α} {f : α → Option β} {P : α → Prop} {Q : β → Prop} (h : Tot o P) (g : ∀ r, P r → Tot (f r) Q) : Tot (o.bind f) Q := by
  obtain ⟨r, rfl, hr⟩ := h; exact g r hr
theorem Tot.ret {α : Type} {r : α} {Q : α → Prop} (h : Q r) : Tot (some r) Q := ⟨r, rfl, h⟩
theorem Tot.ite {α : Type} {c : Prop} [Decidable c] {x y : Option α} {Q : α → Prop} (h1 : c → Tot x Q) (h2 : ¬ c → Tot y Q) : Tot (if c then x else y) Q := by
  by_cases h : c
  · rw [if_pos h]; exact h1 h
  · rw [if_neg h]; exact h2 h
theorem Tot.mono {α : Type} {o : Option α} {P Q : α → Prop} (h : Tot o P) (g : ∀ r, P r → Q r) : Tot o Q := by obtain ⟨r, e, hr⟩ := h; exact ⟨r, e, g r hr⟩
theorem Tot.rdl {α : Type} {l : List α} {i : Int} (h0 : 0 ≤ i) (h1 : i < l.length) : Tot (rdl l i) (fun x => x ∈ l) := by
  obtain ⟨n, rfl⟩ := Int.eq_ofNat_of_zero_le h0
  exact ⟨l[n]'(by omega), rdl_lt (by omega), List.getElem_mem _⟩
theorem Tot.loop {S β : Type} {l : Nat → S → Option β} (Inv : S → Prop) (mu : S → Nat) (Q : β → Prop)
    (hs : ∀ n s, Inv s → (∀ s', Inv s' → mu s' < mu s → Tot (l n s') Q) → Tot (l (n + 1) s) Q) : ∀ k s, mu s < k → Inv s → Tot (l k s) Q := by
  intro k
  induction k with
  | zero => intro s h; omega
  | succ k ih => exact fun s h hI => hs k s hI fun s' h1 h2 => ih s' (by omega) h1
/-- bytes, not too many -/
def CodeOk (c : List By) : Prop := c.length ≤ 1000000 ∧ ∀ x ∈ c, 0 ≤ x.v ∧ x.v ≤ 255
/-- a place in them -/
def Pos (a : Int) : Prop := 0 ≤ a ∧ a ≤ 100000000
variable {k : Nat} {c : List By} {a s : Int}
theorem uand255 (y : Int) : 0 ≤ uand y 255 ∧ uand y 255 ≤ 255 := by
  unfold uand
  have h : (BitVec.ofInt 64 y &&& BitVec.ofInt 64 255).toNat ≤ 255 := by
    rw [BitVec.toNat_and]
    exact Nat.le_trans Nat.and_le_right (by decide)
  have h2 : IntKind.u64.wrap ((BitVec.ofInt 64 y &&& BitVec.ofInt 64 255).toNat : Int) = ((BitVec.ofInt 64 y &&& BitVec.ofInt 64 255).toNat : Int) := by
    generalize (BitVec.ofInt 64 y &&& BitVec.ofInt 64 255).toNat = m at h
    unfold IntKind.wrap
    simp [IntKind.bits, IntKind.signed]
    omega
  rw [h2]; omega
theorem next_ok (hc : CodeOk c) (ha : 0 ≤ a ∧ a ≤ 1000000000) : Tot (spec_l1Cur_next.f k c a s) (fun r => (0 ≤ r.1 ∧ r.1 ≤ 255) ∧ r.2.1 = a + 1) := by
  unfold spec_l1Cur_next.f
  obtain ⟨h0, h1⟩ := ha
  have hw : w64 (a + 1) = a + 1 := w64_id (by omega) (by omega)
  refine Tot.bind (P := fun y => 0 ≤ y ∧ y ≤ 255) ?_ fun y hy => ?_
  · refine Tot.ite (fun h => ?_) (fun h => Tot.ret (by omega))
    refine Tot.bind (Tot.rdl h0 (by simpa using h)) fun x hx => Tot.ret ?_
    have := hc.2 x hx
    have e : IntKind.i64.wrap x.v = x.v := w64_id (by omega) (by omega)
    rw [e]; exact this
  · rw [hw]
    refine Tot.ite (fun h => Tot.ret ⟨hy, rfl⟩) (fun h => Tot.ret ⟨?_, rfl⟩)
    have := uand255 (shr (wU (wU (wU (s * 6364136223846793005) + IntKind.u64.wrap y) + 462197)) 40)
    have e : ∀ z : Int, 0 ≤ z ∧ z ≤ 255 → IntKind.i64.wrap z = z := fun z hz => w64_id (by omega) (by omega)
    simp only
    rw [e _ this]; exact this
theorem pick_ok (hc : CodeOk c) (ha : Pos a) (n : Int) : Tot (spec_l1Cur_pick.f k c a s n) (fun r => 0 ≤ r.1 ∧ (r.1 < n ∨ r.1 = 0) ∧ a ≤ r.2.1 ∧ r.2.1 ≤ a + 2) := by
  unfold spec_l1Cur_pick.f
  refine Tot.ite (fun h => Tot.ret ⟨by simp, .inr rfl, by simp only; omega⟩) (fun h => ?_)
  have h' : 1 < n := by simpa using h
  have hp := ha
  unfold Pos at hp
  refine Tot.bind (next_ok hc (by omega)) ?_
  rintro ⟨x, a1, s1⟩ ⟨h1, h2⟩
  simp only at h1 h2 ⊢
  refine Tot.bind (P := fun r => 0 ≤ r.1 ∧ a ≤ r.2.1 ∧ r.2.1 ≤ a + 2) ?_ ?_
  · refine Tot.ite (fun h => ?_) (fun h => Tot.ret (by simp only; omega))
    refine Tot.bind (next_ok hc (a := a1) (by omega)) ?_
    rintro ⟨x2, a2, s2⟩ ⟨h3, h4⟩
    simp only at h3 h4 ⊢
    refine Tot.ret ?_
    have e1 : w64 (x * 256) = x * 256 := w64_id (by omega) (by omega)
    rw [e1]
    have e2 : w64 (x * 256 + x2) = x * 256 + x2 := w64_id (by omega) (by omega)
    rw [e2]; simp only; omega
  · rintro ⟨y, a2, s2⟩ ⟨h3, h4⟩
    simp only at h3 h4 ⊢
    rw [if_pos (by omega)]
    refine Tot.ret ⟨?_, .inl ?_, h4⟩
    · exact Int.tmod_nonneg _ h3
    · exact Int.tmod_lt_of_pos _ (by omega)
theorem one_ok (hc : CodeOk c) (ha : Pos a) (n : Int) : Tot (spec_l1Cur_one.f k c a s n) (fun r => a ≤ r.2.1 ∧ r.2.1 ≤ a + 2) := by
  unfold spec_l1Cur_one.f
  refine Tot.bind (pick_ok hc ha n) ?_
  rintro ⟨x, a1, s1⟩ ⟨_, _, h⟩
  exact Tot.ret h
theorem among_ok (hc : CodeOk c) (ha : Pos a) (l : List Int) (hl : l ≠ []) : Tot (spec_l1Cur_among.f k c a s l) (fun r => r.1 ∈ l ∧ a ≤ r.2.1 ∧ r.2.1 ≤ a + 2) := by
  unfold spec_l1Cur_among.f
  have hp : 0 < l.length := List.length_pos_iff.2 hl
  refine Tot.bind (pick_ok hc ha _) ?_
  rintro ⟨x, a1, s1⟩ ⟨h0, h1, h⟩
  simp only at h0 h1 h ⊢
  refine Tot.bind (Tot.rdl h0 (by omega)) fun t ht => Tot.ret ⟨ht, h⟩
theorem few_ok (hk : Big ≤ k) (hc : CodeOk c) (ha : Pos (a + 100)) (h0 : 0 ≤ a) (n : Int) : Tot (spec_l1Cur_few.f k c a s n) (fun r => a ≤ r.2.1 ∧ r.2.1 ≤ a + 6) := by
  unfold spec_l1Cur_few.f
  refine Tot.bind (among_ok hc (by unfold Pos at *; omega) _ (by simp)) ?_
  rintro ⟨x, a1, s1⟩ ⟨hm, h⟩
  simp only at hm h ⊢
  have hx : 0 ≤ x ∧ x ≤ 2 := by simp only [List.mem_cons, List.not_mem_nil, or_false] at hm; omega
  have := Tot.loop (l := fun q (s : Int × Int × Int × Int) => spec_l1Cur_few.l0 k c n q s.1 s.2.1 s.2.2.1 s.2.2.2) (fun s => (0 ≤ s.2.1 ∧ s.2.1 ≤ 2) ∧ a ≤ s.2.2.1 ∧ s.2.2.1 + 2 * s.2.1 ≤ a + 6) (fun s => s.2.1.toNat) (fun r => a ≤ r.2.1 ∧ r.2.1 ≤ a + 6) (fun q s hI ih => by
    obtain ⟨z, m, b, s'⟩ := s
    obtain ⟨e1, e2, e3⟩ := hI
    simp only at e1 e2 e3 ih ⊢
    rw [spec_l1Cur_few.l0]
    refine Tot.ite (fun g => ?_) (fun g => Tot.ret (by simp only; omega))
    have hm : 0 < m := by simpa using g
    refine Tot.bind (pick_ok hc (by unfold Pos at *; omega) _) ?_
    rintro ⟨t, b1, s2⟩ ⟨f1, _, f2⟩
    simp only at f1 f2 ⊢
    rw [if_pos (by omega), show w64 (m - 1) = m - 1 from w64_id (by omega) (by omega)]
    exact ih (_, m - 1, b1, s2) ⟨by simp only; omega, by simp only; omega, by simp only; omega⟩ (by simp only; omega)) k (0, x, a1, s1) (by simp only; unfold Big at hk; omega) ⟨hx, by simp only; omega, by simp only; omega⟩
  refine Tot.bind this ?_
  rintro ⟨r, b, s2⟩ h
  exact Tot.ret h
theorem colours_ok (hk : Big ≤ k) (hc : CodeOk c) (ha : Pos (a + 100)) (h0 : 0 ≤ a) : Tot (spec_l1Cur_colours.f k c a s) (fun r => (-1 ≤ r.1 ∧ r.1 ≤ 4611686018427387904) ∧ a ≤ r.2.1 ∧ r.2.1 ≤ a + 10) := by
  unfold spec_l1Cur_colours.f
  refine Tot.bind (one_ok hc (by unfold Pos at *; omega) _) ?_
  rintro ⟨b, a1, s1⟩ h
  simp only at h ⊢
  refine Tot.ite (fun g => ?_) (fun g => ?_)
  · refine Tot.bind (among_ok hc (by unfold Pos at *; omega) _ (by simp)) ?_
    rintro ⟨x, a2, s2⟩ ⟨hm, h'⟩
    simp only at hm h' ⊢
    refine Tot.ret ⟨?_, by simp only; omega⟩
    simp only [List.mem_cons, List.not_mem_nil, or_false] at hm; simp only; omega
  · refine Tot.bind (pick_ok hc (by unfold Pos at *; omega) _) ?_
    rintro ⟨x, a2, s2⟩ ⟨g1, g2, h'⟩
    simp only at g1 g2 h' ⊢
    have := Tot.loop (l := fun q (s : Int × Int × Int × Int) => spec_l1Cur_colours.l0 k c q s.1 s.2.1 s.2.2.1 s.2.2.2) (fun s => (0 ≤ s.1 ∧ s.1 ≤ 63) ∧ (0 ≤ s.2.1 ∧ s.2.1 ≤ 3) ∧ a ≤ s.2.2.1 ∧ s.2.2.1 + 2 * s.2.1 ≤ a + 10) (fun s => s.2.1.toNat) (fun r => (0 ≤ r.1 ∧ r.1 ≤ 63) ∧ a ≤ r.2.1 ∧ r.2.1 ≤ a + 10) (fun q s hI ih => by
      obtain ⟨z, m, b, s'⟩ := s
      obtain ⟨e0, e1, e2, e3⟩ := hI
      simp only at e0 e1 e2 e3 ih ⊢
      rw [spec_l1Cur_colours.l0]
      refine Tot.ite (fun g => ?_) (fun g => Tot.ret ⟨e0, by simp only; omega⟩)
      have hm : 0 < m := by simpa using g
      refine Tot.bind (pick_ok hc (by unfold Pos at *; omega) _) ?_
      rintro ⟨t, b1, s2⟩ ⟨f1, f3, f2⟩
      simp only at f1 f2 f3 ⊢
      obtain ⟨t, rfl⟩ := Int.eq_ofNat_of_zero_le f1
      have hsh : 0 ≤ shl 1 (t : Int) ∧ shl 1 (t : Int) ≤ 63 := by
        rw [shl_one (by omega)]
        have h32 : 2 ^ t ≤ 2 ^ 5 := Nat.pow_le_pow_right (by omega) (by omega)
        generalize 2 ^ t = w at h32 ⊢
        omega
      rw [if_pos (by omega), show w64 (m - 1) = m - 1 from w64_id (by omega) (by omega)]
      exact ih (_, m - 1, b1, s2) ⟨(bor_le63 e0 hsh).1, by simp only; omega, by simp only; omega, by simp only; omega⟩ (by simp only; omega)) k (0, x, a2, s2) (by simp only; unfold Big at hk; omega) ⟨by simp, by simp only; omega, by simp only; omega, by simp only; omega⟩
    refine Tot.bind this ?_
    rintro ⟨r, b, s2⟩ ⟨h1, h⟩
    exact Tot.ret ⟨by simp only at h1 ⊢; omega, h⟩
/-- a small maze, valid or not -/
def MzS (n : Int) (d : List Door) (ks : List Int) : Prop := (-1 ≤ n ∧ n ≤ 4611686018427387904) ∧ d.length ≤ 40 ∧ ks.length ≤ 20
theorem putD_ok (hk : Big ≤ k) (d : List Door) (A B C : Int) (hd : d.length ≤ 100) (hs : d.Pairwise DoorLt) : Tot (spec_l2Put.f k d A B C) (fun r => r.Pairwise DoorLt ∧ r.length ≤ d.length + 1) := by
  rw [l2Put_eq hk d A B C (by omega) hs]
  refine Tot.ret ?_
  split
  · exact ⟨hs, by omega⟩
  · rename_i h; exact ⟨insD_sorted _ _ hs h, by rw [insD_length]; omega⟩
theorem someMaze_ok (hk : Big ≤ k) (hc : CodeOk c) (ha : Pos (a + 1000)) (h0 : 0 ≤ a) (n : Int) (hn : 1 ≤ n ∧ n ≤ 12) : Tot (spec_l1Cur_someMaze.f k c a s n) (fun r => MzS r.1 r.2.1 r.2.2.1 ∧ a ≤ r.2.2.2.1 ∧ r.2.2.2.1 ≤ a + 300) := by
  have hA : a + 1000 ≤ 100000000 := ha.2
  clear ha
  have P : ∀ x : Int, a ≤ x → x ≤ a + 500 → Pos x := fun x h1 h2 => by unfold Pos; omega
  unfold spec_l1Cur_someMaze.f
  refine Tot.bind (pick_ok hc (P _ (by omega) (by omega)) _) ?_
  rintro ⟨m, a1, s1⟩ ⟨g1, g2, g3⟩
  simp only at g1 g2 g3 ⊢
  have hm : w64 (1 + m) = 1 + m := w64_id (by omega) (by omega)
  -- the nodes
  have L0 := Tot.loop (l := fun q (s : Int × Int × List Door × List Int × Int × Int) => spec_l1Cur_someMaze.l0 k c n m q s.1 s.2.1 s.2.2.1 s.2.2.2.1 s.2.2.2.2.1 s.2.2.2.2.2)
    (fun s => (0 ≤ s.2.1 ∧ s.2.1 ≤ 13) ∧ (s.2.2.1.Pairwise DoorLt ∧ (s.2.2.1.length : Int) ≤ s.2.1) ∧ ((s.2.2.2.1.length : Int) = s.2.1 ∧ s.2.2.2.1.length ≤ n.toNat) ∧ a ≤ s.2.2.2.2.1 ∧ s.2.2.2.2.1 ≤ a + 2 + 14 * s.2.1) (fun s => (13 - s.2.1).toNat)
    (fun r => (r.2.2.1.Pairwise DoorLt ∧ r.2.2.1.length ≤ 13) ∧ r.2.2.2.length = n.toNat ∧ a ≤ r.1 ∧ r.1 ≤ a + 184) (fun q s hI ih => by
    obtain ⟨z, i, d, ks, b, s'⟩ := s
    obtain ⟨e1, ⟨e2, e3⟩, ⟨e4, e4'⟩, e5, e6⟩ := hI
    simp only at e1 e2 e3 e4 e4' e5 e6 ih ⊢
    rw [spec_l1Cur_someMaze.l0]
    refine Tot.bind (P := fun y => y = true ↔ i < n ∧ i < 13) ?_ ?_
    · refine Tot.ite (fun h => Tot.ret ?_) (fun h => Tot.ret ?_)
      · have : i < n := by simpa using h
        simp [this]
      · have : ¬ i < n := by simpa using h
        simp [this]
    intro y hy
    refine Tot.ite (fun h => ?_) (fun h => Tot.ret ⟨⟨e2, by simp only; omega⟩, ?_, e5, by simp only; omega⟩)
    rotate_left 1
    · have : ¬ (i < n ∧ i < 13) := fun hh => h (hy.2 hh)
      simp only; omega
    have hi := hy.1 h
    refine Tot.bind (one_ok hc (P _ (by omega) (by omega)) _) ?_
    rintro ⟨o, b1, s1⟩ f1
    simp only at f1 ⊢
    refine Tot.bind (P := fun r => a ≤ r.2.1 ∧ r.2.1 ≤ a + 2 + 14 * i + 4) ?_ ?_
    · refine Tot.ite (fun h => ?_) (fun h => Tot.ret (by simp only; omega))
      refine Tot.bind (pick_ok hc (P _ (by omega) (by omega)) _) ?_
      rintro ⟨t, b2, s2⟩ ⟨f2, f3, f4⟩
      simp only at f2 f3 f4 ⊢
      rw [if_pos (by omega)]
      exact Tot.ret (by simp only; omega)
    rintro ⟨y9, b2, s2⟩ f2
    simp only at f2 ⊢
    rw [if_pos (by simp; omega)]
    refine Tot.bind (P := fun r => (r.2.2.Pairwise DoorLt ∧ (r.2.2.length : Int) ≤ i + 1) ∧ a ≤ r.1 ∧ r.1 ≤ a + 2 + 14 * i + 14) ?_ ?_
    · refine Tot.ite (fun h => ?_) (fun h => Tot.ret ⟨⟨e2, by simp only; omega⟩, by simp only; omega⟩)
      refine Tot.bind (few_ok hk hc (by unfold Pos; omega) (by omega) _) ?_
      rintro ⟨t, b3, s3⟩ f3
      simp only at f3 ⊢
      refine Tot.bind (one_ok hc (P _ (by omega) (by omega)) _) ?_
      rintro ⟨o2, b4, s4⟩ f4
      simp only at f4 ⊢
      refine Tot.bind (P := fun _ => True) (Tot.ite (fun h => Tot.ret trivial) (fun h => Tot.ret trivial)) ?_
      intro y10 _
      refine Tot.bind (pick_ok hc (P _ (by omega) (by omega)) _) ?_
      rintro ⟨t5, b5, s5⟩ ⟨_, _, f5⟩
      simp only at f5 ⊢
      refine Tot.bind (putD_ok hk d _ _ _ (by omega) e2) ?_
      intro d2 f6
      exact Tot.ret ⟨⟨f6.1, by have := f6.2; simp only; omega⟩, by simp only; omega⟩
    rintro ⟨b3, s3, d2⟩ ⟨⟨f3, f4⟩, f5⟩
    simp only at f3 f4 f5 ⊢
    rw [show w64 (i + 1) = i + 1 from w64_id (by omega) (by omega)]
    exact ih (_, i + 1, d2, ks ++ [y9], b3, s3) ⟨by simp only; omega, ⟨f3, by simp only; omega⟩, ⟨by simp; omega, by simp; omega⟩, f5.1, by simp only; omega⟩ (by simp only; omega)) k (0, 0, [], [], a1, s1) (by simp only; unfold Big at hk; omega) ⟨by simp, ⟨.nil, by simp⟩, ⟨by simp, by simp⟩, by simp only; omega, by simp only; omega⟩
  refine Tot.bind L0 ?_
  rintro ⟨a2, s2, d, ks⟩ ⟨⟨d1, d2⟩, k1, p1, p2⟩
  simp only at d1 d2 k1 p1 p2 ⊢
  refine Tot.bind (pick_ok hc (P _ (by omega) (by omega)) _) ?_
  rintro ⟨m2, a3, s3⟩ ⟨j1, j2, j3⟩
  simp only at j1 j2 j3 ⊢
  -- more doors
  have L1 := Tot.loop (l := fun q (s : Int × Int × Int × List Door) => spec_l1Cur_someMaze.l1 k c n m q s.1 s.2.1 s.2.2.1 s.2.2.2)
    (fun s => (0 ≤ s.1 ∧ s.1 ≤ 5) ∧ (s.2.2.2.Pairwise DoorLt ∧ (s.2.2.2.length : Int) + s.1 ≤ 18) ∧ a ≤ s.2.1 ∧ s.2.1 + 10 * s.1 ≤ a + 236) (fun s => s.1.toNat)
    (fun r => r.2.2.length ≤ 18 ∧ a ≤ r.1 ∧ r.1 ≤ a + 236) (fun q s hI ih => by
    obtain ⟨i, b, s', d⟩ := s
    obtain ⟨e1, ⟨e2, e3⟩, e5, e6⟩ := hI
    simp only at e1 e2 e3 e5 e6 ih ⊢
    rw [spec_l1Cur_someMaze.l1]
    refine Tot.bind (P := fun y => y = true → i > 0) ?_ ?_
    · refine Tot.ite (fun h => ?_) (fun h => Tot.ret (by simp))
      have : i > 0 := by simpa using h
      exact Tot.ite (fun h => Tot.ret fun _ => this) (fun h => Tot.ret fun _ => this)
    intro y hy
    refine Tot.ite (fun h => ?_) (fun h => Tot.ret ⟨by simp only; omega, e5, by simp only; omega⟩)
    have hi := hy h
    refine Tot.bind (pick_ok hc (P _ (by omega) (by omega)) _) ?_
    rintro ⟨t1, b1, s1⟩ ⟨_, _, f1⟩
    simp only at f1 ⊢
    refine Tot.bind (pick_ok hc (P _ (by omega) (by omega)) _) ?_
    rintro ⟨t2, b2, s2⟩ ⟨_, _, f2⟩
    simp only at f2 ⊢
    refine Tot.bind (P := fun r => (r.2.2.Pairwise DoorLt ∧ (r.2.2.length : Int) + i ≤ 19) ∧ a ≤ r.1 ∧ r.1 + 10 * i ≤ a + 246) ?_ ?_
    · refine Tot.ite (fun h => ?_) (fun h => Tot.ret ⟨⟨e2, by simp only; omega⟩, by simp only; omega⟩)
      refine Tot.bind (few_ok hk hc (by unfold Pos; omega) (by omega) _) ?_
      rintro ⟨t3, b3, s3⟩ f3
      simp only at f3 ⊢
      refine Tot.bind (putD_ok hk d _ _ _ (by omega) e2) ?_
      intro d2 f6
      exact Tot.ret ⟨⟨f6.1, by have := f6.2; simp only; omega⟩, by simp only; omega⟩
    rintro ⟨b3, s3, d2⟩ ⟨⟨f3, f4⟩, f5⟩
    simp only at f3 f4 f5 ⊢
    rw [show w64 (i - 1) = i - 1 from w64_id (by omega) (by omega)]
    exact ih (i - 1, b3, s3, d2) ⟨by simp only; omega, ⟨f3, by simp only; omega⟩, f5.1, by simp only; omega⟩ (by simp only; omega)) k (m2, a3, s3, d) (by simp only; unfold Big at hk; omega) ⟨by simp only; omega, ⟨d1, by simp only; omega⟩, by simp only; omega, by simp only; omega⟩
  refine Tot.bind L1 ?_
  rintro ⟨a4, s4, e⟩ ⟨d3, p3, p4⟩
  simp only at d3 p3 p4 ⊢
  refine Tot.bind (pick_ok hc (P _ (by omega) (by omega)) _) ?_
  rintro ⟨m3, a5, s5⟩ ⟨_, _, j4⟩
  simp only at j4 ⊢
  have hn1 : w64 (n + 1) = n + 1 := w64_id (by omega) (by omega)
  refine Tot.ite (fun g => ?_) (fun _ => Tot.ite (fun g => ?_) (fun _ => Tot.ite (fun g => ?_) (fun _ => Tot.ite (fun g => ?_) (fun _ => Tot.ite (fun g => ?_) (fun _ => ?_)))))
  · refine Tot.bind (among_ok hc (P _ (by omega) (by omega)) _ (by simp)) ?_
    rintro ⟨t, b, s6⟩ ⟨hm, h'⟩
    simp only [List.mem_cons, List.not_mem_nil, or_false, hn1] at hm
    simp only at h' ⊢
    exact Tot.ret ⟨⟨by simp only; omega, by simp only; omega, by simp only; omega⟩, by simp only; omega⟩
  · refine Tot.bind (P := fun r => r.2.2.length ≤ 18 ∧ a ≤ r.1 ∧ r.1 ≤ a + 240) ?_ ?_
    · refine Tot.ite (fun h => ?_) (fun h => Tot.ret ⟨d3, by simp only; omega⟩)
      have he : 0 < (e.length : Int) := by simpa using h
      refine Tot.bind (pick_ok hc (P _ (by omega) (by omega)) _) ?_
      rintro ⟨t, b, s6⟩ ⟨h1, h2, h3⟩
      simp only at h1 h2 h3 ⊢
      have hb : t < (e.length : Int) := by omega
      refine Tot.bind (Tot.rdl h1 hb) fun _ _ => Tot.bind (Tot.rdl h1 hb) fun _ _ => Tot.bind (Tot.rdl h1 hb) fun _ _ => Tot.ret ⟨by simpa using d3, by simp only; omega⟩
    rintro ⟨b, s6, e'⟩ ⟨h1, h2⟩
    exact Tot.ret ⟨⟨by simp only; omega, by simp only at h1 ⊢; omega, by simp only; omega⟩, by simp only at h2 ⊢; omega⟩
  · refine Tot.bind (P := fun r => r.2.2.length = ks.length ∧ a ≤ r.1 ∧ r.1 ≤ a + 242) ?_ ?_
    · refine Tot.ite (fun h => ?_) (fun h => Tot.ret ⟨rfl, by simp only; omega⟩)
      have he : 0 < (ks.length : Int) := by simpa using h
      refine Tot.bind (P := fun r => r.2.2.length = ks.length ∧ a ≤ r.1 ∧ r.1 ≤ a + 242) ?_ fun r hr => Tot.ret hr
      refine Tot.bind (pick_ok hc (P _ (by omega) (by omega)) _) ?_
      rintro ⟨t, b, s6⟩ ⟨h1, h2, h3⟩
      simp only at h1 h2 h3 ⊢
      refine Tot.bind (among_ok hc (P _ (by omega) (by omega)) _ (by simp)) ?_
      rintro ⟨t2, b2, s7⟩ ⟨_, h4⟩
      simp only at h4 ⊢
      refine Tot.bind (Tot.rdl h1 (by omega)) fun _ _ => Tot.ret ⟨by simp, by simp only; omega⟩
    rintro ⟨b, s6, e'⟩ ⟨h1, h2⟩
    exact Tot.ret ⟨⟨by simp only; omega, by simp only; omega, by simp only at h1 ⊢; omega⟩, by simp only at h2 ⊢; omega⟩
  · refine Tot.bind (P := fun r => r.length ≤ 19) ?_ ?_
    · refine Tot.ite (fun h => ?_) (fun h => Tot.ret (by omega))
      have he : 0 < (e.length : Int) := by simpa using h
      refine Tot.bind (Tot.rdl (Int.le_refl 0) he) fun x _ => ?_
      rw [if_pos (by simp; omega)]
      exact Tot.ret (by simp; omega)
    intro e' h1
    exact Tot.ret ⟨⟨by simp only; omega, by simp only; omega, by simp only; omega⟩, by simp only; omega⟩
  · exact Tot.ret ⟨⟨by simp, by simp, by simp⟩, by simp only; omega⟩
  · exact Tot.ret ⟨⟨by simp only; omega, by simp only; omega, by simp only; omega⟩, by simp only; omega⟩
end Go.Proofs

/- Plain laws: XX -/
namespace Go.Proofs
open Go Go.Ga Go.Ga.Wf
set_option linter.unusedVariables false
set_option linter.unusedSimpArgs false
variable {k : Nat} {c : List By} {a s : Int}
/-! comparisons -/
theorem vInts_eq (hk : Big ≤ k) (x y : List Int) (hx : x.length ≤ 1048576) : laws_vInts.f k x y = some (decide (x = y)) := by
  unfold laws_vInts.f
  by_cases h : x.length = y.length
  · rw [if_neg (by simp; omega), loop_eq (l := laws_vInts.l0 k x y) h (fun n i hi => by
      rw [laws_vInts.l0]
      have h1 : ((i : Int) < (x.length : Int)) := by omega
      have hw : w64 ((i : Int) + 1) = ((i + 1 : Nat) : Int) := w64_id (by omega) (by omega)
      simp only [h1, decide_true, if_true, rdl_lt hi, rdl_lt (h ▸ hi), Option.bind_some, hw]
      by_cases h2 : x[i] = y[i] <;> simp [h2]) (fun n => by rw [laws_vInts.l0]; simp) (by unfold Big at hk; omega), Option.bind_some, Lr_ite]
    by_cases h2 : x = y <;> simp [h2]
  · rw [if_pos (by simp; omega)]
    have : x ≠ y := fun e => h (by rw [e])
    simp [this]
/-- the sum, as it is counted -/
def sumW (l : List Int) : Int := l.foldl (fun s x => w64 (s + x)) 0
theorem vAdd_eq (hk : Big ≤ k) (x : List Int) (hx : x.length ≤ 1048576) : laws_vAdd.f k x = some (sumW x) := by
  unfold laws_vAdd.f
  have := Tot.loop (l := fun q (s : Int × Nat) => laws_vAdd.l0 k x q s.1 (s.2 : Int)) (fun s => s.2 ≤ x.length ∧ (x.drop s.2).foldl (fun s x => w64 (s + x)) s.1 = sumW x) (fun s => x.length - s.2) (fun r => r = sumW x) (fun q s hI ih => by
    obtain ⟨z, i⟩ := s
    obtain ⟨h1, h2⟩ := hI
    simp only at h1 h2 ih ⊢
    rw [laws_vAdd.l0]
    by_cases hi : i < x.length
    · rw [if_pos (by simpa using hi), rdl_lt hi, Option.bind_some, show w64 ((i : Int) + 1) = ((i + 1 : Nat) : Int) from w64_id (by omega) (by omega)]
      rw [List.drop_eq_getElem_cons hi, List.foldl_cons] at h2
      exact ih (_, i + 1) ⟨by simp only; omega, h2⟩ (by simp only; omega)
    · rw [if_neg (by simpa using hi)]
      rw [List.drop_of_length_le (by omega)] at h2
      exact Tot.ret h2) k (0, 0) (by simp only; unfold Big at hk; omega) ⟨by simp, by simp [sumW]⟩
  obtain ⟨r, h1, rfl⟩ := this
  simp only at h1
  rw [show ((0 : Nat) : Int) = 0 from rfl] at h1
  rw [h1, Option.bind_some]
/-! the code, cut -/
theorem wrapU8 (x : Int) : 0 ≤ IntKind.u8.wrap x ∧ IntKind.u8.wrap x ≤ 255 := by
  unfold IntKind.wrap
  simp [IntKind.bits, IntKind.signed]
  omega
theorem wrap64_range (x : Int) : -9223372036854775808 ≤ IntKind.i64.wrap x ∧ IntKind.i64.wrap x < 9223372036854775808 := by
  rw [IntKind.wrap_i64]; omega
theorem upto_pos {x : Nat} (h0 : 0 < x) (hx : x < 64) : 0 < (upto x 12).length := by
  refine Nat.pos_of_ne_zero fun e => ?_
  have e := List.length_eq_zero_iff.1 e
  have : x = 0 := by
    apply Nat.eq_of_testBit_eq
    intro t
    rw [Nat.zero_testBit]
    cases h : x.testBit t with
    | false => rfl
    | true =>
      exfalso
      by_cases ht : t < 12
      · have : (t : Int) ∈ upto x 12 := mem_upto.2 ⟨t, ht, h, rfl⟩
        rw [e] at this; cases this
      · rw [Nat.testBit_lt_two_pow (Nat.lt_of_lt_of_le hx (Nat.pow_le_pow_right (n := 2) (by omega) (by omega : 6 ≤ t)))] at h
        cases h
  omega
theorem vCut_ok (n : Int) (hn : 0 ≤ n ∧ n ≤ 100) (hc : CodeOk c) (hl : c.length ≤ 65536) : ∃ c', laws_vCut.f k c n = some c' ∧ CodeOk c' := by
  unfold laws_vCut.f
  obtain ⟨m, hm, hm2, hm3⟩ : ∃ m : Nat, (if decide (n > (c.length : Int)) = true then some ((c.length : Nat) : Int) else some n) = some (m : Int) ∧ m ≤ c.length ∧ m ≤ 100 := by
    by_cases h : n > (c.length : Int)
    · exact ⟨c.length, by rw [if_pos (by simpa using h)], Nat.le_refl _, by omega⟩
    · exact ⟨n.toNat, by rw [if_neg (by simpa using h)]; congr 1; omega, by omega, by omega⟩
  rw [hm, Option.bind_some, slc_suf c m hm2, Option.bind_some, if_pos (by simp; omega), if_pos (by simp; omega)]
  refine ⟨_, rfl, by simp; omega, fun x hx => ?_⟩
  simp only [List.nil_append, List.mem_append, List.mem_singleton] at hx
  rcases hx with hx | rfl
  · exact hc.2 x (List.mem_of_mem_drop hx)
  · have := wrapU8 (m : Int)
    simpa using this
theorem code_ok {c : List By} (h : wfd c) (hl : c.length ≤ 65536) : CodeOk c := ⟨by omega, fun x hx => h.2 x hx⟩
/-! mazes with sets -/
theorem bor_range (x y : Int) : -9223372036854775808 ≤ bor x y ∧ bor x y < 9223372036854775808 := by
  unfold bor
  exact wrap64_range _
theorem fill9_ok (hk : Big ≤ k) (hc : CodeOk c) : Tot (spec_l1Cur_fill9.f k c 0 0) (fun r => MzS r.1 r.2.1 r.2.2.1 ∧ (-9223372036854775808 ≤ r.2.2.2.1 ∧ r.2.2.2.1 < 9223372036854775808) ∧ 0 ≤ r.2.2.2.2.1 ∧ r.2.2.2.2.1 ≤ 400) := by
  have P : ∀ x : Int, 0 ≤ x → x ≤ 1000 → Pos x := fun x h1 h2 => by unfold Pos; omega
  unfold spec_l1Cur_fill9.f
  refine Tot.bind (among_ok hc (P 0 (by omega) (by omega)) _ (by simp)) ?_
  rintro ⟨n, a1, s1⟩ ⟨hm, h1⟩
  simp only [List.mem_cons, List.not_mem_nil, or_false] at hm
  simp only at h1 ⊢
  refine Tot.bind (someMaze_ok hk hc (by unfold Pos; omega) (by omega) n (by omega)) ?_
  rintro ⟨n, d, ks, a2, s2⟩ ⟨hM, h2⟩
  simp only at hM h2 ⊢
  have L := Tot.loop (l := fun q (s : Int × Nat) => spec_l1Cur_fill9.l0 k d q s.1 (s.2 : Int)) (fun s => s.2 ≤ d.length ∧ -9223372036854775808 ≤ s.1 ∧ s.1 < 9223372036854775808) (fun s => d.length - s.2) (fun r => -9223372036854775808 ≤ r ∧ r < 9223372036854775808) (fun q s hI ih => by
    obtain ⟨z, i⟩ := s
    obtain ⟨e1, e2⟩ := hI
    simp only at e1 e2 ih ⊢
    rw [spec_l1Cur_fill9.l0]
    have := hM.2.1
    by_cases hi : i < d.length
    · rw [if_pos (by simpa using hi), rdl_lt hi, Option.bind_some, show w64 ((i : Int) + 1) = ((i + 1 : Nat) : Int) from w64_id (by omega) (by omega)]
      exact ih (_, i + 1) ⟨by simp only; omega, bor_range _ _⟩ (by simp only; omega)
    · rw [if_neg (by simpa using hi)]; exact Tot.ret e2) k (0, 0) (by simp only; have := hM.2.1; unfold Big at hk; omega) ⟨by simp, by simp⟩
  refine Tot.bind L ?_
  intro set hs
  refine Tot.bind (P := fun r => 0 ≤ r.2.1 ∧ r.2.1 ≤ 304) ?_ ?_
  · rw [l2Set_eq, Option.bind_some]
    refine Tot.ite (fun h => ?_) (fun h => Tot.ret (by simp only; omega))
    have h' : 0 ≤ set ∧ set ≤ 63 := by simpa using h
    obtain ⟨x, rfl⟩ := Int.eq_ofNat_of_zero_le h'.1
    rw [l2Many_eq hk x (by omega), Option.bind_some]
    refine Tot.ite (fun h => ?_) (fun h => Tot.ret (by simp only; omega))
    refine Tot.bind (one_ok hc (P _ (by omega) (by omega)) _) ?_
    rintro ⟨b, a3, s3⟩ h3
    exact Tot.ret (by simp only at h3 ⊢; omega)
  rintro ⟨b, a3, s3⟩ h3
  simp only at h3 ⊢
  refine Tot.ite (fun h => Tot.ret ⟨hM, hs, by simp only; omega⟩) (fun h => ?_)
  refine Tot.bind (one_ok hc (P _ (by omega) (by omega)) _) ?_
  rintro ⟨b2, a4, s4⟩ h4
  simp only at h4 ⊢
  refine Tot.ite (fun h => ?_) (fun h => ?_)
  · refine Tot.bind (colours_ok hk hc (P _ (by omega) (by omega)) (by omega)) ?_
    rintro ⟨x, a5, s5⟩ ⟨h5, h6⟩
    exact Tot.ret ⟨hM, by simp only at h5 ⊢; omega, by simp only at h6 ⊢; omega⟩
  · refine Tot.bind (among_ok hc (P _ (by omega) (by omega)) _ (by simp)) ?_
    rintro ⟨x, a5, s5⟩ ⟨h5, h6⟩
    simp only [List.mem_cons, List.not_mem_nil, or_false] at h5
    exact Tot.ret ⟨hM, by simp only; omega, by simp only at h6 ⊢; omega⟩
def I64 (x : Int) : Prop := -9223372036854775808 ≤ x ∧ x < 9223372036854775808
theorem DrawCountFillings_ok (hk : Big ≤ k) (hc : CodeOk c) : Tot (spec_DrawCountFillings.f k c) (fun r => MzS r.1 r.2.1 r.2.2.1 ∧ I64 r.2.2.2) := by
  unfold spec_DrawCountFillings.f
  refine Tot.bind (fill9_ok hk hc) ?_
  rintro ⟨n, d, ks, x, a1, s1⟩ ⟨h1, h2, _⟩
  exact Tot.ret ⟨h1, h2⟩
theorem DrawNodeCounts_ok (hk : Big ≤ k) (hc : CodeOk c) : Tot (spec_DrawNodeCounts.f k c) (fun r => MzS r.1 r.2.1 r.2.2.1 ∧ I64 r.2.2.2.1) := by
  have P : ∀ x : Int, 0 ≤ x → x ≤ 1000 → Pos x := fun x h1 h2 => by unfold Pos; omega
  unfold spec_DrawNodeCounts.f
  refine Tot.bind (fill9_ok hk hc) ?_
  rintro ⟨n, d, ks, x, a1, s1⟩ ⟨hM, hx, h1⟩
  simp only at hM hx h1 ⊢
  refine Tot.bind (P := fun r => (r.1 = true → 0 < x ∧ x ≤ 63) ∧ 0 ≤ r.2.1 ∧ r.2.1 ≤ 410) ?_ ?_
  · rw [l2Set_eq, Option.bind_some]
    refine Tot.ite (fun h => ?_) (fun h => Tot.ret ⟨by simp, by simp only; omega⟩)
    have h' : 0 ≤ x ∧ x ≤ 63 := by simpa using h
    refine Tot.ite (fun h2 => ?_) (fun h2 => Tot.ret ⟨by simp, by simp only; omega⟩)
    have h2' : 0 < x := by simpa using h2
    refine Tot.bind (one_ok hc (P _ (by omega) (by omega)) _) ?_
    rintro ⟨b, a3, s3⟩ h3
    exact Tot.ret ⟨fun _ => by omega, by simp only at h3 ⊢; omega⟩
  rintro ⟨b, a3, s3⟩ ⟨hb, h3⟩
  simp only at hb h3 ⊢
  refine Tot.ite (fun h => ?_) (fun h => ?_)
  · obtain ⟨x, rfl⟩ := Int.eq_ofNat_of_zero_le (show 0 ≤ x by have := hb h; omega)
    rw [colours_eq hk x (by have := hb h; omega), Option.bind_some]
    have hlen : 0 < (upto x 12).length := upto_pos (by have := hb h; omega) (by have := hb h; omega)
    refine Tot.bind (P := fun r => r.1 = (x : Int) ∧ r.2.2 = n) ?_ ?_
    · refine Tot.bind (pick_ok hc (P _ (by omega) (by omega)) _) ?_
      rintro ⟨t, a5, s5⟩ ⟨g0, g1, h6⟩
      simp only at g0 g1 h6 ⊢
      refine Tot.bind (Tot.rdl g0 (by omega)) fun _ _ => Tot.ret ⟨rfl, rfl⟩
    rintro ⟨y3, y4, y5⟩ ⟨g1, g2⟩
    simp only at g1 g2
    subst g1; subst g2
    exact Tot.ret ⟨hM, hx⟩
  · refine Tot.bind (P := fun r => r.1 = x ∧ r.2.2 = n) ?_ ?_
    · refine Tot.bind (among_ok hc (P _ (by omega) (by omega)) _ (by simp)) ?_
      rintro ⟨t, a5, s5⟩ _
      exact Tot.ret ⟨rfl, rfl⟩
    rintro ⟨y3, y4, y5⟩ ⟨g1, g2⟩
    simp only at g1 g2
    subst g1; subst g2
    exact Tot.ret ⟨hM, hx⟩
end Go.Proofs

/- Plain laws: YY -/
namespace Go.Proofs
open Go Go.Ga Go.Ga.Wf
set_option linter.unusedVariables false
set_option linter.unusedSimpArgs false
theorem bor_bit {a b : Int} (ha : 0 ≤ a ∧ a ≤ 63) (hb : 0 ≤ b ∧ b ≤ 63) (t : Nat) : (bor a b).toNat.testBit t = (a.toNat.testBit t || b.toNat.testBit t) := by
  obtain ⟨x, rfl⟩ := Int.eq_ofNat_of_zero_le ha.1
  obtain ⟨y, rfl⟩ := Int.eq_ofNat_of_zero_le hb.1
  rw [bor_nat (by omega) (by omega), Int.toNat_natCast, Int.toNat_natCast, Int.toNat_natCast, Nat.testBit_or]
theorem bor_within {a b : Int} (ha : 0 ≤ a ∧ a ≤ 63) (hb : 0 ≤ b ∧ b ≤ 63) {H : Nat} (h1 : subB a.toNat H = true) (h2 : subB b.toNat H = true) : subB (bor a b).toNat H = true :=
  subB_iff.2 fun t ht => by
    rw [bor_bit ha hb, Bool.or_eq_true] at ht
    exact ht.elim (subB_iff.1 h1 t) (subB_iff.1 h2 t)
theorem bor_right {a b : Int} (ha : 0 ≤ a ∧ a ≤ 63) (hb : 0 ≤ b ∧ b ≤ 63) : subB b.toNat (bor a b).toNat = true :=
  subB_iff.2 fun t ht => by rw [bor_bit ha hb, ht, Bool.or_true]
theorem gain_has {ks : List Int} (hk : ∀ x ∈ ks, 0 ≤ x ∧ x ≤ 63) : ∀ (l : List Int) {h : Int}, 0 ≤ h ∧ h ≤ 63 → ∀ z ∈ l, subB (ks.getD z.toNat 0).toNat (gain ks l h).toNat = true
  | [], h, hh, z, hz => by cases hz
  | x :: l, h, hh, z, hz => by
    have hx := keys_getD hk x.toNat
    have h1 := bor_le63 hh hx
    have e : gain ks (x :: l) h = gain ks l (bor h (ks.getD x.toNat 0)) := rfl
    rw [e]
    rcases List.mem_cons.1 hz with rfl | hz
    · exact subB_trans (bor_right hh hx) (gain_sub hk l h1.1)
    · exact gain_has hk l h1.1 z hz
theorem gain_within {ks : List Int} (hk : ∀ x ∈ ks, 0 ≤ x ∧ x ≤ 63) {H : Nat} : ∀ (l : List Int) {h : Int}, 0 ≤ h ∧ h ≤ 63 → subB h.toNat H = true → (∀ z ∈ l, subB (ks.getD z.toNat 0).toNat H = true) → subB (gain ks l h).toNat H = true
  | [], h, hh, h1, h2 => h1
  | x :: l, h, hh, h1, h2 => by
    have hx := keys_getD hk x.toNat
    have e : gain ks (x :: l) h = gain ks l (bor h (ks.getD x.toNat 0)) := rfl
    rw [e]
    exact gain_within hk l (bor_le63 hh hx).1 (bor_within hh hx h1 (h2 x (List.mem_cons_self ..))) fun z hz => h2 z (List.mem_cons_of_mem _ hz)
/-- with H, all keys at nodes that are reached are had -/
def Closed (d : List Door) (ks : List Int) (H : Int) : Prop := ∀ z, Rch d H 0 z → subB (ks.getD z.toNat 0).toNat H.toNat = true
theorem lastH_closed {n : Int} {d : List Door} {ks : List Int} (hm : Okm n d ks) {h : Int} (hh : 0 ≤ h ∧ h ≤ 63) : Closed d ks (lastH d ks 64 h) := fun z hz => by
  have hr := lastH_range hm 64 hh
  have hf := lastH_fix hm 64 hh (by omega)
  have := gain_has hm.keys (nodesL d 0 (lastH d ks 64 h)) hr z ((mem_nodesL hm.small (by omega)).2 hz)
  rw [show gain ks (nodesL d 0 (lastH d ks 64 h)) (lastH d ks 64 h) = nextH d ks (lastH d ks 64 h) from rfl, hf] at this
  exact this
theorem lastH_least {n : Int} {d : List Door} {ks : List Int} (hm : Okm n d ks) {H : Int} (hc : Closed d ks H) : ∀ (f : Nat) {h : Int}, 0 ≤ h ∧ h ≤ 63 → subB h.toNat H.toNat = true → subB (lastH d ks f h).toNat H.toNat = true
  | 0, h, hh, hs => hs
  | f + 1, h, hh, hs => by
    unfold lastH; split
    · exact hs
    · exact lastH_least hm hc f (nextH_le hm hh).1 (gain_within hm.keys _ hh hs fun z hz => hc z (Rch.mono hs ((mem_nodesL hm.small (by omega)).1 hz)))
/-- the goal is reached with what one has at last -/
theorem winsB_iff {n : Int} {d : List Door} {ks : List Int} (hm : Okm n d ks) (h : Int) : winsB n d ks h = true ↔ Rch d (lastH d ks 64 h) 0 (n - 1) := by
  unfold winsB
  have := hm.lo
  rw [reachN_test hm.small (by omega), show (((n - 1).toNat : Nat) : Int) = n - 1 by omega]
/-! what lies at a node -/
theorem shl1_bit {c : Int} (h : 0 ≤ c ∧ c ≤ 5) (t : Nat) : (shl 1 c).toNat.testBit t = decide (c = t) := by
  obtain ⟨x, rfl⟩ := Int.eq_ofNat_of_zero_le h.1
  rw [shl_one (by omega), Int.toNat_natCast, Nat.testBit_two_pow]
  exact decide_eq_decide.2 (by omega)
theorem layF_bit {n : Nat} {s : List Int} (hs : KOk n s) {p : Int × Int} (h1 : 0 ≤ p.1 ∧ p.1 < n) (h2 : 0 ≤ p.2 ∧ p.2 ≤ 5) (z t : Nat) :
    ((layF s p).getD z 0).toNat.testBit t = true ↔ (s.getD z 0).toNat.testBit t = true ∨ (p.1 = z ∧ p.2 = t) := by
  unfold layF
  have hl := hs.1
  rw [getD_set]
  by_cases e : p.1.toNat = z ∧ p.1.toNat < s.length
  · rw [if_pos e, bor_bit (keys_getD hs.2 _) (shl1_le h2), shl1_bit h2, e.1, Bool.or_eq_true, decide_eq_true_eq]
    have : p.1 = z := by omega
    simp [this]
  · rw [if_neg e]
    constructor
    · exact .inl
    · rintro (h | ⟨h, _⟩)
      · exact h
      · exact absurd ⟨by omega, by omega⟩ e
theorem layFold_bit {n : Nat} : ∀ (l : List (Int × Int)) (s : List Int), KOk n s → (∀ p ∈ l, (0 ≤ p.1 ∧ p.1 < n) ∧ 0 ≤ p.2 ∧ p.2 ≤ 5) → ∀ z t : Nat,
    ((l.foldl layF s).getD z 0).toNat.testBit t = true ↔ (s.getD z 0).toNat.testBit t = true ∨ ∃ p ∈ l, p.1 = z ∧ p.2 = t
  | [], s, hs, hl, z, t => by simp
  | p :: l, s, hs, hl, z, t => by
    have hp := hl p (List.mem_cons_self ..)
    rw [List.foldl_cons, layFold_bit l _ (hs.lay hp.2) (fun q hq => hl q (List.mem_cons_of_mem _ hq)), layF_bit hs hp.1 hp.2]
    constructor
    · rintro ((h | h) | ⟨q, hq, h⟩)
      · exact .inl h
      · exact .inr ⟨p, List.mem_cons_self .., h⟩
      · exact .inr ⟨q, List.mem_cons_of_mem _ hq, h⟩
    · rintro (h | ⟨q, hq, h⟩)
      · exact .inl (.inl h)
      · rcases List.mem_cons.1 hq with rfl | hq
        · exact .inl (.inr h)
        · exact .inr ⟨q, hq, h⟩
theorem layK_bit {n : Nat} {cs fs : List Int} (h : FOk n cs fs) (z t : Nat) : ((layK n cs fs).getD z 0).toNat.testBit t = true ↔ ∃ p ∈ fs.zip cs, p.1 = z ∧ p.2 = t := by
  unfold layK
  rw [layFold_bit _ _ (KOk.zero n) (fun p hp => ⟨h.nodes _ (List.of_mem_zip (a := p.1) (b := p.2) hp).1, zip_cols h p hp⟩)]
  constructor
  · rintro (h | h)
    · rw [List.getD_eq_getElem?_getD, List.getElem?_replicate] at h
      split at h <;> simp at h
    · exact h
  · exact .inr
theorem upto_bit {x : Nat} (hx : x < 64) (t : Nat) : (t : Int) ∈ upto x 12 ↔ x.testBit t = true := by
  rw [mem_upto]
  constructor
  · rintro ⟨s, _, h, e⟩
    have : t = s := by omega
    rw [this]; exact h
  · intro h
    refine ⟨t, ?_, h, rfl⟩
    refine Nat.lt_of_not_le fun hc => ?_
    rw [Nat.testBit_lt_two_pow (Nat.lt_of_lt_of_le hx (Nat.pow_le_pow_right (n := 2) (by omega) (by omega : 6 ≤ t)))] at h
    cases h
/-- keys at node 0 do if any filling does -/
theorem zeros_fill {n : Int} (hn : 1 ≤ n) (x : Nat) : FillP n x (List.replicate (upto x 12).length 0) := ⟨by simp, fun z hz => by rw [List.eq_of_mem_replicate hz]; omega⟩
theorem lay_sub {n : Int} {d : List Door} {ks : List Int} (hm : Okm n d ks) {x : Nat} (hx : x < 64) {fs : List Int} (hf : FillP n x fs) (z : Nat) : subB ((layK ks.length (upto x 12) fs).getD z 0).toNat x = true :=
  subB_iff.2 fun t ht => by
    obtain ⟨p, hp, _, h2⟩ := (layK_bit (hf.fok hm hx) z t).1 ht
    have := (List.of_mem_zip (a := p.1) (b := p.2) hp).2
    rw [h2] at this
    exact (upto_bit hx t).1 this
theorem zeros_all {n : Int} {d : List Door} {ks : List Int} (hm : Okm n d ks) {x : Nat} (hx : x < 64) : subB x (lastH d (layK ks.length (upto x 12) (List.replicate (upto x 12).length 0)) 64 0).toNat = true := by
  have hz := zeros_fill hm.lo x
  have hm0 := hm.lay (hz.fok hm hx)
  have hc := lastH_closed hm0 (h := 0) (by omega) 0 .here
  refine subB_iff.2 fun t ht => subB_iff.1 hc t ?_
  refine (layK_bit (hz.fok hm hx) 0 t).2 ⟨(0, (t : Int)), ?_, rfl, rfl⟩
  obtain ⟨i, hi, e⟩ := List.getElem_of_mem ((upto_bit hx t).2 ht)
  rw [← e]
  have : (((List.replicate (upto x 12).length (0 : Int)).zip (upto x 12))[i]'(by simp; exact hi)) = (0, (upto x 12)[i]) := by simp
  rw [← this]; exact List.getElem_mem _
theorem zeros_win {n : Int} {d : List Door} {ks : List Int} (hm : Okm n d ks) {x : Nat} (hx : x < 64) {fs : List Int} (hf : FillP n x fs) (hw : winsB n d (layK ks.length (upto x 12) fs) 0 = true) :
    winsB n d (layK ks.length (upto x 12) (List.replicate (upto x 12).length 0)) 0 = true := by
  have hz := zeros_fill hm.lo x
  have hm0 := hm.lay (hz.fok hm hx)
  have hm1 := hm.lay (hf.fok hm hx)
  have ha := zeros_all hm hx
  rw [winsB_iff hm1] at hw
  rw [winsB_iff hm0]
  refine Rch.mono ?_ hw
  exact lastH_least hm1 (fun z _ => subB_trans (lay_sub hm hx hf _) ha) 64 (by omega) (subB_iff.2 fun t ht => by simp at ht)
theorem zeros_mem (n : Nat) (hn : 0 < n) : ∀ m, List.replicate m (0 : Int) ∈ allF n m
  | 0 => by simp [allF]
  | m + 1 => by
    refine List.mem_flatMap.2 ⟨List.replicate m 0, zeros_mem n hn m, List.mem_map.2 ⟨0, List.mem_range.2 hn, ?_⟩⟩
    rw [List.replicate_succ']; rfl
/-! sums -/
theorem sumW_sum : ∀ (l : List Int) (s : Int), (∀ x ∈ l, 0 ≤ x) → 0 ≤ s → s + l.sum ≤ 4611686018427387904 → l.foldl (fun s x => w64 (s + x)) s = s + l.sum ∧ 0 ≤ l.sum
  | [], s, h, h0, h1 => by simp
  | x :: l, s, h, h0, h1 => by
    have hx := h x (List.mem_cons_self ..)
    have hnn : ∀ (l : List Int), (∀ x ∈ l, 0 ≤ x) → 0 ≤ l.sum := fun l => by
      induction l with
      | nil => intro _; simp
      | cons y l ih => intro h; rw [List.sum_cons]; have := h y (List.mem_cons_self ..); have := ih fun z hz => h z (List.mem_cons_of_mem _ hz); omega
    have hl := hnn l fun z hz => h z (List.mem_cons_of_mem _ hz)
    rw [List.sum_cons] at h1 ⊢
    rw [List.foldl_cons, show w64 (s + x) = s + x from w64_id (by omega) (by omega)]
    have ih := sumW_sum l (s + x) (fun z hz => h z (List.mem_cons_of_mem _ hz)) (by omega) (by omega)
    exact ⟨by rw [ih.1]; omega, by omega⟩
theorem sum_nn : ∀ (l : List Int), (∀ x ∈ l, 0 ≤ x) → 0 ≤ l.sum ∧ ∀ i, l.getD i 0 ≤ l.sum
  | [], h => by simp
  | y :: l, h => by
    have hy := h y (List.mem_cons_self ..)
    have ih := sum_nn l fun z hz => h z (List.mem_cons_of_mem _ hz)
    rw [List.sum_cons]
    refine ⟨by omega, fun i => ?_⟩
    cases i with
    | zero => simp; omega
    | succ i => have := ih.2 i; simp only [List.getD_cons_succ]; omega
theorem sum_set : ∀ (l : List Int) (i : Nat) (v : Int), i < l.length → (l.set i v).sum = l.sum - l.getD i 0 + v
  | [], i, v, h => by simp at h
  | y :: l, 0, v, h => by simp only [List.set_cons_zero, List.sum_cons, List.getD_cons_zero]; omega
  | y :: l, i + 1, v, h => by
    have := sum_set l i v (by simpa using h)
    simp only [List.set_cons_succ, List.sum_cons, List.getD_cons_succ, this]; omega
theorem cnt_sum (a m : Nat) : ∀ (W : List (List Int)) (s : List Int) (c : Nat), s.length = m → (∀ x ∈ s, 0 ≤ x) → s.sum = c → c + W.length ≤ 1000000 → (∀ fs ∈ W, a < fs.length ∧ ∀ z ∈ fs, 0 ≤ z ∧ z < m) →
    (∀ x ∈ W.foldl (cntN a) s, 0 ≤ x) ∧ (W.foldl (cntN a) s).sum = ((c + W.length : Nat) : Int)
  | [], s, c, h1, h2, h3, h4, h5 => ⟨h2, by simpa using h3⟩
  | fs :: W, s, c, h1, h2, h3, h4, h5 => by
    have hf := h5 fs (List.mem_cons_self ..)
    have hz : fs.getD a 0 ∈ fs := by rw [List.getD_eq_getElem?_getD, List.getElem?_eq_getElem hf.1]; exact List.getElem_mem _
    have hz2 := hf.2 _ hz
    have hb := (sum_nn s h2).2 (fs.getD a 0).toNat
    have h0 : 0 ≤ s.getD (fs.getD a 0).toNat 0 := by
      rw [List.getD_eq_getElem?_getD, List.getElem?_eq_getElem (by omega)]; exact h2 _ (List.getElem_mem _)
    simp only [List.length_cons] at h4 ⊢
    have e : cntN a s fs = s.set (fs.getD a 0).toNat (s.getD (fs.getD a 0).toNat 0 + 1) := by
      unfold cntN; rw [w64_id (by omega) (by omega)]
    rw [List.foldl_cons]
    have ih := cnt_sum a m W (cntN a s fs) (c + 1) (by rw [e]; simpa using h1) (fun x hx => by
      rw [e] at hx
      rcases List.mem_or_eq_of_mem_set hx with hx | rfl
      · exact h2 x hx
      · omega) (by rw [e, sum_set _ _ _ (by omega)]; omega) (by omega) (fun g hg => h5 g (List.mem_cons_of_mem _ hg))
    exact ⟨ih.1, by rw [ih.2]; congr 1; omega⟩
theorem counts_sum {n : Int} {d : List Door} {ks : List Int} {h c : Int} (hF : FewP n d ks h) (hc : c ∈ upto h.toNat 12) : sumW (countsP n d ks h c).1 = ((winF n d ks h).length : Int) := by
  have hlo := hF.1.1.okm.lo
  have hL := winF_len hF
  unfold countsP
  rw [if_pos ⟨hF, hc⟩]
  have := cnt_sum ((upto h.toNat 12).idxOf c) n.toNat (winF n d ks h) (List.replicate n.toNat 0) 0 (by simp) (fun x hx => by rw [List.eq_of_mem_replicate hx]; omega) (by
    have : ∀ m : Nat, (List.replicate m (0 : Int)).sum = 0 := fun m => by
      induction m with
      | zero => rfl
      | succ m ih => rw [List.replicate_succ, List.sum_cons, ih]; rfl
    rw [this]; rfl) (by omega) (fun fs hf => by
      have := winF_at hF hc fs hf
      exact ⟨this.1, fun z hz => by have := this.2 z hz; omega⟩)
  have h2 := sumW_sum _ 0 this.1 (by omega) (by rw [this.2]; omega)
  show List.foldl _ 0 _ = _
  rw [h2.1, this.2]; omega
/-! the deepest -/
theorem deep_val (D : List Int → Int) (W : List (List Int)) (hD : ∀ fs ∈ W, 0 < D fs) : ∀ m, m ≤ W.length →
    (∀ i, i < m → D (W.getD i []) ≤ (itr (deepG D W) m 0 (0, 0)).2) ∧ ((itr (deepG D W) m 0 (0, 0)).2 = 0 ∨ (itr (deepG D W) m 0 (0, 0)).2 = D (W.getD (itr (deepG D W) m 0 (0, 0)).1.toNat []))
  | 0, _ => ⟨fun i h => by omega, .inl rfl⟩
  | m + 1, h => by
    obtain ⟨h1, h2⟩ := deep_val D W hD m (by omega)
    rw [itr_snoc]
    generalize itr (deepG D W) m 0 (0, 0) = s at *
    rw [Nat.zero_add]
    unfold deepG
    by_cases c : D (W.getD m []) > s.2
    · rw [if_pos c]
      refine ⟨fun i hi => ?_, .inr ?_⟩
      · rcases Nat.eq_or_lt_of_le (Nat.le_of_lt_succ hi) with rfl | hi
        · exact Int.le_refl _
        · have := h1 i hi; simp only; omega
      · simp
    · rw [if_neg c]
      refine ⟨fun i hi => ?_, h2⟩
      rcases Nat.eq_or_lt_of_le (Nat.le_of_lt_succ hi) with rfl | hi
      · omega
      · exact h1 i hi
section
variable {k : Nat}
theorem DeepestFilling_full (hk : Big ≤ k) (n : Int) (d : List Door) (ks : List Int) (h : Int) (hd : d.length ≤ 1048576) (hks : ks.length ≤ 1048576) :
    ∃ r : List Int × Int × Bool, impl_DeepestFilling.f k n d ks h = some r ∧ spec_DeepestFilling.f k n d ks h = some r ∧ r.1.length ≤ 12 ∧
      (r.2.2 = true ↔ FewP n d ks h ∧ winF n d ks h ≠ []) ∧ (r.2.2 = true → r.1 ∈ winF n d ks h ∧ r.2.1 = depthP n d ks h.toNat r.1 ∧ ∀ g ∈ winF n d ks h, depthP n d ks h.toNat g ≤ r.2.1) := by
  unfold impl_DeepestFilling.f spec_DeepestFilling.f
  rw [wins_eq hk n d ks h hd hks, few_eq hk n d ks h hd hks, Option.bind_some, Option.bind_some]
  by_cases hF : FewP n d ks h
  rotate_left 1
  · rw [if_neg hF, decide_eq_false hF]; exact ⟨([], 0, false), rfl, rfl, by simp, by simp [hF], by simp⟩
  rw [if_pos hF, decide_eq_true hF, if_neg (by simp), winning_eq hk hF, Option.bind_some]
  have hm := hF.1.1.okm
  have hx : h.toNat < 64 := by have := hF.1.2; omega
  have ehn : ((h.toNat : Nat) : Int) = h := by have := hF.1.2; omega
  have hL := winF_len hF
  have hmem := winF_mem hF
  have hwin : ∀ fs ∈ winF n d ks h, winsB n d (layK ks.length (upto h.toNat 12) fs) 0 = true := fun fs hf => (List.mem_filter.1 hf).2
  have d1 : ∀ fs ∈ winF n d ks h, impl_depth.f k n d ks h fs = some (depthP n d ks h.toNat fs) := fun fs hf => by
    have := depth_eq hk hm hx ((hmem fs hf).fok hm hx); rwa [ehn] at this
  have d2 : ∀ fs ∈ winF n d ks h, spec_l9Depth.f k n d ks h fs = some (depthP n d ks h.toNat fs) := fun fs hf => by
    have := l9Depth_eq hk hm hx ((hmem fs hf).fok hm hx); rwa [ehn] at this
  have dz : ∀ fs ∈ winF n d ks h, 0 < depthP n d ks h.toNat fs := fun fs hf => by
    have h1 := depth_zero hm ((hmem fs hf).fok hm hx)
    have h2 : 0 ≤ depthP n d ks h.toNat fs := depthP_ge n d ks h.toNat fs
    have h3 : depthP n d ks h.toNat fs ≠ 0 := fun e => by rw [hwin fs hf] at h1; exact absurd (h1.1 e) (by decide)
    omega
  have hu := upto_length h.toNat 12
  have hlen : ∀ fs ∈ winF n d ks h, fs.length ≤ 12 := fun fs hf => by rw [(hmem fs hf).1]; exact hu
  generalize winF n d ks h = W at *
  simp only [Bool.not_true, Bool.false_eq_true, if_false, Option.bind_some]
  have e1 := impl_deep hk n d ks h (depthP n d ks h.toNat) W hL d1 (0, 0)
  have e2 := spec_deep hk n d ks h (depthP n d ks h.toNat) W hL d2 (-1, 0)
  simp only at e1 e2
  rw [e2]
  by_cases hW : W.length = 0
  · have : W = [] := List.length_eq_zero_iff.1 hW
    subst this
    exact ⟨([], 0, false), rfl, rfl, by simp, by simp, by simp⟩
  obtain ⟨m, hm1⟩ : ∃ m, W.length = m + 1 := ⟨W.length - 1, by omega⟩
  have hi := deep_inv (depthP n d ks h.toNat) W dz (by omega) (-1) m (by omega)
  rw [← hm1] at hi
  have hv := deep_val (depthP n d ks h.toNat) W dz W.length (Nat.le_refl _)
  have e0 : ((W.length : Int) == 0) = false := by rw [beq_eq_false_iff_ne]; omega
  have er : rdl W 0 = some W[0] := rdl_lt (l := W) (i := 0) (by omega)
  rw [e0, er, hi.1]
  simp only [Bool.false_eq_true, if_false, Option.bind_some, e1]
  generalize itr (deepG (depthP n d ks h.toNat) W) W.length 0 (0, 0) = s at *
  obtain ⟨s1, s2⟩ := s
  obtain ⟨_, h2, h3, h4⟩ := hi
  obtain ⟨v1, v2⟩ := hv
  simp only at h2 h3 h4 v1 v2
  have hs : s1.toNat < W.length := by omega
  have hg : W.getD s1.toNat [] = W[s1.toNat] := by rw [List.getD_eq_getElem?_getD, List.getElem?_eq_getElem hs]; rfl
  have hrd : rdl W s1 = some W[s1.toNat] := by rw [rdl_getDI h2 hs [], hg]
  have hne : W ≠ [] := fun e => hW (by rw [e]; rfl)
  refine ⟨(W[s1.toNat], s2, true), by rw [hrd]; rfl, ?_, hlen _ (List.getElem_mem hs), ⟨fun _ => ⟨hF, hne⟩, fun _ => rfl⟩, fun _ => ⟨List.getElem_mem hs, ?_, fun g hgm => ?_⟩⟩
  · simp only [Option.bind_some]
    rw [if_neg (by omega), hrd, decide_eq_true h4]; rfl
  · rw [hg] at v2
    simp only
    rcases v2 with v2 | v2
    · omega
    · exact v2
  · obtain ⟨j, hj, rfl⟩ := List.getElem_of_mem hgm
    have := v1 j hj
    rw [List.getD_eq_getElem?_getD, List.getElem?_eq_getElem hj] at this
    exact this
theorem CountFillings_full (hk : Big ≤ k) (n : Int) (d : List Door) (ks : List Int) (h : Int) (hd : d.length ≤ 1048576) (hks : ks.length ≤ 1048576) :
    impl_CountFillings.f k n d ks h = some (if FewP n d ks h then (((winF n d ks h).length : Int), true) else (0, false)) ∧ spec_CountFillings.f k n d ks h = some (if FewP n d ks h then (((winF n d ks h).length : Int), true) else (0, false)) := by
  unfold impl_CountFillings.f spec_CountFillings.f
  rw [wins_eq hk n d ks h hd hks, few_eq hk n d ks h hd hks, Option.bind_some, Option.bind_some]
  by_cases hF : FewP n d ks h
  · rw [if_pos hF, if_pos hF, decide_eq_true hF, if_neg (by simp), winning_eq hk hF]; exact ⟨rfl, rfl⟩
  · rw [if_neg hF, if_neg hF, decide_eq_false hF]; exact ⟨rfl, rfl⟩
theorem ColoursOf_eq (hk : Big ≤ k) (h : Int) : impl_ColoursOf.f k h = some (if 0 ≤ h ∧ h ≤ 63 then (upto h.toNat 12, true) else ([], false)) := by
  unfold impl_ColoursOf.f
  rw [isSet_eq, Option.bind_some]
  by_cases hh : 0 ≤ h ∧ h ≤ 63
  · obtain ⟨x, rfl⟩ := Int.eq_ofNat_of_zero_le hh.1
    rw [decide_eq_true hh, if_pos hh, if_neg (by simp), members_eq hk x (by omega), Int.toNat_natCast]; rfl
  · rw [decide_eq_false hh, if_neg hh]; rfl
/-- is it asked for, and a filling? -/
def AskF (n : Int) (d : List Door) (ks : List Int) (h : Int) (fs : List Int) : Prop := (IsMaze n d ks ∧ 0 ≤ h ∧ h ≤ 63) ∧ FillP n h.toNat fs
instance (n : Int) (d : List Door) (ks : List Int) (h : Int) (fs : List Int) : Decidable (AskF n d ks h fs) := by unfold AskF; infer_instance
theorem askF_eq (hk : Big ≤ k) (n : Int) (d : List Door) (ks : List Int) (h : Int) (fs : List Int) (hd : d.length ≤ 1048576) (hks : ks.length ≤ 1048576) (hf : fs.length ≤ 1048576) :
    ((impl_asked.f k n d ks h).bind fun t10 => (if (!t10) = true then some true else (impl_isFilling.f k n d ks h fs).bind fun t16 => some (!t16))) = some (!decide (AskF n d ks h fs)) := by
  rw [asked_eq hk n d ks h hd hks, Option.bind_some]
  by_cases hT : IsMaze n d ks ∧ 0 ≤ h ∧ h ≤ 63
  · obtain ⟨x, rfl⟩ := Int.eq_ofNat_of_zero_le hT.2.1
    rw [decide_eq_true hT, if_neg (by simp), isFilling_eq hk hT.1 (by omega) fs hf, Option.bind_some]
    congr 2
    exact decide_eq_decide.2 ⟨fun e => ⟨hT, by rwa [Int.toNat_natCast]⟩, fun e => by have := e.2; rwa [Int.toNat_natCast] at this⟩
  · rw [decide_eq_false hT, decide_eq_false (fun e : AskF n d ks h fs => hT e.1)]; rfl
theorem depth_ask (hk : Big ≤ k) {n : Int} {d : List Door} {ks : List Int} {h : Int} {fs : List Int} (ha : AskF n d ks h fs) : impl_depth.f k n d ks h fs = some (depthP n d ks h.toNat fs) := by
  have := depth_eq hk ha.1.1.okm (x := h.toNat) (by have := ha.1.2; omega) (ha.2.fok ha.1.1.okm (by have := ha.1.2; omega))
  rwa [show ((h.toNat : Nat) : Int) = h by have := ha.1.2; omega] at this
theorem FillingWins_eq (hk : Big ≤ k) (n : Int) (d : List Door) (ks : List Int) (h : Int) (fs : List Int) (hd : d.length ≤ 1048576) (hks : ks.length ≤ 1048576) (hf : fs.length ≤ 1048576) :
    impl_FillingWins.f k n d ks h fs = some (if AskF n d ks h fs then (decide (depthP n d ks h.toNat fs > 0), true) else (false, false)) := by
  unfold impl_FillingWins.f
  rw [askF_eq hk n d ks h fs hd hks hf, Option.bind_some]
  by_cases ha : AskF n d ks h fs
  · rw [decide_eq_true ha, if_neg (by simp), if_pos ha, depth_ask hk ha]; rfl
  · rw [decide_eq_false ha, if_pos (by simp), if_neg ha]
theorem FillingDepth_eq (hk : Big ≤ k) (n : Int) (d : List Door) (ks : List Int) (h : Int) (fs : List Int) (hd : d.length ≤ 1048576) (hks : ks.length ≤ 1048576) (hf : fs.length ≤ 1048576) :
    impl_FillingDepth.f k n d ks h fs = some (if AskF n d ks h fs then (depthP n d ks h.toNat fs, decide (depthP n d ks h.toNat fs > 0)) else (0, false)) := by
  unfold impl_FillingDepth.f
  rw [askF_eq hk n d ks h fs hd hks hf, Option.bind_some]
  by_cases ha : AskF n d ks h fs
  · rw [decide_eq_true ha, if_neg (by simp), if_pos ha, depth_ask hk ha]; rfl
  · rw [decide_eq_false ha, if_pos (by simp), if_neg ha]
theorem depth_wins {n : Int} {d : List Door} {ks : List Int} {h : Int} {fs : List Int} (ha : AskF n d ks h fs) : depthP n d ks h.toNat fs > 0 ↔ winsB n d (layK ks.length (upto h.toNat 12) fs) 0 = true := by
  have h1 := depth_zero ha.1.1.okm (ha.2.fok ha.1.1.okm (by have := ha.1.2; omega))
  have h2 := depthP_ge n d ks h.toNat fs
  constructor
  · intro hp
    cases hw : winsB n d (layK ks.length (upto h.toNat 12) fs) 0 with
    | true => rfl
    | false => have := h1.2 hw; omega
  · intro hw
    have : depthP n d ks h.toNat fs ≠ 0 := fun e => by rw [h1.1 e] at hw; cases hw
    omega
theorem winF_iff {n : Int} {d : List Door} {ks : List Int} {h : Int} (hF : FewP n d ks h) : winF n d ks h ≠ [] ↔ winsB n d (layK ks.length (upto h.toNat 12) (List.replicate (upto h.toNat 12).length 0)) 0 = true := by
  have hm := hF.1.1.okm
  have hx : h.toNat < 64 := by have := hF.1.2; omega
  constructor
  · intro hne
    obtain ⟨fs, hfs⟩ := List.exists_mem_of_ne_nil _ hne
    exact zeros_win hm hx (winF_mem hF fs hfs) (List.mem_filter.1 hfs).2
  · intro hw e
    have : List.replicate (upto h.toNat 12).length (0 : Int) ∈ winF n d ks h := List.mem_filter.2 ⟨zeros_mem _ (by have := hm.lo; omega) _, hw⟩
    rw [e] at this; cases this
theorem firstP_full (n : Int) (d : List Door) (ks : List Int) (h : Int) : ((firstP n d ks h).2 = true ↔ FewP n d ks h ∧ winF n d ks h ≠ []) ∧ ((firstP n d ks h).2 = true → (firstP n d ks h).1 ∈ winF n d ks h) := by
  unfold firstP
  by_cases hF : FewP n d ks h
  · rw [if_pos hF]
    cases winF n d ks h with
    | nil => simp
    | cons fs t => simp [hF]
  · rw [if_neg hF]; simp [hF]
theorem laws_FnFillings.pure (x : List By) (h : wfd x) : ∃ k, laws_FnFillings.f k x = some true := by
  refine ⟨Big, ?_⟩
  have hk : Big ≤ Big := Nat.le_refl _
  unfold laws_FnFillings.f laws_vBig.f
  rw [Option.bind_some]
  by_cases hb : (x.length : Int) > 65536
  · rw [if_pos (by simpa using hb)]
  rw [if_neg (by simpa using hb)]
  have hc := code_ok h (by omega)
  obtain ⟨c1, v1, hc1⟩ := vCut_ok (k := Big) 1 (by omega) hc (by omega)
  obtain ⟨⟨n, d, ks, y⟩, e1, hM, hy⟩ := DrawCountFillings_ok hk hc
  obtain ⟨⟨n', d', ks', y', z'⟩, e2, hM', hy'⟩ := DrawNodeCounts_ok hk hc1
  have hd := hM.2.1
  have hks := hM.2.2
  have hd' := hM'.2.1
  have hks' := hM'.2.2
  simp only at hd hks hd' hks' hy hy'
  have q1 := CountFillings_full hk n d ks y (by omega) (by omega)
  have q1' := CountFillings_full hk n' d' ks' y' (by omega) (by omega)
  have q2 := FirstFilling_impl hk n d ks y (by omega) (by omega)
  have q3 := FirstFilling_spec hk n d ks y (by omega) (by omega)
  obtain ⟨⟨df, dd, db⟩, q4, q5, dl, diff, dval⟩ := DeepestFilling_full hk n d ks y (by omega) (by omega)
  have q6 := NodeCounts_impl hk n' d' ks' y' z' hy' (by omega) (by omega)
  have q7 := NodeCounts_spec hk n' d' ks' y' z' (by omega) (by omega)
  have q8 := ColoursOf_eq hk y
  have hfl := firstP_len n d ks y
  have hff := firstP_full n d ks y
  have hcl := countsP_len n' d' ks' y' z'
  have q9 := FillingDepth_eq hk n d ks y df (by omega) (by omega) (by simp only at dl; omega)
  have q10 := FillingDepth_eq hk n d ks y (firstP n d ks y).1 (by omega) (by omega) (by omega)
  have q11 := vInts_eq hk (firstP n d ks y).1 (firstP n d ks y).1 (by omega)
  have q12 := vInts_eq hk df df (by simp only at dl; omega)
  have q13 := vInts_eq hk (countsP n' d' ks' y' z').1 (countsP n' d' ks' y' z').1 (by omega)
  have q14 := vAdd_eq hk (countsP n' d' ks' y' z').1 (by omega)
  have hcs : (countsP n' d' ks' y' z').2 = true → FewP n' d' ks' y' ∧ sumW (countsP n' d' ks' y' z').1 = ((winF n' d' ks' y').length : Int) := fun e => by
    have : FewP n' d' ks' y' ∧ z' ∈ upto y'.toNat 12 := by
      unfold countsP at e; split at e
      · rename_i h; exact h
      · cases e
    exact ⟨this.1, counts_sum this.1 this.2⟩
  generalize countsP n' d' ks' y' z' = C at *
  generalize firstP n d ks y = F at *
  obtain ⟨C1, C2⟩ := C
  obtain ⟨F1, F2⟩ := F
  simp only at hcs hff diff dval q9 q10 q11 q12 q13 q14 dl hfl hcl
  simp only [e1, v1, e2, q1.1, q1.2, q2, q3, q4, q5, q6, q7, Option.bind_some, q11, q12, q13, decide_true, Bool.not_true, bne_self_eq_false, Bool.false_eq_true, if_false]
  have hFD : F2 = db := Bool.eq_iff_iff.2 (hff.1.trans diff.symm)
  subst hFD
  simp only [bne_self_eq_false, Bool.false_eq_true, if_false]
  -- what is counted node by node
  have hone : C2 = true → (if FewP n' d' ks' y' then (((winF n' d' ks' y').length : Int), true) else (0, false)) = (sumW C1, true) := fun e => by
    have := hcs e
    rw [if_pos this.1, this.2]
  by_cases hF : FewP n d ks y
  · have hyr := hF.1.2
    simp only [if_pos hF, if_true]
    have hfirst : (F2 != decide (((winF n d ks y).length : Int) > 0)) = false := by
      rw [bne_eq_false_iff_eq, Bool.eq_iff_iff, decide_eq_true_iff, hff.1]
      constructor
      · rintro ⟨_, h⟩
        have := List.length_pos_iff.2 h
        omega
      · intro h
        refine ⟨hF, fun e => ?_⟩
        rw [e] at h; simp at h
    simp only [hfirst, Option.bind_some, Bool.false_eq_true, if_false]
    rw [if_pos hyr] at q8
    have hu := upto_length y.toNat 12
    have q15 := FillingWins_eq hk n d ks y (List.replicate (upto y.toNat 12).length 0) (by omega) (by omega) (by simp; omega)
    have hA : AskF n d ks y (List.replicate (upto y.toNat 12).length 0) := ⟨hF.1, zeros_fill hF.1.1.okm.lo _⟩
    rw [if_pos hA] at q15
    have hz : decide (depthP n d ks y.toNat (List.replicate (upto y.toNat 12).length 0) > 0) = decide (((winF n d ks y).length : Int) > 0) := by
      refine decide_eq_decide.2 ((depth_wins hA).trans ((winF_iff hF).symm.trans ?_))
      constructor
      · intro h
        have := List.length_pos_iff.2 h
        omega
      · intro h e
        rw [e] at h; simp at h
    rw [hz] at q15
    have hcond : 0 ≤ ((upto y.toNat 12).length : Int) ∧ ((upto y.toNat 12).length : Int) < 1099511627776 := ⟨by omega, by omega⟩
    have hfin : F2 = true → depthP n d ks y.toNat df = dd ∧ depthP n d ks y.toNat F1 ≤ dd ∧ AskF n d ks y df ∧ AskF n d ks y F1 ∧ depthP n d ks y.toNat df > 0 ∧ depthP n d ks y.toNat F1 > 0 := fun e => by
      obtain ⟨g1, g2, g3⟩ := dval e
      have g4 := hff.2 e
      have a1 : AskF n d ks y df := ⟨hF.1, winF_mem hF df g1⟩
      have a2 : AskF n d ks y F1 := ⟨hF.1, winF_mem hF F1 g4⟩
      exact ⟨g2.symm, g3 _ g4, a1, a2, (depth_wins a1).2 (List.mem_filter.1 g1).2, (depth_wins a2).2 (List.mem_filter.1 g4).2⟩
    have q16 : impl_FillingWins.f Big n d ks y (List.replicate (((upto y.toNat 12).length : Int)).toNat 0) = some (decide (((winF n d ks y).length : Int) > 0), true) := by rw [Int.toNat_natCast]; exact q15
    have tailOk : ((impl_ColoursOf.f Big y).bind fun (t182_1, t182_2) => if 0 ≤ (t182_1.length : Int) ∧ (t182_1.length : Int) < 1099511627776 then (impl_FillingWins.f Big n d ks y (List.replicate ((t182_1.length : Int)).toNat (0 : Int))).bind fun (t192_1, t192_2) => ((if (!t182_2) = true then some true else (if (!t192_2) = true then some true else some (t192_1 != (decide (((winF n d ks y).length : Int) > 0)))))).bind fun y206 => (if y206 = true then some false else (if (!F2) = true then some true else (impl_FillingDepth.f Big n d ks y df).bind fun (t213_1, t213_2) => (impl_FillingDepth.f Big n d ks y F1).bind fun (t220_1, t220_2) => ((if t213_2 = true then (if t220_2 = true then (if (t213_1 == dd) = true then some (decide (t220_1 ≤ dd)) else some false) else some false) else some false)).bind fun y2 => some y2)) else none) = some true := by
      rw [q8, Option.bind_some]
      simp only
      rw [if_pos hcond, q16, Option.bind_some]
      simp only [Bool.not_true, Bool.false_eq_true, if_false, bne_self_eq_false, Option.bind_some]
      cases hF2 : F2
      · rfl
      · obtain ⟨g1, g2, g3, g4, g5, g6⟩ := hfin hF2
        rw [if_pos g3] at q9
        rw [if_pos g4] at q10
        rw [q9, q10]
        simp [g1, g2, g5, g6]
        omega
    cases hC : C2
    · simpa using tailOk
    · have g : impl_CountFillings.f Big n' d' ks' y' = some (sumW C1, true) := by rw [q1'.1, hone hC]
      simpa [g, q14] using tailOk
  · simp only [if_neg hF]
    have hF2 : F2 = false := by
      rw [← Bool.not_eq_true]; exact fun e => hF (hff.1.1 e).1
    subst hF2
    cases hC : C2
    · simp
    · have g : impl_CountFillings.f Big n' d' ks' y' = some (sumW C1, true) := by rw [q1'.1, hone hC]
      simp [g, q14]
end
end Go.Proofs

/- A part of the proof of FnAssumed: the plain law. No condition. -/
import Derived.Test.YtebbaacgalipaaaFnAssumedA
import Derived.Test.YtebbaacgalipaaaFnAssumedC
import Derived.Test.YtebbaacgalipaaaFnAssumedD
import Derived.Test.YtebbaacgalipaaaFnAssumedE
import Derived.Test.YtebbaacgalipaaaFnAssumedF
import Derived.Test.YtebbaacgalipaaaFnAssumedG
set_option linter.unusedSimpArgs false
/- Plain laws: XX -/
namespace Go.Proofs
open Go Go.Ga Go.Ga.Wf
set_option linter.unusedVariables false
set_option linter.unusedSimpArgs false
variable {k : Nat} {c : List By} {a s : Int}
/-! comparisons -/
theorem vInts_eq (hk : Big ≤ k) (x y : List Int) (hx : x.length ≤ 1048576) : laws_vInts.f k x y = some (decide (x = y)) := by
  unfold laws_vInts.f
  by_cases h : x.length = y.length
  · rw [if_neg (by simp; omega), loop_eq (l := laws_vInts.l0 k x y) h (fun n i hi => by
      rw [laws_vInts.l0]
      have h1 : ((i : Int) < (x.length : Int)) := by omega
      have hw : w64 ((i : Int) + 1) = ((i + 1 : Nat) : Int) := w64_id (by omega) (by omega)
      simp only [h1, decide_true, if_true, rdl_lt hi, rdl_lt (h ▸ hi), Option.bind_some, hw]
      by_cases h2 : x[i] = y[i] <;> simp [h2]) (fun n => by rw [laws_vInts.l0]; simp) (by unfold Big at hk; omega), Option.bind_some, Lr_ite]
    by_cases h2 : x = y <;> simp [h2]
  · rw [if_pos (by simp; omega)]
    have : x ≠ y := fun e => h (by rw [e])
    simp [this]
/-! the code, cut -/
theorem wrap64_range (x : Int) : -9223372036854775808 ≤ IntKind.i64.wrap x ∧ IntKind.i64.wrap x < 9223372036854775808 := by
  rw [IntKind.wrap_i64]; omega
theorem code_ok {c : List By} (h : wfd c) (hl : c.length ≤ 65536) : CodeOk c := ⟨by omega, fun x hx => h.2 x hx⟩
/-! mazes with sets -/
theorem bor_range (x y : Int) : -9223372036854775808 ≤ bor x y ∧ bor x y < 9223372036854775808 := by
  unfold bor
  exact wrap64_range _
theorem fill9_ok (hk : Big ≤ k) (hc : CodeOk c) : Tot (spec_l1Cur_fill9.f k c 0 0) (fun r => MzS r.1 r.2.1 r.2.2.1 ∧ (-9223372036854775808 ≤ r.2.2.2.1 ∧ r.2.2.2.1 < 9223372036854775808) ∧ 0 ≤ r.2.2.2.2.1 ∧ r.2.2.2.2.1 ≤ 400) := by
  have P : ∀ x : Int, 0 ≤ x → x ≤ 1000 → Pos x := fun x h1 h2 => by unfold Pos; omega
  unfold spec_l1Cur_fill9.f
  refine Tot.bind (among_ok hc (P 0 (by omega) (by omega)) _ (by simp)) ?_
  rintro ⟨n, a1, s1⟩ ⟨hm, h1⟩
  simp only [List.mem_cons, List.not_mem_nil, or_false] at hm
  simp only at h1 ⊢
  refine Tot.bind (someMaze_ok hk hc (by unfold Pos; omega) (by omega) n (by omega)) ?_
  rintro ⟨n, d, ks, a2, s2⟩ ⟨hM, h2⟩
  simp only at hM h2 ⊢
  have L := Tot.loop (l := fun q (s : Int × Nat) => spec_l1Cur_fill9.l0 k d q s.1 (s.2 : Int)) (fun s => s.2 ≤ d.length ∧ -9223372036854775808 ≤ s.1 ∧ s.1 < 9223372036854775808) (fun s => d.length - s.2) (fun r => -9223372036854775808 ≤ r ∧ r < 9223372036854775808) (fun q s hI ih => by
    obtain ⟨z, i⟩ := s
    obtain ⟨e1, e2⟩ := hI
    simp only at e1 e2 ih ⊢
    rw [spec_l1Cur_fill9.l0]
    have := hM.2.1
    by_cases hi : i < d.length
    · rw [if_pos (by simpa using hi), rdl_lt hi, Option.bind_some, show w64 ((i : Int) + 1) = ((i + 1 : Nat) : Int) from w64_id (by omega) (by omega)]
      exact ih (_, i + 1) ⟨by simp only; omega, bor_range _ _⟩ (by simp only; omega)
    · rw [if_neg (by simpa using hi)]; exact Tot.ret e2) k (0, 0) (by simp only; have := hM.2.1; unfold Big at hk; omega) ⟨by simp, by simp⟩
  refine Tot.bind L ?_
  intro set hs
  refine Tot.bind (P := fun r => 0 ≤ r.2.1 ∧ r.2.1 ≤ 304) ?_ ?_
  · rw [l2Set_eq, Option.bind_some]
    refine Tot.ite (fun h => ?_) (fun h => Tot.ret (by simp only; omega))
    have h' : 0 ≤ set ∧ set ≤ 63 := by simpa using h
    obtain ⟨x, rfl⟩ := Int.eq_ofNat_of_zero_le h'.1
    rw [l2Many_eq hk x (by omega), Option.bind_some]
    refine Tot.ite (fun h => ?_) (fun h => Tot.ret (by simp only; omega))
    refine Tot.bind (one_ok hc (P _ (by omega) (by omega)) _) ?_
    rintro ⟨b, a3, s3⟩ h3
    exact Tot.ret (by simp only at h3 ⊢; omega)
  rintro ⟨b, a3, s3⟩ h3
  simp only at h3 ⊢
  refine Tot.ite (fun h => Tot.ret ⟨hM, hs, by simp only; omega⟩) (fun h => ?_)
  refine Tot.bind (one_ok hc (P _ (by omega) (by omega)) _) ?_
  rintro ⟨b2, a4, s4⟩ h4
  simp only at h4 ⊢
  refine Tot.ite (fun h => ?_) (fun h => ?_)
  · refine Tot.bind (colours_ok hk hc (P _ (by omega) (by omega)) (by omega)) ?_
    rintro ⟨x, a5, s5⟩ ⟨h5, h6⟩
    exact Tot.ret ⟨hM, by simp only at h5 ⊢; omega, by simp only at h6 ⊢; omega⟩
  · refine Tot.bind (among_ok hc (P _ (by omega) (by omega)) _ (by simp)) ?_
    rintro ⟨x, a5, s5⟩ ⟨h5, h6⟩
    simp only [List.mem_cons, List.not_mem_nil, or_false] at h5
    exact Tot.ret ⟨hM, by simp only; omega, by simp only at h6 ⊢; omega⟩
def I64 (x : Int) : Prop := -9223372036854775808 ≤ x ∧ x < 9223372036854775808
end Go.Proofs

/- Plain laws: YY -/
namespace Go.Proofs
open Go Go.Ga Go.Ga.Wf
set_option linter.unusedVariables false
set_option linter.unusedSimpArgs false
theorem bor_bit {a b : Int} (ha : 0 ≤ a ∧ a ≤ 63) (hb : 0 ≤ b ∧ b ≤ 63) (t : Nat) : (bor a b).toNat.testBit t = (a.toNat.testBit t || b.toNat.testBit t) := by
  obtain ⟨x, rfl⟩ := Int.eq_ofNat_of_zero_le ha.1
  obtain ⟨y, rfl⟩ := Int.eq_ofNat_of_zero_le hb.1
  rw [bor_nat (by omega) (by omega), Int.toNat_natCast, Int.toNat_natCast, Int.toNat_natCast, Nat.testBit_or]
theorem bor_within {a b : Int} (ha : 0 ≤ a ∧ a ≤ 63) (hb : 0 ≤ b ∧ b ≤ 63) {H : Nat} (h1 : subB a.toNat H = true) (h2 : subB b.toNat H = true) : subB (bor a b).toNat H = true :=
  subB_iff.2 fun t ht => by
    rw [bor_bit ha hb, Bool.or_eq_true] at ht
    exact ht.elim (subB_iff.1 h1 t) (subB_iff.1 h2 t)
theorem bor_right {a b : Int} (ha : 0 ≤ a ∧ a ≤ 63) (hb : 0 ≤ b ∧ b ≤ 63) : subB b.toNat (bor a b).toNat = true :=
  subB_iff.2 fun t ht => by rw [bor_bit ha hb, ht, Bool.or_true]
theorem gain_has {ks : List Int} (hk : ∀ x ∈ ks, 0 ≤ x ∧ x ≤ 63) : ∀ (l : List Int) {h : Int}, 0 ≤ h ∧ h ≤ 63 → ∀ z ∈ l, subB (ks.getD z.toNat 0).toNat (gain ks l h).toNat = true
  | [], h, hh, z, hz => by cases hz
  | x :: l, h, hh, z, hz => by
    have hx := keys_getD hk x.toNat
    have h1 := bor_le63 hh hx
    have e : gain ks (x :: l) h = gain ks l (bor h (ks.getD x.toNat 0)) := rfl
    rw [e]
    rcases List.mem_cons.1 hz with rfl | hz
    · exact subB_trans (bor_right hh hx) (gain_sub hk l h1.1)
    · exact gain_has hk l h1.1 z hz
theorem gain_within {ks : List Int} (hk : ∀ x ∈ ks, 0 ≤ x ∧ x ≤ 63) {H : Nat} : ∀ (l : List Int) {h : Int}, 0 ≤ h ∧ h ≤ 63 → subB h.toNat H = true → (∀ z ∈ l, subB (ks.getD z.toNat 0).toNat H = true) → subB (gain ks l h).toNat H = true
  | [], h, hh, h1, h2 => h1
  | x :: l, h, hh, h1, h2 => by
    have hx := keys_getD hk x.toNat
    have e : gain ks (x :: l) h = gain ks l (bor h (ks.getD x.toNat 0)) := rfl
    rw [e]
    exact gain_within hk l (bor_le63 hh hx).1 (bor_within hh hx h1 (h2 x (List.mem_cons_self ..))) fun z hz => h2 z (List.mem_cons_of_mem _ hz)
/-- with H, all keys at nodes that are reached are had -/
def Closed (d : List Door) (ks : List Int) (H : Int) : Prop := ∀ z, Rch d H 0 z → subB (ks.getD z.toNat 0).toNat H.toNat = true
theorem lastH_closed {n : Int} {d : List Door} {ks : List Int} (hm : Okm n d ks) {h : Int} (hh : 0 ≤ h ∧ h ≤ 63) : Closed d ks (lastH d ks 64 h) := fun z hz => by
  have hr := lastH_range hm 64 hh
  have hf := lastH_fix hm 64 hh (by omega)
  have := gain_has hm.keys (nodesL d 0 (lastH d ks 64 h)) hr z ((mem_nodesL hm.small (by omega)).2 hz)
  rw [show gain ks (nodesL d 0 (lastH d ks 64 h)) (lastH d ks 64 h) = nextH d ks (lastH d ks 64 h) from rfl, hf] at this
  exact this
theorem lastH_least {n : Int} {d : List Door} {ks : List Int} (hm : Okm n d ks) {H : Int} (hc : Closed d ks H) : ∀ (f : Nat) {h : Int}, 0 ≤ h ∧ h ≤ 63 → subB h.toNat H.toNat = true → subB (lastH d ks f h).toNat H.toNat = true
  | 0, h, hh, hs => hs
  | f + 1, h, hh, hs => by
    unfold lastH; split
    · exact hs
    · exact lastH_least hm hc f (nextH_le hm hh).1 (gain_within hm.keys _ hh hs fun z hz => hc z (Rch.mono hs ((mem_nodesL hm.small (by omega)).1 hz)))
/-- the goal is reached with what one has at last -/
theorem winsB_iff {n : Int} {d : List Door} {ks : List Int} (hm : Okm n d ks) (h : Int) : winsB n d ks h = true ↔ Rch d (lastH d ks 64 h) 0 (n - 1) := by
  unfold winsB
  have := hm.lo
  rw [reachN_test hm.small (by omega), show (((n - 1).toNat : Nat) : Int) = n - 1 by omega]
/-! what lies at a node -/
theorem shl1_bit {c : Int} (h : 0 ≤ c ∧ c ≤ 5) (t : Nat) : (shl 1 c).toNat.testBit t = decide (c = t) := by
  obtain ⟨x, rfl⟩ := Int.eq_ofNat_of_zero_le h.1
  rw [shl_one (by omega), Int.toNat_natCast, Nat.testBit_two_pow]
  exact decide_eq_decide.2 (by omega)
theorem layF_bit {n : Nat} {s : List Int} (hs : KOk n s) {p : Int × Int} (h1 : 0 ≤ p.1 ∧ p.1 < n) (h2 : 0 ≤ p.2 ∧ p.2 ≤ 5) (z t : Nat) :
    ((layF s p).getD z 0).toNat.testBit t = true ↔ (s.getD z 0).toNat.testBit t = true ∨ (p.1 = z ∧ p.2 = t) := by
  unfold layF
  have hl := hs.1
  rw [getD_set]
  by_cases e : p.1.toNat = z ∧ p.1.toNat < s.length
  · rw [if_pos e, bor_bit (keys_getD hs.2 _) (shl1_le h2), shl1_bit h2, e.1, Bool.or_eq_true, decide_eq_true_eq]
    have : p.1 = z := by omega
    simp [this]
  · rw [if_neg e]
    constructor
    · exact .inl
    · rintro (h | ⟨h, _⟩)
      · exact h
      · exact absurd ⟨by omega, by omega⟩ e
theorem layFold_bit {n : Nat} : ∀ (l : List (Int × Int)) (s : List Int), KOk n s → (∀ p ∈ l, (0 ≤ p.1 ∧ p.1 < n) ∧ 0 ≤ p.2 ∧ p.2 ≤ 5) → ∀ z t : Nat,
    ((l.foldl layF s).getD z 0).toNat.testBit t = true ↔ (s.getD z 0).toNat.testBit t = true ∨ ∃ p ∈ l, p.1 = z ∧ p.2 = t
  | [], s, hs, hl, z, t => by simp
  | p :: l, s, hs, hl, z, t => by
    have hp := hl p (List.mem_cons_self ..)
    rw [List.foldl_cons, layFold_bit l _ (hs.lay hp.2) (fun q hq => hl q (List.mem_cons_of_mem _ hq)), layF_bit hs hp.1 hp.2]
    constructor
    · rintro ((h | h) | ⟨q, hq, h⟩)
      · exact .inl h
      · exact .inr ⟨p, List.mem_cons_self .., h⟩
      · exact .inr ⟨q, List.mem_cons_of_mem _ hq, h⟩
    · rintro (h | ⟨q, hq, h⟩)
      · exact .inl (.inl h)
      · rcases List.mem_cons.1 hq with rfl | hq
        · exact .inl (.inr h)
        · exact .inr ⟨q, hq, h⟩
theorem layK_bit {n : Nat} {cs fs : List Int} (h : FOk n cs fs) (z t : Nat) : ((layK n cs fs).getD z 0).toNat.testBit t = true ↔ ∃ p ∈ fs.zip cs, p.1 = z ∧ p.2 = t := by
  unfold layK
  rw [layFold_bit _ _ (KOk.zero n) (fun p hp => ⟨h.nodes _ (List.of_mem_zip (a := p.1) (b := p.2) hp).1, zip_cols h p hp⟩)]
  constructor
  · rintro (h | h)
    · rw [List.getD_eq_getElem?_getD, List.getElem?_replicate] at h
      split at h <;> simp at h
    · exact h
  · exact .inr
theorem upto_bit {x : Nat} (hx : x < 64) (t : Nat) : (t : Int) ∈ upto x 12 ↔ x.testBit t = true := by
  rw [mem_upto]
  constructor
  · rintro ⟨s, _, h, e⟩
    have : t = s := by omega
    rw [this]; exact h
  · intro h
    refine ⟨t, ?_, h, rfl⟩
    refine Nat.lt_of_not_le fun hc => ?_
    rw [Nat.testBit_lt_two_pow (Nat.lt_of_lt_of_le hx (Nat.pow_le_pow_right (n := 2) (by omega) (by omega : 6 ≤ t)))] at h
    cases h
theorem lay_sub {n : Int} {d : List Door} {ks : List Int} (hm : Okm n d ks) {x : Nat} (hx : x < 64) {fs : List Int} (hf : FillP n x fs) (z : Nat) : subB ((layK ks.length (upto x 12) fs).getD z 0).toNat x = true :=
  subB_iff.2 fun t ht => by
    obtain ⟨p, hp, _, h2⟩ := (layK_bit (hf.fok hm hx) z t).1 ht
    have := (List.of_mem_zip (a := p.1) (b := p.2) hp).2
    rw [h2] at this
    exact (upto_bit hx t).1 this
/-! sums -/
/-! the deepest -/
section
variable {k : Nat}
/-- is it asked for, and a filling? -/
def AskF (n : Int) (d : List Door) (ks : List Int) (h : Int) (fs : List Int) : Prop := (IsMaze n d ks ∧ 0 ≤ h ∧ h ≤ 63) ∧ FillP n h.toNat fs
instance (n : Int) (d : List Door) (ks : List Int) (h : Int) (fs : List Int) : Decidable (AskF n d ks h fs) := by unfold AskF; infer_instance
theorem askF_eq (hk : Big ≤ k) (n : Int) (d : List Door) (ks : List Int) (h : Int) (fs : List Int) (hd : d.length ≤ 1048576) (hks : ks.length ≤ 1048576) (hf : fs.length ≤ 1048576) :
    ((impl_asked.f k n d ks h).bind fun t10 => (if (!t10) = true then some true else (impl_isFilling.f k n d ks h fs).bind fun t16 => some (!t16))) = some (!decide (AskF n d ks h fs)) := by
  rw [asked_eq hk n d ks h hd hks, Option.bind_some]
  by_cases hT : IsMaze n d ks ∧ 0 ≤ h ∧ h ≤ 63
  · obtain ⟨x, rfl⟩ := Int.eq_ofNat_of_zero_le hT.2.1
    rw [decide_eq_true hT, if_neg (by simp), isFilling_eq hk hT.1 (by omega) fs hf, Option.bind_some]
    congr 2
    exact decide_eq_decide.2 ⟨fun e => ⟨hT, by rwa [Int.toNat_natCast]⟩, fun e => by have := e.2; rwa [Int.toNat_natCast] at this⟩
  · rw [decide_eq_false hT, decide_eq_false (fun e : AskF n d ks h fs => hT e.1)]; rfl
theorem depth_ask (hk : Big ≤ k) {n : Int} {d : List Door} {ks : List Int} {h : Int} {fs : List Int} (ha : AskF n d ks h fs) : impl_depth.f k n d ks h fs = some (depthP n d ks h.toNat fs) := by
  have := depth_eq hk ha.1.1.okm (x := h.toNat) (by have := ha.1.2; omega) (ha.2.fok ha.1.1.okm (by have := ha.1.2; omega))
  rwa [show ((h.toNat : Nat) : Int) = h by have := ha.1.2; omega] at this
theorem FillingWins_eq (hk : Big ≤ k) (n : Int) (d : List Door) (ks : List Int) (h : Int) (fs : List Int) (hd : d.length ≤ 1048576) (hks : ks.length ≤ 1048576) (hf : fs.length ≤ 1048576) :
    impl_FillingWins.f k n d ks h fs = some (if AskF n d ks h fs then (decide (depthP n d ks h.toNat fs > 0), true) else (false, false)) := by
  unfold impl_FillingWins.f
  rw [askF_eq hk n d ks h fs hd hks hf, Option.bind_some]
  by_cases ha : AskF n d ks h fs
  · rw [decide_eq_true ha, if_neg (by simp), if_pos ha, depth_ask hk ha]; rfl
  · rw [decide_eq_false ha, if_pos (by simp), if_neg ha]
theorem depth_wins {n : Int} {d : List Door} {ks : List Int} {h : Int} {fs : List Int} (ha : AskF n d ks h fs) : depthP n d ks h.toNat fs > 0 ↔ winsB n d (layK ks.length (upto h.toNat 12) fs) 0 = true := by
  have h1 := depth_zero ha.1.1.okm (ha.2.fok ha.1.1.okm (by have := ha.1.2; omega))
  have h2 := depthP_ge n d ks h.toNat fs
  constructor
  · intro hp
    cases hw : winsB n d (layK ks.length (upto h.toNat 12) fs) 0 with
    | true => rfl
    | false => have := h1.2 hw; omega
  · intro hw
    have : depthP n d ks h.toNat fs ≠ 0 := fun e => by rw [h1.1 e] at hw; cases hw
    omega
end
end Go.Proofs

/- Plain laws: ZZ -/
namespace Go.Proofs
open Go Go.Ga Go.Ga.Wf
set_option linter.unusedVariables false
set_option linter.unusedSimpArgs false
variable {k : Nat} {c : List By} {a s : Int}
/-! good states -/
/-- is it a state? -/
def StP (n : Int) (d : List Door) (ks tr : List Int) (x s : Int) : Prop := IsTrapP n d ks tr ∧ (0 ≤ x ∧ x ≤ n - 1) ∧ 0 ≤ s ∧ s ≤ 63
noncomputable instance (n : Int) (d : List Door) (ks tr : List Int) (x s : Int) : Decidable (StP n d ks tr x s) := Classical.propDecidable _
/-! a trap walk is a key walk -/
end Go.Proofs

/- Plain laws: BA -/
namespace Go.Proofs
open Go Go.Ga Go.Ga.Wf
set_option linter.unusedVariables false
set_option linter.unusedSimpArgs false
variable {k : Nat}
end Go.Proofs

/- Plain laws: BC -/
namespace Go.Proofs
open Go Go.Ga Go.Ga.Wf
set_option linter.unusedVariables false
set_option linter.unusedSimpArgs false
variable {k : Nat} {c : List By} {a s : Int}
theorem l9Good_eq (hk : Big ≤ k) (n : Int) (d : List Door) (ks : List Int) (h : Int) (fs : List Int) (hd : d.length ≤ 1048576) (hks : ks.length ≤ 1048576) (hf : fs.length ≤ 1048576) :
    spec_l9Good.f k n d ks h fs = some (decide (AskF n d ks h fs)) := by
  unfold spec_l9Good.f
  rw [l9Ask_eq hk n d ks h hd hks, Option.bind_some]
  by_cases hT : IsMaze n d ks ∧ 0 ≤ h ∧ h ≤ 63
  · obtain ⟨x, rfl⟩ := Int.eq_ofNat_of_zero_le hT.2.1
    have e := l9Filling_eq hk hT.1 (x := x) (by omega) fs hf
    rw [decide_eq_true hT]
    simp only [if_true, e, Option.bind_some]
    congr 1
    exact decide_eq_decide.2 ⟨fun e => ⟨hT, by rwa [Int.toNat_natCast]⟩, fun e => by have := e.2; rwa [Int.toNat_natCast] at this⟩
  · rw [decide_eq_false hT, decide_eq_false (fun e : AskF n d ks h fs => hT e.1)]; rfl
theorem AskF.nat {n : Int} {d : List Door} {ks : List Int} {h : Int} {fs : List Int} (ha : AskF n d ks h fs) : ((h.toNat : Nat) : Int) = h ∧ h.toNat < 64 := ⟨by have := ha.1.2; omega, by have := ha.1.2; omega⟩
theorem AskF.fok {n : Int} {d : List Door} {ks : List Int} {h : Int} {fs : List Int} (ha : AskF n d ks h fs) : FOk ks.length (upto h.toNat 12) fs := ha.2.fok ha.1.1.okm ha.nat.2
theorem LayKeys_both (hk : Big ≤ k) (n : Int) (d : List Door) (ks : List Int) (h : Int) (fs : List Int) (hd : d.length ≤ 1048576) (hks : ks.length ≤ 1048576) (hf : fs.length ≤ 1048576) :
    impl_LayKeys.f k n d ks h fs = some (if AskF n d ks h fs then (n, d, layK ks.length (upto h.toNat 12) fs, true) else (0, [], [], false)) ∧
    spec_LayKeys.f k n d ks h fs = some (if AskF n d ks h fs then (n, d, layK ks.length (upto h.toNat 12) fs, true) else (0, [], [], false)) := by
  unfold impl_LayKeys.f spec_LayKeys.f
  rw [askF_eq hk n d ks h fs hd hks hf, l9Good_eq hk n d ks h fs hd hks hf, Option.bind_some, Option.bind_some]
  by_cases ha : AskF n d ks h fs
  · obtain ⟨e, hx⟩ := ha.nat
    have h1 := members_eq hk h.toNat (by omega)
    have h2 := colours_eq hk h.toNat hx
    rw [e] at h1 h2
    rw [decide_eq_true ha, if_pos ha, if_neg (by simp), if_neg (by simp), h1, h2, Option.bind_some, Option.bind_some, laid_eq hk n d ks ha.fok hd hks, l9Lay_eq hk n d ks ha.fok ha.1.1.okm.len hd hks]
    exact ⟨rfl, rfl⟩
  · rw [decide_eq_false ha, if_neg ha]; exact ⟨rfl, rfl⟩
/-- two colours that may be swapped -/
def SwF (n : Int) (d : List Door) (ks : List Int) (h : Int) (fs : List Int) (a b : Int) : Prop := AskF n d ks h fs ∧ a ≠ b ∧ a ∈ upto h.toNat 12 ∧ b ∈ upto h.toNat 12
instance (n : Int) (d : List Door) (ks : List Int) (h : Int) (fs : List Int) (a b : Int) : Decidable (SwF n d ks h fs a b) := by unfold SwF; infer_instance
theorem IsMaze.lay {n : Int} {d : List Door} {ks : List Int} (h : IsMaze n d ks) {K : List Int} (hK : KOk ks.length K) : IsMaze n d K := by
  obtain ⟨h1, h2, h3, h4, h5, h6⟩ := h
  refine ⟨h1, h2, h3, by rw [hK.1]; exact h4, h5, fun i hi => ?_⟩
  unfold setB
  rw [dif_pos hi, decide_eq_true (hK.2 _ (List.getElem_mem hi))]
end Go.Proofs

/- Plain laws: BD -/
namespace Go.Proofs
open Go Go.Ga Go.Ga.Wf
set_option linter.unusedVariables false
set_option linter.unusedSimpArgs false
variable {k : Nat} {c : List By}
theorem DrawAssumedFilling_ok (hk : Big ≤ k) (hc : CodeOk c) : Tot (spec_DrawAssumedFilling.f k c) (fun r => MzS r.1 r.2.1 r.2.2.1 ∧ I64 r.2.2.2.1 ∧ r.2.2.2.2.1.length ≤ 13 ∧ r.2.2.2.2.2.length ≤ 14) := by
  have P : ∀ x : Int, 0 ≤ x → x ≤ 10000 → Pos x := fun x h1 h2 => by unfold Pos; omega
  unfold spec_DrawAssumedFilling.f
  refine Tot.bind (fill9_ok hk hc) ?_
  rintro ⟨n, d, ks, x, a1, s1⟩ ⟨hM, hx, h1⟩
  simp only at hM hx h1 ⊢
  rw [l2Set_eq, Option.bind_some]
  refine Tot.bind (P := fun r => r.1.length ≤ 13 ∧ 0 ≤ r.2.1 ∧ r.2.1 ≤ 430) ?_ ?_
  · refine Tot.ite (fun h => ?_) (fun h => Tot.ret ⟨by simp, by simp only; omega⟩)
    have h' : 0 ≤ x ∧ x ≤ 63 := by simpa using h
    obtain ⟨x, rfl⟩ := Int.eq_ofNat_of_zero_le h'.1
    rw [colours_eq hk x (by omega), Option.bind_some]
    have h6 := upto_len6 (x := x) (by omega)
    refine Tot.bind (orderOf_ok hk hc (P _ (by omega) (by omega)) (by omega) _) ?_
    rintro ⟨pl, a2, s2⟩ ⟨h2, h3⟩
    simp only at h2 h3 ⊢
    generalize upto x 12 = C at *
    have L := Tot.loop (l := fun q (s : List Int × Nat) => spec_DrawAssumedFilling.l0 k C pl q s.1 (s.2 : Int)) (fun s => s.2 ≤ pl.length ∧ s.1.length ≤ s.2) (fun s => pl.length - s.2) (fun r => r.length ≤ 13) (fun q s hI ih => by
      obtain ⟨l, i⟩ := s
      obtain ⟨e1, e2⟩ := hI
      simp only at e1 e2 ih ⊢
      rw [spec_DrawAssumedFilling.l0]
      by_cases hi : i < pl.length
      · rw [if_pos (by simpa using hi), rdl_lt hi, Option.bind_some, in_eq, Option.bind_some, show w64 ((C.length : Int) - 1) = (C.length : Int) - 1 from w64_id (by omega) (by omega), show w64 ((i : Int) + 1) = ((i + 1 : Nat) : Int) from w64_id (by omega) (by omega)]
        refine Tot.bind (P := fun r => r.length ≤ i + 1) ?_ fun r hr => ih (r, i + 1) ⟨by simp only; omega, hr⟩ (by simp only; omega)
        refine Tot.ite (fun h => ?_) (fun h => Tot.ret (by omega))
        have hr : 0 ≤ pl[i] ∧ pl[i] ≤ (C.length : Int) - 1 := by simpa using h
        rw [Option.bind_some]
        refine Tot.bind (Tot.rdl hr.1 (by omega)) fun y _ => ?_
        rw [if_pos (by simp; omega)]
        exact Tot.ret (by simp; omega)
      · rw [if_neg (by simpa using hi)]; exact Tot.ret (by omega)) k ([], 0) (by simp only; unfold Big at hk; omega) ⟨by simp, by simp⟩
    refine Tot.bind L ?_
    intro l hl
    exact Tot.ret ⟨hl, by simp only; omega⟩
  rintro ⟨o, a2, s2⟩ ⟨h2, h3⟩
  simp only at h2 h3 ⊢
  have L := Tot.loop (l := fun q (s : List Int × Nat × Int × Int) => spec_DrawAssumedFilling.l1 k c o q s.1 (s.2.1 : Int) s.2.2.1 s.2.2.2) (fun s => s.2.1 ≤ o.length ∧ s.1.length = s.2.1 ∧ 0 ≤ s.2.2.1 ∧ s.2.2.1 ≤ 430 + 2 * s.2.1) (fun s => o.length - s.2.1) (fun r => r.2.2.length ≤ 13 ∧ 0 ≤ r.1 ∧ r.1 ≤ 460) (fun q s hI ih => by
    obtain ⟨l, i, b, s'⟩ := s
    obtain ⟨e1, e2, e3, e4⟩ := hI
    simp only at e1 e2 e3 e4 ih ⊢
    rw [spec_DrawAssumedFilling.l1]
    by_cases hi : i < o.length
    · rw [if_pos (by simpa using hi)]
      refine Tot.bind (pick_ok hc (P _ (by omega) (by omega)) _) ?_
      rintro ⟨t, a5, s5⟩ ⟨g0, g1, h6⟩
      simp only at g0 g1 h6 ⊢
      rw [if_pos (by simp; omega), show w64 ((i : Int) + 1) = ((i + 1 : Nat) : Int) from w64_id (by omega) (by omega)]
      exact ih (_, i + 1, a5, s5) ⟨by simp only; omega, by simp; omega, by simp only; omega, by simp only; omega⟩ (by simp only; omega)
    · rw [if_neg (by simpa using hi)]; exact Tot.ret ⟨by simp only; omega, by simp only; omega⟩) k ([], 0, a2, s2) (by simp only; unfold Big at hk; omega) ⟨by simp, by simp, by simp only; omega, by simp only; omega⟩
  refine Tot.bind L ?_
  rintro ⟨a3, s3, l⟩ ⟨h4, h5⟩
  simp only at h4 h5 ⊢
  refine Tot.bind (one_ok hc (P _ (by omega) (by omega)) _) ?_
  rintro ⟨t, a4, s4⟩ h6
  simp only at h6 ⊢
  refine Tot.bind (P := fun r => r.length ≤ 14) ?_ fun r hr => Tot.ret ⟨hM, hx, h2, hr⟩
  refine Tot.ite (fun h => ?_) (fun h => Tot.ret (by omega))
  refine Tot.bind (among_ok hc (P _ (by omega) (by omega)) _ (by simp)) ?_
  rintro ⟨y, a5, s5⟩ _
  simp only
  rw [if_pos (by simp; omega)]
  exact Tot.ret (by simp; omega)
theorem GainAtLast_eq (hk : Big ≤ k) (n : Int) (d : List Door) (ks : List Int) (h : Int) (hd : d.length ≤ 1048576) (hks : ks.length ≤ 1048576) :
    impl_GainAtLast.f k n d ks h = some (if IsMaze n d ks ∧ 0 ≤ h ∧ h ≤ 63 then (lastH d ks 64 h, nodesL d 0 (lastH d ks 64 h), true) else (0, [], false)) := by
  unfold impl_GainAtLast.f
  rw [asked_eq hk n d ks h hd hks, Option.bind_some]
  by_cases hT : IsMaze n d ks ∧ 0 ≤ h ∧ h ≤ 63
  · have hl := reachN_lt d 0 (lastH d ks 64 h)
    rw [decide_eq_true hT, if_pos hT, if_neg (by simp), atLast_eq hk hT.1.okm hT.2, Option.bind_some]
    simp only
    rw [members_eq hk _ hl]; rfl
  · rw [decide_eq_false hT, if_neg hT]; rfl
theorem CanWin_eq (hk : Big ≤ k) (n : Int) (d : List Door) (ks : List Int) (h : Int) (hd : d.length ≤ 1048576) (hks : ks.length ≤ 1048576) :
    impl_CanWin.f k n d ks h = some (if IsMaze n d ks ∧ 0 ≤ h ∧ h ≤ 63 then (winsB n d ks h, true) else (false, false)) := by
  unfold impl_CanWin.f
  rw [asked_eq hk n d ks h hd hks, Option.bind_some]
  by_cases hT : IsMaze n d ks ∧ 0 ≤ h ∧ h ≤ 63
  · rw [decide_eq_true hT, if_pos hT, if_neg (by simp), canWin_eq hk hT.1.okm hT.2]; rfl
  · rw [decide_eq_false hT, if_neg hT]; rfl
/-! what is filled is had at last -/
theorem clr_bit {s c : Int} (hs : 0 ≤ s ∧ s ≤ 63) (hc : 0 ≤ c ∧ c ≤ 5) (t : Nat) : (bclr s (shl 1 c)).toNat.testBit t = (s.toNat.testBit t && !decide (c = t)) := by
  obtain ⟨x, rfl⟩ := Int.eq_ofNat_of_zero_le hs.1
  obtain ⟨y, rfl⟩ := Int.eq_ofNat_of_zero_le hc.1
  rw [shl_one (by omega), bclr_nat (by omega)]
  rw [Int.toNat_natCast, Int.toNat_natCast]
  by_cases h : y = t
  · subst h; simp [Nat.testBit_and, Nat.testBit_xor, Nat.testBit_two_pow]
  · simp [Nat.testBit_and, Nat.testBit_xor, Nat.testBit_two_pow, h]
    intro e; omega
theorem closed_less {d : List Door} {K K' : List Int} {H : Int} (hc : Closed d K' H) (hs : ∀ z t : Nat, (K.getD z 0).toNat.testBit t = true → (K'.getD z 0).toNat.testBit t = true) : Closed d K H := fun z hz =>
  subB_trans (subB_iff.2 fun t ht => hs z.toNat t ht) (hc z hz)
theorem fillAt_rch {n : Int} {d : List Door} {ks : List Int} (hm : Okm n d ks) {x : Nat} {o ch : List Int} (h : MakesP x o ch) (F : Nat → Int) {i : Nat} (hi : i < o.length) :
    Rch d (lastH d (layK ks.length o (fillX ks.length d o ch F i)) 64 (F i)) 0 (fillN ks.length d o ch F i) := by
  have hlo := hm.lo
  refine (mem_nodesL hm.small (by omega)).1 ?_
  unfold fillN fillAt
  have hc : 0 ≤ ch.getD i 0 := by
    have := h.2.2
    rw [getD_at (by omega)]; exact h.2.1 _ (List.getElem_mem _)
  refine pick_mem ?_ hc
  exact List.length_pos_of_mem ((mem_nodesL hm.small (by omega)).2 (.here : Rch d _ 0 0))
theorem zip_fill {ns : Nat} {d : List Door} {o ch : List Int} {F : Nat → Int} {m z t : Nat} (hm : m ≤ o.length) : (∃ p ∈ (fillX ns d o ch F m).zip o, p.1 = z ∧ p.2 = t) ↔ ∃ i, ∃ h : i < o.length, i < m ∧ fillN ns d o ch F i = z ∧ o[i] = t := by
  rw [fillX_map]
  constructor
  · rintro ⟨p, hp, h1, h2⟩
    obtain ⟨i, hi, e⟩ := List.getElem_of_mem hp
    rw [List.length_zip, List.length_map, List.length_range] at hi
    rw [List.getElem_zip, List.getElem_map, List.getElem_range] at e
    rw [← e] at h1 h2
    exact ⟨i, by omega, by omega, h1, h2⟩
  · rintro ⟨i, hi, him, h1, h2⟩
    have hl : i < (((List.range m).map (fillN ns d o ch F)).zip o).length := by rw [List.length_zip, List.length_map, List.length_range]; omega
    have e : (((List.range m).map (fillN ns d o ch F)).zip o)[i]'hl = (fillN ns d o ch F i, o[i]) := by
      rw [List.getElem_zip, List.getElem_map, List.getElem_range]
    exact ⟨_, List.getElem_mem hl, by rw [e]; exact ⟨h1, h2⟩⟩
/-- the hand behind some colours -/
def handU (fwd : Bool) (h : Int) (o : List Int) (i : Nat) : Int := if fwd = true then 0 else clrU h o i
theorem handU_range {fwd : Bool} {h : Int} (hh : 0 ≤ h ∧ h ≤ 63) {o : List Int} (ho : ∀ c ∈ o, 0 ≤ c ∧ c ≤ 5) (i : Nat) : 0 ≤ handU fwd h o i ∧ handU fwd h o i ≤ 63 := by
  unfold handU; split
  · omega
  · exact clrU_range hh ho i
theorem hand_step {fwd : Bool} {h : Int} (hh : 0 ≤ h ∧ h ≤ 63) {o : List Int} (ho : ∀ c ∈ o, 0 ≤ c ∧ c ≤ 5) {i : Nat} (hi : i < o.length) (t : Nat) (hb : (handU fwd h o i).toNat.testBit t = true) : (handU fwd h o (i + 1)).toNat.testBit t = true ∨ o[i] = t := by
  unfold handU at hb ⊢
  cases fwd with
  | true => simp at hb
  | false =>
    simp only [Bool.false_eq_true, if_false] at hb ⊢
    rw [clrU_succ h o i hi, clr_bit (clrU_range hh ho i) (ho _ (List.getElem_mem hi)), hb]
    by_cases e : o[i] = t
    · exact .inr e
    · left; simp [e]
theorem hand_sub {fwd : Bool} {h : Int} (hh : 0 ≤ h ∧ h ≤ 63) {o : List Int} (ho : ∀ c ∈ o, 0 ≤ c ∧ c ≤ 5) : ∀ (i : Nat), i ≤ o.length → ∀ t, (handU fwd h o i).toNat.testBit t = true → h.toNat.testBit t = true ∧ ∀ j (hj : j < o.length), j < i → o[j] ≠ t
  | 0, _, t, hb => by
    unfold handU at hb
    cases fwd with
    | true => simp at hb
    | false =>
      refine ⟨?_, fun j _ h => by omega⟩
      simpa [clrU] using hb
  | i + 1, hi, t, hb => by
    have hi' : i < o.length := by omega
    unfold handU at hb
    cases fwd with
    | true => simp at hb
    | false =>
      simp only [Bool.false_eq_true, if_false] at hb
      rw [clrU_succ h o i hi', clr_bit (clrU_range hh ho i) (ho _ (List.getElem_mem hi')), Bool.and_eq_true, Bool.not_eq_true', decide_eq_false_iff_not] at hb
      have ih := hand_sub (fwd := false) hh ho i (by omega) t (by unfold handU; simpa using hb.1)
      refine ⟨ih.1, fun j hj hji => ?_⟩
      rcases Nat.eq_or_lt_of_le (Nat.le_of_lt_succ hji) with rfl | h'
      · exact hb.2
      · exact ih.2 j hj h'
theorem fill_has {n : Int} {d : List Door} {ks : List Int} (hm : Okm n d ks) {x : Nat} (hx : x < 64) {o ch : List Int} (h : MakesP x o ch) (fwd : Bool) :
    ∀ i, i ≤ o.length → ∀ t : Nat, ((handU fwd (x : Int) o i).toNat.testBit t = true ∨ ∃ j, ∃ hj : j < o.length, j < i ∧ o[j] = t) →
      (lastH d (layK ks.length o (fillX ks.length d o ch (fun i => if fwd = true then 0 else clrU (x : Int) o (i + 1)) i)) 64 (handU fwd (x : Int) o i)).toNat.testBit t = true := by
  have hcols := h.cols hx
  have hh : 0 ≤ (x : Int) ∧ (x : Int) ≤ 63 := by omega
  have hFe : (fun i => if fwd = true then (0 : Int) else clrU (x : Int) o (i + 1)) = fun i => handU fwd (x : Int) o (i + 1) := rfl
  rw [hFe]
  generalize hF : (fun i => handU fwd (x : Int) o (i + 1)) = F
  have hFi : ∀ i, F i = handU fwd (x : Int) o (i + 1) := fun i => by rw [← hF]
  have hFr : ∀ i, 0 ≤ F i ∧ F i ≤ 63 := fun i => by rw [hFi]; exact handU_range hh hcols _
  have hfok := fill_fok hm hx h F hFr
  intro i
  induction i with
  | zero =>
    intro _ t ht
    rcases ht with ht | ⟨j, _, hj, _⟩
    · exact subB_iff.1 (lastH_sub (hm.lay (hfok 0 (by omega))) 64 (handU_range hh hcols 0)) t ht
    · omega
  | succ i ih =>
    intro hi t ht
    have hi' : i < o.length := by omega
    have hm0 := hm.lay (hfok i (by omega))
    have hm1 := hm.lay (hfok (i + 1) hi)
    have hr1 := handU_range (fwd := fwd) hh hcols (i + 1)
    have hc1 := lastH_closed hm1 hr1
    have hless : ∀ z t : Nat, ((layK ks.length o (fillX ks.length d o ch F i)).getD z 0).toNat.testBit t = true → ((layK ks.length o (fillX ks.length d o ch F (i + 1))).getD z 0).toNat.testBit t = true := fun z t hb => by
      rw [layK_bit (hfok i (by omega)), zip_fill (by omega)] at hb
      rw [layK_bit (hfok (i + 1) hi), zip_fill hi]
      obtain ⟨j, hj, hji, e1, e2⟩ := hb
      exact ⟨j, hj, by omega, e1, e2⟩
    have hc0 := closed_less hc1 hless
    have hsub1 := lastH_sub hm1 64 hr1
    have hrange1 := lastH_range hm1 64 hr1
    generalize hL : lastH d (layK ks.length o (fillX ks.length d o ch F (i + 1))) 64 (handU fwd (x : Int) o (i + 1)) = L at *
    -- the node that was taken
    have hz := fillAt_rch hm h F hi'
    have hzL : Rch d L 0 (fillN ks.length d o ch F i) := Rch.mono (lastH_least hm0 hc0 64 (hFr i) (by rw [hFi]; exact hsub1)) hz
    have hz0 : 0 ≤ fillN ks.length d o ch F i := (Rch.lt hm (by have := hm.lo; omega) hzL).1
    have hoi : ∀ t : Nat, o[i] = t → L.toNat.testBit t = true := fun t e => by
      refine subB_iff.1 (hc1 _ hzL) t ?_
      rw [layK_bit (hfok (i + 1) hi), zip_fill hi]
      exact ⟨i, hi', by omega, by omega, e⟩
    have hhand : ∀ t, (handU fwd (x : Int) o i).toNat.testBit t = true → L.toNat.testBit t = true := fun t hb => by
      rcases hand_step hh hcols hi' t hb with h1 | h1
      · exact subB_iff.1 hsub1 t h1
      · exact hoi t h1
    have hprev := lastH_least hm0 hc0 64 (handU_range (fwd := fwd) hh hcols i) (subB_iff.2 hhand)
    rcases ht with ht | ⟨j, hj, hji, e⟩
    · exact subB_iff.1 hsub1 t ht
    · rcases Nat.eq_or_lt_of_le (Nat.le_of_lt_succ hji) with rfl | h'
      · exact hoi t e
      · exact subB_iff.1 hprev t (ih (by omega) t (.inr ⟨j, hj, h', e⟩))
/-- at last all keys that were filled are had, and no others -/
theorem filled_last {n : Int} {d : List Door} {ks : List Int} (hm : Okm n d ks) {x : Nat} (hx : x < 64) {o ch : List Int} (h : MakesP x o ch) (fwd : Bool) (A : List Int)
    (hA : A = (upto x 12).map fun c => fillN ks.length d o ch (fun i => if fwd = true then 0 else clrU (x : Int) o (i + 1)) (o.idxOf c)) (hf : FillP n x A) : lastH d (layK ks.length (upto x 12) A) 64 0 = x := by
  have hcols := h.cols hx
  have hh : 0 ≤ (x : Int) ∧ (x : Int) ≤ 63 := by omega
  have hall := fill_has hm hx h fwd o.length (Nat.le_refl _)
  generalize hF : (fun i => if fwd = true then (0 : Int) else clrU (x : Int) o (i + 1)) = F at hall hA
  have hFr : ∀ i, 0 ≤ F i ∧ F i ≤ 63 := fun i => by
    rw [← hF]; simp only; split
    · omega
    · exact clrU_range hh hcols _
  have hfok := fill_fok hm hx h F hFr o.length (Nat.le_refl _)
  have hm0 := hm.lay hfok
  have hm1 := hm.lay (hf.fok hm hx)
  have hc1 := lastH_closed hm1 (h := 0) (by omega)
  have hr1 := lastH_range hm1 64 (h := 0) (by omega)
  have hnd := lt_nodup (upto_sorted x 12)
  have hnd2 : o.Nodup := h.1.nodup_iff.2 hnd
  have hand0 : handU fwd (x : Int) o o.length = 0 := by
    have hr := handU_range (fwd := fwd) hh hcols o.length
    have : (handU fwd (x : Int) o o.length).toNat = 0 := by
      apply Nat.eq_of_testBit_eq
      intro t
      rw [Nat.zero_testBit, ← Bool.not_eq_true]
      intro hb
      have h1 := hand_sub hh hcols o.length (Nat.le_refl _) t hb
      have hmem : (t : Int) ∈ o := h.1.mem_iff.2 ((upto_bit hx t).2 (by simpa using h1.1))
      obtain ⟨j, hj, e⟩ := List.getElem_of_mem hmem
      exact h1.2 j hj hj e
    omega
  rw [hand0] at hall
  have hless : ∀ z t : Nat, ((layK ks.length o (fillX ks.length d o ch F o.length)).getD z 0).toNat.testBit t = true → ((layK ks.length (upto x 12) A).getD z 0).toNat.testBit t = true := fun z t hb => by
    rw [layK_bit hfok, zip_fill (Nat.le_refl _)] at hb
    rw [layK_bit (hf.fok hm hx)]
    obtain ⟨j, hj, _, e1, e2⟩ := hb
    have hmem : o[j] ∈ upto x 12 := h.1.mem_iff.1 (List.getElem_mem hj)
    obtain ⟨i, hi, e3⟩ := List.getElem_of_mem hmem
    have hAl : i < (A.zip (upto x 12)).length := by rw [List.length_zip, hf.1]; omega
    refine ⟨_, List.getElem_mem hAl, ?_⟩
    rw [List.getElem_zip]
    refine ⟨?_, by simp only; rw [e3, e2]⟩
    subst hA
    simp only [List.getElem_map, e3, idxOf_at hnd2 hj, e1]
  have hsub := lastH_least hm0 (closed_less hc1 hless) 64 (h := 0) (by omega) (subB_iff.2 fun t ht => by simp at ht)
  have hle := lastH_least hm1 (H := (x : Int)) (fun z _ => lay_sub hm hx hf _) 64 (h := 0) (by omega) (subB_iff.2 fun t ht => by simp at ht)
  have : (lastH d (layK ks.length (upto x 12) A) 64 0).toNat = x := by
    apply Nat.eq_of_testBit_eq
    intro t
    rw [Bool.eq_iff_iff]
    constructor
    · intro hb; have := subB_iff.1 hle t hb; simpa using this
    · intro hb
      refine subB_iff.1 hsub t (hall t (.inr ?_))
      obtain ⟨j, hj, e⟩ := List.getElem_of_mem (h.1.mem_iff.2 ((upto_bit hx t).2 hb))
      exact ⟨j, hj, hj, e⟩
  omega
theorem bare_last {n : Int} {d : List Door} {ks : List Int} (hm : Okm n d (List.replicate ks.length 0)) {h : Int} (hh : 0 ≤ h ∧ h ≤ 63) : lastH d (List.replicate ks.length 0) 64 h = h := by
  have h1 := lastH_sub hm 64 hh
  have hr := lastH_range hm 64 hh
  have h2 := lastH_least hm (H := h) (fun z _ => subB_iff.2 fun t ht => by
    rw [List.getD_eq_getElem?_getD, List.getElem?_replicate] at ht
    split at ht <;> simp at ht) 64 hh (subB_refl _)
  have : (lastH d (List.replicate ks.length 0) 64 h).toNat = h.toNat := by
    apply Nat.eq_of_testBit_eq
    intro t
    rw [Bool.eq_iff_iff]
    exact ⟨subB_iff.1 h2 t, subB_iff.1 h1 t⟩
  omega
theorem filledP_fill {n : Int} {d : List Door} {ks : List Int} (hm : Okm n d ks) {x : Nat} (hx : x < 64) {o ch : List Int} (h : MakesP x o ch) (fwd : Bool) :
    FillP n x ((upto x 12).map fun c => fillN ks.length d o ch (fun i => if fwd = true then 0 else clrU (x : Int) o (i + 1)) (o.idxOf c)) := by
  refine ⟨by simp, fun z hz => ?_⟩
  obtain ⟨c, hc, rfl⟩ := List.mem_map.1 hz
  have hi : o.idxOf c < o.length := List.idxOf_lt_length_iff.2 (h.1.mem_iff.2 hc)
  have := Rch.lt hm (by have := hm.lo; omega) (fillAt_rch hm h (fun i => if fwd = true then 0 else clrU (x : Int) o (i + 1)) hi)
  omega
theorem laws_FnAssumed.pure (x : List By) (h : wfd x) : ∃ k, laws_FnAssumed.f k x = some true := by
  refine ⟨Big, ?_⟩
  have hk : Big ≤ Big := Nat.le_refl _
  unfold laws_FnAssumed.f laws_vBig.f
  rw [Option.bind_some]
  by_cases hb : (x.length : Int) > 65536
  · rw [if_pos (by simpa using hb)]
  rw [if_neg (by simpa using hb)]
  have hc := code_ok h (by omega)
  obtain ⟨⟨n, d, ks, y, o, ch⟩, e1, hM, hy, ho, hch⟩ := DrawAssumedFilling_ok (k := Big) hk hc
  obtain ⟨_, hd, hks⟩ := hM
  simp only at hd hks ho hch
  have q1 : impl_AssumedFilling.f Big n d ks y o ch = some (filledP n d ks y o ch false) := by
    unfold impl_AssumedFilling.f
    have := filled_eq hk n d ks y o ch false (by omega) (by omega) (by omega) (by omega)
    rw [if_neg (by decide)] at this
    rw [this]; rfl
  have q2 : spec_AssumedFilling.f Big n d ks y o ch = some (filledP n d ks y o ch false) := fill_both hk n d ks y o ch false (by omega) (by omega) (by omega) (by omega)
  have q3 : impl_ForwardFilling.f Big n d ks y o ch = some (filledP n d ks y o ch true) := by
    unfold impl_ForwardFilling.f
    have := filled_eq hk n d ks y o ch true (by omega) (by omega) (by omega) (by omega)
    rw [if_pos rfl] at this
    rw [this]; rfl
  have q4 : spec_ForwardFilling.f Big n d ks y o ch = some (filledP n d ks y o ch true) := fill_both hk n d ks y o ch true (by omega) (by omega) (by omega) (by omega)
  have l1 := filledP_len n d ks y o ch false
  have l2 := filledP_len n d ks y o ch true
  have q5 := vInts_eq hk (filledP n d ks y o ch false).1 (filledP n d ks y o ch false).1 (by omega)
  have q6 := vInts_eq hk (filledP n d ks y o ch true).1 (filledP n d ks y o ch true).1 (by omega)
  have hsame : (filledP n d ks y o ch false).2 = (filledP n d ks y o ch true).2 := by
    unfold filledP; split <;> rfl
  simp only [e1, q1, q2, q3, q4, q5, q6, hsame, Option.bind_some, bne_self_eq_false, Bool.false_eq_true, if_false, decide_true, Bool.not_true]
  by_cases hP : (IsMaze n d ks ∧ 0 ≤ y ∧ y ≤ 63) ∧ MakesP y.toNat o ch
  rotate_left 1
  · have : (filledP n d ks y o ch true).2 = false := by unfold filledP; rw [if_neg hP]
    rw [this]; rfl
  obtain ⟨hT, hMk⟩ := hP
  have hm := hT.1.okm
  have hx : y.toNat < 64 := by omega
  have ey : ((y.toNat : Nat) : Int) = y := by omega
  have hlen := hm.len
  have hlo := hm.lo
  have hhi := hm.hi
  have key : ∀ fwd : Bool, ∃ A, filledP n d ks y o ch fwd = (A, true) ∧ AskF n d ks y A ∧ lastH d (layK ks.length (upto y.toNat 12) A) 64 0 = y := fun fwd => by
    have hF := filledP_fill hm hx hMk fwd
    have hL := filled_last hm hx hMk fwd _ rfl hF
    rw [ey] at hF hL
    refine ⟨_, ?_, ⟨hT, hF⟩, hL⟩
    unfold filledP
    exact if_pos ⟨hT, hMk⟩
  obtain ⟨A, g1, g2, g3⟩ := key false
  obtain ⟨C, g4, g5, g6⟩ := key true
  rw [g1] at l1
  rw [g4] at l2
  simp only at l1 l2
  have hn : n.toNat = ks.length := by omega
  have hbare := isMaze_keys0 hT.1
  have q7 := CanWin_eq hk n d (List.replicate ks.length 0) y (by omega) (by rw [List.length_replicate]; omega)
  rw [if_pos ⟨hbare, hT.2⟩] at q7
  have q8 := (LayKeys_both hk n d ks y A (by omega) (by omega) (by omega)).1
  have q9 := (LayKeys_both hk n d ks y C (by omega) (by omega) (by omega)).1
  rw [if_pos g2] at q8
  rw [if_pos g5] at q9
  have hK1 := layK_ok g2.fok
  have hK2 := layK_ok g5.fok
  have q10 := GainAtLast_eq hk n d (layK ks.length (upto y.toNat 12) A) 0 (by omega) (by rw [hK1.1]; omega)
  have q11 := GainAtLast_eq hk n d (layK ks.length (upto y.toNat 12) C) 0 (by omega) (by rw [hK2.1]; omega)
  rw [if_pos ⟨hT.1.lay hK1, by omega, by omega⟩, g3] at q10
  rw [if_pos ⟨hT.1.lay hK2, by omega, by omega⟩, g6] at q11
  have q12 := FillingWins_eq hk n d ks y A (by omega) (by omega) (by omega)
  have q13 := FillingWins_eq hk n d ks y C (by omega) (by omega) (by omega)
  rw [if_pos g2] at q12
  rw [if_pos g5] at q13
  have hw : ∀ B, AskF n d ks y B → lastH d (layK ks.length (upto y.toNat 12) B) 64 0 = y → decide (depthP n d ks y.toNat B > 0) = winsB n d (List.replicate ks.length 0) y := fun B hB hL => by
    rw [Bool.eq_iff_iff, decide_eq_true_iff, depth_wins hB, winsB_iff (hm.lay hB.fok), winsB_iff hbare.okm, hL, bare_last hbare.okm hT.2]
  rw [hw A g2 g3] at q12
  rw [hw C g5 g6] at q13
  rw [g1, g4]
  simp only [Bool.not_true, Bool.false_eq_true, if_false]
  rw [if_pos ⟨by omega, by omega⟩, Option.bind_some]
  simp only [hn, q7, q8, q9, q10, q11, q12, q13, Option.bind_some, beq_self_eq_true, if_true]
end Go.Proofs

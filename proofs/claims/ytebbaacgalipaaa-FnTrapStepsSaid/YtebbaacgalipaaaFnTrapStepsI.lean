/- A part of the proof of FnTrapSteps: the plain law. No condition. -/
import Derived.Test.YtebbaacgalipaaaFnTrapStepsB
import Derived.Test.YtebbaacgalipaaaFnTrapStepsC
import Derived.Test.YtebbaacgalipaaaFnTrapStepsD
import Derived.Test.YtebbaacgalipaaaFnTrapStepsE
import Derived.Test.YtebbaacgalipaaaFnTrapStepsF
import Derived.Test.YtebbaacgalipaaaFnTrapStepsG
import Derived.Test.YtebbaacgalipaaaFnTrapStepsH
set_option linter.unusedSimpArgs false
namespace Go.Proofs
open Go Go.Ga Go.Ga.Wf
set_option linter.unusedVariables false
set_option linter.unusedSimpArgs false
section
variable {k : Nat}
theorem spread_l1 (hk : Big ≤ k) {n : Int} {d : List Door} {ks tr : List Int} (hm : IsMaze n d ks) (ht : tr.length ≤ 1048576) (a : Nat) (V : List Int) (hV : V.length = n.toNat * 64) (hW : WI (nxT n d ks tr) a (n.toNat * 64) V [a]) :
    ∃ o, spec_l11Spread.l1 k n d ks tr k V [(a : Int)] 0 = some o ∧ o.length = n.toNat * 64 ∧ WI (nxT n d ks tr) a (n.toNat * 64) o [] := by
  have om := hm.okm
  have hlo := om.lo
  have hhi := om.hi
  exact loop_good (l := fun q (s : List Int × List Nat × List Nat) => spec_l11Spread.l1 k n d ks tr q s.1 ((s.2.1 ++ s.2.2).map fun (j : Nat) => (j : Int)) (s.2.1.length : Int)) (fun s => s.1.length = n.toNat * 64 ∧ WI (nxT n d ks tr) a (n.toNat * 64) s.1 s.2.2 ∧ s.2.1.length + s.2.2.length ≤ cp s.1) (fun s => 2 * (768 - cp s.1) + s.2.2.length) (fun o => o.length = n.toNat * 64 ∧ WI (nxT n d ks tr) a (n.toNat * 64) o []) (fun q ⟨V, done, td⟩ hI => by
    obtain ⟨i1, i2, i3⟩ := hI
    simp only at i1 i2 i3
    simp only
    have hcl := cp_le V
    rw [spec_l11Spread.l1]
    cases td with
    | nil => right; exact ⟨V, by simp, i1, i2⟩
    | cons i rest =>
      left
      rw [List.length_cons] at i3
      have hti := i2.tin i (List.mem_cons_self ..)
      have hpop := i2.pop (by omega) (nxT_lt om tr i)
      have e2 := spread_l2 hk hm (tr := tr) a i hti.1 V i1 done rest i2 (by omega) (by omega)
      have e1 := l11Step_eq hk n d ks tr ((i / 64 : Nat) : Int) ((i % 64 : Nat) : Int) hm ht (by omega)
      rw [step_map, show appUpto (fun y => if anyT d tr ((i / 64 : Nat) : Int) (y : Int) ((i % 64 : Nat) : Int) d.length = true then [(y : Int)] else []) n.toNat = stepN d tr n ((i / 64 : Nat) : Int) ((i % 64 : Nat) : Int) from rfl] at e1
      generalize (nxT n d ks tr i).foldl (vis (V.getD i 0 + 1)) (V, []) = z at *
      have hcnt := hpop.2.cnt
      have hzl := hpop.2.len
      have hcz := cp_le z.1
      have hlt : decide ((done.length : Int) < (((done ++ i :: rest).map fun (j : Nat) => (j : Int)).length : Int)) = true := by
        rw [decide_eq_true_eq, List.length_map, List.length_append, List.length_cons]; omega
      have hr : rdl ((done ++ i :: rest).map fun (j : Nat) => (j : Int)) (done.length : Int) = some (i : Int) := by
        rw [rdl_nat, List.getElem?_map, List.getElem?_append_right (Nat.le_refl _)]; simp
      have hww : w64 ((done.length : Int) + 1) = (((done ++ [i]).length : Nat) : Int) := by rw [w64_id (by omega) (by omega), List.length_append]; rfl
      have hlist : ((done ++ i :: rest).map fun (j : Nat) => (j : Int)) ++ (z.2.map fun (j : Nat) => (j : Int)) = ((done ++ [i]) ++ (rest ++ z.2)).map fun (j : Nat) => (j : Int) := by
        rw [← List.map_append]; congr 1; simp
      refine ⟨(z.1, done ++ [i], rest ++ z.2), ?_, ⟨by simp only; omega, hpop.1, by simp only [List.length_append, List.length_singleton]; omega⟩, by simp only [List.length_append, List.length_cons]; omega⟩
      simp only [hlt, if_true, hr, Option.bind_some, quo64n i (by omega), rem64n, e1, e2, hww, hlist]) k (V, [], [a]) (by have := cp_le V; simp only [List.length_singleton]; unfold Big at hk; omega) ⟨hV, hW, by have := hW.tl; simpa using this⟩
theorem spread_eq (hk : Big ≤ k) {n : Int} {d : List Door} {ks tr : List Int} (hm : IsMaze n d ks) (ht : tr.length ≤ 1048576) (f : Int) (hf : 0 ≤ f ∧ f ≤ 63) :
  ∃ o, spec_l11Spread.f k n d ks tr f = some o ∧ o.length = n.toNat * 64 ∧ WI (nxT n d ks tr) (bor f (ks.getD 0 0)).toNat (n.toNat * 64) o [] := by
 have om := hm.okm
 have hlo := om.lo
 have hhi := om.hi
 have hlen := om.len
 have hen : w64 (n * 64) = n * 64 := w64_id (by omega) (by omega)
 have hbo := (bor_le63 hf (keys_getD om.keys 0)).1
 have e0 := loop_map (l := fun q (s : List Int) i => spec_l11Spread.l0 k q s i) (List.replicate (n.toNat * 64) (0 : Int)) (fun _ => (-1 : Int)) some (fun q i s hi h1 h2 => by
  have hlt : ((i : Int) < (s.length : Int)) := by omega
  rw [List.length_replicate] at hi
  have hw : w64 ((i : Int) + 1) = ((i + 1 : Nat) : Int) := w64_id (by omega) (by omega)
  show spec_l11Spread.l0 k (q + 1) s (i : Int) = _
  rw [spec_l11Spread.l0]
  simp only [hlt, decide_true, if_true, rdl_nat, h2, Option.bind_some, hw, Int.toNat_natCast]) (fun q s h1 => by
  show spec_l11Spread.l0 k (q + 1) s _ = _
  rw [spec_l11Spread.l0, h1]; simp) (k := k) (by rw [List.length_replicate]; unfold Big at hk; omega)
 have hml : ((List.replicate (n.toNat * 64) (0 : Int)).map fun _ => (-1 : Int)).length = n.toNat * 64 := by simp
 have hmg : ∀ t, t < ((List.replicate (n.toNat * 64) (0 : Int)).map fun _ => (-1 : Int)).length → ((List.replicate (n.toNat * 64) (0 : Int)).map fun _ => (-1 : Int)).getD t 0 = -1 := fun t h => by
  rw [List.getD_eq_getElem?_getD, List.getElem?_eq_getElem h]; simp
 generalize (List.replicate (n.toNat * 64) (0 : Int)).map (fun _ => (-1 : Int)) = V at *
 obtain ⟨b, hb⟩ := Int.eq_ofNat_of_zero_le hbo.1
 have hW : WI (nxT n d ks tr) b (n.toNat * 64) (V.set b 0) [b] := WI.init hmg (by omega) (by omega)
 obtain ⟨o, e1, e2, e3⟩ := spread_l1 hk hm ht b (V.set b 0) (by rw [List.length_set]; exact hml) hW
 have hr0 : rdl ks 0 = some (ks.getD 0 0) := rdl_getD (i := 0) (by omega) 0
 have hid := l4Id_eq (k := k) 0 (bor f (ks.getD 0 0)) (by omega) hbo
 rw [hb, Int.zero_mul, Int.zero_add] at hid
 have hr1 : rdl [(b : Int)] 0 = some (b : Int) := rfl
 have hr2 : rdl V (b : Int) = some (V.getD b 0) := rdl_getD (by omega) 0
 refine ⟨o, ?_, e2, by rw [hb, Int.toNat_natCast]; exact e3⟩
 unfold spec_l11Spread.f
 rw [hen, if_pos (by omega), show (n * 64).toNat = n.toNat * 64 by omega, e0]
 simp only [Option.bind_some, hr0, hb, hid, hr1, hr2, Int.toNat_natCast, e1]

def cntM (mt : Nat → Bool) (q : Nat) : Int := (((List.range q).filter mt).length : Int)
theorem cntM_succ (mt : Nat → Bool) (q : Nat) : cntM mt (q + 1) = cntM mt q + if mt q = true then 1 else 0 := by
 unfold cntM
 rw [List.range_succ, List.filter_append, List.length_append]
 by_cases h : mt q = true <;> simp [h]
theorem cntM_le (mt : Nat → Bool) (q : Nat) : 0 ≤ cntM mt q ∧ cntM mt q ≤ q := by
 unfold cntM
 have := List.length_filter_le mt (List.range q)
 rw [List.length_range] at this; omega
def lostF (mt gd : Nat → Bool) (i : Nat) : List (Int × Int) := if (mt i && !gd i) = true then [encT i] else []
def lostI (mt gd : Nat → Bool) (i : Nat) : List Int := if (mt i && !gd i) = true then [(i : Int)] else []
theorem lost_len (mt gd : Nat → Bool) : ∀ n, (appUpto (lostF mt gd) n).length = (appUpto (lostI mt gd) n).length ∧ (appUpto (lostI mt gd) n).length ≤ n
  | 0 => ⟨rfl, Nat.le_refl _⟩
  | n + 1 => by
    obtain ⟨h1, h2⟩ := lost_len mt gd n
    have e1 : (lostF mt gd n).length = (lostI mt gd n).length := by unfold lostF lostI; split <;> rfl
    have e2 : (lostI mt gd n).length ≤ 1 := by unfold lostI; split <;> simp
    rw [appUpto_succ, appUpto_succ, List.length_append, List.length_append, h1, e1]
    omega
theorem lostStates_l1 (hk : Big ≤ k) (E D : Arr 768) (mt gd : Nat → Bool) (m : Nat) (hmm : m ≤ 768) (hE : ∀ i, i < m → (0 ≤ E.l.getD i 0 ↔ mt i = true)) (hD : ∀ i, i < m → (0 ≤ D.l.getD i 0 ↔ gd i = true)) (x : Nat) (hx : x * 64 + 64 ≤ m) :
    impl_lostStates.l1 k E D (x : Int) k (appUpto (lostF mt gd) (x * 64)) (cntM mt (x * 64)) 0 = some (appUpto (lostF mt gd) (x * 64 + 64), cntM mt (x * 64 + 64)) := by
  have := loop_state (l := fun q (st : List (Int × Int) × Int) s => impl_lostStates.l1 k E D (x : Int) q st.1 st.2 s) (N := 64) (g := fun s st => (st.1 ++ lostF mt gd (x * 64 + s), st.2 + if mt (x * 64 + s) = true then 1 else 0)) (out := some) (fun s st => st = (appUpto (lostF mt gd) (x * 64 + s), cntM mt (x * 64 + s))) (fun q s st hs hI => by
    subst hI
    refine ⟨?_, by simp only; rw [← appUpto_succ, ← cntM_succ]; rfl⟩
    have hlt : ((s : Int) < 64) := by omega
    have hs0 : 0 ≤ (s : Int) := by omega
    have hw : w64 ((s : Int) + 1) = ((s + 1 : Nat) : Int) := w64_id (by omega) (by omega)
    have hg3 : 0 ≤ (x : Int) ∧ (x : Int) < 12 := by omega
    have ha1 : E.at ((x : Int) * 64 + (s : Int)) = E.l.getD (x * 64 + s) 0 := at_nat E (by omega)
    have ha2 : D.at ((x : Int) * 64 + (s : Int)) = D.l.getD (x * 64 + s) 0 := at_nat D (by omega)
    have h1 := hE (x * 64 + s) (by omega)
    have h2 := hD (x * 64 + s) (by omega)
    have hll := lost_len mt gd (x * 64 + s)
    have hcc := cntM_le mt (x * 64 + s)
    have hb2 : ∀ v : Int × Int, (appUpto (lostF mt gd) (x * 64 + s) ++ [v]).length < 1099511627776 := fun v => by rw [List.length_append, List.length_singleton]; omega
    have hwc : w64 (cntM mt (x * 64 + s) + 1) = cntM mt (x * 64 + s) + 1 := w64_id (by omega) (by omega)
    have henc : ((x : Int), (s : Int)) = encT (x * 64 + s) := by unfold encT; exact Prod.ext (by simp only; omega) (by simp only; omega)
    show impl_lostStates.l1 k E D (x : Int) (q + 1) _ _ (s : Int) = _
    rw [impl_lostStates.l1]
    simp only [hlt, hs0, and_self, decide_true, if_true, if_pos hg3, ha1, ha2, hw, if_pos (hb2 _), hwc, henc]
    unfold lostF
    cases hmt : mt (x * 64 + s) with
    | false =>
      have : E.l.getD (x * 64 + s) 0 < 0 := by rcases Int.lt_or_le (E.l.getD (x * 64 + s) 0) 0 with h | h; exact h; rw [h1.1 h] at hmt; cases hmt
      simp only [this, decide_true, if_true, Option.bind_some, Bool.false_and, Bool.false_eq_true, if_false, List.append_nil, Int.add_zero]
    | true =>
      have : ¬ E.l.getD (x * 64 + s) 0 < 0 := by have := h1.2 hmt; omega
      cases hgd : gd (x * 64 + s) with
      | false =>
        have h3 : D.l.getD (x * 64 + s) 0 < 0 := by rcases Int.lt_or_le (D.l.getD (x * 64 + s) 0) 0 with h | h; exact h; rw [h2.1 h] at hgd; cases hgd
        simp only [this, h3, decide_false, decide_true, if_true, Bool.false_eq_true, if_false, Option.bind_some, Bool.true_and, Bool.not_false]
      | true =>
        have h3 : ¬ D.l.getD (x * 64 + s) 0 < 0 := by have := h2.2 hgd; omega
        simp only [this, h3, decide_false, if_true, Bool.false_eq_true, if_false, Option.bind_some, Bool.true_and, Bool.not_true, List.append_nil]) (fun q st hI => by
    show impl_lostStates.l1 k E D (x : Int) (q + 1) st.1 st.2 ((64 : Nat) : Int) = _
    rw [impl_lostStates.l1]; simp) (k := k) (by unfold Big at hk; omega) (s := (appUpto (lostF mt gd) (x * 64), cntM mt (x * 64))) rfl
  rw [this.1, this.2]
theorem lostStates_l0 (hk : Big ≤ k) (n : Int) (hn : 1 ≤ n ∧ n ≤ 12) (E D : Arr 768) (mt gd : Nat → Bool) (hE : ∀ i, i < n.toNat * 64 → (0 ≤ E.l.getD i 0 ↔ mt i = true)) (hD : ∀ i, i < n.toNat * 64 → (0 ≤ D.l.getD i 0 ↔ gd i = true)) :
  impl_lostStates.l0 k n E D k [] 0 0 = some (appUpto (lostF mt gd) (n.toNat * 64), cntM mt (n.toNat * 64)) := by
 have := loop_state (l := fun q (st : List (Int × Int) × Int) x => impl_lostStates.l0 k n E D q st.1 st.2 x) (N := n.toNat) (g := fun x _ => (appUpto (lostF mt gd) ((x + 1) * 64), cntM mt ((x + 1) * 64))) (out := some) (fun x st => st = (appUpto (lostF mt gd) (x * 64), cntM mt (x * 64))) (fun q x st hx hI => by
  subst hI
  refine ⟨?_, rfl⟩
  have hlt : ((x : Int) < n) := by omega
  have hw : w64 ((x : Int) + 1) = ((x + 1 : Nat) : Int) := w64_id (by omega) (by omega)
  have e1 := lostStates_l1 hk E D mt gd (n.toNat * 64) (by omega) hE hD x (by omega)
  show impl_lostStates.l0 k n E D (q + 1) _ _ (x : Int) = _
  rw [impl_lostStates.l0]
  simp only [hlt, decide_true, if_true, e1, Option.bind_some, hw]
  rw [Nat.succ_mul]) (fun q st hI => by
  show impl_lostStates.l0 k n E D (q + 1) st.1 st.2 ((n.toNat : Nat) : Int) = _
  rw [impl_lostStates.l0, if_neg (by simp; omega)]) (k := k) (by unfold Big at hk; omega) (s := ([], 0)) (by simp [appUpto, cntM])
 rw [this.1, this.2]
theorem l11Lost_l0 (hk : Big ≤ k) (o : List Bool) (V : List Int) (mt gd : Nat → Bool) (m : Nat) (hm : m ≤ 768) (ho : o.length = m) (hV : V.length = m) (hE : ∀ i, i < m → (0 ≤ V.getD i 0 ↔ mt i = true)) (hD : ∀ i, i < m → o.getD i false = gd i) :
    spec_l11Lost.l0 k o V k [] 0 = some (appUpto (lostI mt gd) m) := by
  exact loop_app (l := fun q s i => spec_l11Lost.l0 k o V q s i) m (lostI mt gd) (some (appUpto (lostI mt gd) m)) (fun q i hi => by
    have hlt : ((i : Int) < (V.length : Int)) := by omega
    have hw : w64 ((i : Int) + 1) = ((i + 1 : Nat) : Int) := w64_id (by omega) (by omega)
    have h5 : rdl V (i : Int) = some (V.getD i 0) := rdl_getD (by omega) _
    have h6 : rdl o (i : Int) = some (gd i) := by rw [rdl_getD (by omega) false, hD i hi]
    have h1 := hE i hi
    have hll := (lost_len mt gd i).2
    have hb2 : ∀ v : Int, (appUpto (lostI mt gd) i ++ [v]).length < 1099511627776 := fun v => by rw [List.length_append, List.length_singleton]; omega
    show spec_l11Lost.l0 k o V (q + 1) _ (i : Int) = _
    rw [spec_l11Lost.l0]
    simp only [hlt, decide_true, if_true, h5, h6, Option.bind_some, hw, if_pos (hb2 _)]
    generalize appUpto (lostI mt gd) i = S at *
    unfold lostI
    cases hmt : mt i with
    | false =>
      have : ¬ V.getD i 0 ≥ 0 := fun h => by rw [h1.1 h] at hmt; cases hmt
      simp only [this, decide_false, Bool.false_eq_true, if_false, Option.bind_some, Bool.false_and, List.append_nil]
    | true =>
      have : V.getD i 0 ≥ 0 := h1.2 hmt
      cases gd i <;> simp only [this, decide_true, if_true, Option.bind_some, Bool.not_true, Bool.not_false, Bool.false_eq_true, if_false, Bool.true_and, Bool.and_true, Bool.and_false, List.append_nil]) (fun q => by
    show spec_l11Lost.l0 k o V (q + 1) _ (m : Int) = _
    rw [spec_l11Lost.l0, hV]; simp) (k := k) (by unfold Big at hk; omega)
open Classical in
noncomputable def metB (n : Int) (d : List Door) (ks tr : List Int) (i : Nat) : Bool := decide (Rc (nxT n d ks tr) (ks.getD 0 0).toNat i)
open Classical in
noncomputable def godB (n : Int) (d : List Door) (ks tr : List Int) (i : Nat) : Bool := decide (∃ v, Pth (nxT n d ks tr) (goalT n) i v)
theorem metB_iff {n : Int} {d : List Door} {ks tr : List Int} {i : Nat} : metB n d ks tr i = true ↔ Rc (nxT n d ks tr) (ks.getD 0 0).toNat i := by unfold metB; simp
theorem godB_iff {n : Int} {d : List Door} {ks tr : List Int} {i : Nat} : godB n d ks tr i = true ↔ ∃ v, Pth (nxT n d ks tr) (goalT n) i v := by unfold godB; simp
theorem bor_zero {a : Int} (ha : 0 ≤ a ∧ a ≤ 63) : bor a 0 = a := by
 obtain ⟨x, rfl⟩ := Int.eq_ofNat_of_zero_le ha.1
 have e : bor (x : Int) ((0 : Nat) : Int) = ((x ||| 0 : Nat) : Int) := bor_nat (by omega) (by omega)
 rw [show (0 : Int) = ((0 : Nat) : Int) from rfl, e, Nat.or_zero]
theorem lost_both (hk : Big ≤ k) {n : Int} {d : List Door} {ks tr : List Int} (hm : IsMaze n d ks) (ht : tr.length ≤ 1048576) :
  impl_lostStates.f k n d ks tr 0 = some (appUpto (lostF (metB n d ks tr) (godB n d ks tr)) (n.toNat * 64), cntM (metB n d ks tr) (n.toNat * 64)) ∧
  ∃ o V, spec_l11Good.f k n d ks tr = some o ∧ spec_l11Spread.f k n d ks tr 0 = some V ∧ spec_l11Lost.f k n d ks tr o 0 = some (appUpto (lostI (metB n d ks tr) (godB n d ks tr)) (n.toNat * 64)) ∧ V.length = n.toNat * 64 ∧ ∀ i, i < n.toNat * 64 → (0 ≤ V.getD i 0 ↔ metB n d ks tr i = true) := by
 have om := hm.okm
 have hlo := om.lo
 have hhi := om.hi
 have hlen := om.len
 have hk0 := keys_getD om.keys 0
 have hr0 : rdl ks 0 = some (ks.getD 0 0) := rdl_getD (i := 0) (by omega) 0
 have hb0 := bor_zero hk0
 obtain ⟨D, g1, g2, g3⟩ := toTrapGoal_eq hk hm ht
 obtain ⟨o, g4, g5, g6⟩ := l11Good_eq hk hm ht
 obtain ⟨E, f1, f2⟩ := trapFrom_eq hk hm ht (ks.getD 0 0) hk0
 obtain ⟨V, f3, f4, f5⟩ := spread_eq hk hm ht 0 (by omega)
 rw [bor_comm, hb0] at f5
 have ha : (ks.getD 0 0).toNat < n.toNat * 64 := by omega
 have hE : ∀ i, i < n.toNat * 64 → (0 ≤ E.l.getD i 0 ↔ metB n d ks tr i = true) := fun i hi => by
  rw [metB_iff]
  exact met_iff f2 (by rw [E.len]; omega) ha (fun i _ => nxT_lt om tr i) hi
 have hV : ∀ i, i < n.toNat * 64 → (0 ≤ V.getD i 0 ↔ metB n d ks tr i = true) := fun i hi => by
  rw [metB_iff]
  exact met_iff f5 (by omega) ha (fun i _ => nxT_lt om tr i) hi
 have hD : ∀ i, i < n.toNat * 64 → (0 ≤ D.l.getD i 0 ↔ godB n d ks tr i = true) := fun i hi => by
  rw [godB_iff]
  exact dist_iff om g2 g3 hi
 have hO : ∀ i, i < n.toNat * 64 → o.getD i false = godB n d ks tr i := fun i hi => by
  rw [Bool.eq_iff_iff, g6 i hi, godB_iff]
 refine ⟨?_, o, V, g4, f3, ?_, f4, hV⟩
 ·unfold impl_lostStates.f
  simp only [hr0, Option.bind_some, hb0, f1, g1, lostStates_l0 hk n ⟨hlo, hhi⟩ E D (metB n d ks tr) (godB n d ks tr) hE hD]
 ·unfold spec_l11Lost.f
  rw [f3, Option.bind_some, l11Lost_l0 hk o V (metB n d ks tr) (godB n d ks tr) (n.toNat * 64) (by omega) g5 f4 hV hO]; rfl
end

section
variable {k : Nat}
end

inductive Rp (nx : Nat → List Nat) (a : Nat) : Nat → Nat → Prop
  | here : Rp nx a a 0
  | step {i j v : Nat} : Rp nx a i v → j ∈ nx i → Rp nx a j (v + 1)
structure BI (nx : Nat → List Nat) (a m : Nat) (V : List Int) (td : List Nat) : Prop where
 z : V.getD a 0 = 0
 rp : ∀ t, 0 ≤ V.getD t 0 → t < V.length → Rp nx a t (V.getD t 0).toNat
 sort : td.Pairwise (fun x y => V.getD x 0 ≤ V.getD y 0)
 top : ∀ i rest, td = i :: rest → ∀ t, V.getD t 0 ≤ V.getD i 0 + 1
 cl : ∀ t, t < m → 0 ≤ V.getD t 0 → t ∈ td ∨ ∀ j ∈ nx t, 0 ≤ V.getD j 0 ∧ V.getD j 0 ≤ V.getD t 0 + 1

section
variable {k : Nat}
end

structure Bf (nx : Nat → List Nat) (a : Nat) (V B : List Int) : Prop where
 len : B.length = V.length
 neg : ∀ t, t < V.length → (B.getD t 0 < 0 ↔ V.getD t 0 < 0)
 at0 : B.getD a 0 = a
 pre : ∀ t, t < V.length → t ≠ a → 0 ≤ V.getD t 0 → ∃ u : Nat, u < V.length ∧ B.getD t 0 = u ∧ 0 ≤ V.getD u 0 ∧ V.getD t 0 = V.getD u 0 + 1
def visF (c v : Int) (q : (List Int × List Int) × List Nat) (j : Nat) : (List Int × List Int) × List Nat := if q.1.1.getD j 0 < 0 then ((q.1.1.set j v, q.1.2.set j c), q.2 ++ [j]) else q

section
variable {k : Nat}
end

section
variable {k : Nat}
end

section
variable {k : Nat}
end

section
variable {k : Nat}
open Classical in
noncomputable def metF (n : Int) (d : List Door) (ks tr : List Int) (f : Int) (i : Nat) : Bool := decide (Rc (nxT n d ks tr) (bor (ks.getD 0 0) f).toNat i)
theorem metF_iff {n : Int} {d : List Door} {ks tr : List Int} {f : Int} {i : Nat} : metF n d ks tr f i = true ↔ Rc (nxT n d ks tr) (bor (ks.getD 0 0) f).toNat i := by unfold metF; simp
theorem lost_implF (hk : Big ≤ k) {n : Int} {d : List Door} {ks tr : List Int} (hm : IsMaze n d ks) (ht : tr.length ≤ 1048576) (f : Int) (hf : 0 ≤ f ∧ f ≤ 63) :
  impl_lostStates.f k n d ks tr f = some (appUpto (lostF (metF n d ks tr f) (godB n d ks tr)) (n.toNat * 64), cntM (metF n d ks tr f) (n.toNat * 64)) := by
 have om := hm.okm
 have hlo := om.lo
 have hhi := om.hi
 have hlen := om.len
 have hk0 := keys_getD om.keys 0
 have hr0 : rdl ks 0 = some (ks.getD 0 0) := rdl_getD (i := 0) (by omega) 0
 have hbo := (bor_le63 hk0 hf).1
 obtain ⟨D, g1, g2, g3⟩ := toTrapGoal_eq hk hm ht
 obtain ⟨E, f1, f2⟩ := trapFrom_eq hk hm ht (bor (ks.getD 0 0) f) hbo
 have ha : (bor (ks.getD 0 0) f).toNat < n.toNat * 64 := by omega
 have hE : ∀ i, i < n.toNat * 64 → (0 ≤ E.l.getD i 0 ↔ metF n d ks tr f i = true) := fun i hi => by
  rw [metF_iff]
  exact met_iff f2 (by rw [E.len]; omega) ha (fun i _ => nxT_lt om tr i) hi
 have hD : ∀ i, i < n.toNat * 64 → (0 ≤ D.l.getD i 0 ↔ godB n d ks tr i = true) := fun i hi => by
  rw [godB_iff]
  exact dist_iff om g2 g3 hi
 unfold impl_lostStates.f
 simp only [hr0, Option.bind_some, f1, g1, lostStates_l0 hk n ⟨hlo, hhi⟩ E D (metF n d ks tr f) (godB n d ks tr) hE hD]
theorem lost_specF (hk : Big ≤ k) {n : Int} {d : List Door} {ks tr : List Int} (hm : IsMaze n d ks) (ht : tr.length ≤ 1048576) (o : List Bool) (ho : o.length = n.toNat * 64) (hog : ∀ i, i < n.toNat * 64 → o.getD i false = godB n d ks tr i) (f : Int) (hf : 0 ≤ f ∧ f ≤ 63) :
  spec_l11Lost.f k n d ks tr o f = some (appUpto (lostI (metF n d ks tr f) (godB n d ks tr)) (n.toNat * 64)) := by
 have om := hm.okm
 have hlo := om.lo
 have hhi := om.hi
 have hlen := om.len
 have hk0 := keys_getD om.keys 0
 have hbo := (bor_le63 hk0 hf).1
 have ha : (bor (ks.getD 0 0) f).toNat < n.toNat * 64 := by omega
 obtain ⟨V, f3, f4, f5⟩ := spread_eq hk hm ht f hf
 rw [bor_comm] at f5
 have hV : ∀ i, i < n.toNat * 64 → (0 ≤ V.getD i 0 ↔ metF n d ks tr f i = true) := fun i hi => by
  rw [metF_iff]
  exact met_iff f5 (by omega) ha (fun i _ => nxT_lt om tr i) hi
 unfold spec_l11Lost.f
 rw [f3, Option.bind_some, l11Lost_l0 hk o V (metF n d ks tr f) (godB n d ks tr) (n.toNat * 64) (by omega) ho f4 hV hog]; rfl
theorem app_bool_length (p : Nat → Bool) : ∀ i, (appUpto (fun i => if p i = true then [(i : Int)] else []) i).length ≤ i
  | 0 => by simp [appUpto]
  | i + 1 => by
    have := app_bool_length p i
    rw [appUpto_succ, List.length_append]
    split
    · rw [List.length_singleton]; omega
    · rw [List.length_nil]; omega
theorem those_eq (hk : Big ≤ k) (f : Int → Option Bool) (p : Nat → Bool) (hf : ∀ i : Nat, i < 64 → f (i : Int) = some (p i)) : impl_those.f k f = some (appUpto (fun i => if p i = true then [(i : Int)] else []) 64) := by
  unfold impl_those.f
  have h := loop_app (l := fun q s i => impl_those.l0 k f q s i) 64 (fun i => if p i = true then [(i : Int)] else []) (some (appUpto (fun i => if p i = true then [(i : Int)] else []) 64)) (fun q i hi => by
    have hlt : ((i : Int) < 64) := by omega
    have hw : w64 ((i : Int) + 1) = ((i + 1 : Nat) : Int) := w64_id (by omega) (by omega)
    have hle := app_bool_length p i
    generalize appUpto (fun i => if p i = true then [(i : Int)] else []) i = S at *
    have hb : (S ++ [(i : Int)]).length < 1099511627776 := by rw [List.length_append, List.length_singleton]; omega
    show impl_those.l0 k f (q + 1) S (i : Int) = _
    rw [impl_those.l0]
    simp only [hlt, decide_true, if_true, hf i hi, Option.bind_some, hw]
    cases p i with
    | true => simp only [if_true, if_pos hb, Option.bind_some]
    | false => simp only [Bool.false_eq_true, if_false, Option.bind_some, List.append_nil]) (fun q => by
    show impl_those.l0 k f (q + 1) _ ((64 : Nat) : Int) = _
    rw [impl_those.l0]; simp) (k := k) (by unfold Big at hk; omega)
  rw [h]; rfl
noncomputable def freeB (n : Int) (d : List Door) (ks tr : List Int) (i : Nat) : Bool := ((appUpto (lostI (metF n d ks tr (i : Int)) (godB n d ks tr)) (n.toNat * 64)).length : Int) == 0
theorem TrapFreeSets_both (hk : Big ≤ k) (n : Int) (d : List Door) (ks tr : List Int) (hd : d.length ≤ 1048576) (hks : ks.length ≤ 1048576) (ht : tr.length ≤ 1048576) :
    ∃ r : List Int × Bool, impl_TrapFreeSets.f k n d ks tr = some r ∧ spec_TrapFreeSets.f k n d ks tr = some r ∧ r.1.length ≤ 64 := by
  unfold impl_TrapFreeSets.f spec_TrapFreeSets.f
  rw [IsTrap_eq hk n d ks tr hd hks ht, l11Trap_eq hk n d ks tr hd hks ht]
  by_cases hT : IsTrapP n d ks tr
  rotate_left 1
  · rw [decide_eq_false hT]; exact ⟨([], false), rfl, rfl, by simp⟩
  have hm := hT.1
  obtain ⟨o, g4, g5, g6⟩ := l11Good_eq hk hm ht
  have hO : ∀ i, i < n.toNat * 64 → o.getD i false = godB n d ks tr i := fun i hi => by
    rw [Bool.eq_iff_iff, g6 i hi, godB_iff]
  have e1 := those_eq hk (fun z0 => impl_TrapFreeSets_1.f k z0 n d ks tr) (freeB n d ks tr) (fun i hi => by
    unfold impl_TrapFreeSets_1.f freeB
    rw [lost_implF hk hm ht (i : Int) (by omega), Option.bind_some]
    simp only [(lost_len (metF n d ks tr (i : Int)) (godB n d ks tr) (n.toNat * 64)).1])
  have e2 := loop_app (l := fun q s i => spec_TrapFreeSets.l0 k n d ks tr o q s i) 64 (fun i => if freeB n d ks tr i = true then [(i : Int)] else []) (some (appUpto (fun i => if freeB n d ks tr i = true then [(i : Int)] else []) 64)) (fun q i hi => by
    have hlt : ((i : Int) < 64) := by omega
    have hw : w64 ((i : Int) + 1) = ((i + 1 : Nat) : Int) := w64_id (by omega) (by omega)
    have hle := app_bool_length (freeB n d ks tr) i
    have hls := lost_specF hk hm ht o g5 hO (i : Int) (by omega)
    have hfb : (((appUpto (lostI (metF n d ks tr (i : Int)) (godB n d ks tr)) (n.toNat * 64)).length : Int) == 0) = freeB n d ks tr i := rfl
    generalize appUpto (fun i => if freeB n d ks tr i = true then [(i : Int)] else []) i = S at *
    have hb : (S ++ [(i : Int)]).length < 1099511627776 := by rw [List.length_append, List.length_singleton]; omega
    show spec_TrapFreeSets.l0 k n d ks tr o (q + 1) S (i : Int) = _
    rw [spec_TrapFreeSets.l0]
    simp only [hlt, decide_true, if_true, hls, Option.bind_some, hw, hfb]
    cases freeB n d ks tr i with
    | true => simp only [if_true, if_pos hb, Option.bind_some]
    | false => simp only [Bool.false_eq_true, if_false, Option.bind_some, List.append_nil]) (fun q => by
    show spec_TrapFreeSets.l0 k n d ks tr o (q + 1) _ ((64 : Nat) : Int) = _
    rw [spec_TrapFreeSets.l0]; simp) (k := k) (by unfold Big at hk; omega)
  rw [decide_eq_true hT]
  simp only [Option.bind_some, Bool.not_true, Bool.false_eq_true, if_false, e1, g4, e2]
  exact ⟨_, rfl, rfl, app_bool_length _ 64⟩
end

def lx : List Nat → List Nat → Prop
  | x :: xs, y :: ys => x < y ∨ (x = y ∧ lx xs ys)
  | _, _ => False
theorem lx_snoc : ∀ (p : List Nat) {x y : Nat}, x < y → lx (p ++ [x]) (p ++ [y])
  | [], x, y, h => .inl h
  | z :: p, x, y, h => .inr ⟨rfl, lx_snoc p h⟩
def klt (p q : List Nat) : Prop := p.length < q.length ∨ (p.length = q.length ∧ lx p q)
def kle (p q : List Nat) : Prop := p = q ∨ klt p q
inductive Sp (nx : Nat → List Nat) (a : Nat) : List Nat → Nat → Prop
  | nil : Sp nx a [] a
  | snoc {p : List Nat} {u j : Nat} : Sp nx a p u → j ∈ nx u → Sp nx a (p ++ [j]) j
theorem Sp.cons {nx : Nat → List Nat} {a b : Nat} (hb : b ∈ nx a) {p : List Nat} {t : Nat} (h : Sp nx b p t) : Sp nx a (b :: p) t := by
  induction h with
  | nil => exact .snoc (p := []) .nil hb
  | snoc _ hj ih => rw [← List.cons_append]; exact .snoc ih hj
structure OD (nx : Nat → List Nat) (a m : Nat) (V B : List Int) (done td : List Nat) (pf : Nat → List Nat) : Prop where
 a0 : pf a = []
 vis : ∀ t, t < m → (0 ≤ V.getD t 0 ↔ t ∈ done ++ td)
 lt : ∀ t ∈ done ++ td, t < m
 sp : ∀ t ∈ done ++ td, Sp nx a (pf t) t
 len : ∀ t ∈ done ++ td, ((pf t).length : Int) = V.getD t 0
 par : ∀ t ∈ done ++ td, t ≠ a → ∃ u : Nat, u ∈ done ∧ B.getD t 0 = u ∧ pf t = pf u ++ [t]
 sort : (done ++ td).Pairwise (fun u v => klt (pf u) (pf v))
 cl : ∀ u ∈ done, ∀ j ∈ nx u, j ∈ done ++ td ∧ kle (pf j) (pf u ++ [j])
structure OF (nx : Nat → List Nat) (a m i : Nat) (done rest : List Nat) (q : (List Int × List Int) × List Nat) (pf0 pf : Nat → List Nat) (pre : List Nat) : Prop where
 lenV : q.1.2.length = q.1.1.length
 hm : m ≤ q.1.1.length
 keep : ∀ t ∈ done ++ i :: rest, pf t = pf0 t
 vis : ∀ t, t < m → (0 ≤ q.1.1.getD t 0 ↔ t ∈ (done ++ i :: rest) ++ q.2)
 lt : ∀ t ∈ (done ++ i :: rest) ++ q.2, t < m
 sp : ∀ t ∈ (done ++ i :: rest) ++ q.2, Sp nx a (pf t) t
 len : ∀ t ∈ (done ++ i :: rest) ++ q.2, ((pf t).length : Int) = q.1.1.getD t 0
 par : ∀ t ∈ (done ++ i :: rest) ++ q.2, t ≠ a → ∃ u : Nat, u ∈ done ++ [i] ∧ q.1.2.getD t 0 = u ∧ pf t = pf u ++ [t]
 sort : ((done ++ i :: rest) ++ q.2).Pairwise (fun u v => klt (pf u) (pf v))
 new : ∀ u ∈ q.2, pf u = pf i ++ [u]
 bl : ∀ u ∈ done ++ i :: rest, ∀ j, klt (pf u) (pf i ++ [j])
 cl : ∀ j ∈ pre, j ∈ (done ++ i :: rest) ++ q.2 ∧ kle (pf j) (pf i ++ [j])
theorem OF.step {nx : Nat → List Nat} {a m i : Nat} {done rest : List Nat} {q : (List Int × List Int) × List Nat} {pf0 pf : Nat → List Nat} {pre : List Nat} (h : OF nx a m i done rest q pf0 pf pre) (ha : a ∈ done ++ i :: rest) {j : Nat} (hj : j < m) (hji : j ∈ nx i) (hlt : ∀ u ∈ q.2, u < j) {v : Int} (hv : v = q.1.1.getD i 0 + 1) :
  ∃ pf', OF nx a m i done rest (visF (i : Int) v q j) pf0 pf' (pre ++ [j]) := by
 have him : i ∈ done ++ i :: rest := List.mem_append_right _ (List.mem_cons_self ..)
 have hil := h.len i (List.mem_append_left _ him)
 have hlV := h.lenV
 have hmV := h.hm
 unfold visF
 by_cases hn : q.1.1.getD j 0 < 0
 rotate_left 1
 ·rw [if_neg hn]
  refine ⟨pf, h.lenV, h.hm, h.keep, h.vis, h.lt, h.sp, h.len, h.par, h.sort, h.new, h.bl, fun t ht => ?_⟩
  rcases List.mem_append.1 ht with ht | ht
  ·exact h.cl t ht
  ·rw [List.mem_singleton.1 ht]
   have hjm := (h.vis j hj).1 (by omega)
   refine ⟨hjm, ?_⟩
   rcases List.mem_append.1 hjm with h1 | h1
   ·exact .inr (h.bl j h1 j)
   ·exact .inl (h.new j h1)
 ·rw [if_pos hn]
  have hnm : j ∉ (done ++ i :: rest) ++ q.2 := fun hh => by have := (h.vis j hj).2 hh; omega
  have hne : ∀ t ∈ (done ++ i :: rest) ++ q.2, t ≠ j := fun t ht e => hnm (e ▸ ht)
  have hij : i ≠ j := hne i (List.mem_append_left _ him)
  refine ⟨fun t => if t = j then pf i ++ [j] else pf t, ?_⟩
  have hpk : ∀ t, t ≠ j → (if t = j then pf i ++ [j] else pf t) = pf t := fun t ht => if_neg ht
  have hmem : ∀ t, t ∈ (done ++ i :: rest) ++ (q.2 ++ [j]) ↔ (t ∈ (done ++ i :: rest) ++ q.2 ∨ t = j) := fun t => by
   rw [← List.append_assoc, List.mem_append (t := [j]), List.mem_singleton]
  have hold : ∀ t ∈ (done ++ i :: rest) ++ q.2, (q.1.1.set j v).getD t 0 = q.1.1.getD t 0 ∧ (q.1.2.set j (i : Int)).getD t 0 = q.1.2.getD t 0 := fun t ht => by
   rw [getD_set, getD_set, if_neg (fun hh => hne t ht hh.1.symm), if_neg (fun hh => hne t ht hh.1.symm)]; exact ⟨rfl, rfl⟩
  refine ⟨by rw [List.length_set, List.length_set]; exact h.lenV, by rw [List.length_set]; exact h.hm, fun t ht => ?_, fun t ht => ?_, fun t ht => ?_, fun t ht => ?_, fun t ht => ?_, fun t ht hta => ?_, ?_, fun u hu => ?_, fun u hu j' => ?_, fun t ht => ?_⟩
  ·rw [hpk t (hne t (List.mem_append_left _ ht))]; exact h.keep t ht
  ·(try simp only); rw [hmem, getD_set]
   by_cases htj : j = t
   ·rw [if_pos ⟨htj, by omega⟩, hv]
    exact ⟨fun _ => .inr htj.symm, fun _ => by omega⟩
   ·rw [if_neg (fun hh => htj hh.1), h.vis t ht]
    exact ⟨.inl, fun hh => by rcases hh with hh | hh; exact hh; exact (htj hh.symm).elim⟩
  ·rcases (hmem t).1 ht with h1 | h1
   ·exact h.lt t h1
   ·rw [h1]; exact hj
  ·(try simp only)
   rcases (hmem t).1 ht with h1 | h1
   ·rw [hpk t (hne t h1)]; exact h.sp t h1
   ·rw [if_pos h1, h1]; exact .snoc (h.sp i (List.mem_append_left _ him)) hji
  ·(try simp only)
   rcases (hmem t).1 ht with h1 | h1
   ·rw [hpk t (hne t h1), (hold t h1).1]; exact h.len t h1
   ·rw [if_pos h1, h1, getD_set, if_pos ⟨rfl, by omega⟩, List.length_append, List.length_singleton, hv]; omega
  ·(try simp only)
   rcases (hmem t).1 ht with h1 | h1
   ·obtain ⟨u, h2, h3, h4⟩ := h.par t h1 hta
    have hub : u ∈ (done ++ i :: rest) ++ q.2 := List.mem_append_left _ (by
     rcases List.mem_append.1 h2 with h2 | h2
     ·exact List.mem_append_left _ h2
     ·rw [List.mem_singleton.1 h2]; exact him)
    exact ⟨u, h2, by rw [(hold t h1).2]; exact h3, by rw [hpk t (hne t h1), hpk u (hne u hub)]; exact h4⟩
   ·refine ⟨i, List.mem_append_right _ (List.mem_singleton.2 rfl), ?_, ?_⟩
    ·rw [h1, getD_set, if_pos ⟨rfl, by omega⟩]
    ·rw [if_pos h1, hpk i hij, h1]
  ·(try simp only)
   rw [← List.append_assoc, List.pairwise_append]
   refine ⟨h.sort.imp_of_mem fun {x y} hx hy hxy => by rw [hpk x (hne x hx), hpk y (hne y hy)]; exact hxy, List.pairwise_singleton _ _, fun x hx y hy => ?_⟩
   rw [List.mem_singleton.1 hy, if_pos rfl, hpk x (hne x hx)]
   rcases List.mem_append.1 hx with h1 | h1
   ·exact h.bl x h1 j
   ·rw [h.new x h1]
    exact .inr ⟨by simp, lx_snoc _ (hlt x h1)⟩
  ·simp only at hu ⊢
   rw [hpk i hij]
   rcases List.mem_append.1 hu with h1 | h1
   ·rw [hpk u (hne u (List.mem_append_right _ h1))]; exact h.new u h1
   ·rw [List.mem_singleton.1 h1, if_pos rfl]
  ·(try simp only)
   rw [hpk i hij, hpk u (hne u (List.mem_append_left _ hu))]; exact h.bl u hu j'
  ·(try simp only)
   rw [hpk i hij, hmem]
   rcases List.mem_append.1 ht with h1 | h1
   ·have h2 := h.cl t h1
    rw [hpk t (hne t h2.1)]; exact ⟨.inl h2.1, h2.2⟩
   ·rw [List.mem_singleton.1 h1, if_pos rfl]; exact ⟨.inr rfl, .inl rfl⟩

section
variable {k : Nat}
end

theorem sub_perm : ∀ (a l : List Int), a.Nodup → (∀ x ∈ a, x ∈ l) → ∃ r, l.Perm (a ++ r)
  | [], l, _, _ => ⟨l, .refl _⟩
  | x :: a, l, hn, h => by
    have hx := List.nodup_cons.1 hn
    have h1 := List.perm_cons_erase (h x (List.mem_cons_self ..))
    obtain ⟨r, hr⟩ := sub_perm a (l.erase x) hx.2 (fun y hy => (List.mem_erase_of_ne (fun e => hx.1 (by rw [← e]; exact hy))).2 (h y (List.mem_cons_of_mem _ hy)))
    exact ⟨r, h1.trans (hr.cons x)⟩
theorem lt_nodup {l : List Int} (h : l.Pairwise (· < ·)) : l.Nodup := h.imp fun h => by omega
theorem perm_iff {l a : List Int} (ha : a.Pairwise (· < ·)) : l.Perm a ↔ l.length = a.length ∧ ∀ x ∈ a, x ∈ l := by
 constructor
 ·intro h; exact ⟨h.length_eq, fun x hx => h.mem_iff.2 hx⟩
 ·rintro ⟨h1, h2⟩
  obtain ⟨r, hr⟩ := sub_perm a l (lt_nodup ha) h2
  have := hr.length_eq
  rw [List.length_append] at this
  have : r = [] := List.length_eq_zero_iff.1 (by omega)
  rw [this, List.append_nil] at hr; exact hr
section
variable {k : Nat}
end

theorem dlt_irr (x : Door) : ¬ DoorLt x x := by unfold DoorLt; omega
theorem dlt_trans (x y z : Door) (h : DoorLt x y) (k : DoorLt y z) : DoorLt x z := by unfold DoorLt at *; omega
theorem dlt_tri (x y : Door) : DoorLt x y ∨ x = y ∨ DoorLt y x := by
 obtain ⟨a, b, c⟩ := x
 obtain ⟨a', b', c'⟩ := y
 unfold DoorLt
 simp only [Prod.mk.injEq]
 omega
def insD (e : Door) : List Door → List Door
  | [] => [e]
  | x :: l => if DoorLt x e then x :: insD e l else e :: x :: l
theorem mem_insD (e : Door) : ∀ (l : List Door) (z : Door), z ∈ insD e l ↔ z = e ∨ z ∈ l
  | [], z => by simp [insD]
  | x :: l, z => by
    unfold insD
    split
    · rw [List.mem_cons, mem_insD e l z, List.mem_cons]; exact ⟨fun h => by rcases h with h | h | h; exact .inr (.inl h); exact .inl h; exact .inr (.inr h), fun h => by rcases h with h | h | h; exact .inr (.inl h); exact .inl h; exact .inr (.inr h)⟩
    · rw [List.mem_cons]
theorem insD_sorted (e : Door) : ∀ (l : List Door), l.Pairwise DoorLt → e ∉ l → (insD e l).Pairwise DoorLt
  | [], _, _ => List.pairwise_singleton _ _
  | x :: l, h, hn => by
    have h' := List.pairwise_cons.1 h
    have hn' : x ≠ e ∧ e ∉ l := ⟨fun h => hn (h ▸ List.mem_cons_self ..), fun h => hn (List.mem_cons_of_mem _ h)⟩
    unfold insD
    split
    · rename_i hlt
      refine List.pairwise_cons.2 ⟨fun z hz => ?_, insD_sorted e l h'.2 hn'.2⟩
      rcases (mem_insD e l z).1 hz with rfl | hz
      · exact hlt
      · exact h'.1 z hz
    · rename_i hlt
      have hex : DoorLt e x := by
        rcases dlt_tri x e with h1 | h1 | h1
        · exact absurd h1 hlt
        · exact absurd h1 hn'.1
        · exact h1
      refine List.pairwise_cons.2 ⟨fun z hz => ?_, h⟩
      rcases List.mem_cons.1 hz with rfl | hz
      · exact hex
      · exact dlt_trans _ _ _ hex (h'.1 z hz)
theorem insD_length (e : Door) : ∀ (l : List Door), (insD e l).length = l.length + 1
  | [] => rfl
  | x :: l => by unfold insD; split <;> simp [insD_length e l]
theorem insD_split (e : Door) : ∀ (l : List Door) (j : Nat), j ≤ l.length → (∀ i (h : i < l.length), i < j → DoorLt l[i] e) → (∀ (h : j < l.length), ¬ DoorLt l[j] e) → insD e l = l.take j ++ e :: l.drop j
  | [], j, hj, _, _ => by have : j = 0 := by simpa using hj
                          subst this; rfl
  | x :: l, 0, _, _, h => by
    have := h (by simp)
    simp only [List.getElem_cons_zero] at this
    simp [insD, this]
  | x :: l, j + 1, hj, h1, h2 => by
    have := h1 0 (by simp) (by omega)
    simp only [List.getElem_cons_zero] at this
    simp only [insD, if_pos this, List.take_succ_cons, List.drop_succ_cons, List.cons_append]
    congr 1
    exact insD_split e l j (by simpa using hj) (fun i hi hij => by have := h1 (i + 1) (by simpa using hi) (by omega); simpa using this) (fun hi => by have := h2 (by simpa using hi); simpa using this)

section
variable {k : Nat}
end

section
variable {k : Nat}
def doorE (A B C : Int) : Door := (imin A B, imax A B, C)

theorem l2Put_eq (hk : Big ≤ k) (d : List Door) (A B C : Int) (hd : d.length ≤ 1000) (hs : d.Pairwise DoorLt) : spec_l2Put.f k d A B C = some (if doorE A B C ∈ d then d else insD (doorE A B C) d) := by
 unfold spec_l2Put.f spec_l1Least.f spec_l1Most.f
 have e1 : (if decide (A < B) = true then some A else some B) = some (imin A B) := by
  unfold imin; by_cases c : A < B
  ·rw [if_pos (by simpa using c), if_neg (by omega)]
  ·rw [if_neg (by simpa using c)]; split
   ·rfl
   ·congr 1; omega
 have e2 : (if decide (A > B) = true then some A else some B) = some (imax A B) := by
  unfold imax; by_cases c : A > B
  ·rw [if_pos (by simpa using c), if_neg (by omega)]
  ·rw [if_neg (by simpa using c)]; split
   ·rfl
   ·congr 1; omega
 rw [e1, e2, Option.bind_some, Option.bind_some]
 have key := loop_good (l := fun m (s : Nat) => spec_l2Put.l0 k d C (imin A B) (imax A B) m (s : Int)) (Inv := fun i => i ≤ d.length ∧ ∀ j (hj : j < d.length), j < i → DoorLt d[j] (doorE A B C)) (mu := fun i => d.length - i)
  (fun r => ∃ i : Nat, r = (i : Int) ∧ i ≤ d.length ∧ (∀ j (hj : j < d.length), j < i → DoorLt d[j] (doorE A B C)) ∧ ∀ (h : i < d.length), ¬ DoorLt d[i] (doorE A B C)) (fun m i hI => by
  try simp only at hI
  obtain ⟨hI1, hI2⟩ := hI
  by_cases hi : i < d.length
  ·have h1 : ((i : Int) < (d.length : Int)) := by omega
   have hw : w64 ((i : Int) + 1) = ((i + 1 : Nat) : Int) := w64_id (by omega) (by omega)
   have hb : spec_l2Before.f k d[i].1 d[i].2.1 d[i].2.2 (imin A B) (imax A B) C = some (decide (DoorLt d[i] (doorE A B C))) := before_eq hk d[i] (doorE A B C)
   by_cases c : DoorLt d[i] (doorE A B C)
   ·left
    refine ⟨i + 1, ?_, ⟨by omega, fun j hj hji => ?_⟩, by (try simp only); omega⟩
    ·simp only [spec_l2Put.l0, h1, decide_true, if_true, rdl_lt hi, Option.bind_some, hb, c, hw]
    ·rcases Nat.lt_or_ge j i with h | h
     ·exact hI2 j hj h
     ·have : j = i := by omega
      subst this; exact c
   ·right
    refine ⟨(i : Int), ?_, i, rfl, hI1, hI2, fun _ => c⟩
    simp only [spec_l2Put.l0, h1, decide_true, if_true, rdl_lt hi, Option.bind_some, hb, c, decide_false, Bool.false_eq_true, if_false]
  ·right
   refine ⟨(i : Int), ?_, i, rfl, hI1, hI2, fun h => absurd h hi⟩
   have : ¬ ((i : Int) < (d.length : Int)) := by omega
   simp only [spec_l2Put.l0, this, decide_false, Bool.false_eq_true, if_false, Option.bind_some]) k 0 (by (try simp only); unfold Big at hk; omega) ⟨by omega, fun j _ h => absurd h (by omega)⟩
 obtain ⟨r, g1, i, rfl, g3, g4, g5⟩ := key
 rw [show spec_l2Put.l0 k d C (imin A B) (imax A B) k 0 = some (i : Int) from g1, Option.bind_some]
 by_cases hi : i < d.length
 ·have h1 : ((i : Int) < (d.length : Int)) := by omega
  simp only [h1, decide_true, if_true, rdl_lt hi, Option.bind_some]
  have hiff : (d[i].1, d[i].2.1, d[i].2.2) = (imin A B, imax A B, C) ↔ doorE A B C ∈ d := by
   constructor
   ·intro h
    have : doorE A B C = d[i] := h.symm
    rw [this]; exact List.getElem_mem hi
   ·intro h
    obtain ⟨j, hj, he⟩ := List.getElem_of_mem h
    have hp := List.pairwise_iff_getElem.1 hs
    have : j = i := by
     rcases Nat.lt_trichotomy j i with h | h | h
     ·have := g4 j hj h; rw [he] at this; exact absurd this (dlt_irr _)
     ·exact h
     ·have := hp i j hi hj h; rw [he] at this; exact absurd this (g5 hi)
    subst this; exact he
  by_cases c : doorE A B C ∈ d
  ·rw [if_pos (by simpa using hiff.2 c), if_pos c]
  ·rw [if_neg (by simpa using fun h => c (hiff.1 h)), if_neg c]
   rw [slc_pre d i (by omega), Option.bind_some, slc_suf d i (by omega), Option.bind_some, if_pos (by simp; omega), if_pos (by simp; omega), if_pos (by simp; omega), Option.bind_some, insD_split _ d i g3 g4 g5]
   congr 1; simp [doorE]
 ·have h1 : ¬ ((i : Int) < (d.length : Int)) := by omega
  have c : doorE A B C ∉ d := fun h => by
   obtain ⟨j, hj, he⟩ := List.getElem_of_mem h
   have := g4 j hj (by omega); rw [he] at this; exact absurd this (dlt_irr _)
  simp only [h1, decide_false, Bool.false_eq_true, if_false, Option.bind_some]
  rw [if_neg c, slc_pre d i (by omega), Option.bind_some, slc_suf d i (by omega), Option.bind_some, if_pos (by simp; omega), if_pos (by simp; omega), if_pos (by simp; omega), Option.bind_some, insD_split _ d i g3 g4 g5]
  congr 1; simp [doorE]
end

theorem shl1_le {c : Int} (h : 0 ≤ c ∧ c ≤ 5) : 0 ≤ shl 1 c ∧ shl 1 c ≤ 63 := by
 obtain ⟨t, rfl⟩ := Int.eq_ofNat_of_zero_le h.1
 rw [shl_one (by omega)]
 have : 2 ^ t ≤ 2 ^ 5 := Nat.pow_le_pow_right (by omega) (by omega)
 generalize 2 ^ t = v at *
 omega
def layF (s : List Int) (p : Int × Int) : List Int := s.set p.1.toNat (bor (s.getD p.1.toNat 0) (shl 1 p.2))
def layK (n : Nat) (cs fs : List Int) : List Int := (fs.zip cs).foldl layF (List.replicate n 0)
def KOk (n : Nat) (s : List Int) : Prop := s.length = n ∧ ∀ x ∈ s, 0 ≤ x ∧ x ≤ 63
theorem KOk.zero (n : Nat) : KOk n (List.replicate n 0) := ⟨by simp, fun x hx => by rw [List.eq_of_mem_replicate hx]; omega⟩
theorem KOk.lay {n : Nat} {s : List Int} (h : KOk n s) {p : Int × Int} (h2 : 0 ≤ p.2 ∧ p.2 ≤ 5) : KOk n (layF s p) := by
 refine ⟨by unfold layF; rw [List.length_set]; exact h.1, fun x hx => ?_⟩
 unfold layF at hx
 rcases List.mem_or_eq_of_mem_set hx with hx | rfl
 ·exact h.2 x hx
 ·exact (bor_le63 (keys_getD h.2 _) (shl1_le h2)).1
theorem KOk.lays {n : Nat} : ∀ (l : List (Int × Int)) {s : List Int}, KOk n s → (∀ p ∈ l, 0 ≤ p.2 ∧ p.2 ≤ 5) → KOk n (l.foldl layF s)
  | [], s, h, _ => h
  | p :: l, s, h, hp => KOk.lays l (h.lay (hp p (List.mem_cons_self ..))) fun q hq => hp q (List.mem_cons_of_mem _ hq)
structure FOk (n : Nat) (cs fs : List Int) : Prop where
 nodes : ∀ x ∈ fs, 0 ≤ x ∧ x < n
 cols : ∀ c ∈ cs, 0 ≤ c ∧ c ≤ 5
 few : fs.length ≤ cs.length
 lim : cs.length ≤ 1000
theorem zip_cols {n : Nat} {cs fs : List Int} (h : FOk n cs fs) : ∀ p ∈ fs.zip cs, 0 ≤ p.2 ∧ p.2 ≤ 5 := fun p hp => h.cols _ (List.of_mem_zip (a := p.1) (b := p.2) hp).2
theorem layK_ok {n : Nat} {cs fs : List Int} (h : FOk n cs fs) : KOk n (layK n cs fs) := KOk.lays _ (KOk.zero n) (zip_cols h)
theorem Okm.lay {n : Int} {d : List Door} {ks cs fs : List Int} (hm : Okm n d ks) (h : FOk ks.length cs fs) : Okm n d (layK ks.length cs fs) :=
 ⟨hm.lo, hm.hi, hm.few, by rw [(layK_ok h).1]; exact hm.len, hm.doors, (layK_ok h).2⟩
section
variable {k : Nat}
theorem l9Lay_l1 (hk : Big ≤ k) {n : Nat} {cs fs : List Int} (h : FOk n cs fs) {s : List Int} (hs : KOk n s) : spec_l9Lay.l1 k cs fs k 0 s = some ((fs.zip cs).foldl layF s) := by
 have hlim := h.lim
 have hfew := h.few
 have hzl : (fs.zip cs).length = fs.length := by rw [List.length_zip]; omega
 refine (loop_fold (l := fun q s i => spec_l9Lay.l1 k cs fs q i s) (fs.zip cs) layF some (KOk n) (fun q i s hi hs => ?_) (fun q s _ => ?_) (by unfold Big at hk; omega) hs).1
 ·have hi1 : i < fs.length := by omega
  have hi2 : i < cs.length := by omega
  have hz : (fs.zip cs)[i] = (fs[i], cs[i]) := List.getElem_zip
  have hlt : ((i : Int) < (fs.length : Int)) := by omega
  have hw : w64 ((i : Int) + 1) = ((i + 1 : Nat) : Int) := w64_id (by omega) (by omega)
  have hx := h.nodes _ (List.getElem_mem hi1)
  have hc := h.cols _ (List.getElem_mem hi2)
  have hr : rdl s fs[i] = some (s.getD fs[i].toNat 0) := rdl_getDI hx.1 (by rw [hs.1]; omega) 0
  have hn : ¬ cs[i] < 0 := by omega
  refine ⟨?_, by rw [hz]; exact hs.lay hc⟩
  show spec_l9Lay.l1 k cs fs (q + 1) (i : Int) s = _
  rw [spec_l9Lay.l1]
  simp only [hlt, decide_true, if_true, rdl_lt hi1, rdl_lt hi2, Option.bind_some, hr, hw, hn, not_false_eq_true, hz]
  rfl
 ·show spec_l9Lay.l1 k cs fs (q + 1) ((fs.zip cs).length : Int) s = _
  rw [spec_l9Lay.l1, hzl]; simp
theorem l9Lay_eq (hk : Big ≤ k) (n : Int) (d : List Door) (ks : List Int) {cs fs : List Int} (h : FOk ks.length cs fs) (hn : (ks.length : Int) = n) (hd : d.length ≤ 1048576) (hl : ks.length ≤ 1048576) : spec_l9Lay.f k n d ks cs fs = some (n, d, layK ks.length cs fs) := by
 unfold spec_l9Lay.f
 simp only [l2Own_eq n d ks hd hl, Option.bind_some]
 rw [loop_map (l := fun q s i => spec_l9Lay.l0 k n q i s) ks (fun _ => 0) some (fun q i s hi h1 h2 => by
  have hlt : ((i : Int) < n) := by omega
  have hw : w64 ((i : Int) + 1) = ((i + 1 : Nat) : Int) := w64_id (by omega) (by omega)
  show spec_l9Lay.l0 k n (q + 1) (i : Int) s = _
  rw [spec_l9Lay.l0]
  simp only [hlt, decide_true, if_true, rdl_nat, h2, Option.bind_some, hw, Int.toNat_natCast]) (fun q s h1 => by
  show spec_l9Lay.l0 k n (q + 1) (ks.length : Int) s = _
  rw [spec_l9Lay.l0]; simp [hn]) (by unfold Big at hk; omega), Option.bind_some]
 rw [show ks.map (fun _ => (0 : Int)) = List.replicate ks.length 0 from List.map_const' .., l9Lay_l1 hk h (KOk.zero ks.length)]
 rfl

theorem colours_eq (hk : Big ≤ k) (x : Nat) (hx : x < 64) : spec_l2Colours.f k (x : Int) = some (upto x 12) := by
  unfold spec_l2Colours.f
  have := loop_res (l := fun q (s : List Int × Nat) => spec_l2Colours.l0 k (x : Int) q s.1 (s.2 : Int)) (fun s => s.1 = upto x s.2 ∧ s.2 ≤ 6) (fun s => 6 - s.2) (fun _ => upto x 6) (fun q ⟨l, c⟩ hI => by
    obtain ⟨h1, h2⟩ := hI
    simp only at h1 h2
    simp only
    subst h1
    have n1 : ¬ (c : Int) < 0 := by omega
    have hw : w64 ((c : Int) + 1) = ((c + 1 : Nat) : Int) := w64_id (by omega) (by omega)
    rw [spec_l2Colours.l0]
    by_cases hc : c < 6
    · left
      have hlt : (c : Int) < 6 := by omega
      have hb : (band (shr (x : Int) (c : Int)) 1 == 1) = x.testBit c := bit1_nat (by omega) (by omega)
      refine ⟨(upto x (c + 1), c + 1), ?_, trivial, ⟨rfl, hc⟩, by simp only; omega⟩
      simp only [hlt, decide_true, if_true, n1, not_false_eq_true, hb, hw]
      rw [upto_succ]
      have hlen := upto_length x c
      cases x.testBit c with
      | false => simp
      | true => rw [if_pos rfl, if_pos rfl, if_pos (by simp; omega)]; rfl
    · right
      have : c = 6 := by omega
      subst this; simp) k ([], 0) (by simp only; unfold Big at hk; omega) ⟨rfl, by simp⟩
  simp only at this
  rw [show ((0 : Nat) : Int) = 0 from rfl] at this
  rw [this, Option.bind_some, upto_more (n := 6) (n' := 12) hx (by omega)]
theorem upto_cols {x : Nat} (hx : x < 64) : ∀ c ∈ upto x 12, 0 ≤ c ∧ c ≤ 5 := fun c hc => by
 rw [upto_more (n := 6) hx (by omega)] at hc
 obtain ⟨t, h1, _, rfl⟩ := mem_upto.1 hc
 omega
theorem upto_len6 {x : Nat} (hx : x < 64) : (upto x 12).length ≤ 6 := by rw [upto_more (n := 6) hx (by omega)]; exact upto_length _ _

def FillP (n : Int) (x : Nat) (fs : List Int) : Prop := fs.length = (upto x 12).length ∧ ∀ z ∈ fs, 0 ≤ z ∧ z ≤ n - 1
instance (n : Int) (x : Nat) (fs : List Int) : Decidable (FillP n x fs) := by unfold FillP; infer_instance

theorem place_eq (hk : Big ≤ k) (l : List Int) (hl : l.length ≤ 1048576) (x : Int) (hx : x ∈ l) : spec_l9Place.f k l x = some ((l.idxOf x : Nat) : Int) := by
 unfold spec_l9Place.f
 have hlt : l.idxOf x < l.length := List.idxOf_lt_length_iff.2 hx
 have := loop_res (l := fun q (i : Nat) => spec_l9Place.l0 k l x q (i : Int)) (fun i => i ≤ l.idxOf x) (fun i => l.length - i) (fun _ => ((l.idxOf x : Nat) : Int)) (fun q i hI => by
  have hi : i < l.length := by omega
  have hw : w64 ((i : Int) + 1) = ((i + 1 : Nat) : Int) := w64_id (by omega) (by omega)
  simp only
  rw [spec_l9Place.l0, rdl_lt hi, Option.bind_some]
  by_cases c : l[i] = x
  ·right
   have e : l.idxOf x = i := by
    rcases Nat.eq_or_lt_of_le hI with h | h
    ·exact h.symm
    ·exact absurd c (by have := List.not_of_lt_findIdx (p := (· == x)) (xs := l) (i := i) h; simpa using this)
   rw [e]; simp [c]
  ·left
   refine ⟨i + 1, by simp [c, hw], trivial, ?_, by omega⟩
   rcases Nat.eq_or_lt_of_le hI with h | h
   ·exfalso; apply c
    have := List.getElem_idxOf hlt
    simp only [← h] at this; exact this
   ·exact h) k 0 (by unfold Big at hk; omega) (by omega)
 rw [show ((0 : Nat) : Int) = 0 from rfl] at this
 rw [this]; rfl
theorem getD_at {l : List Int} {i : Nat} (hi : i < l.length) : l.getD i 0 = l[i] := by rw [List.getD_eq_getElem?_getD, List.getElem?_eq_getElem hi]; rfl
end

def orB (l : List Int) : Nat := l.foldl (fun s c => s ||| 2 ^ c.toNat) 0
theorem orB_test (t : Nat) : ∀ (l : List Int) (s : Nat), (l.foldl (fun s c => s ||| 2 ^ c.toNat) s).testBit t = (s.testBit t || l.any fun c => decide (c.toNat = t))
  | [], s => by simp
  | c :: l, s => by
    rw [List.foldl_cons, orB_test t l, Nat.testBit_or, Nat.testBit_two_pow, List.any_cons, Bool.or_assoc]
theorem orB_mem {l : List Int} (hl : ∀ c ∈ l, 0 ≤ c ∧ c ≤ 5) (t : Nat) : (orB l).testBit t = true ↔ (t : Int) ∈ l := by
 unfold orB
 rw [orB_test, Nat.zero_testBit, Bool.false_or, List.any_eq_true]
 constructor
 ·rintro ⟨c, hc, h⟩
  have h1 := of_decide_eq_true h
  have h2 := hl c hc
  have : c = (t : Int) := by omega
  rw [← this]; exact hc
 ·intro h; exact ⟨_, h, by simp⟩
theorem order_iff {x : Nat} (hx : x < 64) (l : List Int) : l.Perm (upto x 12) ↔ (∀ c ∈ l, 0 ≤ c ∧ c ≤ 5) ∧ l.length = (upto x 12).length ∧ orB l = x := by
 constructor
 ·intro h
  have hc : ∀ c ∈ l, 0 ≤ c ∧ c ≤ 5 := fun c hc => upto_cols hx c (h.mem_iff.1 hc)
  refine ⟨hc, h.length_eq, Nat.eq_of_testBit_eq fun t => ?_⟩
  rw [Bool.eq_iff_iff, orB_mem hc, h.mem_iff, upto_more (n := 6) (n' := 12) hx (by omega), mem_upto]
  constructor
  ·rintro ⟨u, _, h2, h3⟩
   have : u = t := by omega
   rw [← this]; exact h2
  ·intro h
   refine ⟨t, ?_, h, rfl⟩
   rcases Nat.lt_or_ge t 6 with h1 | h1
   ·exact h1
   ·have := Nat.testBit_lt_two_pow (x := x) (i := t) (Nat.lt_of_lt_of_le hx (pow2_le (a := 6) h1))
    rw [this] at h; cases h
 ·rintro ⟨h1, h2, h3⟩
  refine (perm_iff (upto_sorted x 12)).2 ⟨h2, fun c hc => ?_⟩
  obtain ⟨t, _, h4, rfl⟩ := mem_upto.1 hc
  exact (orB_mem h1 t).1 (by rw [h3]; exact h4)
def clrU (s : Int) (o : List Int) (i : Nat) : Int := (o.take i).foldl (fun h c => bclr h (shl 1 c)) s
theorem clrU_succ (s : Int) (o : List Int) (i : Nat) (hi : i < o.length) : clrU s o (i + 1) = bclr (clrU s o i) (shl 1 o[i]) := by
 unfold clrU; rw [List.take_succ_eq_append_getElem hi, List.foldl_append]; rfl
theorem clrU_range {s : Int} (hs : 0 ≤ s ∧ s ≤ 63) {o : List Int} (ho : ∀ c ∈ o, 0 ≤ c ∧ c ≤ 5) (i : Nat) : 0 ≤ clrU s o i ∧ clrU s o i ≤ 63 := by
  unfold clrU
  have : ∀ (l : List Int) {s : Int}, 0 ≤ s ∧ s ≤ 63 → (∀ c ∈ l, 0 ≤ c ∧ c ≤ 5) → 0 ≤ l.foldl (fun h c => bclr h (shl 1 c)) s ∧ l.foldl (fun h c => bclr h (shl 1 c)) s ≤ 63 := by
    intro l
    induction l with
    | nil => intro s h _; exact h
    | cons c l ih =>
      intro s h hc
      exact ih (bclr_63 h (shl1_le (hc c (List.mem_cons_self ..))).1) fun z hz => hc z (List.mem_cons_of_mem _ hz)
  exact this _ hs fun c hc => ho c (List.mem_of_mem_take hc)
def pickN (free : List Int) (c : Int) : Int := free.getD (rem c (free.length : Int)).toNat 0
theorem pick_rem {free : List Int} {c : Int} (hf : 0 < free.length) (hc : 0 ≤ c) : 0 ≤ rem c (free.length : Int) ∧ (rem c (free.length : Int)).toNat < free.length := by
 unfold rem
 rw [Int.tmod_eq_emod_of_nonneg hc]
 have h1 := Int.emod_nonneg c (b := (free.length : Int)) (by omega)
 have h2 := Int.emod_lt_of_pos c (b := (free.length : Int)) (by omega)
 omega
theorem pick_mem {free : List Int} {c : Int} (hf : 0 < free.length) (hc : 0 ≤ c) : pickN free c ∈ free := by
 have := pick_rem hf hc
 unfold pickN
 rw [getD_at this.2]; exact List.getElem_mem _
noncomputable def fillAt (n : Nat) (d : List Door) (o ch : List Int) (F : Nat → Int) (X : List Int) (i : Nat) : Int := pickN (nodesL d 0 (lastH d (layK n o X) 64 (F i))) (ch.getD i 0)
noncomputable def fillX (n : Nat) (d : List Door) (o ch : List Int) (F : Nat → Int) : Nat → List Int
  | 0 => []
  | i + 1 => fillX n d o ch F i ++ [fillAt n d o ch F (fillX n d o ch F i) i]
noncomputable def fillN (n : Nat) (d : List Door) (o ch : List Int) (F : Nat → Int) (i : Nat) : Int := fillAt n d o ch F (fillX n d o ch F i) i
theorem fillX_map (n : Nat) (d : List Door) (o ch : List Int) (F : Nat → Int) : ∀ i, fillX n d o ch F i = (List.range i).map (fillN n d o ch F)
  | 0 => rfl
  | i + 1 => by rw [List.range_succ, List.map_append, ← fillX_map n d o ch F i]; rfl
theorem fillX_len (n : Nat) (d : List Door) (o ch : List Int) (F : Nat → Int) (i : Nat) : (fillX n d o ch F i).length = i := by rw [fillX_map]; simp
theorem node0 {n : Int} {d : List Door} {ks : List Int} (hm : Okm n d ks) (h : Int) : 0 < (nodesL d 0 h).length := by
 have : (0 : Int) ∈ nodesL d 0 h := (mem_nodesL hm.small (by omega)).2 .here
 exact List.length_pos_of_mem this
section
variable {k : Nat}
def MakesP (x : Nat) (o ch : List Int) : Prop := o.Perm (upto x 12) ∧ (∀ c ∈ ch, 0 ≤ c) ∧ ch.length = o.length
instance (x : Nat) (o ch : List Int) : Decidable (MakesP x o ch) := by unfold MakesP; infer_instance
theorem MakesP.cols {x : Nat} (hx : x < 64) {o ch : List Int} (h : MakesP x o ch) : ∀ c ∈ o, 0 ≤ c ∧ c ≤ 5 := ((order_iff hx o).1 h.1).1
theorem fill_fok {n : Int} {d : List Door} {ks : List Int} (hm : Okm n d ks) {x : Nat} (hx : x < 64) {o ch : List Int} (h : MakesP x o ch) (F : Nat → Int) (hF : ∀ i, 0 ≤ F i ∧ F i ≤ 63) :
    ∀ i, i ≤ o.length → FOk ks.length o (fillX ks.length d o ch F i)
  | 0, _ => ⟨fun x hx => (List.not_mem_nil hx).elim, h.cols hx, by simp [fillX], by have := h.1.length_eq; have := upto_len6 hx; omega⟩
  | i + 1, hi => by
    have ih := fill_fok hm hx h F hF i (by omega)
    have hlo := hm.lo
    have hlen := hm.len
    have hm' := hm.lay ih
    refine ⟨fun z hz => ?_, ih.cols, by rw [fillX_len]; exact hi, ih.lim⟩
    unfold fillX at hz
    rcases List.mem_append.1 hz with hz | hz
    · exact ih.nodes z hz
    · rw [List.mem_singleton.1 hz]
      have hch : 0 ≤ ch.getD i 0 := by rw [getD_at (by have := h.2.2; omega)]; exact h.2.1 _ (List.getElem_mem _)
      have := nodesL_lt hm' (show 0 ≤ (0 : Int) ∧ (0 : Int) < n by omega) (pick_mem (node0 hm' (lastH d (layK ks.length o (fillX ks.length d o ch F i)) 64 (F i))) hch)
      unfold fillAt; omega
theorem fill_spec_l0 (hk : Big ≤ k) {n : Int} {d : List Door} {ks : List Int} (hm : IsMaze n d ks) {x : Nat} (hx : x < 64) {o ch : List Int} (h : MakesP x o ch) (fwd : Bool) :
  spec_l9Fill.l0 k n d ks o ch fwd k (x : Int) [] 0 = some (fillX ks.length d o ch (fun i => if fwd = true then 0 else clrU (x : Int) o (i + 1)) o.length) := by
 have hb := hm.okm
 have hcols := h.cols hx
 have hks : ks.length ≤ 12 := by have := hb.len; have := hb.hi; omega
 have ho6 : o.length ≤ 6 := by have := h.1.length_eq; have := upto_len6 hx; omega
 have hF : ∀ i, 0 ≤ (if fwd = true then 0 else clrU (x : Int) o (i + 1)) ∧ (if fwd = true then 0 else clrU (x : Int) o (i + 1)) ≤ 63 := fun i => by
  split
  ·omega
  ·exact clrU_range (by omega) hcols _
 generalize hFe : (fun i => if fwd = true then (0 : Int) else clrU (x : Int) o (i + 1)) = F
 have hFi : ∀ i, F i = if fwd = true then 0 else clrU (x : Int) o (i + 1) := fun i => by rw [← hFe]
 have hF' : ∀ i, 0 ≤ F i ∧ F i ≤ 63 := fun i => by rw [hFi]; exact hF i
 have := loop_res (l := fun q (i : Nat) => spec_l9Fill.l0 k n d ks o ch fwd q (clrU (x : Int) o i) (fillX ks.length d o ch F i) (i : Int)) (fun i => i ≤ o.length) (fun i => o.length - i) (fun _ => fillX ks.length d o ch F o.length) (fun q i hI => by
  by_cases hi : i < o.length
  ·left
   have hlt : ((i : Int) < (o.length : Int)) := by omega
   have hw : w64 ((i : Int) + 1) = ((i + 1 : Nat) : Int) := w64_id (by omega) (by omega)
   have hc := hcols _ (List.getElem_mem hi)
   have hnn : ¬ o[i] < 0 := by omega
   have hf := fill_fok hb hx h F hF' i hI
   have hm' := hb.lay hf
   have hchl : i < ch.length := by have := h.2.2; omega
   have hch : 0 ≤ ch[i] := h.2.1 _ (List.getElem_mem hchl)
   have hfr := node0 hm' (lastH d (layK ks.length o (fillX ks.length d o ch F i)) 64 (F i))
   have hpr := pick_rem (c := ch[i]) hfr hch
   refine ⟨i + 1, ?_, rfl, hi, by omega⟩
   have hy : (if fwd = true then some 0 else some (bclr (clrU (x : Int) o i) (shl 1 o[i]))) = some (F i) := by
    rw [hFi i, clrU_succ _ _ _ hi]; split <;> rfl
   rw [spec_l9Fill.l0]
   simp only [hlt, decide_true, if_true, rdl_lt hi, Option.bind_some, hnn, not_false_eq_true, hy, l9Lay_eq hk n d ks hf hb.len hb.few (by omega), l2Close_eq hk hm' (hF' i), rdl_lt hchl, hw]
   rw [if_pos (by omega), rdl_getDI hpr.1 hpr.2 0, Option.bind_some, if_pos (by rw [List.length_append, fillX_len]; simp; omega), ← clrU_succ _ _ _ hi]
   have e : fillX ks.length d o ch F (i + 1) = fillX ks.length d o ch F i ++ [(nodesL d 0 (lastH d (layK ks.length o (fillX ks.length d o ch F i)) 64 (F i))).getD (rem ch[i] ((nodesL d 0 (lastH d (layK ks.length o (fillX ks.length d o ch F i)) 64 (F i))).length : Int)).toNat 0] := by
    rw [fillX, fillAt, pickN, getD_at hchl]
   rw [e]
  ·right
   have : i = o.length := by omega
   subst this
   rw [spec_l9Fill.l0]; simp) k 0 (by unfold Big at hk; omega) (by omega)
 exact this
theorem fill_spec (hk : Big ≤ k) {n : Int} {d : List Door} {ks : List Int} (hm : IsMaze n d ks) {x : Nat} (hx : x < 64) {o ch : List Int} (h : MakesP x o ch) (fwd : Bool) :
  spec_l9Fill.f k n d ks (x : Int) o ch fwd = some ((upto x 12).map fun c => fillN ks.length d o ch (fun i => if fwd = true then 0 else clrU (x : Int) o (i + 1)) (o.idxOf c)) := by
 unfold spec_l9Fill.f
 have ho6 : o.length ≤ 6 := by have := h.1.length_eq; have := upto_len6 hx; omega
 have hu6 := upto_len6 hx
 rw [fill_spec_l0 hk hm hx h fwd, Option.bind_some, colours_eq hk x hx, Option.bind_some]
 generalize (fun i => if fwd = true then (0 : Int) else clrU (x : Int) o (i + 1)) = F
 have := loop_res (l := fun q (i : Nat) => spec_l9Fill.l1 k o (fillX ks.length d o ch F o.length) (upto x 12) q (((upto x 12).take i).map fun c => fillN ks.length d o ch F (o.idxOf c)) (i : Int)) (fun i => i ≤ (upto x 12).length) (fun i => (upto x 12).length - i) (fun _ => (upto x 12).map fun c => fillN ks.length d o ch F (o.idxOf c)) (fun q i hI => by
  by_cases hi : i < (upto x 12).length
  ·left
   have hlt : ((i : Int) < ((upto x 12).length : Int)) := by omega
   have hw : w64 ((i : Int) + 1) = ((i + 1 : Nat) : Int) := w64_id (by omega) (by omega)
   have hmem : (upto x 12)[i] ∈ o := h.1.mem_iff.2 (List.getElem_mem hi)
   have hidx := List.idxOf_lt_length_iff.2 hmem
   have hrd : rdl (fillX ks.length d o ch F o.length) ((o.idxOf (upto x 12)[i] : Nat) : Int) = some (fillN ks.length d o ch F (o.idxOf (upto x 12)[i])) := by
    rw [rdl_nat, fillX_map, List.getElem?_map, List.getElem?_range hidx]; rfl
   refine ⟨i + 1, ?_, rfl, hi, by omega⟩
   rw [spec_l9Fill.l1]
   simp only [hlt, decide_true, if_true, rdl_lt hi, Option.bind_some, place_eq hk o (by omega) _ hmem, hrd, hw]
   rw [if_pos (by simp; omega), List.take_succ_eq_append_getElem hi, List.map_append]; rfl
  ·right
   have : i = (upto x 12).length := by omega
   subst this
   rw [spec_l9Fill.l1]; simp) k 0 (by unfold Big at hk; omega) (by omega)
 simp only [List.take_zero, List.map_nil] at this
 rw [show ((0 : Nat) : Int) = 0 from rfl] at this
 rw [this]; rfl
end

section
variable {k : Nat}
end

def B (l : List UInt8) : ByteArray := ⟨l.toArray⟩
def upTo (c : UInt8) (l : List UInt8) : List UInt8 := l.takeWhile (· != c)
section
variable {k : Nat}

def sumG (l : List UInt8) (i : Nat) (h : Int) : Int := rem (w64 ((w64 ((w64 (41 * h)) + (IntKind.i64.wrap ((l.getD i 0).toNat : Int)))) + 1)) 999979
def sumP (l : List UInt8) : Int := itr (sumG l) l.length 0 7
def sealL (l : List UInt8) : List UInt8 := l ++ [35] ++ Lib.itoa (sumP l)

def ahead (n : Nat) : List UInt8 := Lib.itoa (n : Int) ++ [32]

open Classical in
noncomputable def decP (n : Nat) (l : List UInt8) : Option (List UInt8 × List UInt8) :=
 if (upTo 35 l).take (ahead n).length = ahead n ∧ 64 ∈ (upTo 35 l).drop (ahead n).length ∧
  isRecord (B (upTo 64 ((upTo 35 l).drop (ahead n).length))) (B (((upTo 35 l).drop (ahead n).length).drop ((upTo 64 ((upTo 35 l).drop (ahead n).length)).length + 1))) ∧ sealL (upTo 35 l) = l
 then some (upTo 64 ((upTo 35 l).drop (ahead n).length), ((upTo 35 l).drop (ahead n).length).drop ((upTo 64 ((upTo 35 l).drop (ahead n).length)).length + 1)) else none
end

section
variable {k : Nat}
end

section
variable {k : Nat}
end


theorem subB_iff {c a : Nat} : subB c a = true ↔ ∀ t, c.testBit t = true → a.testBit t = true := by
  unfold subB
  rw [beq_iff_eq]
  constructor
  · intro h t ht
    rw [← h, Nat.testBit_and] at ht
    simp at ht; exact ht.2
  · intro h
    apply Nat.eq_of_testBit_eq
    intro t
    rw [Nat.testBit_and]
    cases c1 : c.testBit t with
    | false => rfl
    | true => rw [h t c1]; rfl
theorem subB_trans {a b c : Nat} (h1 : subB a b = true) (h2 : subB b c = true) : subB a c = true :=
 subB_iff.2 fun t ht => subB_iff.1 h2 t (subB_iff.1 h1 t ht)
theorem goes_mono {a b h h' : Int} (hs : subB h.toNat h'.toNat = true) {x : Door} (hg : goes a b h x = true) : goes a b h' x = true := by
 unfold goes at hg ⊢
 rw [Bool.and_eq_true] at hg ⊢
 exact ⟨hg.1, subB_trans hg.2 hs⟩
theorem Rch.mono {d : List Door} {h h' x z : Int} (hs : subB h.toNat h'.toNat = true) (hr : Rch d h x z) : Rch d h' x z := by
  induction hr with
  | here => exact .here
  | step _ hg ih =>
    refine .step ih ?_
    obtain ⟨y, hy, hg⟩ := List.any_eq_true.1 hg
    exact List.any_eq_true.2 ⟨y, hy, goes_mono hs hg⟩

def rowN (n : Nat) (t : List Int) : List (List Int) := (List.range n).map fun (i : Nat) => t ++ [(i : Int)]
def allF (n : Nat) : Nat → List (List Int)
  | 0 => [[]]
  | m + 1 => (allF n m).flatMap (rowN n)
theorem allF_len (n : Nat) : ∀ m, (allF n m).length = n ^ m
  | 0 => rfl
  | m + 1 => by
    rw [allF, List.length_flatMap, show (List.map (fun a => (rowN n a).length) (allF n m)) = List.replicate (n ^ m) n from ?_]
    · rw [List.sum_replicate_nat, Nat.pow_succ]
    · rw [← allF_len n m]
      refine List.eq_replicate_iff.2 ⟨by simp, fun b hb => ?_⟩
      obtain ⟨a, _, rfl⟩ := List.mem_map.1 hb
      simp [rowN]
theorem pow_8_4 {n m : Nat} (hn : n ≤ 8) (hm : m ≤ 4) : n ^ m ≤ 4096 :=
 Nat.le_trans (Nat.pow_le_pow_left hn m) (Nat.le_trans (Nat.pow_le_pow_right (n := 8) (by omega) hm) (by decide))
section
variable {k : Nat}
theorem allF_le {n m i : Nat} (hn : n ≤ 8) (hm : m ≤ 4) (hi : i ≤ m) : (allF n i).length ≤ 4096 := by rw [allF_len]; exact pow_8_4 hn (by omega)
end

def FewP (n : Int) (d : List Door) (ks : List Int) (h : Int) : Prop := (IsMaze n d ks ∧ 0 ≤ h ∧ h ≤ 63) ∧ n ≤ 8 ∧ (upto h.toNat 12).length ≤ 4
instance (n : Int) (d : List Door) (ks : List Int) (h : Int) : Decidable (FewP n d ks h) := by unfold FewP; infer_instance
theorem FewP.len {n : Int} {d : List Door} {ks : List Int} {h : Int} (hF : FewP n d ks h) : (allF n.toNat (upto h.toNat 12).length).length ≤ 4096 :=
 allF_le (by have := hF.2.1; omega) hF.2.2 (Nat.le_refl _)
section
variable {k : Nat}
end
section
variable {k : Nat}
end

section
variable {k : Nat}
end

def Tot {α : Type} (o : Option α) (P : α → Prop) : Prop := ∃ r, o = some r ∧ P r
theorem Tot.bind {α β : Type} {o : Option α} {f : α → Option β} {P : α → Prop} {Q : β → Prop} (h : Tot o P) (g : ∀ r, P r → Tot (f r) Q) : Tot (o.bind f) Q := by
 obtain ⟨r, rfl, hr⟩ := h; exact g r hr
theorem Tot.ret {α : Type} {r : α} {Q : α → Prop} (h : Q r) : Tot (some r) Q := ⟨r, rfl, h⟩
theorem Tot.ite {α : Type} {c : Prop} [Decidable c] {x y : Option α} {Q : α → Prop} (h1 : c → Tot x Q) (h2 : ¬ c → Tot y Q) : Tot (if c then x else y) Q := by
 by_cases h : c
 ·rw [if_pos h]; exact h1 h
 ·rw [if_neg h]; exact h2 h
theorem Tot.mono {α : Type} {o : Option α} {P Q : α → Prop} (h : Tot o P) (g : ∀ r, P r → Q r) : Tot o Q := by obtain ⟨r, e, hr⟩ := h; exact ⟨r, e, g r hr⟩
theorem Tot.rdl {α : Type} {l : List α} {i : Int} (h0 : 0 ≤ i) (h1 : i < l.length) : Tot (rdl l i) (fun x => x ∈ l) := by
 obtain ⟨n, rfl⟩ := Int.eq_ofNat_of_zero_le h0
 exact ⟨l[n]'(by omega), rdl_lt (by omega), List.getElem_mem _⟩
theorem Tot.loop {S β : Type} {l : Nat → S → Option β} (Inv : S → Prop) (mu : S → Nat) (Q : β → Prop)
    (hs : ∀ n s, Inv s → (∀ s', Inv s' → mu s' < mu s → Tot (l n s') Q) → Tot (l (n + 1) s) Q) : ∀ k s, mu s < k → Inv s → Tot (l k s) Q := by
  intro k
  induction k with
  | zero => intro s h; omega
  | succ k ih => exact fun s h hI => hs k s hI fun s' h1 h2 => ih s' (by omega) h1
def CodeOk (c : List By) : Prop := c.length ≤ 1000000 ∧ ∀ x ∈ c, 0 ≤ x.v ∧ x.v ≤ 255
def Pos (a : Int) : Prop := 0 ≤ a ∧ a ≤ 100000000
variable {k : Nat} {c : List By} {a s : Int}
theorem uand255 (y : Int) : 0 ≤ uand y 255 ∧ uand y 255 ≤ 255 := by
 unfold uand
 have h : (BitVec.ofInt 64 y &&& BitVec.ofInt 64 255).toNat ≤ 255 := by
  rw [BitVec.toNat_and]
  exact Nat.le_trans Nat.and_le_right (by decide)
 have h2 : IntKind.u64.wrap ((BitVec.ofInt 64 y &&& BitVec.ofInt 64 255).toNat : Int) = ((BitVec.ofInt 64 y &&& BitVec.ofInt 64 255).toNat : Int) := by
  generalize (BitVec.ofInt 64 y &&& BitVec.ofInt 64 255).toNat = m at h
  unfold IntKind.wrap
  simp [IntKind.bits, IntKind.signed]
  omega
 rw [h2]; omega
theorem next_ok (hc : CodeOk c) (ha : 0 ≤ a ∧ a ≤ 1000000000) : Tot (spec_l1Cur_next.f k c a s) (fun r => (0 ≤ r.1 ∧ r.1 ≤ 255) ∧ r.2.1 = a + 1) := by
 unfold spec_l1Cur_next.f
 obtain ⟨h0, h1⟩ := ha
 have hw : w64 (a + 1) = a + 1 := w64_id (by omega) (by omega)
 refine Tot.bind (P := fun y => 0 ≤ y ∧ y ≤ 255) ?_ fun y hy => ?_
 ·refine Tot.ite (fun h => ?_) (fun h => Tot.ret (by omega))
  refine Tot.bind (Tot.rdl h0 (by simpa using h)) fun x hx => Tot.ret ?_
  have := hc.2 x hx
  have e : IntKind.i64.wrap x.v = x.v := w64_id (by omega) (by omega)
  rw [e]; exact this
 ·rw [hw]
  refine Tot.ite (fun h => Tot.ret ⟨hy, rfl⟩) (fun h => Tot.ret ⟨?_, rfl⟩)
  have := uand255 (shr (wU (wU (wU (s * 6364136223846793005) + IntKind.u64.wrap y) + 462197)) 40)
  have e : ∀ z : Int, 0 ≤ z ∧ z ≤ 255 → IntKind.i64.wrap z = z := fun z hz => w64_id (by omega) (by omega)
  simp only
  rw [e _ this]; exact this
theorem pick_ok (hc : CodeOk c) (ha : Pos a) (n : Int) : Tot (spec_l1Cur_pick.f k c a s n) (fun r => 0 ≤ r.1 ∧ (r.1 < n ∨ r.1 = 0) ∧ a ≤ r.2.1 ∧ r.2.1 ≤ a + 2) := by
 unfold spec_l1Cur_pick.f
 refine Tot.ite (fun h => Tot.ret ⟨by simp, .inr rfl, by simp only; omega⟩) (fun h => ?_)
 have h' : 1 < n := by simpa using h
 have hp := ha
 unfold Pos at hp
 refine Tot.bind (next_ok hc (by omega)) ?_
 rintro ⟨x, a1, s1⟩ ⟨h1, h2⟩
 simp only at h1 h2 ⊢
 refine Tot.bind (P := fun r => 0 ≤ r.1 ∧ a ≤ r.2.1 ∧ r.2.1 ≤ a + 2) ?_ ?_
 ·refine Tot.ite (fun h => ?_) (fun h => Tot.ret (by simp only; omega))
  refine Tot.bind (next_ok hc (a := a1) (by omega)) ?_
  rintro ⟨x2, a2, s2⟩ ⟨h3, h4⟩
  simp only at h3 h4 ⊢
  refine Tot.ret ?_
  have e1 : w64 (x * 256) = x * 256 := w64_id (by omega) (by omega)
  rw [e1]
  have e2 : w64 (x * 256 + x2) = x * 256 + x2 := w64_id (by omega) (by omega)
  rw [e2]; simp only; omega
 ·rintro ⟨y, a2, s2⟩ ⟨h3, h4⟩
  simp only at h3 h4 ⊢
  rw [if_pos (by omega)]
  refine Tot.ret ⟨?_, .inl ?_, h4⟩
  ·exact Int.tmod_nonneg _ h3
  ·exact Int.tmod_lt_of_pos _ (by omega)
theorem one_ok (hc : CodeOk c) (ha : Pos a) (n : Int) : Tot (spec_l1Cur_one.f k c a s n) (fun r => a ≤ r.2.1 ∧ r.2.1 ≤ a + 2) := by
 unfold spec_l1Cur_one.f
 refine Tot.bind (pick_ok hc ha n) ?_
 rintro ⟨x, a1, s1⟩ ⟨_, _, h⟩
 exact Tot.ret h
theorem among_ok (hc : CodeOk c) (ha : Pos a) (l : List Int) (hl : l ≠ []) : Tot (spec_l1Cur_among.f k c a s l) (fun r => r.1 ∈ l ∧ a ≤ r.2.1 ∧ r.2.1 ≤ a + 2) := by
 unfold spec_l1Cur_among.f
 have hp : 0 < l.length := List.length_pos_iff.2 hl
 refine Tot.bind (pick_ok hc ha _) ?_
 rintro ⟨x, a1, s1⟩ ⟨h0, h1, h⟩
 simp only at h0 h1 h ⊢
 refine Tot.bind (Tot.rdl h0 (by omega)) fun t ht => Tot.ret ⟨ht, h⟩
theorem few_ok (hk : Big ≤ k) (hc : CodeOk c) (ha : Pos (a + 100)) (h0 : 0 ≤ a) (n : Int) : Tot (spec_l1Cur_few.f k c a s n) (fun r => a ≤ r.2.1 ∧ r.2.1 ≤ a + 6) := by
 unfold spec_l1Cur_few.f
 refine Tot.bind (among_ok hc (by unfold Pos at *; omega) _ (by simp)) ?_
 rintro ⟨x, a1, s1⟩ ⟨hm, h⟩
 simp only at hm h ⊢
 have hx : 0 ≤ x ∧ x ≤ 2 := by simp only [List.mem_cons, List.not_mem_nil, or_false] at hm; omega
 have := Tot.loop (l := fun q (s : Int × Int × Int × Int) => spec_l1Cur_few.l0 k c n q s.1 s.2.1 s.2.2.1 s.2.2.2) (fun s => (0 ≤ s.2.1 ∧ s.2.1 ≤ 2) ∧ a ≤ s.2.2.1 ∧ s.2.2.1 + 2 * s.2.1 ≤ a + 6) (fun s => s.2.1.toNat) (fun r => a ≤ r.2.1 ∧ r.2.1 ≤ a + 6) (fun q s hI ih => by
  obtain ⟨z, m, b, s'⟩ := s
  obtain ⟨e1, e2, e3⟩ := hI
  simp only at e1 e2 e3 ih ⊢
  rw [spec_l1Cur_few.l0]
  refine Tot.ite (fun g => ?_) (fun g => Tot.ret (by simp only; omega))
  have hm : 0 < m := by simpa using g
  refine Tot.bind (pick_ok hc (by unfold Pos at *; omega) _) ?_
  rintro ⟨t, b1, s2⟩ ⟨f1, _, f2⟩
  simp only at f1 f2 ⊢
  rw [if_pos (by omega), show w64 (m - 1) = m - 1 from w64_id (by omega) (by omega)]
  exact ih (_, m - 1, b1, s2) ⟨by simp only; omega, by simp only; omega, by simp only; omega⟩ (by simp only; omega)) k (0, x, a1, s1) (by simp only; unfold Big at hk; omega) ⟨hx, by simp only; omega, by simp only; omega⟩
 refine Tot.bind this ?_
 rintro ⟨r, b, s2⟩ h
 exact Tot.ret h
theorem colours_ok (hk : Big ≤ k) (hc : CodeOk c) (ha : Pos (a + 100)) (h0 : 0 ≤ a) : Tot (spec_l1Cur_colours.f k c a s) (fun r => (-1 ≤ r.1 ∧ r.1 ≤ 4611686018427387904) ∧ a ≤ r.2.1 ∧ r.2.1 ≤ a + 10) := by
 unfold spec_l1Cur_colours.f
 refine Tot.bind (one_ok hc (by unfold Pos at *; omega) _) ?_
 rintro ⟨b, a1, s1⟩ h
 simp only at h ⊢
 refine Tot.ite (fun g => ?_) (fun g => ?_)
 ·refine Tot.bind (among_ok hc (by unfold Pos at *; omega) _ (by simp)) ?_
  rintro ⟨x, a2, s2⟩ ⟨hm, h'⟩
  simp only at hm h' ⊢
  refine Tot.ret ⟨?_, by simp only; omega⟩
  simp only [List.mem_cons, List.not_mem_nil, or_false] at hm; simp only; omega
 ·refine Tot.bind (pick_ok hc (by unfold Pos at *; omega) _) ?_
  rintro ⟨x, a2, s2⟩ ⟨g1, g2, h'⟩
  simp only at g1 g2 h' ⊢
  have := Tot.loop (l := fun q (s : Int × Int × Int × Int) => spec_l1Cur_colours.l0 k c q s.1 s.2.1 s.2.2.1 s.2.2.2) (fun s => (0 ≤ s.1 ∧ s.1 ≤ 63) ∧ (0 ≤ s.2.1 ∧ s.2.1 ≤ 3) ∧ a ≤ s.2.2.1 ∧ s.2.2.1 + 2 * s.2.1 ≤ a + 10) (fun s => s.2.1.toNat) (fun r => (0 ≤ r.1 ∧ r.1 ≤ 63) ∧ a ≤ r.2.1 ∧ r.2.1 ≤ a + 10) (fun q s hI ih => by
   obtain ⟨z, m, b, s'⟩ := s
   obtain ⟨e0, e1, e2, e3⟩ := hI
   simp only at e0 e1 e2 e3 ih ⊢
   rw [spec_l1Cur_colours.l0]
   refine Tot.ite (fun g => ?_) (fun g => Tot.ret ⟨e0, by simp only; omega⟩)
   have hm : 0 < m := by simpa using g
   refine Tot.bind (pick_ok hc (by unfold Pos at *; omega) _) ?_
   rintro ⟨t, b1, s2⟩ ⟨f1, f3, f2⟩
   simp only at f1 f2 f3 ⊢
   obtain ⟨t, rfl⟩ := Int.eq_ofNat_of_zero_le f1
   have hsh : 0 ≤ shl 1 (t : Int) ∧ shl 1 (t : Int) ≤ 63 := by
    rw [shl_one (by omega)]
    have h32 : 2 ^ t ≤ 2 ^ 5 := Nat.pow_le_pow_right (by omega) (by omega)
    generalize 2 ^ t = w at h32 ⊢
    omega
   rw [if_pos (by omega), show w64 (m - 1) = m - 1 from w64_id (by omega) (by omega)]
   exact ih (_, m - 1, b1, s2) ⟨(bor_le63 e0 hsh).1, by simp only; omega, by simp only; omega, by simp only; omega⟩ (by simp only; omega)) k (0, x, a2, s2) (by simp only; unfold Big at hk; omega) ⟨by simp, by simp only; omega, by simp only; omega, by simp only; omega⟩
  refine Tot.bind this ?_
  rintro ⟨r, b, s2⟩ ⟨h1, h⟩
  exact Tot.ret ⟨by simp only at h1 ⊢; omega, h⟩
def MzS (n : Int) (d : List Door) (ks : List Int) : Prop := (-1 ≤ n ∧ n ≤ 4611686018427387904) ∧ d.length ≤ 40 ∧ ks.length ≤ 20
theorem putD_ok (hk : Big ≤ k) (d : List Door) (A B C : Int) (hd : d.length ≤ 100) (hs : d.Pairwise DoorLt) : Tot (spec_l2Put.f k d A B C) (fun r => r.Pairwise DoorLt ∧ r.length ≤ d.length + 1) := by
 rw [l2Put_eq hk d A B C (by omega) hs]
 refine Tot.ret ?_
 split
 ·exact ⟨hs, by omega⟩
 ·rename_i h; exact ⟨insD_sorted _ _ hs h, by rw [insD_length]; omega⟩
theorem someMaze_ok (hk : Big ≤ k) (hc : CodeOk c) (ha : Pos (a + 1000)) (h0 : 0 ≤ a) (n : Int) (hn : 1 ≤ n ∧ n ≤ 12) : Tot (spec_l1Cur_someMaze.f k c a s n) (fun r => MzS r.1 r.2.1 r.2.2.1 ∧ a ≤ r.2.2.2.1 ∧ r.2.2.2.1 ≤ a + 300) := by
 have hA : a + 1000 ≤ 100000000 := ha.2
 clear ha
 have P : ∀ x : Int, a ≤ x → x ≤ a + 500 → Pos x := fun x h1 h2 => by unfold Pos; omega
 unfold spec_l1Cur_someMaze.f
 refine Tot.bind (pick_ok hc (P _ (by omega) (by omega)) _) ?_
 rintro ⟨m, a1, s1⟩ ⟨g1, g2, g3⟩
 simp only at g1 g2 g3 ⊢
 have hm : w64 (1 + m) = 1 + m := w64_id (by omega) (by omega)
 -- the nodes
 have L0 := Tot.loop (l := fun q (s : Int × Int × List Door × List Int × Int × Int) => spec_l1Cur_someMaze.l0 k c n m q s.1 s.2.1 s.2.2.1 s.2.2.2.1 s.2.2.2.2.1 s.2.2.2.2.2)
  (fun s => (0 ≤ s.2.1 ∧ s.2.1 ≤ 13) ∧ (s.2.2.1.Pairwise DoorLt ∧ (s.2.2.1.length : Int) ≤ s.2.1) ∧ ((s.2.2.2.1.length : Int) = s.2.1 ∧ s.2.2.2.1.length ≤ n.toNat) ∧ a ≤ s.2.2.2.2.1 ∧ s.2.2.2.2.1 ≤ a + 2 + 14 * s.2.1) (fun s => (13 - s.2.1).toNat)
  (fun r => (r.2.2.1.Pairwise DoorLt ∧ r.2.2.1.length ≤ 13) ∧ r.2.2.2.length = n.toNat ∧ a ≤ r.1 ∧ r.1 ≤ a + 184) (fun q s hI ih => by
  obtain ⟨z, i, d, ks, b, s'⟩ := s
  obtain ⟨e1, ⟨e2, e3⟩, ⟨e4, e4'⟩, e5, e6⟩ := hI
  simp only at e1 e2 e3 e4 e4' e5 e6 ih ⊢
  rw [spec_l1Cur_someMaze.l0]
  refine Tot.bind (P := fun y => y = true ↔ i < n ∧ i < 13) ?_ ?_
  ·refine Tot.ite (fun h => Tot.ret ?_) (fun h => Tot.ret ?_)
   ·have : i < n := by simpa using h
    simp [this]
   ·have : ¬ i < n := by simpa using h
    simp [this]
  intro y hy
  refine Tot.ite (fun h => ?_) (fun h => Tot.ret ⟨⟨e2, by simp only; omega⟩, ?_, e5, by simp only; omega⟩)
  rotate_left 1
  ·have : ¬ (i < n ∧ i < 13) := fun hh => h (hy.2 hh)
   simp only; omega
  have hi := hy.1 h
  refine Tot.bind (one_ok hc (P _ (by omega) (by omega)) _) ?_
  rintro ⟨o, b1, s1⟩ f1
  simp only at f1 ⊢
  refine Tot.bind (P := fun r => a ≤ r.2.1 ∧ r.2.1 ≤ a + 2 + 14 * i + 4) ?_ ?_
  ·refine Tot.ite (fun h => ?_) (fun h => Tot.ret (by simp only; omega))
   refine Tot.bind (pick_ok hc (P _ (by omega) (by omega)) _) ?_
   rintro ⟨t, b2, s2⟩ ⟨f2, f3, f4⟩
   simp only at f2 f3 f4 ⊢
   rw [if_pos (by omega)]
   exact Tot.ret (by simp only; omega)
  rintro ⟨y9, b2, s2⟩ f2
  simp only at f2 ⊢
  rw [if_pos (by simp; omega)]
  refine Tot.bind (P := fun r => (r.2.2.Pairwise DoorLt ∧ (r.2.2.length : Int) ≤ i + 1) ∧ a ≤ r.1 ∧ r.1 ≤ a + 2 + 14 * i + 14) ?_ ?_
  ·refine Tot.ite (fun h => ?_) (fun h => Tot.ret ⟨⟨e2, by simp only; omega⟩, by simp only; omega⟩)
   refine Tot.bind (few_ok hk hc (by unfold Pos; omega) (by omega) _) ?_
   rintro ⟨t, b3, s3⟩ f3
   simp only at f3 ⊢
   refine Tot.bind (one_ok hc (P _ (by omega) (by omega)) _) ?_
   rintro ⟨o2, b4, s4⟩ f4
   simp only at f4 ⊢
   refine Tot.bind (P := fun _ => True) (Tot.ite (fun h => Tot.ret trivial) (fun h => Tot.ret trivial)) ?_
   intro y10 _
   refine Tot.bind (pick_ok hc (P _ (by omega) (by omega)) _) ?_
   rintro ⟨t5, b5, s5⟩ ⟨_, _, f5⟩
   simp only at f5 ⊢
   refine Tot.bind (putD_ok hk d _ _ _ (by omega) e2) ?_
   intro d2 f6
   exact Tot.ret ⟨⟨f6.1, by have := f6.2; simp only; omega⟩, by simp only; omega⟩
  rintro ⟨b3, s3, d2⟩ ⟨⟨f3, f4⟩, f5⟩
  simp only at f3 f4 f5 ⊢
  rw [show w64 (i + 1) = i + 1 from w64_id (by omega) (by omega)]
  exact ih (_, i + 1, d2, ks ++ [y9], b3, s3) ⟨by simp only; omega, ⟨f3, by simp only; omega⟩, ⟨by simp; omega, by simp; omega⟩, f5.1, by simp only; omega⟩ (by simp only; omega)) k (0, 0, [], [], a1, s1) (by simp only; unfold Big at hk; omega) ⟨by simp, ⟨.nil, by simp⟩, ⟨by simp, by simp⟩, by simp only; omega, by simp only; omega⟩
 refine Tot.bind L0 ?_
 rintro ⟨a2, s2, d, ks⟩ ⟨⟨d1, d2⟩, k1, p1, p2⟩
 simp only at d1 d2 k1 p1 p2 ⊢
 refine Tot.bind (pick_ok hc (P _ (by omega) (by omega)) _) ?_
 rintro ⟨m2, a3, s3⟩ ⟨j1, j2, j3⟩
 simp only at j1 j2 j3 ⊢
 -- more doors
 have L1 := Tot.loop (l := fun q (s : Int × Int × Int × List Door) => spec_l1Cur_someMaze.l1 k c n m q s.1 s.2.1 s.2.2.1 s.2.2.2)
  (fun s => (0 ≤ s.1 ∧ s.1 ≤ 5) ∧ (s.2.2.2.Pairwise DoorLt ∧ (s.2.2.2.length : Int) + s.1 ≤ 18) ∧ a ≤ s.2.1 ∧ s.2.1 + 10 * s.1 ≤ a + 236) (fun s => s.1.toNat)
  (fun r => r.2.2.length ≤ 18 ∧ a ≤ r.1 ∧ r.1 ≤ a + 236) (fun q s hI ih => by
  obtain ⟨i, b, s', d⟩ := s
  obtain ⟨e1, ⟨e2, e3⟩, e5, e6⟩ := hI
  simp only at e1 e2 e3 e5 e6 ih ⊢
  rw [spec_l1Cur_someMaze.l1]
  refine Tot.bind (P := fun y => y = true → i > 0) ?_ ?_
  ·refine Tot.ite (fun h => ?_) (fun h => Tot.ret (by simp))
   have : i > 0 := by simpa using h
   exact Tot.ite (fun h => Tot.ret fun _ => this) (fun h => Tot.ret fun _ => this)
  intro y hy
  refine Tot.ite (fun h => ?_) (fun h => Tot.ret ⟨by simp only; omega, e5, by simp only; omega⟩)
  have hi := hy h
  refine Tot.bind (pick_ok hc (P _ (by omega) (by omega)) _) ?_
  rintro ⟨t1, b1, s1⟩ ⟨_, _, f1⟩
  simp only at f1 ⊢
  refine Tot.bind (pick_ok hc (P _ (by omega) (by omega)) _) ?_
  rintro ⟨t2, b2, s2⟩ ⟨_, _, f2⟩
  simp only at f2 ⊢
  refine Tot.bind (P := fun r => (r.2.2.Pairwise DoorLt ∧ (r.2.2.length : Int) + i ≤ 19) ∧ a ≤ r.1 ∧ r.1 + 10 * i ≤ a + 246) ?_ ?_
  ·refine Tot.ite (fun h => ?_) (fun h => Tot.ret ⟨⟨e2, by simp only; omega⟩, by simp only; omega⟩)
   refine Tot.bind (few_ok hk hc (by unfold Pos; omega) (by omega) _) ?_
   rintro ⟨t3, b3, s3⟩ f3
   simp only at f3 ⊢
   refine Tot.bind (putD_ok hk d _ _ _ (by omega) e2) ?_
   intro d2 f6
   exact Tot.ret ⟨⟨f6.1, by have := f6.2; simp only; omega⟩, by simp only; omega⟩
  rintro ⟨b3, s3, d2⟩ ⟨⟨f3, f4⟩, f5⟩
  simp only at f3 f4 f5 ⊢
  rw [show w64 (i - 1) = i - 1 from w64_id (by omega) (by omega)]
  exact ih (i - 1, b3, s3, d2) ⟨by simp only; omega, ⟨f3, by simp only; omega⟩, f5.1, by simp only; omega⟩ (by simp only; omega)) k (m2, a3, s3, d) (by simp only; unfold Big at hk; omega) ⟨by simp only; omega, ⟨d1, by simp only; omega⟩, by simp only; omega, by simp only; omega⟩
 refine Tot.bind L1 ?_
 rintro ⟨a4, s4, e⟩ ⟨d3, p3, p4⟩
 simp only at d3 p3 p4 ⊢
 refine Tot.bind (pick_ok hc (P _ (by omega) (by omega)) _) ?_
 rintro ⟨m3, a5, s5⟩ ⟨_, _, j4⟩
 simp only at j4 ⊢
 have hn1 : w64 (n + 1) = n + 1 := w64_id (by omega) (by omega)
 refine Tot.ite (fun g => ?_) (fun _ => Tot.ite (fun g => ?_) (fun _ => Tot.ite (fun g => ?_) (fun _ => Tot.ite (fun g => ?_) (fun _ => Tot.ite (fun g => ?_) (fun _ => ?_)))))
 ·refine Tot.bind (among_ok hc (P _ (by omega) (by omega)) _ (by simp)) ?_
  rintro ⟨t, b, s6⟩ ⟨hm, h'⟩
  simp only [List.mem_cons, List.not_mem_nil, or_false, hn1] at hm
  simp only at h' ⊢
  exact Tot.ret ⟨⟨by simp only; omega, by simp only; omega, by simp only; omega⟩, by simp only; omega⟩
 ·refine Tot.bind (P := fun r => r.2.2.length ≤ 18 ∧ a ≤ r.1 ∧ r.1 ≤ a + 240) ?_ ?_
  ·refine Tot.ite (fun h => ?_) (fun h => Tot.ret ⟨d3, by simp only; omega⟩)
   have he : 0 < (e.length : Int) := by simpa using h
   refine Tot.bind (pick_ok hc (P _ (by omega) (by omega)) _) ?_
   rintro ⟨t, b, s6⟩ ⟨h1, h2, h3⟩
   simp only at h1 h2 h3 ⊢
   have hb : t < (e.length : Int) := by omega
   refine Tot.bind (Tot.rdl h1 hb) fun _ _ => Tot.bind (Tot.rdl h1 hb) fun _ _ => Tot.bind (Tot.rdl h1 hb) fun _ _ => Tot.ret ⟨by simpa using d3, by simp only; omega⟩
  rintro ⟨b, s6, e'⟩ ⟨h1, h2⟩
  exact Tot.ret ⟨⟨by simp only; omega, by simp only at h1 ⊢; omega, by simp only; omega⟩, by simp only at h2 ⊢; omega⟩
 ·refine Tot.bind (P := fun r => r.2.2.length = ks.length ∧ a ≤ r.1 ∧ r.1 ≤ a + 242) ?_ ?_
  ·refine Tot.ite (fun h => ?_) (fun h => Tot.ret ⟨rfl, by simp only; omega⟩)
   have he : 0 < (ks.length : Int) := by simpa using h
   refine Tot.bind (P := fun r => r.2.2.length = ks.length ∧ a ≤ r.1 ∧ r.1 ≤ a + 242) ?_ fun r hr => Tot.ret hr
   refine Tot.bind (pick_ok hc (P _ (by omega) (by omega)) _) ?_
   rintro ⟨t, b, s6⟩ ⟨h1, h2, h3⟩
   simp only at h1 h2 h3 ⊢
   refine Tot.bind (among_ok hc (P _ (by omega) (by omega)) _ (by simp)) ?_
   rintro ⟨t2, b2, s7⟩ ⟨_, h4⟩
   simp only at h4 ⊢
   refine Tot.bind (Tot.rdl h1 (by omega)) fun _ _ => Tot.ret ⟨by simp, by simp only; omega⟩
  rintro ⟨b, s6, e'⟩ ⟨h1, h2⟩
  exact Tot.ret ⟨⟨by simp only; omega, by simp only; omega, by simp only at h1 ⊢; omega⟩, by simp only at h2 ⊢; omega⟩
 ·refine Tot.bind (P := fun r => r.length ≤ 19) ?_ ?_
  ·refine Tot.ite (fun h => ?_) (fun h => Tot.ret (by omega))
   have he : 0 < (e.length : Int) := by simpa using h
   refine Tot.bind (Tot.rdl (Int.le_refl 0) he) fun x _ => ?_
   rw [if_pos (by simp; omega)]
   exact Tot.ret (by simp; omega)
  intro e' h1
  exact Tot.ret ⟨⟨by simp only; omega, by simp only; omega, by simp only; omega⟩, by simp only; omega⟩
 ·exact Tot.ret ⟨⟨by simp, by simp, by simp⟩, by simp only; omega⟩
 ·exact Tot.ret ⟨⟨by simp only; omega, by simp only; omega, by simp only; omega⟩, by simp only; omega⟩
theorem maze_ok (hk : Big ≤ k) (hc : CodeOk c) (ha : Pos (a + 2000)) (h0 : 0 ≤ a) : Tot (spec_l1Cur_maze.f k c a s) (fun r => MzS r.1 r.2.1 r.2.2.1 ∧ a ≤ r.2.2.2.1 ∧ r.2.2.2.1 ≤ a + 302) := by
 unfold spec_l1Cur_maze.f
 refine Tot.bind (among_ok hc (by unfold Pos at *; omega) _ (by simp)) ?_
 rintro ⟨x, a2, s2⟩ ⟨hm, h'⟩
 simp only [List.mem_cons, List.not_mem_nil, or_false] at hm
 simp only at h' ⊢
 refine Tot.bind (someMaze_ok hk hc (by unfold Pos at *; omega) (by omega) x (by omega)) ?_
 rintro ⟨n, d, ks, a3, s3⟩ ⟨h1, h2⟩
 exact Tot.ret ⟨h1, by simp only at h2 ⊢; omega⟩
theorem least_ok (x y : Int) : spec_l1Least.f k x y = some (imin x y) := by
 unfold spec_l1Least.f imin
 by_cases c : x < y
 ·rw [if_pos (by simpa using c), if_neg (by omega)]
 ·rw [if_neg (by simpa using c)]; split
  ·rfl
  ·congr 1; omega
theorem most_ok (x y : Int) : spec_l1Most.f k x y = some (imax x y) := by
 unfold spec_l1Most.f imax
 by_cases c : x > y
 ·rw [if_pos (by simpa using c)]; split <;> first | rfl | (congr 1; omega)
 ·rw [if_neg (by simpa using c)]; split <;> first | rfl | (congr 1; omega)
theorem nodeOf_ok (hc : CodeOk c) (ha : Pos (a + 100)) (h0 : 0 ≤ a) (n : Int) (d : List Door) (ks : List Int) (hn : -1 ≤ n ∧ n ≤ 4611686018427387904) : Tot (spec_l1Cur_nodeOf.f k c a s n d ks) (fun r => (-1 ≤ r.1 ∧ r.1 ≤ 4611686018427387904) ∧ a ≤ r.2.1 ∧ r.2.1 ≤ a + 4) := by
 unfold spec_l1Cur_nodeOf.f
 refine Tot.bind (one_ok hc (by unfold Pos at *; omega) _) ?_
 rintro ⟨b, a1, s1⟩ h
 simp only at h ⊢
 refine Tot.ite (fun g => ?_) (fun g => ?_)
 ·refine Tot.bind (among_ok hc (by unfold Pos at *; omega) _ (by simp)) ?_
  rintro ⟨x, a2, s2⟩ ⟨hm, h'⟩
  simp only [List.mem_cons, List.not_mem_nil, or_false] at hm
  simp only at h' ⊢
  exact Tot.ret ⟨by simp only; omega, by simp only; omega⟩
 ·rw [least_ok, Option.bind_some, most_ok, Option.bind_some]
  refine Tot.bind (pick_ok hc (by unfold Pos at *; omega) _) ?_
  rintro ⟨x, a2, s2⟩ ⟨g1, g2, h'⟩
  simp only at g1 g2 h' ⊢
  refine Tot.ret ⟨?_, by simp only; omega⟩
  have : imax (imin n 12) 1 ≤ 12 := by unfold imax imin; split <;> split <;> omega
  simp only; omega

variable {k : Nat} {c : List By} {a s : Int}

theorem vInts_eq (hk : Big ≤ k) (x y : List Int) (hx : x.length ≤ 1048576) : laws_vInts.f k x y = some (decide (x = y)) := by
 unfold laws_vInts.f
 by_cases h : x.length = y.length
 ·rw [if_neg (by simp; omega), loop_eq (l := laws_vInts.l0 k x y) h (fun n i hi => by
   rw [laws_vInts.l0]
   have h1 : ((i : Int) < (x.length : Int)) := by omega
   have hw : w64 ((i : Int) + 1) = ((i + 1 : Nat) : Int) := w64_id (by omega) (by omega)
   simp only [h1, decide_true, if_true, rdl_lt hi, rdl_lt (h ▸ hi), Option.bind_some, hw]
   by_cases h2 : x[i] = y[i] <;> simp [h2]) (fun n => by rw [laws_vInts.l0]; simp) (by unfold Big at hk; omega), Option.bind_some, Lr_ite]
  by_cases h2 : x = y <;> simp [h2]
 ·rw [if_pos (by simp; omega)]
  have : x ≠ y := fun e => h (by rw [e])
  simp [this]
theorem rInts_eq (hk : Big ≤ k) (x y : List Int) (hx : x.length ≤ 1048576) : laws_rInts.f k x y = some (decide (x = y)) := by
 unfold laws_rInts.f
 by_cases h : x.length = y.length
 ·rw [if_neg (by simp; omega), loop_eq (l := laws_rInts.l0 k x y) h (fun n i hi => by
   rw [laws_rInts.l0]
   have h1 : ((i : Int) < (x.length : Int)) := by omega
   have hw : w64 ((i : Int) + 1) = ((i + 1 : Nat) : Int) := w64_id (by omega) (by omega)
   simp only [h1, decide_true, if_true, rdl_lt hi, rdl_lt (h ▸ hi), Option.bind_some, hw]
   by_cases h2 : x[i] = y[i] <;> simp [h2]) (fun n => by rw [laws_rInts.l0]; simp) (by unfold Big at hk; omega), Option.bind_some, Lr_ite]
  by_cases h2 : x = y <;> simp [h2]
 ·rw [if_pos (by simp; omega)]
  have : x ≠ y := fun e => h (by rw [e])
  simp [this]
theorem rHas_eq (hk : Big ≤ k) (x : List Int) (y : Int) (hx : x.length ≤ 1048576) : laws_rHas.f k x y = some (x.contains y) := by
 unfold laws_rHas.f
 have := Tot.loop (l := fun q (i : Nat) => laws_rHas.l0 k x y q (i : Int)) (fun i => i ≤ x.length ∧ ∀ j (h : j < x.length), j < i → x[j] ≠ y) (fun i => x.length - i) (fun r => r = if x.contains y then .inr true else .inl ()) (fun q i hI ih => by
  obtain ⟨h1, h2⟩ := hI
  rw [laws_rHas.l0]
  by_cases hi : i < x.length
  ·rw [if_pos (by simpa using hi), rdl_lt hi, Option.bind_some]
   by_cases e : x[i] = y
   ·rw [if_pos (by simpa using e)]
    refine Tot.ret ?_
    rw [if_pos (by rw [List.contains_iff_mem, ← e]; exact List.getElem_mem hi)]
   ·rw [if_neg (by simpa using e), show w64 ((i : Int) + 1) = ((i + 1 : Nat) : Int) from w64_id (by omega) (by omega)]
    refine ih (i + 1) ⟨by omega, fun j h hj => ?_⟩ (by omega)
    rcases Nat.eq_or_lt_of_le (Nat.le_of_lt_succ hj) with rfl | h'
    ·exact e
    ·exact h2 j h h'
  ·rw [if_neg (by simpa using hi)]
   refine Tot.ret ?_
   rw [if_neg]
   rw [List.contains_iff_mem]
   intro hm
   obtain ⟨j, hj, e⟩ := List.getElem_of_mem hm
   exact h2 j hj (by omega) e) k 0 (by unfold Big at hk; omega) ⟨by omega, fun j _ h => by omega⟩
 obtain ⟨r, h1, rfl⟩ := this
 rw [show ((0 : Nat) : Int) = 0 from rfl] at h1
 rw [h1, Option.bind_some]
 by_cases h : x.contains y = true
 ·rw [if_pos h, h]; rfl
 ·rw [if_neg h]
  have : x.contains y = false := by simpa using h
  rw [this]; rfl

theorem code_ok {c : List By} (h : wfd c) (hl : c.length ≤ 65536) : CodeOk c := ⟨by omega, fun x hx => h.2 x hx⟩

section
variable {k : Nat}
def AskF (n : Int) (d : List Door) (ks : List Int) (h : Int) (fs : List Int) : Prop := (IsMaze n d ks ∧ 0 ≤ h ∧ h ≤ 63) ∧ FillP n h.toNat fs
instance (n : Int) (d : List Door) (ks : List Int) (h : Int) (fs : List Int) : Decidable (AskF n d ks h fs) := by unfold AskF; infer_instance
end

variable {k : Nat} {c : List By} {a s : Int}
def TrS (n : Int) (d : List Door) (ks tr : List Int) : Prop := MzS n d ks ∧ tr.length ≤ 50
theorem trap_ok (hk : Big ≤ k) (hc : CodeOk c) (ha : Pos (a + 5000)) (h0 : 0 ≤ a) : Tot (spec_l1Cur_trap.f k c a s) (fun r => TrS r.1 r.2.1 r.2.2.1 r.2.2.2.1 ∧ a ≤ r.2.2.2.2.1 ∧ r.2.2.2.2.1 ≤ a + 400) := by
 have hA : a + 5000 ≤ 100000000 := ha.2
 clear ha
 have P : ∀ x : Int, a ≤ x → x ≤ a + 2000 → Pos x := fun x h1 h2 => by unfold Pos; omega
 unfold spec_l1Cur_trap.f
 refine Tot.bind (maze_ok hk hc (by unfold Pos; omega) h0) ?_
 rintro ⟨n, d, ks, a1, s1⟩ ⟨hM, h1⟩
 simp only at hM h1 ⊢
 have L := Tot.loop (l := fun q (s : Nat × List Int × Int × Int) => spec_l1Cur_trap.l0 k c d q (s.1 : Int) s.2.1 s.2.2.1 s.2.2.2) (fun s => s.1 ≤ 31 ∧ s.2.1.length ≤ s.1 ∧ a ≤ s.2.2.1 ∧ s.2.2.1 ≤ a + 302 + 2 * s.1) (fun s => 31 - s.1) (fun r => r.2.2.length ≤ 31 ∧ a ≤ r.1 ∧ r.1 ≤ a + 364) (fun q s hI ih => by
  obtain ⟨i, l, b, s'⟩ := s
  obtain ⟨e1, e2, e3, e4⟩ := hI
  simp only at e1 e2 e3 e4 ih ⊢
  rw [spec_l1Cur_trap.l0]
  refine Tot.bind (P := fun y => y = true → i < 31) ?_ ?_
  ·refine Tot.ite (fun h => Tot.ret (by simp; omega)) (fun h => Tot.ret (by simp))
  intro y hy
  refine Tot.ite (fun h => ?_) (fun h => Tot.ret ⟨by simp only; omega, by simp only; omega⟩)
  have hi := hy h
  refine Tot.bind (one_ok hc (P _ (by omega) (by omega)) _) ?_
  rintro ⟨t, b1, s1⟩ f1
  simp only at f1 ⊢
  refine Tot.bind (P := fun r => r.length ≤ i + 1) ?_ ?_
  ·refine Tot.ite (fun h => ?_) (fun h => Tot.ret (by omega))
   rw [if_pos (by simp; omega)]; exact Tot.ret (by simp; omega)
  intro l2 h2
  rw [show w64 ((i : Int) + 1) = ((i + 1 : Nat) : Int) from w64_id (by omega) (by omega)]
  exact ih (i + 1, l2, b1, s1) ⟨by simp only; omega, h2, by simp only; omega, by simp only; omega⟩ (by simp only; omega)) k (0, [], a1, s1) (by simp only; unfold Big at hk; omega) ⟨by simp, by simp, by simp only; omega, by simp only; omega⟩
 refine Tot.bind L ?_
 rintro ⟨a2, s2, l⟩ ⟨h2, h3⟩
 simp only at h2 h3 ⊢
 refine Tot.bind (one_ok hc (P _ (by omega) (by omega)) _) ?_
 rintro ⟨b, a3, s3⟩ h4
 simp only at h4 ⊢
 refine Tot.bind (P := fun r => r.2.2.length ≤ 32 ∧ a ≤ r.1 ∧ r.1 ≤ a + 400) ?_ ?_
 ·refine Tot.ite (fun h => ?_) (fun h => Tot.ret ⟨by simp only; omega, by simp only; omega⟩)
  refine Tot.bind (among_ok hc (P _ (by omega) (by omega)) _ (by simp)) ?_
  rintro ⟨x, a4, s4⟩ ⟨_, h5⟩
  simp only at h5 ⊢
  rw [if_pos (by simp; omega)]
  exact Tot.ret ⟨by simp; omega, by simp only; omega⟩
 rintro ⟨a4, s4, l2⟩ ⟨h5, h6⟩
 exact Tot.ret ⟨⟨hM, by simp only at h5 ⊢; omega⟩, h6⟩
theorem trapWalk_ok (hk : Big ≤ k) (hc : CodeOk c) (ha : Pos (a + 5000)) (h0 : 0 ≤ a) (n : Int) (d : List Door) (ks tr : List Int) (hT : TrS n d ks tr) : Tot (spec_l1Cur_trapWalk.f k c a s n d ks tr) (fun r => r.1.length ≤ 20) := by
 have hA : a + 5000 ≤ 100000000 := ha.2
 clear ha
 have P : ∀ x : Int, a ≤ x → x ≤ a + 2000 → Pos x := fun x h1 h2 => by unfold Pos; omega
 have hd := hT.1.2.1
 have hks := hT.1.2.2
 have htr := hT.2
 unfold spec_l1Cur_trapWalk.f
 rw [l11Trap_eq hk n d ks tr (by omega) (by omega) (by omega), Option.bind_some]
 by_cases hv : IsTrapP n d ks tr
 rotate_left 1
 ·rw [decide_eq_false hv, if_pos (by simp)]; exact Tot.ret (by simp)
 rw [decide_eq_true hv, if_neg (by simp)]
 have hm := hv.1
 have om := hm.okm
 have hlo := om.lo
 have hhi := om.hi
 have hlen := om.len
 have hk0 := keys_getD om.keys 0
 have hr0 : rdl ks 0 = some (ks.getD 0 0) := rdl_getD (i := 0) (by omega) 0
 rw [hr0, Option.bind_some, l4Id_eq 0 _ (by omega) hk0, Option.bind_some]
 refine Tot.bind (among_ok hc (P _ (by omega) (by omega)) _ (by simp)) ?_
 rintro ⟨m, a1, s1⟩ ⟨hmm, h1⟩
 simp only [List.mem_cons, List.not_mem_nil, or_false] at hmm
 simp only at h1 ⊢
 have L := Tot.loop (l := fun q (s : List Int × Int × Int × Int × Int) => spec_l1Cur_trapWalk.l0 k c n d ks tr q s.1 s.2.1 s.2.2.1 s.2.2.2.1 s.2.2.2.2) (fun s => (0 ≤ s.2.1 ∧ s.2.1 < 768) ∧ (0 ≤ s.2.2.1 ∧ s.2.2.1 ≤ 8) ∧ ((s.1.length : Int) + s.2.2.1 ≤ 9 ∧ 1 ≤ s.1.length) ∧ a ≤ s.2.2.2.1 ∧ s.2.2.2.1 + 2 * s.2.2.1 ≤ a + 20) (fun s => s.2.2.1.toNat) (fun r => (1 ≤ r.1.length ∧ r.1.length ≤ 9) ∧ a ≤ r.2.1 ∧ r.2.1 ≤ a + 20) (fun q s hI ih => by
  obtain ⟨l, now, i, b, s'⟩ := s
  obtain ⟨e0, e1, e2, e3, e4⟩ := hI
  simp only at e0 e1 e2 e3 e4 ih ⊢
  rw [spec_l1Cur_trapWalk.l0]
  refine Tot.ite (fun g => ?_) (fun g => Tot.ret ⟨by simp only; omega, by simp only; omega⟩)
  have hi : 0 < i := by simpa using g
  obtain ⟨w, rfl⟩ := Int.eq_ofNat_of_zero_le e0.1
  have hq : quo (w : Int) 64 = ((w / 64 : Nat) : Int) := quo64n w (by omega)
  have hr : rem (w : Int) 64 = ((w % 64 : Nat) : Int) := by unfold rem; rw [Int.tmod_eq_emod_of_nonneg (by omega)]; omega
  rw [hq, hr, l11Step_eq hk n d ks tr _ _ hm (by omega) (by omega), Option.bind_some]
  have hle := appUpto_length (stepG d ks tr ((w / 64 : Nat) : Int) ((w % 64 : Nat) : Int)) 1 (stepG_le d ks tr _ _) n.toNat
  have hmem : ∀ y ∈ appUpto (stepG d ks tr ((w / 64 : Nat) : Int) ((w % 64 : Nat) : Int)) n.toNat, 0 ≤ y ∧ y < 768 := fun y hy => by
   rw [step_map] at hy
   obtain ⟨z, hz, rfl⟩ := List.mem_map.1 hy
   have := idOf_range om.keys (s := ((w % 64 : Nat) : Int)) (by omega) (stepN_mem (tr := tr) (x := ((w / 64 : Nat) : Int)) (d := d) (n := n) (s := ((w % 64 : Nat) : Int)) hz)
   omega
  generalize appUpto (stepG d ks tr ((w / 64 : Nat) : Int) ((w % 64 : Nat) : Int)) n.toNat = Y at *
  refine Tot.ite (fun g => Tot.ret ⟨by simp only; omega, by simp only; omega⟩) (fun g => ?_)
  have hY : 0 < Y.length := by
   refine Nat.pos_of_ne_zero fun e => g ?_
   rw [e]; rfl
  refine Tot.bind (pick_ok hc (P _ (by omega) (by omega)) _) ?_
  rintro ⟨t, b1, s2⟩ ⟨f1, f3, f2⟩
  simp only at f1 f2 f3 ⊢
  refine Tot.bind (Tot.rdl f1 (by omega)) fun y hy => ?_
  rw [if_pos (by simp; omega), show w64 (i - 1) = i - 1 from w64_id (by omega) (by omega)]
  have := hmem y hy
  exact ih (_, y, i - 1, b1, s2) ⟨this, by simp only; omega, by simp; omega, by simp only; omega, by simp only; omega⟩ (by simp only; omega)) k ([0], 0 * 64 + ks.getD 0 0, m, a1, s1) (by simp only; unfold Big at hk; omega) ⟨by simp only; omega, by simp only; omega, by simp; omega, by simp only; omega, by simp only; omega⟩
 refine Tot.bind L ?_
 rintro ⟨l, a2, s2⟩ ⟨h2, h3⟩
 simp only at h2 h3 ⊢
 refine Tot.bind (pick_ok hc (P _ (by omega) (by omega)) _) ?_
 rintro ⟨t, a3, s3⟩ ⟨_, _, h4⟩
 simp only at h4 ⊢
 refine Tot.bind (P := fun r => r.1.length ≤ 20) ?_ fun r hr => Tot.ret hr
 refine Tot.ite (fun g => ?_) (fun g => ?_)
 ·refine Tot.bind (pick_ok hc (P _ (by omega) (by omega)) _) ?_
  rintro ⟨t1, a4, s4⟩ ⟨f1, f2, h5⟩
  simp only at f1 f2 h5 ⊢
  refine Tot.bind (nodeOf_ok hc (P _ (by omega) (by omega)) (by omega) n d ks hT.1.1) ?_
  rintro ⟨t2, a5, s5⟩ ⟨_, h6⟩
  exact Tot.bind (Tot.rdl f1 (by omega)) fun _ _ => Tot.ret (by simp; omega)
 ·refine Tot.bind (P := fun r => r.1.length ≤ 20) ?_ fun r hr => Tot.ret hr
  refine Tot.ite (fun g => ?_) (fun g => ?_)
  ·refine Tot.bind (pick_ok hc (P _ (by omega) (by omega)) _) ?_
   rintro ⟨t1, a4, s4⟩ ⟨f1, f2, h5⟩
   simp only
   rw [if_pos (by simp; omega)]
   exact Tot.ret (by simp; omega)
  ·refine Tot.bind (P := fun r => r.length ≤ 20) (Tot.ite (fun _ => Tot.ret (by simp)) (fun _ => Tot.ret (by omega))) fun r hr => Tot.ret hr
theorem DrawGoodSteps_ok (hk : Big ≤ k) (hc : CodeOk c) : Tot (spec_DrawGoodSteps.f k c) (fun r => TrS r.1 r.2.1 r.2.2.1 r.2.2.2.1 ∧ r.2.2.2.2.length ≤ 20) := by
 unfold spec_DrawGoodSteps.f spec_DrawIsTrapWalk.f
 refine Tot.bind (P := fun r => TrS r.1 r.2.1 r.2.2.1 r.2.2.2.1 ∧ r.2.2.2.2.length ≤ 20) ?_ fun r hr => Tot.ret hr
 refine Tot.bind (trap_ok hk hc (by unfold Pos; omega) (by omega)) ?_
 rintro ⟨n, d, ks, tr, a1, s1⟩ ⟨hT, h1⟩
 simp only at hT h1 ⊢
 refine Tot.bind (trapWalk_ok hk hc (by unfold Pos; omega) (by omega) n d ks tr hT) ?_
 rintro ⟨l, a2, s2⟩ h2
 exact Tot.ret ⟨hT, h2⟩
theorem DrawStepsFrom_ok (hk : Big ≤ k) (hc : CodeOk c) : Tot (spec_DrawStepsFrom.f k c) (fun r => TrS r.1 r.2.1 r.2.2.1 r.2.2.2.1) := by
 unfold spec_DrawStepsFrom.f
 refine Tot.bind (trap_ok hk hc (by unfold Pos; omega) (by omega)) ?_
 rintro ⟨n, d, ks, tr, a1, s1⟩ ⟨hT, h1⟩
 simp only at hT h1 ⊢
 refine Tot.bind (nodeOf_ok hc (by unfold Pos; omega) (by omega) n d ks hT.1.1) ?_
 rintro ⟨x, a2, s2⟩ ⟨_, h2⟩
 simp only at h2 ⊢
 refine Tot.bind (colours_ok hk hc (by unfold Pos; omega) (by omega)) ?_
 rintro ⟨y, a3, s3⟩ _
 exact Tot.ret hT
theorem DrawTrapFreeSets_ok (hk : Big ≤ k) (hc : CodeOk c) : Tot (spec_DrawTrapFreeSets.f k c) (fun r => TrS r.1 r.2.1 r.2.2.1 r.2.2.2) := by
 unfold spec_DrawTrapFreeSets.f spec_DrawIsTrap.f
 refine Tot.bind (P := fun r => TrS r.1 r.2.1 r.2.2.1 r.2.2.2) ?_ fun r hr => Tot.ret hr
 refine Tot.bind (trap_ok hk hc (by unfold Pos; omega) (by omega)) ?_
 rintro ⟨n, d, ks, tr, a1, s1⟩ ⟨hT, h1⟩
 exact Tot.ret hT

def StP (n : Int) (d : List Door) (ks tr : List Int) (x s : Int) : Prop := IsTrapP n d ks tr ∧ (0 ≤ x ∧ x ≤ n - 1) ∧ 0 ≤ s ∧ s ≤ 63
noncomputable instance (n : Int) (d : List Door) (ks tr : List Int) (x s : Int) : Decidable (StP n d ks tr x s) := Classical.propDecidable _
theorem IsGood_eq (hk : Big ≤ k) (n : Int) (d : List Door) (ks tr : List Int) (x s : Int) (hd : d.length ≤ 1048576) (hks : ks.length ≤ 1048576) (ht : tr.length ≤ 1048576) :
  impl_IsGood.f k n d ks tr x s = some (if StP n d ks tr x s then (godB n d ks tr (x * 64 + s).toNat, true) else (false, false)) := by
 unfold impl_IsGood.f
 rw [isTrapState_eq hk n d ks tr x s hd hks ht]
 by_cases h : StP n d ks tr x s
 rotate_left 1
 ·rw [if_neg h, decide_eq_false (show ¬ (IsTrapP n d ks tr ∧ (0 ≤ x ∧ x ≤ n - 1) ∧ 0 ≤ s ∧ s ≤ 63) from h)]; rfl
 rw [if_pos h]
 obtain ⟨hT, hx, hs⟩ := id h
 have hm := hT.1
 have om := hm.okm
 have hlo := om.lo
 have hhi := om.hi
 obtain ⟨D, e1, e2, e3⟩ := toTrapGoal_eq hk hm ht
 obtain ⟨a, rfl⟩ := Int.eq_ofNat_of_zero_le hx.1
 obtain ⟨b, rfl⟩ := Int.eq_ofNat_of_zero_le hs.1
 have hi : a * 64 + b < n.toNat * 64 := by omega
 have hid : ((a : Int) * 64 + (b : Int)) = ((a * 64 + b : Nat) : Int) := by omega
 have hg1 : 0 ≤ (a : Int) ∧ (a : Int) < 12 := by omega
 have hg2 : 0 ≤ (b : Int) ∧ (b : Int) < 64 := by omega
 have hat : D.at ((a * 64 + b : Nat) : Int) = D.l.getD (a * 64 + b) 0 := rfl
 have hsame : decide (D.l.getD (a * 64 + b) 0 ≥ 0) = godB n d ks tr (a * 64 + b) := by
  rw [Bool.eq_iff_iff, decide_eq_true_eq, godB_iff]
  exact dist_iff om e2 e3 hi
 rw [decide_eq_true (show IsTrapP n d ks tr ∧ (0 ≤ (a : Int) ∧ (a : Int) ≤ n - 1) ∧ 0 ≤ (b : Int) ∧ (b : Int) ≤ 63 from ⟨hT, hx, hs⟩)]
 rw [hid, Int.toNat_natCast]
 simp only [Option.bind_some, Bool.not_true, Bool.false_eq_true, if_false, e1, if_pos hg1, if_pos hg2, hid, hat, hsame]
theorem god_step (n : Int) (d : List Door) (ks tr : List Int) (i : Nat) : godB n d ks tr i = (goalT n i || (nxT n d ks tr i).any (godB n d ks tr)) := by
  rw [Bool.eq_iff_iff, godB_iff, Bool.or_eq_true, List.any_eq_true]
  constructor
  · rintro ⟨v, h⟩
    cases h with
    | here h => exact .inl h
    | step hj hp => exact .inr ⟨_, hj, godB_iff.2 ⟨_, hp⟩⟩
  · rintro (h | ⟨j, hj, hg⟩)
    · exact ⟨0, .here h⟩
    · obtain ⟨v, hp⟩ := godB_iff.1 hg
      exact ⟨v + 1, .step hj hp⟩
theorem CountMet_eq (hk : Big ≤ k) (n : Int) (d : List Door) (ks tr : List Int) (hd : d.length ≤ 1048576) (hks : ks.length ≤ 1048576) (ht : tr.length ≤ 1048576) :
  impl_CountMet.f k n d ks tr = some (if IsTrapP n d ks tr then (cntM (metB n d ks tr) (n.toNat * 64), ((appUpto (lostI (metB n d ks tr) (godB n d ks tr)) (n.toNat * 64)).length : Int), true) else (0, 0, false)) := by
 unfold impl_CountMet.f
 rw [IsTrap_eq hk n d ks tr hd hks ht]
 by_cases hT : IsTrapP n d ks tr
 rotate_left 1
 ·rw [decide_eq_false hT, if_neg hT]; rfl
 have hm := hT.1
 obtain ⟨e1, _⟩ := lost_both hk hm ht
 have hll := (lost_len (metB n d ks tr) (godB n d ks tr) (n.toNat * 64)).1
 rw [decide_eq_true hT, if_pos hT]
 simp only [Option.bind_some, Bool.not_true, Bool.false_eq_true, if_false, e1, hll]
theorem metF_zero {n : Int} {d : List Door} {ks tr : List Int} (om : Okm n d ks) : metF n d ks tr 0 = metB n d ks tr := by
 funext i
 rw [Bool.eq_iff_iff, metF_iff, metB_iff, bor_zero (keys_getD om.keys 0)]
theorem TrapFreeSets_eq (hk : Big ≤ k) (n : Int) (d : List Door) (ks tr : List Int) (hd : d.length ≤ 1048576) (hks : ks.length ≤ 1048576) (ht : tr.length ≤ 1048576) :
  impl_TrapFreeSets.f k n d ks tr = some (if IsTrapP n d ks tr then (appUpto (fun i => if freeB n d ks tr i = true then [(i : Int)] else []) 64, true) else ([], false)) := by
 unfold impl_TrapFreeSets.f
 rw [IsTrap_eq hk n d ks tr hd hks ht]
 by_cases hT : IsTrapP n d ks tr
 rotate_left 1
 ·rw [decide_eq_false hT, if_neg hT]; rfl
 have hm := hT.1
 have e1 := those_eq hk (fun z0 => impl_TrapFreeSets_1.f k z0 n d ks tr) (freeB n d ks tr) (fun i hi => by
  unfold impl_TrapFreeSets_1.f freeB
  rw [lost_implF hk hm ht (i : Int) (by omega), Option.bind_some]
  simp only [(lost_len (metF n d ks tr (i : Int)) (godB n d ks tr) (n.toNat * 64)).1])
 rw [decide_eq_true hT, if_pos hT]
 simp only [Option.bind_some, Bool.not_true, Bool.false_eq_true, if_false, e1]
theorem free_zero {n : Int} {d : List Door} {ks tr : List Int} (om : Okm n d ks) : (appUpto (fun i => if freeB n d ks tr i = true then [(i : Int)] else []) 64).contains 0 = (((appUpto (lostI (metB n d ks tr) (godB n d ks tr)) (n.toNat * 64)).length : Int) == 0) := by
 have e : freeB n d ks tr 0 = (((appUpto (lostI (metB n d ks tr) (godB n d ks tr)) (n.toNat * 64)).length : Int) == 0) := by
  unfold freeB
  rw [show (((0 : Nat) : Int)) = 0 from rfl, metF_zero om]
 rw [← e, Bool.eq_iff_iff, List.contains_iff_mem, mem_app]
 constructor
 ·rintro ⟨i, _, h⟩
  split at h
  ·rename_i hf
   have : (0 : Int) = (i : Int) := List.mem_singleton.1 h
   have : i = 0 := by omega
   rw [this] at hf; exact hf
  ·cases h
 ·intro h
  exact ⟨0, by omega, by rw [if_pos h]; simp⟩
theorem StateBehind_eq (hk : Big ≤ k) (n : Int) (d : List Door) (ks tr l : List Int) (hd : d.length ≤ 1048576) (hks : ks.length ≤ 1048576) (ht : tr.length ≤ 1048576) (hl : l.length ≤ 1048576) :
  impl_StateBehind.f k n d ks tr l = some (if IsTrapP n d ks tr then behindR n d ks tr l else (0, 0, false)) := by
 unfold impl_StateBehind.f
 rw [IsTrap_eq hk n d ks tr hd hks ht, Option.bind_some]
 by_cases h : IsTrapP n d ks tr
 ·rw [decide_eq_true h, if_pos h, if_neg (by simp), trapWalk_eq hk n d ks tr l h.1 ht hl]; rfl
 ·rw [decide_eq_false h, if_neg h]; rfl
theorem IsTrapWalk_both (hk : Big ≤ k) (n : Int) (d : List Door) (ks tr l : List Int) (hd : d.length ≤ 1048576) (hks : ks.length ≤ 1048576) (ht : tr.length ≤ 1048576) (hl : l.length ≤ 1048576) :
  impl_IsTrapWalk.f k n d ks tr l = some (if IsTrapP n d ks tr then ((behindR n d ks tr l).2.2, true) else (false, false)) ∧ spec_IsTrapWalk.f k n d ks tr l = some (if IsTrapP n d ks tr then ((behindR n d ks tr l).2.2, true) else (false, false)) := by
 constructor
 ·unfold impl_IsTrapWalk.f
  rw [IsTrap_eq hk n d ks tr hd hks ht, Option.bind_some]
  by_cases h : IsTrapP n d ks tr
  ·rw [decide_eq_true h, if_pos h, if_neg (by simp), trapWalk_eq hk n d ks tr l h.1 ht hl]; rfl
  ·rw [decide_eq_false h, if_neg h]; rfl
 ·unfold spec_IsTrapWalk.f
  rw [l11Trap_eq hk n d ks tr hd hks ht, l11Behind_eq hk n d ks tr l hd hks ht hl]
  by_cases h : IsTrapP n d ks tr
  ·rw [decide_eq_true h]; simp [h]
  ·rw [decide_eq_false h]; simp [h]
theorem behindR_range {n : Int} {d : List Door} {ks tr l : List Int} (om : Okm n d ks) (hb : (behindR n d ks tr l).2.2 = true) : (0 ≤ (behindR n d ks tr l).1 ∧ (behindR n d ks tr l).1 < n) ∧ 0 ≤ (behindR n d ks tr l).2.1 ∧ (behindR n d ks tr l).2.1 ≤ 63 := by
  have hlo := om.lo
  unfold behindR at hb ⊢
  split
  · simp at hb
  · rename_i x r
    split
    · rename_i hx
      simp only [hx, if_true] at hb
      cases hp : behindP n d ks tr 0 (ks.getD 0 0) r with
      | none => rw [hp] at hb; cases hb
      | some z => obtain ⟨y, u⟩ := z; exact behindP_range om r 0 _ y u (by omega) (keys_getD om.keys 0) hp
    · rename_i hx
      simp only [hx, if_false] at hb; cases hb
noncomputable def goodR (n : Int) (d : List Door) (ks tr l : List Int) : List Int × Bool :=
 if IsTrapP n d ks tr ∧ (behindR n d ks tr l).2.2 = true then ((stepN d tr n (behindR n d ks tr l).1 (behindR n d ks tr l).2.1).filter fun y => godB n d ks tr (idOf ks (behindR n d ks tr l).2.1 y).toNat, true) else ([], false)
theorem GoodSteps_eq (hk : Big ≤ k) (n : Int) (d : List Door) (ks tr l : List Int) (hd : d.length ≤ 1048576) (hks : ks.length ≤ 1048576) (ht : tr.length ≤ 1048576) (hl : l.length ≤ 1048576) :
    impl_GoodSteps.f k n d ks tr l = some (goodR n d ks tr l) := by
  unfold impl_GoodSteps.f goodR
  rw [StateBehind_eq hk n d ks tr l hd hks ht hl, Option.bind_some]
  by_cases hT : IsTrapP n d ks tr
  rotate_left 1
  · rw [if_neg hT, if_neg (fun e => hT e.1)]; rfl
  rw [if_pos hT]
  have hm := hT.1
  have om := hm.okm
  have hlo := om.lo
  have hhi := om.hi
  have hlen := om.len
  cases hb : (behindR n d ks tr l).2.2 with
  | false =>
    rw [if_neg (fun e => by cases e.2)]
    generalize behindR n d ks tr l = r at hb ⊢
    obtain ⟨x, s, b⟩ := r
    simp only at hb
    subst hb
    simp
  | true =>
    rw [if_pos ⟨hT, rfl⟩]
    have hrg := behindR_range om hb
    generalize behindR n d ks tr l = r at hb hrg ⊢
    obtain ⟨x, s, b⟩ := r
    simp only at hb hrg ⊢
    subst hb
    obtain ⟨D, e1, e2, e3⟩ := toTrapGoal_eq hk hm ht
    obtain ⟨t, m1, m2⟩ := bind_some (trapMembers_eq hk n d ks tr x s hm ht hrg.2)
    have hsl := stepN_length d tr n x s
    have hY : ∀ y ∈ stepN d tr n x s, 0 ≤ y ∧ y.toNat < n.toNat := fun y hy => stepN_mem hy
    generalize stepN d tr n x s = Y at *
    have hid : ∀ y ∈ Y, 0 ≤ idOf ks s y ∧ (idOf ks s y).toNat < n.toNat * 64 := fun y hy => idOf_range om.keys hrg.2 (hY y hy)
    have hp : ∀ y ∈ Y, decide (D.l.getD (idOf ks s y).toNat 0 < 0) = !godB n d ks tr (idOf ks s y).toNat := fun y hy => by
      have h1 := dist_iff om e2 e3 (hid y hy).2
      rw [← godB_iff] at h1
      cases hv : godB n d ks tr (idOf ks s y).toNat with
      | true =>
        have h2 := h1.2 hv
        rw [decide_eq_false (show ¬ D.l.getD (idOf ks s y).toNat 0 < 0 by omega)]; rfl
      | false =>
        have : ¬ 0 ≤ D.l.getD (idOf ks s y).toNat 0 := fun h0 => by have := h1.1 h0; rw [hv] at this; cases this
        rw [decide_eq_true (show D.l.getD (idOf ks s y).toNat 0 < 0 by omega)]; rfl
    have f1 := deleteFunc1_eq hk Y (by omega) (fun z0 => impl_GoodSteps_1.f k z0 D s n d ks tr) (fun y => decide (D.l.getD (idOf ks s y).toNat 0 < 0)) (fun y hy => by
      have hy0 := hY y hy
      have hbo := (bor_le63 hrg.2 (keys_getD om.keys y.toNat)).1
      have h5 : rdl ks y = some (ks.getD y.toNat 0) := rdl_getDI hy0.1 (by omega) _
      have hg1 : 0 ≤ y ∧ y < 12 := by omega
      have hg2 : 0 ≤ bor s (ks.getD y.toNat 0) ∧ bor s (ks.getD y.toNat 0) < 64 := by omega
      unfold impl_GoodSteps_1.f
      simp only [h5, Option.bind_some, if_pos hg1, if_pos hg2]
      rfl)
    have hfil : Y.filter (fun y => !decide (D.l.getD (idOf ks s y).toNat 0 < 0)) = Y.filter (fun y => godB n d ks tr (idOf ks s y).toNat) := List.filter_congr fun y hy => by rw [hp y hy, Bool.not_not]
    rw [hfil] at f1
    simp only [Bool.not_true, Bool.false_eq_true, if_false, e1, Option.bind_some, m1, m2, f1]

theorem anyT_any {d : List Door} {tr : List Int} {x y s : Int} (h : anyT d tr x y s d.length = true) : d.any (goes x y s) = true := by
 unfold anyT at h
 obtain ⟨i, hi, h⟩ := List.any_eq_true.1 h
 have hi := List.mem_range.1 hi
 rw [List.getElem?_eq_getElem hi] at h
 refine List.any_eq_true.2 ⟨d[i], List.getElem_mem hi, ?_⟩
 simp only [goesT, Bool.and_eq_true, Bool.or_eq_true, decide_eq_true_eq] at h
 unfold goes
 simp only [Bool.and_eq_true, Bool.or_eq_true, decide_eq_true_eq]
 exact ⟨h.1.imp id fun e => e.1, h.2⟩
theorem walk_itx {n : Int} {d : List Door} {ks tr l : List Int} : ∀ (m i : Nat) (o : List Int) (x s : Int) (y u : Int), i + 1 + m = l.length → l.getD i 0 = x → behindP n d ks tr x s (l.drop (i + 1)) = some (y, u) →
    ∃ o', itx (takeG n d ks l) m (i + 1) (o, s) = .inl (o', u)
  | 0, i, o, x, s, y, u, hi, hx, h => by
    rw [List.drop_of_length_le (by omega)] at h
    unfold behindP at h; cases h
    exact ⟨o, rfl⟩
  | m + 1, i, o, x, s, y, u, hi, hx, h => by
    have hlt : i + 1 < l.length := by omega
    rw [List.drop_eq_getElem_cons hlt] at h
    unfold behindP at h
    split at h
    rotate_left 1
    · cases h
    rename_i hc
    rw [Bool.and_eq_true, decide_eq_true_eq] at hc
    have hg : l.getD (i + 1) 0 = l[i + 1] := by rw [List.getD_eq_getElem?_getD, List.getElem?_eq_getElem hlt]; rfl
    have hxi : l[i] = x := by rw [← hx, List.getD_eq_getElem?_getD, List.getElem?_eq_getElem (by omega)]; rfl
    have hb : badT n d l (i + 1) s = false := by
      unfold badT
      rw [dif_pos hlt]
      have := anyT_any hc.2
      simp only [Nat.add_sub_cancel, hxi, this, hc.1, and_self, decide_true, Bool.not_true, Bool.and_false, Bool.or_false, Bool.false_or]
      simp
    have hstep : takeG n d ks l (i + 1) (o, s) = .inl (o ++ [bor s (ks.getD l[i + 1].toNat 0)], bor s (ks.getD l[i + 1].toNat 0)) := by
      unfold takeG
      rw [if_neg (by simp only; rw [hb]; simp)]
      simp only [hg]
    obtain ⟨o', ho⟩ := walk_itx m (i + 1) _ l[i + 1] _ y u (by omega) hg h
    refine ⟨o', ?_⟩
    unfold itx
    rw [hstep]
    exact ho
theorem behind_taken {n : Int} {d : List Door} {ks tr l : List Int} (om : Okm n d ks) (hb : (behindR n d ks tr l).2.2 = true) : (takenP n d ks l).2 = true := by
  have hlo := om.lo
  unfold behindR at hb
  split at hb
  · simp at hb
  · rename_i x r
    split at hb
    rotate_left 1
    · cases hb
    rename_i hx
    subst hx
    cases hp : behindP n d ks tr 0 (ks.getD 0 0) r with
    | none => rw [hp] at hb; cases hb
    | some z =>
      obtain ⟨y, u⟩ := z
      have h0 : takeG n d ks (0 :: r) 0 ([], 0) = .inl ([bor 0 (ks.getD 0 0)], bor 0 (ks.getD 0 0)) := by
        unfold takeG badT
        rw [dif_pos (by simp)]
        simp
        omega
      have hz : bor 0 (ks.getD 0 0) = ks.getD 0 0 := by rw [bor_comm]; exact bor_zero (keys_getD om.keys 0)
      rw [hz] at h0
      obtain ⟨o', ho⟩ := walk_itx (n := n) (d := d) (ks := ks) (tr := tr) (l := 0 :: r) r.length 0 [ks.getD 0 0] 0 (ks.getD 0 0) y u (by simp; omega) rfl (by simpa using hp)
      have : itx (takeG n d ks (0 :: r)) (0 :: r).length 0 ([], 0) = .inl (o', u) := by
        rw [List.length_cons]
        unfold itx
        rw [h0]; exact ho
      unfold takenP
      rw [this]
      simp
theorem IsKeyWalk_eq (hk : Big ≤ k) (n : Int) (d : List Door) (ks l : List Int) (hd : d.length ≤ 1048576) (hks : ks.length ≤ 1048576) (hl : l.length ≤ 1048576) :
  impl_IsKeyWalk.f k n d ks l = some (if IsMaze n d ks then ((takenP n d ks l).2, true) else (false, false)) := by
 unfold impl_IsKeyWalk.f
 rw [IsMaze_eq hk n d ks hd hks, Option.bind_some]
 by_cases h : IsMaze n d ks
 ·rw [decide_eq_true h, if_pos h, if_neg (by simp), taken_eq hk n d ks l h hl]; rfl
 ·rw [decide_eq_false h, if_neg h]; rfl

variable {k : Nat}
theorem rdl_key2 {n : Int} {d : List Door} {ks : List Int} (om : Okm n d ks) {y : Int} (h0 : 0 ≤ y ∧ y.toNat < n.toNat) : rdl ks y = some (ks.getD y.toNat 0) := rdl_getDI h0.1 (by have := om.len; omega) _
theorem IsGood_step (hk : Big ≤ k) {n : Int} {d : List Door} {ks tr : List Int} {x s : Int} (h : StP n d ks tr x s) (hd : d.length ≤ 1048576) (hks : ks.length ≤ 1048576) (ht : tr.length ≤ 1048576) {y : Int} (hy : y ∈ stepN d tr n x s) :
  impl_IsGood.f k n d ks tr y (bor s (ks.getD y.toNat 0)) = some (godB n d ks tr (idOf ks s y).toNat, true) := by
 have om := h.1.1.okm
 have h1 := stepN_mem hy
 have h2 := (bor_le63 h.2.2 (keys_getD om.keys y.toNat)).1
 have h3 : StP n d ks tr y (bor s (ks.getD y.toNat 0)) := ⟨h.1, by have := om.lo; omega, h2⟩
 rw [IsGood_eq hk n d ks tr y _ hd hks ht, if_pos h3]; rfl
theorem stepsR_pos {n : Int} {d : List Door} {ks tr : List Int} {x s : Int} (h : StP n d ks tr x s) : stepsR n d ks tr x s = (stepN d tr n x s, true) := by unfold stepsR; exact if_pos h
theorem stepsR_neg {n : Int} {d : List Door} {ks tr : List Int} {x s : Int} (h : ¬ StP n d ks tr x s) : stepsR n d ks tr x s = ([], false) := by unfold stepsR; exact if_neg h
theorem tail_steps (hk : Big ≤ k) {n : Int} {d : List Door} {ks tr l : List Int} (hd : d.length ≤ 1048576) (hks : ks.length ≤ 1048576) (ht : tr.length ≤ 1048576) (hl : l.length ≤ 1048576) (L : List Int → Int → List Int → Nat → Int → Option (Unit ⊕ Bool))
  (hL : ∀ G s Y q x, L G s Y (q + 1) x = (if (decide (x < (Y.length : Int))) = true then (rdl Y x).bind fun t284 => (rdl Y x).bind fun t292 => (rdl ks t292).bind fun t294 => (impl_IsGood.f k n d ks tr t284 (bor s t294)).bind fun (t297_1, t297_2) => ((if (!t297_2) = true then some true else (rdl Y x).bind fun t306 => (laws_rHas.f k G t306).bind fun t308 => some (t308 != t297_1))).bind fun y311 => (if y311 = true then some (Sum.inr false) else L G s Y q (w64 (x + 1))) else some (Sum.inl ()))) :
  (if (!(goodR n d ks tr l).2) = true then some true else (impl_StateBehind.f k n d ks tr l).bind fun (t242_1, t242_2, t242_3) => (impl_IsKeyWalk.f k n d ks l).bind fun (t250_1, t250_2) => (impl_StepsFrom.f k n d ks tr t242_1 t242_2).bind fun (t257_1, t257_2) => ((if (!t242_3) = true then some true else (if (!t250_2) = true then some true else (if (!t257_2) = true then some true else some (!t250_1))))).bind fun y273 => (if y273 = true then some false else (L (goodR n d ks tr l).1 t242_2 t257_1 k 0).bind fun s => Lr s some fun _ => some (decide (((goodR n d ks tr l).1.length : Int) ≤ (t257_1.length : Int))))) = some true := by
 rw [StateBehind_eq hk n d ks tr l hd hks ht hl, IsKeyWalk_eq hk n d ks l hd hks hl]
 unfold goodR
 by_cases hc : IsTrapP n d ks tr ∧ (behindR n d ks tr l).2.2 = true
 rotate_left 1
 ·rw [if_neg hc]; rfl
 rw [if_pos hc, if_pos hc.1, if_pos hc.1.1]
 have om := hc.1.1.okm
 have hrg := behindR_range om hc.2
 have hbt := behind_taken om hc.2
 rw [hbt]
 generalize behindR n d ks tr l = r at hc hrg ⊢
 obtain ⟨x, s, b⟩ := r
 simp only at hc hrg ⊢
 obtain ⟨hT, rfl⟩ := hc
 have hS : StP n d ks tr x s := ⟨hT, by omega, hrg.2⟩
 have hsf := impl_StepsFrom_eq hk n d ks tr x s hd hks ht
 have hsr : stepsR n d ks tr x s = (stepN d tr n x s, true) := by unfold stepsR; exact if_pos hS
 rw [hsr] at hsf
 have hlen := stepN_length d tr n x s
 have hhi := om.hi
 simp only [Option.bind_some, hsf, Bool.not_true, Bool.false_eq_true, if_false]
 have hgood : ∀ y ∈ stepN d tr n x s, impl_IsGood.f k n d ks tr y (bor s (ks.getD y.toNat 0)) = some (godB n d ks tr (idOf ks s y).toNat, true) := fun y hy => IsGood_step hk hS hd hks ht hy
 have hmem : ∀ y ∈ stepN d tr n x s, 0 ≤ y ∧ y.toNat < n.toNat := fun y hy => stepN_mem hy
 have hfl := List.length_filter_le (fun y => godB n d ks tr (idOf ks s y).toNat) (stepN d tr n x s)
 generalize hG : (stepN d tr n x s).filter (fun y => godB n d ks tr (idOf ks s y).toNat) = G at hfl ⊢
 have hhas : ∀ y ∈ stepN d tr n x s, laws_rHas.f k G y = some (godB n d ks tr (idOf ks s y).toNat) := fun y hy => by
  rw [rHas_eq hk G y (by omega)]
  congr 1
  rw [Bool.eq_iff_iff, List.contains_iff_mem, ← hG, List.mem_filter]
  exact ⟨fun h => h.2, fun h => ⟨hy, h⟩⟩
 generalize stepN d tr n x s = Y at *
 have hloop := Tot.loop (l := fun q (i : Nat) => L G s Y q (i : Int)) (fun i => i ≤ Y.length) (fun i => Y.length - i) (fun r => r = Sum.inl ()) (fun q i hI ih => by
  rw [hL]
  by_cases hi : i < Y.length
  ·have hy := List.getElem_mem hi
   rw [if_pos (by simpa using hi), rdl_lt hi]
   simp only [Option.bind_some]
   rw [rdl_key2 om (hmem _ hy), Option.bind_some, hgood _ hy]
   simp only [Option.bind_some, Bool.not_true, Bool.false_eq_true, if_false, hhas _ hy, bne_self_eq_false]
   rw [show w64 ((i : Int) + 1) = ((i + 1 : Nat) : Int) from w64_id (by omega) (by omega)]
   exact ih (i + 1) (by omega) (by omega)
  ·rw [if_neg (by simpa using hi)]; exact Tot.ret rfl) k 0 (by unfold Big at hk; omega) (by omega)
 obtain ⟨r, h1, rfl⟩ := hloop
 rw [show ((0 : Nat) : Int) = 0 from rfl] at h1
 rw [h1, Option.bind_some]
 simp only [Lr]
 rw [decide_eq_true (by omega)]
theorem first_steps (hk : Big ≤ k) {n : Int} {d : List Door} {ks tr : List Int} {x s : Int} (hS : StP n d ks tr x s) (hd : d.length ≤ 1048576) (hks : ks.length ≤ 1048576) (ht : tr.length ≤ 1048576) :
  laws_FnTrapSteps.l0 k n d ks tr s (stepN d tr n x s) k (x == (w64 (n - 1))) 0 = some (Sum.inl (godB n d ks tr (x * 64 + s).toNat)) := by
 have om := hS.1.1.okm
 have hlo := om.lo
 have hhi := om.hi
 have hlen := stepN_length d tr n x s
 have hgood : ∀ y ∈ stepN d tr n x s, impl_IsGood.f k n d ks tr y (bor s (ks.getD y.toNat 0)) = some (godB n d ks tr (idOf ks s y).toNat, true) := fun y hy => IsGood_step hk hS hd hks ht hy
 have hmem : ∀ y ∈ stepN d tr n x s, 0 ≤ y ∧ y.toNat < n.toNat := fun y hy => stepN_mem hy
 have hgs : godB n d ks tr (x * 64 + s).toNat = ((x == n - 1) || (stepN d tr n x s).any fun y => godB n d ks tr (idOf ks s y).toNat) := by
  obtain ⟨a, rfl⟩ := Int.eq_ofNat_of_zero_le hS.2.1.1
  obtain ⟨b, rfl⟩ := Int.eq_ofNat_of_zero_le hS.2.2.1
  have hb := hS.2.2.2
  rw [god_step]
  have e : ((a : Int) * 64 + (b : Int)).toNat = a * 64 + b := by omega
  have e1 : (a * 64 + b) / 64 = a := by omega
  have e2 : (a * 64 + b) % 64 = b := by omega
  rw [e]
  congr 1
  ·unfold goalT
   rw [e1, Bool.eq_iff_iff, decide_eq_true_eq, beq_iff_eq]
  ·unfold nxT
   rw [e1, e2, List.any_map]; rfl
 rw [hgs, show w64 (n - 1) = n - 1 from w64_id (by omega) (by omega)]
 generalize stepN d tr n x s = Y at *
 generalize (x == n - 1) = b
 have hloop := Tot.loop (l := fun q (p : Bool × Nat) => laws_FnTrapSteps.l0 k n d ks tr s Y q p.1 (p.2 : Int)) (fun p => p.2 ≤ Y.length ∧ (p.1 || (Y.drop p.2).any fun y => godB n d ks tr (idOf ks s y).toNat) = (b || Y.any fun y => godB n d ks tr (idOf ks s y).toNat)) (fun p => Y.length - p.2) (fun r => r = Sum.inl (b || Y.any fun y => godB n d ks tr (idOf ks s y).toNat)) (fun q p hI ih => by
  obtain ⟨b', i⟩ := p
  obtain ⟨h1, h2⟩ := hI
  simp only at h1 h2 ih ⊢
  rw [laws_FnTrapSteps.l0]
  by_cases hi : i < Y.length
  ·have hy := List.getElem_mem hi
   rw [if_pos (by simpa using hi), rdl_lt hi]
   simp only [Option.bind_some]
   rw [rdl_key2 om (hmem _ hy), Option.bind_some, hgood _ hy]
   simp only [Option.bind_some, Bool.not_true, Bool.false_eq_true, if_false]
   rw [show w64 ((i : Int) + 1) = ((i + 1 : Nat) : Int) from w64_id (by omega) (by omega)]
   have e : (if b' = true then some true else some (godB n d ks tr (idOf ks s Y[i]).toNat)) = some (b' || godB n d ks tr (idOf ks s Y[i]).toNat) := by cases b' <;> rfl
   rw [e, Option.bind_some]
   refine ih (b' || godB n d ks tr (idOf ks s Y[i]).toNat, i + 1) ⟨by simp only; omega, ?_⟩ (by simp only; omega)
   rw [← h2, List.drop_eq_getElem_cons hi, List.any_cons]
   simp only
   rw [Bool.or_assoc]
  ·rw [if_neg (by simpa using hi)]
   rw [List.drop_of_length_le (by omega)] at h2
   refine Tot.ret ?_
   rw [← h2]; simp) k (b, 0) (by simp only; unfold Big at hk; omega) ⟨by simp, rfl⟩
 obtain ⟨r, h1, rfl⟩ := hloop
 simp only at h1
 rw [show ((0 : Nat) : Int) = 0 from rfl] at h1
 exact h1
theorem laws_FnTrapSteps.pure (x : List By) (h : wfd x) : ∃ k, laws_FnTrapSteps.f k x = some true := by
  refine ⟨Big, ?_⟩
  have hk : Big ≤ Big := Nat.le_refl _
  unfold laws_FnTrapSteps.f laws_rBig.f
  rw [Option.bind_some]
  by_cases hb : (x.length : Int) > 65536
  · rw [if_pos (by simpa using hb)]
  rw [if_neg (by simpa using hb)]
  have hc := code_ok h (by omega)
  obtain ⟨⟨n, d, ks, tr, l⟩, e1, hT, hl⟩ := DrawGoodSteps_ok (k := Big) hk hc
  obtain ⟨⟨n', d', ks', tr', x', s'⟩, e2, hT'⟩ := DrawStepsFrom_ok (k := Big) hk hc
  obtain ⟨⟨m, c, g, u⟩, e3, hT''⟩ := DrawTrapFreeSets_ok (k := Big) hk hc
  simp only at hT hl hT' hT''
  obtain ⟨⟨_, hd, hks⟩, htr⟩ := hT
  obtain ⟨⟨_, hd', hks'⟩, htr'⟩ := hT'
  obtain ⟨⟨_, hd'', hks''⟩, htr''⟩ := hT''
  have q1 := GoodSteps_eq hk n d ks tr l (by omega) (by omega) (by omega) (by omega)
  obtain ⟨r, q2, q3, rl⟩ := GoodSteps_both hk n d ks tr l (by omega) (by omega) (by omega) (by omega)
  rw [q1] at q2
  obtain rfl := Option.some.inj q2
  have q4 := IsTrapWalk_both hk n d ks tr l (by omega) (by omega) (by omega) (by omega)
  have q5 := impl_StepsFrom_eq hk n' d' ks' tr' x' s' (by omega) (by omega) (by omega)
  have q6 := spec_StepsFrom_eq hk n' d' ks' tr' x' s' (by omega) (by omega) (by omega)
  have q7 := IsGood_eq hk n' d' ks' tr' x' s' (by omega) (by omega) (by omega)
  obtain ⟨r', q8, q9⟩ := IsGood_both hk n' d' ks' tr' x' s' (by omega) (by omega) (by omega)
  rw [q7] at q8
  obtain rfl := Option.some.inj q8
  have q10 := TrapFreeSets_eq hk m c g u (by omega) (by omega) (by omega)
  obtain ⟨r'', q11, q12, rl''⟩ := TrapFreeSets_both hk m c g u (by omega) (by omega) (by omega)
  rw [q10] at q11
  obtain rfl := Option.some.inj q11
  have q13 := CountMet_eq hk m c g u (by omega) (by omega) (by omega)
  have hsl := stepN_length d' tr' n' x' s'
  have q14 := rInts_eq hk (goodR n d ks tr l).1 (goodR n d ks tr l).1 (by omega)
  have t1 := tail_steps hk (n := n) (d := d) (ks := ks) (tr := tr) (l := l) (by omega) (by omega) (by omega) (by omega) (fun G s Y => laws_FnTrapSteps.l1 Big n d ks tr G s Y) (fun G s Y q x => by rw [laws_FnTrapSteps.l1])
  have t2 := tail_steps hk (n := n) (d := d) (ks := ks) (tr := tr) (l := l) (by omega) (by omega) (by omega) (by omega) (fun G s Y => laws_FnTrapSteps.l2 Big n d ks tr G s Y) (fun G s Y q x => by rw [laws_FnTrapSteps.l2])
  have t3 := tail_steps hk (n := n) (d := d) (ks := ks) (tr := tr) (l := l) (by omega) (by omega) (by omega) (by omega) (fun G s Y => laws_FnTrapSteps.l3 Big n d ks tr G s Y) (fun G s Y q x => by rw [laws_FnTrapSteps.l3])
  have t4 := tail_steps hk (n := n) (d := d) (ks := ks) (tr := tr) (l := l) (by omega) (by omega) (by omega) (by omega) (fun G s Y => laws_FnTrapSteps.l4 Big n d ks tr G s Y) (fun G s Y q x => by rw [laws_FnTrapSteps.l4])
  simp only at t1 t2 t3 t4
  have hg2 : (goodR n d ks tr l).2 = (if IsTrapP n d ks tr then (behindR n d ks tr l).2.2 else false) := by
    unfold goodR
    by_cases hT : IsTrapP n d ks tr
    · rw [if_pos hT]
      cases (behindR n d ks tr l).2.2 with
      | true => rw [if_pos ⟨hT, rfl⟩]
      | false => rw [if_neg (fun e => by cases e.2)]
    · rw [if_neg hT, if_neg (fun e => hT e.1)]
  -- the first part
  have p1 : ((if ((goodR n d ks tr l).2 != (goodR n d ks tr l).2) = true then some true else (laws_rInts.f Big (goodR n d ks tr l).1 (goodR n d ks tr l).1).bind fun t71 => some (!t71))) = some false := by
    rw [q14]; simp
  have p2 : ∀ w : Bool × Bool, w = (if IsTrapP n d ks tr then ((behindR n d ks tr l).2.2, true) else (false, false)) → ((if (w.1 != w.1) = true then some true else (if (w.2 != w.2) = true then some true else (if w.2 = true then some ((goodR n d ks tr l).2 != w.1) else some ((goodR n d ks tr l).2 != false))))) = some false := fun w hw => by
    rw [hg2, hw]
    by_cases hT : IsTrapP n d ks tr
    · simp [hT]
    · simp [hT]
  have p3 : ∀ G : Int, ∀ (free : Bool), ((impl_CountMet.f Big m c g u).bind fun (t224_1, t224_2, t224_3) => ((if (!t224_3) = true then some true else (laws_rHas.f Big (appUpto (fun i => if freeB m c g u i = true then [(i : Int)] else []) 64) 0).bind fun t232 => some (t232 != (t224_2 == 0)))).bind fun y236 => some y236) = some false ∨ ¬ IsTrapP m c g u := fun _ _ => by
    by_cases hT : IsTrapP m c g u
    · left
      rw [q13, if_pos hT, rHas_eq hk _ 0 (by have := app_bool_length (freeB m c g u) 64; omega), free_zero hT.1.okm]
      simp
    · exact .inr hT
  have p3' : IsTrapP m c g u → ((if (!true) = true then some true else (laws_rHas.f Big (appUpto (fun i => if freeB m c g u i = true then [(i : Int)] else []) 64) 0).bind fun t232 => some (t232 != (((appUpto (lostI (metB m c g u) (godB m c g u)) (m.toNat * 64)).length : Int) == 0)))) = some false := fun hT => by
    rw [rHas_eq hk _ 0 (by have := app_bool_length (freeB m c g u) 64; omega), free_zero hT.1.okm]
    simp
  simp only [e1, Option.bind_some, q1, q3, p1, Bool.false_eq_true, if_false, q4.1, q4.2, p2 _ rfl, e2, q5, q6]
  have q15 := rInts_eq hk (stepsR n' d' ks' tr' x' s').1 (stepsR n' d' ks' tr' x' s').1 (by have := stepsR_len n' d' ks' tr' x' s'; omega)
  have p4 : ((if ((stepsR n' d' ks' tr' x' s').2 != (stepsR n' d' ks' tr' x' s').2) = true then some true else (laws_rInts.f Big (stepsR n' d' ks' tr' x' s').1 (stepsR n' d' ks' tr' x' s').1).bind fun t128 => some (!t128))) = some false := by
    rw [q15]; simp
  simp only [p4, Option.bind_some, Bool.false_eq_true, if_false, q7, q9]
  have hS2 : (stepsR n' d' ks' tr' x' s').2 = (if StP n' d' ks' tr' x' s' then (godB n' d' ks' tr' (x' * 64 + s').toNat, true) else (false, false)).2 := by
    by_cases hS : StP n' d' ks' tr' x' s'
    · rw [if_pos hS, stepsR_pos hS]
    · rw [if_neg hS, stepsR_neg hS]
  have q16 := rInts_eq hk (if IsTrapP m c g u then (appUpto (fun i => if freeB m c g u i = true then [(i : Int)] else []) 64, true) else ([], false)).1 (if IsTrapP m c g u then (appUpto (fun i => if freeB m c g u i = true then [(i : Int)] else []) 64, true) else ([], false)).1 (by omega)
  simp only [bne_self_eq_false, Bool.false_eq_true, if_false, hS2, Option.bind_some, e3, q10, q12, q16, decide_true, Bool.not_true]
  by_cases hS : StP n' d' ks' tr' x' s'
  · have f1 := first_steps hk hS (by omega) (by omega) (by omega)
    have e5 := stepsR_pos hS
    rw [e5, if_pos hS]
    simp only [if_true, f1, Option.bind_some, Lr, bne_self_eq_false, Bool.false_eq_true, if_false]
    by_cases hT : IsTrapP m c g u
    · simp only [if_pos hT, if_true, q13, Option.bind_some, p3' hT, Bool.false_eq_true, if_false]
      exact t1
    · simp only [if_neg hT, Bool.false_eq_true, if_false]
      exact t2
  · rw [if_neg hS]
    simp only [Bool.false_eq_true, if_false]
    by_cases hT : IsTrapP m c g u
    · simp only [if_pos hT, if_true, q13, Option.bind_some, p3' hT, Bool.false_eq_true, if_false]
      exact t3
    · simp only [if_neg hT, Bool.false_eq_true, if_false]
      exact t4
end Go.Proofs

/- A part of the proof of FnTraps: the plain law. No condition. -/
import Derived.Test.YtebbaacgalipaaaGreatFnTrapsB
import Derived.Test.YtebbaacgalipaaaGreatFnTrapsC
import Derived.Test.YtebbaacgalipaaaGreatFnTrapsD
import Derived.Test.YtebbaacgalipaaaGreatFnTrapsE
import Derived.Test.YtebbaacgalipaaaGreatFnTrapsF
import Derived.Test.YtebbaacgalipaaaGreatFnTrapsG
import Derived.Test.YtebbaacgalipaaaGreatFnTrapsH
set_option linter.unusedSimpArgs false
namespace Go.Proofs
open Go Go.Ga Go.Ga.Wf
set_option linter.unusedVariables false
set_option linter.unusedSimpArgs false
theorem visF_one (c v : Int) (q : (List Int × List Int) × List Nat) (j : Nat) : ((visF c v q j).1.1, (visF c v q j).2) = vis v (q.1.1, q.2) j := by
 unfold visF vis; simp only; split <;> rfl
theorem bf_fold {nx : Nat → List Nat} {a m : Nat} {V : List Int} (hm : m ≤ V.length) {i : Nat} (hi : i < V.length) (h0 : 0 ≤ V.getD i 0) (hb0 : V.getD i 0 ≤ cp V) (hs0 : Rc nx a i) (ha : 0 ≤ V.getD a 0) : ∀ (L : List Nat) (q : (List Int × List Int) × List Nat), FI nx a m V (q.1.1, q.2) → Bf nx a q.1.1 q.1.2 → (∀ j ∈ L, j ∈ nx i ∧ j < m) →
    FI nx a m V ((L.foldl (visF (i : Int) (V.getD i 0 + 1)) q).1.1, (L.foldl (visF (i : Int) (V.getD i 0 + 1)) q).2) ∧ Bf nx a (L.foldl (visF (i : Int) (V.getD i 0 + 1)) q).1.1 (L.foldl (visF (i : Int) (V.getD i 0 + 1)) q).1.2
  | [], q, h1, h2, _ => ⟨h1, h2⟩
  | j :: L, q, h1, h2, hL => by
    have hj := hL j (List.mem_cons_self ..)
    have hlen := h1.len
    simp only at hlen
    have hki := h1.keep i h0
    have hka := h1.keep a ha
    simp only at hki hka
    have g1 := (h1.vis hm hi h0 hb0 hs0 hj.1 hj.2).1
    rw [← visF_one (i : Int)] at g1
    have g2 := h2.visF (by rw [hka]; exact ha) (c := i) (by omega) (by rw [hki]; exact h0) (j := j) (by omega)
    rw [hki] at g2
    exact bf_fold hm hi h0 hb0 hs0 ha L _ g1 g2 (fun t ht => hL t (List.mem_cons_of_mem _ ht))
section
variable {k : Nat}
theorem first_l2 (hk : Big ≤ k) {n : Int} {d : List Door} {ks tr : List Int} (hm : IsMaze n d ks) (a i : Nat) (hi : i < n.toNat * 64) (V B : List Int) (hV : V.length = n.toNat * 64) (done rest : List Nat) (hW : WI (nxT n d ks tr) a (n.toNat * 64) V (i :: rest)) (hB : Bf (nxT n d ks tr) a V B) (hdl : done.length ≤ 1000) (hrl : rest.length ≤ 1000) :
  spec_FirstToLose.l2 k (i : Int) ((stepN d tr n ((i / 64 : Nat) : Int) ((i % 64 : Nat) : Int)).map (idOf ks ((i % 64 : Nat) : Int))) k ((done ++ i :: rest).map fun (j : Nat) => (j : Int)) B 0 = some (((done ++ i :: rest).map fun (j : Nat) => (j : Int)) ++ ((nxT n d ks tr i).foldl (visF (i : Int) (V.getD i 0 + 1)) ((V, B), [])).2.map (fun (j : Nat) => (j : Int)), ((nxT n d ks tr i).foldl (visF (i : Int) (V.getD i 0 + 1)) ((V, B), [])).1.2) := by
 have om := hm.okm
 have hlo := om.lo
 have hhi := om.hi
 have hti := hW.tin i (List.mem_cons_self ..)
 have hcl := cp_le V
 have hsl := stepN_length d tr n ((i / 64 : Nat) : Int) ((i % 64 : Nat) : Int)
 have hnl : (nxT n d ks tr i).length = (stepN d tr n ((i / 64 : Nat) : Int) ((i % 64 : Nat) : Int)).length := by unfold nxT; rw [List.length_map]
 have hFI0 : FI (nxT n d ks tr) a (n.toNat * 64) V (V, []) := ⟨rfl, fun _ _ => rfl, hW.bnd, hW.sound, (fun t ht => by cases ht), fun t ht => .inl ht, rfl⟩
 have hpre : ∀ j, FI (nxT n d ks tr) a (n.toNat * 64) V ((((nxT n d ks tr i).take j).foldl (visF (i : Int) (V.getD i 0 + 1)) ((V, B), [])).1.1, (((nxT n d ks tr i).take j).foldl (visF (i : Int) (V.getD i 0 + 1)) ((V, B), [])).2) ∧ Bf (nxT n d ks tr) a (((nxT n d ks tr i).take j).foldl (visF (i : Int) (V.getD i 0 + 1)) ((V, B), [])).1.1 (((nxT n d ks tr i).take j).foldl (visF (i : Int) (V.getD i 0 + 1)) ((V, B), [])).1.2 := fun j =>
  bf_fold (by omega) (by omega) hti.2 (hW.bnd i) (hW.sound i (by omega) hti.2) hW.start _ _ hFI0 hB (fun t ht => ⟨List.mem_of_mem_take ht, nxT_lt om tr _ _ (List.mem_of_mem_take ht)⟩)
 have := loop_state (l := fun q (p : List Int × List Int) j => spec_FirstToLose.l2 k (i : Int) ((stepN d tr n ((i / 64 : Nat) : Int) ((i % 64 : Nat) : Int)).map (idOf ks ((i % 64 : Nat) : Int))) q p.1 p.2 j) (N := (nxT n d ks tr i).length)
  (g := fun j _ => (((done ++ i :: rest).map fun (j : Nat) => (j : Int)) ++ (((nxT n d ks tr i).take (j + 1)).foldl (visF (i : Int) (V.getD i 0 + 1)) ((V, B), [])).2.map (fun (j : Nat) => (j : Int)), (((nxT n d ks tr i).take (j + 1)).foldl (visF (i : Int) (V.getD i 0 + 1)) ((V, B), [])).1.2)) (out := some)
  (fun j p => p = (((done ++ i :: rest).map fun (j : Nat) => (j : Int)) ++ (((nxT n d ks tr i).take j).foldl (visF (i : Int) (V.getD i 0 + 1)) ((V, B), [])).2.map (fun (j : Nat) => (j : Int)), (((nxT n d ks tr i).take j).foldl (visF (i : Int) (V.getD i 0 + 1)) ((V, B), [])).1.2)) (fun q j p hj hP => by
  refine ⟨?_, rfl⟩
  obtain ⟨hF, hBf⟩ := hpre j
  have htk : (nxT n d ks tr i).take (j + 1) = (nxT n d ks tr i).take j ++ [(nxT n d ks tr i)[j]] := by rw [List.take_add_one, List.getElem?_eq_getElem hj]; rfl
  rw [htk, List.foldl_append, List.foldl_cons, List.foldl_nil]
  subst hP
  have hjm := nxT_lt om tr i _ (List.getElem_mem hj)
  generalize ((nxT n d ks tr i).take j).foldl (visF (i : Int) (V.getD i 0 + 1)) ((V, B), []) = z at *
  have hlm : ((stepN d tr n ((i / 64 : Nat) : Int) ((i % 64 : Nat) : Int)).map (idOf ks ((i % 64 : Nat) : Int))).length = (nxT n d ks tr i).length := by rw [List.length_map, hnl]
  have hlt : ((j : Int) < (((stepN d tr n ((i / 64 : Nat) : Int) ((i % 64 : Nat) : Int)).map (idOf ks ((i % 64 : Nat) : Int))).length : Int)) := by omega
  have hw : w64 ((j : Int) + 1) = ((j + 1 : Nat) : Int) := w64_id (by omega) (by omega)
  have hr : rdl ((stepN d tr n ((i / 64 : Nat) : Int) ((i % 64 : Nat) : Int)).map (idOf ks ((i % 64 : Nat) : Int))) (j : Int) = some (((nxT n d ks tr i)[j] : Nat) : Int) := by
   have hjs : j < (stepN d tr n ((i / 64 : Nat) : Int) ((i % 64 : Nat) : Int)).length := by omega
   have hg : (nxT n d ks tr i)[j] = (idOf ks ((i % 64 : Nat) : Int) (stepN d tr n ((i / 64 : Nat) : Int) ((i % 64 : Nat) : Int))[j]).toNat := by simp only [nxT, List.getElem_map]
   have hrg := (idOf_range om.keys (s := ((i % 64 : Nat) : Int)) (by omega) (stepN_mem (List.getElem_mem hjs))).1
   rw [hg, rdl_nat, List.getElem?_map, List.getElem?_eq_getElem hjs, Int.toNat_of_nonneg hrg]; rfl
  generalize (nxT n d ks tr i)[j] = y at *
  have hpl := hF.len
  have hcnt := hF.cnt
  have hcp2 := cp_le z.1.1
  simp only at hpl hcnt
  have hbl := hBf.len
  have h6 : rdl z.1.2 (y : Int) = some (z.1.2.getD y 0) := rdl_getD (by omega) _
  have hneg := hBf.neg y (by omega)
  have hb2 : ∀ v : Int, ((((done ++ i :: rest).map fun (j : Nat) => (j : Int)) ++ z.2.map (fun (j : Nat) => (j : Int))) ++ [v]).length < 1099511627776 := fun v => by
   simp only [List.length_append, List.length_map, List.length_cons, List.length_nil]; omega
  show spec_FirstToLose.l2 k (i : Int) ((stepN d tr n ((i / 64 : Nat) : Int) ((i % 64 : Nat) : Int)).map (idOf ks ((i % 64 : Nat) : Int))) (q + 1) _ z.1.2 (j : Int) = _
  rw [spec_FirstToLose.l2]
  simp only [hlt, decide_true, if_true, hr, Option.bind_some, h6, hw, if_pos (hb2 _)]
  unfold visF
  by_cases hv : z.1.1.getD y 0 < 0
  ·have hv' := hneg.2 hv
   simp only [hv, hv', decide_true, if_true, Option.bind_some, Int.toNat_natCast, List.map_append, List.map_cons, List.map_nil, List.append_assoc]
  ·have hv' : ¬ z.1.2.getD y 0 < 0 := fun h => hv (hneg.1 h)
   simp only [hv, hv', decide_false, Bool.false_eq_true, if_false, Option.bind_some]) (fun q p hP => by
  show spec_FirstToLose.l2 k (i : Int) ((stepN d tr n ((i / 64 : Nat) : Int) ((i % 64 : Nat) : Int)).map (idOf ks ((i % 64 : Nat) : Int))) (q + 1) p.1 p.2 (((nxT n d ks tr i).length : Nat) : Int) = _
  rw [spec_FirstToLose.l2, hnl]; simp) (k := k) (by unfold Big at hk; omega) (s := ((done ++ i :: rest).map fun (j : Nat) => (j : Int), B)) (by simp)
 have h2 := this.2
 rw [List.take_length] at h2
 rw [this.1, h2]
theorem first_l1 (hk : Big ≤ k) {nx : Nat → List Nat} {a : Nat} {V B : List Int} (hB : Bf nx a V B) (hz : V.getD a 0 = 0) (hVl : V.length ≤ 768) (hle : ∀ t, V.getD t 0 ≤ 768) (t : Nat) (ht : t < V.length) (h0 : 0 ≤ V.getD t 0) : ∃ r, spec_FirstToLose.l1 k (a : Int) B k [] (t : Int) = some r ∧ (r.length : Int) = V.getD t 0 := by
 have hbl := hB.len
 have := loop_good (l := fun q (s : List Int × Nat) => spec_FirstToLose.l1 k (a : Int) B q s.1 (s.2 : Int)) (fun s => s.2 < V.length ∧ 0 ≤ V.getD s.2 0 ∧ (s.1.length : Int) + V.getD s.2 0 = V.getD t 0) (fun s => (V.getD s.2 0).toNat) (fun r => (r.length : Int) = V.getD t 0) (fun q ⟨r, u⟩ hI => by
  obtain ⟨i1, i2, i3⟩ := hI
  simp only at i1 i2 i3
  simp only
  have hlt := hle t
  rw [spec_FirstToLose.l1]
  by_cases hu : u = a
  ·right
   refine ⟨r, by rw [hu]; simp, ?_⟩
   rw [hu, hz] at i3; omega
  ·left
   obtain ⟨w, p1, p2, p3, p4⟩ := hB.pre u i1 hu i2
   have hne : ((u : Int) != (a : Int)) = true := by rw [bne_iff_ne]; omega
   have hr : rdl B (u : Int) = some (w : Int) := by rw [rdl_getD (by omega) 0, p2]
   have hq : quo (u : Int) 64 = ((u / 64 : Nat) : Int) := quo64n u (by omega)
   have hb2 : ([((u / 64 : Nat) : Int)] ++ r).length < 1099511627776 := by rw [List.length_append, List.length_singleton]; omega
   refine ⟨([((u / 64 : Nat) : Int)] ++ r, w), by simp only [hne, if_true, hq, if_pos hb2, hr, Option.bind_some], ⟨p1, p3, ?_⟩, by simp only; omega⟩
   simp only [List.length_append, List.length_cons, List.length_nil]; omega) k ([], t) (by simp only; have := hle t; unfold Big at hk; omega) ⟨ht, h0, by simp⟩
 simpa using this
end

theorem Bf.init {nx : Nat → List Nat} {a m : Nat} (ha : a < m) : Bf nx a ((List.replicate m (-1 : Int)).set a 0) ((List.replicate m (-1 : Int)).set a (a : Int)) := by
 have hr : ∀ t, t < m → (List.replicate m (-1 : Int)).getD t 0 = -1 := fun t h => by rw [List.getD_eq_getElem?_getD, List.getElem?_replicate, if_pos h]; rfl
 refine ⟨by simp, fun t ht => ?_, ?_, fun t ht hta h0 => ?_⟩
 ·rw [getD_set, getD_set]
  by_cases h : a = t
  ·rw [if_pos ⟨h, by simpa using ha⟩, if_pos ⟨h, by simpa using ha⟩]; omega
  ·rw [if_neg (fun h' => h h'.1), if_neg (fun h' => h h'.1)]
 ·rw [getD_set, if_pos ⟨rfl, by simpa using ha⟩]
 ·simp only [List.length_set, List.length_replicate] at ht
  rw [getD_set, if_neg (fun h' => hta h'.1.symm), hr t ht] at h0; omega
def FstG (nx : Nat → List Nat) (gd : Nat → Bool) (a : Nat) (r : Unit ⊕ (List Int × Bool)) : Prop :=
 (r = .inl () ∧ ∀ t v, Rp nx a t v → gd t = true) ∨ ∃ (w : List Int) (i L : Nat), r = .inr (w, true) ∧ w.length = L + 1 ∧ gd i = false ∧ Rp nx a i L ∧ ∀ t v, Rp nx a t v → gd t = false → L ≤ v
section
variable {k : Nat}
theorem first_l0 (hk : Big ≤ k) {n : Int} {d : List Door} {ks tr : List Int} (hm : IsMaze n d ks) (ht : tr.length ≤ 1048576) (o : List Bool) (gd : Nat → Bool) (ho : o.length = n.toNat * 64) (hog : ∀ i, i < n.toNat * 64 → o.getD i false = gd i) (a : Nat) (ha : a < n.toNat * 64) (V B : List Int) (hV : V.length = n.toNat * 64) (hW : WI (nxT n d ks tr) a (n.toNat * 64) V [a]) (hBI : BI (nxT n d ks tr) a (n.toNat * 64) V [a]) (hBf : Bf (nxT n d ks tr) a V B) (hon : ∀ t, t < n.toNat * 64 → 0 ≤ V.getD t 0 → t = a) :
    ∃ r, spec_FirstToLose.l0 k n d ks tr o (a : Int) k [(a : Int)] B 0 = some r ∧ FstG (nxT n d ks tr) gd a r := by
  have om := hm.okm
  have hlo := om.lo
  have hhi := om.hi
  exact loop_good (l := fun q (s : (List Int × List Int) × List Nat × List Nat) => spec_FirstToLose.l0 k n d ks tr o (a : Int) q ((s.2.1 ++ s.2.2).map fun (j : Nat) => (j : Int)) s.1.2 (s.2.1.length : Int)) (fun s => s.1.1.length = n.toNat * 64 ∧ (WI (nxT n d ks tr) a (n.toNat * 64) s.1.1 s.2.2 ∧ BI (nxT n d ks tr) a (n.toNat * 64) s.1.1 s.2.2 ∧ Bf (nxT n d ks tr) a s.1.1 s.1.2) ∧ s.2.1.length + s.2.2.length ≤ cp s.1.1 ∧ ∀ t, t < n.toNat * 64 → 0 ≤ s.1.1.getD t 0 → t ∈ s.2.2 ∨ gd t = true) (fun s => 2 * (768 - cp s.1.1) + s.2.2.length) (FstG (nxT n d ks tr) gd a) (fun q ⟨⟨V, B⟩, done, td⟩ hI => by
    obtain ⟨i1, ⟨i2, i4, i5⟩, i3, i6⟩ := hI
    simp only at i1 i2 i3 i4 i5 i6
    simp only
    have hcl := cp_le V
    rw [spec_FirstToLose.l0]
    cases td with
    | nil =>
      right
      refine ⟨.inl (), by simp, .inl ⟨rfl, fun t v hr => ?_⟩⟩
      have h1 := i4.least ha (fun i _ => nxT_lt om tr i) hr
      rcases i6 t h1.1 h1.2.1 with h2 | h2
      · cases h2
      · exact h2
    | cons i rest =>
      rw [List.length_cons] at i3
      have hti := i2.tin i (List.mem_cons_self ..)
      have hlt : decide ((done.length : Int) < (((done ++ i :: rest).map fun (j : Nat) => (j : Int)).length : Int)) = true := by
        rw [decide_eq_true_eq, List.length_map, List.length_append, List.length_cons]; omega
      have hr : rdl ((done ++ i :: rest).map fun (j : Nat) => (j : Int)) (done.length : Int) = some (i : Int) := by
        rw [rdl_nat, List.getElem?_map, List.getElem?_append_right (Nat.le_refl _)]; simp
      have hro : rdl o (i : Int) = some (gd i) := by rw [rdl_getD (by omega) false, hog i hti.1]
      cases hgi : gd i with
      | false =>
        right
        obtain ⟨w, w1, w2⟩ := first_l1 (k := k) hk i5 i4.z (by omega) (fun t => by have := i2.bnd t; omega) i (by omega) hti.2
        have hbi := i2.bnd i
        have hb2 : ([(0 : Int)] ++ w).length < 1099511627776 := by rw [List.length_append, List.length_singleton]; omega
        refine ⟨.inr ([0] ++ w, true), by simp only [hlt, if_true, hr, hro, hgi, Bool.not_false, Option.bind_some, w1, if_pos hb2], .inr ⟨[0] ++ w, i, (V.getD i 0).toNat, rfl, by rw [List.length_append, List.length_singleton]; omega, hgi, i4.rp i hti.2 (by omega), fun t v hrp hgt => ?_⟩⟩
        rcases Nat.lt_or_ge v (V.getD i 0).toNat with hv | hv
        · have h1 := i4.near ha (fun i _ => nxT_lt om tr i) hrp (by omega)
          rcases i6 t h1.1 h1.2.1 with h2 | h2
          · rcases List.mem_cons.1 h2 with h2 | h2
            · rw [h2] at h1; omega
            · have := (List.pairwise_cons.1 i4.sort).1 t h2; omega
          · rw [h2] at hgt; cases hgt
        · exact hv
      | true =>
        left
        have hpop := i2.pop (by omega) (nxT_lt om tr i)
        have hpopB := i4.pop i2 (by omega) (nxT_lt om tr i)
        have e2 := first_l2 hk hm (tr := tr) a i hti.1 V B i1 done rest i2 i5 (by omega) (by omega)
        have e1 := l11Step_eq hk n d ks tr ((i / 64 : Nat) : Int) ((i % 64 : Nat) : Int) hm ht (by omega)
        rw [step_map, show appUpto (fun y => if anyT d tr ((i / 64 : Nat) : Int) (y : Int) ((i % 64 : Nat) : Int) d.length = true then [(y : Int)] else []) n.toNat = stepN d tr n ((i / 64 : Nat) : Int) ((i % 64 : Nat) : Int) from rfl] at e1
        have hrel := visF_rel (i : Int) (V.getD i 0 + 1) (nxT n d ks tr i) ((V, B), [])
        have hFI0 : FI (nxT n d ks tr) a (n.toNat * 64) V (V, []) := ⟨rfl, fun _ _ => rfl, i2.bnd, i2.sound, (fun t ht => by cases ht), fun t ht => .inl ht, rfl⟩
        have hbf := (bf_fold (m := n.toNat * 64) (by omega) (by omega) hti.2 (i2.bnd i) (i2.sound i (by omega) hti.2) i2.start (nxT n d ks tr i) ((V, B), []) hFI0 i5 (fun t ht => ⟨ht, nxT_lt om tr _ _ ht⟩)).2
        simp only at hrel
        rw [← hrel] at hpop hpopB
        generalize (nxT n d ks tr i).foldl (visF (i : Int) (V.getD i 0 + 1)) ((V, B), []) = z at *
        obtain ⟨⟨V', B'⟩, news⟩ := z
        simp only at hpop hpopB hbf e2
        have hcnt := hpop.2.cnt
        have hzl := hpop.2.len
        have honly := hpop.2.only
        simp only at hcnt hzl honly
        have hcz := cp_le V'
        have hww : w64 ((done.length : Int) + 1) = (((done ++ [i]).length : Nat) : Int) := by rw [w64_id (by omega) (by omega), List.length_append]; rfl
        have hlist : ((done ++ i :: rest).map fun (j : Nat) => (j : Int)) ++ (news.map fun (j : Nat) => (j : Int)) = ((done ++ [i]) ++ (rest ++ news)).map fun (j : Nat) => (j : Int) := by
          rw [← List.map_append]; congr 1; simp
        refine ⟨((V', B'), done ++ [i], rest ++ news), ?_, ⟨by simp only; omega, ⟨hpop.1, hpopB, hbf⟩, by simp only [List.length_append, List.length_singleton]; omega, fun t ht h0 => ?_⟩, by simp only [List.length_append, List.length_cons]; omega⟩
        · simp only [hlt, if_true, hr, hro, hgi, Bool.not_true, Bool.false_eq_true, if_false, Option.bind_some, quo64n i (by omega), rem64n, e1, e2, hww, hlist]
        · simp only at h0 ⊢
          rcases honly t h0 with h1 | h1
          · rcases i6 t ht h1 with h2 | h2
            · rcases List.mem_cons.1 h2 with h2 | h2
              · right; rw [h2]; exact hgi
              · left; exact List.mem_append_left _ h2
            · exact .inr h2
          · left; exact List.mem_append_right _ h1) k ((V, B), [], [a]) (by have := cp_le V; simp only [List.length_singleton]; unfold Big at hk; omega) ⟨hV, ⟨hW, hBI, hBf⟩, by have := hW.tl; simpa using this, fun t h1 h2 => .inl (by rw [hon t h1 h2]; exact List.mem_singleton.2 rfl)⟩
end

section
variable {k : Nat}
theorem FirstToLose_spec (hk : Big ≤ k) {n : Int} {d : List Door} {ks tr : List Int} (hT : IsTrapP n d ks tr) (hd : d.length ≤ 1048576) (hks : ks.length ≤ 1048576) (ht : tr.length ≤ 1048576) :
  ∃ r, FstG (nxT n d ks tr) (godB n d ks tr) (ks.getD 0 0).toNat r ∧ spec_FirstToLose.f k n d ks tr = some (match r with | .inl _ => ([], false) | .inr w => w) := by
 have hm := hT.1
 have om := hm.okm
 have hlo := om.lo
 have hhi := om.hi
 have hlen := om.len
 have hk0 := keys_getD om.keys 0
 have hr0 : rdl ks 0 = some (ks.getD 0 0) := rdl_getD (i := 0) (by omega) 0
 obtain ⟨o, g4, g5, g6⟩ := l11Good_eq hk hm ht
 have hO : ∀ i, i < n.toNat * 64 → o.getD i false = godB n d ks tr i := fun i hi => by
  rw [Bool.eq_iff_iff, g6 i hi, godB_iff]
 obtain ⟨b, hb⟩ := Int.eq_ofNat_of_zero_le hk0.1
 rw [hb] at hr0 hk0
 have hid := l4Id_eq (k := k) 0 (b : Int) (by omega) hk0
 rw [Int.zero_mul, Int.zero_add] at hid
 have ha : b < n.toNat * 64 := by omega
 have hnone := l10None_eq (k := k) hk o.length (by omega)
 rw [g5] at hnone
 have hrep : ∀ t, t < (List.replicate (n.toNat * 64) (-1 : Int)).length → (List.replicate (n.toNat * 64) (-1 : Int)).getD t 0 = -1 := fun t h => by
  rw [List.length_replicate] at h
  rw [List.getD_eq_getElem?_getD, List.getElem?_replicate, if_pos h]; rfl
 have hrb : rdl (List.replicate (n.toNat * 64) (-1 : Int)) (b : Int) = some (-1) := by rw [rdl_getD (by simpa using ha) 0, hrep b (by simpa using ha)]
 obtain ⟨r, r1, r2⟩ := first_l0 hk hm ht o (godB n d ks tr) g5 hO b ha ((List.replicate (n.toNat * 64) (-1 : Int)).set b 0) ((List.replicate (n.toNat * 64) (-1 : Int)).set b (b : Int)) (by simp) (WI.init hrep ha (by simp)) (BI.init hrep (by simpa using ha) (by simp)) (Bf.init ha) (fun t h1 h2 => by
  rw [getD_set] at h2
  by_cases h : b = t
  ·exact h.symm
  ·rw [if_neg (fun h' => h h'.1), hrep t (by simpa using h1)] at h2; omega)
 refine ⟨r, by rw [hb, Int.toNat_natCast]; exact r2, ?_⟩
 unfold spec_FirstToLose.f
 rw [l11Trap_eq hk n d ks tr hd hks ht, decide_eq_true hT]
 simp only [Option.bind_some, Bool.not_true, Bool.false_eq_true, if_false, hr0, g4, hid, g5, hnone, hrb, Int.toNat_natCast, r1]
 cases r <;> rfl
theorem toLost_eq (hk : Big ≤ k) {n : Int} {d : List Door} {ks tr : List Int} (hm : IsMaze n d ks) (ht : tr.length ≤ 1048576) :
    ∃ D, impl_toLost.f k n d ks tr = some D ∧ DI (nxT n d ks tr) (fun i => !godB n d ks tr i) (n.toNat * 64) D.l ∧ ∀ i, i < n.toNat * 64 → ∀ j ∈ nxT n d ks tr i, Rlx D.l i j := by
  have om := hm.okm
  have hlo := om.lo
  have hhi := om.hi
  obtain ⟨G, g1, g2, g3⟩ := toTrapGoal_eq hk hm ht
  obtain ⟨D, e1, e2⟩ := trapTo_eq hk hm ht (fun z0 z1 => impl_toLost_1.f k z0 z1 G) (fun i => !godB n d ks tr i) (fun x s hx hs => by
    have hg1 : 0 ≤ (x : Int) ∧ (x : Int) < 12 := by omega
    have hg2 : 0 ≤ (s : Int) ∧ (s : Int) < 64 := by omega
    have hat : G.at ((x : Int) * 64 + (s : Int)) = G.l.getD (x * 64 + s) 0 := at_nat G (by omega)
    have hi := dist_iff om g2 g3 (i := x * 64 + s) (by omega)
    rw [← godB_iff] at hi
    unfold impl_toLost_1.f
    rw [if_pos hg1, if_pos hg2, hat]
    congr 1
    cases hgd : godB n d ks tr (x * 64 + s) with
    | true =>
      have := hi.2 hgd
      rw [decide_eq_false (by omega)]; rfl
    | false =>
      have : G.l.getD (x * 64 + s) 0 < 0 := by
        rcases Int.lt_or_le (G.l.getD (x * 64 + s) 0) 0 with h | h
        · exact h
        · rw [hi.1 h] at hgd; cases hgd
      rw [decide_eq_true this]; rfl)
  refine ⟨D, ?_, e2⟩
  unfold impl_toLost.f
  rw [g1, Option.bind_some, e1]; rfl
theorem FewestToLose_both (hk : Big ≤ k) (n : Int) (d : List Door) (ks tr : List Int) (hd : d.length ≤ 1048576) (hks : ks.length ≤ 1048576) (ht : tr.length ≤ 1048576) :
    ∃ r : Int × Bool, impl_FewestToLose.f k n d ks tr = some r ∧ spec_FewestToLose.f k n d ks tr = some r := by
  unfold impl_FewestToLose.f spec_FewestToLose.f
  rw [IsTrap_eq hk n d ks tr hd hks ht]
  by_cases hT : IsTrapP n d ks tr
  rotate_left 1
  · have e : spec_FirstToLose.f k n d ks tr = some ([], false) := by
      unfold spec_FirstToLose.f
      rw [l11Trap_eq hk n d ks tr hd hks ht, decide_eq_false hT]; rfl
    rw [decide_eq_false hT, e]; exact ⟨(0, false), rfl, rfl⟩
  have hm := hT.1
  have om := hm.okm
  have hlo := om.lo
  have hhi := om.hi
  have hlen := om.len
  have hk0 := keys_getD om.keys 0
  have hr0 : rdl ks 0 = some (ks.getD 0 0) := rdl_getD (i := 0) (by omega) 0
  obtain ⟨D, g1, g2, g3⟩ := toLost_eq hk hm ht
  obtain ⟨r, f1, f2⟩ := FirstToLose_spec hk hT hd hks ht
  obtain ⟨b, hb⟩ := Int.eq_ofNat_of_zero_le hk0.1
  rw [hb] at f1 hr0 hk0
  rw [Int.toNat_natCast] at f1
  have ha : b < n.toNat * 64 := by omega
  have hnx : ∀ i, i < n.toNat * 64 → ∀ j ∈ nxT n d ks tr i, j < n.toNat * 64 := fun i _ => nxT_lt om tr i
  have hg2 : 0 ≤ (b : Int) ∧ (b : Int) < 64 := by omega
  have hat : D.at (0 * 64 + (b : Int)) = D.l.getD b 0 := at_nat D (by omega)
  have hbnd := g2.bnd b
  have hcl := cp_le D.l
  rw [D.len] at hcl
  have hDb : 0 ≤ D.l.getD b 0 → ∃ t, godB n d ks tr t = false ∧ Rp (nxT n d ks tr) b t (D.l.getD b 0).toNat := fun h0 => by
    obtain ⟨t, h1, h2⟩ := (g2.sound b (by rw [D.len]; omega) h0).rp
    refine ⟨t, ?_, h2⟩
    cases h : godB n d ks tr t with
    | true => rw [h] at h1; cases h1
    | false => rfl
  have hRb : ∀ t v, Rp (nxT n d ks tr) b t v → godB n d ks tr t = false → 0 ≤ D.l.getD b 0 ∧ D.l.getD b 0 ≤ v := fun t v hrp hgt => by
    have h1 := Rp.pth hrp (goal := fun i => !godB n d ks tr i) (.here (by rw [hgt]; rfl))
    exact dist_complete g2 hnx g3 h1 ha
  rw [decide_eq_true hT]
  simp only [Option.bind_some, Bool.not_true, Bool.false_eq_true, if_false, g1, hr0, if_pos hg2, hat, f2]
  unfold impl_told.f imax
  generalize D.l.getD b 0 = w at *
  rcases f1 with ⟨rfl, e2⟩ | ⟨wl, i, L, rfl, e2, e3, e4, e5⟩
  · have hw : w < 0 := by
      rcases Int.lt_or_le w 0 with h | h
      · exact h
      · obtain ⟨t, h1, h2⟩ := hDb h
        rw [e2 t _ h2] at h1; cases h1
    have hw2 : ¬ w ≥ 0 := by omega
    exact ⟨(0, false), by simp only [hw, if_true, hw2, decide_false, Option.bind_some], rfl⟩
  · have h1 := hRb i L e4 e3
    obtain ⟨t, h2, h3⟩ := hDb h1.1
    have h4 := e5 t _ h3 h2
    have hw : ¬ w < 0 := by omega
    have hw2 : w ≥ 0 := by omega
    refine ⟨(w, true), by simp only [hw, if_false, hw2, decide_true, Option.bind_some], ?_⟩
    simp only [Bool.not_true, Bool.false_eq_true, if_false, e2]
    rw [w64_id (by omega) (by omega)]
    congr 2; omega
end

section
variable {k : Nat}
end

def lx : List Nat → List Nat → Prop
  | x :: xs, y :: ys => x < y ∨ (x = y ∧ lx xs ys)
  | _, _ => False
theorem lx_irr : ∀ (p : List Nat), ¬ lx p p
  | [] => fun h => h
  | x :: p => fun h => by
    rcases h with h | h
    · omega
    · exact lx_irr p h.2
theorem lx_trans : ∀ {p q r : List Nat}, lx p q → lx q r → lx p r
  | x :: p, y :: q, z :: r, h, k => by
    rcases h with h | h <;> rcases k with k | k
    · exact .inl (by omega)
    · exact .inl (by omega)
    · exact .inl (by omega)
    · exact .inr ⟨by omega, lx_trans h.2 k.2⟩
  | [], _, _, h, _ => h.elim
  | _ :: _, [], _, h, _ => h.elim
  | _ :: _, _ :: _, [], _, k => k.elim
theorem lx_app : ∀ {p q : List Nat} (s t : List Nat), lx p q → lx (p ++ s) (q ++ t)
  | x :: p, y :: q, s, t, h => by
    rcases h with h | h
    · exact .inl h
    · exact .inr ⟨h.1, lx_app s t h.2⟩
  | [], _, _, _, h => h.elim
  | _ :: _, [], _, _, h => h.elim
theorem lx_snoc : ∀ (p : List Nat) {x y : Nat}, x < y → lx (p ++ [x]) (p ++ [y])
  | [], x, y, h => .inl h
  | z :: p, x, y, h => .inr ⟨rfl, lx_snoc p h⟩
def klt (p q : List Nat) : Prop := p.length < q.length ∨ (p.length = q.length ∧ lx p q)
def kle (p q : List Nat) : Prop := p = q ∨ klt p q
theorem klt_trans {p q r : List Nat} (h : klt p q) (k : klt q r) : klt p r := by
 rcases h with h | h <;> rcases k with k | k
 ·exact .inl (by omega)
 ·exact .inl (by omega)
 ·exact .inl (by omega)
 ·exact .inr ⟨by omega, lx_trans h.2 k.2⟩
theorem klt_irr (p : List Nat) : ¬ klt p p := fun h => by
 rcases h with h | h
 ·omega
 ·exact lx_irr p h.2
theorem kle_trans {p q r : List Nat} (h : kle p q) (k : kle q r) : kle p r := by
 rcases h with rfl | h
 ·exact k
 ·rcases k with rfl | k
  ·exact .inr h
  ·exact .inr (klt_trans h k)
theorem kle_len {p q : List Nat} (h : kle p q) : p.length ≤ q.length := by
 rcases h with rfl | h | h <;> omega
theorem klt_snoc {p q : List Nat} (x y : Nat) (h : klt p q) : klt (p ++ [x]) (q ++ [y]) := by
 rcases h with h | h
 ·exact .inl (by simp; omega)
 ·exact .inr ⟨by simp; omega, lx_app _ _ h.2⟩
theorem kle_snoc {p q : List Nat} (x : Nat) (h : kle p q) : kle (p ++ [x]) (q ++ [x]) := by
 rcases h with rfl | h
 ·exact .inl rfl
 ·exact .inr (klt_snoc x x h)
theorem klt_more {p q : List Nat} (y : Nat) (h : kle p q) : klt p (q ++ [y]) := .inl (by have := kle_len h; simp; omega)
theorem kle_anti {p q : List Nat} (h : kle p q) (k : kle q p) : p = q := by
 rcases h with h | h
 ·exact h
 ·rcases k with k | k
  ·exact k.symm
  ·exact (klt_irr p (klt_trans h k)).elim
inductive Sp (nx : Nat → List Nat) (a : Nat) : List Nat → Nat → Prop
  | nil : Sp nx a [] a
  | snoc {p : List Nat} {u j : Nat} : Sp nx a p u → j ∈ nx u → Sp nx a (p ++ [j]) j
theorem Sp.rp {nx : Nat → List Nat} {a : Nat} {p : List Nat} {t : Nat} (h : Sp nx a p t) : Rp nx a t p.length := by
  induction h with
  | nil => exact .here
  | snoc _ hj ih => rw [List.length_append]; exact .step ih hj
theorem Sp.cons {nx : Nat → List Nat} {a b : Nat} (hb : b ∈ nx a) {p : List Nat} {t : Nat} (h : Sp nx b p t) : Sp nx a (b :: p) t := by
  induction h with
  | nil => exact .snoc (p := []) .nil hb
  | snoc _ hj ih => rw [← List.cons_append]; exact .snoc ih hj
theorem Sp.uncons {nx : Nat → List Nat} {a : Nat} {p : List Nat} {t : Nat} (h : Sp nx a p t) : (p = [] ∧ t = a) ∨ ∃ b q, p = b :: q ∧ b ∈ nx a ∧ Sp nx b q t := by
  induction h with
  | nil => exact .inl ⟨rfl, rfl⟩
  | snoc h hj ih =>
    rcases ih with ⟨rfl, rfl⟩ | ⟨b, q, rfl, hb, hs⟩
    · exact .inr ⟨_, [], rfl, hj, .nil⟩
    · exact .inr ⟨b, q ++ [_], rfl, hb, .snoc hs hj⟩
structure OD (nx : Nat → List Nat) (a m : Nat) (V B : List Int) (done td : List Nat) (pf : Nat → List Nat) : Prop where
 a0 : pf a = []
 vis : ∀ t, t < m → (0 ≤ V.getD t 0 ↔ t ∈ done ++ td)
 lt : ∀ t ∈ done ++ td, t < m
 sp : ∀ t ∈ done ++ td, Sp nx a (pf t) t
 len : ∀ t ∈ done ++ td, ((pf t).length : Int) = V.getD t 0
 par : ∀ t ∈ done ++ td, t ≠ a → ∃ u : Nat, u ∈ done ∧ B.getD t 0 = u ∧ pf t = pf u ++ [t]
 sort : (done ++ td).Pairwise (fun u v => klt (pf u) (pf v))
 cl : ∀ u ∈ done, ∀ j ∈ nx u, j ∈ done ++ td ∧ kle (pf j) (pf u ++ [j])
structure OF (nx : Nat → List Nat) (a m i : Nat) (done rest : List Nat) (q : (List Int × List Int) × List Nat) (pf0 pf : Nat → List Nat) (pre : List Nat) : Prop where
 lenV : q.1.2.length = q.1.1.length
 hm : m ≤ q.1.1.length
 keep : ∀ t ∈ done ++ i :: rest, pf t = pf0 t
 vis : ∀ t, t < m → (0 ≤ q.1.1.getD t 0 ↔ t ∈ (done ++ i :: rest) ++ q.2)
 lt : ∀ t ∈ (done ++ i :: rest) ++ q.2, t < m
 sp : ∀ t ∈ (done ++ i :: rest) ++ q.2, Sp nx a (pf t) t
 len : ∀ t ∈ (done ++ i :: rest) ++ q.2, ((pf t).length : Int) = q.1.1.getD t 0
 par : ∀ t ∈ (done ++ i :: rest) ++ q.2, t ≠ a → ∃ u : Nat, u ∈ done ++ [i] ∧ q.1.2.getD t 0 = u ∧ pf t = pf u ++ [t]
 sort : ((done ++ i :: rest) ++ q.2).Pairwise (fun u v => klt (pf u) (pf v))
 new : ∀ u ∈ q.2, pf u = pf i ++ [u]
 bl : ∀ u ∈ done ++ i :: rest, ∀ j, klt (pf u) (pf i ++ [j])
 cl : ∀ j ∈ pre, j ∈ (done ++ i :: rest) ++ q.2 ∧ kle (pf j) (pf i ++ [j])
theorem OF.step {nx : Nat → List Nat} {a m i : Nat} {done rest : List Nat} {q : (List Int × List Int) × List Nat} {pf0 pf : Nat → List Nat} {pre : List Nat} (h : OF nx a m i done rest q pf0 pf pre) (ha : a ∈ done ++ i :: rest) {j : Nat} (hj : j < m) (hji : j ∈ nx i) (hlt : ∀ u ∈ q.2, u < j) {v : Int} (hv : v = q.1.1.getD i 0 + 1) :
  ∃ pf', OF nx a m i done rest (visF (i : Int) v q j) pf0 pf' (pre ++ [j]) := by
 have him : i ∈ done ++ i :: rest := List.mem_append_right _ (List.mem_cons_self ..)
 have hil := h.len i (List.mem_append_left _ him)
 have hlV := h.lenV
 have hmV := h.hm
 unfold visF
 by_cases hn : q.1.1.getD j 0 < 0
 rotate_left 1
 ·rw [if_neg hn]
  refine ⟨pf, h.lenV, h.hm, h.keep, h.vis, h.lt, h.sp, h.len, h.par, h.sort, h.new, h.bl, fun t ht => ?_⟩
  rcases List.mem_append.1 ht with ht | ht
  ·exact h.cl t ht
  ·rw [List.mem_singleton.1 ht]
   have hjm := (h.vis j hj).1 (by omega)
   refine ⟨hjm, ?_⟩
   rcases List.mem_append.1 hjm with h1 | h1
   ·exact .inr (h.bl j h1 j)
   ·exact .inl (h.new j h1)
 ·rw [if_pos hn]
  have hnm : j ∉ (done ++ i :: rest) ++ q.2 := fun hh => by have := (h.vis j hj).2 hh; omega
  have hne : ∀ t ∈ (done ++ i :: rest) ++ q.2, t ≠ j := fun t ht e => hnm (e ▸ ht)
  have hij : i ≠ j := hne i (List.mem_append_left _ him)
  refine ⟨fun t => if t = j then pf i ++ [j] else pf t, ?_⟩
  have hpk : ∀ t, t ≠ j → (if t = j then pf i ++ [j] else pf t) = pf t := fun t ht => if_neg ht
  have hmem : ∀ t, t ∈ (done ++ i :: rest) ++ (q.2 ++ [j]) ↔ (t ∈ (done ++ i :: rest) ++ q.2 ∨ t = j) := fun t => by
   rw [← List.append_assoc, List.mem_append (t := [j]), List.mem_singleton]
  have hold : ∀ t ∈ (done ++ i :: rest) ++ q.2, (q.1.1.set j v).getD t 0 = q.1.1.getD t 0 ∧ (q.1.2.set j (i : Int)).getD t 0 = q.1.2.getD t 0 := fun t ht => by
   rw [getD_set, getD_set, if_neg (fun hh => hne t ht hh.1.symm), if_neg (fun hh => hne t ht hh.1.symm)]; exact ⟨rfl, rfl⟩
  refine ⟨by rw [List.length_set, List.length_set]; exact h.lenV, by rw [List.length_set]; exact h.hm, fun t ht => ?_, fun t ht => ?_, fun t ht => ?_, fun t ht => ?_, fun t ht => ?_, fun t ht hta => ?_, ?_, fun u hu => ?_, fun u hu j' => ?_, fun t ht => ?_⟩
  ·rw [hpk t (hne t (List.mem_append_left _ ht))]; exact h.keep t ht
  ·(try simp only); rw [hmem, getD_set]
   by_cases htj : j = t
   ·rw [if_pos ⟨htj, by omega⟩, hv]
    exact ⟨fun _ => .inr htj.symm, fun _ => by omega⟩
   ·rw [if_neg (fun hh => htj hh.1), h.vis t ht]
    exact ⟨.inl, fun hh => by rcases hh with hh | hh; exact hh; exact (htj hh.symm).elim⟩
  ·rcases (hmem t).1 ht with h1 | h1
   ·exact h.lt t h1
   ·rw [h1]; exact hj
  ·(try simp only)
   rcases (hmem t).1 ht with h1 | h1
   ·rw [hpk t (hne t h1)]; exact h.sp t h1
   ·rw [if_pos h1, h1]; exact .snoc (h.sp i (List.mem_append_left _ him)) hji
  ·(try simp only)
   rcases (hmem t).1 ht with h1 | h1
   ·rw [hpk t (hne t h1), (hold t h1).1]; exact h.len t h1
   ·rw [if_pos h1, h1, getD_set, if_pos ⟨rfl, by omega⟩, List.length_append, List.length_singleton, hv]; omega
  ·(try simp only)
   rcases (hmem t).1 ht with h1 | h1
   ·obtain ⟨u, h2, h3, h4⟩ := h.par t h1 hta
    have hub : u ∈ (done ++ i :: rest) ++ q.2 := List.mem_append_left _ (by
     rcases List.mem_append.1 h2 with h2 | h2
     ·exact List.mem_append_left _ h2
     ·rw [List.mem_singleton.1 h2]; exact him)
    exact ⟨u, h2, by rw [(hold t h1).2]; exact h3, by rw [hpk t (hne t h1), hpk u (hne u hub)]; exact h4⟩
   ·refine ⟨i, List.mem_append_right _ (List.mem_singleton.2 rfl), ?_, ?_⟩
    ·rw [h1, getD_set, if_pos ⟨rfl, by omega⟩]
    ·rw [if_pos h1, hpk i hij, h1]
  ·(try simp only)
   rw [← List.append_assoc, List.pairwise_append]
   refine ⟨h.sort.imp_of_mem fun {x y} hx hy hxy => by rw [hpk x (hne x hx), hpk y (hne y hy)]; exact hxy, List.pairwise_singleton _ _, fun x hx y hy => ?_⟩
   rw [List.mem_singleton.1 hy, if_pos rfl, hpk x (hne x hx)]
   rcases List.mem_append.1 hx with h1 | h1
   ·exact h.bl x h1 j
   ·rw [h.new x h1]
    exact .inr ⟨by simp, lx_snoc _ (hlt x h1)⟩
  ·simp only at hu ⊢
   rw [hpk i hij]
   rcases List.mem_append.1 hu with h1 | h1
   ·rw [hpk u (hne u (List.mem_append_right _ h1))]; exact h.new u h1
   ·rw [List.mem_singleton.1 h1, if_pos rfl]
  ·(try simp only)
   rw [hpk i hij, hpk u (hne u (List.mem_append_left _ hu))]; exact h.bl u hu j'
  ·(try simp only)
   rw [hpk i hij, hmem]
   rcases List.mem_append.1 ht with h1 | h1
   ·have h2 := h.cl t h1
    rw [hpk t (hne t h2.1)]; exact ⟨.inl h2.1, h2.2⟩
   ·rw [List.mem_singleton.1 h1, if_pos rfl]; exact ⟨.inr rfl, .inl rfl⟩
theorem OF.fold {nx : Nat → List Nat} {a m i : Nat} {done rest : List Nat} {pf0 : Nat → List Nat} (ha : a ∈ done ++ i :: rest) {v : Int} : ∀ (L pre : List Nat) (q : (List Int × List Int) × List Nat) (pf : Nat → List Nat), OF nx a m i done rest q pf0 pf pre → (∀ j ∈ L, j ∈ nx i ∧ j < m) → L.Pairwise (· < ·) → (∀ u ∈ q.2, ∀ j ∈ L, u < j) → v = q.1.1.getD i 0 + 1 →
    ∃ pf', OF nx a m i done rest (L.foldl (visF (i : Int) v) q) pf0 pf' (pre ++ L)
  | [], pre, q, pf, h, _, _, _, _ => ⟨pf, by rw [List.append_nil]; exact h⟩
  | j :: L, pre, q, pf, h, hL, hs, hu, hv => by
    have hj := hL j (List.mem_cons_self ..)
    have hs' := List.pairwise_cons.1 hs
    have him : i ∈ (done ++ i :: rest) ++ q.2 := List.mem_append_left _ (List.mem_append_right _ (List.mem_cons_self ..))
    have hi0 := (h.vis i (h.lt i him)).2 him
    obtain ⟨pf', h'⟩ := h.step ha hj.2 hj.1 (fun u hh => hu u hh j (List.mem_cons_self ..)) hv
    have hvi : (visF (i : Int) v q j).1.1.getD i 0 = q.1.1.getD i 0 := by
      unfold visF
      split
      · rename_i hc
        simp only
        rw [getD_set, if_neg (fun hh => by rw [hh.1] at hc; omega)]
      · rfl
    have := OF.fold (v := v) ha L (pre ++ [j]) _ pf' h' (fun t ht => hL t (List.mem_cons_of_mem _ ht)) hs'.2 (fun u hh t ht => by
      unfold visF at hh
      split at hh
      · simp only at hh
        rcases List.mem_append.1 hh with h1 | h1
        · exact hu u h1 t (List.mem_cons_of_mem _ ht)
        · rw [List.mem_singleton.1 h1]; exact hs'.1 t ht
      · exact hu u hh t (List.mem_cons_of_mem _ ht)) (by rw [hvi]; exact hv)
    rw [List.append_assoc] at this
    exact this
theorem OD.pop {nx : Nat → List Nat} {a m : Nat} {V B : List Int} {done rest : List Nat} {i : Nat} {pf : Nat → List Nat} (h : OD nx a m V B done (i :: rest) pf) (hB : B.length = V.length) (hm : m ≤ V.length) (ha : a < m) (ha0 : 0 ≤ V.getD a 0) (hn : ∀ j ∈ nx i, j < m) (hs : (nx i).Pairwise (· < ·)) :
  ∃ pf', OD nx a m ((nx i).foldl (visF (i : Int) (V.getD i 0 + 1)) ((V, B), [])).1.1 ((nx i).foldl (visF (i : Int) (V.getD i 0 + 1)) ((V, B), [])).1.2 (done ++ [i]) (rest ++ ((nx i).foldl (visF (i : Int) (V.getD i 0 + 1)) ((V, B), [])).2) pf' := by
 have ham := (h.vis a ha).1 ha0
 have hsrt := List.pairwise_append.1 h.sort
 have hsrt2 := List.pairwise_cons.1 hsrt.2.1
 have hdi : ∀ u ∈ done, klt (pf u) (pf i) := fun u hu => hsrt.2.2 u hu i (List.mem_cons_self ..)
 have h0 : OF nx a m i done rest ((V, B), []) pf pf [] := by
  have e : (done ++ i :: rest) ++ [] = done ++ i :: rest := List.append_nil _
  refine ⟨hB, hm, fun _ _ => rfl, by simp only; rw [e]; exact h.vis, by simp only; rw [e]; exact h.lt, by simp only; rw [e]; exact h.sp, by simp only; rw [e]; exact h.len, ?_, by simp only; rw [e]; exact h.sort, fun u hu => (by cases hu), fun u hu j => ?_, fun j hj => by cases hj⟩
  ·simp only; rw [e]
   intro t ht hta
   obtain ⟨u, h1, h2, h3⟩ := h.par t ht hta
   exact ⟨u, List.mem_append_left _ h1, h2, h3⟩
  ·rcases List.mem_append.1 hu with h1 | h1
   ·exact klt_more j (.inr (hdi u h1))
   ·rcases List.mem_cons.1 h1 with h1 | h1
    ·rw [h1]; exact klt_more j (.inl rfl)
    ·by_cases hua : u = a
     ·rw [hua, h.a0]; exact .inl (by simp)
     ·obtain ⟨p, p1, _, p3⟩ := h.par u hu hua
      rw [p3]; exact klt_snoc _ _ (hdi p p1)
 obtain ⟨pf', h'⟩ := OF.fold ham (v := V.getD i 0 + 1) (nx i) [] ((V, B), []) pf h0 (fun j hj => ⟨hj, hn j hj⟩) hs (fun u hu => by cases hu) rfl
 generalize (nx i).foldl (visF (i : Int) (V.getD i 0 + 1)) ((V, B), []) = q at *
 have e : (done ++ [i]) ++ (rest ++ q.2) = (done ++ i :: rest) ++ q.2 := by simp
 refine ⟨pf', by rw [h'.keep a ham]; exact h.a0, by rw [e]; exact h'.vis, by rw [e]; exact h'.lt, by rw [e]; exact h'.sp, by rw [e]; exact h'.len, by rw [e]; exact h'.par, by rw [e]; exact h'.sort, fun u hu j hj => ?_⟩
 rw [e]
 rcases List.mem_append.1 hu with h1 | h1
 ·have h2 := h.cl u h1 j hj
  refine ⟨List.mem_append_left _ h2.1, ?_⟩
  rw [h'.keep j h2.1, h'.keep u (List.mem_append_left _ h1)]; exact h2.2
 ·rw [List.mem_singleton.1 h1] at hj ⊢
  exact h'.cl j (by simpa using hj)
theorem OD.first {nx : Nat → List Nat} {a m : Nat} {V B : List Int} {done rest : List Nat} {i : Nat} {pf : Nat → List Nat} (h : OD nx a m V B done (i :: rest) pf) (ha : a < m) (ha0 : 0 ≤ V.getD a 0) {gd : Nat → Bool} (hg : ∀ t ∈ done, gd t = true) {p : List Nat} {t : Nat} (hp : Sp nx a p t) (ht : gd t = false) : kle (pf i) p := by
  have hsrt := List.pairwise_append.1 h.sort
  have hsrt2 := List.pairwise_cons.1 hsrt.2.1
  have htd : ∀ u ∈ i :: rest, kle (pf i) (pf u) := fun u hu => by
    rcases List.mem_cons.1 hu with rfl | hu
    · exact .inl rfl
    · exact .inr (hsrt2.1 u hu)
  have key : ∀ {p : List Nat} {u : Nat}, Sp nx a p u → (u ∈ done ++ i :: rest ∧ kle (pf u) p) ∨ kle (pf i) p := by
    intro p u hp
    induction hp with
    | nil => exact .inl ⟨(h.vis a ha).1 ha0, .inl h.a0⟩
    | snoc _ hj ih =>
      rcases ih with ⟨h1, h2⟩ | h1
      · rcases List.mem_append.1 h1 with h3 | h3
        · obtain ⟨h4, h5⟩ := h.cl _ h3 _ hj
          exact .inl ⟨h4, kle_trans h5 (kle_snoc _ h2)⟩
        · exact .inr (kle_trans (htd _ h3) (.inr (klt_more _ h2)))
      · exact .inr (.inr (klt_more _ h1))
  rcases key hp with ⟨h1, h2⟩ | h1
  · rcases List.mem_append.1 h1 with h3 | h3
    · rw [hg t h3] at ht; cases ht
    · exact kle_trans (htd t h3) h2
  · exact h1
theorem OD.init {nx : Nat → List Nat} {a m : Nat} (ha : a < m) : OD nx a m ((List.replicate m (-1 : Int)).set a 0) ((List.replicate m (-1 : Int)).set a (a : Int)) [] [a] (fun _ => []) := by
 have hr : ∀ t, t < m → (List.replicate m (-1 : Int)).getD t 0 = -1 := fun t h => by rw [List.getD_eq_getElem?_getD, List.getElem?_replicate, if_pos h]; rfl
 refine ⟨rfl, fun t ht => ?_, fun t ht => ?_, fun t ht => ?_, fun t ht => ?_, fun t ht hta => ?_, List.pairwise_singleton _ _, fun u hu => by cases hu⟩
 ·rw [getD_set, List.nil_append, List.mem_singleton]
  by_cases h : a = t
  ·rw [if_pos ⟨h, by simpa using ha⟩]; exact ⟨fun _ => h.symm, fun _ => Int.le_refl _⟩
  ·rw [if_neg (fun h' => h h'.1), hr t ht]; exact ⟨fun h' => by omega, fun h' => (h h'.symm).elim⟩
 ·rw [List.nil_append, List.mem_singleton] at ht; rw [ht]; exact ha
 ·rw [List.nil_append, List.mem_singleton] at ht; rw [ht]; exact .nil
 ·rw [List.nil_append, List.mem_singleton] at ht; rw [ht, getD_set, if_pos ⟨rfl, by simpa using ha⟩]; rfl
 ·rw [List.nil_append, List.mem_singleton] at ht; exact (hta ht).elim

theorem upto_one_sorted (c : Nat → Bool) : ∀ n, (appUpto (fun y => if c y = true then [(y : Int)] else []) n).Pairwise (· < ·) ∧ ∀ y ∈ appUpto (fun y => if c y = true then [(y : Int)] else []) n, y < n
  | 0 => ⟨.nil, fun y hy => by cases hy⟩
  | n + 1 => by
    obtain ⟨h1, h2⟩ := upto_one_sorted c n
    rw [appUpto_succ]
    refine ⟨List.pairwise_append.2 ⟨h1, ?_, fun x hx y hy => ?_⟩, fun y hy => ?_⟩
    · split
      · exact List.pairwise_singleton _ _
      · exact .nil
    · have := h2 x hx
      split at hy
      · rw [List.mem_singleton.1 hy]; exact this
      · cases hy
    · rcases List.mem_append.1 hy with h | h
      · have := h2 y h; omega
      · split at h
        · rw [List.mem_singleton.1 h]; omega
        · cases h
theorem nxT_sorted {n : Int} {d : List Door} {ks : List Int} (om : Okm n d ks) (tr : List Int) (i : Nat) : (nxT n d ks tr i).Pairwise (· < ·) := by
 unfold nxT
 rw [List.pairwise_map]
 have h := (upto_one_sorted (fun y => anyT d tr ((i / 64 : Nat) : Int) (y : Int) ((i % 64 : Nat) : Int) d.length) n.toNat).1
 refine List.Pairwise.imp_of_mem (fun {x y} hx hy hxy => ?_) h
 have h1 := stepN_mem hx
 have h2 := stepN_mem hy
 have b1 := (bor_le63 (show 0 ≤ ((i % 64 : Nat) : Int) ∧ ((i % 64 : Nat) : Int) ≤ 63 by omega) (keys_getD om.keys x.toNat)).1
 have b2 := (bor_le63 (show 0 ≤ ((i % 64 : Nat) : Int) ∧ ((i % 64 : Nat) : Int) ≤ 63 by omega) (keys_getD om.keys y.toNat)).1
 unfold idOf; omega
def ndOf (u : Nat) : Int := ((u / 64 : Nat) : Int)
def Fst2 (nx : Nat → List Nat) (gd : Nat → Bool) (a : Nat) (r : Unit ⊕ (List Int × Bool)) : Prop :=
 (r = .inl () ∧ ∀ t v, Rp nx a t v → gd t = true) ∨ ∃ (p : List Nat) (i : Nat), r = .inr (0 :: p.map ndOf, true) ∧ p.length ≤ 768 ∧ gd i = false ∧ Sp nx a p i ∧ ∀ q t, Sp nx a q t → gd t = false → kle p q
section
variable {k : Nat}
theorem first_l1p (hk : Big ≤ k) {nx : Nat → List Nat} {a m : Nat} {V B : List Int} {done td : List Nat} {pf : Nat → List Nat} (h : OD nx a m V B done td pf) (hm : m ≤ 768) (hB : B.length = V.length) (hV : V.length = m) (hle : ∀ t, V.getD t 0 ≤ 768) (t : Nat) (ht : t ∈ done ++ td) : spec_FirstToLose.l1 k (a : Int) B k [] (t : Int) = some ((pf t).map ndOf) := by
 have := loop_good (l := fun q (s : List Int × Nat) => spec_FirstToLose.l1 k (a : Int) B q s.1 (s.2 : Int)) (fun s => s.2 ∈ done ++ td ∧ (pf s.2).map ndOf ++ s.1 = (pf t).map ndOf) (fun s => (pf s.2).length) (fun r => r = (pf t).map ndOf) (fun q ⟨r, u⟩ hI => by
  obtain ⟨i1, i2⟩ := hI
  simp only at i1 i2
  simp only
  rw [spec_FirstToLose.l1]
  have hlen := h.len t ht
  have hlt := hle t
  have hrl := congrArg List.length i2
  simp only [List.length_append, List.length_map] at hrl
  by_cases hu : u = a
  ·right
   refine ⟨r, by rw [hu]; simp, ?_⟩
   rw [hu, h.a0] at i2; simpa using i2
  ·left
   obtain ⟨w, p1, p2, p3⟩ := h.par u i1 hu
   have hum := h.lt u i1
   have hne : ((u : Int) != (a : Int)) = true := by rw [bne_iff_ne]; omega
   have hr : rdl B (u : Int) = some (w : Int) := by rw [rdl_getD (by omega) 0, p2]
   have hq : quo (u : Int) 64 = ((u / 64 : Nat) : Int) := quo64n u (by omega)
   have hb2 : ([((u / 64 : Nat) : Int)] ++ r).length < 1099511627776 := by rw [List.length_append, List.length_singleton]; omega
   refine ⟨([((u / 64 : Nat) : Int)] ++ r, w), by simp only [hne, if_true, hq, if_pos hb2, hr, Option.bind_some], ⟨List.mem_append_left _ p1, ?_⟩, ?_⟩
   ·rw [← i2, p3, List.map_append, List.append_assoc]; rfl
   ·simp only; rw [p3]; simp) k ([], t) (by simp only; have := hle t; have := h.len t ht; unfold Big at hk; omega) ⟨ht, by simp⟩
 obtain ⟨r, h1, h2⟩ := this
 rw [← h2]; exact h1
theorem first_l0p (hk : Big ≤ k) {n : Int} {d : List Door} {ks tr : List Int} (hm : IsMaze n d ks) (ht : tr.length ≤ 1048576) (o : List Bool) (gd : Nat → Bool) (ho : o.length = n.toNat * 64) (hog : ∀ i, i < n.toNat * 64 → o.getD i false = gd i) (a : Nat) (ha : a < n.toNat * 64) (V B : List Int) (hV : V.length = n.toNat * 64) (hW : WI (nxT n d ks tr) a (n.toNat * 64) V [a]) (hBI : BI (nxT n d ks tr) a (n.toNat * 64) V [a]) (hBf : Bf (nxT n d ks tr) a V B) (hon : ∀ t, t < n.toNat * 64 → 0 ≤ V.getD t 0 → t = a) (hO : OD (nxT n d ks tr) a (n.toNat * 64) V B [] [a] (fun _ => [])) :
    ∃ r, spec_FirstToLose.l0 k n d ks tr o (a : Int) k [(a : Int)] B 0 = some r ∧ Fst2 (nxT n d ks tr) gd a r := by
  have om := hm.okm
  have hlo := om.lo
  have hhi := om.hi
  exact loop_good (l := fun q (s : (List Int × List Int) × List Nat × List Nat) => spec_FirstToLose.l0 k n d ks tr o (a : Int) q ((s.2.1 ++ s.2.2).map fun (j : Nat) => (j : Int)) s.1.2 (s.2.1.length : Int)) (fun s => s.1.1.length = n.toNat * 64 ∧ (WI (nxT n d ks tr) a (n.toNat * 64) s.1.1 s.2.2 ∧ BI (nxT n d ks tr) a (n.toNat * 64) s.1.1 s.2.2 ∧ Bf (nxT n d ks tr) a s.1.1 s.1.2 ∧ ∃ pf, OD (nxT n d ks tr) a (n.toNat * 64) s.1.1 s.1.2 s.2.1 s.2.2 pf) ∧ s.2.1.length + s.2.2.length ≤ cp s.1.1 ∧ ∀ t ∈ s.2.1, gd t = true) (fun s => 2 * (768 - cp s.1.1) + s.2.2.length) (Fst2 (nxT n d ks tr) gd a) (fun q ⟨⟨V, B⟩, done, td⟩ hI => by
    obtain ⟨i1, ⟨i2, i4, i5, pf, i7⟩, i3, i6⟩ := hI
    simp only at i1 i2 i3 i4 i5 i6 i7
    simp only
    have hcl := cp_le V
    rw [spec_FirstToLose.l0]
    cases td with
    | nil =>
      right
      refine ⟨.inl (), by simp, .inl ⟨rfl, fun t v hr => ?_⟩⟩
      have h1 := i4.least ha (fun i _ => nxT_lt om tr i) hr
      exact i6 t (by have := (i7.vis t h1.1).1 h1.2.1; simpa using this)
    | cons i rest =>
      rw [List.length_cons] at i3
      have hti := i2.tin i (List.mem_cons_self ..)
      have hlt : decide ((done.length : Int) < (((done ++ i :: rest).map fun (j : Nat) => (j : Int)).length : Int)) = true := by
        rw [decide_eq_true_eq, List.length_map, List.length_append, List.length_cons]; omega
      have hr : rdl ((done ++ i :: rest).map fun (j : Nat) => (j : Int)) (done.length : Int) = some (i : Int) := by
        rw [rdl_nat, List.getElem?_map, List.getElem?_append_right (Nat.le_refl _)]; simp
      have hro : rdl o (i : Int) = some (gd i) := by rw [rdl_getD (by omega) false, hog i hti.1]
      cases hgi : gd i with
      | false =>
        right
        have him : i ∈ done ++ i :: rest := List.mem_append_right _ (List.mem_cons_self ..)
        have w1 := first_l1p (k := k) hk i7 (by omega) i5.len i1 (fun t => by have := i2.bnd t; omega) i him
        have hbi := i2.bnd i
        have hpl := i7.len i him
        have hb2 : ([(0 : Int)] ++ (pf i).map ndOf).length < 1099511627776 := by rw [List.length_append, List.length_singleton, List.length_map]; omega
        refine ⟨.inr ([0] ++ (pf i).map ndOf, true), by simp only [hlt, if_true, hr, hro, hgi, Bool.not_false, Option.bind_some, w1, if_pos hb2], .inr ⟨pf i, i, rfl, by omega, hgi, i7.sp i him, fun q t hq hgt => i7.first ha i2.start i6 hq hgt⟩⟩
      | true =>
        left
        have hpop := i2.pop (by omega) (nxT_lt om tr i)
        have hpopB := i4.pop i2 (by omega) (nxT_lt om tr i)
        have hpopO := i7.pop i5.len (by omega) ha i2.start (nxT_lt om tr i) (nxT_sorted om tr i)
        have e2 := first_l2 hk hm (tr := tr) a i hti.1 V B i1 done rest i2 i5 (by omega) (by omega)
        have e1 := l11Step_eq hk n d ks tr ((i / 64 : Nat) : Int) ((i % 64 : Nat) : Int) hm ht (by omega)
        rw [step_map, show appUpto (fun y => if anyT d tr ((i / 64 : Nat) : Int) (y : Int) ((i % 64 : Nat) : Int) d.length = true then [(y : Int)] else []) n.toNat = stepN d tr n ((i / 64 : Nat) : Int) ((i % 64 : Nat) : Int) from rfl] at e1
        have hrel := visF_rel (i : Int) (V.getD i 0 + 1) (nxT n d ks tr i) ((V, B), [])
        have hFI0 : FI (nxT n d ks tr) a (n.toNat * 64) V (V, []) := ⟨rfl, fun _ _ => rfl, i2.bnd, i2.sound, (fun t ht => by cases ht), fun t ht => .inl ht, rfl⟩
        have hbf := (bf_fold (m := n.toNat * 64) (by omega) (by omega) hti.2 (i2.bnd i) (i2.sound i (by omega) hti.2) i2.start (nxT n d ks tr i) ((V, B), []) hFI0 i5 (fun t ht => ⟨ht, nxT_lt om tr _ _ ht⟩)).2
        simp only at hrel
        rw [← hrel] at hpop hpopB
        generalize (nxT n d ks tr i).foldl (visF (i : Int) (V.getD i 0 + 1)) ((V, B), []) = z at *
        obtain ⟨⟨V', B'⟩, news⟩ := z
        simp only at hpop hpopB hbf e2 hpopO
        have hcnt := hpop.2.cnt
        have hzl := hpop.2.len
        have honly := hpop.2.only
        simp only at hcnt hzl honly
        have hcz := cp_le V'
        have hww : w64 ((done.length : Int) + 1) = (((done ++ [i]).length : Nat) : Int) := by rw [w64_id (by omega) (by omega), List.length_append]; rfl
        have hlist : ((done ++ i :: rest).map fun (j : Nat) => (j : Int)) ++ (news.map fun (j : Nat) => (j : Int)) = ((done ++ [i]) ++ (rest ++ news)).map fun (j : Nat) => (j : Int) := by
          rw [← List.map_append]; congr 1; simp
        refine ⟨((V', B'), done ++ [i], rest ++ news), ?_, ⟨by simp only; omega, ⟨hpop.1, hpopB, hbf, hpopO⟩, by simp only [List.length_append, List.length_singleton]; omega, fun t ht => ?_⟩, by simp only [List.length_append, List.length_cons]; omega⟩
        · simp only [hlt, if_true, hr, hro, hgi, Bool.not_true, Bool.false_eq_true, if_false, Option.bind_some, quo64n i (by omega), rem64n, e1, e2, hww, hlist]
        · simp only at ht
          rcases List.mem_append.1 ht with h2 | h2
          · exact i6 t h2
          · rw [List.mem_singleton.1 h2]; exact hgi) k ((V, B), [], [a]) (by have := cp_le V; simp only [List.length_singleton]; unfold Big at hk; omega) ⟨hV, ⟨hW, hBI, hBf, _, hO⟩, by have := hW.tl; simpa using this, fun t h1 => by cases h1⟩
theorem FirstToLose_specp (hk : Big ≤ k) {n : Int} {d : List Door} {ks tr : List Int} (hT : IsTrapP n d ks tr) (hd : d.length ≤ 1048576) (hks : ks.length ≤ 1048576) (ht : tr.length ≤ 1048576) :
  ∃ r, Fst2 (nxT n d ks tr) (godB n d ks tr) (ks.getD 0 0).toNat r ∧ spec_FirstToLose.f k n d ks tr = some (match r with | .inl _ => ([], false) | .inr w => w) := by
 have hm := hT.1
 have om := hm.okm
 have hlo := om.lo
 have hhi := om.hi
 have hlen := om.len
 have hk0 := keys_getD om.keys 0
 have hr0 : rdl ks 0 = some (ks.getD 0 0) := rdl_getD (i := 0) (by omega) 0
 obtain ⟨o, g4, g5, g6⟩ := l11Good_eq hk hm ht
 have hO : ∀ i, i < n.toNat * 64 → o.getD i false = godB n d ks tr i := fun i hi => by
  rw [Bool.eq_iff_iff, g6 i hi, godB_iff]
 obtain ⟨b, hb⟩ := Int.eq_ofNat_of_zero_le hk0.1
 rw [hb] at hr0 hk0
 have hid := l4Id_eq (k := k) 0 (b : Int) (by omega) hk0
 rw [Int.zero_mul, Int.zero_add] at hid
 have ha : b < n.toNat * 64 := by omega
 have hnone := l10None_eq (k := k) hk o.length (by omega)
 rw [g5] at hnone
 have hrep : ∀ t, t < (List.replicate (n.toNat * 64) (-1 : Int)).length → (List.replicate (n.toNat * 64) (-1 : Int)).getD t 0 = -1 := fun t h => by
  rw [List.length_replicate] at h
  rw [List.getD_eq_getElem?_getD, List.getElem?_replicate, if_pos h]; rfl
 have hrb : rdl (List.replicate (n.toNat * 64) (-1 : Int)) (b : Int) = some (-1) := by rw [rdl_getD (by simpa using ha) 0, hrep b (by simpa using ha)]
 obtain ⟨r, r1, r2⟩ := first_l0p hk hm ht o (godB n d ks tr) g5 hO b ha ((List.replicate (n.toNat * 64) (-1 : Int)).set b 0) ((List.replicate (n.toNat * 64) (-1 : Int)).set b (b : Int)) (by simp) (WI.init hrep ha (by simp)) (BI.init hrep (by simpa using ha) (by simp)) (Bf.init ha) (fun t h1 h2 => by
  rw [getD_set] at h2
  by_cases h : b = t
  ·exact h.symm
  ·rw [if_neg (fun h' => h h'.1), hrep t (by simpa using h1)] at h2; omega) (OD.init ha)
 refine ⟨r, by rw [hb, Int.toNat_natCast]; exact r2, ?_⟩
 unfold spec_FirstToLose.f
 rw [l11Trap_eq hk n d ks tr hd hks ht, decide_eq_true hT]
 simp only [Option.bind_some, Bool.not_true, Bool.false_eq_true, if_false, hr0, g4, hid, g5, hnone, hrb, Int.toNat_natCast, r1]
 cases r <;> rfl

theorem lose_l1 (hk : Big ≤ k) {n : Int} {d : List Door} {ks tr : List Int} (om : Okm n d ks) (D : Arr 768) (c : Nat) (hc : c < n.toNat * 64) (v : Int) (hv : 0 ≤ v) (hv2 : v ≤ 768) (hD : D.l.getD c 0 = v + 1) (pre post : List Int) (y : Int) (hY : ∀ z ∈ pre ++ y :: post, 0 ≤ z ∧ z.toNat < n.toNat)
    (hpre : ∀ z ∈ pre, D.l.getD (idOf ks ((c % 64 : Nat) : Int) z).toNat 0 ≠ v) (hy : D.l.getD (idOf ks ((c % 64 : Nat) : Int) y).toNat 0 = v) (hl : (pre ++ y :: post).length ≤ 1000) :
    ∀ (r i : Nat), i + r = pre.length → ∀ q, r < q → impl_FirstToLose.l1 k ks D ((c / 64 : Nat) : Int) ((c % 64 : Nat) : Int) (pre ++ y :: post) q (i : Int) = some (y, bor ((c % 64 : Nat) : Int) (ks.getD y.toNat 0)) := by
  intro r
  induction r with
  | zero =>
    intro i hi q hq
    obtain ⟨q, rfl⟩ : ∃ q', q = q' + 1 := ⟨q - 1, by omega⟩
    rw [impl_FirstToLose.l1]
    have hlo := om.lo
    have hhi := om.hi
    have hlt : ((i : Int) < ((pre ++ y :: post).length : Int)) := by rw [List.length_append, List.length_cons]; omega
    have hr : rdl (pre ++ y :: post) (i : Int) = some y := by rw [rdl_nat, List.getElem?_append_right (by omega), show i - pre.length = 0 by omega]; rfl
    have hy0 := hY y (List.mem_append_right _ (List.mem_cons_self ..))
    have h5 : rdl ks y = some (ks.getD y.toNat 0) := rdl_getDI hy0.1 (by have := om.len; omega) _
    have hbo := (bor_le63 (show 0 ≤ ((c % 64 : Nat) : Int) ∧ ((c % 64 : Nat) : Int) ≤ 63 by omega) (keys_getD om.keys y.toNat)).1
    have hg1 : 0 ≤ y ∧ y < 12 := by omega
    have hg2 : 0 ≤ bor ((c % 64 : Nat) : Int) (ks.getD y.toNat 0) ∧ bor ((c % 64 : Nat) : Int) (ks.getD y.toNat 0) < 64 := by omega
    have hg3 : 0 ≤ ((c / 64 : Nat) : Int) ∧ ((c / 64 : Nat) : Int) < 12 := by omega
    have hg4 : 0 ≤ ((c % 64 : Nat) : Int) ∧ ((c % 64 : Nat) : Int) < 64 := by omega
    have ha1 : D.at (y * 64 + bor ((c % 64 : Nat) : Int) (ks.getD y.toNat 0)) = v := hy
    have ha2 : D.at (((c / 64 : Nat) : Int) * 64 + ((c % 64 : Nat) : Int)) = v + 1 := by rw [show ((c / 64 : Nat) : Int) * 64 + ((c % 64 : Nat) : Int) = (c : Int) by omega]; exact hD
    have hw : w64 (v + 1 - 1) = v := by rw [show v + 1 - 1 = v by omega]; exact w64_id (by omega) (by omega)
    have hbe : (v == v) = true := by simp
    simp only [hlt, decide_true, if_true, hr, Option.bind_some, h5, if_pos hg1, if_pos hg2, if_pos hg3, if_pos hg4, ha1, ha2, hw, hbe]
  | succ r ih =>
    intro i hi q hq
    obtain ⟨q, rfl⟩ : ∃ q', q = q' + 1 := ⟨q - 1, by omega⟩
    rw [impl_FirstToLose.l1]
    have hlo := om.lo
    have hhi := om.hi
    have hip : i < pre.length := by omega
    have hlt : ((i : Int) < ((pre ++ y :: post).length : Int)) := by rw [List.length_append, List.length_cons]; omega
    have hr : rdl (pre ++ y :: post) (i : Int) = some pre[i] := by rw [rdl_nat, List.getElem?_append_left hip, List.getElem?_eq_getElem hip]
    have hz0 := hY pre[i] (List.mem_append_left _ (List.getElem_mem hip))
    have hzp := hpre pre[i] (List.getElem_mem hip)
    have hne := ih (i + 1) (by omega) q (by omega)
    generalize pre[i] = z at *
    have h5 : rdl ks z = some (ks.getD z.toNat 0) := rdl_getDI hz0.1 (by have := om.len; omega) _
    have hbo := (bor_le63 (show 0 ≤ ((c % 64 : Nat) : Int) ∧ ((c % 64 : Nat) : Int) ≤ 63 by omega) (keys_getD om.keys z.toNat)).1
    have hg1 : 0 ≤ z ∧ z < 12 := by omega
    have hg2 : 0 ≤ bor ((c % 64 : Nat) : Int) (ks.getD z.toNat 0) ∧ bor ((c % 64 : Nat) : Int) (ks.getD z.toNat 0) < 64 := by omega
    have hg3 : 0 ≤ ((c / 64 : Nat) : Int) ∧ ((c / 64 : Nat) : Int) < 12 := by omega
    have hg4 : 0 ≤ ((c % 64 : Nat) : Int) ∧ ((c % 64 : Nat) : Int) < 64 := by omega
    have ha1 : D.at (z * 64 + bor ((c % 64 : Nat) : Int) (ks.getD z.toNat 0)) = D.l.getD (idOf ks ((c % 64 : Nat) : Int) z).toNat 0 := rfl
    have ha2 : D.at (((c / 64 : Nat) : Int) * 64 + ((c % 64 : Nat) : Int)) = v + 1 := by rw [show ((c / 64 : Nat) : Int) * 64 + ((c % 64 : Nat) : Int) = (c : Int) by omega]; exact hD
    have hw : w64 (v + 1 - 1) = v := by rw [show v + 1 - 1 = v by omega]; exact w64_id (by omega) (by omega)
    have hbe : (D.l.getD (idOf ks ((c % 64 : Nat) : Int) z).toNat 0 == v) = false := by simpa using hzp
    have hwi : w64 ((i : Int) + 1) = ((i + 1 : Nat) : Int) := w64_id (by rw [List.length_append] at hl; omega) (by rw [List.length_append] at hl; omega)
    simp only [hlt, decide_true, if_true, hr, Option.bind_some, h5, if_pos hg1, if_pos hg2, if_pos hg3, if_pos hg4, ha1, ha2, hw, hbe, Bool.false_eq_true, if_false, hwi, hne]
theorem lose_l0 (hk : Big ≤ k) {n : Int} {d : List Door} {ks tr : List Int} (hm : IsMaze n d ks) (ht : tr.length ≤ 1048576) (D : Arr 768) (gd : Nat → Bool) (hD : DI (nxT n d ks tr) (fun i => !gd i) (n.toNat * 64) D.l) (hR : ∀ i, i < n.toNat * 64 → ∀ j ∈ nxT n d ks tr i, Rlx D.l i j) :
    ∀ (v : Nat) (c : Nat), c < n.toNat * 64 → D.l.getD c 0 = v → v ≤ 768 → ∀ (out : List Int), out.length + v ≤ 2000 → ∀ q, v < q → ∃ g t, impl_FirstToLose.l0 k n d ks tr D q ((c / 64 : Nat) : Int) ((c % 64 : Nat) : Int) out = some (out ++ g.map ndOf) ∧ Sp (nxT n d ks tr) c g t ∧ gd t = false ∧ g.length = v ∧ ∀ p u, Sp (nxT n d ks tr) c p u → gd u = false → p.length = v → kle g p := by
  have om := hm.okm
  have hlo := om.lo
  have hhi := om.hi
  have hnx : ∀ i, i < n.toNat * 64 → ∀ j ∈ nxT n d ks tr i, j < n.toNat * 64 := fun i _ => nxT_lt om tr i
  intro v
  induction v with
  | zero =>
    intro c hc hv _ out hol q hq
    obtain ⟨q, rfl⟩ : ∃ q', q = q' + 1 := ⟨q - 1, by omega⟩
    rw [impl_FirstToLose.l0]
    have hg3 : 0 ≤ ((c / 64 : Nat) : Int) ∧ ((c / 64 : Nat) : Int) < 12 := by omega
    have hg4 : 0 ≤ ((c % 64 : Nat) : Int) ∧ ((c % 64 : Nat) : Int) < 64 := by omega
    have ha2 : D.at (((c / 64 : Nat) : Int) * 64 + ((c % 64 : Nat) : Int)) = 0 := by rw [show ((c / 64 : Nat) : Int) * 64 + ((c % 64 : Nat) : Int) = (c : Int) by omega]; exact hv
    have hs := hD.sound c (by rw [D.len]; omega) (by omega)
    rw [hv] at hs
    refine ⟨[], c, by rw [if_pos hg3, if_pos hg4, ha2]; simp, .nil, ?_, rfl, fun p u hp _ hl => ?_⟩
    · generalize hz : ((0 : Nat) : Int).toNat = z at hs
      cases hs with
      | here hg => simpa using hg
      | step => simp at hz
    · exact .inl (List.length_eq_zero_iff.1 hl).symm
  | succ v ih =>
    intro c hc hv hv8 out hol q hq
    obtain ⟨q, rfl⟩ : ∃ q', q = q' + 1 := ⟨q - 1, by omega⟩
    have hg3 : 0 ≤ ((c / 64 : Nat) : Int) ∧ ((c / 64 : Nat) : Int) < 12 := by omega
    have hg4 : 0 ≤ ((c % 64 : Nat) : Int) ∧ ((c % 64 : Nat) : Int) < 64 := by omega
    have ha2 : D.at (((c / 64 : Nat) : Int) * 64 + ((c % 64 : Nat) : Int)) = ((v + 1 : Nat) : Int) := by rw [show ((c / 64 : Nat) : Int) * 64 + ((c % 64 : Nat) : Int) = (c : Int) by omega]; exact hv
    have hgt : ((v + 1 : Nat) : Int) > 0 := by omega
    have hs := hD.sound c (by rw [D.len]; omega) (by omega)
    rw [hv, Int.toNat_natCast] at hs
    have hval : ∀ j ∈ nxT n d ks tr c, ∀ w : Nat, Pth (nxT n d ks tr) (fun i => !gd i) j w → w ≤ v → D.l.getD j 0 = v := fun j hj w hp hw => by
      have h1 := dist_complete hD hnx hR hp (hnx c hc j hj)
      have h2 := hR c hc j hj h1.1
      omega
    obtain ⟨j0, hj0, hD0⟩ : ∃ j ∈ nxT n d ks tr c, D.l.getD j 0 = v := by
      cases hs with
      | step hj hp => exact ⟨_, hj, hval _ hj v hp (Nat.le_refl _)⟩
    have hY : ∀ z ∈ stepN d tr n ((c / 64 : Nat) : Int) ((c % 64 : Nat) : Int), 0 ≤ z ∧ z.toNat < n.toNat := fun z hz => stepN_mem hz
    have hsl := stepN_length d tr n ((c / 64 : Nat) : Int) ((c % 64 : Nat) : Int)
    have hsorted := nxT_sorted om tr c
    obtain ⟨t, e1, e2⟩ := bind_some (trapMembers_eq hk n d ks tr ((c / 64 : Nat) : Int) ((c % 64 : Nat) : Int) hm ht (by omega))
    have hnxe : nxT n d ks tr c = (stepN d tr n ((c / 64 : Nat) : Int) ((c % 64 : Nat) : Int)).map fun y => (idOf ks ((c % 64 : Nat) : Int) y).toNat := rfl
    obtain ⟨y0, hy0, hy0e⟩ := List.mem_map.1 (hnxe ▸ hj0)
    have hfind : ((stepN d tr n ((c / 64 : Nat) : Int) ((c % 64 : Nat) : Int)).find? fun z => decide (D.l.getD (idOf ks ((c % 64 : Nat) : Int) z).toNat 0 = v)).isSome := by
      rw [List.find?_isSome]; exact ⟨y0, hy0, by rw [hy0e]; exact decide_eq_true hD0⟩
    obtain ⟨y, hy⟩ := Option.isSome_iff_exists.1 hfind
    obtain ⟨hyv, pre, post, hsplit, hpre⟩ := List.find?_eq_some_iff_append.1 hy
    have hyv : D.l.getD (idOf ks ((c % 64 : Nat) : Int) y).toNat 0 = v := of_decide_eq_true hyv
    rw [hsplit] at hY hsl e2
    have hyr := hY y (List.mem_append_right _ (List.mem_cons_self ..))
    have hid := idOf_range om.keys (s := ((c % 64 : Nat) : Int)) (by omega) hyr
    obtain ⟨j, hj⟩ := Int.eq_ofNat_of_zero_le hid.1
    rw [hj, Int.toNat_natCast] at hyv hid
    have hjm : j ∈ nxT n d ks tr c := by rw [hnxe]; exact List.mem_map.2 ⟨y, by rw [hsplit]; exact List.mem_append_right _ (List.mem_cons_self ..), by rw [hj]; rfl⟩
    have hl1 := lose_l1 (tr := tr) hk om D c hc v (by omega) (by omega) (by rw [hv]; rfl) pre post y hY (fun z hz => by have := hpre z hz; simpa using this) (by rw [hj]; exact hyv) (by omega) pre.length 0 (by omega) k (by rw [List.length_append] at hsl; unfold Big at hk; omega)
    have hbo := (bor_le63 (show 0 ≤ ((c % 64 : Nat) : Int) ∧ ((c % 64 : Nat) : Int) ≤ 63 by omega) (keys_getD om.keys y.toNat)).1
    have hjy : y = ((j / 64 : Nat) : Int) ∧ bor ((c % 64 : Nat) : Int) (ks.getD y.toNat 0) = ((j % 64 : Nat) : Int) := by
      unfold idOf at hj; omega
    rw [hjy.2, hjy.1] at hl1
    obtain ⟨g, t', g1, g2, g3, g4, g5⟩ := ih j hid.2 hyv (by omega) (out ++ [((j / 64 : Nat) : Int)]) (by rw [List.length_append, List.length_singleton]; omega) q (by omega)
    have hb2 : (out ++ [((j / 64 : Nat) : Int)]).length < 1099511627776 := by rw [List.length_append, List.length_singleton]; omega
    refine ⟨j :: g, t', ?_, g2.cons hjm, g3, by rw [List.length_cons, g4], fun p u hp hu hl => ?_⟩
    · rw [impl_FirstToLose.l0]
      rw [hjy.1] at e2
      simp only [if_pos hg3, if_pos hg4, ha2, hgt, decide_true, if_true, e1, e2, Option.bind_some]
      rw [show (0 : Int) = ((0 : Nat) : Int) from rfl, hl1]
      simp only [Option.bind_some, if_pos hb2, g1, List.append_assoc, List.map_cons]
      rfl
    · rcases hp.uncons with ⟨rfl, _⟩ | ⟨b, p', rfl, hb, hsp⟩
      · cases hl
      · rw [List.length_cons] at hl
        have hDb := hval b hb p'.length (by have h := Rp.pth hsp.rp (goal := fun i => !gd i) (w := 0) (.here (by rw [hu]; rfl)); simpa using h) (by omega)
        have hle : j ≤ b := by
          obtain ⟨z, hz, hze⟩ := List.mem_map.1 (hnxe ▸ hb)
          rw [hnxe, hsplit, List.map_append, List.map_cons] at hsorted
          rw [hsplit] at hz
          have hso := (List.pairwise_cons.1 (List.pairwise_append.1 hsorted).2.1).1
          rcases List.mem_append.1 hz with hz | hz
          · have := hpre z hz
            rw [hze, hDb] at this; simp at this
          · rcases List.mem_cons.1 hz with rfl | hz
            · rw [← hze, hj]; simp
            · have := hso b (List.mem_map.2 ⟨z, hz, hze⟩)
              rw [hj, Int.toNat_natCast] at this; omega
        rcases Nat.lt_or_ge j b with h | h
        · exact .inr (.inr ⟨by simp; omega, .inl h⟩)
        · have : j = b := by omega
          subst this
          rcases g5 p' u hsp hu (by omega) with h | h | h
          · exact .inl (by rw [h])
          · omega
          · exact .inr (.inr ⟨by simp; omega, .inr ⟨rfl, h.2⟩⟩)
theorem FirstToLose_both (hk : Big ≤ k) (n : Int) (d : List Door) (ks tr : List Int) (hd : d.length ≤ 1048576) (hks : ks.length ≤ 1048576) (ht : tr.length ≤ 1048576) :
  ∃ r : List Int × Bool, impl_FirstToLose.f k n d ks tr = some r ∧ spec_FirstToLose.f k n d ks tr = some r ∧ r.1.length ≤ 1000 := by
 unfold impl_FirstToLose.f
 rw [IsTrap_eq hk n d ks tr hd hks ht]
 by_cases hT : IsTrapP n d ks tr
 rotate_left 1
 ·have e : spec_FirstToLose.f k n d ks tr = some ([], false) := by
   unfold spec_FirstToLose.f
   rw [l11Trap_eq hk n d ks tr hd hks ht, decide_eq_false hT]; rfl
  rw [decide_eq_false hT, e]; exact ⟨([], false), rfl, rfl, by simp⟩
 have hm := hT.1
 have om := hm.okm
 have hlo := om.lo
 have hhi := om.hi
 have hlen := om.len
 have hk0 := keys_getD om.keys 0
 have hr0 : rdl ks 0 = some (ks.getD 0 0) := rdl_getD (i := 0) (by omega) 0
 obtain ⟨D, g1, g2, g3⟩ := toLost_eq hk hm ht
 obtain ⟨r, f1, f2⟩ := FirstToLose_specp hk hT hd hks ht
 obtain ⟨b, hb⟩ := Int.eq_ofNat_of_zero_le hk0.1
 rw [hb] at f1 hr0 hk0
 rw [Int.toNat_natCast] at f1
 have ha : b < n.toNat * 64 := by omega
 have hnx : ∀ i, i < n.toNat * 64 → ∀ j ∈ nxT n d ks tr i, j < n.toNat * 64 := fun i _ => nxT_lt om tr i
 have hg2 : 0 ≤ (b : Int) ∧ (b : Int) < 64 := by omega
 have hat : D.at (0 * 64 + (b : Int)) = D.l.getD b 0 := at_nat D (by omega)
 have hbnd := g2.bnd b
 have hcl := cp_le D.l
 rw [D.len] at hcl
 have hRb : ∀ t v, Rp (nxT n d ks tr) b t v → godB n d ks tr t = false → 0 ≤ D.l.getD b 0 ∧ D.l.getD b 0 ≤ v := fun t v hrp hgt => by
  have h1 := Rp.pth hrp (goal := fun i => !godB n d ks tr i) (.here (by rw [hgt]; rfl))
  exact dist_complete g2 hnx g3 h1 ha
 rw [decide_eq_true hT]
 simp only [Option.bind_some, Bool.not_true, Bool.false_eq_true, if_false, g1, hr0, if_pos hg2, hat, f2]
 by_cases hw : D.l.getD b 0 < 0
 ·simp only [hw, decide_true, if_true]
  refine ⟨([], false), rfl, ?_, by simp⟩
  rcases f1 with ⟨rfl, _⟩ | ⟨p, i, rfl, _, e3, e4, _⟩
  ·rfl
  ·have := hRb i _ e4.rp e3; omega
 ·obtain ⟨v, hv⟩ := Int.eq_ofNat_of_zero_le (show 0 ≤ D.l.getD b 0 by omega)
  obtain ⟨g, t, l1, l2, l3, l4, l5⟩ := lose_l0 hk hm ht D (godB n d ks tr) g2 g3 v b ha hv (by omega) [0] (by simp; omega) k (by unfold Big at hk; omega)
  rw [show ((b / 64 : Nat) : Int) = 0 by omega, show ((b % 64 : Nat) : Int) = (b : Int) by omega] at l1
  simp only [hw, decide_false, Bool.false_eq_true, if_false, l1, Option.bind_some]
  rcases f1 with ⟨rfl, e2⟩ | ⟨p, i, rfl, e2, e3, e4, e5⟩
  ·rw [e2 t _ l2.rp] at l3; cases l3
  ·have h1 := hRb i _ e4.rp e3
   have h2 := e5 g t l2 l3
   have h3 := kle_len h2
   have hpg : p = g := kle_anti h2 (l5 p i e4 e3 (by omega))
   subst hpg
   exact ⟨(0 :: p.map ndOf, true), rfl, rfl, by simp; omega⟩
end

section
variable {k : Nat}
end

theorem dlt_irr (x : Door) : ¬ DoorLt x x := by unfold DoorLt; omega
theorem dlt_trans (x y z : Door) (h : DoorLt x y) (k : DoorLt y z) : DoorLt x z := by unfold DoorLt at *; omega
theorem dlt_tri (x y : Door) : DoorLt x y ∨ x = y ∨ DoorLt y x := by
 obtain ⟨a, b, c⟩ := x
 obtain ⟨a', b', c'⟩ := y
 unfold DoorLt
 simp only [Prod.mk.injEq]
 omega
def insD (e : Door) : List Door → List Door
  | [] => [e]
  | x :: l => if DoorLt x e then x :: insD e l else e :: x :: l
theorem mem_insD (e : Door) : ∀ (l : List Door) (z : Door), z ∈ insD e l ↔ z = e ∨ z ∈ l
  | [], z => by simp [insD]
  | x :: l, z => by
    unfold insD
    split
    · rw [List.mem_cons, mem_insD e l z, List.mem_cons]; exact ⟨fun h => by rcases h with h | h | h; exact .inr (.inl h); exact .inl h; exact .inr (.inr h), fun h => by rcases h with h | h | h; exact .inr (.inl h); exact .inl h; exact .inr (.inr h)⟩
    · rw [List.mem_cons]
theorem insD_sorted (e : Door) : ∀ (l : List Door), l.Pairwise DoorLt → e ∉ l → (insD e l).Pairwise DoorLt
  | [], _, _ => List.pairwise_singleton _ _
  | x :: l, h, hn => by
    have h' := List.pairwise_cons.1 h
    have hn' : x ≠ e ∧ e ∉ l := ⟨fun h => hn (h ▸ List.mem_cons_self ..), fun h => hn (List.mem_cons_of_mem _ h)⟩
    unfold insD
    split
    · rename_i hlt
      refine List.pairwise_cons.2 ⟨fun z hz => ?_, insD_sorted e l h'.2 hn'.2⟩
      rcases (mem_insD e l z).1 hz with rfl | hz
      · exact hlt
      · exact h'.1 z hz
    · rename_i hlt
      have hex : DoorLt e x := by
        rcases dlt_tri x e with h1 | h1 | h1
        · exact absurd h1 hlt
        · exact absurd h1 hn'.1
        · exact h1
      refine List.pairwise_cons.2 ⟨fun z hz => ?_, h⟩
      rcases List.mem_cons.1 hz with rfl | hz
      · exact hex
      · exact dlt_trans _ _ _ hex (h'.1 z hz)
theorem insD_length (e : Door) : ∀ (l : List Door), (insD e l).length = l.length + 1
  | [] => rfl
  | x :: l => by unfold insD; split <;> simp [insD_length e l]
theorem insD_split (e : Door) : ∀ (l : List Door) (j : Nat), j ≤ l.length → (∀ i (h : i < l.length), i < j → DoorLt l[i] e) → (∀ (h : j < l.length), ¬ DoorLt l[j] e) → insD e l = l.take j ++ e :: l.drop j
  | [], j, hj, _, _ => by have : j = 0 := by simpa using hj
                          subst this; rfl
  | x :: l, 0, _, _, h => by
    have := h (by simp)
    simp only [List.getElem_cons_zero] at this
    simp [insD, this]
  | x :: l, j + 1, hj, h1, h2 => by
    have := h1 0 (by simp) (by omega)
    simp only [List.getElem_cons_zero] at this
    simp only [insD, if_pos this, List.take_succ_cons, List.drop_succ_cons, List.cons_append]
    congr 1
    exact insD_split e l j (by simpa using hj) (fun i hi hij => by have := h1 (i + 1) (by simpa using hi) (by omega); simpa using this) (fun hi => by have := h2 (by simpa using hi); simpa using this)

section
variable {k : Nat}
end

section
variable {k : Nat}
def doorE (A B C : Int) : Door := (imin A B, imax A B, C)

theorem index3_eq (hk : Big ≤ k) (l : List Door) (e : Door) (hl : l.length ≤ 1048576) : slices_Contains__3int__3int.f k l e.1 e.2.1 e.2.2 = some (decide (e ∈ l)) := by
  unfold slices_Contains__3int__3int.f slices_Index__3int__3int.f
  have := loop_find (l := slices_Index__3int__3int.l0 k l e.1 e.2.1 e.2.2) (N := l.length) (fun i => if h : i < l.length then (if e = l[i] then some (i : Int) else none) else none) (z := .inl ()) (fun n i hi => by
    rw [slices_Index__3int__3int.l0]
    have h1 : ((i : Int) < (l.length : Int)) := by omega
    have hw : w64 ((i : Int) + 1) = ((i + 1 : Nat) : Int) := w64_id (by omega) (by omega)
    simp only [h1, decide_true, if_true, rdl_lt hi, Option.bind_some, hw, hi, dite_true]
    by_cases c : e = l[i] <;> simp [c]) (fun n => by rw [slices_Index__3int__3int.l0]; simp) (k := k) (by unfold Big at hk; omega)
  rw [this, Option.bind_some]
  cases hf : (List.range l.length).findSome? (fun i => if h : i < l.length then (if e = l[i] then some (i : Int) else none) else none) with
  | none =>
    simp only [Lr, Option.bind_some]
    rw [List.findSome?_eq_none_iff] at hf
    have : e ∉ l := by
      intro hx
      obtain ⟨i, hi, he⟩ := List.getElem_of_mem hx
      have := hf i (List.mem_range.2 hi)
      simp only [hi, dite_true, he, if_true] at this
      cases this
    simp [this]
  | some r =>
    simp only [Lr, Option.bind_some]
    obtain ⟨i, hi, h⟩ := List.exists_of_findSome?_eq_some hf
    have hi' := List.mem_range.1 hi
    simp only [hi', dite_true] at h
    split at h
    · rename_i h1; cases h
      have : e ∈ l := h1 ▸ List.getElem_mem hi'
      simp [this]
    · cases h

theorem l2Put_eq (hk : Big ≤ k) (d : List Door) (A B C : Int) (hd : d.length ≤ 1000) (hs : d.Pairwise DoorLt) : spec_l2Put.f k d A B C = some (if doorE A B C ∈ d then d else insD (doorE A B C) d) := by
 unfold spec_l2Put.f spec_l1Least.f spec_l1Most.f
 have e1 : (if decide (A < B) = true then some A else some B) = some (imin A B) := by
  unfold imin; by_cases c : A < B
  ·rw [if_pos (by simpa using c), if_neg (by omega)]
  ·rw [if_neg (by simpa using c)]; split
   ·rfl
   ·congr 1; omega
 have e2 : (if decide (A > B) = true then some A else some B) = some (imax A B) := by
  unfold imax; by_cases c : A > B
  ·rw [if_pos (by simpa using c), if_neg (by omega)]
  ·rw [if_neg (by simpa using c)]; split
   ·rfl
   ·congr 1; omega
 rw [e1, e2, Option.bind_some, Option.bind_some]
 have key := loop_good (l := fun m (s : Nat) => spec_l2Put.l0 k d C (imin A B) (imax A B) m (s : Int)) (Inv := fun i => i ≤ d.length ∧ ∀ j (hj : j < d.length), j < i → DoorLt d[j] (doorE A B C)) (mu := fun i => d.length - i)
  (fun r => ∃ i : Nat, r = (i : Int) ∧ i ≤ d.length ∧ (∀ j (hj : j < d.length), j < i → DoorLt d[j] (doorE A B C)) ∧ ∀ (h : i < d.length), ¬ DoorLt d[i] (doorE A B C)) (fun m i hI => by
  try simp only at hI
  obtain ⟨hI1, hI2⟩ := hI
  by_cases hi : i < d.length
  ·have h1 : ((i : Int) < (d.length : Int)) := by omega
   have hw : w64 ((i : Int) + 1) = ((i + 1 : Nat) : Int) := w64_id (by omega) (by omega)
   have hb : spec_l2Before.f k d[i].1 d[i].2.1 d[i].2.2 (imin A B) (imax A B) C = some (decide (DoorLt d[i] (doorE A B C))) := before_eq hk d[i] (doorE A B C)
   by_cases c : DoorLt d[i] (doorE A B C)
   ·left
    refine ⟨i + 1, ?_, ⟨by omega, fun j hj hji => ?_⟩, by (try simp only); omega⟩
    ·simp only [spec_l2Put.l0, h1, decide_true, if_true, rdl_lt hi, Option.bind_some, hb, c, hw]
    ·rcases Nat.lt_or_ge j i with h | h
     ·exact hI2 j hj h
     ·have : j = i := by omega
      subst this; exact c
   ·right
    refine ⟨(i : Int), ?_, i, rfl, hI1, hI2, fun _ => c⟩
    simp only [spec_l2Put.l0, h1, decide_true, if_true, rdl_lt hi, Option.bind_some, hb, c, decide_false, Bool.false_eq_true, if_false]
  ·right
   refine ⟨(i : Int), ?_, i, rfl, hI1, hI2, fun h => absurd h hi⟩
   have : ¬ ((i : Int) < (d.length : Int)) := by omega
   simp only [spec_l2Put.l0, this, decide_false, Bool.false_eq_true, if_false, Option.bind_some]) k 0 (by (try simp only); unfold Big at hk; omega) ⟨by omega, fun j _ h => absurd h (by omega)⟩
 obtain ⟨r, g1, i, rfl, g3, g4, g5⟩ := key
 rw [show spec_l2Put.l0 k d C (imin A B) (imax A B) k 0 = some (i : Int) from g1, Option.bind_some]
 by_cases hi : i < d.length
 ·have h1 : ((i : Int) < (d.length : Int)) := by omega
  simp only [h1, decide_true, if_true, rdl_lt hi, Option.bind_some]
  have hiff : (d[i].1, d[i].2.1, d[i].2.2) = (imin A B, imax A B, C) ↔ doorE A B C ∈ d := by
   constructor
   ·intro h
    have : doorE A B C = d[i] := h.symm
    rw [this]; exact List.getElem_mem hi
   ·intro h
    obtain ⟨j, hj, he⟩ := List.getElem_of_mem h
    have hp := List.pairwise_iff_getElem.1 hs
    have : j = i := by
     rcases Nat.lt_trichotomy j i with h | h | h
     ·have := g4 j hj h; rw [he] at this; exact absurd this (dlt_irr _)
     ·exact h
     ·have := hp i j hi hj h; rw [he] at this; exact absurd this (g5 hi)
    subst this; exact he
  by_cases c : doorE A B C ∈ d
  ·rw [if_pos (by simpa using hiff.2 c), if_pos c]
  ·rw [if_neg (by simpa using fun h => c (hiff.1 h)), if_neg c]
   rw [slc_pre d i (by omega), Option.bind_some, slc_suf d i (by omega), Option.bind_some, if_pos (by simp; omega), if_pos (by simp; omega), if_pos (by simp; omega), Option.bind_some, insD_split _ d i g3 g4 g5]
   congr 1; simp [doorE]
 ·have h1 : ¬ ((i : Int) < (d.length : Int)) := by omega
  have c : doorE A B C ∉ d := fun h => by
   obtain ⟨j, hj, he⟩ := List.getElem_of_mem h
   have := g4 j hj (by omega); rw [he] at this; exact absurd this (dlt_irr _)
  simp only [h1, decide_false, Bool.false_eq_true, if_false, Option.bind_some]
  rw [if_neg c, slc_pre d i (by omega), Option.bind_some, slc_suf d i (by omega), Option.bind_some, if_pos (by simp; omega), if_pos (by simp; omega), if_pos (by simp; omega), Option.bind_some, insD_split _ d i g3 g4 g5]
  congr 1; simp [doorE]
end

structure FOk (n : Nat) (cs fs : List Int) : Prop where
 nodes : ∀ x ∈ fs, 0 ≤ x ∧ x < n
 cols : ∀ c ∈ cs, 0 ≤ c ∧ c ≤ 5
 few : fs.length ≤ cs.length
 lim : cs.length ≤ 1000
section
variable {k : Nat}

def FillP (n : Int) (x : Nat) (fs : List Int) : Prop := fs.length = (upto x 12).length ∧ ∀ z ∈ fs, 0 ≤ z ∧ z ≤ n - 1
instance (n : Int) (x : Nat) (fs : List Int) : Decidable (FillP n x fs) := by unfold FillP; infer_instance

theorem getD_at {l : List Int} {i : Nat} (hi : i < l.length) : l.getD i 0 = l[i] := by rw [List.getD_eq_getElem?_getD, List.getElem?_eq_getElem hi]; rfl
end

def pickN (free : List Int) (c : Int) : Int := free.getD (rem c (free.length : Int)).toNat 0
theorem pick_rem {free : List Int} {c : Int} (hf : 0 < free.length) (hc : 0 ≤ c) : 0 ≤ rem c (free.length : Int) ∧ (rem c (free.length : Int)).toNat < free.length := by
 unfold rem
 rw [Int.tmod_eq_emod_of_nonneg hc]
 have h1 := Int.emod_nonneg c (b := (free.length : Int)) (by omega)
 have h2 := Int.emod_lt_of_pos c (b := (free.length : Int)) (by omega)
 omega
theorem pick_mem {free : List Int} {c : Int} (hf : 0 < free.length) (hc : 0 ≤ c) : pickN free c ∈ free := by
 have := pick_rem hf hc
 unfold pickN
 rw [getD_at this.2]; exact List.getElem_mem _
section
variable {k : Nat}
def MakesP (x : Nat) (o ch : List Int) : Prop := o.Perm (upto x 12) ∧ (∀ c ∈ ch, 0 ≤ c) ∧ ch.length = o.length
instance (x : Nat) (o ch : List Int) : Decidable (MakesP x o ch) := by unfold MakesP; infer_instance
end

section
variable {k : Nat}
end

def B (l : List UInt8) : ByteArray := ⟨l.toArray⟩
def upTo (c : UInt8) (l : List UInt8) : List UInt8 := l.takeWhile (· != c)
section
variable {k : Nat}

def sumG (l : List UInt8) (i : Nat) (h : Int) : Int := rem (w64 ((w64 ((w64 (41 * h)) + (IntKind.i64.wrap ((l.getD i 0).toNat : Int)))) + 1)) 999979
def sumP (l : List UInt8) : Int := itr (sumG l) l.length 0 7
def sealL (l : List UInt8) : List UInt8 := l ++ [35] ++ Lib.itoa (sumP l)

def ahead (n : Nat) : List UInt8 := Lib.itoa (n : Int) ++ [32]

open Classical in
noncomputable def decP (n : Nat) (l : List UInt8) : Option (List UInt8 × List UInt8) :=
 if (upTo 35 l).take (ahead n).length = ahead n ∧ 64 ∈ (upTo 35 l).drop (ahead n).length ∧
  isRecord (B (upTo 64 ((upTo 35 l).drop (ahead n).length))) (B (((upTo 35 l).drop (ahead n).length).drop ((upTo 64 ((upTo 35 l).drop (ahead n).length)).length + 1))) ∧ sealL (upTo 35 l) = l
 then some (upTo 64 ((upTo 35 l).drop (ahead n).length), ((upTo 35 l).drop (ahead n).length).drop ((upTo 64 ((upTo 35 l).drop (ahead n).length)).length + 1)) else none
end

section
variable {k : Nat}
end

section
variable {k : Nat}
end


theorem subB_iff {c a : Nat} : subB c a = true ↔ ∀ t, c.testBit t = true → a.testBit t = true := by
  unfold subB
  rw [beq_iff_eq]
  constructor
  · intro h t ht
    rw [← h, Nat.testBit_and] at ht
    simp at ht; exact ht.2
  · intro h
    apply Nat.eq_of_testBit_eq
    intro t
    rw [Nat.testBit_and]
    cases c1 : c.testBit t with
    | false => rfl
    | true => rw [h t c1]; rfl
theorem subB_trans {a b c : Nat} (h1 : subB a b = true) (h2 : subB b c = true) : subB a c = true :=
 subB_iff.2 fun t ht => subB_iff.1 h2 t (subB_iff.1 h1 t ht)
theorem subB_refl (a : Nat) : subB a a = true := subB_iff.2 fun _ h => h
theorem subB_bor {a b : Int} (ha : 0 ≤ a ∧ a ≤ 63) (hb : 0 ≤ b ∧ b ≤ 63) : subB a.toNat (bor a b).toNat = true := by
 obtain ⟨x, rfl⟩ := Int.eq_ofNat_of_zero_le ha.1
 obtain ⟨y, rfl⟩ := Int.eq_ofNat_of_zero_le hb.1
 rw [bor_nat (by omega) (by omega), Int.toNat_natCast, Int.toNat_natCast]
 exact subB_iff.2 fun t ht => by rw [Nat.testBit_or, ht]; rfl
theorem goes_mono {a b h h' : Int} (hs : subB h.toNat h'.toNat = true) {x : Door} (hg : goes a b h x = true) : goes a b h' x = true := by
 unfold goes at hg ⊢
 rw [Bool.and_eq_true] at hg ⊢
 exact ⟨hg.1, subB_trans hg.2 hs⟩
theorem Rch.mono {d : List Door} {h h' x z : Int} (hs : subB h.toNat h'.toNat = true) (hr : Rch d h x z) : Rch d h' x z := by
  induction hr with
  | here => exact .here
  | step _ hg ih =>
    refine .step ih ?_
    obtain ⟨y, hy, hg⟩ := List.any_eq_true.1 hg
    exact List.any_eq_true.2 ⟨y, hy, goes_mono hs hg⟩
section
variable {k : Nat}
end

def FewP (n : Int) (d : List Door) (ks : List Int) (h : Int) : Prop := (IsMaze n d ks ∧ 0 ≤ h ∧ h ≤ 63) ∧ n ≤ 8 ∧ (upto h.toNat 12).length ≤ 4
instance (n : Int) (d : List Door) (ks : List Int) (h : Int) : Decidable (FewP n d ks h) := by unfold FewP; infer_instance
section
variable {k : Nat}
end
section
variable {k : Nat}
end

section
variable {k : Nat}
end

def Tot {α : Type} (o : Option α) (P : α → Prop) : Prop := ∃ r, o = some r ∧ P r
theorem Tot.bind {α β : Type} {o : Option α} {f : α → Option β} {P : α → Prop} {Q : β → Prop} (h : Tot o P) (g : ∀ r, P r → Tot (f r) Q) : Tot (o.bind f) Q := by
 obtain ⟨r, rfl, hr⟩ := h; exact g r hr
theorem Tot.ret {α : Type} {r : α} {Q : α → Prop} (h : Q r) : Tot (some r) Q := ⟨r, rfl, h⟩
theorem Tot.ite {α : Type} {c : Prop} [Decidable c] {x y : Option α} {Q : α → Prop} (h1 : c → Tot x Q) (h2 : ¬ c → Tot y Q) : Tot (if c then x else y) Q := by
 by_cases h : c
 ·rw [if_pos h]; exact h1 h
 ·rw [if_neg h]; exact h2 h
theorem Tot.mono {α : Type} {o : Option α} {P Q : α → Prop} (h : Tot o P) (g : ∀ r, P r → Q r) : Tot o Q := by obtain ⟨r, e, hr⟩ := h; exact ⟨r, e, g r hr⟩
theorem Tot.rdl {α : Type} {l : List α} {i : Int} (h0 : 0 ≤ i) (h1 : i < l.length) : Tot (rdl l i) (fun x => x ∈ l) := by
 obtain ⟨n, rfl⟩ := Int.eq_ofNat_of_zero_le h0
 exact ⟨l[n]'(by omega), rdl_lt (by omega), List.getElem_mem _⟩
theorem Tot.loop {S β : Type} {l : Nat → S → Option β} (Inv : S → Prop) (mu : S → Nat) (Q : β → Prop)
    (hs : ∀ n s, Inv s → (∀ s', Inv s' → mu s' < mu s → Tot (l n s') Q) → Tot (l (n + 1) s) Q) : ∀ k s, mu s < k → Inv s → Tot (l k s) Q := by
  intro k
  induction k with
  | zero => intro s h; omega
  | succ k ih => exact fun s h hI => hs k s hI fun s' h1 h2 => ih s' (by omega) h1
def CodeOk (c : List By) : Prop := c.length ≤ 1000000 ∧ ∀ x ∈ c, 0 ≤ x.v ∧ x.v ≤ 255
def Pos (a : Int) : Prop := 0 ≤ a ∧ a ≤ 100000000
variable {k : Nat} {c : List By} {a s : Int}
theorem uand255 (y : Int) : 0 ≤ uand y 255 ∧ uand y 255 ≤ 255 := by
 unfold uand
 have h : (BitVec.ofInt 64 y &&& BitVec.ofInt 64 255).toNat ≤ 255 := by
  rw [BitVec.toNat_and]
  exact Nat.le_trans Nat.and_le_right (by decide)
 have h2 : IntKind.u64.wrap ((BitVec.ofInt 64 y &&& BitVec.ofInt 64 255).toNat : Int) = ((BitVec.ofInt 64 y &&& BitVec.ofInt 64 255).toNat : Int) := by
  generalize (BitVec.ofInt 64 y &&& BitVec.ofInt 64 255).toNat = m at h
  unfold IntKind.wrap
  simp [IntKind.bits, IntKind.signed]
  omega
 rw [h2]; omega
theorem next_ok (hc : CodeOk c) (ha : 0 ≤ a ∧ a ≤ 1000000000) : Tot (spec_l1Cur_next.f k c a s) (fun r => (0 ≤ r.1 ∧ r.1 ≤ 255) ∧ r.2.1 = a + 1) := by
 unfold spec_l1Cur_next.f
 obtain ⟨h0, h1⟩ := ha
 have hw : w64 (a + 1) = a + 1 := w64_id (by omega) (by omega)
 refine Tot.bind (P := fun y => 0 ≤ y ∧ y ≤ 255) ?_ fun y hy => ?_
 ·refine Tot.ite (fun h => ?_) (fun h => Tot.ret (by omega))
  refine Tot.bind (Tot.rdl h0 (by simpa using h)) fun x hx => Tot.ret ?_
  have := hc.2 x hx
  have e : IntKind.i64.wrap x.v = x.v := w64_id (by omega) (by omega)
  rw [e]; exact this
 ·rw [hw]
  refine Tot.ite (fun h => Tot.ret ⟨hy, rfl⟩) (fun h => Tot.ret ⟨?_, rfl⟩)
  have := uand255 (shr (wU (wU (wU (s * 6364136223846793005) + IntKind.u64.wrap y) + 462197)) 40)
  have e : ∀ z : Int, 0 ≤ z ∧ z ≤ 255 → IntKind.i64.wrap z = z := fun z hz => w64_id (by omega) (by omega)
  simp only
  rw [e _ this]; exact this
theorem pick_ok (hc : CodeOk c) (ha : Pos a) (n : Int) : Tot (spec_l1Cur_pick.f k c a s n) (fun r => 0 ≤ r.1 ∧ (r.1 < n ∨ r.1 = 0) ∧ a ≤ r.2.1 ∧ r.2.1 ≤ a + 2) := by
 unfold spec_l1Cur_pick.f
 refine Tot.ite (fun h => Tot.ret ⟨by simp, .inr rfl, by simp only; omega⟩) (fun h => ?_)
 have h' : 1 < n := by simpa using h
 have hp := ha
 unfold Pos at hp
 refine Tot.bind (next_ok hc (by omega)) ?_
 rintro ⟨x, a1, s1⟩ ⟨h1, h2⟩
 simp only at h1 h2 ⊢
 refine Tot.bind (P := fun r => 0 ≤ r.1 ∧ a ≤ r.2.1 ∧ r.2.1 ≤ a + 2) ?_ ?_
 ·refine Tot.ite (fun h => ?_) (fun h => Tot.ret (by simp only; omega))
  refine Tot.bind (next_ok hc (a := a1) (by omega)) ?_
  rintro ⟨x2, a2, s2⟩ ⟨h3, h4⟩
  simp only at h3 h4 ⊢
  refine Tot.ret ?_
  have e1 : w64 (x * 256) = x * 256 := w64_id (by omega) (by omega)
  rw [e1]
  have e2 : w64 (x * 256 + x2) = x * 256 + x2 := w64_id (by omega) (by omega)
  rw [e2]; simp only; omega
 ·rintro ⟨y, a2, s2⟩ ⟨h3, h4⟩
  simp only at h3 h4 ⊢
  rw [if_pos (by omega)]
  refine Tot.ret ⟨?_, .inl ?_, h4⟩
  ·exact Int.tmod_nonneg _ h3
  ·exact Int.tmod_lt_of_pos _ (by omega)
theorem one_ok (hc : CodeOk c) (ha : Pos a) (n : Int) : Tot (spec_l1Cur_one.f k c a s n) (fun r => a ≤ r.2.1 ∧ r.2.1 ≤ a + 2) := by
 unfold spec_l1Cur_one.f
 refine Tot.bind (pick_ok hc ha n) ?_
 rintro ⟨x, a1, s1⟩ ⟨_, _, h⟩
 exact Tot.ret h
theorem among_ok (hc : CodeOk c) (ha : Pos a) (l : List Int) (hl : l ≠ []) : Tot (spec_l1Cur_among.f k c a s l) (fun r => r.1 ∈ l ∧ a ≤ r.2.1 ∧ r.2.1 ≤ a + 2) := by
 unfold spec_l1Cur_among.f
 have hp : 0 < l.length := List.length_pos_iff.2 hl
 refine Tot.bind (pick_ok hc ha _) ?_
 rintro ⟨x, a1, s1⟩ ⟨h0, h1, h⟩
 simp only at h0 h1 h ⊢
 refine Tot.bind (Tot.rdl h0 (by omega)) fun t ht => Tot.ret ⟨ht, h⟩
theorem few_ok (hk : Big ≤ k) (hc : CodeOk c) (ha : Pos (a + 100)) (h0 : 0 ≤ a) (n : Int) : Tot (spec_l1Cur_few.f k c a s n) (fun r => a ≤ r.2.1 ∧ r.2.1 ≤ a + 6) := by
 unfold spec_l1Cur_few.f
 refine Tot.bind (among_ok hc (by unfold Pos at *; omega) _ (by simp)) ?_
 rintro ⟨x, a1, s1⟩ ⟨hm, h⟩
 simp only at hm h ⊢
 have hx : 0 ≤ x ∧ x ≤ 2 := by simp only [List.mem_cons, List.not_mem_nil, or_false] at hm; omega
 have := Tot.loop (l := fun q (s : Int × Int × Int × Int) => spec_l1Cur_few.l0 k c n q s.1 s.2.1 s.2.2.1 s.2.2.2) (fun s => (0 ≤ s.2.1 ∧ s.2.1 ≤ 2) ∧ a ≤ s.2.2.1 ∧ s.2.2.1 + 2 * s.2.1 ≤ a + 6) (fun s => s.2.1.toNat) (fun r => a ≤ r.2.1 ∧ r.2.1 ≤ a + 6) (fun q s hI ih => by
  obtain ⟨z, m, b, s'⟩ := s
  obtain ⟨e1, e2, e3⟩ := hI
  simp only at e1 e2 e3 ih ⊢
  rw [spec_l1Cur_few.l0]
  refine Tot.ite (fun g => ?_) (fun g => Tot.ret (by simp only; omega))
  have hm : 0 < m := by simpa using g
  refine Tot.bind (pick_ok hc (by unfold Pos at *; omega) _) ?_
  rintro ⟨t, b1, s2⟩ ⟨f1, _, f2⟩
  simp only at f1 f2 ⊢
  rw [if_pos (by omega), show w64 (m - 1) = m - 1 from w64_id (by omega) (by omega)]
  exact ih (_, m - 1, b1, s2) ⟨by simp only; omega, by simp only; omega, by simp only; omega⟩ (by simp only; omega)) k (0, x, a1, s1) (by simp only; unfold Big at hk; omega) ⟨hx, by simp only; omega, by simp only; omega⟩
 refine Tot.bind this ?_
 rintro ⟨r, b, s2⟩ h
 exact Tot.ret h
def MzS (n : Int) (d : List Door) (ks : List Int) : Prop := (-1 ≤ n ∧ n ≤ 4611686018427387904) ∧ d.length ≤ 40 ∧ ks.length ≤ 20
theorem putD_ok (hk : Big ≤ k) (d : List Door) (A B C : Int) (hd : d.length ≤ 100) (hs : d.Pairwise DoorLt) : Tot (spec_l2Put.f k d A B C) (fun r => r.Pairwise DoorLt ∧ r.length ≤ d.length + 1) := by
 rw [l2Put_eq hk d A B C (by omega) hs]
 refine Tot.ret ?_
 split
 ·exact ⟨hs, by omega⟩
 ·rename_i h; exact ⟨insD_sorted _ _ hs h, by rw [insD_length]; omega⟩
theorem someMaze_ok (hk : Big ≤ k) (hc : CodeOk c) (ha : Pos (a + 1000)) (h0 : 0 ≤ a) (n : Int) (hn : 1 ≤ n ∧ n ≤ 12) : Tot (spec_l1Cur_someMaze.f k c a s n) (fun r => MzS r.1 r.2.1 r.2.2.1 ∧ a ≤ r.2.2.2.1 ∧ r.2.2.2.1 ≤ a + 300) := by
 have hA : a + 1000 ≤ 100000000 := ha.2
 clear ha
 have P : ∀ x : Int, a ≤ x → x ≤ a + 500 → Pos x := fun x h1 h2 => by unfold Pos; omega
 unfold spec_l1Cur_someMaze.f
 refine Tot.bind (pick_ok hc (P _ (by omega) (by omega)) _) ?_
 rintro ⟨m, a1, s1⟩ ⟨g1, g2, g3⟩
 simp only at g1 g2 g3 ⊢
 have hm : w64 (1 + m) = 1 + m := w64_id (by omega) (by omega)
 -- the nodes
 have L0 := Tot.loop (l := fun q (s : Int × Int × List Door × List Int × Int × Int) => spec_l1Cur_someMaze.l0 k c n m q s.1 s.2.1 s.2.2.1 s.2.2.2.1 s.2.2.2.2.1 s.2.2.2.2.2)
  (fun s => (0 ≤ s.2.1 ∧ s.2.1 ≤ 13) ∧ (s.2.2.1.Pairwise DoorLt ∧ (s.2.2.1.length : Int) ≤ s.2.1) ∧ ((s.2.2.2.1.length : Int) = s.2.1 ∧ s.2.2.2.1.length ≤ n.toNat) ∧ a ≤ s.2.2.2.2.1 ∧ s.2.2.2.2.1 ≤ a + 2 + 14 * s.2.1) (fun s => (13 - s.2.1).toNat)
  (fun r => (r.2.2.1.Pairwise DoorLt ∧ r.2.2.1.length ≤ 13) ∧ r.2.2.2.length = n.toNat ∧ a ≤ r.1 ∧ r.1 ≤ a + 184) (fun q s hI ih => by
  obtain ⟨z, i, d, ks, b, s'⟩ := s
  obtain ⟨e1, ⟨e2, e3⟩, ⟨e4, e4'⟩, e5, e6⟩ := hI
  simp only at e1 e2 e3 e4 e4' e5 e6 ih ⊢
  rw [spec_l1Cur_someMaze.l0]
  refine Tot.bind (P := fun y => y = true ↔ i < n ∧ i < 13) ?_ ?_
  ·refine Tot.ite (fun h => Tot.ret ?_) (fun h => Tot.ret ?_)
   ·have : i < n := by simpa using h
    simp [this]
   ·have : ¬ i < n := by simpa using h
    simp [this]
  intro y hy
  refine Tot.ite (fun h => ?_) (fun h => Tot.ret ⟨⟨e2, by simp only; omega⟩, ?_, e5, by simp only; omega⟩)
  rotate_left 1
  ·have : ¬ (i < n ∧ i < 13) := fun hh => h (hy.2 hh)
   simp only; omega
  have hi := hy.1 h
  refine Tot.bind (one_ok hc (P _ (by omega) (by omega)) _) ?_
  rintro ⟨o, b1, s1⟩ f1
  simp only at f1 ⊢
  refine Tot.bind (P := fun r => a ≤ r.2.1 ∧ r.2.1 ≤ a + 2 + 14 * i + 4) ?_ ?_
  ·refine Tot.ite (fun h => ?_) (fun h => Tot.ret (by simp only; omega))
   refine Tot.bind (pick_ok hc (P _ (by omega) (by omega)) _) ?_
   rintro ⟨t, b2, s2⟩ ⟨f2, f3, f4⟩
   simp only at f2 f3 f4 ⊢
   rw [if_pos (by omega)]
   exact Tot.ret (by simp only; omega)
  rintro ⟨y9, b2, s2⟩ f2
  simp only at f2 ⊢
  rw [if_pos (by simp; omega)]
  refine Tot.bind (P := fun r => (r.2.2.Pairwise DoorLt ∧ (r.2.2.length : Int) ≤ i + 1) ∧ a ≤ r.1 ∧ r.1 ≤ a + 2 + 14 * i + 14) ?_ ?_
  ·refine Tot.ite (fun h => ?_) (fun h => Tot.ret ⟨⟨e2, by simp only; omega⟩, by simp only; omega⟩)
   refine Tot.bind (few_ok hk hc (by unfold Pos; omega) (by omega) _) ?_
   rintro ⟨t, b3, s3⟩ f3
   simp only at f3 ⊢
   refine Tot.bind (one_ok hc (P _ (by omega) (by omega)) _) ?_
   rintro ⟨o2, b4, s4⟩ f4
   simp only at f4 ⊢
   refine Tot.bind (P := fun _ => True) (Tot.ite (fun h => Tot.ret trivial) (fun h => Tot.ret trivial)) ?_
   intro y10 _
   refine Tot.bind (pick_ok hc (P _ (by omega) (by omega)) _) ?_
   rintro ⟨t5, b5, s5⟩ ⟨_, _, f5⟩
   simp only at f5 ⊢
   refine Tot.bind (putD_ok hk d _ _ _ (by omega) e2) ?_
   intro d2 f6
   exact Tot.ret ⟨⟨f6.1, by have := f6.2; simp only; omega⟩, by simp only; omega⟩
  rintro ⟨b3, s3, d2⟩ ⟨⟨f3, f4⟩, f5⟩
  simp only at f3 f4 f5 ⊢
  rw [show w64 (i + 1) = i + 1 from w64_id (by omega) (by omega)]
  exact ih (_, i + 1, d2, ks ++ [y9], b3, s3) ⟨by simp only; omega, ⟨f3, by simp only; omega⟩, ⟨by simp; omega, by simp; omega⟩, f5.1, by simp only; omega⟩ (by simp only; omega)) k (0, 0, [], [], a1, s1) (by simp only; unfold Big at hk; omega) ⟨by simp, ⟨.nil, by simp⟩, ⟨by simp, by simp⟩, by simp only; omega, by simp only; omega⟩
 refine Tot.bind L0 ?_
 rintro ⟨a2, s2, d, ks⟩ ⟨⟨d1, d2⟩, k1, p1, p2⟩
 simp only at d1 d2 k1 p1 p2 ⊢
 refine Tot.bind (pick_ok hc (P _ (by omega) (by omega)) _) ?_
 rintro ⟨m2, a3, s3⟩ ⟨j1, j2, j3⟩
 simp only at j1 j2 j3 ⊢
 -- more doors
 have L1 := Tot.loop (l := fun q (s : Int × Int × Int × List Door) => spec_l1Cur_someMaze.l1 k c n m q s.1 s.2.1 s.2.2.1 s.2.2.2)
  (fun s => (0 ≤ s.1 ∧ s.1 ≤ 5) ∧ (s.2.2.2.Pairwise DoorLt ∧ (s.2.2.2.length : Int) + s.1 ≤ 18) ∧ a ≤ s.2.1 ∧ s.2.1 + 10 * s.1 ≤ a + 236) (fun s => s.1.toNat)
  (fun r => r.2.2.length ≤ 18 ∧ a ≤ r.1 ∧ r.1 ≤ a + 236) (fun q s hI ih => by
  obtain ⟨i, b, s', d⟩ := s
  obtain ⟨e1, ⟨e2, e3⟩, e5, e6⟩ := hI
  simp only at e1 e2 e3 e5 e6 ih ⊢
  rw [spec_l1Cur_someMaze.l1]
  refine Tot.bind (P := fun y => y = true → i > 0) ?_ ?_
  ·refine Tot.ite (fun h => ?_) (fun h => Tot.ret (by simp))
   have : i > 0 := by simpa using h
   exact Tot.ite (fun h => Tot.ret fun _ => this) (fun h => Tot.ret fun _ => this)
  intro y hy
  refine Tot.ite (fun h => ?_) (fun h => Tot.ret ⟨by simp only; omega, e5, by simp only; omega⟩)
  have hi := hy h
  refine Tot.bind (pick_ok hc (P _ (by omega) (by omega)) _) ?_
  rintro ⟨t1, b1, s1⟩ ⟨_, _, f1⟩
  simp only at f1 ⊢
  refine Tot.bind (pick_ok hc (P _ (by omega) (by omega)) _) ?_
  rintro ⟨t2, b2, s2⟩ ⟨_, _, f2⟩
  simp only at f2 ⊢
  refine Tot.bind (P := fun r => (r.2.2.Pairwise DoorLt ∧ (r.2.2.length : Int) + i ≤ 19) ∧ a ≤ r.1 ∧ r.1 + 10 * i ≤ a + 246) ?_ ?_
  ·refine Tot.ite (fun h => ?_) (fun h => Tot.ret ⟨⟨e2, by simp only; omega⟩, by simp only; omega⟩)
   refine Tot.bind (few_ok hk hc (by unfold Pos; omega) (by omega) _) ?_
   rintro ⟨t3, b3, s3⟩ f3
   simp only at f3 ⊢
   refine Tot.bind (putD_ok hk d _ _ _ (by omega) e2) ?_
   intro d2 f6
   exact Tot.ret ⟨⟨f6.1, by have := f6.2; simp only; omega⟩, by simp only; omega⟩
  rintro ⟨b3, s3, d2⟩ ⟨⟨f3, f4⟩, f5⟩
  simp only at f3 f4 f5 ⊢
  rw [show w64 (i - 1) = i - 1 from w64_id (by omega) (by omega)]
  exact ih (i - 1, b3, s3, d2) ⟨by simp only; omega, ⟨f3, by simp only; omega⟩, f5.1, by simp only; omega⟩ (by simp only; omega)) k (m2, a3, s3, d) (by simp only; unfold Big at hk; omega) ⟨by simp only; omega, ⟨d1, by simp only; omega⟩, by simp only; omega, by simp only; omega⟩
 refine Tot.bind L1 ?_
 rintro ⟨a4, s4, e⟩ ⟨d3, p3, p4⟩
 simp only at d3 p3 p4 ⊢
 refine Tot.bind (pick_ok hc (P _ (by omega) (by omega)) _) ?_
 rintro ⟨m3, a5, s5⟩ ⟨_, _, j4⟩
 simp only at j4 ⊢
 have hn1 : w64 (n + 1) = n + 1 := w64_id (by omega) (by omega)
 refine Tot.ite (fun g => ?_) (fun _ => Tot.ite (fun g => ?_) (fun _ => Tot.ite (fun g => ?_) (fun _ => Tot.ite (fun g => ?_) (fun _ => Tot.ite (fun g => ?_) (fun _ => ?_)))))
 ·refine Tot.bind (among_ok hc (P _ (by omega) (by omega)) _ (by simp)) ?_
  rintro ⟨t, b, s6⟩ ⟨hm, h'⟩
  simp only [List.mem_cons, List.not_mem_nil, or_false, hn1] at hm
  simp only at h' ⊢
  exact Tot.ret ⟨⟨by simp only; omega, by simp only; omega, by simp only; omega⟩, by simp only; omega⟩
 ·refine Tot.bind (P := fun r => r.2.2.length ≤ 18 ∧ a ≤ r.1 ∧ r.1 ≤ a + 240) ?_ ?_
  ·refine Tot.ite (fun h => ?_) (fun h => Tot.ret ⟨d3, by simp only; omega⟩)
   have he : 0 < (e.length : Int) := by simpa using h
   refine Tot.bind (pick_ok hc (P _ (by omega) (by omega)) _) ?_
   rintro ⟨t, b, s6⟩ ⟨h1, h2, h3⟩
   simp only at h1 h2 h3 ⊢
   have hb : t < (e.length : Int) := by omega
   refine Tot.bind (Tot.rdl h1 hb) fun _ _ => Tot.bind (Tot.rdl h1 hb) fun _ _ => Tot.bind (Tot.rdl h1 hb) fun _ _ => Tot.ret ⟨by simpa using d3, by simp only; omega⟩
  rintro ⟨b, s6, e'⟩ ⟨h1, h2⟩
  exact Tot.ret ⟨⟨by simp only; omega, by simp only at h1 ⊢; omega, by simp only; omega⟩, by simp only at h2 ⊢; omega⟩
 ·refine Tot.bind (P := fun r => r.2.2.length = ks.length ∧ a ≤ r.1 ∧ r.1 ≤ a + 242) ?_ ?_
  ·refine Tot.ite (fun h => ?_) (fun h => Tot.ret ⟨rfl, by simp only; omega⟩)
   have he : 0 < (ks.length : Int) := by simpa using h
   refine Tot.bind (P := fun r => r.2.2.length = ks.length ∧ a ≤ r.1 ∧ r.1 ≤ a + 242) ?_ fun r hr => Tot.ret hr
   refine Tot.bind (pick_ok hc (P _ (by omega) (by omega)) _) ?_
   rintro ⟨t, b, s6⟩ ⟨h1, h2, h3⟩
   simp only at h1 h2 h3 ⊢
   refine Tot.bind (among_ok hc (P _ (by omega) (by omega)) _ (by simp)) ?_
   rintro ⟨t2, b2, s7⟩ ⟨_, h4⟩
   simp only at h4 ⊢
   refine Tot.bind (Tot.rdl h1 (by omega)) fun _ _ => Tot.ret ⟨by simp, by simp only; omega⟩
  rintro ⟨b, s6, e'⟩ ⟨h1, h2⟩
  exact Tot.ret ⟨⟨by simp only; omega, by simp only; omega, by simp only at h1 ⊢; omega⟩, by simp only at h2 ⊢; omega⟩
 ·refine Tot.bind (P := fun r => r.length ≤ 19) ?_ ?_
  ·refine Tot.ite (fun h => ?_) (fun h => Tot.ret (by omega))
   have he : 0 < (e.length : Int) := by simpa using h
   refine Tot.bind (Tot.rdl (Int.le_refl 0) he) fun x _ => ?_
   rw [if_pos (by simp; omega)]
   exact Tot.ret (by simp; omega)
  intro e' h1
  exact Tot.ret ⟨⟨by simp only; omega, by simp only; omega, by simp only; omega⟩, by simp only; omega⟩
 ·exact Tot.ret ⟨⟨by simp, by simp, by simp⟩, by simp only; omega⟩
 ·exact Tot.ret ⟨⟨by simp only; omega, by simp only; omega, by simp only; omega⟩, by simp only; omega⟩
theorem maze_ok (hk : Big ≤ k) (hc : CodeOk c) (ha : Pos (a + 2000)) (h0 : 0 ≤ a) : Tot (spec_l1Cur_maze.f k c a s) (fun r => MzS r.1 r.2.1 r.2.2.1 ∧ a ≤ r.2.2.2.1 ∧ r.2.2.2.1 ≤ a + 302) := by
 unfold spec_l1Cur_maze.f
 refine Tot.bind (among_ok hc (by unfold Pos at *; omega) _ (by simp)) ?_
 rintro ⟨x, a2, s2⟩ ⟨hm, h'⟩
 simp only [List.mem_cons, List.not_mem_nil, or_false] at hm
 simp only at h' ⊢
 refine Tot.bind (someMaze_ok hk hc (by unfold Pos at *; omega) (by omega) x (by omega)) ?_
 rintro ⟨n, d, ks, a3, s3⟩ ⟨h1, h2⟩
 exact Tot.ret ⟨h1, by simp only at h2 ⊢; omega⟩

variable {k : Nat} {c : List By} {a s : Int}

theorem vInts_eq (hk : Big ≤ k) (x y : List Int) (hx : x.length ≤ 1048576) : laws_vInts.f k x y = some (decide (x = y)) := by
 unfold laws_vInts.f
 by_cases h : x.length = y.length
 ·rw [if_neg (by simp; omega), loop_eq (l := laws_vInts.l0 k x y) h (fun n i hi => by
   rw [laws_vInts.l0]
   have h1 : ((i : Int) < (x.length : Int)) := by omega
   have hw : w64 ((i : Int) + 1) = ((i + 1 : Nat) : Int) := w64_id (by omega) (by omega)
   simp only [h1, decide_true, if_true, rdl_lt hi, rdl_lt (h ▸ hi), Option.bind_some, hw]
   by_cases h2 : x[i] = y[i] <;> simp [h2]) (fun n => by rw [laws_vInts.l0]; simp) (by unfold Big at hk; omega), Option.bind_some, Lr_ite]
  by_cases h2 : x = y <;> simp [h2]
 ·rw [if_pos (by simp; omega)]
  have : x ≠ y := fun e => h (by rw [e])
  simp [this]
theorem rInts_eq (hk : Big ≤ k) (x y : List Int) (hx : x.length ≤ 1048576) : laws_rInts.f k x y = some (decide (x = y)) := by
 unfold laws_rInts.f
 by_cases h : x.length = y.length
 ·rw [if_neg (by simp; omega), loop_eq (l := laws_rInts.l0 k x y) h (fun n i hi => by
   rw [laws_rInts.l0]
   have h1 : ((i : Int) < (x.length : Int)) := by omega
   have hw : w64 ((i : Int) + 1) = ((i + 1 : Nat) : Int) := w64_id (by omega) (by omega)
   simp only [h1, decide_true, if_true, rdl_lt hi, rdl_lt (h ▸ hi), Option.bind_some, hw]
   by_cases h2 : x[i] = y[i] <;> simp [h2]) (fun n => by rw [laws_rInts.l0]; simp) (by unfold Big at hk; omega), Option.bind_some, Lr_ite]
  by_cases h2 : x = y <;> simp [h2]
 ·rw [if_pos (by simp; omega)]
  have : x ≠ y := fun e => h (by rw [e])
  simp [this]

theorem code_ok {c : List By} (h : wfd c) (hl : c.length ≤ 65536) : CodeOk c := ⟨by omega, fun x hx => h.2 x hx⟩

section
variable {k : Nat}
def AskF (n : Int) (d : List Door) (ks : List Int) (h : Int) (fs : List Int) : Prop := (IsMaze n d ks ∧ 0 ≤ h ∧ h ≤ 63) ∧ FillP n h.toNat fs
instance (n : Int) (d : List Door) (ks : List Int) (h : Int) (fs : List Int) : Decidable (AskF n d ks h fs) := by unfold AskF; infer_instance
end

variable {k : Nat} {c : List By} {a s : Int}
def TrS (n : Int) (d : List Door) (ks tr : List Int) : Prop := MzS n d ks ∧ tr.length ≤ 50
theorem trap_ok (hk : Big ≤ k) (hc : CodeOk c) (ha : Pos (a + 5000)) (h0 : 0 ≤ a) : Tot (spec_l1Cur_trap.f k c a s) (fun r => TrS r.1 r.2.1 r.2.2.1 r.2.2.2.1 ∧ a ≤ r.2.2.2.2.1 ∧ r.2.2.2.2.1 ≤ a + 400) := by
 have hA : a + 5000 ≤ 100000000 := ha.2
 clear ha
 have P : ∀ x : Int, a ≤ x → x ≤ a + 2000 → Pos x := fun x h1 h2 => by unfold Pos; omega
 unfold spec_l1Cur_trap.f
 refine Tot.bind (maze_ok hk hc (by unfold Pos; omega) h0) ?_
 rintro ⟨n, d, ks, a1, s1⟩ ⟨hM, h1⟩
 simp only at hM h1 ⊢
 have L := Tot.loop (l := fun q (s : Nat × List Int × Int × Int) => spec_l1Cur_trap.l0 k c d q (s.1 : Int) s.2.1 s.2.2.1 s.2.2.2) (fun s => s.1 ≤ 31 ∧ s.2.1.length ≤ s.1 ∧ a ≤ s.2.2.1 ∧ s.2.2.1 ≤ a + 302 + 2 * s.1) (fun s => 31 - s.1) (fun r => r.2.2.length ≤ 31 ∧ a ≤ r.1 ∧ r.1 ≤ a + 364) (fun q s hI ih => by
  obtain ⟨i, l, b, s'⟩ := s
  obtain ⟨e1, e2, e3, e4⟩ := hI
  simp only at e1 e2 e3 e4 ih ⊢
  rw [spec_l1Cur_trap.l0]
  refine Tot.bind (P := fun y => y = true → i < 31) ?_ ?_
  ·refine Tot.ite (fun h => Tot.ret (by simp; omega)) (fun h => Tot.ret (by simp))
  intro y hy
  refine Tot.ite (fun h => ?_) (fun h => Tot.ret ⟨by simp only; omega, by simp only; omega⟩)
  have hi := hy h
  refine Tot.bind (one_ok hc (P _ (by omega) (by omega)) _) ?_
  rintro ⟨t, b1, s1⟩ f1
  simp only at f1 ⊢
  refine Tot.bind (P := fun r => r.length ≤ i + 1) ?_ ?_
  ·refine Tot.ite (fun h => ?_) (fun h => Tot.ret (by omega))
   rw [if_pos (by simp; omega)]; exact Tot.ret (by simp; omega)
  intro l2 h2
  rw [show w64 ((i : Int) + 1) = ((i + 1 : Nat) : Int) from w64_id (by omega) (by omega)]
  exact ih (i + 1, l2, b1, s1) ⟨by simp only; omega, h2, by simp only; omega, by simp only; omega⟩ (by simp only; omega)) k (0, [], a1, s1) (by simp only; unfold Big at hk; omega) ⟨by simp, by simp, by simp only; omega, by simp only; omega⟩
 refine Tot.bind L ?_
 rintro ⟨a2, s2, l⟩ ⟨h2, h3⟩
 simp only at h2 h3 ⊢
 refine Tot.bind (one_ok hc (P _ (by omega) (by omega)) _) ?_
 rintro ⟨b, a3, s3⟩ h4
 simp only at h4 ⊢
 refine Tot.bind (P := fun r => r.2.2.length ≤ 32 ∧ a ≤ r.1 ∧ r.1 ≤ a + 400) ?_ ?_
 ·refine Tot.ite (fun h => ?_) (fun h => Tot.ret ⟨by simp only; omega, by simp only; omega⟩)
  refine Tot.bind (among_ok hc (P _ (by omega) (by omega)) _ (by simp)) ?_
  rintro ⟨x, a4, s4⟩ ⟨_, h5⟩
  simp only at h5 ⊢
  rw [if_pos (by simp; omega)]
  exact Tot.ret ⟨by simp; omega, by simp only; omega⟩
 rintro ⟨a4, s4, l2⟩ ⟨h5, h6⟩
 exact Tot.ret ⟨⟨hM, by simp only at h5 ⊢; omega⟩, h6⟩

def StP (n : Int) (d : List Door) (ks tr : List Int) (x s : Int) : Prop := IsTrapP n d ks tr ∧ (0 ≤ x ∧ x ≤ n - 1) ∧ 0 ≤ s ∧ s ≤ 63
noncomputable instance (n : Int) (d : List Door) (ks tr : List Int) (x s : Int) : Decidable (StP n d ks tr x s) := Classical.propDecidable _
theorem IsGood_eq (hk : Big ≤ k) (n : Int) (d : List Door) (ks tr : List Int) (x s : Int) (hd : d.length ≤ 1048576) (hks : ks.length ≤ 1048576) (ht : tr.length ≤ 1048576) :
  impl_IsGood.f k n d ks tr x s = some (if StP n d ks tr x s then (godB n d ks tr (x * 64 + s).toNat, true) else (false, false)) := by
 unfold impl_IsGood.f
 rw [isTrapState_eq hk n d ks tr x s hd hks ht]
 by_cases h : StP n d ks tr x s
 rotate_left 1
 ·rw [if_neg h, decide_eq_false (show ¬ (IsTrapP n d ks tr ∧ (0 ≤ x ∧ x ≤ n - 1) ∧ 0 ≤ s ∧ s ≤ 63) from h)]; rfl
 rw [if_pos h]
 obtain ⟨hT, hx, hs⟩ := id h
 have hm := hT.1
 have om := hm.okm
 have hlo := om.lo
 have hhi := om.hi
 obtain ⟨D, e1, e2, e3⟩ := toTrapGoal_eq hk hm ht
 obtain ⟨a, rfl⟩ := Int.eq_ofNat_of_zero_le hx.1
 obtain ⟨b, rfl⟩ := Int.eq_ofNat_of_zero_le hs.1
 have hi : a * 64 + b < n.toNat * 64 := by omega
 have hid : ((a : Int) * 64 + (b : Int)) = ((a * 64 + b : Nat) : Int) := by omega
 have hg1 : 0 ≤ (a : Int) ∧ (a : Int) < 12 := by omega
 have hg2 : 0 ≤ (b : Int) ∧ (b : Int) < 64 := by omega
 have hat : D.at ((a * 64 + b : Nat) : Int) = D.l.getD (a * 64 + b) 0 := rfl
 have hsame : decide (D.l.getD (a * 64 + b) 0 ≥ 0) = godB n d ks tr (a * 64 + b) := by
  rw [Bool.eq_iff_iff, decide_eq_true_eq, godB_iff]
  exact dist_iff om e2 e3 hi
 rw [decide_eq_true (show IsTrapP n d ks tr ∧ (0 ≤ (a : Int) ∧ (a : Int) ≤ n - 1) ∧ 0 ≤ (b : Int) ∧ (b : Int) ≤ 63 from ⟨hT, hx, hs⟩)]
 rw [hid, Int.toNat_natCast]
 simp only [Option.bind_some, Bool.not_true, Bool.false_eq_true, if_false, e1, if_pos hg1, if_pos hg2, hid, hat, hsame]
theorem CountMet_eq (hk : Big ≤ k) (n : Int) (d : List Door) (ks tr : List Int) (hd : d.length ≤ 1048576) (hks : ks.length ≤ 1048576) (ht : tr.length ≤ 1048576) :
  impl_CountMet.f k n d ks tr = some (if IsTrapP n d ks tr then (cntM (metB n d ks tr) (n.toNat * 64), ((appUpto (lostI (metB n d ks tr) (godB n d ks tr)) (n.toNat * 64)).length : Int), true) else (0, 0, false)) := by
 unfold impl_CountMet.f
 rw [IsTrap_eq hk n d ks tr hd hks ht]
 by_cases hT : IsTrapP n d ks tr
 rotate_left 1
 ·rw [decide_eq_false hT, if_neg hT]; rfl
 have hm := hT.1
 obtain ⟨e1, _⟩ := lost_both hk hm ht
 have hll := (lost_len (metB n d ks tr) (godB n d ks tr) (n.toNat * 64)).1
 rw [decide_eq_true hT, if_pos hT]
 simp only [Option.bind_some, Bool.not_true, Bool.false_eq_true, if_false, e1, hll]
theorem StateBehind_eq (hk : Big ≤ k) (n : Int) (d : List Door) (ks tr l : List Int) (hd : d.length ≤ 1048576) (hks : ks.length ≤ 1048576) (ht : tr.length ≤ 1048576) (hl : l.length ≤ 1048576) :
  impl_StateBehind.f k n d ks tr l = some (if IsTrapP n d ks tr then behindR n d ks tr l else (0, 0, false)) := by
 unfold impl_StateBehind.f
 rw [IsTrap_eq hk n d ks tr hd hks ht, Option.bind_some]
 by_cases h : IsTrapP n d ks tr
 ·rw [decide_eq_true h, if_pos h, if_neg (by simp), trapWalk_eq hk n d ks tr l h.1 ht hl]; rfl
 ·rw [decide_eq_false h, if_neg h]; rfl

variable {k : Nat}

variable {k : Nat} {c : List By} {a s : Int}
def SwF (n : Int) (d : List Door) (ks : List Int) (h : Int) (fs : List Int) (a b : Int) : Prop := AskF n d ks h fs ∧ a ≠ b ∧ a ∈ upto h.toNat 12 ∧ b ∈ upto h.toNat 12
instance (n : Int) (d : List Door) (ks : List Int) (h : Int) (fs : List Int) (a b : Int) : Decidable (SwF n d ks h fs a b) := by unfold SwF; infer_instance

variable {k : Nat} {c : List By}

variable {k : Nat}

variable {k : Nat} {c : List By} {a s : Int}

variable {k : Nat} {c : List By}

variable {k : Nat} {c : List By} {a s : Int}

variable {k : Nat} {c : List By} {a s : Int}

variable {k : Nat} {ms : List MazeT} {os : List (List Int)} {rel : Bool}
noncomputable def hist (ms : List MazeT) (os : List (List Int)) (rel : Bool) : Nat → List Int
  | 0 => List.replicate ms.length 0
  | t + 1 => nextA ms os rel (hist ms os rel t)
def WonAt (ms : List MazeT) (os : List (List Int)) (rel : Bool) (m j : Nat) (v : Int) : Prop :=
 (v = -1 ∧ ∀ t, t < m → goalW ms (hist ms os rel t) j = false) ∨ ∃ w : Nat, w < m ∧ v = (w : Int) ∧ goalW ms (hist ms os rel w) j = true ∧ ∀ t, t < w → goalW ms (hist ms os rel t) j = false
theorem WonAt.step {m j : Nat} {v : Int} (h : WonAt ms os rel m j v) : WonAt ms os rel (m + 1) j (wonF ms (hist ms os rel m) (m : Int) j v) := by
 unfold wonF
 rcases h with ⟨rfl, h⟩ | ⟨w, hw, rfl, h1, h2⟩
 ·by_cases hg : goalW ms (hist ms os rel m) j = true
  ·rw [if_pos ⟨hg, by omega⟩]
   exact .inr ⟨m, by omega, rfl, hg, h⟩
  ·rw [if_neg (fun h => hg h.1)]
   refine .inl ⟨rfl, fun t ht => ?_⟩
   rcases Nat.lt_or_eq_of_le (Nat.lt_succ_iff.1 ht) with h' | rfl
   ·exact h t h'
   ·simpa using hg
 ·rw [if_neg (fun h => by have := h.2; omega)]
  exact .inr ⟨w, by omega, rfl, h1, h2⟩
def PlayF (ms : List MazeT) (os : List (List Int)) (rel : Bool) (S : List (List Int)) (W : List Int) : Prop :=
 ∃ T, T < 300 ∧ S = (List.range (T + 1)).map (hist ms os rel) ∧ hist ms os rel (T + 1) = hist ms os rel T ∧ ∀ j, j < ms.length → WonAt ms os rel (T + 1) j (W.getD j 0)

structure Le6 (a b : List Int) : Prop where
 len : b.length = a.length
 ra : ∀ x ∈ a, 0 ≤ x ∧ x ≤ 63
 rb : ∀ x ∈ b, 0 ≤ x ∧ x ≤ 63
 sub : ∀ j, subB (a.getD j 0).toNat (b.getD j 0).toNat = true
theorem bor_bits {a b : Int} (ha : 0 ≤ a ∧ a ≤ 63) (hb : 0 ≤ b ∧ b ≤ 63) (t : Nat) : (bor a b).toNat.testBit t = (a.toNat.testBit t || b.toNat.testBit t) := by
 obtain ⟨x, rfl⟩ := Int.eq_ofNat_of_zero_le ha.1
 obtain ⟨y, rfl⟩ := Int.eq_ofNat_of_zero_le hb.1
 rw [bor_nat (by omega) (by omega), Int.toNat_natCast, Int.toNat_natCast, Int.toNat_natCast, Nat.testBit_or]
theorem subB_bor2 {a b c : Int} (ha : 0 ≤ a ∧ a ≤ 63) (hb : 0 ≤ b ∧ b ≤ 63) (hc : 0 ≤ c ∧ c ≤ 63) (h : subB a.toNat b.toNat = true) : subB (bor a c).toNat (bor b c).toNat = true :=
 subB_iff.2 fun t ht => by
  rw [bor_bits ha hc, Bool.or_eq_true] at ht
  rw [bor_bits hb hc, Bool.or_eq_true]
  exact ht.imp (subB_iff.1 h t) id
theorem subB_borr {a b : Int} (ha : 0 ≤ a ∧ a ≤ 63) (hb : 0 ≤ b ∧ b ≤ 63) : subB b.toNat (bor a b).toNat = true :=
 subB_iff.2 fun t ht => by rw [bor_bits ha hb, ht, Bool.or_true]

variable {k : Nat} {c : List By} {a s : Int} {ms : List MazeT} {os : List (List Int)}

variable {k : Nat} {c : List By} {a s : Int} {ms : List MazeT} {os : List (List Int)}

structure Vals (k : Nat) (ms : List MazeT) (os : List (List Int)) (S : List (List Int)) (W : List Int) (al : Bool) (S' : List (List Int)) (W' : List Int) (ok : Bool) : Prop where
 r1 : impl_RoundSets.f k ms os = some (S, ok)
 r2 : spec_RoundSets.f k ms os = some (S, ok)
 r3 : impl_IsWorlds.f k ms os = some ok
 r4 : impl_WonRounds.f k ms os = some (W, ok)
 r5 : spec_WonRounds.f k ms os = some (W, ok)
 r6 : impl_AllWon.f k ms os = some (al, ok)
 r7 : spec_AllWon.f k ms os = some (al, ok)
 r8 : impl_ReleaseSets.f k ms os = some (S', ok)
 r9 : spec_ReleaseSets.f k ms os = some (S', ok)
 r10 : impl_ReleaseRounds.f k ms os = some (W', ok)
 r11 : spec_ReleaseRounds.f k ms os = some (W', ok)
 b1 : S.length ≤ 300 ∧ ∀ t ∈ S, t.length ≤ 100
 b2 : S'.length ≤ 300 ∧ ∀ t ∈ S', t.length ≤ 100
 b3 : W.length ≤ 100
 b4 : W'.length ≤ 100
 good : ok = true → IsWorldsP ms os ∧ W.length = ms.length ∧ W'.length = ms.length ∧ al = !W.contains (-1) ∧ PlayF ms os false S W ∧ PlayF ms os true S' W'

structure Rows (S : List (List Int)) (n : Nat) : Prop where
 few : S.length ≤ 300 ∧ n ≤ 100
 len : ∀ r (h : r < S.length), S[r].length = n
 up : ∀ r (h : r + 1 < S.length) j (h1 : j < S[r].length) (h2 : j < S[r + 1].length), band S[r + 1][j] S[r][j] = S[r][j]

variable {k : Nat} {c : List By} {a s : Int} {n : Int} {d : List Door} {ks l : List Int} {u : Int}
def nowH (n : Int) (d : List Door) (ks l : List Int) : Int := (takenP n d ks l).1.getD (l.length - 1) 0
structure Walked (n : Int) (d : List Door) (ks l : List Int) : Prop where
 pos : 0 < l.length
 rng : 0 ≤ nowH n d ks l ∧ nowH n d ks l ≤ 63
 node : ∀ x ∈ l, 0 ≤ x ∧ x ≤ n - 1
 sub : subB (nowH n d ks l).toNat (lastH d ks 64 0).toNat = true
 rch : ∀ x ∈ l, Rch d (lastH d ks 64 0) 0 x
 st : itx (takeG n d ks l) l.length 0 ([], 0) = .inl ((takenP n d ks l).1, nowH n d ks l)

variable {k : Nat} {c : List By} {a s : Int} {n : Int} {d : List Door} {ks l : List Int} {u : Int}

variable {k : Nat} {n : Int} {d : List Door} {ks l : List Int} {u : Int}

variable {k : Nat} {n : Int} {d : List Door} {ks : List Int}

variable {k : Nat} {n : Int} {d : List Door} {ks : List Int}
def keysN (ks : List Int) (N : Nat) : Int := gain ks (upto N 12) 0
structure Grown (d : List Door) (ks : List Int) (A R : Nat) : Prop where
 zero : R.testBit 0 = true
 sub : ∀ t, R.testBit t = true → A.testBit t = true
 all : ∀ Q : Nat → Prop, Q 0 → (∀ X : Nat, (∀ t, X.testBit t = true → Q t ∧ A.testBit t = true) → ∀ z ∈ upto X 12, ∀ t : Nat, d.any (goes z (t : Int) (keysN ks X)) = true → A.testBit t = true → Q t) → ∀ t, R.testBit t = true → Q t

variable {k : Nat} {n : Int} {d : List Door} {ks : List Int}

variable {k : Nat} {n : Int} {d : List Door} {ks : List Int}

variable {k : Nat} {n : Int} {d : List Door} {ks : List Int} {h : Int}

theorem mem_upto' {β : Type} {F : Nat → List β} {m : Nat} {x : β} : x ∈ appUpto F m ↔ ∃ i, i < m ∧ x ∈ F i := by
 unfold appUpto
 simp only [List.mem_flatMap, List.mem_range]

variable {k : Nat} {n : Int} {d : List Door} {ks : List Int} {h : Int} {c : List By}

variable {k : Nat} {ms : List MazeT} {os : List (List Int)} {rel : Bool}

variable {k : Nat} {ms ms' : List MazeT} {os os' : List (List Int)} {rel : Bool}
structure Moved (ms ms' : List MazeT) (os os' : List (List Int)) (s : Nat → Nat) : Prop where
 len : ms'.length = ms.length
 to : ∀ i, i < ms.length → s i < ms.length
 inj : ∀ i j, i < ms.length → j < ms.length → s i = s j → i = j
 onto : ∀ j, j < ms.length → ∃ i, i < ms.length ∧ s i = j
 mz : ∀ i, i < ms.length → mzD ms' i = mzD ms (s i)
 own : ∀ i, i < ms.length → ∀ x, x < szW ms (s i) → 0 ≤ (os'.getD i []).getD x 0 ∧ ((os'.getD i []).getD x 0).toNat < ms.length ∧ s ((os'.getD i []).getD x 0).toNat = ((os.getD (s i) []).getD x 0).toNat

variable {k : Nat}

variable {k : Nat}

variable {n : Int} {d : List Door} {ks : List Int}
theorem goes_symm {a b h : Int} (hg : d.any (goes a b h) = true) : d.any (goes b a h) = true := by
 obtain ⟨x, hx, hg⟩ := List.any_eq_true.1 hg
 refine List.any_eq_true.2 ⟨x, hx, ?_⟩
 unfold goes at hg ⊢
 simp only [Bool.and_eq_true, Bool.or_eq_true, decide_eq_true_eq] at hg ⊢
 exact ⟨hg.1.symm.imp (fun h => ⟨h.2, h.1⟩) (fun h => ⟨h.2, h.1⟩), hg.2⟩

variable {k : Nat}

variable {k : Nat} {n : Int} {d : List Door} {ks : List Int}
theorem trapSteps_l0_nil (hk : Big ≤ k) (a s : Int) : ∀ (q : Nat) (x i : Int), impl_trapSteps.l0 k d [] a s q x i = impl_steps.l0 k d a s q x i
  | 0, x, i => by rw [impl_trapSteps.l0, impl_steps.l0]
  | q + 1, x, i => by
    rw [impl_trapSteps.l0, impl_steps.l0]
    have hc : slices_Contains_int_int.f k [] i = some false := by rw [contains_eq hk [] i (by simp)]; rfl
    simp only [hc, Option.bind_some, Bool.not_false, trapSteps_l0_nil hk a s q]
    refine congrArg (fun F : Option Int => if decide (i < (d.length : Int)) = true then F.bind fun y7 => impl_steps.l0 k d a s q y7 (w64 (i + 1)) else some x) ?_
    refine congrArg (Option.bind (rdl d i)) (funext fun t => ?_)
    refine congrArg (Option.bind (impl_has.f k s t.2.2)) (funext fun y => ?_)
    refine congrArg (fun F => if (!y) = true then some x else F) ?_
    refine congrArg (Option.bind _) (funext fun y7 => ?_)
    by_cases h : (t.2.1 == a) = true
    · rw [if_pos h, if_pos h, Option.bind_some, if_pos rfl]
    · rw [if_neg h, if_neg h, Option.bind_some, if_neg (by decide)]
theorem trapSteps_nil (hk : Big ≤ k) (a s : Int) : impl_trapSteps.f k n d ks [] a s = impl_steps.f k n d ks a s := by
 unfold impl_trapSteps.f impl_steps.f
 rw [trapSteps_l0_nil hk]
theorem dist_l3 (p r : Int × Int) (L : List Int) : ∀ (q : Nat) (x : List (Int × Int)) (i : Int) (D : Arr 768), impl_distances.l3 k ks p r L q x i D = impl_trapFrom.l3 k ks p r L q x i D
  | 0, x, i, D => by rw [impl_distances.l3, impl_trapFrom.l3]
  | q + 1, x, i, D => by
    rw [impl_distances.l3, impl_trapFrom.l3]
    simp only [dist_l3 p r L q]
theorem dist_l2 (hk : Big ≤ k) : ∀ (q : Nat) (x : List (Int × Int)) (D : Arr 768), impl_distances.l2 k n d ks q x D = impl_trapFrom.l2 k n d ks [] q x D
  | 0, x, D => by rw [impl_distances.l2, impl_trapFrom.l2]
  | q + 1, x, D => by
    rw [impl_distances.l2, impl_trapFrom.l2]
    simp only [dist_l2 hk q, dist_l3, trapSteps_nil hk]
theorem dist_l1 (z : Int) : ∀ (q : Nat) (i : Int) (D : Arr 768), impl_distances.l1 k z q i D = impl_trapFrom.l1 k z q i D
  | 0, i, D => by rw [impl_distances.l1, impl_trapFrom.l1]
  | q + 1, i, D => by
    rw [impl_distances.l1, impl_trapFrom.l1]
    simp only [dist_l1 z q]
theorem dist_l0 : ∀ (q : Nat) (i : Int) (D : Arr 768), impl_distances.l0 k q i D = impl_trapFrom.l0 k q i D
  | 0, i, D => by rw [impl_distances.l0, impl_trapFrom.l0]
  | q + 1, i, D => by
    rw [impl_distances.l0, impl_trapFrom.l0]
    simp only [dist_l0 q, dist_l1]
theorem dist_eq (hk : Big ≤ k) (a s : Int) : impl_distances.f k n d ks a s = impl_trapFrom.f k n d ks [] a s := by
 unfold impl_distances.f impl_trapFrom.f
 simp only [dist_l0, dist_l2 hk]
theorem anyT_nil (a b h : Int) : anyT d [] a b h d.length = d.any (goes a b h) := by
 unfold anyT
 rw [Bool.eq_iff_iff, List.any_eq_true, List.any_eq_true]
 have e : ∀ (i : Nat) (x : Door), goesT [] a b h i x = goes a b h x := fun i x => by unfold goesT goes; simp
 constructor
 ·rintro ⟨i, hi, hg⟩
  have hi' := List.mem_range.1 hi
  rw [List.getElem?_eq_getElem hi'] at hg
  exact ⟨d[i], List.getElem_mem hi', by rw [← e i]; exact hg⟩
 ·rintro ⟨x, hx, hg⟩
  obtain ⟨i, hi, rfl⟩ := List.getElem_of_mem hx
  refine ⟨i, List.mem_range.2 hi, ?_⟩
  rw [List.getElem?_eq_getElem hi]
  show goesT [] a b h i d[i] = true
  rw [e]; exact hg
theorem mem_nxT {i j : Nat} (hn : n.toNat ≤ 12) : j ∈ nxT n d ks [] i ↔ ∃ y : Nat, y < n.toNat ∧ d.any (goes ((i / 64 : Nat) : Int) (y : Int) ((i % 64 : Nat) : Int)) = true ∧ j = (idOf ks ((i % 64 : Nat) : Int) (y : Int)).toNat := by
 unfold nxT stepN
 rw [List.mem_map]
 constructor
 ·rintro ⟨z, hz, rfl⟩
  obtain ⟨y, hy, hz⟩ := mem_upto'.1 hz
  rw [anyT_nil] at hz
  split at hz
  ·rename_i hg
   rw [List.mem_singleton.1 hz]
   exact ⟨y, hy, hg, rfl⟩
  ·cases hz
 ·rintro ⟨y, hy, hg, rfl⟩
  refine ⟨(y : Int), mem_upto'.2 ⟨y, hy, ?_⟩, rfl⟩
  rw [anyT_nil, if_pos hg]
  exact List.mem_singleton.2 rfl

variable {k : Nat} {n : Int} {d : List Door} {ks : List Int}

variable {k : Nat} {c : List By}
theorem rMaze_self (hk : Big ≤ k) (n : Int) (d : List Door) (ks : List Int) (hd : d.length ≤ 1048576) (hks : ks.length ≤ 1048576) : laws_rMaze.f k n d ks n d ks = some true := by
 unfold laws_rMaze.f
 rw [if_neg (by simp), if_neg (by simp), rInts_eq hk ks ks hks, decide_eq_true rfl, Option.bind_some, Option.bind_some, if_neg (by decide)]
 have := Tot.loop (l := fun q (i : Nat) => laws_rMaze.l0 k d d q (i : Int)) (fun i => i ≤ d.length) (fun i => d.length - i) (fun r => r = .inl ()) (fun q i hI ih => by
  rw [laws_rMaze.l0]
  by_cases hi : i < d.length
  ·rw [if_pos (by simpa using hi), rdl_lt hi, Option.bind_some]
   simp only [rdl_lt hi, Option.bind_some, bne_self_eq_false, beq_self_eq_true, Bool.and_self, Bool.and_true, Bool.not_true, Bool.false_eq_true, if_false]
   rw [show w64 ((i : Int) + 1) = ((i + 1 : Nat) : Int) from w64_id (by omega) (by omega)]
   exact ih (i + 1) (by omega) (by omega)
  ·rw [if_neg (by simpa using hi)]
   exact Tot.ret rfl) k 0 (by unfold Big at hk; omega) (by omega)
 obtain ⟨r, h1, rfl⟩ := this
 rw [show ((0 : Nat) : Int) = 0 from rfl] at h1
 rw [h1]; rfl

variable {k : Nat} {ms : List MazeT} {os : List (List Int)}

variable {k : Nat} {ms : List MazeT} {os : List (List Int)}
end Go.Proofs

namespace Go.Proofs
open Go Go.Ga Go.Ga.Wf
set_option linter.unusedVariables false
set_option linter.unusedSimpArgs false
set_option maxHeartbeats 4000000
variable {k : Nat} {ms : List MazeT} {os : List (List Int)}
end Go.Proofs

namespace Go.Proofs
open Go Go.Ga Go.Ga.Wf
set_option linter.unusedVariables false
set_option linter.unusedSimpArgs false
theorem split_at {l : List Int} (h : l.Pairwise (· < ·)) (c : Int) : l.take (l.countP fun y => decide (y < c)) = l.filter (fun y => decide (y < c)) ∧ l.drop (l.countP fun y => decide (y < c)) = l.filter (fun y => decide (c ≤ y)) := by
  induction l with
  | nil => exact ⟨rfl, rfl⟩
  | cons x l ih =>
    rw [List.pairwise_cons] at h
    by_cases hx : x < c
    · obtain ⟨h1, h2⟩ := ih h.2
      have hx2 : ¬ c ≤ x := by omega
      rw [List.countP_cons_of_pos (by simpa using hx), List.filter_cons_of_pos (by simpa using hx), List.filter_cons_of_neg (by simpa using hx2), List.take_succ_cons, List.drop_succ_cons, h1, h2]
      exact ⟨rfl, rfl⟩
    · have hall : ∀ y ∈ x :: l, c ≤ y := fun y hy => by
        rcases List.mem_cons.1 hy with rfl | hy
        · omega
        · have := h.1 y hy; omega
      have h0 : (x :: l).countP (fun y => decide (y < c)) = 0 := List.countP_eq_zero.2 fun y hy => by have := hall y hy; simp; omega
      rw [h0]
      refine ⟨?_, ?_⟩
      · rw [List.take_zero]; symm; rw [List.filter_eq_nil_iff]; intro y hy; have := hall y hy; simp; omega
      · rw [List.drop_zero]; symm; rw [List.filter_eq_self]; intro y hy; have := hall y hy; simpa using this
def tog (l : List Int) (c : Int) : List Int := if c ∈ l then l.filter (fun y => decide (y < c)) ++ l.filter (fun y => decide (c < y)) else l.filter (fun y => decide (y < c)) ++ [c] ++ l.filter (fun y => decide (c < y))
theorem mem_tog {l : List Int} {c x : Int} : x ∈ tog l c ↔ (x ∈ l ∧ x ≠ c) ∨ (x = c ∧ c ∉ l) := by
 unfold tog
 split <;> rename_i h
 ·simp only [List.mem_append, List.mem_filter, decide_eq_true_eq]
  constructor
  ·rintro (⟨h1, h2⟩ | ⟨h1, h2⟩)
   ·exact .inl ⟨h1, by omega⟩
   ·exact .inl ⟨h1, by omega⟩
  ·rintro (⟨h1, h2⟩ | ⟨_, h2⟩)
   ·rcases Int.lt_or_gt_of_ne h2 with h3 | h3
    ·exact .inl ⟨h1, h3⟩
    ·exact .inr ⟨h1, h3⟩
   ·exact absurd h h2
 ·simp only [List.mem_append, List.mem_filter, decide_eq_true_eq, List.mem_singleton]
  constructor
  ·rintro ((⟨h1, h2⟩ | h1) | ⟨h1, h2⟩)
   ·exact .inl ⟨h1, by omega⟩
   ·exact .inr ⟨h1, h⟩
   ·exact .inl ⟨h1, by omega⟩
  ·rintro (⟨h1, h2⟩ | ⟨h2, _⟩)
   ·rcases Int.lt_or_gt_of_ne h2 with h3 | h3
    ·exact .inl (.inl ⟨h1, h3⟩)
    ·exact .inr ⟨h1, h3⟩
   ·exact .inl (.inr h2)
theorem tog_sorted {l : List Int} (h : l.Pairwise (· < ·)) (c : Int) : (tog l c).Pairwise (· < ·) := by
 have h1 : ∀ p : Int → Bool, (l.filter p).Pairwise (· < ·) := fun p => h.filter p
 unfold tog
 split
 ·refine List.pairwise_append.2 ⟨h1 _, h1 _, fun x hx y hy => ?_⟩
  simp only [List.mem_filter, decide_eq_true_eq] at hx hy; omega
 ·refine List.pairwise_append.2 ⟨List.pairwise_append.2 ⟨h1 _, List.pairwise_singleton _ _, fun x hx y hy => ?_⟩, h1 _, fun x hx y hy => ?_⟩
  ·simp only [List.mem_filter, decide_eq_true_eq, List.mem_singleton] at hx hy; omega
  ·simp only [List.mem_append, List.mem_filter, decide_eq_true_eq, List.mem_singleton] at hx hy; omega
theorem tog_tog {l : List Int} (h : l.Pairwise (· < ·)) (c : Int) : tog (tog l c) c = l := by
 refine sorted_ext (tog_sorted (tog_sorted h c) c) h fun x => ?_
 rw [mem_tog, mem_tog, mem_tog]
 by_cases h1 : x = c
 ·subst h1
  by_cases h2 : x ∈ l <;> simp [h2]
 ·simp [h1]
theorem tog_ins {l : List Int} (h : l.Pairwise (· < ·)) {c : Int} (hc : c ∉ l) : l.take (l.countP fun y => decide (y < c)) ++ [c] ++ l.drop (l.countP fun y => decide (y < c)) = tog l c := by
 obtain ⟨h1, h2⟩ := split_at h c
 unfold tog
 rw [if_neg hc, h1, h2]
 congr 1
 refine List.filter_congr fun y hy => ?_
 have : y ≠ c := fun e => hc (e ▸ hy)
 rw [decide_eq_decide]; omega
theorem tog_del {l : List Int} (h : l.Pairwise (· < ·)) {c : Int} (hc : c ∈ l) : (l.countP fun y => decide (y < c)) < l.length ∧ l.take (l.countP fun y => decide (y < c)) ++ l.drop ((l.countP fun y => decide (y < c)) + 1) = tog l c := by
 obtain ⟨h1, h2⟩ := split_at h c
 have h3 : l.filter (fun y => decide (c ≤ y)) = c :: l.filter (fun y => decide (c < y)) := by
  refine sorted_ext (h.filter _) ?_ fun x => ?_
  ·rw [List.pairwise_cons]
   exact ⟨fun y hy => by simpa using (List.mem_filter.1 hy).2, h.filter _⟩
  ·simp only [List.mem_cons, List.mem_filter, decide_eq_true_eq]
   constructor
   ·rintro ⟨h4, h5⟩
    rcases Int.lt_or_eq_of_le h5 with h6 | h6
    ·exact .inr ⟨h4, h6⟩
    ·exact .inl h6.symm
   ·rintro (rfl | ⟨h4, h5⟩)
    ·exact ⟨hc, Int.le_refl _⟩
    ·exact ⟨h4, by omega⟩
 rw [h3] at h2
 refine ⟨?_, ?_⟩
 ·have := congrArg List.length h2
  rw [List.length_drop, List.length_cons] at this; omega
 ·rw [h1, ← List.drop_drop, h2, List.drop_one, List.tail_cons]
  unfold tog; rw [if_pos hc]
theorem tog_upto {l : List Int} (h : l.Pairwise (· < ·)) {m : Nat} (hr : ∀ y ∈ l, 0 ≤ y ∧ y < (m : Int)) {c : Int} (hc : 0 ≤ c ∧ c < (m : Int)) : appUpto (fun y => if (l.contains (y : Int) != decide ((y : Int) = c)) = true then [(y : Int)] else []) m = tog l c := by
 refine sorted_ext (upto_one_sorted (fun y => l.contains (y : Int) != decide ((y : Int) = c)) m).1 (tog_sorted h c) fun x => ?_
 rw [mem_tog]
 unfold appUpto
 rw [List.mem_flatMap]
 constructor
 ·rintro ⟨y, hy, hx⟩
  split at hx <;> rename_i hb
  ·rw [List.mem_singleton] at hx; subst hx
   by_cases e : (y : Int) = c
   ·by_cases e2 : (y : Int) ∈ l
    ·simp [e2, e] at hb; exact absurd (e ▸ e2) hb
    ·exact .inr ⟨e, e ▸ e2⟩
   ·by_cases e2 : (y : Int) ∈ l
    ·exact .inl ⟨e2, e⟩
    ·simp [e2, e] at hb
  ·cases hx
 ·intro hx
  have hx0 : 0 ≤ x ∧ x < (m : Int) := by
   rcases hx with ⟨h1, _⟩ | ⟨rfl, _⟩
   ·exact hr x h1
   ·exact hc
  obtain ⟨y, rfl⟩ := Int.eq_ofNat_of_zero_le hx0.1
  refine ⟨y, List.mem_range.2 (by omega), ?_⟩
  rw [if_pos, List.mem_singleton]
  rcases hx with ⟨h1, h2⟩ | ⟨h1, h2⟩
  ·simp [h1, h2]
  ·rw [← h1] at h2
   have e1 : l.contains (y : Int) = false := by
    rw [Bool.eq_false_iff]; intro e; exact h2 (List.contains_iff_mem.1 e)
   rw [e1, decide_eq_true h1]; rfl

variable {k : Nat} {n : Int} {d : List Door} {ks tr : List Int}
theorem anyT_sub {a b h : Int} {m : Nat} (hg : anyT d tr a b h m = true) : anyT d [] a b h m = true := by
  unfold anyT at hg ⊢
  obtain ⟨i, hi, hx⟩ := List.any_eq_true.1 hg
  refine List.any_eq_true.2 ⟨i, hi, ?_⟩
  cases hd : d[i]? with
  | none => rw [hd] at hx; exact hx
  | some x =>
    rw [hd] at hx
    simp only at hx ⊢
    unfold goesT at hx ⊢
    simp only [Bool.and_eq_true, Bool.or_eq_true, decide_eq_true_eq, List.contains_nil, Bool.not_false, and_true] at hx ⊢
    exact ⟨hx.1.imp id And.left, hx.2⟩
theorem stepN_sub {x s y : Int} (h : y ∈ stepN d tr n x s) : y ∈ stepN d [] n x s := by
 unfold stepN at h ⊢
 obtain ⟨i, hi, hy⟩ := mem_app.1 h
 refine mem_app.2 ⟨i, hi, ?_⟩
 split at hy <;> rename_i hg
 ·rw [if_pos (anyT_sub hg)]; exact hy
 ·cases hy
theorem nxT_sub {i j : Nat} (h : j ∈ nxT n d ks tr i) : j ∈ nxT n d ks [] i := by
 unfold nxT at h ⊢
 obtain ⟨y, hy, rfl⟩ := List.mem_map.1 h
 exact List.mem_map.2 ⟨y, stepN_sub hy, rfl⟩
theorem Pth.sub {nx nx' : Nat → List Nat} {g : Nat → Bool} (hs : ∀ i, ∀ j ∈ nx i, j ∈ nx' i) {i v : Nat} (h : Pth nx g i v) : Pth nx' g i v := by
  induction h with
  | here hg => exact .here hg
  | step hj _ ih => exact .step (hs _ _ hj) ih
theorem Rc.sub {nx nx' : Nat → List Nat} (hs : ∀ i, ∀ j ∈ nx i, j ∈ nx' i) {a t : Nat} (h : Rc nx a t) : Rc nx' a t := by
  induction h with
  | here => exact .here
  | step _ hj ih => exact .step ih (hs _ _ hj)
theorem Rc.pth {nx : Nat → List Nat} {g : Nat → Bool} {a t : Nat} (h : Rc nx a t) : ∀ {v : Nat}, Pth nx g t v → ∃ w, Pth nx g a w := by
  induction h with
  | here => intro v hv; exact ⟨v, hv⟩
  | step _ hj ih => intro v hv; exact ih (.step hj hv)
theorem id_parts (om : Okm n d ks) {s : Nat} (hs : s < 64) (y : Nat) : ∃ b : Nat, b < 64 ∧ bor (s : Int) (ks.getD y 0) = (b : Int) ∧ (idOf ks (s : Int) (y : Int)).toNat = y * 64 + b := by
 have h := (bor_le63 (show 0 ≤ (s : Int) ∧ (s : Int) ≤ 63 by omega) (keys_getD om.keys y)).1
 obtain ⟨b, hb⟩ := Int.eq_ofNat_of_zero_le h.1
 refine ⟨b, by omega, hb, ?_⟩
 unfold idOf
 rw [Int.toNat_natCast, hb]; omega
theorem nx_step (om : Okm n d ks) {x s y b : Nat} (hs : s < 64) (hy : y < n.toNat) (hg : d.any (goes (x : Int) (y : Int) (s : Int)) = true) (hb : bor (s : Int) (ks.getD y 0) = (b : Int)) : y * 64 + b ∈ nxT n d ks [] (x * 64 + s) := by
 refine (mem_nxT (by have := om.hi; omega)).2 ⟨y, hy, ?_, ?_⟩
 ·rw [show (x * 64 + s) / 64 = x by omega, show (x * 64 + s) % 64 = s by omega]; exact hg
 ·rw [show (x * 64 + s) % 64 = s by omega]
  unfold idOf
  rw [Int.toNat_natCast, hb]; omega
theorem good_mono (om : Okm n d ks) {i v : Nat} (h : Pth (nxT n d ks []) (goalT n) i v) : ∀ u, u < 64 → subB (i % 64) u = true → ∃ w, Pth (nxT n d ks []) (goalT n) (i / 64 * 64 + u) w := by
  induction h with
  | @here i hg =>
    intro u hu _
    refine ⟨0, .here ?_⟩
    unfold goalT at hg ⊢
    rw [show (i / 64 * 64 + u) / 64 = i / 64 by omega]; exact hg
  | @step i j v hj hp ih =>
    intro u hu hs
    obtain ⟨y, hy, hg, rfl⟩ := (mem_nxT (by have := om.hi; omega)).1 hj
    obtain ⟨b, hb1, hb2, hb3⟩ := id_parts om (s := i % 64) (by omega) y
    obtain ⟨c, hc1, hc2, hc3⟩ := id_parts om (s := u) hu y
    rw [hb3] at ih
    have hsub : subB b c = true := by
      have := subB_bor2 (a := ((i % 64 : Nat) : Int)) (b := (u : Int)) (c := ks.getD y 0) (by omega) (by omega) (keys_getD om.keys y) (by rw [Int.toNat_natCast, Int.toNat_natCast]; exact hs)
      rw [hb2, hc2, Int.toNat_natCast, Int.toNat_natCast] at this; exact this
    obtain ⟨w, hw⟩ := ih c hc1 (by rw [show (y * 64 + b) % 64 = b by omega]; exact hsub)
    rw [show (y * 64 + b) / 64 = y by omega] at hw
    refine ⟨w + 1, .step (nx_step om hu hy ?_ hc2) hw⟩
    obtain ⟨z, hz, hgz⟩ := List.any_eq_true.1 hg
    exact List.any_eq_true.2 ⟨z, hz, goes_mono (by rw [Int.toNat_natCast, Int.toNat_natCast]; exact hs) hgz⟩
theorem bor_same {u : Nat} (hu : u < 64) {c : Int} (hc : 0 ≤ c ∧ c ≤ 63) (h : subB c.toNat u = true) : bor (u : Int) c = (u : Int) := by
  have h1 := (bor_le63 (show 0 ≤ (u : Int) ∧ (u : Int) ≤ 63 by omega) hc).1
  have e : (bor (u : Int) c).toNat = u := by
    apply Nat.eq_of_testBit_eq
    intro t
    rw [bor_bits (by omega) hc, Int.toNat_natCast]
    cases hb : c.toNat.testBit t with
    | false => simp
    | true => simp [subB_iff.1 h t hb]
  omega
theorem met_back (om : Okm n d ks) {g : Nat → Bool} {t : Nat} (h : Rc (nxT n d ks []) (ks.getD 0 0).toNat t) :
    subB (ks.getD (t / 64) 0).toNat (t % 64) = true ∧ t / 64 < n.toNat ∧ subB (ks.getD 0 0).toNat (t % 64) = true ∧ ∀ u, u < 64 → subB (t % 64) u = true → ∀ v, Pth (nxT n d ks []) g u v → ∃ w, Pth (nxT n d ks []) g (t / 64 * 64 + u) w := by
  have hlo := om.lo
  have hhi := om.hi
  have hk0 := keys_getD om.keys 0
  induction h with
  | here =>
    have e1 : (ks.getD 0 0).toNat / 64 = 0 := by omega
    have e2 : (ks.getD 0 0).toNat % 64 = (ks.getD 0 0).toNat := by omega
    rw [e1, e2]
    refine ⟨subB_refl _, by omega, subB_refl _, fun u hu _ v hv => ⟨v, ?_⟩⟩
    rw [Nat.zero_mul, Nat.zero_add]; exact hv
  | @step i j hi hj ih =>
    obtain ⟨h1, h2, h3, h4⟩ := ih
    obtain ⟨y, hy, hg, rfl⟩ := (mem_nxT (by omega)).1 hj
    obtain ⟨b, hb1, hb2, hb3⟩ := id_parts om (s := i % 64) (by omega) y
    have hky := keys_getD om.keys y
    have hkx := keys_getD om.keys (i / 64)
    have hsb : subB (i % 64) b = true := by
      have := subB_bor (a := ((i % 64 : Nat) : Int)) (b := ks.getD y 0) (by omega) hky
      rw [hb2, Int.toNat_natCast, Int.toNat_natCast] at this; exact this
    have hyb : subB (ks.getD y 0).toNat b = true := by
      have := subB_borr (a := ((i % 64 : Nat) : Int)) (b := ks.getD y 0) (by omega) hky
      rw [hb2, Int.toNat_natCast] at this; exact this
    rw [hb3, show (y * 64 + b) / 64 = y by omega, show (y * 64 + b) % 64 = b by omega]
    refine ⟨hyb, hy, subB_trans h3 hsb, fun u hu hbu v hv => ?_⟩
    obtain ⟨w, hw⟩ := h4 u hu (subB_trans hsb hbu) v hv
    have hg2 : d.any (goes (y : Int) ((i / 64 : Nat) : Int) (u : Int)) = true := by
      obtain ⟨z, hz, hgz⟩ := List.any_eq_true.1 (goes_symm hg)
      exact List.any_eq_true.2 ⟨z, hz, goes_mono (by rw [Int.toNat_natCast, Int.toNat_natCast]; exact subB_trans hsb hbu) hgz⟩
    exact ⟨w + 1, .step (nx_step om hu h2 hg2 (bor_same hu hkx (subB_trans h1 (subB_trans hsb hbu)))) hw⟩
theorem both_all (om : Okm n d ks) : (∀ t, metB n d ks [] t = true → godB n d ks [] t = true) ∨ ∀ t, metB n d ks [] t = true → godB n d ks [] t = false := by
  have hk0 := keys_getD om.keys 0
  by_cases hg : godB n d ks [] (ks.getD 0 0).toNat = true
  · left
    intro t ht
    obtain ⟨v, hv⟩ := godB_iff.1 hg
    obtain ⟨h1, h2, h3, h4⟩ := met_back om (g := goalT n) (metB_iff.1 ht)
    obtain ⟨w, hw⟩ := good_mono om hv (t % 64) (by omega) (by rw [show (ks.getD 0 0).toNat % 64 = (ks.getD 0 0).toNat by omega]; exact h3)
    rw [show (ks.getD 0 0).toNat / 64 = 0 by omega, Nat.zero_mul, Nat.zero_add] at hw
    obtain ⟨w', hw'⟩ := h4 (t % 64) (by omega) (subB_refl _) w hw
    rw [show t / 64 * 64 + t % 64 = t by omega] at hw'
    exact godB_iff.2 ⟨w', hw'⟩
  · right
    intro t ht
    cases hb : godB n d ks [] t with
    | false => rfl
    | true =>
      obtain ⟨v, hv⟩ := godB_iff.1 hb
      exact absurd (godB_iff.2 ((metB_iff.1 ht).pth hv)) hg
theorem lost_all {mt gd : Nat → Bool} (h : ∀ t, mt t = true → gd t = true) : ∀ m, appUpto (lostI mt gd) m = []
  | 0 => rfl
  | m + 1 => by
    rw [appUpto_succ, lost_all h m]
    unfold lostI
    rw [if_neg, List.append_nil]
    intro hb
    rw [Bool.and_eq_true] at hb
    rw [h m hb.1] at hb; cases hb.2
theorem lost_none {mt gd : Nat → Bool} (h : ∀ t, mt t = true → gd t = false) : ∀ m, ((appUpto (lostI mt gd) m).length : Int) = cntM mt m
  | 0 => rfl
  | m + 1 => by
    rw [appUpto_succ, List.length_append, cntM_succ, ← lost_none h m]
    unfold lostI
    cases hb : mt m with
    | false => simp
    | true => simp [h m hb]
theorem cntM_mono {p q : Nat → Bool} (h : ∀ t, p t = true → q t = true) : ∀ m, cntM p m ≤ cntM q m
  | 0 => Int.le_refl _
  | m + 1 => by
    rw [cntM_succ, cntM_succ]
    refine Int.add_le_add (cntM_mono h m) ?_
    cases hp : p m with
    | false => rw [if_neg (by decide)]; split <;> decide
    | true => rw [h m hp]; exact Int.le_refl _
theorem behind_path (om : Okm n d ks) {t : Nat} : ∀ {p : List Nat} {a : Nat}, Sp (nxT n d ks tr) a p t → behindP n d ks tr ((a / 64 : Nat) : Int) ((a % 64 : Nat) : Int) (p.map ndOf) = some (((t / 64 : Nat) : Int), ((t % 64 : Nat) : Int)) := by
  intro p
  induction p with
  | nil =>
    intro a h
    rcases h.uncons with ⟨_, rfl⟩ | ⟨b, q, e, _⟩
    · rfl
    · cases e
  | cons b q ih =>
    intro a h
    rcases h.uncons with ⟨e, _⟩ | ⟨b', q', e, hb, hq⟩
    · cases e
    cases e
    obtain ⟨y, hy, rfl⟩ := List.mem_map.1 hb
    have hr := stepN_mem hy
    obtain ⟨z, rfl⟩ := Int.eq_ofNat_of_zero_le hr.1
    have hlt : z < n.toNat := hr.2
    obtain ⟨c, hc1, hc2, hc3⟩ := id_parts om (s := a % 64) (by omega) z
    have hih := ih hq
    unfold stepN at hy
    obtain ⟨i, hi, hyi⟩ := mem_app.1 hy
    split at hyi <;> rename_i hg
    rotate_left 1
    · cases hyi
    have hiz : z = i := by have := List.mem_singleton.1 hyi; exact Int.ofNat.inj this
    subst hiz
    have hc3' : (idOf ks ((a % 64 : Nat) : Int) (Int.ofNat z)).toNat = z * 64 + c := hc3
    rw [List.map_cons]
    rw [hc3] at hih
    first | rw [hc3'] | rw [hc3]
    have e1 : ndOf (z * 64 + c) = (z : Int) := by unfold ndOf; rw [show (z * 64 + c) / 64 = z by omega]
    rw [show (z * 64 + c) / 64 = z by omega, show (z * 64 + c) % 64 = c by omega] at hih
    rw [e1, behindP, decide_eq_true (show 0 ≤ (z : Int) ∧ (z : Int) ≤ n - 1 by omega), hg, Int.toNat_natCast, hc2]
    simp only [Bool.and_self, if_true]
    exact hih
theorem behind_walk (om : Okm n d ks) {p : List Nat} {t : Nat} (h : Sp (nxT n d ks tr) (ks.getD 0 0).toNat p t) : behindR n d ks tr (0 :: p.map ndOf) = (((t / 64 : Nat) : Int), ((t % 64 : Nat) : Int), true) := by
 have hk0 := keys_getD om.keys 0
 have h1 := behind_path om h
 rw [show (ks.getD 0 0).toNat / 64 = 0 by omega, show (((ks.getD 0 0).toNat % 64 : Nat) : Int) = ks.getD 0 0 by omega] at h1
 unfold behindR
 simp only [if_true]
 have h2 : behindP n d ks tr 0 (ks.getD 0 0) (p.map ndOf) = some (((t / 64 : Nat) : Int), ((t % 64 : Nat) : Int)) := h1
 rw [h2]

section
variable {k : Nat}
theorem trapFrom_l2B (hk : Big ≤ k) {n : Int} {d : List Door} {ks tr : List Int} (hm : IsMaze n d ks) (ht : tr.length ≤ 1048576) (a : Nat) (D : Arr 768) (td : List Nat) (hW : WI (nxT n d ks tr) a (n.toNat * 64) D.l td) (hB : BI (nxT n d ks tr) a (n.toNat * 64) D.l td) :
    ∃ E, impl_trapFrom.l2 k n d ks tr k (td.map encT) D = some E ∧ BI (nxT n d ks tr) a (n.toNat * 64) E.l [] := by
  have om := hm.okm
  have hlo := om.lo
  have hhi := om.hi
  have hlen := om.len
  exact loop_good (l := fun q (p : List Nat × Arr 768) => impl_trapFrom.l2 k n d ks tr q (p.1.map encT) p.2) (fun p => WI (nxT n d ks tr) a (n.toNat * 64) p.2.l p.1 ∧ BI (nxT n d ks tr) a (n.toNat * 64) p.2.l p.1) (fun p => 2 * (768 - cp p.2.l) + p.1.length) (fun E => BI (nxT n d ks tr) a (n.toNat * 64) E.l []) (fun q ⟨td, D⟩ hI => by
    obtain ⟨hI, hIB⟩ := hI
    simp only at hI hIB
    simp only
    have hDl := D.len
    rw [impl_trapFrom.l2]
    cases td with
    | nil => right; exact ⟨D, by simp, hIB⟩
    | cons i rest =>
      left
      have hti := hI.tin i (List.mem_cons_self ..)
      have hpop := hI.pop (by omega) (nxT_lt om tr i)
      have hpopB := hIB.pop hI (by omega) (nxT_lt om tr i)
      have e3 := trapFrom_l3 hk hm (tr := tr) a i hti.1 D rest hI
      have hrel := visA_rel (D.l.getD i 0 + 1) ((i :: rest).map encT) (nxT n d ks tr i) ((i :: rest).map encT, D) (D.l, []) rfl (by simp)
      obtain ⟨t, m1, m2⟩ := bind_some (trapMembers_eq hk n d ks tr ((i / 64 : Nat) : Int) ((i % 64 : Nat) : Int) hm ht (by omega))
      have hcl := cp_le D.l
      have htl := hI.tl
      rw [List.length_cons] at htl
      generalize (nxT n d ks tr i).foldl (visA (D.l.getD i 0 + 1)) ((i :: rest).map encT, D) = r at *
      generalize (nxT n d ks tr i).foldl (vis (D.l.getD i 0 + 1)) (D.l, []) = z at *
      obtain ⟨T, E⟩ := r
      simp only at hrel e3
      have hcnt := hpop.2.cnt
      have hEl := E.len
      have hcE := cp_le E.l
      rw [hrel.1] at hcE hEl
      refine ⟨(rest ++ z.2, E), ?_, by simp only; rw [hrel.1]; exact ⟨hpop.1, hpopB⟩, by simp only; rw [hrel.1, List.length_append, List.length_cons]; omega⟩
      have hgt : decide ((((i :: rest).map encT).length : Int) > 0) = true := by rw [decide_eq_true_eq, List.length_map, List.length_cons]; omega
      have hr0 : rdl ((i :: rest).map encT) 0 = some (encT i) := rfl
      have he1 : (encT i).1 = ((i / 64 : Nat) : Int) := rfl
      have he2 : (encT i).2 = ((i % 64 : Nat) : Int) := rfl
      have hT : T = encT i :: (rest ++ z.2).map encT := by rw [hrel.2]; simp
      have hsc : slc T 1 (T.length : Int) = some ((rest ++ z.2).map encT) := by
        have := slc_suf T 1 (by rw [hT]; simp)
        rw [show ((1 : Nat) : Int) = 1 from rfl] at this
        rw [this, hT]; rfl
      simp only [hgt, if_true, hr0, Option.bind_some, he1, he2, m1, m2, e3, hsc]) k (td, D) (by have := cp_le D.l; have := hW.tl; have := D.len; simp only; unfold Big at hk; omega) ⟨hW, hB⟩
theorem trapFrom_eqB (hk : Big ≤ k) {n : Int} {d : List Door} {ks tr : List Int} (hm : IsMaze n d ks) (ht : tr.length ≤ 1048576) (s : Int) (hs : 0 ≤ s ∧ s ≤ 63) :
  ∃ E, impl_trapFrom.f k n d ks tr 0 s = some E ∧ BI (nxT n d ks tr) s.toNat (n.toNat * 64) E.l [] := by
 have om := hm.okm
 have hlo := om.lo
 have hhi := om.hi
 obtain ⟨D0, e1, e2⟩ := trapFrom_l0 (k := k) hk
 obtain ⟨b, rfl⟩ := Int.eq_ofNat_of_zero_le hs.1
 have hDl := D0.len
 have hput : (D0.put (0 * 64 + (b : Int)) 0).l = D0.l.set b 0 := by
  show D0.l.set ((0 * 64 + (b : Int)).toNat) 0 = _
  rw [show (0 * 64 + (b : Int)).toNat = b by omega]
 have hW : WI (nxT n d ks tr) b (n.toNat * 64) (D0.put (0 * 64 + (b : Int)) 0).l [b] := by
  rw [hput]; exact WI.init (fun t ht => e2 t (by omega)) (by omega) (by omega)
 have hB : BI (nxT n d ks tr) b (n.toNat * 64) (D0.put (0 * 64 + (b : Int)) 0).l [b] := by
  rw [hput]; exact BI.init (fun t ht => e2 t (by omega)) (by omega) (by omega)
 obtain ⟨E, e3, e4⟩ := trapFrom_l2B hk hm ht b _ [b] hW hB
 have henc : [b].map encT = [((0 : Int), (b : Int))] := by
  simp only [List.map_cons, List.map_nil, List.cons.injEq, and_true]
  unfold encT
  exact Prod.ext (by simp only; omega) (by simp only; omega)
 rw [henc] at e3
 refine ⟨E, ?_, by rw [Int.toNat_natCast]; exact e4⟩
 unfold impl_trapFrom.f
 have hg1 : (0 : Int) ≤ 0 ∧ (0 : Int) < 12 := by omega
 have hg2 : 0 ≤ (b : Int) ∧ (b : Int) < 64 := by omega
 rw [e1, Option.bind_some, if_pos hg1, if_pos hg2, e3]; rfl
end
variable {k : Nat} {n : Int} {d : List Door} {ks tr : List Int}
theorem leastG_le (hk : Big ≤ k) (g : Arr 768) {x : Int} (hx : 0 ≤ x ∧ x < 12) : Tot (impl_grid_least.f k g x (fun z0 => impl_anySet.f k z0)) (fun r => ∀ s : Nat, s < 64 → 0 ≤ Arr.at g (x * 64 + (s : Int)) → 0 ≤ r ∧ r ≤ Arr.at g (x * 64 + (s : Int))) := by
  unfold impl_grid_least.f
  rw [if_pos hx]
  have L := Tot.loop (l := fun q (st : Int × Nat) => impl_grid_least.l0 k g x (fun z0 => impl_anySet.f k z0) q st.1 (st.2 : Int)) (fun st => st.2 ≤ 64 ∧ ∀ s : Nat, s < st.2 → 0 ≤ Arr.at g (x * 64 + (s : Int)) → 0 ≤ st.1 ∧ st.1 ≤ Arr.at g (x * 64 + (s : Int))) (fun st => 64 - st.2)
    (fun r => ∀ s : Nat, s < 64 → 0 ≤ Arr.at g (x * 64 + (s : Int)) → 0 ≤ r ∧ r ≤ Arr.at g (x * 64 + (s : Int))) (fun q st hI ih => by
    obtain ⟨b, i⟩ := st
    obtain ⟨h1, h2⟩ := hI
    simp only at h1 h2 ih ⊢
    rw [impl_grid_least.l0]
    by_cases hi : i < 64
    · rw [if_pos (by rw [decide_eq_true_iff]; omega), if_pos (by omega)]
      unfold impl_anySet.f
      rw [Option.bind_some, if_pos rfl]
      refine Tot.bind (P := fun y => y = true ↔ 0 ≤ Arr.at g (x * 64 + (i : Int)) ∧ (b < 0 ∨ Arr.at g (x * 64 + (i : Int)) < b)) ?_ fun y hy => ?_
      · unfold impl_better.f
        generalize Arr.at g (x * 64 + (i : Int)) = v
        by_cases hv : 0 ≤ v <;> by_cases hb : b < 0 <;> simp [hv, hb, Tot]
      · rw [show w64 ((i : Int) + 1) = ((i + 1 : Nat) : Int) from w64_id (by omega) (by omega)]
        refine Tot.bind (P := fun b' => ∀ s : Nat, s < i + 1 → 0 ≤ Arr.at g (x * 64 + (s : Int)) → 0 ≤ b' ∧ b' ≤ Arr.at g (x * 64 + (s : Int))) ?_ fun b' hb' => ih (b', i + 1) ⟨by simp only; omega, hb'⟩ (by simp only; omega)
        cases y with
        | true =>
          have h3 := hy.1 rfl
          refine Tot.ret fun s hs h0 => ?_
          rcases Nat.lt_or_eq_of_le (Nat.le_of_lt_succ hs) with h' | rfl
          · have := h2 s h' h0; exact ⟨h3.1, by omega⟩
          · exact ⟨h3.1, Int.le_refl _⟩
        | false =>
          have h3 : ¬ (0 ≤ Arr.at g (x * 64 + (i : Int)) ∧ (b < 0 ∨ Arr.at g (x * 64 + (i : Int)) < b)) := fun h => by have := hy.2 h; cases this
          refine Tot.ret fun s hs h0 => ?_
          rcases Nat.lt_or_eq_of_le (Nat.le_of_lt_succ hs) with h' | rfl
          · exact h2 s h' h0
          · exact ⟨by omega, by omega⟩
    · rw [if_neg (by rw [decide_eq_true_iff]; omega)]
      have : i = 64 := by omega
      subst this
      exact Tot.ret h2) k (-1, 0) (by simp only; unfold Big at hk; omega) ⟨by simp, fun s hs => by simp at hs⟩
  exact Tot.bind L fun r hr => Tot.ret hr
theorem Fewest_le (hk : Big ≤ k) (hm : IsMaze n d ks) : Tot (impl_FewestSteps.f k n d ks) (fun r => ∀ v, Pth (nxT n d ks []) (goalT n) (ks.getD 0 0).toNat v → r.2 = true ∧ r.1 ≤ v) := by
 have om := hm.okm
 have hlo := om.lo
 have hhi := om.hi
 have hlen := om.len
 have h30 := hm.2.2.1
 have hk0 := keys_getD om.keys 0
 unfold impl_FewestSteps.f impl_fromStart.f
 rw [IsMaze_eq hk n d ks (by omega) (by omega), decide_eq_true hm, Option.bind_some, if_neg (by decide)]
 have r0 : rdl ks 0 = some (ks.getD 0 0) := rdl_getDI (by omega) (by simp; omega) 0
 obtain ⟨E, e1, hB⟩ := trapFrom_eqB hk (tr := []) hm (by simp) (ks.getD 0 0) hk0
 rw [r0, Option.bind_some, dist_eq hk, e1, Option.bind_some, Option.bind_some, w64_id (by omega) (by omega)]
 obtain ⟨b, e2, hb⟩ := leastG_le hk E (x := n - 1) (by omega)
 rw [e2, Option.bind_some]
 unfold impl_told.f imax
 rw [Option.bind_some]
 refine Tot.ret fun v hv => ?_
 have hnx : ∀ i, i < n.toNat * 64 → ∀ j ∈ nxT n d ks [] i, j < n.toNat * 64 := fun i _ j hj => nxT_lt om [] i j hj
 obtain ⟨t, h1, h2⟩ := hv.rp
 obtain ⟨h3, h4, h5⟩ := hB.least (by omega) hnx h2
 unfold goalT at h1
 rw [decide_eq_true_eq] at h1
 have hat : Arr.at E ((n - 1) * 64 + ((t % 64 : Nat) : Int)) = E.l.getD t 0 := by
  unfold Arr.at
  rw [show ((n - 1) * 64 + ((t % 64 : Nat) : Int)).toNat = t by omega]
 have h6 := hb (t % 64) (by omega) (by rw [hat]; exact h4)
 rw [hat] at h6
 simp only
 refine ⟨by rw [decide_eq_true_iff]; exact h6.1, ?_⟩
 split <;> omega
theorem FewestToWin_path (hk : Big ≤ k) (hT : IsTrapP n d ks tr) (hd : d.length ≤ 1048576) (hks : ks.length ≤ 1048576) (ht : tr.length ≤ 1048576) : Tot (impl_FewestToWin.f k n d ks tr) (fun r => r.2 = godB n d ks tr (ks.getD 0 0).toNat ∧ (r.2 = true → 0 ≤ r.1 ∧ Pth (nxT n d ks tr) (goalT n) (ks.getD 0 0).toNat r.1.toNat)) := by
 have hm := hT.1
 have om := hm.okm
 have hlo := om.lo
 have hhi := om.hi
 have hlen := om.len
 have hk0 := keys_getD om.keys 0
 unfold impl_FewestToWin.f
 rw [IsTrap_eq hk n d ks tr hd hks ht, decide_eq_true hT]
 have hr0 : rdl ks 0 = some (ks.getD 0 0) := rdl_getD (i := 0) (by omega) 0
 obtain ⟨D, g1, g2, g3⟩ := toTrapGoal_eq hk hm ht
 obtain ⟨b, hb⟩ := Int.eq_ofNat_of_zero_le hk0.1
 rw [hb] at hr0 hk0 ⊢
 have ha : b < n.toNat * 64 := by omega
 have hg2 : 0 ≤ (b : Int) ∧ (b : Int) < 64 := by omega
 have hat : D.at (0 * 64 + (b : Int)) = D.l.getD b 0 := at_nat D (by omega)
 have hiff := dist_iff om g2 g3 ha
 rw [← godB_iff] at hiff
 simp only [Option.bind_some, Bool.not_true, Bool.false_eq_true, if_false, g1, hr0, if_pos hg2, hat]
 unfold impl_told.f imax
 rw [Option.bind_some]
 refine Tot.ret ⟨?_, fun h => ?_⟩
 ·simp only [Int.toNat_natCast]
  rw [Bool.eq_iff_iff, decide_eq_true_eq]
  exact hiff
 ·simp only [decide_eq_true_eq] at h
  have hp := g2.sound b (by rw [D.len]; omega) h
  simp only [Int.toNat_natCast]
  have : ¬ D.l.getD b 0 < 0 := by omega
  rw [if_neg this]
  exact ⟨h, hp⟩

section
variable {k : Nat}
theorem rising_iff {lo hi : Int} {l : List Int} : (∀ i, i < l.length → risingB lo hi l i = true) ↔ (l.Pairwise (· < ·) ∧ ∀ y ∈ l, lo ≤ y ∧ y ≤ hi) := by
  constructor
  · intro h
    have h1 : ∀ i (hi' : i < l.length), (lo ≤ l[i] ∧ l[i] ≤ hi) ∧ ∀ h0 : 0 < i, l[i - 1] < l[i] := fun i hi' => by
      have := h i hi'
      unfold risingB at this
      rw [dif_pos hi', Bool.and_eq_true, Bool.or_eq_true, decide_eq_true_eq, decide_eq_true_eq, decide_eq_true_eq] at this
      exact ⟨this.1, fun h0 => this.2.resolve_left (by omega)⟩
    refine ⟨?_, fun y hy => ?_⟩
    · rw [List.pairwise_iff_getElem]
      have key : ∀ m i (hi' : i + m + 1 < l.length), l[i] < l[i + m + 1] := by
        intro m
        induction m with
        | zero => intro i hi'; exact (h1 (i + 0 + 1) hi').2 (by omega)
        | succ m ih => intro i hi'; exact Int.lt_trans (ih i (by omega)) ((h1 (i + (m + 1) + 1) hi').2 (by omega))
      intro i j hi' hj hij
      have := key (j - i - 1) i (by omega)
      simp only [show i + (j - i - 1) + 1 = j by omega] at this
      exact this
    · obtain ⟨i, hi', rfl⟩ := List.getElem_of_mem hy
      exact (h1 i hi').1
  · rintro ⟨h1, h2⟩ i hi'
    unfold risingB
    rw [dif_pos hi', Bool.and_eq_true, Bool.or_eq_true, decide_eq_true_eq, decide_eq_true_eq, decide_eq_true_eq]
    refine ⟨h2 _ (List.getElem_mem hi'), ?_⟩
    by_cases h0 : i = 0
    · exact .inl h0
    · exact .inr (List.pairwise_iff_getElem.1 h1 (i - 1) i (by omega) hi' (by omega))
theorem trap_iff {n : Int} {d : List Door} {ks tr : List Int} : IsTrapP n d ks tr ↔ IsMaze n d ks ∧ tr.Pairwise (· < ·) ∧ ∀ y ∈ tr, 0 ≤ y ∧ y < (d.length : Int) := by
 unfold IsTrapP
 rw [rising_iff]
 constructor
 ·rintro ⟨h1, h2, h3⟩; exact ⟨h1, h2, fun y hy => by have := h3 y hy; omega⟩
 ·rintro ⟨h1, h2, h3⟩; exact ⟨h1, h2, fun y hy => by have := h3 y hy; omega⟩
theorem trap_tog {n : Int} {d : List Door} {ks tr : List Int} (hT : IsTrapP n d ks tr) {c : Int} (hc : 0 ≤ c ∧ c ≤ (d.length : Int) - 1) : IsTrapP n d ks (tog tr c) := by
 obtain ⟨h1, h2, h3⟩ := trap_iff.1 hT
 refine trap_iff.2 ⟨h1, tog_sorted h2 c, fun y hy => ?_⟩
 rcases mem_tog.1 hy with h | h
 ·exact h3 y h.1
 ·omega
theorem delete1_eq (l : List Int) (x : Nat) (hx : x < l.length) (hl : l.length ≤ 1048576) : slices_Delete_int_int.f k l (x : Int) ((x + 1 : Nat) : Int) = some (l.take x ++ l.drop (x + 1)) := by
 unfold slices_Delete_int_int.f
 rw [slc_mid l x (x + 1) (by omega) (by omega), Option.bind_some, if_neg (by simp; omega), slc_pre l x (by omega), Option.bind_some, slc_suf l (x + 1) (by omega), Option.bind_some, if_pos (by omega)]
def turnP (n : Int) (d : List Door) (ks tr : List Int) (c : Int) : Int × List Door × List Int × List Int × Bool := if IsTrapP n d ks tr ∧ 0 ≤ c ∧ c ≤ (d.length : Int) - 1 then (n, d, ks, tog tr c, true) else (0, [], [], [], false)
theorem impl_TurnDoor_eq (hk : Big ≤ k) (n : Int) (d : List Door) (ks tr : List Int) (c : Int) (hd : d.length ≤ 1048576) (hl : ks.length ≤ 1048576) (ht : tr.length ≤ 1048576) : impl_TurnDoor.f k n d ks tr c = some (turnP n d ks tr c) := by
 unfold impl_TurnDoor.f turnP
 rw [IsTrap_eq hk n d ks tr hd hl ht, Option.bind_some, within_eq, show w64 ((d.length : Int) - 1) = (d.length : Int) - 1 from w64_id (by omega) (by omega), Option.bind_some]
 by_cases h : IsTrapP n d ks tr
 rotate_left 1
 ·rw [if_neg (show ¬ (IsTrapP n d ks tr ∧ 0 ≤ c ∧ c ≤ (d.length : Int) - 1) from fun e => h e.1), decide_eq_false h]; rfl
 by_cases h2 : 0 ≤ c ∧ c ≤ (d.length : Int) - 1
 rotate_left 1
 ·rw [if_neg (show ¬ (IsTrapP n d ks tr ∧ 0 ≤ c ∧ c ≤ (d.length : Int) - 1) from fun e => h2 e.2), decide_eq_true h, decide_eq_false h2]; rfl
 rw [if_pos (show IsTrapP n d ks tr ∧ 0 ≤ c ∧ c ≤ (d.length : Int) - 1 from ⟨h, h2⟩), decide_eq_true h, decide_eq_true h2]
 obtain ⟨_, hs, hr⟩ := trap_iff.1 h
 have hs2 : tr.Pairwise (· ≤ ·) := hs.imp fun h => by omega
 simp only [Bool.not_true, Bool.false_eq_true, if_false, Option.bind_some, clone_eq tr ht, own_eq n d ks hd hl]
 unfold slices_BinarySearch_int_int.f
 rw [if_pos ⟨hs2, by omega⟩, Option.bind_some]
 have hcl := List.countP_le_length (p := fun y => decide (y < c)) (l := tr)
 by_cases hin : c ∈ tr
 ·obtain ⟨e1, e2⟩ := tog_del hs hin
  have hcon : tr.contains c = true := List.contains_iff_mem.2 hin
  simp only [hcon, if_true]
  generalize tr.countP (fun y => decide (y < c)) = q at *
  rw [show w64 ((q : Int) + 1) = ((q + 1 : Nat) : Int) from w64_id (by omega) (by omega), delete1_eq tr q e1 ht, e2]
  rfl
 ·have e1 := tog_ins hs hin
  have hcon : tr.contains c = false := by
   rw [Bool.eq_false_iff]; intro e; exact hin (List.contains_iff_mem.1 e)
  simp only [hcon, Bool.false_eq_true, if_false]
  generalize tr.countP (fun y => decide (y < c)) = q at *
  unfold slices_Insert_int_int.f
  rw [if_pos ⟨by omega, by omega, by simp, by simp; omega⟩, Int.toNat_natCast, e1]
  rfl
theorem spec_TurnDoor_eq (hk : Big ≤ k) (n : Int) (d : List Door) (ks tr : List Int) (c : Int) (hd : d.length ≤ 1048576) (hl : ks.length ≤ 1048576) (ht : tr.length ≤ 1048576) : spec_TurnDoor.f k n d ks tr c = some (turnP n d ks tr c) := by
 unfold spec_TurnDoor.f turnP
 rw [l11Trap_eq hk n d ks tr hd hl ht, Option.bind_some, in_eq, show w64 ((d.length : Int) - 1) = (d.length : Int) - 1 from w64_id (by omega) (by omega), Option.bind_some]
 by_cases h : IsTrapP n d ks tr
 rotate_left 1
 ·rw [if_neg (show ¬ (IsTrapP n d ks tr ∧ 0 ≤ c ∧ c ≤ (d.length : Int) - 1) from fun e => h e.1), decide_eq_false h]; rfl
 by_cases h2 : 0 ≤ c ∧ c ≤ (d.length : Int) - 1
 rotate_left 1
 ·rw [if_neg (show ¬ (IsTrapP n d ks tr ∧ 0 ≤ c ∧ c ≤ (d.length : Int) - 1) from fun e => h2 e.2), decide_eq_true h, decide_eq_false h2]; rfl
 rw [if_pos (show IsTrapP n d ks tr ∧ 0 ≤ c ∧ c ≤ (d.length : Int) - 1 from ⟨h, h2⟩), decide_eq_true h, decide_eq_true h2]
 obtain ⟨_, hs, hr⟩ := trap_iff.1 h
 have hup := tog_upto hs hr (m := d.length) (c := c) (by omega)
 have hloop := loop_app (l := fun q (s : List Int) i => spec_TurnDoor.l0 k d tr c q i s) d.length (fun y => if (tr.contains (y : Int) != decide ((y : Int) = c)) = true then [(y : Int)] else []) (some (tog tr c)) (fun q i hi => by
  have hle := appUpto_length (fun y : Nat => if (tr.contains (y : Int) != decide ((y : Int) = c)) = true then [(y : Int)] else []) 1 (fun i => by split <;> simp) i
  generalize appUpto (fun y : Nat => if (tr.contains (y : Int) != decide ((y : Int) = c)) = true then [(y : Int)] else []) i = s at *
  show spec_TurnDoor.l0 k d tr c (q + 1) (i : Int) s = _
  rw [spec_TurnDoor.l0, if_pos (by rw [decide_eq_true_eq]; omega), l1Has_eq hk tr _ ht, Option.bind_some, show w64 ((i : Int) + 1) = ((i + 1 : Nat) : Int) from w64_id (by omega) (by omega)]
  have e : ((i : Int) == c) = decide ((i : Int) = c) := rfl
  rw [e]
  by_cases hb : (tr.contains (i : Int) != decide ((i : Int) = c)) = true
  ·rw [if_pos hb, if_pos hb, if_pos (by simp; omega), Option.bind_some]
  ·rw [if_neg hb, if_neg hb, Option.bind_some, List.append_nil]) (fun q => by
  show spec_TurnDoor.l0 k d tr c (q + 1) (d.length : Int) _ = _
  rw [spec_TurnDoor.l0, if_neg (by simp), hup]) (k := k) (by unfold Big at hk; omega)
 simp only [Bool.not_true, Bool.false_eq_true, if_false, Option.bind_some, l2Own_eq n d ks hd hl]
 have hloop' : spec_TurnDoor.l0 k d tr c k 0 [] = some (tog tr c) := hloop
 rw [hloop', Option.bind_some]
theorem turnP_len {n : Int} {d : List Door} {ks tr : List Int} {c : Int} (hd : d.length ≤ 1048576) (hl : ks.length ≤ 1048576) :
  (turnP n d ks tr c).2.1.length ≤ 1048576 ∧ (turnP n d ks tr c).2.2.1.length ≤ 1048576 ∧ (turnP n d ks tr c).2.2.2.1.length ≤ 1048576 := by
 unfold turnP
 split <;> rename_i h
 ·refine ⟨hd, hl, ?_⟩
  obtain ⟨_, hs, hr⟩ := trap_iff.1 (trap_tog h.1 h.2)
  have hnd : (tog tr c).Nodup := hs.imp fun h => by omega
  simp only
  have h1 : (tog tr c).length ≤ (List.range d.length).length := by
   have : ((tog tr c).map Int.toNat).Nodup := by
    rw [List.nodup_iff_pairwise_ne, List.pairwise_map]
    exact hs.imp_of_mem fun {x y} hx hy hxy => by have := hr x hx; have := hr y hy; omega
   have h2 := this.length_le_of_subset (l₂ := List.range d.length) (fun z hz => by
    obtain ⟨y, hy, rfl⟩ := List.mem_map.1 hz
    have := hr y hy
    exact List.mem_range.2 (by omega))
   simpa using h2
  simp at h1; omega
 ·simp
end

section
variable {k : Nat} {n : Int} {d : List Door} {ks tr : List Int}
theorem tot_true {X : Option Bool} (h : Tot X (fun r => r = true)) : X = some true := by obtain ⟨r, h1, h2⟩ := h; rw [h1, h2]
theorem mem_lostF {mt gd : Nat → Bool} {m : Nat} {p : Int × Int} : p ∈ appUpto (lostF mt gd) m ↔ ∃ i, i < m ∧ mt i = true ∧ gd i = false ∧ p = encT i := by
 rw [mem_app]
 constructor
 ·rintro ⟨i, hi, h⟩
  unfold lostF at h
  split at h <;> rename_i hb
  ·rw [Bool.and_eq_true] at hb
   exact ⟨i, hi, hb.1, by simpa using hb.2, List.mem_singleton.1 h⟩
  ·cases h
 ·rintro ⟨i, hi, h1, h2, rfl⟩
  refine ⟨i, hi, ?_⟩
  unfold lostF
  rw [h1, h2, if_pos (by decide)]; exact List.mem_singleton.2 rfl
theorem Sp.rc {nx : Nat → List Nat} {a : Nat} {p : List Nat} {t : Nat} (h : Sp nx a p t) : Rc nx a t := by
  induction h with
  | nil => exact .here
  | snoc _ hj ih => exact .step ih hj
theorem Rc.rp {nx : Nat → List Nat} {a t : Nat} (h : Rc nx a t) : ∃ v, Rp nx a t v := by
  induction h with
  | here => exact ⟨0, .here⟩
  | step _ hj ih => obtain ⟨v, hv⟩ := ih; exact ⟨v + 1, .step hv hj⟩
theorem Rc.lt (om : Okm n d ks) {t : Nat} (h : Rc (nxT n d ks tr) (ks.getD 0 0).toNat t) : t < n.toNat * 64 := by
  have hlo := om.lo
  have hk0 := keys_getD om.keys 0
  induction h with
  | here => omega
  | step _ hj _ => exact nxT_lt om tr _ _ hj
theorem lose_all (hk : Big ≤ k) (n : Int) (d : List Door) (ks tr : List Int) (hd : d.length ≤ 1048576) (hks : ks.length ≤ 1048576) (ht : tr.length ≤ 1048576) :
    ∃ (w : List Int) (ok : Bool) (st m : Int) (L : List (Int × Int)), impl_FirstToLose.f k n d ks tr = some (w, ok) ∧ spec_FirstToLose.f k n d ks tr = some (w, ok) ∧ w.length ≤ 1000 ∧
      impl_FewestToLose.f k n d ks tr = some (st, ok) ∧ spec_FewestToLose.f k n d ks tr = some (st, ok) ∧
      impl_CountMet.f k n d ks tr = some (m, (L.length : Int), decide (IsTrapP n d ks tr)) ∧ spec_CountMet.f k n d ks tr = some (m, (L.length : Int), decide (IsTrapP n d ks tr)) ∧
      impl_LostStates.f k n d ks tr = some (L, decide (IsTrapP n d ks tr)) ∧ spec_LostStates.f k n d ks tr = some (L, decide (IsTrapP n d ks tr)) ∧ L.length ≤ 768 ∧
      ok = decide ((L.length : Int) > 0) ∧ (ok = true → IsTrapP n d ks tr) ∧ (∀ p ∈ L, impl_IsGood.f k n d ks tr p.1 p.2 = some (false, true)) ∧
      (ok = true → (w.length : Int) = st + 1 ∧ ∃ p ∈ L, impl_StateBehind.f k n d ks tr w = some (p.1, p.2, true)) ∧ (IsTrapP n d ks tr → m = cntM (metB n d ks tr) (n.toNat * 64)) := by
  obtain ⟨⟨w, ok⟩, i1, s1, l1⟩ := FirstToLose_both hk n d ks tr hd hks ht
  obtain ⟨⟨st, one⟩, i2, s2⟩ := FewestToLose_both hk n d ks tr hd hks ht
  obtain ⟨⟨m, lost, two⟩, i3, s3⟩ := CountMet_both hk n d ks tr hd hks ht
  obtain ⟨⟨L, three⟩, i4, s4, l4⟩ := LostStates_both hk n d ks tr hd hks ht
  have c1 := CountMet_eq hk n d ks tr hd hks ht
  rw [i3] at c1
  have s2' := s2
  unfold spec_FewestToLose.f at s2'
  rw [s1, Option.bind_some] at s2'
  simp only at l1 l4 s2'
  have c4 := i4
  unfold impl_LostStates.f at c4
  rw [IsTrap_eq hk n d ks tr hd hks ht, Option.bind_some] at c4
  by_cases hT : IsTrapP n d ks tr
  rotate_left 1
  · rw [if_neg hT] at c1
    rw [decide_eq_false hT] at c4
    have c5 := s1
    unfold spec_FirstToLose.f at c5
    rw [l11Trap_eq hk n d ks tr hd hks ht, decide_eq_false hT] at c5
    have c5' : some (([] : List Int), false) = some (w, ok) := c5
    have c4' : some (([] : List (Int × Int)), false) = some (L, three) := c4
    cases c5'; cases c4'; cases c1
    have s2'' : some ((0 : Int), false) = some (st, one) := s2'
    cases s2''
    refine ⟨[], false, 0, 0, [], i1, s1, l1, i2, s2, ?_, ?_, ?_, ?_, l4, by simp, (fun h => by cases h), (fun p hp => by cases hp), (fun h => by cases h), fun h => absurd h hT⟩
    · rw [decide_eq_false hT]; exact i3
    · rw [decide_eq_false hT]; exact s3
    · rw [decide_eq_false hT]; exact i4
    · rw [decide_eq_false hT]; exact s4
  · have hm := hT.1
    have om := hm.okm
    have hlo := om.lo
    have hhi := om.hi
    have hk0 := keys_getD om.keys 0
    rw [if_pos hT] at c1
    obtain ⟨e1, _⟩ := lost_both hk hm ht
    have hll := (lost_len (metB n d ks tr) (godB n d ks tr) (n.toNat * 64)).1
    rw [decide_eq_true hT, e1] at c4
    have c4' : some (appUpto (lostF (metB n d ks tr) (godB n d ks tr)) (n.toNat * 64), true) = some (L, three) := c4
    cases c4'
    rw [← hll] at c1
    cases c1
    obtain ⟨r, f1, f2⟩ := FirstToLose_specp hk hT hd hks ht
    rw [s1] at f2
    have hgd : ∀ p ∈ appUpto (lostF (metB n d ks tr) (godB n d ks tr)) (n.toNat * 64), impl_IsGood.f k n d ks tr p.1 p.2 = some (false, true) := fun p hp => by
      obtain ⟨i, hi, h1, h2, rfl⟩ := mem_lostF.1 hp
      unfold encT
      simp only
      rw [IsGood_eq hk n d ks tr _ _ hd hks ht, if_pos ⟨hT, by omega, by omega⟩, show (((i / 64 : Nat) : Int) * 64 + ((i % 64 : Nat) : Int)).toNat = i by omega, h2]
    have hone : one = ok ∧ (ok = true → (w.length : Int) = st + 1) := by
      cases ok with
      | false =>
        have : some ((0 : Int), false) = some (st, one) := s2'
        cases this; exact ⟨rfl, fun h => by cases h⟩
      | true =>
        have h5 : some (w64 ((w.length : Int) - 1), true) = some (st, one) := s2'
        rw [w64_id (by omega) (by omega)] at h5
        cases h5; exact ⟨rfl, fun _ => by omega⟩
    obtain ⟨rfl, hlen⟩ := hone
    have hT' := decide_eq_true hT
    rcases f1 with ⟨rfl, g1⟩ | ⟨p, i, rfl, g1, g2, g3, _⟩
    · have f2' : some (w, one) = some (([] : List Int), false) := f2
      cases f2'
      have hL : appUpto (lostF (metB n d ks tr) (godB n d ks tr)) (n.toNat * 64) = [] := by
        rw [List.eq_nil_iff_forall_not_mem]
        intro p hp
        obtain ⟨i, hi, h1, h2, rfl⟩ := mem_lostF.1 hp
        obtain ⟨v, hv⟩ := (metB_iff.1 h1).rp
        rw [g1 i v hv] at h2; cases h2
      refine ⟨[], false, st, _, _, i1, s1, l1, i2, s2, ?_, ?_, ?_, ?_, l4, by rw [hL]; rfl, (fun h => by cases h), hgd, (fun h => by cases h), fun _ => rfl⟩
      · rw [hT']; exact i3
      · rw [hT']; exact s3
      · rw [hT']; exact i4
      · rw [hT']; exact s4
    · have f2' : some (w, one) = some (0 :: p.map ndOf, true) := f2
      cases f2'
      have hmem : encT i ∈ appUpto (lostF (metB n d ks tr) (godB n d ks tr)) (n.toNat * 64) := mem_lostF.2 ⟨i, g3.rc.lt om, metB_iff.2 g3.rc, g2, rfl⟩
      have hpos := List.length_pos_of_mem hmem
      refine ⟨_, true, st, _, _, i1, s1, l1, i2, s2, ?_, ?_, ?_, ?_, l4, by symm; rw [decide_eq_true_eq]; omega, (fun _ => hT), hgd, (fun _ => ⟨hlen rfl, encT i, hmem, ?_⟩), fun _ => rfl⟩
      · rw [hT']; exact i3
      · rw [hT']; exact s3
      · rw [hT']; exact i4
      · rw [hT']; exact s4
      · rw [StateBehind_eq hk n d ks tr _ hd hks ht (by omega), if_pos hT, behind_walk om g3]; rfl
theorem traps_l0 (hk : Big ≤ k) {L : List (Int × Int)} (hL : ∀ p ∈ L, impl_IsGood.f k n d ks tr p.1 p.2 = some (false, true)) (hl : L.length ≤ 768) : laws_FnTraps.l0 k n d ks tr L L k 0 = some (Sum.inl ()) := by
 have hloop := Tot.loop (l := fun q (i : Nat) => laws_FnTraps.l0 k n d ks tr L L q (i : Int)) (fun i => i ≤ L.length) (fun i => L.length - i) (fun r => r = Sum.inl ()) (fun q i hI ih => by
  rw [laws_FnTraps.l0]
  by_cases hi : i < L.length
  ·rw [if_pos (by simpa using hi), rdl_lt hi]
   simp only [Option.bind_some]
   rw [hL _ (List.getElem_mem hi)]
   simp only [Option.bind_some, decide_true, Bool.not_true, Bool.false_eq_true, if_false]
   rw [show w64 ((i : Int) + 1) = ((i + 1 : Nat) : Int) from w64_id (by omega) (by omega)]
   exact ih (i + 1) (by omega) (by omega)
  ·rw [if_neg (by simpa using hi)]; exact Tot.ret rfl) k 0 (by unfold Big at hk; omega) (by omega)
 obtain ⟨r, h1, rfl⟩ := hloop
 exact h1
theorem found_loop (hk : Big ≤ k) {L : List (Int × Int)} (hl : L.length ≤ 768) {p : Int × Int} (hp : p ∈ L) (f : Nat → Bool → Int → Option Bool)
  (hf : ∀ q b i, f (q + 1) b i = (if (decide (i < (L.length : Int))) = true then ((if b = true then some true else (rdl L i).bind fun t374 => some (decide ((t374.1, t374.2) = (p.1, p.2))))).bind fun y51 => f q y51 (w64 (i + 1)) else some b)) : Tot (f k false 0) (fun r => r = true) := by
 refine Tot.loop (l := fun q (s : Bool × Nat) => f q s.1 (s.2 : Int)) (fun s => s.2 ≤ L.length ∧ (s.1 = true ∨ p ∈ L.drop s.2)) (fun s => L.length - s.2) (fun r => r = true) (fun q s hI ih => ?_) k (false, 0) (by simp only; unfold Big at hk; omega) ⟨by simp, .inr (by simpa using hp)⟩
 obtain ⟨b, i⟩ := s
 obtain ⟨h1, h2⟩ := hI
 simp only at h1 h2 ih ⊢
 rw [hf]
 by_cases hi : i < L.length
 ·rw [if_pos (by simpa using hi), rdl_lt hi]
  rw [List.drop_eq_getElem_cons hi] at h2
  refine Tot.bind (P := fun y => y = true ∨ p ∈ L.drop (i + 1)) ?_ fun y hy => ?_
  ·refine Tot.ite (fun _ => Tot.ret (.inl rfl)) (fun hb => Tot.ret ?_)
   rcases h2 with h2 | h2
   ·exact absurd h2 hb
   ·rcases List.mem_cons.1 h2 with h3 | h3
    ·left; rw [decide_eq_true_eq, ← h3]
    ·exact .inr h3
  ·rw [show w64 ((i : Int) + 1) = ((i + 1 : Nat) : Int) from w64_id (by omega) (by omega)]
   exact ih (y, i + 1) ⟨by simp only; omega, hy⟩ (by simp only; omega)
 ·rw [if_neg (by simpa using hi)]
  rw [List.drop_of_length_le (by omega)] at h2
  refine Tot.ret ?_
  rcases h2 with h2 | h2
  ·exact h2
  ·cases h2
end
variable {k : Nat} {c : List By}
theorem DrawFirstToLose_ok (hk : Big ≤ k) (hc : CodeOk c) : Tot (spec_DrawFirstToLose.f k c) (fun r => TrS r.1 r.2.1 r.2.2.1 r.2.2.2) := by
 unfold spec_DrawFirstToLose.f spec_DrawIsTrap.f
 refine Tot.bind (P := fun r => TrS r.1 r.2.1 r.2.2.1 r.2.2.2) ?_ fun r hr => Tot.ret hr
 refine Tot.bind (trap_ok hk hc (by unfold Pos; omega) (by omega)) ?_
 rintro ⟨n, d, ks, tr, a1, s1⟩ ⟨hT, h1⟩
 exact Tot.ret hT
theorem DrawTurnDoor_ok (hk : Big ≤ k) (hc : CodeOk c) : Tot (spec_DrawTurnDoor.f k c) (fun r => TrS r.1 r.2.1 r.2.2.1 r.2.2.2.1) := by
 unfold spec_DrawTurnDoor.f
 refine Tot.bind (trap_ok hk hc (by unfold Pos; omega) (by omega)) ?_
 rintro ⟨n, d, ks, tr, a1, s1⟩ ⟨hT, h1⟩
 simp only at hT h1 ⊢
 refine Tot.bind (P := fun r => r.2 = n) ?_ ?_
 ·refine Tot.bind (pick_ok hc (by unfold Pos; omega) _) ?_
  rintro ⟨t, a2, s2⟩ ⟨_, _, h2⟩
  simp only at h2 ⊢
  refine Tot.bind (pick_ok hc (by unfold Pos; omega) _) ?_
  rintro ⟨u, a3, s3⟩ _
  exact Tot.ret rfl
 ·rintro ⟨y, n'⟩ hn
  simp only at hn
  subst hn
  exact Tot.ret hT
theorem rTrap_self (hk : Big ≤ k) (n : Int) (d : List Door) (ks tr : List Int) (hd : d.length ≤ 1048576) (hks : ks.length ≤ 1048576) (ht : tr.length ≤ 1048576) : laws_rTrap.f k n d ks tr n d ks tr = some true := by
 unfold laws_rTrap.f
 rw [rMaze_self hk n d ks hd hks, Option.bind_some, if_pos rfl, rInts_eq hk tr tr ht, decide_eq_true rfl]; rfl
theorem laws_FnTraps.pure (x : List By) (h : wfd x) : ∃ k, laws_FnTraps.f k x = some true := by
  refine ⟨Big, ?_⟩
  have hk : Big ≤ Big := Nat.le_refl _
  unfold laws_FnTraps.f laws_rBig.f
  rw [Option.bind_some]
  by_cases hb : (x.length : Int) > 65536
  · rw [if_pos (by simpa using hb)]
  rw [if_neg (by simpa using hb)]
  have hc := code_ok h (by omega)
  refine tot_true ?_
  refine Tot.bind (DrawFirstToLose_ok hk hc) ?_
  rintro ⟨n, d, ks, tr⟩ hS
  simp only at hS ⊢
  obtain ⟨⟨_, hd, hks⟩, htr⟩ := hS
  have hd' : d.length ≤ 1048576 := by omega
  have hks' : ks.length ≤ 1048576 := by omega
  have htr' : tr.length ≤ 1048576 := by omega
  obtain ⟨w, ok, st, m, L, i1, s1, l1, i2, s2, i3, s3, i4, s4, l4, hok, hokT, hgd, hokW, hm⟩ := lose_all hk n d ks tr hd' hks' htr'
  obtain ⟨⟨win, four⟩, i5, s5⟩ := FewestToWin_both hk n d ks tr hd' hks' htr'
  have i6 := impl_BothWays_eq hk n d ks tr hd' hks' htr'
  have s6 := spec_BothWays_eq hk n d ks tr hd' hks' htr'
  have e0 := traps_l0 hk hgd l4
  have hw := rInts_eq hk w w (by omega)
  have hbl := bothWaysP_len (n := n) (d := d) (ks := ks) (tr := tr) hd' hks'
  have hb5 : (bothWaysP n d ks tr).2.2.2.2 = decide (IsTrapP n d ks tr) := by
    unfold bothWaysP; by_cases hT : IsTrapP n d ks tr <;> simp [hT]
  have hbT : IsTrapP n d ks tr → bothWaysP n d ks tr = (n, d, ks, [], true) := fun hT => by unfold bothWaysP; rw [if_pos hT]
  generalize bothWaysP n d ks tr = bw at *
  obtain ⟨n6, d6, ks6, tr6, b6⟩ := bw
  simp only at hb5 hbl
  subst hb5
  have e6 := rTrap_self hk n6 d6 ks6 tr6 hbl.1 hbl.2.1 hbl.2.2
  simp only [i1, s1, Option.bind_some, bne_self_eq_false, Bool.false_eq_true, if_false, hw, decide_true, Bool.not_true, i2, s2, i3, s3, IsTrap_eq hk n d ks tr hd' hks' htr']
  refine Tot.bind (P := fun y => y = false) ?_ ?_
  · refine Tot.ite (fun hT => Tot.ret ?_) (fun hT => Tot.ret ?_)
    · rw [hok]; simp
    · cases ok with
      | false => rfl
      | true => exact absurd (decide_eq_true (hokT rfl)) hT
  rintro y rfl
  simp only [Bool.false_eq_true, if_false, i4, s4, Option.bind_some, bne_self_eq_false, e0, Lr, i5, s5, i6, s6, e6, Bool.not_true]
  refine Tot.bind (DrawTurnDoor_ok hk hc) ?_
  rintro ⟨n2, d2, ks2, tr2, z⟩ hS2
  simp only at hS2 ⊢
  obtain ⟨⟨_, hd2, hks2⟩, htr2⟩ := hS2
  have i7 := impl_TurnDoor_eq hk n2 d2 ks2 tr2 z (by omega) (by omega) (by omega)
  have s7 := spec_TurnDoor_eq hk n2 d2 ks2 tr2 z (by omega) (by omega) (by omega)
  have htl := turnP_len (n := n2) (d := d2) (ks := ks2) (tr := tr2) (c := z) (by omega) (by omega)
  have hback : (turnP n2 d2 ks2 tr2 z).2.2.2.2 = true → impl_TurnDoor.f Big (turnP n2 d2 ks2 tr2 z).1 (turnP n2 d2 ks2 tr2 z).2.1 (turnP n2 d2 ks2 tr2 z).2.2.1 (turnP n2 d2 ks2 tr2 z).2.2.2.1 z = some (n2, d2, ks2, tr2, true) := fun hh => by
    unfold turnP at hh ⊢
    split at hh <;> rename_i hcond
    rotate_left 1
    · cases hh
    rw [if_pos hcond]
    obtain ⟨_, hs, _⟩ := trap_iff.1 hcond.1
    have htl' := htl.2.2
    unfold turnP at htl'
    rw [if_pos hcond] at htl'
    simp only at htl' ⊢
    rw [impl_TurnDoor_eq hk n2 d2 ks2 (tog tr2 z) z (by omega) (by omega) htl']
    unfold turnP
    rw [if_pos ⟨trap_tog hcond.1 hcond.2, hcond.2⟩, tog_tog hs]
  have e8 := rTrap_self hk n2 d2 ks2 tr2 (by omega) (by omega) (by omega)
  generalize turnP n2 d2 ks2 tr2 z = tn at *
  obtain ⟨n7, d7, ks7, tr7, b7⟩ := tn
  simp only at htl hback
  have e7 := rTrap_self hk n7 d7 ks7 tr7 htl.1 htl.2.1 htl.2.2
  simp only [i7, s7, Option.bind_some, bne_self_eq_false, Bool.false_eq_true, if_false, e7, Bool.not_true]
  -- the ways on
  have goOn : ∀ (f : Int → Int → Nat → Bool → Int → Option Bool), (∀ a s q b i, f a s (q + 1) b i = (if (decide (i < (L.length : Int))) = true then ((if b = true then some true else (rdl L i).bind fun t374 => some (decide ((t374.1, t374.2) = (a, s))))).bind fun y51 => f a s q y51 (w64 (i + 1)) else some b)) →
      Tot (if (!ok) = true then some true else (impl_StateBehind.f Big n d ks tr w).bind fun (t351_1, t351_2, t351_3) => ((if (!t351_3) = true then some true else some ((w.length : Int) != (w64 (st + 1))))).bind fun y363 => (if y363 = true then some false else (f t351_1 t351_2 Big false 0).bind fun x51 => some x51)) (fun r => r = true) := fun f hf => by
    refine Tot.ite (fun _ => Tot.ret rfl) (fun ho => ?_)
    have ho' : ok = true := by simpa using ho
    obtain ⟨h1, p, hp, h2⟩ := hokW ho'
    rw [h2]
    simp only [Option.bind_some, Bool.not_true, Bool.false_eq_true, if_false]
    rw [w64_id (by omega) (by omega), h1]
    simp only [bne_self_eq_false, Bool.false_eq_true, if_false]
    exact Tot.bind (found_loop hk l4 hp (f p.1 p.2) (fun q b i => hf p.1 p.2 q b i)) fun r hr => Tot.ret hr
  have both : ∀ (f : Int → Int → Nat → Bool → Int → Option Bool), (∀ a s q b i, f a s (q + 1) b i = (if (decide (i < (L.length : Int))) = true then ((if b = true then some true else (rdl L i).bind fun t374 => some (decide ((t374.1, t374.2) = (a, s))))).bind fun y51 => f a s q y51 (w64 (i + 1)) else some b)) → decide (IsTrapP n d ks tr) = true →
      Tot ((impl_CountMet.f Big n6 d6 ks6 tr6).bind fun (t291_1, t291_2, t291_3) => (impl_FewestSteps.f Big n d ks).bind fun (t298_1, t298_2) => ((if (!t291_3) = true then some true else (if (t291_2 != 0) = true then (if (t291_2 != t291_1) = true then some true else (if four = true then (if (!t298_2) = true then some true else (if (decide (win < t298_1)) = true then some true else some (decide (m > t291_1)))) else some (decide (m > t291_1)))) else (if four = true then (if (!t298_2) = true then some true else (if (decide (win < t298_1)) = true then some true else some (decide (m > t291_1)))) else some (decide (m > t291_1)))))).bind fun y328 => (if y328 = true then some false else (rdl ks 0).bind fun t334 => (impl_IsGood.f Big n d ks tr 0 t334).bind fun (t336_1, t336_2) => ((if (!t336_2) = true then some true else some (t336_1 != four))).bind fun y345 => (if y345 = true then some false else (if (!ok) = true then some true else (impl_StateBehind.f Big n d ks tr w).bind fun (t351_1, t351_2, t351_3) => ((if (!t351_3) = true then some true else some ((w.length : Int) != (w64 (st + 1))))).bind fun y363 => (if y363 = true then some false else (f t351_1 t351_2 Big false 0).bind fun x51 => some x51))))) (fun r => r = true) := fun f hf hT0 => by
    have hT : IsTrapP n d ks tr := of_decide_eq_true hT0
    have hmz := hT.1
    have om := hmz.okm
    have hlo := om.lo
    have hhi := om.hi
    have hlen := om.len
    have hk0 := keys_getD om.keys 0
    have hT2 : IsTrapP n d ks [] := trap_iff.2 ⟨hmz, .nil, fun y hy => by cases hy⟩
    have hbw := hbT hT
    simp only [Prod.mk.injEq] at hbw
    obtain ⟨q1, q2, q3, q4, _⟩ := hbw
    have g1 := CountMet_eq hk n d ks [] hd' hks' (by simp)
    rw [if_pos hT2] at g1
    obtain ⟨⟨win', four'⟩, p1, p2, p3⟩ := FewestToWin_path hk hT hd' hks' htr'
    rw [i5] at p1
    cases p1
    simp only at p2 p3
    rw [q1, q2, q3, q4, g1, Option.bind_some]
    refine Tot.bind (Fewest_le hk hmz) ?_
    rintro ⟨least, eight⟩ hle
    simp only at hle ⊢
    have hmle : m ≤ cntM (metB n d ks []) (n.toNat * 64) := by
      rw [hm hT]
      exact cntM_mono (fun t h => metB_iff.2 ((metB_iff.1 h).sub fun i j hj => nxT_sub hj)) _
    have hG : (if four = true then (if (!eight) = true then some true else (if (decide (win < least)) = true then some true else some (decide (m > cntM (metB n d ks []) (n.toNat * 64))))) else some (decide (m > cntM (metB n d ks []) (n.toNat * 64)))) = some false := by
      have h9 : decide (m > cntM (metB n d ks []) (n.toNat * 64)) = false := decide_eq_false (by omega)
      rw [h9]
      cases four with
      | false => rfl
      | true =>
        obtain ⟨h5, h6⟩ := p3 rfl
        obtain ⟨h7, h8⟩ := hle _ (h6.sub fun i j hj => nxT_sub hj)
        rw [h7, decide_eq_false (show ¬ win < least by omega)]; rfl
    have hnone : ((appUpto (lostI (metB n d ks []) (godB n d ks [])) (n.toNat * 64)).length : Int) = 0 ∨ ((appUpto (lostI (metB n d ks []) (godB n d ks [])) (n.toNat * 64)).length : Int) = cntM (metB n d ks []) (n.toNat * 64) := by
      rcases both_all om with h1 | h1
      · left; rw [lost_all h1]; rfl
      · right; exact lost_none h1 _
    generalize ((appUpto (lostI (metB n d ks []) (godB n d ks [])) (n.toNat * 64)).length : Int) = none' at hnone ⊢
    generalize cntM (metB n d ks []) (n.toNat * 64) = all at hnone hG ⊢
    refine Tot.bind (P := fun y => y = false) ⟨false, ?_, rfl⟩ ?_
    · simp only [Bool.not_true, Bool.false_eq_true, if_false]
      rw [hG]
      rcases hnone with h1 | h1
      · rw [h1]; rfl
      · rw [h1]; simp
    rintro y rfl
    have hr0 : rdl ks 0 = some (ks.getD 0 0) := rdl_getD (i := 0) (by omega) 0
    have hS0 : StP n d ks tr 0 (ks.getD 0 0) := ⟨hT, by omega, hk0⟩
    simp only [Bool.false_eq_true, if_false]
    rw [hr0, Option.bind_some, IsGood_eq hk n d ks tr 0 _ hd' hks' htr', if_pos hS0, Option.bind_some]
    rw [show (0 * 64 + ks.getD 0 0).toNat = (ks.getD 0 0).toNat by omega, ← p2]
    simp only [Bool.not_true, Bool.false_eq_true, if_false, bne_self_eq_false, Option.bind_some]
    exact goOn f hf
  refine Tot.ite (fun h7 => ?_) (fun h7 => ?_)
  · rw [hback h7]
    simp only [Option.bind_some, Bool.not_true, Bool.false_eq_true, if_false, e8]
    refine Tot.ite (fun hT => ?_) (fun hT => ?_)
    · exact both (fun a s => laws_FnTraps.l1 Big L a s) (fun a s q b i => by rw [laws_FnTraps.l1]) hT
    · exact goOn (fun a s => laws_FnTraps.l2 Big L a s) (fun a s q b i => by rw [laws_FnTraps.l2])
  · refine Tot.ite (fun hT => ?_) (fun hT => ?_)
    · exact both (fun a s => laws_FnTraps.l3 Big L a s) (fun a s q b i => by rw [laws_FnTraps.l3]) hT
    · exact goOn (fun a s => laws_FnTraps.l4 Big L a s) (fun a s q b i => by rw [laws_FnTraps.l4])
end Go.Proofs

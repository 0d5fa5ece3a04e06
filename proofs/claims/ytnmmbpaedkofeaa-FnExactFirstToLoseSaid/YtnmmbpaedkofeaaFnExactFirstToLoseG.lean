/- A part of the proof of FnExactFirstToLose: the plain law. No condition. -/
import Derived.Test.YtnmmbpaedkofeaaFnExactFirstToLoseB
import Derived.Test.YtnmmbpaedkofeaaFnExactFirstToLoseD
import Derived.Test.YtnmmbpaedkofeaaFnExactFirstToLoseE
import Derived.Test.YtnmmbpaedkofeaaFnExactFirstToLoseF
set_option linter.unusedSimpArgs false
/- Plain laws: JJ -/
namespace Go.Proofs
open Go Go.Ga Go.Ga.Wf
set_option linter.unusedVariables false
set_option linter.unusedSimpArgs false
theorem upto_one_sorted (c : Nat → Bool) : ∀ n, (appUpto (fun y => if c y = true then [(y : Int)] else []) n).Pairwise (· < ·) ∧ ∀ y ∈ appUpto (fun y => if c y = true then [(y : Int)] else []) n, y < n
  | 0 => ⟨.nil, fun y hy => by cases hy⟩
  | n + 1 => by
    obtain ⟨h1, h2⟩ := upto_one_sorted c n
    rw [appUpto_succ]
    refine ⟨List.pairwise_append.2 ⟨h1, ?_, fun x hx y hy => ?_⟩, fun y hy => ?_⟩
    · split
      · exact List.pairwise_singleton _ _
      · exact .nil
    · have := h2 x hx
      split at hy
      · rw [List.mem_singleton.1 hy]; exact this
      · cases hy
    · rcases List.mem_append.1 hy with h | h
      · have := h2 y h; omega
      · split at h
        · rw [List.mem_singleton.1 h]; omega
        · cases h
theorem nxT_sorted {n : Int} {d : List Door} {ks : List Int} (om : Okm n d ks) (tr : List Int) (i : Nat) : (nxT n d ks tr i).Pairwise (· < ·) := by
  unfold nxT
  rw [List.pairwise_map]
  have h := (upto_one_sorted (fun y => anyT d tr ((i / 64 : Nat) : Int) (y : Int) ((i % 64 : Nat) : Int) d.length) n.toNat).1
  refine List.Pairwise.imp_of_mem (fun {x y} hx hy hxy => ?_) h
  have h1 := stepN_mem hx
  have h2 := stepN_mem hy
  have b1 := (bor_le63 (show 0 ≤ ((i % 64 : Nat) : Int) ∧ ((i % 64 : Nat) : Int) ≤ 63 by omega) (keys_getD om.keys x.toNat)).1
  have b2 := (bor_le63 (show 0 ≤ ((i % 64 : Nat) : Int) ∧ ((i % 64 : Nat) : Int) ≤ 63 by omega) (keys_getD om.keys y.toNat)).1
  unfold idOf; omega
def ndOf (u : Nat) : Int := ((u / 64 : Nat) : Int)
def Fst2 (nx : Nat → List Nat) (gd : Nat → Bool) (a : Nat) (r : Unit ⊕ (List Int × Bool)) : Prop :=
  (r = .inl () ∧ ∀ t v, Rp nx a t v → gd t = true) ∨ ∃ (p : List Nat) (i : Nat), r = .inr (0 :: p.map ndOf, true) ∧ p.length ≤ 768 ∧ gd i = false ∧ Sp nx a p i ∧ ∀ q t, Sp nx a q t → gd t = false → kle p q
section
variable {k : Nat}
theorem first_l1p (hk : Big ≤ k) {nx : Nat → List Nat} {a m : Nat} {V B : List Int} {done td : List Nat} {pf : Nat → List Nat} (h : OD nx a m V B done td pf) (hm : m ≤ 768) (hB : B.length = V.length) (hV : V.length = m) (hle : ∀ t, V.getD t 0 ≤ 768) (t : Nat) (ht : t ∈ done ++ td) : spec_FirstToLose.l1 k (a : Int) B k [] (t : Int) = some ((pf t).map ndOf) := by
  have := loop_good (l := fun q (s : List Int × Nat) => spec_FirstToLose.l1 k (a : Int) B q s.1 (s.2 : Int)) (fun s => s.2 ∈ done ++ td ∧ (pf s.2).map ndOf ++ s.1 = (pf t).map ndOf) (fun s => (pf s.2).length) (fun r => r = (pf t).map ndOf) (fun q ⟨r, u⟩ hI => by
    obtain ⟨i1, i2⟩ := hI
    simp only at i1 i2
    simp only
    rw [spec_FirstToLose.l1]
    have hlen := h.len t ht
    have hlt := hle t
    have hrl := congrArg List.length i2
    simp only [List.length_append, List.length_map] at hrl
    by_cases hu : u = a
    · right
      refine ⟨r, by rw [hu]; simp, ?_⟩
      rw [hu, h.a0] at i2; simpa using i2
    · left
      obtain ⟨w, p1, p2, p3⟩ := h.par u i1 hu
      have hum := h.lt u i1
      have hne : ((u : Int) != (a : Int)) = true := by rw [bne_iff_ne]; omega
      have hr : rdl B (u : Int) = some (w : Int) := by rw [rdl_getD (by omega) 0, p2]
      have hq : quo (u : Int) 64 = ((u / 64 : Nat) : Int) := quo64n u (by omega)
      have hb2 : ([((u / 64 : Nat) : Int)] ++ r).length < 1099511627776 := by rw [List.length_append, List.length_singleton]; omega
      refine ⟨([((u / 64 : Nat) : Int)] ++ r, w), by simp only [hne, if_true, hq, if_pos hb2, hr, Option.bind_some], ⟨List.mem_append_left _ p1, ?_⟩, ?_⟩
      · rw [← i2, p3, List.map_append, List.append_assoc]; rfl
      · simp only; rw [p3]; simp) k ([], t) (by simp only; have := hle t; have := h.len t ht; unfold Big at hk; omega) ⟨ht, by simp⟩
  obtain ⟨r, h1, h2⟩ := this
  rw [← h2]; exact h1
theorem first_l0p (hk : Big ≤ k) {n : Int} {d : List Door} {ks tr : List Int} (hm : IsMaze n d ks) (ht : tr.length ≤ 1048576) (o : List Bool) (gd : Nat → Bool) (ho : o.length = n.toNat * 64) (hog : ∀ i, i < n.toNat * 64 → o.getD i false = gd i) (a : Nat) (ha : a < n.toNat * 64) (V B : List Int) (hV : V.length = n.toNat * 64) (hW : WI (nxT n d ks tr) a (n.toNat * 64) V [a]) (hBI : BI (nxT n d ks tr) a (n.toNat * 64) V [a]) (hBf : Bf (nxT n d ks tr) a V B) (hon : ∀ t, t < n.toNat * 64 → 0 ≤ V.getD t 0 → t = a) (hO : OD (nxT n d ks tr) a (n.toNat * 64) V B [] [a] (fun _ => [])) :
    ∃ r, spec_FirstToLose.l0 k n d ks tr o (a : Int) k [(a : Int)] B 0 = some r ∧ Fst2 (nxT n d ks tr) gd a r := by
  have om := hm.okm
  have hlo := om.lo
  have hhi := om.hi
  exact loop_good (l := fun q (s : (List Int × List Int) × List Nat × List Nat) => spec_FirstToLose.l0 k n d ks tr o (a : Int) q ((s.2.1 ++ s.2.2).map fun (j : Nat) => (j : Int)) s.1.2 (s.2.1.length : Int)) (fun s => s.1.1.length = n.toNat * 64 ∧ (WI (nxT n d ks tr) a (n.toNat * 64) s.1.1 s.2.2 ∧ BI (nxT n d ks tr) a (n.toNat * 64) s.1.1 s.2.2 ∧ Bf (nxT n d ks tr) a s.1.1 s.1.2 ∧ ∃ pf, OD (nxT n d ks tr) a (n.toNat * 64) s.1.1 s.1.2 s.2.1 s.2.2 pf) ∧ s.2.1.length + s.2.2.length ≤ cp s.1.1 ∧ ∀ t ∈ s.2.1, gd t = true) (fun s => 2 * (768 - cp s.1.1) + s.2.2.length) (Fst2 (nxT n d ks tr) gd a) (fun q ⟨⟨V, B⟩, done, td⟩ hI => by
    obtain ⟨i1, ⟨i2, i4, i5, pf, i7⟩, i3, i6⟩ := hI
    simp only at i1 i2 i3 i4 i5 i6 i7
    simp only
    have hcl := cp_le V
    rw [spec_FirstToLose.l0]
    cases td with
    | nil =>
      right
      refine ⟨.inl (), by simp, .inl ⟨rfl, fun t v hr => ?_⟩⟩
      have h1 := i4.least ha (fun i _ => nxT_lt om tr i) hr
      exact i6 t (by have := (i7.vis t h1.1).1 h1.2.1; simpa using this)
    | cons i rest =>
      rw [List.length_cons] at i3
      have hti := i2.tin i (List.mem_cons_self ..)
      have hlt : decide ((done.length : Int) < (((done ++ i :: rest).map fun (j : Nat) => (j : Int)).length : Int)) = true := by
        rw [decide_eq_true_eq, List.length_map, List.length_append, List.length_cons]; omega
      have hr : rdl ((done ++ i :: rest).map fun (j : Nat) => (j : Int)) (done.length : Int) = some (i : Int) := by
        rw [rdl_nat, List.getElem?_map, List.getElem?_append_right (Nat.le_refl _)]; simp
      have hro : rdl o (i : Int) = some (gd i) := by rw [rdl_getD (by omega) false, hog i hti.1]
      cases hgi : gd i with
      | false =>
        right
        have him : i ∈ done ++ i :: rest := List.mem_append_right _ (List.mem_cons_self ..)
        have w1 := first_l1p (k := k) hk i7 (by omega) i5.len i1 (fun t => by have := i2.bnd t; omega) i him
        have hbi := i2.bnd i
        have hpl := i7.len i him
        have hb2 : ([(0 : Int)] ++ (pf i).map ndOf).length < 1099511627776 := by rw [List.length_append, List.length_singleton, List.length_map]; omega
        refine ⟨.inr ([0] ++ (pf i).map ndOf, true), by simp only [hlt, if_true, hr, hro, hgi, Bool.not_false, Option.bind_some, w1, if_pos hb2], .inr ⟨pf i, i, rfl, by omega, hgi, i7.sp i him, fun q t hq hgt => i7.first ha i2.start i6 hq hgt⟩⟩
      | true =>
        left
        have hpop := i2.pop (by omega) (nxT_lt om tr i)
        have hpopB := i4.pop i2 (by omega) (nxT_lt om tr i)
        have hpopO := i7.pop i5.len (by omega) ha i2.start (nxT_lt om tr i) (nxT_sorted om tr i)
        have e2 := first_l2 hk hm (tr := tr) a i hti.1 V B i1 done rest i2 i5 (by omega) (by omega)
        have e1 := l11Step_eq hk n d ks tr ((i / 64 : Nat) : Int) ((i % 64 : Nat) : Int) hm ht (by omega)
        rw [step_map, show appUpto (fun y => if anyT d tr ((i / 64 : Nat) : Int) (y : Int) ((i % 64 : Nat) : Int) d.length = true then [(y : Int)] else []) n.toNat = stepN d tr n ((i / 64 : Nat) : Int) ((i % 64 : Nat) : Int) from rfl] at e1
        have hrel := visF_rel (i : Int) (V.getD i 0 + 1) (nxT n d ks tr i) ((V, B), [])
        have hFI0 : FI (nxT n d ks tr) a (n.toNat * 64) V (V, []) := ⟨rfl, fun _ _ => rfl, i2.bnd, i2.sound, (fun t ht => by cases ht), fun t ht => .inl ht, rfl⟩
        have hbf := (bf_fold (m := n.toNat * 64) (by omega) (by omega) hti.2 (i2.bnd i) (i2.sound i (by omega) hti.2) i2.start (nxT n d ks tr i) ((V, B), []) hFI0 i5 (fun t ht => ⟨ht, nxT_lt om tr _ _ ht⟩)).2
        simp only at hrel
        rw [← hrel] at hpop hpopB
        generalize (nxT n d ks tr i).foldl (visF (i : Int) (V.getD i 0 + 1)) ((V, B), []) = z at *
        obtain ⟨⟨V', B'⟩, news⟩ := z
        simp only at hpop hpopB hbf e2 hpopO
        have hcnt := hpop.2.cnt
        have hzl := hpop.2.len
        have honly := hpop.2.only
        simp only at hcnt hzl honly
        have hcz := cp_le V'
        have hww : w64 ((done.length : Int) + 1) = (((done ++ [i]).length : Nat) : Int) := by rw [w64_id (by omega) (by omega), List.length_append]; rfl
        have hlist : ((done ++ i :: rest).map fun (j : Nat) => (j : Int)) ++ (news.map fun (j : Nat) => (j : Int)) = ((done ++ [i]) ++ (rest ++ news)).map fun (j : Nat) => (j : Int) := by
          rw [← List.map_append]; congr 1; simp
        refine ⟨((V', B'), done ++ [i], rest ++ news), ?_, ⟨by simp only; omega, ⟨hpop.1, hpopB, hbf, hpopO⟩, by simp only [List.length_append, List.length_singleton]; omega, fun t ht => ?_⟩, by simp only [List.length_append, List.length_cons]; omega⟩
        · simp only [hlt, if_true, hr, hro, hgi, Bool.not_true, Bool.false_eq_true, if_false, Option.bind_some, quo64n i (by omega), rem64n, e1, e2, hww, hlist]
        · simp only at ht
          rcases List.mem_append.1 ht with h2 | h2
          · exact i6 t h2
          · rw [List.mem_singleton.1 h2]; exact hgi) k ((V, B), [], [a]) (by have := cp_le V; simp only [List.length_singleton]; unfold Big at hk; omega) ⟨hV, ⟨hW, hBI, hBf, _, hO⟩, by have := hW.tl; simpa using this, fun t h1 => by cases h1⟩
theorem FirstToLose_specp (hk : Big ≤ k) {n : Int} {d : List Door} {ks tr : List Int} (hT : IsTrapP n d ks tr) (hd : d.length ≤ 1048576) (hks : ks.length ≤ 1048576) (ht : tr.length ≤ 1048576) :
    ∃ r, Fst2 (nxT n d ks tr) (godB n d ks tr) (ks.getD 0 0).toNat r ∧ spec_FirstToLose.f k n d ks tr = some (match r with | .inl _ => ([], false) | .inr w => w) := by
  have hm := hT.1
  have om := hm.okm
  have hlo := om.lo
  have hhi := om.hi
  have hlen := om.len
  have hk0 := keys_getD om.keys 0
  have hr0 : rdl ks 0 = some (ks.getD 0 0) := rdl_getD (i := 0) (by omega) 0
  obtain ⟨o, g4, g5, g6⟩ := l11Good_eq hk hm ht
  have hO : ∀ i, i < n.toNat * 64 → o.getD i false = godB n d ks tr i := fun i hi => by
    rw [Bool.eq_iff_iff, g6 i hi, godB_iff]
  obtain ⟨b, hb⟩ := Int.eq_ofNat_of_zero_le hk0.1
  rw [hb] at hr0 hk0
  have hid := l4Id_eq (k := k) 0 (b : Int) (by omega) hk0
  rw [Int.zero_mul, Int.zero_add] at hid
  have ha : b < n.toNat * 64 := by omega
  have hnone := l10None_eq (k := k) hk o.length (by omega)
  rw [g5] at hnone
  have hrep : ∀ t, t < (List.replicate (n.toNat * 64) (-1 : Int)).length → (List.replicate (n.toNat * 64) (-1 : Int)).getD t 0 = -1 := fun t h => by
    rw [List.length_replicate] at h
    rw [List.getD_eq_getElem?_getD, List.getElem?_replicate, if_pos h]; rfl
  have hrb : rdl (List.replicate (n.toNat * 64) (-1 : Int)) (b : Int) = some (-1) := by rw [rdl_getD (by simpa using ha) 0, hrep b (by simpa using ha)]
  obtain ⟨r, r1, r2⟩ := first_l0p hk hm ht o (godB n d ks tr) g5 hO b ha ((List.replicate (n.toNat * 64) (-1 : Int)).set b 0) ((List.replicate (n.toNat * 64) (-1 : Int)).set b (b : Int)) (by simp) (WI.init hrep ha (by simp)) (BI.init hrep (by simpa using ha) (by simp)) (Bf.init ha) (fun t h1 h2 => by
    rw [getD_set] at h2
    by_cases h : b = t
    · exact h.symm
    · rw [if_neg (fun h' => h h'.1), hrep t (by simpa using h1)] at h2; omega) (OD.init ha)
  refine ⟨r, by rw [hb, Int.toNat_natCast]; exact r2, ?_⟩
  unfold spec_FirstToLose.f
  rw [l11Trap_eq hk n d ks tr hd hks ht, decide_eq_true hT]
  simp only [Option.bind_some, Bool.not_true, Bool.false_eq_true, if_false, hr0, g4, hid, g5, hnone, hrb, Int.toNat_natCast, r1]
  cases r <;> rfl
/-! the program's walk: step by step to what is nearer -/
theorem lose_l1 (hk : Big ≤ k) {n : Int} {d : List Door} {ks tr : List Int} (om : Okm n d ks) (D : Arr 768) (c : Nat) (hc : c < n.toNat * 64) (v : Int) (hv : 0 ≤ v) (hv2 : v ≤ 768) (hD : D.l.getD c 0 = v + 1) (pre post : List Int) (y : Int) (hY : ∀ z ∈ pre ++ y :: post, 0 ≤ z ∧ z.toNat < n.toNat)
    (hpre : ∀ z ∈ pre, D.l.getD (idOf ks ((c % 64 : Nat) : Int) z).toNat 0 ≠ v) (hy : D.l.getD (idOf ks ((c % 64 : Nat) : Int) y).toNat 0 = v) (hl : (pre ++ y :: post).length ≤ 1000) :
    ∀ (r i : Nat), i + r = pre.length → ∀ q, r < q → impl_FirstToLose.l1 k ks D ((c / 64 : Nat) : Int) ((c % 64 : Nat) : Int) (pre ++ y :: post) q (i : Int) = some (y, bor ((c % 64 : Nat) : Int) (ks.getD y.toNat 0)) := by
  intro r
  induction r with
  | zero =>
    intro i hi q hq
    obtain ⟨q, rfl⟩ : ∃ q', q = q' + 1 := ⟨q - 1, by omega⟩
    rw [impl_FirstToLose.l1]
    have hlo := om.lo
    have hhi := om.hi
    have hlt : ((i : Int) < ((pre ++ y :: post).length : Int)) := by rw [List.length_append, List.length_cons]; omega
    have hr : rdl (pre ++ y :: post) (i : Int) = some y := by rw [rdl_nat, List.getElem?_append_right (by omega), show i - pre.length = 0 by omega]; rfl
    have hy0 := hY y (List.mem_append_right _ (List.mem_cons_self ..))
    have h5 : rdl ks y = some (ks.getD y.toNat 0) := rdl_getDI hy0.1 (by have := om.len; omega) _
    have hbo := (bor_le63 (show 0 ≤ ((c % 64 : Nat) : Int) ∧ ((c % 64 : Nat) : Int) ≤ 63 by omega) (keys_getD om.keys y.toNat)).1
    have hg1 : 0 ≤ y ∧ y < 12 := by omega
    have hg2 : 0 ≤ bor ((c % 64 : Nat) : Int) (ks.getD y.toNat 0) ∧ bor ((c % 64 : Nat) : Int) (ks.getD y.toNat 0) < 64 := by omega
    have hg3 : 0 ≤ ((c / 64 : Nat) : Int) ∧ ((c / 64 : Nat) : Int) < 12 := by omega
    have hg4 : 0 ≤ ((c % 64 : Nat) : Int) ∧ ((c % 64 : Nat) : Int) < 64 := by omega
    have ha1 : D.at (y * 64 + bor ((c % 64 : Nat) : Int) (ks.getD y.toNat 0)) = v := hy
    have ha2 : D.at (((c / 64 : Nat) : Int) * 64 + ((c % 64 : Nat) : Int)) = v + 1 := by rw [show ((c / 64 : Nat) : Int) * 64 + ((c % 64 : Nat) : Int) = (c : Int) by omega]; exact hD
    have hw : w64 (v + 1 - 1) = v := by rw [show v + 1 - 1 = v by omega]; exact w64_id (by omega) (by omega)
    have hbe : (v == v) = true := by simp
    simp only [hlt, decide_true, if_true, hr, Option.bind_some, h5, if_pos hg1, if_pos hg2, if_pos hg3, if_pos hg4, ha1, ha2, hw, hbe]
  | succ r ih =>
    intro i hi q hq
    obtain ⟨q, rfl⟩ : ∃ q', q = q' + 1 := ⟨q - 1, by omega⟩
    rw [impl_FirstToLose.l1]
    have hlo := om.lo
    have hhi := om.hi
    have hip : i < pre.length := by omega
    have hlt : ((i : Int) < ((pre ++ y :: post).length : Int)) := by rw [List.length_append, List.length_cons]; omega
    have hr : rdl (pre ++ y :: post) (i : Int) = some pre[i] := by rw [rdl_nat, List.getElem?_append_left hip, List.getElem?_eq_getElem hip]
    have hz0 := hY pre[i] (List.mem_append_left _ (List.getElem_mem hip))
    have hzp := hpre pre[i] (List.getElem_mem hip)
    have hne := ih (i + 1) (by omega) q (by omega)
    generalize pre[i] = z at *
    have h5 : rdl ks z = some (ks.getD z.toNat 0) := rdl_getDI hz0.1 (by have := om.len; omega) _
    have hbo := (bor_le63 (show 0 ≤ ((c % 64 : Nat) : Int) ∧ ((c % 64 : Nat) : Int) ≤ 63 by omega) (keys_getD om.keys z.toNat)).1
    have hg1 : 0 ≤ z ∧ z < 12 := by omega
    have hg2 : 0 ≤ bor ((c % 64 : Nat) : Int) (ks.getD z.toNat 0) ∧ bor ((c % 64 : Nat) : Int) (ks.getD z.toNat 0) < 64 := by omega
    have hg3 : 0 ≤ ((c / 64 : Nat) : Int) ∧ ((c / 64 : Nat) : Int) < 12 := by omega
    have hg4 : 0 ≤ ((c % 64 : Nat) : Int) ∧ ((c % 64 : Nat) : Int) < 64 := by omega
    have ha1 : D.at (z * 64 + bor ((c % 64 : Nat) : Int) (ks.getD z.toNat 0)) = D.l.getD (idOf ks ((c % 64 : Nat) : Int) z).toNat 0 := rfl
    have ha2 : D.at (((c / 64 : Nat) : Int) * 64 + ((c % 64 : Nat) : Int)) = v + 1 := by rw [show ((c / 64 : Nat) : Int) * 64 + ((c % 64 : Nat) : Int) = (c : Int) by omega]; exact hD
    have hw : w64 (v + 1 - 1) = v := by rw [show v + 1 - 1 = v by omega]; exact w64_id (by omega) (by omega)
    have hbe : (D.l.getD (idOf ks ((c % 64 : Nat) : Int) z).toNat 0 == v) = false := by simpa using hzp
    have hwi : w64 ((i : Int) + 1) = ((i + 1 : Nat) : Int) := w64_id (by rw [List.length_append] at hl; omega) (by rw [List.length_append] at hl; omega)
    simp only [hlt, decide_true, if_true, hr, Option.bind_some, h5, if_pos hg1, if_pos hg2, if_pos hg3, if_pos hg4, ha1, ha2, hw, hbe, Bool.false_eq_true, if_false, hwi, hne]
theorem lose_l0 (hk : Big ≤ k) {n : Int} {d : List Door} {ks tr : List Int} (hm : IsMaze n d ks) (ht : tr.length ≤ 1048576) (D : Arr 768) (gd : Nat → Bool) (hD : DI (nxT n d ks tr) (fun i => !gd i) (n.toNat * 64) D.l) (hR : ∀ i, i < n.toNat * 64 → ∀ j ∈ nxT n d ks tr i, Rlx D.l i j) :
    ∀ (v : Nat) (c : Nat), c < n.toNat * 64 → D.l.getD c 0 = v → v ≤ 768 → ∀ (out : List Int), out.length + v ≤ 2000 → ∀ q, v < q → ∃ g t, impl_FirstToLose.l0 k n d ks tr D q ((c / 64 : Nat) : Int) ((c % 64 : Nat) : Int) out = some (out ++ g.map ndOf) ∧ Sp (nxT n d ks tr) c g t ∧ gd t = false ∧ g.length = v ∧ ∀ p u, Sp (nxT n d ks tr) c p u → gd u = false → p.length = v → kle g p := by
  have om := hm.okm
  have hlo := om.lo
  have hhi := om.hi
  have hnx : ∀ i, i < n.toNat * 64 → ∀ j ∈ nxT n d ks tr i, j < n.toNat * 64 := fun i _ => nxT_lt om tr i
  intro v
  induction v with
  | zero =>
    intro c hc hv _ out hol q hq
    obtain ⟨q, rfl⟩ : ∃ q', q = q' + 1 := ⟨q - 1, by omega⟩
    rw [impl_FirstToLose.l0]
    have hg3 : 0 ≤ ((c / 64 : Nat) : Int) ∧ ((c / 64 : Nat) : Int) < 12 := by omega
    have hg4 : 0 ≤ ((c % 64 : Nat) : Int) ∧ ((c % 64 : Nat) : Int) < 64 := by omega
    have ha2 : D.at (((c / 64 : Nat) : Int) * 64 + ((c % 64 : Nat) : Int)) = 0 := by rw [show ((c / 64 : Nat) : Int) * 64 + ((c % 64 : Nat) : Int) = (c : Int) by omega]; exact hv
    have hs := hD.sound c (by rw [D.len]; omega) (by omega)
    rw [hv] at hs
    refine ⟨[], c, by rw [if_pos hg3, if_pos hg4, ha2]; simp, .nil, ?_, rfl, fun p u hp _ hl => ?_⟩
    · generalize hz : ((0 : Nat) : Int).toNat = z at hs
      cases hs with
      | here hg => simpa using hg
      | step => simp at hz
    · exact .inl (List.length_eq_zero_iff.1 hl).symm
  | succ v ih =>
    intro c hc hv hv8 out hol q hq
    obtain ⟨q, rfl⟩ : ∃ q', q = q' + 1 := ⟨q - 1, by omega⟩
    have hg3 : 0 ≤ ((c / 64 : Nat) : Int) ∧ ((c / 64 : Nat) : Int) < 12 := by omega
    have hg4 : 0 ≤ ((c % 64 : Nat) : Int) ∧ ((c % 64 : Nat) : Int) < 64 := by omega
    have ha2 : D.at (((c / 64 : Nat) : Int) * 64 + ((c % 64 : Nat) : Int)) = ((v + 1 : Nat) : Int) := by rw [show ((c / 64 : Nat) : Int) * 64 + ((c % 64 : Nat) : Int) = (c : Int) by omega]; exact hv
    have hgt : ((v + 1 : Nat) : Int) > 0 := by omega
    have hs := hD.sound c (by rw [D.len]; omega) (by omega)
    rw [hv, Int.toNat_natCast] at hs
    have hval : ∀ j ∈ nxT n d ks tr c, ∀ w : Nat, Pth (nxT n d ks tr) (fun i => !gd i) j w → w ≤ v → D.l.getD j 0 = v := fun j hj w hp hw => by
      have h1 := dist_complete hD hnx hR hp (hnx c hc j hj)
      have h2 := hR c hc j hj h1.1
      omega
    obtain ⟨j0, hj0, hD0⟩ : ∃ j ∈ nxT n d ks tr c, D.l.getD j 0 = v := by
      cases hs with
      | step hj hp => exact ⟨_, hj, hval _ hj v hp (Nat.le_refl _)⟩
    have hY : ∀ z ∈ stepN d tr n ((c / 64 : Nat) : Int) ((c % 64 : Nat) : Int), 0 ≤ z ∧ z.toNat < n.toNat := fun z hz => stepN_mem hz
    have hsl := stepN_length d tr n ((c / 64 : Nat) : Int) ((c % 64 : Nat) : Int)
    have hsorted := nxT_sorted om tr c
    obtain ⟨t, e1, e2⟩ := bind_some (trapMembers_eq hk n d ks tr ((c / 64 : Nat) : Int) ((c % 64 : Nat) : Int) hm ht (by omega))
    have hnxe : nxT n d ks tr c = (stepN d tr n ((c / 64 : Nat) : Int) ((c % 64 : Nat) : Int)).map fun y => (idOf ks ((c % 64 : Nat) : Int) y).toNat := rfl
    obtain ⟨y0, hy0, hy0e⟩ := List.mem_map.1 (hnxe ▸ hj0)
    have hfind : ((stepN d tr n ((c / 64 : Nat) : Int) ((c % 64 : Nat) : Int)).find? fun z => decide (D.l.getD (idOf ks ((c % 64 : Nat) : Int) z).toNat 0 = v)).isSome := by
      rw [List.find?_isSome]; exact ⟨y0, hy0, by rw [hy0e]; exact decide_eq_true hD0⟩
    obtain ⟨y, hy⟩ := Option.isSome_iff_exists.1 hfind
    obtain ⟨hyv, pre, post, hsplit, hpre⟩ := List.find?_eq_some_iff_append.1 hy
    have hyv : D.l.getD (idOf ks ((c % 64 : Nat) : Int) y).toNat 0 = v := of_decide_eq_true hyv
    rw [hsplit] at hY hsl e2
    have hyr := hY y (List.mem_append_right _ (List.mem_cons_self ..))
    have hid := idOf_range om.keys (s := ((c % 64 : Nat) : Int)) (by omega) hyr
    obtain ⟨j, hj⟩ := Int.eq_ofNat_of_zero_le hid.1
    rw [hj, Int.toNat_natCast] at hyv hid
    have hjm : j ∈ nxT n d ks tr c := by rw [hnxe]; exact List.mem_map.2 ⟨y, by rw [hsplit]; exact List.mem_append_right _ (List.mem_cons_self ..), by rw [hj]; rfl⟩
    have hl1 := lose_l1 (tr := tr) hk om D c hc v (by omega) (by omega) (by rw [hv]; rfl) pre post y hY (fun z hz => by have := hpre z hz; simpa using this) (by rw [hj]; exact hyv) (by omega) pre.length 0 (by omega) k (by rw [List.length_append] at hsl; unfold Big at hk; omega)
    have hbo := (bor_le63 (show 0 ≤ ((c % 64 : Nat) : Int) ∧ ((c % 64 : Nat) : Int) ≤ 63 by omega) (keys_getD om.keys y.toNat)).1
    have hjy : y = ((j / 64 : Nat) : Int) ∧ bor ((c % 64 : Nat) : Int) (ks.getD y.toNat 0) = ((j % 64 : Nat) : Int) := by
      unfold idOf at hj; omega
    rw [hjy.2, hjy.1] at hl1
    obtain ⟨g, t', g1, g2, g3, g4, g5⟩ := ih j hid.2 hyv (by omega) (out ++ [((j / 64 : Nat) : Int)]) (by rw [List.length_append, List.length_singleton]; omega) q (by omega)
    have hb2 : (out ++ [((j / 64 : Nat) : Int)]).length < 1099511627776 := by rw [List.length_append, List.length_singleton]; omega
    refine ⟨j :: g, t', ?_, g2.cons hjm, g3, by rw [List.length_cons, g4], fun p u hp hu hl => ?_⟩
    · rw [impl_FirstToLose.l0]
      rw [hjy.1] at e2
      simp only [if_pos hg3, if_pos hg4, ha2, hgt, decide_true, if_true, e1, e2, Option.bind_some]
      rw [show (0 : Int) = ((0 : Nat) : Int) from rfl, hl1]
      simp only [Option.bind_some, if_pos hb2, g1, List.append_assoc, List.map_cons]
      rfl
    · rcases hp.uncons with ⟨rfl, _⟩ | ⟨b, p', rfl, hb, hsp⟩
      · cases hl
      · rw [List.length_cons] at hl
        have hDb := hval b hb p'.length (by have h := Rp.pth hsp.rp (goal := fun i => !gd i) (w := 0) (.here (by rw [hu]; rfl)); simpa using h) (by omega)
        have hle : j ≤ b := by
          obtain ⟨z, hz, hze⟩ := List.mem_map.1 (hnxe ▸ hb)
          rw [hnxe, hsplit, List.map_append, List.map_cons] at hsorted
          rw [hsplit] at hz
          have hso := (List.pairwise_cons.1 (List.pairwise_append.1 hsorted).2.1).1
          rcases List.mem_append.1 hz with hz | hz
          · have := hpre z hz
            rw [hze, hDb] at this; simp at this
          · rcases List.mem_cons.1 hz with rfl | hz
            · rw [← hze, hj]; simp
            · have := hso b (List.mem_map.2 ⟨z, hz, hze⟩)
              rw [hj, Int.toNat_natCast] at this; omega
        rcases Nat.lt_or_ge j b with h | h
        · exact .inr (.inr ⟨by simp; omega, .inl h⟩)
        · have : j = b := by omega
          subst this
          rcases g5 p' u hsp hu (by omega) with h | h | h
          · exact .inl (by rw [h])
          · omega
          · exact .inr (.inr ⟨by simp; omega, .inr ⟨rfl, h.2⟩⟩)
theorem FirstToLose_both (hk : Big ≤ k) (n : Int) (d : List Door) (ks tr : List Int) (hd : d.length ≤ 1048576) (hks : ks.length ≤ 1048576) (ht : tr.length ≤ 1048576) :
    ∃ r : List Int × Bool, impl_FirstToLose.f k n d ks tr = some r ∧ spec_FirstToLose.f k n d ks tr = some r ∧ r.1.length ≤ 1000 := by
  unfold impl_FirstToLose.f
  rw [IsTrap_eq hk n d ks tr hd hks ht]
  by_cases hT : IsTrapP n d ks tr
  rotate_left 1
  · have e : spec_FirstToLose.f k n d ks tr = some ([], false) := by
      unfold spec_FirstToLose.f
      rw [l11Trap_eq hk n d ks tr hd hks ht, decide_eq_false hT]; rfl
    rw [decide_eq_false hT, e]; exact ⟨([], false), rfl, rfl, by simp⟩
  have hm := hT.1
  have om := hm.okm
  have hlo := om.lo
  have hhi := om.hi
  have hlen := om.len
  have hk0 := keys_getD om.keys 0
  have hr0 : rdl ks 0 = some (ks.getD 0 0) := rdl_getD (i := 0) (by omega) 0
  obtain ⟨D, g1, g2, g3⟩ := toLost_eq hk hm ht
  obtain ⟨r, f1, f2⟩ := FirstToLose_specp hk hT hd hks ht
  obtain ⟨b, hb⟩ := Int.eq_ofNat_of_zero_le hk0.1
  rw [hb] at f1 hr0 hk0
  rw [Int.toNat_natCast] at f1
  have ha : b < n.toNat * 64 := by omega
  have hnx : ∀ i, i < n.toNat * 64 → ∀ j ∈ nxT n d ks tr i, j < n.toNat * 64 := fun i _ => nxT_lt om tr i
  have hg2 : 0 ≤ (b : Int) ∧ (b : Int) < 64 := by omega
  have hat : D.at (0 * 64 + (b : Int)) = D.l.getD b 0 := at_nat D (by omega)
  have hbnd := g2.bnd b
  have hcl := cp_le D.l
  rw [D.len] at hcl
  have hRb : ∀ t v, Rp (nxT n d ks tr) b t v → godB n d ks tr t = false → 0 ≤ D.l.getD b 0 ∧ D.l.getD b 0 ≤ v := fun t v hrp hgt => by
    have h1 := Rp.pth hrp (goal := fun i => !godB n d ks tr i) (.here (by rw [hgt]; rfl))
    exact dist_complete g2 hnx g3 h1 ha
  rw [decide_eq_true hT]
  simp only [Option.bind_some, Bool.not_true, Bool.false_eq_true, if_false, g1, hr0, if_pos hg2, hat, f2]
  by_cases hw : D.l.getD b 0 < 0
  · simp only [hw, decide_true, if_true]
    refine ⟨([], false), rfl, ?_, by simp⟩
    rcases f1 with ⟨rfl, _⟩ | ⟨p, i, rfl, _, e3, e4, _⟩
    · rfl
    · have := hRb i _ e4.rp e3; omega
  · obtain ⟨v, hv⟩ := Int.eq_ofNat_of_zero_le (show 0 ≤ D.l.getD b 0 by omega)
    obtain ⟨g, t, l1, l2, l3, l4, l5⟩ := lose_l0 hk hm ht D (godB n d ks tr) g2 g3 v b ha hv (by omega) [0] (by simp; omega) k (by unfold Big at hk; omega)
    rw [show ((b / 64 : Nat) : Int) = 0 by omega, show ((b % 64 : Nat) : Int) = (b : Int) by omega] at l1
    simp only [hw, decide_false, Bool.false_eq_true, if_false, l1, Option.bind_some]
    rcases f1 with ⟨rfl, e2⟩ | ⟨p, i, rfl, e2, e3, e4, e5⟩
    · rw [e2 t _ l2.rp] at l3; cases l3
    · have h1 := hRb i _ e4.rp e3
      have h2 := e5 g t l2 l3
      have h3 := kle_len h2
      have hpg : p = g := kle_anti h2 (l5 p i e4 e3 (by omega))
      subst hpg
      exact ⟨(0 :: p.map ndOf, true), rfl, rfl, by simp; omega⟩
theorem laws_FnExactFirstToLose.pure (x : Int × List (Int × Int × Int) × List Int × List Int) (h : wfd x) : ∃ k, laws_FnExactFirstToLose.f k x.1 x.2.1 x.2.2.1 x.2.2.2 = some true := by
  refine ⟨Big, ?_⟩
  have hk : Big ≤ Big := Nat.le_refl _
  obtain ⟨n, d, ks, tr⟩ := x
  have h1 : d.length ≤ maxLen := h.2.1.1
  have h2 : ks.length ≤ maxLen := h.2.2.1.1
  have h3 : tr.length ≤ maxLen := h.2.2.2.1
  unfold laws_FnExactFirstToLose.f
  simp only [szTrap_eq n d ks tr _ (by decide : (0 : Int) ≤ 1048576) (Int.le_refl _) h1 h2 h3, Option.bind_some]
  by_cases hc : ((d.length + ks.length + tr.length : Nat) : Int) ≤ 1048576
  · obtain ⟨⟨l, b⟩, e2, e3, hl⟩ := FirstToLose_both hk n d ks tr (by omega) (by omega) (by omega)
    simp only at hl
    have p1 : decide ((1 : Int) + 3 * d.length + ks.length + tr.length < 0) = false := decide_eq_false (by omega)
    have p2 : decide ((1 : Int) + l.length < 0) = false := decide_eq_false (by omega)
    simp only [p1, p2, szo_pos hc, Bool.false_eq_true, if_false, toTrap_eq hk n d ks tr (by omega) (by omega) (by omega), e2, e3, Option.bind_some, eqIntS_eq hk l l (by omega), eqTrap_eq hk n d ks tr n d ks tr (by omega) (by omega) (by omega), markTrap_eq hk n d ks tr 1 (by omega) (by omega) (by omega) (by omega) (by omega),
      markIntS_eq hk l 1 (by omega) (by omega) (by omega), heldIntS_eq hk l.length 1 (by omega) (by omega) (by omega)]
    simp
  · simp only [szo_neg hc, if_true]
end
end Go.Proofs

/- A part of the proof of FnExactNodeCounts: what the functions of the program compute, walked on the model. No condition. -/
import Derived.Test.YtijhomjbcpaknaaFnExactNodeCountsB
import Derived.Test.YtijhomjbcpaknaaFnExactNodeCountsC
import Derived.Test.YtijhomjbcpaknaaFnExactNodeCountsD
set_option linter.unusedSimpArgs false
/- slices.DeleteFunc[[][]int,[]int] -/
namespace Go.Proofs
open Go Go.Ga
set_option linter.unusedVariables false
set_option maxRecDepth 100000
set_option maxHeartbeats 4000000
def slices_DeleteFunc__int__int_sh.l0 (k : Nat) (a1 : ((Sh (Int)) → Option (Bool))) : Nat → (List ((Sh (Int)))) → Int → Int → Option ((List ((Sh (Int)))) × Int)
  | 0, _, _, _ => none
  | n + 1, x0, x5, x6 => (if (decide (x6 < (x0.length : Int))) = true then (rdl x0 x6).bind fun t24 => (a1 t24).bind fun t28 => ((if (!t28) = true then (rdl x0 x5).bind fun t33 => some (x0.set x5.toNat t24, w64 (x5 + 1)) else some (x0, x5))).bind fun (y0, y5) => slices_DeleteFunc__int__int_sh.l0 k a1 n y0 y5 (w64 (x6 + 1)) else some (x0, x5))

def slices_DeleteFunc__int__int_sh.f (k : Nat) (a0 : List (Sh (Int))) (a1 : ((Sh (Int)) → Option (Bool))) : Option ((List (Sh (Int)))) := (slices_IndexFunc__int__int_sh.f k a0 a1).bind fun t10 => (if (t10 == (-1)) = true then some a0 else (slices_DeleteFunc__int__int_sh.l0 k a1 k a0 t10 (w64 (t10 + 1))).bind fun (x0, x5) => (slc x0 x5 (x0.length : Int)).bind fun t38 => (slc (x0.take (x5 : Int).toNat ++ List.replicate (((x0.length : Int) : Int).toNat - (x5 : Int).toNat) (Sh.nil : (Sh (Int))) ++ x0.drop ((x0.length : Int) : Int).toNat) 0 x5).bind fun t41 => some t41)

theorem slices_DeleteFunc__int__int_sh.ok {k : Nat}  {a0 : List (Sh (Int))} {a1 : ((Sh (Int)) → Option (Bool))} {r0 : List (Sh (Int))} (h : slices_DeleteFunc__int__int_sh.f k a0 a1 = some r0) (w : World) {va0 : Value} {Sa0 : Nat → Prop} (hl_va0 : SlLen va0 a0.length) {fi_a1 : FuncId} {ca_a1 : Array Value} (ho_a1 : CallOk Try.prog fi_a1) (hf_a1 : ∀ w2, Kp (footM [R.sl Sa0 va0 a0]) w w2 → ∀ (z0 : Sh (Int)) (y : Bool), a1 z0 = some y → Calls Try.prog fi_a1 (([z0.v] : List Value) ++ ca_a1.toList).toArray w2 (fun e w3 => e = .returned (.bool y) ∧ Ext w2 w3)) (hw0 : Sep w (footM [R.sl Sa0 va0 a0]) [R.sl Sa0 va0 a0] w) :
    Calls Try.prog 110 ([va0, .func (.func fi_a1) #[] ca_a1] : List Value).toArray w (PostM (footM [R.sl Sa0 va0 a0]) (fun u ns => ∃ (Sr0 : Nat → Prop), SlLen u r0.length ∧ ns = [R.sl Sr0 u r0]) w) := by
  unfold slices_DeleteFunc__int__int_sh.f at h
  refine Calls.of_tri (N := 42) Try.func110 rfl rfl rfl hw0 ?_
  refine Tri.seq ?_
  refine Tri.reg (l := [0]) rfl ?_
  refine F.q rfl rfl rfl (wanted_none rfl) (r_assign rfl) ?_
  refine F.nil ?_
  refine Nrm.seq ?_
  refine Tri.seq ?_
  obtain ⟨t10, h10, h⟩ := bind_some h
  refine Tri.reg (l := [0, 1, 2, 3]) rfl ?_
  refine F.q rfl rfl rfl (wanted_none rfl) (r_move rfl) ?_
  refine F.q rfl rfl rfl (wanted_none rfl) (r_move rfl) ?_
  refine F.qc rfl rfl rfl (wanted_none rfl) (q_callF (xs := _) rfl ok146 rfl rfl (fun w hw => slices_IndexFunc__int__int_sh.ok h10 w ((rd_sl (i := 0) rfl) w hw) ho_a1 (fun w2 he2 => hf_a1 w2 (hw.kp.trans (he2.kp _))))) ?_
  refine F.q rfl rfl rfl (wanted_none rfl) (r_assign rfl) ?_
  refine F.nil ?_
  refine Nrm.seq ?_
  refine Tri.seq ?_
  refine Tri.seq ?_
  refine Tri.reg (l := [0, 1]) rfl ?_
  refine F.q rfl rfl rfl (wanted_none rfl) (r_move rfl) ?_
  refine F.q rfl rfl rfl (wanted_none rfl) (r_eql rfl rfl) ?_
  refine F.nil ?_
  refine Nrm.seq ?_
  refine Tri.cond (b := t10 == (-1)) rfl (fun g_1 => ?_) (fun g_1 => ?_)
  · replace h := if_tt g_1 h
    refine Tri.seq ?_
    refine Tri.reg (l := [0, 1]) rfl ?_
    refine F.q rfl rfl rfl (wanted_none rfl) (r_move rfl) ?_
    refine F.q rfl rfl rfl (wanted_none rfl) (r_assign rfl) ?_
    refine F.nil ?_
    refine Nrm.seq ?_
    refine Tri.ret ?_
    refine Rtn.then ?_
    cases h
    exact Rtn.body (.tmp rfl .nil) (fun w hw => ⟨_, _, rfl, ⟨Sa0, hl_va0, rfl⟩, Sep.pick (is := [0]) rfl rfl hw⟩)
  · replace h := if_ff g_1 h
    refine Tri.skip ?_
    refine Nrm.seq ?_
    refine Tri.seq ?_
    refine Tri.seq ?_
    refine Tri.reg (l := [0, 1, 2]) rfl ?_
    refine F.q rfl rfl rfl (wanted_none rfl) (r_move rfl) ?_
    refine F.q rfl rfl rfl (wanted_none rfl) (r_add rfl rfl) ?_
    refine F.q rfl rfl rfl (wanted_none rfl) (r_assign rfl) ?_
    refine F.nil ?_
    refine Nrm.seq ?_
    obtain ⟨⟨x0, x5⟩, hE_1, h⟩ := bind_some h
    refine Tri.block ?_
    refine Tri.only [0, 1, 5, 6] rfl ?_
    refine Tri.pick [0] rfl rfl ?_
    refine Tri.rounds (fun n e' C' => ∃ (x0' : List ((Sh (Int)))) (x5' : Int) (x6' : Int) (w0 : Value) (T0 : Nat → Prop), slices_DeleteFunc__int__int_sh.l0 k a1 n x0' x5' x6' = some (x0, x5) ∧ SlLen w0 (x0').length ∧ e' = [(0, w0), (1, .func (.func fi_a1) #[] ca_a1), (5, .int .i64 x5'), (6, .int .i64 x6')] ∧ C' = Sep w (footM [R.sl Sa0 va0 a0]) [R.sl T0 w0 (x0' : List ((Sh (Int))))]) k ?_ ?_ ?_
    · exact ⟨a0, t10, w64 (t10 + 1), va0, Sa0, hE_1, hl_va0, rfl, rfl⟩
    · rintro _ _ ⟨_, _, _, _, _, hE_1, _⟩
      rw [slices_DeleteFunc__int__int_sh.l0.eq_1] at hE_1; cases hE_1
    · rintro n_1 _ _ ⟨x0, x5, x6, w0, T0, hE_1, hl_w0, rfl, rfl⟩ ih_1
      rw [slices_DeleteFunc__int__int_sh.l0.eq_2] at hE_1
      refine Tri.seq ?_
      refine Tri.seq ?_
      refine Tri.reg (l := [0, 1, 2, 3]) rfl ?_
      refine F.q rfl rfl rfl (wanted_none rfl) (r_move rfl) ?_
      refine F.q rfl rfl rfl (wanted_none rfl) (r_move rfl) ?_
      refine F.q rfl rfl rfl (wanted_none rfl) (r_len Try.underlying95 rfl hl_w0) ?_
      refine F.q rfl rfl rfl (wanted_none rfl) (r_lss rfl rfl) ?_
      refine F.nil ?_
      refine Nrm.seq ?_
      refine Tri.cond (b := decide (x6 < (x0.length : Int))) rfl (fun g_2 => ?_) (fun g_2 => ?_)
      · replace hE_1 := if_tt g_2 hE_1
        refine Tri.skip ?_
        refine Nrm.seq ?_
        refine Tri.seq ?_
        refine Tri.block ?_
        refine Tri.seq ?_
        obtain ⟨t24, h24, hE_1⟩ := bind_some hE_1
        refine Tri.reg (l := [0, 1, 2, 3, 4]) rfl ?_
        refine F.q rfl rfl rfl (wanted_none rfl) (r_move rfl) ?_
        refine F.q rfl rfl rfl (wanted_none rfl) (r_move rfl) ?_
        refine F.q rfl rfl rfl (wanted_none rfl) (r_indexAddrS Try.underlying95 ti23 rfl hl_w0 rfl (rdl_some h24).1 (rdl_some h24).2.1) ?_
        refine F.q rfl rfl rfl (wanted_none rfl) (r_load ta23 rfl (fun w hw => cell_0 (Rd.flat ((rd_sl (i := 0) rfl) w hw) (rdl_some h24).2.2) rfl)) ?_
        refine F.q rfl rfl rfl (wanted_none rfl) (r_assign rfl) ?_
        refine F.nil ?_
        refine Nrm.seq ?_
        refine Tri.seq ?_
        obtain ⟨t28, h28, hE_1⟩ := bind_some hE_1
        refine Tri.reg (l := [0, 1, 2, 3]) rfl ?_
        refine F.q rfl rfl rfl (wanted_none rfl) (r_move rfl) ?_
        refine F.q rfl rfl rfl (wanted_none rfl) (r_move rfl) ?_
        refine F.qc rfl rfl rfl (wanted_none rfl) (q_callC (xs := _) rfl ho_a1 rfl rfl (fun w hw => hf_a1 w hw.kp _  _ h28)) ?_
        refine F.q rfl rfl rfl (wanted_none rfl) (r_not rfl) ?_
        refine F.nil ?_
        refine Nrm.seq ?_
        obtain ⟨⟨y0, y5⟩, hE_2, hE_1⟩ := bind_some hE_1
        refine Tri.cut (fun e' C' => ∃ (v0_1 : Value) (S0_1 : Nat → Prop), SlLen v0_1 (y0).length ∧ e' = [(0, v0_1), (1, .func (.func fi_a1) #[] ca_a1), (5, .int .i64 y5), (6, .int .i64 x6)] ∧ C' = Sep w (footM [R.sl Sa0 va0 a0]) [R.sl S0_1 v0_1 (y0 : List ((Sh (Int))))]) ?_ (fun hj_1 => ?_)
        · rintro _ _ ⟨v0_1, S0_1, hl_v0_1, rfl, rfl⟩
          refine Nrm.block ?_
          refine Nrm.seq ?_
          refine Tri.reg (l := [0, 1, 2]) rfl ?_
          refine F.q rfl rfl rfl (wanted_none rfl) (r_move rfl) ?_
          refine F.q rfl rfl rfl (wanted_none rfl) (r_add rfl rfl) ?_
          refine F.q rfl rfl rfl (wanted_none rfl) (r_assign rfl) ?_
          refine F.nil ?_
          refine Nrm.round ?_
          refine Rnd.only [0, 1, 5, 6] rfl ?_
          refine Rnd.pick [0] rfl rfl ?_
          exact ih_1 _ _ ⟨y0, y5, w64 (x6 + 1), v0_1, S0_1, hE_1, hl_v0_1, rfl, rfl⟩
        · refine Tri.cond (b := !t28) rfl (fun g_3 => ?_) (fun g_3 => ?_)
          · replace hE_2 := if_tt g_3 hE_2
            refine Tri.seq ?_
            obtain ⟨t33, h33, hE_2⟩ := bind_some hE_2
            refine Tri.reg (l := [0, 1, 2, 3, 4]) rfl ?_
            refine F.q rfl rfl rfl (wanted_none rfl) (r_move rfl) ?_
            refine F.q rfl rfl rfl (wanted_none rfl) (r_move rfl) ?_
            refine F.q rfl rfl rfl (wanted_none rfl) (r_move rfl) ?_
            refine F.q rfl rfl rfl (wanted_none rfl) (r_indexAddrS Try.underlying95 ti23 rfl hl_w0 rfl (rdl_some h33).1 (rdl_some h33).2.1) ?_
            refine F.ef0 rfl rfl (wanted_none rfl) (d_storeE (i := 0) (x1 := t24) ti23 rfl rfl rfl (rdl_some h33) (Sh.cells_enc _)) ?_
            rintro _ _ ⟨rfl, rfl⟩
            refine F.nil ?_
            refine Nrm.seq ?_
            refine Tri.reg (l := [0, 1, 2]) rfl ?_
            refine F.q rfl rfl rfl (wanted_none rfl) (r_move rfl) ?_
            refine F.q rfl rfl rfl (wanted_none rfl) (r_add rfl rfl) ?_
            refine F.q rfl rfl rfl (wanted_none rfl) (r_assign rfl) ?_
            refine F.nil ?_
            cases hE_2
            refine Nrm.only [0, 1, 5, 6] rfl ?_
            refine Nrm.pick [0] rfl rfl ?_
            exact hj_1 _ _ ⟨w0, T0, (len_set hl_w0), rfl, rfl⟩
          · replace hE_2 := if_ff g_3 hE_2
            refine Tri.skip ?_
            cases hE_2
            refine Nrm.only [0, 1, 5, 6] rfl ?_
            refine Nrm.pick [0] rfl rfl ?_
            exact hj_1 _ _ ⟨w0, T0, hl_w0, rfl, rfl⟩
      · replace hE_1 := if_ff g_2 hE_1
        refine Tri.exit ?_
        refine Exi.then ?_
        refine Exi.then ?_
        refine Exi.same ?_
        cases hE_1
        refine Nrm.seq ?_
        refine Tri.seq ?_
        obtain ⟨t38, h38, h⟩ := bind_some h
        refine Tri.reg (l := [0, 1, 2, 3]) rfl ?_
        refine F.q rfl rfl rfl (wanted_none rfl) (r_move rfl) ?_
        refine F.q rfl rfl rfl (wanted_none rfl) (r_move rfl) ?_
        refine F.q rfl rfl rfl (wanted_none rfl) (r_sliceL Try.underlying95 ti23 rfl (rd_sl (i := 0) rfl) rfl h38) ?_
        refine F.ef0 rfl rfl (wanted_none rfl) (d_clear (i := 0) (x0 := (Sh.nil : (Sh (Int)))) Try.underlying95 ti23 rfl rfl rfl h38) ?_
        rintro _ _ rfl
        refine F.nil ?_
        refine Nrm.seq ?_
        refine Tri.seq ?_
        obtain ⟨t41, h41, h⟩ := bind_some h
        refine Tri.reg (l := [0, 1, 2, 3]) rfl ?_
        refine F.q rfl rfl rfl (wanted_none rfl) (r_move rfl) ?_
        refine F.q rfl rfl rfl (wanted_none rfl) (r_move rfl) ?_
        refine F.q rfl rfl rfl (wanted_none rfl) (r_sliceH Try.underlying95 ti23 rfl (rd_sl (i := 0) rfl) rfl h41) ?_
        refine F.q rfl rfl rfl (wanted_none rfl) (r_assign rfl) ?_
        refine F.nil ?_
        refine Nrm.imp (fun w hw => Sep.resl (i := 0) rfl h41 hw) ?_
        refine Nrm.seq ?_
        refine Tri.ret ?_
        cases h
        exact Rtn.body (.tmp rfl .nil) (fun w hw => ⟨_, _, rfl, ⟨T0, (slc_len (clr_len hl_w0 (slc_b h38).1 (slc_b h38).2) h41), rfl⟩, Sep.pick (is := [0]) rfl rfl hw⟩)

end Go.Proofs

/- slices.DeleteFunc[[][]int,[]int] -/
namespace Go.Proofs
open Go Go.Ga
set_option linter.unusedVariables false
set_option maxRecDepth 100000
set_option maxHeartbeats 4000000
theorem slices_IndexFunc__int__int_sh_eq {k : Nat} (hk : Big ≤ k) (l : List (Sh (Int))) (hl : l.length ≤ 1048576) (f : Sh (Int) → Option Bool) (p : Sh (Int) → Bool) (hf : ∀ t ∈ l, f t = some (p t)) :
    ∃ r, slices_IndexFunc__int__int_sh.f k l f = some r ∧ ((r = -1 ∧ ∀ t ∈ l, p t = false) ∨ ∃ m : Nat, r = (m : Int) ∧ m < l.length ∧ (l.take m).filter (fun t => !p t) = l.take m ∧ ∀ h : m < l.length, p l[m] = true) := by
  unfold slices_IndexFunc__int__int_sh.f
  have := lp_good (l := fun q (i : Nat) => slices_IndexFunc__int__int_sh.l0 k l f q (i : Int)) (fun i => i ≤ l.length ∧ ∀ j (h : j < l.length), j < i → p l[j] = false) (fun i => l.length - i)
    (fun r => (r = .inl () ∧ ∀ t ∈ l, p t = false) ∨ ∃ m : Nat, r = .inr (m : Int) ∧ m < l.length ∧ (l.take m).filter (fun t => !p t) = l.take m ∧ ∀ h : m < l.length, p l[m] = true) (fun q i hI => by
      obtain ⟨h1, h2⟩ := hI
      by_cases hi : i < l.length
      · have hlt : ((i : Int) < (l.length : Int)) := by omega
        have hw : w64 ((i : Int) + 1) = ((i + 1 : Nat) : Int) := w64_id (by omega) (by omega)
        rw [slices_IndexFunc__int__int_sh.l0]
        simp only [hlt, decide_true, if_true, rdl_lt hi, Option.bind_some, hw, hf _ (List.getElem_mem hi)]
        cases c : p l[i] with
        | true =>
          right
          refine ⟨.inr (i : Int), by simp, .inr ⟨i, rfl, hi, ?_, fun _ => c⟩⟩
          rw [List.filter_eq_self]
          intro t ht
          obtain ⟨j, hj, rfl⟩ := List.getElem_of_mem ht
          rw [List.length_take] at hj
          rw [List.getElem_take, h2 j (by omega) (by omega)]; rfl
        | false =>
          left
          refine ⟨i + 1, by simp, ⟨by omega, fun j h hj => ?_⟩, by omega⟩
          rcases Nat.eq_or_lt_of_le (Nat.le_of_lt_succ hj) with rfl | h'
          · exact c
          · exact h2 j h h'
      · right
        have : ¬ ((i : Int) < (l.length : Int)) := by omega
        rw [slices_IndexFunc__int__int_sh.l0]
        refine ⟨.inl (), by simp [this], .inl ⟨rfl, fun t ht => ?_⟩⟩
        obtain ⟨j, hj, rfl⟩ := List.getElem_of_mem ht
        exact h2 j hj (by omega)) k 0 (by unfold Big at hk; omega) ⟨by omega, fun j _ h => by omega⟩
  obtain ⟨r, h1, h2⟩ := this
  rw [show ((0 : Nat) : Int) = 0 from rfl] at h1
  rw [h1, Option.bind_some]
  rcases h2 with ⟨rfl, h2⟩ | ⟨m, rfl, h2⟩
  · exact ⟨-1, rfl, .inl ⟨rfl, h2⟩⟩
  · exact ⟨m, rfl, .inr ⟨m, rfl, h2⟩⟩
theorem slices_DeleteFunc__int__int_sh_eq {k : Nat} (hk : Big ≤ k) (l : List (Sh (Int))) (hl : l.length ≤ 1048576) (f : Sh (Int) → Option Bool) (p : Sh (Int) → Bool) (hf : ∀ t ∈ l, f t = some (p t)) :
    slices_DeleteFunc__int__int_sh.f k l f = some (l.filter fun t => !p t) := by
  unfold slices_DeleteFunc__int__int_sh.f
  obtain ⟨r, h1, h2⟩ := slices_IndexFunc__int__int_sh_eq hk l hl f p hf
  rw [h1, Option.bind_some]
  rcases h2 with ⟨rfl, h2⟩ | ⟨m, rfl, h2, h3, h4⟩
  · rw [if_pos (by decide)]
    congr 1
    symm; rw [List.filter_eq_self]
    intro t ht; rw [h2 t ht]; rfl
  have hne : ¬ ((m : Int) == -1) = true := by rw [beq_iff_eq]; omega
  rw [if_neg hne, show w64 ((m : Int) + 1) = ((m + 1 : Nat) : Int) from w64_id (by omega) (by omega)]
  have htk : ∀ i (hi : i < l.length), l.take (i + 1) = l.take i ++ [l[i]] := fun i hi => by rw [List.take_add_one, List.getElem?_eq_getElem hi]; rfl
  have := lp_good (l := fun q (s : List (Sh (Int)) × Nat × Nat) => slices_DeleteFunc__int__int_sh.l0 k f q s.1 (s.2.1 : Int) (s.2.2 : Int))
    (fun s => s.1.length = l.length ∧ s.2.1 < s.2.2 ∧ s.2.2 ≤ l.length ∧ s.1.take s.2.1 = (l.take s.2.2).filter (fun t => !p t) ∧ ∀ j, s.2.2 ≤ j → s.1[j]? = l[j]?) (fun s => l.length - s.2.2)
    (fun r => ∃ c : Nat, r.2 = (c : Int) ∧ c ≤ l.length ∧ r.1.length = l.length ∧ r.1.take c = l.filter (fun t => !p t)) (fun q ⟨x, c, i⟩ hI => by
      obtain ⟨e1, e2, e3, e4, e5⟩ := hI
      simp only at e1 e2 e3 e4 e5
      simp only
      rw [slices_DeleteFunc__int__int_sh.l0]
      by_cases hi : i < l.length
      · left
        have hlt : ((i : Int) < (x.length : Int)) := by omega
        have hw : w64 ((i : Int) + 1) = ((i + 1 : Nat) : Int) := w64_id (by omega) (by omega)
        have hwc : w64 ((c : Int) + 1) = ((c + 1 : Nat) : Int) := w64_id (by omega) (by omega)
        have hxi : rdl x (i : Int) = some l[i] := by rw [rdl_nat, e5 i (Nat.le_refl _), List.getElem?_eq_getElem hi]
        simp only [hlt, decide_true, if_true, hxi, Option.bind_some, hw, hf _ (List.getElem_mem hi), rdl_lt (show c < x.length by omega), hwc, Int.toNat_natCast]
        cases hp : p l[i] with
        | true =>
          refine ⟨(x, c, i + 1), by simp, ⟨e1, by simp only; omega, by simp only; omega, ?_, fun j hj => e5 j (by simp only at hj; omega)⟩, by simp only; omega⟩
          simp only
          rw [htk i hi, List.filter_append, e4]; simp [hp]
        | false =>
          refine ⟨(x.set c l[i], c + 1, i + 1), by simp, ⟨by simp only [List.length_set]; exact e1, by simp only; omega, by simp only; omega, ?_, fun j hj => ?_⟩, by simp only; omega⟩
          · simp only
            rw [htk i hi, List.filter_append, ← e4, List.take_add_one, List.getElem?_set_self (by omega), List.take_set_of_le (Nat.le_refl _)]
            simp [hp]
          · simp only at hj ⊢
            rw [List.getElem?_set_ne (by omega)]; exact e5 j (by omega)
      · right
        have hlt : ¬ ((i : Int) < (x.length : Int)) := by omega
        refine ⟨(x, (c : Int)), by simp [hlt], c, rfl, by omega, e1, ?_⟩
        rw [e4, List.take_of_length_le (by omega)]) k (l, m, m + 1) (by simp only; unfold Big at hk; omega) ⟨rfl, by simp only; omega, by simp only; omega, by
          simp only
          rw [htk m h2, List.filter_append, h3]; simp [h4 h2], fun j _ => rfl⟩
  obtain ⟨⟨x, c'⟩, g1, c, g2, g3, g4, g5⟩ := this
  simp only at g1 g2 g4 g5
  subst g2
  rw [g1, Option.bind_some]
  simp only
  rw [lp_suf x c (by omega), Option.bind_some, lp_pre _ c (by simp; omega), Option.bind_some]
  congr 1
  rw [Int.toNat_natCast, List.append_assoc, List.take_append_of_le_length (by simp; omega), List.take_take, Nat.min_self, g5]

def slices_DeleteFunc__int__int.f (k : Nat) (a0 : List (List (Int))) (a1 : List (Int) → Option Bool) : Option (List (List (Int))) := if a0.length ≤ 1048576 ∧ (a0.all fun x => (a1 x).isSome) = true then some (a0.filter fun x => !((a1 x).getD false)) else none

theorem slices_DeleteFunc__int__int.ok {k : Nat} {a0 : List (List (Int))} {a1 : (List (Int) → Option (Bool))} {r0 : List (List (Int))} (h : slices_DeleteFunc__int__int.f k a0 a1 = some r0) (w : World) {va0 : Value} {Sa0 : Nat → Prop} (hl_va0 : SlLen va0 a0.length) {fi_a1 : FuncId} {ca_a1 : Array Value} (ho_a1 : CallOk Try.prog fi_a1) (hf_a1 : ∀ w2, Kp (footM [R.sl Sa0 va0 a0]) w w2 → ∀ (z0 : List (Int)) (zv0 : Value) (_ : Rd w2 zv0 z0) (y : Bool), a1 z0 = some y → Calls Try.prog fi_a1 (([zv0] : List Value) ++ ca_a1.toList).toArray w2 (fun e w3 => e = .returned (.bool y) ∧ Ext w2 w3)) (hw0 : Sep w (footM [R.sl Sa0 va0 a0]) [R.sl Sa0 va0 a0] w) :
    Calls Try.prog 110 ([va0, .func (.func fi_a1) #[] ca_a1] : List Value).toArray w (PostM (footM [R.sl Sa0 va0 a0]) (fun u ns => ∃ (Sr0 : Nat → Prop), SlLen u r0.length ∧ ns = [R.sl Sr0 u r0]) w) := by
  unfold slices_DeleteFunc__int__int.f at h
  split at h
  rotate_left 1
  · cases h
  rename_i hc
  cases h
  obtain ⟨ls, S1, S2, e0, hs⟩ := Sep.shSplit (rest := []) hw0
  have hll : ls.length = a0.length := by rw [← e0, List.length_map]
  have hsome : ∀ s ∈ ls, (a1 s.c).isSome = true := fun s hs' => List.all_eq_true.1 hc.2 s.c (by rw [← e0]; exact List.mem_map_of_mem hs')
  have hin : ∀ s : Sh (Int), Decidable (s ∈ ls) := fun s => Classical.propDecidable _
  have hg := slices_DeleteFunc__int__int_sh_eq (k := Big) (Nat.le_refl _) ls (by omega) (fun s => match hin s with | isTrue _ => a1 s.c | isFalse _ => none) (fun s => (a1 s.c).getD false) (fun s hs' => by
    try simp only
    cases hin s with
    | isFalse h => exact absurd hs' h
    | isTrue h =>
      try simp only
      obtain ⟨b, hb⟩ := Option.isSome_iff_exists.1 (hsome s hs')
      rw [hb]; rfl)
  have hsub : Sep w (footM [R.sl S1 va0 ls]) [R.sl S1 va0 ls] w := Sep.sub (cs := [R.sl S1 va0 ls]) (rest := [R.rows S2 ls]) hs
  have hft : ∀ b, b < w.heap.size → footM [R.sl S1 va0 ls] b → footM [R.sl Sa0 va0 a0] b := fun b hb ⟨r, hr, h1⟩ => by
    have := (hs.foot r (by rw [List.mem_singleton.1 hr]; exact List.mem_cons_self ..) b h1).1
    rcases this with h2 | h2
    · exact h2
    · omega
  refine (slices_DeleteFunc__int__int_sh.ok hg w (by rw [hll]; exact hl_va0) ho_a1 (fun w2 hk z0 y hy => ?_) hsub).mono ?_
  · try simp only at hy
    cases hin z0 with
    | isFalse h => rw [show hin z0 = isFalse h from Subsingleton.elim _ _] at hy; cases hy
    | isTrue h =>
      rw [show hin z0 = isTrue h from Subsingleton.elim _ _] at hy
      try simp only at hy
      have hrw : Ga.Rows w S2 ls := hs.ok (R.rows S2 ls) (List.mem_cons_of_mem _ (List.mem_cons_self ..))
      have hap := List.pairwise_cons.1 hs.apart
      have hrw2 : Ga.Rows w2 S2 ls := hrw.st fun b hb => hk.block b (hs.foot (R.rows S2 ls) (List.mem_cons_of_mem _ (List.mem_cons_self ..)) b hb).2 (fun ⟨r, hr, h1⟩ => hap.1 (R.rows S2 ls) (List.mem_cons_self ..) b (by rw [List.mem_singleton.1 hr] at h1; exact h1) hb)
      obtain ⟨S3, _, h3⟩ := hrw2.get h
      exact hf_a1 w2 (hk.mono hft) z0.c z0.v (SlOwn.rd h3) y hy
  · rintro e w' ⟨u, ns, rfl, ⟨Sr, hlr, rfl⟩, hsep⟩
    have hb : Sep w (footM [R.sl Sa0 va0 a0]) ([R.sl Sr u (ls.filter fun t => !((a1 t.c).getD false))] ++ [R.rows S2 ls]) w' := hs.back (cs := [R.sl S1 va0 ls]) (rest := [R.rows S2 ls]) hsep
    have hj := Sep.shJoin (rest := []) hb (List.filter_sublist ..)
    have hm : (ls.filter fun t => !((a1 t.c).getD false)).map Sh.c = a0.filter fun x => !((a1 x).getD false) := by
      rw [← e0, List.filter_map]; rfl
    rw [hm] at hj
    exact ⟨u, _, rfl, ⟨_, by rw [← hm, List.length_map]; exact hlr, rfl⟩, hj⟩

end Go.Proofs

/- slices.Clone[[]int,int] -/

namespace Go.Proofs
open Go Go.Ga
set_option linter.unusedVariables false
set_option maxRecDepth 100000
set_option maxHeartbeats 4000000
def slices_Clone_int_int.f (k : Nat) (a0 : List Int) : Option ((List Int)) := if (([] : List (Int)) ++ a0).length < 1099511627776 then some (([] : List (Int)) ++ a0) else none

theorem slices_Clone_int_int.ok {k : Nat}  {a0 : List Int} {r0 : List Int} (h : slices_Clone_int_int.f k a0 = some r0) (w : World) {va0 : Value} (hr_a0 : Rd w va0 a0) :
    Calls Try.prog 105 ([va0] : List Value).toArray w (Post (fun u ns => ∃ (Sr0 : Nat → Prop), SlLen u r0.length ∧ ns = [R.sl Sr0 u r0]) w) := by
  unfold slices_Clone_int_int.f at h
  have hl_va0 := hr_a0.len
  rcases Rd.cases hr_a0 with ⟨rfl, rfl⟩ | ⟨pa0, ca0, rfl⟩
  · replace h : some [] = some r0 := by simpa using h
    refine Calls.of_tri (N := 8) Try.func105 rfl rfl rfl (Sep.nil (M := noM)) ?_
    refine Tri.seq ?_
    refine Tri.reg (l := [0]) rfl ?_
    refine F.q rfl rfl rfl (wanted_none rfl) (r_assign rfl) ?_
    refine F.nil ?_
    refine Nrm.seq ?_
    refine Tri.seq ?_
    refine Tri.seq ?_
    refine Tri.reg (l := [0, 1]) rfl ?_
    refine F.q rfl rfl rfl (wanted_none rfl) (r_move rfl) ?_
    refine F.q rfl rfl rfl (wanted_none rfl) (r_eqlNN Try.underlying23 rfl rfl) ?_
    refine F.nil ?_
    refine Nrm.seq ?_
    refine Tri.condT rfl rfl ?_
    refine Tri.seq ?_
    refine Tri.reg (l := [0]) rfl ?_
    refine F.q rfl rfl rfl (wanted_none rfl) (r_assign rfl) ?_
    refine F.nil ?_
    refine Nrm.seq ?_
    refine Tri.ret ?_
    refine Rtn.then ?_
    cases h
    exact Rtn.body (.tmp rfl .nil) (fun w hw => ⟨_, _, rfl, ⟨fun _ => False, len_nil, rfl⟩, Sep.pick (is := [0]) rfl rfl hw.pushNil⟩)
  · refine Calls.of_tri (N := 8) Try.func105 rfl rfl rfl (Sep.nil (M := noM)) ?_
    refine Tri.seq ?_
    refine Tri.reg (l := [0]) rfl ?_
    refine F.q rfl rfl rfl (wanted_none rfl) (r_assign rfl) ?_
    refine F.nil ?_
    refine Nrm.seq ?_
    refine Tri.seq ?_
    refine Tri.seq ?_
    refine Tri.reg (l := [0, 1]) rfl ?_
    refine F.q rfl rfl rfl (wanted_none rfl) (r_move rfl) ?_
    refine F.q rfl rfl rfl (wanted_none rfl) (r_eqlN Try.underlying23 rfl rfl ⟨_, _, rfl⟩) ?_
    refine F.nil ?_
    refine Nrm.seq ?_
    refine Tri.condF rfl rfl ?_
    refine Tri.skip ?_
    refine Nrm.seq ?_
    refine Tri.seq ?_
    obtain ⟨hs7, h⟩ := ck h
    refine Tri.reg (l := [0, 1, 2, 3]) rfl ?_
    refine F.m rfl rfl rfl (wanted_none rfl) (m_build0 (α := Int) Try.underlying23 ti3) ?_
    rintro v5_1 _ ⟨S5_1, hl_v5_1, rfl⟩
    refine F.q rfl rfl rfl (wanted_none rfl) (r_move rfl) ?_
    refine F.ef rfl rfl rfl (wanted_none rfl) (d_append (i := 0) Try.underlying23 Try.underlying23 ti3 rfl (by decide) rfl rfl rfl (fun _ hw => hr_a0.sep hw) hs7) ?_
    rintro v7_1 _ ⟨S7_1, rfl, hl_v7_1⟩
    refine F.q rfl rfl rfl (wanted_none rfl) (r_assign rfl) ?_
    refine F.nil ?_
    refine Nrm.seq ?_
    refine Tri.ret ?_
    cases h
    exact Rtn.body (.tmp rfl .nil) (fun w hw => ⟨_, _, rfl, ⟨S7_1, hl_v7_1, rfl⟩, Sep.pick (is := [0]) rfl rfl hw⟩)

end Go.Proofs

/- loop.example/g01158/impl.fillings -/
namespace Go.Proofs
open Go Go.Ga
set_option linter.unusedVariables false
set_option maxRecDepth 100000
set_option maxHeartbeats 4000000
def impl_fillings.l2 (k : Nat) (a0_0 : Int) (t22 : List Int) : Nat → (List (List Int)) → Int → Option ((List (List Int)))
  | 0, _, _ => none
  | n + 1, x6r, x26 => (if (decide (x26 < a0_0)) = true then (slices_Clone_int_int.f k t22).bind fun t31 => if (t31 ++ ([x26] : List (Int))).length < 1099511627776 then if ((x6r : List (List Int)) ++ ([t31 ++ ([x26] : List (Int))] : List (List Int))).length < 1099511627776 then impl_fillings.l2 k a0_0 t22 n ((x6r : List (List Int)) ++ ([t31 ++ ([x26] : List (Int))] : List (List Int))) (w64 (x26 + 1)) else none else none else some x6r)

def impl_fillings.l1 (k : Nat) (a0_0 : Int) (x5 : List (List Int)) : Nat → (List (List Int)) → (List (List Int)) → Int → Option ((List (List Int)))
  | 0, _, _, _ => none
  | n + 1, x6, x18, x20 => (if (decide (x20 < (x5.length : Int))) = true then (rdl (x18 : List (List Int)) x20).bind fun t22 => (impl_fillings.l2 k a0_0 t22 k x6 0).bind fun x6r => impl_fillings.l1 k a0_0 x5 n x6r ((x18 : List (List Int)).set (x20).toNat t22) (w64 (x20 + 1)) else some x6)

def impl_fillings.l0 (k : Nat) (a0_0 : Int) (t13 : List Int) : Nat → (List (List Int)) → Int → Option ((List (List Int)))
  | 0, _, _ => none
  | n + 1, x5, x15 => (if (decide (x15 < (t13.length : Int))) = true then (impl_fillings.l1 k a0_0 x5 k ([] : List (List Int)) x5 0).bind fun x6 => impl_fillings.l0 k a0_0 t13 n x6 (w64 (x15 + 1)) else some x5)

def impl_fillings.f (k : Nat) (a0_0 : Int) (a0_1 : List (Int × Int × Int)) (a0_2 : List Int) (a1 : Int) : Option ((List (List Int))) := (impl_members.f k a1).bind fun t13 => (impl_fillings.l0 k a0_0 t13 k ([([] : List (Int))] : List (List Int)) 0).bind fun x5 => some x5

theorem impl_fillings.ok {k : Nat}  {a0_0 : Int} {a0_1 : List (Int × Int × Int)} {a0_2 : List Int} {a1 : Int} {r0 : List (List Int)} (h : impl_fillings.f k a0_0 a0_1 a0_2 a1 = some r0) (w : World) {va0_1 : Value} {va0_2 : Value} (hr_a0_1 : Rd w va0_1 a0_1) (hr_a0_2 : Rd w va0_2 a0_2) :
    Calls Try.prog 111 ([.agg ([.int .i64 a0_0, va0_1, va0_2].toArray), .int .i64 a1] : List Value).toArray w (Post (fun u ns => ∃ (Sr0 : Nat → Prop), SlLen u r0.length ∧ ns = [R.sl Sr0 u r0]) w) := by
  unfold impl_fillings.f at h
  have hl_va0_1 := hr_a0_1.len
  have hl_va0_2 := hr_a0_2.len
  refine Calls.of_tri (N := 42) Try.func111 rfl rfl rfl (Sep.nil (M := noM)) ?_
  refine Tri.seq ?_
  refine Tri.reg (l := [0, 1]) rfl ?_
  refine F.m rfl rfl rfl (wanted_none rfl) (m_boxG rfl rfl) ?_
  rintro _ _ ⟨b2_1, rfl, rfl⟩
  refine F.q rfl rfl rfl (wanted_none rfl) (r_assign rfl) ?_
  refine F.nil ?_
  refine Nrm.seq ?_
  refine Tri.seq ?_
  refine Tri.reg (l := [0, 1, 2]) rfl ?_
  refine F.m rfl rfl rfl (wanted_none rfl) (m_build0 (α := Int) Try.underlying23 ti3) ?_
  rintro v10_1 _ ⟨S10_1, hl_v10_1, rfl⟩
  refine F.ef rfl rfl rfl (wanted_none rfl) (d_build1 (cells := [v10_1]) (x0 := (([] : List (Int)) : List Int)) (cs := [R.sl S10_1 v10_1 (([] : List (Int)) : List (Int))]) (rest := [R.box b2_1 31 [.int .i64 a0_0, va0_1, va0_2]]) [0] [1] Try.underlying95 ti23 rfl (sl_cells hl_v10_1) rfl (lf_cons (sl_leaf hl_v10_1) lf_nil) rfl rfl (jn_sl (S := S10_1) (v := v10_1) (l := (([] : List (Int)) : List (Int))))) ?_
  rintro v11_1 _ ⟨S11_1, hl_v11_1, rfl⟩
  refine F.q rfl rfl rfl (wanted_none rfl) (r_assign rfl) ?_
  refine F.nil ?_
  refine Nrm.seq ?_
  refine Tri.seq ?_
  refine Tri.seq ?_
  obtain ⟨t13, h13, h⟩ := bind_some h
  refine Tri.reg (l := [0, 1, 2, 3]) rfl ?_
  refine F.q rfl rfl rfl (wanted_none rfl) (r_move rfl) ?_
  refine F.m rfl rfl rfl (wanted_none rfl) (m_callF (xs := _) rfl ok68 rfl rfl (fun w hw => impl_members.ok h13 w )) ?_
  rintro v13_1 _ ⟨_, ⟨S13_1, hl_v13_1, rfl⟩, rfl⟩
  refine F.q rfl rfl rfl (wanted_none rfl) (r_len Try.underlying23 rfl hl_v13_1) ?_
  refine F.q rfl rfl rfl (wanted_none rfl) (r_move rfl) ?_
  refine F.nil ?_
  refine Nrm.seq ?_
  obtain ⟨x5, hE_1, h⟩ := bind_some h
  refine Tri.block ?_
  refine Tri.only [2, 5, 14, 15] rfl ?_
  refine Tri.pick [2, 1] rfl rfl ?_
  refine Tri.rounds (fun n e' C' => ∃ (x5' : List (List Int)) (x15' : Int) (w5 : Value) (T5 : Nat → Prop), impl_fillings.l0 k a0_0 t13 n x5' x15' = some x5 ∧ SlLen w5 (x5').length ∧ e' = [(2, .pointer (some ⟨b2_1, 0, none⟩)), (5, w5), (14, .int .i64 (t13.length : Int)), (15, .int .i64 x15')] ∧ C' = Sep w noM [R.box b2_1 31 [.int .i64 a0_0, va0_1, va0_2], R.sl T5 w5 (x5' : List (List Int))]) k ?_ ?_ ?_
  · exact ⟨([([] : List (Int))] : List (List Int)), 0, v11_1, S11_1, hE_1, hl_v11_1, rfl, rfl⟩
  · rintro _ _ ⟨_, _, _, _, hE_1, _⟩
    rw [impl_fillings.l0.eq_1] at hE_1; cases hE_1
  · rintro n_1 _ _ ⟨x5, x15, w5, T5, hE_1, hl_w5, rfl, rfl⟩ ih_1
    rw [impl_fillings.l0.eq_2] at hE_1
    refine Tri.seq ?_
    refine Tri.reg (l := [0]) rfl ?_
    refine F.q rfl rfl rfl (wanted_none rfl) (r_lss rfl rfl) ?_
    refine F.nil ?_
    refine Nrm.seq ?_
    refine Tri.seq ?_
    refine Tri.cond (b := decide (x15 < (t13.length : Int))) rfl (fun g_1 => ?_) (fun g_1 => ?_)
    · replace hE_1 := if_tt g_1 hE_1
      refine Tri.skip ?_
      refine Nrm.seq ?_
      refine Tri.seq ?_
      refine Tri.block ?_
      refine Tri.seq ?_
      refine Tri.reg (l := [0, 1]) rfl ?_
      refine F.m rfl rfl rfl (wanted_none rfl) (m_build0 (α := List Int) Try.underlying95 ti23) ?_
      rintro v17_1 _ ⟨S17_1, hl_v17_1, rfl⟩
      refine F.q rfl rfl rfl (wanted_none rfl) (r_assign rfl) ?_
      refine F.nil ?_
      refine Nrm.seq ?_
      refine Tri.seq ?_
      refine Tri.seq ?_
      refine Tri.reg (l := [0, 1, 2]) rfl ?_
      refine F.q rfl rfl rfl (wanted_none rfl) (r_move rfl) ?_
      refine F.q rfl rfl rfl (wanted_none rfl) (r_len Try.underlying95 rfl hl_w5) ?_
      refine F.q rfl rfl rfl (wanted_none rfl) (r_move rfl) ?_
      refine F.nil ?_
      refine Nrm.seq ?_
      obtain ⟨x6, hE_2, hE_1⟩ := bind_some hE_1
      refine Tri.block ?_
      refine Tri.only [2, 6, 14, 15, 18, 19, 20] rfl ?_
      refine Tri.pick [1, 0, 2] rfl rfl ?_
      refine Tri.rounds (fun n e' C' => ∃ (x6' : List (List Int)) (x18' : List (List Int)) (x20' : Int) (w6 : Value) (T6 : Nat → Prop), impl_fillings.l1 k a0_0 x5 n x6' x18' x20' = some x6 ∧ SlLen w6 (x6').length ∧ SlLen w5 (x18').length ∧ e' = [(2, .pointer (some ⟨b2_1, 0, none⟩)), (6, w6), (14, .int .i64 (t13.length : Int)), (15, .int .i64 x15), (18, w5), (19, .int .i64 (x5.length : Int)), (20, .int .i64 x20')] ∧ C' = Sep w noM [R.box b2_1 31 [.int .i64 a0_0, va0_1, va0_2], R.sl T6 w6 (x6' : List (List Int)), R.sl T5 w5 (x18' : List (List Int))]) k ?_ ?_ ?_
      · exact ⟨([] : List (List Int)), x5, 0, v17_1, S17_1, hE_2, hl_v17_1, hl_w5, rfl, rfl⟩
      · rintro _ _ ⟨_, _, _, _, _, hE_2, _⟩
        rw [impl_fillings.l1.eq_1] at hE_2; cases hE_2
      · rintro n_2 _ _ ⟨x6, x18, x20, w6, T6, hE_2, hl_w6, hl_x18, rfl, rfl⟩ ih_2
        rw [impl_fillings.l1.eq_2] at hE_2
        refine Tri.seq ?_
        refine Tri.reg (l := [0]) rfl ?_
        refine F.q rfl rfl rfl (wanted_none rfl) (r_lss rfl rfl) ?_
        refine F.nil ?_
        refine Nrm.seq ?_
        refine Tri.seq ?_
        refine Tri.cond (b := decide (x20 < (x5.length : Int))) rfl (fun g_2 => ?_) (fun g_2 => ?_)
        · replace hE_2 := if_tt g_2 hE_2
          refine Tri.skip ?_
          refine Nrm.seq ?_
          refine Tri.seq ?_
          refine Tri.block ?_
          refine Tri.seq ?_
          obtain ⟨t22, h22, hE_2⟩ := bind_some hE_2
          refine Tri.ex (on23 [2] [0, 1] rfl rfl (rdl_some h22).2.2) ?_
          rintro _ ⟨v22_0_1, S22_0_1, Sr22_1, hl_v22_0_1, hS22_1, rfl⟩
          refine Tri.reg (l := [0, 1, 2]) rfl ?_
          refine F.q rfl rfl rfl (wanted_none rfl) (r_indexAddrS Try.underlying95 ti23 rfl hl_x18 rfl (rdl_some h22).1 (rdl_some h22).2.1) ?_
          refine F.q rfl rfl rfl (wanted_none rfl) (r_load ta23 rfl (fun w hw => cell_0 (hole_cells (p := 1) rfl w hw) rfl)) ?_
          refine F.q rfl rfl rfl (wanted_none rfl) (r_assign rfl) ?_
          refine F.nil ?_
          refine Nrm.seq ?_
          refine Tri.seq ?_
          refine Tri.reg (l := [0, 1, 2]) rfl ?_
          refine F.q rfl rfl rfl (wanted_none rfl) (r_fieldAddr tf31_0 rfl) ?_
          refine F.q rfl rfl rfl (wanted_none rfl) (r_load ta3 rfl (fun w hw => cell_1 (box_cells (i := 2) rfl w hw) rfl)) ?_
          refine F.q rfl rfl rfl (wanted_none rfl) (r_move rfl) ?_
          refine F.nil ?_
          refine Nrm.seq ?_
          obtain ⟨x6r, hE_3, hE_2⟩ := bind_some hE_2
          refine Tri.block ?_
          refine Tri.only [2, 6, 8, 14, 15, 18, 19, 20, 25, 26] rfl ?_
          refine Tri.pick [1, 2, 0, 3] rfl rfl ?_
          refine Tri.rounds (fun n e' C' => ∃ (x6r' : List (List Int)) (x26' : Int) (w6r : Value) (T6r : Nat → Prop), impl_fillings.l2 k a0_0 t22 n x6r' x26' = some x6r ∧ SlLen w6r (x6r').length ∧ e' = [(2, .pointer (some ⟨b2_1, 0, none⟩)), (6, w6r), (8, v22_0_1), (14, .int .i64 (t13.length : Int)), (15, .int .i64 x15), (18, w5), (19, .int .i64 (x5.length : Int)), (20, .int .i64 x20), (25, .int .i64 a0_0), (26, .int .i64 x26')] ∧ C' = Sep w noM [R.hole Sr22_1 w5 (x18 : List (List Int)) (x20).toNat [v22_0_1], R.box b2_1 31 [.int .i64 a0_0, va0_1, va0_2], R.sl S22_0_1 v22_0_1 (t22 : List (Int)), R.sl T6r w6r (x6r' : List (List Int))]) k ?_ ?_ ?_
          · exact ⟨x6, 0, w6, T6, hE_3, hl_w6, rfl, rfl⟩
          · rintro _ _ ⟨_, _, _, _, hE_3, _⟩
            rw [impl_fillings.l2.eq_1] at hE_3; cases hE_3
          · rintro n_3 _ _ ⟨x6r, x26, w6r, T6r, hE_3, hl_w6r, rfl, rfl⟩ ih_3
            rw [impl_fillings.l2.eq_2] at hE_3
            refine Tri.seq ?_
            refine Tri.reg (l := [0]) rfl ?_
            refine F.q rfl rfl rfl (wanted_none rfl) (r_lss rfl rfl) ?_
            refine F.nil ?_
            refine Nrm.seq ?_
            refine Tri.seq ?_
            refine Tri.cond (b := decide (x26 < a0_0)) rfl (fun g_3 => ?_) (fun g_3 => ?_)
            · replace hE_3 := if_tt g_3 hE_3
              refine Tri.skip ?_
              refine Nrm.seq ?_
              refine Tri.seq ?_
              refine Tri.block ?_
              refine Tri.seq ?_
              refine Tri.reg (l := [0, 1]) rfl ?_
              refine F.q rfl rfl rfl (wanted_none rfl) (r_move rfl) ?_
              refine F.q rfl rfl rfl (wanted_none rfl) (r_assign rfl) ?_
              refine F.nil ?_
              refine Nrm.seq ?_
              obtain ⟨t31, h31, hE_3⟩ := bind_some hE_3
              obtain ⟨hs34, hE_3⟩ := ck hE_3
              obtain ⟨hs36, hE_3⟩ := ck hE_3
              refine Tri.reg (l := [0, 1, 2, 3, 4, 5, 6, 7, 8]) rfl ?_
              refine F.q rfl rfl rfl (wanted_none rfl) (r_move rfl) ?_
              refine F.q rfl rfl rfl (wanted_none rfl) (r_move rfl) ?_
              refine F.m rfl rfl rfl (wanted_none rfl) (m_callF (xs := _) rfl ok105 rfl rfl (fun w hw => slices_Clone_int_int.ok h31 w ((rd_sl (i := 2) rfl) w hw))) ?_
              rintro v31_1 _ ⟨_, ⟨S31_1, hl_v31_1, rfl⟩, rfl⟩
              refine F.q rfl rfl rfl (wanted_none rfl) (r_move rfl) ?_
              refine F.m rfl rfl rfl (wanted_none rfl) (m_buildF (l := ([x26] : List (Int))) Try.underlying23 ti3 rfl rfl rfl rfl rfl) ?_
              rintro v33_1 _ ⟨S33_1, hl_v33_1, rfl⟩
              refine F.ef rfl rfl rfl (wanted_none rfl) (d_append (i := 1) Try.underlying23 Try.underlying23 ti3 rfl (by decide) rfl rfl rfl (rd_sl (i := 0) rfl) hs34) ?_
              rintro v34_1 _ ⟨S34_1, rfl, hl_v34_1⟩
              refine F.ef rfl rfl rfl (wanted_none rfl) (d_build1 (cells := [v34_1]) (x0 := (t31 ++ ([x26] : List (Int)) : List Int)) (cs := [R.sl S34_1 v34_1 (t31 ++ ([x26] : List (Int)) : List (Int))]) (rest := [R.sl S33_1 v33_1 (([x26] : List (Int)) : List (Int)), R.hole Sr22_1 w5 (x18 : List (List Int)) (x20).toNat [v22_0_1], R.box b2_1 31 [.int .i64 a0_0, va0_1, va0_2], R.sl S22_0_1 v22_0_1 (t22 : List (Int)), R.sl T6r w6r (x6r : List (List Int))]) [1] [0, 2, 3, 4, 5] Try.underlying95 ti23 rfl (sl_cells hl_v34_1) rfl (lf_cons (sl_leaf hl_v34_1) lf_nil) rfl rfl (jn_sl (S := S34_1) (v := v34_1) (l := (t31 ++ ([x26] : List (Int)) : List (Int))))) ?_
              rintro v35_1 _ ⟨S35_1, hl_v35_1, rfl⟩
              refine F.ef rfl rfl rfl (wanted_none rfl) (d_appendN (rest := [R.sl S33_1 v33_1 (([x26] : List (Int)) : List (Int)), R.hole Sr22_1 w5 (x18 : List (List Int)) (x20).toNat [v22_0_1], R.box b2_1 31 [.int .i64 a0_0, va0_1, va0_2], R.sl S22_0_1 v22_0_1 (t22 : List (Int))]) 5 0 [1, 2, 3, 4] Try.underlying95 Try.underlying95 ti23 rfl (by decide) rfl rfl rfl rfl hs36) ?_
              rintro v36_1 _ ⟨S36_1, hl_v36_1, rfl⟩
              refine F.q rfl rfl rfl (wanted_none rfl) (r_assign rfl) ?_
              refine F.nil ?_
              refine Nrm.block ?_
              refine Nrm.seq ?_
              refine Tri.reg (l := [0, 1]) rfl ?_
              refine F.q rfl rfl rfl (wanted_none rfl) (r_add rfl rfl) ?_
              refine F.q rfl rfl rfl (wanted_none rfl) (r_move rfl) ?_
              refine F.nil ?_
              refine Nrm.round ?_
              refine Rnd.only [2, 6, 8, 14, 15, 18, 19, 20, 25, 26] rfl ?_
              refine Rnd.pick [2, 3, 4, 0] rfl rfl ?_
              exact ih_3 _ _ ⟨(x6r : List (List Int)) ++ ([t31 ++ ([x26] : List (Int))] : List (List Int)), w64 (x26 + 1), v36_1, S36_1, hE_3, hl_v36_1, rfl, rfl⟩
            · replace hE_3 := if_ff g_3 hE_3
              refine Tri.exit ?_
              refine Exi.then ?_
              refine Exi.then ?_
              refine Exi.same ?_
              cases hE_3
              refine Nrm.block ?_
              refine Nrm.seq ?_
              refine Tri.reg (l := [0, 1]) rfl ?_
              refine F.q rfl rfl rfl (wanted_none rfl) (r_add rfl rfl) ?_
              refine F.q rfl rfl rfl (wanted_none rfl) (r_move rfl) ?_
              refine F.nil ?_
              refine Nrm.imp (cloS1 (cs := [R.sl S22_0_1 v22_0_1 (t22 : List (Int))]) (rest := [R.box b2_1 31 [.int .i64 a0_0, va0_1, va0_2], R.sl T6r w6r (x6r : List (List Int))]) [2, 0] [1, 3] rfl rfl (jn_sl (S := S22_0_1) (v := v22_0_1) (l := (t22 : List (Int)))) hS22_1) ?_
              refine Nrm.round ?_
              refine Rnd.only [2, 6, 14, 15, 18, 19, 20] rfl ?_
              refine Rnd.pick [1, 2, 0] rfl rfl ?_
              exact ih_2 _ _ ⟨x6r, (x18 : List (List Int)).set (x20).toNat t22, w64 (x20 + 1), w6r, T6r, hE_2, hl_w6r, (len_set hl_x18), rfl, rfl⟩
        · replace hE_2 := if_ff g_2 hE_2
          refine Tri.exit ?_
          refine Exi.then ?_
          refine Exi.then ?_
          refine Exi.same ?_
          cases hE_2
          refine Nrm.seq ?_
          refine Tri.reg (l := [0, 1]) rfl ?_
          refine F.q rfl rfl rfl (wanted_none rfl) (r_move rfl) ?_
          refine F.q rfl rfl rfl (wanted_none rfl) (r_assign rfl) ?_
          refine F.nil ?_
          refine Nrm.block ?_
          refine Nrm.seq ?_
          refine Tri.reg (l := [0, 1]) rfl ?_
          refine F.q rfl rfl rfl (wanted_none rfl) (r_add rfl rfl) ?_
          refine F.q rfl rfl rfl (wanted_none rfl) (r_move rfl) ?_
          refine F.nil ?_
          refine Nrm.round ?_
          refine Rnd.only [2, 5, 14, 15] rfl ?_
          refine Rnd.pick [0, 1] rfl rfl ?_
          exact ih_1 _ _ ⟨x6, w64 (x15 + 1), w6, T6, hE_1, hl_w6, rfl, rfl⟩
    · replace hE_1 := if_ff g_1 hE_1
      refine Tri.exit ?_
      refine Exi.then ?_
      refine Exi.then ?_
      refine Exi.same ?_
      cases hE_1
      refine Nrm.seq ?_
      refine Tri.seq ?_
      refine Tri.reg (l := [0, 1]) rfl ?_
      refine F.q rfl rfl rfl (wanted_none rfl) (r_move rfl) ?_
      refine F.q rfl rfl rfl (wanted_none rfl) (r_assign rfl) ?_
      refine F.nil ?_
      refine Nrm.seq ?_
      refine Tri.ret ?_
      cases h
      exact Rtn.body (.tmp rfl .nil) (fun w hw => ⟨_, _, rfl, ⟨T5, hl_w5, rfl⟩, Sep.pick (is := [1]) rfl rfl hw⟩)

end Go.Proofs

/- loop.example/g01158/impl.has -/

namespace Go.Proofs
open Go Go.Ga
set_option linter.unusedVariables false
set_option maxRecDepth 100000
set_option maxHeartbeats 4000000
def impl_has.f (k : Nat) (a0 : Int) (a1 : Int) : Option (Bool) := some ((bclr a1 a0) == 0)

theorem impl_has.ok {k : Nat}  {a0 : Int} {a1 : Int} {r0 : Bool} (h : impl_has.f k a0 a1 = some r0) (w : World) :
    Calls Try.prog 162 ([.int .i64 a0, .int .i64 a1] : List Value).toArray w (fun e w' => e = .returned (.bool r0) ∧ Ext w w') := by
  unfold impl_has.f at h
  refine Calls.of_tri (N := 9) Try.func162 rfl rfl rfl (Sep.nil (M := noM)) ?_
  refine Tri.seq ?_
  refine Tri.reg (l := [0]) rfl ?_
  refine F.q rfl rfl rfl (wanted_none rfl) (r_assign rfl) ?_
  refine F.nil ?_
  refine Nrm.seq ?_
  refine Tri.seq ?_
  refine Tri.reg (l := [0, 1, 2, 3, 4]) rfl ?_
  refine F.q rfl rfl rfl (wanted_none rfl) (r_move rfl) ?_
  refine F.q rfl rfl rfl (wanted_none rfl) (r_move rfl) ?_
  refine F.q rfl rfl rfl (wanted_none rfl) (r_andNot rfl rfl) ?_
  refine F.q rfl rfl rfl (wanted_none rfl) (r_eql rfl rfl) ?_
  refine F.q rfl rfl rfl (wanted_none rfl) (r_assign rfl) ?_
  refine F.nil ?_
  refine Nrm.seq ?_
  refine Tri.ret ?_
  cases h
  exact Rtn.body (.tmp rfl .nil) (fun w hw => ⟨rfl, hw.ext⟩)

end Go.Proofs

/- loop.example/g01158/impl.steps -/
namespace Go.Proofs
open Go Go.Ga
set_option linter.unusedVariables false
set_option maxRecDepth 100000
set_option maxHeartbeats 4000000
def impl_steps.l0 (k : Nat) (a0_1 : List (Int × Int × Int)) (a1 : Int) (a2 : Int) : Nat → Int → Int → Option (Int)
  | 0, _, _ => none
  | n + 1, x7, x13 => (if (decide (x13 < (a0_1.length : Int))) = true then ((rdl a0_1 x13).bind fun t15 => (impl_has.f k a2 t15.2.2).bind fun t20 => (if (!t20) = true then some x7 else ((if (t15.1 == a1) = true then if ¬ t15.2.1 < 0 then some (bor x7 (shl 1 t15.2.1)) else none else some x7)).bind fun y7 => ((if (t15.2.1 == a1) = true then if ¬ t15.1 < 0 then some (bor y7 (shl 1 t15.1)) else none else some y7)).bind fun y7r => some y7r)).bind fun y7 => impl_steps.l0 k a0_1 a1 a2 n y7 (w64 (x13 + 1)) else some x7)

def impl_steps.f (k : Nat) (a0_0 : Int) (a0_1 : List (Int × Int × Int)) (a0_2 : List Int) (a1 : Int) (a2 : Int) : Option (Int) := (impl_steps.l0 k a0_1 a1 a2 k 0 0).bind fun x7 => some x7

theorem impl_steps.ok {k : Nat}  {a0_0 : Int} {a0_1 : List (Int × Int × Int)} {a0_2 : List Int} {a1 : Int} {a2 : Int} {r0 : Int} (h : impl_steps.f k a0_0 a0_1 a0_2 a1 a2 = some r0) (w : World) {va0_1 : Value} {va0_2 : Value} (hr_a0_1 : Rd w va0_1 a0_1) (hr_a0_2 : Rd w va0_2 a0_2) :
    Calls Try.prog 154 ([.agg ([.int .i64 a0_0, va0_1, va0_2].toArray), .int .i64 a1, .int .i64 a2] : List Value).toArray w (fun e w' => e = .returned (.int .i64 r0) ∧ Ext w w') := by
  unfold impl_steps.f at h
  have hl_va0_1 := hr_a0_1.len
  have hl_va0_2 := hr_a0_2.len
  refine Calls.of_tri (N := 42) Try.func154 rfl rfl rfl (Sep.nil (M := noM)) ?_
  refine Tri.seq ?_
  refine Tri.reg (l := [0, 1]) rfl ?_
  refine F.m rfl rfl rfl (wanted_none rfl) (m_boxG rfl rfl) ?_
  rintro _ _ ⟨b3_1, rfl, rfl⟩
  refine F.q rfl rfl rfl (wanted_none rfl) (r_assign rfl) ?_
  refine F.nil ?_
  refine Nrm.seq ?_
  refine Tri.seq ?_
  refine Tri.reg (l := [0]) rfl ?_
  refine F.q rfl rfl rfl (wanted_none rfl) (r_assign rfl) ?_
  refine F.nil ?_
  refine Nrm.seq ?_
  refine Tri.seq ?_
  refine Tri.seq ?_
  refine Tri.reg (l := [0, 1, 2, 3]) rfl ?_
  refine F.q rfl rfl rfl (wanted_none rfl) (r_fieldAddr tf31_1 rfl) ?_
  refine F.q rfl rfl rfl (wanted_none rfl) (r_load ta22 rfl (fun w hw => cell_1 (box_cells (i := 0) rfl w hw) rfl)) ?_
  refine F.q rfl rfl rfl (wanted_none rfl) (r_len Try.underlying22 rfl hl_va0_1) ?_
  refine F.q rfl rfl rfl (wanted_none rfl) (r_move rfl) ?_
  refine F.nil ?_
  refine Nrm.seq ?_
  obtain ⟨x7, hE_1, h⟩ := bind_some h
  refine Tri.block ?_
  refine Tri.only [1, 2, 7, 11, 12, 13] rfl ?_
  refine Tri.pick [] rfl rfl ?_
  refine Tri.rounds (fun n e' C' => ∃ (x7' : Int) (x13' : Int), impl_steps.l0 k a0_1 a1 a2 n x7' x13' = some x7 ∧ e' = [(1, .int .i64 a1), (2, .int .i64 a2), (7, .int .i64 x7'), (11, va0_1), (12, .int .i64 (a0_1.length : Int)), (13, .int .i64 x13')] ∧ C' = Sep w noM []) k ?_ ?_ ?_
  · exact ⟨0, 0, hE_1, rfl, rfl⟩
  · rintro _ _ ⟨_, _, hE_1, _⟩
    rw [impl_steps.l0.eq_1] at hE_1; cases hE_1
  · rintro n_1 _ _ ⟨x7, x13, hE_1, rfl, rfl⟩ ih_1
    rw [impl_steps.l0.eq_2] at hE_1
    refine Tri.seq ?_
    refine Tri.reg (l := [0]) rfl ?_
    refine F.q rfl rfl rfl (wanted_none rfl) (r_lss rfl rfl) ?_
    refine F.nil ?_
    refine Nrm.seq ?_
    refine Tri.seq ?_
    refine Tri.cond (b := decide (x13 < (a0_1.length : Int))) rfl (fun g_1 => ?_) (fun g_1 => ?_)
    · replace hE_1 := if_tt g_1 hE_1
      refine Tri.skip ?_
      refine Nrm.seq ?_
      refine Tri.seq ?_
      obtain ⟨y7, hE_2, hE_1⟩ := bind_some hE_1
      refine Tri.cut (fun e' C' => e' = [(1, .int .i64 a1), (2, .int .i64 a2), (7, .int .i64 y7), (11, va0_1), (12, .int .i64 (a0_1.length : Int)), (13, .int .i64 x13)] ∧ C' = Sep w noM []) ?_ (fun hj_1 => ?_)
      · rintro _ _ ⟨rfl, rfl⟩
        refine Nrm.seq ?_
        refine Tri.reg (l := [0, 1]) rfl ?_
        refine F.q rfl rfl rfl (wanted_none rfl) (r_add rfl rfl) ?_
        refine F.q rfl rfl rfl (wanted_none rfl) (r_move rfl) ?_
        refine F.nil ?_
        refine Nrm.round ?_
        refine Rnd.only [1, 2, 7, 11, 12, 13] rfl ?_
        refine Rnd.pick [] rfl rfl ?_
        exact ih_1 _ _ ⟨y7, w64 (x13 + 1), hE_1, rfl, rfl⟩
      · refine Tri.block ?_
        refine Tri.seq ?_
        obtain ⟨t15, h15, hE_2⟩ := bind_some hE_2
        refine Tri.reg (l := [0, 1, 2, 3]) rfl ?_
        refine F.q rfl rfl rfl (wanted_none rfl) (r_indexAddrS Try.underlying22 ti116 rfl hl_va0_1 rfl (rdl_some h15).1 (rdl_some h15).2.1) ?_
        refine F.q rfl rfl rfl (wanted_none rfl) (r_loadA ta116 ti116 rfl rfl (fun w hw => (Rd.flat ((fun _ hw => hr_a0_1.sep hw) w hw) (rdl_some h15).2.2))) ?_
        refine F.m rfl rfl rfl (wanted_none rfl) (m_alloc ti116) ?_
        rintro _ _ ⟨b9_1, rfl, rfl⟩
        refine F.ef0 rfl rfl (wanted_none rfl) (d_storeG0 (i := 0) (cs2 := [.int .i64 t15.1, .int .i64 t15.2.1, .int .i64 t15.2.2]) ti116 rfl rfl rfl rfl rfl (Nat.le_of_ble_eq_true rfl) (lf_cons rfl (lf_cons rfl (lf_cons rfl lf_nil)))) ?_
        rintro _ _ ⟨rfl, rfl⟩
        refine F.nil ?_
        refine Nrm.seq ?_
        refine Tri.seq ?_
        refine Tri.seq ?_
        obtain ⟨t20, h20, hE_2⟩ := bind_some hE_2
        refine Tri.reg (l := [0, 1, 2, 3, 4]) rfl ?_
        refine F.q rfl rfl rfl (wanted_none rfl) (r_move rfl) ?_
        refine F.q rfl rfl rfl (wanted_none rfl) (r_indexAddrA Try.underlying116 ti3 rfl rfl (by decide) (by decide)) ?_
        refine F.q rfl rfl rfl (wanted_none rfl) (r_load ta3 rfl (fun w hw => cell_1 (box_cells (i := 0) rfl w hw) rfl)) ?_
        refine F.qc rfl rfl rfl (wanted_none rfl) (q_callF (xs := _) rfl ok162 rfl rfl (fun w hw => impl_has.ok h20 w )) ?_
        refine F.q rfl rfl rfl (wanted_none rfl) (r_not rfl) ?_
        refine F.nil ?_
        refine Nrm.seq ?_
        refine Tri.cond (b := !t20) rfl (fun g_2 => ?_) (fun g_2 => ?_)
        · replace hE_2 := if_tt g_2 hE_2
          refine Tri.exit ?_
          refine Exi.then ?_
          refine Exi.same ?_
          cases hE_2
          refine Nrm.only [1, 2, 7, 11, 12, 13] rfl ?_
          refine Nrm.pick [] rfl rfl ?_
          exact hj_1 _ _ ⟨rfl, rfl⟩
        · replace hE_2 := if_ff g_2 hE_2
          refine Tri.skip ?_
          refine Nrm.seq ?_
          refine Tri.seq ?_
          refine Tri.seq ?_
          refine Tri.reg (l := [0, 1, 2, 3]) rfl ?_
          refine F.q rfl rfl rfl (wanted_none rfl) (r_indexAddrA Try.underlying116 ti3 rfl rfl (by decide) (by decide)) ?_
          refine F.q rfl rfl rfl (wanted_none rfl) (r_load ta3 rfl (fun w hw => cell_1 (box_cells (i := 0) rfl w hw) rfl)) ?_
          refine F.q rfl rfl rfl (wanted_none rfl) (r_move rfl) ?_
          refine F.q rfl rfl rfl (wanted_none rfl) (r_eql rfl rfl) ?_
          refine F.nil ?_
          refine Nrm.seq ?_
          obtain ⟨y7, hE_3, hE_2⟩ := bind_some hE_2
          refine Tri.cut (fun e' C' => e' = [(1, .int .i64 a1), (2, .int .i64 a2), (7, .int .i64 y7), (9, .pointer (some ⟨b9_1, 0, none⟩)), (11, va0_1), (12, .int .i64 (a0_1.length : Int)), (13, .int .i64 x13)] ∧ C' = Sep w noM [R.box b9_1 116 [.int .i64 t15.1, .int .i64 t15.2.1, .int .i64 t15.2.2]]) ?_ (fun hj_2 => ?_)
          · rintro _ _ ⟨rfl, rfl⟩
            refine Nrm.seq ?_
            refine Tri.seq ?_
            refine Tri.reg (l := [0, 1, 2, 3]) rfl ?_
            refine F.q rfl rfl rfl (wanted_none rfl) (r_indexAddrA Try.underlying116 ti3 rfl rfl (by decide) (by decide)) ?_
            refine F.q rfl rfl rfl (wanted_none rfl) (r_load ta3 rfl (fun w hw => cell_1 (box_cells (i := 0) rfl w hw) rfl)) ?_
            refine F.q rfl rfl rfl (wanted_none rfl) (r_move rfl) ?_
            refine F.q rfl rfl rfl (wanted_none rfl) (r_eql rfl rfl) ?_
            refine F.nil ?_
            refine Nrm.seq ?_
            obtain ⟨y7r, hE_4, hE_2⟩ := bind_some hE_2
            refine Tri.cut (fun e' C' => e' = [(1, .int .i64 a1), (2, .int .i64 a2), (7, .int .i64 y7r), (11, va0_1), (12, .int .i64 (a0_1.length : Int)), (13, .int .i64 x13)] ∧ C' = Sep w noM []) ?_ (fun hj_3 => ?_)
            · rintro _ _ ⟨rfl, rfl⟩
              refine Nrm.block ?_
              cases hE_2
              refine Nrm.only [1, 2, 7, 11, 12, 13] rfl ?_
              refine Nrm.pick [] rfl rfl ?_
              exact hj_1 _ _ ⟨rfl, rfl⟩
            · refine Tri.cond (b := t15.2.1 == a1) rfl (fun g_4 => ?_) (fun g_4 => ?_)
              · replace hE_4 := if_tt g_4 hE_4
                obtain ⟨hs38, hE_4⟩ := ck hE_4
                refine Tri.reg (l := [0, 1, 2, 3, 4, 5]) rfl ?_
                refine F.q rfl rfl rfl (wanted_none rfl) (r_move rfl) ?_
                refine F.q rfl rfl rfl (wanted_none rfl) (r_indexAddrA Try.underlying116 ti3 rfl rfl (by decide) (by decide)) ?_
                refine F.q rfl rfl rfl (wanted_none rfl) (r_load ta3 rfl (fun w hw => cell_1 (box_cells (i := 0) rfl w hw) rfl)) ?_
                refine F.q rfl rfl rfl (wanted_none rfl) (r_shl rfl rfl hs38) ?_
                refine F.q rfl rfl rfl (wanted_none rfl) (r_or rfl rfl) ?_
                refine F.q rfl rfl rfl (wanted_none rfl) (r_assign rfl) ?_
                refine F.nil ?_
                cases hE_4
                refine Nrm.only [1, 2, 7, 11, 12, 13] rfl ?_
                refine Nrm.pick [] rfl rfl ?_
                exact hj_3 _ _ ⟨rfl, rfl⟩
              · replace hE_4 := if_ff g_4 hE_4
                refine Tri.skip ?_
                cases hE_4
                refine Nrm.only [1, 2, 7, 11, 12, 13] rfl ?_
                refine Nrm.pick [] rfl rfl ?_
                exact hj_3 _ _ ⟨rfl, rfl⟩
          · refine Tri.cond (b := t15.1 == a1) rfl (fun g_3 => ?_) (fun g_3 => ?_)
            · replace hE_3 := if_tt g_3 hE_3
              obtain ⟨hs29, hE_3⟩ := ck hE_3
              refine Tri.reg (l := [0, 1, 2, 3, 4, 5]) rfl ?_
              refine F.q rfl rfl rfl (wanted_none rfl) (r_move rfl) ?_
              refine F.q rfl rfl rfl (wanted_none rfl) (r_indexAddrA Try.underlying116 ti3 rfl rfl (by decide) (by decide)) ?_
              refine F.q rfl rfl rfl (wanted_none rfl) (r_load ta3 rfl (fun w hw => cell_1 (box_cells (i := 0) rfl w hw) rfl)) ?_
              refine F.q rfl rfl rfl (wanted_none rfl) (r_shl rfl rfl hs29) ?_
              refine F.q rfl rfl rfl (wanted_none rfl) (r_or rfl rfl) ?_
              refine F.q rfl rfl rfl (wanted_none rfl) (r_assign rfl) ?_
              refine F.nil ?_
              cases hE_3
              refine Nrm.only [1, 2, 7, 9, 11, 12, 13] rfl ?_
              refine Nrm.pick [0] rfl rfl ?_
              exact hj_2 _ _ ⟨rfl, rfl⟩
            · replace hE_3 := if_ff g_3 hE_3
              refine Tri.skip ?_
              cases hE_3
              refine Nrm.only [1, 2, 7, 9, 11, 12, 13] rfl ?_
              refine Nrm.pick [0] rfl rfl ?_
              exact hj_2 _ _ ⟨rfl, rfl⟩
    · replace hE_1 := if_ff g_1 hE_1
      refine Tri.exit ?_
      refine Exi.then ?_
      refine Exi.then ?_
      refine Exi.same ?_
      cases hE_1
      refine Nrm.seq ?_
      refine Tri.seq ?_
      refine Tri.reg (l := [0, 1]) rfl ?_
      refine F.q rfl rfl rfl (wanted_none rfl) (r_move rfl) ?_
      refine F.q rfl rfl rfl (wanted_none rfl) (r_assign rfl) ?_
      refine F.nil ?_
      refine Nrm.seq ?_
      refine Tri.ret ?_
      cases h
      exact Rtn.body (.tmp rfl .nil) (fun w hw => ⟨rfl, hw.ext⟩)

end Go.Proofs

/- loop.example/g01158/impl.reach -/
namespace Go.Proofs
open Go Go.Ga
set_option linter.unusedVariables false
set_option maxRecDepth 100000
set_option maxHeartbeats 4000000
def impl_reach.l0 (k : Nat) (a0_0 : Int) (a0_1 : List (Int × Int × Int)) (a0_2 : List Int) (a2 : Int) : Nat → Int → (List (Int)) → Option (Int)
  | 0, _, _ => none
  | n + 1, x7, x8 => (if (decide ((x8.length : Int) > 0)) = true then (rdl x8 0).bind fun t19 => (impl_steps.f k a0_0 a0_1 a0_2 t19 a2).bind fun t22 => (slc x8 1 (x8.length : Int)).bind fun t29 => (impl_members.f k (bclr t22 x7)).bind fun t31 => if (t29 ++ t31).length < 1099511627776 then impl_reach.l0 k a0_0 a0_1 a0_2 a2 n (bor x7 (bclr t22 x7)) (t29 ++ t31) else none else some x7)

def impl_reach.f (k : Nat) (a0_0 : Int) (a0_1 : List (Int × Int × Int)) (a0_2 : List Int) (a1 : Int) (a2 : Int) : Option (Int) := if ¬ a1 < 0 then (impl_reach.l0 k a0_0 a0_1 a0_2 a2 k (shl 1 a1) ([a1] : List (Int))).bind fun x7 => some x7 else none

theorem impl_reach.ok {k : Nat}  {a0_0 : Int} {a0_1 : List (Int × Int × Int)} {a0_2 : List Int} {a1 : Int} {a2 : Int} {r0 : Int} (h : impl_reach.f k a0_0 a0_1 a0_2 a1 a2 = some r0) (w : World) {va0_1 : Value} {va0_2 : Value} (hr_a0_1 : Rd w va0_1 a0_1) (hr_a0_2 : Rd w va0_2 a0_2) :
    Calls Try.prog 166 ([.agg ([.int .i64 a0_0, va0_1, va0_2].toArray), .int .i64 a1, .int .i64 a2] : List Value).toArray w (fun e w' => e = .returned (.int .i64 r0) ∧ Ext w w') := by
  unfold impl_reach.f at h
  have hl_va0_1 := hr_a0_1.len
  have hl_va0_2 := hr_a0_2.len
  refine Calls.of_tri (N := 34) Try.func166 rfl rfl rfl (Sep.nil (M := noM)) ?_
  refine Tri.seq ?_
  refine Tri.reg (l := [0, 1]) rfl ?_
  refine F.m rfl rfl rfl (wanted_none rfl) (m_boxG rfl rfl) ?_
  rintro _ _ ⟨b3_1, rfl, rfl⟩
  refine F.q rfl rfl rfl (wanted_none rfl) (r_assign rfl) ?_
  refine F.nil ?_
  refine Nrm.seq ?_
  refine Tri.seq ?_
  obtain ⟨hs11, h⟩ := ck h
  refine Tri.reg (l := [0, 1, 2, 3, 4, 5]) rfl ?_
  refine F.q rfl rfl rfl (wanted_none rfl) (r_move rfl) ?_
  refine F.q rfl rfl rfl (wanted_none rfl) (r_shl rfl rfl hs11) ?_
  refine F.q rfl rfl rfl (wanted_none rfl) (r_move rfl) ?_
  refine F.m rfl rfl rfl (wanted_none rfl) (m_buildF (l := ([a1] : List (Int))) Try.underlying23 ti3 rfl rfl rfl rfl rfl) ?_
  rintro v13_1 _ ⟨S13_1, hl_v13_1, rfl⟩
  refine F.q rfl rfl rfl (wanted_none rfl) (r_assign rfl) ?_
  refine F.q rfl rfl rfl (wanted_none rfl) (r_assign rfl) ?_
  refine F.nil ?_
  refine Nrm.seq ?_
  refine Tri.seq ?_
  obtain ⟨x7, hE_1, h⟩ := bind_some h
  refine Tri.block ?_
  refine Tri.only [2, 3, 7, 8] rfl ?_
  refine Tri.pick [1, 0] rfl rfl ?_
  refine Tri.rounds (fun n e' C' => ∃ (x7' : Int) (x8' : List (Int)) (w8 : Value) (T8 : Nat → Prop), impl_reach.l0 k a0_0 a0_1 a0_2 a2 n x7' x8' = some x7 ∧ SlLen w8 (x8').length ∧ e' = [(2, .int .i64 a2), (3, .pointer (some ⟨b3_1, 0, none⟩)), (7, .int .i64 x7'), (8, w8)] ∧ C' = Sep w noM [R.box b3_1 31 [.int .i64 a0_0, va0_1, va0_2], R.sl T8 w8 (x8' : List (Int))]) k ?_ ?_ ?_
  · exact ⟨shl 1 a1, ([a1] : List (Int)), v13_1, S13_1, hE_1, hl_v13_1, rfl, rfl⟩
  · rintro _ _ ⟨_, _, _, _, hE_1, _⟩
    rw [impl_reach.l0.eq_1] at hE_1; cases hE_1
  · rintro n_1 _ _ ⟨x7, x8, w8, T8, hE_1, hl_w8, rfl, rfl⟩ ih_1
    rw [impl_reach.l0.eq_2] at hE_1
    refine Tri.seq ?_
    refine Tri.seq ?_
    refine Tri.reg (l := [0, 1, 2]) rfl ?_
    refine F.q rfl rfl rfl (wanted_none rfl) (r_move rfl) ?_
    refine F.q rfl rfl rfl (wanted_none rfl) (r_len Try.underlying23 rfl hl_w8) ?_
    refine F.q rfl rfl rfl (wanted_none rfl) (r_gtr rfl rfl) ?_
    refine F.nil ?_
    refine Nrm.seq ?_
    refine Tri.cond (b := decide ((x8.length : Int) > 0)) rfl (fun g_1 => ?_) (fun g_1 => ?_)
    · replace hE_1 := if_tt g_1 hE_1
      refine Tri.skip ?_
      refine Nrm.seq ?_
      refine Tri.block ?_
      refine Tri.seq ?_
      obtain ⟨t19, h19, hE_1⟩ := bind_some hE_1
      obtain ⟨t22, h22, hE_1⟩ := bind_some hE_1
      refine Tri.drawA mixedT Sep.up [(0, true), (1, true), (2, true), (3, true), (4, true), (5, true), (6, true), (7, true), (8, true)] [] (by kernel_rfl) ?_
      refine S.q rfl rfl rfl (wanted_none rfl) (r_loadA ta31 ti31 rfl rfl (fun w hw => (box_cells (i := 0) rfl w hw))) ?_
      refine S.q rfl rfl rfl (wanted_none rfl) (r_move rfl) ?_
      refine S.q rfl rfl rfl (wanted_none rfl) (r_indexAddrS Try.underlying23 ti3 rfl hl_w8 rfl (rdl_some h19).1 (rdl_some h19).2.1) ?_
      refine S.q rfl rfl rfl (wanted_none rfl) (r_load ta3 rfl (fun w hw => cell_0 (Rd.flat ((rd_sl (i := 1) rfl) w hw) (rdl_some h19).2.2) rfl)) ?_
      refine S.q rfl rfl rfl (wanted_none rfl) (r_move rfl) ?_
      refine S.qc rfl rfl rfl (wanted_none rfl) (q_callF (xs := _) rfl ok154 rfl rfl (fun w hw => impl_steps.ok h22 w ((fun _ hw => hr_a0_1.sep hw) w hw) ((fun _ hw => hr_a0_2.sep hw) w hw))) ?_
      refine S.q rfl rfl rfl (wanted_none rfl) (r_move rfl) ?_
      refine S.q rfl rfl rfl (wanted_none rfl) (r_andNot rfl rfl) ?_
      refine S.q rfl rfl rfl (wanted_none rfl) (r_assign rfl) ?_
      refine S.nil ?_
      refine F.nil ?_
      refine Nrm.seq ?_
      refine Tri.seq ?_
      refine Tri.reg (l := [0, 1, 2, 3]) rfl ?_
      refine F.q rfl rfl rfl (wanted_none rfl) (r_move rfl) ?_
      refine F.q rfl rfl rfl (wanted_none rfl) (r_move rfl) ?_
      refine F.q rfl rfl rfl (wanted_none rfl) (r_or rfl rfl) ?_
      refine F.q rfl rfl rfl (wanted_none rfl) (r_assign rfl) ?_
      refine F.nil ?_
      refine Nrm.seq ?_
      obtain ⟨t29, h29, hE_1⟩ := bind_some hE_1
      obtain ⟨t31, h31, hE_1⟩ := bind_some hE_1
      obtain ⟨hs32, hE_1⟩ := ck hE_1
      refine Tri.drawA mixedT Sep.up [(0, true), (1, true), (2, true), (3, false)] [4, 5] (by kernel_rfl) ?_
      refine S.q rfl rfl rfl (wanted_none rfl) (r_move rfl) ?_
      refine S.q rfl rfl rfl (wanted_none rfl) (r_sliceL Try.underlying23 ti3 rfl (rd_sl (i := 1) rfl) rfl h29) ?_
      refine S.q rfl rfl rfl (wanted_none rfl) (r_move rfl) ?_
      refine S.m rfl rfl rfl (wanted_none rfl) (m_callF (xs := _) rfl ok68 rfl rfl (fun w hw => impl_members.ok h31 w )) ?_
      rintro v31_2 _ ⟨_, ⟨S31_2, hl_v31_2, rfl⟩, rfl⟩
      refine S.nil ?_
      refine F.ef rfl rfl rfl (wanted_none rfl) (Does.pre (fun w hw => Sep.resl (i := 2) rfl h29 hw) <| d_append (i := 2) Try.underlying23 Try.underlying23 ti3 rfl (by decide) rfl rfl rfl (rd_sl (i := 0) rfl) hs32) ?_
      rintro v32_2 _ ⟨S32_2, rfl, hl_v32_2⟩
      refine F.q rfl rfl rfl (wanted_none rfl) (r_assign rfl) ?_
      refine F.nil ?_
      refine Nrm.block ?_
      refine Nrm.round ?_
      refine Rnd.only [2, 3, 7, 8] rfl ?_
      refine Rnd.pick [1, 2] rfl rfl ?_
      exact ih_1 _ _ ⟨bor x7 (bclr t22 x7), t29 ++ t31, v32_2, S32_2, hE_1, hl_v32_2, rfl, rfl⟩
    · replace hE_1 := if_ff g_1 hE_1
      refine Tri.exit ?_
      refine Exi.then ?_
      refine Exi.then ?_
      refine Exi.same ?_
      cases hE_1
      refine Nrm.seq ?_
      refine Tri.seq ?_
      refine Tri.reg (l := [0, 1]) rfl ?_
      refine F.q rfl rfl rfl (wanted_none rfl) (r_move rfl) ?_
      refine F.q rfl rfl rfl (wanted_none rfl) (r_assign rfl) ?_
      refine F.nil ?_
      refine Nrm.seq ?_
      refine Tri.ret ?_
      cases h
      exact Rtn.body (.tmp rfl .nil) (fun w hw => ⟨rfl, hw.ext⟩)

end Go.Proofs

/- loop.example/g01158/impl.rounds -/
namespace Go.Proofs
open Go Go.Ga
set_option linter.unusedVariables false
set_option maxRecDepth 100000
set_option maxHeartbeats 4000000
def impl_rounds.l1 (k : Nat) (a0_2 : List Int) (t18 : List Int) : Nat → Int → Int → Option (Int)
  | 0, _, _ => none
  | n + 1, x8, x20 => (if (decide (x20 < (t18.length : Int))) = true then (rdl t18 x20).bind fun t22 => (rdl a0_2 t22).bind fun t28 => impl_rounds.l1 k a0_2 t18 n (bor x8 t28) (w64 (x20 + 1)) else some x8)

def impl_rounds.l0 (k : Nat) (a0_0 : Int) (a0_1 : List (Int × Int × Int)) (a0_2 : List Int) : Nat → (List (Int × Int)) → Int → Option ((Unit) ⊕ ((List (Int × Int))))
  | 0, _, _ => none
  | n + 1, x5, x6 => (impl_reach.f k a0_0 a0_1 a0_2 0 x6).bind fun t15 => (impl_members.f k t15).bind fun t18 => (impl_rounds.l1 k a0_2 t18 k x6 0).bind fun x8 => if (x5 ++ ([(x6, t15)] : List (Int × Int))).length < 1099511627776 then (if (x8 == x6) = true then some (Sum.inr (x5 ++ ([(x6, t15)] : List (Int × Int)))) else impl_rounds.l0 k a0_0 a0_1 a0_2 n (x5 ++ ([(x6, t15)] : List (Int × Int))) x8) else none

def impl_rounds.f (k : Nat) (a0_0 : Int) (a0_1 : List (Int × Int × Int)) (a0_2 : List Int) (a1 : Int) : Option ((List (Int × Int))) := (impl_rounds.l0 k a0_0 a0_1 a0_2 k ([] : List (Int × Int)) a1).bind fun s => Lr s some fun _ => none

theorem impl_rounds.ok {k : Nat}  {a0_0 : Int} {a0_1 : List (Int × Int × Int)} {a0_2 : List Int} {a1 : Int} {r0 : List (Int × Int)} (h : impl_rounds.f k a0_0 a0_1 a0_2 a1 = some r0) (w : World) {va0_1 : Value} {va0_2 : Value} (hr_a0_1 : Rd w va0_1 a0_1) (hr_a0_2 : Rd w va0_2 a0_2) :
    Calls Try.prog 144 ([.agg ([.int .i64 a0_0, va0_1, va0_2].toArray), .int .i64 a1] : List Value).toArray w (Post (fun u ns => ∃ (Sr0 : Nat → Prop), SlLen u r0.length ∧ ns = [R.sl Sr0 u r0]) w) := by
  unfold impl_rounds.f at h
  have hl_va0_1 := hr_a0_1.len
  have hl_va0_2 := hr_a0_2.len
  refine Calls.of_tri (N := 43) Try.func144 rfl rfl rfl (Sep.nil (M := noM)) ?_
  refine Tri.seq ?_
  refine Tri.reg (l := [0, 1]) rfl ?_
  refine F.m rfl rfl rfl (wanted_none rfl) (m_boxG rfl rfl) ?_
  rintro _ _ ⟨b2_1, rfl, rfl⟩
  refine F.q rfl rfl rfl (wanted_none rfl) (r_assign rfl) ?_
  refine F.nil ?_
  refine Nrm.seq ?_
  refine Tri.seq ?_
  refine Tri.reg (l := [0, 1]) rfl ?_
  refine F.m rfl rfl rfl (wanted_none rfl) (m_build0 (α := Int × Int) Try.underlying146 ti130) ?_
  rintro v11_1 _ ⟨S11_1, hl_v11_1, rfl⟩
  refine F.q rfl rfl rfl (wanted_none rfl) (r_assign rfl) ?_
  refine F.nil ?_
  refine Nrm.seq ?_
  refine Tri.seq ?_
  refine Tri.reg (l := [0, 1]) rfl ?_
  refine F.q rfl rfl rfl (wanted_none rfl) (r_move rfl) ?_
  refine F.q rfl rfl rfl (wanted_none rfl) (r_assign rfl) ?_
  refine F.nil ?_
  refine Nrm.seq ?_
  obtain ⟨s0, hE_1, h⟩ := bind_some h
  refine Tri.block ?_
  refine Tri.only [2, 5, 6] rfl ?_
  refine Tri.pick [1, 0] rfl rfl ?_
  refine Tri.rounds (fun n e' C' => ∃ (x5' : List (Int × Int)) (x6' : Int) (w5 : Value) (T5 : Nat → Prop), impl_rounds.l0 k a0_0 a0_1 a0_2 n x5' x6' = some s0 ∧ SlLen w5 (x5').length ∧ e' = [(2, .pointer (some ⟨b2_1, 0, none⟩)), (5, w5), (6, .int .i64 x6')] ∧ C' = Sep w noM [R.box b2_1 31 [.int .i64 a0_0, va0_1, va0_2], R.sl T5 w5 (x5' : List (Int × Int))]) k ?_ ?_ ?_
  · exact ⟨([] : List (Int × Int)), a1, v11_1, S11_1, hE_1, hl_v11_1, rfl, rfl⟩
  · rintro _ _ ⟨_, _, _, _, hE_1, _⟩
    rw [impl_rounds.l0.eq_1] at hE_1; cases hE_1
  · rintro n_1 _ _ ⟨x5, x6, w5, T5, hE_1, hl_w5, rfl, rfl⟩ ih_1
    rw [impl_rounds.l0.eq_2] at hE_1
    refine Tri.block ?_
    refine Tri.seq ?_
    obtain ⟨t15, h15, hE_1⟩ := bind_some hE_1
    refine Tri.reg (l := [0, 1, 2, 3, 4, 5]) rfl ?_
    refine F.q rfl rfl rfl (wanted_none rfl) (r_loadA ta31 ti31 rfl rfl (fun w hw => (box_cells (i := 0) rfl w hw))) ?_
    refine F.q rfl rfl rfl (wanted_none rfl) (r_move rfl) ?_
    refine F.qc rfl rfl rfl (wanted_none rfl) (q_callF (xs := _) rfl ok166 rfl rfl (fun w hw => impl_reach.ok h15 w ((fun _ hw => hr_a0_1.sep hw) w hw) ((fun _ hw => hr_a0_2.sep hw) w hw))) ?_
    refine F.q rfl rfl rfl (wanted_none rfl) (r_move rfl) ?_
    refine F.q rfl rfl rfl (wanted_none rfl) (r_assign rfl) ?_
    refine F.q rfl rfl rfl (wanted_none rfl) (r_assign rfl) ?_
    refine F.nil ?_
    refine Nrm.seq ?_
    refine Tri.seq ?_
    refine Tri.seq ?_
    obtain ⟨t18, h18, hE_1⟩ := bind_some hE_1
    refine Tri.reg (l := [0, 1, 2, 3]) rfl ?_
    refine F.q rfl rfl rfl (wanted_none rfl) (r_move rfl) ?_
    refine F.m rfl rfl rfl (wanted_none rfl) (m_callF (xs := _) rfl ok68 rfl rfl (fun w hw => impl_members.ok h18 w )) ?_
    rintro v18_1 _ ⟨_, ⟨S18_1, hl_v18_1, rfl⟩, rfl⟩
    refine F.q rfl rfl rfl (wanted_none rfl) (r_len Try.underlying23 rfl hl_v18_1) ?_
    refine F.q rfl rfl rfl (wanted_none rfl) (r_move rfl) ?_
    refine F.nil ?_
    refine Nrm.seq ?_
    obtain ⟨x8, hE_2, hE_1⟩ := bind_some hE_1
    refine Tri.block ?_
    refine Tri.only [2, 5, 6, 7, 8, 18, 19, 20] rfl ?_
    refine Tri.pick [1, 0, 2] rfl rfl ?_
    refine Tri.rounds (fun n e' C' => ∃ (x8' : Int) (x20' : Int), impl_rounds.l1 k a0_2 t18 n x8' x20' = some x8 ∧ e' = [(2, .pointer (some ⟨b2_1, 0, none⟩)), (5, w5), (6, .int .i64 x6), (7, .int .i64 t15), (8, .int .i64 x8'), (18, v18_1), (19, .int .i64 (t18.length : Int)), (20, .int .i64 x20')] ∧ C' = Sep w noM [R.box b2_1 31 [.int .i64 a0_0, va0_1, va0_2], R.sl S18_1 v18_1 (t18 : List (Int)), R.sl T5 w5 (x5 : List (Int × Int))]) k ?_ ?_ ?_
    · exact ⟨x6, 0, hE_2, rfl, rfl⟩
    · rintro _ _ ⟨_, _, hE_2, _⟩
      rw [impl_rounds.l1.eq_1] at hE_2; cases hE_2
    · rintro n_2 _ _ ⟨x8, x20, hE_2, rfl, rfl⟩ ih_2
      rw [impl_rounds.l1.eq_2] at hE_2
      refine Tri.seq ?_
      refine Tri.reg (l := [0]) rfl ?_
      refine F.q rfl rfl rfl (wanted_none rfl) (r_lss rfl rfl) ?_
      refine F.nil ?_
      refine Nrm.seq ?_
      refine Tri.seq ?_
      refine Tri.cond (b := decide (x20 < (t18.length : Int))) rfl (fun g_1 => ?_) (fun g_1 => ?_)
      · replace hE_2 := if_tt g_1 hE_2
        refine Tri.skip ?_
        refine Nrm.seq ?_
        refine Tri.seq ?_
        refine Tri.block ?_
        refine Tri.seq ?_
        obtain ⟨t22, h22, hE_2⟩ := bind_some hE_2
        refine Tri.reg (l := [0, 1, 2]) rfl ?_
        refine F.q rfl rfl rfl (wanted_none rfl) (r_indexAddrS Try.underlying23 ti3 rfl hl_v18_1 rfl (rdl_some h22).1 (rdl_some h22).2.1) ?_
        refine F.q rfl rfl rfl (wanted_none rfl) (r_load ta3 rfl (fun w hw => cell_0 (Rd.flat ((rd_sl (i := 1) rfl) w hw) (rdl_some h22).2.2) rfl)) ?_
        refine F.q rfl rfl rfl (wanted_none rfl) (r_assign rfl) ?_
        refine F.nil ?_
        refine Nrm.seq ?_
        obtain ⟨t28, h28, hE_2⟩ := bind_some hE_2
        refine Tri.reg (l := [0, 1, 2, 3, 4, 5, 6, 7]) rfl ?_
        refine F.q rfl rfl rfl (wanted_none rfl) (r_move rfl) ?_
        refine F.q rfl rfl rfl (wanted_none rfl) (r_fieldAddr tf31_2 rfl) ?_
        refine F.q rfl rfl rfl (wanted_none rfl) (r_load ta23 rfl (fun w hw => cell_1 (box_cells (i := 0) rfl w hw) rfl)) ?_
        refine F.q rfl rfl rfl (wanted_none rfl) (r_move rfl) ?_
        refine F.q rfl rfl rfl (wanted_none rfl) (r_indexAddrS Try.underlying23 ti3 rfl hl_va0_2 rfl (rdl_some h28).1 (rdl_some h28).2.1) ?_
        refine F.q rfl rfl rfl (wanted_none rfl) (r_load ta3 rfl (fun w hw => cell_0 (Rd.flat ((fun _ hw => hr_a0_2.sep hw) w hw) (rdl_some h28).2.2) rfl)) ?_
        refine F.q rfl rfl rfl (wanted_none rfl) (r_or rfl rfl) ?_
        refine F.q rfl rfl rfl (wanted_none rfl) (r_assign rfl) ?_
        refine F.nil ?_
        refine Nrm.block ?_
        refine Nrm.seq ?_
        refine Tri.reg (l := [0, 1]) rfl ?_
        refine F.q rfl rfl rfl (wanted_none rfl) (r_add rfl rfl) ?_
        refine F.q rfl rfl rfl (wanted_none rfl) (r_move rfl) ?_
        refine F.nil ?_
        refine Nrm.round ?_
        refine Rnd.only [2, 5, 6, 7, 8, 18, 19, 20] rfl ?_
        refine Rnd.pick [0, 1, 2] rfl rfl ?_
        exact ih_2 _ _ ⟨bor x8 t28, w64 (x20 + 1), hE_2, rfl, rfl⟩
      · replace hE_2 := if_ff g_1 hE_2
        refine Tri.exit ?_
        refine Exi.then ?_
        refine Exi.then ?_
        refine Exi.same ?_
        cases hE_2
        refine Nrm.seq ?_
        refine Tri.seq ?_
        obtain ⟨hs37, hE_1⟩ := ck hE_1
        refine Tri.reg (l := [0, 1, 2, 3, 4, 5, 6]) rfl ?_
        refine F.q rfl rfl rfl (wanted_none rfl) (r_move rfl) ?_
        refine F.q rfl rfl rfl (wanted_none rfl) (r_move rfl) ?_
        refine F.q rfl rfl rfl (wanted_none rfl) (r_move rfl) ?_
        refine F.q rfl rfl rfl (wanted_none rfl) (r_build (pl := [(0, 1), (1, 1)]) (qs := [(0, [.int .i64 x6]), (1, [.int .i64 t15])]) (cs := [.int .i64 x6, .int .i64 t15]) (by kernel_rfl) ti130 rfl (.cons rfl rfl (Nat.le_of_ble_eq_true rfl) (.cons rfl rfl (Nat.le_of_ble_eq_true rfl) .nil)) rfl rfl) ?_
        refine F.m rfl rfl rfl (wanted_none rfl) (m_buildF (l := ([(x6, t15)] : List (Int × Int))) Try.underlying146 ti130 rfl rfl rfl rfl rfl) ?_
        rintro v36_1 _ ⟨S36_1, hl_v36_1, rfl⟩
        refine F.ef rfl rfl rfl (wanted_none rfl) (d_append (i := 3) Try.underlying146 Try.underlying146 ti130 rfl (by decide) rfl rfl rfl (rd_sl (i := 0) rfl) hs37) ?_
        rintro v37_1 _ ⟨S37_1, rfl, hl_v37_1⟩
        refine F.q rfl rfl rfl (wanted_none rfl) (r_assign rfl) ?_
        refine F.nil ?_
        refine Nrm.seq ?_
        refine Tri.seq ?_
        refine Tri.seq ?_
        refine Tri.reg (l := [0, 1, 2]) rfl ?_
        refine F.q rfl rfl rfl (wanted_none rfl) (r_move rfl) ?_
        refine F.q rfl rfl rfl (wanted_none rfl) (r_move rfl) ?_
        refine F.q rfl rfl rfl (wanted_none rfl) (r_eql rfl rfl) ?_
        refine F.nil ?_
        refine Nrm.seq ?_
        refine Tri.cond (b := x8 == x6) rfl (fun g_2 => ?_) (fun g_2 => ?_)
        · replace hE_1 := if_tt g_2 hE_1
          refine Tri.seq ?_
          refine Tri.reg (l := [0, 1]) rfl ?_
          refine F.q rfl rfl rfl (wanted_none rfl) (r_move rfl) ?_
          refine F.q rfl rfl rfl (wanted_none rfl) (r_assign rfl) ?_
          refine F.nil ?_
          refine Nrm.seq ?_
          refine Tri.ret ?_
          refine Rtn.then ?_
          refine Rtn.block ?_
          refine Rtn.then ?_
          refine Rtn.block ?_
          cases hE_1
          replace h := Lr_inr h
          cases h
          exact Rtn.body (.tmp rfl .nil) (fun w hw => ⟨_, _, rfl, ⟨S37_1, hl_v37_1, rfl⟩, Sep.pick (is := [3]) rfl rfl hw⟩)
        · replace hE_1 := if_ff g_2 hE_1
          refine Tri.skip ?_
          refine Nrm.seq ?_
          refine Tri.reg (l := [0, 1]) rfl ?_
          refine F.q rfl rfl rfl (wanted_none rfl) (r_move rfl) ?_
          refine F.q rfl rfl rfl (wanted_none rfl) (r_assign rfl) ?_
          refine F.nil ?_
          refine Nrm.block ?_
          refine Nrm.round ?_
          refine Rnd.only [2, 5, 6] rfl ?_
          refine Rnd.pick [1, 3] rfl rfl ?_
          exact ih_1 _ _ ⟨x5 ++ ([(x6, t15)] : List (Int × Int)), x8, v37_1, S37_1, hE_1, hl_v37_1, rfl, rfl⟩

end Go.Proofs

/- loop.example/g01158/impl.nodeRounds -/
namespace Go.Proofs
open Go Go.Ga
set_option linter.unusedVariables false
set_option maxRecDepth 100000
set_option maxHeartbeats 4000000
def impl_nodeRounds.l1 (k : Nat) (x17 : Int) (t24 : List Int) : Nat → (List (Int)) → Int → Option ((List (Int)))
  | 0, _, _ => none
  | n + 1, x5r, x26 => (if (decide (x26 < (t24.length : Int))) = true then (rdl t24 x26).bind fun t28 => (rdl x5r t28).bind fun t32 => ((if (t32 == 0) = true then (rdl x5r t28).bind fun t39 => some (x5r.set t28.toNat (w64 (x17 + 1))) else some x5r)).bind fun y5 => impl_nodeRounds.l1 k x17 t24 n y5 (w64 (x26 + 1)) else some x5r)

def impl_nodeRounds.l0 (k : Nat) (t15 : List (Int × Int)) : Nat → (List (Int)) → Int → Option ((List (Int)))
  | 0, _, _ => none
  | n + 1, x5, x17 => (if (decide (x17 < (t15.length : Int))) = true then (rdl t15 x17).bind fun t20 => (impl_members.f k t20.2).bind fun t24 => (impl_nodeRounds.l1 k x17 t24 k x5 0).bind fun x5r => impl_nodeRounds.l0 k t15 n x5r (w64 (x17 + 1)) else some x5)

def impl_nodeRounds.f (k : Nat) (a0_0 : Int) (a0_1 : List (Int × Int × Int)) (a0_2 : List Int) (a1 : Int) : Option ((List Int)) := if 0 ≤ a0_0 ∧ a0_0 < 1099511627776 then (impl_rounds.f k a0_0 a0_1 a0_2 a1).bind fun t15 => (impl_nodeRounds.l0 k t15 k (List.replicate (a0_0).toNat (0 : Int)) 0).bind fun x5 => some x5 else none

theorem impl_nodeRounds.ok {k : Nat}  {a0_0 : Int} {a0_1 : List (Int × Int × Int)} {a0_2 : List Int} {a1 : Int} {r0 : List Int} (h : impl_nodeRounds.f k a0_0 a0_1 a0_2 a1 = some r0) (w : World) {va0_1 : Value} {va0_2 : Value} (hr_a0_1 : Rd w va0_1 a0_1) (hr_a0_2 : Rd w va0_2 a0_2) :
    Calls Try.prog 103 ([.agg ([.int .i64 a0_0, va0_1, va0_2].toArray), .int .i64 a1] : List Value).toArray w (Post (fun u ns => ∃ (Sr0 : Nat → Prop), SlLen u r0.length ∧ ns = [R.sl Sr0 u r0]) w) := by
  unfold impl_nodeRounds.f at h
  have hl_va0_1 := hr_a0_1.len
  have hl_va0_2 := hr_a0_2.len
  refine Calls.of_tri (N := 43) Try.func103 rfl rfl rfl (Sep.nil (M := noM)) ?_
  refine Tri.seq ?_
  refine Tri.reg (l := [0, 1]) rfl ?_
  refine F.m rfl rfl rfl (wanted_none rfl) (m_boxG rfl rfl) ?_
  rintro _ _ ⟨b2_1, rfl, rfl⟩
  refine F.q rfl rfl rfl (wanted_none rfl) (r_assign rfl) ?_
  refine F.nil ?_
  refine Nrm.seq ?_
  refine Tri.seq ?_
  obtain ⟨hm12, h⟩ := ck h
  refine Tri.reg (l := [0, 1, 2, 3]) rfl ?_
  refine F.q rfl rfl rfl (wanted_none rfl) (r_fieldAddr tf31_0 rfl) ?_
  refine F.q rfl rfl rfl (wanted_none rfl) (r_load ta3 rfl (fun w hw => cell_1 (box_cells (i := 0) rfl w hw) rfl)) ?_
  refine F.m rfl rfl rfl (wanted_none rfl) (m_make (x0 := (0 : Int)) Try.underlying23 ti3 rfl rfl rfl hm12.1 hm12.2 (by decide)) ?_
  rintro v12_1 _ ⟨S12_1, hl_v12_1, rfl⟩
  refine F.q rfl rfl rfl (wanted_none rfl) (r_assign rfl) ?_
  refine F.nil ?_
  refine Nrm.seq ?_
  refine Tri.seq ?_
  refine Tri.seq ?_
  obtain ⟨t15, h15, h⟩ := bind_some h
  refine Tri.reg (l := [0, 1, 2, 3, 4]) rfl ?_
  refine F.q rfl rfl rfl (wanted_none rfl) (r_loadA ta31 ti31 rfl rfl (fun w hw => (box_cells (i := 1) rfl w hw))) ?_
  refine F.q rfl rfl rfl (wanted_none rfl) (r_move rfl) ?_
  refine F.m rfl rfl rfl (wanted_none rfl) (m_callF (xs := _) rfl ok144 rfl rfl (fun w hw => impl_rounds.ok h15 w ((fun _ hw => hr_a0_1.sep hw) w hw) ((fun _ hw => hr_a0_2.sep hw) w hw))) ?_
  rintro v15_1 _ ⟨_, ⟨S15_1, hl_v15_1, rfl⟩, rfl⟩
  refine F.q rfl rfl rfl (wanted_none rfl) (r_len Try.underlying146 rfl hl_v15_1) ?_
  refine F.q rfl rfl rfl (wanted_none rfl) (r_move rfl) ?_
  refine F.nil ?_
  refine Nrm.seq ?_
  obtain ⟨x5, hE_1, h⟩ := bind_some h
  refine Tri.block ?_
  refine Tri.only [5, 15, 16, 17] rfl ?_
  refine Tri.pick [0, 1] rfl rfl ?_
  refine Tri.rounds (fun n e' C' => ∃ (x5' : List (Int)) (x17' : Int) (w5 : Value) (T5 : Nat → Prop), impl_nodeRounds.l0 k t15 n x5' x17' = some x5 ∧ SlLen w5 (x5').length ∧ e' = [(5, w5), (15, v15_1), (16, .int .i64 (t15.length : Int)), (17, .int .i64 x17')] ∧ C' = Sep w noM [R.sl S15_1 v15_1 (t15 : List (Int × Int)), R.sl T5 w5 (x5' : List (Int))]) k ?_ ?_ ?_
  · exact ⟨List.replicate (a0_0).toNat (0 : Int), 0, v12_1, S12_1, hE_1, hl_v12_1, rfl, rfl⟩
  · rintro _ _ ⟨_, _, _, _, hE_1, _⟩
    rw [impl_nodeRounds.l0.eq_1] at hE_1; cases hE_1
  · rintro n_1 _ _ ⟨x5, x17, w5, T5, hE_1, hl_w5, rfl, rfl⟩ ih_1
    rw [impl_nodeRounds.l0.eq_2] at hE_1
    refine Tri.seq ?_
    refine Tri.reg (l := [0]) rfl ?_
    refine F.q rfl rfl rfl (wanted_none rfl) (r_lss rfl rfl) ?_
    refine F.nil ?_
    refine Nrm.seq ?_
    refine Tri.seq ?_
    refine Tri.cond (b := decide (x17 < (t15.length : Int))) rfl (fun g_1 => ?_) (fun g_1 => ?_)
    · replace hE_1 := if_tt g_1 hE_1
      refine Tri.skip ?_
      refine Nrm.seq ?_
      refine Tri.seq ?_
      refine Tri.block ?_
      refine Tri.seq ?_
      obtain ⟨t20, h20, hE_1⟩ := bind_some hE_1
      refine Tri.reg (l := [0, 1, 2, 3, 4, 5]) rfl ?_
      refine F.q rfl rfl rfl (wanted_none rfl) (r_move rfl) ?_
      refine F.q rfl rfl rfl (wanted_none rfl) (r_indexAddrS Try.underlying146 ti130 rfl hl_v15_1 rfl (rdl_some h20).1 (rdl_some h20).2.1) ?_
      refine F.q rfl rfl rfl (wanted_none rfl) (r_loadA ta130 ti130 rfl rfl (fun w hw => (Rd.flat ((rd_sl (i := 0) rfl) w hw) (rdl_some h20).2.2))) ?_
      refine F.m rfl rfl rfl (wanted_none rfl) (m_alloc ti130) ?_
      rintro _ _ ⟨b7_1, rfl, rfl⟩
      refine F.q rfl rfl rfl (wanted_none rfl) (r_assign rfl) ?_
      refine F.ef0 rfl rfl (wanted_none rfl) (d_storeG0 (i := 0) (cs2 := [.int .i64 t20.1, .int .i64 t20.2]) ti130 rfl rfl rfl rfl rfl (Nat.le_of_ble_eq_true rfl) (lf_cons rfl (lf_cons rfl lf_nil))) ?_
      rintro _ _ ⟨rfl, rfl⟩
      refine F.nil ?_
      refine Nrm.seq ?_
      refine Tri.seq ?_
      obtain ⟨t24, h24, hE_1⟩ := bind_some hE_1
      refine Tri.reg (l := [0, 1, 2, 3, 4]) rfl ?_
      refine F.q rfl rfl rfl (wanted_none rfl) (r_fieldAddr tf130_1 rfl) ?_
      refine F.q rfl rfl rfl (wanted_none rfl) (r_load ta3 rfl (fun w hw => cell_1 (box_cells (i := 0) rfl w hw) rfl)) ?_
      refine F.m rfl rfl rfl (wanted_none rfl) (m_callF (xs := _) rfl ok68 rfl rfl (fun w hw => impl_members.ok h24 w )) ?_
      rintro v24_1 _ ⟨_, ⟨S24_1, hl_v24_1, rfl⟩, rfl⟩
      refine F.q rfl rfl rfl (wanted_none rfl) (r_len Try.underlying23 rfl hl_v24_1) ?_
      refine F.q rfl rfl rfl (wanted_none rfl) (r_move rfl) ?_
      refine F.nil ?_
      refine Nrm.seq ?_
      obtain ⟨x5r, hE_2, hE_1⟩ := bind_some hE_1
      refine Tri.block ?_
      refine Tri.only [5, 6, 15, 16, 17, 24, 25, 26] rfl ?_
      refine Tri.pick [0, 2, 3] rfl rfl ?_
      refine Tri.rounds (fun n e' C' => ∃ (x5r' : List (Int)) (x26' : Int) (w5r : Value) (T5r : Nat → Prop), impl_nodeRounds.l1 k x17 t24 n x5r' x26' = some x5r ∧ SlLen w5r (x5r').length ∧ e' = [(5, w5r), (6, .int .i64 x17), (15, v15_1), (16, .int .i64 (t15.length : Int)), (17, .int .i64 x17), (24, v24_1), (25, .int .i64 (t24.length : Int)), (26, .int .i64 x26')] ∧ C' = Sep w noM [R.sl S24_1 v24_1 (t24 : List (Int)), R.sl S15_1 v15_1 (t15 : List (Int × Int)), R.sl T5r w5r (x5r' : List (Int))]) k ?_ ?_ ?_
      · exact ⟨x5, 0, w5, T5, hE_2, hl_w5, rfl, rfl⟩
      · rintro _ _ ⟨_, _, _, _, hE_2, _⟩
        rw [impl_nodeRounds.l1.eq_1] at hE_2; cases hE_2
      · rintro n_2 _ _ ⟨x5r, x26, w5r, T5r, hE_2, hl_w5r, rfl, rfl⟩ ih_2
        rw [impl_nodeRounds.l1.eq_2] at hE_2
        refine Tri.seq ?_
        refine Tri.reg (l := [0]) rfl ?_
        refine F.q rfl rfl rfl (wanted_none rfl) (r_lss rfl rfl) ?_
        refine F.nil ?_
        refine Nrm.seq ?_
        refine Tri.seq ?_
        refine Tri.cond (b := decide (x26 < (t24.length : Int))) rfl (fun g_2 => ?_) (fun g_2 => ?_)
        · replace hE_2 := if_tt g_2 hE_2
          refine Tri.skip ?_
          refine Nrm.seq ?_
          refine Tri.seq ?_
          refine Tri.block ?_
          refine Tri.seq ?_
          obtain ⟨t28, h28, hE_2⟩ := bind_some hE_2
          refine Tri.reg (l := [0, 1, 2]) rfl ?_
          refine F.q rfl rfl rfl (wanted_none rfl) (r_indexAddrS Try.underlying23 ti3 rfl hl_v24_1 rfl (rdl_some h28).1 (rdl_some h28).2.1) ?_
          refine F.q rfl rfl rfl (wanted_none rfl) (r_load ta3 rfl (fun w hw => cell_0 (Rd.flat ((rd_sl (i := 0) rfl) w hw) (rdl_some h28).2.2) rfl)) ?_
          refine F.q rfl rfl rfl (wanted_none rfl) (r_assign rfl) ?_
          refine F.nil ?_
          refine Nrm.seq ?_
          refine Tri.seq ?_
          obtain ⟨t32, h32, hE_2⟩ := bind_some hE_2
          refine Tri.reg (l := [0, 1, 2, 3, 4]) rfl ?_
          refine F.q rfl rfl rfl (wanted_none rfl) (r_move rfl) ?_
          refine F.q rfl rfl rfl (wanted_none rfl) (r_move rfl) ?_
          refine F.q rfl rfl rfl (wanted_none rfl) (r_indexAddrS Try.underlying23 ti3 rfl hl_w5r rfl (rdl_some h32).1 (rdl_some h32).2.1) ?_
          refine F.q rfl rfl rfl (wanted_none rfl) (r_load ta3 rfl (fun w hw => cell_0 (Rd.flat ((rd_sl (i := 2) rfl) w hw) (rdl_some h32).2.2) rfl)) ?_
          refine F.q rfl rfl rfl (wanted_none rfl) (r_eql rfl rfl) ?_
          refine F.nil ?_
          refine Nrm.seq ?_
          obtain ⟨y5, hE_3, hE_2⟩ := bind_some hE_2
          refine Tri.cut (fun e' C' => ∃ (v5_1 : Value) (S5_1 : Nat → Prop), SlLen v5_1 (y5).length ∧ e' = [(5, v5_1), (6, .int .i64 x17), (15, v15_1), (16, .int .i64 (t15.length : Int)), (17, .int .i64 x17), (24, v24_1), (25, .int .i64 (t24.length : Int)), (26, .int .i64 x26)] ∧ C' = Sep w noM [R.sl S5_1 v5_1 (y5 : List (Int)), R.sl S15_1 v15_1 (t15 : List (Int × Int)), R.sl S24_1 v24_1 (t24 : List (Int))]) ?_ (fun hj_1 => ?_)
          · rintro _ _ ⟨v5_1, S5_1, hl_v5_1, rfl, rfl⟩
            refine Nrm.block ?_
            refine Nrm.seq ?_
            refine Tri.reg (l := [0, 1]) rfl ?_
            refine F.q rfl rfl rfl (wanted_none rfl) (r_add rfl rfl) ?_
            refine F.q rfl rfl rfl (wanted_none rfl) (r_move rfl) ?_
            refine F.nil ?_
            refine Nrm.round ?_
            refine Rnd.only [5, 6, 15, 16, 17, 24, 25, 26] rfl ?_
            refine Rnd.pick [2, 1, 0] rfl rfl ?_
            exact ih_2 _ _ ⟨y5, w64 (x26 + 1), v5_1, S5_1, hE_2, hl_v5_1, rfl, rfl⟩
          · refine Tri.cond (b := t32 == 0) rfl (fun g_3 => ?_) (fun g_3 => ?_)
            · replace hE_3 := if_tt g_3 hE_3
              obtain ⟨t39, h39, hE_3⟩ := bind_some hE_3
              refine Tri.reg (l := [0, 1, 2, 3, 4, 5]) rfl ?_
              refine F.q rfl rfl rfl (wanted_none rfl) (r_move rfl) ?_
              refine F.q rfl rfl rfl (wanted_none rfl) (r_move rfl) ?_
              refine F.q rfl rfl rfl (wanted_none rfl) (r_move rfl) ?_
              refine F.q rfl rfl rfl (wanted_none rfl) (r_add rfl rfl) ?_
              refine F.q rfl rfl rfl (wanted_none rfl) (r_indexAddrS Try.underlying23 ti3 rfl hl_w5r rfl (rdl_some h39).1 (rdl_some h39).2.1) ?_
              refine F.ef0 rfl rfl (wanted_none rfl) (d_storeE (i := 2) (x1 := w64 (x17 + 1)) ti3 rfl rfl rfl (rdl_some h39) rfl) ?_
              rintro _ _ ⟨rfl, rfl⟩
              refine F.nil ?_
              cases hE_3
              refine Nrm.only [5, 6, 15, 16, 17, 24, 25, 26] rfl ?_
              refine Nrm.pick [2, 1, 0] rfl rfl ?_
              exact hj_1 _ _ ⟨w5r, T5r, (len_set hl_w5r), rfl, rfl⟩
            · replace hE_3 := if_ff g_3 hE_3
              refine Tri.skip ?_
              cases hE_3
              refine Nrm.only [5, 6, 15, 16, 17, 24, 25, 26] rfl ?_
              refine Nrm.pick [2, 1, 0] rfl rfl ?_
              exact hj_1 _ _ ⟨w5r, T5r, hl_w5r, rfl, rfl⟩
        · replace hE_2 := if_ff g_2 hE_2
          refine Tri.exit ?_
          refine Exi.then ?_
          refine Exi.then ?_
          refine Exi.same ?_
          cases hE_2
          refine Nrm.block ?_
          refine Nrm.seq ?_
          refine Tri.reg (l := [0, 1]) rfl ?_
          refine F.q rfl rfl rfl (wanted_none rfl) (r_add rfl rfl) ?_
          refine F.q rfl rfl rfl (wanted_none rfl) (r_move rfl) ?_
          refine F.nil ?_
          refine Nrm.round ?_
          refine Rnd.only [5, 15, 16, 17] rfl ?_
          refine Rnd.pick [1, 2] rfl rfl ?_
          exact ih_1 _ _ ⟨x5r, w64 (x17 + 1), w5r, T5r, hE_1, hl_w5r, rfl, rfl⟩
    · replace hE_1 := if_ff g_1 hE_1
      refine Tri.exit ?_
      refine Exi.then ?_
      refine Exi.then ?_
      refine Exi.same ?_
      cases hE_1
      refine Nrm.seq ?_
      refine Tri.seq ?_
      refine Tri.reg (l := [0, 1]) rfl ?_
      refine F.q rfl rfl rfl (wanted_none rfl) (r_move rfl) ?_
      refine F.q rfl rfl rfl (wanted_none rfl) (r_assign rfl) ?_
      refine F.nil ?_
      refine Nrm.seq ?_
      refine Tri.ret ?_
      cases h
      exact Rtn.body (.tmp rfl .nil) (fun w hw => ⟨_, _, rfl, ⟨T5, hl_w5, rfl⟩, Sep.pick (is := [1]) rfl rfl hw⟩)

end Go.Proofs

/- slices.Clone[[][3]int,[3]int] -/

namespace Go.Proofs
open Go Go.Ga
set_option linter.unusedVariables false
set_option maxRecDepth 100000
set_option maxHeartbeats 4000000
def slices_Clone__3int__3int.f (k : Nat) (a0 : List (Int × Int × Int)) : Option ((List (Int × Int × Int))) := if (([] : List (Int × Int × Int)) ++ a0).length < 1099511627776 then some (([] : List (Int × Int × Int)) ++ a0) else none

theorem slices_Clone__3int__3int.ok {k : Nat}  {a0 : List (Int × Int × Int)} {r0 : List (Int × Int × Int)} (h : slices_Clone__3int__3int.f k a0 = some r0) (w : World) {va0 : Value} (hr_a0 : Rd w va0 a0) :
    Calls Try.prog 167 ([va0] : List Value).toArray w (Post (fun u ns => ∃ (Sr0 : Nat → Prop), SlLen u r0.length ∧ ns = [R.sl Sr0 u r0]) w) := by
  unfold slices_Clone__3int__3int.f at h
  have hl_va0 := hr_a0.len
  rcases Rd.cases hr_a0 with ⟨rfl, rfl⟩ | ⟨pa0, ca0, rfl⟩
  · replace h : some [] = some r0 := by simpa using h
    refine Calls.of_tri (N := 8) Try.func167 rfl rfl rfl (Sep.nil (M := noM)) ?_
    refine Tri.seq ?_
    refine Tri.reg (l := [0]) rfl ?_
    refine F.q rfl rfl rfl (wanted_none rfl) (r_assign rfl) ?_
    refine F.nil ?_
    refine Nrm.seq ?_
    refine Tri.seq ?_
    refine Tri.seq ?_
    refine Tri.reg (l := [0, 1]) rfl ?_
    refine F.q rfl rfl rfl (wanted_none rfl) (r_move rfl) ?_
    refine F.q rfl rfl rfl (wanted_none rfl) (r_eqlNN Try.underlying22 rfl rfl) ?_
    refine F.nil ?_
    refine Nrm.seq ?_
    refine Tri.condT rfl rfl ?_
    refine Tri.seq ?_
    refine Tri.reg (l := [0]) rfl ?_
    refine F.q rfl rfl rfl (wanted_none rfl) (r_assign rfl) ?_
    refine F.nil ?_
    refine Nrm.seq ?_
    refine Tri.ret ?_
    refine Rtn.then ?_
    cases h
    exact Rtn.body (.tmp rfl .nil) (fun w hw => ⟨_, _, rfl, ⟨fun _ => False, len_nil, rfl⟩, Sep.pick (is := [0]) rfl rfl hw.pushNil⟩)
  · refine Calls.of_tri (N := 8) Try.func167 rfl rfl rfl (Sep.nil (M := noM)) ?_
    refine Tri.seq ?_
    refine Tri.reg (l := [0]) rfl ?_
    refine F.q rfl rfl rfl (wanted_none rfl) (r_assign rfl) ?_
    refine F.nil ?_
    refine Nrm.seq ?_
    refine Tri.seq ?_
    refine Tri.seq ?_
    refine Tri.reg (l := [0, 1]) rfl ?_
    refine F.q rfl rfl rfl (wanted_none rfl) (r_move rfl) ?_
    refine F.q rfl rfl rfl (wanted_none rfl) (r_eqlN Try.underlying22 rfl rfl ⟨_, _, rfl⟩) ?_
    refine F.nil ?_
    refine Nrm.seq ?_
    refine Tri.condF rfl rfl ?_
    refine Tri.skip ?_
    refine Nrm.seq ?_
    refine Tri.seq ?_
    obtain ⟨hs7, h⟩ := ck h
    refine Tri.reg (l := [0, 1, 2, 3]) rfl ?_
    refine F.m rfl rfl rfl (wanted_none rfl) (m_build0 (α := Int × Int × Int) Try.underlying22 ti116) ?_
    rintro v5_1 _ ⟨S5_1, hl_v5_1, rfl⟩
    refine F.q rfl rfl rfl (wanted_none rfl) (r_move rfl) ?_
    refine F.ef rfl rfl rfl (wanted_none rfl) (d_append (i := 0) Try.underlying22 Try.underlying22 ti116 rfl (by decide) rfl rfl rfl (fun _ hw => hr_a0.sep hw) hs7) ?_
    rintro v7_1 _ ⟨S7_1, rfl, hl_v7_1⟩
    refine F.q rfl rfl rfl (wanted_none rfl) (r_assign rfl) ?_
    refine F.nil ?_
    refine Nrm.seq ?_
    refine Tri.ret ?_
    cases h
    exact Rtn.body (.tmp rfl .nil) (fun w hw => ⟨_, _, rfl, ⟨S7_1, hl_v7_1, rfl⟩, Sep.pick (is := [0]) rfl rfl hw⟩)

end Go.Proofs

/- loop.example/g01158/impl.own -/
namespace Go.Proofs
open Go Go.Ga
set_option linter.unusedVariables false
set_option maxRecDepth 100000
set_option maxHeartbeats 4000000
def impl_own.f (k : Nat) (a0_0 : Int) (a0_1 : List (Int × Int × Int)) (a0_2 : List Int) : Option (Int × (List (Int × Int × Int)) × (List Int)) := (slices_Clone__3int__3int.f k a0_1).bind fun t7 => (slices_Clone_int_int.f k a0_2).bind fun t10 => some (a0_0, t7, t10)

theorem impl_own.ok {k : Nat}  {a0_0 : Int} {a0_1 : List (Int × Int × Int)} {a0_2 : List Int} {r0 : Int} {r1 : List (Int × Int × Int)} {r2 : List Int} (h : impl_own.f k a0_0 a0_1 a0_2 = some (r0, r1, r2)) (w : World) {va0_1 : Value} {va0_2 : Value} (hr_a0_1 : Rd w va0_1 a0_1) (hr_a0_2 : Rd w va0_2 a0_2) :
    Calls Try.prog 145 ([.agg ([.int .i64 a0_0, va0_1, va0_2].toArray)] : List Value).toArray w (Post (fun u ns => ∃ (ur1 : Value) (Sr1 : Nat → Prop) (ur2 : Value) (Sr2 : Nat → Prop), u = .agg [.int .i64 r0, ur1, ur2].toArray ∧ SlLen ur1 r1.length ∧ SlLen ur2 r2.length ∧ ns = [R.sl Sr1 ur1 r1, R.sl Sr2 ur2 r2]) w) := by
  unfold impl_own.f at h
  have hl_va0_1 := hr_a0_1.len
  have hl_va0_2 := hr_a0_2.len
  refine Calls.of_tri (N := 12) Try.func145 rfl rfl rfl (Sep.nil (M := noM)) ?_
  refine Tri.seq ?_
  refine Tri.reg (l := [0, 1]) rfl ?_
  refine F.m rfl rfl rfl (wanted_none rfl) (m_boxG rfl rfl) ?_
  rintro _ _ ⟨b1_1, rfl, rfl⟩
  refine F.m rfl rfl rfl (wanted_none rfl) (m_alloc ti31) ?_
  rintro _ _ ⟨b2_1, rfl, rfl⟩
  refine F.nil ?_
  refine Nrm.seq ?_
  refine Tri.seq ?_
  obtain ⟨t7, h7, h⟩ := bind_some h
  obtain ⟨t10, h10, h⟩ := bind_some h
  refine Tri.drawA mixedT Sep.up [(0, true), (1, true), (2, true), (3, true), (5, true), (6, true), (4, false), (7, false), (8, true)] [9] (by kernel_rfl) ?_
  refine S.q rfl rfl rfl (wanted_none rfl) (r_fieldAddr tf31_0 rfl) ?_
  refine S.q rfl rfl rfl (wanted_none rfl) (r_load ta3 rfl (fun w hw => cell_1 (box_cells (i := 1) rfl w hw) rfl)) ?_
  refine S.q rfl rfl rfl (wanted_none rfl) (r_fieldAddr tf31_1 rfl) ?_
  refine S.q rfl rfl rfl (wanted_none rfl) (r_load ta22 rfl (fun w hw => cell_1 (box_cells (i := 1) rfl w hw) rfl)) ?_
  refine S.q rfl rfl rfl (wanted_none rfl) (r_fieldAddr tf31_2 rfl) ?_
  refine S.q rfl rfl rfl (wanted_none rfl) (r_load ta23 rfl (fun w hw => cell_1 (box_cells (i := 1) rfl w hw) rfl)) ?_
  refine S.m rfl rfl rfl (wanted_none rfl) (m_callF (xs := _) rfl ok167 rfl rfl (fun w hw => slices_Clone__3int__3int.ok h7 w ((fun _ hw => hr_a0_1.sep hw) w hw))) ?_
  rintro v7_2 _ ⟨_, ⟨S7_2, hl_v7_2, rfl⟩, rfl⟩
  refine S.m rfl rfl rfl (wanted_none rfl) (m_callF (xs := _) rfl ok105 rfl rfl (fun w hw => slices_Clone_int_int.ok h10 w ((fun _ hw => hr_a0_2.sep hw) w hw))) ?_
  rintro v10_2 _ ⟨_, ⟨S10_2, hl_v10_2, rfl⟩, rfl⟩
  refine S.q rfl rfl rfl (wanted_none rfl) (r_build (pl := [(0, 1), (1, 1), (2, 1)]) (qs := [(0, [.int .i64 a0_0]), (1, [v7_2]), (2, [v10_2])]) (cs := [.int .i64 a0_0, v7_2, v10_2]) (by kernel_rfl) ti31 rfl (.cons rfl rfl (Nat.le_of_ble_eq_true rfl) (.cons (sl_cells hl_v7_2) rfl (Nat.le_of_ble_eq_true rfl) (.cons (sl_cells hl_v10_2) rfl (Nat.le_of_ble_eq_true rfl) .nil))) rfl rfl) ?_
  refine S.nil ?_
  refine F.ef0 rfl rfl (wanted_none rfl) (d_storeG0 (i := 2) (cs2 := [.int .i64 a0_0, v7_2, v10_2]) ti31 rfl rfl rfl rfl rfl (Nat.le_of_ble_eq_true rfl) (lf_cons rfl (lf_cons (sl_leaf hl_v7_2) (lf_cons (sl_leaf hl_v10_2) lf_nil)))) ?_
  rintro _ _ ⟨rfl, rfl⟩
  refine F.nil ?_
  refine Nrm.seq ?_
  refine Tri.ret ?_
  cases h
  exact Rtn.body (.cell rfl ta31 ti31 rfl (fun _ hw => box_cells (i := 2) rfl _ hw) .nil) (fun w hw => ⟨_, _, rfl, ⟨v7_2, S7_2, v10_2, S10_2, rfl, hl_v7_2, hl_v10_2, rfl⟩, Sep.pick (is := [1, 0]) rfl rfl hw⟩)

end Go.Proofs

/- loop.example/g01158/impl.laid -/
namespace Go.Proofs
open Go Go.Ga
set_option linter.unusedVariables false
set_option maxRecDepth 100000
set_option maxHeartbeats 4000000
def impl_laid.l0 (k : Nat) (a1 : List Int) (a2 : List Int) : Nat → Int → (List (Int)) → Option ((List (Int)))
  | 0, _, _ => none
  | n + 1, x16, xq7_1_2 => (if (decide (x16 < (a2.length : Int))) = true then (rdl a2 x16).bind fun t19 => (rdl xq7_1_2 t19).bind fun t24 => (rdl a1 x16).bind fun t28 => if ¬ t28 < 0 then (rdl xq7_1_2 t19).bind fun t32 => impl_laid.l0 k a1 a2 n (w64 (x16 + 1)) (xq7_1_2.set t19.toNat (bor t24 (shl 1 t28))) else none else some xq7_1_2)

def impl_laid.f (k : Nat) (a0_0 : Int) (a0_1 : List (Int × Int × Int)) (a0_2 : List Int) (a1 : List Int) (a2 : List Int) : Option (Int × (List (Int × Int × Int)) × (List Int)) := (impl_own.f k a0_0 a0_1 a0_2).bind fun (t11_1, t11_2, t11_3) => (impl_laid.l0 k a1 a2 k 0 (List.replicate t11_3.length (0 : Int))).bind fun xq7_1_2 => some (t11_1, t11_2, xq7_1_2)

theorem impl_laid.ok {k : Nat}  {a0_0 : Int} {a0_1 : List (Int × Int × Int)} {a0_2 : List Int} {a1 : List Int} {a2 : List Int} {r0 : Int} {r1 : List (Int × Int × Int)} {r2 : List Int} (h : impl_laid.f k a0_0 a0_1 a0_2 a1 a2 = some (r0, r1, r2)) (w : World) {va0_1 : Value} {va0_2 : Value} {va1 : Value} {va2 : Value} (hr_a0_1 : Rd w va0_1 a0_1) (hr_a0_2 : Rd w va0_2 a0_2) (hr_a1 : Rd w va1 a1) (hr_a2 : Rd w va2 a2) :
    Calls Try.prog 104 ([.agg ([.int .i64 a0_0, va0_1, va0_2].toArray), va1, va2] : List Value).toArray w (Post (fun u ns => ∃ (ur1 : Value) (Sr1 : Nat → Prop) (ur2 : Value) (Sr2 : Nat → Prop), u = .agg [.int .i64 r0, ur1, ur2].toArray ∧ SlLen ur1 r1.length ∧ SlLen ur2 r2.length ∧ ns = [R.sl Sr1 ur1 r1, R.sl Sr2 ur2 r2]) w) := by
  unfold impl_laid.f at h
  have hl_va0_1 := hr_a0_1.len
  have hl_va0_2 := hr_a0_2.len
  have hl_va1 := hr_a1.len
  have hl_va2 := hr_a2.len
  refine Calls.of_tri (N := 35) Try.func104 rfl rfl rfl (Sep.nil (M := noM)) ?_
  refine Tri.seq ?_
  refine Tri.reg (l := [0, 1]) rfl ?_
  refine F.m rfl rfl rfl (wanted_none rfl) (m_boxG rfl rfl) ?_
  rintro _ _ ⟨b3_1, rfl, rfl⟩
  refine F.m rfl rfl rfl (wanted_none rfl) (m_alloc ti31) ?_
  rintro _ _ ⟨b6_1, rfl, rfl⟩
  refine F.nil ?_
  refine Nrm.seq ?_
  refine Tri.seq ?_
  obtain ⟨⟨t11_1, t11_2, t11_3⟩, h11, h⟩ := bind_some h
  refine Tri.reg (l := [0, 1, 2, 3]) rfl ?_
  refine F.q rfl rfl rfl (wanted_none rfl) (r_loadA ta31 ti31 rfl rfl (fun w hw => (box_cells (i := 1) rfl w hw))) ?_
  refine F.m rfl rfl rfl (wanted_none rfl) (m_callF (xs := _) rfl ok145 rfl rfl (fun w hw => impl_own.ok h11 w ((fun _ hw => hr_a0_1.sep hw) w hw) ((fun _ hw => hr_a0_2.sep hw) w hw))) ?_
  rintro _ _ ⟨_, ⟨v11_1, S11_1, v11_2, S11_2, rfl, hl_v11_1, hl_v11_2, rfl⟩, rfl⟩
  refine F.m rfl rfl rfl (wanted_none rfl) (m_alloc ti31) ?_
  rintro _ _ ⟨b7_1, rfl, rfl⟩
  refine F.ef0 rfl rfl (wanted_none rfl) (d_storeG0 (i := 0) (cs2 := [.int .i64 t11_1, v11_1, v11_2]) ti31 rfl rfl rfl rfl rfl (Nat.le_of_ble_eq_true rfl) (lf_cons rfl (lf_cons (sl_leaf hl_v11_1) (lf_cons (sl_leaf hl_v11_2) lf_nil)))) ?_
  rintro _ _ ⟨rfl, rfl⟩
  refine F.nil ?_
  refine Nrm.seq ?_
  refine Tri.seq ?_
  refine Tri.reg (l := [0, 1, 2]) rfl ?_
  refine F.q rfl rfl rfl (wanted_none rfl) (r_fieldAddr tf31_2 rfl) ?_
  refine F.q rfl rfl rfl (wanted_none rfl) (r_load ta23 rfl (fun w hw => cell_1 (box_cells (i := 0) rfl w hw) rfl)) ?_
  refine F.ef0 rfl rfl (wanted_none rfl) (d_clear0 (i := 2) (x0 := (0 : Int)) Try.underlying23 ti3 rfl rfl rfl) ?_
  rintro _ _ rfl
  refine F.nil ?_
  refine Nrm.seq ?_
  refine Tri.seq ?_
  refine Tri.seq ?_
  refine Tri.reg (l := [0, 1, 2]) rfl ?_
  refine F.q rfl rfl rfl (wanted_none rfl) (r_move rfl) ?_
  refine F.q rfl rfl rfl (wanted_none rfl) (r_len Try.underlying23 rfl hl_va2) ?_
  refine F.q rfl rfl rfl (wanted_none rfl) (r_move rfl) ?_
  refine F.nil ?_
  refine Nrm.seq ?_
  obtain ⟨xq7_1_2, hE_1, h⟩ := bind_some h
  refine Tri.block ?_
  refine Tri.only [1, 6, 7, 14, 15, 16] rfl ?_
  refine Tri.pick [0, 3, 1, 2] rfl rfl ?_
  refine Tri.rounds (fun n e' C' => ∃ (x16' : Int) (xq7_1_2' : List (Int)), impl_laid.l0 k a1 a2 n x16' xq7_1_2' = some xq7_1_2 ∧ SlLen v11_2 (xq7_1_2').length ∧ e' = [(1, va1), (6, .pointer (some ⟨b6_1, 0, none⟩)), (7, .pointer (some ⟨b7_1, 0, none⟩)), (14, va2), (15, .int .i64 (a2.length : Int)), (16, .int .i64 x16')] ∧ C' = Sep w noM [R.box b7_1 31 [.int .i64 t11_1, v11_1, v11_2], R.box b6_1 31 [.int .i64 0, .slice none 0 0, .slice none 0 0], R.sl S11_1 v11_1 (t11_2 : List (Int × Int × Int)), R.sl S11_2 v11_2 (xq7_1_2' : List (Int))]) k ?_ ?_ ?_
  · exact ⟨0, List.replicate t11_3.length (0 : Int), hE_1, (clr0_len hl_v11_2), rfl, rfl⟩
  · rintro _ _ ⟨_, _, hE_1, _⟩
    rw [impl_laid.l0.eq_1] at hE_1; cases hE_1
  · rintro n_1 _ _ ⟨x16, xq7_1_2, hE_1, hl_xq7_1_2, rfl, rfl⟩ ih_1
    rw [impl_laid.l0.eq_2] at hE_1
    refine Tri.seq ?_
    refine Tri.reg (l := [0]) rfl ?_
    refine F.q rfl rfl rfl (wanted_none rfl) (r_lss rfl rfl) ?_
    refine F.nil ?_
    refine Nrm.seq ?_
    refine Tri.seq ?_
    refine Tri.cond (b := decide (x16 < (a2.length : Int))) rfl (fun g_1 => ?_) (fun g_1 => ?_)
    · replace hE_1 := if_tt g_1 hE_1
      refine Tri.skip ?_
      refine Nrm.seq ?_
      refine Tri.seq ?_
      refine Tri.block ?_
      refine Tri.seq ?_
      obtain ⟨t19, h19, hE_1⟩ := bind_some hE_1
      refine Tri.reg (l := [0, 1, 2, 3, 4]) rfl ?_
      refine F.q rfl rfl rfl (wanted_none rfl) (r_move rfl) ?_
      refine F.q rfl rfl rfl (wanted_none rfl) (r_indexAddrS Try.underlying23 ti3 rfl hl_va2 rfl (rdl_some h19).1 (rdl_some h19).2.1) ?_
      refine F.q rfl rfl rfl (wanted_none rfl) (r_load ta3 rfl (fun w hw => cell_0 (Rd.flat ((fun _ hw => hr_a2.sep hw) w hw) (rdl_some h19).2.2) rfl)) ?_
      refine F.q rfl rfl rfl (wanted_none rfl) (r_assign rfl) ?_
      refine F.q rfl rfl rfl (wanted_none rfl) (r_assign rfl) ?_
      refine F.nil ?_
      refine Nrm.seq ?_
      obtain ⟨t24, h24, hE_1⟩ := bind_some hE_1
      obtain ⟨t28, h28, hE_1⟩ := bind_some hE_1
      obtain ⟨hs30, hE_1⟩ := ck hE_1
      obtain ⟨t32, h32, hE_1⟩ := bind_some hE_1
      refine Tri.drawA mixedT Sep.up [(0, true), (1, true), (2, true), (3, true), (4, true), (5, true), (6, true), (7, true), (8, true), (9, true), (10, true), (11, true)] [12] (by kernel_rfl) ?_
      refine S.q rfl rfl rfl (wanted_none rfl) (r_fieldAddr tf31_2 rfl) ?_
      refine S.q rfl rfl rfl (wanted_none rfl) (r_load ta23 rfl (fun w hw => cell_1 (box_cells (i := 0) rfl w hw) rfl)) ?_
      refine S.q rfl rfl rfl (wanted_none rfl) (r_move rfl) ?_
      refine S.q rfl rfl rfl (wanted_none rfl) (r_indexAddrS Try.underlying23 ti3 rfl hl_xq7_1_2 rfl (rdl_some h24).1 (rdl_some h24).2.1) ?_
      refine S.q rfl rfl rfl (wanted_none rfl) (r_load ta3 rfl (fun w hw => cell_0 (Rd.flat ((rd_sl (i := 3) rfl) w hw) (rdl_some h24).2.2) rfl)) ?_
      refine S.q rfl rfl rfl (wanted_none rfl) (r_move rfl) ?_
      refine S.q rfl rfl rfl (wanted_none rfl) (r_move rfl) ?_
      refine S.q rfl rfl rfl (wanted_none rfl) (r_indexAddrS Try.underlying23 ti3 rfl hl_va1 rfl (rdl_some h28).1 (rdl_some h28).2.1) ?_
      refine S.q rfl rfl rfl (wanted_none rfl) (r_load ta3 rfl (fun w hw => cell_0 (Rd.flat ((fun _ hw => hr_a1.sep hw) w hw) (rdl_some h28).2.2) rfl)) ?_
      refine S.q rfl rfl rfl (wanted_none rfl) (r_shl rfl rfl hs30) ?_
      refine S.q rfl rfl rfl (wanted_none rfl) (r_or rfl rfl) ?_
      refine S.q rfl rfl rfl (wanted_none rfl) (r_indexAddrS Try.underlying23 ti3 rfl hl_xq7_1_2 rfl (rdl_some h32).1 (rdl_some h32).2.1) ?_
      refine S.nil ?_
      refine F.ef0 rfl rfl (wanted_none rfl) (d_storeE (i := 3) (x1 := bor t24 (shl 1 t28)) ti3 rfl rfl rfl (rdl_some h32) rfl) ?_
      rintro _ _ ⟨rfl, rfl⟩
      refine F.nil ?_
      refine Nrm.block ?_
      refine Nrm.seq ?_
      refine Tri.reg (l := [0, 1]) rfl ?_
      refine F.q rfl rfl rfl (wanted_none rfl) (r_add rfl rfl) ?_
      refine F.q rfl rfl rfl (wanted_none rfl) (r_move rfl) ?_
      refine F.nil ?_
      refine Nrm.round ?_
      refine Rnd.only [1, 6, 7, 14, 15, 16] rfl ?_
      refine Rnd.pick [0, 1, 2, 3] rfl rfl ?_
      exact ih_1 _ _ ⟨w64 (x16 + 1), xq7_1_2.set t19.toNat (bor t24 (shl 1 t28)), hE_1, (len_set hl_xq7_1_2), rfl, rfl⟩
    · replace hE_1 := if_ff g_1 hE_1
      refine Tri.exit ?_
      refine Exi.then ?_
      refine Exi.then ?_
      refine Exi.same ?_
      cases hE_1
      refine Nrm.seq ?_
      refine Tri.seq ?_
      refine Tri.reg (l := [0, 1]) rfl ?_
      refine F.q rfl rfl rfl (wanted_none rfl) (r_loadA ta31 ti31 rfl rfl (fun w hw => (box_cells (i := 0) rfl w hw))) ?_
      refine F.ef0 rfl rfl (wanted_none rfl) (d_storeG0 (i := 1) (cs2 := [.int .i64 t11_1, v11_1, v11_2]) ti31 rfl rfl rfl rfl rfl (Nat.le_of_ble_eq_true rfl) (lf_cons rfl (lf_cons (sl_leaf hl_v11_1) (lf_cons (sl_leaf hl_xq7_1_2) lf_nil)))) ?_
      rintro _ _ ⟨rfl, rfl⟩
      refine F.nil ?_
      refine Nrm.seq ?_
      refine Tri.ret ?_
      cases h
      exact Rtn.body (.cell rfl ta31 ti31 rfl (fun _ hw => box_cells (i := 1) rfl _ hw) .nil) (fun w hw => ⟨_, _, rfl, ⟨v11_1, S11_1, v11_2, S11_2, rfl, hl_v11_1, hl_xq7_1_2, rfl⟩, Sep.pick (is := [2, 3]) rfl rfl hw⟩)

end Go.Proofs

/- loop.example/g01158/impl.depth -/
namespace Go.Proofs
open Go Go.Ga
set_option linter.unusedVariables false
set_option maxRecDepth 100000
set_option maxHeartbeats 4000000
def impl_depth.f (k : Nat) (a0_0 : Int) (a0_1 : List (Int × Int × Int)) (a0_2 : List Int) (a1 : Int) (a2 : List Int) : Option (Int) := (impl_members.f k a1).bind fun t9 => (impl_laid.f k a0_0 a0_1 a0_2 t9 a2).bind fun (t11_1, t11_2, t11_3) => (impl_nodeRounds.f k t11_1 t11_2 t11_3 0).bind fun t12 => (rdl t12 (w64 (a0_0 - 1))).bind fun t16 => some t16

theorem impl_depth.ok {k : Nat}  {a0_0 : Int} {a0_1 : List (Int × Int × Int)} {a0_2 : List Int} {a1 : Int} {a2 : List Int} {r0 : Int} (h : impl_depth.f k a0_0 a0_1 a0_2 a1 a2 = some r0) (w : World) {va0_1 : Value} {va0_2 : Value} {va2 : Value} (hr_a0_1 : Rd w va0_1 a0_1) (hr_a0_2 : Rd w va0_2 a0_2) (hr_a2 : Rd w va2 a2) :
    Calls Try.prog 67 ([.agg ([.int .i64 a0_0, va0_1, va0_2].toArray), .int .i64 a1, va2] : List Value).toArray w (fun e w' => e = .returned (.int .i64 r0) ∧ Ext w w') := by
  unfold impl_depth.f at h
  have hl_va0_1 := hr_a0_1.len
  have hl_va0_2 := hr_a0_2.len
  have hl_va2 := hr_a2.len
  refine Calls.of_tri (N := 18) Try.func67 rfl rfl rfl (Sep.nil (M := noM)) ?_
  refine Tri.seq ?_
  refine Tri.reg (l := [0, 1]) rfl ?_
  refine F.m rfl rfl rfl (wanted_none rfl) (m_boxG rfl rfl) ?_
  rintro _ _ ⟨b3_1, rfl, rfl⟩
  refine F.q rfl rfl rfl (wanted_none rfl) (r_assign rfl) ?_
  refine F.nil ?_
  refine Nrm.seq ?_
  refine Tri.seq ?_
  obtain ⟨t9, h9, h⟩ := bind_some h
  obtain ⟨⟨t11_1, t11_2, t11_3⟩, h11, h⟩ := bind_some h
  obtain ⟨t12, h12, h⟩ := bind_some h
  obtain ⟨t16, h16, h⟩ := bind_some h
  refine Tri.drawA mixedT Sep.up [(0, true), (1, true), (3, true), (6, true), (7, true), (8, true), (2, false), (4, false), (5, false), (9, true), (10, true), (11, true)] [] (by kernel_rfl) ?_
  refine S.q rfl rfl rfl (wanted_none rfl) (r_loadA ta31 ti31 rfl rfl (fun w hw => (box_cells (i := 0) rfl w hw))) ?_
  refine S.q rfl rfl rfl (wanted_none rfl) (r_move rfl) ?_
  refine S.q rfl rfl rfl (wanted_none rfl) (r_move rfl) ?_
  refine S.q rfl rfl rfl (wanted_none rfl) (r_fieldAddr tf31_0 rfl) ?_
  refine S.q rfl rfl rfl (wanted_none rfl) (r_load ta3 rfl (fun w hw => cell_1 (box_cells (i := 0) rfl w hw) rfl)) ?_
  refine S.q rfl rfl rfl (wanted_none rfl) (r_sub rfl rfl) ?_
  refine S.m rfl rfl rfl (wanted_none rfl) (m_callF (xs := _) rfl ok68 rfl rfl (fun w hw => impl_members.ok h9 w )) ?_
  rintro v9_2 _ ⟨_, ⟨S9_2, hl_v9_2, rfl⟩, rfl⟩
  refine S.m rfl rfl rfl (wanted_none rfl) (m_callF (xs := _) rfl ok104 rfl rfl (fun w hw => impl_laid.ok h11 w ((fun _ hw => hr_a0_1.sep hw) w hw) ((fun _ hw => hr_a0_2.sep hw) w hw) ((rd_sl (i := 0) rfl) w hw) ((fun _ hw => hr_a2.sep hw) w hw))) ?_
  rintro _ _ ⟨_, ⟨v11_3, S11_3, v11_4, S11_4, rfl, hl_v11_3, hl_v11_4, rfl⟩, rfl⟩
  refine S.m rfl rfl rfl (wanted_none rfl) (m_callF (xs := _) rfl ok103 rfl rfl (fun w hw => impl_nodeRounds.ok h12 w ((rd_sl (i := 0) rfl) w hw) ((rd_sl (i := 1) rfl) w hw))) ?_
  rintro v12_2 _ ⟨_, ⟨S12_2, hl_v12_2, rfl⟩, rfl⟩
  refine S.q rfl rfl rfl (wanted_none rfl) (r_indexAddrS Try.underlying23 ti3 rfl hl_v12_2 rfl (rdl_some h16).1 (rdl_some h16).2.1) ?_
  refine S.q rfl rfl rfl (wanted_none rfl) (r_load ta3 rfl (fun w hw => cell_0 (Rd.flat ((rd_sl (i := 0) rfl) w hw) (rdl_some h16).2.2) rfl)) ?_
  refine S.q rfl rfl rfl (wanted_none rfl) (r_assign rfl) ?_
  refine S.nil ?_
  refine F.nil ?_
  refine Nrm.seq ?_
  refine Tri.ret ?_
  cases h
  exact Rtn.body (.tmp rfl .nil) (fun w hw => ⟨rfl, hw.ext⟩)

end Go.Proofs

/- loop.example/g01158/impl.wins$1 -/
namespace Go.Proofs
open Go Go.Ga
set_option linter.unusedVariables false
set_option maxRecDepth 100000
set_option maxHeartbeats 4000000
def impl_wins_1.f (k : Nat) (a0 : List Int) (c0_0 : Int) (c0_1 : List (Int × Int × Int)) (c0_2 : List Int) (c1 : Int) : Option (Bool) := (impl_depth.f k c0_0 c0_1 c0_2 c1 a0).bind fun t8 => some (t8 == 0)

theorem impl_wins_1.ok {k : Nat} {pc0 : Addr} {pc1 : Addr} {a0 : List Int} {c0_0 : Int} {c0_1 : List (Int × Int × Int)} {c0_2 : List Int} {c1 : Int} {r0 : Bool} (h : impl_wins_1.f k a0 c0_0 c0_1 c0_2 c1 = some r0) (w : World) {va0 : Value} {vc0_1 : Value} {vc0_2 : Value} (hr_a0 : Rd w va0 a0) (hb_c0 : CellsAt w pc0 [.int .i64 c0_0, vc0_1, vc0_2]) (hr_c0_1 : Rd w vc0_1 c0_1) (hr_c0_2 : Rd w vc0_2 c0_2) (hb_c1 : CellsAt w pc1 [.int .i64 c1]) :
    Calls Try.prog 112 ([va0, .pointer (some pc0), .pointer (some pc1)] : List Value).toArray w (fun e w' => e = .returned (.bool r0) ∧ Ext w w') := by
  unfold impl_wins_1.f at h
  have hl_va0 := hr_a0.len
  have hl_vc0_1 := hr_c0_1.len
  have hl_vc0_2 := hr_c0_2.len
  refine Calls.of_tri (N := 10) Try.func112 rfl rfl rfl (Sep.nil (M := noM)) ?_
  refine Tri.seq ?_
  refine Tri.reg (l := [0]) rfl ?_
  refine F.q rfl rfl rfl (wanted_none rfl) (r_assign rfl) ?_
  refine F.nil ?_
  refine Nrm.seq ?_
  refine Tri.seq ?_
  obtain ⟨t8, h8, h⟩ := bind_some h
  refine Tri.reg (l := [0, 1, 2, 3, 4, 5]) rfl ?_
  refine F.q rfl rfl rfl (wanted_none rfl) (r_loadA ta31 ti31 rfl rfl (fun w hw => (hb_c0.sep hw))) ?_
  refine F.q rfl rfl rfl (wanted_none rfl) (r_load ta3 rfl (fun w hw => cell_0 (hb_c1.sep hw) rfl)) ?_
  refine F.q rfl rfl rfl (wanted_none rfl) (r_move rfl) ?_
  refine F.qc rfl rfl rfl (wanted_none rfl) (q_callF (xs := _) rfl ok67 rfl rfl (fun w hw => impl_depth.ok h8 w ((fun _ hw => hr_c0_1.sep hw) w hw) ((fun _ hw => hr_c0_2.sep hw) w hw) ((fun _ hw => hr_a0.sep hw) w hw))) ?_
  refine F.q rfl rfl rfl (wanted_none rfl) (r_eql rfl rfl) ?_
  refine F.q rfl rfl rfl (wanted_none rfl) (r_assign rfl) ?_
  refine F.nil ?_
  refine Nrm.seq ?_
  refine Tri.ret ?_
  cases h
  exact Rtn.body (.tmp rfl .nil) (fun w hw => ⟨rfl, hw.ext⟩)

end Go.Proofs

/- loop.example/g01158/impl.wins -/
namespace Go.Proofs
open Go Go.Ga
set_option linter.unusedVariables false
set_option maxRecDepth 100000
set_option maxHeartbeats 4000000
def impl_wins.f (k : Nat) (a0_0 : Int) (a0_1 : List (Int × Int × Int)) (a0_2 : List Int) (a1 : Int) : Option ((List (List Int)) × Bool) := ((impl_asked.f k a0_0 a0_1 a0_2 a1).bind fun t8 => (if (!t8) = true then some true else (if (decide (a0_0 > 8)) = true then some true else (impl_members.f k a1).bind fun t17 => some (decide ((t17.length : Int) > 4))))).bind fun y20 => (if y20 = true then some ([], false) else (impl_fillings.f k a0_0 a0_1 a0_2 a1).bind fun t23 => (slices_DeleteFunc__int__int.f k t23 (fun z0 => impl_wins_1.f k z0 a0_0 a0_1 a0_2 a1)).bind fun t25 => some (t25, true))

theorem impl_wins.ok {k : Nat}  {a0_0 : Int} {a0_1 : List (Int × Int × Int)} {a0_2 : List Int} {a1 : Int} {r0 : List (List Int)} {r1 : Bool} (h : impl_wins.f k a0_0 a0_1 a0_2 a1 = some (r0, r1)) (w : World) {va0_1 : Value} {va0_2 : Value} (hr_a0_1 : Rd w va0_1 a0_1) (hr_a0_2 : Rd w va0_2 a0_2) :
    Calls Try.prog 75 ([.agg ([.int .i64 a0_0, va0_1, va0_2].toArray), .int .i64 a1] : List Value).toArray w (Post (fun u ns => ∃ (ur0 : Value) (Sr0 : Nat → Prop), u = .tuple #[ur0, .bool r1] ∧ SlLen ur0 r0.length ∧ ns = [R.sl Sr0 ur0 r0]) w) := by
  unfold impl_wins.f at h
  have hl_va0_1 := hr_a0_1.len
  have hl_va0_2 := hr_a0_2.len
  refine Calls.of_tri (N := 26) Try.func75 rfl rfl rfl (Sep.nil (M := noM)) ?_
  refine Tri.seq ?_
  refine Tri.reg (l := [0, 1, 2, 3]) rfl ?_
  refine F.m rfl rfl rfl (wanted_none rfl) (m_boxG rfl rfl) ?_
  rintro _ _ ⟨b2_1, rfl, rfl⟩
  refine F.m rfl rfl rfl (wanted_none rfl) (m_boxG rfl rfl) ?_
  rintro _ _ ⟨b3_1, rfl, rfl⟩
  refine F.q rfl rfl rfl (wanted_none rfl) (r_assign rfl) ?_
  refine F.q rfl rfl rfl (wanted_none rfl) (r_assign rfl) ?_
  refine F.nil ?_
  refine Nrm.seq ?_
  refine Tri.seq ?_
  refine Tri.seq ?_
  obtain ⟨y20, hE_1, h⟩ := bind_some h
  refine Tri.cut (fun e' C' => e' = [(2, .pointer (some ⟨b2_1, 0, none⟩)), (3, .pointer (some ⟨b3_1, 0, none⟩)), (20, .bool y20)] ∧ C' = Sep w noM [R.box b3_1 3 [.int .i64 a1], R.box b2_1 31 [.int .i64 a0_0, va0_1, va0_2]]) ?_ (fun hj_1 => ?_)
  · rintro _ _ ⟨rfl, rfl⟩
    refine Nrm.seq ?_
    refine Tri.cond (b := y20) rfl (fun g_1 => ?_) (fun g_1 => ?_)
    · replace h := if_tt g_1 h
      refine Tri.seq ?_
      refine Tri.reg (l := [0, 1]) rfl ?_
      refine F.q rfl rfl rfl (wanted_none rfl) (r_assign rfl) ?_
      refine F.q rfl rfl rfl (wanted_none rfl) (r_assign rfl) ?_
      refine F.nil ?_
      refine Nrm.seq ?_
      refine Tri.ret ?_
      refine Rtn.then ?_
      cases h
      exact Rtn.body (.tmp rfl (.tmp rfl .nil)) (fun w hw => ⟨_, _, rfl, ⟨.slice none 0 0, fun _ => False, rfl, len_nil, rfl⟩, Sep.pick (is := [0]) rfl rfl hw.pushNil⟩)
    · replace h := if_ff g_1 h
      refine Tri.skip ?_
      refine Nrm.seq ?_
      refine Tri.seq ?_
      obtain ⟨t23, h23, h⟩ := bind_some h
      obtain ⟨t25, h25, h⟩ := bind_some h
      refine Tri.reg (l := [0, 1, 2, 3, 4, 5, 6]) rfl ?_
      refine F.q rfl rfl rfl (wanted_none rfl) (r_loadA ta31 ti31 rfl rfl (fun w hw => (box_cells (i := 1) rfl w hw))) ?_
      refine F.q rfl rfl rfl (wanted_none rfl) (r_load ta3 rfl (fun w hw => cell_0 (box_cells (i := 0) rfl w hw) rfl)) ?_
      refine F.m rfl rfl rfl (wanted_none rfl) (m_callF (xs := _) rfl ok111 rfl rfl (fun w hw => impl_fillings.ok h23 w ((fun _ hw => hr_a0_1.sep hw) w hw) ((fun _ hw => hr_a0_2.sep hw) w hw))) ?_
      rintro v23_1 _ ⟨_, ⟨S23_1, hl_v23_1, rfl⟩, rfl⟩
      refine F.q rfl rfl rfl (wanted_none rfl) (r_makeFunc rfl) ?_
      refine F.ef rfl rfl rfl (wanted_none rfl) (d_callM (xs := _) (cs := [R.sl S23_1 v23_1 (t23 : List (List Int))]) (rest := [R.box b3_1 3 [.int .i64 a1], R.box b2_1 31 [.int .i64 a0_0, va0_1, va0_2]]) [0] [1, 2] rfl ok110 rfl rfl rfl rfl (fun w hw => slices_DeleteFunc__int__int.ok h25 w hl_v23_1 ok112 (fun w2 he2 z0 zv0 zh0 y2 hy2 => impl_wins_1.ok hy2 w2 zh0 (boxM (i := 1) rfl hw he2) (((hr_a0_1.down hw)).kp he2) (((hr_a0_2.down hw)).kp he2) (boxM (i := 0) rfl hw he2)) (Sep.sub hw))) ?_
      rintro v25_1 _ ⟨_, ⟨S25_1, hl_v25_1, rfl⟩, rfl⟩
      refine F.q rfl rfl rfl (wanted_none rfl) (r_assign rfl) ?_
      refine F.q rfl rfl rfl (wanted_none rfl) (r_assign rfl) ?_
      refine F.nil ?_
      refine Nrm.seq ?_
      refine Tri.ret ?_
      cases h
      exact Rtn.body (.tmp rfl (.tmp rfl .nil)) (fun w hw => ⟨_, _, rfl, ⟨v25_1, S25_1, rfl, hl_v25_1, rfl⟩, Sep.pick (is := [0]) rfl rfl hw⟩)
  · obtain ⟨t8, h8, hE_1⟩ := bind_some hE_1
    rcases Bool.eq_false_or_eq_true (!t8) with g10 | g10
    · replace hE_1 := if_tt g10 hE_1
      refine Tri.reg (l := [0, 1, 2, 3, 4, 5, 6, 7, 8, 9, 10, 11, 12, 13, 14]) rfl ?_
      refine F.q rfl rfl rfl (wanted_none rfl) (r_loadA ta31 ti31 rfl rfl (fun w hw => (box_cells (i := 1) rfl w hw))) ?_
      refine F.q rfl rfl rfl (wanted_none rfl) (r_load ta3 rfl (fun w hw => cell_0 (box_cells (i := 0) rfl w hw) rfl)) ?_
      refine F.qc rfl rfl rfl (wanted_none rfl) (q_callF (xs := _) rfl ok65 rfl rfl (fun w hw => impl_asked.ok h8 w ((fun _ hw => hr_a0_1.sep hw) w hw) ((fun _ hw => hr_a0_2.sep hw) w hw))) ?_
      refine F.q rfl rfl rfl (wanted_none rfl) (r_not rfl) ?_
      refine F.q rfl rfl rfl (wanted_none rfl) (r_move rfl) ?_
      refine F.sk rfl rfl rfl (wf rfl rfl rfl g10) ?_
      refine F.sk rfl rfl rfl (wf rfl rfl rfl g10) ?_
      refine F.sk rfl rfl rfl (wf rfl rfl rfl g10) ?_
      refine F.q rfl rfl rfl (wanted_none rfl) (r_pick rfl rfl g10) ?_
      refine F.q rfl rfl rfl (wanted_none rfl) (r_move rfl) ?_
      refine F.sk rfl rfl rfl (wf rfl rfl rfl rfl) ?_
      refine F.sk rfl rfl rfl (wf rfl rfl rfl rfl) ?_
      refine F.sk rfl rfl rfl (wf rfl rfl rfl rfl) ?_
      refine F.sk rfl rfl rfl (wf rfl rfl rfl rfl) ?_
      refine F.q rfl rfl rfl (wanted_none rfl) (r_pick rfl rfl rfl) ?_
      refine F.nil ?_
      cases hE_1
      refine Nrm.only [2, 3, 20] rfl ?_
      refine Nrm.pick [0, 1] rfl rfl ?_
      exact hj_1 _ _ ⟨rfl, rfl⟩
    · replace hE_1 := if_ff g10 hE_1
      rcases Bool.eq_false_or_eq_true (decide (a0_0 > 8)) with g15 | g15
      · replace hE_1 := if_tt g15 hE_1
        refine Tri.reg (l := [0, 1, 2, 3, 4, 5, 6, 7, 8, 9, 10, 11, 12, 13, 14]) rfl ?_
        refine F.q rfl rfl rfl (wanted_none rfl) (r_loadA ta31 ti31 rfl rfl (fun w hw => (box_cells (i := 1) rfl w hw))) ?_
        refine F.q rfl rfl rfl (wanted_none rfl) (r_load ta3 rfl (fun w hw => cell_0 (box_cells (i := 0) rfl w hw) rfl)) ?_
        refine F.qc rfl rfl rfl (wanted_none rfl) (q_callF (xs := _) rfl ok65 rfl rfl (fun w hw => impl_asked.ok h8 w ((fun _ hw => hr_a0_1.sep hw) w hw) ((fun _ hw => hr_a0_2.sep hw) w hw))) ?_
        refine F.q rfl rfl rfl (wanted_none rfl) (r_not rfl) ?_
        refine F.q rfl rfl rfl (wanted_none rfl) (r_move rfl) ?_
        refine F.q rfl rfl rfl (wg rfl rfl rfl g10) (r_fieldAddr tf31_0 rfl) ?_
        refine F.q rfl rfl rfl (wg rfl rfl rfl g10) (r_load ta3 rfl (fun w hw => cell_1 (box_cells (i := 1) rfl w hw) rfl)) ?_
        refine F.q rfl rfl rfl (wg rfl rfl rfl g10) (r_gtr rfl rfl) ?_
        refine F.q rfl rfl rfl (wanted_none rfl) (r_pickf rfl rfl g10) ?_
        refine F.q rfl rfl rfl (wanted_none rfl) (r_move rfl) ?_
        refine F.sk rfl rfl rfl (wf rfl rfl rfl g15) ?_
        refine F.sk rfl rfl rfl (wf rfl rfl rfl g15) ?_
        refine F.sk rfl rfl rfl (wf rfl rfl rfl g15) ?_
        refine F.sk rfl rfl rfl (wf rfl rfl rfl g15) ?_
        refine F.q rfl rfl rfl (wanted_none rfl) (r_pick rfl rfl g15) ?_
        refine F.nil ?_
        cases hE_1
        refine Nrm.only [2, 3, 20] rfl ?_
        refine Nrm.pick [0, 1] rfl rfl ?_
        exact hj_1 _ _ ⟨rfl, rfl⟩
      · replace hE_1 := if_ff g15 hE_1
        obtain ⟨t17, h17, hE_1⟩ := bind_some hE_1
        refine Tri.reg (l := [0, 1, 2, 3, 4, 5, 6, 7, 8, 9, 10, 11, 12, 13, 14]) rfl ?_
        refine F.q rfl rfl rfl (wanted_none rfl) (r_loadA ta31 ti31 rfl rfl (fun w hw => (box_cells (i := 1) rfl w hw))) ?_
        refine F.q rfl rfl rfl (wanted_none rfl) (r_load ta3 rfl (fun w hw => cell_0 (box_cells (i := 0) rfl w hw) rfl)) ?_
        refine F.qc rfl rfl rfl (wanted_none rfl) (q_callF (xs := _) rfl ok65 rfl rfl (fun w hw => impl_asked.ok h8 w ((fun _ hw => hr_a0_1.sep hw) w hw) ((fun _ hw => hr_a0_2.sep hw) w hw))) ?_
        refine F.q rfl rfl rfl (wanted_none rfl) (r_not rfl) ?_
        refine F.q rfl rfl rfl (wanted_none rfl) (r_move rfl) ?_
        refine F.q rfl rfl rfl (wg rfl rfl rfl g10) (r_fieldAddr tf31_0 rfl) ?_
        refine F.q rfl rfl rfl (wg rfl rfl rfl g10) (r_load ta3 rfl (fun w hw => cell_1 (box_cells (i := 1) rfl w hw) rfl)) ?_
        refine F.q rfl rfl rfl (wg rfl rfl rfl g10) (r_gtr rfl rfl) ?_
        refine F.q rfl rfl rfl (wanted_none rfl) (r_pickf rfl rfl g10) ?_
        refine F.q rfl rfl rfl (wanted_none rfl) (r_move rfl) ?_
        refine F.q rfl rfl rfl (wg rfl rfl rfl g15) (r_load ta3 rfl (fun w hw => cell_0 (box_cells (i := 0) rfl w hw) rfl)) ?_
        refine F.m rfl rfl rfl (wg rfl rfl rfl g15) (m_callF (xs := _) rfl ok68 rfl rfl (fun w hw => impl_members.ok h17 w )) ?_
        rintro v17_1 _ ⟨_, ⟨S17_1, hl_v17_1, rfl⟩, rfl⟩
        refine F.q rfl rfl rfl (wg rfl rfl rfl g15) (r_len Try.underlying23 rfl hl_v17_1) ?_
        refine F.q rfl rfl rfl (wg rfl rfl rfl g15) (r_gtr rfl rfl) ?_
        refine F.q rfl rfl rfl (wanted_none rfl) (r_pickf rfl rfl g15) ?_
        refine F.nil ?_
        cases hE_1
        refine Nrm.only [2, 3, 20] rfl ?_
        refine Nrm.pick [1, 2] rfl rfl ?_
        exact hj_1 _ _ ⟨rfl, rfl⟩

end Go.Proofs

/- slices.Index[[]int,int] -/

namespace Go.Proofs
open Go Go.Ga
set_option linter.unusedVariables false
set_option maxRecDepth 100000
set_option maxHeartbeats 4000000
def slices_Index_int_int.l0 (k : Nat) (a0 : List Int) (a1 : Int) : Nat → Int → Option ((Unit) ⊕ (Int))
  | 0, _ => none
  | n + 1, x8 => (if (decide (x8 < (a0.length : Int))) = true then (rdl a0 x8).bind fun t14 => (if (a1 == t14) = true then some (Sum.inr x8) else slices_Index_int_int.l0 k a0 a1 n (w64 (x8 + 1))) else some (Sum.inl ()))

def slices_Index_int_int.f (k : Nat) (a0 : List Int) (a1 : Int) : Option (Int) := (slices_Index_int_int.l0 k a0 a1 k 0).bind fun s => Lr s some fun _ => some (-1)

theorem slices_Index_int_int.ok {k : Nat}  {a0 : List Int} {a1 : Int} {r0 : Int} (h : slices_Index_int_int.f k a0 a1 = some r0) (w : World) {va0 : Value} (hr_a0 : Rd w va0 a0) :
    Calls Try.prog 78 ([va0, .int .i64 a1] : List Value).toArray w (fun e w' => e = .returned (.int .i64 r0) ∧ Ext w w') := by
  unfold slices_Index_int_int.f at h
  have hl_va0 := hr_a0.len
  refine Calls.of_tri (N := 19) Try.func78 rfl rfl rfl (Sep.nil (M := noM)) ?_
  refine Tri.seq ?_
  refine Tri.reg (l := [0]) rfl ?_
  refine F.q rfl rfl rfl (wanted_none rfl) (r_assign rfl) ?_
  refine F.nil ?_
  refine Nrm.seq ?_
  refine Tri.seq ?_
  refine Tri.seq ?_
  refine Tri.reg (l := [0, 1, 2]) rfl ?_
  refine F.q rfl rfl rfl (wanted_none rfl) (r_move rfl) ?_
  refine F.q rfl rfl rfl (wanted_none rfl) (r_len Try.underlying23 rfl hl_va0) ?_
  refine F.q rfl rfl rfl (wanted_none rfl) (r_move rfl) ?_
  refine F.nil ?_
  refine Nrm.seq ?_
  obtain ⟨s0, hE_1, h⟩ := bind_some h
  refine Tri.block ?_
  refine Tri.only [0, 1, 7, 8] rfl ?_
  refine Tri.pick [] rfl rfl ?_
  refine Tri.rounds (fun n e' C' => ∃ (x8' : Int), slices_Index_int_int.l0 k a0 a1 n x8' = some s0 ∧ e' = [(0, va0), (1, .int .i64 a1), (7, .int .i64 (a0.length : Int)), (8, .int .i64 x8')] ∧ C' = Sep w noM []) k ?_ ?_ ?_
  · exact ⟨0, hE_1, rfl, rfl⟩
  · rintro _ _ ⟨_, hE_1, _⟩
    rw [slices_Index_int_int.l0.eq_1] at hE_1; cases hE_1
  · rintro n_1 _ _ ⟨x8, hE_1, rfl, rfl⟩ ih_1
    rw [slices_Index_int_int.l0.eq_2] at hE_1
    refine Tri.seq ?_
    refine Tri.reg (l := [0]) rfl ?_
    refine F.q rfl rfl rfl (wanted_none rfl) (r_lss rfl rfl) ?_
    refine F.nil ?_
    refine Nrm.seq ?_
    refine Tri.seq ?_
    refine Tri.cond (b := decide (x8 < (a0.length : Int))) rfl (fun g_1 => ?_) (fun g_1 => ?_)
    · replace hE_1 := if_tt g_1 hE_1
      refine Tri.skip ?_
      refine Nrm.seq ?_
      refine Tri.seq ?_
      refine Tri.block ?_
      refine Tri.seq ?_
      refine Tri.reg (l := [0, 1]) rfl ?_
      refine F.q rfl rfl rfl (wanted_none rfl) (r_move rfl) ?_
      refine F.q rfl rfl rfl (wanted_none rfl) (r_assign rfl) ?_
      refine F.nil ?_
      refine Nrm.seq ?_
      refine Tri.seq ?_
      obtain ⟨t14, h14, hE_1⟩ := bind_some hE_1
      refine Tri.reg (l := [0, 1, 2, 3, 4, 5]) rfl ?_
      refine F.q rfl rfl rfl (wanted_none rfl) (r_move rfl) ?_
      refine F.q rfl rfl rfl (wanted_none rfl) (r_move rfl) ?_
      refine F.q rfl rfl rfl (wanted_none rfl) (r_move rfl) ?_
      refine F.q rfl rfl rfl (wanted_none rfl) (r_indexAddrS Try.underlying23 ti3 rfl hl_va0 rfl (rdl_some h14).1 (rdl_some h14).2.1) ?_
      refine F.q rfl rfl rfl (wanted_none rfl) (r_load ta3 rfl (fun w hw => cell_0 (Rd.flat ((fun _ hw => hr_a0.sep hw) w hw) (rdl_some h14).2.2) rfl)) ?_
      refine F.q rfl rfl rfl (wanted_none rfl) (r_eql rfl rfl) ?_
      refine F.nil ?_
      refine Nrm.seq ?_
      refine Tri.cond (b := a1 == t14) rfl (fun g_2 => ?_) (fun g_2 => ?_)
      · replace hE_1 := if_tt g_2 hE_1
        refine Tri.seq ?_
        refine Tri.reg (l := [0, 1]) rfl ?_
        refine F.q rfl rfl rfl (wanted_none rfl) (r_move rfl) ?_
        refine F.q rfl rfl rfl (wanted_none rfl) (r_assign rfl) ?_
        refine F.nil ?_
        refine Nrm.seq ?_
        refine Tri.ret ?_
        refine Rtn.block ?_
        refine Rtn.then ?_
        refine Rtn.then ?_
        refine Rtn.block ?_
        refine Rtn.then ?_
        cases hE_1
        replace h := Lr_inr h
        cases h
        exact Rtn.body (.tmp rfl .nil) (fun w hw => ⟨rfl, hw.ext⟩)
      · replace hE_1 := if_ff g_2 hE_1
        refine Tri.skip ?_
        refine Nrm.block ?_
        refine Nrm.seq ?_
        refine Tri.reg (l := [0, 1]) rfl ?_
        refine F.q rfl rfl rfl (wanted_none rfl) (r_add rfl rfl) ?_
        refine F.q rfl rfl rfl (wanted_none rfl) (r_move rfl) ?_
        refine F.nil ?_
        refine Nrm.round ?_
        refine Rnd.only [0, 1, 7, 8] rfl ?_
        refine Rnd.pick [] rfl rfl ?_
        exact ih_1 _ _ ⟨w64 (x8 + 1), hE_1, rfl, rfl⟩
    · replace hE_1 := if_ff g_1 hE_1
      refine Tri.exit ?_
      refine Exi.then ?_
      refine Exi.then ?_
      refine Exi.same ?_
      cases hE_1
      replace h := Lr_inl h
      refine Nrm.seq ?_
      refine Tri.seq ?_
      refine Tri.reg (l := [0]) rfl ?_
      refine F.q rfl rfl rfl (wanted_none rfl) (r_assign rfl) ?_
      refine F.nil ?_
      refine Nrm.seq ?_
      refine Tri.ret ?_
      cases h
      exact Rtn.body (.tmp rfl .nil) (fun w hw => ⟨rfl, hw.ext⟩)

end Go.Proofs

/- loop.example/g01158/impl.NodeCounts -/
namespace Go.Proofs
open Go Go.Ga
set_option linter.unusedVariables false
set_option maxRecDepth 100000
set_option maxHeartbeats 4000000
def impl_NodeCounts.l0 (k : Nat) (t17_1 : List (List Int)) (t25 : Int) : Nat → (List (Int)) → (List (List Int)) → Int → Option ((List (Int)))
  | 0, _, _, _ => none
  | n + 1, x11, x35, x37 => (if (decide (x37 < (t17_1.length : Int))) = true then (rdl (x35 : List (List Int)) x37).bind fun t39 => (rdl t39 t25).bind fun t44 => (rdl x11 t44).bind fun t46 => (rdl x11 t44).bind fun t49 => impl_NodeCounts.l0 k t17_1 t25 n (x11.set t44.toNat (w64 (t46 + 1))) ((x35 : List (List Int)).set (x37).toNat t39) (w64 (x37 + 1)) else some x11)

def impl_NodeCounts.f (k : Nat) (a0_0 : Int) (a0_1 : List (Int × Int × Int)) (a0_2 : List Int) (a1 : Int) (a2 : Int) : Option ((List Int) × Bool) := (impl_wins.f k a0_0 a0_1 a0_2 a1).bind fun (t17_1, t17_2) => (impl_members.f k (band (imax a1 0) 63)).bind fun t23 => (slices_Index_int_int.f k t23 a2).bind fun t25 => ((if (!t17_2) = true then some true else some (decide (t25 < 0)))).bind fun y31 => (if y31 = true then some ([], false) else if 0 ≤ a0_0 ∧ a0_0 < 1099511627776 then (impl_NodeCounts.l0 k t17_1 t25 k (List.replicate (a0_0).toNat (0 : Int)) t17_1 0).bind fun x11 => some (x11, true) else none)

theorem impl_NodeCounts.ok {k : Nat}  {a0_0 : Int} {a0_1 : List (Int × Int × Int)} {a0_2 : List Int} {a1 : Int} {a2 : Int} {r0 : List Int} {r1 : Bool} (h : impl_NodeCounts.f k a0_0 a0_1 a0_2 a1 a2 = some (r0, r1)) (w : World) {va0_1 : Value} {va0_2 : Value} (hr_a0_1 : Rd w va0_1 a0_1) (hr_a0_2 : Rd w va0_2 a0_2) :
    Calls Try.prog 38 ([.agg ([.int .i64 a0_0, va0_1, va0_2].toArray), .int .i64 a1, .int .i64 a2] : List Value).toArray w (Post (fun u ns => ∃ (ur0 : Value) (Sr0 : Nat → Prop), u = .tuple #[ur0, .bool r1] ∧ SlLen ur0 r0.length ∧ ns = [R.sl Sr0 ur0 r0]) w) := by
  unfold impl_NodeCounts.f at h
  have hl_va0_1 := hr_a0_1.len
  have hl_va0_2 := hr_a0_2.len
  refine Calls.of_tri (N := 52) Try.func38 rfl rfl rfl (Sep.nil (M := noM)) ?_
  refine Tri.seq ?_
  refine Tri.reg (l := [0, 1, 2]) rfl ?_
  refine F.m rfl rfl rfl (wanted_none rfl) (m_boxG rfl rfl) ?_
  rintro _ _ ⟨b3_1, rfl, rfl⟩
  refine F.q rfl rfl rfl (wanted_none rfl) (r_assign rfl) ?_
  refine F.q rfl rfl rfl (wanted_none rfl) (r_assign rfl) ?_
  refine F.nil ?_
  refine Nrm.seq ?_
  refine Tri.seq ?_
  obtain ⟨⟨t17_1, t17_2⟩, h17, h⟩ := bind_some h
  refine Tri.reg (l := [0, 1, 2, 3, 4, 5, 6, 7]) rfl ?_
  refine F.q rfl rfl rfl (wanted_none rfl) (r_loadA ta31 ti31 rfl rfl (fun w hw => (box_cells (i := 0) rfl w hw))) ?_
  refine F.q rfl rfl rfl (wanted_none rfl) (r_move rfl) ?_
  refine F.m rfl rfl rfl (wanted_none rfl) (m_callF (xs := _) rfl ok75 rfl rfl (fun w hw => impl_wins.ok h17 w ((fun _ hw => hr_a0_1.sep hw) w hw) ((fun _ hw => hr_a0_2.sep hw) w hw))) ?_
  rintro _ _ ⟨_, ⟨v17_1, S17_1, rfl, hl_v17_1, rfl⟩, rfl⟩
  refine F.q rfl rfl rfl (wanted_none rfl) (r_move rfl) ?_
  refine F.q rfl rfl rfl (wanted_none rfl) (r_extract rfl rfl) ?_
  refine F.q rfl rfl rfl (wanted_none rfl) (r_extract rfl rfl) ?_
  refine F.q rfl rfl rfl (wanted_none rfl) (r_assign rfl) ?_
  refine F.q rfl rfl rfl (wanted_none rfl) (r_assign rfl) ?_
  refine F.nil ?_
  refine Nrm.seq ?_
  refine Tri.seq ?_
  obtain ⟨t23, h23, h⟩ := bind_some h
  obtain ⟨t25, h25, h⟩ := bind_some h
  refine Tri.reg (l := [0, 1, 2, 3, 4, 5, 6]) rfl ?_
  refine F.q rfl rfl rfl (wanted_none rfl) (r_move rfl) ?_
  refine F.q rfl rfl rfl (wanted_none rfl) (r_max rfl rfl) ?_
  refine F.q rfl rfl rfl (wanted_none rfl) (r_and rfl rfl) ?_
  refine F.m rfl rfl rfl (wanted_none rfl) (m_callF (xs := _) rfl ok68 rfl rfl (fun w hw => impl_members.ok h23 w )) ?_
  rintro v23_1 _ ⟨_, ⟨S23_1, hl_v23_1, rfl⟩, rfl⟩
  refine F.q rfl rfl rfl (wanted_none rfl) (r_move rfl) ?_
  refine F.qc rfl rfl rfl (wanted_none rfl) (q_callF (xs := _) rfl ok78 rfl rfl (fun w hw => slices_Index_int_int.ok h25 w ((rd_sl (i := 0) rfl) w hw))) ?_
  refine F.q rfl rfl rfl (wanted_none rfl) (r_assign rfl) ?_
  refine F.nil ?_
  refine Nrm.seq ?_
  refine Tri.seq ?_
  refine Tri.seq ?_
  obtain ⟨y31, hE_1, h⟩ := bind_some h
  refine Tri.cut (fun e' C' => e' = [(3, .pointer (some ⟨b3_1, 0, none⟩)), (8, v17_1), (10, .int .i64 t25), (31, .bool y31)] ∧ C' = Sep w noM [R.box b3_1 31 [.int .i64 a0_0, va0_1, va0_2], R.sl S17_1 v17_1 (t17_1 : List (List Int))]) ?_ (fun hj_1 => ?_)
  · rintro _ _ ⟨rfl, rfl⟩
    refine Nrm.seq ?_
    refine Tri.cond (b := y31) rfl (fun g_1 => ?_) (fun g_1 => ?_)
    · replace h := if_tt g_1 h
      refine Tri.seq ?_
      refine Tri.reg (l := [0, 1]) rfl ?_
      refine F.q rfl rfl rfl (wanted_none rfl) (r_assign rfl) ?_
      refine F.q rfl rfl rfl (wanted_none rfl) (r_assign rfl) ?_
      refine F.nil ?_
      refine Nrm.seq ?_
      refine Tri.ret ?_
      refine Rtn.then ?_
      cases h
      exact Rtn.body (.tmp rfl (.tmp rfl .nil)) (fun w hw => ⟨_, _, rfl, ⟨.slice none 0 0, fun _ => False, rfl, len_nil, rfl⟩, Sep.pick (is := [0]) rfl rfl hw.pushNil⟩)
    · replace h := if_ff g_1 h
      refine Tri.skip ?_
      refine Nrm.seq ?_
      refine Tri.seq ?_
      obtain ⟨hm34, h⟩ := ck h
      refine Tri.reg (l := [0, 1, 2, 3]) rfl ?_
      refine F.q rfl rfl rfl (wanted_none rfl) (r_fieldAddr tf31_0 rfl) ?_
      refine F.q rfl rfl rfl (wanted_none rfl) (r_load ta3 rfl (fun w hw => cell_1 (box_cells (i := 0) rfl w hw) rfl)) ?_
      refine F.m rfl rfl rfl (wanted_none rfl) (m_make (x0 := (0 : Int)) Try.underlying23 ti3 rfl rfl rfl hm34.1 hm34.2 (by decide)) ?_
      rintro v34_1 _ ⟨S34_1, hl_v34_1, rfl⟩
      refine F.q rfl rfl rfl (wanted_none rfl) (r_assign rfl) ?_
      refine F.nil ?_
      refine Nrm.seq ?_
      refine Tri.seq ?_
      refine Tri.seq ?_
      refine Tri.reg (l := [0, 1, 2]) rfl ?_
      refine F.q rfl rfl rfl (wanted_none rfl) (r_move rfl) ?_
      refine F.q rfl rfl rfl (wanted_none rfl) (r_len Try.underlying95 rfl hl_v17_1) ?_
      refine F.q rfl rfl rfl (wanted_none rfl) (r_move rfl) ?_
      refine F.nil ?_
      refine Nrm.seq ?_
      obtain ⟨x11, hE_2, h⟩ := bind_some h
      refine Tri.block ?_
      refine Tri.only [10, 11, 35, 36, 37] rfl ?_
      refine Tri.pick [0, 2] rfl rfl ?_
      refine Tri.rounds (fun n e' C' => ∃ (x11' : List (Int)) (x35' : List (List Int)) (x37' : Int), impl_NodeCounts.l0 k t17_1 t25 n x11' x35' x37' = some x11 ∧ SlLen v34_1 (x11').length ∧ SlLen v17_1 (x35').length ∧ e' = [(10, .int .i64 t25), (11, v34_1), (35, v17_1), (36, .int .i64 (t17_1.length : Int)), (37, .int .i64 x37')] ∧ C' = Sep w noM [R.sl S34_1 v34_1 (x11' : List (Int)), R.sl S17_1 v17_1 (x35' : List (List Int))]) k ?_ ?_ ?_
      · exact ⟨List.replicate (a0_0).toNat (0 : Int), t17_1, 0, hE_2, hl_v34_1, hl_v17_1, rfl, rfl⟩
      · rintro _ _ ⟨_, _, _, hE_2, _⟩
        rw [impl_NodeCounts.l0.eq_1] at hE_2; cases hE_2
      · rintro n_1 _ _ ⟨x11, x35, x37, hE_2, hl_x11, hl_x35, rfl, rfl⟩ ih_1
        rw [impl_NodeCounts.l0.eq_2] at hE_2
        refine Tri.seq ?_
        refine Tri.reg (l := [0]) rfl ?_
        refine F.q rfl rfl rfl (wanted_none rfl) (r_lss rfl rfl) ?_
        refine F.nil ?_
        refine Nrm.seq ?_
        refine Tri.seq ?_
        refine Tri.cond (b := decide (x37 < (t17_1.length : Int))) rfl (fun g_2 => ?_) (fun g_2 => ?_)
        · replace hE_2 := if_tt g_2 hE_2
          refine Tri.skip ?_
          refine Nrm.seq ?_
          refine Tri.seq ?_
          refine Tri.block ?_
          refine Tri.seq ?_
          obtain ⟨t39, h39, hE_2⟩ := bind_some hE_2
          refine Tri.ex (on23 [1] [0] rfl rfl (rdl_some h39).2.2) ?_
          rintro _ ⟨v39_0_1, S39_0_1, Sr39_1, hl_v39_0_1, hS39_1, rfl⟩
          refine Tri.reg (l := [0, 1, 2]) rfl ?_
          refine F.q rfl rfl rfl (wanted_none rfl) (r_indexAddrS Try.underlying95 ti23 rfl hl_x35 rfl (rdl_some h39).1 (rdl_some h39).2.1) ?_
          refine F.q rfl rfl rfl (wanted_none rfl) (r_load ta23 rfl (fun w hw => cell_0 (hole_cells (p := 1) rfl w hw) rfl)) ?_
          refine F.q rfl rfl rfl (wanted_none rfl) (r_assign rfl) ?_
          refine F.nil ?_
          refine Nrm.seq ?_
          obtain ⟨t44, h44, hE_2⟩ := bind_some hE_2
          obtain ⟨t46, h46, hE_2⟩ := bind_some hE_2
          obtain ⟨t49, h49, hE_2⟩ := bind_some hE_2
          refine Tri.reg (l := [0, 1, 2, 3, 4, 5, 6, 7, 8, 9]) rfl ?_
          refine F.q rfl rfl rfl (wanted_none rfl) (r_move rfl) ?_
          refine F.q rfl rfl rfl (wanted_none rfl) (r_move rfl) ?_
          refine F.q rfl rfl rfl (wanted_none rfl) (r_move rfl) ?_
          refine F.q rfl rfl rfl (wanted_none rfl) (r_indexAddrS Try.underlying23 ti3 rfl hl_v39_0_1 rfl (rdl_some h44).1 (rdl_some h44).2.1) ?_
          refine F.q rfl rfl rfl (wanted_none rfl) (r_load ta3 rfl (fun w hw => cell_0 (Rd.flat ((rd_sl (i := 0) rfl) w hw) (rdl_some h44).2.2) rfl)) ?_
          refine F.q rfl rfl rfl (wanted_none rfl) (r_indexAddrS Try.underlying23 ti3 rfl hl_x11 rfl (rdl_some h46).1 (rdl_some h46).2.1) ?_
          refine F.q rfl rfl rfl (wanted_none rfl) (r_load ta3 rfl (fun w hw => cell_0 (Rd.flat ((rd_sl (i := 2) rfl) w hw) (rdl_some h46).2.2) rfl)) ?_
          refine F.q rfl rfl rfl (wanted_none rfl) (r_add rfl rfl) ?_
          refine F.q rfl rfl rfl (wanted_none rfl) (r_indexAddrS Try.underlying23 ti3 rfl hl_x11 rfl (rdl_some h49).1 (rdl_some h49).2.1) ?_
          refine F.ef0 rfl rfl (wanted_none rfl) (d_storeE (i := 2) (x1 := w64 (t46 + 1)) ti3 rfl rfl rfl (rdl_some h49) rfl) ?_
          rintro _ _ ⟨rfl, rfl⟩
          refine F.nil ?_
          refine Nrm.imp (cloS1 (cs := [R.sl S39_0_1 v39_0_1 (t39 : List (Int))]) (rest := [R.sl S34_1 v34_1 (x11.set t44.toNat (w64 (t46 + 1)) : List (Int))]) [0, 1] [2] rfl rfl (jn_sl (S := S39_0_1) (v := v39_0_1) (l := (t39 : List (Int)))) hS39_1) ?_
          refine Nrm.block ?_
          refine Nrm.seq ?_
          refine Tri.reg (l := [0, 1]) rfl ?_
          refine F.q rfl rfl rfl (wanted_none rfl) (r_add rfl rfl) ?_
          refine F.q rfl rfl rfl (wanted_none rfl) (r_move rfl) ?_
          refine F.nil ?_
          refine Nrm.round ?_
          refine Rnd.only [10, 11, 35, 36, 37] rfl ?_
          refine Rnd.pick [1, 0] rfl rfl ?_
          exact ih_1 _ _ ⟨x11.set t44.toNat (w64 (t46 + 1)), (x35 : List (List Int)).set (x37).toNat t39, w64 (x37 + 1), hE_2, (len_set hl_x11), (len_set hl_x35), rfl, rfl⟩
        · replace hE_2 := if_ff g_2 hE_2
          refine Tri.exit ?_
          refine Exi.then ?_
          refine Exi.then ?_
          refine Exi.same ?_
          cases hE_2
          refine Nrm.seq ?_
          refine Tri.seq ?_
          refine Tri.reg (l := [0, 1, 2]) rfl ?_
          refine F.q rfl rfl rfl (wanted_none rfl) (r_move rfl) ?_
          refine F.q rfl rfl rfl (wanted_none rfl) (r_assign rfl) ?_
          refine F.q rfl rfl rfl (wanted_none rfl) (r_assign rfl) ?_
          refine F.nil ?_
          refine Nrm.seq ?_
          refine Tri.ret ?_
          cases h
          exact Rtn.body (.tmp rfl (.tmp rfl .nil)) (fun w hw => ⟨_, _, rfl, ⟨v34_1, S34_1, rfl, hl_x11, rfl⟩, Sep.pick (is := [0]) rfl rfl hw⟩)
  · rcases Bool.eq_false_or_eq_true (!t17_2) with g28 | g28
    · replace hE_1 := if_tt g28 hE_1
      refine Tri.reg (l := [0, 1, 2, 3, 4, 5]) rfl ?_
      refine F.q rfl rfl rfl (wanted_none rfl) (r_move rfl) ?_
      refine F.q rfl rfl rfl (wanted_none rfl) (r_not rfl) ?_
      refine F.q rfl rfl rfl (wanted_none rfl) (r_move rfl) ?_
      refine F.sk rfl rfl rfl (wf rfl rfl rfl g28) ?_
      refine F.sk rfl rfl rfl (wf rfl rfl rfl g28) ?_
      refine F.q rfl rfl rfl (wanted_none rfl) (r_pick rfl rfl g28) ?_
      refine F.nil ?_
      cases hE_1
      refine Nrm.only [3, 8, 10, 31] rfl ?_
      refine Nrm.pick [2, 1] rfl rfl ?_
      exact hj_1 _ _ ⟨rfl, rfl⟩
    · replace hE_1 := if_ff g28 hE_1
      refine Tri.reg (l := [0, 1, 2, 3, 4, 5]) rfl ?_
      refine F.q rfl rfl rfl (wanted_none rfl) (r_move rfl) ?_
      refine F.q rfl rfl rfl (wanted_none rfl) (r_not rfl) ?_
      refine F.q rfl rfl rfl (wanted_none rfl) (r_move rfl) ?_
      refine F.q rfl rfl rfl (wg rfl rfl rfl g28) (r_move rfl) ?_
      refine F.q rfl rfl rfl (wg rfl rfl rfl g28) (r_lss rfl rfl) ?_
      refine F.q rfl rfl rfl (wanted_none rfl) (r_pickf rfl rfl g28) ?_
      refine F.nil ?_
      cases hE_1
      refine Nrm.only [3, 8, 10, 31] rfl ?_
      refine Nrm.pick [2, 1] rfl rfl ?_
      exact hj_1 _ _ ⟨rfl, rfl⟩

end Go.Proofs

/- loop.example/g01158/laws.FnExactNodeCounts -/
namespace Go.Proofs
open Go Go.Ga
set_option linter.unusedVariables false
set_option maxRecDepth 100000
set_option maxHeartbeats 4000000
def laws_FnExactNodeCounts.f (k : Nat) (a0_0 : Int) (a0_1 : List (Int × Int × Int)) (a0_2 : List Int) (a1 : Int) (a2 : Int) : Option (Bool) := (laws_szMaze.f k a0_0 a0_1 a0_2 1048576).bind fun t20 => (if (decide (t20 < 0)) = true then some true else (laws_toMaze.f k a0_0 a0_1 a0_2).bind fun (t25_1, t25_2, t25_3) => (spec_NodeCounts.f k t25_1 t25_2 t25_3 a1 a2).bind fun (t28_1, t28_2) => (laws_toMaze.f k a0_0 a0_1 a0_2).bind fun (t32_1, t32_2, t32_3) => (impl_NodeCounts.f k t32_1 t32_2 t32_3 a1 a2).bind fun (t37_1, t37_2) => ((laws_eqIntS.f k t37_1 t28_1).bind fun t42 => (if (!t42) = true then some true else some (t37_2 != t28_2))).bind fun y48 => (if y48 = true then some false else (laws_toMaze.f k a0_0 a0_1 a0_2).bind fun (t51_1, t51_2, t51_3) => (laws_eqMaze.f k t32_1 t32_2 t32_3 t51_1 t51_2 t51_3).bind fun t52 => (if (!t52) = true then some false else (laws_markMaze.f k t32_1 t32_2 t32_3 1).bind fun (t56_1, t56_2, t56_3) => ((if (decide (t56_1 < 0)) = true then some true else (laws_eqIntS.f k t37_1 t28_1).bind fun t62 => (if (!t62) = true then some true else some (t37_2 != t28_2)))).bind fun y69 => (if y69 = true then some false else (laws_markIntS.f k t37_1 1).bind fun (t72_1, t72_2) => (laws_heldIntS.f k t72_2 1).bind fun t75 => (if (decide (t75 < 0)) = true then some false else (if (t75 != t72_1) = true then some false else (laws_toMaze.f k a0_0 a0_1 a0_2).bind fun (t83_1, t83_2, t83_3) => (impl_NodeCounts.f k t83_1 t83_2 t83_3 a1 a2).bind fun (t86_1, t86_2) => ((laws_eqIntS.f k t86_1 t28_1).bind fun t91 => (if (!t91) = true then some true else some (t86_2 != t28_2))).bind fun y97 => (if y97 = true then some false else (laws_heldIntS.f k t72_2 1).bind fun t100 => (if (decide (t100 < 0)) = true then some false else (if (t100 != t72_1) = true then some false else some true)))))))))

theorem laws_FnExactNodeCounts.ok {k : Nat}  {a0_0 : Int} {a0_1 : List (Int × Int × Int)} {a0_2 : List Int} {a1 : Int} {a2 : Int} {r0 : Bool} (h : laws_FnExactNodeCounts.f k a0_0 a0_1 a0_2 a1 a2 = some r0) (w : World) {va0_1 : Value} {va0_2 : Value} (hr_a0_1 : Rd w va0_1 a0_1) (hr_a0_2 : Rd w va0_2 a0_2) :
    Calls Try.prog 8 ([.agg ([.int .i64 a0_0, va0_1, va0_2].toArray), .int .i64 a1, .int .i64 a2] : List Value).toArray w (fun e w' => e = .returned (.bool r0) ∧ Ext w w') := by
  unfold laws_FnExactNodeCounts.f at h
  have hl_va0_1 := hr_a0_1.len
  have hl_va0_2 := hr_a0_2.len
  refine Calls.of_tri (N := 106) Try.func8 rfl rfl rfl (Sep.nil (M := noM)) ?_
  refine Tri.seq ?_
  refine Tri.reg (l := [0, 1]) rfl ?_
  refine F.m rfl rfl rfl (wanted_none rfl) (m_boxG rfl rfl) ?_
  rintro _ _ ⟨b3_1, rfl, rfl⟩
  refine F.q rfl rfl rfl (wanted_none rfl) (r_assign rfl) ?_
  refine F.nil ?_
  refine Nrm.seq ?_
  refine Tri.seq ?_
  refine Tri.reg (l := [0]) rfl ?_
  refine F.q rfl rfl rfl (wanted_none rfl) (r_assign rfl) ?_
  refine F.nil ?_
  refine Nrm.seq ?_
  refine Tri.seq ?_
  obtain ⟨t20, h20, h⟩ := bind_some h
  refine Tri.reg (l := [0, 1, 2, 3]) rfl ?_
  refine F.q rfl rfl rfl (wanted_none rfl) (r_loadA ta25 ti25 rfl rfl (fun w hw => (box_cells (i := 0) rfl w hw))) ?_
  refine F.q rfl rfl rfl (wanted_none rfl) (r_move rfl) ?_
  refine F.qc rfl rfl rfl (wanted_none rfl) (q_callF (xs := _) rfl ok21 rfl rfl (fun w hw => laws_szMaze.ok h20 w ((fun _ hw => hr_a0_1.sep hw) w hw) ((fun _ hw => hr_a0_2.sep hw) w hw))) ?_
  refine F.q rfl rfl rfl (wanted_none rfl) (r_assign rfl) ?_
  refine F.nil ?_
  refine Nrm.seq ?_
  refine Tri.seq ?_
  refine Tri.seq ?_
  refine Tri.reg (l := [0, 1]) rfl ?_
  refine F.q rfl rfl rfl (wanted_none rfl) (r_move rfl) ?_
  refine F.q rfl rfl rfl (wanted_none rfl) (r_lss rfl rfl) ?_
  refine F.nil ?_
  refine Nrm.seq ?_
  refine Tri.cond (b := decide (t20 < 0)) rfl (fun g_1 => ?_) (fun g_1 => ?_)
  · replace h := if_tt g_1 h
    refine Tri.seq ?_
    refine Tri.reg (l := [0]) rfl ?_
    refine F.q rfl rfl rfl (wanted_none rfl) (r_assign rfl) ?_
    refine F.nil ?_
    refine Nrm.seq ?_
    refine Tri.ret ?_
    refine Rtn.then ?_
    cases h
    exact Rtn.body (.tmp rfl .nil) (fun w hw => ⟨rfl, hw.ext⟩)
  · replace h := if_ff g_1 h
    refine Tri.skip ?_
    refine Nrm.seq ?_
    refine Tri.seq ?_
    obtain ⟨⟨t25_1, t25_2, t25_3⟩, h25, h⟩ := bind_some h
    obtain ⟨⟨t28_1, t28_2⟩, h28, h⟩ := bind_some h
    refine Tri.reg (l := [0, 1, 2, 3, 4, 5, 6, 7, 8, 9]) rfl ?_
    refine F.q rfl rfl rfl (wanted_none rfl) (r_loadA ta25 ti25 rfl rfl (fun w hw => (box_cells (i := 0) rfl w hw))) ?_
    refine F.m rfl rfl rfl (wanted_none rfl) (m_callF (xs := _) rfl ok23 rfl rfl (fun w hw => laws_toMaze.ok h25 w ((fun _ hw => hr_a0_1.sep hw) w hw) ((fun _ hw => hr_a0_2.sep hw) w hw))) ?_
    rintro _ _ ⟨_, ⟨v25_1, S25_1, v25_2, S25_2, rfl, hl_v25_1, hl_v25_2, rfl⟩, rfl⟩
    refine F.q rfl rfl rfl (wanted_none rfl) (r_move rfl) ?_
    refine F.q rfl rfl rfl (wanted_none rfl) (r_move rfl) ?_
    refine F.m rfl rfl rfl (wanted_none rfl) (m_callF (xs := _) rfl ok37 rfl rfl (fun w hw => spec_NodeCounts.ok h28 w ((rd_sl (i := 0) rfl) w hw) ((rd_sl (i := 1) rfl) w hw))) ?_
    rintro _ _ ⟨_, ⟨v28_1, S28_1, rfl, hl_v28_1, rfl⟩, rfl⟩
    refine F.q rfl rfl rfl (wanted_none rfl) (r_move rfl) ?_
    refine F.q rfl rfl rfl (wanted_none rfl) (r_extract rfl rfl) ?_
    refine F.q rfl rfl rfl (wanted_none rfl) (r_extract rfl rfl) ?_
    refine F.q rfl rfl rfl (wanted_none rfl) (r_assign rfl) ?_
    refine F.q rfl rfl rfl (wanted_none rfl) (r_assign rfl) ?_
    refine F.nil ?_
    refine Nrm.seq ?_
    refine Tri.seq ?_
    obtain ⟨⟨t32_1, t32_2, t32_3⟩, h32, h⟩ := bind_some h
    refine Tri.reg (l := [0, 1, 2, 3]) rfl ?_
    refine F.q rfl rfl rfl (wanted_none rfl) (r_loadA ta25 ti25 rfl rfl (fun w hw => (box_cells (i := 3) rfl w hw))) ?_
    refine F.m rfl rfl rfl (wanted_none rfl) (m_callF (xs := _) rfl ok23 rfl rfl (fun w hw => laws_toMaze.ok h32 w ((fun _ hw => hr_a0_1.sep hw) w hw) ((fun _ hw => hr_a0_2.sep hw) w hw))) ?_
    rintro _ _ ⟨_, ⟨v32_1, S32_1, v32_2, S32_2, rfl, hl_v32_1, hl_v32_2, rfl⟩, rfl⟩
    refine F.m rfl rfl rfl (wanted_none rfl) (m_alloc ti31) ?_
    rintro _ _ ⟨b10_1, rfl, rfl⟩
    refine F.ef0 rfl rfl (wanted_none rfl) (d_storeG0 (i := 0) (cs2 := [.int .i64 t32_1, v32_1, v32_2]) ti31 rfl rfl rfl rfl rfl (Nat.le_of_ble_eq_true rfl) (lf_cons rfl (lf_cons (sl_leaf hl_v32_1) (lf_cons (sl_leaf hl_v32_2) lf_nil)))) ?_
    rintro _ _ ⟨rfl, rfl⟩
    refine F.nil ?_
    refine Nrm.seq ?_
    refine Tri.seq ?_
    obtain ⟨⟨t37_1, t37_2⟩, h37, h⟩ := bind_some h
    refine Tri.reg (l := [0, 1, 2, 3, 4, 5, 6, 7, 8]) rfl ?_
    refine F.q rfl rfl rfl (wanted_none rfl) (r_loadA ta31 ti31 rfl rfl (fun w hw => (box_cells (i := 0) rfl w hw))) ?_
    refine F.q rfl rfl rfl (wanted_none rfl) (r_move rfl) ?_
    refine F.q rfl rfl rfl (wanted_none rfl) (r_move rfl) ?_
    refine F.m rfl rfl rfl (wanted_none rfl) (m_callF (xs := _) rfl ok38 rfl rfl (fun w hw => impl_NodeCounts.ok h37 w ((rd_sl (i := 1) rfl) w hw) ((rd_sl (i := 2) rfl) w hw))) ?_
    rintro _ _ ⟨_, ⟨v37_1, S37_1, rfl, hl_v37_1, rfl⟩, rfl⟩
    refine F.q rfl rfl rfl (wanted_none rfl) (r_move rfl) ?_
    refine F.q rfl rfl rfl (wanted_none rfl) (r_extract rfl rfl) ?_
    refine F.q rfl rfl rfl (wanted_none rfl) (r_extract rfl rfl) ?_
    refine F.q rfl rfl rfl (wanted_none rfl) (r_assign rfl) ?_
    refine F.q rfl rfl rfl (wanted_none rfl) (r_assign rfl) ?_
    refine F.nil ?_
    refine Nrm.seq ?_
    refine Tri.seq ?_
    refine Tri.seq ?_
    obtain ⟨y48, hE_1, h⟩ := bind_some h
    refine Tri.cut (fun e' C' => e' = [(1, .int .i64 a1), (2, .int .i64 a2), (3, .pointer (some ⟨b3_1, 0, none⟩)), (8, v28_1), (9, .bool t28_2), (10, .pointer (some ⟨b10_1, 0, none⟩)), (11, v37_1), (12, .bool t37_2), (48, .bool y48)] ∧ C' = Sep w noM [R.box b10_1 31 [.int .i64 t32_1, v32_1, v32_2], R.box b3_1 25 [.int .i64 a0_0, va0_1, va0_2], R.sl S28_1 v28_1 (t28_1 : List (Int)), R.sl S32_1 v32_1 (t32_2 : List (Int × Int × Int)), R.sl S32_2 v32_2 (t32_3 : List (Int)), R.sl S37_1 v37_1 (t37_1 : List (Int))]) ?_ (fun hj_1 => ?_)
    · rintro _ _ ⟨rfl, rfl⟩
      refine Nrm.seq ?_
      refine Tri.cond (b := y48) rfl (fun g_2 => ?_) (fun g_2 => ?_)
      · replace h := if_tt g_2 h
        refine Tri.seq ?_
        refine Tri.reg (l := [0]) rfl ?_
        refine F.q rfl rfl rfl (wanted_none rfl) (r_assign rfl) ?_
        refine F.nil ?_
        refine Nrm.seq ?_
        refine Tri.ret ?_
        refine Rtn.then ?_
        cases h
        exact Rtn.body (.tmp rfl .nil) (fun w hw => ⟨rfl, hw.ext⟩)
      · replace h := if_ff g_2 h
        refine Tri.skip ?_
        refine Nrm.seq ?_
        refine Tri.seq ?_
        refine Tri.seq ?_
        obtain ⟨⟨t51_1, t51_2, t51_3⟩, h51, h⟩ := bind_some h
        obtain ⟨t52, h52, h⟩ := bind_some h
        refine Tri.drawA mixedT Sep.up [(0, true), (1, true), (2, false), (3, true), (4, true)] [] (by kernel_rfl) ?_
        refine S.q rfl rfl rfl (wanted_none rfl) (r_loadA ta31 ti31 rfl rfl (fun w hw => (box_cells (i := 0) rfl w hw))) ?_
        refine S.q rfl rfl rfl (wanted_none rfl) (r_loadA ta25 ti25 rfl rfl (fun w hw => (box_cells (i := 1) rfl w hw))) ?_
        refine S.m rfl rfl rfl (wanted_none rfl) (m_callF (xs := _) rfl ok23 rfl rfl (fun w hw => laws_toMaze.ok h51 w ((fun _ hw => hr_a0_1.sep hw) w hw) ((fun _ hw => hr_a0_2.sep hw) w hw))) ?_
        rintro _ _ ⟨_, ⟨v51_3, S51_3, v51_4, S51_4, rfl, hl_v51_3, hl_v51_4, rfl⟩, rfl⟩
        refine S.qc rfl rfl rfl (wanted_none rfl) (q_callF (xs := _) rfl ok27 rfl rfl (fun w hw => laws_eqMaze.ok h52 w ((rd_sl (i := 5) rfl) w hw) ((rd_sl (i := 6) rfl) w hw) ((rd_sl (i := 0) rfl) w hw) ((rd_sl (i := 1) rfl) w hw))) ?_
        refine S.q rfl rfl rfl (wanted_none rfl) (r_not rfl) ?_
        refine S.nil ?_
        refine F.nil ?_
        refine Nrm.seq ?_
        refine Tri.cond (b := !t52) rfl (fun g_3 => ?_) (fun g_3 => ?_)
        · replace h := if_tt g_3 h
          refine Tri.seq ?_
          refine Tri.reg (l := [0]) rfl ?_
          refine F.q rfl rfl rfl (wanted_none rfl) (r_assign rfl) ?_
          refine F.nil ?_
          refine Nrm.seq ?_
          refine Tri.ret ?_
          refine Rtn.then ?_
          cases h
          exact Rtn.body (.tmp rfl .nil) (fun w hw => ⟨rfl, hw.ext⟩)
        · replace h := if_ff g_3 h
          refine Tri.skip ?_
          refine Nrm.seq ?_
          refine Tri.seq ?_
          refine Tri.reg (l := [0]) rfl ?_
          refine F.q rfl rfl rfl (wanted_none rfl) (r_assign rfl) ?_
          refine F.nil ?_
          refine Nrm.seq ?_
          refine Tri.seq ?_
          obtain ⟨⟨t56_1, t56_2, t56_3⟩, h56, h⟩ := bind_some h
          refine Tri.reg (l := [0, 1, 2, 3]) rfl ?_
          refine F.q rfl rfl rfl (wanted_none rfl) (r_loadA ta31 ti31 rfl rfl (fun w hw => (box_cells (i := 2) rfl w hw))) ?_
          refine F.q rfl rfl rfl (wanted_none rfl) (r_move rfl) ?_
          refine F.ef rfl rfl rfl (wanted_none rfl) (d_callM (xs := _) (cs := [R.sl S32_1 v32_1 (t32_2 : List (Int × Int × Int)), R.sl S32_2 v32_2 (t32_3 : List (Int))]) (rest := [R.sl S51_3 v51_3 (t51_2 : List (Int × Int × Int)), R.sl S51_4 v51_4 (t51_3 : List (Int)), R.box b10_1 31 [.int .i64 t32_1, v32_1, v32_2], R.box b3_1 25 [.int .i64 a0_0, va0_1, va0_2], R.sl S28_1 v28_1 (t28_1 : List (Int)), R.sl S37_1 v37_1 (t37_1 : List (Int))]) [5, 6] [0, 1, 2, 3, 4, 7] rfl ok28 rfl rfl rfl rfl (fun w hw => laws_markMaze.ok h56 w hl_v32_1 hl_v32_2 (Sep.sub hw))) ?_
          rintro _ _ ⟨_, ⟨rfl, hl_t56_2, hl_t56_3, rfl⟩, rfl⟩
          refine F.q rfl rfl rfl (wanted_none rfl) (r_assign rfl) ?_
          refine F.nil ?_
          refine Nrm.seq ?_
          refine Tri.seq ?_
          refine Tri.seq ?_
          obtain ⟨y69, hE_2, h⟩ := bind_some h
          refine Tri.cut (fun e' C' => e' = [(1, .int .i64 a1), (2, .int .i64 a2), (3, .pointer (some ⟨b3_1, 0, none⟩)), (8, v28_1), (9, .bool t28_2), (11, v37_1), (69, .bool y69)] ∧ C' = Sep w noM [R.box b3_1 25 [.int .i64 a0_0, va0_1, va0_2], R.sl S28_1 v28_1 (t28_1 : List (Int)), R.sl S37_1 v37_1 (t37_1 : List (Int))]) ?_ (fun hj_2 => ?_)
          · rintro _ _ ⟨rfl, rfl⟩
            refine Nrm.seq ?_
            refine Tri.cond (b := y69) rfl (fun g_4 => ?_) (fun g_4 => ?_)
            · replace h := if_tt g_4 h
              refine Tri.seq ?_
              refine Tri.reg (l := [0]) rfl ?_
              refine F.q rfl rfl rfl (wanted_none rfl) (r_assign rfl) ?_
              refine F.nil ?_
              refine Nrm.seq ?_
              refine Tri.ret ?_
              refine Rtn.then ?_
              cases h
              exact Rtn.body (.tmp rfl .nil) (fun w hw => ⟨rfl, hw.ext⟩)
            · replace h := if_ff g_4 h
              refine Tri.skip ?_
              refine Nrm.seq ?_
              refine Tri.seq ?_
              refine Tri.reg (l := [0]) rfl ?_
              refine F.q rfl rfl rfl (wanted_none rfl) (r_assign rfl) ?_
              refine F.nil ?_
              refine Nrm.seq ?_
              refine Tri.seq ?_
              obtain ⟨⟨t72_1, t72_2⟩, h72, h⟩ := bind_some h
              refine Tri.reg (l := [0, 1, 2, 3]) rfl ?_
              refine F.q rfl rfl rfl (wanted_none rfl) (r_move rfl) ?_
              refine F.q rfl rfl rfl (wanted_none rfl) (r_move rfl) ?_
              refine F.ef rfl rfl rfl (wanted_none rfl) (d_callM (xs := _) (cs := [R.sl S37_1 v37_1 (t37_1 : List (Int))]) (rest := [R.box b3_1 25 [.int .i64 a0_0, va0_1, va0_2], R.sl S28_1 v28_1 (t28_1 : List (Int))]) [2] [0, 1] rfl ok19 rfl rfl rfl rfl (fun w hw => laws_markIntS.ok h72 w hl_v37_1 (Sep.sub hw))) ?_
              rintro _ _ ⟨_, ⟨rfl, hl_t72_2, rfl⟩, rfl⟩
              refine F.q rfl rfl rfl (wanted_none rfl) (r_assign rfl) ?_
              refine F.nil ?_
              refine Nrm.seq ?_
              refine Tri.seq ?_
              refine Tri.reg (l := [0]) rfl ?_
              refine F.q rfl rfl rfl (wanted_none rfl) (r_assign rfl) ?_
              refine F.nil ?_
              refine Nrm.seq ?_
              refine Tri.seq ?_
              obtain ⟨t75, h75, h⟩ := bind_some h
              refine Tri.reg (l := [0, 1, 2, 3]) rfl ?_
              refine F.q rfl rfl rfl (wanted_none rfl) (r_move rfl) ?_
              refine F.q rfl rfl rfl (wanted_none rfl) (r_move rfl) ?_
              refine F.qc rfl rfl rfl (wanted_none rfl) (q_callF (xs := _) rfl ok20 rfl rfl (fun w hw => laws_heldIntS.ok h75 w ((rd_sl (i := 0) rfl) w hw))) ?_
              refine F.q rfl rfl rfl (wanted_none rfl) (r_assign rfl) ?_
              refine F.nil ?_
              refine Nrm.seq ?_
              refine Tri.seq ?_
              refine Tri.seq ?_
              refine Tri.reg (l := [0, 1]) rfl ?_
              refine F.q rfl rfl rfl (wanted_none rfl) (r_move rfl) ?_
              refine F.q rfl rfl rfl (wanted_none rfl) (r_lss rfl rfl) ?_
              refine F.nil ?_
              refine Nrm.seq ?_
              refine Tri.cond (b := decide (t75 < 0)) rfl (fun g_5 => ?_) (fun g_5 => ?_)
              · replace h := if_tt g_5 h
                refine Tri.seq ?_
                refine Tri.reg (l := [0]) rfl ?_
                refine F.q rfl rfl rfl (wanted_none rfl) (r_assign rfl) ?_
                refine F.nil ?_
                refine Nrm.seq ?_
                refine Tri.ret ?_
                refine Rtn.then ?_
                cases h
                exact Rtn.body (.tmp rfl .nil) (fun w hw => ⟨rfl, hw.ext⟩)
              · replace h := if_ff g_5 h
                refine Tri.skip ?_
                refine Nrm.seq ?_
                refine Tri.seq ?_
                refine Tri.seq ?_
                refine Tri.reg (l := [0, 1, 2]) rfl ?_
                refine F.q rfl rfl rfl (wanted_none rfl) (r_move rfl) ?_
                refine F.q rfl rfl rfl (wanted_none rfl) (r_move rfl) ?_
                refine F.q rfl rfl rfl (wanted_none rfl) (r_neq rfl rfl) ?_
                refine F.nil ?_
                refine Nrm.seq ?_
                refine Tri.cond (b := t75 != t72_1) rfl (fun g_6 => ?_) (fun g_6 => ?_)
                · replace h := if_tt g_6 h
                  refine Tri.seq ?_
                  refine Tri.reg (l := [0]) rfl ?_
                  refine F.q rfl rfl rfl (wanted_none rfl) (r_assign rfl) ?_
                  refine F.nil ?_
                  refine Nrm.seq ?_
                  refine Tri.ret ?_
                  refine Rtn.then ?_
                  cases h
                  exact Rtn.body (.tmp rfl .nil) (fun w hw => ⟨rfl, hw.ext⟩)
                · replace h := if_ff g_6 h
                  refine Tri.skip ?_
                  refine Nrm.seq ?_
                  refine Tri.seq ?_
                  obtain ⟨⟨t83_1, t83_2, t83_3⟩, h83, h⟩ := bind_some h
                  obtain ⟨⟨t86_1, t86_2⟩, h86, h⟩ := bind_some h
                  refine Tri.reg (l := [0, 1, 2, 3, 4, 5, 6, 7, 8, 9]) rfl ?_
                  refine F.q rfl rfl rfl (wanted_none rfl) (r_loadA ta25 ti25 rfl rfl (fun w hw => (box_cells (i := 1) rfl w hw))) ?_
                  refine F.m rfl rfl rfl (wanted_none rfl) (m_callF (xs := _) rfl ok23 rfl rfl (fun w hw => laws_toMaze.ok h83 w ((fun _ hw => hr_a0_1.sep hw) w hw) ((fun _ hw => hr_a0_2.sep hw) w hw))) ?_
                  rintro _ _ ⟨_, ⟨v83_1, S83_1, v83_2, S83_2, rfl, hl_v83_1, hl_v83_2, rfl⟩, rfl⟩
                  refine F.q rfl rfl rfl (wanted_none rfl) (r_move rfl) ?_
                  refine F.q rfl rfl rfl (wanted_none rfl) (r_move rfl) ?_
                  refine F.m rfl rfl rfl (wanted_none rfl) (m_callF (xs := _) rfl ok38 rfl rfl (fun w hw => impl_NodeCounts.ok h86 w ((rd_sl (i := 0) rfl) w hw) ((rd_sl (i := 1) rfl) w hw))) ?_
                  rintro _ _ ⟨_, ⟨v86_1, S86_1, rfl, hl_v86_1, rfl⟩, rfl⟩
                  refine F.q rfl rfl rfl (wanted_none rfl) (r_move rfl) ?_
                  refine F.q rfl rfl rfl (wanted_none rfl) (r_extract rfl rfl) ?_
                  refine F.q rfl rfl rfl (wanted_none rfl) (r_extract rfl rfl) ?_
                  refine F.q rfl rfl rfl (wanted_none rfl) (r_assign rfl) ?_
                  refine F.q rfl rfl rfl (wanted_none rfl) (r_assign rfl) ?_
                  refine F.nil ?_
                  refine Nrm.seq ?_
                  refine Tri.seq ?_
                  refine Tri.seq ?_
                  obtain ⟨y97, hE_3, h⟩ := bind_some h
                  refine Tri.cut (fun e' C' => e' = [(11, v37_1), (14, .int .i64 t72_1), (97, .bool y97)] ∧ C' = Sep w noM [R.sl S37_1 v37_1 (t72_2 : List (Int))]) ?_ (fun hj_3 => ?_)
                  · rintro _ _ ⟨rfl, rfl⟩
                    refine Nrm.seq ?_
                    refine Tri.cond (b := y97) rfl (fun g_7 => ?_) (fun g_7 => ?_)
                    · replace h := if_tt g_7 h
                      refine Tri.seq ?_
                      refine Tri.reg (l := [0]) rfl ?_
                      refine F.q rfl rfl rfl (wanted_none rfl) (r_assign rfl) ?_
                      refine F.nil ?_
                      refine Nrm.seq ?_
                      refine Tri.ret ?_
                      refine Rtn.then ?_
                      cases h
                      exact Rtn.body (.tmp rfl .nil) (fun w hw => ⟨rfl, hw.ext⟩)
                    · replace h := if_ff g_7 h
                      refine Tri.skip ?_
                      refine Nrm.seq ?_
                      refine Tri.seq ?_
                      refine Tri.reg (l := [0]) rfl ?_
                      refine F.q rfl rfl rfl (wanted_none rfl) (r_assign rfl) ?_
                      refine F.nil ?_
                      refine Nrm.seq ?_
                      refine Tri.seq ?_
                      obtain ⟨t100, h100, h⟩ := bind_some h
                      refine Tri.reg (l := [0, 1, 2, 3]) rfl ?_
                      refine F.q rfl rfl rfl (wanted_none rfl) (r_move rfl) ?_
                      refine F.q rfl rfl rfl (wanted_none rfl) (r_move rfl) ?_
                      refine F.qc rfl rfl rfl (wanted_none rfl) (q_callF (xs := _) rfl ok20 rfl rfl (fun w hw => laws_heldIntS.ok h100 w ((rd_sl (i := 0) rfl) w hw))) ?_
                      refine F.q rfl rfl rfl (wanted_none rfl) (r_assign rfl) ?_
                      refine F.nil ?_
                      refine Nrm.seq ?_
                      refine Tri.seq ?_
                      refine Tri.seq ?_
                      refine Tri.reg (l := [0, 1]) rfl ?_
                      refine F.q rfl rfl rfl (wanted_none rfl) (r_move rfl) ?_
                      refine F.q rfl rfl rfl (wanted_none rfl) (r_lss rfl rfl) ?_
                      refine F.nil ?_
                      refine Nrm.seq ?_
                      refine Tri.cond (b := decide (t100 < 0)) rfl (fun g_8 => ?_) (fun g_8 => ?_)
                      · replace h := if_tt g_8 h
                        refine Tri.seq ?_
                        refine Tri.reg (l := [0]) rfl ?_
                        refine F.q rfl rfl rfl (wanted_none rfl) (r_assign rfl) ?_
                        refine F.nil ?_
                        refine Nrm.seq ?_
                        refine Tri.ret ?_
                        refine Rtn.then ?_
                        cases h
                        exact Rtn.body (.tmp rfl .nil) (fun w hw => ⟨rfl, hw.ext⟩)
                      · replace h := if_ff g_8 h
                        refine Tri.skip ?_
                        refine Nrm.seq ?_
                        refine Tri.seq ?_
                        refine Tri.seq ?_
                        refine Tri.reg (l := [0, 1, 2]) rfl ?_
                        refine F.q rfl rfl rfl (wanted_none rfl) (r_move rfl) ?_
                        refine F.q rfl rfl rfl (wanted_none rfl) (r_move rfl) ?_
                        refine F.q rfl rfl rfl (wanted_none rfl) (r_neq rfl rfl) ?_
                        refine F.nil ?_
                        refine Nrm.seq ?_
                        refine Tri.cond (b := t100 != t72_1) rfl (fun g_9 => ?_) (fun g_9 => ?_)
                        · replace h := if_tt g_9 h
                          refine Tri.seq ?_
                          refine Tri.reg (l := [0]) rfl ?_
                          refine F.q rfl rfl rfl (wanted_none rfl) (r_assign rfl) ?_
                          refine F.nil ?_
                          refine Nrm.seq ?_
                          refine Tri.ret ?_
                          refine Rtn.then ?_
                          cases h
                          exact Rtn.body (.tmp rfl .nil) (fun w hw => ⟨rfl, hw.ext⟩)
                        · replace h := if_ff g_9 h
                          refine Tri.skip ?_
                          refine Nrm.seq ?_
                          refine Tri.seq ?_
                          refine Tri.reg (l := [0]) rfl ?_
                          refine F.q rfl rfl rfl (wanted_none rfl) (r_assign rfl) ?_
                          refine F.nil ?_
                          refine Nrm.seq ?_
                          refine Tri.ret ?_
                          cases h
                          exact Rtn.body (.tmp rfl .nil) (fun w hw => ⟨rfl, hw.ext⟩)
                  · obtain ⟨t91, h91, hE_3⟩ := bind_some hE_3
                    rcases Bool.eq_false_or_eq_true (!t91) with g93 | g93
                    · replace hE_3 := if_tt g93 hE_3
                      refine Tri.reg (l := [0, 1, 2, 3, 4, 5, 6, 7, 8]) rfl ?_
                      refine F.q rfl rfl rfl (wanted_none rfl) (r_move rfl) ?_
                      refine F.q rfl rfl rfl (wanted_none rfl) (r_move rfl) ?_
                      refine F.qc rfl rfl rfl (wanted_none rfl) (q_callF (xs := _) rfl ok16 rfl rfl (fun w hw => laws_eqIntS.ok h91 w ((rd_sl (i := 0) rfl) w hw) ((rd_sl (i := 5) rfl) w hw))) ?_
                      refine F.q rfl rfl rfl (wanted_none rfl) (r_not rfl) ?_
                      refine F.q rfl rfl rfl (wanted_none rfl) (r_move rfl) ?_
                      refine F.sk rfl rfl rfl (wf rfl rfl rfl g93) ?_
                      refine F.sk rfl rfl rfl (wf rfl rfl rfl g93) ?_
                      refine F.sk rfl rfl rfl (wf rfl rfl rfl g93) ?_
                      refine F.q rfl rfl rfl (wanted_none rfl) (r_pick rfl rfl g93) ?_
                      refine F.nil ?_
                      cases hE_3
                      refine Nrm.only [11, 14, 97] rfl ?_
                      refine Nrm.pick [3] rfl rfl ?_
                      exact hj_3 _ _ ⟨rfl, rfl⟩
                    · replace hE_3 := if_ff g93 hE_3
                      refine Tri.reg (l := [0, 1, 2, 3, 4, 5, 6, 7, 8]) rfl ?_
                      refine F.q rfl rfl rfl (wanted_none rfl) (r_move rfl) ?_
                      refine F.q rfl rfl rfl (wanted_none rfl) (r_move rfl) ?_
                      refine F.qc rfl rfl rfl (wanted_none rfl) (q_callF (xs := _) rfl ok16 rfl rfl (fun w hw => laws_eqIntS.ok h91 w ((rd_sl (i := 0) rfl) w hw) ((rd_sl (i := 5) rfl) w hw))) ?_
                      refine F.q rfl rfl rfl (wanted_none rfl) (r_not rfl) ?_
                      refine F.q rfl rfl rfl (wanted_none rfl) (r_move rfl) ?_
                      refine F.q rfl rfl rfl (wg rfl rfl rfl g93) (r_move rfl) ?_
                      refine F.q rfl rfl rfl (wg rfl rfl rfl g93) (r_move rfl) ?_
                      refine F.q rfl rfl rfl (wg rfl rfl rfl g93) (r_neqB Try.underlying4 rfl rfl) ?_
                      refine F.q rfl rfl rfl (wanted_none rfl) (r_pickf rfl rfl g93) ?_
                      refine F.nil ?_
                      cases hE_3
                      refine Nrm.only [11, 14, 97] rfl ?_
                      refine Nrm.pick [3] rfl rfl ?_
                      exact hj_3 _ _ ⟨rfl, rfl⟩
          · rcases Bool.eq_false_or_eq_true (decide (t56_1 < 0)) with g59 | g59
            · replace hE_2 := if_tt g59 hE_2
              refine Tri.reg (l := [0, 1, 2, 3, 4, 5, 6, 7, 8, 9, 10, 11, 12]) rfl ?_
              refine F.q rfl rfl rfl (wanted_none rfl) (r_move rfl) ?_
              refine F.q rfl rfl rfl (wanted_none rfl) (r_lss rfl rfl) ?_
              refine F.q rfl rfl rfl (wanted_none rfl) (r_move rfl) ?_
              refine F.sk rfl rfl rfl (wf rfl rfl rfl g59) ?_
              refine F.sk rfl rfl rfl (wf rfl rfl rfl g59) ?_
              refine F.sk rfl rfl rfl (wf rfl rfl rfl g59) ?_
              refine F.sk rfl rfl rfl (wf rfl rfl rfl g59) ?_
              refine F.q rfl rfl rfl (wanted_none rfl) (r_pick rfl rfl g59) ?_
              refine F.q rfl rfl rfl (wanted_none rfl) (r_move rfl) ?_
              refine F.sk rfl rfl rfl (wf rfl rfl rfl rfl) ?_
              refine F.sk rfl rfl rfl (wf rfl rfl rfl rfl) ?_
              refine F.sk rfl rfl rfl (wf rfl rfl rfl rfl) ?_
              refine F.q rfl rfl rfl (wanted_none rfl) (r_pick rfl rfl rfl) ?_
              refine F.nil ?_
              cases hE_2
              refine Nrm.only [1, 2, 3, 8, 9, 11, 69] rfl ?_
              refine Nrm.pick [5, 6, 7] rfl rfl ?_
              exact hj_2 _ _ ⟨rfl, rfl⟩
            · replace hE_2 := if_ff g59 hE_2
              obtain ⟨t62, h62, hE_2⟩ := bind_some hE_2
              rcases Bool.eq_false_or_eq_true (!t62) with g65 | g65
              · replace hE_2 := if_tt g65 hE_2
                refine Tri.reg (l := [0, 1, 2, 3, 4, 5, 6, 7, 8, 9, 10, 11, 12]) rfl ?_
                refine F.q rfl rfl rfl (wanted_none rfl) (r_move rfl) ?_
                refine F.q rfl rfl rfl (wanted_none rfl) (r_lss rfl rfl) ?_
                refine F.q rfl rfl rfl (wanted_none rfl) (r_move rfl) ?_
                refine F.q rfl rfl rfl (wg rfl rfl rfl g59) (r_move rfl) ?_
                refine F.q rfl rfl rfl (wg rfl rfl rfl g59) (r_move rfl) ?_
                refine F.qc rfl rfl rfl (wg rfl rfl rfl g59) (q_callF (xs := _) rfl ok16 rfl rfl (fun w hw => laws_eqIntS.ok h62 w ((rd_sl (i := 7) rfl) w hw) ((rd_sl (i := 6) rfl) w hw))) ?_
                refine F.q rfl rfl rfl (wg rfl rfl rfl g59) (r_not rfl) ?_
                refine F.q rfl rfl rfl (wanted_none rfl) (r_pickf rfl rfl g59) ?_
                refine F.q rfl rfl rfl (wanted_none rfl) (r_move rfl) ?_
                refine F.sk rfl rfl rfl (wf rfl rfl rfl g65) ?_
                refine F.sk rfl rfl rfl (wf rfl rfl rfl g65) ?_
                refine F.sk rfl rfl rfl (wf rfl rfl rfl g65) ?_
                refine F.q rfl rfl rfl (wanted_none rfl) (r_pick rfl rfl g65) ?_
                refine F.nil ?_
                cases hE_2
                refine Nrm.only [1, 2, 3, 8, 9, 11, 69] rfl ?_
                refine Nrm.pick [5, 6, 7] rfl rfl ?_
                exact hj_2 _ _ ⟨rfl, rfl⟩
              · replace hE_2 := if_ff g65 hE_2
                refine Tri.reg (l := [0, 1, 2, 3, 4, 5, 6, 7, 8, 9, 10, 11, 12]) rfl ?_
                refine F.q rfl rfl rfl (wanted_none rfl) (r_move rfl) ?_
                refine F.q rfl rfl rfl (wanted_none rfl) (r_lss rfl rfl) ?_
                refine F.q rfl rfl rfl (wanted_none rfl) (r_move rfl) ?_
                refine F.q rfl rfl rfl (wg rfl rfl rfl g59) (r_move rfl) ?_
                refine F.q rfl rfl rfl (wg rfl rfl rfl g59) (r_move rfl) ?_
                refine F.qc rfl rfl rfl (wg rfl rfl rfl g59) (q_callF (xs := _) rfl ok16 rfl rfl (fun w hw => laws_eqIntS.ok h62 w ((rd_sl (i := 7) rfl) w hw) ((rd_sl (i := 6) rfl) w hw))) ?_
                refine F.q rfl rfl rfl (wg rfl rfl rfl g59) (r_not rfl) ?_
                refine F.q rfl rfl rfl (wanted_none rfl) (r_pickf rfl rfl g59) ?_
                refine F.q rfl rfl rfl (wanted_none rfl) (r_move rfl) ?_
                refine F.q rfl rfl rfl (wg rfl rfl rfl g65) (r_move rfl) ?_
                refine F.q rfl rfl rfl (wg rfl rfl rfl g65) (r_move rfl) ?_
                refine F.q rfl rfl rfl (wg rfl rfl rfl g65) (r_neqB Try.underlying4 rfl rfl) ?_
                refine F.q rfl rfl rfl (wanted_none rfl) (r_pickf rfl rfl g65) ?_
                refine F.nil ?_
                cases hE_2
                refine Nrm.only [1, 2, 3, 8, 9, 11, 69] rfl ?_
                refine Nrm.pick [5, 6, 7] rfl rfl ?_
                exact hj_2 _ _ ⟨rfl, rfl⟩
    · obtain ⟨t42, h42, hE_1⟩ := bind_some hE_1
      rcases Bool.eq_false_or_eq_true (!t42) with g44 | g44
      · replace hE_1 := if_tt g44 hE_1
        refine Tri.reg (l := [0, 1, 2, 3, 4, 5, 6, 7, 8]) rfl ?_
        refine F.q rfl rfl rfl (wanted_none rfl) (r_move rfl) ?_
        refine F.q rfl rfl rfl (wanted_none rfl) (r_move rfl) ?_
        refine F.qc rfl rfl rfl (wanted_none rfl) (q_callF (xs := _) rfl ok16 rfl rfl (fun w hw => laws_eqIntS.ok h42 w ((rd_sl (i := 0) rfl) w hw) ((rd_sl (i := 4) rfl) w hw))) ?_
        refine F.q rfl rfl rfl (wanted_none rfl) (r_not rfl) ?_
        refine F.q rfl rfl rfl (wanted_none rfl) (r_move rfl) ?_
        refine F.sk rfl rfl rfl (wf rfl rfl rfl g44) ?_
        refine F.sk rfl rfl rfl (wf rfl rfl rfl g44) ?_
        refine F.sk rfl rfl rfl (wf rfl rfl rfl g44) ?_
        refine F.q rfl rfl rfl (wanted_none rfl) (r_pick rfl rfl g44) ?_
        refine F.nil ?_
        cases hE_1
        refine Nrm.only [1, 2, 3, 8, 9, 10, 11, 12, 48] rfl ?_
        refine Nrm.pick [1, 7, 4, 2, 3, 0] rfl rfl ?_
        exact hj_1 _ _ ⟨rfl, rfl⟩
      · replace hE_1 := if_ff g44 hE_1
        refine Tri.reg (l := [0, 1, 2, 3, 4, 5, 6, 7, 8]) rfl ?_
        refine F.q rfl rfl rfl (wanted_none rfl) (r_move rfl) ?_
        refine F.q rfl rfl rfl (wanted_none rfl) (r_move rfl) ?_
        refine F.qc rfl rfl rfl (wanted_none rfl) (q_callF (xs := _) rfl ok16 rfl rfl (fun w hw => laws_eqIntS.ok h42 w ((rd_sl (i := 0) rfl) w hw) ((rd_sl (i := 4) rfl) w hw))) ?_
        refine F.q rfl rfl rfl (wanted_none rfl) (r_not rfl) ?_
        refine F.q rfl rfl rfl (wanted_none rfl) (r_move rfl) ?_
        refine F.q rfl rfl rfl (wg rfl rfl rfl g44) (r_move rfl) ?_
        refine F.q rfl rfl rfl (wg rfl rfl rfl g44) (r_move rfl) ?_
        refine F.q rfl rfl rfl (wg rfl rfl rfl g44) (r_neqB Try.underlying4 rfl rfl) ?_
        refine F.q rfl rfl rfl (wanted_none rfl) (r_pickf rfl rfl g44) ?_
        refine F.nil ?_
        cases hE_1
        refine Nrm.only [1, 2, 3, 8, 9, 10, 11, 12, 48] rfl ?_
        refine Nrm.pick [1, 7, 4, 2, 3, 0] rfl rfl ?_
        exact hj_1 _ _ ⟨rfl, rfl⟩

end Go.Proofs

/- A part of the proof of FnExactNodeCounts: what the functions of the program compute, walked on the model. No condition. -/
import Derived.Test.YtijhomjbcpaknaaFnExactNodeCountsB
import Derived.Test.YtijhomjbcpaknaaFnExactNodeCountsC
set_option linter.unusedSimpArgs false
/- loop.example/g01158/spec.l9All -/
namespace Go.Proofs
open Go Go.Ga
set_option linter.unusedVariables false
set_option maxRecDepth 100000
set_option maxHeartbeats 4000000
def spec_l9All.l2 (k : Nat) (a0 : Int) (x8 : Int) : Nat → (List (List Int)) → (List (List Int)) → Int → Option ((List (List Int)) × (List (List Int)))
  | 0, _, _, _ => none
  | n + 1, x5rr, x7r, x9 => (if (decide (x9 < a0)) = true then (rdl (x5rr : List (List Int)) x8).bind fun t32 => (spec_l1Own.f k t32).bind fun t34 => if (t34 ++ ([x9] : List (Int))).length < 1099511627776 then if ((x7r : List (List Int)) ++ ([t34 ++ ([x9] : List (Int))] : List (List Int))).length < 1099511627776 then spec_l9All.l2 k a0 x8 n ((x5rr : List (List Int)).set (x8).toNat t32) ((x7r : List (List Int)) ++ ([t34 ++ ([x9] : List (Int))] : List (List Int))) (w64 (x9 + 1)) else none else none else some (x5rr, x7r))

def spec_l9All.l1 (k : Nat) (a0 : Int) : Nat → (List (List Int)) → (List (List Int)) → Int → Option ((List (List Int)))
  | 0, _, _, _ => none
  | n + 1, x5r, x7, x8 => (if (decide (x8 < (x5r.length : Int))) = true then (spec_l9All.l2 k a0 x8 k x5r x7 0).bind fun (x5rr, x7r) => spec_l9All.l1 k a0 n x5rr x7r (w64 (x8 + 1)) else some x7)

def spec_l9All.l0 (k : Nat) (a0 : Int) (a1 : Int) : Nat → (List (List Int)) → Int → Option ((List (List Int)))
  | 0, _, _ => none
  | n + 1, x5, x6 => (if (decide (x6 < a1)) = true then (spec_l9All.l1 k a0 k x5 ([] : List (List Int)) 0).bind fun x7 => spec_l9All.l0 k a0 a1 n x7 (w64 (x6 + 1)) else some x5)

def spec_l9All.f (k : Nat) (a0 : Int) (a1 : Int) : Option ((List (List Int))) := (spec_l9All.l0 k a0 a1 k ([([] : List (Int))] : List (List Int)) 0).bind fun x5 => some x5

theorem spec_l9All.ok {k : Nat}  {a0 : Int} {a1 : Int} {r0 : List (List Int)} (h : spec_l9All.f k a0 a1 = some r0) (w : World) :
    Calls Try.prog 108 ([.int .i64 a0, .int .i64 a1] : List Value).toArray w (Post (fun u ns => ∃ (Sr0 : Nat → Prop), SlLen u r0.length ∧ ns = [R.sl Sr0 u r0]) w) := by
  unfold spec_l9All.f at h
  refine Calls.of_tri (N := 42) Try.func108 rfl rfl rfl (Sep.nil (M := noM)) ?_
  refine Tri.seq ?_
  refine Tri.reg (l := [0]) rfl ?_
  refine F.q rfl rfl rfl (wanted_none rfl) (r_assign rfl) ?_
  refine F.nil ?_
  refine Nrm.seq ?_
  refine Tri.seq ?_
  refine Tri.reg (l := [0, 1, 2]) rfl ?_
  refine F.m rfl rfl rfl (wanted_none rfl) (m_build0 (α := Int) Try.underlying23 ti3) ?_
  rintro v10_1 _ ⟨S10_1, hl_v10_1, rfl⟩
  refine F.ef rfl rfl rfl (wanted_none rfl) (d_build1 (cells := [v10_1]) (x0 := (([] : List (Int)) : List Int)) (cs := [R.sl S10_1 v10_1 (([] : List (Int)) : List (Int))]) (rest := []) [0] [] Try.underlying95 ti23 rfl (sl_cells hl_v10_1) rfl (lf_cons (sl_leaf hl_v10_1) lf_nil) rfl rfl (jn_sl (S := S10_1) (v := v10_1) (l := (([] : List (Int)) : List (Int))))) ?_
  rintro v11_1 _ ⟨S11_1, hl_v11_1, rfl⟩
  refine F.q rfl rfl rfl (wanted_none rfl) (r_assign rfl) ?_
  refine F.nil ?_
  refine Nrm.seq ?_
  refine Tri.seq ?_
  refine Tri.seq ?_
  refine Tri.reg (l := [0]) rfl ?_
  refine F.q rfl rfl rfl (wanted_none rfl) (r_assign rfl) ?_
  refine F.nil ?_
  refine Nrm.seq ?_
  obtain ⟨x5, hE_1, h⟩ := bind_some h
  refine Tri.block ?_
  refine Tri.only [0, 1, 5, 6] rfl ?_
  refine Tri.pick [0] rfl rfl ?_
  refine Tri.rounds (fun n e' C' => ∃ (x5' : List (List Int)) (x6' : Int) (w5 : Value) (T5 : Nat → Prop), spec_l9All.l0 k a0 a1 n x5' x6' = some x5 ∧ SlLen w5 (x5').length ∧ e' = [(0, .int .i64 a0), (1, .int .i64 a1), (5, w5), (6, .int .i64 x6')] ∧ C' = Sep w noM [R.sl T5 w5 (x5' : List (List Int))]) k ?_ ?_ ?_
  · exact ⟨([([] : List (Int))] : List (List Int)), 0, v11_1, S11_1, hE_1, hl_v11_1, rfl, rfl⟩
  · rintro _ _ ⟨_, _, _, _, hE_1, _⟩
    rw [spec_l9All.l0.eq_1] at hE_1; cases hE_1
  · rintro n_1 _ _ ⟨x5, x6, w5, T5, hE_1, hl_w5, rfl, rfl⟩ ih_1
    rw [spec_l9All.l0.eq_2] at hE_1
    refine Tri.seq ?_
    refine Tri.seq ?_
    refine Tri.reg (l := [0, 1, 2]) rfl ?_
    refine F.q rfl rfl rfl (wanted_none rfl) (r_move rfl) ?_
    refine F.q rfl rfl rfl (wanted_none rfl) (r_move rfl) ?_
    refine F.q rfl rfl rfl (wanted_none rfl) (r_lss rfl rfl) ?_
    refine F.nil ?_
    refine Nrm.seq ?_
    refine Tri.cond (b := decide (x6 < a1)) rfl (fun g_1 => ?_) (fun g_1 => ?_)
    · replace hE_1 := if_tt g_1 hE_1
      refine Tri.skip ?_
      refine Nrm.seq ?_
      refine Tri.seq ?_
      refine Tri.block ?_
      refine Tri.seq ?_
      refine Tri.reg (l := [0, 1]) rfl ?_
      refine F.m rfl rfl rfl (wanted_none rfl) (m_build0 (α := List Int) Try.underlying95 ti23) ?_
      rintro v17_1 _ ⟨S17_1, hl_v17_1, rfl⟩
      refine F.q rfl rfl rfl (wanted_none rfl) (r_assign rfl) ?_
      refine F.nil ?_
      refine Nrm.seq ?_
      refine Tri.seq ?_
      refine Tri.seq ?_
      refine Tri.reg (l := [0]) rfl ?_
      refine F.q rfl rfl rfl (wanted_none rfl) (r_assign rfl) ?_
      refine F.nil ?_
      refine Nrm.seq ?_
      obtain ⟨x7, hE_2, hE_1⟩ := bind_some hE_1
      refine Tri.block ?_
      refine Tri.only [0, 1, 5, 6, 7, 8] rfl ?_
      refine Tri.pick [0, 1] rfl rfl ?_
      refine Tri.rounds (fun n e' C' => ∃ (x5r' : List (List Int)) (x7' : List (List Int)) (x8' : Int) (w7 : Value) (T7 : Nat → Prop), spec_l9All.l1 k a0 n x5r' x7' x8' = some x7 ∧ SlLen w5 (x5r').length ∧ SlLen w7 (x7').length ∧ e' = [(0, .int .i64 a0), (1, .int .i64 a1), (5, w5), (6, .int .i64 x6), (7, w7), (8, .int .i64 x8')] ∧ C' = Sep w noM [R.sl T7 w7 (x7' : List (List Int)), R.sl T5 w5 (x5r' : List (List Int))]) k ?_ ?_ ?_
      · exact ⟨x5, ([] : List (List Int)), 0, v17_1, S17_1, hE_2, hl_w5, hl_v17_1, rfl, rfl⟩
      · rintro _ _ ⟨_, _, _, _, _, hE_2, _⟩
        rw [spec_l9All.l1.eq_1] at hE_2; cases hE_2
      · rintro n_2 _ _ ⟨x5r, x7, x8, w7, T7, hE_2, hl_x5r, hl_w7, rfl, rfl⟩ ih_2
        rw [spec_l9All.l1.eq_2] at hE_2
        refine Tri.seq ?_
        refine Tri.seq ?_
        refine Tri.reg (l := [0, 1, 2, 3]) rfl ?_
        refine F.q rfl rfl rfl (wanted_none rfl) (r_move rfl) ?_
        refine F.q rfl rfl rfl (wanted_none rfl) (r_move rfl) ?_
        refine F.q rfl rfl rfl (wanted_none rfl) (r_len Try.underlying95 rfl hl_x5r) ?_
        refine F.q rfl rfl rfl (wanted_none rfl) (r_lss rfl rfl) ?_
        refine F.nil ?_
        refine Nrm.seq ?_
        refine Tri.cond (b := decide (x8 < (x5r.length : Int))) rfl (fun g_2 => ?_) (fun g_2 => ?_)
        · replace hE_2 := if_tt g_2 hE_2
          refine Tri.skip ?_
          refine Nrm.seq ?_
          refine Tri.seq ?_
          refine Tri.block ?_
          refine Tri.seq ?_
          refine Tri.reg (l := [0]) rfl ?_
          refine F.q rfl rfl rfl (wanted_none rfl) (r_assign rfl) ?_
          refine F.nil ?_
          refine Nrm.seq ?_
          obtain ⟨⟨x5rr, x7r⟩, hE_3, hE_2⟩ := bind_some hE_2
          refine Tri.block ?_
          refine Tri.only [0, 1, 5, 6, 7, 8, 9] rfl ?_
          refine Tri.pick [0, 1] rfl rfl ?_
          refine Tri.rounds (fun n e' C' => ∃ (x5rr' : List (List Int)) (x7r' : List (List Int)) (x9' : Int) (w7r : Value) (T7r : Nat → Prop), spec_l9All.l2 k a0 x8 n x5rr' x7r' x9' = some (x5rr, x7r) ∧ SlLen w5 (x5rr').length ∧ SlLen w7r (x7r').length ∧ e' = [(0, .int .i64 a0), (1, .int .i64 a1), (5, w5), (6, .int .i64 x6), (7, w7r), (8, .int .i64 x8), (9, .int .i64 x9')] ∧ C' = Sep w noM [R.sl T7r w7r (x7r' : List (List Int)), R.sl T5 w5 (x5rr' : List (List Int))]) k ?_ ?_ ?_
          · exact ⟨x5r, x7, 0, w7, T7, hE_3, hl_x5r, hl_w7, rfl, rfl⟩
          · rintro _ _ ⟨_, _, _, _, _, hE_3, _⟩
            rw [spec_l9All.l2.eq_1] at hE_3; cases hE_3
          · rintro n_3 _ _ ⟨x5rr, x7r, x9, w7r, T7r, hE_3, hl_x5rr, hl_w7r, rfl, rfl⟩ ih_3
            rw [spec_l9All.l2.eq_2] at hE_3
            refine Tri.seq ?_
            refine Tri.seq ?_
            refine Tri.reg (l := [0, 1, 2]) rfl ?_
            refine F.q rfl rfl rfl (wanted_none rfl) (r_move rfl) ?_
            refine F.q rfl rfl rfl (wanted_none rfl) (r_move rfl) ?_
            refine F.q rfl rfl rfl (wanted_none rfl) (r_lss rfl rfl) ?_
            refine F.nil ?_
            refine Nrm.seq ?_
            refine Tri.cond (b := decide (x9 < a0)) rfl (fun g_3 => ?_) (fun g_3 => ?_)
            · replace hE_3 := if_tt g_3 hE_3
              refine Tri.skip ?_
              refine Nrm.seq ?_
              refine Tri.seq ?_
              refine Tri.block ?_
              obtain ⟨t32, h32, hE_3⟩ := bind_some hE_3
              obtain ⟨t34, h34, hE_3⟩ := bind_some hE_3
              obtain ⟨hs37, hE_3⟩ := ck hE_3
              obtain ⟨hs39, hE_3⟩ := ck hE_3
              refine Tri.ex (on23 [1] [0] rfl rfl (rdl_some h32).2.2) ?_
              rintro _ ⟨v32_0_1, S32_0_1, Sr32_1, hl_v32_0_1, hS32_1, rfl⟩
              refine Tri.reg (l := [0, 1, 2, 3, 4, 5, 6, 7, 8, 9, 10, 11]) rfl ?_
              refine F.q rfl rfl rfl (wanted_none rfl) (r_move rfl) ?_
              refine F.q rfl rfl rfl (wanted_none rfl) (r_move rfl) ?_
              refine F.q rfl rfl rfl (wanted_none rfl) (r_move rfl) ?_
              refine F.q rfl rfl rfl (wanted_none rfl) (r_indexAddrS Try.underlying95 ti23 rfl hl_x5rr rfl (rdl_some h32).1 (rdl_some h32).2.1) ?_
              refine F.q rfl rfl rfl (wanted_none rfl) (r_load ta23 rfl (fun w hw => cell_0 (hole_cells (p := 1) rfl w hw) rfl)) ?_
              refine F.m rfl rfl rfl (wanted_none rfl) (m_callF (xs := _) rfl ok99 rfl rfl (fun w hw => spec_l1Own.ok h34 w ((rd_sl (i := 0) rfl) w hw))) ?_
              rintro v34_1 _ ⟨_, ⟨S34_1, hl_v34_1, rfl⟩, rfl⟩
              refine F.q rfl rfl rfl (wanted_none rfl) (r_move rfl) ?_
              refine F.m rfl rfl rfl (wanted_none rfl) (m_buildF (l := ([x9] : List (Int))) Try.underlying23 ti3 rfl rfl rfl rfl rfl) ?_
              rintro v36_1 _ ⟨S36_1, hl_v36_1, rfl⟩
              refine F.ef rfl rfl rfl (wanted_none rfl) (d_append (i := 1) Try.underlying23 Try.underlying23 ti3 rfl (by decide) rfl rfl rfl (rd_sl (i := 0) rfl) hs37) ?_
              rintro v37_1 _ ⟨S37_1, rfl, hl_v37_1⟩
              refine F.ef rfl rfl rfl (wanted_none rfl) (d_build1 (cells := [v37_1]) (x0 := (t34 ++ ([x9] : List (Int)) : List Int)) (cs := [R.sl S37_1 v37_1 (t34 ++ ([x9] : List (Int)) : List (Int))]) (rest := [R.sl S36_1 v36_1 (([x9] : List (Int)) : List (Int)), R.sl S32_0_1 v32_0_1 (t32 : List (Int)), R.hole Sr32_1 w5 (x5rr : List (List Int)) (x8).toNat [v32_0_1], R.sl T7r w7r (x7r : List (List Int))]) [1] [0, 2, 3, 4] Try.underlying95 ti23 rfl (sl_cells hl_v37_1) rfl (lf_cons (sl_leaf hl_v37_1) lf_nil) rfl rfl (jn_sl (S := S37_1) (v := v37_1) (l := (t34 ++ ([x9] : List (Int)) : List (Int))))) ?_
              rintro v38_1 _ ⟨S38_1, hl_v38_1, rfl⟩
              refine F.ef rfl rfl rfl (wanted_none rfl) (d_appendN (rest := [R.sl S36_1 v36_1 (([x9] : List (Int)) : List (Int)), R.sl S32_0_1 v32_0_1 (t32 : List (Int)), R.hole Sr32_1 w5 (x5rr : List (List Int)) (x8).toNat [v32_0_1]]) 4 0 [1, 2, 3] Try.underlying95 Try.underlying95 ti23 rfl (by decide) rfl rfl rfl rfl hs39) ?_
              rintro v39_1 _ ⟨S39_1, hl_v39_1, rfl⟩
              refine F.q rfl rfl rfl (wanted_none rfl) (r_assign rfl) ?_
              refine F.nil ?_
              refine Nrm.imp (cloS1 (cs := [R.sl S32_0_1 v32_0_1 (t32 : List (Int))]) (rest := [R.sl S39_1 v39_1 ((x7r : List (List Int)) ++ ([t34 ++ ([x9] : List (Int))] : List (List Int)) : List (List Int)), R.sl S36_1 v36_1 (([x9] : List (Int)) : List (Int))]) [2, 3] [0, 1] rfl rfl (jn_sl (S := S32_0_1) (v := v32_0_1) (l := (t32 : List (Int)))) hS32_1) ?_
              refine Nrm.block ?_
              refine Nrm.seq ?_
              refine Tri.reg (l := [0, 1, 2]) rfl ?_
              refine F.q rfl rfl rfl (wanted_none rfl) (r_move rfl) ?_
              refine F.q rfl rfl rfl (wanted_none rfl) (r_add rfl rfl) ?_
              refine F.q rfl rfl rfl (wanted_none rfl) (r_assign rfl) ?_
              refine F.nil ?_
              refine Nrm.round ?_
              refine Rnd.only [0, 1, 5, 6, 7, 8, 9] rfl ?_
              refine Rnd.pick [1, 0] rfl rfl ?_
              exact ih_3 _ _ ⟨(x5rr : List (List Int)).set (x8).toNat t32, (x7r : List (List Int)) ++ ([t34 ++ ([x9] : List (Int))] : List (List Int)), w64 (x9 + 1), v39_1, S39_1, hE_3, (len_set hl_x5rr), hl_v39_1, rfl, rfl⟩
            · replace hE_3 := if_ff g_3 hE_3
              refine Tri.exit ?_
              refine Exi.then ?_
              refine Exi.then ?_
              refine Exi.same ?_
              cases hE_3
              refine Nrm.block ?_
              refine Nrm.seq ?_
              refine Tri.reg (l := [0, 1, 2]) rfl ?_
              refine F.q rfl rfl rfl (wanted_none rfl) (r_move rfl) ?_
              refine F.q rfl rfl rfl (wanted_none rfl) (r_add rfl rfl) ?_
              refine F.q rfl rfl rfl (wanted_none rfl) (r_assign rfl) ?_
              refine F.nil ?_
              refine Nrm.round ?_
              refine Rnd.only [0, 1, 5, 6, 7, 8] rfl ?_
              refine Rnd.pick [0, 1] rfl rfl ?_
              exact ih_2 _ _ ⟨x5rr, x7r, w64 (x8 + 1), w7r, T7r, hE_2, hl_x5rr, hl_w7r, rfl, rfl⟩
        · replace hE_2 := if_ff g_2 hE_2
          refine Tri.exit ?_
          refine Exi.then ?_
          refine Exi.then ?_
          refine Exi.same ?_
          cases hE_2
          refine Nrm.seq ?_
          refine Tri.reg (l := [0, 1]) rfl ?_
          refine F.q rfl rfl rfl (wanted_none rfl) (r_move rfl) ?_
          refine F.q rfl rfl rfl (wanted_none rfl) (r_assign rfl) ?_
          refine F.nil ?_
          refine Nrm.block ?_
          refine Nrm.seq ?_
          refine Tri.reg (l := [0, 1, 2]) rfl ?_
          refine F.q rfl rfl rfl (wanted_none rfl) (r_move rfl) ?_
          refine F.q rfl rfl rfl (wanted_none rfl) (r_add rfl rfl) ?_
          refine F.q rfl rfl rfl (wanted_none rfl) (r_assign rfl) ?_
          refine F.nil ?_
          refine Nrm.round ?_
          refine Rnd.only [0, 1, 5, 6] rfl ?_
          refine Rnd.pick [0] rfl rfl ?_
          exact ih_1 _ _ ⟨x7, w64 (x6 + 1), w7, T7, hE_1, hl_w7, rfl, rfl⟩
    · replace hE_1 := if_ff g_1 hE_1
      refine Tri.exit ?_
      refine Exi.then ?_
      refine Exi.then ?_
      refine Exi.same ?_
      cases hE_1
      refine Nrm.seq ?_
      refine Tri.seq ?_
      refine Tri.reg (l := [0, 1]) rfl ?_
      refine F.q rfl rfl rfl (wanted_none rfl) (r_move rfl) ?_
      refine F.q rfl rfl rfl (wanted_none rfl) (r_assign rfl) ?_
      refine F.nil ?_
      refine Nrm.seq ?_
      refine Tri.ret ?_
      cases h
      exact Rtn.body (.tmp rfl .nil) (fun w hw => ⟨_, _, rfl, ⟨T5, hl_w5, rfl⟩, Sep.pick (is := [0]) rfl rfl hw⟩)

end Go.Proofs

/- loop.example/g01158/spec.l1Has -/

namespace Go.Proofs
open Go Go.Ga
set_option linter.unusedVariables false
set_option maxRecDepth 100000
set_option maxHeartbeats 4000000
def spec_l1Has.l0 (k : Nat) (a0 : List Int) (a1 : Int) : Nat → Int → Option ((Unit) ⊕ (Bool))
  | 0, _ => none
  | n + 1, x5 => (if (decide (x5 < (a0.length : Int))) = true then (rdl a0 x5).bind fun t14 => (if (t14 == a1) = true then some (Sum.inr true) else spec_l1Has.l0 k a0 a1 n (w64 (x5 + 1))) else some (Sum.inl ()))

def spec_l1Has.f (k : Nat) (a0 : List Int) (a1 : Int) : Option (Bool) := (spec_l1Has.l0 k a0 a1 k 0).bind fun s => Lr s some fun _ => some false

theorem spec_l1Has.ok {k : Nat}  {a0 : List Int} {a1 : Int} {r0 : Bool} (h : spec_l1Has.f k a0 a1 = some r0) (w : World) {va0 : Value} (hr_a0 : Rd w va0 a0) :
    Calls Try.prog 76 ([va0, .int .i64 a1] : List Value).toArray w (fun e w' => e = .returned (.bool r0) ∧ Ext w w') := by
  unfold spec_l1Has.f at h
  have hl_va0 := hr_a0.len
  refine Calls.of_tri (N := 18) Try.func76 rfl rfl rfl (Sep.nil (M := noM)) ?_
  refine Tri.seq ?_
  refine Tri.reg (l := [0]) rfl ?_
  refine F.q rfl rfl rfl (wanted_none rfl) (r_assign rfl) ?_
  refine F.nil ?_
  refine Nrm.seq ?_
  refine Tri.seq ?_
  refine Tri.seq ?_
  refine Tri.reg (l := [0]) rfl ?_
  refine F.q rfl rfl rfl (wanted_none rfl) (r_assign rfl) ?_
  refine F.nil ?_
  refine Nrm.seq ?_
  obtain ⟨s0, hE_1, h⟩ := bind_some h
  refine Tri.block ?_
  refine Tri.only [0, 1, 5] rfl ?_
  refine Tri.pick [] rfl rfl ?_
  refine Tri.rounds (fun n e' C' => ∃ (x5' : Int), spec_l1Has.l0 k a0 a1 n x5' = some s0 ∧ e' = [(0, va0), (1, .int .i64 a1), (5, .int .i64 x5')] ∧ C' = Sep w noM []) k ?_ ?_ ?_
  · exact ⟨0, hE_1, rfl, rfl⟩
  · rintro _ _ ⟨_, hE_1, _⟩
    rw [spec_l1Has.l0.eq_1] at hE_1; cases hE_1
  · rintro n_1 _ _ ⟨x5, hE_1, rfl, rfl⟩ ih_1
    rw [spec_l1Has.l0.eq_2] at hE_1
    refine Tri.seq ?_
    refine Tri.seq ?_
    refine Tri.reg (l := [0, 1, 2, 3]) rfl ?_
    refine F.q rfl rfl rfl (wanted_none rfl) (r_move rfl) ?_
    refine F.q rfl rfl rfl (wanted_none rfl) (r_move rfl) ?_
    refine F.q rfl rfl rfl (wanted_none rfl) (r_len Try.underlying23 rfl hl_va0) ?_
    refine F.q rfl rfl rfl (wanted_none rfl) (r_lss rfl rfl) ?_
    refine F.nil ?_
    refine Nrm.seq ?_
    refine Tri.cond (b := decide (x5 < (a0.length : Int))) rfl (fun g_1 => ?_) (fun g_1 => ?_)
    · replace hE_1 := if_tt g_1 hE_1
      refine Tri.skip ?_
      refine Nrm.seq ?_
      refine Tri.seq ?_
      refine Tri.block ?_
      refine Tri.seq ?_
      obtain ⟨t14, h14, hE_1⟩ := bind_some hE_1
      refine Tri.reg (l := [0, 1, 2, 3, 4, 5]) rfl ?_
      refine F.q rfl rfl rfl (wanted_none rfl) (r_move rfl) ?_
      refine F.q rfl rfl rfl (wanted_none rfl) (r_move rfl) ?_
      refine F.q rfl rfl rfl (wanted_none rfl) (r_indexAddrS Try.underlying23 ti3 rfl hl_va0 rfl (rdl_some h14).1 (rdl_some h14).2.1) ?_
      refine F.q rfl rfl rfl (wanted_none rfl) (r_load ta3 rfl (fun w hw => cell_0 (Rd.flat ((fun _ hw => hr_a0.sep hw) w hw) (rdl_some h14).2.2) rfl)) ?_
      refine F.q rfl rfl rfl (wanted_none rfl) (r_move rfl) ?_
      refine F.q rfl rfl rfl (wanted_none rfl) (r_eql rfl rfl) ?_
      refine F.nil ?_
      refine Nrm.seq ?_
      refine Tri.cond (b := t14 == a1) rfl (fun g_2 => ?_) (fun g_2 => ?_)
      · replace hE_1 := if_tt g_2 hE_1
        refine Tri.seq ?_
        refine Tri.reg (l := [0]) rfl ?_
        refine F.q rfl rfl rfl (wanted_none rfl) (r_assign rfl) ?_
        refine F.nil ?_
        refine Nrm.seq ?_
        refine Tri.ret ?_
        refine Rtn.block ?_
        refine Rtn.then ?_
        refine Rtn.then ?_
        refine Rtn.block ?_
        refine Rtn.then ?_
        cases hE_1
        replace h := Lr_inr h
        cases h
        exact Rtn.body (.tmp rfl .nil) (fun w hw => ⟨rfl, hw.ext⟩)
      · replace hE_1 := if_ff g_2 hE_1
        refine Tri.skip ?_
        refine Nrm.block ?_
        refine Nrm.seq ?_
        refine Tri.reg (l := [0, 1, 2]) rfl ?_
        refine F.q rfl rfl rfl (wanted_none rfl) (r_move rfl) ?_
        refine F.q rfl rfl rfl (wanted_none rfl) (r_add rfl rfl) ?_
        refine F.q rfl rfl rfl (wanted_none rfl) (r_assign rfl) ?_
        refine F.nil ?_
        refine Nrm.round ?_
        refine Rnd.only [0, 1, 5] rfl ?_
        refine Rnd.pick [] rfl rfl ?_
        exact ih_1 _ _ ⟨w64 (x5 + 1), hE_1, rfl, rfl⟩
    · replace hE_1 := if_ff g_1 hE_1
      refine Tri.exit ?_
      refine Exi.then ?_
      refine Exi.then ?_
      refine Exi.same ?_
      cases hE_1
      replace h := Lr_inl h
      refine Nrm.seq ?_
      refine Tri.seq ?_
      refine Tri.reg (l := [0]) rfl ?_
      refine F.q rfl rfl rfl (wanted_none rfl) (r_assign rfl) ?_
      refine F.nil ?_
      refine Nrm.seq ?_
      refine Tri.ret ?_
      cases h
      exact Rtn.body (.tmp rfl .nil) (fun w hw => ⟨rfl, hw.ext⟩)

end Go.Proofs

/- loop.example/g01158/spec.l2Has -/

namespace Go.Proofs
open Go Go.Ga
set_option linter.unusedVariables false
set_option maxRecDepth 100000
set_option maxHeartbeats 4000000
def spec_l2Has.f (k : Nat) (a0 : Int) (a1 : Int) : Option (Bool) := some ((band a0 a1) == a1)

theorem spec_l2Has.ok {k : Nat}  {a0 : Int} {a1 : Int} {r0 : Bool} (h : spec_l2Has.f k a0 a1 = some r0) (w : World) :
    Calls Try.prog 159 ([.int .i64 a0, .int .i64 a1] : List Value).toArray w (fun e w' => e = .returned (.bool r0) ∧ Ext w w') := by
  unfold spec_l2Has.f at h
  refine Calls.of_tri (N := 10) Try.func159 rfl rfl rfl (Sep.nil (M := noM)) ?_
  refine Tri.seq ?_
  refine Tri.reg (l := [0]) rfl ?_
  refine F.q rfl rfl rfl (wanted_none rfl) (r_assign rfl) ?_
  refine F.nil ?_
  refine Nrm.seq ?_
  refine Tri.seq ?_
  refine Tri.reg (l := [0, 1, 2, 3, 4, 5]) rfl ?_
  refine F.q rfl rfl rfl (wanted_none rfl) (r_move rfl) ?_
  refine F.q rfl rfl rfl (wanted_none rfl) (r_move rfl) ?_
  refine F.q rfl rfl rfl (wanted_none rfl) (r_and rfl rfl) ?_
  refine F.q rfl rfl rfl (wanted_none rfl) (r_move rfl) ?_
  refine F.q rfl rfl rfl (wanted_none rfl) (r_eql rfl rfl) ?_
  refine F.q rfl rfl rfl (wanted_none rfl) (r_assign rfl) ?_
  refine F.nil ?_
  refine Nrm.seq ?_
  refine Tri.ret ?_
  cases h
  exact Rtn.body (.tmp rfl .nil) (fun w hw => ⟨rfl, hw.ext⟩)

end Go.Proofs

/- loop.example/g01158/spec.l1Put -/

namespace Go.Proofs
open Go Go.Ga
set_option linter.unusedVariables false
set_option maxRecDepth 100000
set_option maxHeartbeats 4000000
def spec_l1Put.l0 (k : Nat) (a0 : List Int) (a1 : Int) : Nat → Int → Option (Int)
  | 0, _ => none
  | n + 1, x5 => ((if (decide (x5 < (a0.length : Int))) = true then (rdl a0 x5).bind fun t13 => some (decide (t13 < a1)) else some false)).bind fun y17 => (if y17 = true then spec_l1Put.l0 k a0 a1 n (w64 (x5 + 1)) else some x5)

def spec_l1Put.f (k : Nat) (a0 : List Int) (a1 : Int) : Option ((List Int)) := (spec_l1Put.l0 k a0 a1 k 0).bind fun x5 => ((if (decide (x5 < (a0.length : Int))) = true then (rdl a0 x5).bind fun t27 => some (t27 == a1) else some false)).bind fun y31 => (if y31 = true then some a0 else ((slc a0 0 x5).bind fun t36 => (slc a0 x5 (a0.length : Int)).bind fun t43 => if (([] : List (Int)) ++ t36).length < 1099511627776 then if ((([] : List (Int)) ++ t36) ++ ([a1] : List (Int))).length < 1099511627776 then if (((([] : List (Int)) ++ t36) ++ ([a1] : List (Int))) ++ t43).length < 1099511627776 then some (((([] : List (Int)) ++ t36) ++ ([a1] : List (Int))) ++ t43) else none else none else none).bind fun y4 => some y4)

theorem spec_l1Put.ok {k : Nat}  {a0 : List Int} {a1 : Int} {r0 : List Int} (h : spec_l1Put.f k a0 a1 = some r0) (w : World) {va0 : Value} {Sa0 : Nat → Prop} (hl_va0 : SlLen va0 a0.length) (hw0 : Sep w (footM [R.sl Sa0 va0 a0]) [R.sl Sa0 va0 a0] w) :
    Calls Try.prog 165 ([va0, .int .i64 a1] : List Value).toArray w (PostM (footM [R.sl Sa0 va0 a0]) (fun u ns => ∃ (Sr0 : Nat → Prop), SlLen u r0.length ∧ ns = [R.sl Sr0 u r0]) w) := by
  unfold spec_l1Put.f at h
  refine Calls.of_tri (N := 45) Try.func165 rfl rfl rfl hw0 ?_
  refine Tri.seq ?_
  refine Tri.reg (l := [0]) rfl ?_
  refine F.q rfl rfl rfl (wanted_none rfl) (r_assign rfl) ?_
  refine F.nil ?_
  refine Nrm.seq ?_
  refine Tri.seq ?_
  refine Tri.reg (l := [0]) rfl ?_
  refine F.q rfl rfl rfl (wanted_none rfl) (r_assign rfl) ?_
  refine F.nil ?_
  refine Nrm.seq ?_
  refine Tri.seq ?_
  obtain ⟨x5, hE_1, h⟩ := bind_some h
  refine Tri.block ?_
  refine Tri.only [0, 1, 5] rfl ?_
  refine Tri.pick [0] rfl rfl ?_
  refine Tri.rounds (fun n e' C' => ∃ (x5' : Int), spec_l1Put.l0 k a0 a1 n x5' = some x5 ∧ e' = [(0, va0), (1, .int .i64 a1), (5, .int .i64 x5')] ∧ C' = Sep w (footM [R.sl Sa0 va0 a0]) [R.sl Sa0 va0 (a0 : List (Int))]) k ?_ ?_ ?_
  · exact ⟨0, hE_1, rfl, rfl⟩
  · rintro _ _ ⟨_, hE_1, _⟩
    rw [spec_l1Put.l0.eq_1] at hE_1; cases hE_1
  · rintro n_1 _ _ ⟨x5, hE_1, rfl, rfl⟩ ih_1
    rw [spec_l1Put.l0.eq_2] at hE_1
    refine Tri.seq ?_
    refine Tri.seq ?_
    obtain ⟨y17, hE_2, hE_1⟩ := bind_some hE_1
    refine Tri.cut (fun e' C' => e' = [(0, va0), (1, .int .i64 a1), (5, .int .i64 x5), (17, .bool y17)] ∧ C' = Sep w (footM [R.sl Sa0 va0 a0]) [R.sl Sa0 va0 (a0 : List (Int))]) ?_ (fun hj_1 => ?_)
    · rintro _ _ ⟨rfl, rfl⟩
      refine Nrm.seq ?_
      refine Tri.cond (b := y17) rfl (fun g_1 => ?_) (fun g_1 => ?_)
      · replace hE_1 := if_tt g_1 hE_1
        refine Tri.skip ?_
        refine Nrm.seq ?_
        refine Tri.block ?_
        refine Tri.reg (l := [0, 1, 2]) rfl ?_
        refine F.q rfl rfl rfl (wanted_none rfl) (r_move rfl) ?_
        refine F.q rfl rfl rfl (wanted_none rfl) (r_add rfl rfl) ?_
        refine F.q rfl rfl rfl (wanted_none rfl) (r_assign rfl) ?_
        refine F.nil ?_
        refine Nrm.block ?_
        refine Nrm.round ?_
        refine Rnd.only [0, 1, 5] rfl ?_
        refine Rnd.pick [0] rfl rfl ?_
        exact ih_1 _ _ ⟨w64 (x5 + 1), hE_1, rfl, rfl⟩
      · replace hE_1 := if_ff g_1 hE_1
        refine Tri.exit ?_
        refine Exi.then ?_
        refine Exi.then ?_
        refine Exi.same ?_
        cases hE_1
        refine Nrm.seq ?_
        refine Tri.seq ?_
        refine Tri.seq ?_
        obtain ⟨y31, hE_3, h⟩ := bind_some h
        refine Tri.cut (fun e' C' => e' = [(0, va0), (1, .int .i64 a1), (5, .int .i64 x5), (31, .bool y31)] ∧ C' = Sep w (footM [R.sl Sa0 va0 a0]) [R.sl Sa0 va0 (a0 : List (Int))]) ?_ (fun hj_2 => ?_)
        · rintro _ _ ⟨rfl, rfl⟩
          refine Nrm.seq ?_
          refine Tri.cond (b := y31) rfl (fun g_2 => ?_) (fun g_2 => ?_)
          · replace h := if_tt g_2 h
            refine Tri.seq ?_
            refine Tri.reg (l := [0, 1]) rfl ?_
            refine F.q rfl rfl rfl (wanted_none rfl) (r_move rfl) ?_
            refine F.q rfl rfl rfl (wanted_none rfl) (r_assign rfl) ?_
            refine F.nil ?_
            refine Nrm.seq ?_
            refine Tri.ret ?_
            refine Rtn.then ?_
            cases h
            exact Rtn.body (.tmp rfl .nil) (fun w hw => ⟨_, _, rfl, ⟨Sa0, hl_va0, rfl⟩, Sep.pick (is := [0]) rfl rfl hw⟩)
          · replace h := if_ff g_2 h
            refine Tri.skip ?_
            refine Nrm.seq ?_
            refine Tri.seq ?_
            obtain ⟨y4, hE_4, h⟩ := bind_some h
            refine Tri.cut (fun e' C' => ∃ (v4_1 : Value) (S4_1 : Nat → Prop), SlLen v4_1 (y4).length ∧ e' = [(4, v4_1)] ∧ C' = Sep w (footM [R.sl Sa0 va0 a0]) [R.sl S4_1 v4_1 (y4 : List (Int))]) ?_ (fun hj_3 => ?_)
            · rintro _ _ ⟨v4_1, S4_1, hl_v4_1, rfl, rfl⟩
              refine Nrm.seq ?_
              refine Tri.ret ?_
              cases h
              exact Rtn.body (.tmp rfl .nil) (fun w hw => ⟨_, _, rfl, ⟨S4_1, hl_v4_1, rfl⟩, Sep.pick (is := [0]) rfl rfl hw⟩)
            · obtain ⟨t36, h36, hE_4⟩ := bind_some hE_4
              obtain ⟨t43, h43, hE_4⟩ := bind_some hE_4
              obtain ⟨hs37, hE_4⟩ := ck hE_4
              obtain ⟨hs40, hE_4⟩ := ck hE_4
              obtain ⟨hs44, hE_4⟩ := ck hE_4
              refine Tri.drawT mixedT Sep.up [1, 2, 3, 5, 8, 9, 10, 0, 4, 6, 7] [11, 12] (.q 1 (.q 2 (.q 3 (.q 5 (.q 8 (.q 9 (.q 10 (.alt 0 (.alt 4 (.alt 6 (.alt 7 .nil .stop) .stop) (.alt 6 (.alt 4 (.alt 7 .nil .stop) .stop) .stop)) (.alt 6 (.alt 0 (.alt 4 (.alt 7 .nil .stop) .stop) .stop) .stop))))))))) (by kernel_rfl) ?_
              refine T.q rfl rfl rfl (wanted_none rfl) (r_move rfl) ?_
              refine T.q rfl rfl rfl (wanted_none rfl) (r_move rfl) ?_
              refine T.q rfl rfl rfl (wanted_none rfl) (r_sliceH Try.underlying23 ti3 rfl (rd_sl (i := 0) rfl) rfl h36) ?_
              refine T.q rfl rfl rfl (wanted_none rfl) (r_move rfl) ?_
              refine T.q rfl rfl rfl (wanted_none rfl) (r_move rfl) ?_
              refine T.q rfl rfl rfl (wanted_none rfl) (r_move rfl) ?_
              refine T.q rfl rfl rfl (wanted_none rfl) (r_sliceL Try.underlying23 ti3 rfl (rd_sl (i := 0) rfl) rfl h43) ?_
              refine T.ef rfl rfl rfl (wanted_none rfl) (Makes.does (m_build0 (α := Int) Try.underlying23 ti3)) (by rintro v33_2 _ ⟨S33_2, hl_v33_2, rfl⟩; exact upd rfl [1] rfl rfl) ?_ ?_
              · rintro v33_2 _ ⟨S33_2, hl_v33_2, rfl⟩
                refine T.ef rfl rfl rfl (wanted_none rfl) (d_append (i := 0) Try.underlying23 Try.underlying23 ti3 rfl (by decide) rfl rfl rfl (fun w hw => rd_slc ((rd_sl (i := 1) rfl) w hw) h36) hs37) (by rintro v37_2 _ ⟨S37_2, rfl, hl_v37_2⟩; exact upd rfl [1] rfl rfl) ?_ ?_
                · rintro v37_2 _ ⟨S37_2, rfl, hl_v37_2⟩
                  refine T.ef rfl rfl rfl (wanted_none rfl) (Makes.does (m_buildF (l := ([a1] : List (Int))) Try.underlying23 ti3 rfl rfl rfl rfl rfl)) (by rintro v39_2 _ ⟨S39_2, hl_v39_2, rfl⟩; exact upd rfl [2] rfl rfl) ?_ ?_
                  · rintro v39_2 _ ⟨S39_2, hl_v39_2, rfl⟩
                    refine T.ef rfl rfl rfl (wanted_none rfl) (d_append (i := 1) Try.underlying23 Try.underlying23 ti3 rfl (by decide) rfl rfl rfl (rd_sl (i := 0) rfl) hs40) (by rintro v40_2 _ ⟨S40_2, rfl, hl_v40_2⟩; exact upd rfl [2] rfl rfl) ?_ ?_
                    · rintro v40_2 _ ⟨S40_2, rfl, hl_v40_2⟩
                      refine T.nil ?_
                      refine F.ef rfl rfl rfl (wanted_none rfl) (d_append (i := 1) Try.underlying23 Try.underlying23 ti3 rfl (by decide) rfl rfl rfl (fun w hw => rd_slc ((rd_sl (i := 2) rfl) w hw) h43) hs44) ?_
                      rintro v44_2 _ ⟨S44_2, rfl, hl_v44_2⟩
                      refine F.q rfl rfl rfl (wanted_none rfl) (r_assign rfl) ?_
                      refine F.nil ?_
                      cases hE_4
                      refine Nrm.only [4] rfl ?_
                      refine Nrm.pick [1] rfl rfl ?_
                      exact hj_3 _ _ ⟨v44_2, S44_2, hl_v44_2, rfl, rfl⟩
                    exact T.stop
                  exact T.stop
                · refine T.ef rfl rfl rfl (wanted_none rfl) (Makes.does (m_buildF (l := ([a1] : List (Int))) Try.underlying23 ti3 rfl rfl rfl rfl rfl)) (by rintro v39_3 _ ⟨S39_3, hl_v39_3, rfl⟩; exact upd rfl [2] rfl rfl) ?_ ?_
                  · rintro v39_3 _ ⟨S39_3, hl_v39_3, rfl⟩
                    refine T.ef rfl rfl rfl (wanted_none rfl) (d_append (i := 1) Try.underlying23 Try.underlying23 ti3 rfl (by decide) rfl rfl rfl (fun w hw => rd_slc ((rd_sl (i := 2) rfl) w hw) h36) hs37) (by rintro v37_3 _ ⟨S37_3, rfl, hl_v37_3⟩; exact upd rfl [2] rfl rfl) ?_ ?_
                    · rintro v37_3 _ ⟨S37_3, rfl, hl_v37_3⟩
                      refine T.ef rfl rfl rfl (wanted_none rfl) (d_append (i := 1) Try.underlying23 Try.underlying23 ti3 rfl (by decide) rfl rfl rfl (rd_sl (i := 0) rfl) hs40) (by rintro v40_3 _ ⟨S40_3, rfl, hl_v40_3⟩; exact upd rfl [2] rfl rfl) ?_ ?_
                      · rintro v40_3 _ ⟨S40_3, rfl, hl_v40_3⟩
                        refine T.nil ?_
                        refine F.ef rfl rfl rfl (wanted_none rfl) (d_append (i := 1) Try.underlying23 Try.underlying23 ti3 rfl (by decide) rfl rfl rfl (fun w hw => rd_slc ((rd_sl (i := 2) rfl) w hw) h43) hs44) ?_
                        rintro v44_3 _ ⟨S44_3, rfl, hl_v44_3⟩
                        refine F.q rfl rfl rfl (wanted_none rfl) (r_assign rfl) ?_
                        refine F.nil ?_
                        cases hE_4
                        refine Nrm.only [4] rfl ?_
                        refine Nrm.pick [1] rfl rfl ?_
                        exact hj_3 _ _ ⟨v44_3, S44_3, hl_v44_3, rfl, rfl⟩
                      exact T.stop
                    exact T.stop
                  exact T.stop
              · refine T.ef rfl rfl rfl (wanted_none rfl) (Makes.does (m_buildF (l := ([a1] : List (Int))) Try.underlying23 ti3 rfl rfl rfl rfl rfl)) (by rintro v39_4 _ ⟨S39_4, hl_v39_4, rfl⟩; exact upd rfl [1] rfl rfl) ?_ ?_
                · rintro v39_4 _ ⟨S39_4, hl_v39_4, rfl⟩
                  refine T.ef rfl rfl rfl (wanted_none rfl) (Makes.does (m_build0 (α := Int) Try.underlying23 ti3)) (by rintro v33_3 _ ⟨S33_3, hl_v33_3, rfl⟩; exact upd rfl [2] rfl rfl) ?_ ?_
                  · rintro v33_3 _ ⟨S33_3, hl_v33_3, rfl⟩
                    refine T.ef rfl rfl rfl (wanted_none rfl) (d_append (i := 0) Try.underlying23 Try.underlying23 ti3 rfl (by decide) rfl rfl rfl (fun w hw => rd_slc ((rd_sl (i := 2) rfl) w hw) h36) hs37) (by rintro v37_4 _ ⟨S37_4, rfl, hl_v37_4⟩; exact upd rfl [2] rfl rfl) ?_ ?_
                    · rintro v37_4 _ ⟨S37_4, rfl, hl_v37_4⟩
                      refine T.ef rfl rfl rfl (wanted_none rfl) (d_append (i := 0) Try.underlying23 Try.underlying23 ti3 rfl (by decide) rfl rfl rfl (rd_sl (i := 1) rfl) hs40) (by rintro v40_4 _ ⟨S40_4, rfl, hl_v40_4⟩; exact upd rfl [2] rfl rfl) ?_ ?_
                      · rintro v40_4 _ ⟨S40_4, rfl, hl_v40_4⟩
                        refine T.nil ?_
                        refine F.ef rfl rfl rfl (wanted_none rfl) (d_append (i := 0) Try.underlying23 Try.underlying23 ti3 rfl (by decide) rfl rfl rfl (fun w hw => rd_slc ((rd_sl (i := 2) rfl) w hw) h43) hs44) ?_
                        rintro v44_4 _ ⟨S44_4, rfl, hl_v44_4⟩
                        refine F.q rfl rfl rfl (wanted_none rfl) (r_assign rfl) ?_
                        refine F.nil ?_
                        cases hE_4
                        refine Nrm.only [4] rfl ?_
                        refine Nrm.pick [0] rfl rfl ?_
                        exact hj_3 _ _ ⟨v44_4, S44_4, hl_v44_4, rfl, rfl⟩
                      exact T.stop
                    exact T.stop
                  exact T.stop
                exact T.stop
        · rcases Bool.eq_false_or_eq_true (decide (x5 < (a0.length : Int))) with g24 | g24
          · replace hE_3 := if_tt g24 hE_3
            obtain ⟨t27, h27, hE_3⟩ := bind_some hE_3
            refine Tri.reg (l := [0, 1, 2, 3, 4, 5, 6, 7, 8, 9, 10, 11]) rfl ?_
            refine F.q rfl rfl rfl (wanted_none rfl) (r_move rfl) ?_
            refine F.q rfl rfl rfl (wanted_none rfl) (r_move rfl) ?_
            refine F.q rfl rfl rfl (wanted_none rfl) (r_len Try.underlying23 rfl hl_va0) ?_
            refine F.q rfl rfl rfl (wanted_none rfl) (r_lss rfl rfl) ?_
            refine F.q rfl rfl rfl (wanted_none rfl) (r_move rfl) ?_
            refine F.q rfl rfl rfl (wg rfl rfl rfl g24) (r_move rfl) ?_
            refine F.q rfl rfl rfl (wg rfl rfl rfl g24) (r_move rfl) ?_
            refine F.q rfl rfl rfl (wg rfl rfl rfl g24) (r_indexAddrS Try.underlying23 ti3 rfl hl_va0 rfl (rdl_some h27).1 (rdl_some h27).2.1) ?_
            refine F.q rfl rfl rfl (wg rfl rfl rfl g24) (r_load ta3 rfl (fun w hw => cell_0 (Rd.flat ((rd_sl (i := 0) rfl) w hw) (rdl_some h27).2.2) rfl)) ?_
            refine F.q rfl rfl rfl (wg rfl rfl rfl g24) (r_move rfl) ?_
            refine F.q rfl rfl rfl (wg rfl rfl rfl g24) (r_eql rfl rfl) ?_
            refine F.q rfl rfl rfl (wanted_none rfl) (r_pick rfl rfl g24) ?_
            refine F.nil ?_
            cases hE_3
            refine Nrm.only [0, 1, 5, 31] rfl ?_
            refine Nrm.pick [0] rfl rfl ?_
            exact hj_2 _ _ ⟨rfl, rfl⟩
          · replace hE_3 := if_ff g24 hE_3
            refine Tri.reg (l := [0, 1, 2, 3, 4, 5, 6, 7, 8, 9, 10, 11]) rfl ?_
            refine F.q rfl rfl rfl (wanted_none rfl) (r_move rfl) ?_
            refine F.q rfl rfl rfl (wanted_none rfl) (r_move rfl) ?_
            refine F.q rfl rfl rfl (wanted_none rfl) (r_len Try.underlying23 rfl hl_va0) ?_
            refine F.q rfl rfl rfl (wanted_none rfl) (r_lss rfl rfl) ?_
            refine F.q rfl rfl rfl (wanted_none rfl) (r_move rfl) ?_
            refine F.sk rfl rfl rfl (wf rfl rfl rfl g24) ?_
            refine F.sk rfl rfl rfl (wf rfl rfl rfl g24) ?_
            refine F.sk rfl rfl rfl (wf rfl rfl rfl g24) ?_
            refine F.sk rfl rfl rfl (wf rfl rfl rfl g24) ?_
            refine F.sk rfl rfl rfl (wf rfl rfl rfl g24) ?_
            refine F.sk rfl rfl rfl (wf rfl rfl rfl g24) ?_
            refine F.q rfl rfl rfl (wanted_none rfl) (r_pickf rfl rfl g24) ?_
            refine F.nil ?_
            cases hE_3
            refine Nrm.only [0, 1, 5, 31] rfl ?_
            refine Nrm.pick [0] rfl rfl ?_
            exact hj_2 _ _ ⟨rfl, rfl⟩
    · rcases Bool.eq_false_or_eq_true (decide (x5 < (a0.length : Int))) with g10 | g10
      · replace hE_2 := if_tt g10 hE_2
        obtain ⟨t13, h13, hE_2⟩ := bind_some hE_2
        refine Tri.reg (l := [0, 1, 2, 3, 4, 5, 6, 7, 8, 9, 10, 11]) rfl ?_
        refine F.q rfl rfl rfl (wanted_none rfl) (r_move rfl) ?_
        refine F.q rfl rfl rfl (wanted_none rfl) (r_move rfl) ?_
        refine F.q rfl rfl rfl (wanted_none rfl) (r_len Try.underlying23 rfl hl_va0) ?_
        refine F.q rfl rfl rfl (wanted_none rfl) (r_lss rfl rfl) ?_
        refine F.q rfl rfl rfl (wanted_none rfl) (r_move rfl) ?_
        refine F.q rfl rfl rfl (wg rfl rfl rfl g10) (r_move rfl) ?_
        refine F.q rfl rfl rfl (wg rfl rfl rfl g10) (r_move rfl) ?_
        refine F.q rfl rfl rfl (wg rfl rfl rfl g10) (r_indexAddrS Try.underlying23 ti3 rfl hl_va0 rfl (rdl_some h13).1 (rdl_some h13).2.1) ?_
        refine F.q rfl rfl rfl (wg rfl rfl rfl g10) (r_load ta3 rfl (fun w hw => cell_0 (Rd.flat ((rd_sl (i := 0) rfl) w hw) (rdl_some h13).2.2) rfl)) ?_
        refine F.q rfl rfl rfl (wg rfl rfl rfl g10) (r_move rfl) ?_
        refine F.q rfl rfl rfl (wg rfl rfl rfl g10) (r_lss rfl rfl) ?_
        refine F.q rfl rfl rfl (wanted_none rfl) (r_pick rfl rfl g10) ?_
        refine F.nil ?_
        cases hE_2
        refine Nrm.only [0, 1, 5, 17] rfl ?_
        refine Nrm.pick [0] rfl rfl ?_
        exact hj_1 _ _ ⟨rfl, rfl⟩
      · replace hE_2 := if_ff g10 hE_2
        refine Tri.reg (l := [0, 1, 2, 3, 4, 5, 6, 7, 8, 9, 10, 11]) rfl ?_
        refine F.q rfl rfl rfl (wanted_none rfl) (r_move rfl) ?_
        refine F.q rfl rfl rfl (wanted_none rfl) (r_move rfl) ?_
        refine F.q rfl rfl rfl (wanted_none rfl) (r_len Try.underlying23 rfl hl_va0) ?_
        refine F.q rfl rfl rfl (wanted_none rfl) (r_lss rfl rfl) ?_
        refine F.q rfl rfl rfl (wanted_none rfl) (r_move rfl) ?_
        refine F.sk rfl rfl rfl (wf rfl rfl rfl g10) ?_
        refine F.sk rfl rfl rfl (wf rfl rfl rfl g10) ?_
        refine F.sk rfl rfl rfl (wf rfl rfl rfl g10) ?_
        refine F.sk rfl rfl rfl (wf rfl rfl rfl g10) ?_
        refine F.sk rfl rfl rfl (wf rfl rfl rfl g10) ?_
        refine F.sk rfl rfl rfl (wf rfl rfl rfl g10) ?_
        refine F.q rfl rfl rfl (wanted_none rfl) (r_pickf rfl rfl g10) ?_
        refine F.nil ?_
        cases hE_2
        refine Nrm.only [0, 1, 5, 17] rfl ?_
        refine Nrm.pick [0] rfl rfl ?_
        exact hj_1 _ _ ⟨rfl, rfl⟩

end Go.Proofs

/- loop.example/g01158/spec.l2Reach -/
namespace Go.Proofs
open Go Go.Ga
set_option linter.unusedVariables false
set_option maxRecDepth 100000
set_option maxHeartbeats 4000000
def spec_l2Reach.l1 (k : Nat) (a0_1 : List (Int × Int × Int)) (a2 : Int) (x9 : Int) : Nat → (List (Int)) → (List (Int)) → Int → Option ((List (Int)) × (List (Int)))
  | 0, _, _, _ => none
  | n + 1, x7r, x8r, x10 => (if (decide (x10 < (a0_1.length : Int))) = true then ((rdl a0_1 x10).bind fun t33 => ((spec_l2Has.f k a2 t33.2.2).bind fun t38 => (if (!t38) = true then some true else (rdl x8r x9).bind fun t45 => (if (t33.1 != t45) = true then (rdl x8r x9).bind fun t53 => some (t33.2.1 != t53) else some false))).bind fun y57 => (if y57 = true then some (x7r, x8r) else (rdl x8r x9).bind fun t65 => (spec_l1Has.f k x7r (w64 ((w64 (t33.1 + t33.2.1)) - t65))).bind fun t70 => ((if (!t70) = true then (spec_l1Put.f k x7r (w64 ((w64 (t33.1 + t33.2.1)) - t65))).bind fun t74 => if (x8r ++ ([w64 ((w64 (t33.1 + t33.2.1)) - t65)] : List (Int))).length < 1099511627776 then some (t74, x8r ++ ([w64 ((w64 (t33.1 + t33.2.1)) - t65)] : List (Int))) else none else some (x7r, x8r))).bind fun (y7, y8) => some (y7, y8))).bind fun (y7, y8) => spec_l2Reach.l1 k a0_1 a2 x9 n y7 y8 (w64 (x10 + 1)) else some (x7r, x8r))

def spec_l2Reach.l0 (k : Nat) (a0_1 : List (Int × Int × Int)) (a2 : Int) : Nat → (List (Int)) → (List (Int)) → Int → Option ((List (Int)))
  | 0, _, _, _ => none
  | n + 1, x7, x8, x9 => (if (decide (x9 < (x8.length : Int))) = true then (spec_l2Reach.l1 k a0_1 a2 x9 k x7 x8 0).bind fun (x7r, x8r) => spec_l2Reach.l0 k a0_1 a2 n x7r x8r (w64 (x9 + 1)) else some x7)

def spec_l2Reach.f (k : Nat) (a0_0 : Int) (a0_1 : List (Int × Int × Int)) (a0_2 : List Int) (a1 : Int) (a2 : Int) : Option ((List Int)) := (spec_l2Reach.l0 k a0_1 a2 k ([a1] : List (Int)) ([a1] : List (Int)) 0).bind fun x7 => some x7

theorem spec_l2Reach.ok {k : Nat}  {a0_0 : Int} {a0_1 : List (Int × Int × Int)} {a0_2 : List Int} {a1 : Int} {a2 : Int} {r0 : List Int} (h : spec_l2Reach.f k a0_0 a0_1 a0_2 a1 a2 = some r0) (w : World) {va0_1 : Value} {va0_2 : Value} (hr_a0_1 : Rd w va0_1 a0_1) (hr_a0_2 : Rd w va0_2 a0_2) :
    Calls Try.prog 141 ([.agg ([.int .i64 a0_0, va0_1, va0_2].toArray), .int .i64 a1, .int .i64 a2] : List Value).toArray w (Post (fun u ns => ∃ (Sr0 : Nat → Prop), SlLen u r0.length ∧ ns = [R.sl Sr0 u r0]) w) := by
  unfold spec_l2Reach.f at h
  have hl_va0_1 := hr_a0_1.len
  have hl_va0_2 := hr_a0_2.len
  refine Calls.of_tri (N := 80) Try.func141 rfl rfl rfl (Sep.nil (M := noM)) ?_
  refine Tri.seq ?_
  refine Tri.reg (l := [0, 1]) rfl ?_
  refine F.m rfl rfl rfl (wanted_none rfl) (m_boxG rfl rfl) ?_
  rintro _ _ ⟨b3_1, rfl, rfl⟩
  refine F.q rfl rfl rfl (wanted_none rfl) (r_assign rfl) ?_
  refine F.nil ?_
  refine Nrm.seq ?_
  refine Tri.seq ?_
  refine Tri.reg (l := [0, 1, 2, 3, 4, 5]) rfl ?_
  refine F.q rfl rfl rfl (wanted_none rfl) (r_move rfl) ?_
  refine F.m rfl rfl rfl (wanted_none rfl) (m_buildF (l := ([a1] : List (Int))) Try.underlying23 ti3 rfl rfl rfl rfl rfl) ?_
  rintro v14_1 _ ⟨S14_1, hl_v14_1, rfl⟩
  refine F.q rfl rfl rfl (wanted_none rfl) (r_move rfl) ?_
  refine F.m rfl rfl rfl (wanted_none rfl) (m_buildF (l := ([a1] : List (Int))) Try.underlying23 ti3 rfl rfl rfl rfl rfl) ?_
  rintro v16_1 _ ⟨S16_1, hl_v16_1, rfl⟩
  refine F.q rfl rfl rfl (wanted_none rfl) (r_assign rfl) ?_
  refine F.q rfl rfl rfl (wanted_none rfl) (r_assign rfl) ?_
  refine F.nil ?_
  refine Nrm.seq ?_
  refine Tri.seq ?_
  refine Tri.seq ?_
  refine Tri.reg (l := [0]) rfl ?_
  refine F.q rfl rfl rfl (wanted_none rfl) (r_assign rfl) ?_
  refine F.nil ?_
  refine Nrm.seq ?_
  obtain ⟨x7, hE_1, h⟩ := bind_some h
  refine Tri.block ?_
  refine Tri.only [2, 3, 7, 8, 9] rfl ?_
  refine Tri.pick [2, 0, 1] rfl rfl ?_
  refine Tri.rounds (fun n e' C' => ∃ (x7' : List (Int)) (x8' : List (Int)) (x9' : Int) (w7 : Value) (T7 : Nat → Prop) (w8 : Value) (T8 : Nat → Prop), spec_l2Reach.l0 k a0_1 a2 n x7' x8' x9' = some x7 ∧ SlLen w7 (x7').length ∧ SlLen w8 (x8').length ∧ e' = [(2, .int .i64 a2), (3, .pointer (some ⟨b3_1, 0, none⟩)), (7, w7), (8, w8), (9, .int .i64 x9')] ∧ C' = Sep w noM [R.box b3_1 31 [.int .i64 a0_0, va0_1, va0_2], R.sl T8 w8 (x8' : List (Int)), R.sl T7 w7 (x7' : List (Int))]) k ?_ ?_ ?_
  · exact ⟨([a1] : List (Int)), ([a1] : List (Int)), 0, v14_1, S14_1, v16_1, S16_1, hE_1, hl_v14_1, hl_v16_1, rfl, rfl⟩
  · rintro _ _ ⟨_, _, _, _, _, _, _, hE_1, _⟩
    rw [spec_l2Reach.l0.eq_1] at hE_1; cases hE_1
  · rintro n_1 _ _ ⟨x7, x8, x9, w7, T7, w8, T8, hE_1, hl_w7, hl_w8, rfl, rfl⟩ ih_1
    rw [spec_l2Reach.l0.eq_2] at hE_1
    refine Tri.seq ?_
    refine Tri.seq ?_
    refine Tri.reg (l := [0, 1, 2, 3]) rfl ?_
    refine F.q rfl rfl rfl (wanted_none rfl) (r_move rfl) ?_
    refine F.q rfl rfl rfl (wanted_none rfl) (r_move rfl) ?_
    refine F.q rfl rfl rfl (wanted_none rfl) (r_len Try.underlying23 rfl hl_w8) ?_
    refine F.q rfl rfl rfl (wanted_none rfl) (r_lss rfl rfl) ?_
    refine F.nil ?_
    refine Nrm.seq ?_
    refine Tri.cond (b := decide (x9 < (x8.length : Int))) rfl (fun g_1 => ?_) (fun g_1 => ?_)
    · replace hE_1 := if_tt g_1 hE_1
      refine Tri.skip ?_
      refine Nrm.seq ?_
      refine Tri.seq ?_
      refine Tri.block ?_
      refine Tri.seq ?_
      refine Tri.reg (l := [0]) rfl ?_
      refine F.q rfl rfl rfl (wanted_none rfl) (r_assign rfl) ?_
      refine F.nil ?_
      refine Nrm.seq ?_
      obtain ⟨⟨x7r, x8r⟩, hE_2, hE_1⟩ := bind_some hE_1
      refine Tri.block ?_
      refine Tri.only [2, 3, 7, 8, 9, 10] rfl ?_
      refine Tri.pick [0, 1, 2] rfl rfl ?_
      refine Tri.rounds (fun n e' C' => ∃ (x7r' : List (Int)) (x8r' : List (Int)) (x10' : Int) (w7r : Value) (T7r : Nat → Prop) (w8r : Value) (T8r : Nat → Prop), spec_l2Reach.l1 k a0_1 a2 x9 n x7r' x8r' x10' = some (x7r, x8r) ∧ SlLen w7r (x7r').length ∧ SlLen w8r (x8r').length ∧ e' = [(2, .int .i64 a2), (3, .pointer (some ⟨b3_1, 0, none⟩)), (7, w7r), (8, w8r), (9, .int .i64 x9), (10, .int .i64 x10')] ∧ C' = Sep w noM [R.box b3_1 31 [.int .i64 a0_0, va0_1, va0_2], R.sl T8r w8r (x8r' : List (Int)), R.sl T7r w7r (x7r' : List (Int))]) k ?_ ?_ ?_
      · exact ⟨x7, x8, 0, w7, T7, w8, T8, hE_2, hl_w7, hl_w8, rfl, rfl⟩
      · rintro _ _ ⟨_, _, _, _, _, _, _, hE_2, _⟩
        rw [spec_l2Reach.l1.eq_1] at hE_2; cases hE_2
      · rintro n_2 _ _ ⟨x7r, x8r, x10, w7r, T7r, w8r, T8r, hE_2, hl_w7r, hl_w8r, rfl, rfl⟩ ih_2
        rw [spec_l2Reach.l1.eq_2] at hE_2
        refine Tri.seq ?_
        refine Tri.seq ?_
        refine Tri.reg (l := [0, 1, 2, 3, 4]) rfl ?_
        refine F.q rfl rfl rfl (wanted_none rfl) (r_move rfl) ?_
        refine F.q rfl rfl rfl (wanted_none rfl) (r_fieldAddr tf31_1 rfl) ?_
        refine F.q rfl rfl rfl (wanted_none rfl) (r_load ta22 rfl (fun w hw => cell_1 (box_cells (i := 0) rfl w hw) rfl)) ?_
        refine F.q rfl rfl rfl (wanted_none rfl) (r_len Try.underlying22 rfl hl_va0_1) ?_
        refine F.q rfl rfl rfl (wanted_none rfl) (r_lss rfl rfl) ?_
        refine F.nil ?_
        refine Nrm.seq ?_
        refine Tri.cond (b := decide (x10 < (a0_1.length : Int))) rfl (fun g_2 => ?_) (fun g_2 => ?_)
        · replace hE_2 := if_tt g_2 hE_2
          refine Tri.skip ?_
          refine Nrm.seq ?_
          refine Tri.seq ?_
          obtain ⟨⟨y7, y8⟩, hE_3, hE_2⟩ := bind_some hE_2
          refine Tri.cut (fun e' C' => ∃ (v7_1 : Value) (S7_1 : Nat → Prop) (v8_1 : Value) (S8_1 : Nat → Prop), SlLen v7_1 (y7).length ∧ SlLen v8_1 (y8).length ∧ e' = [(2, .int .i64 a2), (3, .pointer (some ⟨b3_1, 0, none⟩)), (7, v7_1), (8, v8_1), (9, .int .i64 x9), (10, .int .i64 x10)] ∧ C' = Sep w noM [R.box b3_1 31 [.int .i64 a0_0, va0_1, va0_2], R.sl S7_1 v7_1 (y7 : List (Int)), R.sl S8_1 v8_1 (y8 : List (Int))]) ?_ (fun hj_1 => ?_)
          · rintro _ _ ⟨v7_1, S7_1, v8_1, S8_1, hl_v7_1, hl_v8_1, rfl, rfl⟩
            refine Nrm.seq ?_
            refine Tri.reg (l := [0, 1, 2]) rfl ?_
            refine F.q rfl rfl rfl (wanted_none rfl) (r_move rfl) ?_
            refine F.q rfl rfl rfl (wanted_none rfl) (r_add rfl rfl) ?_
            refine F.q rfl rfl rfl (wanted_none rfl) (r_assign rfl) ?_
            refine F.nil ?_
            refine Nrm.round ?_
            refine Rnd.only [2, 3, 7, 8, 9, 10] rfl ?_
            refine Rnd.pick [0, 2, 1] rfl rfl ?_
            exact ih_2 _ _ ⟨y7, y8, w64 (x10 + 1), v7_1, S7_1, v8_1, S8_1, hE_2, hl_v7_1, hl_v8_1, rfl, rfl⟩
          · refine Tri.block ?_
            refine Tri.seq ?_
            obtain ⟨t33, h33, hE_3⟩ := bind_some hE_3
            refine Tri.reg (l := [0, 1, 2, 3, 4, 5, 6]) rfl ?_
            refine F.q rfl rfl rfl (wanted_none rfl) (r_fieldAddr tf31_1 rfl) ?_
            refine F.q rfl rfl rfl (wanted_none rfl) (r_load ta22 rfl (fun w hw => cell_1 (box_cells (i := 0) rfl w hw) rfl)) ?_
            refine F.q rfl rfl rfl (wanted_none rfl) (r_move rfl) ?_
            refine F.q rfl rfl rfl (wanted_none rfl) (r_indexAddrS Try.underlying22 ti116 rfl hl_va0_1 rfl (rdl_some h33).1 (rdl_some h33).2.1) ?_
            refine F.q rfl rfl rfl (wanted_none rfl) (r_loadA ta116 ti116 rfl rfl (fun w hw => (Rd.flat ((fun _ hw => hr_a0_1.sep hw) w hw) (rdl_some h33).2.2))) ?_
            refine F.m rfl rfl rfl (wanted_none rfl) (m_alloc ti116) ?_
            rintro _ _ ⟨b11_1, rfl, rfl⟩
            refine F.ef0 rfl rfl (wanted_none rfl) (d_storeG0 (i := 0) (cs2 := [.int .i64 t33.1, .int .i64 t33.2.1, .int .i64 t33.2.2]) ti116 rfl rfl rfl rfl rfl (Nat.le_of_ble_eq_true rfl) (lf_cons rfl (lf_cons rfl (lf_cons rfl lf_nil)))) ?_
            rintro _ _ ⟨rfl, rfl⟩
            refine F.nil ?_
            refine Nrm.seq ?_
            refine Tri.seq ?_
            refine Tri.seq ?_
            obtain ⟨y57, hE_4, hE_3⟩ := bind_some hE_3
            refine Tri.cut (fun e' C' => e' = [(2, .int .i64 a2), (3, .pointer (some ⟨b3_1, 0, none⟩)), (7, w7r), (8, w8r), (9, .int .i64 x9), (10, .int .i64 x10), (11, .pointer (some ⟨b11_1, 0, none⟩)), (57, .bool y57)] ∧ C' = Sep w noM [R.box b11_1 116 [.int .i64 t33.1, .int .i64 t33.2.1, .int .i64 t33.2.2], R.box b3_1 31 [.int .i64 a0_0, va0_1, va0_2], R.sl T7r w7r (x7r : List (Int)), R.sl T8r w8r (x8r : List (Int))]) ?_ (fun hj_2 => ?_)
            · rintro _ _ ⟨rfl, rfl⟩
              refine Nrm.seq ?_
              refine Tri.cond (b := y57) rfl (fun g_3 => ?_) (fun g_3 => ?_)
              · replace hE_3 := if_tt g_3 hE_3
                refine Tri.exit ?_
                refine Exi.then ?_
                refine Exi.same ?_
                cases hE_3
                refine Nrm.only [2, 3, 7, 8, 9, 10] rfl ?_
                refine Nrm.pick [1, 2, 3] rfl rfl ?_
                exact hj_1 _ _ ⟨w7r, T7r, w8r, T8r, hl_w7r, hl_w8r, rfl, rfl⟩
              · replace hE_3 := if_ff g_3 hE_3
                refine Tri.skip ?_
                refine Nrm.seq ?_
                refine Tri.seq ?_
                obtain ⟨t65, h65, hE_3⟩ := bind_some hE_3
                refine Tri.drawA mixedT Sep.up [(0, true), (1, true), (2, true), (3, true), (4, true), (5, true), (6, true), (7, true), (8, true), (9, true), (10, true)] [] (by kernel_rfl) ?_
                refine S.q rfl rfl rfl (wanted_none rfl) (r_indexAddrA Try.underlying116 ti3 rfl rfl (by decide) (by decide)) ?_
                refine S.q rfl rfl rfl (wanted_none rfl) (r_load ta3 rfl (fun w hw => cell_1 (box_cells (i := 0) rfl w hw) rfl)) ?_
                refine S.q rfl rfl rfl (wanted_none rfl) (r_indexAddrA Try.underlying116 ti3 rfl rfl (by decide) (by decide)) ?_
                refine S.q rfl rfl rfl (wanted_none rfl) (r_load ta3 rfl (fun w hw => cell_1 (box_cells (i := 0) rfl w hw) rfl)) ?_
                refine S.q rfl rfl rfl (wanted_none rfl) (r_add rfl rfl) ?_
                refine S.q rfl rfl rfl (wanted_none rfl) (r_move rfl) ?_
                refine S.q rfl rfl rfl (wanted_none rfl) (r_move rfl) ?_
                refine S.q rfl rfl rfl (wanted_none rfl) (r_indexAddrS Try.underlying23 ti3 rfl hl_w8r rfl (rdl_some h65).1 (rdl_some h65).2.1) ?_
                refine S.q rfl rfl rfl (wanted_none rfl) (r_load ta3 rfl (fun w hw => cell_0 (Rd.flat ((rd_sl (i := 3) rfl) w hw) (rdl_some h65).2.2) rfl)) ?_
                refine S.q rfl rfl rfl (wanted_none rfl) (r_sub rfl rfl) ?_
                refine S.q rfl rfl rfl (wanted_none rfl) (r_assign rfl) ?_
                refine S.nil ?_
                refine F.nil ?_
                refine Nrm.seq ?_
                refine Tri.seq ?_
                obtain ⟨t70, h70, hE_3⟩ := bind_some hE_3
                refine Tri.reg (l := [0, 1, 2, 3]) rfl ?_
                refine F.q rfl rfl rfl (wanted_none rfl) (r_move rfl) ?_
                refine F.q rfl rfl rfl (wanted_none rfl) (r_move rfl) ?_
                refine F.qc rfl rfl rfl (wanted_none rfl) (q_callF (xs := _) rfl ok76 rfl rfl (fun w hw => spec_l1Has.ok h70 w ((rd_sl (i := 2) rfl) w hw))) ?_
                refine F.q rfl rfl rfl (wanted_none rfl) (r_not rfl) ?_
                refine F.nil ?_
                refine Nrm.seq ?_
                obtain ⟨⟨y7, y8⟩, hE_5, hE_3⟩ := bind_some hE_3
                refine Tri.cut (fun e' C' => ∃ (v7_2 : Value) (S7_2 : Nat → Prop) (v8_2 : Value) (S8_2 : Nat → Prop), SlLen v7_2 (y7).length ∧ SlLen v8_2 (y8).length ∧ e' = [(2, .int .i64 a2), (3, .pointer (some ⟨b3_1, 0, none⟩)), (7, v7_2), (8, v8_2), (9, .int .i64 x9), (10, .int .i64 x10)] ∧ C' = Sep w noM [R.box b3_1 31 [.int .i64 a0_0, va0_1, va0_2], R.sl S7_2 v7_2 (y7 : List (Int)), R.sl S8_2 v8_2 (y8 : List (Int))]) ?_ (fun hj_3 => ?_)
                · rintro _ _ ⟨v7_2, S7_2, v8_2, S8_2, hl_v7_2, hl_v8_2, rfl, rfl⟩
                  refine Nrm.block ?_
                  cases hE_3
                  refine Nrm.only [2, 3, 7, 8, 9, 10] rfl ?_
                  refine Nrm.pick [0, 1, 2] rfl rfl ?_
                  exact hj_1 _ _ ⟨v7_2, S7_2, v8_2, S8_2, hl_v7_2, hl_v8_2, rfl, rfl⟩
                · refine Tri.cond (b := !t70) rfl (fun g_4 => ?_) (fun g_4 => ?_)
                  · replace hE_5 := if_tt g_4 hE_5
                    refine Tri.seq ?_
                    obtain ⟨t74, h74, hE_5⟩ := bind_some hE_5
                    refine Tri.reg (l := [0, 1, 2, 3]) rfl ?_
                    refine F.q rfl rfl rfl (wanted_none rfl) (r_move rfl) ?_
                    refine F.q rfl rfl rfl (wanted_none rfl) (r_move rfl) ?_
                    refine F.ef rfl rfl rfl (wanted_none rfl) (d_callM (xs := _) (cs := [R.sl T7r w7r (x7r : List (Int))]) (rest := [R.box b11_1 116 [.int .i64 t33.1, .int .i64 t33.2.1, .int .i64 t33.2.2], R.box b3_1 31 [.int .i64 a0_0, va0_1, va0_2], R.sl T8r w8r (x8r : List (Int))]) [2] [0, 1, 3] rfl ok165 rfl rfl rfl rfl (fun w hw => spec_l1Put.ok h74 w hl_w7r (Sep.sub hw))) ?_
                    rintro v74_1 _ ⟨_, ⟨S74_1, hl_v74_1, rfl⟩, rfl⟩
                    refine F.q rfl rfl rfl (wanted_none rfl) (r_assign rfl) ?_
                    refine F.nil ?_
                    refine Nrm.seq ?_
                    obtain ⟨hs78, hE_5⟩ := ck hE_5
                    refine Tri.reg (l := [0, 1, 2, 3, 4]) rfl ?_
                    refine F.q rfl rfl rfl (wanted_none rfl) (r_move rfl) ?_
                    refine F.q rfl rfl rfl (wanted_none rfl) (r_move rfl) ?_
                    refine F.m rfl rfl rfl (wanted_none rfl) (m_buildF (l := ([w64 ((w64 (t33.1 + t33.2.1)) - t65)] : List (Int))) Try.underlying23 ti3 rfl rfl rfl rfl rfl) ?_
                    rintro v77_1 _ ⟨S77_1, hl_v77_1, rfl⟩
                    refine F.ef rfl rfl rfl (wanted_none rfl) (d_append (i := 4) Try.underlying23 Try.underlying23 ti3 rfl (by decide) rfl rfl rfl (rd_sl (i := 0) rfl) hs78) ?_
                    rintro v78_1 _ ⟨S78_1, rfl, hl_v78_1⟩
                    refine F.q rfl rfl rfl (wanted_none rfl) (r_assign rfl) ?_
                    refine F.nil ?_
                    cases hE_5
                    refine Nrm.only [2, 3, 7, 8, 9, 10] rfl ?_
                    refine Nrm.pick [3, 1, 4] rfl rfl ?_
                    exact hj_3 _ _ ⟨v74_1, S74_1, v78_1, S78_1, hl_v74_1, hl_v78_1, rfl, rfl⟩
                  · replace hE_5 := if_ff g_4 hE_5
                    refine Tri.skip ?_
                    cases hE_5
                    refine Nrm.only [2, 3, 7, 8, 9, 10] rfl ?_
                    refine Nrm.pick [1, 2, 3] rfl rfl ?_
                    exact hj_3 _ _ ⟨w7r, T7r, w8r, T8r, hl_w7r, hl_w8r, rfl, rfl⟩
            · obtain ⟨t38, h38, hE_4⟩ := bind_some hE_4
              rcases Bool.eq_false_or_eq_true (!t38) with g40 | g40
              · replace hE_4 := if_tt g40 hE_4
                refine Tri.drawA mixedT Sep.up [(0, true), (1, true), (2, true), (3, true), (4, true), (5, true), (6, true), (7, true), (8, true), (9, true), (10, true), (11, true), (12, true), (13, true), (14, true), (15, true), (16, true), (17, true), (18, true), (19, true), (20, true), (21, true), (22, true)] [] (by kernel_rfl) ?_
                refine S.q rfl rfl rfl (wanted_none rfl) (r_move rfl) ?_
                refine S.q rfl rfl rfl (wanted_none rfl) (r_indexAddrA Try.underlying116 ti3 rfl rfl (by decide) (by decide)) ?_
                refine S.q rfl rfl rfl (wanted_none rfl) (r_load ta3 rfl (fun w hw => cell_1 (box_cells (i := 0) rfl w hw) rfl)) ?_
                refine S.qc rfl rfl rfl (wanted_none rfl) (q_callF (xs := _) rfl ok159 rfl rfl (fun w hw => spec_l2Has.ok h38 w )) ?_
                refine S.q rfl rfl rfl (wanted_none rfl) (r_not rfl) ?_
                refine S.q rfl rfl rfl (wanted_none rfl) (r_move rfl) ?_
                refine S.sk rfl rfl rfl (wf rfl rfl rfl g40) ?_
                refine S.sk rfl rfl rfl (wf rfl rfl rfl g40) ?_
                refine S.sk rfl rfl rfl (wf rfl rfl rfl g40) ?_
                refine S.sk rfl rfl rfl (wf rfl rfl rfl g40) ?_
                refine S.sk rfl rfl rfl (wf rfl rfl rfl g40) ?_
                refine S.sk rfl rfl rfl (wf rfl rfl rfl g40) ?_
                refine S.sk rfl rfl rfl (wf rfl rfl rfl g40) ?_
                refine S.sk rfl rfl rfl (wf rfl rfl rfl g40) ?_
                refine S.sk rfl rfl rfl (wanted_undef rfl rfl rfl) ?_
                refine S.sk rfl rfl rfl (wanted_undef rfl rfl rfl) ?_
                refine S.sk rfl rfl rfl (wanted_undef rfl rfl rfl) ?_
                refine S.sk rfl rfl rfl (wanted_undef rfl rfl rfl) ?_
                refine S.sk rfl rfl rfl (wanted_undef rfl rfl rfl) ?_
                refine S.sk rfl rfl rfl (wanted_undef rfl rfl rfl) ?_
                refine S.sk rfl rfl rfl (wanted_undef rfl rfl rfl) ?_
                refine S.sk rfl rfl rfl (wf rfl rfl rfl g40) ?_
                refine S.q rfl rfl rfl (wanted_none rfl) (r_pick rfl rfl g40) ?_
                refine S.nil ?_
                refine F.nil ?_
                cases hE_4
                refine Nrm.only [2, 3, 7, 8, 9, 10, 11, 57] rfl ?_
                refine Nrm.pick [0, 1, 3, 2] rfl rfl ?_
                exact hj_2 _ _ ⟨rfl, rfl⟩
              · replace hE_4 := if_ff g40 hE_4
                obtain ⟨t45, h45, hE_4⟩ := bind_some hE_4
                rcases Bool.eq_false_or_eq_true (t33.1 != t45) with g48 | g48
                · replace hE_4 := if_tt g48 hE_4
                  obtain ⟨t53, h53, hE_4⟩ := bind_some hE_4
                  refine Tri.drawA mixedT Sep.up [(0, true), (1, true), (2, true), (3, true), (4, true), (5, true), (6, true), (7, true), (8, true), (9, true), (10, true), (11, true), (12, true), (13, true), (14, true), (15, true), (16, true), (17, true), (18, true), (19, true), (20, true), (21, true), (22, true)] [] (by kernel_rfl) ?_
                  refine S.q rfl rfl rfl (wanted_none rfl) (r_move rfl) ?_
                  refine S.q rfl rfl rfl (wanted_none rfl) (r_indexAddrA Try.underlying116 ti3 rfl rfl (by decide) (by decide)) ?_
                  refine S.q rfl rfl rfl (wanted_none rfl) (r_load ta3 rfl (fun w hw => cell_1 (box_cells (i := 0) rfl w hw) rfl)) ?_
                  refine S.qc rfl rfl rfl (wanted_none rfl) (q_callF (xs := _) rfl ok159 rfl rfl (fun w hw => spec_l2Has.ok h38 w )) ?_
                  refine S.q rfl rfl rfl (wanted_none rfl) (r_not rfl) ?_
                  refine S.q rfl rfl rfl (wanted_none rfl) (r_move rfl) ?_
                  refine S.q rfl rfl rfl (wg rfl rfl rfl g40) (r_indexAddrA Try.underlying116 ti3 rfl rfl (by decide) (by decide)) ?_
                  refine S.q rfl rfl rfl (wg rfl rfl rfl g40) (r_load ta3 rfl (fun w hw => cell_1 (box_cells (i := 0) rfl w hw) rfl)) ?_
                  refine S.q rfl rfl rfl (wg rfl rfl rfl g40) (r_move rfl) ?_
                  refine S.q rfl rfl rfl (wg rfl rfl rfl g40) (r_move rfl) ?_
                  refine S.q rfl rfl rfl (wg rfl rfl rfl g40) (r_indexAddrS Try.underlying23 ti3 rfl hl_w8r rfl (rdl_some h45).1 (rdl_some h45).2.1) ?_
                  refine S.q rfl rfl rfl (wg rfl rfl rfl g40) (r_load ta3 rfl (fun w hw => cell_0 (Rd.flat ((rd_sl (i := 2) rfl) w hw) (rdl_some h45).2.2) rfl)) ?_
                  refine S.q rfl rfl rfl (wg rfl rfl rfl g40) (r_neq rfl rfl) ?_
                  refine S.q rfl rfl rfl (wg rfl rfl rfl g40) (r_move rfl) ?_
                  refine S.q rfl rfl rfl (wg rfl rfl rfl g48) (r_indexAddrA Try.underlying116 ti3 rfl rfl (by decide) (by decide)) ?_
                  refine S.q rfl rfl rfl (wg rfl rfl rfl g48) (r_load ta3 rfl (fun w hw => cell_1 (box_cells (i := 0) rfl w hw) rfl)) ?_
                  refine S.q rfl rfl rfl (wg rfl rfl rfl g48) (r_move rfl) ?_
                  refine S.q rfl rfl rfl (wg rfl rfl rfl g48) (r_move rfl) ?_
                  refine S.q rfl rfl rfl (wg rfl rfl rfl g48) (r_indexAddrS Try.underlying23 ti3 rfl hl_w8r rfl (rdl_some h53).1 (rdl_some h53).2.1) ?_
                  refine S.q rfl rfl rfl (wg rfl rfl rfl g48) (r_load ta3 rfl (fun w hw => cell_0 (Rd.flat ((rd_sl (i := 2) rfl) w hw) (rdl_some h53).2.2) rfl)) ?_
                  refine S.q rfl rfl rfl (wg rfl rfl rfl g48) (r_neq rfl rfl) ?_
                  refine S.q rfl rfl rfl (wg rfl rfl rfl g40) (r_pick rfl rfl g48) ?_
                  refine S.q rfl rfl rfl (wanted_none rfl) (r_pickf rfl rfl g40) ?_
                  refine S.nil ?_
                  refine F.nil ?_
                  cases hE_4
                  refine Nrm.only [2, 3, 7, 8, 9, 10, 11, 57] rfl ?_
                  refine Nrm.pick [0, 1, 3, 2] rfl rfl ?_
                  exact hj_2 _ _ ⟨rfl, rfl⟩
                · replace hE_4 := if_ff g48 hE_4
                  refine Tri.drawA mixedT Sep.up [(0, true), (1, true), (2, true), (3, true), (4, true), (5, true), (6, true), (7, true), (8, true), (9, true), (10, true), (11, true), (12, true), (13, true), (14, true), (15, true), (16, true), (17, true), (18, true), (19, true), (20, true), (21, true), (22, true)] [] (by kernel_rfl) ?_
                  refine S.q rfl rfl rfl (wanted_none rfl) (r_move rfl) ?_
                  refine S.q rfl rfl rfl (wanted_none rfl) (r_indexAddrA Try.underlying116 ti3 rfl rfl (by decide) (by decide)) ?_
                  refine S.q rfl rfl rfl (wanted_none rfl) (r_load ta3 rfl (fun w hw => cell_1 (box_cells (i := 0) rfl w hw) rfl)) ?_
                  refine S.qc rfl rfl rfl (wanted_none rfl) (q_callF (xs := _) rfl ok159 rfl rfl (fun w hw => spec_l2Has.ok h38 w )) ?_
                  refine S.q rfl rfl rfl (wanted_none rfl) (r_not rfl) ?_
                  refine S.q rfl rfl rfl (wanted_none rfl) (r_move rfl) ?_
                  refine S.q rfl rfl rfl (wg rfl rfl rfl g40) (r_indexAddrA Try.underlying116 ti3 rfl rfl (by decide) (by decide)) ?_
                  refine S.q rfl rfl rfl (wg rfl rfl rfl g40) (r_load ta3 rfl (fun w hw => cell_1 (box_cells (i := 0) rfl w hw) rfl)) ?_
                  refine S.q rfl rfl rfl (wg rfl rfl rfl g40) (r_move rfl) ?_
                  refine S.q rfl rfl rfl (wg rfl rfl rfl g40) (r_move rfl) ?_
                  refine S.q rfl rfl rfl (wg rfl rfl rfl g40) (r_indexAddrS Try.underlying23 ti3 rfl hl_w8r rfl (rdl_some h45).1 (rdl_some h45).2.1) ?_
                  refine S.q rfl rfl rfl (wg rfl rfl rfl g40) (r_load ta3 rfl (fun w hw => cell_0 (Rd.flat ((rd_sl (i := 2) rfl) w hw) (rdl_some h45).2.2) rfl)) ?_
                  refine S.q rfl rfl rfl (wg rfl rfl rfl g40) (r_neq rfl rfl) ?_
                  refine S.q rfl rfl rfl (wg rfl rfl rfl g40) (r_move rfl) ?_
                  refine S.sk rfl rfl rfl (wf rfl rfl rfl g48) ?_
                  refine S.sk rfl rfl rfl (wf rfl rfl rfl g48) ?_
                  refine S.sk rfl rfl rfl (wf rfl rfl rfl g48) ?_
                  refine S.sk rfl rfl rfl (wf rfl rfl rfl g48) ?_
                  refine S.sk rfl rfl rfl (wf rfl rfl rfl g48) ?_
                  refine S.sk rfl rfl rfl (wf rfl rfl rfl g48) ?_
                  refine S.sk rfl rfl rfl (wf rfl rfl rfl g48) ?_
                  refine S.q rfl rfl rfl (wg rfl rfl rfl g40) (r_pickf rfl rfl g48) ?_
                  refine S.q rfl rfl rfl (wanted_none rfl) (r_pickf rfl rfl g40) ?_
                  refine S.nil ?_
                  refine F.nil ?_
                  cases hE_4
                  refine Nrm.only [2, 3, 7, 8, 9, 10, 11, 57] rfl ?_
                  refine Nrm.pick [0, 1, 3, 2] rfl rfl ?_
                  exact hj_2 _ _ ⟨rfl, rfl⟩
        · replace hE_2 := if_ff g_2 hE_2
          refine Tri.exit ?_
          refine Exi.then ?_
          refine Exi.then ?_
          refine Exi.same ?_
          cases hE_2
          refine Nrm.block ?_
          refine Nrm.seq ?_
          refine Tri.reg (l := [0, 1, 2]) rfl ?_
          refine F.q rfl rfl rfl (wanted_none rfl) (r_move rfl) ?_
          refine F.q rfl rfl rfl (wanted_none rfl) (r_add rfl rfl) ?_
          refine F.q rfl rfl rfl (wanted_none rfl) (r_assign rfl) ?_
          refine F.nil ?_
          refine Nrm.round ?_
          refine Rnd.only [2, 3, 7, 8, 9] rfl ?_
          refine Rnd.pick [0, 1, 2] rfl rfl ?_
          exact ih_1 _ _ ⟨x7r, x8r, w64 (x9 + 1), w7r, T7r, w8r, T8r, hE_1, hl_w7r, hl_w8r, rfl, rfl⟩
    · replace hE_1 := if_ff g_1 hE_1
      refine Tri.exit ?_
      refine Exi.then ?_
      refine Exi.then ?_
      refine Exi.same ?_
      cases hE_1
      refine Nrm.seq ?_
      refine Tri.seq ?_
      refine Tri.reg (l := [0, 1]) rfl ?_
      refine F.q rfl rfl rfl (wanted_none rfl) (r_move rfl) ?_
      refine F.q rfl rfl rfl (wanted_none rfl) (r_assign rfl) ?_
      refine F.nil ?_
      refine Nrm.seq ?_
      refine Tri.ret ?_
      cases h
      exact Rtn.body (.tmp rfl .nil) (fun w hw => ⟨_, _, rfl, ⟨T7, hl_w7, rfl⟩, Sep.pick (is := [2]) rfl rfl hw⟩)

end Go.Proofs

/- loop.example/g01158/spec.l2Close -/
namespace Go.Proofs
open Go Go.Ga
set_option linter.unusedVariables false
set_option maxRecDepth 100000
set_option maxHeartbeats 4000000
def spec_l2Close.l1 (k : Nat) (a0_2 : List Int) (t11 : List Int) : Nat → Int → Int → Option (Int)
  | 0, _, _ => none
  | n + 1, x7, x8 => (if (decide (x8 < (t11.length : Int))) = true then (rdl t11 x8).bind fun t24 => (rdl a0_2 t24).bind fun t26 => spec_l2Close.l1 k a0_2 t11 n (bor x7 t26) (w64 (x8 + 1)) else some x7)

def spec_l2Close.l0 (k : Nat) (a0_0 : Int) (a0_1 : List (Int × Int × Int)) (a0_2 : List Int) : Nat → Int → Option ((Unit) ⊕ (Int × (List Int)))
  | 0, _ => none
  | n + 1, x1 => (spec_l2Reach.f k a0_0 a0_1 a0_2 0 x1).bind fun t11 => (spec_l2Close.l1 k a0_2 t11 k x1 0).bind fun x7 => (if (x7 == x1) = true then some (Sum.inr (x1, t11)) else spec_l2Close.l0 k a0_0 a0_1 a0_2 n x7)

def spec_l2Close.f (k : Nat) (a0_0 : Int) (a0_1 : List (Int × Int × Int)) (a0_2 : List Int) (a1 : Int) : Option (Int × (List Int)) := (spec_l2Close.l0 k a0_0 a0_1 a0_2 k a1).bind fun s => Lr s some fun _ => none

theorem spec_l2Close.ok {k : Nat}  {a0_0 : Int} {a0_1 : List (Int × Int × Int)} {a0_2 : List Int} {a1 : Int} {r0 : Int} {r1 : List Int} (h : spec_l2Close.f k a0_0 a0_1 a0_2 a1 = some (r0, r1)) (w : World) {va0_1 : Value} {va0_2 : Value} (hr_a0_1 : Rd w va0_1 a0_1) (hr_a0_2 : Rd w va0_2 a0_2) :
    Calls Try.prog 115 ([.agg ([.int .i64 a0_0, va0_1, va0_2].toArray), .int .i64 a1] : List Value).toArray w (Post (fun u ns => ∃ (ur1 : Value) (Sr1 : Nat → Prop), u = .tuple #[.int .i64 r0, ur1] ∧ SlLen ur1 r1.length ∧ ns = [R.sl Sr1 ur1 r1]) w) := by
  unfold spec_l2Close.f at h
  have hl_va0_1 := hr_a0_1.len
  have hl_va0_2 := hr_a0_2.len
  refine Calls.of_tri (N := 35) Try.func115 rfl rfl rfl (Sep.nil (M := noM)) ?_
  refine Tri.seq ?_
  refine Tri.reg (l := [0, 1, 2]) rfl ?_
  refine F.m rfl rfl rfl (wanted_none rfl) (m_boxG rfl rfl) ?_
  rintro _ _ ⟨b2_1, rfl, rfl⟩
  refine F.q rfl rfl rfl (wanted_none rfl) (r_assign rfl) ?_
  refine F.q rfl rfl rfl (wanted_none rfl) (r_assign rfl) ?_
  refine F.nil ?_
  refine Nrm.seq ?_
  obtain ⟨s0, hE_1, h⟩ := bind_some h
  refine Tri.block ?_
  refine Tri.only [1, 2] rfl ?_
  refine Tri.pick [0] rfl rfl ?_
  refine Tri.rounds (fun n e' C' => ∃ (x1' : Int), spec_l2Close.l0 k a0_0 a0_1 a0_2 n x1' = some s0 ∧ e' = [(1, .int .i64 x1'), (2, .pointer (some ⟨b2_1, 0, none⟩))] ∧ C' = Sep w noM [R.box b2_1 31 [.int .i64 a0_0, va0_1, va0_2]]) k ?_ ?_ ?_
  · exact ⟨a1, hE_1, rfl, rfl⟩
  · rintro _ _ ⟨_, hE_1, _⟩
    rw [spec_l2Close.l0.eq_1] at hE_1; cases hE_1
  · rintro n_1 _ _ ⟨x1, hE_1, rfl, rfl⟩ ih_1
    rw [spec_l2Close.l0.eq_2] at hE_1
    refine Tri.block ?_
    refine Tri.seq ?_
    obtain ⟨t11, h11, hE_1⟩ := bind_some hE_1
    refine Tri.reg (l := [0, 1, 2, 3, 4, 5]) rfl ?_
    refine F.q rfl rfl rfl (wanted_none rfl) (r_loadA ta31 ti31 rfl rfl (fun w hw => (box_cells (i := 0) rfl w hw))) ?_
    refine F.q rfl rfl rfl (wanted_none rfl) (r_move rfl) ?_
    refine F.m rfl rfl rfl (wanted_none rfl) (m_callF (xs := _) rfl ok141 rfl rfl (fun w hw => spec_l2Reach.ok h11 w ((fun _ hw => hr_a0_1.sep hw) w hw) ((fun _ hw => hr_a0_2.sep hw) w hw))) ?_
    rintro v11_1 _ ⟨_, ⟨S11_1, hl_v11_1, rfl⟩, rfl⟩
    refine F.q rfl rfl rfl (wanted_none rfl) (r_move rfl) ?_
    refine F.q rfl rfl rfl (wanted_none rfl) (r_assign rfl) ?_
    refine F.q rfl rfl rfl (wanted_none rfl) (r_assign rfl) ?_
    refine F.nil ?_
    refine Nrm.seq ?_
    refine Tri.seq ?_
    refine Tri.seq ?_
    refine Tri.reg (l := [0]) rfl ?_
    refine F.q rfl rfl rfl (wanted_none rfl) (r_assign rfl) ?_
    refine F.nil ?_
    refine Nrm.seq ?_
    obtain ⟨x7, hE_2, hE_1⟩ := bind_some hE_1
    refine Tri.block ?_
    refine Tri.only [1, 2, 6, 7, 8] rfl ?_
    refine Tri.pick [1, 0] rfl rfl ?_
    refine Tri.rounds (fun n e' C' => ∃ (x7' : Int) (x8' : Int), spec_l2Close.l1 k a0_2 t11 n x7' x8' = some x7 ∧ e' = [(1, .int .i64 x1), (2, .pointer (some ⟨b2_1, 0, none⟩)), (6, v11_1), (7, .int .i64 x7'), (8, .int .i64 x8')] ∧ C' = Sep w noM [R.box b2_1 31 [.int .i64 a0_0, va0_1, va0_2], R.sl S11_1 v11_1 (t11 : List (Int))]) k ?_ ?_ ?_
    · exact ⟨x1, 0, hE_2, rfl, rfl⟩
    · rintro _ _ ⟨_, _, hE_2, _⟩
      rw [spec_l2Close.l1.eq_1] at hE_2; cases hE_2
    · rintro n_2 _ _ ⟨x7, x8, hE_2, rfl, rfl⟩ ih_2
      rw [spec_l2Close.l1.eq_2] at hE_2
      refine Tri.seq ?_
      refine Tri.seq ?_
      refine Tri.reg (l := [0, 1, 2, 3]) rfl ?_
      refine F.q rfl rfl rfl (wanted_none rfl) (r_move rfl) ?_
      refine F.q rfl rfl rfl (wanted_none rfl) (r_move rfl) ?_
      refine F.q rfl rfl rfl (wanted_none rfl) (r_len Try.underlying23 rfl hl_v11_1) ?_
      refine F.q rfl rfl rfl (wanted_none rfl) (r_lss rfl rfl) ?_
      refine F.nil ?_
      refine Nrm.seq ?_
      refine Tri.cond (b := decide (x8 < (t11.length : Int))) rfl (fun g_1 => ?_) (fun g_1 => ?_)
      · replace hE_2 := if_tt g_1 hE_2
        refine Tri.skip ?_
        refine Nrm.seq ?_
        refine Tri.seq ?_
        refine Tri.block ?_
        obtain ⟨t24, h24, hE_2⟩ := bind_some hE_2
        obtain ⟨t26, h26, hE_2⟩ := bind_some hE_2
        refine Tri.drawA mixedT Sep.up [(0, true), (1, true), (2, true), (3, true), (4, true), (5, true), (6, true), (7, true), (8, true), (9, true), (10, true)] [] (by kernel_rfl) ?_
        refine S.q rfl rfl rfl (wanted_none rfl) (r_move rfl) ?_
        refine S.q rfl rfl rfl (wanted_none rfl) (r_fieldAddr tf31_2 rfl) ?_
        refine S.q rfl rfl rfl (wanted_none rfl) (r_load ta23 rfl (fun w hw => cell_1 (box_cells (i := 0) rfl w hw) rfl)) ?_
        refine S.q rfl rfl rfl (wanted_none rfl) (r_move rfl) ?_
        refine S.q rfl rfl rfl (wanted_none rfl) (r_move rfl) ?_
        refine S.q rfl rfl rfl (wanted_none rfl) (r_indexAddrS Try.underlying23 ti3 rfl hl_v11_1 rfl (rdl_some h24).1 (rdl_some h24).2.1) ?_
        refine S.q rfl rfl rfl (wanted_none rfl) (r_load ta3 rfl (fun w hw => cell_0 (Rd.flat ((rd_sl (i := 1) rfl) w hw) (rdl_some h24).2.2) rfl)) ?_
        refine S.q rfl rfl rfl (wanted_none rfl) (r_indexAddrS Try.underlying23 ti3 rfl hl_va0_2 rfl (rdl_some h26).1 (rdl_some h26).2.1) ?_
        refine S.q rfl rfl rfl (wanted_none rfl) (r_load ta3 rfl (fun w hw => cell_0 (Rd.flat ((fun _ hw => hr_a0_2.sep hw) w hw) (rdl_some h26).2.2) rfl)) ?_
        refine S.q rfl rfl rfl (wanted_none rfl) (r_or rfl rfl) ?_
        refine S.q rfl rfl rfl (wanted_none rfl) (r_assign rfl) ?_
        refine S.nil ?_
        refine F.nil ?_
        refine Nrm.block ?_
        refine Nrm.seq ?_
        refine Tri.reg (l := [0, 1, 2]) rfl ?_
        refine F.q rfl rfl rfl (wanted_none rfl) (r_move rfl) ?_
        refine F.q rfl rfl rfl (wanted_none rfl) (r_add rfl rfl) ?_
        refine F.q rfl rfl rfl (wanted_none rfl) (r_assign rfl) ?_
        refine F.nil ?_
        refine Nrm.round ?_
        refine Rnd.only [1, 2, 6, 7, 8] rfl ?_
        refine Rnd.pick [0, 1] rfl rfl ?_
        exact ih_2 _ _ ⟨bor x7 t26, w64 (x8 + 1), hE_2, rfl, rfl⟩
      · replace hE_2 := if_ff g_1 hE_2
        refine Tri.exit ?_
        refine Exi.then ?_
        refine Exi.then ?_
        refine Exi.same ?_
        cases hE_2
        refine Nrm.seq ?_
        refine Tri.seq ?_
        refine Tri.seq ?_
        refine Tri.reg (l := [0, 1, 2]) rfl ?_
        refine F.q rfl rfl rfl (wanted_none rfl) (r_move rfl) ?_
        refine F.q rfl rfl rfl (wanted_none rfl) (r_move rfl) ?_
        refine F.q rfl rfl rfl (wanted_none rfl) (r_eql rfl rfl) ?_
        refine F.nil ?_
        refine Nrm.seq ?_
        refine Tri.cond (b := x7 == x1) rfl (fun g_2 => ?_) (fun g_2 => ?_)
        · replace hE_1 := if_tt g_2 hE_1
          refine Tri.seq ?_
          refine Tri.reg (l := [0, 1, 2, 3]) rfl ?_
          refine F.q rfl rfl rfl (wanted_none rfl) (r_move rfl) ?_
          refine F.q rfl rfl rfl (wanted_none rfl) (r_move rfl) ?_
          refine F.q rfl rfl rfl (wanted_none rfl) (r_assign rfl) ?_
          refine F.q rfl rfl rfl (wanted_none rfl) (r_assign rfl) ?_
          refine F.nil ?_
          refine Nrm.seq ?_
          refine Tri.ret ?_
          refine Rtn.then ?_
          refine Rtn.block ?_
          refine Rtn.then ?_
          refine Rtn.block ?_
          cases hE_1
          replace h := Lr_inr h
          cases h
          exact Rtn.body (.tmp rfl (.tmp rfl .nil)) (fun w hw => ⟨_, _, rfl, ⟨v11_1, S11_1, rfl, hl_v11_1, rfl⟩, Sep.pick (is := [1]) rfl rfl hw⟩)
        · replace hE_1 := if_ff g_2 hE_1
          refine Tri.skip ?_
          refine Nrm.seq ?_
          refine Tri.reg (l := [0, 1]) rfl ?_
          refine F.q rfl rfl rfl (wanted_none rfl) (r_move rfl) ?_
          refine F.q rfl rfl rfl (wanted_none rfl) (r_assign rfl) ?_
          refine F.nil ?_
          refine Nrm.block ?_
          refine Nrm.round ?_
          refine Rnd.only [1, 2] rfl ?_
          refine Rnd.pick [0] rfl rfl ?_
          exact ih_1 _ _ ⟨x7, hE_1, rfl, rfl⟩

end Go.Proofs

/- loop.example/g01158/spec.l3Wins -/
namespace Go.Proofs
open Go Go.Ga
set_option linter.unusedVariables false
set_option maxRecDepth 100000
set_option maxHeartbeats 4000000
def spec_l3Wins.f (k : Nat) (a0_0 : Int) (a0_1 : List (Int × Int × Int)) (a0_2 : List Int) (a1 : Int) : Option (Bool) := (spec_l2Close.f k a0_0 a0_1 a0_2 a1).bind fun (t10_1, t10_2) => (spec_l1Has.f k t10_2 (w64 (a0_0 - 1))).bind fun t17 => some t17

theorem spec_l3Wins.ok {k : Nat}  {a0_0 : Int} {a0_1 : List (Int × Int × Int)} {a0_2 : List Int} {a1 : Int} {r0 : Bool} (h : spec_l3Wins.f k a0_0 a0_1 a0_2 a1 = some r0) (w : World) {va0_1 : Value} {va0_2 : Value} (hr_a0_1 : Rd w va0_1 a0_1) (hr_a0_2 : Rd w va0_2 a0_2) :
    Calls Try.prog 109 ([.agg ([.int .i64 a0_0, va0_1, va0_2].toArray), .int .i64 a1] : List Value).toArray w (fun e w' => e = .returned (.bool r0) ∧ Ext w w') := by
  unfold spec_l3Wins.f at h
  have hl_va0_1 := hr_a0_1.len
  have hl_va0_2 := hr_a0_2.len
  refine Calls.of_tri (N := 18) Try.func109 rfl rfl rfl (Sep.nil (M := noM)) ?_
  refine Tri.seq ?_
  refine Tri.reg (l := [0, 1]) rfl ?_
  refine F.m rfl rfl rfl (wanted_none rfl) (m_boxG rfl rfl) ?_
  rintro _ _ ⟨b2_1, rfl, rfl⟩
  refine F.q rfl rfl rfl (wanted_none rfl) (r_assign rfl) ?_
  refine F.nil ?_
  refine Nrm.seq ?_
  refine Tri.seq ?_
  obtain ⟨⟨t10_1, t10_2⟩, h10, h⟩ := bind_some h
  refine Tri.reg (l := [0, 1, 2, 3, 4, 5, 6, 7]) rfl ?_
  refine F.q rfl rfl rfl (wanted_none rfl) (r_loadA ta31 ti31 rfl rfl (fun w hw => (box_cells (i := 0) rfl w hw))) ?_
  refine F.q rfl rfl rfl (wanted_none rfl) (r_move rfl) ?_
  refine F.m rfl rfl rfl (wanted_none rfl) (m_callF (xs := _) rfl ok115 rfl rfl (fun w hw => spec_l2Close.ok h10 w ((fun _ hw => hr_a0_1.sep hw) w hw) ((fun _ hw => hr_a0_2.sep hw) w hw))) ?_
  rintro _ _ ⟨_, ⟨v10_1, S10_1, rfl, hl_v10_1, rfl⟩, rfl⟩
  refine F.q rfl rfl rfl (wanted_none rfl) (r_move rfl) ?_
  refine F.q rfl rfl rfl (wanted_none rfl) (r_extract rfl rfl) ?_
  refine F.q rfl rfl rfl (wanted_none rfl) (r_extract rfl rfl) ?_
  refine F.q rfl rfl rfl (wanted_none rfl) (r_assign rfl) ?_
  refine F.q rfl rfl rfl (wanted_none rfl) (r_assign rfl) ?_
  refine F.nil ?_
  refine Nrm.seq ?_
  refine Tri.seq ?_
  obtain ⟨t17, h17, h⟩ := bind_some h
  refine Tri.reg (l := [0, 1, 2, 3, 4, 5]) rfl ?_
  refine F.q rfl rfl rfl (wanted_none rfl) (r_move rfl) ?_
  refine F.q rfl rfl rfl (wanted_none rfl) (r_fieldAddr tf31_0 rfl) ?_
  refine F.q rfl rfl rfl (wanted_none rfl) (r_load ta3 rfl (fun w hw => cell_1 (box_cells (i := 1) rfl w hw) rfl)) ?_
  refine F.q rfl rfl rfl (wanted_none rfl) (r_sub rfl rfl) ?_
  refine F.qc rfl rfl rfl (wanted_none rfl) (q_callF (xs := _) rfl ok76 rfl rfl (fun w hw => spec_l1Has.ok h17 w ((rd_sl (i := 0) rfl) w hw))) ?_
  refine F.q rfl rfl rfl (wanted_none rfl) (r_assign rfl) ?_
  refine F.nil ?_
  refine Nrm.seq ?_
  refine Tri.ret ?_
  cases h
  exact Rtn.body (.tmp rfl .nil) (fun w hw => ⟨rfl, hw.ext⟩)

end Go.Proofs

/- loop.example/g01158/spec.l9Winning -/
namespace Go.Proofs
open Go Go.Ga
set_option linter.unusedVariables false
set_option maxRecDepth 100000
set_option maxHeartbeats 4000000
def spec_l9Winning.l0 (k : Nat) (a0_0 : Int) (a0_1 : List (Int × Int × Int)) (a0_2 : List Int) (a1 : Int) (y6 : List (List Int)) : Nat → (List (Int)) → Int → Option ((List (Int)))
  | 0, _, _ => none
  | n + 1, x5, x7 => (if (decide (x7 < (y6.length : Int))) = true then (rdl y6 x7).bind fun t25 => (spec_l2Colours.f k a1).bind fun t22 => (spec_l9Lay.f k a0_0 a0_1 a0_2 t22 t25).bind fun (t27_1, t27_2, t27_3) => (spec_l3Wins.f k t27_1 t27_2 t27_3 0).bind fun t28 => ((if t28 = true then (rdl y6 x7).bind fun t32 => if (x5 ++ [x7]).length < 1099511627776 then some (x5 ++ [x7]) else none else some x5)).bind fun y5r => spec_l9Winning.l0 k a0_0 a0_1 a0_2 a1 y6 n y5r (w64 (x7 + 1)) else some x5)

def spec_l9Winning.f (k : Nat) (a0_0 : Int) (a0_1 : List (Int × Int × Int)) (a0_2 : List Int) (a1 : Int) : Option ((List (List Int))) := ((spec_l2Many.f k a1).bind fun t12 => (spec_l9All.f k a0_0 t12).bind fun t13 => some (([] : List (List Int)), t13)).bind fun (y5, y6) => if y5 = [] then (spec_l9Winning.l0 k a0_0 a0_1 a0_2 a1 y6 k [] 0).bind fun x5 => if idxOK (x5) y6.length then some ((x5).map (fun x => List.getD y6 x.toNat [])) else none else none

theorem spec_l9Winning.ok {k : Nat}  {a0_0 : Int} {a0_1 : List (Int × Int × Int)} {a0_2 : List Int} {a1 : Int} {r0 : List (List Int)} (h : spec_l9Winning.f k a0_0 a0_1 a0_2 a1 = some r0) (w : World) {va0_1 : Value} {va0_2 : Value} (hr_a0_1 : Rd w va0_1 a0_1) (hr_a0_2 : Rd w va0_2 a0_2) :
    Calls Try.prog 74 ([.agg ([.int .i64 a0_0, va0_1, va0_2].toArray), .int .i64 a1] : List Value).toArray w (Post (fun u ns => ∃ (Sr0 : Nat → Prop), SlLen u r0.length ∧ ns = [R.sl Sr0 u r0]) w) := by
  unfold spec_l9Winning.f at h
  have hl_va0_1 := hr_a0_1.len
  have hl_va0_2 := hr_a0_2.len
  refine Calls.of_tri (N := 37) Try.func74 rfl rfl rfl (Sep.nil (M := noM)) ?_
  refine Tri.seq ?_
  refine Tri.reg (l := [0, 1]) rfl ?_
  refine F.m rfl rfl rfl (wanted_none rfl) (m_boxG rfl rfl) ?_
  rintro _ _ ⟨b2_1, rfl, rfl⟩
  refine F.q rfl rfl rfl (wanted_none rfl) (r_assign rfl) ?_
  refine F.nil ?_
  refine Nrm.seq ?_
  refine Tri.seq ?_
  obtain ⟨⟨y5, y6⟩, hE_1, h⟩ := bind_some h
  refine Tri.cut (fun e' C' => ∃ (v5_1 : Value) (S5_1 : Nat → Prop) (v6_1 : Value) (S6_1 : Nat → Prop), SlLen v5_1 (y5).length ∧ SlLen v6_1 (y6).length ∧ e' = [(1, .int .i64 a1), (2, .pointer (some ⟨b2_1, 0, none⟩)), (5, v5_1), (6, v6_1)] ∧ C' = Sep w noM [R.box b2_1 31 [.int .i64 a0_0, va0_1, va0_2], R.sl S5_1 v5_1 (y5 : List (List Int)), R.sl S6_1 v6_1 (y6 : List (List Int))]) ?_ (fun hj_1 => ?_)
  · rintro _ _ ⟨v5_1, S5_1, v6_1, S6_1, hl_v5_1, hl_v6_1, rfl, rfl⟩
    refine Nrm.seq ?_
    refine Tri.seq ?_
    refine Tri.seq ?_
    refine Tri.reg (l := [0]) rfl ?_
    refine F.q rfl rfl rfl (wanted_none rfl) (r_assign rfl) ?_
    refine F.nil ?_
    refine Nrm.seq ?_
    obtain ⟨hnl, h⟩ := ck h
    subst hnl
    refine Tri.ex (refSplit (p := 2) (q := 1) (js := [0]) rfl rfl) ?_
    rintro _ ⟨lsr, S1r, S2r, habr, hflr, hvar, rfl⟩
    obtain ⟨x5, hE_2, h⟩ := bind_some h
    refine Tri.block ?_
    refine Tri.only [1, 2, 5, 6, 7] rfl ?_
    refine Tri.pick [0, 1, 3, 2] rfl rfl ?_
    refine Tri.rounds (fun n e' C' => ∃ (x5' : List (Int)) (x7' : Int) (w5 : Value) (T5 : Nat → Prop), spec_l9Winning.l0 k a0_0 a0_1 a0_2 a1 y6 n x5' x7' = some x5 ∧ SlLen w5 (x5').length ∧ e' = [(1, .int .i64 a1), (2, .pointer (some ⟨b2_1, 0, none⟩)), (5, w5), (6, v6_1), (7, .int .i64 x7')] ∧ C' = Sep w noM [R.sl S1r v6_1 lsr, R.rows S2r lsr, R.box b2_1 31 [.int .i64 a0_0, va0_1, va0_2], R.sl T5 w5 (refs lsr (x5' : List (Int)))]) k ?_ ?_ ?_
    · exact ⟨[], 0, v5_1, S5_1, hE_2, hl_v5_1, rfl, rfl⟩
    · rintro _ _ ⟨_, _, _, _, hE_2, _⟩
      rw [spec_l9Winning.l0.eq_1] at hE_2; cases hE_2
    · rintro n_1 _ _ ⟨x5, x7, w5, T5, hE_2, hl_w5, rfl, rfl⟩ ih_1
      rw [spec_l9Winning.l0.eq_2] at hE_2
      refine Tri.seq ?_
      refine Tri.seq ?_
      refine Tri.reg (l := [0, 1, 2, 3]) rfl ?_
      refine F.q rfl rfl rfl (wanted_none rfl) (r_move rfl) ?_
      refine F.q rfl rfl rfl (wanted_none rfl) (r_move rfl) ?_
      refine F.q rfl rfl rfl (wanted_none rfl) (r_len Try.underlying95 rfl hl_v6_1) ?_
      refine F.q rfl rfl rfl (wanted_none rfl) (r_lss rfl rfl) ?_
      refine F.nil ?_
      refine Nrm.seq ?_
      refine Tri.cond (b := decide (x7 < (y6.length : Int))) rfl (fun g_1 => ?_) (fun g_1 => ?_)
      · replace hE_2 := if_tt g_1 hE_2
        refine Tri.skip ?_
        refine Nrm.seq ?_
        refine Tri.seq ?_
        refine Tri.block ?_
        refine Tri.seq ?_
        obtain ⟨t25, h25, hE_2⟩ := bind_some hE_2
        obtain ⟨t22, h22, hE_2⟩ := bind_some hE_2
        obtain ⟨⟨t27_1, t27_2, t27_3⟩, h27, hE_2⟩ := bind_some hE_2
        obtain ⟨t28, h28, hE_2⟩ := bind_some hE_2
        refine Tri.drawA mixedT Sep.up [(0, true), (1, true), (3, true), (4, true), (5, true), (6, true), (2, false), (7, false), (8, true)] [] (by kernel_rfl) ?_
        refine S.q rfl rfl rfl (wanted_none rfl) (r_loadA ta31 ti31 rfl rfl (fun w hw => (box_cells (i := 2) rfl w hw))) ?_
        refine S.q rfl rfl rfl (wanted_none rfl) (r_move rfl) ?_
        refine S.q rfl rfl rfl (wanted_none rfl) (r_move rfl) ?_
        refine S.q rfl rfl rfl (wanted_none rfl) (r_move rfl) ?_
        refine S.q rfl rfl rfl (wanted_none rfl) (r_indexAddrS Try.underlying95 ti23 rfl hl_v6_1 rfl (rdl_some h25).1 (rdl_some h25).2.1) ?_
        refine S.q rfl rfl rfl (wanted_none rfl) (r_load ta23 rfl (fun w hw => cell_0 (hdr_cells (j := 0) rfl habr h25 hw) rfl)) ?_
        refine S.m rfl rfl rfl (wanted_none rfl) (m_callF (xs := _) rfl ok62 rfl rfl (fun w hw => spec_l2Colours.ok h22 w )) ?_
        rintro v22_2 _ ⟨_, ⟨S22_2, hl_v22_2, rfl⟩, rfl⟩
        refine S.m rfl rfl rfl (wanted_none rfl) (m_callF (xs := _) rfl ok98 rfl rfl (fun w hw => spec_l9Lay.ok h27 w ((fun _ hw => hr_a0_1.sep hw) w hw) ((fun _ hw => hr_a0_2.sep hw) w hw) ((rd_sl (i := 0) rfl) w hw) ((fun w hw => rows_rd (j := 2) rfl habr h25 hw) w hw))) ?_
        rintro _ _ ⟨_, ⟨v27_3, S27_3, v27_4, S27_4, rfl, hl_v27_3, hl_v27_4, rfl⟩, rfl⟩
        refine S.qc rfl rfl rfl (wanted_none rfl) (q_callF (xs := _) rfl ok109 rfl rfl (fun w hw => spec_l3Wins.ok h28 w ((rd_sl (i := 0) rfl) w hw) ((rd_sl (i := 1) rfl) w hw))) ?_
        refine S.nil ?_
        refine F.nil ?_
        refine Nrm.seq ?_
        obtain ⟨y5r, hE_3, hE_2⟩ := bind_some hE_2
        refine Tri.cut (fun e' C' => ∃ (v5_2 : Value) (S5_2 : Nat → Prop), SlLen v5_2 (y5r).length ∧ e' = [(1, .int .i64 a1), (2, .pointer (some ⟨b2_1, 0, none⟩)), (5, v5_2), (6, v6_1), (7, .int .i64 x7)] ∧ C' = Sep w noM [R.sl S1r v6_1 lsr, R.rows S2r lsr, R.box b2_1 31 [.int .i64 a0_0, va0_1, va0_2], R.sl S5_2 v5_2 (refs lsr (y5r : List (Int)))]) ?_ (fun hj_2 => ?_)
        · rintro _ _ ⟨v5_2, S5_2, hl_v5_2, rfl, rfl⟩
          refine Nrm.block ?_
          refine Nrm.seq ?_
          refine Tri.reg (l := [0, 1, 2]) rfl ?_
          refine F.q rfl rfl rfl (wanted_none rfl) (r_move rfl) ?_
          refine F.q rfl rfl rfl (wanted_none rfl) (r_add rfl rfl) ?_
          refine F.q rfl rfl rfl (wanted_none rfl) (r_assign rfl) ?_
          refine F.nil ?_
          refine Nrm.round ?_
          refine Rnd.only [1, 2, 5, 6, 7] rfl ?_
          refine Rnd.pick [0, 1, 2, 3] rfl rfl ?_
          exact ih_1 _ _ ⟨y5r, w64 (x7 + 1), v5_2, S5_2, hE_2, hl_v5_2, rfl, rfl⟩
        · refine Tri.cond (b := t28) rfl (fun g_2 => ?_) (fun g_2 => ?_)
          · replace hE_3 := if_tt g_2 hE_3
            obtain ⟨t32, h32, hE_3⟩ := bind_some hE_3
            obtain ⟨hs35, hE_3⟩ := ck hE_3
            refine Tri.reg (l := [0, 1, 2, 3, 4, 5, 6, 7]) rfl ?_
            refine F.q rfl rfl rfl (wanted_none rfl) (r_move rfl) ?_
            refine F.q rfl rfl rfl (wanted_none rfl) (r_move rfl) ?_
            refine F.q rfl rfl rfl (wanted_none rfl) (r_move rfl) ?_
            refine F.q rfl rfl rfl (wanted_none rfl) (r_indexAddrS Try.underlying95 ti23 rfl hl_v6_1 rfl (rdl_some h32).1 (rdl_some h32).2.1) ?_
            refine F.q rfl rfl rfl (wanted_none rfl) (r_load ta23 rfl (fun w hw => cell_0 (hdr_cells (j := 3) rfl habr h32 hw) rfl)) ?_
            refine F.m rfl rfl rfl (wanted_none rfl) (m_buildRef (i := x7) Try.underlying95 ti23 rfl (rows_len hflr habr h32)) ?_
            rintro v34_1 _ ⟨S34_1, hl_v34_1, rfl⟩
            refine F.ef rfl rfl rfl (wanted_none rfl) (d_appendRef (p := 7) (q := 0) (xs := x5) (ys := [x7]) Try.underlying95 Try.underlying95 ti23 rfl (by decide) rfl rfl rfl rfl hs35) ?_
            rintro v35_1 _ ⟨S35_1, rfl, hl_v35_1⟩
            refine F.q rfl rfl rfl (wanted_none rfl) (r_assign rfl) ?_
            refine F.nil ?_
            cases hE_3
            refine Nrm.only [1, 2, 5, 6, 7] rfl ?_
            refine Nrm.pick [4, 5, 6, 7] rfl rfl ?_
            exact hj_2 _ _ ⟨v35_1, S35_1, hl_v35_1, rfl, rfl⟩
          · replace hE_3 := if_ff g_2 hE_3
            refine Tri.skip ?_
            cases hE_3
            refine Nrm.only [1, 2, 5, 6, 7] rfl ?_
            refine Nrm.pick [3, 4, 5, 6] rfl rfl ?_
            exact hj_2 _ _ ⟨w5, T5, hl_w5, rfl, rfl⟩
      · replace hE_2 := if_ff g_1 hE_2
        refine Tri.exit ?_
        refine Exi.then ?_
        refine Exi.then ?_
        refine Exi.same ?_
        cases hE_2
        refine Nrm.seq ?_
        refine Tri.seq ?_
        obtain ⟨hkr, h⟩ := ck h
        refine Tri.reg (l := [0, 1]) rfl ?_
        refine F.q rfl rfl rfl (wanted_none rfl) (r_move rfl) ?_
        refine F.q rfl rfl rfl (wanted_none rfl) (r_assign rfl) ?_
        refine F.nil ?_
        refine Nrm.ex (refJoin (p := 3) (q := 1) (js := [0, 2]) (xs := x5) rfl rfl habr hkr) ?_
        rintro _ ⟨Sjr, rfl⟩
        refine Nrm.seq ?_
        refine Tri.ret ?_
        cases h
        exact Rtn.body (.tmp rfl .nil) (fun w hw => ⟨_, _, rfl, ⟨Sjr, (len_map hl_w5), rfl⟩, Sep.pick (is := [0]) rfl rfl hw⟩)
  · obtain ⟨t12, h12, hE_1⟩ := bind_some hE_1
    obtain ⟨t13, h13, hE_1⟩ := bind_some hE_1
    refine Tri.drawT mixedT Sep.up [1, 2, 3, 4, 0, 5] [6, 7] (.q 1 (.q 2 (.q 3 (.q 4 (.alt 0 (.alt 5 .nil .stop) (.alt 5 (.alt 0 .nil .stop) .stop)))))) (by kernel_rfl) ?_
    refine T.q rfl rfl rfl (wanted_none rfl) (r_fieldAddr tf31_0 rfl) ?_
    refine T.q rfl rfl rfl (wanted_none rfl) (r_load ta3 rfl (fun w hw => cell_1 (box_cells (i := 0) rfl w hw) rfl)) ?_
    refine T.q rfl rfl rfl (wanted_none rfl) (r_move rfl) ?_
    refine T.qc rfl rfl rfl (wanted_none rfl) (q_callF (xs := _) rfl ok107 rfl rfl (fun w hw => spec_l2Many.ok h12 w )) ?_
    refine T.ef rfl rfl rfl (wanted_none rfl) (Makes.does (m_build0 (α := List Int) Try.underlying95 ti23)) (by rintro v8_2 _ ⟨S8_2, hl_v8_2, rfl⟩; exact upd rfl [1] rfl rfl) ?_ ?_
    · rintro v8_2 _ ⟨S8_2, hl_v8_2, rfl⟩
      refine T.ef rfl rfl rfl (wanted_none rfl) (Makes.does (m_callF (xs := _) rfl ok108 rfl rfl (fun w hw => spec_l9All.ok h13 w ))) (by rintro v13_2 _ ⟨_, ⟨S13_2, hl_v13_2, rfl⟩, rfl⟩; exact upd rfl [2] rfl rfl) ?_ ?_
      · rintro v13_2 _ ⟨_, ⟨S13_2, hl_v13_2, rfl⟩, rfl⟩
        refine T.nil ?_
        refine F.q rfl rfl rfl (wanted_none rfl) (r_assign rfl) ?_
        refine F.q rfl rfl rfl (wanted_none rfl) (r_assign rfl) ?_
        refine F.nil ?_
        cases hE_1
        refine Nrm.only [1, 2, 5, 6] rfl ?_
        refine Nrm.pick [2, 1, 0] rfl rfl ?_
        exact hj_1 _ _ ⟨v8_2, S8_2, v13_2, S13_2, hl_v8_2, hl_v13_2, rfl, rfl⟩
      exact T.stop
    · refine T.ef rfl rfl rfl (wanted_none rfl) (Makes.does (m_callF (xs := _) rfl ok108 rfl rfl (fun w hw => spec_l9All.ok h13 w ))) (by rintro v13_3 _ ⟨_, ⟨S13_3, hl_v13_3, rfl⟩, rfl⟩; exact upd rfl [1] rfl rfl) ?_ ?_
      · rintro v13_3 _ ⟨_, ⟨S13_3, hl_v13_3, rfl⟩, rfl⟩
        refine T.ef rfl rfl rfl (wanted_none rfl) (Makes.does (m_build0 (α := List Int) Try.underlying95 ti23)) (by rintro v8_3 _ ⟨S8_3, hl_v8_3, rfl⟩; exact upd rfl [2] rfl rfl) ?_ ?_
        · rintro v8_3 _ ⟨S8_3, hl_v8_3, rfl⟩
          refine T.nil ?_
          refine F.q rfl rfl rfl (wanted_none rfl) (r_assign rfl) ?_
          refine F.q rfl rfl rfl (wanted_none rfl) (r_assign rfl) ?_
          refine F.nil ?_
          cases hE_1
          refine Nrm.only [1, 2, 5, 6] rfl ?_
          refine Nrm.pick [2, 0, 1] rfl rfl ?_
          exact hj_1 _ _ ⟨v8_3, S8_3, v13_3, S13_3, hl_v8_3, hl_v13_3, rfl, rfl⟩
        exact T.stop
      exact T.stop

end Go.Proofs

/- loop.example/g01158/spec.l9Place -/

namespace Go.Proofs
open Go Go.Ga
set_option linter.unusedVariables false
set_option maxRecDepth 100000
set_option maxHeartbeats 4000000
def spec_l9Place.l0 (k : Nat) (a0 : List Int) (a1 : Int) : Nat → Int → Option (Int)
  | 0, _ => none
  | n + 1, x5 => (rdl a0 x5).bind fun t8 => (if (t8 != a1) = true then spec_l9Place.l0 k a0 a1 n (w64 (x5 + 1)) else some x5)

def spec_l9Place.f (k : Nat) (a0 : List Int) (a1 : Int) : Option (Int) := (spec_l9Place.l0 k a0 a1 k 0).bind fun x5 => some x5

theorem spec_l9Place.ok {k : Nat}  {a0 : List Int} {a1 : Int} {r0 : Int} (h : spec_l9Place.f k a0 a1 = some r0) (w : World) {va0 : Value} (hr_a0 : Rd w va0 a0) :
    Calls Try.prog 77 ([va0, .int .i64 a1] : List Value).toArray w (fun e w' => e = .returned (.int .i64 r0) ∧ Ext w w') := by
  unfold spec_l9Place.f at h
  have hl_va0 := hr_a0.len
  refine Calls.of_tri (N := 15) Try.func77 rfl rfl rfl (Sep.nil (M := noM)) ?_
  refine Tri.seq ?_
  refine Tri.reg (l := [0]) rfl ?_
  refine F.q rfl rfl rfl (wanted_none rfl) (r_assign rfl) ?_
  refine F.nil ?_
  refine Nrm.seq ?_
  refine Tri.seq ?_
  refine Tri.reg (l := [0]) rfl ?_
  refine F.q rfl rfl rfl (wanted_none rfl) (r_assign rfl) ?_
  refine F.nil ?_
  refine Nrm.seq ?_
  refine Tri.seq ?_
  obtain ⟨x5, hE_1, h⟩ := bind_some h
  refine Tri.block ?_
  refine Tri.only [0, 1, 5] rfl ?_
  refine Tri.pick [] rfl rfl ?_
  refine Tri.rounds (fun n e' C' => ∃ (x5' : Int), spec_l9Place.l0 k a0 a1 n x5' = some x5 ∧ e' = [(0, va0), (1, .int .i64 a1), (5, .int .i64 x5')] ∧ C' = Sep w noM []) k ?_ ?_ ?_
  · exact ⟨0, hE_1, rfl, rfl⟩
  · rintro _ _ ⟨_, hE_1, _⟩
    rw [spec_l9Place.l0.eq_1] at hE_1; cases hE_1
  · rintro n_1 _ _ ⟨x5, hE_1, rfl, rfl⟩ ih_1
    rw [spec_l9Place.l0.eq_2] at hE_1
    refine Tri.seq ?_
    refine Tri.seq ?_
    obtain ⟨t8, h8, hE_1⟩ := bind_some hE_1
    refine Tri.reg (l := [0, 1, 2, 3, 4, 5]) rfl ?_
    refine F.q rfl rfl rfl (wanted_none rfl) (r_move rfl) ?_
    refine F.q rfl rfl rfl (wanted_none rfl) (r_move rfl) ?_
    refine F.q rfl rfl rfl (wanted_none rfl) (r_indexAddrS Try.underlying23 ti3 rfl hl_va0 rfl (rdl_some h8).1 (rdl_some h8).2.1) ?_
    refine F.q rfl rfl rfl (wanted_none rfl) (r_load ta3 rfl (fun w hw => cell_0 (Rd.flat ((fun _ hw => hr_a0.sep hw) w hw) (rdl_some h8).2.2) rfl)) ?_
    refine F.q rfl rfl rfl (wanted_none rfl) (r_move rfl) ?_
    refine F.q rfl rfl rfl (wanted_none rfl) (r_neq rfl rfl) ?_
    refine F.nil ?_
    refine Nrm.seq ?_
    refine Tri.cond (b := t8 != a1) rfl (fun g_1 => ?_) (fun g_1 => ?_)
    · replace hE_1 := if_tt g_1 hE_1
      refine Tri.skip ?_
      refine Nrm.seq ?_
      refine Tri.block ?_
      refine Tri.reg (l := [0, 1, 2]) rfl ?_
      refine F.q rfl rfl rfl (wanted_none rfl) (r_move rfl) ?_
      refine F.q rfl rfl rfl (wanted_none rfl) (r_add rfl rfl) ?_
      refine F.q rfl rfl rfl (wanted_none rfl) (r_assign rfl) ?_
      refine F.nil ?_
      refine Nrm.block ?_
      refine Nrm.round ?_
      refine Rnd.only [0, 1, 5] rfl ?_
      refine Rnd.pick [] rfl rfl ?_
      exact ih_1 _ _ ⟨w64 (x5 + 1), hE_1, rfl, rfl⟩
    · replace hE_1 := if_ff g_1 hE_1
      refine Tri.exit ?_
      refine Exi.then ?_
      refine Exi.then ?_
      refine Exi.same ?_
      cases hE_1
      refine Nrm.seq ?_
      refine Tri.seq ?_
      refine Tri.reg (l := [0, 1]) rfl ?_
      refine F.q rfl rfl rfl (wanted_none rfl) (r_move rfl) ?_
      refine F.q rfl rfl rfl (wanted_none rfl) (r_assign rfl) ?_
      refine F.nil ?_
      refine Nrm.seq ?_
      refine Tri.ret ?_
      cases h
      exact Rtn.body (.tmp rfl .nil) (fun w hw => ⟨rfl, hw.ext⟩)

end Go.Proofs

/- loop.example/g01158/spec.NodeCounts -/
namespace Go.Proofs
open Go Go.Ga
set_option linter.unusedVariables false
set_option maxRecDepth 100000
set_option maxHeartbeats 4000000
def spec_NodeCounts.l0 (k : Nat) (t33 : Int) : Nat → (List (Int)) → (List (List Int)) → Int → Option ((List (Int)))
  | 0, _, _, _ => none
  | n + 1, x8, x9, x11 => (if (decide (x11 < (x9.length : Int))) = true then (rdl (x9 : List (List Int)) x11).bind fun t43 => (rdl t43 t33).bind fun t46 => (rdl x8 t46).bind fun t48 => (rdl x8 t46).bind fun t51 => spec_NodeCounts.l0 k t33 n (x8.set t46.toNat (w64 (t48 + 1))) ((x9 : List (List Int)).set (x11).toNat t43) (w64 (x11 + 1)) else some x8)

def spec_NodeCounts.f (k : Nat) (a0_0 : Int) (a0_1 : List (Int × Int × Int)) (a0_2 : List Int) (a1 : Int) (a2 : Int) : Option ((List Int) × Bool) := ((spec_l9Few.f k a0_0 a0_1 a0_2 a1).bind fun t14 => (if (!t14) = true then some true else (spec_l2Colours.f k a1).bind fun t18 => (spec_l1Has.f k t18 a2).bind fun t20 => some (!t20))).bind fun y22 => (if y22 = true then some (([] : List (Int)), false) else (if 0 ≤ a0_0 ∧ a0_0 < 1099511627776 then (spec_l9Winning.f k a0_0 a0_1 a0_2 a1).bind fun t29 => some (List.replicate (a0_0).toNat (0 : Int), t29) else none).bind fun (y8, y9) => (spec_l2Colours.f k a1).bind fun t31 => (spec_l9Place.f k t31 a2).bind fun t33 => (spec_NodeCounts.l0 k t33 k y8 y9 0).bind fun x8 => some (x8, true))

theorem spec_NodeCounts.ok {k : Nat}  {a0_0 : Int} {a0_1 : List (Int × Int × Int)} {a0_2 : List Int} {a1 : Int} {a2 : Int} {r0 : List Int} {r1 : Bool} (h : spec_NodeCounts.f k a0_0 a0_1 a0_2 a1 a2 = some (r0, r1)) (w : World) {va0_1 : Value} {va0_2 : Value} (hr_a0_1 : Rd w va0_1 a0_1) (hr_a0_2 : Rd w va0_2 a0_2) :
    Calls Try.prog 37 ([.agg ([.int .i64 a0_0, va0_1, va0_2].toArray), .int .i64 a1, .int .i64 a2] : List Value).toArray w (Post (fun u ns => ∃ (ur0 : Value) (Sr0 : Nat → Prop), u = .tuple #[ur0, .bool r1] ∧ SlLen ur0 r0.length ∧ ns = [R.sl Sr0 ur0 r0]) w) := by
  unfold spec_NodeCounts.f at h
  have hl_va0_1 := hr_a0_1.len
  have hl_va0_2 := hr_a0_2.len
  refine Calls.of_tri (N := 53) Try.func37 rfl rfl rfl (Sep.nil (M := noM)) ?_
  refine Tri.seq ?_
  refine Tri.reg (l := [0, 1, 2]) rfl ?_
  refine F.m rfl rfl rfl (wanted_none rfl) (m_boxG rfl rfl) ?_
  rintro _ _ ⟨b3_1, rfl, rfl⟩
  refine F.q rfl rfl rfl (wanted_none rfl) (r_assign rfl) ?_
  refine F.q rfl rfl rfl (wanted_none rfl) (r_assign rfl) ?_
  refine F.nil ?_
  refine Nrm.seq ?_
  refine Tri.seq ?_
  refine Tri.seq ?_
  obtain ⟨y22, hE_1, h⟩ := bind_some h
  refine Tri.cut (fun e' C' => e' = [(1, .int .i64 a1), (2, .int .i64 a2), (3, .pointer (some ⟨b3_1, 0, none⟩)), (22, .bool y22)] ∧ C' = Sep w noM [R.box b3_1 31 [.int .i64 a0_0, va0_1, va0_2]]) ?_ (fun hj_1 => ?_)
  · rintro _ _ ⟨rfl, rfl⟩
    refine Nrm.seq ?_
    refine Tri.cond (b := y22) rfl (fun g_1 => ?_) (fun g_1 => ?_)
    · replace h := if_tt g_1 h
      refine Tri.seq ?_
      refine Tri.reg (l := [0, 1, 2]) rfl ?_
      refine F.m rfl rfl rfl (wanted_none rfl) (m_build0 (α := Int) Try.underlying23 ti3) ?_
      rintro v23_1 _ ⟨S23_1, hl_v23_1, rfl⟩
      refine F.q rfl rfl rfl (wanted_none rfl) (r_assign rfl) ?_
      refine F.q rfl rfl rfl (wanted_none rfl) (r_assign rfl) ?_
      refine F.nil ?_
      refine Nrm.seq ?_
      refine Tri.ret ?_
      refine Rtn.then ?_
      cases h
      exact Rtn.body (.tmp rfl (.tmp rfl .nil)) (fun w hw => ⟨_, _, rfl, ⟨v23_1, S23_1, rfl, hl_v23_1, rfl⟩, Sep.pick (is := [0]) rfl rfl hw⟩)
    · replace h := if_ff g_1 h
      refine Tri.skip ?_
      refine Nrm.seq ?_
      refine Tri.seq ?_
      obtain ⟨⟨y8, y9⟩, hE_2, h⟩ := bind_some h
      refine Tri.cut (fun e' C' => ∃ (v8_1 : Value) (S8_1 : Nat → Prop) (v9_1 : Value) (S9_1 : Nat → Prop), SlLen v8_1 (y8).length ∧ SlLen v9_1 (y9).length ∧ e' = [(1, .int .i64 a1), (2, .int .i64 a2), (8, v8_1), (9, v9_1)] ∧ C' = Sep w noM [R.sl S8_1 v8_1 (y8 : List (Int)), R.sl S9_1 v9_1 (y9 : List (List Int))]) ?_ (fun hj_2 => ?_)
      · rintro _ _ ⟨v8_1, S8_1, v9_1, S9_1, hl_v8_1, hl_v9_1, rfl, rfl⟩
        refine Nrm.seq ?_
        refine Tri.seq ?_
        obtain ⟨t31, h31, h⟩ := bind_some h
        obtain ⟨t33, h33, h⟩ := bind_some h
        refine Tri.reg (l := [0, 1, 2, 3, 4]) rfl ?_
        refine F.q rfl rfl rfl (wanted_none rfl) (r_move rfl) ?_
        refine F.m rfl rfl rfl (wanted_none rfl) (m_callF (xs := _) rfl ok62 rfl rfl (fun w hw => spec_l2Colours.ok h31 w )) ?_
        rintro v31_1 _ ⟨_, ⟨S31_1, hl_v31_1, rfl⟩, rfl⟩
        refine F.q rfl rfl rfl (wanted_none rfl) (r_move rfl) ?_
        refine F.qc rfl rfl rfl (wanted_none rfl) (q_callF (xs := _) rfl ok77 rfl rfl (fun w hw => spec_l9Place.ok h33 w ((rd_sl (i := 0) rfl) w hw))) ?_
        refine F.q rfl rfl rfl (wanted_none rfl) (r_assign rfl) ?_
        refine F.nil ?_
        refine Nrm.seq ?_
        refine Tri.seq ?_
        refine Tri.seq ?_
        refine Tri.reg (l := [0]) rfl ?_
        refine F.q rfl rfl rfl (wanted_none rfl) (r_assign rfl) ?_
        refine F.nil ?_
        refine Nrm.seq ?_
        obtain ⟨x8, hE_3, h⟩ := bind_some h
        refine Tri.block ?_
        refine Tri.only [8, 9, 10, 11] rfl ?_
        refine Tri.pick [1, 2] rfl rfl ?_
        refine Tri.rounds (fun n e' C' => ∃ (x8' : List (Int)) (x9' : List (List Int)) (x11' : Int), spec_NodeCounts.l0 k t33 n x8' x9' x11' = some x8 ∧ SlLen v8_1 (x8').length ∧ SlLen v9_1 (x9').length ∧ e' = [(8, v8_1), (9, v9_1), (10, .int .i64 t33), (11, .int .i64 x11')] ∧ C' = Sep w noM [R.sl S8_1 v8_1 (x8' : List (Int)), R.sl S9_1 v9_1 (x9' : List (List Int))]) k ?_ ?_ ?_
        · exact ⟨y8, y9, 0, hE_3, hl_v8_1, hl_v9_1, rfl, rfl⟩
        · rintro _ _ ⟨_, _, _, hE_3, _⟩
          rw [spec_NodeCounts.l0.eq_1] at hE_3; cases hE_3
        · rintro n_1 _ _ ⟨x8, x9, x11, hE_3, hl_x8, hl_x9, rfl, rfl⟩ ih_1
          rw [spec_NodeCounts.l0.eq_2] at hE_3
          refine Tri.seq ?_
          refine Tri.seq ?_
          refine Tri.reg (l := [0, 1, 2, 3]) rfl ?_
          refine F.q rfl rfl rfl (wanted_none rfl) (r_move rfl) ?_
          refine F.q rfl rfl rfl (wanted_none rfl) (r_move rfl) ?_
          refine F.q rfl rfl rfl (wanted_none rfl) (r_len Try.underlying95 rfl hl_x9) ?_
          refine F.q rfl rfl rfl (wanted_none rfl) (r_lss rfl rfl) ?_
          refine F.nil ?_
          refine Nrm.seq ?_
          refine Tri.cond (b := decide (x11 < (x9.length : Int))) rfl (fun g_2 => ?_) (fun g_2 => ?_)
          · replace hE_3 := if_tt g_2 hE_3
            refine Tri.skip ?_
            refine Nrm.seq ?_
            refine Tri.seq ?_
            refine Tri.block ?_
            obtain ⟨t43, h43, hE_3⟩ := bind_some hE_3
            obtain ⟨t46, h46, hE_3⟩ := bind_some hE_3
            obtain ⟨t48, h48, hE_3⟩ := bind_some hE_3
            obtain ⟨t51, h51, hE_3⟩ := bind_some hE_3
            refine Tri.ex (on23 [1] [0] rfl rfl (rdl_some h43).2.2) ?_
            rintro _ ⟨v43_0_1, S43_0_1, Sr43_1, hl_v43_0_1, hS43_1, rfl⟩
            refine Tri.reg (l := [0, 1, 2, 3, 4, 5, 6, 7, 8, 9, 10, 11, 12]) rfl ?_
            refine F.q rfl rfl rfl (wanted_none rfl) (r_move rfl) ?_
            refine F.q rfl rfl rfl (wanted_none rfl) (r_move rfl) ?_
            refine F.q rfl rfl rfl (wanted_none rfl) (r_move rfl) ?_
            refine F.q rfl rfl rfl (wanted_none rfl) (r_indexAddrS Try.underlying95 ti23 rfl hl_x9 rfl (rdl_some h43).1 (rdl_some h43).2.1) ?_
            refine F.q rfl rfl rfl (wanted_none rfl) (r_load ta23 rfl (fun w hw => cell_0 (hole_cells (p := 1) rfl w hw) rfl)) ?_
            refine F.q rfl rfl rfl (wanted_none rfl) (r_move rfl) ?_
            refine F.q rfl rfl rfl (wanted_none rfl) (r_indexAddrS Try.underlying23 ti3 rfl hl_v43_0_1 rfl (rdl_some h46).1 (rdl_some h46).2.1) ?_
            refine F.q rfl rfl rfl (wanted_none rfl) (r_load ta3 rfl (fun w hw => cell_0 (Rd.flat ((rd_sl (i := 0) rfl) w hw) (rdl_some h46).2.2) rfl)) ?_
            refine F.q rfl rfl rfl (wanted_none rfl) (r_indexAddrS Try.underlying23 ti3 rfl hl_x8 rfl (rdl_some h48).1 (rdl_some h48).2.1) ?_
            refine F.q rfl rfl rfl (wanted_none rfl) (r_load ta3 rfl (fun w hw => cell_0 (Rd.flat ((rd_sl (i := 2) rfl) w hw) (rdl_some h48).2.2) rfl)) ?_
            refine F.q rfl rfl rfl (wanted_none rfl) (r_add rfl rfl) ?_
            refine F.q rfl rfl rfl (wanted_none rfl) (r_indexAddrS Try.underlying23 ti3 rfl hl_x8 rfl (rdl_some h51).1 (rdl_some h51).2.1) ?_
            refine F.ef0 rfl rfl (wanted_none rfl) (d_storeE (i := 2) (x1 := w64 (t48 + 1)) ti3 rfl rfl rfl (rdl_some h51) rfl) ?_
            rintro _ _ ⟨rfl, rfl⟩
            refine F.nil ?_
            refine Nrm.imp (cloS1 (cs := [R.sl S43_0_1 v43_0_1 (t43 : List (Int))]) (rest := [R.sl S8_1 v8_1 (x8.set t46.toNat (w64 (t48 + 1)) : List (Int))]) [0, 1] [2] rfl rfl (jn_sl (S := S43_0_1) (v := v43_0_1) (l := (t43 : List (Int)))) hS43_1) ?_
            refine Nrm.block ?_
            refine Nrm.seq ?_
            refine Tri.reg (l := [0, 1, 2]) rfl ?_
            refine F.q rfl rfl rfl (wanted_none rfl) (r_move rfl) ?_
            refine F.q rfl rfl rfl (wanted_none rfl) (r_add rfl rfl) ?_
            refine F.q rfl rfl rfl (wanted_none rfl) (r_assign rfl) ?_
            refine F.nil ?_
            refine Nrm.round ?_
            refine Rnd.only [8, 9, 10, 11] rfl ?_
            refine Rnd.pick [1, 0] rfl rfl ?_
            exact ih_1 _ _ ⟨x8.set t46.toNat (w64 (t48 + 1)), (x9 : List (List Int)).set (x11).toNat t43, w64 (x11 + 1), hE_3, (len_set hl_x8), (len_set hl_x9), rfl, rfl⟩
          · replace hE_3 := if_ff g_2 hE_3
            refine Tri.exit ?_
            refine Exi.then ?_
            refine Exi.then ?_
            refine Exi.same ?_
            cases hE_3
            refine Nrm.seq ?_
            refine Tri.seq ?_
            refine Tri.reg (l := [0, 1, 2]) rfl ?_
            refine F.q rfl rfl rfl (wanted_none rfl) (r_move rfl) ?_
            refine F.q rfl rfl rfl (wanted_none rfl) (r_assign rfl) ?_
            refine F.q rfl rfl rfl (wanted_none rfl) (r_assign rfl) ?_
            refine F.nil ?_
            refine Nrm.seq ?_
            refine Tri.ret ?_
            cases h
            exact Rtn.body (.tmp rfl (.tmp rfl .nil)) (fun w hw => ⟨_, _, rfl, ⟨v8_1, S8_1, rfl, hl_x8, rfl⟩, Sep.pick (is := [0]) rfl rfl hw⟩)
      · obtain ⟨hm26, hE_2⟩ := ck hE_2
        obtain ⟨t29, h29, hE_2⟩ := bind_some hE_2
        refine Tri.drawT mixedT Sep.up [0, 1, 3, 4, 2, 5] [6, 7] (.q 0 (.q 1 (.q 3 (.q 4 (.alt 2 (.alt 5 .nil .stop) (.alt 5 (.alt 2 .nil .stop) .stop)))))) (by kernel_rfl) ?_
        refine T.q rfl rfl rfl (wanted_none rfl) (r_fieldAddr tf31_0 rfl) ?_
        refine T.q rfl rfl rfl (wanted_none rfl) (r_load ta3 rfl (fun w hw => cell_1 (box_cells (i := 0) rfl w hw) rfl)) ?_
        refine T.q rfl rfl rfl (wanted_none rfl) (r_loadA ta31 ti31 rfl rfl (fun w hw => (box_cells (i := 0) rfl w hw))) ?_
        refine T.q rfl rfl rfl (wanted_none rfl) (r_move rfl) ?_
        refine T.ef rfl rfl rfl (wanted_none rfl) (Makes.does (m_make (x0 := (0 : Int)) Try.underlying23 ti3 rfl rfl rfl hm26.1 hm26.2 (by decide))) (by rintro v26_2 _ ⟨S26_2, hl_v26_2, rfl⟩; exact upd rfl [1] rfl rfl) ?_ ?_
        · rintro v26_2 _ ⟨S26_2, hl_v26_2, rfl⟩
          refine T.ef rfl rfl rfl (wanted_none rfl) (Makes.does (m_callF (xs := _) rfl ok74 rfl rfl (fun w hw => spec_l9Winning.ok h29 w ((fun _ hw => hr_a0_1.sep hw) w hw) ((fun _ hw => hr_a0_2.sep hw) w hw)))) (by rintro v29_2 _ ⟨_, ⟨S29_2, hl_v29_2, rfl⟩, rfl⟩; exact upd rfl [2] rfl rfl) ?_ ?_
          · rintro v29_2 _ ⟨_, ⟨S29_2, hl_v29_2, rfl⟩, rfl⟩
            refine T.nil ?_
            refine F.q rfl rfl rfl (wanted_none rfl) (r_assign rfl) ?_
            refine F.q rfl rfl rfl (wanted_none rfl) (r_assign rfl) ?_
            refine F.nil ?_
            cases hE_2
            refine Nrm.only [1, 2, 8, 9] rfl ?_
            refine Nrm.pick [1, 0] rfl rfl ?_
            exact hj_2 _ _ ⟨v26_2, S26_2, v29_2, S29_2, hl_v26_2, hl_v29_2, rfl, rfl⟩
          exact T.stop
        · refine T.ef rfl rfl rfl (wanted_none rfl) (Makes.does (m_callF (xs := _) rfl ok74 rfl rfl (fun w hw => spec_l9Winning.ok h29 w ((fun _ hw => hr_a0_1.sep hw) w hw) ((fun _ hw => hr_a0_2.sep hw) w hw)))) (by rintro v29_3 _ ⟨_, ⟨S29_3, hl_v29_3, rfl⟩, rfl⟩; exact upd rfl [1] rfl rfl) ?_ ?_
          · rintro v29_3 _ ⟨_, ⟨S29_3, hl_v29_3, rfl⟩, rfl⟩
            refine T.ef rfl rfl rfl (wanted_none rfl) (Makes.does (m_make (x0 := (0 : Int)) Try.underlying23 ti3 rfl rfl rfl hm26.1 hm26.2 (by decide))) (by rintro v26_3 _ ⟨S26_3, hl_v26_3, rfl⟩; exact upd rfl [2] rfl rfl) ?_ ?_
            · rintro v26_3 _ ⟨S26_3, hl_v26_3, rfl⟩
              refine T.nil ?_
              refine F.q rfl rfl rfl (wanted_none rfl) (r_assign rfl) ?_
              refine F.q rfl rfl rfl (wanted_none rfl) (r_assign rfl) ?_
              refine F.nil ?_
              cases hE_2
              refine Nrm.only [1, 2, 8, 9] rfl ?_
              refine Nrm.pick [0, 1] rfl rfl ?_
              exact hj_2 _ _ ⟨v26_3, S26_3, v29_3, S29_3, hl_v26_3, hl_v29_3, rfl, rfl⟩
            exact T.stop
          exact T.stop
  · obtain ⟨t14, h14, hE_1⟩ := bind_some hE_1
    rcases Bool.eq_false_or_eq_true (!t14) with g16 | g16
    · replace hE_1 := if_tt g16 hE_1
      refine Tri.reg (l := [0, 1, 2, 3, 4, 5, 6, 7, 8, 9, 10]) rfl ?_
      refine F.q rfl rfl rfl (wanted_none rfl) (r_loadA ta31 ti31 rfl rfl (fun w hw => (box_cells (i := 0) rfl w hw))) ?_
      refine F.q rfl rfl rfl (wanted_none rfl) (r_move rfl) ?_
      refine F.qc rfl rfl rfl (wanted_none rfl) (q_callF (xs := _) rfl ok73 rfl rfl (fun w hw => spec_l9Few.ok h14 w ((fun _ hw => hr_a0_1.sep hw) w hw) ((fun _ hw => hr_a0_2.sep hw) w hw))) ?_
      refine F.q rfl rfl rfl (wanted_none rfl) (r_not rfl) ?_
      refine F.q rfl rfl rfl (wanted_none rfl) (r_move rfl) ?_
      refine F.sk rfl rfl rfl (wf rfl rfl rfl g16) ?_
      refine F.sk rfl rfl rfl (wf rfl rfl rfl g16) ?_
      refine F.sk rfl rfl rfl (wf rfl rfl rfl g16) ?_
      refine F.sk rfl rfl rfl (wf rfl rfl rfl g16) ?_
      refine F.sk rfl rfl rfl (wf rfl rfl rfl g16) ?_
      refine F.q rfl rfl rfl (wanted_none rfl) (r_pick rfl rfl g16) ?_
      refine F.nil ?_
      cases hE_1
      refine Nrm.only [1, 2, 3, 22] rfl ?_
      refine Nrm.pick [0] rfl rfl ?_
      exact hj_1 _ _ ⟨rfl, rfl⟩
    · replace hE_1 := if_ff g16 hE_1
      obtain ⟨t18, h18, hE_1⟩ := bind_some hE_1
      obtain ⟨t20, h20, hE_1⟩ := bind_some hE_1
      refine Tri.reg (l := [0, 1, 2, 3, 4, 5, 6, 7, 8, 9, 10]) rfl ?_
      refine F.q rfl rfl rfl (wanted_none rfl) (r_loadA ta31 ti31 rfl rfl (fun w hw => (box_cells (i := 0) rfl w hw))) ?_
      refine F.q rfl rfl rfl (wanted_none rfl) (r_move rfl) ?_
      refine F.qc rfl rfl rfl (wanted_none rfl) (q_callF (xs := _) rfl ok73 rfl rfl (fun w hw => spec_l9Few.ok h14 w ((fun _ hw => hr_a0_1.sep hw) w hw) ((fun _ hw => hr_a0_2.sep hw) w hw))) ?_
      refine F.q rfl rfl rfl (wanted_none rfl) (r_not rfl) ?_
      refine F.q rfl rfl rfl (wanted_none rfl) (r_move rfl) ?_
      refine F.q rfl rfl rfl (wg rfl rfl rfl g16) (r_move rfl) ?_
      refine F.m rfl rfl rfl (wg rfl rfl rfl g16) (m_callF (xs := _) rfl ok62 rfl rfl (fun w hw => spec_l2Colours.ok h18 w )) ?_
      rintro v18_1 _ ⟨_, ⟨S18_1, hl_v18_1, rfl⟩, rfl⟩
      refine F.q rfl rfl rfl (wg rfl rfl rfl g16) (r_move rfl) ?_
      refine F.qc rfl rfl rfl (wg rfl rfl rfl g16) (q_callF (xs := _) rfl ok76 rfl rfl (fun w hw => spec_l1Has.ok h20 w ((rd_sl (i := 0) rfl) w hw))) ?_
      refine F.q rfl rfl rfl (wg rfl rfl rfl g16) (r_not rfl) ?_
      refine F.q rfl rfl rfl (wanted_none rfl) (r_pickf rfl rfl g16) ?_
      refine F.nil ?_
      cases hE_1
      refine Nrm.only [1, 2, 3, 22] rfl ?_
      refine Nrm.pick [1] rfl rfl ?_
      exact hj_1 _ _ ⟨rfl, rfl⟩

end Go.Proofs

/- loop.example/g01158/impl.members -/

namespace Go.Proofs
open Go Go.Ga
set_option linter.unusedVariables false
set_option maxRecDepth 100000
set_option maxHeartbeats 4000000
def impl_members.l0 (k : Nat) (a0 : Int) : Nat → (List (Int)) → Int → Option ((List (Int)))
  | 0, _, _ => none
  | n + 1, x3, x4 => if ¬ x4 < 0 then (if (decide ((shr a0 x4) > 0)) = true then if ¬ x4 < 0 then ((if ((band (shr a0 x4) 1) == 1) = true then if (x3 ++ ([x4] : List (Int))).length < 1099511627776 then some (x3 ++ ([x4] : List (Int))) else none else some x3)).bind fun y3 => impl_members.l0 k a0 n y3 (w64 (x4 + 1)) else none else some x3) else none

def impl_members.f (k : Nat) (a0 : Int) : Option ((List Int)) := (impl_members.l0 k a0 k ([] : List (Int)) 0).bind fun x3 => some x3

theorem impl_members.ok {k : Nat}  {a0 : Int} {r0 : List Int} (h : impl_members.f k a0 = some r0) (w : World) :
    Calls Try.prog 68 ([.int .i64 a0] : List Value).toArray w (Post (fun u ns => ∃ (Sr0 : Nat → Prop), SlLen u r0.length ∧ ns = [R.sl Sr0 u r0]) w) := by
  unfold impl_members.f at h
  refine Calls.of_tri (N := 22) Try.func68 rfl rfl rfl (Sep.nil (M := noM)) ?_
  refine Tri.seq ?_
  refine Tri.reg (l := [0]) rfl ?_
  refine F.q rfl rfl rfl (wanted_none rfl) (r_assign rfl) ?_
  refine F.nil ?_
  refine Nrm.seq ?_
  refine Tri.seq ?_
  refine Tri.reg (l := [0, 1]) rfl ?_
  refine F.m rfl rfl rfl (wanted_none rfl) (m_build0 (α := Int) Try.underlying23 ti3) ?_
  rintro v5_1 _ ⟨S5_1, hl_v5_1, rfl⟩
  refine F.q rfl rfl rfl (wanted_none rfl) (r_assign rfl) ?_
  refine F.nil ?_
  refine Nrm.seq ?_
  refine Tri.seq ?_
  refine Tri.seq ?_
  refine Tri.reg (l := [0]) rfl ?_
  refine F.q rfl rfl rfl (wanted_none rfl) (r_assign rfl) ?_
  refine F.nil ?_
  refine Nrm.seq ?_
  obtain ⟨x3, hE_1, h⟩ := bind_some h
  refine Tri.block ?_
  refine Tri.only [0, 3, 4] rfl ?_
  refine Tri.pick [0] rfl rfl ?_
  refine Tri.rounds (fun n e' C' => ∃ (x3' : List (Int)) (x4' : Int) (w3 : Value) (T3 : Nat → Prop), impl_members.l0 k a0 n x3' x4' = some x3 ∧ SlLen w3 (x3').length ∧ e' = [(0, .int .i64 a0), (3, w3), (4, .int .i64 x4')] ∧ C' = Sep w noM [R.sl T3 w3 (x3' : List (Int))]) k ?_ ?_ ?_
  · exact ⟨([] : List (Int)), 0, v5_1, S5_1, hE_1, hl_v5_1, rfl, rfl⟩
  · rintro _ _ ⟨_, _, _, _, hE_1, _⟩
    rw [impl_members.l0.eq_1] at hE_1; cases hE_1
  · rintro n_1 _ _ ⟨x3, x4, w3, T3, hE_1, hl_w3, rfl, rfl⟩ ih_1
    rw [impl_members.l0.eq_2] at hE_1
    refine Tri.seq ?_
    refine Tri.seq ?_
    obtain ⟨hs8, hE_1⟩ := ck hE_1
    refine Tri.reg (l := [0, 1, 2, 3]) rfl ?_
    refine F.q rfl rfl rfl (wanted_none rfl) (r_move rfl) ?_
    refine F.q rfl rfl rfl (wanted_none rfl) (r_move rfl) ?_
    refine F.q rfl rfl rfl (wanted_none rfl) (r_shr rfl rfl hs8) ?_
    refine F.q rfl rfl rfl (wanted_none rfl) (r_gtr rfl rfl) ?_
    refine F.nil ?_
    refine Nrm.seq ?_
    refine Tri.cond (b := decide ((shr a0 x4) > 0)) rfl (fun g_1 => ?_) (fun g_1 => ?_)
    · replace hE_1 := if_tt g_1 hE_1
      refine Tri.skip ?_
      refine Nrm.seq ?_
      refine Tri.seq ?_
      refine Tri.block ?_
      refine Tri.seq ?_
      obtain ⟨hs14, hE_1⟩ := ck hE_1
      refine Tri.reg (l := [0, 1, 2, 3, 4]) rfl ?_
      refine F.q rfl rfl rfl (wanted_none rfl) (r_move rfl) ?_
      refine F.q rfl rfl rfl (wanted_none rfl) (r_move rfl) ?_
      refine F.q rfl rfl rfl (wanted_none rfl) (r_shr rfl rfl hs14) ?_
      refine F.q rfl rfl rfl (wanted_none rfl) (r_and rfl rfl) ?_
      refine F.q rfl rfl rfl (wanted_none rfl) (r_eql rfl rfl) ?_
      refine F.nil ?_
      refine Nrm.seq ?_
      obtain ⟨y3, hE_2, hE_1⟩ := bind_some hE_1
      refine Tri.cut (fun e' C' => ∃ (v3_1 : Value) (S3_1 : Nat → Prop), SlLen v3_1 (y3).length ∧ e' = [(0, .int .i64 a0), (3, v3_1), (4, .int .i64 x4)] ∧ C' = Sep w noM [R.sl S3_1 v3_1 (y3 : List (Int))]) ?_ (fun hj_1 => ?_)
      · rintro _ _ ⟨v3_1, S3_1, hl_v3_1, rfl, rfl⟩
        refine Nrm.block ?_
        refine Nrm.seq ?_
        refine Tri.reg (l := [0, 1, 2]) rfl ?_
        refine F.q rfl rfl rfl (wanted_none rfl) (r_move rfl) ?_
        refine F.q rfl rfl rfl (wanted_none rfl) (r_add rfl rfl) ?_
        refine F.q rfl rfl rfl (wanted_none rfl) (r_assign rfl) ?_
        refine F.nil ?_
        refine Nrm.round ?_
        refine Rnd.only [0, 3, 4] rfl ?_
        refine Rnd.pick [0] rfl rfl ?_
        exact ih_1 _ _ ⟨y3, w64 (x4 + 1), v3_1, S3_1, hE_1, hl_v3_1, rfl, rfl⟩
      · refine Tri.cond (b := (band (shr a0 x4) 1) == 1) rfl (fun g_2 => ?_) (fun g_2 => ?_)
        · replace hE_2 := if_tt g_2 hE_2
          obtain ⟨hs20, hE_2⟩ := ck hE_2
          refine Tri.reg (l := [0, 1, 2, 3, 4]) rfl ?_
          refine F.q rfl rfl rfl (wanted_none rfl) (r_move rfl) ?_
          refine F.q rfl rfl rfl (wanted_none rfl) (r_move rfl) ?_
          refine F.m rfl rfl rfl (wanted_none rfl) (m_buildF (l := ([x4] : List (Int))) Try.underlying23 ti3 rfl rfl rfl rfl rfl) ?_
          rintro v19_1 _ ⟨S19_1, hl_v19_1, rfl⟩
          refine F.ef rfl rfl rfl (wanted_none rfl) (d_append (i := 1) Try.underlying23 Try.underlying23 ti3 rfl (by decide) rfl rfl rfl (rd_sl (i := 0) rfl) hs20) ?_
          rintro v20_1 _ ⟨S20_1, rfl, hl_v20_1⟩
          refine F.q rfl rfl rfl (wanted_none rfl) (r_assign rfl) ?_
          refine F.nil ?_
          cases hE_2
          refine Nrm.only [0, 3, 4] rfl ?_
          refine Nrm.pick [1] rfl rfl ?_
          exact hj_1 _ _ ⟨v20_1, S20_1, hl_v20_1, rfl, rfl⟩
        · replace hE_2 := if_ff g_2 hE_2
          refine Tri.skip ?_
          cases hE_2
          refine Nrm.only [0, 3, 4] rfl ?_
          refine Nrm.pick [0] rfl rfl ?_
          exact hj_1 _ _ ⟨w3, T3, hl_w3, rfl, rfl⟩
    · replace hE_1 := if_ff g_1 hE_1
      refine Tri.exit ?_
      refine Exi.then ?_
      refine Exi.then ?_
      refine Exi.same ?_
      cases hE_1
      refine Nrm.seq ?_
      refine Tri.seq ?_
      refine Tri.reg (l := [0, 1]) rfl ?_
      refine F.q rfl rfl rfl (wanted_none rfl) (r_move rfl) ?_
      refine F.q rfl rfl rfl (wanted_none rfl) (r_assign rfl) ?_
      refine F.nil ?_
      refine Nrm.seq ?_
      refine Tri.ret ?_
      cases h
      exact Rtn.body (.tmp rfl .nil) (fun w hw => ⟨_, _, rfl, ⟨T3, hl_w3, rfl⟩, Sep.pick (is := [0]) rfl rfl hw⟩)

end Go.Proofs

/- loop.example/g01158/impl.within -/

namespace Go.Proofs
open Go Go.Ga
set_option linter.unusedVariables false
set_option maxRecDepth 100000
set_option maxHeartbeats 4000000
def impl_within.f (k : Nat) (a0 : Int) (a1 : Int) (a2 : Int) : Option (Bool) := ((if (decide (a1 ≤ a0)) = true then some (decide (a0 ≤ a2)) else some false)).bind fun y6 => some y6

theorem impl_within.ok {k : Nat}  {a0 : Int} {a1 : Int} {a2 : Int} {r0 : Bool} (h : impl_within.f k a0 a1 a2 = some r0) (w : World) :
    Calls Try.prog 92 ([.int .i64 a0, .int .i64 a1, .int .i64 a2] : List Value).toArray w (fun e w' => e = .returned (.bool r0) ∧ Ext w w') := by
  unfold impl_within.f at h
  refine Calls.of_tri (N := 15) Try.func92 rfl rfl rfl (Sep.nil (M := noM)) ?_
  refine Tri.seq ?_
  refine Tri.reg (l := [0]) rfl ?_
  refine F.q rfl rfl rfl (wanted_none rfl) (r_assign rfl) ?_
  refine F.nil ?_
  refine Nrm.seq ?_
  refine Tri.seq ?_
  obtain ⟨y6, hE_1, h⟩ := bind_some h
  refine Tri.cut (fun e' C' => e' = [(6, .bool y6)] ∧ C' = Sep w noM []) ?_ (fun hj_1 => ?_)
  · rintro _ _ ⟨rfl, rfl⟩
    refine Nrm.seq ?_
    refine Tri.ret ?_
    cases h
    exact Rtn.body (.tmp rfl .nil) (fun w hw => ⟨rfl, hw.ext⟩)
  · rcases Bool.eq_false_or_eq_true (decide (a1 ≤ a0)) with g10 | g10
    · replace hE_1 := if_tt g10 hE_1
      refine Tri.reg (l := [0, 1, 2, 3, 4, 5, 6, 7, 8]) rfl ?_
      refine F.q rfl rfl rfl (wanted_none rfl) (r_move rfl) ?_
      refine F.q rfl rfl rfl (wanted_none rfl) (r_move rfl) ?_
      refine F.q rfl rfl rfl (wanted_none rfl) (r_leq rfl rfl) ?_
      refine F.q rfl rfl rfl (wanted_none rfl) (r_move rfl) ?_
      refine F.q rfl rfl rfl (wg rfl rfl rfl g10) (r_move rfl) ?_
      refine F.q rfl rfl rfl (wg rfl rfl rfl g10) (r_move rfl) ?_
      refine F.q rfl rfl rfl (wg rfl rfl rfl g10) (r_leq rfl rfl) ?_
      refine F.q rfl rfl rfl (wanted_none rfl) (r_pick rfl rfl g10) ?_
      refine F.q rfl rfl rfl (wanted_none rfl) (r_assign rfl) ?_
      refine F.nil ?_
      cases hE_1
      refine Nrm.only [6] rfl ?_
      refine Nrm.pick [] rfl rfl ?_
      exact hj_1 _ _ ⟨rfl, rfl⟩
    · replace hE_1 := if_ff g10 hE_1
      refine Tri.reg (l := [0, 1, 2, 3, 4, 5, 6, 7, 8]) rfl ?_
      refine F.q rfl rfl rfl (wanted_none rfl) (r_move rfl) ?_
      refine F.q rfl rfl rfl (wanted_none rfl) (r_move rfl) ?_
      refine F.q rfl rfl rfl (wanted_none rfl) (r_leq rfl rfl) ?_
      refine F.q rfl rfl rfl (wanted_none rfl) (r_move rfl) ?_
      refine F.sk rfl rfl rfl (wf rfl rfl rfl g10) ?_
      refine F.sk rfl rfl rfl (wf rfl rfl rfl g10) ?_
      refine F.sk rfl rfl rfl (wf rfl rfl rfl g10) ?_
      refine F.q rfl rfl rfl (wanted_none rfl) (r_pickf rfl rfl g10) ?_
      refine F.q rfl rfl rfl (wanted_none rfl) (r_assign rfl) ?_
      refine F.nil ?_
      cases hE_1
      refine Nrm.only [6] rfl ?_
      refine Nrm.pick [] rfl rfl ?_
      exact hj_1 _ _ ⟨rfl, rfl⟩

end Go.Proofs

/- loop.example/g01158/impl.isSet -/
namespace Go.Proofs
open Go Go.Ga
set_option linter.unusedVariables false
set_option maxRecDepth 100000
set_option maxHeartbeats 4000000
def impl_isSet.f (k : Nat) (a0 : Int) : Option (Bool) := (impl_within.f k a0 0 63).bind fun t4 => some t4

theorem impl_isSet.ok {k : Nat}  {a0 : Int} {r0 : Bool} (h : impl_isSet.f k a0 = some r0) (w : World) :
    Calls Try.prog 101 ([.int .i64 a0] : List Value).toArray w (fun e w' => e = .returned (.bool r0) ∧ Ext w w') := by
  unfold impl_isSet.f at h
  refine Calls.of_tri (N := 5) Try.func101 rfl rfl rfl (Sep.nil (M := noM)) ?_
  refine Tri.seq ?_
  refine Tri.reg (l := [0]) rfl ?_
  refine F.q rfl rfl rfl (wanted_none rfl) (r_assign rfl) ?_
  refine F.nil ?_
  refine Nrm.seq ?_
  refine Tri.seq ?_
  obtain ⟨t4, h4, h⟩ := bind_some h
  refine Tri.reg (l := [0, 1, 2]) rfl ?_
  refine F.q rfl rfl rfl (wanted_none rfl) (r_move rfl) ?_
  refine F.qc rfl rfl rfl (wanted_none rfl) (q_callF (xs := _) rfl ok92 rfl rfl (fun w hw => impl_within.ok h4 w )) ?_
  refine F.q rfl rfl rfl (wanted_none rfl) (r_assign rfl) ?_
  refine F.nil ?_
  refine Nrm.seq ?_
  refine Tri.ret ?_
  cases h
  exact Rtn.body (.tmp rfl .nil) (fun w hw => ⟨rfl, hw.ext⟩)

end Go.Proofs

/- slices.IndexFunc[[]int,int] -/

namespace Go.Proofs
open Go Go.Ga
set_option linter.unusedVariables false
set_option maxRecDepth 100000
set_option maxHeartbeats 4000000
def slices_IndexFunc_int_int.l0 (k : Nat) (a0 : List Int) (a1 : (Int → Option (Bool))) : Nat → Int → Option ((Unit) ⊕ (Int))
  | 0, _ => none
  | n + 1, x8 => (if (decide (x8 < (a0.length : Int))) = true then (rdl a0 x8).bind fun t14 => (a1 t14).bind fun t16 => (if t16 = true then some (Sum.inr x8) else slices_IndexFunc_int_int.l0 k a0 a1 n (w64 (x8 + 1))) else some (Sum.inl ()))

def slices_IndexFunc_int_int.f (k : Nat) (a0 : List Int) (a1 : (Int → Option (Bool))) : Option (Int) := (slices_IndexFunc_int_int.l0 k a0 a1 k 0).bind fun s => Lr s some fun _ => some (-1)

theorem slices_IndexFunc_int_int.ok {k : Nat}  {a0 : List Int} {a1 : (Int → Option (Bool))} {r0 : Int} (h : slices_IndexFunc_int_int.f k a0 a1 = some r0) (w : World) {va0 : Value} (hr_a0 : Rd w va0 a0) {fi_a1 : FuncId} {ca_a1 : Array Value} (ho_a1 : CallOk Try.prog fi_a1) (hf_a1 : ∀ w2, Ext w w2 → ∀ (z0 : Int) (y : Bool), a1 z0 = some y → Calls Try.prog fi_a1 (([.int .i64 z0] : List Value) ++ ca_a1.toList).toArray w2 (fun e w3 => e = .returned (.bool y) ∧ Ext w2 w3)) :
    Calls Try.prog 149 ([va0, .func (.func fi_a1) #[] ca_a1] : List Value).toArray w (fun e w' => e = .returned (.int .i64 r0) ∧ Ext w w') := by
  unfold slices_IndexFunc_int_int.f at h
  have hl_va0 := hr_a0.len
  refine Calls.of_tri (N := 19) Try.func149 rfl rfl rfl (Sep.nil (M := noM)) ?_
  refine Tri.seq ?_
  refine Tri.reg (l := [0]) rfl ?_
  refine F.q rfl rfl rfl (wanted_none rfl) (r_assign rfl) ?_
  refine F.nil ?_
  refine Nrm.seq ?_
  refine Tri.seq ?_
  refine Tri.seq ?_
  refine Tri.reg (l := [0, 1, 2]) rfl ?_
  refine F.q rfl rfl rfl (wanted_none rfl) (r_move rfl) ?_
  refine F.q rfl rfl rfl (wanted_none rfl) (r_len Try.underlying23 rfl hl_va0) ?_
  refine F.q rfl rfl rfl (wanted_none rfl) (r_move rfl) ?_
  refine F.nil ?_
  refine Nrm.seq ?_
  obtain ⟨s0, hE_1, h⟩ := bind_some h
  refine Tri.block ?_
  refine Tri.only [0, 1, 7, 8] rfl ?_
  refine Tri.pick [] rfl rfl ?_
  refine Tri.rounds (fun n e' C' => ∃ (x8' : Int), slices_IndexFunc_int_int.l0 k a0 a1 n x8' = some s0 ∧ e' = [(0, va0), (1, .func (.func fi_a1) #[] ca_a1), (7, .int .i64 (a0.length : Int)), (8, .int .i64 x8')] ∧ C' = Sep w noM []) k ?_ ?_ ?_
  · exact ⟨0, hE_1, rfl, rfl⟩
  · rintro _ _ ⟨_, hE_1, _⟩
    rw [slices_IndexFunc_int_int.l0.eq_1] at hE_1; cases hE_1
  · rintro n_1 _ _ ⟨x8, hE_1, rfl, rfl⟩ ih_1
    rw [slices_IndexFunc_int_int.l0.eq_2] at hE_1
    refine Tri.seq ?_
    refine Tri.reg (l := [0]) rfl ?_
    refine F.q rfl rfl rfl (wanted_none rfl) (r_lss rfl rfl) ?_
    refine F.nil ?_
    refine Nrm.seq ?_
    refine Tri.seq ?_
    refine Tri.cond (b := decide (x8 < (a0.length : Int))) rfl (fun g_1 => ?_) (fun g_1 => ?_)
    · replace hE_1 := if_tt g_1 hE_1
      refine Tri.skip ?_
      refine Nrm.seq ?_
      refine Tri.seq ?_
      refine Tri.block ?_
      refine Tri.seq ?_
      refine Tri.reg (l := [0, 1]) rfl ?_
      refine F.q rfl rfl rfl (wanted_none rfl) (r_move rfl) ?_
      refine F.q rfl rfl rfl (wanted_none rfl) (r_assign rfl) ?_
      refine F.nil ?_
      refine Nrm.seq ?_
      refine Tri.seq ?_
      obtain ⟨t14, h14, hE_1⟩ := bind_some hE_1
      obtain ⟨t16, h16, hE_1⟩ := bind_some hE_1
      refine Tri.reg (l := [0, 1, 2, 3, 4, 5]) rfl ?_
      refine F.q rfl rfl rfl (wanted_none rfl) (r_move rfl) ?_
      refine F.q rfl rfl rfl (wanted_none rfl) (r_move rfl) ?_
      refine F.q rfl rfl rfl (wanted_none rfl) (r_move rfl) ?_
      refine F.q rfl rfl rfl (wanted_none rfl) (r_indexAddrS Try.underlying23 ti3 rfl hl_va0 rfl (rdl_some h14).1 (rdl_some h14).2.1) ?_
      refine F.q rfl rfl rfl (wanted_none rfl) (r_load ta3 rfl (fun w hw => cell_0 (Rd.flat ((fun _ hw => hr_a0.sep hw) w hw) (rdl_some h14).2.2) rfl)) ?_
      refine F.qc rfl rfl rfl (wanted_none rfl) (q_callC (xs := _) rfl ho_a1 rfl rfl (fun w hw => hf_a1 w hw.ext _  _ h16)) ?_
      refine F.nil ?_
      refine Nrm.seq ?_
      refine Tri.cond (b := t16) rfl (fun g_2 => ?_) (fun g_2 => ?_)
      · replace hE_1 := if_tt g_2 hE_1
        refine Tri.seq ?_
        refine Tri.reg (l := [0, 1]) rfl ?_
        refine F.q rfl rfl rfl (wanted_none rfl) (r_move rfl) ?_
        refine F.q rfl rfl rfl (wanted_none rfl) (r_assign rfl) ?_
        refine F.nil ?_
        refine Nrm.seq ?_
        refine Tri.ret ?_
        refine Rtn.block ?_
        refine Rtn.then ?_
        refine Rtn.then ?_
        refine Rtn.block ?_
        refine Rtn.then ?_
        cases hE_1
        replace h := Lr_inr h
        cases h
        exact Rtn.body (.tmp rfl .nil) (fun w hw => ⟨rfl, hw.ext⟩)
      · replace hE_1 := if_ff g_2 hE_1
        refine Tri.skip ?_
        refine Nrm.block ?_
        refine Nrm.seq ?_
        refine Tri.reg (l := [0, 1]) rfl ?_
        refine F.q rfl rfl rfl (wanted_none rfl) (r_add rfl rfl) ?_
        refine F.q rfl rfl rfl (wanted_none rfl) (r_move rfl) ?_
        refine F.nil ?_
        refine Nrm.round ?_
        refine Rnd.only [0, 1, 7, 8] rfl ?_
        refine Rnd.pick [] rfl rfl ?_
        exact ih_1 _ _ ⟨w64 (x8 + 1), hE_1, rfl, rfl⟩
    · replace hE_1 := if_ff g_1 hE_1
      refine Tri.exit ?_
      refine Exi.then ?_
      refine Exi.then ?_
      refine Exi.same ?_
      cases hE_1
      replace h := Lr_inl h
      refine Nrm.seq ?_
      refine Tri.seq ?_
      refine Tri.reg (l := [0]) rfl ?_
      refine F.q rfl rfl rfl (wanted_none rfl) (r_assign rfl) ?_
      refine F.nil ?_
      refine Nrm.seq ?_
      refine Tri.ret ?_
      cases h
      exact Rtn.body (.tmp rfl .nil) (fun w hw => ⟨rfl, hw.ext⟩)

end Go.Proofs

/- slices.ContainsFunc[[]int,int] -/
namespace Go.Proofs
open Go Go.Ga
set_option linter.unusedVariables false
set_option maxRecDepth 100000
set_option maxHeartbeats 4000000
def slices_ContainsFunc_int_int.f (k : Nat) (a0 : List Int) (a1 : (Int → Option (Bool))) : Option (Bool) := (slices_IndexFunc_int_int.f k a0 a1).bind fun t7 => some (decide (t7 ≥ 0))

theorem slices_ContainsFunc_int_int.ok {k : Nat}  {a0 : List Int} {a1 : (Int → Option (Bool))} {r0 : Bool} (h : slices_ContainsFunc_int_int.f k a0 a1 = some r0) (w : World) {va0 : Value} (hr_a0 : Rd w va0 a0) {fi_a1 : FuncId} {ca_a1 : Array Value} (ho_a1 : CallOk Try.prog fi_a1) (hf_a1 : ∀ w2, Ext w w2 → ∀ (z0 : Int) (y : Bool), a1 z0 = some y → Calls Try.prog fi_a1 (([.int .i64 z0] : List Value) ++ ca_a1.toList).toArray w2 (fun e w3 => e = .returned (.bool y) ∧ Ext w2 w3)) :
    Calls Try.prog 118 ([va0, .func (.func fi_a1) #[] ca_a1] : List Value).toArray w (fun e w' => e = .returned (.bool r0) ∧ Ext w w') := by
  unfold slices_ContainsFunc_int_int.f at h
  have hl_va0 := hr_a0.len
  refine Calls.of_tri (N := 9) Try.func118 rfl rfl rfl (Sep.nil (M := noM)) ?_
  refine Tri.seq ?_
  refine Tri.reg (l := [0]) rfl ?_
  refine F.q rfl rfl rfl (wanted_none rfl) (r_assign rfl) ?_
  refine F.nil ?_
  refine Nrm.seq ?_
  refine Tri.seq ?_
  obtain ⟨t7, h7, h⟩ := bind_some h
  refine Tri.reg (l := [0, 1, 2, 3, 4]) rfl ?_
  refine F.q rfl rfl rfl (wanted_none rfl) (r_move rfl) ?_
  refine F.q rfl rfl rfl (wanted_none rfl) (r_move rfl) ?_
  refine F.qc rfl rfl rfl (wanted_none rfl) (q_callF (xs := _) rfl ok149 rfl rfl (fun w hw => slices_IndexFunc_int_int.ok h7 w ((fun _ hw => hr_a0.sep hw) w hw) ho_a1 (fun w2 he2 => hf_a1 w2 (hw.ext.trans he2)))) ?_
  refine F.q rfl rfl rfl (wanted_none rfl) (r_geq rfl rfl) ?_
  refine F.q rfl rfl rfl (wanted_none rfl) (r_assign rfl) ?_
  refine F.nil ?_
  refine Nrm.seq ?_
  refine Tri.ret ?_
  cases h
  exact Rtn.body (.tmp rfl .nil) (fun w hw => ⟨rfl, hw.ext⟩)

end Go.Proofs

/- cmp.Or[int] -/

namespace Go.Proofs
open Go Go.Ga
set_option linter.unusedVariables false
set_option maxRecDepth 100000
set_option maxHeartbeats 4000000
def cmp_Or_int.l0 (k : Nat) (a0 : List Int) : Nat → Int → Option ((Unit) ⊕ (Int))
  | 0, _ => none
  | n + 1, x8 => (if (decide (x8 < (a0.length : Int))) = true then (rdl a0 x8).bind fun t10 => (if (t10 != 0) = true then some (Sum.inr t10) else cmp_Or_int.l0 k a0 n (w64 (x8 + 1))) else some (Sum.inl ()))

def cmp_Or_int.f (k : Nat) (a0 : List Int) : Option (Int) := (cmp_Or_int.l0 k a0 k 0).bind fun s => Lr s some fun _ => some 0

theorem cmp_Or_int.ok {k : Nat}  {a0 : List Int} {r0 : Int} (h : cmp_Or_int.f k a0 = some r0) (w : World) {va0 : Value} (hr_a0 : Rd w va0 a0) :
    Calls Try.prog 160 ([va0] : List Value).toArray w (fun e w' => e = .returned (.int .i64 r0) ∧ Ext w w') := by
  unfold cmp_Or_int.f at h
  have hl_va0 := hr_a0.len
  refine Calls.of_tri (N := 18) Try.func160 rfl rfl rfl (Sep.nil (M := noM)) ?_
  refine Tri.seq ?_
  refine Tri.reg (l := [0]) rfl ?_
  refine F.q rfl rfl rfl (wanted_none rfl) (r_assign rfl) ?_
  refine F.nil ?_
  refine Nrm.seq ?_
  refine Tri.seq ?_
  refine Tri.reg (l := [0]) rfl ?_
  refine F.q rfl rfl rfl (wanted_none rfl) (r_assign rfl) ?_
  refine F.nil ?_
  refine Nrm.seq ?_
  refine Tri.seq ?_
  refine Tri.seq ?_
  refine Tri.reg (l := [0, 1, 2]) rfl ?_
  refine F.q rfl rfl rfl (wanted_none rfl) (r_move rfl) ?_
  refine F.q rfl rfl rfl (wanted_none rfl) (r_len Try.underlying23 rfl hl_va0) ?_
  refine F.q rfl rfl rfl (wanted_none rfl) (r_move rfl) ?_
  refine F.nil ?_
  refine Nrm.seq ?_
  obtain ⟨s0, hE_1, h⟩ := bind_some h
  refine Tri.block ?_
  refine Tri.only [3, 6, 7, 8] rfl ?_
  refine Tri.pick [] rfl rfl ?_
  refine Tri.rounds (fun n e' C' => ∃ (x8' : Int), cmp_Or_int.l0 k a0 n x8' = some s0 ∧ e' = [(3, .int .i64 0), (6, va0), (7, .int .i64 (a0.length : Int)), (8, .int .i64 x8')] ∧ C' = Sep w noM []) k ?_ ?_ ?_
  · exact ⟨0, hE_1, rfl, rfl⟩
  · rintro _ _ ⟨_, hE_1, _⟩
    rw [cmp_Or_int.l0.eq_1] at hE_1; cases hE_1
  · rintro n_1 _ _ ⟨x8, hE_1, rfl, rfl⟩ ih_1
    rw [cmp_Or_int.l0.eq_2] at hE_1
    refine Tri.seq ?_
    refine Tri.reg (l := [0]) rfl ?_
    refine F.q rfl rfl rfl (wanted_none rfl) (r_lss rfl rfl) ?_
    refine F.nil ?_
    refine Nrm.seq ?_
    refine Tri.seq ?_
    refine Tri.cond (b := decide (x8 < (a0.length : Int))) rfl (fun g_1 => ?_) (fun g_1 => ?_)
    · replace hE_1 := if_tt g_1 hE_1
      refine Tri.skip ?_
      refine Nrm.seq ?_
      refine Tri.seq ?_
      refine Tri.block ?_
      refine Tri.seq ?_
      obtain ⟨t10, h10, hE_1⟩ := bind_some hE_1
      refine Tri.reg (l := [0, 1, 2]) rfl ?_
      refine F.q rfl rfl rfl (wanted_none rfl) (r_indexAddrS Try.underlying23 ti3 rfl hl_va0 rfl (rdl_some h10).1 (rdl_some h10).2.1) ?_
      refine F.q rfl rfl rfl (wanted_none rfl) (r_load ta3 rfl (fun w hw => cell_0 (Rd.flat ((fun _ hw => hr_a0.sep hw) w hw) (rdl_some h10).2.2) rfl)) ?_
      refine F.q rfl rfl rfl (wanted_none rfl) (r_assign rfl) ?_
      refine F.nil ?_
      refine Nrm.seq ?_
      refine Tri.seq ?_
      refine Tri.reg (l := [0, 1, 2]) rfl ?_
      refine F.q rfl rfl rfl (wanted_none rfl) (r_move rfl) ?_
      refine F.q rfl rfl rfl (wanted_none rfl) (r_move rfl) ?_
      refine F.q rfl rfl rfl (wanted_none rfl) (r_neq rfl rfl) ?_
      refine F.nil ?_
      refine Nrm.seq ?_
      refine Tri.cond (b := t10 != 0) rfl (fun g_2 => ?_) (fun g_2 => ?_)
      · replace hE_1 := if_tt g_2 hE_1
        refine Tri.seq ?_
        refine Tri.reg (l := [0, 1]) rfl ?_
        refine F.q rfl rfl rfl (wanted_none rfl) (r_move rfl) ?_
        refine F.q rfl rfl rfl (wanted_none rfl) (r_assign rfl) ?_
        refine F.nil ?_
        refine Nrm.seq ?_
        refine Tri.ret ?_
        refine Rtn.block ?_
        refine Rtn.then ?_
        refine Rtn.then ?_
        refine Rtn.block ?_
        refine Rtn.then ?_
        cases hE_1
        replace h := Lr_inr h
        cases h
        exact Rtn.body (.tmp rfl .nil) (fun w hw => ⟨rfl, hw.ext⟩)
      · replace hE_1 := if_ff g_2 hE_1
        refine Tri.skip ?_
        refine Nrm.block ?_
        refine Nrm.seq ?_
        refine Tri.reg (l := [0, 1]) rfl ?_
        refine F.q rfl rfl rfl (wanted_none rfl) (r_add rfl rfl) ?_
        refine F.q rfl rfl rfl (wanted_none rfl) (r_move rfl) ?_
        refine F.nil ?_
        refine Nrm.round ?_
        refine Rnd.only [3, 6, 7, 8] rfl ?_
        refine Rnd.pick [] rfl rfl ?_
        exact ih_1 _ _ ⟨w64 (x8 + 1), hE_1, rfl, rfl⟩
    · replace hE_1 := if_ff g_1 hE_1
      refine Tri.exit ?_
      refine Exi.then ?_
      refine Exi.then ?_
      refine Exi.same ?_
      cases hE_1
      replace h := Lr_inl h
      refine Nrm.seq ?_
      refine Tri.seq ?_
      refine Tri.reg (l := [0, 1]) rfl ?_
      refine F.q rfl rfl rfl (wanted_none rfl) (r_move rfl) ?_
      refine F.q rfl rfl rfl (wanted_none rfl) (r_assign rfl) ?_
      refine F.nil ?_
      refine Nrm.seq ?_
      refine Tri.ret ?_
      cases h
      exact Rtn.body (.tmp rfl .nil) (fun w hw => ⟨rfl, hw.ext⟩)

end Go.Proofs

/- cmp.isNaN[int] -/

namespace Go.Proofs
open Go Go.Ga
set_option linter.unusedVariables false
set_option maxRecDepth 100000
set_option maxHeartbeats 4000000
def cmp_isNaN_int.f (k : Nat) (a0 : Int) : Option (Bool) := some (a0 != a0)

theorem cmp_isNaN_int.ok {k : Nat}  {a0 : Int} {r0 : Bool} (h : cmp_isNaN_int.f k a0 = some r0) (w : World) :
    Calls Try.prog 187 ([.int .i64 a0] : List Value).toArray w (fun e w' => e = .returned (.bool r0) ∧ Ext w w') := by
  unfold cmp_isNaN_int.f at h
  refine Calls.of_tri (N := 6) Try.func187 rfl rfl rfl (Sep.nil (M := noM)) ?_
  refine Tri.seq ?_
  refine Tri.reg (l := [0]) rfl ?_
  refine F.q rfl rfl rfl (wanted_none rfl) (r_assign rfl) ?_
  refine F.nil ?_
  refine Nrm.seq ?_
  refine Tri.seq ?_
  refine Tri.reg (l := [0, 1, 2, 3]) rfl ?_
  refine F.q rfl rfl rfl (wanted_none rfl) (r_move rfl) ?_
  refine F.q rfl rfl rfl (wanted_none rfl) (r_move rfl) ?_
  refine F.q rfl rfl rfl (wanted_none rfl) (r_neq rfl rfl) ?_
  refine F.q rfl rfl rfl (wanted_none rfl) (r_assign rfl) ?_
  refine F.nil ?_
  refine Nrm.seq ?_
  refine Tri.ret ?_
  cases h
  exact Rtn.body (.tmp rfl .nil) (fun w hw => ⟨rfl, hw.ext⟩)

end Go.Proofs

/- cmp.Compare[int] -/
namespace Go.Proofs
open Go Go.Ga
set_option linter.unusedVariables false
set_option maxRecDepth 100000
set_option maxHeartbeats 4000000
def cmp_Compare_int.f (k : Nat) (a0 : Int) (a1 : Int) : Option (Int) := (cmp_isNaN_int.f k a0).bind fun t8 => (cmp_isNaN_int.f k a1).bind fun t10 => (if t8 = true then (if t10 = true then some 0 else some (-1)) else (if t10 = true then some 1 else (if (decide (a0 < a1)) = true then some (-1) else (if (decide (a0 > a1)) = true then some 1 else some 0))))

theorem cmp_Compare_int.ok {k : Nat}  {a0 : Int} {a1 : Int} {r0 : Int} (h : cmp_Compare_int.f k a0 a1 = some r0) (w : World) :
    Calls Try.prog 161 ([.int .i64 a0, .int .i64 a1] : List Value).toArray w (fun e w' => e = .returned (.int .i64 r0) ∧ Ext w w') := by
  unfold cmp_Compare_int.f at h
  refine Calls.of_tri (N := 20) Try.func161 rfl rfl rfl (Sep.nil (M := noM)) ?_
  refine Tri.seq ?_
  refine Tri.reg (l := [0]) rfl ?_
  refine F.q rfl rfl rfl (wanted_none rfl) (r_assign rfl) ?_
  refine F.nil ?_
  refine Nrm.seq ?_
  refine Tri.seq ?_
  obtain ⟨t8, h8, h⟩ := bind_some h
  refine Tri.reg (l := [0, 1, 2]) rfl ?_
  refine F.q rfl rfl rfl (wanted_none rfl) (r_move rfl) ?_
  refine F.qc rfl rfl rfl (wanted_none rfl) (q_callF (xs := _) rfl ok187 rfl rfl (fun w hw => cmp_isNaN_int.ok h8 w )) ?_
  refine F.q rfl rfl rfl (wanted_none rfl) (r_assign rfl) ?_
  refine F.nil ?_
  refine Nrm.seq ?_
  refine Tri.seq ?_
  obtain ⟨t10, h10, h⟩ := bind_some h
  refine Tri.reg (l := [0, 1, 2]) rfl ?_
  refine F.q rfl rfl rfl (wanted_none rfl) (r_move rfl) ?_
  refine F.qc rfl rfl rfl (wanted_none rfl) (q_callF (xs := _) rfl ok187 rfl rfl (fun w hw => cmp_isNaN_int.ok h10 w )) ?_
  refine F.q rfl rfl rfl (wanted_none rfl) (r_assign rfl) ?_
  refine F.nil ?_
  refine Nrm.seq ?_
  refine Tri.seq ?_
  refine Tri.seq ?_
  refine Tri.reg (l := [0]) rfl ?_
  refine F.q rfl rfl rfl (wanted_none rfl) (r_move rfl) ?_
  refine F.nil ?_
  refine Nrm.seq ?_
  refine Tri.cond (b := t8) rfl (fun g_1 => ?_) (fun g_1 => ?_)
  · replace h := if_tt g_1 h
    refine Tri.seq ?_
    refine Tri.seq ?_
    refine Tri.reg (l := [0]) rfl ?_
    refine F.q rfl rfl rfl (wanted_none rfl) (r_move rfl) ?_
    refine F.nil ?_
    refine Nrm.seq ?_
    refine Tri.cond (b := t10) rfl (fun g_2 => ?_) (fun g_2 => ?_)
    · replace h := if_tt g_2 h
      refine Tri.seq ?_
      refine Tri.reg (l := [0]) rfl ?_
      refine F.q rfl rfl rfl (wanted_none rfl) (r_assign rfl) ?_
      refine F.nil ?_
      refine Nrm.seq ?_
      refine Tri.ret ?_
      refine Rtn.then ?_
      refine Rtn.then ?_
      cases h
      exact Rtn.body (.tmp rfl .nil) (fun w hw => ⟨rfl, hw.ext⟩)
    · replace h := if_ff g_2 h
      refine Tri.skip ?_
      refine Nrm.seq ?_
      refine Tri.seq ?_
      refine Tri.reg (l := [0]) rfl ?_
      refine F.q rfl rfl rfl (wanted_none rfl) (r_assign rfl) ?_
      refine F.nil ?_
      refine Nrm.seq ?_
      refine Tri.ret ?_
      refine Rtn.then ?_
      cases h
      exact Rtn.body (.tmp rfl .nil) (fun w hw => ⟨rfl, hw.ext⟩)
  · replace h := if_ff g_1 h
    refine Tri.skip ?_
    refine Nrm.seq ?_
    refine Tri.seq ?_
    refine Tri.seq ?_
    refine Tri.reg (l := [0]) rfl ?_
    refine F.q rfl rfl rfl (wanted_none rfl) (r_move rfl) ?_
    refine F.nil ?_
    refine Nrm.seq ?_
    refine Tri.cond (b := t10) rfl (fun g_3 => ?_) (fun g_3 => ?_)
    · replace h := if_tt g_3 h
      refine Tri.seq ?_
      refine Tri.reg (l := [0]) rfl ?_
      refine F.q rfl rfl rfl (wanted_none rfl) (r_assign rfl) ?_
      refine F.nil ?_
      refine Nrm.seq ?_
      refine Tri.ret ?_
      refine Rtn.then ?_
      cases h
      exact Rtn.body (.tmp rfl .nil) (fun w hw => ⟨rfl, hw.ext⟩)
    · replace h := if_ff g_3 h
      refine Tri.skip ?_
      refine Nrm.seq ?_
      refine Tri.seq ?_
      refine Tri.seq ?_
      refine Tri.reg (l := [0, 1, 2]) rfl ?_
      refine F.q rfl rfl rfl (wanted_none rfl) (r_move rfl) ?_
      refine F.q rfl rfl rfl (wanted_none rfl) (r_move rfl) ?_
      refine F.q rfl rfl rfl (wanted_none rfl) (r_lss rfl rfl) ?_
      refine F.nil ?_
      refine Nrm.seq ?_
      refine Tri.cond (b := decide (a0 < a1)) rfl (fun g_4 => ?_) (fun g_4 => ?_)
      · replace h := if_tt g_4 h
        refine Tri.seq ?_
        refine Tri.reg (l := [0]) rfl ?_
        refine F.q rfl rfl rfl (wanted_none rfl) (r_assign rfl) ?_
        refine F.nil ?_
        refine Nrm.seq ?_
        refine Tri.ret ?_
        refine Rtn.then ?_
        cases h
        exact Rtn.body (.tmp rfl .nil) (fun w hw => ⟨rfl, hw.ext⟩)
      · replace h := if_ff g_4 h
        refine Tri.skip ?_
        refine Nrm.seq ?_
        refine Tri.seq ?_
        refine Tri.seq ?_
        refine Tri.reg (l := [0, 1, 2]) rfl ?_
        refine F.q rfl rfl rfl (wanted_none rfl) (r_move rfl) ?_
        refine F.q rfl rfl rfl (wanted_none rfl) (r_move rfl) ?_
        refine F.q rfl rfl rfl (wanted_none rfl) (r_gtr rfl rfl) ?_
        refine F.nil ?_
        refine Nrm.seq ?_
        refine Tri.cond (b := decide (a0 > a1)) rfl (fun g_5 => ?_) (fun g_5 => ?_)
        · replace h := if_tt g_5 h
          refine Tri.seq ?_
          refine Tri.reg (l := [0]) rfl ?_
          refine F.q rfl rfl rfl (wanted_none rfl) (r_assign rfl) ?_
          refine F.nil ?_
          refine Nrm.seq ?_
          refine Tri.ret ?_
          refine Rtn.then ?_
          cases h
          exact Rtn.body (.tmp rfl .nil) (fun w hw => ⟨rfl, hw.ext⟩)
        · replace h := if_ff g_5 h
          refine Tri.skip ?_
          refine Nrm.seq ?_
          refine Tri.seq ?_
          refine Tri.reg (l := [0]) rfl ?_
          refine F.q rfl rfl rfl (wanted_none rfl) (r_assign rfl) ?_
          refine F.nil ?_
          refine Nrm.seq ?_
          refine Tri.ret ?_
          cases h
          exact Rtn.body (.tmp rfl .nil) (fun w hw => ⟨rfl, hw.ext⟩)

end Go.Proofs

/- loop.example/g01158/impl.compareDoors -/
namespace Go.Proofs
open Go Go.Ga
set_option linter.unusedVariables false
set_option maxRecDepth 100000
set_option maxHeartbeats 4000000
def impl_compareDoors.f (k : Nat) (a0_0 : Int) (a0_1 : Int) (a0_2 : Int) (a1_0 : Int) (a1_1 : Int) (a1_2 : Int) : Option (Int) := (cmp_Compare_int.f k a0_0 a1_0).bind fun t9 => (cmp_Compare_int.f k a0_1 a1_1).bind fun t14 => (cmp_Compare_int.f k a0_2 a1_2).bind fun t19 => (cmp_Or_int.f k ([t9, t14, t19] : List (Int))).bind fun t21 => some t21

theorem impl_compareDoors.ok {k : Nat}  {a0_0 : Int} {a0_1 : Int} {a0_2 : Int} {a1_0 : Int} {a1_1 : Int} {a1_2 : Int} {r0 : Int} (h : impl_compareDoors.f k a0_0 a0_1 a0_2 a1_0 a1_1 a1_2 = some r0) (w : World) :
    Calls Try.prog 135 ([.agg ([.int .i64 a0_0, .int .i64 a0_1, .int .i64 a0_2].toArray), .agg ([.int .i64 a1_0, .int .i64 a1_1, .int .i64 a1_2].toArray)] : List Value).toArray w (fun e w' => e = .returned (.int .i64 r0) ∧ Ext w w') := by
  unfold impl_compareDoors.f at h
  refine Calls.of_tri (N := 22) Try.func135 rfl rfl rfl (Sep.nil (M := noM)) ?_
  refine Tri.seq ?_
  refine Tri.reg (l := [0, 1, 2]) rfl ?_
  refine F.m rfl rfl rfl (wanted_none rfl) (m_boxG rfl rfl) ?_
  rintro _ _ ⟨b2_1, rfl, rfl⟩
  refine F.m rfl rfl rfl (wanted_none rfl) (m_boxG rfl rfl) ?_
  rintro _ _ ⟨b3_1, rfl, rfl⟩
  refine F.q rfl rfl rfl (wanted_none rfl) (r_assign rfl) ?_
  refine F.nil ?_
  refine Nrm.seq ?_
  refine Tri.seq ?_
  obtain ⟨t9, h9, h⟩ := bind_some h
  obtain ⟨t14, h14, h⟩ := bind_some h
  obtain ⟨t19, h19, h⟩ := bind_some h
  obtain ⟨t21, h21, h⟩ := bind_some h
  refine Tri.drawA mixedT Sep.up [(0, true), (1, true), (2, true), (3, true), (4, true), (5, true), (6, true), (7, true), (8, true), (9, true), (10, true), (11, true), (12, true), (13, true), (14, true), (15, false), (16, true), (17, true)] [] (by kernel_rfl) ?_
  refine S.q rfl rfl rfl (wanted_none rfl) (r_indexAddrA Try.underlying116 ti3 rfl rfl (by decide) (by decide)) ?_
  refine S.q rfl rfl rfl (wanted_none rfl) (r_load ta3 rfl (fun w hw => cell_1 (box_cells (i := 1) rfl w hw) rfl)) ?_
  refine S.q rfl rfl rfl (wanted_none rfl) (r_indexAddrA Try.underlying116 ti3 rfl rfl (by decide) (by decide)) ?_
  refine S.q rfl rfl rfl (wanted_none rfl) (r_load ta3 rfl (fun w hw => cell_1 (box_cells (i := 0) rfl w hw) rfl)) ?_
  refine S.qc rfl rfl rfl (wanted_none rfl) (q_callF (xs := _) rfl ok161 rfl rfl (fun w hw => cmp_Compare_int.ok h9 w )) ?_
  refine S.q rfl rfl rfl (wanted_none rfl) (r_indexAddrA Try.underlying116 ti3 rfl rfl (by decide) (by decide)) ?_
  refine S.q rfl rfl rfl (wanted_none rfl) (r_load ta3 rfl (fun w hw => cell_1 (box_cells (i := 1) rfl w hw) rfl)) ?_
  refine S.q rfl rfl rfl (wanted_none rfl) (r_indexAddrA Try.underlying116 ti3 rfl rfl (by decide) (by decide)) ?_
  refine S.q rfl rfl rfl (wanted_none rfl) (r_load ta3 rfl (fun w hw => cell_1 (box_cells (i := 0) rfl w hw) rfl)) ?_
  refine S.qc rfl rfl rfl (wanted_none rfl) (q_callF (xs := _) rfl ok161 rfl rfl (fun w hw => cmp_Compare_int.ok h14 w )) ?_
  refine S.q rfl rfl rfl (wanted_none rfl) (r_indexAddrA Try.underlying116 ti3 rfl rfl (by decide) (by decide)) ?_
  refine S.q rfl rfl rfl (wanted_none rfl) (r_load ta3 rfl (fun w hw => cell_1 (box_cells (i := 1) rfl w hw) rfl)) ?_
  refine S.q rfl rfl rfl (wanted_none rfl) (r_indexAddrA Try.underlying116 ti3 rfl rfl (by decide) (by decide)) ?_
  refine S.q rfl rfl rfl (wanted_none rfl) (r_load ta3 rfl (fun w hw => cell_1 (box_cells (i := 0) rfl w hw) rfl)) ?_
  refine S.qc rfl rfl rfl (wanted_none rfl) (q_callF (xs := _) rfl ok161 rfl rfl (fun w hw => cmp_Compare_int.ok h19 w )) ?_
  refine S.m rfl rfl rfl (wanted_none rfl) (m_buildF (l := ([t9, t14, t19] : List (Int))) Try.underlying23 ti3 rfl rfl rfl rfl rfl) ?_
  rintro v20_2 _ ⟨S20_2, hl_v20_2, rfl⟩
  refine S.qc rfl rfl rfl (wanted_none rfl) (q_callF (xs := _) rfl ok160 rfl rfl (fun w hw => cmp_Or_int.ok h21 w ((rd_sl (i := 0) rfl) w hw))) ?_
  refine S.q rfl rfl rfl (wanted_none rfl) (r_assign rfl) ?_
  refine S.nil ?_
  refine F.nil ?_
  refine Nrm.seq ?_
  refine Tri.ret ?_
  cases h
  exact Rtn.body (.tmp rfl .nil) (fun w hw => ⟨rfl, hw.ext⟩)

end Go.Proofs

/- loop.example/g01158/impl.IsMaze$1 -/
namespace Go.Proofs
open Go Go.Ga
set_option linter.unusedVariables false
set_option maxRecDepth 100000
set_option maxHeartbeats 4000000
def impl_IsMaze_1.f (k : Nat) (a0 : Int) : Option (Bool) := (impl_isSet.f k a0).bind fun t4 => some (!t4)

theorem impl_IsMaze_1.ok {k : Nat}  {a0 : Int} {r0 : Bool} (h : impl_IsMaze_1.f k a0 = some r0) (w : World) :
    Calls Try.prog 136 ([.int .i64 a0] : List Value).toArray w (fun e w' => e = .returned (.bool r0) ∧ Ext w w') := by
  unfold impl_IsMaze_1.f at h
  refine Calls.of_tri (N := 6) Try.func136 rfl rfl rfl (Sep.nil (M := noM)) ?_
  refine Tri.seq ?_
  refine Tri.reg (l := [0]) rfl ?_
  refine F.q rfl rfl rfl (wanted_none rfl) (r_assign rfl) ?_
  refine F.nil ?_
  refine Nrm.seq ?_
  refine Tri.seq ?_
  obtain ⟨t4, h4, h⟩ := bind_some h
  refine Tri.reg (l := [0, 1, 2, 3]) rfl ?_
  refine F.q rfl rfl rfl (wanted_none rfl) (r_move rfl) ?_
  refine F.qc rfl rfl rfl (wanted_none rfl) (q_callF (xs := _) rfl ok101 rfl rfl (fun w hw => impl_isSet.ok h4 w )) ?_
  refine F.q rfl rfl rfl (wanted_none rfl) (r_not rfl) ?_
  refine F.q rfl rfl rfl (wanted_none rfl) (r_assign rfl) ?_
  refine F.nil ?_
  refine Nrm.seq ?_
  refine Tri.ret ?_
  cases h
  exact Rtn.body (.tmp rfl .nil) (fun w hw => ⟨rfl, hw.ext⟩)

end Go.Proofs

/- loop.example/g01158/impl.IsMaze -/
namespace Go.Proofs
open Go Go.Ga
set_option linter.unusedVariables false
set_option maxRecDepth 100000
set_option maxHeartbeats 4000000
def impl_IsMaze.l0 (k : Nat) (a0_0 : Int) (a0_1 : List (Int × Int × Int)) : Nat → Int → Option ((Unit) ⊕ (Bool))
  | 0, _ => none
  | n + 1, x26 => (if (decide (x26 < (a0_1.length : Int))) = true then (rdl a0_1 x26).bind fun t29 => ((if (decide (t29.1 < 0)) = true then some true else (if (decide (t29.1 ≥ t29.2.1)) = true then some true else (if (decide (t29.2.1 ≥ a0_0)) = true then some true else (impl_isSet.f k t29.2.2).bind fun t51 => (if (!t51) = true then some true else (if (decide (x26 > 0)) = true then (rdl a0_1 (w64 (x26 - 1))).bind fun t62 => (impl_compareDoors.f k t62.1 t62.2.1 t62.2.2 t29.1 t29.2.1 t29.2.2).bind fun t65 => some (decide (t65 ≥ 0)) else some false)))))).bind fun y68 => (if y68 = true then some (Sum.inr false) else impl_IsMaze.l0 k a0_0 a0_1 n (w64 (x26 + 1))) else some (Sum.inl ()))

def impl_IsMaze.f (k : Nat) (a0_0 : Int) (a0_1 : List (Int × Int × Int)) (a0_2 : List Int) : Option (Bool) := ((impl_within.f k a0_0 1 12).bind fun t7 => (if (!t7) = true then some true else (if (decide ((a0_1.length : Int) > 30)) = true then some true else some ((a0_2.length : Int) != a0_0)))).bind fun y22 => (if y22 = true then some false else (impl_IsMaze.l0 k a0_0 a0_1 k 0).bind fun s => Lr s some fun _ => (slices_ContainsFunc_int_int.f k a0_2 (fun z0 => impl_IsMaze_1.f k z0)).bind fun t72 => some (!t72))

theorem impl_IsMaze.ok {k : Nat}  {a0_0 : Int} {a0_1 : List (Int × Int × Int)} {a0_2 : List Int} {r0 : Bool} (h : impl_IsMaze.f k a0_0 a0_1 a0_2 = some r0) (w : World) {va0_1 : Value} {va0_2 : Value} (hr_a0_1 : Rd w va0_1 a0_1) (hr_a0_2 : Rd w va0_2 a0_2) :
    Calls Try.prog 91 ([.agg ([.int .i64 a0_0, va0_1, va0_2].toArray)] : List Value).toArray w (fun e w' => e = .returned (.bool r0) ∧ Ext w w') := by
  unfold impl_IsMaze.f at h
  have hl_va0_1 := hr_a0_1.len
  have hl_va0_2 := hr_a0_2.len
  refine Calls.of_tri (N := 74) Try.func91 rfl rfl rfl (Sep.nil (M := noM)) ?_
  refine Tri.seq ?_
  refine Tri.reg (l := [0, 1]) rfl ?_
  refine F.m rfl rfl rfl (wanted_none rfl) (m_boxG rfl rfl) ?_
  rintro _ _ ⟨b1_1, rfl, rfl⟩
  refine F.q rfl rfl rfl (wanted_none rfl) (r_assign rfl) ?_
  refine F.nil ?_
  refine Nrm.seq ?_
  refine Tri.seq ?_
  refine Tri.seq ?_
  obtain ⟨y22, hE_1, h⟩ := bind_some h
  refine Tri.cut (fun e' C' => e' = [(1, .pointer (some ⟨b1_1, 0, none⟩)), (22, .bool y22)] ∧ C' = Sep w noM [R.box b1_1 31 [.int .i64 a0_0, va0_1, va0_2]]) ?_ (fun hj_1 => ?_)
  · rintro _ _ ⟨rfl, rfl⟩
    refine Nrm.seq ?_
    refine Tri.cond (b := y22) rfl (fun g_1 => ?_) (fun g_1 => ?_)
    · replace h := if_tt g_1 h
      refine Tri.seq ?_
      refine Tri.reg (l := [0]) rfl ?_
      refine F.q rfl rfl rfl (wanted_none rfl) (r_assign rfl) ?_
      refine F.nil ?_
      refine Nrm.seq ?_
      refine Tri.ret ?_
      refine Rtn.then ?_
      cases h
      exact Rtn.body (.tmp rfl .nil) (fun w hw => ⟨rfl, hw.ext⟩)
    · replace h := if_ff g_1 h
      refine Tri.skip ?_
      refine Nrm.seq ?_
      refine Tri.seq ?_
      refine Tri.seq ?_
      refine Tri.reg (l := [0, 1, 2, 3]) rfl ?_
      refine F.q rfl rfl rfl (wanted_none rfl) (r_fieldAddr tf31_1 rfl) ?_
      refine F.q rfl rfl rfl (wanted_none rfl) (r_load ta22 rfl (fun w hw => cell_1 (box_cells (i := 0) rfl w hw) rfl)) ?_
      refine F.q rfl rfl rfl (wanted_none rfl) (r_len Try.underlying22 rfl hl_va0_1) ?_
      refine F.q rfl rfl rfl (wanted_none rfl) (r_move rfl) ?_
      refine F.nil ?_
      refine Nrm.seq ?_
      obtain ⟨s0, hE_2, h⟩ := bind_some h
      refine Tri.block ?_
      refine Tri.only [1, 24, 25, 26] rfl ?_
      refine Tri.pick [0] rfl rfl ?_
      refine Tri.rounds (fun n e' C' => ∃ (x26' : Int), impl_IsMaze.l0 k a0_0 a0_1 n x26' = some s0 ∧ e' = [(1, .pointer (some ⟨b1_1, 0, none⟩)), (24, va0_1), (25, .int .i64 (a0_1.length : Int)), (26, .int .i64 x26')] ∧ C' = Sep w noM [R.box b1_1 31 [.int .i64 a0_0, va0_1, va0_2]]) k ?_ ?_ ?_
      · exact ⟨0, hE_2, rfl, rfl⟩
      · rintro _ _ ⟨_, hE_2, _⟩
        rw [impl_IsMaze.l0.eq_1] at hE_2; cases hE_2
      · rintro n_1 _ _ ⟨x26, hE_2, rfl, rfl⟩ ih_1
        rw [impl_IsMaze.l0.eq_2] at hE_2
        refine Tri.seq ?_
        refine Tri.reg (l := [0]) rfl ?_
        refine F.q rfl rfl rfl (wanted_none rfl) (r_lss rfl rfl) ?_
        refine F.nil ?_
        refine Nrm.seq ?_
        refine Tri.seq ?_
        refine Tri.cond (b := decide (x26 < (a0_1.length : Int))) rfl (fun g_2 => ?_) (fun g_2 => ?_)
        · replace hE_2 := if_tt g_2 hE_2
          refine Tri.skip ?_
          refine Nrm.seq ?_
          refine Tri.seq ?_
          refine Tri.block ?_
          refine Tri.seq ?_
          obtain ⟨t29, h29, hE_2⟩ := bind_some hE_2
          refine Tri.reg (l := [0, 1, 2, 3, 4, 5]) rfl ?_
          refine F.q rfl rfl rfl (wanted_none rfl) (r_move rfl) ?_
          refine F.q rfl rfl rfl (wanted_none rfl) (r_indexAddrS Try.underlying22 ti116 rfl hl_va0_1 rfl (rdl_some h29).1 (rdl_some h29).2.1) ?_
          refine F.q rfl rfl rfl (wanted_none rfl) (r_loadA ta116 ti116 rfl rfl (fun w hw => (Rd.flat ((fun _ hw => hr_a0_1.sep hw) w hw) (rdl_some h29).2.2))) ?_
          refine F.m rfl rfl rfl (wanted_none rfl) (m_alloc ti116) ?_
          rintro _ _ ⟨b4_1, rfl, rfl⟩
          refine F.q rfl rfl rfl (wanted_none rfl) (r_assign rfl) ?_
          refine F.ef0 rfl rfl (wanted_none rfl) (d_storeG0 (i := 0) (cs2 := [.int .i64 t29.1, .int .i64 t29.2.1, .int .i64 t29.2.2]) ti116 rfl rfl rfl rfl rfl (Nat.le_of_ble_eq_true rfl) (lf_cons rfl (lf_cons rfl (lf_cons rfl lf_nil)))) ?_
          rintro _ _ ⟨rfl, rfl⟩
          refine F.nil ?_
          refine Nrm.seq ?_
          refine Tri.seq ?_
          obtain ⟨y68, hE_3, hE_2⟩ := bind_some hE_2
          refine Tri.cut (fun e' C' => e' = [(1, .pointer (some ⟨b1_1, 0, none⟩)), (24, va0_1), (25, .int .i64 (a0_1.length : Int)), (26, .int .i64 x26), (68, .bool y68)] ∧ C' = Sep w noM [R.box b1_1 31 [.int .i64 a0_0, va0_1, va0_2]]) ?_ (fun hj_2 => ?_)
          · rintro _ _ ⟨rfl, rfl⟩
            refine Nrm.seq ?_
            refine Tri.cond (b := y68) rfl (fun g_3 => ?_) (fun g_3 => ?_)
            · replace hE_2 := if_tt g_3 hE_2
              refine Tri.seq ?_
              refine Tri.reg (l := [0]) rfl ?_
              refine F.q rfl rfl rfl (wanted_none rfl) (r_assign rfl) ?_
              refine F.nil ?_
              refine Nrm.seq ?_
              refine Tri.ret ?_
              refine Rtn.block ?_
              refine Rtn.then ?_
              refine Rtn.then ?_
              refine Rtn.block ?_
              refine Rtn.then ?_
              cases hE_2
              replace h := Lr_inr h
              cases h
              exact Rtn.body (.tmp rfl .nil) (fun w hw => ⟨rfl, hw.ext⟩)
            · replace hE_2 := if_ff g_3 hE_2
              refine Tri.skip ?_
              refine Nrm.block ?_
              refine Nrm.seq ?_
              refine Tri.reg (l := [0, 1]) rfl ?_
              refine F.q rfl rfl rfl (wanted_none rfl) (r_add rfl rfl) ?_
              refine F.q rfl rfl rfl (wanted_none rfl) (r_move rfl) ?_
              refine F.nil ?_
              refine Nrm.round ?_
              refine Rnd.only [1, 24, 25, 26] rfl ?_
              refine Rnd.pick [0] rfl rfl ?_
              exact ih_1 _ _ ⟨w64 (x26 + 1), hE_2, rfl, rfl⟩
          · rcases Bool.eq_false_or_eq_true (decide (t29.1 < 0)) with g34 | g34
            · replace hE_3 := if_tt g34 hE_3
              refine Tri.drawA mixedT Sep.up [(0, true), (1, true), (2, true), (3, true), (4, true), (5, true), (6, true), (7, true), (8, true), (9, true), (10, true), (11, true), (12, true), (13, true), (14, true), (15, true), (16, true), (17, true), (18, true), (19, true), (20, true), (21, true), (22, true), (23, true), (24, true), (25, true), (26, true), (27, true), (28, true), (29, true), (30, true), (31, true), (32, true), (33, true), (34, true), (35, true), (36, true), (37, true)] [] (by kernel_rfl) ?_
              refine S.q rfl rfl rfl (wanted_none rfl) (r_indexAddrA Try.underlying116 ti3 rfl rfl (by decide) (by decide)) ?_
              refine S.q rfl rfl rfl (wanted_none rfl) (r_load ta3 rfl (fun w hw => cell_1 (box_cells (i := 0) rfl w hw) rfl)) ?_
              refine S.q rfl rfl rfl (wanted_none rfl) (r_lss rfl rfl) ?_
              refine S.q rfl rfl rfl (wanted_none rfl) (r_move rfl) ?_
              refine S.sk rfl rfl rfl (wf rfl rfl rfl g34) ?_
              refine S.sk rfl rfl rfl (wf rfl rfl rfl g34) ?_
              refine S.sk rfl rfl rfl (wf rfl rfl rfl g34) ?_
              refine S.sk rfl rfl rfl (wf rfl rfl rfl g34) ?_
              refine S.sk rfl rfl rfl (wf rfl rfl rfl g34) ?_
              refine S.q rfl rfl rfl (wanted_none rfl) (r_pick rfl rfl g34) ?_
              refine S.q rfl rfl rfl (wanted_none rfl) (r_move rfl) ?_
              refine S.sk rfl rfl rfl (wf rfl rfl rfl rfl) ?_
              refine S.sk rfl rfl rfl (wf rfl rfl rfl rfl) ?_
              refine S.sk rfl rfl rfl (wf rfl rfl rfl rfl) ?_
              refine S.sk rfl rfl rfl (wf rfl rfl rfl rfl) ?_
              refine S.sk rfl rfl rfl (wf rfl rfl rfl rfl) ?_
              refine S.q rfl rfl rfl (wanted_none rfl) (r_pick rfl rfl rfl) ?_
              refine S.q rfl rfl rfl (wanted_none rfl) (r_move rfl) ?_
              refine S.sk rfl rfl rfl (wf rfl rfl rfl rfl) ?_
              refine S.sk rfl rfl rfl (wf rfl rfl rfl rfl) ?_
              refine S.sk rfl rfl rfl (wf rfl rfl rfl rfl) ?_
              refine S.sk rfl rfl rfl (wf rfl rfl rfl rfl) ?_
              refine S.q rfl rfl rfl (wanted_none rfl) (r_pick rfl rfl rfl) ?_
              refine S.q rfl rfl rfl (wanted_none rfl) (r_move rfl) ?_
              refine S.sk rfl rfl rfl (wf rfl rfl rfl rfl) ?_
              refine S.sk rfl rfl rfl (wf rfl rfl rfl rfl) ?_
              refine S.sk rfl rfl rfl (wf rfl rfl rfl rfl) ?_
              refine S.sk rfl rfl rfl (wanted_undef rfl rfl rfl) ?_
              refine S.sk rfl rfl rfl (wanted_undef rfl rfl rfl) ?_
              refine S.sk rfl rfl rfl (wanted_undef rfl rfl rfl) ?_
              refine S.sk rfl rfl rfl (wanted_undef rfl rfl rfl) ?_
              refine S.sk rfl rfl rfl (wanted_undef rfl rfl rfl) ?_
              refine S.sk rfl rfl rfl (wanted_undef rfl rfl rfl) ?_
              refine S.sk rfl rfl rfl (wanted_undef rfl rfl rfl) ?_
              refine S.sk rfl rfl rfl (wanted_undef rfl rfl rfl) ?_
              refine S.sk rfl rfl rfl (wanted_undef rfl rfl rfl) ?_
              refine S.sk rfl rfl rfl (wf rfl rfl rfl rfl) ?_
              refine S.q rfl rfl rfl (wanted_none rfl) (r_pick rfl rfl rfl) ?_
              refine S.nil ?_
              refine F.nil ?_
              cases hE_3
              refine Nrm.only [1, 24, 25, 26, 68] rfl ?_
              refine Nrm.pick [1] rfl rfl ?_
              exact hj_2 _ _ ⟨rfl, rfl⟩
            · replace hE_3 := if_ff g34 hE_3
              rcases Bool.eq_false_or_eq_true (decide (t29.1 ≥ t29.2.1)) with g41 | g41
              · replace hE_3 := if_tt g41 hE_3
                refine Tri.drawA mixedT Sep.up [(0, true), (1, true), (2, true), (3, true), (4, true), (5, true), (6, true), (7, true), (8, true), (9, true), (10, true), (11, true), (12, true), (13, true), (14, true), (15, true), (16, true), (17, true), (18, true), (19, true), (20, true), (21, true), (22, true), (23, true), (24, true), (25, true), (26, true), (27, true), (28, true), (29, true), (30, true), (31, true), (32, true), (33, true), (34, true), (35, true), (36, true), (37, true)] [] (by kernel_rfl) ?_
                refine S.q rfl rfl rfl (wanted_none rfl) (r_indexAddrA Try.underlying116 ti3 rfl rfl (by decide) (by decide)) ?_
                refine S.q rfl rfl rfl (wanted_none rfl) (r_load ta3 rfl (fun w hw => cell_1 (box_cells (i := 0) rfl w hw) rfl)) ?_
                refine S.q rfl rfl rfl (wanted_none rfl) (r_lss rfl rfl) ?_
                refine S.q rfl rfl rfl (wanted_none rfl) (r_move rfl) ?_
                refine S.q rfl rfl rfl (wg rfl rfl rfl g34) (r_indexAddrA Try.underlying116 ti3 rfl rfl (by decide) (by decide)) ?_
                refine S.q rfl rfl rfl (wg rfl rfl rfl g34) (r_load ta3 rfl (fun w hw => cell_1 (box_cells (i := 0) rfl w hw) rfl)) ?_
                refine S.q rfl rfl rfl (wg rfl rfl rfl g34) (r_indexAddrA Try.underlying116 ti3 rfl rfl (by decide) (by decide)) ?_
                refine S.q rfl rfl rfl (wg rfl rfl rfl g34) (r_load ta3 rfl (fun w hw => cell_1 (box_cells (i := 0) rfl w hw) rfl)) ?_
                refine S.q rfl rfl rfl (wg rfl rfl rfl g34) (r_geq rfl rfl) ?_
                refine S.q rfl rfl rfl (wanted_none rfl) (r_pickf rfl rfl g34) ?_
                refine S.q rfl rfl rfl (wanted_none rfl) (r_move rfl) ?_
                refine S.sk rfl rfl rfl (wf rfl rfl rfl g41) ?_
                refine S.sk rfl rfl rfl (wf rfl rfl rfl g41) ?_
                refine S.sk rfl rfl rfl (wf rfl rfl rfl g41) ?_
                refine S.sk rfl rfl rfl (wf rfl rfl rfl g41) ?_
                refine S.sk rfl rfl rfl (wf rfl rfl rfl g41) ?_
                refine S.q rfl rfl rfl (wanted_none rfl) (r_pick rfl rfl g41) ?_
                refine S.q rfl rfl rfl (wanted_none rfl) (r_move rfl) ?_
                refine S.sk rfl rfl rfl (wf rfl rfl rfl rfl) ?_
                refine S.sk rfl rfl rfl (wf rfl rfl rfl rfl) ?_
                refine S.sk rfl rfl rfl (wf rfl rfl rfl rfl) ?_
                refine S.sk rfl rfl rfl (wf rfl rfl rfl rfl) ?_
                refine S.q rfl rfl rfl (wanted_none rfl) (r_pick rfl rfl rfl) ?_
                refine S.q rfl rfl rfl (wanted_none rfl) (r_move rfl) ?_
                refine S.sk rfl rfl rfl (wf rfl rfl rfl rfl) ?_
                refine S.sk rfl rfl rfl (wf rfl rfl rfl rfl) ?_
                refine S.sk rfl rfl rfl (wf rfl rfl rfl rfl) ?_
                refine S.sk rfl rfl rfl (wanted_undef rfl rfl rfl) ?_
                refine S.sk rfl rfl rfl (wanted_undef rfl rfl rfl) ?_
                refine S.sk rfl rfl rfl (wanted_undef rfl rfl rfl) ?_
                refine S.sk rfl rfl rfl (wanted_undef rfl rfl rfl) ?_
                refine S.sk rfl rfl rfl (wanted_undef rfl rfl rfl) ?_
                refine S.sk rfl rfl rfl (wanted_undef rfl rfl rfl) ?_
                refine S.sk rfl rfl rfl (wanted_undef rfl rfl rfl) ?_
                refine S.sk rfl rfl rfl (wanted_undef rfl rfl rfl) ?_
                refine S.sk rfl rfl rfl (wanted_undef rfl rfl rfl) ?_
                refine S.sk rfl rfl rfl (wf rfl rfl rfl rfl) ?_
                refine S.q rfl rfl rfl (wanted_none rfl) (r_pick rfl rfl rfl) ?_
                refine S.nil ?_
                refine F.nil ?_
                cases hE_3
                refine Nrm.only [1, 24, 25, 26, 68] rfl ?_
                refine Nrm.pick [1] rfl rfl ?_
                exact hj_2 _ _ ⟨rfl, rfl⟩
              · replace hE_3 := if_ff g41 hE_3
                rcases Bool.eq_false_or_eq_true (decide (t29.2.1 ≥ a0_0)) with g48 | g48
                · replace hE_3 := if_tt g48 hE_3
                  refine Tri.drawA mixedT Sep.up [(0, true), (1, true), (2, true), (3, true), (4, true), (5, true), (6, true), (7, true), (8, true), (9, true), (10, true), (11, true), (12, true), (13, true), (14, true), (15, true), (16, true), (17, true), (18, true), (19, true), (20, true), (21, true), (22, true), (23, true), (24, true), (25, true), (26, true), (27, true), (28, true), (29, true), (30, true), (31, true), (32, true), (33, true), (34, true), (35, true), (36, true), (37, true)] [] (by kernel_rfl) ?_
                  refine S.q rfl rfl rfl (wanted_none rfl) (r_indexAddrA Try.underlying116 ti3 rfl rfl (by decide) (by decide)) ?_
                  refine S.q rfl rfl rfl (wanted_none rfl) (r_load ta3 rfl (fun w hw => cell_1 (box_cells (i := 0) rfl w hw) rfl)) ?_
                  refine S.q rfl rfl rfl (wanted_none rfl) (r_lss rfl rfl) ?_
                  refine S.q rfl rfl rfl (wanted_none rfl) (r_move rfl) ?_
                  refine S.q rfl rfl rfl (wg rfl rfl rfl g34) (r_indexAddrA Try.underlying116 ti3 rfl rfl (by decide) (by decide)) ?_
                  refine S.q rfl rfl rfl (wg rfl rfl rfl g34) (r_load ta3 rfl (fun w hw => cell_1 (box_cells (i := 0) rfl w hw) rfl)) ?_
                  refine S.q rfl rfl rfl (wg rfl rfl rfl g34) (r_indexAddrA Try.underlying116 ti3 rfl rfl (by decide) (by decide)) ?_
                  refine S.q rfl rfl rfl (wg rfl rfl rfl g34) (r_load ta3 rfl (fun w hw => cell_1 (box_cells (i := 0) rfl w hw) rfl)) ?_
                  refine S.q rfl rfl rfl (wg rfl rfl rfl g34) (r_geq rfl rfl) ?_
                  refine S.q rfl rfl rfl (wanted_none rfl) (r_pickf rfl rfl g34) ?_
                  refine S.q rfl rfl rfl (wanted_none rfl) (r_move rfl) ?_
                  refine S.q rfl rfl rfl (wg rfl rfl rfl g41) (r_indexAddrA Try.underlying116 ti3 rfl rfl (by decide) (by decide)) ?_
                  refine S.q rfl rfl rfl (wg rfl rfl rfl g41) (r_load ta3 rfl (fun w hw => cell_1 (box_cells (i := 0) rfl w hw) rfl)) ?_
                  refine S.q rfl rfl rfl (wg rfl rfl rfl g41) (r_fieldAddr tf31_0 rfl) ?_
                  refine S.q rfl rfl rfl (wg rfl rfl rfl g41) (r_load ta3 rfl (fun w hw => cell_1 (box_cells (i := 1) rfl w hw) rfl)) ?_
                  refine S.q rfl rfl rfl (wg rfl rfl rfl g41) (r_geq rfl rfl) ?_
                  refine S.q rfl rfl rfl (wanted_none rfl) (r_pickf rfl rfl g41) ?_
                  refine S.q rfl rfl rfl (wanted_none rfl) (r_move rfl) ?_
                  refine S.sk rfl rfl rfl (wf rfl rfl rfl g48) ?_
                  refine S.sk rfl rfl rfl (wf rfl rfl rfl g48) ?_
                  refine S.sk rfl rfl rfl (wf rfl rfl rfl g48) ?_
                  refine S.sk rfl rfl rfl (wf rfl rfl rfl g48) ?_
                  refine S.q rfl rfl rfl (wanted_none rfl) (r_pick rfl rfl g48) ?_
                  refine S.q rfl rfl rfl (wanted_none rfl) (r_move rfl) ?_
                  refine S.sk rfl rfl rfl (wf rfl rfl rfl rfl) ?_
                  refine S.sk rfl rfl rfl (wf rfl rfl rfl rfl) ?_
                  refine S.sk rfl rfl rfl (wf rfl rfl rfl rfl) ?_
                  refine S.sk rfl rfl rfl (wanted_undef rfl rfl rfl) ?_
                  refine S.sk rfl rfl rfl (wanted_undef rfl rfl rfl) ?_
                  refine S.sk rfl rfl rfl (wanted_undef rfl rfl rfl) ?_
                  refine S.sk rfl rfl rfl (wanted_undef rfl rfl rfl) ?_
                  refine S.sk rfl rfl rfl (wanted_undef rfl rfl rfl) ?_
                  refine S.sk rfl rfl rfl (wanted_undef rfl rfl rfl) ?_
                  refine S.sk rfl rfl rfl (wanted_undef rfl rfl rfl) ?_
                  refine S.sk rfl rfl rfl (wanted_undef rfl rfl rfl) ?_
                  refine S.sk rfl rfl rfl (wanted_undef rfl rfl rfl) ?_
                  refine S.sk rfl rfl rfl (wf rfl rfl rfl rfl) ?_
                  refine S.q rfl rfl rfl (wanted_none rfl) (r_pick rfl rfl rfl) ?_
                  refine S.nil ?_
                  refine F.nil ?_
                  cases hE_3
                  refine Nrm.only [1, 24, 25, 26, 68] rfl ?_
                  refine Nrm.pick [1] rfl rfl ?_
                  exact hj_2 _ _ ⟨rfl, rfl⟩
                · replace hE_3 := if_ff g48 hE_3
                  obtain ⟨t51, h51, hE_3⟩ := bind_some hE_3
                  rcases Bool.eq_false_or_eq_true (!t51) with g54 | g54
                  · replace hE_3 := if_tt g54 hE_3
                    refine Tri.drawA mixedT Sep.up [(0, true), (1, true), (2, true), (3, true), (4, true), (5, true), (6, true), (7, true), (8, true), (9, true), (10, true), (11, true), (12, true), (13, true), (14, true), (15, true), (16, true), (17, true), (18, true), (19, true), (20, true), (21, true), (22, true), (23, true), (24, true), (25, true), (26, true), (27, true), (28, true), (29, true), (30, true), (31, true), (32, true), (33, true), (34, true), (35, true), (36, true), (37, true)] [] (by kernel_rfl) ?_
                    refine S.q rfl rfl rfl (wanted_none rfl) (r_indexAddrA Try.underlying116 ti3 rfl rfl (by decide) (by decide)) ?_
                    refine S.q rfl rfl rfl (wanted_none rfl) (r_load ta3 rfl (fun w hw => cell_1 (box_cells (i := 0) rfl w hw) rfl)) ?_
                    refine S.q rfl rfl rfl (wanted_none rfl) (r_lss rfl rfl) ?_
                    refine S.q rfl rfl rfl (wanted_none rfl) (r_move rfl) ?_
                    refine S.q rfl rfl rfl (wg rfl rfl rfl g34) (r_indexAddrA Try.underlying116 ti3 rfl rfl (by decide) (by decide)) ?_
                    refine S.q rfl rfl rfl (wg rfl rfl rfl g34) (r_load ta3 rfl (fun w hw => cell_1 (box_cells (i := 0) rfl w hw) rfl)) ?_
                    refine S.q rfl rfl rfl (wg rfl rfl rfl g34) (r_indexAddrA Try.underlying116 ti3 rfl rfl (by decide) (by decide)) ?_
                    refine S.q rfl rfl rfl (wg rfl rfl rfl g34) (r_load ta3 rfl (fun w hw => cell_1 (box_cells (i := 0) rfl w hw) rfl)) ?_
                    refine S.q rfl rfl rfl (wg rfl rfl rfl g34) (r_geq rfl rfl) ?_
                    refine S.q rfl rfl rfl (wanted_none rfl) (r_pickf rfl rfl g34) ?_
                    refine S.q rfl rfl rfl (wanted_none rfl) (r_move rfl) ?_
                    refine S.q rfl rfl rfl (wg rfl rfl rfl g41) (r_indexAddrA Try.underlying116 ti3 rfl rfl (by decide) (by decide)) ?_
                    refine S.q rfl rfl rfl (wg rfl rfl rfl g41) (r_load ta3 rfl (fun w hw => cell_1 (box_cells (i := 0) rfl w hw) rfl)) ?_
                    refine S.q rfl rfl rfl (wg rfl rfl rfl g41) (r_fieldAddr tf31_0 rfl) ?_
                    refine S.q rfl rfl rfl (wg rfl rfl rfl g41) (r_load ta3 rfl (fun w hw => cell_1 (box_cells (i := 1) rfl w hw) rfl)) ?_
                    refine S.q rfl rfl rfl (wg rfl rfl rfl g41) (r_geq rfl rfl) ?_
                    refine S.q rfl rfl rfl (wanted_none rfl) (r_pickf rfl rfl g41) ?_
                    refine S.q rfl rfl rfl (wanted_none rfl) (r_move rfl) ?_
                    refine S.q rfl rfl rfl (wg rfl rfl rfl g48) (r_indexAddrA Try.underlying116 ti3 rfl rfl (by decide) (by decide)) ?_
                    refine S.q rfl rfl rfl (wg rfl rfl rfl g48) (r_load ta3 rfl (fun w hw => cell_1 (box_cells (i := 0) rfl w hw) rfl)) ?_
                    refine S.qc rfl rfl rfl (wg rfl rfl rfl g48) (q_callF (xs := _) rfl ok101 rfl rfl (fun w hw => impl_isSet.ok h51 w )) ?_
                    refine S.q rfl rfl rfl (wg rfl rfl rfl g48) (r_not rfl) ?_
                    refine S.q rfl rfl rfl (wanted_none rfl) (r_pickf rfl rfl g48) ?_
                    refine S.q rfl rfl rfl (wanted_none rfl) (r_move rfl) ?_
                    refine S.sk rfl rfl rfl (wf rfl rfl rfl g54) ?_
                    refine S.sk rfl rfl rfl (wf rfl rfl rfl g54) ?_
                    refine S.sk rfl rfl rfl (wf rfl rfl rfl g54) ?_
                    refine S.sk rfl rfl rfl (wanted_undef rfl rfl rfl) ?_
                    refine S.sk rfl rfl rfl (wanted_undef rfl rfl rfl) ?_
                    refine S.sk rfl rfl rfl (wanted_undef rfl rfl rfl) ?_
                    refine S.sk rfl rfl rfl (wanted_undef rfl rfl rfl) ?_
                    refine S.sk rfl rfl rfl (wanted_undef rfl rfl rfl) ?_
                    refine S.sk rfl rfl rfl (wanted_undef rfl rfl rfl) ?_
                    refine S.sk rfl rfl rfl (wanted_undef rfl rfl rfl) ?_
                    refine S.sk rfl rfl rfl (wanted_undef rfl rfl rfl) ?_
                    refine S.sk rfl rfl rfl (wanted_undef rfl rfl rfl) ?_
                    refine S.sk rfl rfl rfl (wf rfl rfl rfl g54) ?_
                    refine S.q rfl rfl rfl (wanted_none rfl) (r_pick rfl rfl g54) ?_
                    refine S.nil ?_
                    refine F.nil ?_
                    cases hE_3
                    refine Nrm.only [1, 24, 25, 26, 68] rfl ?_
                    refine Nrm.pick [1] rfl rfl ?_
                    exact hj_2 _ _ ⟨rfl, rfl⟩
                  · replace hE_3 := if_ff g54 hE_3
                    rcases Bool.eq_false_or_eq_true (decide (x26 > 0)) with g57 | g57
                    · replace hE_3 := if_tt g57 hE_3
                      obtain ⟨t62, h62, hE_3⟩ := bind_some hE_3
                      obtain ⟨t65, h65, hE_3⟩ := bind_some hE_3
                      refine Tri.drawA mixedT Sep.up [(0, true), (1, true), (2, true), (3, true), (4, true), (5, true), (6, true), (7, true), (8, true), (9, true), (10, true), (11, true), (12, true), (13, true), (14, true), (15, true), (16, true), (17, true), (18, true), (19, true), (20, true), (21, true), (22, true), (23, true), (24, true), (25, true), (26, true), (27, true), (28, true), (29, true), (30, true), (31, true), (32, true), (33, true), (34, true), (35, true), (36, true), (37, true)] [] (by kernel_rfl) ?_
                      refine S.q rfl rfl rfl (wanted_none rfl) (r_indexAddrA Try.underlying116 ti3 rfl rfl (by decide) (by decide)) ?_
                      refine S.q rfl rfl rfl (wanted_none rfl) (r_load ta3 rfl (fun w hw => cell_1 (box_cells (i := 0) rfl w hw) rfl)) ?_
                      refine S.q rfl rfl rfl (wanted_none rfl) (r_lss rfl rfl) ?_
                      refine S.q rfl rfl rfl (wanted_none rfl) (r_move rfl) ?_
                      refine S.q rfl rfl rfl (wg rfl rfl rfl g34) (r_indexAddrA Try.underlying116 ti3 rfl rfl (by decide) (by decide)) ?_
                      refine S.q rfl rfl rfl (wg rfl rfl rfl g34) (r_load ta3 rfl (fun w hw => cell_1 (box_cells (i := 0) rfl w hw) rfl)) ?_
                      refine S.q rfl rfl rfl (wg rfl rfl rfl g34) (r_indexAddrA Try.underlying116 ti3 rfl rfl (by decide) (by decide)) ?_
                      refine S.q rfl rfl rfl (wg rfl rfl rfl g34) (r_load ta3 rfl (fun w hw => cell_1 (box_cells (i := 0) rfl w hw) rfl)) ?_
                      refine S.q rfl rfl rfl (wg rfl rfl rfl g34) (r_geq rfl rfl) ?_
                      refine S.q rfl rfl rfl (wanted_none rfl) (r_pickf rfl rfl g34) ?_
                      refine S.q rfl rfl rfl (wanted_none rfl) (r_move rfl) ?_
                      refine S.q rfl rfl rfl (wg rfl rfl rfl g41) (r_indexAddrA Try.underlying116 ti3 rfl rfl (by decide) (by decide)) ?_
                      refine S.q rfl rfl rfl (wg rfl rfl rfl g41) (r_load ta3 rfl (fun w hw => cell_1 (box_cells (i := 0) rfl w hw) rfl)) ?_
                      refine S.q rfl rfl rfl (wg rfl rfl rfl g41) (r_fieldAddr tf31_0 rfl) ?_
                      refine S.q rfl rfl rfl (wg rfl rfl rfl g41) (r_load ta3 rfl (fun w hw => cell_1 (box_cells (i := 1) rfl w hw) rfl)) ?_
                      refine S.q rfl rfl rfl (wg rfl rfl rfl g41) (r_geq rfl rfl) ?_
                      refine S.q rfl rfl rfl (wanted_none rfl) (r_pickf rfl rfl g41) ?_
                      refine S.q rfl rfl rfl (wanted_none rfl) (r_move rfl) ?_
                      refine S.q rfl rfl rfl (wg rfl rfl rfl g48) (r_indexAddrA Try.underlying116 ti3 rfl rfl (by decide) (by decide)) ?_
                      refine S.q rfl rfl rfl (wg rfl rfl rfl g48) (r_load ta3 rfl (fun w hw => cell_1 (box_cells (i := 0) rfl w hw) rfl)) ?_
                      refine S.qc rfl rfl rfl (wg rfl rfl rfl g48) (q_callF (xs := _) rfl ok101 rfl rfl (fun w hw => impl_isSet.ok h51 w )) ?_
                      refine S.q rfl rfl rfl (wg rfl rfl rfl g48) (r_not rfl) ?_
                      refine S.q rfl rfl rfl (wanted_none rfl) (r_pickf rfl rfl g48) ?_
                      refine S.q rfl rfl rfl (wanted_none rfl) (r_move rfl) ?_
                      refine S.q rfl rfl rfl (wg rfl rfl rfl g54) (r_move rfl) ?_
                      refine S.q rfl rfl rfl (wg rfl rfl rfl g54) (r_gtr rfl rfl) ?_
                      refine S.q rfl rfl rfl (wg rfl rfl rfl g54) (r_move rfl) ?_
                      refine S.q rfl rfl rfl (wg rfl rfl rfl g57) (r_fieldAddr tf31_1 rfl) ?_
                      refine S.q rfl rfl rfl (wg rfl rfl rfl g57) (r_load ta22 rfl (fun w hw => cell_1 (box_cells (i := 1) rfl w hw) rfl)) ?_
                      refine S.q rfl rfl rfl (wg rfl rfl rfl g57) (r_move rfl) ?_
                      refine S.q rfl rfl rfl (wg rfl rfl rfl g57) (r_sub rfl rfl) ?_
                      refine S.q rfl rfl rfl (wg rfl rfl rfl g57) (r_indexAddrS Try.underlying22 ti116 rfl hl_va0_1 rfl (rdl_some h62).1 (rdl_some h62).2.1) ?_
                      refine S.q rfl rfl rfl (wg rfl rfl rfl g57) (r_loadA ta116 ti116 rfl rfl (fun w hw => (Rd.flat ((fun _ hw => hr_a0_1.sep hw) w hw) (rdl_some h62).2.2))) ?_
                      refine S.q rfl rfl rfl (wg rfl rfl rfl g57) (r_loadA ta116 ti116 rfl rfl (fun w hw => (box_cells (i := 0) rfl w hw))) ?_
                      refine S.qc rfl rfl rfl (wg rfl rfl rfl g57) (q_callF (xs := _) rfl ok135 rfl rfl (fun w hw => impl_compareDoors.ok h65 w )) ?_
                      refine S.q rfl rfl rfl (wg rfl rfl rfl g57) (r_geq rfl rfl) ?_
                      refine S.q rfl rfl rfl (wg rfl rfl rfl g54) (r_pick rfl rfl g57) ?_
                      refine S.q rfl rfl rfl (wanted_none rfl) (r_pickf rfl rfl g54) ?_
                      refine S.nil ?_
                      refine F.nil ?_
                      cases hE_3
                      refine Nrm.only [1, 24, 25, 26, 68] rfl ?_
                      refine Nrm.pick [1] rfl rfl ?_
                      exact hj_2 _ _ ⟨rfl, rfl⟩
                    · replace hE_3 := if_ff g57 hE_3
                      refine Tri.drawA mixedT Sep.up [(0, true), (1, true), (2, true), (3, true), (4, true), (5, true), (6, true), (7, true), (8, true), (9, true), (10, true), (11, true), (12, true), (13, true), (14, true), (15, true), (16, true), (17, true), (18, true), (19, true), (20, true), (21, true), (22, true), (23, true), (24, true), (25, true), (26, true), (27, true), (28, true), (29, true), (30, true), (31, true), (32, true), (33, true), (34, true), (35, true), (36, true), (37, true)] [] (by kernel_rfl) ?_
                      refine S.q rfl rfl rfl (wanted_none rfl) (r_indexAddrA Try.underlying116 ti3 rfl rfl (by decide) (by decide)) ?_
                      refine S.q rfl rfl rfl (wanted_none rfl) (r_load ta3 rfl (fun w hw => cell_1 (box_cells (i := 0) rfl w hw) rfl)) ?_
                      refine S.q rfl rfl rfl (wanted_none rfl) (r_lss rfl rfl) ?_
                      refine S.q rfl rfl rfl (wanted_none rfl) (r_move rfl) ?_
                      refine S.q rfl rfl rfl (wg rfl rfl rfl g34) (r_indexAddrA Try.underlying116 ti3 rfl rfl (by decide) (by decide)) ?_
                      refine S.q rfl rfl rfl (wg rfl rfl rfl g34) (r_load ta3 rfl (fun w hw => cell_1 (box_cells (i := 0) rfl w hw) rfl)) ?_
                      refine S.q rfl rfl rfl (wg rfl rfl rfl g34) (r_indexAddrA Try.underlying116 ti3 rfl rfl (by decide) (by decide)) ?_
                      refine S.q rfl rfl rfl (wg rfl rfl rfl g34) (r_load ta3 rfl (fun w hw => cell_1 (box_cells (i := 0) rfl w hw) rfl)) ?_
                      refine S.q rfl rfl rfl (wg rfl rfl rfl g34) (r_geq rfl rfl) ?_
                      refine S.q rfl rfl rfl (wanted_none rfl) (r_pickf rfl rfl g34) ?_
                      refine S.q rfl rfl rfl (wanted_none rfl) (r_move rfl) ?_
                      refine S.q rfl rfl rfl (wg rfl rfl rfl g41) (r_indexAddrA Try.underlying116 ti3 rfl rfl (by decide) (by decide)) ?_
                      refine S.q rfl rfl rfl (wg rfl rfl rfl g41) (r_load ta3 rfl (fun w hw => cell_1 (box_cells (i := 0) rfl w hw) rfl)) ?_
                      refine S.q rfl rfl rfl (wg rfl rfl rfl g41) (r_fieldAddr tf31_0 rfl) ?_
                      refine S.q rfl rfl rfl (wg rfl rfl rfl g41) (r_load ta3 rfl (fun w hw => cell_1 (box_cells (i := 1) rfl w hw) rfl)) ?_
                      refine S.q rfl rfl rfl (wg rfl rfl rfl g41) (r_geq rfl rfl) ?_
                      refine S.q rfl rfl rfl (wanted_none rfl) (r_pickf rfl rfl g41) ?_
                      refine S.q rfl rfl rfl (wanted_none rfl) (r_move rfl) ?_
                      refine S.q rfl rfl rfl (wg rfl rfl rfl g48) (r_indexAddrA Try.underlying116 ti3 rfl rfl (by decide) (by decide)) ?_
                      refine S.q rfl rfl rfl (wg rfl rfl rfl g48) (r_load ta3 rfl (fun w hw => cell_1 (box_cells (i := 0) rfl w hw) rfl)) ?_
                      refine S.qc rfl rfl rfl (wg rfl rfl rfl g48) (q_callF (xs := _) rfl ok101 rfl rfl (fun w hw => impl_isSet.ok h51 w )) ?_
                      refine S.q rfl rfl rfl (wg rfl rfl rfl g48) (r_not rfl) ?_
                      refine S.q rfl rfl rfl (wanted_none rfl) (r_pickf rfl rfl g48) ?_
                      refine S.q rfl rfl rfl (wanted_none rfl) (r_move rfl) ?_
                      refine S.q rfl rfl rfl (wg rfl rfl rfl g54) (r_move rfl) ?_
                      refine S.q rfl rfl rfl (wg rfl rfl rfl g54) (r_gtr rfl rfl) ?_
                      refine S.q rfl rfl rfl (wg rfl rfl rfl g54) (r_move rfl) ?_
                      refine S.sk rfl rfl rfl (wf rfl rfl rfl g57) ?_
                      refine S.sk rfl rfl rfl (wf rfl rfl rfl g57) ?_
                      refine S.sk rfl rfl rfl (wf rfl rfl rfl g57) ?_
                      refine S.sk rfl rfl rfl (wf rfl rfl rfl g57) ?_
                      refine S.sk rfl rfl rfl (wf rfl rfl rfl g57) ?_
                      refine S.sk rfl rfl rfl (wf rfl rfl rfl g57) ?_
                      refine S.sk rfl rfl rfl (wf rfl rfl rfl g57) ?_
                      refine S.sk rfl rfl rfl (wf rfl rfl rfl g57) ?_
                      refine S.sk rfl rfl rfl (wf rfl rfl rfl g57) ?_
                      refine S.q rfl rfl rfl (wg rfl rfl rfl g54) (r_pickf rfl rfl g57) ?_
                      refine S.q rfl rfl rfl (wanted_none rfl) (r_pickf rfl rfl g54) ?_
                      refine S.nil ?_
                      refine F.nil ?_
                      cases hE_3
                      refine Nrm.only [1, 24, 25, 26, 68] rfl ?_
                      refine Nrm.pick [1] rfl rfl ?_
                      exact hj_2 _ _ ⟨rfl, rfl⟩
        · replace hE_2 := if_ff g_2 hE_2
          refine Tri.exit ?_
          refine Exi.then ?_
          refine Exi.then ?_
          refine Exi.same ?_
          cases hE_2
          replace h := Lr_inl h
          refine Nrm.seq ?_
          refine Tri.seq ?_
          obtain ⟨t72, h72, h⟩ := bind_some h
          refine Tri.reg (l := [0, 1, 2, 3, 4]) rfl ?_
          refine F.q rfl rfl rfl (wanted_none rfl) (r_fieldAddr tf31_2 rfl) ?_
          refine F.q rfl rfl rfl (wanted_none rfl) (r_load ta23 rfl (fun w hw => cell_1 (box_cells (i := 0) rfl w hw) rfl)) ?_
          refine F.qc rfl rfl rfl (wanted_none rfl) (q_callF (xs := _) rfl ok118 rfl rfl (fun w hw => slices_ContainsFunc_int_int.ok h72 w ((fun _ hw => hr_a0_2.sep hw) w hw) ok136 (fun w2 he2 z0 y2 hy2 => impl_IsMaze_1.ok hy2 w2 ))) ?_
          refine F.q rfl rfl rfl (wanted_none rfl) (r_not rfl) ?_
          refine F.q rfl rfl rfl (wanted_none rfl) (r_assign rfl) ?_
          refine F.nil ?_
          refine Nrm.seq ?_
          refine Tri.ret ?_
          cases h
          exact Rtn.body (.tmp rfl .nil) (fun w hw => ⟨rfl, hw.ext⟩)
  · obtain ⟨t7, h7, hE_1⟩ := bind_some hE_1
    rcases Bool.eq_false_or_eq_true (!t7) with g9 | g9
    · replace hE_1 := if_tt g9 hE_1
      refine Tri.reg (l := [0, 1, 2, 3, 4, 5, 6, 7, 8, 9, 10, 11, 12, 13, 14, 15, 16, 17]) rfl ?_
      refine F.q rfl rfl rfl (wanted_none rfl) (r_fieldAddr tf31_0 rfl) ?_
      refine F.q rfl rfl rfl (wanted_none rfl) (r_load ta3 rfl (fun w hw => cell_1 (box_cells (i := 0) rfl w hw) rfl)) ?_
      refine F.qc rfl rfl rfl (wanted_none rfl) (q_callF (xs := _) rfl ok92 rfl rfl (fun w hw => impl_within.ok h7 w )) ?_
      refine F.q rfl rfl rfl (wanted_none rfl) (r_not rfl) ?_
      refine F.q rfl rfl rfl (wanted_none rfl) (r_move rfl) ?_
      refine F.sk rfl rfl rfl (wf rfl rfl rfl g9) ?_
      refine F.sk rfl rfl rfl (wf rfl rfl rfl g9) ?_
      refine F.sk rfl rfl rfl (wf rfl rfl rfl g9) ?_
      refine F.sk rfl rfl rfl (wf rfl rfl rfl g9) ?_
      refine F.q rfl rfl rfl (wanted_none rfl) (r_pick rfl rfl g9) ?_
      refine F.q rfl rfl rfl (wanted_none rfl) (r_move rfl) ?_
      refine F.sk rfl rfl rfl (wf rfl rfl rfl rfl) ?_
      refine F.sk rfl rfl rfl (wf rfl rfl rfl rfl) ?_
      refine F.sk rfl rfl rfl (wf rfl rfl rfl rfl) ?_
      refine F.sk rfl rfl rfl (wf rfl rfl rfl rfl) ?_
      refine F.sk rfl rfl rfl (wf rfl rfl rfl rfl) ?_
      refine F.sk rfl rfl rfl (wf rfl rfl rfl rfl) ?_
      refine F.q rfl rfl rfl (wanted_none rfl) (r_pick rfl rfl rfl) ?_
      refine F.nil ?_
      cases hE_1
      refine Nrm.only [1, 22] rfl ?_
      refine Nrm.pick [0] rfl rfl ?_
      exact hj_1 _ _ ⟨rfl, rfl⟩
    · replace hE_1 := if_ff g9 hE_1
      rcases Bool.eq_false_or_eq_true (decide ((a0_1.length : Int) > 30)) with g15 | g15
      · replace hE_1 := if_tt g15 hE_1
        refine Tri.reg (l := [0, 1, 2, 3, 4, 5, 6, 7, 8, 9, 10, 11, 12, 13, 14, 15, 16, 17]) rfl ?_
        refine F.q rfl rfl rfl (wanted_none rfl) (r_fieldAddr tf31_0 rfl) ?_
        refine F.q rfl rfl rfl (wanted_none rfl) (r_load ta3 rfl (fun w hw => cell_1 (box_cells (i := 0) rfl w hw) rfl)) ?_
        refine F.qc rfl rfl rfl (wanted_none rfl) (q_callF (xs := _) rfl ok92 rfl rfl (fun w hw => impl_within.ok h7 w )) ?_
        refine F.q rfl rfl rfl (wanted_none rfl) (r_not rfl) ?_
        refine F.q rfl rfl rfl (wanted_none rfl) (r_move rfl) ?_
        refine F.q rfl rfl rfl (wg rfl rfl rfl g9) (r_fieldAddr tf31_1 rfl) ?_
        refine F.q rfl rfl rfl (wg rfl rfl rfl g9) (r_load ta22 rfl (fun w hw => cell_1 (box_cells (i := 0) rfl w hw) rfl)) ?_
        refine F.q rfl rfl rfl (wg rfl rfl rfl g9) (r_len Try.underlying22 rfl hl_va0_1) ?_
        refine F.q rfl rfl rfl (wg rfl rfl rfl g9) (r_gtr rfl rfl) ?_
        refine F.q rfl rfl rfl (wanted_none rfl) (r_pickf rfl rfl g9) ?_
        refine F.q rfl rfl rfl (wanted_none rfl) (r_move rfl) ?_
        refine F.sk rfl rfl rfl (wf rfl rfl rfl g15) ?_
        refine F.sk rfl rfl rfl (wf rfl rfl rfl g15) ?_
        refine F.sk rfl rfl rfl (wf rfl rfl rfl g15) ?_
        refine F.sk rfl rfl rfl (wf rfl rfl rfl g15) ?_
        refine F.sk rfl rfl rfl (wf rfl rfl rfl g15) ?_
        refine F.sk rfl rfl rfl (wf rfl rfl rfl g15) ?_
        refine F.q rfl rfl rfl (wanted_none rfl) (r_pick rfl rfl g15) ?_
        refine F.nil ?_
        cases hE_1
        refine Nrm.only [1, 22] rfl ?_
        refine Nrm.pick [0] rfl rfl ?_
        exact hj_1 _ _ ⟨rfl, rfl⟩
      · replace hE_1 := if_ff g15 hE_1
        refine Tri.reg (l := [0, 1, 2, 3, 4, 5, 6, 7, 8, 9, 10, 11, 12, 13, 14, 15, 16, 17]) rfl ?_
        refine F.q rfl rfl rfl (wanted_none rfl) (r_fieldAddr tf31_0 rfl) ?_
        refine F.q rfl rfl rfl (wanted_none rfl) (r_load ta3 rfl (fun w hw => cell_1 (box_cells (i := 0) rfl w hw) rfl)) ?_
        refine F.qc rfl rfl rfl (wanted_none rfl) (q_callF (xs := _) rfl ok92 rfl rfl (fun w hw => impl_within.ok h7 w )) ?_
        refine F.q rfl rfl rfl (wanted_none rfl) (r_not rfl) ?_
        refine F.q rfl rfl rfl (wanted_none rfl) (r_move rfl) ?_
        refine F.q rfl rfl rfl (wg rfl rfl rfl g9) (r_fieldAddr tf31_1 rfl) ?_
        refine F.q rfl rfl rfl (wg rfl rfl rfl g9) (r_load ta22 rfl (fun w hw => cell_1 (box_cells (i := 0) rfl w hw) rfl)) ?_
        refine F.q rfl rfl rfl (wg rfl rfl rfl g9) (r_len Try.underlying22 rfl hl_va0_1) ?_
        refine F.q rfl rfl rfl (wg rfl rfl rfl g9) (r_gtr rfl rfl) ?_
        refine F.q rfl rfl rfl (wanted_none rfl) (r_pickf rfl rfl g9) ?_
        refine F.q rfl rfl rfl (wanted_none rfl) (r_move rfl) ?_
        refine F.q rfl rfl rfl (wg rfl rfl rfl g15) (r_fieldAddr tf31_2 rfl) ?_
        refine F.q rfl rfl rfl (wg rfl rfl rfl g15) (r_load ta23 rfl (fun w hw => cell_1 (box_cells (i := 0) rfl w hw) rfl)) ?_
        refine F.q rfl rfl rfl (wg rfl rfl rfl g15) (r_len Try.underlying23 rfl hl_va0_2) ?_
        refine F.q rfl rfl rfl (wg rfl rfl rfl g15) (r_fieldAddr tf31_0 rfl) ?_
        refine F.q rfl rfl rfl (wg rfl rfl rfl g15) (r_load ta3 rfl (fun w hw => cell_1 (box_cells (i := 0) rfl w hw) rfl)) ?_
        refine F.q rfl rfl rfl (wg rfl rfl rfl g15) (r_neq rfl rfl) ?_
        refine F.q rfl rfl rfl (wanted_none rfl) (r_pickf rfl rfl g15) ?_
        refine F.nil ?_
        cases hE_1
        refine Nrm.only [1, 22] rfl ?_
        refine Nrm.pick [0] rfl rfl ?_
        exact hj_1 _ _ ⟨rfl, rfl⟩

end Go.Proofs

/- loop.example/g01158/impl.asked -/
namespace Go.Proofs
open Go Go.Ga
set_option linter.unusedVariables false
set_option maxRecDepth 100000
set_option maxHeartbeats 4000000
def impl_asked.f (k : Nat) (a0_0 : Int) (a0_1 : List (Int × Int × Int)) (a0_2 : List Int) (a1 : Int) : Option (Bool) := ((impl_IsMaze.f k a0_0 a0_1 a0_2).bind fun t6 => (if t6 = true then (impl_isSet.f k a1).bind fun t9 => some t9 else some false)).bind fun y4 => some y4

theorem impl_asked.ok {k : Nat}  {a0_0 : Int} {a0_1 : List (Int × Int × Int)} {a0_2 : List Int} {a1 : Int} {r0 : Bool} (h : impl_asked.f k a0_0 a0_1 a0_2 a1 = some r0) (w : World) {va0_1 : Value} {va0_2 : Value} (hr_a0_1 : Rd w va0_1 a0_1) (hr_a0_2 : Rd w va0_2 a0_2) :
    Calls Try.prog 65 ([.agg ([.int .i64 a0_0, va0_1, va0_2].toArray), .int .i64 a1] : List Value).toArray w (fun e w' => e = .returned (.bool r0) ∧ Ext w w') := by
  unfold impl_asked.f at h
  have hl_va0_1 := hr_a0_1.len
  have hl_va0_2 := hr_a0_2.len
  refine Calls.of_tri (N := 11) Try.func65 rfl rfl rfl (Sep.nil (M := noM)) ?_
  refine Tri.seq ?_
  refine Tri.reg (l := [0, 1]) rfl ?_
  refine F.m rfl rfl rfl (wanted_none rfl) (m_boxG rfl rfl) ?_
  rintro _ _ ⟨b2_1, rfl, rfl⟩
  refine F.q rfl rfl rfl (wanted_none rfl) (r_assign rfl) ?_
  refine F.nil ?_
  refine Nrm.seq ?_
  refine Tri.seq ?_
  obtain ⟨y4, hE_1, h⟩ := bind_some h
  refine Tri.cut (fun e' C' => e' = [(4, .bool y4)] ∧ C' = Sep w noM []) ?_ (fun hj_1 => ?_)
  · rintro _ _ ⟨rfl, rfl⟩
    refine Nrm.seq ?_
    refine Tri.ret ?_
    cases h
    exact Rtn.body (.tmp rfl .nil) (fun w hw => ⟨rfl, hw.ext⟩)
  · obtain ⟨t6, h6, hE_1⟩ := bind_some hE_1
    rcases Bool.eq_false_or_eq_true (t6) with g7 | g7
    · replace hE_1 := if_tt g7 hE_1
      obtain ⟨t9, h9, hE_1⟩ := bind_some hE_1
      refine Tri.reg (l := [0, 1, 2, 3, 4, 5, 6]) rfl ?_
      refine F.q rfl rfl rfl (wanted_none rfl) (r_loadA ta31 ti31 rfl rfl (fun w hw => (box_cells (i := 0) rfl w hw))) ?_
      refine F.qc rfl rfl rfl (wanted_none rfl) (q_callF (xs := _) rfl ok91 rfl rfl (fun w hw => impl_IsMaze.ok h6 w ((fun _ hw => hr_a0_1.sep hw) w hw) ((fun _ hw => hr_a0_2.sep hw) w hw))) ?_
      refine F.q rfl rfl rfl (wanted_none rfl) (r_move rfl) ?_
      refine F.q rfl rfl rfl (wg rfl rfl rfl g7) (r_move rfl) ?_
      refine F.qc rfl rfl rfl (wg rfl rfl rfl g7) (q_callF (xs := _) rfl ok101 rfl rfl (fun w hw => impl_isSet.ok h9 w )) ?_
      refine F.q rfl rfl rfl (wanted_none rfl) (r_pick rfl rfl g7) ?_
      refine F.q rfl rfl rfl (wanted_none rfl) (r_assign rfl) ?_
      refine F.nil ?_
      cases hE_1
      refine Nrm.only [4] rfl ?_
      refine Nrm.pick [] rfl rfl ?_
      exact hj_1 _ _ ⟨rfl, rfl⟩
    · replace hE_1 := if_ff g7 hE_1
      refine Tri.reg (l := [0, 1, 2, 3, 4, 5, 6]) rfl ?_
      refine F.q rfl rfl rfl (wanted_none rfl) (r_loadA ta31 ti31 rfl rfl (fun w hw => (box_cells (i := 0) rfl w hw))) ?_
      refine F.qc rfl rfl rfl (wanted_none rfl) (q_callF (xs := _) rfl ok91 rfl rfl (fun w hw => impl_IsMaze.ok h6 w ((fun _ hw => hr_a0_1.sep hw) w hw) ((fun _ hw => hr_a0_2.sep hw) w hw))) ?_
      refine F.q rfl rfl rfl (wanted_none rfl) (r_move rfl) ?_
      refine F.sk rfl rfl rfl (wf rfl rfl rfl g7) ?_
      refine F.sk rfl rfl rfl (wf rfl rfl rfl g7) ?_
      refine F.q rfl rfl rfl (wanted_none rfl) (r_pickf rfl rfl g7) ?_
      refine F.q rfl rfl rfl (wanted_none rfl) (r_assign rfl) ?_
      refine F.nil ?_
      cases hE_1
      refine Nrm.only [4] rfl ?_
      refine Nrm.pick [] rfl rfl ?_
      exact hj_1 _ _ ⟨rfl, rfl⟩

end Go.Proofs

/- slices.IndexFunc[[][]int,[]int] -/

namespace Go.Proofs
open Go Go.Ga
set_option linter.unusedVariables false
set_option maxRecDepth 100000
set_option maxHeartbeats 4000000
def slices_IndexFunc__int__int_sh.l0 (k : Nat) (a0 : List (Sh (Int))) (a1 : ((Sh (Int)) → Option (Bool))) : Nat → Int → Option ((Unit) ⊕ (Int))
  | 0, _ => none
  | n + 1, x8 => (if (decide (x8 < (a0.length : Int))) = true then (rdl a0 x8).bind fun t14 => (a1 t14).bind fun t16 => (if t16 = true then some (Sum.inr x8) else slices_IndexFunc__int__int_sh.l0 k a0 a1 n (w64 (x8 + 1))) else some (Sum.inl ()))

def slices_IndexFunc__int__int_sh.f (k : Nat) (a0 : List (Sh (Int))) (a1 : ((Sh (Int)) → Option (Bool))) : Option (Int) := (slices_IndexFunc__int__int_sh.l0 k a0 a1 k 0).bind fun s => Lr s some fun _ => some (-1)

theorem slices_IndexFunc__int__int_sh.ok {k : Nat}  {a0 : List (Sh (Int))} {a1 : ((Sh (Int)) → Option (Bool))} {r0 : Int} (h : slices_IndexFunc__int__int_sh.f k a0 a1 = some r0) (w : World) {va0 : Value} (hr_a0 : Rd w va0 a0) {fi_a1 : FuncId} {ca_a1 : Array Value} (ho_a1 : CallOk Try.prog fi_a1) (hf_a1 : ∀ w2, Ext w w2 → ∀ (z0 : Sh (Int)) (y : Bool), a1 z0 = some y → Calls Try.prog fi_a1 (([z0.v] : List Value) ++ ca_a1.toList).toArray w2 (fun e w3 => e = .returned (.bool y) ∧ Ext w2 w3)) :
    Calls Try.prog 146 ([va0, .func (.func fi_a1) #[] ca_a1] : List Value).toArray w (fun e w' => e = .returned (.int .i64 r0) ∧ Ext w w') := by
  unfold slices_IndexFunc__int__int_sh.f at h
  have hl_va0 := hr_a0.len
  refine Calls.of_tri (N := 19) Try.func146 rfl rfl rfl (Sep.nil (M := noM)) ?_
  refine Tri.seq ?_
  refine Tri.reg (l := [0]) rfl ?_
  refine F.q rfl rfl rfl (wanted_none rfl) (r_assign rfl) ?_
  refine F.nil ?_
  refine Nrm.seq ?_
  refine Tri.seq ?_
  refine Tri.seq ?_
  refine Tri.reg (l := [0, 1, 2]) rfl ?_
  refine F.q rfl rfl rfl (wanted_none rfl) (r_move rfl) ?_
  refine F.q rfl rfl rfl (wanted_none rfl) (r_len Try.underlying95 rfl hl_va0) ?_
  refine F.q rfl rfl rfl (wanted_none rfl) (r_move rfl) ?_
  refine F.nil ?_
  refine Nrm.seq ?_
  obtain ⟨s0, hE_1, h⟩ := bind_some h
  refine Tri.block ?_
  refine Tri.only [0, 1, 7, 8] rfl ?_
  refine Tri.pick [] rfl rfl ?_
  refine Tri.rounds (fun n e' C' => ∃ (x8' : Int), slices_IndexFunc__int__int_sh.l0 k a0 a1 n x8' = some s0 ∧ e' = [(0, va0), (1, .func (.func fi_a1) #[] ca_a1), (7, .int .i64 (a0.length : Int)), (8, .int .i64 x8')] ∧ C' = Sep w noM []) k ?_ ?_ ?_
  · exact ⟨0, hE_1, rfl, rfl⟩
  · rintro _ _ ⟨_, hE_1, _⟩
    rw [slices_IndexFunc__int__int_sh.l0.eq_1] at hE_1; cases hE_1
  · rintro n_1 _ _ ⟨x8, hE_1, rfl, rfl⟩ ih_1
    rw [slices_IndexFunc__int__int_sh.l0.eq_2] at hE_1
    refine Tri.seq ?_
    refine Tri.reg (l := [0]) rfl ?_
    refine F.q rfl rfl rfl (wanted_none rfl) (r_lss rfl rfl) ?_
    refine F.nil ?_
    refine Nrm.seq ?_
    refine Tri.seq ?_
    refine Tri.cond (b := decide (x8 < (a0.length : Int))) rfl (fun g_1 => ?_) (fun g_1 => ?_)
    · replace hE_1 := if_tt g_1 hE_1
      refine Tri.skip ?_
      refine Nrm.seq ?_
      refine Tri.seq ?_
      refine Tri.block ?_
      refine Tri.seq ?_
      refine Tri.reg (l := [0, 1]) rfl ?_
      refine F.q rfl rfl rfl (wanted_none rfl) (r_move rfl) ?_
      refine F.q rfl rfl rfl (wanted_none rfl) (r_assign rfl) ?_
      refine F.nil ?_
      refine Nrm.seq ?_
      refine Tri.seq ?_
      obtain ⟨t14, h14, hE_1⟩ := bind_some hE_1
      obtain ⟨t16, h16, hE_1⟩ := bind_some hE_1
      refine Tri.reg (l := [0, 1, 2, 3, 4, 5]) rfl ?_
      refine F.q rfl rfl rfl (wanted_none rfl) (r_move rfl) ?_
      refine F.q rfl rfl rfl (wanted_none rfl) (r_move rfl) ?_
      refine F.q rfl rfl rfl (wanted_none rfl) (r_move rfl) ?_
      refine F.q rfl rfl rfl (wanted_none rfl) (r_indexAddrS Try.underlying95 ti23 rfl hl_va0 rfl (rdl_some h14).1 (rdl_some h14).2.1) ?_
      refine F.q rfl rfl rfl (wanted_none rfl) (r_load ta23 rfl (fun w hw => cell_0 (Rd.flat ((fun _ hw => hr_a0.sep hw) w hw) (rdl_some h14).2.2) rfl)) ?_
      refine F.qc rfl rfl rfl (wanted_none rfl) (q_callC (xs := _) rfl ho_a1 rfl rfl (fun w hw => hf_a1 w hw.ext _  _ h16)) ?_
      refine F.nil ?_
      refine Nrm.seq ?_
      refine Tri.cond (b := t16) rfl (fun g_2 => ?_) (fun g_2 => ?_)
      · replace hE_1 := if_tt g_2 hE_1
        refine Tri.seq ?_
        refine Tri.reg (l := [0, 1]) rfl ?_
        refine F.q rfl rfl rfl (wanted_none rfl) (r_move rfl) ?_
        refine F.q rfl rfl rfl (wanted_none rfl) (r_assign rfl) ?_
        refine F.nil ?_
        refine Nrm.seq ?_
        refine Tri.ret ?_
        refine Rtn.block ?_
        refine Rtn.then ?_
        refine Rtn.then ?_
        refine Rtn.block ?_
        refine Rtn.then ?_
        cases hE_1
        replace h := Lr_inr h
        cases h
        exact Rtn.body (.tmp rfl .nil) (fun w hw => ⟨rfl, hw.ext⟩)
      · replace hE_1 := if_ff g_2 hE_1
        refine Tri.skip ?_
        refine Nrm.block ?_
        refine Nrm.seq ?_
        refine Tri.reg (l := [0, 1]) rfl ?_
        refine F.q rfl rfl rfl (wanted_none rfl) (r_add rfl rfl) ?_
        refine F.q rfl rfl rfl (wanted_none rfl) (r_move rfl) ?_
        refine F.nil ?_
        refine Nrm.round ?_
        refine Rnd.only [0, 1, 7, 8] rfl ?_
        refine Rnd.pick [] rfl rfl ?_
        exact ih_1 _ _ ⟨w64 (x8 + 1), hE_1, rfl, rfl⟩
    · replace hE_1 := if_ff g_1 hE_1
      refine Tri.exit ?_
      refine Exi.then ?_
      refine Exi.then ?_
      refine Exi.same ?_
      cases hE_1
      replace h := Lr_inl h
      refine Nrm.seq ?_
      refine Tri.seq ?_
      refine Tri.reg (l := [0]) rfl ?_
      refine F.q rfl rfl rfl (wanted_none rfl) (r_assign rfl) ?_
      refine F.nil ?_
      refine Nrm.seq ?_
      refine Tri.ret ?_
      cases h
      exact Rtn.body (.tmp rfl .nil) (fun w hw => ⟨rfl, hw.ext⟩)

end Go.Proofs

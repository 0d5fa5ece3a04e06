/- A part of the proof of FnFillings: what the functions of the program compute, walked on the model. No condition. -/
import Derived.Test.YtebbaacgalipaaaFnFillingsB
import Derived.Test.YtebbaacgalipaaaFnFillingsC
import Derived.Test.YtebbaacgalipaaaFnFillingsD
import Derived.Test.YtebbaacgalipaaaFnFillingsE
set_option linter.unusedSimpArgs false
/- loop.example/g01158/impl.DeepestFilling -/
namespace Go.Proofs
open Go Go.Ga
set_option linter.unusedVariables false
set_option maxRecDepth 100000
set_option maxHeartbeats 4000000
def impl_DeepestFilling.l0 (k : Nat) (a0_0 : Int) (a0_1 : List (Int × Int × Int)) (a0_2 : List Int) (a1 : Int) (y7 : List (List Int)) : Nat → Int → Int → Int → Option (Int × Int)
  | 0, _, _, _ => none
  | n + 1, x9, x10, x32 => (if (decide (x32 < (y7.length : Int))) = true then (rdl y7 x32).bind fun t35 => (impl_depth.f k a0_0 a0_1 a0_2 a1 t35).bind fun t39 => (if (decide (t39 > x10)) = true then some (x32, t39) else some (x9, x10)).bind fun (y9, y10) => impl_DeepestFilling.l0 k a0_0 a0_1 a0_2 a1 y7 n y9 y10 (w64 (x32 + 1)) else some (x9, x10))

def impl_DeepestFilling.f (k : Nat) (a0_0 : Int) (a0_1 : List (Int × Int × Int)) (a0_2 : List Int) (a1 : Int) : Option ((List Int) × Int × Bool) := (impl_wins.f k a0_0 a0_1 a0_2 a1).bind fun (t17_1, t17_2) => ((if (!t17_2) = true then some true else some ((t17_1.length : Int) == 0))).bind fun y26 => (if y26 = true then some ([], 0, false) else (rdl (t17_1 : List (List Int)) 0).bind fun _ => (impl_DeepestFilling.l0 k a0_0 a0_1 a0_2 a1 t17_1 k 0 0 0).bind fun (x9, x10) => (rdl t17_1 x9).bind fun t => some (t, x10, true))

theorem impl_DeepestFilling.ok {k : Nat}  {a0_0 : Int} {a0_1 : List (Int × Int × Int)} {a0_2 : List Int} {a1 : Int} {r0 : List Int} {r1 : Int} {r2 : Bool} (h : impl_DeepestFilling.f k a0_0 a0_1 a0_2 a1 = some (r0, r1, r2)) (w : World) {va0_1 : Value} {va0_2 : Value} (hr_a0_1 : Rd w va0_1 a0_1) (hr_a0_2 : Rd w va0_2 a0_2) :
    Calls Try.prog 14 ([.agg ([.int .i64 a0_0, va0_1, va0_2].toArray), .int .i64 a1] : List Value).toArray w (Post (fun u ns => ∃ (ur0 : Value) (Sr0 : Nat → Prop), u = .tuple #[ur0, .int .i64 r1, .bool r2] ∧ SlLen ur0 r0.length ∧ ns = [R.sl Sr0 ur0 r0]) w) := by
  unfold impl_DeepestFilling.f at h
  have hl_va0_1 := hr_a0_1.len
  have hl_va0_2 := hr_a0_2.len
  refine Calls.of_tri (N := 48) Try.func14 rfl rfl rfl (Sep.nil (M := noM)) ?_
  refine Tri.seq ?_
  refine Tri.reg (l := [0, 1, 2, 3]) rfl ?_
  refine F.m rfl rfl rfl (wanted_none rfl) (m_boxG rfl rfl) ?_
  rintro _ _ ⟨b2_1, rfl, rfl⟩
  refine F.q rfl rfl rfl (wanted_none rfl) (r_assign rfl) ?_
  refine F.q rfl rfl rfl (wanted_none rfl) (r_assign rfl) ?_
  refine F.q rfl rfl rfl (wanted_none rfl) (r_assign rfl) ?_
  refine F.nil ?_
  refine Nrm.seq ?_
  refine Tri.seq ?_
  obtain ⟨⟨t11_1, t11_2⟩, h11, h⟩ := bind_some h
  refine Tri.reg (l := [0, 1, 2, 3, 4, 5, 6, 7]) rfl ?_
  refine F.q rfl rfl rfl (wanted_none rfl) (r_loadA ta27 ti27 rfl rfl (fun w hw => (box_cells (i := 0) rfl w hw))) ?_
  refine F.q rfl rfl rfl (wanted_none rfl) (r_move rfl) ?_
  refine F.m rfl rfl rfl (wanted_none rfl) (m_callF (xs := _) rfl ok87 rfl rfl (fun w hw => impl_wins.ok h11 w ((fun _ hw => hr_a0_1.sep hw) w hw) ((fun _ hw => hr_a0_2.sep hw) w hw))) ?_
  rintro _ _ ⟨_, ⟨v11_1, S11_1, rfl, hl_v11_1, rfl⟩, rfl⟩
  refine F.q rfl rfl rfl (wanted_none rfl) (r_move rfl) ?_
  refine F.q rfl rfl rfl (wanted_none rfl) (r_extract rfl rfl) ?_
  refine F.q rfl rfl rfl (wanted_none rfl) (r_extract rfl rfl) ?_
  refine F.q rfl rfl rfl (wanted_none rfl) (r_assign rfl) ?_
  refine F.q rfl rfl rfl (wanted_none rfl) (r_assign rfl) ?_
  refine F.nil ?_
  refine Nrm.seq ?_
  refine Tri.seq ?_
  refine Tri.seq ?_
  obtain ⟨y20, hE_1, h⟩ := bind_some h
  refine Tri.cut (fun e' C' => e' = [(1, .int .i64 a1), (2, .pointer (some ⟨b2_1, 0, none⟩)), (7, v11_1), (26, .bool y20)] ∧ C' = Sep w noM [R.sl S11_1 v11_1 (t11_1 : List (List Int)), R.box b2_1 27 [.int .i64 a0_0, va0_1, va0_2]]) ?_ (fun hj_1 => ?_)
  · rintro _ _ ⟨rfl, rfl⟩
    refine Nrm.seq ?_
    refine Tri.cond (b := y20) rfl (fun g_1 => ?_) (fun g_1 => ?_)
    · replace h := if_tt g_1 h
      refine Tri.seq ?_
      refine Tri.reg (l := [0, 1, 2]) rfl ?_
      refine F.q rfl rfl rfl (wanted_none rfl) (r_assign rfl) ?_
      refine F.q rfl rfl rfl (wanted_none rfl) (r_assign rfl) ?_
      refine F.q rfl rfl rfl (wanted_none rfl) (r_assign rfl) ?_
      refine F.nil ?_
      refine Nrm.seq ?_
      refine Tri.ret ?_
      refine Rtn.then ?_
      cases h
      exact Rtn.body (.tmp rfl (.tmp rfl (.tmp rfl .nil))) (fun w hw => ⟨_, _, rfl, ⟨.slice none 0 0, fun _ => False, rfl, len_nil, rfl⟩, Sep.pick (is := [0]) rfl rfl hw.pushNil⟩)
    · replace h := if_ff g_1 h
      refine Tri.skip ?_
      refine Nrm.seq ?_
      refine Tri.seq ?_
      obtain ⟨t22, h22, h⟩ := bind_some h
      obtain ⟨⟨z9, z10⟩, hE, h⟩ := bind_some h
      obtain ⟨t, ht, h⟩ := bind_some h
      refine Tri.ex (shOpen (p := 0) (js := [1]) rfl rfl) ?_
      rintro _ ⟨lsr, S1r, S2r, habr, hflr, hvar, rfl⟩
      refine Tri.reg (l := [0, 1, 2, 3, 4]) rfl ?_
      refine F.q rfl rfl rfl (wanted_none rfl) (r_move rfl) ?_
      refine F.q rfl rfl rfl (wanted_none rfl) (r_indexAddrS Try.underlying83 ti25 rfl hl_v11_1 rfl (rdl_some h22).1 (rdl_some h22).2.1) ?_
      refine F.q rfl rfl rfl (wanted_none rfl) (r_load ta25 rfl (fun w hw => cell_0 (hdr_cells (j := 0) rfl habr h22 hw) rfl)) ?_
      refine F.q rfl rfl rfl (wanted_none rfl) (r_assign rfl) ?_
      refine F.q rfl rfl rfl (wanted_none rfl) (r_assign rfl) ?_
      refine F.nil ?_
      refine Nrm.seq ?_
      refine Tri.seq ?_
      refine Tri.seq ?_
      refine Tri.reg (l := [0, 1, 2]) rfl ?_
      refine F.q rfl rfl rfl (wanted_none rfl) (r_move rfl) ?_
      refine F.q rfl rfl rfl (wanted_none rfl) (r_len Try.underlying83 rfl hl_v11_1) ?_
      refine F.q rfl rfl rfl (wanted_none rfl) (r_move rfl) ?_
      refine F.nil ?_
      refine Nrm.seq ?_
      refine Tri.block ?_
      refine Tri.only [1, 2, 9, 10, 30, 31, 32] rfl ?_
      refine Tri.rounds (fun n e' C' => ∃ (x9' x10' x32' : Int), impl_DeepestFilling.l0 k a0_0 a0_1 a0_2 a1 t11_1 n x9' x10' x32' = some (z9, z10) ∧ e' = [(1, .int .i64 a1), (2, .pointer (some ⟨b2_1, 0, none⟩)), (9, (shAt lsr x9').v), (10, .int .i64 x10'), (30, v11_1), (31, .int .i64 (t11_1.length : Int)), (32, .int .i64 x32')] ∧ C' = Sep w noM [R.sl S1r v11_1 lsr, R.rows S2r lsr, R.box b2_1 27 [.int .i64 a0_0, va0_1, va0_2]]) k ?_ ?_ ?_
      · exact ⟨0, 0, 0, hE, rfl, rfl⟩
      · rintro _ _ ⟨_, _, _, hE, _⟩
        rw [impl_DeepestFilling.l0.eq_1] at hE; cases hE
      · rintro n_1 _ _ ⟨x9, x10, x32, hE, rfl, rfl⟩ ih_1
        rw [impl_DeepestFilling.l0.eq_2] at hE
        refine Tri.seq ?_
        refine Tri.reg (l := [0]) rfl ?_
        refine F.q rfl rfl rfl (wanted_none rfl) (r_lss rfl rfl) ?_
        refine F.nil ?_
        refine Nrm.seq ?_
        refine Tri.seq ?_
        refine Tri.cond (b := decide (x32 < (t11_1.length : Int))) rfl (fun g_1 => ?_) (fun g_1 => ?_)
        · replace hE := if_tt g_1 hE
          refine Tri.skip ?_
          refine Nrm.seq ?_
          refine Tri.seq ?_
          refine Tri.block ?_
          refine Tri.seq ?_
          obtain ⟨t32, h32, hE⟩ := bind_some hE
          obtain ⟨t33, h33, hE⟩ := bind_some hE
          refine Tri.reg (l := [0, 1, 2]) rfl ?_
          refine F.q rfl rfl rfl (wanted_none rfl) (r_indexAddrS Try.underlying83 ti25 rfl hl_v11_1 rfl (rdl_some h32).1 (rdl_some h32).2.1) ?_
          refine F.q rfl rfl rfl (wanted_none rfl) (r_load ta25 rfl (fun w hw => cell_0 (hdr_cells (j := 0) rfl habr h32 hw) rfl)) ?_
          refine F.q rfl rfl rfl (wanted_none rfl) (r_assign rfl) ?_
          refine F.nil ?_
          refine Nrm.seq ?_
          refine Tri.seq ?_
          refine Tri.reg (l := [0, 1, 2, 3, 4]) rfl ?_
          refine F.q rfl rfl rfl (wanted_none rfl) (r_loadA ta27 ti27 rfl rfl (fun w hw => (box_cells (i := 2) rfl w hw))) ?_
          refine F.q rfl rfl rfl (wanted_none rfl) (r_move rfl) ?_
          refine F.q rfl rfl rfl (wanted_none rfl) (r_move rfl) ?_
          refine F.qc rfl rfl rfl (wanted_none rfl) (q_callF (xs := _) rfl ok90 rfl rfl (fun w hw => impl_depth.ok h33 w ((fun _ hw => hr_a0_1.sep hw) w hw) ((fun _ hw => hr_a0_2.sep hw) w hw) ((fun w hw => rows_rd (j := 1) rfl habr h32 hw) w hw))) ?_
          refine F.q rfl rfl rfl (wanted_none rfl) (r_assign rfl) ?_
          refine F.nil ?_
          refine Nrm.seq ?_
          refine Tri.seq ?_
          refine Tri.reg (l := [0, 1, 2]) rfl ?_
          refine F.q rfl rfl rfl (wanted_none rfl) (r_move rfl) ?_
          refine F.q rfl rfl rfl (wanted_none rfl) (r_move rfl) ?_
          refine F.q rfl rfl rfl (wanted_none rfl) (r_gtr rfl rfl) ?_
          refine F.nil ?_
          refine Nrm.seq ?_
          obtain ⟨⟨y9, y10⟩, hE_3, hE⟩ := bind_some hE
          refine Tri.cut (fun e' C' => e' = [(1, .int .i64 a1), (2, .pointer (some ⟨b2_1, 0, none⟩)), (9, (shAt lsr y9).v), (10, .int .i64 y10), (30, v11_1), (31, .int .i64 (t11_1.length : Int)), (32, .int .i64 x32)] ∧ C' = Sep w noM [R.sl S1r v11_1 lsr, R.rows S2r lsr, R.box b2_1 27 [.int .i64 a0_0, va0_1, va0_2]]) ?_ (fun hj_2 => ?_)
          · rintro _ _ ⟨rfl, rfl⟩
            refine Nrm.block ?_
            refine Nrm.seq ?_
            refine Tri.reg (l := [0, 1]) rfl ?_
            refine F.q rfl rfl rfl (wanted_none rfl) (r_add rfl rfl) ?_
            refine F.q rfl rfl rfl (wanted_none rfl) (r_move rfl) ?_
            refine F.nil ?_
            refine Nrm.round ?_
            refine Rnd.only [1, 2, 9, 10, 30, 31, 32] rfl ?_
            exact ih_1 _ _ ⟨y9, y10, w64 (x32 + 1), hE, rfl, rfl⟩
          · refine Tri.cond (b := decide (t33 > x10)) rfl (fun g_2 => ?_) (fun g_2 => ?_)
            · replace hE_3 := if_tt g_2 hE_3
              refine Tri.reg (l := [0, 1, 2, 3]) rfl ?_
              refine F.q rfl rfl rfl (wanted_none rfl) (r_move rfl) ?_
              refine F.q rfl rfl rfl (wanted_none rfl) (r_move rfl) ?_
              refine F.q rfl rfl rfl (wanted_none rfl) (r_assign rfl) ?_
              refine F.q rfl rfl rfl (wanted_none rfl) (r_assign rfl) ?_
              refine F.nil ?_
              cases hE_3
              refine Nrm.only [1, 2, 9, 10, 30, 31, 32] rfl ?_
              exact hj_2 _ _ ⟨rfl, rfl⟩
            · replace hE_3 := if_ff g_2 hE_3
              refine Tri.skip ?_
              cases hE_3
              refine Nrm.only [1, 2, 9, 10, 30, 31, 32] rfl ?_
              exact hj_2 _ _ ⟨rfl, rfl⟩
        · replace hE := if_ff g_1 hE
          refine Tri.exit ?_
          refine Exi.then ?_
          refine Exi.then ?_
          refine Exi.same ?_
          cases hE
          refine Nrm.seq ?_
          refine Tri.seq ?_
          refine Tri.reg (l := [0, 1, 2, 3, 4]) rfl ?_
          refine F.q rfl rfl rfl (wanted_none rfl) (r_move rfl) ?_
          refine F.q rfl rfl rfl (wanted_none rfl) (r_move rfl) ?_
          refine F.q rfl rfl rfl (wanted_none rfl) (r_assign rfl) ?_
          refine F.q rfl rfl rfl (wanted_none rfl) (r_assign rfl) ?_
          refine F.q rfl rfl rfl (wanted_none rfl) (r_assign rfl) ?_
          refine F.nil ?_
          refine Nrm.seq ?_
          refine Tri.ret ?_
          cases h
          exact Rtn.body (.tmp rfl (.tmp rfl (.tmp rfl .nil))) (fun w hw => by
            obtain ⟨S', hs⟩ := rowOwn (p := 1) (js := []) rfl rfl habr ht hw
            exact ⟨_, _, rfl, ⟨_, S', rfl, rows_len hflr habr ht, rfl⟩, hs⟩)
  · rcases Bool.eq_false_or_eq_true (!t11_2) with g16 | g16
    · replace hE_1 := if_tt g16 hE_1
      refine Tri.reg (l := [0, 1, 2, 3, 4, 5, 6]) rfl ?_
      refine F.q rfl rfl rfl (wanted_none rfl) (r_move rfl) ?_
      refine F.q rfl rfl rfl (wanted_none rfl) (r_not rfl) ?_
      refine F.q rfl rfl rfl (wanted_none rfl) (r_move rfl) ?_
      refine F.sk rfl rfl rfl (wf rfl rfl rfl g16) ?_
      refine F.sk rfl rfl rfl (wf rfl rfl rfl g16) ?_
      refine F.sk rfl rfl rfl (wf rfl rfl rfl g16) ?_
      refine F.q rfl rfl rfl (wanted_none rfl) (r_pick rfl rfl g16) ?_
      refine F.nil ?_
      cases hE_1
      refine Nrm.only [1, 2, 7, 26] rfl ?_
      exact hj_1 _ _ ⟨rfl, rfl⟩
    · replace hE_1 := if_ff g16 hE_1
      refine Tri.reg (l := [0, 1, 2, 3, 4, 5, 6]) rfl ?_
      refine F.q rfl rfl rfl (wanted_none rfl) (r_move rfl) ?_
      refine F.q rfl rfl rfl (wanted_none rfl) (r_not rfl) ?_
      refine F.q rfl rfl rfl (wanted_none rfl) (r_move rfl) ?_
      refine F.q rfl rfl rfl (wg rfl rfl rfl g16) (r_move rfl) ?_
      refine F.q rfl rfl rfl (wg rfl rfl rfl g16) (r_len Try.underlying83 rfl hl_v11_1) ?_
      refine F.q rfl rfl rfl (wg rfl rfl rfl g16) (r_eql rfl rfl) ?_
      refine F.q rfl rfl rfl (wanted_none rfl) (r_pickf rfl rfl g16) ?_
      refine F.nil ?_
      cases hE_1
      refine Nrm.only [1, 2, 7, 26] rfl ?_
      exact hj_1 _ _ ⟨rfl, rfl⟩

end Go.Proofs

/- loop.example/g01158/spec.l3Rounds -/
namespace Go.Proofs
open Go Go.Ga
set_option linter.unusedVariables false
set_option maxRecDepth 100000
set_option maxHeartbeats 4000000
def spec_l3Rounds.l1 (k : Nat) (a0_2 : List Int) (t20 : List Int) : Nat → Int → Int → Option (Int)
  | 0, _, _ => none
  | n + 1, x8, x9 => (if (decide (x9 < (t20.length : Int))) = true then (rdl t20 x9).bind fun t33 => (rdl a0_2 t33).bind fun t35 => spec_l3Rounds.l1 k a0_2 t20 n (bor x8 t35) (w64 (x9 + 1)) else some x8)

def spec_l3Rounds.l0 (k : Nat) (a0_0 : Int) (a0_1 : List (Int × Int × Int)) (a0_2 : List Int) : Nat → (List (Int)) → Option ((Unit) ⊕ ((List Int)))
  | 0, _ => none
  | n + 1, x5 => (rdl x5 (w64 ((x5.length : Int) - 1))).bind fun t16 => (spec_l2Reach.f k a0_0 a0_1 a0_2 0 t16).bind fun t20 => (spec_l3Rounds.l1 k a0_2 t20 k t16 0).bind fun x8 => (if (x8 == t16) = true then some (Sum.inr x5) else if (x5 ++ ([x8] : List (Int))).length < 1099511627776 then spec_l3Rounds.l0 k a0_0 a0_1 a0_2 n (x5 ++ ([x8] : List (Int))) else none)

def spec_l3Rounds.f (k : Nat) (a0_0 : Int) (a0_1 : List (Int × Int × Int)) (a0_2 : List Int) (a1 : Int) : Option ((List Int)) := (spec_l3Rounds.l0 k a0_0 a0_1 a0_2 k ([a1] : List (Int))).bind fun s => Lr s some fun _ => none

theorem spec_l3Rounds.ok {k : Nat}  {a0_0 : Int} {a0_1 : List (Int × Int × Int)} {a0_2 : List Int} {a1 : Int} {r0 : List Int} (h : spec_l3Rounds.f k a0_0 a0_1 a0_2 a1 = some r0) (w : World) {va0_1 : Value} {va0_2 : Value} (hr_a0_1 : Rd w va0_1 a0_1) (hr_a0_2 : Rd w va0_2 a0_2) :
    Calls Try.prog 208 ([.agg ([.int .i64 a0_0, va0_1, va0_2].toArray), .int .i64 a1] : List Value).toArray w (Post (fun u ns => ∃ (Sr0 : Nat → Prop), SlLen u r0.length ∧ ns = [R.sl Sr0 u r0]) w) := by
  unfold spec_l3Rounds.f at h
  have hl_va0_1 := hr_a0_1.len
  have hl_va0_2 := hr_a0_2.len
  refine Calls.of_tri (N := 46) Try.func208 rfl rfl rfl (Sep.nil (M := noM)) ?_
  refine Tri.seq ?_
  refine Tri.reg (l := [0, 1]) rfl ?_
  refine F.m rfl rfl rfl (wanted_none rfl) (m_boxG rfl rfl) ?_
  rintro _ _ ⟨b2_1, rfl, rfl⟩
  refine F.q rfl rfl rfl (wanted_none rfl) (r_assign rfl) ?_
  refine F.nil ?_
  refine Nrm.seq ?_
  refine Tri.seq ?_
  refine Tri.reg (l := [0, 1, 2]) rfl ?_
  refine F.q rfl rfl rfl (wanted_none rfl) (r_move rfl) ?_
  refine F.m rfl rfl rfl (wanted_none rfl) (m_buildF (l := ([a1] : List (Int))) Try.underlying25 ti3 rfl rfl rfl rfl rfl) ?_
  rintro v11_1 _ ⟨S11_1, hl_v11_1, rfl⟩
  refine F.q rfl rfl rfl (wanted_none rfl) (r_assign rfl) ?_
  refine F.nil ?_
  refine Nrm.seq ?_
  obtain ⟨s0, hE_1, h⟩ := bind_some h
  refine Tri.block ?_
  refine Tri.only [2, 5] rfl ?_
  refine Tri.pick [1, 0] rfl rfl ?_
  refine Tri.rounds (fun n e' C' => ∃ (x5' : List (Int)) (w5 : Value) (T5 : Nat → Prop), spec_l3Rounds.l0 k a0_0 a0_1 a0_2 n x5' = some s0 ∧ SlLen w5 (x5').length ∧ e' = [(2, .pointer (some ⟨b2_1, 0, none⟩)), (5, w5)] ∧ C' = Sep w noM [R.box b2_1 27 [.int .i64 a0_0, va0_1, va0_2], R.sl T5 w5 (x5' : List (Int))]) k ?_ ?_ ?_
  · exact ⟨([a1] : List (Int)), v11_1, S11_1, hE_1, hl_v11_1, rfl, rfl⟩
  · rintro _ _ ⟨_, _, _, hE_1, _⟩
    rw [spec_l3Rounds.l0.eq_1] at hE_1; cases hE_1
  · rintro n_1 _ _ ⟨x5, w5, T5, hE_1, hl_w5, rfl, rfl⟩ ih_1
    rw [spec_l3Rounds.l0.eq_2] at hE_1
    refine Tri.block ?_
    refine Tri.seq ?_
    obtain ⟨t16, h16, hE_1⟩ := bind_some hE_1
    refine Tri.reg (l := [0, 1, 2, 3, 4, 5, 6]) rfl ?_
    refine F.q rfl rfl rfl (wanted_none rfl) (r_move rfl) ?_
    refine F.q rfl rfl rfl (wanted_none rfl) (r_move rfl) ?_
    refine F.q rfl rfl rfl (wanted_none rfl) (r_len Try.underlying25 rfl hl_w5) ?_
    refine F.q rfl rfl rfl (wanted_none rfl) (r_sub rfl rfl) ?_
    refine F.q rfl rfl rfl (wanted_none rfl) (r_indexAddrS Try.underlying25 ti3 rfl hl_w5 rfl (rdl_some h16).1 (rdl_some h16).2.1) ?_
    refine F.q rfl rfl rfl (wanted_none rfl) (r_load ta3 rfl (fun w hw => cell_0 (Rd.flat ((rd_sl (i := 1) rfl) w hw) (rdl_some h16).2.2) rfl)) ?_
    refine F.q rfl rfl rfl (wanted_none rfl) (r_assign rfl) ?_
    refine F.nil ?_
    refine Nrm.seq ?_
    refine Tri.seq ?_
    obtain ⟨t20, h20, hE_1⟩ := bind_some hE_1
    refine Tri.reg (l := [0, 1, 2, 3, 4, 5]) rfl ?_
    refine F.q rfl rfl rfl (wanted_none rfl) (r_loadA ta27 ti27 rfl rfl (fun w hw => (box_cells (i := 0) rfl w hw))) ?_
    refine F.q rfl rfl rfl (wanted_none rfl) (r_move rfl) ?_
    refine F.m rfl rfl rfl (wanted_none rfl) (m_callF (xs := _) rfl ok161 rfl rfl (fun w hw => spec_l2Reach.ok h20 w ((fun _ hw => hr_a0_1.sep hw) w hw) ((fun _ hw => hr_a0_2.sep hw) w hw))) ?_
    rintro v20_1 _ ⟨_, ⟨S20_1, hl_v20_1, rfl⟩, rfl⟩
    refine F.q rfl rfl rfl (wanted_none rfl) (r_move rfl) ?_
    refine F.q rfl rfl rfl (wanted_none rfl) (r_assign rfl) ?_
    refine F.q rfl rfl rfl (wanted_none rfl) (r_assign rfl) ?_
    refine F.nil ?_
    refine Nrm.seq ?_
    refine Tri.seq ?_
    refine Tri.seq ?_
    refine Tri.reg (l := [0]) rfl ?_
    refine F.q rfl rfl rfl (wanted_none rfl) (r_assign rfl) ?_
    refine F.nil ?_
    refine Nrm.seq ?_
    obtain ⟨x8, hE_2, hE_1⟩ := bind_some hE_1
    refine Tri.block ?_
    refine Tri.only [2, 5, 6, 7, 8, 9] rfl ?_
    refine Tri.pick [1, 0, 2] rfl rfl ?_
    refine Tri.rounds (fun n e' C' => ∃ (x8' : Int) (x9' : Int), spec_l3Rounds.l1 k a0_2 t20 n x8' x9' = some x8 ∧ e' = [(2, .pointer (some ⟨b2_1, 0, none⟩)), (5, w5), (6, .int .i64 t16), (7, v20_1), (8, .int .i64 x8'), (9, .int .i64 x9')] ∧ C' = Sep w noM [R.box b2_1 27 [.int .i64 a0_0, va0_1, va0_2], R.sl S20_1 v20_1 (t20 : List (Int)), R.sl T5 w5 (x5 : List (Int))]) k ?_ ?_ ?_
    · exact ⟨t16, 0, hE_2, rfl, rfl⟩
    · rintro _ _ ⟨_, _, hE_2, _⟩
      rw [spec_l3Rounds.l1.eq_1] at hE_2; cases hE_2
    · rintro n_2 _ _ ⟨x8, x9, hE_2, rfl, rfl⟩ ih_2
      rw [spec_l3Rounds.l1.eq_2] at hE_2
      refine Tri.seq ?_
      refine Tri.seq ?_
      refine Tri.reg (l := [0, 1, 2, 3]) rfl ?_
      refine F.q rfl rfl rfl (wanted_none rfl) (r_move rfl) ?_
      refine F.q rfl rfl rfl (wanted_none rfl) (r_move rfl) ?_
      refine F.q rfl rfl rfl (wanted_none rfl) (r_len Try.underlying25 rfl hl_v20_1) ?_
      refine F.q rfl rfl rfl (wanted_none rfl) (r_lss rfl rfl) ?_
      refine F.nil ?_
      refine Nrm.seq ?_
      refine Tri.cond (b := decide (x9 < (t20.length : Int))) rfl (fun g_1 => ?_) (fun g_1 => ?_)
      · replace hE_2 := if_tt g_1 hE_2
        refine Tri.skip ?_
        refine Nrm.seq ?_
        refine Tri.seq ?_
        refine Tri.block ?_
        obtain ⟨t33, h33, hE_2⟩ := bind_some hE_2
        obtain ⟨t35, h35, hE_2⟩ := bind_some hE_2
        refine Tri.drawA mixedT Sep.up [(0, true), (1, true), (2, true), (3, true), (4, true), (5, true), (6, true), (7, true), (8, true), (9, true), (10, true)] [] (by kernel_rfl) ?_
        refine S.q rfl rfl rfl (wanted_none rfl) (r_move rfl) ?_
        refine S.q rfl rfl rfl (wanted_none rfl) (r_fieldAddr tf27_2 rfl) ?_
        refine S.q rfl rfl rfl (wanted_none rfl) (r_load ta25 rfl (fun w hw => cell_1 (box_cells (i := 0) rfl w hw) rfl)) ?_
        refine S.q rfl rfl rfl (wanted_none rfl) (r_move rfl) ?_
        refine S.q rfl rfl rfl (wanted_none rfl) (r_move rfl) ?_
        refine S.q rfl rfl rfl (wanted_none rfl) (r_indexAddrS Try.underlying25 ti3 rfl hl_v20_1 rfl (rdl_some h33).1 (rdl_some h33).2.1) ?_
        refine S.q rfl rfl rfl (wanted_none rfl) (r_load ta3 rfl (fun w hw => cell_0 (Rd.flat ((rd_sl (i := 1) rfl) w hw) (rdl_some h33).2.2) rfl)) ?_
        refine S.q rfl rfl rfl (wanted_none rfl) (r_indexAddrS Try.underlying25 ti3 rfl hl_va0_2 rfl (rdl_some h35).1 (rdl_some h35).2.1) ?_
        refine S.q rfl rfl rfl (wanted_none rfl) (r_load ta3 rfl (fun w hw => cell_0 (Rd.flat ((fun _ hw => hr_a0_2.sep hw) w hw) (rdl_some h35).2.2) rfl)) ?_
        refine S.q rfl rfl rfl (wanted_none rfl) (r_or rfl rfl) ?_
        refine S.q rfl rfl rfl (wanted_none rfl) (r_assign rfl) ?_
        refine S.nil ?_
        refine F.nil ?_
        refine Nrm.block ?_
        refine Nrm.seq ?_
        refine Tri.reg (l := [0, 1, 2]) rfl ?_
        refine F.q rfl rfl rfl (wanted_none rfl) (r_move rfl) ?_
        refine F.q rfl rfl rfl (wanted_none rfl) (r_add rfl rfl) ?_
        refine F.q rfl rfl rfl (wanted_none rfl) (r_assign rfl) ?_
        refine F.nil ?_
        refine Nrm.round ?_
        refine Rnd.only [2, 5, 6, 7, 8, 9] rfl ?_
        refine Rnd.pick [0, 1, 2] rfl rfl ?_
        exact ih_2 _ _ ⟨bor x8 t35, w64 (x9 + 1), hE_2, rfl, rfl⟩
      · replace hE_2 := if_ff g_1 hE_2
        refine Tri.exit ?_
        refine Exi.then ?_
        refine Exi.then ?_
        refine Exi.same ?_
        cases hE_2
        refine Nrm.seq ?_
        refine Tri.seq ?_
        refine Tri.seq ?_
        refine Tri.reg (l := [0, 1, 2]) rfl ?_
        refine F.q rfl rfl rfl (wanted_none rfl) (r_move rfl) ?_
        refine F.q rfl rfl rfl (wanted_none rfl) (r_move rfl) ?_
        refine F.q rfl rfl rfl (wanted_none rfl) (r_eql rfl rfl) ?_
        refine F.nil ?_
        refine Nrm.seq ?_
        refine Tri.cond (b := x8 == t16) rfl (fun g_2 => ?_) (fun g_2 => ?_)
        · replace hE_1 := if_tt g_2 hE_1
          refine Tri.seq ?_
          refine Tri.reg (l := [0, 1]) rfl ?_
          refine F.q rfl rfl rfl (wanted_none rfl) (r_move rfl) ?_
          refine F.q rfl rfl rfl (wanted_none rfl) (r_assign rfl) ?_
          refine F.nil ?_
          refine Nrm.seq ?_
          refine Tri.ret ?_
          refine Rtn.then ?_
          refine Rtn.block ?_
          refine Rtn.then ?_
          refine Rtn.block ?_
          cases hE_1
          replace h := Lr_inr h
          cases h
          exact Rtn.body (.tmp rfl .nil) (fun w hw => ⟨_, _, rfl, ⟨T5, hl_w5, rfl⟩, Sep.pick (is := [2]) rfl rfl hw⟩)
        · replace hE_1 := if_ff g_2 hE_1
          refine Tri.skip ?_
          refine Nrm.seq ?_
          obtain ⟨hs45, hE_1⟩ := ck hE_1
          refine Tri.reg (l := [0, 1, 2, 3, 4]) rfl ?_
          refine F.q rfl rfl rfl (wanted_none rfl) (r_move rfl) ?_
          refine F.q rfl rfl rfl (wanted_none rfl) (r_move rfl) ?_
          refine F.m rfl rfl rfl (wanted_none rfl) (m_buildF (l := ([x8] : List (Int))) Try.underlying25 ti3 rfl rfl rfl rfl rfl) ?_
          rintro v44_1 _ ⟨S44_1, hl_v44_1, rfl⟩
          refine F.ef rfl rfl rfl (wanted_none rfl) (d_append (i := 3) Try.underlying25 Try.underlying25 ti3 rfl (by decide) rfl rfl rfl (rd_sl (i := 0) rfl) hs45) ?_
          rintro v45_1 _ ⟨S45_1, rfl, hl_v45_1⟩
          refine F.q rfl rfl rfl (wanted_none rfl) (r_assign rfl) ?_
          refine F.nil ?_
          refine Nrm.block ?_
          refine Nrm.round ?_
          refine Rnd.only [2, 5] rfl ?_
          refine Rnd.pick [1, 3] rfl rfl ?_
          exact ih_1 _ _ ⟨x5 ++ ([x8] : List (Int)), v45_1, S45_1, hE_1, hl_v45_1, rfl, rfl⟩

end Go.Proofs

/- loop.example/g01158/spec.l3Entered -/
namespace Go.Proofs
open Go Go.Ga
set_option linter.unusedVariables false
set_option maxRecDepth 100000
set_option maxHeartbeats 4000000
def spec_l3Entered.l1 (k : Nat) (x7 : Int) (t27 : List Int) : Nat → (List (Int)) → Int → Option ((List (Int)))
  | 0, _, _ => none
  | n + 1, x5r, x9 => (if (decide (x9 < (t27.length : Int))) = true then (rdl t27 x9).bind fun t37 => (rdl x5r t37).bind fun t39 => ((if (t39 == 0) = true then (rdl t27 x9).bind fun t45 => (rdl x5r t45).bind fun t49 => some (x5r.set t45.toNat (w64 (x7 + 1))) else some x5r)).bind fun y5r => spec_l3Entered.l1 k x7 t27 n y5r (w64 (x9 + 1)) else some x5r)

def spec_l3Entered.l0 (k : Nat) (a0_0 : Int) (a0_1 : List (Int × Int × Int)) (a0_2 : List Int) (y6 : List (Int)) : Nat → (List (Int)) → Int → Option ((List (Int)))
  | 0, _, _ => none
  | n + 1, x5, x7 => (if (decide (x7 < (y6.length : Int))) = true then (rdl y6 x7).bind fun t25 => (spec_l2Reach.f k a0_0 a0_1 a0_2 0 t25).bind fun t27 => (spec_l3Entered.l1 k x7 t27 k x5 0).bind fun x5r => spec_l3Entered.l0 k a0_0 a0_1 a0_2 y6 n x5r (w64 (x7 + 1)) else some x5)

def spec_l3Entered.f (k : Nat) (a0_0 : Int) (a0_1 : List (Int × Int × Int)) (a0_2 : List Int) (a1 : Int) : Option ((List Int)) := (if 0 ≤ a0_0 ∧ a0_0 < 1099511627776 then (spec_l3Rounds.f k a0_0 a0_1 a0_2 a1).bind fun t15 => some (List.replicate (a0_0).toNat (0 : Int), t15) else none).bind fun (y5, y6) => (spec_l3Entered.l0 k a0_0 a0_1 a0_2 y6 k y5 0).bind fun x5 => some x5

theorem spec_l3Entered.ok {k : Nat}  {a0_0 : Int} {a0_1 : List (Int × Int × Int)} {a0_2 : List Int} {a1 : Int} {r0 : List Int} (h : spec_l3Entered.f k a0_0 a0_1 a0_2 a1 = some r0) (w : World) {va0_1 : Value} {va0_2 : Value} (hr_a0_1 : Rd w va0_1 a0_1) (hr_a0_2 : Rd w va0_2 a0_2) :
    Calls Try.prog 168 ([.agg ([.int .i64 a0_0, va0_1, va0_2].toArray), .int .i64 a1] : List Value).toArray w (Post (fun u ns => ∃ (Sr0 : Nat → Prop), SlLen u r0.length ∧ ns = [R.sl Sr0 u r0]) w) := by
  unfold spec_l3Entered.f at h
  have hl_va0_1 := hr_a0_1.len
  have hl_va0_2 := hr_a0_2.len
  refine Calls.of_tri (N := 51) Try.func168 rfl rfl rfl (Sep.nil (M := noM)) ?_
  refine Tri.seq ?_
  refine Tri.reg (l := [0, 1]) rfl ?_
  refine F.m rfl rfl rfl (wanted_none rfl) (m_boxG rfl rfl) ?_
  rintro _ _ ⟨b2_1, rfl, rfl⟩
  refine F.q rfl rfl rfl (wanted_none rfl) (r_assign rfl) ?_
  refine F.nil ?_
  refine Nrm.seq ?_
  refine Tri.seq ?_
  obtain ⟨⟨y5, y6⟩, hE_1, h⟩ := bind_some h
  refine Tri.cut (fun e' C' => ∃ (v5_1 : Value) (S5_1 : Nat → Prop) (v6_1 : Value) (S6_1 : Nat → Prop), SlLen v5_1 (y5).length ∧ SlLen v6_1 (y6).length ∧ e' = [(2, .pointer (some ⟨b2_1, 0, none⟩)), (5, v5_1), (6, v6_1)] ∧ C' = Sep w noM [R.box b2_1 27 [.int .i64 a0_0, va0_1, va0_2], R.sl S5_1 v5_1 (y5 : List (Int)), R.sl S6_1 v6_1 (y6 : List (Int))]) ?_ (fun hj_1 => ?_)
  · rintro _ _ ⟨v5_1, S5_1, v6_1, S6_1, hl_v5_1, hl_v6_1, rfl, rfl⟩
    refine Nrm.seq ?_
    refine Tri.seq ?_
    refine Tri.seq ?_
    refine Tri.reg (l := [0]) rfl ?_
    refine F.q rfl rfl rfl (wanted_none rfl) (r_assign rfl) ?_
    refine F.nil ?_
    refine Nrm.seq ?_
    obtain ⟨x5, hE_2, h⟩ := bind_some h
    refine Tri.block ?_
    refine Tri.only [2, 5, 6, 7] rfl ?_
    refine Tri.pick [0, 1, 2] rfl rfl ?_
    refine Tri.rounds (fun n e' C' => ∃ (x5' : List (Int)) (x7' : Int) (w5 : Value) (T5 : Nat → Prop), spec_l3Entered.l0 k a0_0 a0_1 a0_2 y6 n x5' x7' = some x5 ∧ SlLen w5 (x5').length ∧ e' = [(2, .pointer (some ⟨b2_1, 0, none⟩)), (5, w5), (6, v6_1), (7, .int .i64 x7')] ∧ C' = Sep w noM [R.box b2_1 27 [.int .i64 a0_0, va0_1, va0_2], R.sl T5 w5 (x5' : List (Int)), R.sl S6_1 v6_1 (y6 : List (Int))]) k ?_ ?_ ?_
    · exact ⟨y5, 0, v5_1, S5_1, hE_2, hl_v5_1, rfl, rfl⟩
    · rintro _ _ ⟨_, _, _, _, hE_2, _⟩
      rw [spec_l3Entered.l0.eq_1] at hE_2; cases hE_2
    · rintro n_1 _ _ ⟨x5, x7, w5, T5, hE_2, hl_w5, rfl, rfl⟩ ih_1
      rw [spec_l3Entered.l0.eq_2] at hE_2
      refine Tri.seq ?_
      refine Tri.seq ?_
      refine Tri.reg (l := [0, 1, 2, 3]) rfl ?_
      refine F.q rfl rfl rfl (wanted_none rfl) (r_move rfl) ?_
      refine F.q rfl rfl rfl (wanted_none rfl) (r_move rfl) ?_
      refine F.q rfl rfl rfl (wanted_none rfl) (r_len Try.underlying25 rfl hl_v6_1) ?_
      refine F.q rfl rfl rfl (wanted_none rfl) (r_lss rfl rfl) ?_
      refine F.nil ?_
      refine Nrm.seq ?_
      refine Tri.cond (b := decide (x7 < (y6.length : Int))) rfl (fun g_1 => ?_) (fun g_1 => ?_)
      · replace hE_2 := if_tt g_1 hE_2
        refine Tri.skip ?_
        refine Nrm.seq ?_
        refine Tri.seq ?_
        refine Tri.block ?_
        refine Tri.seq ?_
        obtain ⟨t25, h25, hE_2⟩ := bind_some hE_2
        obtain ⟨t27, h27, hE_2⟩ := bind_some hE_2
        refine Tri.drawA mixedT Sep.up [(0, true), (1, true), (2, true), (3, true), (4, true), (5, false), (6, true)] [] (by kernel_rfl) ?_
        refine S.q rfl rfl rfl (wanted_none rfl) (r_loadA ta27 ti27 rfl rfl (fun w hw => (box_cells (i := 0) rfl w hw))) ?_
        refine S.q rfl rfl rfl (wanted_none rfl) (r_move rfl) ?_
        refine S.q rfl rfl rfl (wanted_none rfl) (r_move rfl) ?_
        refine S.q rfl rfl rfl (wanted_none rfl) (r_indexAddrS Try.underlying25 ti3 rfl hl_v6_1 rfl (rdl_some h25).1 (rdl_some h25).2.1) ?_
        refine S.q rfl rfl rfl (wanted_none rfl) (r_load ta3 rfl (fun w hw => cell_0 (Rd.flat ((rd_sl (i := 2) rfl) w hw) (rdl_some h25).2.2) rfl)) ?_
        refine S.m rfl rfl rfl (wanted_none rfl) (m_callF (xs := _) rfl ok161 rfl rfl (fun w hw => spec_l2Reach.ok h27 w ((fun _ hw => hr_a0_1.sep hw) w hw) ((fun _ hw => hr_a0_2.sep hw) w hw))) ?_
        rintro v27_2 _ ⟨_, ⟨S27_2, hl_v27_2, rfl⟩, rfl⟩
        refine S.q rfl rfl rfl (wanted_none rfl) (r_assign rfl) ?_
        refine S.nil ?_
        refine F.nil ?_
        refine Nrm.seq ?_
        refine Tri.seq ?_
        refine Tri.reg (l := [0]) rfl ?_
        refine F.q rfl rfl rfl (wanted_none rfl) (r_assign rfl) ?_
        refine F.nil ?_
        refine Nrm.seq ?_
        obtain ⟨x5r, hE_3, hE_2⟩ := bind_some hE_2
        refine Tri.block ?_
        refine Tri.only [2, 5, 6, 7, 8, 9] rfl ?_
        refine Tri.pick [1, 0, 2, 3] rfl rfl ?_
        refine Tri.rounds (fun n e' C' => ∃ (x5r' : List (Int)) (x9' : Int) (w5r : Value) (T5r : Nat → Prop), spec_l3Entered.l1 k x7 t27 n x5r' x9' = some x5r ∧ SlLen w5r (x5r').length ∧ e' = [(2, .pointer (some ⟨b2_1, 0, none⟩)), (5, w5r), (6, v6_1), (7, .int .i64 x7), (8, v27_2), (9, .int .i64 x9')] ∧ C' = Sep w noM [R.box b2_1 27 [.int .i64 a0_0, va0_1, va0_2], R.sl S27_2 v27_2 (t27 : List (Int)), R.sl T5r w5r (x5r' : List (Int)), R.sl S6_1 v6_1 (y6 : List (Int))]) k ?_ ?_ ?_
        · exact ⟨x5, 0, w5, T5, hE_3, hl_w5, rfl, rfl⟩
        · rintro _ _ ⟨_, _, _, _, hE_3, _⟩
          rw [spec_l3Entered.l1.eq_1] at hE_3; cases hE_3
        · rintro n_2 _ _ ⟨x5r, x9, w5r, T5r, hE_3, hl_w5r, rfl, rfl⟩ ih_2
          rw [spec_l3Entered.l1.eq_2] at hE_3
          refine Tri.seq ?_
          refine Tri.seq ?_
          refine Tri.reg (l := [0, 1, 2, 3]) rfl ?_
          refine F.q rfl rfl rfl (wanted_none rfl) (r_move rfl) ?_
          refine F.q rfl rfl rfl (wanted_none rfl) (r_move rfl) ?_
          refine F.q rfl rfl rfl (wanted_none rfl) (r_len Try.underlying25 rfl hl_v27_2) ?_
          refine F.q rfl rfl rfl (wanted_none rfl) (r_lss rfl rfl) ?_
          refine F.nil ?_
          refine Nrm.seq ?_
          refine Tri.cond (b := decide (x9 < (t27.length : Int))) rfl (fun g_2 => ?_) (fun g_2 => ?_)
          · replace hE_3 := if_tt g_2 hE_3
            refine Tri.skip ?_
            refine Nrm.seq ?_
            refine Tri.seq ?_
            refine Tri.block ?_
            refine Tri.seq ?_
            obtain ⟨t37, h37, hE_3⟩ := bind_some hE_3
            obtain ⟨t39, h39, hE_3⟩ := bind_some hE_3
            refine Tri.reg (l := [0, 1, 2, 3, 4, 5, 6, 7]) rfl ?_
            refine F.q rfl rfl rfl (wanted_none rfl) (r_move rfl) ?_
            refine F.q rfl rfl rfl (wanted_none rfl) (r_move rfl) ?_
            refine F.q rfl rfl rfl (wanted_none rfl) (r_move rfl) ?_
            refine F.q rfl rfl rfl (wanted_none rfl) (r_indexAddrS Try.underlying25 ti3 rfl hl_v27_2 rfl (rdl_some h37).1 (rdl_some h37).2.1) ?_
            refine F.q rfl rfl rfl (wanted_none rfl) (r_load ta3 rfl (fun w hw => cell_0 (Rd.flat ((rd_sl (i := 1) rfl) w hw) (rdl_some h37).2.2) rfl)) ?_
            refine F.q rfl rfl rfl (wanted_none rfl) (r_indexAddrS Try.underlying25 ti3 rfl hl_w5r rfl (rdl_some h39).1 (rdl_some h39).2.1) ?_
            refine F.q rfl rfl rfl (wanted_none rfl) (r_load ta3 rfl (fun w hw => cell_0 (Rd.flat ((rd_sl (i := 2) rfl) w hw) (rdl_some h39).2.2) rfl)) ?_
            refine F.q rfl rfl rfl (wanted_none rfl) (r_eql rfl rfl) ?_
            refine F.nil ?_
            refine Nrm.seq ?_
            obtain ⟨y5r, hE_4, hE_3⟩ := bind_some hE_3
            refine Tri.cut (fun e' C' => ∃ (v5_2 : Value) (S5_2 : Nat → Prop), SlLen v5_2 (y5r).length ∧ e' = [(2, .pointer (some ⟨b2_1, 0, none⟩)), (5, v5_2), (6, v6_1), (7, .int .i64 x7), (8, v27_2), (9, .int .i64 x9)] ∧ C' = Sep w noM [R.box b2_1 27 [.int .i64 a0_0, va0_1, va0_2], R.sl S5_2 v5_2 (y5r : List (Int)), R.sl S27_2 v27_2 (t27 : List (Int)), R.sl S6_1 v6_1 (y6 : List (Int))]) ?_ (fun hj_2 => ?_)
            · rintro _ _ ⟨v5_2, S5_2, hl_v5_2, rfl, rfl⟩
              refine Nrm.block ?_
              refine Nrm.seq ?_
              refine Tri.reg (l := [0, 1, 2]) rfl ?_
              refine F.q rfl rfl rfl (wanted_none rfl) (r_move rfl) ?_
              refine F.q rfl rfl rfl (wanted_none rfl) (r_add rfl rfl) ?_
              refine F.q rfl rfl rfl (wanted_none rfl) (r_assign rfl) ?_
              refine F.nil ?_
              refine Nrm.round ?_
              refine Rnd.only [2, 5, 6, 7, 8, 9] rfl ?_
              refine Rnd.pick [0, 2, 1, 3] rfl rfl ?_
              exact ih_2 _ _ ⟨y5r, w64 (x9 + 1), v5_2, S5_2, hE_3, hl_v5_2, rfl, rfl⟩
            · refine Tri.cond (b := t39 == 0) rfl (fun g_3 => ?_) (fun g_3 => ?_)
              · replace hE_4 := if_tt g_3 hE_4
                obtain ⟨t45, h45, hE_4⟩ := bind_some hE_4
                obtain ⟨t49, h49, hE_4⟩ := bind_some hE_4
                refine Tri.reg (l := [0, 1, 2, 3, 4, 5, 6, 7, 8]) rfl ?_
                refine F.q rfl rfl rfl (wanted_none rfl) (r_move rfl) ?_
                refine F.q rfl rfl rfl (wanted_none rfl) (r_move rfl) ?_
                refine F.q rfl rfl rfl (wanted_none rfl) (r_move rfl) ?_
                refine F.q rfl rfl rfl (wanted_none rfl) (r_indexAddrS Try.underlying25 ti3 rfl hl_v27_2 rfl (rdl_some h45).1 (rdl_some h45).2.1) ?_
                refine F.q rfl rfl rfl (wanted_none rfl) (r_load ta3 rfl (fun w hw => cell_0 (Rd.flat ((rd_sl (i := 1) rfl) w hw) (rdl_some h45).2.2) rfl)) ?_
                refine F.q rfl rfl rfl (wanted_none rfl) (r_move rfl) ?_
                refine F.q rfl rfl rfl (wanted_none rfl) (r_add rfl rfl) ?_
                refine F.q rfl rfl rfl (wanted_none rfl) (r_indexAddrS Try.underlying25 ti3 rfl hl_w5r rfl (rdl_some h49).1 (rdl_some h49).2.1) ?_
                refine F.ef0 rfl rfl (wanted_none rfl) (d_storeE (i := 2) (x1 := w64 (x7 + 1)) ti3 rfl rfl rfl (rdl_some h49) rfl) ?_
                rintro _ _ ⟨rfl, rfl⟩
                refine F.nil ?_
                cases hE_4
                refine Nrm.only [2, 5, 6, 7, 8, 9] rfl ?_
                refine Nrm.pick [0, 2, 1, 3] rfl rfl ?_
                exact hj_2 _ _ ⟨w5r, T5r, (len_set hl_w5r), rfl, rfl⟩
              · replace hE_4 := if_ff g_3 hE_4
                refine Tri.skip ?_
                cases hE_4
                refine Nrm.only [2, 5, 6, 7, 8, 9] rfl ?_
                refine Nrm.pick [0, 2, 1, 3] rfl rfl ?_
                exact hj_2 _ _ ⟨w5r, T5r, hl_w5r, rfl, rfl⟩
          · replace hE_3 := if_ff g_2 hE_3
            refine Tri.exit ?_
            refine Exi.then ?_
            refine Exi.then ?_
            refine Exi.same ?_
            cases hE_3
            refine Nrm.block ?_
            refine Nrm.seq ?_
            refine Tri.reg (l := [0, 1, 2]) rfl ?_
            refine F.q rfl rfl rfl (wanted_none rfl) (r_move rfl) ?_
            refine F.q rfl rfl rfl (wanted_none rfl) (r_add rfl rfl) ?_
            refine F.q rfl rfl rfl (wanted_none rfl) (r_assign rfl) ?_
            refine F.nil ?_
            refine Nrm.round ?_
            refine Rnd.only [2, 5, 6, 7] rfl ?_
            refine Rnd.pick [0, 2, 3] rfl rfl ?_
            exact ih_1 _ _ ⟨x5r, w64 (x7 + 1), w5r, T5r, hE_2, hl_w5r, rfl, rfl⟩
      · replace hE_2 := if_ff g_1 hE_2
        refine Tri.exit ?_
        refine Exi.then ?_
        refine Exi.then ?_
        refine Exi.same ?_
        cases hE_2
        refine Nrm.seq ?_
        refine Tri.seq ?_
        refine Tri.reg (l := [0, 1]) rfl ?_
        refine F.q rfl rfl rfl (wanted_none rfl) (r_move rfl) ?_
        refine F.q rfl rfl rfl (wanted_none rfl) (r_assign rfl) ?_
        refine F.nil ?_
        refine Nrm.seq ?_
        refine Tri.ret ?_
        cases h
        exact Rtn.body (.tmp rfl .nil) (fun w hw => ⟨_, _, rfl, ⟨T5, hl_w5, rfl⟩, Sep.pick (is := [1]) rfl rfl hw⟩)
  · obtain ⟨hm12, hE_1⟩ := ck hE_1
    obtain ⟨t15, h15, hE_1⟩ := bind_some hE_1
    refine Tri.drawT mixedT Sep.up [0, 1, 3, 4, 2, 5] [6, 7] (.q 0 (.q 1 (.q 3 (.q 4 (.alt 2 (.alt 5 .nil .stop) (.alt 5 (.alt 2 .nil .stop) .stop)))))) (by kernel_rfl) ?_
    refine T.q rfl rfl rfl (wanted_none rfl) (r_fieldAddr tf27_0 rfl) ?_
    refine T.q rfl rfl rfl (wanted_none rfl) (r_load ta3 rfl (fun w hw => cell_1 (box_cells (i := 0) rfl w hw) rfl)) ?_
    refine T.q rfl rfl rfl (wanted_none rfl) (r_loadA ta27 ti27 rfl rfl (fun w hw => (box_cells (i := 0) rfl w hw))) ?_
    refine T.q rfl rfl rfl (wanted_none rfl) (r_move rfl) ?_
    refine T.ef rfl rfl rfl (wanted_none rfl) (Makes.does (m_make (x0 := (0 : Int)) Try.underlying25 ti3 rfl rfl rfl hm12.1 hm12.2 (by decide))) (by rintro v12_2 _ ⟨S12_2, hl_v12_2, rfl⟩; exact upd rfl [1] rfl rfl) ?_ ?_
    · rintro v12_2 _ ⟨S12_2, hl_v12_2, rfl⟩
      refine T.ef rfl rfl rfl (wanted_none rfl) (Makes.does (m_callF (xs := _) rfl ok208 rfl rfl (fun w hw => spec_l3Rounds.ok h15 w ((fun _ hw => hr_a0_1.sep hw) w hw) ((fun _ hw => hr_a0_2.sep hw) w hw)))) (by rintro v15_2 _ ⟨_, ⟨S15_2, hl_v15_2, rfl⟩, rfl⟩; exact upd rfl [2] rfl rfl) ?_ ?_
      · rintro v15_2 _ ⟨_, ⟨S15_2, hl_v15_2, rfl⟩, rfl⟩
        refine T.nil ?_
        refine F.q rfl rfl rfl (wanted_none rfl) (r_assign rfl) ?_
        refine F.q rfl rfl rfl (wanted_none rfl) (r_assign rfl) ?_
        refine F.nil ?_
        cases hE_1
        refine Nrm.only [2, 5, 6] rfl ?_
        refine Nrm.pick [2, 1, 0] rfl rfl ?_
        exact hj_1 _ _ ⟨v12_2, S12_2, v15_2, S15_2, hl_v12_2, hl_v15_2, rfl, rfl⟩
      exact T.stop
    · refine T.ef rfl rfl rfl (wanted_none rfl) (Makes.does (m_callF (xs := _) rfl ok208 rfl rfl (fun w hw => spec_l3Rounds.ok h15 w ((fun _ hw => hr_a0_1.sep hw) w hw) ((fun _ hw => hr_a0_2.sep hw) w hw)))) (by rintro v15_3 _ ⟨_, ⟨S15_3, hl_v15_3, rfl⟩, rfl⟩; exact upd rfl [1] rfl rfl) ?_ ?_
      · rintro v15_3 _ ⟨_, ⟨S15_3, hl_v15_3, rfl⟩, rfl⟩
        refine T.ef rfl rfl rfl (wanted_none rfl) (Makes.does (m_make (x0 := (0 : Int)) Try.underlying25 ti3 rfl rfl rfl hm12.1 hm12.2 (by decide))) (by rintro v12_3 _ ⟨S12_3, hl_v12_3, rfl⟩; exact upd rfl [2] rfl rfl) ?_ ?_
        · rintro v12_3 _ ⟨S12_3, hl_v12_3, rfl⟩
          refine T.nil ?_
          refine F.q rfl rfl rfl (wanted_none rfl) (r_assign rfl) ?_
          refine F.q rfl rfl rfl (wanted_none rfl) (r_assign rfl) ?_
          refine F.nil ?_
          cases hE_1
          refine Nrm.only [2, 5, 6] rfl ?_
          refine Nrm.pick [2, 0, 1] rfl rfl ?_
          exact hj_1 _ _ ⟨v12_3, S12_3, v15_3, S15_3, hl_v12_3, hl_v15_3, rfl, rfl⟩
        exact T.stop
      exact T.stop

end Go.Proofs

/- loop.example/g01158/spec.l9Depth -/
namespace Go.Proofs
open Go Go.Ga
set_option linter.unusedVariables false
set_option maxRecDepth 100000
set_option maxHeartbeats 4000000
def spec_l9Depth.f (k : Nat) (a0_0 : Int) (a0_1 : List (Int × Int × Int)) (a0_2 : List Int) (a1 : Int) (a2 : List Int) : Option (Int) := (spec_l2Colours.f k a1).bind fun t9 => (spec_l9Lay.f k a0_0 a0_1 a0_2 t9 a2).bind fun (t11_1, t11_2, t11_3) => (spec_l3Entered.f k t11_1 t11_2 t11_3 0).bind fun t12 => (rdl t12 (w64 (a0_0 - 1))).bind fun t16 => some t16

theorem spec_l9Depth.ok {k : Nat}  {a0_0 : Int} {a0_1 : List (Int × Int × Int)} {a0_2 : List Int} {a1 : Int} {a2 : List Int} {r0 : Int} (h : spec_l9Depth.f k a0_0 a0_1 a0_2 a1 a2 = some r0) (w : World) {va0_1 : Value} {va0_2 : Value} {va2 : Value} (hr_a0_1 : Rd w va0_1 a0_1) (hr_a0_2 : Rd w va0_2 a0_2) (hr_a2 : Rd w va2 a2) :
    Calls Try.prog 91 ([.agg ([.int .i64 a0_0, va0_1, va0_2].toArray), .int .i64 a1, va2] : List Value).toArray w (fun e w' => e = .returned (.int .i64 r0) ∧ Ext w w') := by
  unfold spec_l9Depth.f at h
  have hl_va0_1 := hr_a0_1.len
  have hl_va0_2 := hr_a0_2.len
  have hl_va2 := hr_a2.len
  refine Calls.of_tri (N := 18) Try.func91 rfl rfl rfl (Sep.nil (M := noM)) ?_
  refine Tri.seq ?_
  refine Tri.reg (l := [0, 1]) rfl ?_
  refine F.m rfl rfl rfl (wanted_none rfl) (m_boxG rfl rfl) ?_
  rintro _ _ ⟨b3_1, rfl, rfl⟩
  refine F.q rfl rfl rfl (wanted_none rfl) (r_assign rfl) ?_
  refine F.nil ?_
  refine Nrm.seq ?_
  refine Tri.seq ?_
  obtain ⟨t9, h9, h⟩ := bind_some h
  obtain ⟨⟨t11_1, t11_2, t11_3⟩, h11, h⟩ := bind_some h
  obtain ⟨t12, h12, h⟩ := bind_some h
  obtain ⟨t16, h16, h⟩ := bind_some h
  refine Tri.drawA mixedT Sep.up [(0, true), (1, true), (3, true), (6, true), (7, true), (8, true), (2, false), (4, false), (5, false), (9, true), (10, true), (11, true)] [] (by kernel_rfl) ?_
  refine S.q rfl rfl rfl (wanted_none rfl) (r_loadA ta27 ti27 rfl rfl (fun w hw => (box_cells (i := 0) rfl w hw))) ?_
  refine S.q rfl rfl rfl (wanted_none rfl) (r_move rfl) ?_
  refine S.q rfl rfl rfl (wanted_none rfl) (r_move rfl) ?_
  refine S.q rfl rfl rfl (wanted_none rfl) (r_fieldAddr tf27_0 rfl) ?_
  refine S.q rfl rfl rfl (wanted_none rfl) (r_load ta3 rfl (fun w hw => cell_1 (box_cells (i := 0) rfl w hw) rfl)) ?_
  refine S.q rfl rfl rfl (wanted_none rfl) (r_sub rfl rfl) ?_
  refine S.m rfl rfl rfl (wanted_none rfl) (m_callF (xs := _) rfl ok94 rfl rfl (fun w hw => spec_l2Colours.ok h9 w )) ?_
  rintro v9_2 _ ⟨_, ⟨S9_2, hl_v9_2, rfl⟩, rfl⟩
  refine S.m rfl rfl rfl (wanted_none rfl) (m_callF (xs := _) rfl ok114 rfl rfl (fun w hw => spec_l9Lay.ok h11 w ((fun _ hw => hr_a0_1.sep hw) w hw) ((fun _ hw => hr_a0_2.sep hw) w hw) ((rd_sl (i := 0) rfl) w hw) ((fun _ hw => hr_a2.sep hw) w hw))) ?_
  rintro _ _ ⟨_, ⟨v11_3, S11_3, v11_4, S11_4, rfl, hl_v11_3, hl_v11_4, rfl⟩, rfl⟩
  refine S.m rfl rfl rfl (wanted_none rfl) (m_callF (xs := _) rfl ok168 rfl rfl (fun w hw => spec_l3Entered.ok h12 w ((rd_sl (i := 0) rfl) w hw) ((rd_sl (i := 1) rfl) w hw))) ?_
  rintro v12_2 _ ⟨_, ⟨S12_2, hl_v12_2, rfl⟩, rfl⟩
  refine S.q rfl rfl rfl (wanted_none rfl) (r_indexAddrS Try.underlying25 ti3 rfl hl_v12_2 rfl (rdl_some h16).1 (rdl_some h16).2.1) ?_
  refine S.q rfl rfl rfl (wanted_none rfl) (r_load ta3 rfl (fun w hw => cell_0 (Rd.flat ((rd_sl (i := 0) rfl) w hw) (rdl_some h16).2.2) rfl)) ?_
  refine S.q rfl rfl rfl (wanted_none rfl) (r_assign rfl) ?_
  refine S.nil ?_
  refine F.nil ?_
  refine Nrm.seq ?_
  refine Tri.ret ?_
  cases h
  exact Rtn.body (.tmp rfl .nil) (fun w hw => ⟨rfl, hw.ext⟩)

end Go.Proofs

/- loop.example/g01158/spec.DeepestFilling -/
namespace Go.Proofs
open Go Go.Ga
set_option linter.unusedVariables false
set_option maxRecDepth 100000
set_option maxHeartbeats 4000000
def spec_DeepestFilling.l0 (k : Nat) (a0_0 : Int) (a0_1 : List (Int × Int × Int)) (a0_2 : List Int) (a1 : Int) (y9 : List (List Int)) : Nat → Int → Int → Int → Option (Int × Int)
  | 0, _, _, _ => none
  | n + 1, x7, x8, x10 => (if (decide (x10 < (y9.length : Int))) = true then (rdl y9 x10).bind fun t32 => (spec_l9Depth.f k a0_0 a0_1 a0_2 a1 t32).bind fun t33 => ((if (decide (t33 > x8)) = true then (rdl y9 x10).bind fun _ => some (x10, t33) else some (x7, x8))).bind fun (y7, y8) => spec_DeepestFilling.l0 k a0_0 a0_1 a0_2 a1 y9 n y7 y8 (w64 (x10 + 1)) else some (x7, x8))

def spec_DeepestFilling.f (k : Nat) (a0_0 : Int) (a0_1 : List (Int × Int × Int)) (a0_2 : List Int) (a1 : Int) : Option ((List Int) × Int × Bool) := (spec_l9Few.f k a0_0 a0_1 a0_2 a1).bind fun t14 => (if (!t14) = true then some (([] : List (Int)), 0, false) else (spec_l9Winning.f k a0_0 a0_1 a0_2 a1).bind fun t20 => (spec_DeepestFilling.l0 k a0_0 a0_1 a0_2 a1 t20 k (-1) 0 0).bind fun (x7, x8) => if x7 < 0 then some ([], x8, decide (x8 > 0)) else (rdl t20 x7).bind fun t => some (t, x8, decide (x8 > 0)))

theorem spec_DeepestFilling.ok {k : Nat}  {a0_0 : Int} {a0_1 : List (Int × Int × Int)} {a0_2 : List Int} {a1 : Int} {r0 : List Int} {r1 : Int} {r2 : Bool} (h : spec_DeepestFilling.f k a0_0 a0_1 a0_2 a1 = some (r0, r1, r2)) (w : World) {va0_1 : Value} {va0_2 : Value} (hr_a0_1 : Rd w va0_1 a0_1) (hr_a0_2 : Rd w va0_2 a0_2) :
    Calls Try.prog 15 ([.agg ([.int .i64 a0_0, va0_1, va0_2].toArray), .int .i64 a1] : List Value).toArray w (Post (fun u ns => ∃ (ur0 : Value) (Sr0 : Nat → Prop), u = .tuple #[ur0, .int .i64 r1, .bool r2] ∧ SlLen ur0 r0.length ∧ ns = [R.sl Sr0 ur0 r0]) w) := by
  unfold spec_DeepestFilling.f at h
  have hl_va0_1 := hr_a0_1.len
  have hl_va0_2 := hr_a0_2.len
  refine Calls.of_tri (N := 46) Try.func15 rfl rfl rfl (Sep.nil (M := noM)) ?_
  refine Tri.seq ?_
  refine Tri.reg (l := [0, 1, 2, 3]) rfl ?_
  refine F.m rfl rfl rfl (wanted_none rfl) (m_boxG rfl rfl) ?_
  rintro _ _ ⟨b2_1, rfl, rfl⟩
  refine F.q rfl rfl rfl (wanted_none rfl) (r_assign rfl) ?_
  refine F.q rfl rfl rfl (wanted_none rfl) (r_assign rfl) ?_
  refine F.q rfl rfl rfl (wanted_none rfl) (r_assign rfl) ?_
  refine F.nil ?_
  refine Nrm.seq ?_
  refine Tri.seq ?_
  refine Tri.seq ?_
  obtain ⟨t9, h9, h⟩ := bind_some h
  refine Tri.reg (l := [0, 1, 2, 3]) rfl ?_
  refine F.q rfl rfl rfl (wanted_none rfl) (r_loadA ta27 ti27 rfl rfl (fun w hw => (box_cells (i := 0) rfl w hw))) ?_
  refine F.q rfl rfl rfl (wanted_none rfl) (r_move rfl) ?_
  refine F.qc rfl rfl rfl (wanted_none rfl) (q_callF (xs := _) rfl ok88 rfl rfl (fun w hw => spec_l9Few.ok h9 w ((fun _ hw => hr_a0_1.sep hw) w hw) ((fun _ hw => hr_a0_2.sep hw) w hw))) ?_
  refine F.q rfl rfl rfl (wanted_none rfl) (r_not rfl) ?_
  refine F.nil ?_
  refine Nrm.seq ?_
  refine Tri.cond (b := !t9) rfl (fun g_1 => ?_) (fun g_1 => ?_)
  · replace h := if_tt g_1 h
    refine Tri.seq ?_
    refine Tri.reg (l := [0, 1, 2, 3]) rfl ?_
    refine F.m rfl rfl rfl (wanted_none rfl) (m_build0 (α := Int) Try.underlying25 ti3) ?_
    rintro v11_1 _ ⟨S11_1, hl_v11_1, rfl⟩
    refine F.q rfl rfl rfl (wanted_none rfl) (r_assign rfl) ?_
    refine F.q rfl rfl rfl (wanted_none rfl) (r_assign rfl) ?_
    refine F.q rfl rfl rfl (wanted_none rfl) (r_assign rfl) ?_
    refine F.nil ?_
    refine Nrm.seq ?_
    refine Tri.ret ?_
    refine Rtn.then ?_
    cases h
    exact Rtn.body (.tmp rfl (.tmp rfl (.tmp rfl .nil))) (fun w hw => ⟨_, _, rfl, ⟨v11_1, S11_1, rfl, hl_v11_1, rfl⟩, Sep.pick (is := [0]) rfl rfl hw⟩)
  · replace h := if_ff g_1 h
    refine Tri.skip ?_
    refine Nrm.seq ?_
    refine Tri.seq ?_
    refine Tri.reg (l := [0, 1, 2]) rfl ?_
    refine F.m rfl rfl rfl (wanted_none rfl) (m_build0 (α := Int) Try.underlying25 ti3) ?_
    rintro vo _ ⟨So, hl_vo, rfl⟩
    refine F.q rfl rfl rfl (wanted_none rfl) (r_assign rfl) ?_
    refine F.q rfl rfl rfl (wanted_none rfl) (r_assign rfl) ?_
    refine F.nil ?_
    refine Nrm.seq ?_
    refine Tri.seq ?_
    obtain ⟨t14, h14, h⟩ := bind_some h
    refine Tri.reg (l := [0, 1, 2, 3]) rfl ?_
    refine F.q rfl rfl rfl (wanted_none rfl) (r_loadA ta27 ti27 rfl rfl (fun w hw => (box_cells (i := 1) rfl w hw))) ?_
    refine F.q rfl rfl rfl (wanted_none rfl) (r_move rfl) ?_
    refine F.m rfl rfl rfl (wanted_none rfl) (m_callF (xs := _) rfl ok89 rfl rfl (fun w hw => spec_l9Winning.ok h14 w ((fun _ hw => hr_a0_1.sep hw) w hw) ((fun _ hw => hr_a0_2.sep hw) w hw))) ?_
    rintro v9 _ ⟨_, ⟨S9, hl_v9, rfl⟩, rfl⟩
    refine F.q rfl rfl rfl (wanted_none rfl) (r_assign rfl) ?_
    refine F.nil ?_
    refine Nrm.seq ?_
    refine Tri.seq ?_
    refine Tri.seq ?_
    refine Tri.reg (l := [0]) rfl ?_
    refine F.q rfl rfl rfl (wanted_none rfl) (r_assign rfl) ?_
    refine F.nil ?_
    refine Nrm.seq ?_
    refine Tri.ex (shOpen (p := 0) (js := [1, 2]) rfl rfl) ?_
    rintro _ ⟨lsr, S1r, S2r, habr, hflr, hvar, rfl⟩
    obtain ⟨⟨z7, z8⟩, hE, h⟩ := bind_some h
    refine Tri.block ?_
    refine Tri.only [1, 2, 7, 8, 9, 10] rfl ?_
    refine Tri.rounds (fun n e' C' => ∃ (x7' x8' x10' : Int) (w7 : Value), spec_DeepestFilling.l0 k a0_0 a0_1 a0_2 a1 t14 n x7' x8' x10' = some (z7, z8) ∧ w7 = bestV vo lsr x7' ∧ e' = [(1, .int .i64 a1), (2, .pointer (some ⟨b2_1, 0, none⟩)), (7, w7), (8, .int .i64 x8'), (9, v9), (10, .int .i64 x10')] ∧ C' = Sep w noM [R.sl S1r v9 lsr, R.rows S2r lsr, R.sl So vo ([] : List Int), R.box b2_1 27 [.int .i64 a0_0, va0_1, va0_2]]) k ?_ ?_ ?_
    · exact ⟨-1, 0, 0, vo, hE, (bestV_own (by decide)).symm, rfl, rfl⟩
    · rintro _ _ ⟨_, _, _, _, hE, _⟩
      rw [spec_DeepestFilling.l0.eq_1] at hE; cases hE
    · rintro n_1 _ _ ⟨x7, x8, x10, w7, hE, hw7, rfl, rfl⟩ ih_1
      rw [spec_DeepestFilling.l0.eq_2] at hE
      refine Tri.seq ?_
      refine Tri.seq ?_
      refine Tri.reg (l := [0, 1, 2, 3]) rfl ?_
      refine F.q rfl rfl rfl (wanted_none rfl) (r_move rfl) ?_
      refine F.q rfl rfl rfl (wanted_none rfl) (r_move rfl) ?_
      refine F.q rfl rfl rfl (wanted_none rfl) (r_len Try.underlying83 rfl hl_v9) ?_
      refine F.q rfl rfl rfl (wanted_none rfl) (r_lss rfl rfl) ?_
      refine F.nil ?_
      refine Nrm.seq ?_
      refine Tri.cond (b := decide (x10 < (t14.length : Int))) rfl (fun g_1 => ?_) (fun g_1 => ?_)
      · replace hE := if_tt g_1 hE
        refine Tri.skip ?_
        refine Nrm.seq ?_
        refine Tri.seq ?_
        refine Tri.block ?_
        refine Tri.seq ?_
        obtain ⟨t32, h32, hE⟩ := bind_some hE
        obtain ⟨t33, h33, hE⟩ := bind_some hE
        refine Tri.drawA mixedT Sep.up [(0, true), (1, true), (2, true), (3, true), (4, true), (5, true), (6, true)] [7] (by kernel_rfl) ?_
        refine S.q rfl rfl rfl (wanted_none rfl) (r_loadA ta27 ti27 rfl rfl (fun w hw => (box_cells (i := 3) rfl w hw))) ?_
        refine S.q rfl rfl rfl (wanted_none rfl) (r_move rfl) ?_
        refine S.q rfl rfl rfl (wanted_none rfl) (r_move rfl) ?_
        refine S.q rfl rfl rfl (wanted_none rfl) (r_move rfl) ?_
        refine S.q rfl rfl rfl (wanted_none rfl) (r_indexAddrS Try.underlying83 ti25 rfl hl_v9 rfl (rdl_some h32).1 (rdl_some h32).2.1) ?_
        refine S.q rfl rfl rfl (wanted_none rfl) (r_load ta25 rfl (fun w hw => cell_0 (hdr_cells (j := 0) rfl habr h32 hw) rfl)) ?_
        refine S.qc rfl rfl rfl (wanted_none rfl) (q_callF (xs := _) rfl ok91 rfl rfl (fun w hw => spec_l9Depth.ok h33 w ((fun _ hw => hr_a0_1.sep hw) w hw) ((fun _ hw => hr_a0_2.sep hw) w hw) ((fun w hw => rows_rd (j := 1) rfl habr h32 hw) w hw))) ?_
        refine S.nil ?_
        refine F.q rfl rfl rfl (wanted_none rfl) (r_assign rfl) ?_
        refine F.nil ?_
        refine Nrm.seq ?_
        refine Tri.seq ?_
        refine Tri.reg (l := [0, 1, 2]) rfl ?_
        refine F.q rfl rfl rfl (wanted_none rfl) (r_move rfl) ?_
        refine F.q rfl rfl rfl (wanted_none rfl) (r_move rfl) ?_
        refine F.q rfl rfl rfl (wanted_none rfl) (r_gtr rfl rfl) ?_
        refine F.nil ?_
        refine Nrm.seq ?_
        obtain ⟨⟨y7, y8⟩, hE_3, hE⟩ := bind_some hE
        refine Tri.cut (fun e' C' => ∃ (w7 : Value), w7 = bestV vo lsr y7 ∧ e' = [(1, .int .i64 a1), (2, .pointer (some ⟨b2_1, 0, none⟩)), (7, w7), (8, .int .i64 y8), (9, v9), (10, .int .i64 x10)] ∧ C' = Sep w noM [R.sl S1r v9 lsr, R.rows S2r lsr, R.sl So vo ([] : List Int), R.box b2_1 27 [.int .i64 a0_0, va0_1, va0_2]]) ?_ (fun hj_2 => ?_)
        · rintro _ _ ⟨w7', hw7', rfl, rfl⟩
          refine Nrm.block ?_
          refine Nrm.seq ?_
          refine Tri.reg (l := [0, 1, 2]) rfl ?_
          refine F.q rfl rfl rfl (wanted_none rfl) (r_move rfl) ?_
          refine F.q rfl rfl rfl (wanted_none rfl) (r_add rfl rfl) ?_
          refine F.q rfl rfl rfl (wanted_none rfl) (r_assign rfl) ?_
          refine F.nil ?_
          refine Nrm.round ?_
          refine Rnd.only [1, 2, 7, 8, 9, 10] rfl ?_
          exact ih_1 _ _ ⟨y7, y8, w64 (x10 + 1), w7', hE, hw7', rfl, rfl⟩
        · refine Tri.cond (b := decide (t33 > x8)) rfl (fun g_2 => ?_) (fun g_2 => ?_)
          · replace hE_3 := if_tt g_2 hE_3
            obtain ⟨t40, h40, hE_3⟩ := bind_some hE_3
            refine Tri.seq ?_
            refine Tri.reg (l := [0, 1, 2, 3, 4]) rfl ?_
            refine F.q rfl rfl rfl (wanted_none rfl) (r_move rfl) ?_
            refine F.q rfl rfl rfl (wanted_none rfl) (r_move rfl) ?_
            refine F.q rfl rfl rfl (wanted_none rfl) (r_indexAddrS Try.underlying83 ti25 rfl hl_v9 rfl (rdl_some h40).1 (rdl_some h40).2.1) ?_
            refine F.q rfl rfl rfl (wanted_none rfl) (r_load ta25 rfl (fun w hw => cell_0 (hdr_cells (j := 0) rfl habr h40 hw) rfl)) ?_
            refine F.q rfl rfl rfl (wanted_none rfl) (r_assign rfl) ?_
            refine F.nil ?_
            refine Nrm.seq ?_
            refine Tri.reg (l := [0, 1]) rfl ?_
            refine F.q rfl rfl rfl (wanted_none rfl) (r_move rfl) ?_
            refine F.q rfl rfl rfl (wanted_none rfl) (r_assign rfl) ?_
            refine F.nil ?_
            cases hE_3
            refine Nrm.only [1, 2, 7, 8, 9, 10] rfl ?_
            exact hj_2 _ _ ⟨_, (bestV_at (rdl_some h40).1).symm, rfl, rfl⟩
          · replace hE_3 := if_ff g_2 hE_3
            refine Tri.skip ?_
            cases hE_3
            refine Nrm.only [1, 2, 7, 8, 9, 10] rfl ?_
            exact hj_2 _ _ ⟨w7, hw7, rfl, rfl⟩
      · replace hE := if_ff g_1 hE
        refine Tri.exit ?_
        refine Exi.then ?_
        refine Exi.then ?_
        refine Exi.same ?_
        cases hE
        refine Nrm.seq ?_
        refine Tri.seq ?_
        refine Tri.reg (l := [0, 1, 2, 3, 4, 5, 6]) rfl ?_
        refine F.q rfl rfl rfl (wanted_none rfl) (r_move rfl) ?_
        refine F.q rfl rfl rfl (wanted_none rfl) (r_move rfl) ?_
        refine F.q rfl rfl rfl (wanted_none rfl) (r_move rfl) ?_
        refine F.q rfl rfl rfl (wanted_none rfl) (r_gtr rfl rfl) ?_
        refine F.q rfl rfl rfl (wanted_none rfl) (r_assign rfl) ?_
        refine F.q rfl rfl rfl (wanted_none rfl) (r_assign rfl) ?_
        refine F.q rfl rfl rfl (wanted_none rfl) (r_assign rfl) ?_
        refine F.nil ?_
        refine Nrm.seq ?_
        refine Tri.ret ?_
        by_cases hneg : z7 < 0
        · replace h := (show some (([] : List Int), z8, decide (z8 > 0)) = some (r0, r1, r2) by rw [← h]; exact (if_pos hneg).symm)
          cases h
          rw [bestV_own hneg] at hw7
          subst hw7
          exact Rtn.body (.tmp rfl (.tmp rfl (.tmp rfl .nil))) (fun w hw => ⟨_, _, rfl, ⟨w7, So, rfl, hl_vo, rfl⟩, Sep.pick (is := [2]) rfl rfl hw⟩)
        · replace h := (show ((rdl t14 z7).bind fun t => some (t, z8, decide (z8 > 0))) = some (r0, r1, r2) by rw [← h]; exact (if_neg hneg).symm)
          obtain ⟨t, ht, h⟩ := bind_some h
          cases h
          rw [bestV_at (by omega)] at hw7
          subst hw7
          exact Rtn.body (.tmp rfl (.tmp rfl (.tmp rfl .nil))) (fun w hw => by
            obtain ⟨S', hs⟩ := rowOwn (p := 1) (js := []) rfl rfl habr ht hw
            exact ⟨_, _, rfl, ⟨_, S', rfl, rows_len hflr habr ht, rfl⟩, hs⟩)

end Go.Proofs

/- loop.example/g01158/spec.DrawNodeCounts -/
namespace Go.Proofs
open Go Go.Ga
set_option linter.unusedVariables false
set_option maxRecDepth 100000
set_option maxHeartbeats 4000000
def spec_DrawNodeCounts.f (k : Nat) (a0 : List By) : Option (Int × (List (Int × Int × Int)) × (List Int) × Int × Int) := (spec_l1Cur_fill9.f k a0 0 0).bind fun (t14_1, t14_2, t14_3, t14_4, t14_5, t14_6) => ((spec_l2Set.f k t14_4).bind fun t18 => (if t18 = true then (if (decide (t14_4 > 0)) = true then (spec_l1Cur_one.f k a0 t14_5 t14_6 10).bind fun (t25_1, t25_2, t25_3) => some (!t25_1, t25_2, t25_3) else some (false, t14_5, t14_6)) else some (false, t14_5, t14_6))).bind fun (y27, yb11_1_1, yb11_1_2) => (if y27 = true then (spec_l2Colours.f k t14_4).bind fun t29 => ((spec_l1Cur_pick.f k a0 yb11_1_1 yb11_1_2 (t29.length : Int)).bind fun (t36_1, t36_2, t36_3) => (rdl t29 t36_1).bind fun t37 => some (t14_4, t37, t14_1)).bind fun (y3, y4, yb2_1_0) => some (yb2_1_0, t14_2, t14_3, y3, y4) else ((spec_l1Cur_among.f k a0 yb11_1_1 yb11_1_2 ([0, 1, 5, 6, (-1)] : List (Int))).bind fun (t43_1, t43_2, t43_3) => some (t14_4, t43_1, t14_1)).bind fun (y3r, y4r, yb2_1_0r) => some (yb2_1_0r, t14_2, t14_3, y3r, y4r))

theorem spec_DrawNodeCounts.ok {k : Nat}  {a0 : List By} {r0 : Int} {r1 : List (Int × Int × Int)} {r2 : List Int} {r3 : Int} {r4 : Int} (h : spec_DrawNodeCounts.f k a0 = some (r0, r1, r2, r3, r4)) (w : World) {va0 : Value} (hr_a0 : Rd w va0 a0) :
    Calls Try.prog 16 ([va0] : List Value).toArray w (Post (fun u ns => ∃ (ur1 : Value) (Sr1 : Nat → Prop) (ur2 : Value) (Sr2 : Nat → Prop), u = .tuple #[.agg [.int .i64 r0, ur1, ur2].toArray, .int .i64 r3, .int .i64 r4] ∧ SlLen ur1 r1.length ∧ SlLen ur2 r2.length ∧ ns = [R.sl Sr1 ur1 r1, R.sl Sr2 ur2 r2]) w) := by
  unfold spec_DrawNodeCounts.f at h
  have hl_va0 := hr_a0.len
  refine Calls.of_tri (N := 44) Try.func16 rfl rfl rfl (Sep.nil (M := noM)) ?_
  refine Tri.seq ?_
  refine Tri.reg (l := [0, 1, 2]) rfl ?_
  refine F.m rfl rfl rfl (wanted_none rfl) (m_alloc ti27) ?_
  rintro _ _ ⟨b2_1, rfl, rfl⟩
  refine F.q rfl rfl rfl (wanted_none rfl) (r_assign rfl) ?_
  refine F.q rfl rfl rfl (wanted_none rfl) (r_assign rfl) ?_
  refine F.nil ?_
  refine Nrm.seq ?_
  refine Tri.seq ?_
  refine Tri.reg (l := [0, 1, 2, 3]) rfl ?_
  refine F.q rfl rfl rfl (wanted_none rfl) (r_move rfl) ?_
  refine F.q rfl rfl rfl (wanted_none rfl) (r_build (pl := [(0, 1), (1, 1), (2, 1)]) (qs := [(0, [va0])]) (cs := [va0, .int .i64 0, .int .u64 0]) (by kernel_rfl) ti100 rfl (.cons (sl_cells hl_va0) rfl (Nat.le_of_ble_eq_true rfl) .nil) rfl rfl) ?_
  refine F.m rfl rfl rfl (wanted_none rfl) (m_boxG rfl rfl) ?_
  rintro _ _ ⟨b11_1, rfl, rfl⟩
  refine F.q rfl rfl rfl (wanted_none rfl) (r_assign rfl) ?_
  refine F.nil ?_
  refine Nrm.seq ?_
  refine Tri.seq ?_
  obtain ⟨⟨t14_1, t14_2, t14_3, t14_4, t14_5, t14_6⟩, h14, h⟩ := bind_some h
  refine Tri.reg (l := [0, 1, 2, 3, 4, 5, 6, 7]) rfl ?_
  refine F.q rfl rfl rfl (wanted_none rfl) (r_move rfl) ?_
  refine F.ef rfl rfl rfl (wanted_none rfl) (d_callM (xs := _) (cs := [R.box b11_1 100 [va0, .int .i64 0, .int .u64 0]]) (rest := [R.box b2_1 27 [.int .i64 0, .slice none 0 0, .slice none 0 0]]) [0] [1] rfl ok86 rfl rfl rfl rfl (fun w hw => spec_l1Cur_fill9.ok h14 w (hr_a0.down hw) (Sep.sub hw))) ?_
  rintro _ _ ⟨_, ⟨v14_1, S14_1, v14_2, S14_2, rfl, hl_v14_1, hl_v14_2, rfl⟩, rfl⟩
  refine F.q rfl rfl rfl (wanted_none rfl) (r_move rfl) ?_
  refine F.q rfl rfl rfl (wanted_none rfl) (r_extract rfl rfl) ?_
  refine F.q rfl rfl rfl (wanted_none rfl) (r_extract rfl rfl) ?_
  refine F.m rfl rfl rfl (wanted_none rfl) (m_alloc ti27) ?_
  rintro _ _ ⟨b6_1, rfl, rfl⟩
  refine F.ef0 rfl rfl (wanted_none rfl) (d_storeG0 (i := 0) (cs2 := [.int .i64 t14_1, v14_1, v14_2]) ti27 rfl rfl rfl rfl rfl (Nat.le_of_ble_eq_true rfl) (lf_cons rfl (lf_cons (sl_leaf hl_v14_1) (lf_cons (sl_leaf hl_v14_2) lf_nil)))) ?_
  rintro _ _ ⟨rfl, rfl⟩
  refine F.q rfl rfl rfl (wanted_none rfl) (r_assign rfl) ?_
  refine F.nil ?_
  refine Nrm.seq ?_
  refine Tri.seq ?_
  refine Tri.seq ?_
  obtain ⟨⟨y27, yb11_1_1, yb11_1_2⟩, hE_1, h⟩ := bind_some h
  refine Tri.cut (fun e' C' => e' = [(2, .pointer (some ⟨b2_1, 0, none⟩)), (5, .pointer (some ⟨b11_1, 0, none⟩)), (6, .pointer (some ⟨b6_1, 0, none⟩)), (7, .int .i64 t14_4), (27, .bool y27)] ∧ C' = Sep w noM [R.box b11_1 100 [va0, .int .i64 yb11_1_1, .int .u64 yb11_1_2], R.box b6_1 27 [.int .i64 t14_1, v14_1, v14_2], R.box b2_1 27 [.int .i64 0, .slice none 0 0, .slice none 0 0], R.sl S14_1 v14_1 (t14_2 : List (Int × Int × Int)), R.sl S14_2 v14_2 (t14_3 : List (Int))]) ?_ (fun hj_1 => ?_)
  · rintro _ _ ⟨rfl, rfl⟩
    refine Nrm.seq ?_
    refine Tri.cond (b := y27) rfl (fun g_1 => ?_) (fun g_1 => ?_)
    · replace h := if_tt g_1 h
      refine Tri.seq ?_
      obtain ⟨t29, h29, h⟩ := bind_some h
      refine Tri.reg (l := [0, 1, 2]) rfl ?_
      refine F.q rfl rfl rfl (wanted_none rfl) (r_move rfl) ?_
      refine F.m rfl rfl rfl (wanted_none rfl) (m_callF (xs := _) rfl ok94 rfl rfl (fun w hw => spec_l2Colours.ok h29 w )) ?_
      rintro v29_1 _ ⟨_, ⟨S29_1, hl_v29_1, rfl⟩, rfl⟩
      refine F.q rfl rfl rfl (wanted_none rfl) (r_assign rfl) ?_
      refine F.nil ?_
      refine Nrm.seq ?_
      refine Tri.seq ?_
      obtain ⟨⟨y3, y4, yb2_1_0⟩, hE_2, h⟩ := bind_some h
      refine Tri.cut (fun e' C' => e' = [(2, .pointer (some ⟨b2_1, 0, none⟩)), (3, .int .i64 y3), (4, .int .i64 y4)] ∧ C' = Sep w noM [R.box b2_1 27 [.int .i64 yb2_1_0, v14_1, v14_2], R.sl S14_1 v14_1 (t14_2 : List (Int × Int × Int)), R.sl S14_2 v14_2 (t14_3 : List (Int))]) ?_ (fun hj_2 => ?_)
      · rintro _ _ ⟨rfl, rfl⟩
        refine Nrm.seq ?_
        refine Tri.ret ?_
        refine Rtn.then ?_
        cases h
        exact Rtn.body (.cell rfl ta27 ti27 rfl (fun _ hw => box_cells (i := 0) rfl _ hw) (.tmp rfl (.tmp rfl .nil))) (fun w hw => ⟨_, _, rfl, ⟨v14_1, S14_1, v14_2, S14_2, rfl, hl_v14_1, hl_v14_2, rfl⟩, Sep.pick (is := [1, 2]) rfl rfl hw⟩)
      · obtain ⟨⟨t36_1, t36_2, t36_3⟩, h36, hE_2⟩ := bind_some hE_2
        obtain ⟨t37, h37, hE_2⟩ := bind_some hE_2
        refine Tri.drawTK (B := Sep w noM [R.sl S29_1 v29_1 (t29 : List (Int)), R.box b6_1 27 [.int .i64 t14_1, v14_1, v14_2], R.sl S14_1 v14_1 (t14_2 : List (Int × Int × Int)), R.sl S14_2 v14_2 (t14_3 : List (Int))]) mixedT Sep.up [0, 1, 2, 3, 4, 5, 6, 7, 8, 9, 10] [11] (.q 0 (.q 1 (.q 2 (.q 3 (.q 4 (.q 5 (.alt 6 (.q 7 (.q 8 (.alt 9 (.q 10 .nil) .stop))) .stop))))))) (by kernel_rfl) ?_
        refine TK.q [0, 2, 4, 5] rfl rfl rfl rfl rfl (wanted_none rfl) (r_loadA ta27 ti27 rfl rfl (fun w hw => (box_cells (i := 1) rfl w hw))) ?_
        refine TK.q [0, 2, 4, 5] rfl rfl rfl rfl rfl (wanted_none rfl) (r_move rfl) ?_
        refine TK.q [0, 2, 4, 5] rfl rfl rfl rfl rfl (wanted_none rfl) (r_move rfl) ?_
        refine TK.q [0, 2, 4, 5] rfl rfl rfl rfl rfl (wanted_none rfl) (r_move rfl) ?_
        refine TK.q [0, 2, 4, 5] rfl rfl rfl rfl rfl (wanted_none rfl) (r_move rfl) ?_
        refine TK.q [0, 2, 4, 5] rfl rfl rfl rfl rfl (wanted_none rfl) (r_len Try.underlying25 rfl hl_v29_1) ?_
        refine T.ef rfl rfl rfl (wanted_none rfl) (d_callM (xs := _) (cs := [R.box b11_1 100 [va0, .int .i64 yb11_1_1, .int .u64 yb11_1_2]]) (rest := [R.sl S29_1 v29_1 (t29 : List (Int)), R.box b6_1 27 [.int .i64 t14_1, v14_1, v14_2], R.box b2_1 27 [.int .i64 0, .slice none 0 0, .slice none 0 0], R.sl S14_1 v14_1 (t14_2 : List (Int × Int × Int)), R.sl S14_2 v14_2 (t14_3 : List (Int))]) [1] [0, 2, 3, 4, 5] rfl ok95 rfl rfl rfl rfl (fun w hw => spec_l1Cur_pick.ok h36 w (hr_a0.down hw) (Sep.sub hw))) (by rintro _ _ ⟨_, ⟨rfl, rfl⟩, rfl⟩; exact upd rfl [1, 2, 4, 5] rfl rfl) ?_ ?_
        · rintro _ _ ⟨_, ⟨rfl, rfl⟩, rfl⟩
          refine TK.q [1, 2, 4, 5] rfl rfl rfl rfl rfl (wanted_none rfl) (r_indexAddrS Try.underlying25 ti3 rfl hl_v29_1 rfl (rdl_some h37).1 (rdl_some h37).2.1) ?_
          refine TK.q [1, 2, 4, 5] rfl rfl rfl rfl rfl (wanted_none rfl) (r_load ta3 rfl (fun w hw => cell_0 (Rd.flat ((rd_sl (i := 0) rfl) w hw) (rdl_some h37).2.2) rfl)) ?_
          refine T.ef0 rfl rfl (wanted_none rfl) (d_storeG0 (i := 3) (cs2 := [.int .i64 t14_1, v14_1, v14_2]) ti27 rfl rfl rfl rfl rfl (Nat.le_of_ble_eq_true rfl) (lf_cons rfl (lf_cons (sl_leaf hl_v14_1) (lf_cons (sl_leaf hl_v14_2) lf_nil)))) (by rintro _ _ ⟨rfl, rfl⟩; exact upd rfl [1, 2, 4, 5] rfl rfl) ?_ ?_
          · rintro _ _ ⟨rfl, rfl⟩
            refine TK.q [1, 2, 4, 5] rfl rfl rfl rfl rfl (wanted_none rfl) (r_assign rfl) ?_
            refine T.nil ?_
            refine F.q rfl rfl rfl (wanted_none rfl) (r_assign rfl) ?_
            refine F.nil ?_
            cases hE_2
            refine Nrm.only [2, 3, 4] rfl ?_
            refine Nrm.pick [3, 4, 5] rfl rfl ?_
            exact hj_2 _ _ ⟨rfl, rfl⟩
          exact T.stop
        exact T.stop
    · replace h := if_ff g_1 h
      refine Tri.skip ?_
      refine Nrm.seq ?_
      refine Tri.seq ?_
      obtain ⟨⟨y3r, y4r, yb2_1_0r⟩, hE_3, h⟩ := bind_some h
      refine Tri.cut (fun e' C' => e' = [(2, .pointer (some ⟨b2_1, 0, none⟩)), (3, .int .i64 y3r), (4, .int .i64 y4r)] ∧ C' = Sep w noM [R.box b2_1 27 [.int .i64 yb2_1_0r, v14_1, v14_2], R.sl S14_1 v14_1 (t14_2 : List (Int × Int × Int)), R.sl S14_2 v14_2 (t14_3 : List (Int))]) ?_ (fun hj_3 => ?_)
      · rintro _ _ ⟨rfl, rfl⟩
        refine Nrm.seq ?_
        refine Tri.ret ?_
        cases h
        exact Rtn.body (.cell rfl ta27 ti27 rfl (fun _ hw => box_cells (i := 0) rfl _ hw) (.tmp rfl (.tmp rfl .nil))) (fun w hw => ⟨_, _, rfl, ⟨v14_1, S14_1, v14_2, S14_2, rfl, hl_v14_1, hl_v14_2, rfl⟩, Sep.pick (is := [1, 2]) rfl rfl hw⟩)
      · obtain ⟨⟨t43_1, t43_2, t43_3⟩, h43, hE_3⟩ := bind_some hE_3
        refine Tri.drawTZ mixedT Sep.up [1, 2, 0, 3, 4, 5] [6, 7] (.q 1 (.q 2 (.alt 0 (.alt 3 (.alt 4 (.alt 5 .nil .stop) .stop) .stop) (.alt 3 (.alt 0 (.alt 4 (.alt 5 .nil .stop) .stop) (.alt 4 (.alt 0 (.alt 5 .nil .stop) .stop) .stop)) .stop)))) (by kernel_rfl) ?_
        refine TZ.q rfl rfl rfl (wanted_none rfl) (r_move rfl) ?_
        refine TZ.q rfl rfl rfl (wanted_none rfl) (r_move rfl) ?_
        refine T.ef rfl rfl rfl (wanted_none rfl) (Runs.does (r_loadA ta27 ti27 rfl rfl (fun w hw => (box_cells (i := 1) rfl w hw)))) (by rintro _ _ ⟨rfl, rfl⟩; exact ⟨Sep.up, fun _ _ => trivial⟩) ?_ ?_
        · rintro _ _ ⟨rfl, rfl⟩
          refine T.ef rfl rfl rfl (wanted_none rfl) (Makes.does (m_buildF (l := ([0, 1, 5, 6, (-1)] : List (Int))) Try.underlying25 ti3 rfl rfl rfl rfl rfl)) (by rintro v42_1 _ ⟨S42_1, hl_v42_1, rfl⟩; exact ⟨Sep.up, fun _ _ => trivial⟩) ?_ ?_
          · rintro v42_1 _ ⟨S42_1, hl_v42_1, rfl⟩
            refine T.ef rfl rfl rfl (wanted_none rfl) (d_callM (xs := _) (cs := [R.box b11_1 100 [va0, .int .i64 yb11_1_1, .int .u64 yb11_1_2]]) (rest := [R.sl S42_1 v42_1 (([0, 1, 5, 6, (-1)] : List (Int)) : List (Int)), R.box b6_1 27 [.int .i64 t14_1, v14_1, v14_2], R.box b2_1 27 [.int .i64 0, .slice none 0 0, .slice none 0 0], R.sl S14_1 v14_1 (t14_2 : List (Int × Int × Int)), R.sl S14_2 v14_2 (t14_3 : List (Int))]) [1] [0, 2, 3, 4, 5] rfl ok96 rfl rfl rfl rfl (fun w hw => spec_l1Cur_among.ok h43 w (hr_a0.down hw) (rdm_sl (i := 0) rfl hw) (Sep.sub hw))) (by rintro _ _ ⟨_, ⟨rfl, rfl⟩, rfl⟩; exact ⟨Sep.up, fun _ _ => trivial⟩) ?_ ?_
            · rintro _ _ ⟨_, ⟨rfl, rfl⟩, rfl⟩
              refine T.ef0 rfl rfl (wanted_none rfl) (d_storeG0 (i := 3) (cs2 := [.int .i64 t14_1, v14_1, v14_2]) ti27 rfl rfl rfl rfl rfl (Nat.le_of_ble_eq_true rfl) (lf_cons rfl (lf_cons (sl_leaf hl_v14_1) (lf_cons (sl_leaf hl_v14_2) lf_nil)))) (by rintro _ _ ⟨rfl, rfl⟩; exact ⟨Sep.up, fun _ _ => trivial⟩) ?_ ?_
              · rintro _ _ ⟨rfl, rfl⟩
                refine T.nil ?_
                refine F.q rfl rfl rfl (wanted_none rfl) (r_assign rfl) ?_
                refine F.q rfl rfl rfl (wanted_none rfl) (r_assign rfl) ?_
                refine F.nil ?_
                cases hE_3
                refine Nrm.only [2, 3, 4] rfl ?_
                refine Nrm.pick [3, 4, 5] rfl rfl ?_
                exact hj_3 _ _ ⟨rfl, rfl⟩
              exact T.stop
            exact T.stop
          exact T.stop
        · refine T.ef rfl rfl rfl (wanted_none rfl) (Makes.does (m_buildF (l := ([0, 1, 5, 6, (-1)] : List (Int))) Try.underlying25 ti3 rfl rfl rfl rfl rfl)) (by rintro v42_2 _ ⟨S42_2, hl_v42_2, rfl⟩; exact ⟨Sep.up, fun _ _ => trivial⟩) ?_ ?_
          · rintro v42_2 _ ⟨S42_2, hl_v42_2, rfl⟩
            refine T.ef rfl rfl rfl (wanted_none rfl) (Runs.does (r_loadA ta27 ti27 rfl rfl (fun w hw => (box_cells (i := 2) rfl w hw)))) (by rintro _ _ ⟨rfl, rfl⟩; exact ⟨Sep.up, fun _ _ => trivial⟩) ?_ ?_
            · rintro _ _ ⟨rfl, rfl⟩
              refine T.ef rfl rfl rfl (wanted_none rfl) (d_callM (xs := _) (cs := [R.box b11_1 100 [va0, .int .i64 yb11_1_1, .int .u64 yb11_1_2]]) (rest := [R.sl S42_2 v42_2 (([0, 1, 5, 6, (-1)] : List (Int)) : List (Int)), R.box b6_1 27 [.int .i64 t14_1, v14_1, v14_2], R.box b2_1 27 [.int .i64 0, .slice none 0 0, .slice none 0 0], R.sl S14_1 v14_1 (t14_2 : List (Int × Int × Int)), R.sl S14_2 v14_2 (t14_3 : List (Int))]) [1] [0, 2, 3, 4, 5] rfl ok96 rfl rfl rfl rfl (fun w hw => spec_l1Cur_among.ok h43 w (hr_a0.down hw) (rdm_sl (i := 0) rfl hw) (Sep.sub hw))) (by rintro _ _ ⟨_, ⟨rfl, rfl⟩, rfl⟩; exact ⟨Sep.up, fun _ _ => trivial⟩) ?_ ?_
              · rintro _ _ ⟨_, ⟨rfl, rfl⟩, rfl⟩
                refine T.ef0 rfl rfl (wanted_none rfl) (d_storeG0 (i := 3) (cs2 := [.int .i64 t14_1, v14_1, v14_2]) ti27 rfl rfl rfl rfl rfl (Nat.le_of_ble_eq_true rfl) (lf_cons rfl (lf_cons (sl_leaf hl_v14_1) (lf_cons (sl_leaf hl_v14_2) lf_nil)))) (by rintro _ _ ⟨rfl, rfl⟩; exact ⟨Sep.up, fun _ _ => trivial⟩) ?_ ?_
                · rintro _ _ ⟨rfl, rfl⟩
                  refine T.nil ?_
                  refine F.q rfl rfl rfl (wanted_none rfl) (r_assign rfl) ?_
                  refine F.q rfl rfl rfl (wanted_none rfl) (r_assign rfl) ?_
                  refine F.nil ?_
                  cases hE_3
                  refine Nrm.only [2, 3, 4] rfl ?_
                  refine Nrm.pick [3, 4, 5] rfl rfl ?_
                  exact hj_3 _ _ ⟨rfl, rfl⟩
                exact T.stop
              exact T.stop
            · refine T.ef rfl rfl rfl (wanted_none rfl) (d_callM (xs := _) (cs := [R.box b11_1 100 [va0, .int .i64 yb11_1_1, .int .u64 yb11_1_2]]) (rest := [R.sl S42_2 v42_2 (([0, 1, 5, 6, (-1)] : List (Int)) : List (Int)), R.box b6_1 27 [.int .i64 t14_1, v14_1, v14_2], R.box b2_1 27 [.int .i64 0, .slice none 0 0, .slice none 0 0], R.sl S14_1 v14_1 (t14_2 : List (Int × Int × Int)), R.sl S14_2 v14_2 (t14_3 : List (Int))]) [1] [0, 2, 3, 4, 5] rfl ok96 rfl rfl rfl rfl (fun w hw => spec_l1Cur_among.ok h43 w (hr_a0.down hw) (rdm_sl (i := 0) rfl hw) (Sep.sub hw))) (by rintro _ _ ⟨_, ⟨rfl, rfl⟩, rfl⟩; exact ⟨Sep.up, fun _ _ => trivial⟩) ?_ ?_
              · rintro _ _ ⟨_, ⟨rfl, rfl⟩, rfl⟩
                refine T.ef rfl rfl rfl (wanted_none rfl) (Runs.does (r_loadA ta27 ti27 rfl rfl (fun w hw => (box_cells (i := 2) rfl w hw)))) (by rintro _ _ ⟨rfl, rfl⟩; exact ⟨Sep.up, fun _ _ => trivial⟩) ?_ ?_
                · rintro _ _ ⟨rfl, rfl⟩
                  refine T.ef0 rfl rfl (wanted_none rfl) (d_storeG0 (i := 3) (cs2 := [.int .i64 t14_1, v14_1, v14_2]) ti27 rfl rfl rfl rfl rfl (Nat.le_of_ble_eq_true rfl) (lf_cons rfl (lf_cons (sl_leaf hl_v14_1) (lf_cons (sl_leaf hl_v14_2) lf_nil)))) (by rintro _ _ ⟨rfl, rfl⟩; exact ⟨Sep.up, fun _ _ => trivial⟩) ?_ ?_
                  · rintro _ _ ⟨rfl, rfl⟩
                    refine T.nil ?_
                    refine F.q rfl rfl rfl (wanted_none rfl) (r_assign rfl) ?_
                    refine F.q rfl rfl rfl (wanted_none rfl) (r_assign rfl) ?_
                    refine F.nil ?_
                    cases hE_3
                    refine Nrm.only [2, 3, 4] rfl ?_
                    refine Nrm.pick [3, 4, 5] rfl rfl ?_
                    exact hj_3 _ _ ⟨rfl, rfl⟩
                  exact T.stop
                exact T.stop
              exact T.stop
          exact T.stop
  · obtain ⟨t18, h18, hE_1⟩ := bind_some hE_1
    rcases Bool.eq_false_or_eq_true (t18) with g19 | g19
    · replace hE_1 := if_tt g19 hE_1
      rcases Bool.eq_false_or_eq_true (decide (t14_4 > 0)) with g23 | g23
      · replace hE_1 := if_tt g23 hE_1
        obtain ⟨⟨t25_1, t25_2, t25_3⟩, h25, hE_1⟩ := bind_some hE_1
        refine Tri.reg (l := [0, 1, 2, 3, 4, 5, 6, 7, 8, 9, 10]) rfl ?_
        refine F.q rfl rfl rfl (wanted_none rfl) (r_move rfl) ?_
        refine F.qc rfl rfl rfl (wanted_none rfl) (q_callF (xs := _) rfl ok92 rfl rfl (fun w hw => spec_l2Set.ok h18 w )) ?_
        refine F.q rfl rfl rfl (wanted_none rfl) (r_move rfl) ?_
        refine F.q rfl rfl rfl (wg rfl rfl rfl g19) (r_move rfl) ?_
        refine F.q rfl rfl rfl (wg rfl rfl rfl g19) (r_gtr rfl rfl) ?_
        refine F.q rfl rfl rfl (wanted_none rfl) (r_pick rfl rfl g19) ?_
        refine F.q rfl rfl rfl (wanted_none rfl) (r_move rfl) ?_
        refine F.q rfl rfl rfl (wg rfl rfl rfl g23) (r_move rfl) ?_
        refine F.ef rfl rfl rfl (wg rfl rfl rfl g23) (d_callM (xs := _) (cs := [R.box b11_1 100 [va0, .int .i64 t14_5, .int .u64 t14_6]]) (rest := [R.box b6_1 27 [.int .i64 t14_1, v14_1, v14_2], R.sl S14_1 v14_1 (t14_2 : List (Int × Int × Int)), R.sl S14_2 v14_2 (t14_3 : List (Int)), R.box b2_1 27 [.int .i64 0, .slice none 0 0, .slice none 0 0]]) [3] [0, 1, 2, 4] rfl ok93 rfl rfl rfl rfl (fun w hw => spec_l1Cur_one.ok h25 w (hr_a0.down hw) (Sep.sub hw))) ?_
        rintro _ _ ⟨_, ⟨rfl, rfl⟩, rfl⟩
        refine F.q rfl rfl rfl (wg rfl rfl rfl g23) (r_not rfl) ?_
        refine F.q rfl rfl rfl (wanted_none rfl) (r_pick rfl rfl g23) ?_
        refine F.nil ?_
        cases hE_1
        refine Nrm.only [2, 5, 6, 7, 27] rfl ?_
        refine Nrm.pick [0, 1, 4, 2, 3] rfl rfl ?_
        exact hj_1 _ _ ⟨rfl, rfl⟩
      · replace hE_1 := if_ff g23 hE_1
        refine Tri.reg (l := [0, 1, 2, 3, 4, 5, 6, 7, 8, 9, 10]) rfl ?_
        refine F.q rfl rfl rfl (wanted_none rfl) (r_move rfl) ?_
        refine F.qc rfl rfl rfl (wanted_none rfl) (q_callF (xs := _) rfl ok92 rfl rfl (fun w hw => spec_l2Set.ok h18 w )) ?_
        refine F.q rfl rfl rfl (wanted_none rfl) (r_move rfl) ?_
        refine F.q rfl rfl rfl (wg rfl rfl rfl g19) (r_move rfl) ?_
        refine F.q rfl rfl rfl (wg rfl rfl rfl g19) (r_gtr rfl rfl) ?_
        refine F.q rfl rfl rfl (wanted_none rfl) (r_pick rfl rfl g19) ?_
        refine F.q rfl rfl rfl (wanted_none rfl) (r_move rfl) ?_
        refine F.sk rfl rfl rfl (wf rfl rfl rfl g23) ?_
        refine F.sk rfl rfl rfl (wf rfl rfl rfl g23) ?_
        refine F.sk rfl rfl rfl (wf rfl rfl rfl g23) ?_
        refine F.q rfl rfl rfl (wanted_none rfl) (r_pickf rfl rfl g23) ?_
        refine F.nil ?_
        cases hE_1
        refine Nrm.only [2, 5, 6, 7, 27] rfl ?_
        refine Nrm.pick [3, 0, 4, 1, 2] rfl rfl ?_
        exact hj_1 _ _ ⟨rfl, rfl⟩
    · replace hE_1 := if_ff g19 hE_1
      refine Tri.reg (l := [0, 1, 2, 3, 4, 5, 6, 7, 8, 9, 10]) rfl ?_
      refine F.q rfl rfl rfl (wanted_none rfl) (r_move rfl) ?_
      refine F.qc rfl rfl rfl (wanted_none rfl) (q_callF (xs := _) rfl ok92 rfl rfl (fun w hw => spec_l2Set.ok h18 w )) ?_
      refine F.q rfl rfl rfl (wanted_none rfl) (r_move rfl) ?_
      refine F.sk rfl rfl rfl (wf rfl rfl rfl g19) ?_
      refine F.sk rfl rfl rfl (wf rfl rfl rfl g19) ?_
      refine F.q rfl rfl rfl (wanted_none rfl) (r_pickf rfl rfl g19) ?_
      refine F.q rfl rfl rfl (wanted_none rfl) (r_move rfl) ?_
      refine F.sk rfl rfl rfl (wf rfl rfl rfl rfl) ?_
      refine F.sk rfl rfl rfl (wf rfl rfl rfl rfl) ?_
      refine F.sk rfl rfl rfl (wf rfl rfl rfl rfl) ?_
      refine F.q rfl rfl rfl (wanted_none rfl) (r_pickf rfl rfl rfl) ?_
      refine F.nil ?_
      cases hE_1
      refine Nrm.only [2, 5, 6, 7, 27] rfl ?_
      refine Nrm.pick [3, 0, 4, 1, 2] rfl rfl ?_
      exact hj_1 _ _ ⟨rfl, rfl⟩

end Go.Proofs

/- loop.example/g01158/laws.vCut -/

namespace Go.Proofs
open Go Go.Ga
set_option linter.unusedVariables false
set_option maxRecDepth 100000
set_option maxHeartbeats 4000000
def laws_vCut.f (k : Nat) (a0 : List By) (a1 : Int) : Option ((List By)) := ((if (decide (a1 > (a0.length : Int))) = true then some (a0.length : Int) else some a1)).bind fun y1 => (slc a0 y1 (a0.length : Int)).bind fun t14 => if (([] : List (By)) ++ t14).length < 1099511627776 then if ((([] : List (By)) ++ t14) ++ ([By.mk (IntKind.u8.wrap y1)] : List (By))).length < 1099511627776 then some ((([] : List (By)) ++ t14) ++ ([By.mk (IntKind.u8.wrap y1)] : List (By))) else none else none

theorem laws_vCut.ok {k : Nat}  {a0 : List By} {a1 : Int} {r0 : List By} (h : laws_vCut.f k a0 a1 = some r0) (w : World) {va0 : Value} (hr_a0 : Rd w va0 a0) :
    Calls Try.prog 17 ([va0, .int .i64 a1] : List Value).toArray w (Post (fun u ns => ∃ (Sr0 : Nat → Prop), SlLen u r0.length ∧ ns = [R.sl Sr0 u r0]) w) := by
  unfold laws_vCut.f at h
  have hl_va0 := hr_a0.len
  refine Calls.of_tri (N := 20) Try.func17 rfl rfl rfl (Sep.nil (M := noM)) ?_
  refine Tri.seq ?_
  refine Tri.reg (l := [0]) rfl ?_
  refine F.q rfl rfl rfl (wanted_none rfl) (r_assign rfl) ?_
  refine F.nil ?_
  refine Nrm.seq ?_
  refine Tri.seq ?_
  refine Tri.seq ?_
  refine Tri.reg (l := [0, 1, 2, 3]) rfl ?_
  refine F.q rfl rfl rfl (wanted_none rfl) (r_move rfl) ?_
  refine F.q rfl rfl rfl (wanted_none rfl) (r_move rfl) ?_
  refine F.q rfl rfl rfl (wanted_none rfl) (r_len Try.underlying22 rfl hl_va0) ?_
  refine F.q rfl rfl rfl (wanted_none rfl) (r_gtr rfl rfl) ?_
  refine F.nil ?_
  refine Nrm.seq ?_
  obtain ⟨y1, hE_1, h⟩ := bind_some h
  refine Tri.cut (fun e' C' => e' = [(0, va0), (1, .int .i64 y1)] ∧ C' = Sep w noM []) ?_ (fun hj_1 => ?_)
  · rintro _ _ ⟨rfl, rfl⟩
    refine Nrm.seq ?_
    refine Tri.seq ?_
    obtain ⟨t14, h14, h⟩ := bind_some h
    obtain ⟨hs15, h⟩ := ck h
    obtain ⟨hs19, h⟩ := ck h
    refine Tri.reg (l := [0, 1, 2, 3, 4, 5, 6, 7, 8, 9]) rfl ?_
    refine F.m rfl rfl rfl (wanted_none rfl) (m_build0 (α := By) Try.underlying22 ti5) ?_
    rintro v11_1 _ ⟨S11_1, hl_v11_1, rfl⟩
    refine F.q rfl rfl rfl (wanted_none rfl) (r_move rfl) ?_
    refine F.q rfl rfl rfl (wanted_none rfl) (r_move rfl) ?_
    refine F.q rfl rfl rfl (wanted_none rfl) (r_sliceL Try.underlying22 ti5 rfl (fun _ hw => hr_a0.sep hw) rfl h14) ?_
    refine F.ef rfl rfl rfl (wanted_none rfl) (d_append (i := 0) Try.underlying22 Try.underlying22 ti5 rfl (by decide) rfl rfl rfl (fun w hw => rd_slc ((fun _ hw => hr_a0.sep hw) w hw) h14) hs15) ?_
    rintro v15_1 _ ⟨S15_1, rfl, hl_v15_1⟩
    refine F.q rfl rfl rfl (wanted_none rfl) (r_move rfl) ?_
    refine F.q rfl rfl rfl (wanted_none rfl) (r_conv Try.underlying3 Try.underlying5 rfl) ?_
    refine F.m rfl rfl rfl (wanted_none rfl) (m_buildF (l := ([By.mk (IntKind.u8.wrap y1)] : List (By))) Try.underlying22 ti5 rfl rfl rfl rfl rfl) ?_
    rintro v18_1 _ ⟨S18_1, hl_v18_1, rfl⟩
    refine F.ef rfl rfl rfl (wanted_none rfl) (d_append (i := 1) Try.underlying22 Try.underlying22 ti5 rfl (by decide) rfl rfl rfl (rd_sl (i := 0) rfl) hs19) ?_
    rintro v19_1 _ ⟨S19_1, rfl, hl_v19_1⟩
    refine F.q rfl rfl rfl (wanted_none rfl) (r_assign rfl) ?_
    refine F.nil ?_
    refine Nrm.seq ?_
    refine Tri.ret ?_
    cases h
    exact Rtn.body (.tmp rfl .nil) (fun w hw => ⟨_, _, rfl, ⟨S19_1, hl_v19_1, rfl⟩, Sep.pick (is := [1]) rfl rfl hw⟩)
  · refine Tri.cond (b := decide (a1 > (a0.length : Int))) rfl (fun g_1 => ?_) (fun g_1 => ?_)
    · replace hE_1 := if_tt g_1 hE_1
      refine Tri.reg (l := [0, 1, 2]) rfl ?_
      refine F.q rfl rfl rfl (wanted_none rfl) (r_move rfl) ?_
      refine F.q rfl rfl rfl (wanted_none rfl) (r_len Try.underlying22 rfl hl_va0) ?_
      refine F.q rfl rfl rfl (wanted_none rfl) (r_assign rfl) ?_
      refine F.nil ?_
      cases hE_1
      refine Nrm.only [0, 1] rfl ?_
      refine Nrm.pick [] rfl rfl ?_
      exact hj_1 _ _ ⟨rfl, rfl⟩
    · replace hE_1 := if_ff g_1 hE_1
      refine Tri.skip ?_
      cases hE_1
      refine Nrm.only [0, 1] rfl ?_
      refine Nrm.pick [] rfl rfl ?_
      exact hj_1 _ _ ⟨rfl, rfl⟩

end Go.Proofs

/- slices.Index[[]int,int] -/

namespace Go.Proofs
open Go Go.Ga
set_option linter.unusedVariables false
set_option maxRecDepth 100000
set_option maxHeartbeats 4000000
def slices_Index_int_int.l0 (k : Nat) (a0 : List Int) (a1 : Int) : Nat → Int → Option ((Unit) ⊕ (Int))
  | 0, _ => none
  | n + 1, x8 => (if (decide (x8 < (a0.length : Int))) = true then (rdl a0 x8).bind fun t14 => (if (a1 == t14) = true then some (Sum.inr x8) else slices_Index_int_int.l0 k a0 a1 n (w64 (x8 + 1))) else some (Sum.inl ()))

def slices_Index_int_int.f (k : Nat) (a0 : List Int) (a1 : Int) : Option (Int) := (slices_Index_int_int.l0 k a0 a1 k 0).bind fun s => Lr s some fun _ => some (-1)

theorem slices_Index_int_int.ok {k : Nat}  {a0 : List Int} {a1 : Int} {r0 : Int} (h : slices_Index_int_int.f k a0 a1 = some r0) (w : World) {va0 : Value} (hr_a0 : Rd w va0 a0) :
    Calls Try.prog 97 ([va0, .int .i64 a1] : List Value).toArray w (fun e w' => e = .returned (.int .i64 r0) ∧ Ext w w') := by
  unfold slices_Index_int_int.f at h
  have hl_va0 := hr_a0.len
  refine Calls.of_tri (N := 19) Try.func97 rfl rfl rfl (Sep.nil (M := noM)) ?_
  refine Tri.seq ?_
  refine Tri.reg (l := [0]) rfl ?_
  refine F.q rfl rfl rfl (wanted_none rfl) (r_assign rfl) ?_
  refine F.nil ?_
  refine Nrm.seq ?_
  refine Tri.seq ?_
  refine Tri.seq ?_
  refine Tri.reg (l := [0, 1, 2]) rfl ?_
  refine F.q rfl rfl rfl (wanted_none rfl) (r_move rfl) ?_
  refine F.q rfl rfl rfl (wanted_none rfl) (r_len Try.underlying25 rfl hl_va0) ?_
  refine F.q rfl rfl rfl (wanted_none rfl) (r_move rfl) ?_
  refine F.nil ?_
  refine Nrm.seq ?_
  obtain ⟨s0, hE_1, h⟩ := bind_some h
  refine Tri.block ?_
  refine Tri.only [0, 1, 7, 8] rfl ?_
  refine Tri.pick [] rfl rfl ?_
  refine Tri.rounds (fun n e' C' => ∃ (x8' : Int), slices_Index_int_int.l0 k a0 a1 n x8' = some s0 ∧ e' = [(0, va0), (1, .int .i64 a1), (7, .int .i64 (a0.length : Int)), (8, .int .i64 x8')] ∧ C' = Sep w noM []) k ?_ ?_ ?_
  · exact ⟨0, hE_1, rfl, rfl⟩
  · rintro _ _ ⟨_, hE_1, _⟩
    rw [slices_Index_int_int.l0.eq_1] at hE_1; cases hE_1
  · rintro n_1 _ _ ⟨x8, hE_1, rfl, rfl⟩ ih_1
    rw [slices_Index_int_int.l0.eq_2] at hE_1
    refine Tri.seq ?_
    refine Tri.reg (l := [0]) rfl ?_
    refine F.q rfl rfl rfl (wanted_none rfl) (r_lss rfl rfl) ?_
    refine F.nil ?_
    refine Nrm.seq ?_
    refine Tri.seq ?_
    refine Tri.cond (b := decide (x8 < (a0.length : Int))) rfl (fun g_1 => ?_) (fun g_1 => ?_)
    · replace hE_1 := if_tt g_1 hE_1
      refine Tri.skip ?_
      refine Nrm.seq ?_
      refine Tri.seq ?_
      refine Tri.block ?_
      refine Tri.seq ?_
      refine Tri.reg (l := [0, 1]) rfl ?_
      refine F.q rfl rfl rfl (wanted_none rfl) (r_move rfl) ?_
      refine F.q rfl rfl rfl (wanted_none rfl) (r_assign rfl) ?_
      refine F.nil ?_
      refine Nrm.seq ?_
      refine Tri.seq ?_
      obtain ⟨t14, h14, hE_1⟩ := bind_some hE_1
      refine Tri.reg (l := [0, 1, 2, 3, 4, 5]) rfl ?_
      refine F.q rfl rfl rfl (wanted_none rfl) (r_move rfl) ?_
      refine F.q rfl rfl rfl (wanted_none rfl) (r_move rfl) ?_
      refine F.q rfl rfl rfl (wanted_none rfl) (r_move rfl) ?_
      refine F.q rfl rfl rfl (wanted_none rfl) (r_indexAddrS Try.underlying25 ti3 rfl hl_va0 rfl (rdl_some h14).1 (rdl_some h14).2.1) ?_
      refine F.q rfl rfl rfl (wanted_none rfl) (r_load ta3 rfl (fun w hw => cell_0 (Rd.flat ((fun _ hw => hr_a0.sep hw) w hw) (rdl_some h14).2.2) rfl)) ?_
      refine F.q rfl rfl rfl (wanted_none rfl) (r_eql rfl rfl) ?_
      refine F.nil ?_
      refine Nrm.seq ?_
      refine Tri.cond (b := a1 == t14) rfl (fun g_2 => ?_) (fun g_2 => ?_)
      · replace hE_1 := if_tt g_2 hE_1
        refine Tri.seq ?_
        refine Tri.reg (l := [0, 1]) rfl ?_
        refine F.q rfl rfl rfl (wanted_none rfl) (r_move rfl) ?_
        refine F.q rfl rfl rfl (wanted_none rfl) (r_assign rfl) ?_
        refine F.nil ?_
        refine Nrm.seq ?_
        refine Tri.ret ?_
        refine Rtn.block ?_
        refine Rtn.then ?_
        refine Rtn.then ?_
        refine Rtn.block ?_
        refine Rtn.then ?_
        cases hE_1
        replace h := Lr_inr h
        cases h
        exact Rtn.body (.tmp rfl .nil) (fun w hw => ⟨rfl, hw.ext⟩)
      · replace hE_1 := if_ff g_2 hE_1
        refine Tri.skip ?_
        refine Nrm.block ?_
        refine Nrm.seq ?_
        refine Tri.reg (l := [0, 1]) rfl ?_
        refine F.q rfl rfl rfl (wanted_none rfl) (r_add rfl rfl) ?_
        refine F.q rfl rfl rfl (wanted_none rfl) (r_move rfl) ?_
        refine F.nil ?_
        refine Nrm.round ?_
        refine Rnd.only [0, 1, 7, 8] rfl ?_
        refine Rnd.pick [] rfl rfl ?_
        exact ih_1 _ _ ⟨w64 (x8 + 1), hE_1, rfl, rfl⟩
    · replace hE_1 := if_ff g_1 hE_1
      refine Tri.exit ?_
      refine Exi.then ?_
      refine Exi.then ?_
      refine Exi.same ?_
      cases hE_1
      replace h := Lr_inl h
      refine Nrm.seq ?_
      refine Tri.seq ?_
      refine Tri.reg (l := [0]) rfl ?_
      refine F.q rfl rfl rfl (wanted_none rfl) (r_assign rfl) ?_
      refine F.nil ?_
      refine Nrm.seq ?_
      refine Tri.ret ?_
      cases h
      exact Rtn.body (.tmp rfl .nil) (fun w hw => ⟨rfl, hw.ext⟩)

end Go.Proofs

/- loop.example/g01158/impl.NodeCounts -/
namespace Go.Proofs
open Go Go.Ga
set_option linter.unusedVariables false
set_option maxRecDepth 100000
set_option maxHeartbeats 4000000
def impl_NodeCounts.l0 (k : Nat) (t17_1 : List (List Int)) (t25 : Int) : Nat → (List (Int)) → (List (List Int)) → Int → Option ((List (Int)))
  | 0, _, _, _ => none
  | n + 1, x11, x35, x37 => (if (decide (x37 < (t17_1.length : Int))) = true then (rdl (x35 : List (List Int)) x37).bind fun t39 => (rdl t39 t25).bind fun t44 => (rdl x11 t44).bind fun t46 => (rdl x11 t44).bind fun t49 => impl_NodeCounts.l0 k t17_1 t25 n (x11.set t44.toNat (w64 (t46 + 1))) ((x35 : List (List Int)).set (x37 : Int).toNat t39) (w64 (x37 + 1)) else some x11)

def impl_NodeCounts.f (k : Nat) (a0_0 : Int) (a0_1 : List (Int × Int × Int)) (a0_2 : List Int) (a1 : Int) (a2 : Int) : Option ((List Int) × Bool) := (impl_wins.f k a0_0 a0_1 a0_2 a1).bind fun (t17_1, t17_2) => (impl_members.f k (band (imax a1 0) 63)).bind fun t23 => (slices_Index_int_int.f k t23 a2).bind fun t25 => ((if (!t17_2) = true then some true else some (decide (t25 < 0)))).bind fun y31 => (if y31 = true then some ([], false) else if 0 ≤ a0_0 ∧ a0_0 < 1099511627776 then (impl_NodeCounts.l0 k t17_1 t25 k (List.replicate (a0_0).toNat (0 : Int)) t17_1 0).bind fun x11 => some (x11, true) else none)

theorem impl_NodeCounts.ok {k : Nat}  {a0_0 : Int} {a0_1 : List (Int × Int × Int)} {a0_2 : List Int} {a1 : Int} {a2 : Int} {r0 : List Int} {r1 : Bool} (h : impl_NodeCounts.f k a0_0 a0_1 a0_2 a1 a2 = some (r0, r1)) (w : World) {va0_1 : Value} {va0_2 : Value} (hr_a0_1 : Rd w va0_1 a0_1) (hr_a0_2 : Rd w va0_2 a0_2) :
    Calls Try.prog 18 ([.agg ([.int .i64 a0_0, va0_1, va0_2].toArray), .int .i64 a1, .int .i64 a2] : List Value).toArray w (Post (fun u ns => ∃ (ur0 : Value) (Sr0 : Nat → Prop), u = .tuple #[ur0, .bool r1] ∧ SlLen ur0 r0.length ∧ ns = [R.sl Sr0 ur0 r0]) w) := by
  unfold impl_NodeCounts.f at h
  have hl_va0_1 := hr_a0_1.len
  have hl_va0_2 := hr_a0_2.len
  refine Calls.of_tri (N := 52) Try.func18 rfl rfl rfl (Sep.nil (M := noM)) ?_
  refine Tri.seq ?_
  refine Tri.reg (l := [0, 1, 2]) rfl ?_
  refine F.m rfl rfl rfl (wanted_none rfl) (m_boxG rfl rfl) ?_
  rintro _ _ ⟨b3_1, rfl, rfl⟩
  refine F.q rfl rfl rfl (wanted_none rfl) (r_assign rfl) ?_
  refine F.q rfl rfl rfl (wanted_none rfl) (r_assign rfl) ?_
  refine F.nil ?_
  refine Nrm.seq ?_
  refine Tri.seq ?_
  obtain ⟨⟨t17_1, t17_2⟩, h17, h⟩ := bind_some h
  refine Tri.reg (l := [0, 1, 2, 3, 4, 5, 6, 7]) rfl ?_
  refine F.q rfl rfl rfl (wanted_none rfl) (r_loadA ta27 ti27 rfl rfl (fun w hw => (box_cells (i := 0) rfl w hw))) ?_
  refine F.q rfl rfl rfl (wanted_none rfl) (r_move rfl) ?_
  refine F.m rfl rfl rfl (wanted_none rfl) (m_callF (xs := _) rfl ok87 rfl rfl (fun w hw => impl_wins.ok h17 w ((fun _ hw => hr_a0_1.sep hw) w hw) ((fun _ hw => hr_a0_2.sep hw) w hw))) ?_
  rintro _ _ ⟨_, ⟨v17_1, S17_1, rfl, hl_v17_1, rfl⟩, rfl⟩
  refine F.q rfl rfl rfl (wanted_none rfl) (r_move rfl) ?_
  refine F.q rfl rfl rfl (wanted_none rfl) (r_extract rfl rfl) ?_
  refine F.q rfl rfl rfl (wanted_none rfl) (r_extract rfl rfl) ?_
  refine F.q rfl rfl rfl (wanted_none rfl) (r_assign rfl) ?_
  refine F.q rfl rfl rfl (wanted_none rfl) (r_assign rfl) ?_
  refine F.nil ?_
  refine Nrm.seq ?_
  refine Tri.seq ?_
  obtain ⟨t23, h23, h⟩ := bind_some h
  obtain ⟨t25, h25, h⟩ := bind_some h
  refine Tri.reg (l := [0, 1, 2, 3, 4, 5, 6]) rfl ?_
  refine F.q rfl rfl rfl (wanted_none rfl) (r_move rfl) ?_
  refine F.q rfl rfl rfl (wanted_none rfl) (r_max rfl rfl) ?_
  refine F.q rfl rfl rfl (wanted_none rfl) (r_and rfl rfl) ?_
  refine F.m rfl rfl rfl (wanted_none rfl) (m_callF (xs := _) rfl ok98 rfl rfl (fun w hw => impl_members.ok h23 w )) ?_
  rintro v23_1 _ ⟨_, ⟨S23_1, hl_v23_1, rfl⟩, rfl⟩
  refine F.q rfl rfl rfl (wanted_none rfl) (r_move rfl) ?_
  refine F.qc rfl rfl rfl (wanted_none rfl) (q_callF (xs := _) rfl ok97 rfl rfl (fun w hw => slices_Index_int_int.ok h25 w ((rd_sl (i := 0) rfl) w hw))) ?_
  refine F.q rfl rfl rfl (wanted_none rfl) (r_assign rfl) ?_
  refine F.nil ?_
  refine Nrm.seq ?_
  refine Tri.seq ?_
  refine Tri.seq ?_
  obtain ⟨y31, hE_1, h⟩ := bind_some h
  refine Tri.cut (fun e' C' => e' = [(3, .pointer (some ⟨b3_1, 0, none⟩)), (8, v17_1), (10, .int .i64 t25), (31, .bool y31)] ∧ C' = Sep w noM [R.box b3_1 27 [.int .i64 a0_0, va0_1, va0_2], R.sl S17_1 v17_1 (t17_1 : List (List Int))]) ?_ (fun hj_1 => ?_)
  · rintro _ _ ⟨rfl, rfl⟩
    refine Nrm.seq ?_
    refine Tri.cond (b := y31) rfl (fun g_1 => ?_) (fun g_1 => ?_)
    · replace h := if_tt g_1 h
      refine Tri.seq ?_
      refine Tri.reg (l := [0, 1]) rfl ?_
      refine F.q rfl rfl rfl (wanted_none rfl) (r_assign rfl) ?_
      refine F.q rfl rfl rfl (wanted_none rfl) (r_assign rfl) ?_
      refine F.nil ?_
      refine Nrm.seq ?_
      refine Tri.ret ?_
      refine Rtn.then ?_
      cases h
      exact Rtn.body (.tmp rfl (.tmp rfl .nil)) (fun w hw => ⟨_, _, rfl, ⟨.slice none 0 0, fun _ => False, rfl, len_nil, rfl⟩, Sep.pick (is := [0]) rfl rfl hw.pushNil⟩)
    · replace h := if_ff g_1 h
      refine Tri.skip ?_
      refine Nrm.seq ?_
      refine Tri.seq ?_
      obtain ⟨hm34, h⟩ := ck h
      refine Tri.reg (l := [0, 1, 2, 3]) rfl ?_
      refine F.q rfl rfl rfl (wanted_none rfl) (r_fieldAddr tf27_0 rfl) ?_
      refine F.q rfl rfl rfl (wanted_none rfl) (r_load ta3 rfl (fun w hw => cell_1 (box_cells (i := 0) rfl w hw) rfl)) ?_
      refine F.m rfl rfl rfl (wanted_none rfl) (m_make (x0 := (0 : Int)) Try.underlying25 ti3 rfl rfl rfl hm34.1 hm34.2 (by decide)) ?_
      rintro v34_1 _ ⟨S34_1, hl_v34_1, rfl⟩
      refine F.q rfl rfl rfl (wanted_none rfl) (r_assign rfl) ?_
      refine F.nil ?_
      refine Nrm.seq ?_
      refine Tri.seq ?_
      refine Tri.seq ?_
      refine Tri.reg (l := [0, 1, 2]) rfl ?_
      refine F.q rfl rfl rfl (wanted_none rfl) (r_move rfl) ?_
      refine F.q rfl rfl rfl (wanted_none rfl) (r_len Try.underlying83 rfl hl_v17_1) ?_
      refine F.q rfl rfl rfl (wanted_none rfl) (r_move rfl) ?_
      refine F.nil ?_
      refine Nrm.seq ?_
      obtain ⟨x11, hE_2, h⟩ := bind_some h
      refine Tri.block ?_
      refine Tri.only [10, 11, 35, 36, 37] rfl ?_
      refine Tri.pick [0, 2] rfl rfl ?_
      refine Tri.rounds (fun n e' C' => ∃ (x11' : List (Int)) (x35' : List (List Int)) (x37' : Int), impl_NodeCounts.l0 k t17_1 t25 n x11' x35' x37' = some x11 ∧ SlLen v34_1 (x11').length ∧ SlLen v17_1 (x35').length ∧ e' = [(10, .int .i64 t25), (11, v34_1), (35, v17_1), (36, .int .i64 (t17_1.length : Int)), (37, .int .i64 x37')] ∧ C' = Sep w noM [R.sl S34_1 v34_1 (x11' : List (Int)), R.sl S17_1 v17_1 (x35' : List (List Int))]) k ?_ ?_ ?_
      · exact ⟨List.replicate (a0_0).toNat (0 : Int), t17_1, 0, hE_2, hl_v34_1, hl_v17_1, rfl, rfl⟩
      · rintro _ _ ⟨_, _, _, hE_2, _⟩
        rw [impl_NodeCounts.l0.eq_1] at hE_2; cases hE_2
      · rintro n_1 _ _ ⟨x11, x35, x37, hE_2, hl_x11, hl_x35, rfl, rfl⟩ ih_1
        rw [impl_NodeCounts.l0.eq_2] at hE_2
        refine Tri.seq ?_
        refine Tri.reg (l := [0]) rfl ?_
        refine F.q rfl rfl rfl (wanted_none rfl) (r_lss rfl rfl) ?_
        refine F.nil ?_
        refine Nrm.seq ?_
        refine Tri.seq ?_
        refine Tri.cond (b := decide (x37 < (t17_1.length : Int))) rfl (fun g_2 => ?_) (fun g_2 => ?_)
        · replace hE_2 := if_tt g_2 hE_2
          refine Tri.skip ?_
          refine Nrm.seq ?_
          refine Tri.seq ?_
          refine Tri.block ?_
          refine Tri.seq ?_
          obtain ⟨t39, h39, hE_2⟩ := bind_some hE_2
          refine Tri.ex (on25 [1] [0] rfl rfl (rdl_some h39).2.2) ?_
          rintro _ ⟨v39_0_1, S39_0_1, Sr39_1, hl_v39_0_1, hS39_1, rfl⟩
          refine Tri.reg (l := [0, 1, 2]) rfl ?_
          refine F.q rfl rfl rfl (wanted_none rfl) (r_indexAddrS Try.underlying83 ti25 rfl hl_x35 rfl (rdl_some h39).1 (rdl_some h39).2.1) ?_
          refine F.q rfl rfl rfl (wanted_none rfl) (r_load ta25 rfl (fun w hw => cell_0 (hole_cells (p := 1) rfl w hw) rfl)) ?_
          refine F.q rfl rfl rfl (wanted_none rfl) (r_assign rfl) ?_
          refine F.nil ?_
          refine Nrm.seq ?_
          obtain ⟨t44, h44, hE_2⟩ := bind_some hE_2
          obtain ⟨t46, h46, hE_2⟩ := bind_some hE_2
          obtain ⟨t49, h49, hE_2⟩ := bind_some hE_2
          refine Tri.reg (l := [0, 1, 2, 3, 4, 5, 6, 7, 8, 9]) rfl ?_
          refine F.q rfl rfl rfl (wanted_none rfl) (r_move rfl) ?_
          refine F.q rfl rfl rfl (wanted_none rfl) (r_move rfl) ?_
          refine F.q rfl rfl rfl (wanted_none rfl) (r_move rfl) ?_
          refine F.q rfl rfl rfl (wanted_none rfl) (r_indexAddrS Try.underlying25 ti3 rfl hl_v39_0_1 rfl (rdl_some h44).1 (rdl_some h44).2.1) ?_
          refine F.q rfl rfl rfl (wanted_none rfl) (r_load ta3 rfl (fun w hw => cell_0 (Rd.flat ((rd_sl (i := 0) rfl) w hw) (rdl_some h44).2.2) rfl)) ?_
          refine F.q rfl rfl rfl (wanted_none rfl) (r_indexAddrS Try.underlying25 ti3 rfl hl_x11 rfl (rdl_some h46).1 (rdl_some h46).2.1) ?_
          refine F.q rfl rfl rfl (wanted_none rfl) (r_load ta3 rfl (fun w hw => cell_0 (Rd.flat ((rd_sl (i := 2) rfl) w hw) (rdl_some h46).2.2) rfl)) ?_
          refine F.q rfl rfl rfl (wanted_none rfl) (r_add rfl rfl) ?_
          refine F.q rfl rfl rfl (wanted_none rfl) (r_indexAddrS Try.underlying25 ti3 rfl hl_x11 rfl (rdl_some h49).1 (rdl_some h49).2.1) ?_
          refine F.ef0 rfl rfl (wanted_none rfl) (d_storeE (i := 2) (x1 := w64 (t46 + 1)) ti3 rfl rfl rfl (rdl_some h49) rfl) ?_
          rintro _ _ ⟨rfl, rfl⟩
          refine F.nil ?_
          refine Nrm.imp (cloS1 (cs := [R.sl S39_0_1 v39_0_1 (t39 : List (Int))]) (rest := [R.sl S34_1 v34_1 (x11.set t44.toNat (w64 (t46 + 1)) : List (Int))]) [0, 1] [2] rfl rfl (jn_sl (S := S39_0_1) (v := v39_0_1) (l := (t39 : List (Int)))) hS39_1) ?_
          refine Nrm.block ?_
          refine Nrm.seq ?_
          refine Tri.reg (l := [0, 1]) rfl ?_
          refine F.q rfl rfl rfl (wanted_none rfl) (r_add rfl rfl) ?_
          refine F.q rfl rfl rfl (wanted_none rfl) (r_move rfl) ?_
          refine F.nil ?_
          refine Nrm.round ?_
          refine Rnd.only [10, 11, 35, 36, 37] rfl ?_
          refine Rnd.pick [1, 0] rfl rfl ?_
          exact ih_1 _ _ ⟨x11.set t44.toNat (w64 (t46 + 1)), (x35 : List (List Int)).set (x37 : Int).toNat t39, w64 (x37 + 1), hE_2, (len_set hl_x11), (len_set hl_x35), rfl, rfl⟩
        · replace hE_2 := if_ff g_2 hE_2
          refine Tri.exit ?_
          refine Exi.then ?_
          refine Exi.then ?_
          refine Exi.same ?_
          cases hE_2
          refine Nrm.seq ?_
          refine Tri.seq ?_
          refine Tri.reg (l := [0, 1, 2]) rfl ?_
          refine F.q rfl rfl rfl (wanted_none rfl) (r_move rfl) ?_
          refine F.q rfl rfl rfl (wanted_none rfl) (r_assign rfl) ?_
          refine F.q rfl rfl rfl (wanted_none rfl) (r_assign rfl) ?_
          refine F.nil ?_
          refine Nrm.seq ?_
          refine Tri.ret ?_
          cases h
          exact Rtn.body (.tmp rfl (.tmp rfl .nil)) (fun w hw => ⟨_, _, rfl, ⟨v34_1, S34_1, rfl, hl_x11, rfl⟩, Sep.pick (is := [0]) rfl rfl hw⟩)
  · rcases Bool.eq_false_or_eq_true (!t17_2) with g28 | g28
    · replace hE_1 := if_tt g28 hE_1
      refine Tri.reg (l := [0, 1, 2, 3, 4, 5]) rfl ?_
      refine F.q rfl rfl rfl (wanted_none rfl) (r_move rfl) ?_
      refine F.q rfl rfl rfl (wanted_none rfl) (r_not rfl) ?_
      refine F.q rfl rfl rfl (wanted_none rfl) (r_move rfl) ?_
      refine F.sk rfl rfl rfl (wf rfl rfl rfl g28) ?_
      refine F.sk rfl rfl rfl (wf rfl rfl rfl g28) ?_
      refine F.q rfl rfl rfl (wanted_none rfl) (r_pick rfl rfl g28) ?_
      refine F.nil ?_
      cases hE_1
      refine Nrm.only [3, 8, 10, 31] rfl ?_
      refine Nrm.pick [2, 1] rfl rfl ?_
      exact hj_1 _ _ ⟨rfl, rfl⟩
    · replace hE_1 := if_ff g28 hE_1
      refine Tri.reg (l := [0, 1, 2, 3, 4, 5]) rfl ?_
      refine F.q rfl rfl rfl (wanted_none rfl) (r_move rfl) ?_
      refine F.q rfl rfl rfl (wanted_none rfl) (r_not rfl) ?_
      refine F.q rfl rfl rfl (wanted_none rfl) (r_move rfl) ?_
      refine F.q rfl rfl rfl (wg rfl rfl rfl g28) (r_move rfl) ?_
      refine F.q rfl rfl rfl (wg rfl rfl rfl g28) (r_lss rfl rfl) ?_
      refine F.q rfl rfl rfl (wanted_none rfl) (r_pickf rfl rfl g28) ?_
      refine F.nil ?_
      cases hE_1
      refine Nrm.only [3, 8, 10, 31] rfl ?_
      refine Nrm.pick [2, 1] rfl rfl ?_
      exact hj_1 _ _ ⟨rfl, rfl⟩

end Go.Proofs

/- loop.example/g01158/spec.l9Place -/

namespace Go.Proofs
open Go Go.Ga
set_option linter.unusedVariables false
set_option maxRecDepth 100000
set_option maxHeartbeats 4000000
def spec_l9Place.l0 (k : Nat) (a0 : List Int) (a1 : Int) : Nat → Int → Option (Int)
  | 0, _ => none
  | n + 1, x5 => (rdl a0 x5).bind fun t8 => (if (t8 != a1) = true then spec_l9Place.l0 k a0 a1 n (w64 (x5 + 1)) else some x5)

def spec_l9Place.f (k : Nat) (a0 : List Int) (a1 : Int) : Option (Int) := (spec_l9Place.l0 k a0 a1 k 0).bind fun x5 => some x5

theorem spec_l9Place.ok {k : Nat}  {a0 : List Int} {a1 : Int} {r0 : Int} (h : spec_l9Place.f k a0 a1 = some r0) (w : World) {va0 : Value} (hr_a0 : Rd w va0 a0) :
    Calls Try.prog 100 ([va0, .int .i64 a1] : List Value).toArray w (fun e w' => e = .returned (.int .i64 r0) ∧ Ext w w') := by
  unfold spec_l9Place.f at h
  have hl_va0 := hr_a0.len
  refine Calls.of_tri (N := 15) Try.func100 rfl rfl rfl (Sep.nil (M := noM)) ?_
  refine Tri.seq ?_
  refine Tri.reg (l := [0]) rfl ?_
  refine F.q rfl rfl rfl (wanted_none rfl) (r_assign rfl) ?_
  refine F.nil ?_
  refine Nrm.seq ?_
  refine Tri.seq ?_
  refine Tri.reg (l := [0]) rfl ?_
  refine F.q rfl rfl rfl (wanted_none rfl) (r_assign rfl) ?_
  refine F.nil ?_
  refine Nrm.seq ?_
  refine Tri.seq ?_
  obtain ⟨x5, hE_1, h⟩ := bind_some h
  refine Tri.block ?_
  refine Tri.only [0, 1, 5] rfl ?_
  refine Tri.pick [] rfl rfl ?_
  refine Tri.rounds (fun n e' C' => ∃ (x5' : Int), spec_l9Place.l0 k a0 a1 n x5' = some x5 ∧ e' = [(0, va0), (1, .int .i64 a1), (5, .int .i64 x5')] ∧ C' = Sep w noM []) k ?_ ?_ ?_
  · exact ⟨0, hE_1, rfl, rfl⟩
  · rintro _ _ ⟨_, hE_1, _⟩
    rw [spec_l9Place.l0.eq_1] at hE_1; cases hE_1
  · rintro n_1 _ _ ⟨x5, hE_1, rfl, rfl⟩ ih_1
    rw [spec_l9Place.l0.eq_2] at hE_1
    refine Tri.seq ?_
    refine Tri.seq ?_
    obtain ⟨t8, h8, hE_1⟩ := bind_some hE_1
    refine Tri.reg (l := [0, 1, 2, 3, 4, 5]) rfl ?_
    refine F.q rfl rfl rfl (wanted_none rfl) (r_move rfl) ?_
    refine F.q rfl rfl rfl (wanted_none rfl) (r_move rfl) ?_
    refine F.q rfl rfl rfl (wanted_none rfl) (r_indexAddrS Try.underlying25 ti3 rfl hl_va0 rfl (rdl_some h8).1 (rdl_some h8).2.1) ?_
    refine F.q rfl rfl rfl (wanted_none rfl) (r_load ta3 rfl (fun w hw => cell_0 (Rd.flat ((fun _ hw => hr_a0.sep hw) w hw) (rdl_some h8).2.2) rfl)) ?_
    refine F.q rfl rfl rfl (wanted_none rfl) (r_move rfl) ?_
    refine F.q rfl rfl rfl (wanted_none rfl) (r_neq rfl rfl) ?_
    refine F.nil ?_
    refine Nrm.seq ?_
    refine Tri.cond (b := t8 != a1) rfl (fun g_1 => ?_) (fun g_1 => ?_)
    · replace hE_1 := if_tt g_1 hE_1
      refine Tri.skip ?_
      refine Nrm.seq ?_
      refine Tri.block ?_
      refine Tri.reg (l := [0, 1, 2]) rfl ?_
      refine F.q rfl rfl rfl (wanted_none rfl) (r_move rfl) ?_
      refine F.q rfl rfl rfl (wanted_none rfl) (r_add rfl rfl) ?_
      refine F.q rfl rfl rfl (wanted_none rfl) (r_assign rfl) ?_
      refine F.nil ?_
      refine Nrm.block ?_
      refine Nrm.round ?_
      refine Rnd.only [0, 1, 5] rfl ?_
      refine Rnd.pick [] rfl rfl ?_
      exact ih_1 _ _ ⟨w64 (x5 + 1), hE_1, rfl, rfl⟩
    · replace hE_1 := if_ff g_1 hE_1
      refine Tri.exit ?_
      refine Exi.then ?_
      refine Exi.then ?_
      refine Exi.same ?_
      cases hE_1
      refine Nrm.seq ?_
      refine Tri.seq ?_
      refine Tri.reg (l := [0, 1]) rfl ?_
      refine F.q rfl rfl rfl (wanted_none rfl) (r_move rfl) ?_
      refine F.q rfl rfl rfl (wanted_none rfl) (r_assign rfl) ?_
      refine F.nil ?_
      refine Nrm.seq ?_
      refine Tri.ret ?_
      cases h
      exact Rtn.body (.tmp rfl .nil) (fun w hw => ⟨rfl, hw.ext⟩)

end Go.Proofs

/- loop.example/g01158/spec.NodeCounts -/
namespace Go.Proofs
open Go Go.Ga
set_option linter.unusedVariables false
set_option maxRecDepth 100000
set_option maxHeartbeats 4000000
def spec_NodeCounts.l0 (k : Nat) (t33 : Int) : Nat → (List (Int)) → (List (List Int)) → Int → Option ((List (Int)))
  | 0, _, _, _ => none
  | n + 1, x8, x9, x11 => (if (decide (x11 < (x9.length : Int))) = true then (rdl (x9 : List (List Int)) x11).bind fun t43 => (rdl t43 t33).bind fun t46 => (rdl x8 t46).bind fun t48 => (rdl x8 t46).bind fun t51 => spec_NodeCounts.l0 k t33 n (x8.set t46.toNat (w64 (t48 + 1))) ((x9 : List (List Int)).set (x11 : Int).toNat t43) (w64 (x11 + 1)) else some x8)

def spec_NodeCounts.f (k : Nat) (a0_0 : Int) (a0_1 : List (Int × Int × Int)) (a0_2 : List Int) (a1 : Int) (a2 : Int) : Option ((List Int) × Bool) := ((spec_l9Few.f k a0_0 a0_1 a0_2 a1).bind fun t14 => (if (!t14) = true then some true else (spec_l2Colours.f k a1).bind fun t18 => (spec_l1Has.f k t18 a2).bind fun t20 => some (!t20))).bind fun y22 => (if y22 = true then some (([] : List (Int)), false) else (if 0 ≤ a0_0 ∧ a0_0 < 1099511627776 then (spec_l9Winning.f k a0_0 a0_1 a0_2 a1).bind fun t29 => some (List.replicate (a0_0).toNat (0 : Int), t29) else none).bind fun (y8, y9) => (spec_l2Colours.f k a1).bind fun t31 => (spec_l9Place.f k t31 a2).bind fun t33 => (spec_NodeCounts.l0 k t33 k y8 y9 0).bind fun x8 => some (x8, true))

theorem spec_NodeCounts.ok {k : Nat}  {a0_0 : Int} {a0_1 : List (Int × Int × Int)} {a0_2 : List Int} {a1 : Int} {a2 : Int} {r0 : List Int} {r1 : Bool} (h : spec_NodeCounts.f k a0_0 a0_1 a0_2 a1 a2 = some (r0, r1)) (w : World) {va0_1 : Value} {va0_2 : Value} (hr_a0_1 : Rd w va0_1 a0_1) (hr_a0_2 : Rd w va0_2 a0_2) :
    Calls Try.prog 19 ([.agg ([.int .i64 a0_0, va0_1, va0_2].toArray), .int .i64 a1, .int .i64 a2] : List Value).toArray w (Post (fun u ns => ∃ (ur0 : Value) (Sr0 : Nat → Prop), u = .tuple #[ur0, .bool r1] ∧ SlLen ur0 r0.length ∧ ns = [R.sl Sr0 ur0 r0]) w) := by
  unfold spec_NodeCounts.f at h
  have hl_va0_1 := hr_a0_1.len
  have hl_va0_2 := hr_a0_2.len
  refine Calls.of_tri (N := 53) Try.func19 rfl rfl rfl (Sep.nil (M := noM)) ?_
  refine Tri.seq ?_
  refine Tri.reg (l := [0, 1, 2]) rfl ?_
  refine F.m rfl rfl rfl (wanted_none rfl) (m_boxG rfl rfl) ?_
  rintro _ _ ⟨b3_1, rfl, rfl⟩
  refine F.q rfl rfl rfl (wanted_none rfl) (r_assign rfl) ?_
  refine F.q rfl rfl rfl (wanted_none rfl) (r_assign rfl) ?_
  refine F.nil ?_
  refine Nrm.seq ?_
  refine Tri.seq ?_
  refine Tri.seq ?_
  obtain ⟨y22, hE_1, h⟩ := bind_some h
  refine Tri.cut (fun e' C' => e' = [(1, .int .i64 a1), (2, .int .i64 a2), (3, .pointer (some ⟨b3_1, 0, none⟩)), (22, .bool y22)] ∧ C' = Sep w noM [R.box b3_1 27 [.int .i64 a0_0, va0_1, va0_2]]) ?_ (fun hj_1 => ?_)
  · rintro _ _ ⟨rfl, rfl⟩
    refine Nrm.seq ?_
    refine Tri.cond (b := y22) rfl (fun g_1 => ?_) (fun g_1 => ?_)
    · replace h := if_tt g_1 h
      refine Tri.seq ?_
      refine Tri.reg (l := [0, 1, 2]) rfl ?_
      refine F.m rfl rfl rfl (wanted_none rfl) (m_build0 (α := Int) Try.underlying25 ti3) ?_
      rintro v23_1 _ ⟨S23_1, hl_v23_1, rfl⟩
      refine F.q rfl rfl rfl (wanted_none rfl) (r_assign rfl) ?_
      refine F.q rfl rfl rfl (wanted_none rfl) (r_assign rfl) ?_
      refine F.nil ?_
      refine Nrm.seq ?_
      refine Tri.ret ?_
      refine Rtn.then ?_
      cases h
      exact Rtn.body (.tmp rfl (.tmp rfl .nil)) (fun w hw => ⟨_, _, rfl, ⟨v23_1, S23_1, rfl, hl_v23_1, rfl⟩, Sep.pick (is := [0]) rfl rfl hw⟩)
    · replace h := if_ff g_1 h
      refine Tri.skip ?_
      refine Nrm.seq ?_
      refine Tri.seq ?_
      obtain ⟨⟨y8, y9⟩, hE_2, h⟩ := bind_some h
      refine Tri.cut (fun e' C' => ∃ (v8_1 : Value) (S8_1 : Nat → Prop) (v9_1 : Value) (S9_1 : Nat → Prop), SlLen v8_1 (y8).length ∧ SlLen v9_1 (y9).length ∧ e' = [(1, .int .i64 a1), (2, .int .i64 a2), (8, v8_1), (9, v9_1)] ∧ C' = Sep w noM [R.sl S8_1 v8_1 (y8 : List (Int)), R.sl S9_1 v9_1 (y9 : List (List Int))]) ?_ (fun hj_2 => ?_)
      · rintro _ _ ⟨v8_1, S8_1, v9_1, S9_1, hl_v8_1, hl_v9_1, rfl, rfl⟩
        refine Nrm.seq ?_
        refine Tri.seq ?_
        obtain ⟨t31, h31, h⟩ := bind_some h
        obtain ⟨t33, h33, h⟩ := bind_some h
        refine Tri.reg (l := [0, 1, 2, 3, 4]) rfl ?_
        refine F.q rfl rfl rfl (wanted_none rfl) (r_move rfl) ?_
        refine F.m rfl rfl rfl (wanted_none rfl) (m_callF (xs := _) rfl ok94 rfl rfl (fun w hw => spec_l2Colours.ok h31 w )) ?_
        rintro v31_1 _ ⟨_, ⟨S31_1, hl_v31_1, rfl⟩, rfl⟩
        refine F.q rfl rfl rfl (wanted_none rfl) (r_move rfl) ?_
        refine F.qc rfl rfl rfl (wanted_none rfl) (q_callF (xs := _) rfl ok100 rfl rfl (fun w hw => spec_l9Place.ok h33 w ((rd_sl (i := 0) rfl) w hw))) ?_
        refine F.q rfl rfl rfl (wanted_none rfl) (r_assign rfl) ?_
        refine F.nil ?_
        refine Nrm.seq ?_
        refine Tri.seq ?_
        refine Tri.seq ?_
        refine Tri.reg (l := [0]) rfl ?_
        refine F.q rfl rfl rfl (wanted_none rfl) (r_assign rfl) ?_
        refine F.nil ?_
        refine Nrm.seq ?_
        obtain ⟨x8, hE_3, h⟩ := bind_some h
        refine Tri.block ?_
        refine Tri.only [8, 9, 10, 11] rfl ?_
        refine Tri.pick [1, 2] rfl rfl ?_
        refine Tri.rounds (fun n e' C' => ∃ (x8' : List (Int)) (x9' : List (List Int)) (x11' : Int), spec_NodeCounts.l0 k t33 n x8' x9' x11' = some x8 ∧ SlLen v8_1 (x8').length ∧ SlLen v9_1 (x9').length ∧ e' = [(8, v8_1), (9, v9_1), (10, .int .i64 t33), (11, .int .i64 x11')] ∧ C' = Sep w noM [R.sl S8_1 v8_1 (x8' : List (Int)), R.sl S9_1 v9_1 (x9' : List (List Int))]) k ?_ ?_ ?_
        · exact ⟨y8, y9, 0, hE_3, hl_v8_1, hl_v9_1, rfl, rfl⟩
        · rintro _ _ ⟨_, _, _, hE_3, _⟩
          rw [spec_NodeCounts.l0.eq_1] at hE_3; cases hE_3
        · rintro n_1 _ _ ⟨x8, x9, x11, hE_3, hl_x8, hl_x9, rfl, rfl⟩ ih_1
          rw [spec_NodeCounts.l0.eq_2] at hE_3
          refine Tri.seq ?_
          refine Tri.seq ?_
          refine Tri.reg (l := [0, 1, 2, 3]) rfl ?_
          refine F.q rfl rfl rfl (wanted_none rfl) (r_move rfl) ?_
          refine F.q rfl rfl rfl (wanted_none rfl) (r_move rfl) ?_
          refine F.q rfl rfl rfl (wanted_none rfl) (r_len Try.underlying83 rfl hl_x9) ?_
          refine F.q rfl rfl rfl (wanted_none rfl) (r_lss rfl rfl) ?_
          refine F.nil ?_
          refine Nrm.seq ?_
          refine Tri.cond (b := decide (x11 < (x9.length : Int))) rfl (fun g_2 => ?_) (fun g_2 => ?_)
          · replace hE_3 := if_tt g_2 hE_3
            refine Tri.skip ?_
            refine Nrm.seq ?_
            refine Tri.seq ?_
            refine Tri.block ?_
            obtain ⟨t43, h43, hE_3⟩ := bind_some hE_3
            obtain ⟨t46, h46, hE_3⟩ := bind_some hE_3
            obtain ⟨t48, h48, hE_3⟩ := bind_some hE_3
            obtain ⟨t51, h51, hE_3⟩ := bind_some hE_3
            refine Tri.ex (on25 [1] [0] rfl rfl (rdl_some h43).2.2) ?_
            rintro _ ⟨v43_0_1, S43_0_1, Sr43_1, hl_v43_0_1, hS43_1, rfl⟩
            refine Tri.reg (l := [0, 1, 2, 3, 4, 5, 6, 7, 8, 9, 10, 11, 12]) rfl ?_
            refine F.q rfl rfl rfl (wanted_none rfl) (r_move rfl) ?_
            refine F.q rfl rfl rfl (wanted_none rfl) (r_move rfl) ?_
            refine F.q rfl rfl rfl (wanted_none rfl) (r_move rfl) ?_
            refine F.q rfl rfl rfl (wanted_none rfl) (r_indexAddrS Try.underlying83 ti25 rfl hl_x9 rfl (rdl_some h43).1 (rdl_some h43).2.1) ?_
            refine F.q rfl rfl rfl (wanted_none rfl) (r_load ta25 rfl (fun w hw => cell_0 (hole_cells (p := 1) rfl w hw) rfl)) ?_
            refine F.q rfl rfl rfl (wanted_none rfl) (r_move rfl) ?_
            refine F.q rfl rfl rfl (wanted_none rfl) (r_indexAddrS Try.underlying25 ti3 rfl hl_v43_0_1 rfl (rdl_some h46).1 (rdl_some h46).2.1) ?_
            refine F.q rfl rfl rfl (wanted_none rfl) (r_load ta3 rfl (fun w hw => cell_0 (Rd.flat ((rd_sl (i := 0) rfl) w hw) (rdl_some h46).2.2) rfl)) ?_
            refine F.q rfl rfl rfl (wanted_none rfl) (r_indexAddrS Try.underlying25 ti3 rfl hl_x8 rfl (rdl_some h48).1 (rdl_some h48).2.1) ?_
            refine F.q rfl rfl rfl (wanted_none rfl) (r_load ta3 rfl (fun w hw => cell_0 (Rd.flat ((rd_sl (i := 2) rfl) w hw) (rdl_some h48).2.2) rfl)) ?_
            refine F.q rfl rfl rfl (wanted_none rfl) (r_add rfl rfl) ?_
            refine F.q rfl rfl rfl (wanted_none rfl) (r_indexAddrS Try.underlying25 ti3 rfl hl_x8 rfl (rdl_some h51).1 (rdl_some h51).2.1) ?_
            refine F.ef0 rfl rfl (wanted_none rfl) (d_storeE (i := 2) (x1 := w64 (t48 + 1)) ti3 rfl rfl rfl (rdl_some h51) rfl) ?_
            rintro _ _ ⟨rfl, rfl⟩
            refine F.nil ?_
            refine Nrm.imp (cloS1 (cs := [R.sl S43_0_1 v43_0_1 (t43 : List (Int))]) (rest := [R.sl S8_1 v8_1 (x8.set t46.toNat (w64 (t48 + 1)) : List (Int))]) [0, 1] [2] rfl rfl (jn_sl (S := S43_0_1) (v := v43_0_1) (l := (t43 : List (Int)))) hS43_1) ?_
            refine Nrm.block ?_
            refine Nrm.seq ?_
            refine Tri.reg (l := [0, 1, 2]) rfl ?_
            refine F.q rfl rfl rfl (wanted_none rfl) (r_move rfl) ?_
            refine F.q rfl rfl rfl (wanted_none rfl) (r_add rfl rfl) ?_
            refine F.q rfl rfl rfl (wanted_none rfl) (r_assign rfl) ?_
            refine F.nil ?_
            refine Nrm.round ?_
            refine Rnd.only [8, 9, 10, 11] rfl ?_
            refine Rnd.pick [1, 0] rfl rfl ?_
            exact ih_1 _ _ ⟨x8.set t46.toNat (w64 (t48 + 1)), (x9 : List (List Int)).set (x11 : Int).toNat t43, w64 (x11 + 1), hE_3, (len_set hl_x8), (len_set hl_x9), rfl, rfl⟩
          · replace hE_3 := if_ff g_2 hE_3
            refine Tri.exit ?_
            refine Exi.then ?_
            refine Exi.then ?_
            refine Exi.same ?_
            cases hE_3
            refine Nrm.seq ?_
            refine Tri.seq ?_
            refine Tri.reg (l := [0, 1, 2]) rfl ?_
            refine F.q rfl rfl rfl (wanted_none rfl) (r_move rfl) ?_
            refine F.q rfl rfl rfl (wanted_none rfl) (r_assign rfl) ?_
            refine F.q rfl rfl rfl (wanted_none rfl) (r_assign rfl) ?_
            refine F.nil ?_
            refine Nrm.seq ?_
            refine Tri.ret ?_
            cases h
            exact Rtn.body (.tmp rfl (.tmp rfl .nil)) (fun w hw => ⟨_, _, rfl, ⟨v8_1, S8_1, rfl, hl_x8, rfl⟩, Sep.pick (is := [0]) rfl rfl hw⟩)
      · obtain ⟨hm26, hE_2⟩ := ck hE_2
        obtain ⟨t29, h29, hE_2⟩ := bind_some hE_2
        refine Tri.drawT mixedT Sep.up [0, 1, 3, 4, 2, 5] [6, 7] (.q 0 (.q 1 (.q 3 (.q 4 (.alt 2 (.alt 5 .nil .stop) (.alt 5 (.alt 2 .nil .stop) .stop)))))) (by kernel_rfl) ?_
        refine T.q rfl rfl rfl (wanted_none rfl) (r_fieldAddr tf27_0 rfl) ?_
        refine T.q rfl rfl rfl (wanted_none rfl) (r_load ta3 rfl (fun w hw => cell_1 (box_cells (i := 0) rfl w hw) rfl)) ?_
        refine T.q rfl rfl rfl (wanted_none rfl) (r_loadA ta27 ti27 rfl rfl (fun w hw => (box_cells (i := 0) rfl w hw))) ?_
        refine T.q rfl rfl rfl (wanted_none rfl) (r_move rfl) ?_
        refine T.ef rfl rfl rfl (wanted_none rfl) (Makes.does (m_make (x0 := (0 : Int)) Try.underlying25 ti3 rfl rfl rfl hm26.1 hm26.2 (by decide))) (by rintro v26_2 _ ⟨S26_2, hl_v26_2, rfl⟩; exact upd rfl [1] rfl rfl) ?_ ?_
        · rintro v26_2 _ ⟨S26_2, hl_v26_2, rfl⟩
          refine T.ef rfl rfl rfl (wanted_none rfl) (Makes.does (m_callF (xs := _) rfl ok89 rfl rfl (fun w hw => spec_l9Winning.ok h29 w ((fun _ hw => hr_a0_1.sep hw) w hw) ((fun _ hw => hr_a0_2.sep hw) w hw)))) (by rintro v29_2 _ ⟨_, ⟨S29_2, hl_v29_2, rfl⟩, rfl⟩; exact upd rfl [2] rfl rfl) ?_ ?_
          · rintro v29_2 _ ⟨_, ⟨S29_2, hl_v29_2, rfl⟩, rfl⟩
            refine T.nil ?_
            refine F.q rfl rfl rfl (wanted_none rfl) (r_assign rfl) ?_
            refine F.q rfl rfl rfl (wanted_none rfl) (r_assign rfl) ?_
            refine F.nil ?_
            cases hE_2
            refine Nrm.only [1, 2, 8, 9] rfl ?_
            refine Nrm.pick [1, 0] rfl rfl ?_
            exact hj_2 _ _ ⟨v26_2, S26_2, v29_2, S29_2, hl_v26_2, hl_v29_2, rfl, rfl⟩
          exact T.stop
        · refine T.ef rfl rfl rfl (wanted_none rfl) (Makes.does (m_callF (xs := _) rfl ok89 rfl rfl (fun w hw => spec_l9Winning.ok h29 w ((fun _ hw => hr_a0_1.sep hw) w hw) ((fun _ hw => hr_a0_2.sep hw) w hw)))) (by rintro v29_3 _ ⟨_, ⟨S29_3, hl_v29_3, rfl⟩, rfl⟩; exact upd rfl [1] rfl rfl) ?_ ?_
          · rintro v29_3 _ ⟨_, ⟨S29_3, hl_v29_3, rfl⟩, rfl⟩
            refine T.ef rfl rfl rfl (wanted_none rfl) (Makes.does (m_make (x0 := (0 : Int)) Try.underlying25 ti3 rfl rfl rfl hm26.1 hm26.2 (by decide))) (by rintro v26_3 _ ⟨S26_3, hl_v26_3, rfl⟩; exact upd rfl [2] rfl rfl) ?_ ?_
            · rintro v26_3 _ ⟨S26_3, hl_v26_3, rfl⟩
              refine T.nil ?_
              refine F.q rfl rfl rfl (wanted_none rfl) (r_assign rfl) ?_
              refine F.q rfl rfl rfl (wanted_none rfl) (r_assign rfl) ?_
              refine F.nil ?_
              cases hE_2
              refine Nrm.only [1, 2, 8, 9] rfl ?_
              refine Nrm.pick [0, 1] rfl rfl ?_
              exact hj_2 _ _ ⟨v26_3, S26_3, v29_3, S29_3, hl_v26_3, hl_v29_3, rfl, rfl⟩
            exact T.stop
          exact T.stop
  · obtain ⟨t14, h14, hE_1⟩ := bind_some hE_1
    rcases Bool.eq_false_or_eq_true (!t14) with g16 | g16
    · replace hE_1 := if_tt g16 hE_1
      refine Tri.reg (l := [0, 1, 2, 3, 4, 5, 6, 7, 8, 9, 10]) rfl ?_
      refine F.q rfl rfl rfl (wanted_none rfl) (r_loadA ta27 ti27 rfl rfl (fun w hw => (box_cells (i := 0) rfl w hw))) ?_
      refine F.q rfl rfl rfl (wanted_none rfl) (r_move rfl) ?_
      refine F.qc rfl rfl rfl (wanted_none rfl) (q_callF (xs := _) rfl ok88 rfl rfl (fun w hw => spec_l9Few.ok h14 w ((fun _ hw => hr_a0_1.sep hw) w hw) ((fun _ hw => hr_a0_2.sep hw) w hw))) ?_
      refine F.q rfl rfl rfl (wanted_none rfl) (r_not rfl) ?_
      refine F.q rfl rfl rfl (wanted_none rfl) (r_move rfl) ?_
      refine F.sk rfl rfl rfl (wf rfl rfl rfl g16) ?_
      refine F.sk rfl rfl rfl (wf rfl rfl rfl g16) ?_
      refine F.sk rfl rfl rfl (wf rfl rfl rfl g16) ?_
      refine F.sk rfl rfl rfl (wf rfl rfl rfl g16) ?_
      refine F.sk rfl rfl rfl (wf rfl rfl rfl g16) ?_
      refine F.q rfl rfl rfl (wanted_none rfl) (r_pick rfl rfl g16) ?_
      refine F.nil ?_
      cases hE_1
      refine Nrm.only [1, 2, 3, 22] rfl ?_
      refine Nrm.pick [0] rfl rfl ?_
      exact hj_1 _ _ ⟨rfl, rfl⟩
    · replace hE_1 := if_ff g16 hE_1
      obtain ⟨t18, h18, hE_1⟩ := bind_some hE_1
      obtain ⟨t20, h20, hE_1⟩ := bind_some hE_1
      refine Tri.reg (l := [0, 1, 2, 3, 4, 5, 6, 7, 8, 9, 10]) rfl ?_
      refine F.q rfl rfl rfl (wanted_none rfl) (r_loadA ta27 ti27 rfl rfl (fun w hw => (box_cells (i := 0) rfl w hw))) ?_
      refine F.q rfl rfl rfl (wanted_none rfl) (r_move rfl) ?_
      refine F.qc rfl rfl rfl (wanted_none rfl) (q_callF (xs := _) rfl ok88 rfl rfl (fun w hw => spec_l9Few.ok h14 w ((fun _ hw => hr_a0_1.sep hw) w hw) ((fun _ hw => hr_a0_2.sep hw) w hw))) ?_
      refine F.q rfl rfl rfl (wanted_none rfl) (r_not rfl) ?_
      refine F.q rfl rfl rfl (wanted_none rfl) (r_move rfl) ?_
      refine F.q rfl rfl rfl (wg rfl rfl rfl g16) (r_move rfl) ?_
      refine F.m rfl rfl rfl (wg rfl rfl rfl g16) (m_callF (xs := _) rfl ok94 rfl rfl (fun w hw => spec_l2Colours.ok h18 w )) ?_
      rintro v18_1 _ ⟨_, ⟨S18_1, hl_v18_1, rfl⟩, rfl⟩
      refine F.q rfl rfl rfl (wg rfl rfl rfl g16) (r_move rfl) ?_
      refine F.qc rfl rfl rfl (wg rfl rfl rfl g16) (q_callF (xs := _) rfl ok99 rfl rfl (fun w hw => spec_l1Has.ok h20 w ((rd_sl (i := 0) rfl) w hw))) ?_
      refine F.q rfl rfl rfl (wg rfl rfl rfl g16) (r_not rfl) ?_
      refine F.q rfl rfl rfl (wanted_none rfl) (r_pickf rfl rfl g16) ?_
      refine F.nil ?_
      cases hE_1
      refine Nrm.only [1, 2, 3, 22] rfl ?_
      refine Nrm.pick [1] rfl rfl ?_
      exact hj_1 _ _ ⟨rfl, rfl⟩

end Go.Proofs

/- loop.example/g01158/laws.vInts -/

namespace Go.Proofs
open Go Go.Ga
set_option linter.unusedVariables false
set_option maxRecDepth 100000
set_option maxHeartbeats 4000000
def laws_vInts.l0 (k : Nat) (a0 : List Int) (a1 : List Int) : Nat → Int → Option ((Unit) ⊕ (Bool))
  | 0, _ => none
  | n + 1, x5 => (if (decide (x5 < (a0.length : Int))) = true then (rdl a0 x5).bind fun t19 => (rdl a1 x5).bind fun t23 => (if (t19 != t23) = true then some (Sum.inr false) else laws_vInts.l0 k a0 a1 n (w64 (x5 + 1))) else some (Sum.inl ()))

def laws_vInts.f (k : Nat) (a0 : List Int) (a1 : List Int) : Option (Bool) := (if ((a0.length : Int) != (a1.length : Int)) = true then some false else (laws_vInts.l0 k a0 a1 k 0).bind fun s => Lr s some fun _ => some true)

theorem laws_vInts.ok {k : Nat}  {a0 : List Int} {a1 : List Int} {r0 : Bool} (h : laws_vInts.f k a0 a1 = some r0) (w : World) {va0 : Value} {va1 : Value} (hr_a0 : Rd w va0 a0) (hr_a1 : Rd w va1 a1) :
    Calls Try.prog 20 ([va0, va1] : List Value).toArray w (fun e w' => e = .returned (.bool r0) ∧ Ext w w') := by
  unfold laws_vInts.f at h
  have hl_va0 := hr_a0.len
  have hl_va1 := hr_a1.len
  refine Calls.of_tri (N := 26) Try.func20 rfl rfl rfl (Sep.nil (M := noM)) ?_
  refine Tri.seq ?_
  refine Tri.reg (l := [0]) rfl ?_
  refine F.q rfl rfl rfl (wanted_none rfl) (r_assign rfl) ?_
  refine F.nil ?_
  refine Nrm.seq ?_
  refine Tri.seq ?_
  refine Tri.seq ?_
  refine Tri.reg (l := [0, 1, 2, 3, 4]) rfl ?_
  refine F.q rfl rfl rfl (wanted_none rfl) (r_move rfl) ?_
  refine F.q rfl rfl rfl (wanted_none rfl) (r_len Try.underlying25 rfl hl_va0) ?_
  refine F.q rfl rfl rfl (wanted_none rfl) (r_move rfl) ?_
  refine F.q rfl rfl rfl (wanted_none rfl) (r_len Try.underlying25 rfl hl_va1) ?_
  refine F.q rfl rfl rfl (wanted_none rfl) (r_neq rfl rfl) ?_
  refine F.nil ?_
  refine Nrm.seq ?_
  refine Tri.cond (b := (a0.length : Int) != (a1.length : Int)) rfl (fun g_1 => ?_) (fun g_1 => ?_)
  · replace h := if_tt g_1 h
    refine Tri.seq ?_
    refine Tri.reg (l := [0]) rfl ?_
    refine F.q rfl rfl rfl (wanted_none rfl) (r_assign rfl) ?_
    refine F.nil ?_
    refine Nrm.seq ?_
    refine Tri.ret ?_
    refine Rtn.then ?_
    cases h
    exact Rtn.body (.tmp rfl .nil) (fun w hw => ⟨rfl, hw.ext⟩)
  · replace h := if_ff g_1 h
    refine Tri.skip ?_
    refine Nrm.seq ?_
    refine Tri.seq ?_
    refine Tri.seq ?_
    refine Tri.reg (l := [0]) rfl ?_
    refine F.q rfl rfl rfl (wanted_none rfl) (r_assign rfl) ?_
    refine F.nil ?_
    refine Nrm.seq ?_
    obtain ⟨s0, hE_1, h⟩ := bind_some h
    refine Tri.block ?_
    refine Tri.only [0, 1, 5] rfl ?_
    refine Tri.pick [] rfl rfl ?_
    refine Tri.rounds (fun n e' C' => ∃ (x5' : Int), laws_vInts.l0 k a0 a1 n x5' = some s0 ∧ e' = [(0, va0), (1, va1), (5, .int .i64 x5')] ∧ C' = Sep w noM []) k ?_ ?_ ?_
    · exact ⟨0, hE_1, rfl, rfl⟩
    · rintro _ _ ⟨_, hE_1, _⟩
      rw [laws_vInts.l0.eq_1] at hE_1; cases hE_1
    · rintro n_1 _ _ ⟨x5, hE_1, rfl, rfl⟩ ih_1
      rw [laws_vInts.l0.eq_2] at hE_1
      refine Tri.seq ?_
      refine Tri.seq ?_
      refine Tri.reg (l := [0, 1, 2, 3]) rfl ?_
      refine F.q rfl rfl rfl (wanted_none rfl) (r_move rfl) ?_
      refine F.q rfl rfl rfl (wanted_none rfl) (r_move rfl) ?_
      refine F.q rfl rfl rfl (wanted_none rfl) (r_len Try.underlying25 rfl hl_va0) ?_
      refine F.q rfl rfl rfl (wanted_none rfl) (r_lss rfl rfl) ?_
      refine F.nil ?_
      refine Nrm.seq ?_
      refine Tri.cond (b := decide (x5 < (a0.length : Int))) rfl (fun g_2 => ?_) (fun g_2 => ?_)
      · replace hE_1 := if_tt g_2 hE_1
        refine Tri.skip ?_
        refine Nrm.seq ?_
        refine Tri.seq ?_
        refine Tri.block ?_
        refine Tri.seq ?_
        obtain ⟨t19, h19, hE_1⟩ := bind_some hE_1
        obtain ⟨t23, h23, hE_1⟩ := bind_some hE_1
        refine Tri.drawA mixedT Sep.up [(0, true), (1, true), (2, true), (3, true), (4, true), (5, true), (6, true), (7, true), (8, true)] [] (by kernel_rfl) ?_
        refine S.q rfl rfl rfl (wanted_none rfl) (r_move rfl) ?_
        refine S.q rfl rfl rfl (wanted_none rfl) (r_move rfl) ?_
        refine S.q rfl rfl rfl (wanted_none rfl) (r_indexAddrS Try.underlying25 ti3 rfl hl_va0 rfl (rdl_some h19).1 (rdl_some h19).2.1) ?_
        refine S.q rfl rfl rfl (wanted_none rfl) (r_load ta3 rfl (fun w hw => cell_0 (Rd.flat ((fun _ hw => hr_a0.sep hw) w hw) (rdl_some h19).2.2) rfl)) ?_
        refine S.q rfl rfl rfl (wanted_none rfl) (r_move rfl) ?_
        refine S.q rfl rfl rfl (wanted_none rfl) (r_move rfl) ?_
        refine S.q rfl rfl rfl (wanted_none rfl) (r_indexAddrS Try.underlying25 ti3 rfl hl_va1 rfl (rdl_some h23).1 (rdl_some h23).2.1) ?_
        refine S.q rfl rfl rfl (wanted_none rfl) (r_load ta3 rfl (fun w hw => cell_0 (Rd.flat ((fun _ hw => hr_a1.sep hw) w hw) (rdl_some h23).2.2) rfl)) ?_
        refine S.q rfl rfl rfl (wanted_none rfl) (r_neq rfl rfl) ?_
        refine S.nil ?_
        refine F.nil ?_
        refine Nrm.seq ?_
        refine Tri.cond (b := t19 != t23) rfl (fun g_3 => ?_) (fun g_3 => ?_)
        · replace hE_1 := if_tt g_3 hE_1
          refine Tri.seq ?_
          refine Tri.reg (l := [0]) rfl ?_
          refine F.q rfl rfl rfl (wanted_none rfl) (r_assign rfl) ?_
          refine F.nil ?_
          refine Nrm.seq ?_
          refine Tri.ret ?_
          refine Rtn.block ?_
          refine Rtn.then ?_
          refine Rtn.then ?_
          refine Rtn.block ?_
          refine Rtn.then ?_
          cases hE_1
          replace h := Lr_inr h
          cases h
          exact Rtn.body (.tmp rfl .nil) (fun w hw => ⟨rfl, hw.ext⟩)
        · replace hE_1 := if_ff g_3 hE_1
          refine Tri.skip ?_
          refine Nrm.block ?_
          refine Nrm.seq ?_
          refine Tri.reg (l := [0, 1, 2]) rfl ?_
          refine F.q rfl rfl rfl (wanted_none rfl) (r_move rfl) ?_
          refine F.q rfl rfl rfl (wanted_none rfl) (r_add rfl rfl) ?_
          refine F.q rfl rfl rfl (wanted_none rfl) (r_assign rfl) ?_
          refine F.nil ?_
          refine Nrm.round ?_
          refine Rnd.only [0, 1, 5] rfl ?_
          refine Rnd.pick [] rfl rfl ?_
          exact ih_1 _ _ ⟨w64 (x5 + 1), hE_1, rfl, rfl⟩
      · replace hE_1 := if_ff g_2 hE_1
        refine Tri.exit ?_
        refine Exi.then ?_
        refine Exi.then ?_
        refine Exi.same ?_
        cases hE_1
        replace h := Lr_inl h
        refine Nrm.seq ?_
        refine Tri.seq ?_
        refine Tri.reg (l := [0]) rfl ?_
        refine F.q rfl rfl rfl (wanted_none rfl) (r_assign rfl) ?_
        refine F.nil ?_
        refine Nrm.seq ?_
        refine Tri.ret ?_
        cases h
        exact Rtn.body (.tmp rfl .nil) (fun w hw => ⟨rfl, hw.ext⟩)

end Go.Proofs

/- loop.example/g01158/laws.vAdd -/

namespace Go.Proofs
open Go Go.Ga
set_option linter.unusedVariables false
set_option maxRecDepth 100000
set_option maxHeartbeats 4000000
def laws_vAdd.l0 (k : Nat) (a0 : List Int) : Nat → Int → Int → Option (Int)
  | 0, _, _ => none
  | n + 1, x3, x4 => (if (decide (x4 < (a0.length : Int))) = true then (rdl a0 x4).bind fun t14 => laws_vAdd.l0 k a0 n (w64 (x3 + t14)) (w64 (x4 + 1)) else some x3)

def laws_vAdd.f (k : Nat) (a0 : List Int) : Option (Int) := (laws_vAdd.l0 k a0 k 0 0).bind fun x3 => some x3

theorem laws_vAdd.ok {k : Nat}  {a0 : List Int} {r0 : Int} (h : laws_vAdd.f k a0 = some r0) (w : World) {va0 : Value} (hr_a0 : Rd w va0 a0) :
    Calls Try.prog 21 ([va0] : List Value).toArray w (fun e w' => e = .returned (.int .i64 r0) ∧ Ext w w') := by
  unfold laws_vAdd.f at h
  have hl_va0 := hr_a0.len
  refine Calls.of_tri (N := 18) Try.func21 rfl rfl rfl (Sep.nil (M := noM)) ?_
  refine Tri.seq ?_
  refine Tri.reg (l := [0]) rfl ?_
  refine F.q rfl rfl rfl (wanted_none rfl) (r_assign rfl) ?_
  refine F.nil ?_
  refine Nrm.seq ?_
  refine Tri.seq ?_
  refine Tri.reg (l := [0]) rfl ?_
  refine F.q rfl rfl rfl (wanted_none rfl) (r_assign rfl) ?_
  refine F.nil ?_
  refine Nrm.seq ?_
  refine Tri.seq ?_
  refine Tri.seq ?_
  refine Tri.reg (l := [0]) rfl ?_
  refine F.q rfl rfl rfl (wanted_none rfl) (r_assign rfl) ?_
  refine F.nil ?_
  refine Nrm.seq ?_
  obtain ⟨x3, hE_1, h⟩ := bind_some h
  refine Tri.block ?_
  refine Tri.only [0, 3, 4] rfl ?_
  refine Tri.pick [] rfl rfl ?_
  refine Tri.rounds (fun n e' C' => ∃ (x3' : Int) (x4' : Int), laws_vAdd.l0 k a0 n x3' x4' = some x3 ∧ e' = [(0, va0), (3, .int .i64 x3'), (4, .int .i64 x4')] ∧ C' = Sep w noM []) k ?_ ?_ ?_
  · exact ⟨0, 0, hE_1, rfl, rfl⟩
  · rintro _ _ ⟨_, _, hE_1, _⟩
    rw [laws_vAdd.l0.eq_1] at hE_1; cases hE_1
  · rintro n_1 _ _ ⟨x3, x4, hE_1, rfl, rfl⟩ ih_1
    rw [laws_vAdd.l0.eq_2] at hE_1
    refine Tri.seq ?_
    refine Tri.seq ?_
    refine Tri.reg (l := [0, 1, 2, 3]) rfl ?_
    refine F.q rfl rfl rfl (wanted_none rfl) (r_move rfl) ?_
    refine F.q rfl rfl rfl (wanted_none rfl) (r_move rfl) ?_
    refine F.q rfl rfl rfl (wanted_none rfl) (r_len Try.underlying25 rfl hl_va0) ?_
    refine F.q rfl rfl rfl (wanted_none rfl) (r_lss rfl rfl) ?_
    refine F.nil ?_
    refine Nrm.seq ?_
    refine Tri.cond (b := decide (x4 < (a0.length : Int))) rfl (fun g_1 => ?_) (fun g_1 => ?_)
    · replace hE_1 := if_tt g_1 hE_1
      refine Tri.skip ?_
      refine Nrm.seq ?_
      refine Tri.seq ?_
      refine Tri.block ?_
      obtain ⟨t14, h14, hE_1⟩ := bind_some hE_1
      refine Tri.reg (l := [0, 1, 2, 3, 4, 5, 6]) rfl ?_
      refine F.q rfl rfl rfl (wanted_none rfl) (r_move rfl) ?_
      refine F.q rfl rfl rfl (wanted_none rfl) (r_move rfl) ?_
      refine F.q rfl rfl rfl (wanted_none rfl) (r_move rfl) ?_
      refine F.q rfl rfl rfl (wanted_none rfl) (r_indexAddrS Try.underlying25 ti3 rfl hl_va0 rfl (rdl_some h14).1 (rdl_some h14).2.1) ?_
      refine F.q rfl rfl rfl (wanted_none rfl) (r_load ta3 rfl (fun w hw => cell_0 (Rd.flat ((fun _ hw => hr_a0.sep hw) w hw) (rdl_some h14).2.2) rfl)) ?_
      refine F.q rfl rfl rfl (wanted_none rfl) (r_add rfl rfl) ?_
      refine F.q rfl rfl rfl (wanted_none rfl) (r_assign rfl) ?_
      refine F.nil ?_
      refine Nrm.block ?_
      refine Nrm.seq ?_
      refine Tri.reg (l := [0, 1, 2]) rfl ?_
      refine F.q rfl rfl rfl (wanted_none rfl) (r_move rfl) ?_
      refine F.q rfl rfl rfl (wanted_none rfl) (r_add rfl rfl) ?_
      refine F.q rfl rfl rfl (wanted_none rfl) (r_assign rfl) ?_
      refine F.nil ?_
      refine Nrm.round ?_
      refine Rnd.only [0, 3, 4] rfl ?_
      refine Rnd.pick [] rfl rfl ?_
      exact ih_1 _ _ ⟨w64 (x3 + t14), w64 (x4 + 1), hE_1, rfl, rfl⟩
    · replace hE_1 := if_ff g_1 hE_1
      refine Tri.exit ?_
      refine Exi.then ?_
      refine Exi.then ?_
      refine Exi.same ?_
      cases hE_1
      refine Nrm.seq ?_
      refine Tri.seq ?_
      refine Tri.reg (l := [0, 1]) rfl ?_
      refine F.q rfl rfl rfl (wanted_none rfl) (r_move rfl) ?_
      refine F.q rfl rfl rfl (wanted_none rfl) (r_assign rfl) ?_
      refine F.nil ?_
      refine Nrm.seq ?_
      refine Tri.ret ?_
      cases h
      exact Rtn.body (.tmp rfl .nil) (fun w hw => ⟨rfl, hw.ext⟩)

end Go.Proofs

/- loop.example/g01158/impl.ColoursOf -/
namespace Go.Proofs
open Go Go.Ga
set_option linter.unusedVariables false
set_option maxRecDepth 100000
set_option maxHeartbeats 4000000
def impl_ColoursOf.f (k : Nat) (a0 : Int) : Option ((List Int) × Bool) := (impl_isSet.f k a0).bind fun t5 => (if (!t5) = true then some ([], false) else (impl_members.f k a0).bind fun t8 => some (t8, true))

theorem impl_ColoursOf.ok {k : Nat}  {a0 : Int} {r0 : List Int} {r1 : Bool} (h : impl_ColoursOf.f k a0 = some (r0, r1)) (w : World) :
    Calls Try.prog 22 ([.int .i64 a0] : List Value).toArray w (Post (fun u ns => ∃ (ur0 : Value) (Sr0 : Nat → Prop), u = .tuple #[ur0, .bool r1] ∧ SlLen ur0 r0.length ∧ ns = [R.sl Sr0 ur0 r0]) w) := by
  unfold impl_ColoursOf.f at h
  refine Calls.of_tri (N := 9) Try.func22 rfl rfl rfl (Sep.nil (M := noM)) ?_
  refine Tri.seq ?_
  refine Tri.reg (l := [0, 1]) rfl ?_
  refine F.q rfl rfl rfl (wanted_none rfl) (r_assign rfl) ?_
  refine F.q rfl rfl rfl (wanted_none rfl) (r_assign rfl) ?_
  refine F.nil ?_
  refine Nrm.seq ?_
  refine Tri.seq ?_
  refine Tri.seq ?_
  obtain ⟨t5, h5, h⟩ := bind_some h
  refine Tri.reg (l := [0, 1, 2]) rfl ?_
  refine F.q rfl rfl rfl (wanted_none rfl) (r_move rfl) ?_
  refine F.qc rfl rfl rfl (wanted_none rfl) (q_callF (xs := _) rfl ok101 rfl rfl (fun w hw => impl_isSet.ok h5 w )) ?_
  refine F.q rfl rfl rfl (wanted_none rfl) (r_not rfl) ?_
  refine F.nil ?_
  refine Nrm.seq ?_
  refine Tri.cond (b := !t5) rfl (fun g_1 => ?_) (fun g_1 => ?_)
  · replace h := if_tt g_1 h
    refine Tri.seq ?_
    refine Tri.reg (l := [0, 1]) rfl ?_
    refine F.q rfl rfl rfl (wanted_none rfl) (r_assign rfl) ?_
    refine F.q rfl rfl rfl (wanted_none rfl) (r_assign rfl) ?_
    refine F.nil ?_
    refine Nrm.seq ?_
    refine Tri.ret ?_
    refine Rtn.then ?_
    cases h
    exact Rtn.body (.tmp rfl (.tmp rfl .nil)) (fun w hw => ⟨_, _, rfl, ⟨.slice none 0 0, fun _ => False, rfl, len_nil, rfl⟩, Sep.pick (is := [0]) rfl rfl hw.pushNil⟩)
  · replace h := if_ff g_1 h
    refine Tri.skip ?_
    refine Nrm.seq ?_
    refine Tri.seq ?_
    obtain ⟨t8, h8, h⟩ := bind_some h
    refine Tri.reg (l := [0, 1, 2, 3]) rfl ?_
    refine F.q rfl rfl rfl (wanted_none rfl) (r_move rfl) ?_
    refine F.m rfl rfl rfl (wanted_none rfl) (m_callF (xs := _) rfl ok98 rfl rfl (fun w hw => impl_members.ok h8 w )) ?_
    rintro v8_1 _ ⟨_, ⟨S8_1, hl_v8_1, rfl⟩, rfl⟩
    refine F.q rfl rfl rfl (wanted_none rfl) (r_assign rfl) ?_
    refine F.q rfl rfl rfl (wanted_none rfl) (r_assign rfl) ?_
    refine F.nil ?_
    refine Nrm.seq ?_
    refine Tri.ret ?_
    cases h
    exact Rtn.body (.tmp rfl (.tmp rfl .nil)) (fun w hw => ⟨_, _, rfl, ⟨v8_1, S8_1, rfl, hl_v8_1, rfl⟩, Sep.pick (is := [0]) rfl rfl hw⟩)

end Go.Proofs

/- loop.example/g01158/impl.isNode$1 -/
namespace Go.Proofs
open Go Go.Ga
set_option linter.unusedVariables false
set_option maxRecDepth 100000
set_option maxHeartbeats 4000000
def impl_isNode_1.f (k : Nat) (a0 : Int) (c0_0 : Int) (c0_1 : List (Int × Int × Int)) (c0_2 : List Int) : Option (Bool) := (impl_within.f k a0 0 (w64 (c0_0 - 1))).bind fun t8 => some (!t8)

theorem impl_isNode_1.ok {k : Nat} {pc0 : Addr} {a0 : Int} {c0_0 : Int} {c0_1 : List (Int × Int × Int)} {c0_2 : List Int} {r0 : Bool} (h : impl_isNode_1.f k a0 c0_0 c0_1 c0_2 = some r0) (w : World) {vc0_1 : Value} {vc0_2 : Value} (hb_c0 : CellsAt w pc0 [.int .i64 c0_0, vc0_1, vc0_2]) (hr_c0_1 : Rd w vc0_1 c0_1) (hr_c0_2 : Rd w vc0_2 c0_2) :
    Calls Try.prog 209 ([.int .i64 a0, .pointer (some pc0)] : List Value).toArray w (fun e w' => e = .returned (.bool r0) ∧ Ext w w') := by
  unfold impl_isNode_1.f at h
  have hl_vc0_1 := hr_c0_1.len
  have hl_vc0_2 := hr_c0_2.len
  refine Calls.of_tri (N := 10) Try.func209 rfl rfl rfl (Sep.nil (M := noM)) ?_
  refine Tri.seq ?_
  refine Tri.reg (l := [0]) rfl ?_
  refine F.q rfl rfl rfl (wanted_none rfl) (r_assign rfl) ?_
  refine F.nil ?_
  refine Nrm.seq ?_
  refine Tri.seq ?_
  obtain ⟨t8, h8, h⟩ := bind_some h
  refine Tri.reg (l := [0, 1, 2, 3, 4, 5, 6]) rfl ?_
  refine F.q rfl rfl rfl (wanted_none rfl) (r_move rfl) ?_
  refine F.q rfl rfl rfl (wanted_none rfl) (r_fieldAddr tf27_0 rfl) ?_
  refine F.q rfl rfl rfl (wanted_none rfl) (r_load ta3 rfl (fun w hw => cell_1 (hb_c0.sep hw) rfl)) ?_
  refine F.q rfl rfl rfl (wanted_none rfl) (r_sub rfl rfl) ?_
  refine F.qc rfl rfl rfl (wanted_none rfl) (q_callF (xs := _) rfl ok149 rfl rfl (fun w hw => impl_within.ok h8 w )) ?_
  refine F.q rfl rfl rfl (wanted_none rfl) (r_not rfl) ?_
  refine F.q rfl rfl rfl (wanted_none rfl) (r_assign rfl) ?_
  refine F.nil ?_
  refine Nrm.seq ?_
  refine Tri.ret ?_
  cases h
  exact Rtn.body (.tmp rfl .nil) (fun w hw => ⟨rfl, hw.ext⟩)

end Go.Proofs

/- loop.example/g01158/impl.isNode -/
namespace Go.Proofs
open Go Go.Ga
set_option linter.unusedVariables false
set_option maxRecDepth 100000
set_option maxHeartbeats 4000000
def impl_isNode.f (k : Nat) (a0_0 : Int) (a0_1 : List (Int × Int × Int)) (a0_2 : List Int) (a1 : List Int) : Option (Bool) := ((impl_IsMaze.f k a0_0 a0_1 a0_2).bind fun t6 => (if t6 = true then (slices_ContainsFunc_int_int.f k a1 (fun z0 => impl_isNode_1.f k z0 a0_0 a0_1 a0_2)).bind fun t10 => some (!t10) else some false)).bind fun y4 => some y4

theorem impl_isNode.ok {k : Nat}  {a0_0 : Int} {a0_1 : List (Int × Int × Int)} {a0_2 : List Int} {a1 : List Int} {r0 : Bool} (h : impl_isNode.f k a0_0 a0_1 a0_2 a1 = some r0) (w : World) {va0_1 : Value} {va0_2 : Value} {va1 : Value} (hr_a0_1 : Rd w va0_1 a0_1) (hr_a0_2 : Rd w va0_2 a0_2) (hr_a1 : Rd w va1 a1) :
    Calls Try.prog 170 ([.agg ([.int .i64 a0_0, va0_1, va0_2].toArray), va1] : List Value).toArray w (fun e w' => e = .returned (.bool r0) ∧ Ext w w') := by
  unfold impl_isNode.f at h
  have hl_va0_1 := hr_a0_1.len
  have hl_va0_2 := hr_a0_2.len
  have hl_va1 := hr_a1.len
  refine Calls.of_tri (N := 13) Try.func170 rfl rfl rfl (Sep.nil (M := noM)) ?_
  refine Tri.seq ?_
  refine Tri.reg (l := [0, 1]) rfl ?_
  refine F.m rfl rfl rfl (wanted_none rfl) (m_boxG rfl rfl) ?_
  rintro _ _ ⟨b2_1, rfl, rfl⟩
  refine F.q rfl rfl rfl (wanted_none rfl) (r_assign rfl) ?_
  refine F.nil ?_
  refine Nrm.seq ?_
  refine Tri.seq ?_
  obtain ⟨y4, hE_1, h⟩ := bind_some h
  refine Tri.cut (fun e' C' => e' = [(4, .bool y4)] ∧ C' = Sep w noM []) ?_ (fun hj_1 => ?_)
  · rintro _ _ ⟨rfl, rfl⟩
    refine Nrm.seq ?_
    refine Tri.ret ?_
    cases h
    exact Rtn.body (.tmp rfl .nil) (fun w hw => ⟨rfl, hw.ext⟩)
  · obtain ⟨t6, h6, hE_1⟩ := bind_some hE_1
    rcases Bool.eq_false_or_eq_true (t6) with g7 | g7
    · replace hE_1 := if_tt g7 hE_1
      obtain ⟨t10, h10, hE_1⟩ := bind_some hE_1
      refine Tri.reg (l := [0, 1, 2, 3, 4, 5, 6, 7, 8]) rfl ?_
      refine F.q rfl rfl rfl (wanted_none rfl) (r_loadA ta27 ti27 rfl rfl (fun w hw => (box_cells (i := 0) rfl w hw))) ?_
      refine F.qc rfl rfl rfl (wanted_none rfl) (q_callF (xs := _) rfl ok143 rfl rfl (fun w hw => impl_IsMaze.ok h6 w ((fun _ hw => hr_a0_1.sep hw) w hw) ((fun _ hw => hr_a0_2.sep hw) w hw))) ?_
      refine F.q rfl rfl rfl (wanted_none rfl) (r_move rfl) ?_
      refine F.q rfl rfl rfl (wg rfl rfl rfl g7) (r_move rfl) ?_
      refine F.q rfl rfl rfl (wg rfl rfl rfl g7) (r_makeFunc rfl) ?_
      refine F.qc rfl rfl rfl (wg rfl rfl rfl g7) (q_callF (xs := _) rfl ok150 rfl rfl (fun w hw => slices_ContainsFunc_int_int.ok h10 w ((fun _ hw => hr_a1.sep hw) w hw) ok209 (fun w2 he2 z0 y2 hy2 => impl_isNode_1.ok hy2 w2 ((box_cells (i := 0) rfl w hw).ext he2) (((fun _ hw => hr_a0_1.sep hw) w hw).ext he2) (((fun _ hw => hr_a0_2.sep hw) w hw).ext he2)))) ?_
      refine F.q rfl rfl rfl (wg rfl rfl rfl g7) (r_not rfl) ?_
      refine F.q rfl rfl rfl (wanted_none rfl) (r_pick rfl rfl g7) ?_
      refine F.q rfl rfl rfl (wanted_none rfl) (r_assign rfl) ?_
      refine F.nil ?_
      cases hE_1
      refine Nrm.only [4] rfl ?_
      refine Nrm.pick [] rfl rfl ?_
      exact hj_1 _ _ ⟨rfl, rfl⟩
    · replace hE_1 := if_ff g7 hE_1
      refine Tri.reg (l := [0, 1, 2, 3, 4, 5, 6, 7, 8]) rfl ?_
      refine F.q rfl rfl rfl (wanted_none rfl) (r_loadA ta27 ti27 rfl rfl (fun w hw => (box_cells (i := 0) rfl w hw))) ?_
      refine F.qc rfl rfl rfl (wanted_none rfl) (q_callF (xs := _) rfl ok143 rfl rfl (fun w hw => impl_IsMaze.ok h6 w ((fun _ hw => hr_a0_1.sep hw) w hw) ((fun _ hw => hr_a0_2.sep hw) w hw))) ?_
      refine F.q rfl rfl rfl (wanted_none rfl) (r_move rfl) ?_
      refine F.sk rfl rfl rfl (wf rfl rfl rfl g7) ?_
      refine F.sk rfl rfl rfl (wf rfl rfl rfl g7) ?_
      refine F.sk rfl rfl rfl (wf rfl rfl rfl g7) ?_
      refine F.sk rfl rfl rfl (wf rfl rfl rfl g7) ?_
      refine F.q rfl rfl rfl (wanted_none rfl) (r_pickf rfl rfl g7) ?_
      refine F.q rfl rfl rfl (wanted_none rfl) (r_assign rfl) ?_
      refine F.nil ?_
      cases hE_1
      refine Nrm.only [4] rfl ?_
      refine Nrm.pick [] rfl rfl ?_
      exact hj_1 _ _ ⟨rfl, rfl⟩

end Go.Proofs

/- loop.example/g01158/impl.isFilling -/
namespace Go.Proofs
open Go Go.Ga
set_option linter.unusedVariables false
set_option maxRecDepth 100000
set_option maxHeartbeats 4000000
def impl_isFilling.f (k : Nat) (a0_0 : Int) (a0_1 : List (Int × Int × Int)) (a0_2 : List Int) (a1 : Int) (a2 : List Int) : Option (Bool) := ((impl_members.f k a1).bind fun t10 => (if ((a2.length : Int) == (t10.length : Int)) = true then (impl_isNode.f k a0_0 a0_1 a0_2 a2).bind fun t16 => some t16 else some false)).bind fun y6 => some y6

theorem impl_isFilling.ok {k : Nat}  {a0_0 : Int} {a0_1 : List (Int × Int × Int)} {a0_2 : List Int} {a1 : Int} {a2 : List Int} {r0 : Bool} (h : impl_isFilling.f k a0_0 a0_1 a0_2 a1 a2 = some r0) (w : World) {va0_1 : Value} {va0_2 : Value} {va2 : Value} (hr_a0_1 : Rd w va0_1 a0_1) (hr_a0_2 : Rd w va0_2 a0_2) (hr_a2 : Rd w va2 a2) :
    Calls Try.prog 103 ([.agg ([.int .i64 a0_0, va0_1, va0_2].toArray), .int .i64 a1, va2] : List Value).toArray w (fun e w' => e = .returned (.bool r0) ∧ Ext w w') := by
  unfold impl_isFilling.f at h
  have hl_va0_1 := hr_a0_1.len
  have hl_va0_2 := hr_a0_2.len
  have hl_va2 := hr_a2.len
  refine Calls.of_tri (N := 18) Try.func103 rfl rfl rfl (Sep.nil (M := noM)) ?_
  refine Tri.seq ?_
  refine Tri.reg (l := [0, 1]) rfl ?_
  refine F.m rfl rfl rfl (wanted_none rfl) (m_boxG rfl rfl) ?_
  rintro _ _ ⟨b3_1, rfl, rfl⟩
  refine F.q rfl rfl rfl (wanted_none rfl) (r_assign rfl) ?_
  refine F.nil ?_
  refine Nrm.seq ?_
  refine Tri.seq ?_
  obtain ⟨y6, hE_1, h⟩ := bind_some h
  refine Tri.cut (fun e' C' => e' = [(6, .bool y6)] ∧ C' = Sep w noM []) ?_ (fun hj_1 => ?_)
  · rintro _ _ ⟨rfl, rfl⟩
    refine Nrm.seq ?_
    refine Tri.ret ?_
    cases h
    exact Rtn.body (.tmp rfl .nil) (fun w hw => ⟨rfl, hw.ext⟩)
  · obtain ⟨t10, h10, hE_1⟩ := bind_some hE_1
    rcases Bool.eq_false_or_eq_true ((a2.length : Int) == (t10.length : Int)) with g13 | g13
    · replace hE_1 := if_tt g13 hE_1
      obtain ⟨t16, h16, hE_1⟩ := bind_some hE_1
      refine Tri.reg (l := [0, 1, 2, 3, 4, 5, 6, 7, 8, 9, 10, 11]) rfl ?_
      refine F.q rfl rfl rfl (wanted_none rfl) (r_move rfl) ?_
      refine F.q rfl rfl rfl (wanted_none rfl) (r_len Try.underlying25 rfl hl_va2) ?_
      refine F.q rfl rfl rfl (wanted_none rfl) (r_move rfl) ?_
      refine F.m rfl rfl rfl (wanted_none rfl) (m_callF (xs := _) rfl ok98 rfl rfl (fun w hw => impl_members.ok h10 w )) ?_
      rintro v10_2 _ ⟨_, ⟨S10_2, hl_v10_2, rfl⟩, rfl⟩
      refine F.q rfl rfl rfl (wanted_none rfl) (r_len Try.underlying25 rfl hl_v10_2) ?_
      refine F.q rfl rfl rfl (wanted_none rfl) (r_eql rfl rfl) ?_
      refine F.q rfl rfl rfl (wanted_none rfl) (r_move rfl) ?_
      refine F.q rfl rfl rfl (wg rfl rfl rfl g13) (r_loadA ta27 ti27 rfl rfl (fun w hw => (box_cells (i := 1) rfl w hw))) ?_
      refine F.q rfl rfl rfl (wg rfl rfl rfl g13) (r_move rfl) ?_
      refine F.qc rfl rfl rfl (wg rfl rfl rfl g13) (q_callF (xs := _) rfl ok170 rfl rfl (fun w hw => impl_isNode.ok h16 w ((fun _ hw => hr_a0_1.sep hw) w hw) ((fun _ hw => hr_a0_2.sep hw) w hw) ((fun _ hw => hr_a2.sep hw) w hw))) ?_
      refine F.q rfl rfl rfl (wanted_none rfl) (r_pick rfl rfl g13) ?_
      refine F.q rfl rfl rfl (wanted_none rfl) (r_assign rfl) ?_
      refine F.nil ?_
      cases hE_1
      refine Nrm.only [6] rfl ?_
      refine Nrm.pick [] rfl rfl ?_
      exact hj_1 _ _ ⟨rfl, rfl⟩
    · replace hE_1 := if_ff g13 hE_1
      refine Tri.reg (l := [0, 1, 2, 3, 4, 5, 6, 7, 8, 9, 10, 11]) rfl ?_
      refine F.q rfl rfl rfl (wanted_none rfl) (r_move rfl) ?_
      refine F.q rfl rfl rfl (wanted_none rfl) (r_len Try.underlying25 rfl hl_va2) ?_
      refine F.q rfl rfl rfl (wanted_none rfl) (r_move rfl) ?_
      refine F.m rfl rfl rfl (wanted_none rfl) (m_callF (xs := _) rfl ok98 rfl rfl (fun w hw => impl_members.ok h10 w )) ?_
      rintro v10_3 _ ⟨_, ⟨S10_3, hl_v10_3, rfl⟩, rfl⟩
      refine F.q rfl rfl rfl (wanted_none rfl) (r_len Try.underlying25 rfl hl_v10_3) ?_
      refine F.q rfl rfl rfl (wanted_none rfl) (r_eql rfl rfl) ?_
      refine F.q rfl rfl rfl (wanted_none rfl) (r_move rfl) ?_
      refine F.sk rfl rfl rfl (wf rfl rfl rfl g13) ?_
      refine F.sk rfl rfl rfl (wf rfl rfl rfl g13) ?_
      refine F.sk rfl rfl rfl (wf rfl rfl rfl g13) ?_
      refine F.q rfl rfl rfl (wanted_none rfl) (r_pickf rfl rfl g13) ?_
      refine F.q rfl rfl rfl (wanted_none rfl) (r_assign rfl) ?_
      refine F.nil ?_
      cases hE_1
      refine Nrm.only [6] rfl ?_
      refine Nrm.pick [] rfl rfl ?_
      exact hj_1 _ _ ⟨rfl, rfl⟩

end Go.Proofs

/- loop.example/g01158/impl.FillingWins -/
namespace Go.Proofs
open Go Go.Ga
set_option linter.unusedVariables false
set_option maxRecDepth 100000
set_option maxHeartbeats 4000000
def impl_FillingWins.f (k : Nat) (a0_0 : Int) (a0_1 : List (Int × Int × Int)) (a0_2 : List Int) (a1 : Int) (a2 : List Int) : Option (Bool × Bool) := ((impl_asked.f k a0_0 a0_1 a0_2 a1).bind fun t10 => (if (!t10) = true then some true else (impl_isFilling.f k a0_0 a0_1 a0_2 a1 a2).bind fun t16 => some (!t16))).bind fun y18 => (if y18 = true then some (false, false) else (impl_depth.f k a0_0 a0_1 a0_2 a1 a2).bind fun t22 => some (decide (t22 > 0), true))

theorem impl_FillingWins.ok {k : Nat}  {a0_0 : Int} {a0_1 : List (Int × Int × Int)} {a0_2 : List Int} {a1 : Int} {a2 : List Int} {r0 : Bool} {r1 : Bool} (h : impl_FillingWins.f k a0_0 a0_1 a0_2 a1 a2 = some (r0, r1)) (w : World) {va0_1 : Value} {va0_2 : Value} {va2 : Value} (hr_a0_1 : Rd w va0_1 a0_1) (hr_a0_2 : Rd w va0_2 a0_2) (hr_a2 : Rd w va2 a2) :
    Calls Try.prog 23 ([.agg ([.int .i64 a0_0, va0_1, va0_2].toArray), .int .i64 a1, va2] : List Value).toArray w (fun e w' => e = .returned (.tuple #[.bool r0, .bool r1]) ∧ Ext w w') := by
  unfold impl_FillingWins.f at h
  have hl_va0_1 := hr_a0_1.len
  have hl_va0_2 := hr_a0_2.len
  have hl_va2 := hr_a2.len
  refine Calls.of_tri (N := 24) Try.func23 rfl rfl rfl (Sep.nil (M := noM)) ?_
  refine Tri.seq ?_
  refine Tri.reg (l := [0, 1, 2]) rfl ?_
  refine F.m rfl rfl rfl (wanted_none rfl) (m_boxG rfl rfl) ?_
  rintro _ _ ⟨b3_1, rfl, rfl⟩
  refine F.q rfl rfl rfl (wanted_none rfl) (r_assign rfl) ?_
  refine F.q rfl rfl rfl (wanted_none rfl) (r_assign rfl) ?_
  refine F.nil ?_
  refine Nrm.seq ?_
  refine Tri.seq ?_
  refine Tri.seq ?_
  obtain ⟨y18, hE_1, h⟩ := bind_some h
  refine Tri.cut (fun e' C' => e' = [(1, .int .i64 a1), (2, va2), (3, .pointer (some ⟨b3_1, 0, none⟩)), (18, .bool y18)] ∧ C' = Sep w noM [R.box b3_1 27 [.int .i64 a0_0, va0_1, va0_2]]) ?_ (fun hj_1 => ?_)
  · rintro _ _ ⟨rfl, rfl⟩
    refine Nrm.seq ?_
    refine Tri.cond (b := y18) rfl (fun g_1 => ?_) (fun g_1 => ?_)
    · replace h := if_tt g_1 h
      refine Tri.seq ?_
      refine Tri.reg (l := [0, 1]) rfl ?_
      refine F.q rfl rfl rfl (wanted_none rfl) (r_assign rfl) ?_
      refine F.q rfl rfl rfl (wanted_none rfl) (r_assign rfl) ?_
      refine F.nil ?_
      refine Nrm.seq ?_
      refine Tri.ret ?_
      refine Rtn.then ?_
      cases h
      exact Rtn.body (.tmp rfl (.tmp rfl .nil)) (fun w hw => ⟨rfl, hw.ext⟩)
    · replace h := if_ff g_1 h
      refine Tri.skip ?_
      refine Nrm.seq ?_
      refine Tri.seq ?_
      obtain ⟨t22, h22, h⟩ := bind_some h
      refine Tri.reg (l := [0, 1, 2, 3, 4, 5, 6]) rfl ?_
      refine F.q rfl rfl rfl (wanted_none rfl) (r_loadA ta27 ti27 rfl rfl (fun w hw => (box_cells (i := 0) rfl w hw))) ?_
      refine F.q rfl rfl rfl (wanted_none rfl) (r_move rfl) ?_
      refine F.q rfl rfl rfl (wanted_none rfl) (r_move rfl) ?_
      refine F.qc rfl rfl rfl (wanted_none rfl) (q_callF (xs := _) rfl ok90 rfl rfl (fun w hw => impl_depth.ok h22 w ((fun _ hw => hr_a0_1.sep hw) w hw) ((fun _ hw => hr_a0_2.sep hw) w hw) ((fun _ hw => hr_a2.sep hw) w hw))) ?_
      refine F.q rfl rfl rfl (wanted_none rfl) (r_gtr rfl rfl) ?_
      refine F.q rfl rfl rfl (wanted_none rfl) (r_assign rfl) ?_
      refine F.q rfl rfl rfl (wanted_none rfl) (r_assign rfl) ?_
      refine F.nil ?_
      refine Nrm.seq ?_
      refine Tri.ret ?_
      cases h
      exact Rtn.body (.tmp rfl (.tmp rfl .nil)) (fun w hw => ⟨rfl, hw.ext⟩)
  · obtain ⟨t10, h10, hE_1⟩ := bind_some hE_1
    rcases Bool.eq_false_or_eq_true (!t10) with g12 | g12
    · replace hE_1 := if_tt g12 hE_1
      refine Tri.reg (l := [0, 1, 2, 3, 4, 5, 6, 7, 8, 9, 10]) rfl ?_
      refine F.q rfl rfl rfl (wanted_none rfl) (r_loadA ta27 ti27 rfl rfl (fun w hw => (box_cells (i := 0) rfl w hw))) ?_
      refine F.q rfl rfl rfl (wanted_none rfl) (r_move rfl) ?_
      refine F.qc rfl rfl rfl (wanted_none rfl) (q_callF (xs := _) rfl ok102 rfl rfl (fun w hw => impl_asked.ok h10 w ((fun _ hw => hr_a0_1.sep hw) w hw) ((fun _ hw => hr_a0_2.sep hw) w hw))) ?_
      refine F.q rfl rfl rfl (wanted_none rfl) (r_not rfl) ?_
      refine F.q rfl rfl rfl (wanted_none rfl) (r_move rfl) ?_
      refine F.sk rfl rfl rfl (wf rfl rfl rfl g12) ?_
      refine F.sk rfl rfl rfl (wf rfl rfl rfl g12) ?_
      refine F.sk rfl rfl rfl (wf rfl rfl rfl g12) ?_
      refine F.sk rfl rfl rfl (wf rfl rfl rfl g12) ?_
      refine F.sk rfl rfl rfl (wf rfl rfl rfl g12) ?_
      refine F.q rfl rfl rfl (wanted_none rfl) (r_pick rfl rfl g12) ?_
      refine F.nil ?_
      cases hE_1
      refine Nrm.only [1, 2, 3, 18] rfl ?_
      refine Nrm.pick [0] rfl rfl ?_
      exact hj_1 _ _ ⟨rfl, rfl⟩
    · replace hE_1 := if_ff g12 hE_1
      obtain ⟨t16, h16, hE_1⟩ := bind_some hE_1
      refine Tri.reg (l := [0, 1, 2, 3, 4, 5, 6, 7, 8, 9, 10]) rfl ?_
      refine F.q rfl rfl rfl (wanted_none rfl) (r_loadA ta27 ti27 rfl rfl (fun w hw => (box_cells (i := 0) rfl w hw))) ?_
      refine F.q rfl rfl rfl (wanted_none rfl) (r_move rfl) ?_
      refine F.qc rfl rfl rfl (wanted_none rfl) (q_callF (xs := _) rfl ok102 rfl rfl (fun w hw => impl_asked.ok h10 w ((fun _ hw => hr_a0_1.sep hw) w hw) ((fun _ hw => hr_a0_2.sep hw) w hw))) ?_
      refine F.q rfl rfl rfl (wanted_none rfl) (r_not rfl) ?_
      refine F.q rfl rfl rfl (wanted_none rfl) (r_move rfl) ?_
      refine F.q rfl rfl rfl (wg rfl rfl rfl g12) (r_loadA ta27 ti27 rfl rfl (fun w hw => (box_cells (i := 0) rfl w hw))) ?_
      refine F.q rfl rfl rfl (wg rfl rfl rfl g12) (r_move rfl) ?_
      refine F.q rfl rfl rfl (wg rfl rfl rfl g12) (r_move rfl) ?_
      refine F.qc rfl rfl rfl (wg rfl rfl rfl g12) (q_callF (xs := _) rfl ok103 rfl rfl (fun w hw => impl_isFilling.ok h16 w ((fun _ hw => hr_a0_1.sep hw) w hw) ((fun _ hw => hr_a0_2.sep hw) w hw) ((fun _ hw => hr_a2.sep hw) w hw))) ?_
      refine F.q rfl rfl rfl (wg rfl rfl rfl g12) (r_not rfl) ?_
      refine F.q rfl rfl rfl (wanted_none rfl) (r_pickf rfl rfl g12) ?_
      refine F.nil ?_
      cases hE_1
      refine Nrm.only [1, 2, 3, 18] rfl ?_
      refine Nrm.pick [0] rfl rfl ?_
      exact hj_1 _ _ ⟨rfl, rfl⟩

end Go.Proofs

/- loop.example/g01158/impl.FillingDepth -/
namespace Go.Proofs
open Go Go.Ga
set_option linter.unusedVariables false
set_option maxRecDepth 100000
set_option maxHeartbeats 4000000
def impl_FillingDepth.f (k : Nat) (a0_0 : Int) (a0_1 : List (Int × Int × Int)) (a0_2 : List Int) (a1 : Int) (a2 : List Int) : Option (Int × Bool) := ((impl_asked.f k a0_0 a0_1 a0_2 a1).bind fun t11 => (if (!t11) = true then some true else (impl_isFilling.f k a0_0 a0_1 a0_2 a1 a2).bind fun t17 => some (!t17))).bind fun y19 => (if y19 = true then some (0, false) else (impl_depth.f k a0_0 a0_1 a0_2 a1 a2).bind fun t23 => some (t23, decide (t23 > 0)))

theorem impl_FillingDepth.ok {k : Nat}  {a0_0 : Int} {a0_1 : List (Int × Int × Int)} {a0_2 : List Int} {a1 : Int} {a2 : List Int} {r0 : Int} {r1 : Bool} (h : impl_FillingDepth.f k a0_0 a0_1 a0_2 a1 a2 = some (r0, r1)) (w : World) {va0_1 : Value} {va0_2 : Value} {va2 : Value} (hr_a0_1 : Rd w va0_1 a0_1) (hr_a0_2 : Rd w va0_2 a0_2) (hr_a2 : Rd w va2 a2) :
    Calls Try.prog 24 ([.agg ([.int .i64 a0_0, va0_1, va0_2].toArray), .int .i64 a1, va2] : List Value).toArray w (fun e w' => e = .returned (.tuple #[.int .i64 r0, .bool r1]) ∧ Ext w w') := by
  unfold impl_FillingDepth.f at h
  have hl_va0_1 := hr_a0_1.len
  have hl_va0_2 := hr_a0_2.len
  have hl_va2 := hr_a2.len
  refine Calls.of_tri (N := 27) Try.func24 rfl rfl rfl (Sep.nil (M := noM)) ?_
  refine Tri.seq ?_
  refine Tri.reg (l := [0, 1, 2]) rfl ?_
  refine F.m rfl rfl rfl (wanted_none rfl) (m_boxG rfl rfl) ?_
  rintro _ _ ⟨b3_1, rfl, rfl⟩
  refine F.q rfl rfl rfl (wanted_none rfl) (r_assign rfl) ?_
  refine F.q rfl rfl rfl (wanted_none rfl) (r_assign rfl) ?_
  refine F.nil ?_
  refine Nrm.seq ?_
  refine Tri.seq ?_
  refine Tri.seq ?_
  obtain ⟨y19, hE_1, h⟩ := bind_some h
  refine Tri.cut (fun e' C' => e' = [(1, .int .i64 a1), (2, va2), (3, .pointer (some ⟨b3_1, 0, none⟩)), (19, .bool y19)] ∧ C' = Sep w noM [R.box b3_1 27 [.int .i64 a0_0, va0_1, va0_2]]) ?_ (fun hj_1 => ?_)
  · rintro _ _ ⟨rfl, rfl⟩
    refine Nrm.seq ?_
    refine Tri.cond (b := y19) rfl (fun g_1 => ?_) (fun g_1 => ?_)
    · replace h := if_tt g_1 h
      refine Tri.seq ?_
      refine Tri.reg (l := [0, 1]) rfl ?_
      refine F.q rfl rfl rfl (wanted_none rfl) (r_assign rfl) ?_
      refine F.q rfl rfl rfl (wanted_none rfl) (r_assign rfl) ?_
      refine F.nil ?_
      refine Nrm.seq ?_
      refine Tri.ret ?_
      refine Rtn.then ?_
      cases h
      exact Rtn.body (.tmp rfl (.tmp rfl .nil)) (fun w hw => ⟨rfl, hw.ext⟩)
    · replace h := if_ff g_1 h
      refine Tri.skip ?_
      refine Nrm.seq ?_
      refine Tri.seq ?_
      obtain ⟨t23, h23, h⟩ := bind_some h
      refine Tri.reg (l := [0, 1, 2, 3, 4]) rfl ?_
      refine F.q rfl rfl rfl (wanted_none rfl) (r_loadA ta27 ti27 rfl rfl (fun w hw => (box_cells (i := 0) rfl w hw))) ?_
      refine F.q rfl rfl rfl (wanted_none rfl) (r_move rfl) ?_
      refine F.q rfl rfl rfl (wanted_none rfl) (r_move rfl) ?_
      refine F.qc rfl rfl rfl (wanted_none rfl) (q_callF (xs := _) rfl ok90 rfl rfl (fun w hw => impl_depth.ok h23 w ((fun _ hw => hr_a0_1.sep hw) w hw) ((fun _ hw => hr_a0_2.sep hw) w hw) ((fun _ hw => hr_a2.sep hw) w hw))) ?_
      refine F.q rfl rfl rfl (wanted_none rfl) (r_assign rfl) ?_
      refine F.nil ?_
      refine Nrm.seq ?_
      refine Tri.seq ?_
      refine Tri.reg (l := [0, 1, 2, 3, 4]) rfl ?_
      refine F.q rfl rfl rfl (wanted_none rfl) (r_move rfl) ?_
      refine F.q rfl rfl rfl (wanted_none rfl) (r_move rfl) ?_
      refine F.q rfl rfl rfl (wanted_none rfl) (r_gtr rfl rfl) ?_
      refine F.q rfl rfl rfl (wanted_none rfl) (r_assign rfl) ?_
      refine F.q rfl rfl rfl (wanted_none rfl) (r_assign rfl) ?_
      refine F.nil ?_
      refine Nrm.seq ?_
      refine Tri.ret ?_
      cases h
      exact Rtn.body (.tmp rfl (.tmp rfl .nil)) (fun w hw => ⟨rfl, hw.ext⟩)
  · obtain ⟨t11, h11, hE_1⟩ := bind_some hE_1
    rcases Bool.eq_false_or_eq_true (!t11) with g13 | g13
    · replace hE_1 := if_tt g13 hE_1
      refine Tri.reg (l := [0, 1, 2, 3, 4, 5, 6, 7, 8, 9, 10]) rfl ?_
      refine F.q rfl rfl rfl (wanted_none rfl) (r_loadA ta27 ti27 rfl rfl (fun w hw => (box_cells (i := 0) rfl w hw))) ?_
      refine F.q rfl rfl rfl (wanted_none rfl) (r_move rfl) ?_
      refine F.qc rfl rfl rfl (wanted_none rfl) (q_callF (xs := _) rfl ok102 rfl rfl (fun w hw => impl_asked.ok h11 w ((fun _ hw => hr_a0_1.sep hw) w hw) ((fun _ hw => hr_a0_2.sep hw) w hw))) ?_
      refine F.q rfl rfl rfl (wanted_none rfl) (r_not rfl) ?_
      refine F.q rfl rfl rfl (wanted_none rfl) (r_move rfl) ?_
      refine F.sk rfl rfl rfl (wf rfl rfl rfl g13) ?_
      refine F.sk rfl rfl rfl (wf rfl rfl rfl g13) ?_
      refine F.sk rfl rfl rfl (wf rfl rfl rfl g13) ?_
      refine F.sk rfl rfl rfl (wf rfl rfl rfl g13) ?_
      refine F.sk rfl rfl rfl (wf rfl rfl rfl g13) ?_
      refine F.q rfl rfl rfl (wanted_none rfl) (r_pick rfl rfl g13) ?_
      refine F.nil ?_
      cases hE_1
      refine Nrm.only [1, 2, 3, 19] rfl ?_
      refine Nrm.pick [0] rfl rfl ?_
      exact hj_1 _ _ ⟨rfl, rfl⟩
    · replace hE_1 := if_ff g13 hE_1
      obtain ⟨t17, h17, hE_1⟩ := bind_some hE_1
      refine Tri.reg (l := [0, 1, 2, 3, 4, 5, 6, 7, 8, 9, 10]) rfl ?_
      refine F.q rfl rfl rfl (wanted_none rfl) (r_loadA ta27 ti27 rfl rfl (fun w hw => (box_cells (i := 0) rfl w hw))) ?_
      refine F.q rfl rfl rfl (wanted_none rfl) (r_move rfl) ?_
      refine F.qc rfl rfl rfl (wanted_none rfl) (q_callF (xs := _) rfl ok102 rfl rfl (fun w hw => impl_asked.ok h11 w ((fun _ hw => hr_a0_1.sep hw) w hw) ((fun _ hw => hr_a0_2.sep hw) w hw))) ?_
      refine F.q rfl rfl rfl (wanted_none rfl) (r_not rfl) ?_
      refine F.q rfl rfl rfl (wanted_none rfl) (r_move rfl) ?_
      refine F.q rfl rfl rfl (wg rfl rfl rfl g13) (r_loadA ta27 ti27 rfl rfl (fun w hw => (box_cells (i := 0) rfl w hw))) ?_
      refine F.q rfl rfl rfl (wg rfl rfl rfl g13) (r_move rfl) ?_
      refine F.q rfl rfl rfl (wg rfl rfl rfl g13) (r_move rfl) ?_
      refine F.qc rfl rfl rfl (wg rfl rfl rfl g13) (q_callF (xs := _) rfl ok103 rfl rfl (fun w hw => impl_isFilling.ok h17 w ((fun _ hw => hr_a0_1.sep hw) w hw) ((fun _ hw => hr_a0_2.sep hw) w hw) ((fun _ hw => hr_a2.sep hw) w hw))) ?_
      refine F.q rfl rfl rfl (wg rfl rfl rfl g13) (r_not rfl) ?_
      refine F.q rfl rfl rfl (wanted_none rfl) (r_pickf rfl rfl g13) ?_
      refine F.nil ?_
      cases hE_1
      refine Nrm.only [1, 2, 3, 19] rfl ?_
      refine Nrm.pick [0] rfl rfl ?_
      exact hj_1 _ _ ⟨rfl, rfl⟩

end Go.Proofs

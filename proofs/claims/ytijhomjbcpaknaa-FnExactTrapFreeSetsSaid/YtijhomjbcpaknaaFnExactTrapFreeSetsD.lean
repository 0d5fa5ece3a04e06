/- A part of the proof of FnExactTrapFreeSets: what the functions of the program compute, walked on the model. No condition. -/
import Derived.Test.YtijhomjbcpaknaaFnExactTrapFreeSetsC
set_option linter.unusedSimpArgs false
/- loop.example/g01158/spec.l11Spread -/
namespace Go.Proofs
open Go Go.Ga
set_option linter.unusedVariables false
set_option maxRecDepth 100000
set_option maxHeartbeats 4000000
def spec_l11Spread.l2 (k : Nat) (x8 : Int) (t56 : List Int) : Nat → (List (Int)) → (List (Int)) → Int → Option ((List (Int)) × (List (Int)))
  | 0, _, _, _ => none
  | n + 1, x5rr, x7r, x10 => (if (decide (x10 < (t56.length : Int))) = true then (rdl t56 x10).bind fun t66 => (rdl x5rr t66).bind fun t68 => ((if (decide (t68 < 0)) = true then (rdl t56 x10).bind fun t74 => (rdl x7r x8).bind fun t79 => (rdl x5rr t79).bind fun t81 => (rdl x5rr t74).bind fun t84 => (rdl t56 x10).bind fun t88 => if (x7r ++ ([t88] : List (Int))).length < 1099511627776 then some (x5rr.set t74.toNat (w64 (t81 + 1)), x7r ++ ([t88] : List (Int))) else none else some (x5rr, x7r))).bind fun (y5, y7) => spec_l11Spread.l2 k x8 t56 n y5 y7 (w64 (x10 + 1)) else some (x5rr, x7r))

def spec_l11Spread.l1 (k : Nat) (a0_0 : Int) (a0_1 : List (Int × Int × Int)) (a0_2 : List Int) (a0_3 : List Int) : Nat → (List (Int)) → (List (Int)) → Int → Option ((List (Int)))
  | 0, _, _, _ => none
  | n + 1, x5r, x7, x8 => (if (decide (x8 < (x7.length : Int))) = true then (rdl x7 x8).bind fun t48 => (rdl x7 x8).bind fun t53 => (spec_l11Step.f k a0_0 a0_1 a0_2 a0_3 (quo t48 64) (rem t53 64)).bind fun t56 => (spec_l11Spread.l2 k x8 t56 k x5r x7 0).bind fun (x5rr, x7r) => spec_l11Spread.l1 k a0_0 a0_1 a0_2 a0_3 n x5rr x7r (w64 (x8 + 1)) else some x5r)

def spec_l11Spread.l0 (k : Nat) : Nat → (List (Int)) → Int → Option ((List (Int)))
  | 0, _, _ => none
  | n + 1, x5, x6 => (if (decide (x6 < (x5.length : Int))) = true then (rdl x5 x6).bind fun t24 => spec_l11Spread.l0 k n (x5.set x6.toNat (-1)) (w64 (x6 + 1)) else some x5)

def spec_l11Spread.f (k : Nat) (a0_0 : Int) (a0_1 : List (Int × Int × Int)) (a0_2 : List Int) (a0_3 : List Int) (a1 : Int) : Option ((List Int)) := if 0 ≤ w64 (a0_0 * 64) ∧ w64 (a0_0 * 64) < 1099511627776 then (spec_l11Spread.l0 k k (List.replicate (w64 (a0_0 * 64)).toNat (0 : Int)) 0).bind fun x5 => (rdl a0_2 0).bind fun t29 => (spec_l4Id.f k 0 (bor a1 t29)).bind fun t32 => (rdl ([t32] : List (Int)) 0).bind fun t36 => (rdl x5 t36).bind fun t38 => (spec_l11Spread.l1 k a0_0 a0_1 a0_2 a0_3 k (x5.set t36.toNat 0) ([t32] : List (Int)) 0).bind fun x5r => some x5r else none

theorem spec_l11Spread.ok {k : Nat}  {a0_0 : Int} {a0_1 : List (Int × Int × Int)} {a0_2 : List Int} {a0_3 : List Int} {a1 : Int} {r0 : List Int} (h : spec_l11Spread.f k a0_0 a0_1 a0_2 a0_3 a1 = some r0) (w : World) {va0_1 : Value} {va0_2 : Value} {va0_3 : Value} (hr_a0_1 : Rd w va0_1 a0_1) (hr_a0_2 : Rd w va0_2 a0_2) (hr_a0_3 : Rd w va0_3 a0_3) :
    Calls Try.prog 90 ([.agg ([.int .i64 a0_0, va0_1, va0_2, va0_3].toArray), .int .i64 a1] : List Value).toArray w (Post (fun u ns => ∃ (Sr0 : Nat → Prop), SlLen u r0.length ∧ ns = [R.sl Sr0 u r0]) w) := by
  unfold spec_l11Spread.f at h
  have hl_va0_1 := hr_a0_1.len
  have hl_va0_2 := hr_a0_2.len
  have hl_va0_3 := hr_a0_3.len
  refine Calls.of_tri (N := 93) Try.func90 rfl rfl rfl (Sep.nil (M := noM)) ?_
  refine Tri.seq ?_
  refine Tri.reg (l := [0, 1]) rfl ?_
  refine F.m rfl rfl rfl (wanted_none rfl) (m_boxG rfl rfl) ?_
  rintro _ _ ⟨b2_1, rfl, rfl⟩
  refine F.q rfl rfl rfl (wanted_none rfl) (r_assign rfl) ?_
  refine F.nil ?_
  refine Nrm.seq ?_
  refine Tri.seq ?_
  obtain ⟨hm15, h⟩ := ck h
  refine Tri.reg (l := [0, 1, 2, 3, 4, 5]) rfl ?_
  refine F.q rfl rfl rfl (wanted_none rfl) (r_fieldAddr tf33_0 rfl) ?_
  refine F.q rfl rfl rfl (wanted_none rfl) (r_fieldAddr tf31_0 rfl) ?_
  refine F.q rfl rfl rfl (wanted_none rfl) (r_load ta3 rfl (fun w hw => cell_2 (box_cells (i := 0) rfl w hw) rfl)) ?_
  refine F.q rfl rfl rfl (wanted_none rfl) (r_mul rfl rfl) ?_
  refine F.m rfl rfl rfl (wanted_none rfl) (m_make (x0 := (0 : Int)) Try.underlying23 ti3 rfl rfl rfl hm15.1 hm15.2 (by decide)) ?_
  rintro v15_1 _ ⟨S15_1, hl_v15_1, rfl⟩
  refine F.q rfl rfl rfl (wanted_none rfl) (r_assign rfl) ?_
  refine F.nil ?_
  refine Nrm.seq ?_
  refine Tri.seq ?_
  refine Tri.seq ?_
  refine Tri.reg (l := [0]) rfl ?_
  refine F.q rfl rfl rfl (wanted_none rfl) (r_assign rfl) ?_
  refine F.nil ?_
  refine Nrm.seq ?_
  obtain ⟨x5, hE_1, h⟩ := bind_some h
  refine Tri.block ?_
  refine Tri.only [1, 2, 5, 6] rfl ?_
  refine Tri.pick [1, 0] rfl rfl ?_
  refine Tri.rounds (fun n e' C' => ∃ (x5' : List (Int)) (x6' : Int), spec_l11Spread.l0 k n x5' x6' = some x5 ∧ SlLen v15_1 (x5').length ∧ e' = [(1, .int .i64 a1), (2, .pointer (some ⟨b2_1, 0, none⟩)), (5, v15_1), (6, .int .i64 x6')] ∧ C' = Sep w noM [R.box b2_1 33 [.int .i64 a0_0, va0_1, va0_2, va0_3], R.sl S15_1 v15_1 (x5' : List (Int))]) k ?_ ?_ ?_
  · exact ⟨List.replicate (w64 (a0_0 * 64)).toNat (0 : Int), 0, hE_1, hl_v15_1, rfl, rfl⟩
  · rintro _ _ ⟨_, _, hE_1, _⟩
    rw [spec_l11Spread.l0.eq_1] at hE_1; cases hE_1
  · rintro n_1 _ _ ⟨x5, x6, hE_1, hl_x5, rfl, rfl⟩ ih_1
    rw [spec_l11Spread.l0.eq_2] at hE_1
    refine Tri.seq ?_
    refine Tri.seq ?_
    refine Tri.reg (l := [0, 1, 2, 3]) rfl ?_
    refine F.q rfl rfl rfl (wanted_none rfl) (r_move rfl) ?_
    refine F.q rfl rfl rfl (wanted_none rfl) (r_move rfl) ?_
    refine F.q rfl rfl rfl (wanted_none rfl) (r_len Try.underlying23 rfl hl_x5) ?_
    refine F.q rfl rfl rfl (wanted_none rfl) (r_lss rfl rfl) ?_
    refine F.nil ?_
    refine Nrm.seq ?_
    refine Tri.cond (b := decide (x6 < (x5.length : Int))) rfl (fun g_1 => ?_) (fun g_1 => ?_)
    · replace hE_1 := if_tt g_1 hE_1
      refine Tri.skip ?_
      refine Nrm.seq ?_
      refine Tri.seq ?_
      refine Tri.block ?_
      obtain ⟨t24, h24, hE_1⟩ := bind_some hE_1
      refine Tri.reg (l := [0, 1, 2, 3]) rfl ?_
      refine F.q rfl rfl rfl (wanted_none rfl) (r_move rfl) ?_
      refine F.q rfl rfl rfl (wanted_none rfl) (r_move rfl) ?_
      refine F.q rfl rfl rfl (wanted_none rfl) (r_indexAddrS Try.underlying23 ti3 rfl hl_x5 rfl (rdl_some h24).1 (rdl_some h24).2.1) ?_
      refine F.ef0 rfl rfl (wanted_none rfl) (d_storeE (i := 1) (x1 := (-1)) ti3 rfl rfl rfl (rdl_some h24) rfl) ?_
      rintro _ _ ⟨rfl, rfl⟩
      refine F.nil ?_
      refine Nrm.block ?_
      refine Nrm.seq ?_
      refine Tri.reg (l := [0, 1, 2]) rfl ?_
      refine F.q rfl rfl rfl (wanted_none rfl) (r_move rfl) ?_
      refine F.q rfl rfl rfl (wanted_none rfl) (r_add rfl rfl) ?_
      refine F.q rfl rfl rfl (wanted_none rfl) (r_assign rfl) ?_
      refine F.nil ?_
      refine Nrm.round ?_
      refine Rnd.only [1, 2, 5, 6] rfl ?_
      refine Rnd.pick [0, 1] rfl rfl ?_
      exact ih_1 _ _ ⟨x5.set x6.toNat (-1), w64 (x6 + 1), hE_1, (len_set hl_x5), rfl, rfl⟩
    · replace hE_1 := if_ff g_1 hE_1
      refine Tri.exit ?_
      refine Exi.then ?_
      refine Exi.then ?_
      refine Exi.same ?_
      cases hE_1
      refine Nrm.seq ?_
      refine Tri.seq ?_
      obtain ⟨t29, h29, h⟩ := bind_some h
      obtain ⟨t32, h32, h⟩ := bind_some h
      refine Tri.reg (l := [0, 1, 2, 3, 4, 5, 6, 7, 8, 9]) rfl ?_
      refine F.q rfl rfl rfl (wanted_none rfl) (r_move rfl) ?_
      refine F.q rfl rfl rfl (wanted_none rfl) (r_fieldAddr tf33_0 rfl) ?_
      refine F.q rfl rfl rfl (wanted_none rfl) (r_fieldAddr tf31_2 rfl) ?_
      refine F.q rfl rfl rfl (wanted_none rfl) (r_load ta23 rfl (fun w hw => cell_2 (box_cells (i := 0) rfl w hw) rfl)) ?_
      refine F.q rfl rfl rfl (wanted_none rfl) (r_indexAddrS Try.underlying23 ti3 rfl hl_va0_2 rfl (rdl_some h29).1 (rdl_some h29).2.1) ?_
      refine F.q rfl rfl rfl (wanted_none rfl) (r_load ta3 rfl (fun w hw => cell_0 (Rd.flat ((fun _ hw => hr_a0_2.sep hw) w hw) (rdl_some h29).2.2) rfl)) ?_
      refine F.q rfl rfl rfl (wanted_none rfl) (r_or rfl rfl) ?_
      refine F.qc rfl rfl rfl (wanted_none rfl) (q_callF (xs := _) rfl ok134 rfl rfl (fun w hw => spec_l4Id.ok h32 w )) ?_
      refine F.m rfl rfl rfl (wanted_none rfl) (m_buildF (l := ([t32] : List (Int))) Try.underlying23 ti3 rfl rfl rfl rfl rfl) ?_
      rintro v33_1 _ ⟨S33_1, hl_v33_1, rfl⟩
      refine F.q rfl rfl rfl (wanted_none rfl) (r_assign rfl) ?_
      refine F.nil ?_
      refine Nrm.seq ?_
      refine Tri.seq ?_
      obtain ⟨t36, h36, h⟩ := bind_some h
      obtain ⟨t38, h38, h⟩ := bind_some h
      refine Tri.reg (l := [0, 1, 2, 3, 4, 5]) rfl ?_
      refine F.q rfl rfl rfl (wanted_none rfl) (r_move rfl) ?_
      refine F.q rfl rfl rfl (wanted_none rfl) (r_move rfl) ?_
      refine F.q rfl rfl rfl (wanted_none rfl) (r_indexAddrS Try.underlying23 ti3 rfl hl_v33_1 rfl (rdl_some h36).1 (rdl_some h36).2.1) ?_
      refine F.q rfl rfl rfl (wanted_none rfl) (r_load ta3 rfl (fun w hw => cell_0 (Rd.flat ((rd_sl (i := 0) rfl) w hw) (rdl_some h36).2.2) rfl)) ?_
      refine F.q rfl rfl rfl (wanted_none rfl) (r_indexAddrS Try.underlying23 ti3 rfl hl_x5 rfl (rdl_some h38).1 (rdl_some h38).2.1) ?_
      refine F.ef0 rfl rfl (wanted_none rfl) (d_storeE (i := 2) (x1 := 0) ti3 rfl rfl rfl (rdl_some h38) rfl) ?_
      rintro _ _ ⟨rfl, rfl⟩
      refine F.nil ?_
      refine Nrm.seq ?_
      refine Tri.seq ?_
      refine Tri.seq ?_
      refine Tri.reg (l := [0]) rfl ?_
      refine F.q rfl rfl rfl (wanted_none rfl) (r_assign rfl) ?_
      refine F.nil ?_
      refine Nrm.seq ?_
      obtain ⟨x5r, hE_2, h⟩ := bind_some h
      refine Tri.block ?_
      refine Tri.only [2, 5, 7, 8] rfl ?_
      refine Tri.pick [1, 0, 2] rfl rfl ?_
      refine Tri.rounds (fun n e' C' => ∃ (x5r' : List (Int)) (x7' : List (Int)) (x8' : Int) (w5r : Value) (T5r : Nat → Prop) (w7 : Value) (T7 : Nat → Prop), spec_l11Spread.l1 k a0_0 a0_1 a0_2 a0_3 n x5r' x7' x8' = some x5r ∧ SlLen w5r (x5r').length ∧ SlLen w7 (x7').length ∧ e' = [(2, .pointer (some ⟨b2_1, 0, none⟩)), (5, w5r), (7, w7), (8, .int .i64 x8')] ∧ C' = Sep w noM [R.box b2_1 33 [.int .i64 a0_0, va0_1, va0_2, va0_3], R.sl T7 w7 (x7' : List (Int)), R.sl T5r w5r (x5r' : List (Int))]) k ?_ ?_ ?_
      · exact ⟨x5.set t36.toNat 0, ([t32] : List (Int)), 0, v15_1, S15_1, v33_1, S33_1, hE_2, (len_set hl_x5), hl_v33_1, rfl, rfl⟩
      · rintro _ _ ⟨_, _, _, _, _, _, _, hE_2, _⟩
        rw [spec_l11Spread.l1.eq_1] at hE_2; cases hE_2
      · rintro n_2 _ _ ⟨x5r, x7, x8, w5r, T5r, w7, T7, hE_2, hl_w5r, hl_w7, rfl, rfl⟩ ih_2
        rw [spec_l11Spread.l1.eq_2] at hE_2
        refine Tri.seq ?_
        refine Tri.seq ?_
        refine Tri.reg (l := [0, 1, 2, 3]) rfl ?_
        refine F.q rfl rfl rfl (wanted_none rfl) (r_move rfl) ?_
        refine F.q rfl rfl rfl (wanted_none rfl) (r_move rfl) ?_
        refine F.q rfl rfl rfl (wanted_none rfl) (r_len Try.underlying23 rfl hl_w7) ?_
        refine F.q rfl rfl rfl (wanted_none rfl) (r_lss rfl rfl) ?_
        refine F.nil ?_
        refine Nrm.seq ?_
        refine Tri.cond (b := decide (x8 < (x7.length : Int))) rfl (fun g_2 => ?_) (fun g_2 => ?_)
        · replace hE_2 := if_tt g_2 hE_2
          refine Tri.skip ?_
          refine Nrm.seq ?_
          refine Tri.seq ?_
          refine Tri.block ?_
          refine Tri.seq ?_
          obtain ⟨t48, h48, hE_2⟩ := bind_some hE_2
          obtain ⟨t53, h53, hE_2⟩ := bind_some hE_2
          obtain ⟨t56, h56, hE_2⟩ := bind_some hE_2
          refine Tri.drawA mixedT Sep.up [(0, true), (1, true), (2, true), (3, true), (4, true), (5, true), (6, true), (7, true), (8, true), (9, true), (10, true), (11, false), (12, true)] [] (by kernel_rfl) ?_
          refine S.q rfl rfl rfl (wanted_none rfl) (r_loadA ta33 ti33 rfl rfl (fun w hw => (box_cells (i := 0) rfl w hw))) ?_
          refine S.q rfl rfl rfl (wanted_none rfl) (r_move rfl) ?_
          refine S.q rfl rfl rfl (wanted_none rfl) (r_move rfl) ?_
          refine S.q rfl rfl rfl (wanted_none rfl) (r_indexAddrS Try.underlying23 ti3 rfl hl_w7 rfl (rdl_some h48).1 (rdl_some h48).2.1) ?_
          refine S.q rfl rfl rfl (wanted_none rfl) (r_load ta3 rfl (fun w hw => cell_0 (Rd.flat ((rd_sl (i := 1) rfl) w hw) (rdl_some h48).2.2) rfl)) ?_
          refine S.q rfl rfl rfl (wanted_none rfl) (r_quo rfl rfl (by decide)) ?_
          refine S.q rfl rfl rfl (wanted_none rfl) (r_move rfl) ?_
          refine S.q rfl rfl rfl (wanted_none rfl) (r_move rfl) ?_
          refine S.q rfl rfl rfl (wanted_none rfl) (r_indexAddrS Try.underlying23 ti3 rfl hl_w7 rfl (rdl_some h53).1 (rdl_some h53).2.1) ?_
          refine S.q rfl rfl rfl (wanted_none rfl) (r_load ta3 rfl (fun w hw => cell_0 (Rd.flat ((rd_sl (i := 1) rfl) w hw) (rdl_some h53).2.2) rfl)) ?_
          refine S.q rfl rfl rfl (wanted_none rfl) (r_rem rfl rfl (by decide)) ?_
          refine S.m rfl rfl rfl (wanted_none rfl) (m_callF (xs := _) rfl ok89 rfl rfl (fun w hw => spec_l11Step.ok h56 w ((fun _ hw => hr_a0_1.sep hw) w hw) ((fun _ hw => hr_a0_2.sep hw) w hw) ((fun _ hw => hr_a0_3.sep hw) w hw))) ?_
          rintro v56_2 _ ⟨_, ⟨S56_2, hl_v56_2, rfl⟩, rfl⟩
          refine S.q rfl rfl rfl (wanted_none rfl) (r_assign rfl) ?_
          refine S.nil ?_
          refine F.nil ?_
          refine Nrm.seq ?_
          refine Tri.seq ?_
          refine Tri.reg (l := [0]) rfl ?_
          refine F.q rfl rfl rfl (wanted_none rfl) (r_assign rfl) ?_
          refine F.nil ?_
          refine Nrm.seq ?_
          obtain ⟨⟨x5rr, x7r⟩, hE_3, hE_2⟩ := bind_some hE_2
          refine Tri.block ?_
          refine Tri.only [2, 5, 7, 8, 9, 10] rfl ?_
          refine Tri.pick [1, 0, 2, 3] rfl rfl ?_
          refine Tri.rounds (fun n e' C' => ∃ (x5rr' : List (Int)) (x7r' : List (Int)) (x10' : Int) (w5rr : Value) (T5rr : Nat → Prop) (w7r : Value) (T7r : Nat → Prop), spec_l11Spread.l2 k x8 t56 n x5rr' x7r' x10' = some (x5rr, x7r) ∧ SlLen w5rr (x5rr').length ∧ SlLen w7r (x7r').length ∧ e' = [(2, .pointer (some ⟨b2_1, 0, none⟩)), (5, w5rr), (7, w7r), (8, .int .i64 x8), (9, v56_2), (10, .int .i64 x10')] ∧ C' = Sep w noM [R.box b2_1 33 [.int .i64 a0_0, va0_1, va0_2, va0_3], R.sl S56_2 v56_2 (t56 : List (Int)), R.sl T7r w7r (x7r' : List (Int)), R.sl T5rr w5rr (x5rr' : List (Int))]) k ?_ ?_ ?_
          · exact ⟨x5r, x7, 0, w5r, T5r, w7, T7, hE_3, hl_w5r, hl_w7, rfl, rfl⟩
          · rintro _ _ ⟨_, _, _, _, _, _, _, hE_3, _⟩
            rw [spec_l11Spread.l2.eq_1] at hE_3; cases hE_3
          · rintro n_3 _ _ ⟨x5rr, x7r, x10, w5rr, T5rr, w7r, T7r, hE_3, hl_w5rr, hl_w7r, rfl, rfl⟩ ih_3
            rw [spec_l11Spread.l2.eq_2] at hE_3
            refine Tri.seq ?_
            refine Tri.seq ?_
            refine Tri.reg (l := [0, 1, 2, 3]) rfl ?_
            refine F.q rfl rfl rfl (wanted_none rfl) (r_move rfl) ?_
            refine F.q rfl rfl rfl (wanted_none rfl) (r_move rfl) ?_
            refine F.q rfl rfl rfl (wanted_none rfl) (r_len Try.underlying23 rfl hl_v56_2) ?_
            refine F.q rfl rfl rfl (wanted_none rfl) (r_lss rfl rfl) ?_
            refine F.nil ?_
            refine Nrm.seq ?_
            refine Tri.cond (b := decide (x10 < (t56.length : Int))) rfl (fun g_3 => ?_) (fun g_3 => ?_)
            · replace hE_3 := if_tt g_3 hE_3
              refine Tri.skip ?_
              refine Nrm.seq ?_
              refine Tri.seq ?_
              refine Tri.block ?_
              refine Tri.seq ?_
              obtain ⟨t66, h66, hE_3⟩ := bind_some hE_3
              obtain ⟨t68, h68, hE_3⟩ := bind_some hE_3
              refine Tri.reg (l := [0, 1, 2, 3, 4, 5, 6, 7]) rfl ?_
              refine F.q rfl rfl rfl (wanted_none rfl) (r_move rfl) ?_
              refine F.q rfl rfl rfl (wanted_none rfl) (r_move rfl) ?_
              refine F.q rfl rfl rfl (wanted_none rfl) (r_move rfl) ?_
              refine F.q rfl rfl rfl (wanted_none rfl) (r_indexAddrS Try.underlying23 ti3 rfl hl_v56_2 rfl (rdl_some h66).1 (rdl_some h66).2.1) ?_
              refine F.q rfl rfl rfl (wanted_none rfl) (r_load ta3 rfl (fun w hw => cell_0 (Rd.flat ((rd_sl (i := 1) rfl) w hw) (rdl_some h66).2.2) rfl)) ?_
              refine F.q rfl rfl rfl (wanted_none rfl) (r_indexAddrS Try.underlying23 ti3 rfl hl_w5rr rfl (rdl_some h68).1 (rdl_some h68).2.1) ?_
              refine F.q rfl rfl rfl (wanted_none rfl) (r_load ta3 rfl (fun w hw => cell_0 (Rd.flat ((rd_sl (i := 3) rfl) w hw) (rdl_some h68).2.2) rfl)) ?_
              refine F.q rfl rfl rfl (wanted_none rfl) (r_lss rfl rfl) ?_
              refine F.nil ?_
              refine Nrm.seq ?_
              obtain ⟨⟨y5, y7⟩, hE_4, hE_3⟩ := bind_some hE_3
              refine Tri.cut (fun e' C' => ∃ (v5_1 : Value) (S5_1 : Nat → Prop) (v7_1 : Value) (S7_1 : Nat → Prop), SlLen v5_1 (y5).length ∧ SlLen v7_1 (y7).length ∧ e' = [(2, .pointer (some ⟨b2_1, 0, none⟩)), (5, v5_1), (7, v7_1), (8, .int .i64 x8), (9, v56_2), (10, .int .i64 x10)] ∧ C' = Sep w noM [R.box b2_1 33 [.int .i64 a0_0, va0_1, va0_2, va0_3], R.sl S5_1 v5_1 (y5 : List (Int)), R.sl S7_1 v7_1 (y7 : List (Int)), R.sl S56_2 v56_2 (t56 : List (Int))]) ?_ (fun hj_1 => ?_)
              · rintro _ _ ⟨v5_1, S5_1, v7_1, S7_1, hl_v5_1, hl_v7_1, rfl, rfl⟩
                refine Nrm.block ?_
                refine Nrm.seq ?_
                refine Tri.reg (l := [0, 1, 2]) rfl ?_
                refine F.q rfl rfl rfl (wanted_none rfl) (r_move rfl) ?_
                refine F.q rfl rfl rfl (wanted_none rfl) (r_add rfl rfl) ?_
                refine F.q rfl rfl rfl (wanted_none rfl) (r_assign rfl) ?_
                refine F.nil ?_
                refine Nrm.round ?_
                refine Rnd.only [2, 5, 7, 8, 9, 10] rfl ?_
                refine Rnd.pick [0, 3, 2, 1] rfl rfl ?_
                exact ih_3 _ _ ⟨y5, y7, w64 (x10 + 1), v5_1, S5_1, v7_1, S7_1, hE_3, hl_v5_1, hl_v7_1, rfl, rfl⟩
              · refine Tri.cond (b := decide (t68 < 0)) rfl (fun g_4 => ?_) (fun g_4 => ?_)
                · replace hE_4 := if_tt g_4 hE_4
                  refine Tri.seq ?_
                  obtain ⟨t74, h74, hE_4⟩ := bind_some hE_4
                  obtain ⟨t79, h79, hE_4⟩ := bind_some hE_4
                  obtain ⟨t81, h81, hE_4⟩ := bind_some hE_4
                  obtain ⟨t84, h84, hE_4⟩ := bind_some hE_4
                  refine Tri.drawA mixedT Sep.up [(0, true), (1, true), (2, true), (3, true), (4, true), (5, true), (6, true), (7, true), (8, true), (9, true), (10, true), (11, true), (12, true), (13, true)] [14] (by kernel_rfl) ?_
                  refine S.q rfl rfl rfl (wanted_none rfl) (r_move rfl) ?_
                  refine S.q rfl rfl rfl (wanted_none rfl) (r_move rfl) ?_
                  refine S.q rfl rfl rfl (wanted_none rfl) (r_move rfl) ?_
                  refine S.q rfl rfl rfl (wanted_none rfl) (r_indexAddrS Try.underlying23 ti3 rfl hl_v56_2 rfl (rdl_some h74).1 (rdl_some h74).2.1) ?_
                  refine S.q rfl rfl rfl (wanted_none rfl) (r_load ta3 rfl (fun w hw => cell_0 (Rd.flat ((rd_sl (i := 1) rfl) w hw) (rdl_some h74).2.2) rfl)) ?_
                  refine S.q rfl rfl rfl (wanted_none rfl) (r_move rfl) ?_
                  refine S.q rfl rfl rfl (wanted_none rfl) (r_move rfl) ?_
                  refine S.q rfl rfl rfl (wanted_none rfl) (r_move rfl) ?_
                  refine S.q rfl rfl rfl (wanted_none rfl) (r_indexAddrS Try.underlying23 ti3 rfl hl_w7r rfl (rdl_some h79).1 (rdl_some h79).2.1) ?_
                  refine S.q rfl rfl rfl (wanted_none rfl) (r_load ta3 rfl (fun w hw => cell_0 (Rd.flat ((rd_sl (i := 2) rfl) w hw) (rdl_some h79).2.2) rfl)) ?_
                  refine S.q rfl rfl rfl (wanted_none rfl) (r_indexAddrS Try.underlying23 ti3 rfl hl_w5rr rfl (rdl_some h81).1 (rdl_some h81).2.1) ?_
                  refine S.q rfl rfl rfl (wanted_none rfl) (r_load ta3 rfl (fun w hw => cell_0 (Rd.flat ((rd_sl (i := 3) rfl) w hw) (rdl_some h81).2.2) rfl)) ?_
                  refine S.q rfl rfl rfl (wanted_none rfl) (r_add rfl rfl) ?_
                  refine S.q rfl rfl rfl (wanted_none rfl) (r_indexAddrS Try.underlying23 ti3 rfl hl_w5rr rfl (rdl_some h84).1 (rdl_some h84).2.1) ?_
                  refine S.nil ?_
                  refine F.ef0 rfl rfl (wanted_none rfl) (d_storeE (i := 3) (x1 := w64 (t81 + 1)) ti3 rfl rfl rfl (rdl_some h84) rfl) ?_
                  rintro _ _ ⟨rfl, rfl⟩
                  refine F.nil ?_
                  refine Nrm.seq ?_
                  obtain ⟨t88, h88, hE_4⟩ := bind_some hE_4
                  obtain ⟨hs91, hE_4⟩ := ck hE_4
                  refine Tri.reg (l := [0, 1, 2, 3, 4, 5, 6, 7]) rfl ?_
                  refine F.q rfl rfl rfl (wanted_none rfl) (r_move rfl) ?_
                  refine F.q rfl rfl rfl (wanted_none rfl) (r_move rfl) ?_
                  refine F.q rfl rfl rfl (wanted_none rfl) (r_move rfl) ?_
                  refine F.q rfl rfl rfl (wanted_none rfl) (r_indexAddrS Try.underlying23 ti3 rfl hl_v56_2 rfl (rdl_some h88).1 (rdl_some h88).2.1) ?_
                  refine F.q rfl rfl rfl (wanted_none rfl) (r_load ta3 rfl (fun w hw => cell_0 (Rd.flat ((rd_sl (i := 1) rfl) w hw) (rdl_some h88).2.2) rfl)) ?_
                  refine F.m rfl rfl rfl (wanted_none rfl) (m_buildF (l := ([t88] : List (Int))) Try.underlying23 ti3 rfl rfl rfl rfl rfl) ?_
                  rintro v90_1 _ ⟨S90_1, hl_v90_1, rfl⟩
                  refine F.ef rfl rfl rfl (wanted_none rfl) (d_append (i := 3) Try.underlying23 Try.underlying23 ti3 rfl (by decide) rfl rfl rfl (rd_sl (i := 0) rfl) hs91) ?_
                  rintro v91_1 _ ⟨S91_1, rfl, hl_v91_1⟩
                  refine F.q rfl rfl rfl (wanted_none rfl) (r_assign rfl) ?_
                  refine F.nil ?_
                  cases hE_4
                  refine Nrm.only [2, 5, 7, 8, 9, 10] rfl ?_
                  refine Nrm.pick [1, 4, 3, 2] rfl rfl ?_
                  exact hj_1 _ _ ⟨w5rr, T5rr, v91_1, S91_1, (len_set hl_w5rr), hl_v91_1, rfl, rfl⟩
                · replace hE_4 := if_ff g_4 hE_4
                  refine Tri.skip ?_
                  cases hE_4
                  refine Nrm.only [2, 5, 7, 8, 9, 10] rfl ?_
                  refine Nrm.pick [0, 3, 2, 1] rfl rfl ?_
                  exact hj_1 _ _ ⟨w5rr, T5rr, w7r, T7r, hl_w5rr, hl_w7r, rfl, rfl⟩
            · replace hE_3 := if_ff g_3 hE_3
              refine Tri.exit ?_
              refine Exi.then ?_
              refine Exi.then ?_
              refine Exi.same ?_
              cases hE_3
              refine Nrm.block ?_
              refine Nrm.seq ?_
              refine Tri.reg (l := [0, 1, 2]) rfl ?_
              refine F.q rfl rfl rfl (wanted_none rfl) (r_move rfl) ?_
              refine F.q rfl rfl rfl (wanted_none rfl) (r_add rfl rfl) ?_
              refine F.q rfl rfl rfl (wanted_none rfl) (r_assign rfl) ?_
              refine F.nil ?_
              refine Nrm.round ?_
              refine Rnd.only [2, 5, 7, 8] rfl ?_
              refine Rnd.pick [0, 2, 3] rfl rfl ?_
              exact ih_2 _ _ ⟨x5rr, x7r, w64 (x8 + 1), w5rr, T5rr, w7r, T7r, hE_2, hl_w5rr, hl_w7r, rfl, rfl⟩
        · replace hE_2 := if_ff g_2 hE_2
          refine Tri.exit ?_
          refine Exi.then ?_
          refine Exi.then ?_
          refine Exi.same ?_
          cases hE_2
          refine Nrm.seq ?_
          refine Tri.seq ?_
          refine Tri.reg (l := [0, 1]) rfl ?_
          refine F.q rfl rfl rfl (wanted_none rfl) (r_move rfl) ?_
          refine F.q rfl rfl rfl (wanted_none rfl) (r_assign rfl) ?_
          refine F.nil ?_
          refine Nrm.seq ?_
          refine Tri.ret ?_
          cases h
          exact Rtn.body (.tmp rfl .nil) (fun w hw => ⟨_, _, rfl, ⟨T5r, hl_w5r, rfl⟩, Sep.pick (is := [2]) rfl rfl hw⟩)

end Go.Proofs

/- loop.example/g01158/spec.l11Lost -/
namespace Go.Proofs
open Go Go.Ga
set_option linter.unusedVariables false
set_option maxRecDepth 100000
set_option maxHeartbeats 4000000
def spec_l11Lost.l0 (k : Nat) (a1 : List Bool) (t13 : List Int) : Nat → (List (Int)) → Int → Option ((List (Int)))
  | 0, _, _ => none
  | n + 1, x7, x9 => (if (decide (x9 < (t13.length : Int))) = true then ((rdl t13 x9).bind fun t22 => (if (decide (t22 ≥ 0)) = true then (rdl a1 x9).bind fun t28 => some (!t28) else some false)).bind fun y31 => ((if y31 = true then if (x7 ++ ([x9] : List (Int))).length < 1099511627776 then some (x7 ++ ([x9] : List (Int))) else none else some x7)).bind fun y7 => spec_l11Lost.l0 k a1 t13 n y7 (w64 (x9 + 1)) else some x7)

def spec_l11Lost.f (k : Nat) (a0_0 : Int) (a0_1 : List (Int × Int × Int)) (a0_2 : List Int) (a0_3 : List Int) (a1 : List Bool) (a2 : Int) : Option ((List Int)) := (spec_l11Spread.f k a0_0 a0_1 a0_2 a0_3 a2).bind fun t13 => (spec_l11Lost.l0 k a1 t13 k ([] : List (Int)) 0).bind fun x7 => some x7

theorem spec_l11Lost.ok {k : Nat}  {a0_0 : Int} {a0_1 : List (Int × Int × Int)} {a0_2 : List Int} {a0_3 : List Int} {a1 : List Bool} {a2 : Int} {r0 : List Int} (h : spec_l11Lost.f k a0_0 a0_1 a0_2 a0_3 a1 a2 = some r0) (w : World) {va0_1 : Value} {va0_2 : Value} {va0_3 : Value} {va1 : Value} (hr_a0_1 : Rd w va0_1 a0_1) (hr_a0_2 : Rd w va0_2 a0_2) (hr_a0_3 : Rd w va0_3 a0_3) (hr_a1 : Rd w va1 a1) :
    Calls Try.prog 54 ([.agg ([.int .i64 a0_0, va0_1, va0_2, va0_3].toArray), va1, .int .i64 a2] : List Value).toArray w (Post (fun u ns => ∃ (Sr0 : Nat → Prop), SlLen u r0.length ∧ ns = [R.sl Sr0 u r0]) w) := by
  unfold spec_l11Lost.f at h
  have hl_va0_1 := hr_a0_1.len
  have hl_va0_2 := hr_a0_2.len
  have hl_va0_3 := hr_a0_3.len
  have hl_va1 := hr_a1.len
  refine Calls.of_tri (N := 37) Try.func54 rfl rfl rfl (Sep.nil (M := noM)) ?_
  refine Tri.seq ?_
  refine Tri.reg (l := [0, 1]) rfl ?_
  refine F.m rfl rfl rfl (wanted_none rfl) (m_boxG rfl rfl) ?_
  rintro _ _ ⟨b3_1, rfl, rfl⟩
  refine F.q rfl rfl rfl (wanted_none rfl) (r_assign rfl) ?_
  refine F.nil ?_
  refine Nrm.seq ?_
  refine Tri.seq ?_
  obtain ⟨t13, h13, h⟩ := bind_some h
  refine Tri.reg (l := [0, 1, 2, 3, 4, 5]) rfl ?_
  refine F.m rfl rfl rfl (wanted_none rfl) (m_build0 (α := Int) Try.underlying23 ti3) ?_
  rintro v10_1 _ ⟨S10_1, hl_v10_1, rfl⟩
  refine F.q rfl rfl rfl (wanted_none rfl) (r_loadA ta33 ti33 rfl rfl (fun w hw => (box_cells (i := 1) rfl w hw))) ?_
  refine F.q rfl rfl rfl (wanted_none rfl) (r_move rfl) ?_
  refine F.m rfl rfl rfl (wanted_none rfl) (m_callF (xs := _) rfl ok90 rfl rfl (fun w hw => spec_l11Spread.ok h13 w ((fun _ hw => hr_a0_1.sep hw) w hw) ((fun _ hw => hr_a0_2.sep hw) w hw) ((fun _ hw => hr_a0_3.sep hw) w hw))) ?_
  rintro v13_1 _ ⟨_, ⟨S13_1, hl_v13_1, rfl⟩, rfl⟩
  refine F.q rfl rfl rfl (wanted_none rfl) (r_assign rfl) ?_
  refine F.q rfl rfl rfl (wanted_none rfl) (r_assign rfl) ?_
  refine F.nil ?_
  refine Nrm.seq ?_
  refine Tri.seq ?_
  refine Tri.seq ?_
  refine Tri.reg (l := [0]) rfl ?_
  refine F.q rfl rfl rfl (wanted_none rfl) (r_assign rfl) ?_
  refine F.nil ?_
  refine Nrm.seq ?_
  obtain ⟨x7, hE_1, h⟩ := bind_some h
  refine Tri.block ?_
  refine Tri.only [1, 7, 8, 9] rfl ?_
  refine Tri.pick [0, 1] rfl rfl ?_
  refine Tri.rounds (fun n e' C' => ∃ (x7' : List (Int)) (x9' : Int) (w7 : Value) (T7 : Nat → Prop), spec_l11Lost.l0 k a1 t13 n x7' x9' = some x7 ∧ SlLen w7 (x7').length ∧ e' = [(1, va1), (7, w7), (8, v13_1), (9, .int .i64 x9')] ∧ C' = Sep w noM [R.sl S13_1 v13_1 (t13 : List (Int)), R.sl T7 w7 (x7' : List (Int))]) k ?_ ?_ ?_
  · exact ⟨([] : List (Int)), 0, v10_1, S10_1, hE_1, hl_v10_1, rfl, rfl⟩
  · rintro _ _ ⟨_, _, _, _, hE_1, _⟩
    rw [spec_l11Lost.l0.eq_1] at hE_1; cases hE_1
  · rintro n_1 _ _ ⟨x7, x9, w7, T7, hE_1, hl_w7, rfl, rfl⟩ ih_1
    rw [spec_l11Lost.l0.eq_2] at hE_1
    refine Tri.seq ?_
    refine Tri.seq ?_
    refine Tri.reg (l := [0, 1, 2, 3]) rfl ?_
    refine F.q rfl rfl rfl (wanted_none rfl) (r_move rfl) ?_
    refine F.q rfl rfl rfl (wanted_none rfl) (r_move rfl) ?_
    refine F.q rfl rfl rfl (wanted_none rfl) (r_len Try.underlying23 rfl hl_v13_1) ?_
    refine F.q rfl rfl rfl (wanted_none rfl) (r_lss rfl rfl) ?_
    refine F.nil ?_
    refine Nrm.seq ?_
    refine Tri.cond (b := decide (x9 < (t13.length : Int))) rfl (fun g_1 => ?_) (fun g_1 => ?_)
    · replace hE_1 := if_tt g_1 hE_1
      refine Tri.skip ?_
      refine Nrm.seq ?_
      refine Tri.seq ?_
      refine Tri.block ?_
      refine Tri.seq ?_
      obtain ⟨y31, hE_2, hE_1⟩ := bind_some hE_1
      refine Tri.cut (fun e' C' => e' = [(1, va1), (7, w7), (8, v13_1), (9, .int .i64 x9), (31, .bool y31)] ∧ C' = Sep w noM [R.sl S13_1 v13_1 (t13 : List (Int)), R.sl T7 w7 (x7 : List (Int))]) ?_ (fun hj_1 => ?_)
      · rintro _ _ ⟨rfl, rfl⟩
        refine Nrm.seq ?_
        obtain ⟨y7, hE_3, hE_1⟩ := bind_some hE_1
        refine Tri.cut (fun e' C' => ∃ (v7_1 : Value) (S7_1 : Nat → Prop), SlLen v7_1 (y7).length ∧ e' = [(1, va1), (7, v7_1), (8, v13_1), (9, .int .i64 x9)] ∧ C' = Sep w noM [R.sl S7_1 v7_1 (y7 : List (Int)), R.sl S13_1 v13_1 (t13 : List (Int))]) ?_ (fun hj_2 => ?_)
        · rintro _ _ ⟨v7_1, S7_1, hl_v7_1, rfl, rfl⟩
          refine Nrm.block ?_
          refine Nrm.seq ?_
          refine Tri.reg (l := [0, 1, 2]) rfl ?_
          refine F.q rfl rfl rfl (wanted_none rfl) (r_move rfl) ?_
          refine F.q rfl rfl rfl (wanted_none rfl) (r_add rfl rfl) ?_
          refine F.q rfl rfl rfl (wanted_none rfl) (r_assign rfl) ?_
          refine F.nil ?_
          refine Nrm.round ?_
          refine Rnd.only [1, 7, 8, 9] rfl ?_
          refine Rnd.pick [1, 0] rfl rfl ?_
          exact ih_1 _ _ ⟨y7, w64 (x9 + 1), v7_1, S7_1, hE_1, hl_v7_1, rfl, rfl⟩
        · refine Tri.cond (b := y31) rfl (fun g_2 => ?_) (fun g_2 => ?_)
          · replace hE_3 := if_tt g_2 hE_3
            obtain ⟨hs35, hE_3⟩ := ck hE_3
            refine Tri.reg (l := [0, 1, 2, 3, 4]) rfl ?_
            refine F.q rfl rfl rfl (wanted_none rfl) (r_move rfl) ?_
            refine F.q rfl rfl rfl (wanted_none rfl) (r_move rfl) ?_
            refine F.m rfl rfl rfl (wanted_none rfl) (m_buildF (l := ([x9] : List (Int))) Try.underlying23 ti3 rfl rfl rfl rfl rfl) ?_
            rintro v34_1 _ ⟨S34_1, hl_v34_1, rfl⟩
            refine F.ef rfl rfl rfl (wanted_none rfl) (d_append (i := 2) Try.underlying23 Try.underlying23 ti3 rfl (by decide) rfl rfl rfl (rd_sl (i := 0) rfl) hs35) ?_
            rintro v35_1 _ ⟨S35_1, rfl, hl_v35_1⟩
            refine F.q rfl rfl rfl (wanted_none rfl) (r_assign rfl) ?_
            refine F.nil ?_
            cases hE_3
            refine Nrm.only [1, 7, 8, 9] rfl ?_
            refine Nrm.pick [2, 1] rfl rfl ?_
            exact hj_2 _ _ ⟨v35_1, S35_1, hl_v35_1, rfl, rfl⟩
          · replace hE_3 := if_ff g_2 hE_3
            refine Tri.skip ?_
            cases hE_3
            refine Nrm.only [1, 7, 8, 9] rfl ?_
            refine Nrm.pick [1, 0] rfl rfl ?_
            exact hj_2 _ _ ⟨w7, T7, hl_w7, rfl, rfl⟩
      · obtain ⟨t22, h22, hE_2⟩ := bind_some hE_2
        rcases Bool.eq_false_or_eq_true (decide (t22 ≥ 0)) with g25 | g25
        · replace hE_2 := if_tt g25 hE_2
          obtain ⟨t28, h28, hE_2⟩ := bind_some hE_2
          refine Tri.reg (l := [0, 1, 2, 3, 4, 5, 6, 7, 8, 9, 10, 11]) rfl ?_
          refine F.q rfl rfl rfl (wanted_none rfl) (r_move rfl) ?_
          refine F.q rfl rfl rfl (wanted_none rfl) (r_move rfl) ?_
          refine F.q rfl rfl rfl (wanted_none rfl) (r_indexAddrS Try.underlying23 ti3 rfl hl_v13_1 rfl (rdl_some h22).1 (rdl_some h22).2.1) ?_
          refine F.q rfl rfl rfl (wanted_none rfl) (r_load ta3 rfl (fun w hw => cell_0 (Rd.flat ((rd_sl (i := 0) rfl) w hw) (rdl_some h22).2.2) rfl)) ?_
          refine F.q rfl rfl rfl (wanted_none rfl) (r_geq rfl rfl) ?_
          refine F.q rfl rfl rfl (wanted_none rfl) (r_move rfl) ?_
          refine F.q rfl rfl rfl (wg rfl rfl rfl g25) (r_move rfl) ?_
          refine F.q rfl rfl rfl (wg rfl rfl rfl g25) (r_move rfl) ?_
          refine F.q rfl rfl rfl (wg rfl rfl rfl g25) (r_indexAddrS Try.underlying77 ti4 rfl hl_va1 rfl (rdl_some h28).1 (rdl_some h28).2.1) ?_
          refine F.q rfl rfl rfl (wg rfl rfl rfl g25) (r_load ta4 rfl (fun w hw => cell_0 (Rd.flat ((fun _ hw => hr_a1.sep hw) w hw) (rdl_some h28).2.2) rfl)) ?_
          refine F.q rfl rfl rfl (wg rfl rfl rfl g25) (r_not rfl) ?_
          refine F.q rfl rfl rfl (wanted_none rfl) (r_pick rfl rfl g25) ?_
          refine F.nil ?_
          cases hE_2
          refine Nrm.only [1, 7, 8, 9, 31] rfl ?_
          refine Nrm.pick [0, 1] rfl rfl ?_
          exact hj_1 _ _ ⟨rfl, rfl⟩
        · replace hE_2 := if_ff g25 hE_2
          refine Tri.reg (l := [0, 1, 2, 3, 4, 5, 6, 7, 8, 9, 10, 11]) rfl ?_
          refine F.q rfl rfl rfl (wanted_none rfl) (r_move rfl) ?_
          refine F.q rfl rfl rfl (wanted_none rfl) (r_move rfl) ?_
          refine F.q rfl rfl rfl (wanted_none rfl) (r_indexAddrS Try.underlying23 ti3 rfl hl_v13_1 rfl (rdl_some h22).1 (rdl_some h22).2.1) ?_
          refine F.q rfl rfl rfl (wanted_none rfl) (r_load ta3 rfl (fun w hw => cell_0 (Rd.flat ((rd_sl (i := 0) rfl) w hw) (rdl_some h22).2.2) rfl)) ?_
          refine F.q rfl rfl rfl (wanted_none rfl) (r_geq rfl rfl) ?_
          refine F.q rfl rfl rfl (wanted_none rfl) (r_move rfl) ?_
          refine F.sk rfl rfl rfl (wf rfl rfl rfl g25) ?_
          refine F.sk rfl rfl rfl (wf rfl rfl rfl g25) ?_
          refine F.sk rfl rfl rfl (wf rfl rfl rfl g25) ?_
          refine F.sk rfl rfl rfl (wf rfl rfl rfl g25) ?_
          refine F.sk rfl rfl rfl (wf rfl rfl rfl g25) ?_
          refine F.q rfl rfl rfl (wanted_none rfl) (r_pickf rfl rfl g25) ?_
          refine F.nil ?_
          cases hE_2
          refine Nrm.only [1, 7, 8, 9, 31] rfl ?_
          refine Nrm.pick [0, 1] rfl rfl ?_
          exact hj_1 _ _ ⟨rfl, rfl⟩
    · replace hE_1 := if_ff g_1 hE_1
      refine Tri.exit ?_
      refine Exi.then ?_
      refine Exi.then ?_
      refine Exi.same ?_
      cases hE_1
      refine Nrm.seq ?_
      refine Tri.seq ?_
      refine Tri.reg (l := [0, 1]) rfl ?_
      refine F.q rfl rfl rfl (wanted_none rfl) (r_move rfl) ?_
      refine F.q rfl rfl rfl (wanted_none rfl) (r_assign rfl) ?_
      refine F.nil ?_
      refine Nrm.seq ?_
      refine Tri.ret ?_
      cases h
      exact Rtn.body (.tmp rfl .nil) (fun w hw => ⟨_, _, rfl, ⟨T7, hl_w7, rfl⟩, Sep.pick (is := [1]) rfl rfl hw⟩)

end Go.Proofs

/- loop.example/g01158/spec.TrapFreeSets -/
namespace Go.Proofs
open Go Go.Ga
set_option linter.unusedVariables false
set_option maxRecDepth 100000
set_option maxHeartbeats 4000000
def spec_TrapFreeSets.l0 (k : Nat) (a0_0 : Int) (a0_1 : List (Int × Int × Int)) (a0_2 : List Int) (a0_3 : List Int) (t13 : List Bool) : Nat → (List (Int)) → Int → Option ((List (Int)))
  | 0, _, _ => none
  | n + 1, x4, x6 => (if (decide (x6 < 64)) = true then (spec_l11Lost.f k a0_0 a0_1 a0_2 a0_3 t13 x6).bind fun t21 => ((if ((t21.length : Int) == 0) = true then if (x4 ++ ([x6] : List (Int))).length < 1099511627776 then some (x4 ++ ([x6] : List (Int))) else none else some x4)).bind fun y4 => spec_TrapFreeSets.l0 k a0_0 a0_1 a0_2 a0_3 t13 n y4 (w64 (x6 + 1)) else some x4)

def spec_TrapFreeSets.f (k : Nat) (a0_0 : Int) (a0_1 : List (Int × Int × Int)) (a0_2 : List Int) (a0_3 : List Int) : Option ((List Int) × Bool) := (spec_l11Trap.f k a0_0 a0_1 a0_2 a0_3).bind fun t9 => (if (!t9) = true then some (([] : List (Int)), false) else (spec_l11Good.f k a0_0 a0_1 a0_2 a0_3).bind fun t13 => (spec_TrapFreeSets.l0 k a0_0 a0_1 a0_2 a0_3 t13 k ([] : List (Int)) 0).bind fun x4 => some (x4, true))

theorem spec_TrapFreeSets.ok {k : Nat}  {a0_0 : Int} {a0_1 : List (Int × Int × Int)} {a0_2 : List Int} {a0_3 : List Int} {r0 : List Int} {r1 : Bool} (h : spec_TrapFreeSets.f k a0_0 a0_1 a0_2 a0_3 = some (r0, r1)) (w : World) {va0_1 : Value} {va0_2 : Value} {va0_3 : Value} (hr_a0_1 : Rd w va0_1 a0_1) (hr_a0_2 : Rd w va0_2 a0_2) (hr_a0_3 : Rd w va0_3 a0_3) :
    Calls Try.prog 13 ([.agg ([.int .i64 a0_0, va0_1, va0_2, va0_3].toArray)] : List Value).toArray w (Post (fun u ns => ∃ (ur0 : Value) (Sr0 : Nat → Prop), u = .tuple #[ur0, .bool r1] ∧ SlLen ur0 r0.length ∧ ns = [R.sl Sr0 ur0 r0]) w) := by
  unfold spec_TrapFreeSets.f at h
  have hl_va0_1 := hr_a0_1.len
  have hl_va0_2 := hr_a0_2.len
  have hl_va0_3 := hr_a0_3.len
  refine Calls.of_tri (N := 29) Try.func13 rfl rfl rfl (Sep.nil (M := noM)) ?_
  refine Tri.seq ?_
  refine Tri.reg (l := [0, 1, 2]) rfl ?_
  refine F.m rfl rfl rfl (wanted_none rfl) (m_boxG rfl rfl) ?_
  rintro _ _ ⟨b1_1, rfl, rfl⟩
  refine F.q rfl rfl rfl (wanted_none rfl) (r_assign rfl) ?_
  refine F.q rfl rfl rfl (wanted_none rfl) (r_assign rfl) ?_
  refine F.nil ?_
  refine Nrm.seq ?_
  refine Tri.seq ?_
  refine Tri.reg (l := [0, 1]) rfl ?_
  refine F.m rfl rfl rfl (wanted_none rfl) (m_build0 (α := Int) Try.underlying23 ti3) ?_
  rintro v7_1 _ ⟨S7_1, hl_v7_1, rfl⟩
  refine F.q rfl rfl rfl (wanted_none rfl) (r_assign rfl) ?_
  refine F.nil ?_
  refine Nrm.seq ?_
  refine Tri.seq ?_
  refine Tri.seq ?_
  obtain ⟨t9, h9, h⟩ := bind_some h
  refine Tri.reg (l := [0, 1, 2]) rfl ?_
  refine F.q rfl rfl rfl (wanted_none rfl) (r_loadA ta33 ti33 rfl rfl (fun w hw => (box_cells (i := 1) rfl w hw))) ?_
  refine F.qc rfl rfl rfl (wanted_none rfl) (q_callF (xs := _) rfl ok52 rfl rfl (fun w hw => spec_l11Trap.ok h9 w ((fun _ hw => hr_a0_1.sep hw) w hw) ((fun _ hw => hr_a0_2.sep hw) w hw) ((fun _ hw => hr_a0_3.sep hw) w hw))) ?_
  refine F.q rfl rfl rfl (wanted_none rfl) (r_not rfl) ?_
  refine F.nil ?_
  refine Nrm.seq ?_
  refine Tri.cond (b := !t9) rfl (fun g_1 => ?_) (fun g_1 => ?_)
  · replace h := if_tt g_1 h
    refine Tri.seq ?_
    refine Tri.reg (l := [0, 1, 2]) rfl ?_
    refine F.q rfl rfl rfl (wanted_none rfl) (r_move rfl) ?_
    refine F.q rfl rfl rfl (wanted_none rfl) (r_assign rfl) ?_
    refine F.q rfl rfl rfl (wanted_none rfl) (r_assign rfl) ?_
    refine F.nil ?_
    refine Nrm.seq ?_
    refine Tri.ret ?_
    refine Rtn.then ?_
    cases h
    exact Rtn.body (.tmp rfl (.tmp rfl .nil)) (fun w hw => ⟨_, _, rfl, ⟨v7_1, S7_1, rfl, hl_v7_1, rfl⟩, Sep.pick (is := [0]) rfl rfl hw⟩)
  · replace h := if_ff g_1 h
    refine Tri.skip ?_
    refine Nrm.seq ?_
    refine Tri.seq ?_
    obtain ⟨t13, h13, h⟩ := bind_some h
    refine Tri.reg (l := [0, 1, 2]) rfl ?_
    refine F.q rfl rfl rfl (wanted_none rfl) (r_loadA ta33 ti33 rfl rfl (fun w hw => (box_cells (i := 1) rfl w hw))) ?_
    refine F.m rfl rfl rfl (wanted_none rfl) (m_callF (xs := _) rfl ok53 rfl rfl (fun w hw => spec_l11Good.ok h13 w ((fun _ hw => hr_a0_1.sep hw) w hw) ((fun _ hw => hr_a0_2.sep hw) w hw) ((fun _ hw => hr_a0_3.sep hw) w hw))) ?_
    rintro v13_1 _ ⟨_, ⟨S13_1, hl_v13_1, rfl⟩, rfl⟩
    refine F.q rfl rfl rfl (wanted_none rfl) (r_assign rfl) ?_
    refine F.nil ?_
    refine Nrm.seq ?_
    refine Tri.seq ?_
    refine Tri.seq ?_
    refine Tri.reg (l := [0]) rfl ?_
    refine F.q rfl rfl rfl (wanted_none rfl) (r_assign rfl) ?_
    refine F.nil ?_
    refine Nrm.seq ?_
    obtain ⟨x4, hE_1, h⟩ := bind_some h
    refine Tri.block ?_
    refine Tri.only [1, 4, 5, 6] rfl ?_
    refine Tri.pick [2, 0, 1] rfl rfl ?_
    refine Tri.rounds (fun n e' C' => ∃ (x4' : List (Int)) (x6' : Int) (w4 : Value) (T4 : Nat → Prop), spec_TrapFreeSets.l0 k a0_0 a0_1 a0_2 a0_3 t13 n x4' x6' = some x4 ∧ SlLen w4 (x4').length ∧ e' = [(1, .pointer (some ⟨b1_1, 0, none⟩)), (4, w4), (5, v13_1), (6, .int .i64 x6')] ∧ C' = Sep w noM [R.box b1_1 33 [.int .i64 a0_0, va0_1, va0_2, va0_3], R.sl S13_1 v13_1 (t13 : List (Bool)), R.sl T4 w4 (x4' : List (Int))]) k ?_ ?_ ?_
    · exact ⟨([] : List (Int)), 0, v7_1, S7_1, hE_1, hl_v7_1, rfl, rfl⟩
    · rintro _ _ ⟨_, _, _, _, hE_1, _⟩
      rw [spec_TrapFreeSets.l0.eq_1] at hE_1; cases hE_1
    · rintro n_1 _ _ ⟨x4, x6, w4, T4, hE_1, hl_w4, rfl, rfl⟩ ih_1
      rw [spec_TrapFreeSets.l0.eq_2] at hE_1
      refine Tri.seq ?_
      refine Tri.seq ?_
      refine Tri.reg (l := [0, 1]) rfl ?_
      refine F.q rfl rfl rfl (wanted_none rfl) (r_move rfl) ?_
      refine F.q rfl rfl rfl (wanted_none rfl) (r_lss rfl rfl) ?_
      refine F.nil ?_
      refine Nrm.seq ?_
      refine Tri.cond (b := decide (x6 < 64)) rfl (fun g_2 => ?_) (fun g_2 => ?_)
      · replace hE_1 := if_tt g_2 hE_1
        refine Tri.skip ?_
        refine Nrm.seq ?_
        refine Tri.seq ?_
        refine Tri.block ?_
        refine Tri.seq ?_
        obtain ⟨t21, h21, hE_1⟩ := bind_some hE_1
        refine Tri.reg (l := [0, 1, 2, 3, 4, 5]) rfl ?_
        refine F.q rfl rfl rfl (wanted_none rfl) (r_loadA ta33 ti33 rfl rfl (fun w hw => (box_cells (i := 0) rfl w hw))) ?_
        refine F.q rfl rfl rfl (wanted_none rfl) (r_move rfl) ?_
        refine F.q rfl rfl rfl (wanted_none rfl) (r_move rfl) ?_
        refine F.m rfl rfl rfl (wanted_none rfl) (m_callF (xs := _) rfl ok54 rfl rfl (fun w hw => spec_l11Lost.ok h21 w ((fun _ hw => hr_a0_1.sep hw) w hw) ((fun _ hw => hr_a0_2.sep hw) w hw) ((fun _ hw => hr_a0_3.sep hw) w hw) ((rd_sl (i := 1) rfl) w hw))) ?_
        rintro v21_1 _ ⟨_, ⟨S21_1, hl_v21_1, rfl⟩, rfl⟩
        refine F.q rfl rfl rfl (wanted_none rfl) (r_len Try.underlying23 rfl hl_v21_1) ?_
        refine F.q rfl rfl rfl (wanted_none rfl) (r_eql rfl rfl) ?_
        refine F.nil ?_
        refine Nrm.seq ?_
        obtain ⟨y4, hE_2, hE_1⟩ := bind_some hE_1
        refine Tri.cut (fun e' C' => ∃ (v4_1 : Value) (S4_1 : Nat → Prop), SlLen v4_1 (y4).length ∧ e' = [(1, .pointer (some ⟨b1_1, 0, none⟩)), (4, v4_1), (5, v13_1), (6, .int .i64 x6)] ∧ C' = Sep w noM [R.box b1_1 33 [.int .i64 a0_0, va0_1, va0_2, va0_3], R.sl S4_1 v4_1 (y4 : List (Int)), R.sl S13_1 v13_1 (t13 : List (Bool))]) ?_ (fun hj_1 => ?_)
        · rintro _ _ ⟨v4_1, S4_1, hl_v4_1, rfl, rfl⟩
          refine Nrm.block ?_
          refine Nrm.seq ?_
          refine Tri.reg (l := [0, 1, 2]) rfl ?_
          refine F.q rfl rfl rfl (wanted_none rfl) (r_move rfl) ?_
          refine F.q rfl rfl rfl (wanted_none rfl) (r_add rfl rfl) ?_
          refine F.q rfl rfl rfl (wanted_none rfl) (r_assign rfl) ?_
          refine F.nil ?_
          refine Nrm.round ?_
          refine Rnd.only [1, 4, 5, 6] rfl ?_
          refine Rnd.pick [0, 2, 1] rfl rfl ?_
          exact ih_1 _ _ ⟨y4, w64 (x6 + 1), v4_1, S4_1, hE_1, hl_v4_1, rfl, rfl⟩
        · refine Tri.cond (b := (t21.length : Int) == 0) rfl (fun g_3 => ?_) (fun g_3 => ?_)
          · replace hE_2 := if_tt g_3 hE_2
            obtain ⟨hs27, hE_2⟩ := ck hE_2
            refine Tri.reg (l := [0, 1, 2, 3, 4]) rfl ?_
            refine F.q rfl rfl rfl (wanted_none rfl) (r_move rfl) ?_
            refine F.q rfl rfl rfl (wanted_none rfl) (r_move rfl) ?_
            refine F.m rfl rfl rfl (wanted_none rfl) (m_buildF (l := ([x6] : List (Int))) Try.underlying23 ti3 rfl rfl rfl rfl rfl) ?_
            rintro v26_1 _ ⟨S26_1, hl_v26_1, rfl⟩
            refine F.ef rfl rfl rfl (wanted_none rfl) (d_append (i := 4) Try.underlying23 Try.underlying23 ti3 rfl (by decide) rfl rfl rfl (rd_sl (i := 0) rfl) hs27) ?_
            rintro v27_1 _ ⟨S27_1, rfl, hl_v27_1⟩
            refine F.q rfl rfl rfl (wanted_none rfl) (r_assign rfl) ?_
            refine F.nil ?_
            cases hE_2
            refine Nrm.only [1, 4, 5, 6] rfl ?_
            refine Nrm.pick [2, 4, 3] rfl rfl ?_
            exact hj_1 _ _ ⟨v27_1, S27_1, hl_v27_1, rfl, rfl⟩
          · replace hE_2 := if_ff g_3 hE_2
            refine Tri.skip ?_
            cases hE_2
            refine Nrm.only [1, 4, 5, 6] rfl ?_
            refine Nrm.pick [1, 3, 2] rfl rfl ?_
            exact hj_1 _ _ ⟨w4, T4, hl_w4, rfl, rfl⟩
      · replace hE_1 := if_ff g_2 hE_1
        refine Tri.exit ?_
        refine Exi.then ?_
        refine Exi.then ?_
        refine Exi.same ?_
        cases hE_1
        refine Nrm.seq ?_
        refine Tri.seq ?_
        refine Tri.reg (l := [0, 1, 2]) rfl ?_
        refine F.q rfl rfl rfl (wanted_none rfl) (r_move rfl) ?_
        refine F.q rfl rfl rfl (wanted_none rfl) (r_assign rfl) ?_
        refine F.q rfl rfl rfl (wanted_none rfl) (r_assign rfl) ?_
        refine F.nil ?_
        refine Nrm.seq ?_
        refine Tri.ret ?_
        cases h
        exact Rtn.body (.tmp rfl (.tmp rfl .nil)) (fun w hw => ⟨_, _, rfl, ⟨w4, T4, rfl, hl_w4, rfl⟩, Sep.pick (is := [2]) rfl rfl hw⟩)

end Go.Proofs

/- loop.example/g01158/laws.toIntS -/

namespace Go.Proofs
open Go Go.Ga
set_option linter.unusedVariables false
set_option maxRecDepth 100000
set_option maxHeartbeats 4000000
def laws_toIntS.l0 (k : Nat) (a0 : List Int) : Nat → (List (Int)) → Int → Option ((List (Int)))
  | 0, _, _ => none
  | n + 1, x3, x4 => (if (decide (x4 < (a0.length : Int))) = true then (rdl a0 x4).bind fun t18 => (rdl x3 x4).bind fun t20 => laws_toIntS.l0 k a0 n (x3.set x4.toNat t18) (w64 (x4 + 1)) else some x3)

def laws_toIntS.f (k : Nat) (a0 : List Int) : Option ((List Int)) := if 0 ≤ (a0.length : Int) ∧ (a0.length : Int) < 1099511627776 then (laws_toIntS.l0 k a0 k (List.replicate ((a0.length : Int)).toNat (0 : Int)) 0).bind fun x3 => some x3 else none

theorem laws_toIntS.ok {k : Nat}  {a0 : List Int} {r0 : List Int} (h : laws_toIntS.f k a0 = some r0) (w : World) {va0 : Value} (hr_a0 : Rd w va0 a0) :
    Calls Try.prog 24 ([va0] : List Value).toArray w (Post (fun u ns => ∃ (Sr0 : Nat → Prop), SlLen u r0.length ∧ ns = [R.sl Sr0 u r0]) w) := by
  unfold laws_toIntS.f at h
  have hl_va0 := hr_a0.len
  refine Calls.of_tri (N := 22) Try.func24 rfl rfl rfl (Sep.nil (M := noM)) ?_
  refine Tri.seq ?_
  refine Tri.reg (l := [0]) rfl ?_
  refine F.q rfl rfl rfl (wanted_none rfl) (r_assign rfl) ?_
  refine F.nil ?_
  refine Nrm.seq ?_
  refine Tri.seq ?_
  obtain ⟨hm7, h⟩ := ck h
  refine Tri.reg (l := [0, 1, 2, 3]) rfl ?_
  refine F.q rfl rfl rfl (wanted_none rfl) (r_move rfl) ?_
  refine F.q rfl rfl rfl (wanted_none rfl) (r_len Try.underlying23 rfl hl_va0) ?_
  refine F.m rfl rfl rfl (wanted_none rfl) (m_make (x0 := (0 : Int)) Try.underlying23 ti3 rfl rfl rfl hm7.1 hm7.2 (by decide)) ?_
  rintro v7_1 _ ⟨S7_1, hl_v7_1, rfl⟩
  refine F.q rfl rfl rfl (wanted_none rfl) (r_assign rfl) ?_
  refine F.nil ?_
  refine Nrm.seq ?_
  refine Tri.seq ?_
  refine Tri.seq ?_
  refine Tri.reg (l := [0]) rfl ?_
  refine F.q rfl rfl rfl (wanted_none rfl) (r_assign rfl) ?_
  refine F.nil ?_
  refine Nrm.seq ?_
  obtain ⟨x3, hE_1, h⟩ := bind_some h
  refine Tri.block ?_
  refine Tri.only [0, 3, 4] rfl ?_
  refine Tri.pick [0] rfl rfl ?_
  refine Tri.rounds (fun n e' C' => ∃ (x3' : List (Int)) (x4' : Int), laws_toIntS.l0 k a0 n x3' x4' = some x3 ∧ SlLen v7_1 (x3').length ∧ e' = [(0, va0), (3, v7_1), (4, .int .i64 x4')] ∧ C' = Sep w noM [R.sl S7_1 v7_1 (x3' : List (Int))]) k ?_ ?_ ?_
  · exact ⟨List.replicate ((a0.length : Int)).toNat (0 : Int), 0, hE_1, hl_v7_1, rfl, rfl⟩
  · rintro _ _ ⟨_, _, hE_1, _⟩
    rw [laws_toIntS.l0.eq_1] at hE_1; cases hE_1
  · rintro n_1 _ _ ⟨x3, x4, hE_1, hl_x3, rfl, rfl⟩ ih_1
    rw [laws_toIntS.l0.eq_2] at hE_1
    refine Tri.seq ?_
    refine Tri.seq ?_
    refine Tri.reg (l := [0, 1, 2, 3]) rfl ?_
    refine F.q rfl rfl rfl (wanted_none rfl) (r_move rfl) ?_
    refine F.q rfl rfl rfl (wanted_none rfl) (r_move rfl) ?_
    refine F.q rfl rfl rfl (wanted_none rfl) (r_len Try.underlying23 rfl hl_va0) ?_
    refine F.q rfl rfl rfl (wanted_none rfl) (r_lss rfl rfl) ?_
    refine F.nil ?_
    refine Nrm.seq ?_
    refine Tri.cond (b := decide (x4 < (a0.length : Int))) rfl (fun g_1 => ?_) (fun g_1 => ?_)
    · replace hE_1 := if_tt g_1 hE_1
      refine Tri.skip ?_
      refine Nrm.seq ?_
      refine Tri.seq ?_
      refine Tri.block ?_
      obtain ⟨t18, h18, hE_1⟩ := bind_some hE_1
      obtain ⟨t20, h20, hE_1⟩ := bind_some hE_1
      refine Tri.reg (l := [0, 1, 2, 3, 4, 5, 6, 7]) rfl ?_
      refine F.q rfl rfl rfl (wanted_none rfl) (r_move rfl) ?_
      refine F.q rfl rfl rfl (wanted_none rfl) (r_move rfl) ?_
      refine F.q rfl rfl rfl (wanted_none rfl) (r_move rfl) ?_
      refine F.q rfl rfl rfl (wanted_none rfl) (r_move rfl) ?_
      refine F.q rfl rfl rfl (wanted_none rfl) (r_indexAddrS Try.underlying23 ti3 rfl hl_va0 rfl (rdl_some h18).1 (rdl_some h18).2.1) ?_
      refine F.q rfl rfl rfl (wanted_none rfl) (r_load ta3 rfl (fun w hw => cell_0 (Rd.flat ((fun _ hw => hr_a0.sep hw) w hw) (rdl_some h18).2.2) rfl)) ?_
      refine F.q rfl rfl rfl (wanted_none rfl) (r_indexAddrS Try.underlying23 ti3 rfl hl_x3 rfl (rdl_some h20).1 (rdl_some h20).2.1) ?_
      refine F.ef0 rfl rfl (wanted_none rfl) (d_storeE (i := 0) (x1 := t18) ti3 rfl rfl rfl (rdl_some h20) rfl) ?_
      rintro _ _ ⟨rfl, rfl⟩
      refine F.nil ?_
      refine Nrm.block ?_
      refine Nrm.seq ?_
      refine Tri.reg (l := [0, 1, 2]) rfl ?_
      refine F.q rfl rfl rfl (wanted_none rfl) (r_move rfl) ?_
      refine F.q rfl rfl rfl (wanted_none rfl) (r_add rfl rfl) ?_
      refine F.q rfl rfl rfl (wanted_none rfl) (r_assign rfl) ?_
      refine F.nil ?_
      refine Nrm.round ?_
      refine Rnd.only [0, 3, 4] rfl ?_
      refine Rnd.pick [0] rfl rfl ?_
      exact ih_1 _ _ ⟨x3.set x4.toNat t18, w64 (x4 + 1), hE_1, (len_set hl_x3), rfl, rfl⟩
    · replace hE_1 := if_ff g_1 hE_1
      refine Tri.exit ?_
      refine Exi.then ?_
      refine Exi.then ?_
      refine Exi.same ?_
      cases hE_1
      refine Nrm.seq ?_
      refine Tri.seq ?_
      refine Tri.reg (l := [0, 1]) rfl ?_
      refine F.q rfl rfl rfl (wanted_none rfl) (r_move rfl) ?_
      refine F.q rfl rfl rfl (wanted_none rfl) (r_assign rfl) ?_
      refine F.nil ?_
      refine Nrm.seq ?_
      refine Tri.ret ?_
      cases h
      exact Rtn.body (.tmp rfl .nil) (fun w hw => ⟨_, _, rfl, ⟨S7_1, hl_x3, rfl⟩, Sep.pick (is := [0]) rfl rfl hw⟩)

end Go.Proofs

/- loop.example/g01158/laws.toIntA3 -/

namespace Go.Proofs
open Go Go.Ga
set_option linter.unusedVariables false
set_option maxRecDepth 100000
set_option maxHeartbeats 4000000
def laws_toIntA3.l0 (k : Nat) (a0_0 : Int) (a0_1 : Int) (a0_2 : Int) : Nat → Int → Int → Int → Int → Option (Int × Int × Int)
  | 0, _, _, _, _ => none
  | n + 1, x4, xb3_1_0, xb3_1_1, xb3_1_2 => (if (decide (x4 < 3)) = true then (rdl [a0_0, a0_1, a0_2] x4).bind fun t11 => (rdl [xb3_1_0, xb3_1_1, xb3_1_2] x4).bind fun t13 => laws_toIntA3.l0 k a0_0 a0_1 a0_2 n (w64 (x4 + 1)) (if x4 = 0 then t11 else xb3_1_0) (if x4 = 1 then t11 else xb3_1_1) (if x4 = 2 then t11 else xb3_1_2) else some (xb3_1_0, xb3_1_1, xb3_1_2))

def laws_toIntA3.f (k : Nat) (a0_0 : Int) (a0_1 : Int) (a0_2 : Int) : Option (Int × Int × Int) := (laws_toIntA3.l0 k a0_0 a0_1 a0_2 k 0 0 0 0).bind fun (xb3_1_0, xb3_1_1, xb3_1_2) => some (xb3_1_0, xb3_1_1, xb3_1_2)

theorem laws_toIntA3.ok {k : Nat}  {a0_0 : Int} {a0_1 : Int} {a0_2 : Int} {r0 : Int} {r1 : Int} {r2 : Int} (h : laws_toIntA3.f k a0_0 a0_1 a0_2 = some (r0, r1, r2)) (w : World) :
    Calls Try.prog 100 ([.agg ([.int .i64 a0_0, .int .i64 a0_1, .int .i64 a0_2].toArray)] : List Value).toArray w (fun e w' => e = .returned (.agg [.int .i64 r0, .int .i64 r1, .int .i64 r2].toArray) ∧ Ext w w') := by
  unfold laws_toIntA3.f at h
  refine Calls.of_tri (N := 15) Try.func100 rfl rfl rfl (Sep.nil (M := noM)) ?_
  refine Tri.seq ?_
  refine Tri.reg (l := [0, 1]) rfl ?_
  refine F.m rfl rfl rfl (wanted_none rfl) (m_boxG rfl rfl) ?_
  rintro _ _ ⟨b1_1, rfl, rfl⟩
  refine F.m rfl rfl rfl (wanted_none rfl) (m_alloc ti116) ?_
  rintro _ _ ⟨b2_1, rfl, rfl⟩
  refine F.nil ?_
  refine Nrm.seq ?_
  refine Tri.seq ?_
  refine Tri.reg (l := [0]) rfl ?_
  refine F.m rfl rfl rfl (wanted_none rfl) (m_alloc ti116) ?_
  rintro _ _ ⟨b3_1, rfl, rfl⟩
  refine F.nil ?_
  refine Nrm.seq ?_
  refine Tri.seq ?_
  refine Tri.seq ?_
  refine Tri.reg (l := [0]) rfl ?_
  refine F.q rfl rfl rfl (wanted_none rfl) (r_assign rfl) ?_
  refine F.nil ?_
  refine Nrm.seq ?_
  obtain ⟨⟨xb3_1_0, xb3_1_1, xb3_1_2⟩, hE_1, h⟩ := bind_some h
  refine Tri.block ?_
  refine Tri.only [1, 2, 3, 4] rfl ?_
  refine Tri.pick [0, 1, 2] rfl rfl ?_
  refine Tri.rounds (fun n e' C' => ∃ (x4' : Int) (xb3_1_0' : Int) (xb3_1_1' : Int) (xb3_1_2' : Int), laws_toIntA3.l0 k a0_0 a0_1 a0_2 n x4' xb3_1_0' xb3_1_1' xb3_1_2' = some (xb3_1_0, xb3_1_1, xb3_1_2) ∧ e' = [(1, .pointer (some ⟨b1_1, 0, none⟩)), (2, .pointer (some ⟨b2_1, 0, none⟩)), (3, .pointer (some ⟨b3_1, 0, none⟩)), (4, .int .i64 x4')] ∧ C' = Sep w noM [R.box b3_1 116 [.int .i64 xb3_1_0', .int .i64 xb3_1_1', .int .i64 xb3_1_2'], R.box b2_1 116 [.int .i64 0, .int .i64 0, .int .i64 0], R.box b1_1 116 [.int .i64 a0_0, .int .i64 a0_1, .int .i64 a0_2]]) k ?_ ?_ ?_
  · exact ⟨0, 0, 0, 0, hE_1, rfl, rfl⟩
  · rintro _ _ ⟨_, _, _, _, hE_1, _⟩
    rw [laws_toIntA3.l0.eq_1] at hE_1; cases hE_1
  · rintro n_1 _ _ ⟨x4, xb3_1_0, xb3_1_1, xb3_1_2, hE_1, rfl, rfl⟩ ih_1
    rw [laws_toIntA3.l0.eq_2] at hE_1
    refine Tri.seq ?_
    refine Tri.seq ?_
    refine Tri.reg (l := [0, 1]) rfl ?_
    refine F.q rfl rfl rfl (wanted_none rfl) (r_move rfl) ?_
    refine F.q rfl rfl rfl (wanted_none rfl) (r_lss rfl rfl) ?_
    refine F.nil ?_
    refine Nrm.seq ?_
    refine Tri.cond (b := decide (x4 < 3)) rfl (fun g_1 => ?_) (fun g_1 => ?_)
    · replace hE_1 := if_tt g_1 hE_1
      refine Tri.skip ?_
      refine Nrm.seq ?_
      refine Tri.seq ?_
      refine Tri.block ?_
      obtain ⟨t11, h11, hE_1⟩ := bind_some hE_1
      obtain ⟨t13, h13, hE_1⟩ := bind_some hE_1
      refine Tri.reg (l := [0, 1, 2, 3, 4, 5]) rfl ?_
      refine F.q rfl rfl rfl (wanted_none rfl) (r_move rfl) ?_
      refine F.q rfl rfl rfl (wanted_none rfl) (r_move rfl) ?_
      refine F.q rfl rfl rfl (wanted_none rfl) (r_indexAddrA Try.underlying116 ti3 rfl rfl (rdl_some h11).1 (rdl_some h11).2.1) ?_
      refine F.q rfl rfl rfl (wanted_none rfl) (r_load ta3 rfl (fun w hw => cell_dynB (box_cells (i := 2) rfl w hw) rfl h11)) ?_
      refine F.q rfl rfl rfl (wanted_none rfl) (r_indexAddrA Try.underlying116 ti3 rfl rfl (rdl_some h13).1 (rdl_some h13).2.1) ?_
      refine F.ef0 rfl rfl (wanted_none rfl) (d_storeDyn (i := 0) (l := [xb3_1_0, xb3_1_1, xb3_1_2]) ti3 rfl rfl rfl h13 (set3 (rdl_some h13).1 (rdl_some h13).2.1)) ?_
      rintro _ _ ⟨rfl, rfl⟩
      refine F.nil ?_
      refine Nrm.block ?_
      refine Nrm.seq ?_
      refine Tri.reg (l := [0, 1, 2]) rfl ?_
      refine F.q rfl rfl rfl (wanted_none rfl) (r_move rfl) ?_
      refine F.q rfl rfl rfl (wanted_none rfl) (r_add rfl rfl) ?_
      refine F.q rfl rfl rfl (wanted_none rfl) (r_assign rfl) ?_
      refine F.nil ?_
      refine Nrm.round ?_
      refine Rnd.only [1, 2, 3, 4] rfl ?_
      refine Rnd.pick [0, 1, 2] rfl rfl ?_
      exact ih_1 _ _ ⟨w64 (x4 + 1), if x4 = 0 then t11 else xb3_1_0, if x4 = 1 then t11 else xb3_1_1, if x4 = 2 then t11 else xb3_1_2, hE_1, rfl, rfl⟩
    · replace hE_1 := if_ff g_1 hE_1
      refine Tri.exit ?_
      refine Exi.then ?_
      refine Exi.then ?_
      refine Exi.same ?_
      cases hE_1
      refine Nrm.seq ?_
      refine Tri.seq ?_
      refine Tri.reg (l := [0, 1]) rfl ?_
      refine F.q rfl rfl rfl (wanted_none rfl) (r_loadA ta116 ti116 rfl rfl (fun w hw => (box_cells (i := 0) rfl w hw))) ?_
      refine F.ef0 rfl rfl (wanted_none rfl) (d_storeG0 (i := 1) (cs2 := [.int .i64 xb3_1_0, .int .i64 xb3_1_1, .int .i64 xb3_1_2]) ti116 rfl rfl rfl rfl rfl (Nat.le_of_ble_eq_true rfl) (lf_cons rfl (lf_cons rfl (lf_cons rfl lf_nil)))) ?_
      rintro _ _ ⟨rfl, rfl⟩
      refine F.nil ?_
      refine Nrm.seq ?_
      refine Tri.ret ?_
      cases h
      exact Rtn.body (.cell rfl ta116 ti116 rfl (fun _ hw => box_cells (i := 1) rfl _ hw) .nil) (fun w hw => ⟨rfl, hw.ext⟩)

end Go.Proofs

/- loop.example/g01158/laws.toIntA3S -/
namespace Go.Proofs
open Go Go.Ga
set_option linter.unusedVariables false
set_option maxRecDepth 100000
set_option maxHeartbeats 4000000
def laws_toIntA3S.l0 (k : Nat) (a0 : List (Int × Int × Int)) : Nat → (List (Int × Int × Int)) → Int → Option ((List (Int × Int × Int)))
  | 0, _, _ => none
  | n + 1, x3, x4 => (if (decide (x4 < (a0.length : Int))) = true then (rdl a0 x4).bind fun t18 => (laws_toIntA3.f k t18.1 t18.2.1 t18.2.2).bind fun (t20_1, t20_2, t20_3) => (rdl x3 x4).bind fun t21 => laws_toIntA3S.l0 k a0 n (x3.set x4.toNat (t20_1, t20_2, t20_3)) (w64 (x4 + 1)) else some x3)

def laws_toIntA3S.f (k : Nat) (a0 : List (Int × Int × Int)) : Option ((List (Int × Int × Int))) := if 0 ≤ (a0.length : Int) ∧ (a0.length : Int) < 1099511627776 then (laws_toIntA3S.l0 k a0 k (List.replicate ((a0.length : Int)).toNat ((0, 0, 0) : Int × Int × Int)) 0).bind fun x3 => some x3 else none

theorem laws_toIntA3S.ok {k : Nat}  {a0 : List (Int × Int × Int)} {r0 : List (Int × Int × Int)} (h : laws_toIntA3S.f k a0 = some r0) (w : World) {va0 : Value} (hr_a0 : Rd w va0 a0) :
    Calls Try.prog 64 ([va0] : List Value).toArray w (Post (fun u ns => ∃ (Sr0 : Nat → Prop), SlLen u r0.length ∧ ns = [R.sl Sr0 u r0]) w) := by
  unfold laws_toIntA3S.f at h
  have hl_va0 := hr_a0.len
  refine Calls.of_tri (N := 23) Try.func64 rfl rfl rfl (Sep.nil (M := noM)) ?_
  refine Tri.seq ?_
  refine Tri.reg (l := [0]) rfl ?_
  refine F.q rfl rfl rfl (wanted_none rfl) (r_assign rfl) ?_
  refine F.nil ?_
  refine Nrm.seq ?_
  refine Tri.seq ?_
  obtain ⟨hm7, h⟩ := ck h
  refine Tri.reg (l := [0, 1, 2, 3]) rfl ?_
  refine F.q rfl rfl rfl (wanted_none rfl) (r_move rfl) ?_
  refine F.q rfl rfl rfl (wanted_none rfl) (r_len Try.underlying22 rfl hl_va0) ?_
  refine F.m rfl rfl rfl (wanted_none rfl) (m_make (x0 := ((0, 0, 0) : Int × Int × Int)) Try.underlying22 ti116 rfl rfl rfl hm7.1 hm7.2 (by decide)) ?_
  rintro v7_1 _ ⟨S7_1, hl_v7_1, rfl⟩
  refine F.q rfl rfl rfl (wanted_none rfl) (r_assign rfl) ?_
  refine F.nil ?_
  refine Nrm.seq ?_
  refine Tri.seq ?_
  refine Tri.seq ?_
  refine Tri.reg (l := [0]) rfl ?_
  refine F.q rfl rfl rfl (wanted_none rfl) (r_assign rfl) ?_
  refine F.nil ?_
  refine Nrm.seq ?_
  obtain ⟨x3, hE_1, h⟩ := bind_some h
  refine Tri.block ?_
  refine Tri.only [0, 3, 4] rfl ?_
  refine Tri.pick [0] rfl rfl ?_
  refine Tri.rounds (fun n e' C' => ∃ (x3' : List (Int × Int × Int)) (x4' : Int), laws_toIntA3S.l0 k a0 n x3' x4' = some x3 ∧ SlLen v7_1 (x3').length ∧ e' = [(0, va0), (3, v7_1), (4, .int .i64 x4')] ∧ C' = Sep w noM [R.sl S7_1 v7_1 (x3' : List (Int × Int × Int))]) k ?_ ?_ ?_
  · exact ⟨List.replicate ((a0.length : Int)).toNat ((0, 0, 0) : Int × Int × Int), 0, hE_1, hl_v7_1, rfl, rfl⟩
  · rintro _ _ ⟨_, _, hE_1, _⟩
    rw [laws_toIntA3S.l0.eq_1] at hE_1; cases hE_1
  · rintro n_1 _ _ ⟨x3, x4, hE_1, hl_x3, rfl, rfl⟩ ih_1
    rw [laws_toIntA3S.l0.eq_2] at hE_1
    refine Tri.seq ?_
    refine Tri.seq ?_
    refine Tri.reg (l := [0, 1, 2, 3]) rfl ?_
    refine F.q rfl rfl rfl (wanted_none rfl) (r_move rfl) ?_
    refine F.q rfl rfl rfl (wanted_none rfl) (r_move rfl) ?_
    refine F.q rfl rfl rfl (wanted_none rfl) (r_len Try.underlying22 rfl hl_va0) ?_
    refine F.q rfl rfl rfl (wanted_none rfl) (r_lss rfl rfl) ?_
    refine F.nil ?_
    refine Nrm.seq ?_
    refine Tri.cond (b := decide (x4 < (a0.length : Int))) rfl (fun g_1 => ?_) (fun g_1 => ?_)
    · replace hE_1 := if_tt g_1 hE_1
      refine Tri.skip ?_
      refine Nrm.seq ?_
      refine Tri.seq ?_
      refine Tri.block ?_
      obtain ⟨t18, h18, hE_1⟩ := bind_some hE_1
      obtain ⟨⟨t20_1, t20_2, t20_3⟩, h20, hE_1⟩ := bind_some hE_1
      obtain ⟨t21, h21, hE_1⟩ := bind_some hE_1
      refine Tri.reg (l := [0, 1, 2, 3, 4, 5, 6, 7, 8]) rfl ?_
      refine F.q rfl rfl rfl (wanted_none rfl) (r_move rfl) ?_
      refine F.q rfl rfl rfl (wanted_none rfl) (r_move rfl) ?_
      refine F.q rfl rfl rfl (wanted_none rfl) (r_move rfl) ?_
      refine F.q rfl rfl rfl (wanted_none rfl) (r_move rfl) ?_
      refine F.q rfl rfl rfl (wanted_none rfl) (r_indexAddrS Try.underlying22 ti116 rfl hl_va0 rfl (rdl_some h18).1 (rdl_some h18).2.1) ?_
      refine F.q rfl rfl rfl (wanted_none rfl) (r_loadA ta116 ti116 rfl rfl (fun w hw => (Rd.flat ((fun _ hw => hr_a0.sep hw) w hw) (rdl_some h18).2.2))) ?_
      refine F.qc rfl rfl rfl (wanted_none rfl) (q_callF (xs := _) rfl ok100 rfl rfl (fun w hw => laws_toIntA3.ok h20 w )) ?_
      refine F.q rfl rfl rfl (wanted_none rfl) (r_indexAddrS Try.underlying22 ti116 rfl hl_x3 rfl (rdl_some h21).1 (rdl_some h21).2.1) ?_
      refine F.ef0 rfl rfl (wanted_none rfl) (d_storeE (i := 0) (x1 := (t20_1, t20_2, t20_3)) ti116 rfl rfl rfl (rdl_some h21) rfl) ?_
      rintro _ _ ⟨rfl, rfl⟩
      refine F.nil ?_
      refine Nrm.block ?_
      refine Nrm.seq ?_
      refine Tri.reg (l := [0, 1, 2]) rfl ?_
      refine F.q rfl rfl rfl (wanted_none rfl) (r_move rfl) ?_
      refine F.q rfl rfl rfl (wanted_none rfl) (r_add rfl rfl) ?_
      refine F.q rfl rfl rfl (wanted_none rfl) (r_assign rfl) ?_
      refine F.nil ?_
      refine Nrm.round ?_
      refine Rnd.only [0, 3, 4] rfl ?_
      refine Rnd.pick [0] rfl rfl ?_
      exact ih_1 _ _ ⟨x3.set x4.toNat (t20_1, t20_2, t20_3), w64 (x4 + 1), hE_1, (len_set hl_x3), rfl, rfl⟩
    · replace hE_1 := if_ff g_1 hE_1
      refine Tri.exit ?_
      refine Exi.then ?_
      refine Exi.then ?_
      refine Exi.same ?_
      cases hE_1
      refine Nrm.seq ?_
      refine Tri.seq ?_
      refine Tri.reg (l := [0, 1]) rfl ?_
      refine F.q rfl rfl rfl (wanted_none rfl) (r_move rfl) ?_
      refine F.q rfl rfl rfl (wanted_none rfl) (r_assign rfl) ?_
      refine F.nil ?_
      refine Nrm.seq ?_
      refine Tri.ret ?_
      cases h
      exact Rtn.body (.tmp rfl .nil) (fun w hw => ⟨_, _, rfl, ⟨S7_1, hl_x3, rfl⟩, Sep.pick (is := [0]) rfl rfl hw⟩)

end Go.Proofs

/- loop.example/g01158/laws.toMaze -/
namespace Go.Proofs
open Go Go.Ga
set_option linter.unusedVariables false
set_option maxRecDepth 100000
set_option maxHeartbeats 4000000
def laws_toMaze.f (k : Nat) (a0_0 : Int) (a0_1 : List (Int × Int × Int)) (a0_2 : List Int) : Option (Int × (List (Int × Int × Int)) × (List Int)) := (laws_toIntA3S.f k a0_1).bind fun t9 => (laws_toIntS.f k a0_2).bind fun t13 => some (a0_0, t9, t13)

theorem laws_toMaze.ok {k : Nat}  {a0_0 : Int} {a0_1 : List (Int × Int × Int)} {a0_2 : List Int} {r0 : Int} {r1 : List (Int × Int × Int)} {r2 : List Int} (h : laws_toMaze.f k a0_0 a0_1 a0_2 = some (r0, r1, r2)) (w : World) {va0_1 : Value} {va0_2 : Value} (hr_a0_1 : Rd w va0_1 a0_1) (hr_a0_2 : Rd w va0_2 a0_2) :
    Calls Try.prog 23 ([.agg ([.int .i64 a0_0, va0_1, va0_2].toArray)] : List Value).toArray w (Post (fun u ns => ∃ (ur1 : Value) (Sr1 : Nat → Prop) (ur2 : Value) (Sr2 : Nat → Prop), u = .agg [.int .i64 r0, ur1, ur2].toArray ∧ SlLen ur1 r1.length ∧ SlLen ur2 r2.length ∧ ns = [R.sl Sr1 ur1 r1, R.sl Sr2 ur2 r2]) w) := by
  unfold laws_toMaze.f at h
  have hl_va0_1 := hr_a0_1.len
  have hl_va0_2 := hr_a0_2.len
  refine Calls.of_tri (N := 16) Try.func23 rfl rfl rfl (Sep.nil (M := noM)) ?_
  refine Tri.seq ?_
  refine Tri.reg (l := [0, 1]) rfl ?_
  refine F.m rfl rfl rfl (wanted_none rfl) (m_boxG rfl rfl) ?_
  rintro _ _ ⟨b1_1, rfl, rfl⟩
  refine F.m rfl rfl rfl (wanted_none rfl) (m_alloc ti31) ?_
  rintro _ _ ⟨b2_1, rfl, rfl⟩
  refine F.nil ?_
  refine Nrm.seq ?_
  refine Tri.seq ?_
  refine Tri.reg (l := [0]) rfl ?_
  refine F.m rfl rfl rfl (wanted_none rfl) (m_alloc ti31) ?_
  rintro _ _ ⟨b3_1, rfl, rfl⟩
  refine F.nil ?_
  refine Nrm.seq ?_
  refine Tri.seq ?_
  refine Tri.reg (l := [0, 1, 2, 3]) rfl ?_
  refine F.q rfl rfl rfl (wanted_none rfl) (r_fieldAddr tf25_0 rfl) ?_
  refine F.q rfl rfl rfl (wanted_none rfl) (r_load ta3 rfl (fun w hw => cell_1 (box_cells (i := 2) rfl w hw) rfl)) ?_
  refine F.q rfl rfl rfl (wanted_none rfl) (r_fieldAddr tf31_0 rfl) ?_
  refine F.ef0 rfl rfl (wanted_none rfl) (d_storeG1 (i := 0) (cs2 := [.int .i64 a0_0]) ti3 rfl rfl rfl rfl rfl (Nat.le_of_ble_eq_true rfl) (lf_cons rfl lf_nil)) ?_
  rintro _ _ ⟨rfl, rfl⟩
  refine F.nil ?_
  refine Nrm.seq ?_
  refine Tri.seq ?_
  obtain ⟨t9, h9, h⟩ := bind_some h
  refine Tri.reg (l := [0, 1, 2, 3, 4]) rfl ?_
  refine F.q rfl rfl rfl (wanted_none rfl) (r_fieldAddr tf25_1 rfl) ?_
  refine F.q rfl rfl rfl (wanted_none rfl) (r_load ta22 rfl (fun w hw => cell_1 (box_cells (i := 2) rfl w hw) rfl)) ?_
  refine F.m rfl rfl rfl (wanted_none rfl) (m_callF (xs := _) rfl ok64 rfl rfl (fun w hw => laws_toIntA3S.ok h9 w ((fun _ hw => hr_a0_1.sep hw) w hw))) ?_
  rintro v9_1 _ ⟨_, ⟨S9_1, hl_v9_1, rfl⟩, rfl⟩
  refine F.q rfl rfl rfl (wanted_none rfl) (r_fieldAddr tf31_1 rfl) ?_
  refine F.ef0 rfl rfl (wanted_none rfl) (d_storeG1 (i := 1) (cs2 := [v9_1]) ti22 rfl rfl rfl (sl_cells hl_v9_1) rfl (Nat.le_of_ble_eq_true rfl) (lf_cons (sl_leaf hl_v9_1) lf_nil)) ?_
  rintro _ _ ⟨rfl, rfl⟩
  refine F.nil ?_
  refine Nrm.seq ?_
  refine Tri.seq ?_
  obtain ⟨t13, h13, h⟩ := bind_some h
  refine Tri.reg (l := [0, 1, 2, 3, 4]) rfl ?_
  refine F.q rfl rfl rfl (wanted_none rfl) (r_fieldAddr tf25_2 rfl) ?_
  refine F.q rfl rfl rfl (wanted_none rfl) (r_load ta23 rfl (fun w hw => cell_1 (box_cells (i := 3) rfl w hw) rfl)) ?_
  refine F.m rfl rfl rfl (wanted_none rfl) (m_callF (xs := _) rfl ok24 rfl rfl (fun w hw => laws_toIntS.ok h13 w ((fun _ hw => hr_a0_2.sep hw) w hw))) ?_
  rintro v13_1 _ ⟨_, ⟨S13_1, hl_v13_1, rfl⟩, rfl⟩
  refine F.q rfl rfl rfl (wanted_none rfl) (r_fieldAddr tf31_2 rfl) ?_
  refine F.ef0 rfl rfl (wanted_none rfl) (d_storeG1 (i := 2) (cs2 := [v13_1]) ti23 rfl rfl rfl (sl_cells hl_v13_1) rfl (Nat.le_of_ble_eq_true rfl) (lf_cons (sl_leaf hl_v13_1) lf_nil)) ?_
  rintro _ _ ⟨rfl, rfl⟩
  refine F.nil ?_
  refine Nrm.seq ?_
  refine Tri.seq ?_
  refine Tri.reg (l := [0, 1]) rfl ?_
  refine F.q rfl rfl rfl (wanted_none rfl) (r_loadA ta31 ti31 rfl rfl (fun w hw => (box_cells (i := 2) rfl w hw))) ?_
  refine F.ef0 rfl rfl (wanted_none rfl) (d_storeG0 (i := 3) (cs2 := [.int .i64 a0_0, v9_1, v13_1]) ti31 rfl rfl rfl rfl rfl (Nat.le_of_ble_eq_true rfl) (lf_cons rfl (lf_cons (sl_leaf hl_v9_1) (lf_cons (sl_leaf hl_v13_1) lf_nil)))) ?_
  rintro _ _ ⟨rfl, rfl⟩
  refine F.nil ?_
  refine Nrm.seq ?_
  refine Tri.ret ?_
  cases h
  exact Rtn.body (.cell rfl ta31 ti31 rfl (fun _ hw => box_cells (i := 3) rfl _ hw) .nil) (fun w hw => ⟨_, _, rfl, ⟨v9_1, S9_1, v13_1, S13_1, rfl, hl_v9_1, hl_v13_1, rfl⟩, Sep.pick (is := [1, 0]) rfl rfl hw⟩)

end Go.Proofs

/- loop.example/g01158/laws.toTrap -/
namespace Go.Proofs
open Go Go.Ga
set_option linter.unusedVariables false
set_option maxRecDepth 100000
set_option maxHeartbeats 4000000
def laws_toTrap.f (k : Nat) (a0_0 : Int) (a0_1 : List (Int × Int × Int)) (a0_2 : List Int) (a0_3 : List Int) : Option (Int × (List (Int × Int × Int)) × (List Int) × (List Int)) := (laws_toMaze.f k a0_0 a0_1 a0_2).bind fun (t6_1, t6_2, t6_3) => (laws_toIntS.f k a0_3).bind fun t10 => some (t6_1, t6_2, t6_3, t10)

theorem laws_toTrap.ok {k : Nat}  {a0_0 : Int} {a0_1 : List (Int × Int × Int)} {a0_2 : List Int} {a0_3 : List Int} {r0 : Int} {r1 : List (Int × Int × Int)} {r2 : List Int} {r3 : List Int} (h : laws_toTrap.f k a0_0 a0_1 a0_2 a0_3 = some (r0, r1, r2, r3)) (w : World) {va0_1 : Value} {va0_2 : Value} {va0_3 : Value} (hr_a0_1 : Rd w va0_1 a0_1) (hr_a0_2 : Rd w va0_2 a0_2) (hr_a0_3 : Rd w va0_3 a0_3) :
    Calls Try.prog 14 ([.agg ([.int .i64 a0_0, va0_1, va0_2, va0_3].toArray)] : List Value).toArray w (Post (fun u ns => ∃ (ur1 : Value) (Sr1 : Nat → Prop) (ur2 : Value) (Sr2 : Nat → Prop) (ur3 : Value) (Sr3 : Nat → Prop), u = .agg [.int .i64 r0, ur1, ur2, ur3].toArray ∧ SlLen ur1 r1.length ∧ SlLen ur2 r2.length ∧ SlLen ur3 r3.length ∧ ns = [R.sl Sr1 ur1 r1, R.sl Sr2 ur2 r2, R.sl Sr3 ur3 r3]) w) := by
  unfold laws_toTrap.f at h
  have hl_va0_1 := hr_a0_1.len
  have hl_va0_2 := hr_a0_2.len
  have hl_va0_3 := hr_a0_3.len
  refine Calls.of_tri (N := 13) Try.func14 rfl rfl rfl (Sep.nil (M := noM)) ?_
  refine Tri.seq ?_
  refine Tri.reg (l := [0, 1]) rfl ?_
  refine F.m rfl rfl rfl (wanted_none rfl) (m_boxG rfl rfl) ?_
  rintro _ _ ⟨b1_1, rfl, rfl⟩
  refine F.m rfl rfl rfl (wanted_none rfl) (m_alloc ti33) ?_
  rintro _ _ ⟨b2_1, rfl, rfl⟩
  refine F.nil ?_
  refine Nrm.seq ?_
  refine Tri.seq ?_
  refine Tri.reg (l := [0]) rfl ?_
  refine F.m rfl rfl rfl (wanted_none rfl) (m_alloc ti33) ?_
  rintro _ _ ⟨b3_1, rfl, rfl⟩
  refine F.nil ?_
  refine Nrm.seq ?_
  refine Tri.seq ?_
  obtain ⟨⟨t6_1, t6_2, t6_3⟩, h6, h⟩ := bind_some h
  refine Tri.reg (l := [0, 1, 2, 3, 4]) rfl ?_
  refine F.q rfl rfl rfl (wanted_none rfl) (r_fieldAddr tf27_0 rfl) ?_
  refine F.q rfl rfl rfl (wanted_none rfl) (r_loadA ta25 ti25 rfl rfl (fun w hw => cells_1 (cs' := [.int .i64 a0_0, va0_1, va0_2]) (box_cells (i := 2) rfl w hw) rfl)) ?_
  refine F.m rfl rfl rfl (wanted_none rfl) (m_callF (xs := _) rfl ok23 rfl rfl (fun w hw => laws_toMaze.ok h6 w ((fun _ hw => hr_a0_1.sep hw) w hw) ((fun _ hw => hr_a0_2.sep hw) w hw))) ?_
  rintro _ _ ⟨_, ⟨v6_1, S6_1, v6_2, S6_2, rfl, hl_v6_1, hl_v6_2, rfl⟩, rfl⟩
  refine F.q rfl rfl rfl (wanted_none rfl) (r_fieldAddr tf33_0 rfl) ?_
  refine F.ef0 rfl rfl (wanted_none rfl) (d_storeG1 (i := 2) (cs2 := [.int .i64 t6_1, v6_1, v6_2]) ti31 rfl rfl rfl rfl rfl (Nat.le_of_ble_eq_true rfl) (lf_cons rfl (lf_cons (sl_leaf hl_v6_1) (lf_cons (sl_leaf hl_v6_2) lf_nil)))) ?_
  rintro _ _ ⟨rfl, rfl⟩
  refine F.nil ?_
  refine Nrm.seq ?_
  refine Tri.seq ?_
  obtain ⟨t10, h10, h⟩ := bind_some h
  refine Tri.reg (l := [0, 1, 2, 3, 4]) rfl ?_
  refine F.q rfl rfl rfl (wanted_none rfl) (r_fieldAddr tf27_1 rfl) ?_
  refine F.q rfl rfl rfl (wanted_none rfl) (r_load ta23 rfl (fun w hw => cell_1 (box_cells (i := 4) rfl w hw) rfl)) ?_
  refine F.m rfl rfl rfl (wanted_none rfl) (m_callF (xs := _) rfl ok24 rfl rfl (fun w hw => laws_toIntS.ok h10 w ((fun _ hw => hr_a0_3.sep hw) w hw))) ?_
  rintro v10_1 _ ⟨_, ⟨S10_1, hl_v10_1, rfl⟩, rfl⟩
  refine F.q rfl rfl rfl (wanted_none rfl) (r_fieldAddr tf33_1 rfl) ?_
  refine F.ef0 rfl rfl (wanted_none rfl) (d_storeG1 (i := 3) (cs2 := [v10_1]) ti23 rfl rfl rfl (sl_cells hl_v10_1) rfl (Nat.le_of_ble_eq_true rfl) (lf_cons (sl_leaf hl_v10_1) lf_nil)) ?_
  rintro _ _ ⟨rfl, rfl⟩
  refine F.nil ?_
  refine Nrm.seq ?_
  refine Tri.seq ?_
  refine Tri.reg (l := [0, 1]) rfl ?_
  refine F.q rfl rfl rfl (wanted_none rfl) (r_loadA ta33 ti33 rfl rfl (fun w hw => (box_cells (i := 3) rfl w hw))) ?_
  refine F.ef0 rfl rfl (wanted_none rfl) (d_storeG0 (i := 4) (cs2 := [.int .i64 t6_1, v6_1, v6_2, v10_1]) ti33 rfl rfl rfl rfl rfl (Nat.le_of_ble_eq_true rfl) (lf_cons rfl (lf_cons (sl_leaf hl_v6_1) (lf_cons (sl_leaf hl_v6_2) (lf_cons (sl_leaf hl_v10_1) lf_nil))))) ?_
  rintro _ _ ⟨rfl, rfl⟩
  refine F.nil ?_
  refine Nrm.seq ?_
  refine Tri.ret ?_
  cases h
  exact Rtn.body (.cell rfl ta33 ti33 rfl (fun _ hw => box_cells (i := 4) rfl _ hw) .nil) (fun w hw => ⟨_, _, rfl, ⟨v6_1, S6_1, v6_2, S6_2, v10_1, S10_1, rfl, hl_v6_1, hl_v6_2, hl_v10_1, rfl⟩, Sep.pick (is := [1, 2, 0]) rfl rfl hw⟩)

end Go.Proofs

/- loop.example/g01158/impl.within -/

namespace Go.Proofs
open Go Go.Ga
set_option linter.unusedVariables false
set_option maxRecDepth 100000
set_option maxHeartbeats 4000000
def impl_within.f (k : Nat) (a0 : Int) (a1 : Int) (a2 : Int) : Option (Bool) := ((if (decide (a1 ≤ a0)) = true then some (decide (a0 ≤ a2)) else some false)).bind fun y6 => some y6

theorem impl_within.ok {k : Nat}  {a0 : Int} {a1 : Int} {a2 : Int} {r0 : Bool} (h : impl_within.f k a0 a1 a2 = some r0) (w : World) :
    Calls Try.prog 92 ([.int .i64 a0, .int .i64 a1, .int .i64 a2] : List Value).toArray w (fun e w' => e = .returned (.bool r0) ∧ Ext w w') := by
  unfold impl_within.f at h
  refine Calls.of_tri (N := 15) Try.func92 rfl rfl rfl (Sep.nil (M := noM)) ?_
  refine Tri.seq ?_
  refine Tri.reg (l := [0]) rfl ?_
  refine F.q rfl rfl rfl (wanted_none rfl) (r_assign rfl) ?_
  refine F.nil ?_
  refine Nrm.seq ?_
  refine Tri.seq ?_
  obtain ⟨y6, hE_1, h⟩ := bind_some h
  refine Tri.cut (fun e' C' => e' = [(6, .bool y6)] ∧ C' = Sep w noM []) ?_ (fun hj_1 => ?_)
  · rintro _ _ ⟨rfl, rfl⟩
    refine Nrm.seq ?_
    refine Tri.ret ?_
    cases h
    exact Rtn.body (.tmp rfl .nil) (fun w hw => ⟨rfl, hw.ext⟩)
  · rcases Bool.eq_false_or_eq_true (decide (a1 ≤ a0)) with g10 | g10
    · replace hE_1 := if_tt g10 hE_1
      refine Tri.reg (l := [0, 1, 2, 3, 4, 5, 6, 7, 8]) rfl ?_
      refine F.q rfl rfl rfl (wanted_none rfl) (r_move rfl) ?_
      refine F.q rfl rfl rfl (wanted_none rfl) (r_move rfl) ?_
      refine F.q rfl rfl rfl (wanted_none rfl) (r_leq rfl rfl) ?_
      refine F.q rfl rfl rfl (wanted_none rfl) (r_move rfl) ?_
      refine F.q rfl rfl rfl (wg rfl rfl rfl g10) (r_move rfl) ?_
      refine F.q rfl rfl rfl (wg rfl rfl rfl g10) (r_move rfl) ?_
      refine F.q rfl rfl rfl (wg rfl rfl rfl g10) (r_leq rfl rfl) ?_
      refine F.q rfl rfl rfl (wanted_none rfl) (r_pick rfl rfl g10) ?_
      refine F.q rfl rfl rfl (wanted_none rfl) (r_assign rfl) ?_
      refine F.nil ?_
      cases hE_1
      refine Nrm.only [6] rfl ?_
      refine Nrm.pick [] rfl rfl ?_
      exact hj_1 _ _ ⟨rfl, rfl⟩
    · replace hE_1 := if_ff g10 hE_1
      refine Tri.reg (l := [0, 1, 2, 3, 4, 5, 6, 7, 8]) rfl ?_
      refine F.q rfl rfl rfl (wanted_none rfl) (r_move rfl) ?_
      refine F.q rfl rfl rfl (wanted_none rfl) (r_move rfl) ?_
      refine F.q rfl rfl rfl (wanted_none rfl) (r_leq rfl rfl) ?_
      refine F.q rfl rfl rfl (wanted_none rfl) (r_move rfl) ?_
      refine F.sk rfl rfl rfl (wf rfl rfl rfl g10) ?_
      refine F.sk rfl rfl rfl (wf rfl rfl rfl g10) ?_
      refine F.sk rfl rfl rfl (wf rfl rfl rfl g10) ?_
      refine F.q rfl rfl rfl (wanted_none rfl) (r_pickf rfl rfl g10) ?_
      refine F.q rfl rfl rfl (wanted_none rfl) (r_assign rfl) ?_
      refine F.nil ?_
      cases hE_1
      refine Nrm.only [6] rfl ?_
      refine Nrm.pick [] rfl rfl ?_
      exact hj_1 _ _ ⟨rfl, rfl⟩

end Go.Proofs

/- loop.example/g01158/impl.isSet -/
namespace Go.Proofs
open Go Go.Ga
set_option linter.unusedVariables false
set_option maxRecDepth 100000
set_option maxHeartbeats 4000000
def impl_isSet.f (k : Nat) (a0 : Int) : Option (Bool) := (impl_within.f k a0 0 63).bind fun t4 => some t4

theorem impl_isSet.ok {k : Nat}  {a0 : Int} {r0 : Bool} (h : impl_isSet.f k a0 = some r0) (w : World) :
    Calls Try.prog 101 ([.int .i64 a0] : List Value).toArray w (fun e w' => e = .returned (.bool r0) ∧ Ext w w') := by
  unfold impl_isSet.f at h
  refine Calls.of_tri (N := 5) Try.func101 rfl rfl rfl (Sep.nil (M := noM)) ?_
  refine Tri.seq ?_
  refine Tri.reg (l := [0]) rfl ?_
  refine F.q rfl rfl rfl (wanted_none rfl) (r_assign rfl) ?_
  refine F.nil ?_
  refine Nrm.seq ?_
  refine Tri.seq ?_
  obtain ⟨t4, h4, h⟩ := bind_some h
  refine Tri.reg (l := [0, 1, 2]) rfl ?_
  refine F.q rfl rfl rfl (wanted_none rfl) (r_move rfl) ?_
  refine F.qc rfl rfl rfl (wanted_none rfl) (q_callF (xs := _) rfl ok92 rfl rfl (fun w hw => impl_within.ok h4 w )) ?_
  refine F.q rfl rfl rfl (wanted_none rfl) (r_assign rfl) ?_
  refine F.nil ?_
  refine Nrm.seq ?_
  refine Tri.ret ?_
  cases h
  exact Rtn.body (.tmp rfl .nil) (fun w hw => ⟨rfl, hw.ext⟩)

end Go.Proofs

/- slices.IndexFunc[[]int,int] -/

namespace Go.Proofs
open Go Go.Ga
set_option linter.unusedVariables false
set_option maxRecDepth 100000
set_option maxHeartbeats 4000000
def slices_IndexFunc_int_int.l0 (k : Nat) (a0 : List Int) (a1 : (Int → Option (Bool))) : Nat → Int → Option ((Unit) ⊕ (Int))
  | 0, _ => none
  | n + 1, x8 => (if (decide (x8 < (a0.length : Int))) = true then (rdl a0 x8).bind fun t14 => (a1 t14).bind fun t16 => (if t16 = true then some (Sum.inr x8) else slices_IndexFunc_int_int.l0 k a0 a1 n (w64 (x8 + 1))) else some (Sum.inl ()))

def slices_IndexFunc_int_int.f (k : Nat) (a0 : List Int) (a1 : (Int → Option (Bool))) : Option (Int) := (slices_IndexFunc_int_int.l0 k a0 a1 k 0).bind fun s => Lr s some fun _ => some (-1)

theorem slices_IndexFunc_int_int.ok {k : Nat}  {a0 : List Int} {a1 : (Int → Option (Bool))} {r0 : Int} (h : slices_IndexFunc_int_int.f k a0 a1 = some r0) (w : World) {va0 : Value} (hr_a0 : Rd w va0 a0) {fi_a1 : FuncId} {ca_a1 : Array Value} (ho_a1 : CallOk Try.prog fi_a1) (hf_a1 : ∀ w2, Ext w w2 → ∀ (z0 : Int) (y : Bool), a1 z0 = some y → Calls Try.prog fi_a1 (([.int .i64 z0] : List Value) ++ ca_a1.toList).toArray w2 (fun e w3 => e = .returned (.bool y) ∧ Ext w2 w3)) :
    Calls Try.prog 149 ([va0, .func (.func fi_a1) #[] ca_a1] : List Value).toArray w (fun e w' => e = .returned (.int .i64 r0) ∧ Ext w w') := by
  unfold slices_IndexFunc_int_int.f at h
  have hl_va0 := hr_a0.len
  refine Calls.of_tri (N := 19) Try.func149 rfl rfl rfl (Sep.nil (M := noM)) ?_
  refine Tri.seq ?_
  refine Tri.reg (l := [0]) rfl ?_
  refine F.q rfl rfl rfl (wanted_none rfl) (r_assign rfl) ?_
  refine F.nil ?_
  refine Nrm.seq ?_
  refine Tri.seq ?_
  refine Tri.seq ?_
  refine Tri.reg (l := [0, 1, 2]) rfl ?_
  refine F.q rfl rfl rfl (wanted_none rfl) (r_move rfl) ?_
  refine F.q rfl rfl rfl (wanted_none rfl) (r_len Try.underlying23 rfl hl_va0) ?_
  refine F.q rfl rfl rfl (wanted_none rfl) (r_move rfl) ?_
  refine F.nil ?_
  refine Nrm.seq ?_
  obtain ⟨s0, hE_1, h⟩ := bind_some h
  refine Tri.block ?_
  refine Tri.only [0, 1, 7, 8] rfl ?_
  refine Tri.pick [] rfl rfl ?_
  refine Tri.rounds (fun n e' C' => ∃ (x8' : Int), slices_IndexFunc_int_int.l0 k a0 a1 n x8' = some s0 ∧ e' = [(0, va0), (1, .func (.func fi_a1) #[] ca_a1), (7, .int .i64 (a0.length : Int)), (8, .int .i64 x8')] ∧ C' = Sep w noM []) k ?_ ?_ ?_
  · exact ⟨0, hE_1, rfl, rfl⟩
  · rintro _ _ ⟨_, hE_1, _⟩
    rw [slices_IndexFunc_int_int.l0.eq_1] at hE_1; cases hE_1
  · rintro n_1 _ _ ⟨x8, hE_1, rfl, rfl⟩ ih_1
    rw [slices_IndexFunc_int_int.l0.eq_2] at hE_1
    refine Tri.seq ?_
    refine Tri.reg (l := [0]) rfl ?_
    refine F.q rfl rfl rfl (wanted_none rfl) (r_lss rfl rfl) ?_
    refine F.nil ?_
    refine Nrm.seq ?_
    refine Tri.seq ?_
    refine Tri.cond (b := decide (x8 < (a0.length : Int))) rfl (fun g_1 => ?_) (fun g_1 => ?_)
    · replace hE_1 := if_tt g_1 hE_1
      refine Tri.skip ?_
      refine Nrm.seq ?_
      refine Tri.seq ?_
      refine Tri.block ?_
      refine Tri.seq ?_
      refine Tri.reg (l := [0, 1]) rfl ?_
      refine F.q rfl rfl rfl (wanted_none rfl) (r_move rfl) ?_
      refine F.q rfl rfl rfl (wanted_none rfl) (r_assign rfl) ?_
      refine F.nil ?_
      refine Nrm.seq ?_
      refine Tri.seq ?_
      obtain ⟨t14, h14, hE_1⟩ := bind_some hE_1
      obtain ⟨t16, h16, hE_1⟩ := bind_some hE_1
      refine Tri.reg (l := [0, 1, 2, 3, 4, 5]) rfl ?_
      refine F.q rfl rfl rfl (wanted_none rfl) (r_move rfl) ?_
      refine F.q rfl rfl rfl (wanted_none rfl) (r_move rfl) ?_
      refine F.q rfl rfl rfl (wanted_none rfl) (r_move rfl) ?_
      refine F.q rfl rfl rfl (wanted_none rfl) (r_indexAddrS Try.underlying23 ti3 rfl hl_va0 rfl (rdl_some h14).1 (rdl_some h14).2.1) ?_
      refine F.q rfl rfl rfl (wanted_none rfl) (r_load ta3 rfl (fun w hw => cell_0 (Rd.flat ((fun _ hw => hr_a0.sep hw) w hw) (rdl_some h14).2.2) rfl)) ?_
      refine F.qc rfl rfl rfl (wanted_none rfl) (q_callC (xs := _) rfl ho_a1 rfl rfl (fun w hw => hf_a1 w hw.ext _  _ h16)) ?_
      refine F.nil ?_
      refine Nrm.seq ?_
      refine Tri.cond (b := t16) rfl (fun g_2 => ?_) (fun g_2 => ?_)
      · replace hE_1 := if_tt g_2 hE_1
        refine Tri.seq ?_
        refine Tri.reg (l := [0, 1]) rfl ?_
        refine F.q rfl rfl rfl (wanted_none rfl) (r_move rfl) ?_
        refine F.q rfl rfl rfl (wanted_none rfl) (r_assign rfl) ?_
        refine F.nil ?_
        refine Nrm.seq ?_
        refine Tri.ret ?_
        refine Rtn.block ?_
        refine Rtn.then ?_
        refine Rtn.then ?_
        refine Rtn.block ?_
        refine Rtn.then ?_
        cases hE_1
        replace h := Lr_inr h
        cases h
        exact Rtn.body (.tmp rfl .nil) (fun w hw => ⟨rfl, hw.ext⟩)
      · replace hE_1 := if_ff g_2 hE_1
        refine Tri.skip ?_
        refine Nrm.block ?_
        refine Nrm.seq ?_
        refine Tri.reg (l := [0, 1]) rfl ?_
        refine F.q rfl rfl rfl (wanted_none rfl) (r_add rfl rfl) ?_
        refine F.q rfl rfl rfl (wanted_none rfl) (r_move rfl) ?_
        refine F.nil ?_
        refine Nrm.round ?_
        refine Rnd.only [0, 1, 7, 8] rfl ?_
        refine Rnd.pick [] rfl rfl ?_
        exact ih_1 _ _ ⟨w64 (x8 + 1), hE_1, rfl, rfl⟩
    · replace hE_1 := if_ff g_1 hE_1
      refine Tri.exit ?_
      refine Exi.then ?_
      refine Exi.then ?_
      refine Exi.same ?_
      cases hE_1
      replace h := Lr_inl h
      refine Nrm.seq ?_
      refine Tri.seq ?_
      refine Tri.reg (l := [0]) rfl ?_
      refine F.q rfl rfl rfl (wanted_none rfl) (r_assign rfl) ?_
      refine F.nil ?_
      refine Nrm.seq ?_
      refine Tri.ret ?_
      cases h
      exact Rtn.body (.tmp rfl .nil) (fun w hw => ⟨rfl, hw.ext⟩)

end Go.Proofs

/- slices.ContainsFunc[[]int,int] -/
namespace Go.Proofs
open Go Go.Ga
set_option linter.unusedVariables false
set_option maxRecDepth 100000
set_option maxHeartbeats 4000000
def slices_ContainsFunc_int_int.f (k : Nat) (a0 : List Int) (a1 : (Int → Option (Bool))) : Option (Bool) := (slices_IndexFunc_int_int.f k a0 a1).bind fun t7 => some (decide (t7 ≥ 0))

theorem slices_ContainsFunc_int_int.ok {k : Nat}  {a0 : List Int} {a1 : (Int → Option (Bool))} {r0 : Bool} (h : slices_ContainsFunc_int_int.f k a0 a1 = some r0) (w : World) {va0 : Value} (hr_a0 : Rd w va0 a0) {fi_a1 : FuncId} {ca_a1 : Array Value} (ho_a1 : CallOk Try.prog fi_a1) (hf_a1 : ∀ w2, Ext w w2 → ∀ (z0 : Int) (y : Bool), a1 z0 = some y → Calls Try.prog fi_a1 (([.int .i64 z0] : List Value) ++ ca_a1.toList).toArray w2 (fun e w3 => e = .returned (.bool y) ∧ Ext w2 w3)) :
    Calls Try.prog 118 ([va0, .func (.func fi_a1) #[] ca_a1] : List Value).toArray w (fun e w' => e = .returned (.bool r0) ∧ Ext w w') := by
  unfold slices_ContainsFunc_int_int.f at h
  have hl_va0 := hr_a0.len
  refine Calls.of_tri (N := 9) Try.func118 rfl rfl rfl (Sep.nil (M := noM)) ?_
  refine Tri.seq ?_
  refine Tri.reg (l := [0]) rfl ?_
  refine F.q rfl rfl rfl (wanted_none rfl) (r_assign rfl) ?_
  refine F.nil ?_
  refine Nrm.seq ?_
  refine Tri.seq ?_
  obtain ⟨t7, h7, h⟩ := bind_some h
  refine Tri.reg (l := [0, 1, 2, 3, 4]) rfl ?_
  refine F.q rfl rfl rfl (wanted_none rfl) (r_move rfl) ?_
  refine F.q rfl rfl rfl (wanted_none rfl) (r_move rfl) ?_
  refine F.qc rfl rfl rfl (wanted_none rfl) (q_callF (xs := _) rfl ok149 rfl rfl (fun w hw => slices_IndexFunc_int_int.ok h7 w ((fun _ hw => hr_a0.sep hw) w hw) ho_a1 (fun w2 he2 => hf_a1 w2 (hw.ext.trans he2)))) ?_
  refine F.q rfl rfl rfl (wanted_none rfl) (r_geq rfl rfl) ?_
  refine F.q rfl rfl rfl (wanted_none rfl) (r_assign rfl) ?_
  refine F.nil ?_
  refine Nrm.seq ?_
  refine Tri.ret ?_
  cases h
  exact Rtn.body (.tmp rfl .nil) (fun w hw => ⟨rfl, hw.ext⟩)

end Go.Proofs

/- cmp.Or[int] -/

namespace Go.Proofs
open Go Go.Ga
set_option linter.unusedVariables false
set_option maxRecDepth 100000
set_option maxHeartbeats 4000000
def cmp_Or_int.l0 (k : Nat) (a0 : List Int) : Nat → Int → Option ((Unit) ⊕ (Int))
  | 0, _ => none
  | n + 1, x8 => (if (decide (x8 < (a0.length : Int))) = true then (rdl a0 x8).bind fun t10 => (if (t10 != 0) = true then some (Sum.inr t10) else cmp_Or_int.l0 k a0 n (w64 (x8 + 1))) else some (Sum.inl ()))

def cmp_Or_int.f (k : Nat) (a0 : List Int) : Option (Int) := (cmp_Or_int.l0 k a0 k 0).bind fun s => Lr s some fun _ => some 0

theorem cmp_Or_int.ok {k : Nat}  {a0 : List Int} {r0 : Int} (h : cmp_Or_int.f k a0 = some r0) (w : World) {va0 : Value} (hr_a0 : Rd w va0 a0) :
    Calls Try.prog 160 ([va0] : List Value).toArray w (fun e w' => e = .returned (.int .i64 r0) ∧ Ext w w') := by
  unfold cmp_Or_int.f at h
  have hl_va0 := hr_a0.len
  refine Calls.of_tri (N := 18) Try.func160 rfl rfl rfl (Sep.nil (M := noM)) ?_
  refine Tri.seq ?_
  refine Tri.reg (l := [0]) rfl ?_
  refine F.q rfl rfl rfl (wanted_none rfl) (r_assign rfl) ?_
  refine F.nil ?_
  refine Nrm.seq ?_
  refine Tri.seq ?_
  refine Tri.reg (l := [0]) rfl ?_
  refine F.q rfl rfl rfl (wanted_none rfl) (r_assign rfl) ?_
  refine F.nil ?_
  refine Nrm.seq ?_
  refine Tri.seq ?_
  refine Tri.seq ?_
  refine Tri.reg (l := [0, 1, 2]) rfl ?_
  refine F.q rfl rfl rfl (wanted_none rfl) (r_move rfl) ?_
  refine F.q rfl rfl rfl (wanted_none rfl) (r_len Try.underlying23 rfl hl_va0) ?_
  refine F.q rfl rfl rfl (wanted_none rfl) (r_move rfl) ?_
  refine F.nil ?_
  refine Nrm.seq ?_
  obtain ⟨s0, hE_1, h⟩ := bind_some h
  refine Tri.block ?_
  refine Tri.only [3, 6, 7, 8] rfl ?_
  refine Tri.pick [] rfl rfl ?_
  refine Tri.rounds (fun n e' C' => ∃ (x8' : Int), cmp_Or_int.l0 k a0 n x8' = some s0 ∧ e' = [(3, .int .i64 0), (6, va0), (7, .int .i64 (a0.length : Int)), (8, .int .i64 x8')] ∧ C' = Sep w noM []) k ?_ ?_ ?_
  · exact ⟨0, hE_1, rfl, rfl⟩
  · rintro _ _ ⟨_, hE_1, _⟩
    rw [cmp_Or_int.l0.eq_1] at hE_1; cases hE_1
  · rintro n_1 _ _ ⟨x8, hE_1, rfl, rfl⟩ ih_1
    rw [cmp_Or_int.l0.eq_2] at hE_1
    refine Tri.seq ?_
    refine Tri.reg (l := [0]) rfl ?_
    refine F.q rfl rfl rfl (wanted_none rfl) (r_lss rfl rfl) ?_
    refine F.nil ?_
    refine Nrm.seq ?_
    refine Tri.seq ?_
    refine Tri.cond (b := decide (x8 < (a0.length : Int))) rfl (fun g_1 => ?_) (fun g_1 => ?_)
    · replace hE_1 := if_tt g_1 hE_1
      refine Tri.skip ?_
      refine Nrm.seq ?_
      refine Tri.seq ?_
      refine Tri.block ?_
      refine Tri.seq ?_
      obtain ⟨t10, h10, hE_1⟩ := bind_some hE_1
      refine Tri.reg (l := [0, 1, 2]) rfl ?_
      refine F.q rfl rfl rfl (wanted_none rfl) (r_indexAddrS Try.underlying23 ti3 rfl hl_va0 rfl (rdl_some h10).1 (rdl_some h10).2.1) ?_
      refine F.q rfl rfl rfl (wanted_none rfl) (r_load ta3 rfl (fun w hw => cell_0 (Rd.flat ((fun _ hw => hr_a0.sep hw) w hw) (rdl_some h10).2.2) rfl)) ?_
      refine F.q rfl rfl rfl (wanted_none rfl) (r_assign rfl) ?_
      refine F.nil ?_
      refine Nrm.seq ?_
      refine Tri.seq ?_
      refine Tri.reg (l := [0, 1, 2]) rfl ?_
      refine F.q rfl rfl rfl (wanted_none rfl) (r_move rfl) ?_
      refine F.q rfl rfl rfl (wanted_none rfl) (r_move rfl) ?_
      refine F.q rfl rfl rfl (wanted_none rfl) (r_neq rfl rfl) ?_
      refine F.nil ?_
      refine Nrm.seq ?_
      refine Tri.cond (b := t10 != 0) rfl (fun g_2 => ?_) (fun g_2 => ?_)
      · replace hE_1 := if_tt g_2 hE_1
        refine Tri.seq ?_
        refine Tri.reg (l := [0, 1]) rfl ?_
        refine F.q rfl rfl rfl (wanted_none rfl) (r_move rfl) ?_
        refine F.q rfl rfl rfl (wanted_none rfl) (r_assign rfl) ?_
        refine F.nil ?_
        refine Nrm.seq ?_
        refine Tri.ret ?_
        refine Rtn.block ?_
        refine Rtn.then ?_
        refine Rtn.then ?_
        refine Rtn.block ?_
        refine Rtn.then ?_
        cases hE_1
        replace h := Lr_inr h
        cases h
        exact Rtn.body (.tmp rfl .nil) (fun w hw => ⟨rfl, hw.ext⟩)
      · replace hE_1 := if_ff g_2 hE_1
        refine Tri.skip ?_
        refine Nrm.block ?_
        refine Nrm.seq ?_
        refine Tri.reg (l := [0, 1]) rfl ?_
        refine F.q rfl rfl rfl (wanted_none rfl) (r_add rfl rfl) ?_
        refine F.q rfl rfl rfl (wanted_none rfl) (r_move rfl) ?_
        refine F.nil ?_
        refine Nrm.round ?_
        refine Rnd.only [3, 6, 7, 8] rfl ?_
        refine Rnd.pick [] rfl rfl ?_
        exact ih_1 _ _ ⟨w64 (x8 + 1), hE_1, rfl, rfl⟩
    · replace hE_1 := if_ff g_1 hE_1
      refine Tri.exit ?_
      refine Exi.then ?_
      refine Exi.then ?_
      refine Exi.same ?_
      cases hE_1
      replace h := Lr_inl h
      refine Nrm.seq ?_
      refine Tri.seq ?_
      refine Tri.reg (l := [0, 1]) rfl ?_
      refine F.q rfl rfl rfl (wanted_none rfl) (r_move rfl) ?_
      refine F.q rfl rfl rfl (wanted_none rfl) (r_assign rfl) ?_
      refine F.nil ?_
      refine Nrm.seq ?_
      refine Tri.ret ?_
      cases h
      exact Rtn.body (.tmp rfl .nil) (fun w hw => ⟨rfl, hw.ext⟩)

end Go.Proofs

/- cmp.isNaN[int] -/

namespace Go.Proofs
open Go Go.Ga
set_option linter.unusedVariables false
set_option maxRecDepth 100000
set_option maxHeartbeats 4000000
def cmp_isNaN_int.f (k : Nat) (a0 : Int) : Option (Bool) := some (a0 != a0)

theorem cmp_isNaN_int.ok {k : Nat}  {a0 : Int} {r0 : Bool} (h : cmp_isNaN_int.f k a0 = some r0) (w : World) :
    Calls Try.prog 187 ([.int .i64 a0] : List Value).toArray w (fun e w' => e = .returned (.bool r0) ∧ Ext w w') := by
  unfold cmp_isNaN_int.f at h
  refine Calls.of_tri (N := 6) Try.func187 rfl rfl rfl (Sep.nil (M := noM)) ?_
  refine Tri.seq ?_
  refine Tri.reg (l := [0]) rfl ?_
  refine F.q rfl rfl rfl (wanted_none rfl) (r_assign rfl) ?_
  refine F.nil ?_
  refine Nrm.seq ?_
  refine Tri.seq ?_
  refine Tri.reg (l := [0, 1, 2, 3]) rfl ?_
  refine F.q rfl rfl rfl (wanted_none rfl) (r_move rfl) ?_
  refine F.q rfl rfl rfl (wanted_none rfl) (r_move rfl) ?_
  refine F.q rfl rfl rfl (wanted_none rfl) (r_neq rfl rfl) ?_
  refine F.q rfl rfl rfl (wanted_none rfl) (r_assign rfl) ?_
  refine F.nil ?_
  refine Nrm.seq ?_
  refine Tri.ret ?_
  cases h
  exact Rtn.body (.tmp rfl .nil) (fun w hw => ⟨rfl, hw.ext⟩)

end Go.Proofs

/- cmp.Compare[int] -/
namespace Go.Proofs
open Go Go.Ga
set_option linter.unusedVariables false
set_option maxRecDepth 100000
set_option maxHeartbeats 4000000
def cmp_Compare_int.f (k : Nat) (a0 : Int) (a1 : Int) : Option (Int) := (cmp_isNaN_int.f k a0).bind fun t8 => (cmp_isNaN_int.f k a1).bind fun t10 => (if t8 = true then (if t10 = true then some 0 else some (-1)) else (if t10 = true then some 1 else (if (decide (a0 < a1)) = true then some (-1) else (if (decide (a0 > a1)) = true then some 1 else some 0))))

theorem cmp_Compare_int.ok {k : Nat}  {a0 : Int} {a1 : Int} {r0 : Int} (h : cmp_Compare_int.f k a0 a1 = some r0) (w : World) :
    Calls Try.prog 161 ([.int .i64 a0, .int .i64 a1] : List Value).toArray w (fun e w' => e = .returned (.int .i64 r0) ∧ Ext w w') := by
  unfold cmp_Compare_int.f at h
  refine Calls.of_tri (N := 20) Try.func161 rfl rfl rfl (Sep.nil (M := noM)) ?_
  refine Tri.seq ?_
  refine Tri.reg (l := [0]) rfl ?_
  refine F.q rfl rfl rfl (wanted_none rfl) (r_assign rfl) ?_
  refine F.nil ?_
  refine Nrm.seq ?_
  refine Tri.seq ?_
  obtain ⟨t8, h8, h⟩ := bind_some h
  refine Tri.reg (l := [0, 1, 2]) rfl ?_
  refine F.q rfl rfl rfl (wanted_none rfl) (r_move rfl) ?_
  refine F.qc rfl rfl rfl (wanted_none rfl) (q_callF (xs := _) rfl ok187 rfl rfl (fun w hw => cmp_isNaN_int.ok h8 w )) ?_
  refine F.q rfl rfl rfl (wanted_none rfl) (r_assign rfl) ?_
  refine F.nil ?_
  refine Nrm.seq ?_
  refine Tri.seq ?_
  obtain ⟨t10, h10, h⟩ := bind_some h
  refine Tri.reg (l := [0, 1, 2]) rfl ?_
  refine F.q rfl rfl rfl (wanted_none rfl) (r_move rfl) ?_
  refine F.qc rfl rfl rfl (wanted_none rfl) (q_callF (xs := _) rfl ok187 rfl rfl (fun w hw => cmp_isNaN_int.ok h10 w )) ?_
  refine F.q rfl rfl rfl (wanted_none rfl) (r_assign rfl) ?_
  refine F.nil ?_
  refine Nrm.seq ?_
  refine Tri.seq ?_
  refine Tri.seq ?_
  refine Tri.reg (l := [0]) rfl ?_
  refine F.q rfl rfl rfl (wanted_none rfl) (r_move rfl) ?_
  refine F.nil ?_
  refine Nrm.seq ?_
  refine Tri.cond (b := t8) rfl (fun g_1 => ?_) (fun g_1 => ?_)
  · replace h := if_tt g_1 h
    refine Tri.seq ?_
    refine Tri.seq ?_
    refine Tri.reg (l := [0]) rfl ?_
    refine F.q rfl rfl rfl (wanted_none rfl) (r_move rfl) ?_
    refine F.nil ?_
    refine Nrm.seq ?_
    refine Tri.cond (b := t10) rfl (fun g_2 => ?_) (fun g_2 => ?_)
    · replace h := if_tt g_2 h
      refine Tri.seq ?_
      refine Tri.reg (l := [0]) rfl ?_
      refine F.q rfl rfl rfl (wanted_none rfl) (r_assign rfl) ?_
      refine F.nil ?_
      refine Nrm.seq ?_
      refine Tri.ret ?_
      refine Rtn.then ?_
      refine Rtn.then ?_
      cases h
      exact Rtn.body (.tmp rfl .nil) (fun w hw => ⟨rfl, hw.ext⟩)
    · replace h := if_ff g_2 h
      refine Tri.skip ?_
      refine Nrm.seq ?_
      refine Tri.seq ?_
      refine Tri.reg (l := [0]) rfl ?_
      refine F.q rfl rfl rfl (wanted_none rfl) (r_assign rfl) ?_
      refine F.nil ?_
      refine Nrm.seq ?_
      refine Tri.ret ?_
      refine Rtn.then ?_
      cases h
      exact Rtn.body (.tmp rfl .nil) (fun w hw => ⟨rfl, hw.ext⟩)
  · replace h := if_ff g_1 h
    refine Tri.skip ?_
    refine Nrm.seq ?_
    refine Tri.seq ?_
    refine Tri.seq ?_
    refine Tri.reg (l := [0]) rfl ?_
    refine F.q rfl rfl rfl (wanted_none rfl) (r_move rfl) ?_
    refine F.nil ?_
    refine Nrm.seq ?_
    refine Tri.cond (b := t10) rfl (fun g_3 => ?_) (fun g_3 => ?_)
    · replace h := if_tt g_3 h
      refine Tri.seq ?_
      refine Tri.reg (l := [0]) rfl ?_
      refine F.q rfl rfl rfl (wanted_none rfl) (r_assign rfl) ?_
      refine F.nil ?_
      refine Nrm.seq ?_
      refine Tri.ret ?_
      refine Rtn.then ?_
      cases h
      exact Rtn.body (.tmp rfl .nil) (fun w hw => ⟨rfl, hw.ext⟩)
    · replace h := if_ff g_3 h
      refine Tri.skip ?_
      refine Nrm.seq ?_
      refine Tri.seq ?_
      refine Tri.seq ?_
      refine Tri.reg (l := [0, 1, 2]) rfl ?_
      refine F.q rfl rfl rfl (wanted_none rfl) (r_move rfl) ?_
      refine F.q rfl rfl rfl (wanted_none rfl) (r_move rfl) ?_
      refine F.q rfl rfl rfl (wanted_none rfl) (r_lss rfl rfl) ?_
      refine F.nil ?_
      refine Nrm.seq ?_
      refine Tri.cond (b := decide (a0 < a1)) rfl (fun g_4 => ?_) (fun g_4 => ?_)
      · replace h := if_tt g_4 h
        refine Tri.seq ?_
        refine Tri.reg (l := [0]) rfl ?_
        refine F.q rfl rfl rfl (wanted_none rfl) (r_assign rfl) ?_
        refine F.nil ?_
        refine Nrm.seq ?_
        refine Tri.ret ?_
        refine Rtn.then ?_
        cases h
        exact Rtn.body (.tmp rfl .nil) (fun w hw => ⟨rfl, hw.ext⟩)
      · replace h := if_ff g_4 h
        refine Tri.skip ?_
        refine Nrm.seq ?_
        refine Tri.seq ?_
        refine Tri.seq ?_
        refine Tri.reg (l := [0, 1, 2]) rfl ?_
        refine F.q rfl rfl rfl (wanted_none rfl) (r_move rfl) ?_
        refine F.q rfl rfl rfl (wanted_none rfl) (r_move rfl) ?_
        refine F.q rfl rfl rfl (wanted_none rfl) (r_gtr rfl rfl) ?_
        refine F.nil ?_
        refine Nrm.seq ?_
        refine Tri.cond (b := decide (a0 > a1)) rfl (fun g_5 => ?_) (fun g_5 => ?_)
        · replace h := if_tt g_5 h
          refine Tri.seq ?_
          refine Tri.reg (l := [0]) rfl ?_
          refine F.q rfl rfl rfl (wanted_none rfl) (r_assign rfl) ?_
          refine F.nil ?_
          refine Nrm.seq ?_
          refine Tri.ret ?_
          refine Rtn.then ?_
          cases h
          exact Rtn.body (.tmp rfl .nil) (fun w hw => ⟨rfl, hw.ext⟩)
        · replace h := if_ff g_5 h
          refine Tri.skip ?_
          refine Nrm.seq ?_
          refine Tri.seq ?_
          refine Tri.reg (l := [0]) rfl ?_
          refine F.q rfl rfl rfl (wanted_none rfl) (r_assign rfl) ?_
          refine F.nil ?_
          refine Nrm.seq ?_
          refine Tri.ret ?_
          cases h
          exact Rtn.body (.tmp rfl .nil) (fun w hw => ⟨rfl, hw.ext⟩)

end Go.Proofs

/- loop.example/g01158/impl.compareDoors -/
namespace Go.Proofs
open Go Go.Ga
set_option linter.unusedVariables false
set_option maxRecDepth 100000
set_option maxHeartbeats 4000000
def impl_compareDoors.f (k : Nat) (a0_0 : Int) (a0_1 : Int) (a0_2 : Int) (a1_0 : Int) (a1_1 : Int) (a1_2 : Int) : Option (Int) := (cmp_Compare_int.f k a0_0 a1_0).bind fun t9 => (cmp_Compare_int.f k a0_1 a1_1).bind fun t14 => (cmp_Compare_int.f k a0_2 a1_2).bind fun t19 => (cmp_Or_int.f k ([t9, t14, t19] : List (Int))).bind fun t21 => some t21

theorem impl_compareDoors.ok {k : Nat}  {a0_0 : Int} {a0_1 : Int} {a0_2 : Int} {a1_0 : Int} {a1_1 : Int} {a1_2 : Int} {r0 : Int} (h : impl_compareDoors.f k a0_0 a0_1 a0_2 a1_0 a1_1 a1_2 = some r0) (w : World) :
    Calls Try.prog 135 ([.agg ([.int .i64 a0_0, .int .i64 a0_1, .int .i64 a0_2].toArray), .agg ([.int .i64 a1_0, .int .i64 a1_1, .int .i64 a1_2].toArray)] : List Value).toArray w (fun e w' => e = .returned (.int .i64 r0) ∧ Ext w w') := by
  unfold impl_compareDoors.f at h
  refine Calls.of_tri (N := 22) Try.func135 rfl rfl rfl (Sep.nil (M := noM)) ?_
  refine Tri.seq ?_
  refine Tri.reg (l := [0, 1, 2]) rfl ?_
  refine F.m rfl rfl rfl (wanted_none rfl) (m_boxG rfl rfl) ?_
  rintro _ _ ⟨b2_1, rfl, rfl⟩
  refine F.m rfl rfl rfl (wanted_none rfl) (m_boxG rfl rfl) ?_
  rintro _ _ ⟨b3_1, rfl, rfl⟩
  refine F.q rfl rfl rfl (wanted_none rfl) (r_assign rfl) ?_
  refine F.nil ?_
  refine Nrm.seq ?_
  refine Tri.seq ?_
  obtain ⟨t9, h9, h⟩ := bind_some h
  obtain ⟨t14, h14, h⟩ := bind_some h
  obtain ⟨t19, h19, h⟩ := bind_some h
  obtain ⟨t21, h21, h⟩ := bind_some h
  refine Tri.drawA mixedT Sep.up [(0, true), (1, true), (2, true), (3, true), (4, true), (5, true), (6, true), (7, true), (8, true), (9, true), (10, true), (11, true), (12, true), (13, true), (14, true), (15, false), (16, true), (17, true)] [] (by kernel_rfl) ?_
  refine S.q rfl rfl rfl (wanted_none rfl) (r_indexAddrA Try.underlying116 ti3 rfl rfl (by decide) (by decide)) ?_
  refine S.q rfl rfl rfl (wanted_none rfl) (r_load ta3 rfl (fun w hw => cell_1 (box_cells (i := 1) rfl w hw) rfl)) ?_
  refine S.q rfl rfl rfl (wanted_none rfl) (r_indexAddrA Try.underlying116 ti3 rfl rfl (by decide) (by decide)) ?_
  refine S.q rfl rfl rfl (wanted_none rfl) (r_load ta3 rfl (fun w hw => cell_1 (box_cells (i := 0) rfl w hw) rfl)) ?_
  refine S.qc rfl rfl rfl (wanted_none rfl) (q_callF (xs := _) rfl ok161 rfl rfl (fun w hw => cmp_Compare_int.ok h9 w )) ?_
  refine S.q rfl rfl rfl (wanted_none rfl) (r_indexAddrA Try.underlying116 ti3 rfl rfl (by decide) (by decide)) ?_
  refine S.q rfl rfl rfl (wanted_none rfl) (r_load ta3 rfl (fun w hw => cell_1 (box_cells (i := 1) rfl w hw) rfl)) ?_
  refine S.q rfl rfl rfl (wanted_none rfl) (r_indexAddrA Try.underlying116 ti3 rfl rfl (by decide) (by decide)) ?_
  refine S.q rfl rfl rfl (wanted_none rfl) (r_load ta3 rfl (fun w hw => cell_1 (box_cells (i := 0) rfl w hw) rfl)) ?_
  refine S.qc rfl rfl rfl (wanted_none rfl) (q_callF (xs := _) rfl ok161 rfl rfl (fun w hw => cmp_Compare_int.ok h14 w )) ?_
  refine S.q rfl rfl rfl (wanted_none rfl) (r_indexAddrA Try.underlying116 ti3 rfl rfl (by decide) (by decide)) ?_
  refine S.q rfl rfl rfl (wanted_none rfl) (r_load ta3 rfl (fun w hw => cell_1 (box_cells (i := 1) rfl w hw) rfl)) ?_
  refine S.q rfl rfl rfl (wanted_none rfl) (r_indexAddrA Try.underlying116 ti3 rfl rfl (by decide) (by decide)) ?_
  refine S.q rfl rfl rfl (wanted_none rfl) (r_load ta3 rfl (fun w hw => cell_1 (box_cells (i := 0) rfl w hw) rfl)) ?_
  refine S.qc rfl rfl rfl (wanted_none rfl) (q_callF (xs := _) rfl ok161 rfl rfl (fun w hw => cmp_Compare_int.ok h19 w )) ?_
  refine S.m rfl rfl rfl (wanted_none rfl) (m_buildF (l := ([t9, t14, t19] : List (Int))) Try.underlying23 ti3 rfl rfl rfl rfl rfl) ?_
  rintro v20_2 _ ⟨S20_2, hl_v20_2, rfl⟩
  refine S.qc rfl rfl rfl (wanted_none rfl) (q_callF (xs := _) rfl ok160 rfl rfl (fun w hw => cmp_Or_int.ok h21 w ((rd_sl (i := 0) rfl) w hw))) ?_
  refine S.q rfl rfl rfl (wanted_none rfl) (r_assign rfl) ?_
  refine S.nil ?_
  refine F.nil ?_
  refine Nrm.seq ?_
  refine Tri.ret ?_
  cases h
  exact Rtn.body (.tmp rfl .nil) (fun w hw => ⟨rfl, hw.ext⟩)

end Go.Proofs

/- loop.example/g01158/impl.IsMaze$1 -/
namespace Go.Proofs
open Go Go.Ga
set_option linter.unusedVariables false
set_option maxRecDepth 100000
set_option maxHeartbeats 4000000
def impl_IsMaze_1.f (k : Nat) (a0 : Int) : Option (Bool) := (impl_isSet.f k a0).bind fun t4 => some (!t4)

theorem impl_IsMaze_1.ok {k : Nat}  {a0 : Int} {r0 : Bool} (h : impl_IsMaze_1.f k a0 = some r0) (w : World) :
    Calls Try.prog 136 ([.int .i64 a0] : List Value).toArray w (fun e w' => e = .returned (.bool r0) ∧ Ext w w') := by
  unfold impl_IsMaze_1.f at h
  refine Calls.of_tri (N := 6) Try.func136 rfl rfl rfl (Sep.nil (M := noM)) ?_
  refine Tri.seq ?_
  refine Tri.reg (l := [0]) rfl ?_
  refine F.q rfl rfl rfl (wanted_none rfl) (r_assign rfl) ?_
  refine F.nil ?_
  refine Nrm.seq ?_
  refine Tri.seq ?_
  obtain ⟨t4, h4, h⟩ := bind_some h
  refine Tri.reg (l := [0, 1, 2, 3]) rfl ?_
  refine F.q rfl rfl rfl (wanted_none rfl) (r_move rfl) ?_
  refine F.qc rfl rfl rfl (wanted_none rfl) (q_callF (xs := _) rfl ok101 rfl rfl (fun w hw => impl_isSet.ok h4 w )) ?_
  refine F.q rfl rfl rfl (wanted_none rfl) (r_not rfl) ?_
  refine F.q rfl rfl rfl (wanted_none rfl) (r_assign rfl) ?_
  refine F.nil ?_
  refine Nrm.seq ?_
  refine Tri.ret ?_
  cases h
  exact Rtn.body (.tmp rfl .nil) (fun w hw => ⟨rfl, hw.ext⟩)

end Go.Proofs

/- loop.example/g01158/impl.IsMaze -/
namespace Go.Proofs
open Go Go.Ga
set_option linter.unusedVariables false
set_option maxRecDepth 100000
set_option maxHeartbeats 4000000
def impl_IsMaze.l0 (k : Nat) (a0_0 : Int) (a0_1 : List (Int × Int × Int)) : Nat → Int → Option ((Unit) ⊕ (Bool))
  | 0, _ => none
  | n + 1, x26 => (if (decide (x26 < (a0_1.length : Int))) = true then (rdl a0_1 x26).bind fun t29 => ((if (decide (t29.1 < 0)) = true then some true else (if (decide (t29.1 ≥ t29.2.1)) = true then some true else (if (decide (t29.2.1 ≥ a0_0)) = true then some true else (impl_isSet.f k t29.2.2).bind fun t51 => (if (!t51) = true then some true else (if (decide (x26 > 0)) = true then (rdl a0_1 (w64 (x26 - 1))).bind fun t62 => (impl_compareDoors.f k t62.1 t62.2.1 t62.2.2 t29.1 t29.2.1 t29.2.2).bind fun t65 => some (decide (t65 ≥ 0)) else some false)))))).bind fun y68 => (if y68 = true then some (Sum.inr false) else impl_IsMaze.l0 k a0_0 a0_1 n (w64 (x26 + 1))) else some (Sum.inl ()))

def impl_IsMaze.f (k : Nat) (a0_0 : Int) (a0_1 : List (Int × Int × Int)) (a0_2 : List Int) : Option (Bool) := ((impl_within.f k a0_0 1 12).bind fun t7 => (if (!t7) = true then some true else (if (decide ((a0_1.length : Int) > 30)) = true then some true else some ((a0_2.length : Int) != a0_0)))).bind fun y22 => (if y22 = true then some false else (impl_IsMaze.l0 k a0_0 a0_1 k 0).bind fun s => Lr s some fun _ => (slices_ContainsFunc_int_int.f k a0_2 (fun z0 => impl_IsMaze_1.f k z0)).bind fun t72 => some (!t72))

theorem impl_IsMaze.ok {k : Nat}  {a0_0 : Int} {a0_1 : List (Int × Int × Int)} {a0_2 : List Int} {r0 : Bool} (h : impl_IsMaze.f k a0_0 a0_1 a0_2 = some r0) (w : World) {va0_1 : Value} {va0_2 : Value} (hr_a0_1 : Rd w va0_1 a0_1) (hr_a0_2 : Rd w va0_2 a0_2) :
    Calls Try.prog 91 ([.agg ([.int .i64 a0_0, va0_1, va0_2].toArray)] : List Value).toArray w (fun e w' => e = .returned (.bool r0) ∧ Ext w w') := by
  unfold impl_IsMaze.f at h
  have hl_va0_1 := hr_a0_1.len
  have hl_va0_2 := hr_a0_2.len
  refine Calls.of_tri (N := 74) Try.func91 rfl rfl rfl (Sep.nil (M := noM)) ?_
  refine Tri.seq ?_
  refine Tri.reg (l := [0, 1]) rfl ?_
  refine F.m rfl rfl rfl (wanted_none rfl) (m_boxG rfl rfl) ?_
  rintro _ _ ⟨b1_1, rfl, rfl⟩
  refine F.q rfl rfl rfl (wanted_none rfl) (r_assign rfl) ?_
  refine F.nil ?_
  refine Nrm.seq ?_
  refine Tri.seq ?_
  refine Tri.seq ?_
  obtain ⟨y22, hE_1, h⟩ := bind_some h
  refine Tri.cut (fun e' C' => e' = [(1, .pointer (some ⟨b1_1, 0, none⟩)), (22, .bool y22)] ∧ C' = Sep w noM [R.box b1_1 31 [.int .i64 a0_0, va0_1, va0_2]]) ?_ (fun hj_1 => ?_)
  · rintro _ _ ⟨rfl, rfl⟩
    refine Nrm.seq ?_
    refine Tri.cond (b := y22) rfl (fun g_1 => ?_) (fun g_1 => ?_)
    · replace h := if_tt g_1 h
      refine Tri.seq ?_
      refine Tri.reg (l := [0]) rfl ?_
      refine F.q rfl rfl rfl (wanted_none rfl) (r_assign rfl) ?_
      refine F.nil ?_
      refine Nrm.seq ?_
      refine Tri.ret ?_
      refine Rtn.then ?_
      cases h
      exact Rtn.body (.tmp rfl .nil) (fun w hw => ⟨rfl, hw.ext⟩)
    · replace h := if_ff g_1 h
      refine Tri.skip ?_
      refine Nrm.seq ?_
      refine Tri.seq ?_
      refine Tri.seq ?_
      refine Tri.reg (l := [0, 1, 2, 3]) rfl ?_
      refine F.q rfl rfl rfl (wanted_none rfl) (r_fieldAddr tf31_1 rfl) ?_
      refine F.q rfl rfl rfl (wanted_none rfl) (r_load ta22 rfl (fun w hw => cell_1 (box_cells (i := 0) rfl w hw) rfl)) ?_
      refine F.q rfl rfl rfl (wanted_none rfl) (r_len Try.underlying22 rfl hl_va0_1) ?_
      refine F.q rfl rfl rfl (wanted_none rfl) (r_move rfl) ?_
      refine F.nil ?_
      refine Nrm.seq ?_
      obtain ⟨s0, hE_2, h⟩ := bind_some h
      refine Tri.block ?_
      refine Tri.only [1, 24, 25, 26] rfl ?_
      refine Tri.pick [0] rfl rfl ?_
      refine Tri.rounds (fun n e' C' => ∃ (x26' : Int), impl_IsMaze.l0 k a0_0 a0_1 n x26' = some s0 ∧ e' = [(1, .pointer (some ⟨b1_1, 0, none⟩)), (24, va0_1), (25, .int .i64 (a0_1.length : Int)), (26, .int .i64 x26')] ∧ C' = Sep w noM [R.box b1_1 31 [.int .i64 a0_0, va0_1, va0_2]]) k ?_ ?_ ?_
      · exact ⟨0, hE_2, rfl, rfl⟩
      · rintro _ _ ⟨_, hE_2, _⟩
        rw [impl_IsMaze.l0.eq_1] at hE_2; cases hE_2
      · rintro n_1 _ _ ⟨x26, hE_2, rfl, rfl⟩ ih_1
        rw [impl_IsMaze.l0.eq_2] at hE_2
        refine Tri.seq ?_
        refine Tri.reg (l := [0]) rfl ?_
        refine F.q rfl rfl rfl (wanted_none rfl) (r_lss rfl rfl) ?_
        refine F.nil ?_
        refine Nrm.seq ?_
        refine Tri.seq ?_
        refine Tri.cond (b := decide (x26 < (a0_1.length : Int))) rfl (fun g_2 => ?_) (fun g_2 => ?_)
        · replace hE_2 := if_tt g_2 hE_2
          refine Tri.skip ?_
          refine Nrm.seq ?_
          refine Tri.seq ?_
          refine Tri.block ?_
          refine Tri.seq ?_
          obtain ⟨t29, h29, hE_2⟩ := bind_some hE_2
          refine Tri.reg (l := [0, 1, 2, 3, 4, 5]) rfl ?_
          refine F.q rfl rfl rfl (wanted_none rfl) (r_move rfl) ?_
          refine F.q rfl rfl rfl (wanted_none rfl) (r_indexAddrS Try.underlying22 ti116 rfl hl_va0_1 rfl (rdl_some h29).1 (rdl_some h29).2.1) ?_
          refine F.q rfl rfl rfl (wanted_none rfl) (r_loadA ta116 ti116 rfl rfl (fun w hw => (Rd.flat ((fun _ hw => hr_a0_1.sep hw) w hw) (rdl_some h29).2.2))) ?_
          refine F.m rfl rfl rfl (wanted_none rfl) (m_alloc ti116) ?_
          rintro _ _ ⟨b4_1, rfl, rfl⟩
          refine F.q rfl rfl rfl (wanted_none rfl) (r_assign rfl) ?_
          refine F.ef0 rfl rfl (wanted_none rfl) (d_storeG0 (i := 0) (cs2 := [.int .i64 t29.1, .int .i64 t29.2.1, .int .i64 t29.2.2]) ti116 rfl rfl rfl rfl rfl (Nat.le_of_ble_eq_true rfl) (lf_cons rfl (lf_cons rfl (lf_cons rfl lf_nil)))) ?_
          rintro _ _ ⟨rfl, rfl⟩
          refine F.nil ?_
          refine Nrm.seq ?_
          refine Tri.seq ?_
          obtain ⟨y68, hE_3, hE_2⟩ := bind_some hE_2
          refine Tri.cut (fun e' C' => e' = [(1, .pointer (some ⟨b1_1, 0, none⟩)), (24, va0_1), (25, .int .i64 (a0_1.length : Int)), (26, .int .i64 x26), (68, .bool y68)] ∧ C' = Sep w noM [R.box b1_1 31 [.int .i64 a0_0, va0_1, va0_2]]) ?_ (fun hj_2 => ?_)
          · rintro _ _ ⟨rfl, rfl⟩
            refine Nrm.seq ?_
            refine Tri.cond (b := y68) rfl (fun g_3 => ?_) (fun g_3 => ?_)
            · replace hE_2 := if_tt g_3 hE_2
              refine Tri.seq ?_
              refine Tri.reg (l := [0]) rfl ?_
              refine F.q rfl rfl rfl (wanted_none rfl) (r_assign rfl) ?_
              refine F.nil ?_
              refine Nrm.seq ?_
              refine Tri.ret ?_
              refine Rtn.block ?_
              refine Rtn.then ?_
              refine Rtn.then ?_
              refine Rtn.block ?_
              refine Rtn.then ?_
              cases hE_2
              replace h := Lr_inr h
              cases h
              exact Rtn.body (.tmp rfl .nil) (fun w hw => ⟨rfl, hw.ext⟩)
            · replace hE_2 := if_ff g_3 hE_2
              refine Tri.skip ?_
              refine Nrm.block ?_
              refine Nrm.seq ?_
              refine Tri.reg (l := [0, 1]) rfl ?_
              refine F.q rfl rfl rfl (wanted_none rfl) (r_add rfl rfl) ?_
              refine F.q rfl rfl rfl (wanted_none rfl) (r_move rfl) ?_
              refine F.nil ?_
              refine Nrm.round ?_
              refine Rnd.only [1, 24, 25, 26] rfl ?_
              refine Rnd.pick [0] rfl rfl ?_
              exact ih_1 _ _ ⟨w64 (x26 + 1), hE_2, rfl, rfl⟩
          · rcases Bool.eq_false_or_eq_true (decide (t29.1 < 0)) with g34 | g34
            · replace hE_3 := if_tt g34 hE_3
              refine Tri.drawA mixedT Sep.up [(0, true), (1, true), (2, true), (3, true), (4, true), (5, true), (6, true), (7, true), (8, true), (9, true), (10, true), (11, true), (12, true), (13, true), (14, true), (15, true), (16, true), (17, true), (18, true), (19, true), (20, true), (21, true), (22, true), (23, true), (24, true), (25, true), (26, true), (27, true), (28, true), (29, true), (30, true), (31, true), (32, true), (33, true), (34, true), (35, true), (36, true), (37, true)] [] (by kernel_rfl) ?_
              refine S.q rfl rfl rfl (wanted_none rfl) (r_indexAddrA Try.underlying116 ti3 rfl rfl (by decide) (by decide)) ?_
              refine S.q rfl rfl rfl (wanted_none rfl) (r_load ta3 rfl (fun w hw => cell_1 (box_cells (i := 0) rfl w hw) rfl)) ?_
              refine S.q rfl rfl rfl (wanted_none rfl) (r_lss rfl rfl) ?_
              refine S.q rfl rfl rfl (wanted_none rfl) (r_move rfl) ?_
              refine S.sk rfl rfl rfl (wf rfl rfl rfl g34) ?_
              refine S.sk rfl rfl rfl (wf rfl rfl rfl g34) ?_
              refine S.sk rfl rfl rfl (wf rfl rfl rfl g34) ?_
              refine S.sk rfl rfl rfl (wf rfl rfl rfl g34) ?_
              refine S.sk rfl rfl rfl (wf rfl rfl rfl g34) ?_
              refine S.q rfl rfl rfl (wanted_none rfl) (r_pick rfl rfl g34) ?_
              refine S.q rfl rfl rfl (wanted_none rfl) (r_move rfl) ?_
              refine S.sk rfl rfl rfl (wf rfl rfl rfl rfl) ?_
              refine S.sk rfl rfl rfl (wf rfl rfl rfl rfl) ?_
              refine S.sk rfl rfl rfl (wf rfl rfl rfl rfl) ?_
              refine S.sk rfl rfl rfl (wf rfl rfl rfl rfl) ?_
              refine S.sk rfl rfl rfl (wf rfl rfl rfl rfl) ?_
              refine S.q rfl rfl rfl (wanted_none rfl) (r_pick rfl rfl rfl) ?_
              refine S.q rfl rfl rfl (wanted_none rfl) (r_move rfl) ?_
              refine S.sk rfl rfl rfl (wf rfl rfl rfl rfl) ?_
              refine S.sk rfl rfl rfl (wf rfl rfl rfl rfl) ?_
              refine S.sk rfl rfl rfl (wf rfl rfl rfl rfl) ?_
              refine S.sk rfl rfl rfl (wf rfl rfl rfl rfl) ?_
              refine S.q rfl rfl rfl (wanted_none rfl) (r_pick rfl rfl rfl) ?_
              refine S.q rfl rfl rfl (wanted_none rfl) (r_move rfl) ?_
              refine S.sk rfl rfl rfl (wf rfl rfl rfl rfl) ?_
              refine S.sk rfl rfl rfl (wf rfl rfl rfl rfl) ?_
              refine S.sk rfl rfl rfl (wf rfl rfl rfl rfl) ?_
              refine S.sk rfl rfl rfl (wanted_undef rfl rfl rfl) ?_
              refine S.sk rfl rfl rfl (wanted_undef rfl rfl rfl) ?_
              refine S.sk rfl rfl rfl (wanted_undef rfl rfl rfl) ?_
              refine S.sk rfl rfl rfl (wanted_undef rfl rfl rfl) ?_
              refine S.sk rfl rfl rfl (wanted_undef rfl rfl rfl) ?_
              refine S.sk rfl rfl rfl (wanted_undef rfl rfl rfl) ?_
              refine S.sk rfl rfl rfl (wanted_undef rfl rfl rfl) ?_
              refine S.sk rfl rfl rfl (wanted_undef rfl rfl rfl) ?_
              refine S.sk rfl rfl rfl (wanted_undef rfl rfl rfl) ?_
              refine S.sk rfl rfl rfl (wf rfl rfl rfl rfl) ?_
              refine S.q rfl rfl rfl (wanted_none rfl) (r_pick rfl rfl rfl) ?_
              refine S.nil ?_
              refine F.nil ?_
              cases hE_3
              refine Nrm.only [1, 24, 25, 26, 68] rfl ?_
              refine Nrm.pick [1] rfl rfl ?_
              exact hj_2 _ _ ⟨rfl, rfl⟩
            · replace hE_3 := if_ff g34 hE_3
              rcases Bool.eq_false_or_eq_true (decide (t29.1 ≥ t29.2.1)) with g41 | g41
              · replace hE_3 := if_tt g41 hE_3
                refine Tri.drawA mixedT Sep.up [(0, true), (1, true), (2, true), (3, true), (4, true), (5, true), (6, true), (7, true), (8, true), (9, true), (10, true), (11, true), (12, true), (13, true), (14, true), (15, true), (16, true), (17, true), (18, true), (19, true), (20, true), (21, true), (22, true), (23, true), (24, true), (25, true), (26, true), (27, true), (28, true), (29, true), (30, true), (31, true), (32, true), (33, true), (34, true), (35, true), (36, true), (37, true)] [] (by kernel_rfl) ?_
                refine S.q rfl rfl rfl (wanted_none rfl) (r_indexAddrA Try.underlying116 ti3 rfl rfl (by decide) (by decide)) ?_
                refine S.q rfl rfl rfl (wanted_none rfl) (r_load ta3 rfl (fun w hw => cell_1 (box_cells (i := 0) rfl w hw) rfl)) ?_
                refine S.q rfl rfl rfl (wanted_none rfl) (r_lss rfl rfl) ?_
                refine S.q rfl rfl rfl (wanted_none rfl) (r_move rfl) ?_
                refine S.q rfl rfl rfl (wg rfl rfl rfl g34) (r_indexAddrA Try.underlying116 ti3 rfl rfl (by decide) (by decide)) ?_
                refine S.q rfl rfl rfl (wg rfl rfl rfl g34) (r_load ta3 rfl (fun w hw => cell_1 (box_cells (i := 0) rfl w hw) rfl)) ?_
                refine S.q rfl rfl rfl (wg rfl rfl rfl g34) (r_indexAddrA Try.underlying116 ti3 rfl rfl (by decide) (by decide)) ?_
                refine S.q rfl rfl rfl (wg rfl rfl rfl g34) (r_load ta3 rfl (fun w hw => cell_1 (box_cells (i := 0) rfl w hw) rfl)) ?_
                refine S.q rfl rfl rfl (wg rfl rfl rfl g34) (r_geq rfl rfl) ?_
                refine S.q rfl rfl rfl (wanted_none rfl) (r_pickf rfl rfl g34) ?_
                refine S.q rfl rfl rfl (wanted_none rfl) (r_move rfl) ?_
                refine S.sk rfl rfl rfl (wf rfl rfl rfl g41) ?_
                refine S.sk rfl rfl rfl (wf rfl rfl rfl g41) ?_
                refine S.sk rfl rfl rfl (wf rfl rfl rfl g41) ?_
                refine S.sk rfl rfl rfl (wf rfl rfl rfl g41) ?_
                refine S.sk rfl rfl rfl (wf rfl rfl rfl g41) ?_
                refine S.q rfl rfl rfl (wanted_none rfl) (r_pick rfl rfl g41) ?_
                refine S.q rfl rfl rfl (wanted_none rfl) (r_move rfl) ?_
                refine S.sk rfl rfl rfl (wf rfl rfl rfl rfl) ?_
                refine S.sk rfl rfl rfl (wf rfl rfl rfl rfl) ?_
                refine S.sk rfl rfl rfl (wf rfl rfl rfl rfl) ?_
                refine S.sk rfl rfl rfl (wf rfl rfl rfl rfl) ?_
                refine S.q rfl rfl rfl (wanted_none rfl) (r_pick rfl rfl rfl) ?_
                refine S.q rfl rfl rfl (wanted_none rfl) (r_move rfl) ?_
                refine S.sk rfl rfl rfl (wf rfl rfl rfl rfl) ?_
                refine S.sk rfl rfl rfl (wf rfl rfl rfl rfl) ?_
                refine S.sk rfl rfl rfl (wf rfl rfl rfl rfl) ?_
                refine S.sk rfl rfl rfl (wanted_undef rfl rfl rfl) ?_
                refine S.sk rfl rfl rfl (wanted_undef rfl rfl rfl) ?_
                refine S.sk rfl rfl rfl (wanted_undef rfl rfl rfl) ?_
                refine S.sk rfl rfl rfl (wanted_undef rfl rfl rfl) ?_
                refine S.sk rfl rfl rfl (wanted_undef rfl rfl rfl) ?_
                refine S.sk rfl rfl rfl (wanted_undef rfl rfl rfl) ?_
                refine S.sk rfl rfl rfl (wanted_undef rfl rfl rfl) ?_
                refine S.sk rfl rfl rfl (wanted_undef rfl rfl rfl) ?_
                refine S.sk rfl rfl rfl (wanted_undef rfl rfl rfl) ?_
                refine S.sk rfl rfl rfl (wf rfl rfl rfl rfl) ?_
                refine S.q rfl rfl rfl (wanted_none rfl) (r_pick rfl rfl rfl) ?_
                refine S.nil ?_
                refine F.nil ?_
                cases hE_3
                refine Nrm.only [1, 24, 25, 26, 68] rfl ?_
                refine Nrm.pick [1] rfl rfl ?_
                exact hj_2 _ _ ⟨rfl, rfl⟩
              · replace hE_3 := if_ff g41 hE_3
                rcases Bool.eq_false_or_eq_true (decide (t29.2.1 ≥ a0_0)) with g48 | g48
                · replace hE_3 := if_tt g48 hE_3
                  refine Tri.drawA mixedT Sep.up [(0, true), (1, true), (2, true), (3, true), (4, true), (5, true), (6, true), (7, true), (8, true), (9, true), (10, true), (11, true), (12, true), (13, true), (14, true), (15, true), (16, true), (17, true), (18, true), (19, true), (20, true), (21, true), (22, true), (23, true), (24, true), (25, true), (26, true), (27, true), (28, true), (29, true), (30, true), (31, true), (32, true), (33, true), (34, true), (35, true), (36, true), (37, true)] [] (by kernel_rfl) ?_
                  refine S.q rfl rfl rfl (wanted_none rfl) (r_indexAddrA Try.underlying116 ti3 rfl rfl (by decide) (by decide)) ?_
                  refine S.q rfl rfl rfl (wanted_none rfl) (r_load ta3 rfl (fun w hw => cell_1 (box_cells (i := 0) rfl w hw) rfl)) ?_
                  refine S.q rfl rfl rfl (wanted_none rfl) (r_lss rfl rfl) ?_
                  refine S.q rfl rfl rfl (wanted_none rfl) (r_move rfl) ?_
                  refine S.q rfl rfl rfl (wg rfl rfl rfl g34) (r_indexAddrA Try.underlying116 ti3 rfl rfl (by decide) (by decide)) ?_
                  refine S.q rfl rfl rfl (wg rfl rfl rfl g34) (r_load ta3 rfl (fun w hw => cell_1 (box_cells (i := 0) rfl w hw) rfl)) ?_
                  refine S.q rfl rfl rfl (wg rfl rfl rfl g34) (r_indexAddrA Try.underlying116 ti3 rfl rfl (by decide) (by decide)) ?_
                  refine S.q rfl rfl rfl (wg rfl rfl rfl g34) (r_load ta3 rfl (fun w hw => cell_1 (box_cells (i := 0) rfl w hw) rfl)) ?_
                  refine S.q rfl rfl rfl (wg rfl rfl rfl g34) (r_geq rfl rfl) ?_
                  refine S.q rfl rfl rfl (wanted_none rfl) (r_pickf rfl rfl g34) ?_
                  refine S.q rfl rfl rfl (wanted_none rfl) (r_move rfl) ?_
                  refine S.q rfl rfl rfl (wg rfl rfl rfl g41) (r_indexAddrA Try.underlying116 ti3 rfl rfl (by decide) (by decide)) ?_
                  refine S.q rfl rfl rfl (wg rfl rfl rfl g41) (r_load ta3 rfl (fun w hw => cell_1 (box_cells (i := 0) rfl w hw) rfl)) ?_
                  refine S.q rfl rfl rfl (wg rfl rfl rfl g41) (r_fieldAddr tf31_0 rfl) ?_
                  refine S.q rfl rfl rfl (wg rfl rfl rfl g41) (r_load ta3 rfl (fun w hw => cell_1 (box_cells (i := 1) rfl w hw) rfl)) ?_
                  refine S.q rfl rfl rfl (wg rfl rfl rfl g41) (r_geq rfl rfl) ?_
                  refine S.q rfl rfl rfl (wanted_none rfl) (r_pickf rfl rfl g41) ?_
                  refine S.q rfl rfl rfl (wanted_none rfl) (r_move rfl) ?_
                  refine S.sk rfl rfl rfl (wf rfl rfl rfl g48) ?_
                  refine S.sk rfl rfl rfl (wf rfl rfl rfl g48) ?_
                  refine S.sk rfl rfl rfl (wf rfl rfl rfl g48) ?_
                  refine S.sk rfl rfl rfl (wf rfl rfl rfl g48) ?_
                  refine S.q rfl rfl rfl (wanted_none rfl) (r_pick rfl rfl g48) ?_
                  refine S.q rfl rfl rfl (wanted_none rfl) (r_move rfl) ?_
                  refine S.sk rfl rfl rfl (wf rfl rfl rfl rfl) ?_
                  refine S.sk rfl rfl rfl (wf rfl rfl rfl rfl) ?_
                  refine S.sk rfl rfl rfl (wf rfl rfl rfl rfl) ?_
                  refine S.sk rfl rfl rfl (wanted_undef rfl rfl rfl) ?_
                  refine S.sk rfl rfl rfl (wanted_undef rfl rfl rfl) ?_
                  refine S.sk rfl rfl rfl (wanted_undef rfl rfl rfl) ?_
                  refine S.sk rfl rfl rfl (wanted_undef rfl rfl rfl) ?_
                  refine S.sk rfl rfl rfl (wanted_undef rfl rfl rfl) ?_
                  refine S.sk rfl rfl rfl (wanted_undef rfl rfl rfl) ?_
                  refine S.sk rfl rfl rfl (wanted_undef rfl rfl rfl) ?_
                  refine S.sk rfl rfl rfl (wanted_undef rfl rfl rfl) ?_
                  refine S.sk rfl rfl rfl (wanted_undef rfl rfl rfl) ?_
                  refine S.sk rfl rfl rfl (wf rfl rfl rfl rfl) ?_
                  refine S.q rfl rfl rfl (wanted_none rfl) (r_pick rfl rfl rfl) ?_
                  refine S.nil ?_
                  refine F.nil ?_
                  cases hE_3
                  refine Nrm.only [1, 24, 25, 26, 68] rfl ?_
                  refine Nrm.pick [1] rfl rfl ?_
                  exact hj_2 _ _ ⟨rfl, rfl⟩
                · replace hE_3 := if_ff g48 hE_3
                  obtain ⟨t51, h51, hE_3⟩ := bind_some hE_3
                  rcases Bool.eq_false_or_eq_true (!t51) with g54 | g54
                  · replace hE_3 := if_tt g54 hE_3
                    refine Tri.drawA mixedT Sep.up [(0, true), (1, true), (2, true), (3, true), (4, true), (5, true), (6, true), (7, true), (8, true), (9, true), (10, true), (11, true), (12, true), (13, true), (14, true), (15, true), (16, true), (17, true), (18, true), (19, true), (20, true), (21, true), (22, true), (23, true), (24, true), (25, true), (26, true), (27, true), (28, true), (29, true), (30, true), (31, true), (32, true), (33, true), (34, true), (35, true), (36, true), (37, true)] [] (by kernel_rfl) ?_
                    refine S.q rfl rfl rfl (wanted_none rfl) (r_indexAddrA Try.underlying116 ti3 rfl rfl (by decide) (by decide)) ?_
                    refine S.q rfl rfl rfl (wanted_none rfl) (r_load ta3 rfl (fun w hw => cell_1 (box_cells (i := 0) rfl w hw) rfl)) ?_
                    refine S.q rfl rfl rfl (wanted_none rfl) (r_lss rfl rfl) ?_
                    refine S.q rfl rfl rfl (wanted_none rfl) (r_move rfl) ?_
                    refine S.q rfl rfl rfl (wg rfl rfl rfl g34) (r_indexAddrA Try.underlying116 ti3 rfl rfl (by decide) (by decide)) ?_
                    refine S.q rfl rfl rfl (wg rfl rfl rfl g34) (r_load ta3 rfl (fun w hw => cell_1 (box_cells (i := 0) rfl w hw) rfl)) ?_
                    refine S.q rfl rfl rfl (wg rfl rfl rfl g34) (r_indexAddrA Try.underlying116 ti3 rfl rfl (by decide) (by decide)) ?_
                    refine S.q rfl rfl rfl (wg rfl rfl rfl g34) (r_load ta3 rfl (fun w hw => cell_1 (box_cells (i := 0) rfl w hw) rfl)) ?_
                    refine S.q rfl rfl rfl (wg rfl rfl rfl g34) (r_geq rfl rfl) ?_
                    refine S.q rfl rfl rfl (wanted_none rfl) (r_pickf rfl rfl g34) ?_
                    refine S.q rfl rfl rfl (wanted_none rfl) (r_move rfl) ?_
                    refine S.q rfl rfl rfl (wg rfl rfl rfl g41) (r_indexAddrA Try.underlying116 ti3 rfl rfl (by decide) (by decide)) ?_
                    refine S.q rfl rfl rfl (wg rfl rfl rfl g41) (r_load ta3 rfl (fun w hw => cell_1 (box_cells (i := 0) rfl w hw) rfl)) ?_
                    refine S.q rfl rfl rfl (wg rfl rfl rfl g41) (r_fieldAddr tf31_0 rfl) ?_
                    refine S.q rfl rfl rfl (wg rfl rfl rfl g41) (r_load ta3 rfl (fun w hw => cell_1 (box_cells (i := 1) rfl w hw) rfl)) ?_
                    refine S.q rfl rfl rfl (wg rfl rfl rfl g41) (r_geq rfl rfl) ?_
                    refine S.q rfl rfl rfl (wanted_none rfl) (r_pickf rfl rfl g41) ?_
                    refine S.q rfl rfl rfl (wanted_none rfl) (r_move rfl) ?_
                    refine S.q rfl rfl rfl (wg rfl rfl rfl g48) (r_indexAddrA Try.underlying116 ti3 rfl rfl (by decide) (by decide)) ?_
                    refine S.q rfl rfl rfl (wg rfl rfl rfl g48) (r_load ta3 rfl (fun w hw => cell_1 (box_cells (i := 0) rfl w hw) rfl)) ?_
                    refine S.qc rfl rfl rfl (wg rfl rfl rfl g48) (q_callF (xs := _) rfl ok101 rfl rfl (fun w hw => impl_isSet.ok h51 w )) ?_
                    refine S.q rfl rfl rfl (wg rfl rfl rfl g48) (r_not rfl) ?_
                    refine S.q rfl rfl rfl (wanted_none rfl) (r_pickf rfl rfl g48) ?_
                    refine S.q rfl rfl rfl (wanted_none rfl) (r_move rfl) ?_
                    refine S.sk rfl rfl rfl (wf rfl rfl rfl g54) ?_
                    refine S.sk rfl rfl rfl (wf rfl rfl rfl g54) ?_
                    refine S.sk rfl rfl rfl (wf rfl rfl rfl g54) ?_
                    refine S.sk rfl rfl rfl (wanted_undef rfl rfl rfl) ?_
                    refine S.sk rfl rfl rfl (wanted_undef rfl rfl rfl) ?_
                    refine S.sk rfl rfl rfl (wanted_undef rfl rfl rfl) ?_
                    refine S.sk rfl rfl rfl (wanted_undef rfl rfl rfl) ?_
                    refine S.sk rfl rfl rfl (wanted_undef rfl rfl rfl) ?_
                    refine S.sk rfl rfl rfl (wanted_undef rfl rfl rfl) ?_
                    refine S.sk rfl rfl rfl (wanted_undef rfl rfl rfl) ?_
                    refine S.sk rfl rfl rfl (wanted_undef rfl rfl rfl) ?_
                    refine S.sk rfl rfl rfl (wanted_undef rfl rfl rfl) ?_
                    refine S.sk rfl rfl rfl (wf rfl rfl rfl g54) ?_
                    refine S.q rfl rfl rfl (wanted_none rfl) (r_pick rfl rfl g54) ?_
                    refine S.nil ?_
                    refine F.nil ?_
                    cases hE_3
                    refine Nrm.only [1, 24, 25, 26, 68] rfl ?_
                    refine Nrm.pick [1] rfl rfl ?_
                    exact hj_2 _ _ ⟨rfl, rfl⟩
                  · replace hE_3 := if_ff g54 hE_3
                    rcases Bool.eq_false_or_eq_true (decide (x26 > 0)) with g57 | g57
                    · replace hE_3 := if_tt g57 hE_3
                      obtain ⟨t62, h62, hE_3⟩ := bind_some hE_3
                      obtain ⟨t65, h65, hE_3⟩ := bind_some hE_3
                      refine Tri.drawA mixedT Sep.up [(0, true), (1, true), (2, true), (3, true), (4, true), (5, true), (6, true), (7, true), (8, true), (9, true), (10, true), (11, true), (12, true), (13, true), (14, true), (15, true), (16, true), (17, true), (18, true), (19, true), (20, true), (21, true), (22, true), (23, true), (24, true), (25, true), (26, true), (27, true), (28, true), (29, true), (30, true), (31, true), (32, true), (33, true), (34, true), (35, true), (36, true), (37, true)] [] (by kernel_rfl) ?_
                      refine S.q rfl rfl rfl (wanted_none rfl) (r_indexAddrA Try.underlying116 ti3 rfl rfl (by decide) (by decide)) ?_
                      refine S.q rfl rfl rfl (wanted_none rfl) (r_load ta3 rfl (fun w hw => cell_1 (box_cells (i := 0) rfl w hw) rfl)) ?_
                      refine S.q rfl rfl rfl (wanted_none rfl) (r_lss rfl rfl) ?_
                      refine S.q rfl rfl rfl (wanted_none rfl) (r_move rfl) ?_
                      refine S.q rfl rfl rfl (wg rfl rfl rfl g34) (r_indexAddrA Try.underlying116 ti3 rfl rfl (by decide) (by decide)) ?_
                      refine S.q rfl rfl rfl (wg rfl rfl rfl g34) (r_load ta3 rfl (fun w hw => cell_1 (box_cells (i := 0) rfl w hw) rfl)) ?_
                      refine S.q rfl rfl rfl (wg rfl rfl rfl g34) (r_indexAddrA Try.underlying116 ti3 rfl rfl (by decide) (by decide)) ?_
                      refine S.q rfl rfl rfl (wg rfl rfl rfl g34) (r_load ta3 rfl (fun w hw => cell_1 (box_cells (i := 0) rfl w hw) rfl)) ?_
                      refine S.q rfl rfl rfl (wg rfl rfl rfl g34) (r_geq rfl rfl) ?_
                      refine S.q rfl rfl rfl (wanted_none rfl) (r_pickf rfl rfl g34) ?_
                      refine S.q rfl rfl rfl (wanted_none rfl) (r_move rfl) ?_
                      refine S.q rfl rfl rfl (wg rfl rfl rfl g41) (r_indexAddrA Try.underlying116 ti3 rfl rfl (by decide) (by decide)) ?_
                      refine S.q rfl rfl rfl (wg rfl rfl rfl g41) (r_load ta3 rfl (fun w hw => cell_1 (box_cells (i := 0) rfl w hw) rfl)) ?_
                      refine S.q rfl rfl rfl (wg rfl rfl rfl g41) (r_fieldAddr tf31_0 rfl) ?_
                      refine S.q rfl rfl rfl (wg rfl rfl rfl g41) (r_load ta3 rfl (fun w hw => cell_1 (box_cells (i := 1) rfl w hw) rfl)) ?_
                      refine S.q rfl rfl rfl (wg rfl rfl rfl g41) (r_geq rfl rfl) ?_
                      refine S.q rfl rfl rfl (wanted_none rfl) (r_pickf rfl rfl g41) ?_
                      refine S.q rfl rfl rfl (wanted_none rfl) (r_move rfl) ?_
                      refine S.q rfl rfl rfl (wg rfl rfl rfl g48) (r_indexAddrA Try.underlying116 ti3 rfl rfl (by decide) (by decide)) ?_
                      refine S.q rfl rfl rfl (wg rfl rfl rfl g48) (r_load ta3 rfl (fun w hw => cell_1 (box_cells (i := 0) rfl w hw) rfl)) ?_
                      refine S.qc rfl rfl rfl (wg rfl rfl rfl g48) (q_callF (xs := _) rfl ok101 rfl rfl (fun w hw => impl_isSet.ok h51 w )) ?_
                      refine S.q rfl rfl rfl (wg rfl rfl rfl g48) (r_not rfl) ?_
                      refine S.q rfl rfl rfl (wanted_none rfl) (r_pickf rfl rfl g48) ?_
                      refine S.q rfl rfl rfl (wanted_none rfl) (r_move rfl) ?_
                      refine S.q rfl rfl rfl (wg rfl rfl rfl g54) (r_move rfl) ?_
                      refine S.q rfl rfl rfl (wg rfl rfl rfl g54) (r_gtr rfl rfl) ?_
                      refine S.q rfl rfl rfl (wg rfl rfl rfl g54) (r_move rfl) ?_
                      refine S.q rfl rfl rfl (wg rfl rfl rfl g57) (r_fieldAddr tf31_1 rfl) ?_
                      refine S.q rfl rfl rfl (wg rfl rfl rfl g57) (r_load ta22 rfl (fun w hw => cell_1 (box_cells (i := 1) rfl w hw) rfl)) ?_
                      refine S.q rfl rfl rfl (wg rfl rfl rfl g57) (r_move rfl) ?_
                      refine S.q rfl rfl rfl (wg rfl rfl rfl g57) (r_sub rfl rfl) ?_
                      refine S.q rfl rfl rfl (wg rfl rfl rfl g57) (r_indexAddrS Try.underlying22 ti116 rfl hl_va0_1 rfl (rdl_some h62).1 (rdl_some h62).2.1) ?_
                      refine S.q rfl rfl rfl (wg rfl rfl rfl g57) (r_loadA ta116 ti116 rfl rfl (fun w hw => (Rd.flat ((fun _ hw => hr_a0_1.sep hw) w hw) (rdl_some h62).2.2))) ?_
                      refine S.q rfl rfl rfl (wg rfl rfl rfl g57) (r_loadA ta116 ti116 rfl rfl (fun w hw => (box_cells (i := 0) rfl w hw))) ?_
                      refine S.qc rfl rfl rfl (wg rfl rfl rfl g57) (q_callF (xs := _) rfl ok135 rfl rfl (fun w hw => impl_compareDoors.ok h65 w )) ?_
                      refine S.q rfl rfl rfl (wg rfl rfl rfl g57) (r_geq rfl rfl) ?_
                      refine S.q rfl rfl rfl (wg rfl rfl rfl g54) (r_pick rfl rfl g57) ?_
                      refine S.q rfl rfl rfl (wanted_none rfl) (r_pickf rfl rfl g54) ?_
                      refine S.nil ?_
                      refine F.nil ?_
                      cases hE_3
                      refine Nrm.only [1, 24, 25, 26, 68] rfl ?_
                      refine Nrm.pick [1] rfl rfl ?_
                      exact hj_2 _ _ ⟨rfl, rfl⟩
                    · replace hE_3 := if_ff g57 hE_3
                      refine Tri.drawA mixedT Sep.up [(0, true), (1, true), (2, true), (3, true), (4, true), (5, true), (6, true), (7, true), (8, true), (9, true), (10, true), (11, true), (12, true), (13, true), (14, true), (15, true), (16, true), (17, true), (18, true), (19, true), (20, true), (21, true), (22, true), (23, true), (24, true), (25, true), (26, true), (27, true), (28, true), (29, true), (30, true), (31, true), (32, true), (33, true), (34, true), (35, true), (36, true), (37, true)] [] (by kernel_rfl) ?_
                      refine S.q rfl rfl rfl (wanted_none rfl) (r_indexAddrA Try.underlying116 ti3 rfl rfl (by decide) (by decide)) ?_
                      refine S.q rfl rfl rfl (wanted_none rfl) (r_load ta3 rfl (fun w hw => cell_1 (box_cells (i := 0) rfl w hw) rfl)) ?_
                      refine S.q rfl rfl rfl (wanted_none rfl) (r_lss rfl rfl) ?_
                      refine S.q rfl rfl rfl (wanted_none rfl) (r_move rfl) ?_
                      refine S.q rfl rfl rfl (wg rfl rfl rfl g34) (r_indexAddrA Try.underlying116 ti3 rfl rfl (by decide) (by decide)) ?_
                      refine S.q rfl rfl rfl (wg rfl rfl rfl g34) (r_load ta3 rfl (fun w hw => cell_1 (box_cells (i := 0) rfl w hw) rfl)) ?_
                      refine S.q rfl rfl rfl (wg rfl rfl rfl g34) (r_indexAddrA Try.underlying116 ti3 rfl rfl (by decide) (by decide)) ?_
                      refine S.q rfl rfl rfl (wg rfl rfl rfl g34) (r_load ta3 rfl (fun w hw => cell_1 (box_cells (i := 0) rfl w hw) rfl)) ?_
                      refine S.q rfl rfl rfl (wg rfl rfl rfl g34) (r_geq rfl rfl) ?_
                      refine S.q rfl rfl rfl (wanted_none rfl) (r_pickf rfl rfl g34) ?_
                      refine S.q rfl rfl rfl (wanted_none rfl) (r_move rfl) ?_
                      refine S.q rfl rfl rfl (wg rfl rfl rfl g41) (r_indexAddrA Try.underlying116 ti3 rfl rfl (by decide) (by decide)) ?_
                      refine S.q rfl rfl rfl (wg rfl rfl rfl g41) (r_load ta3 rfl (fun w hw => cell_1 (box_cells (i := 0) rfl w hw) rfl)) ?_
                      refine S.q rfl rfl rfl (wg rfl rfl rfl g41) (r_fieldAddr tf31_0 rfl) ?_
                      refine S.q rfl rfl rfl (wg rfl rfl rfl g41) (r_load ta3 rfl (fun w hw => cell_1 (box_cells (i := 1) rfl w hw) rfl)) ?_
                      refine S.q rfl rfl rfl (wg rfl rfl rfl g41) (r_geq rfl rfl) ?_
                      refine S.q rfl rfl rfl (wanted_none rfl) (r_pickf rfl rfl g41) ?_
                      refine S.q rfl rfl rfl (wanted_none rfl) (r_move rfl) ?_
                      refine S.q rfl rfl rfl (wg rfl rfl rfl g48) (r_indexAddrA Try.underlying116 ti3 rfl rfl (by decide) (by decide)) ?_
                      refine S.q rfl rfl rfl (wg rfl rfl rfl g48) (r_load ta3 rfl (fun w hw => cell_1 (box_cells (i := 0) rfl w hw) rfl)) ?_
                      refine S.qc rfl rfl rfl (wg rfl rfl rfl g48) (q_callF (xs := _) rfl ok101 rfl rfl (fun w hw => impl_isSet.ok h51 w )) ?_
                      refine S.q rfl rfl rfl (wg rfl rfl rfl g48) (r_not rfl) ?_
                      refine S.q rfl rfl rfl (wanted_none rfl) (r_pickf rfl rfl g48) ?_
                      refine S.q rfl rfl rfl (wanted_none rfl) (r_move rfl) ?_
                      refine S.q rfl rfl rfl (wg rfl rfl rfl g54) (r_move rfl) ?_
                      refine S.q rfl rfl rfl (wg rfl rfl rfl g54) (r_gtr rfl rfl) ?_
                      refine S.q rfl rfl rfl (wg rfl rfl rfl g54) (r_move rfl) ?_
                      refine S.sk rfl rfl rfl (wf rfl rfl rfl g57) ?_
                      refine S.sk rfl rfl rfl (wf rfl rfl rfl g57) ?_
                      refine S.sk rfl rfl rfl (wf rfl rfl rfl g57) ?_
                      refine S.sk rfl rfl rfl (wf rfl rfl rfl g57) ?_
                      refine S.sk rfl rfl rfl (wf rfl rfl rfl g57) ?_
                      refine S.sk rfl rfl rfl (wf rfl rfl rfl g57) ?_
                      refine S.sk rfl rfl rfl (wf rfl rfl rfl g57) ?_
                      refine S.sk rfl rfl rfl (wf rfl rfl rfl g57) ?_
                      refine S.sk rfl rfl rfl (wf rfl rfl rfl g57) ?_
                      refine S.q rfl rfl rfl (wg rfl rfl rfl g54) (r_pickf rfl rfl g57) ?_
                      refine S.q rfl rfl rfl (wanted_none rfl) (r_pickf rfl rfl g54) ?_
                      refine S.nil ?_
                      refine F.nil ?_
                      cases hE_3
                      refine Nrm.only [1, 24, 25, 26, 68] rfl ?_
                      refine Nrm.pick [1] rfl rfl ?_
                      exact hj_2 _ _ ⟨rfl, rfl⟩
        · replace hE_2 := if_ff g_2 hE_2
          refine Tri.exit ?_
          refine Exi.then ?_
          refine Exi.then ?_
          refine Exi.same ?_
          cases hE_2
          replace h := Lr_inl h
          refine Nrm.seq ?_
          refine Tri.seq ?_
          obtain ⟨t72, h72, h⟩ := bind_some h
          refine Tri.reg (l := [0, 1, 2, 3, 4]) rfl ?_
          refine F.q rfl rfl rfl (wanted_none rfl) (r_fieldAddr tf31_2 rfl) ?_
          refine F.q rfl rfl rfl (wanted_none rfl) (r_load ta23 rfl (fun w hw => cell_1 (box_cells (i := 0) rfl w hw) rfl)) ?_
          refine F.qc rfl rfl rfl (wanted_none rfl) (q_callF (xs := _) rfl ok118 rfl rfl (fun w hw => slices_ContainsFunc_int_int.ok h72 w ((fun _ hw => hr_a0_2.sep hw) w hw) ok136 (fun w2 he2 z0 y2 hy2 => impl_IsMaze_1.ok hy2 w2 ))) ?_
          refine F.q rfl rfl rfl (wanted_none rfl) (r_not rfl) ?_
          refine F.q rfl rfl rfl (wanted_none rfl) (r_assign rfl) ?_
          refine F.nil ?_
          refine Nrm.seq ?_
          refine Tri.ret ?_
          cases h
          exact Rtn.body (.tmp rfl .nil) (fun w hw => ⟨rfl, hw.ext⟩)
  · obtain ⟨t7, h7, hE_1⟩ := bind_some hE_1
    rcases Bool.eq_false_or_eq_true (!t7) with g9 | g9
    · replace hE_1 := if_tt g9 hE_1
      refine Tri.reg (l := [0, 1, 2, 3, 4, 5, 6, 7, 8, 9, 10, 11, 12, 13, 14, 15, 16, 17]) rfl ?_
      refine F.q rfl rfl rfl (wanted_none rfl) (r_fieldAddr tf31_0 rfl) ?_
      refine F.q rfl rfl rfl (wanted_none rfl) (r_load ta3 rfl (fun w hw => cell_1 (box_cells (i := 0) rfl w hw) rfl)) ?_
      refine F.qc rfl rfl rfl (wanted_none rfl) (q_callF (xs := _) rfl ok92 rfl rfl (fun w hw => impl_within.ok h7 w )) ?_
      refine F.q rfl rfl rfl (wanted_none rfl) (r_not rfl) ?_
      refine F.q rfl rfl rfl (wanted_none rfl) (r_move rfl) ?_
      refine F.sk rfl rfl rfl (wf rfl rfl rfl g9) ?_
      refine F.sk rfl rfl rfl (wf rfl rfl rfl g9) ?_
      refine F.sk rfl rfl rfl (wf rfl rfl rfl g9) ?_
      refine F.sk rfl rfl rfl (wf rfl rfl rfl g9) ?_
      refine F.q rfl rfl rfl (wanted_none rfl) (r_pick rfl rfl g9) ?_
      refine F.q rfl rfl rfl (wanted_none rfl) (r_move rfl) ?_
      refine F.sk rfl rfl rfl (wf rfl rfl rfl rfl) ?_
      refine F.sk rfl rfl rfl (wf rfl rfl rfl rfl) ?_
      refine F.sk rfl rfl rfl (wf rfl rfl rfl rfl) ?_
      refine F.sk rfl rfl rfl (wf rfl rfl rfl rfl) ?_
      refine F.sk rfl rfl rfl (wf rfl rfl rfl rfl) ?_
      refine F.sk rfl rfl rfl (wf rfl rfl rfl rfl) ?_
      refine F.q rfl rfl rfl (wanted_none rfl) (r_pick rfl rfl rfl) ?_
      refine F.nil ?_
      cases hE_1
      refine Nrm.only [1, 22] rfl ?_
      refine Nrm.pick [0] rfl rfl ?_
      exact hj_1 _ _ ⟨rfl, rfl⟩
    · replace hE_1 := if_ff g9 hE_1
      rcases Bool.eq_false_or_eq_true (decide ((a0_1.length : Int) > 30)) with g15 | g15
      · replace hE_1 := if_tt g15 hE_1
        refine Tri.reg (l := [0, 1, 2, 3, 4, 5, 6, 7, 8, 9, 10, 11, 12, 13, 14, 15, 16, 17]) rfl ?_
        refine F.q rfl rfl rfl (wanted_none rfl) (r_fieldAddr tf31_0 rfl) ?_
        refine F.q rfl rfl rfl (wanted_none rfl) (r_load ta3 rfl (fun w hw => cell_1 (box_cells (i := 0) rfl w hw) rfl)) ?_
        refine F.qc rfl rfl rfl (wanted_none rfl) (q_callF (xs := _) rfl ok92 rfl rfl (fun w hw => impl_within.ok h7 w )) ?_
        refine F.q rfl rfl rfl (wanted_none rfl) (r_not rfl) ?_
        refine F.q rfl rfl rfl (wanted_none rfl) (r_move rfl) ?_
        refine F.q rfl rfl rfl (wg rfl rfl rfl g9) (r_fieldAddr tf31_1 rfl) ?_
        refine F.q rfl rfl rfl (wg rfl rfl rfl g9) (r_load ta22 rfl (fun w hw => cell_1 (box_cells (i := 0) rfl w hw) rfl)) ?_
        refine F.q rfl rfl rfl (wg rfl rfl rfl g9) (r_len Try.underlying22 rfl hl_va0_1) ?_
        refine F.q rfl rfl rfl (wg rfl rfl rfl g9) (r_gtr rfl rfl) ?_
        refine F.q rfl rfl rfl (wanted_none rfl) (r_pickf rfl rfl g9) ?_
        refine F.q rfl rfl rfl (wanted_none rfl) (r_move rfl) ?_
        refine F.sk rfl rfl rfl (wf rfl rfl rfl g15) ?_
        refine F.sk rfl rfl rfl (wf rfl rfl rfl g15) ?_
        refine F.sk rfl rfl rfl (wf rfl rfl rfl g15) ?_
        refine F.sk rfl rfl rfl (wf rfl rfl rfl g15) ?_
        refine F.sk rfl rfl rfl (wf rfl rfl rfl g15) ?_
        refine F.sk rfl rfl rfl (wf rfl rfl rfl g15) ?_
        refine F.q rfl rfl rfl (wanted_none rfl) (r_pick rfl rfl g15) ?_
        refine F.nil ?_
        cases hE_1
        refine Nrm.only [1, 22] rfl ?_
        refine Nrm.pick [0] rfl rfl ?_
        exact hj_1 _ _ ⟨rfl, rfl⟩
      · replace hE_1 := if_ff g15 hE_1
        refine Tri.reg (l := [0, 1, 2, 3, 4, 5, 6, 7, 8, 9, 10, 11, 12, 13, 14, 15, 16, 17]) rfl ?_
        refine F.q rfl rfl rfl (wanted_none rfl) (r_fieldAddr tf31_0 rfl) ?_
        refine F.q rfl rfl rfl (wanted_none rfl) (r_load ta3 rfl (fun w hw => cell_1 (box_cells (i := 0) rfl w hw) rfl)) ?_
        refine F.qc rfl rfl rfl (wanted_none rfl) (q_callF (xs := _) rfl ok92 rfl rfl (fun w hw => impl_within.ok h7 w )) ?_
        refine F.q rfl rfl rfl (wanted_none rfl) (r_not rfl) ?_
        refine F.q rfl rfl rfl (wanted_none rfl) (r_move rfl) ?_
        refine F.q rfl rfl rfl (wg rfl rfl rfl g9) (r_fieldAddr tf31_1 rfl) ?_
        refine F.q rfl rfl rfl (wg rfl rfl rfl g9) (r_load ta22 rfl (fun w hw => cell_1 (box_cells (i := 0) rfl w hw) rfl)) ?_
        refine F.q rfl rfl rfl (wg rfl rfl rfl g9) (r_len Try.underlying22 rfl hl_va0_1) ?_
        refine F.q rfl rfl rfl (wg rfl rfl rfl g9) (r_gtr rfl rfl) ?_
        refine F.q rfl rfl rfl (wanted_none rfl) (r_pickf rfl rfl g9) ?_
        refine F.q rfl rfl rfl (wanted_none rfl) (r_move rfl) ?_
        refine F.q rfl rfl rfl (wg rfl rfl rfl g15) (r_fieldAddr tf31_2 rfl) ?_
        refine F.q rfl rfl rfl (wg rfl rfl rfl g15) (r_load ta23 rfl (fun w hw => cell_1 (box_cells (i := 0) rfl w hw) rfl)) ?_
        refine F.q rfl rfl rfl (wg rfl rfl rfl g15) (r_len Try.underlying23 rfl hl_va0_2) ?_
        refine F.q rfl rfl rfl (wg rfl rfl rfl g15) (r_fieldAddr tf31_0 rfl) ?_
        refine F.q rfl rfl rfl (wg rfl rfl rfl g15) (r_load ta3 rfl (fun w hw => cell_1 (box_cells (i := 0) rfl w hw) rfl)) ?_
        refine F.q rfl rfl rfl (wg rfl rfl rfl g15) (r_neq rfl rfl) ?_
        refine F.q rfl rfl rfl (wanted_none rfl) (r_pickf rfl rfl g15) ?_
        refine F.nil ?_
        cases hE_1
        refine Nrm.only [1, 22] rfl ?_
        refine Nrm.pick [0] rfl rfl ?_
        exact hj_1 _ _ ⟨rfl, rfl⟩

end Go.Proofs

/- loop.example/g01158/impl.IsTrap -/
namespace Go.Proofs
open Go Go.Ga
set_option linter.unusedVariables false
set_option maxRecDepth 100000
set_option maxHeartbeats 4000000
def impl_IsTrap.l0 (k : Nat) (a0_1 : List (Int × Int × Int)) (a0_3 : List Int) : Nat → Int → Option ((Unit) ⊕ (Bool))
  | 0, _ => none
  | n + 1, x12 => (if (decide (x12 < (a0_3.length : Int))) = true then (rdl a0_3 x12).bind fun t15 => ((impl_within.f k t15 0 (w64 ((a0_1.length : Int) - 1))).bind fun t23 => (if (!t23) = true then some true else (if (decide (x12 > 0)) = true then (rdl a0_3 (w64 (x12 - 1))).bind fun t34 => some (decide (t15 ≤ t34)) else some false))).bind fun y38 => (if y38 = true then some (Sum.inr false) else impl_IsTrap.l0 k a0_1 a0_3 n (w64 (x12 + 1))) else some (Sum.inl ()))

def impl_IsTrap.f (k : Nat) (a0_0 : Int) (a0_1 : List (Int × Int × Int)) (a0_2 : List Int) (a0_3 : List Int) : Option (Bool) := (impl_IsMaze.f k a0_0 a0_1 a0_2).bind fun t7 => (if (!t7) = true then some false else (impl_IsTrap.l0 k a0_1 a0_3 k 0).bind fun s => Lr s some fun _ => some true)

theorem impl_IsTrap.ok {k : Nat}  {a0_0 : Int} {a0_1 : List (Int × Int × Int)} {a0_2 : List Int} {a0_3 : List Int} {r0 : Bool} (h : impl_IsTrap.f k a0_0 a0_1 a0_2 a0_3 = some r0) (w : World) {va0_1 : Value} {va0_2 : Value} {va0_3 : Value} (hr_a0_1 : Rd w va0_1 a0_1) (hr_a0_2 : Rd w va0_2 a0_2) (hr_a0_3 : Rd w va0_3 a0_3) :
    Calls Try.prog 55 ([.agg ([.int .i64 a0_0, va0_1, va0_2, va0_3].toArray)] : List Value).toArray w (fun e w' => e = .returned (.bool r0) ∧ Ext w w') := by
  unfold impl_IsTrap.f at h
  have hl_va0_1 := hr_a0_1.len
  have hl_va0_2 := hr_a0_2.len
  have hl_va0_3 := hr_a0_3.len
  refine Calls.of_tri (N := 40) Try.func55 rfl rfl rfl (Sep.nil (M := noM)) ?_
  refine Tri.seq ?_
  refine Tri.reg (l := [0, 1]) rfl ?_
  refine F.m rfl rfl rfl (wanted_none rfl) (m_boxG rfl rfl) ?_
  rintro _ _ ⟨b1_1, rfl, rfl⟩
  refine F.q rfl rfl rfl (wanted_none rfl) (r_assign rfl) ?_
  refine F.nil ?_
  refine Nrm.seq ?_
  refine Tri.seq ?_
  refine Tri.seq ?_
  obtain ⟨t7, h7, h⟩ := bind_some h
  refine Tri.reg (l := [0, 1, 2, 3]) rfl ?_
  refine F.q rfl rfl rfl (wanted_none rfl) (r_fieldAddr tf33_0 rfl) ?_
  refine F.q rfl rfl rfl (wanted_none rfl) (r_loadA ta31 ti31 rfl rfl (fun w hw => cells_1 (cs' := [.int .i64 a0_0, va0_1, va0_2]) (box_cells (i := 0) rfl w hw) rfl)) ?_
  refine F.qc rfl rfl rfl (wanted_none rfl) (q_callF (xs := _) rfl ok91 rfl rfl (fun w hw => impl_IsMaze.ok h7 w ((fun _ hw => hr_a0_1.sep hw) w hw) ((fun _ hw => hr_a0_2.sep hw) w hw))) ?_
  refine F.q rfl rfl rfl (wanted_none rfl) (r_not rfl) ?_
  refine F.nil ?_
  refine Nrm.seq ?_
  refine Tri.cond (b := !t7) rfl (fun g_1 => ?_) (fun g_1 => ?_)
  · replace h := if_tt g_1 h
    refine Tri.seq ?_
    refine Tri.reg (l := [0]) rfl ?_
    refine F.q rfl rfl rfl (wanted_none rfl) (r_assign rfl) ?_
    refine F.nil ?_
    refine Nrm.seq ?_
    refine Tri.ret ?_
    refine Rtn.then ?_
    cases h
    exact Rtn.body (.tmp rfl .nil) (fun w hw => ⟨rfl, hw.ext⟩)
  · replace h := if_ff g_1 h
    refine Tri.skip ?_
    refine Nrm.seq ?_
    refine Tri.seq ?_
    refine Tri.seq ?_
    refine Tri.reg (l := [0, 1, 2, 3]) rfl ?_
    refine F.q rfl rfl rfl (wanted_none rfl) (r_fieldAddr tf33_1 rfl) ?_
    refine F.q rfl rfl rfl (wanted_none rfl) (r_load ta23 rfl (fun w hw => cell_1 (box_cells (i := 0) rfl w hw) rfl)) ?_
    refine F.q rfl rfl rfl (wanted_none rfl) (r_len Try.underlying23 rfl hl_va0_3) ?_
    refine F.q rfl rfl rfl (wanted_none rfl) (r_move rfl) ?_
    refine F.nil ?_
    refine Nrm.seq ?_
    obtain ⟨s0, hE_1, h⟩ := bind_some h
    refine Tri.block ?_
    refine Tri.only [1, 10, 11, 12] rfl ?_
    refine Tri.pick [0] rfl rfl ?_
    refine Tri.rounds (fun n e' C' => ∃ (x12' : Int), impl_IsTrap.l0 k a0_1 a0_3 n x12' = some s0 ∧ e' = [(1, .pointer (some ⟨b1_1, 0, none⟩)), (10, va0_3), (11, .int .i64 (a0_3.length : Int)), (12, .int .i64 x12')] ∧ C' = Sep w noM [R.box b1_1 33 [.int .i64 a0_0, va0_1, va0_2, va0_3]]) k ?_ ?_ ?_
    · exact ⟨0, hE_1, rfl, rfl⟩
    · rintro _ _ ⟨_, hE_1, _⟩
      rw [impl_IsTrap.l0.eq_1] at hE_1; cases hE_1
    · rintro n_1 _ _ ⟨x12, hE_1, rfl, rfl⟩ ih_1
      rw [impl_IsTrap.l0.eq_2] at hE_1
      refine Tri.seq ?_
      refine Tri.reg (l := [0]) rfl ?_
      refine F.q rfl rfl rfl (wanted_none rfl) (r_lss rfl rfl) ?_
      refine F.nil ?_
      refine Nrm.seq ?_
      refine Tri.seq ?_
      refine Tri.cond (b := decide (x12 < (a0_3.length : Int))) rfl (fun g_2 => ?_) (fun g_2 => ?_)
      · replace hE_1 := if_tt g_2 hE_1
        refine Tri.skip ?_
        refine Nrm.seq ?_
        refine Tri.seq ?_
        refine Tri.block ?_
        refine Tri.seq ?_
        obtain ⟨t15, h15, hE_1⟩ := bind_some hE_1
        refine Tri.reg (l := [0, 1, 2, 3, 4]) rfl ?_
        refine F.q rfl rfl rfl (wanted_none rfl) (r_move rfl) ?_
        refine F.q rfl rfl rfl (wanted_none rfl) (r_indexAddrS Try.underlying23 ti3 rfl hl_va0_3 rfl (rdl_some h15).1 (rdl_some h15).2.1) ?_
        refine F.q rfl rfl rfl (wanted_none rfl) (r_load ta3 rfl (fun w hw => cell_0 (Rd.flat ((fun _ hw => hr_a0_3.sep hw) w hw) (rdl_some h15).2.2) rfl)) ?_
        refine F.q rfl rfl rfl (wanted_none rfl) (r_assign rfl) ?_
        refine F.q rfl rfl rfl (wanted_none rfl) (r_assign rfl) ?_
        refine F.nil ?_
        refine Nrm.seq ?_
        refine Tri.seq ?_
        obtain ⟨y38, hE_2, hE_1⟩ := bind_some hE_1
        refine Tri.cut (fun e' C' => e' = [(1, .pointer (some ⟨b1_1, 0, none⟩)), (10, va0_3), (11, .int .i64 (a0_3.length : Int)), (12, .int .i64 x12), (38, .bool y38)] ∧ C' = Sep w noM [R.box b1_1 33 [.int .i64 a0_0, va0_1, va0_2, va0_3]]) ?_ (fun hj_1 => ?_)
        · rintro _ _ ⟨rfl, rfl⟩
          refine Nrm.seq ?_
          refine Tri.cond (b := y38) rfl (fun g_3 => ?_) (fun g_3 => ?_)
          · replace hE_1 := if_tt g_3 hE_1
            refine Tri.seq ?_
            refine Tri.reg (l := [0]) rfl ?_
            refine F.q rfl rfl rfl (wanted_none rfl) (r_assign rfl) ?_
            refine F.nil ?_
            refine Nrm.seq ?_
            refine Tri.ret ?_
            refine Rtn.block ?_
            refine Rtn.then ?_
            refine Rtn.then ?_
            refine Rtn.block ?_
            refine Rtn.then ?_
            cases hE_1
            replace h := Lr_inr h
            cases h
            exact Rtn.body (.tmp rfl .nil) (fun w hw => ⟨rfl, hw.ext⟩)
          · replace hE_1 := if_ff g_3 hE_1
            refine Tri.skip ?_
            refine Nrm.block ?_
            refine Nrm.seq ?_
            refine Tri.reg (l := [0, 1]) rfl ?_
            refine F.q rfl rfl rfl (wanted_none rfl) (r_add rfl rfl) ?_
            refine F.q rfl rfl rfl (wanted_none rfl) (r_move rfl) ?_
            refine F.nil ?_
            refine Nrm.round ?_
            refine Rnd.only [1, 10, 11, 12] rfl ?_
            refine Rnd.pick [0] rfl rfl ?_
            exact ih_1 _ _ ⟨w64 (x12 + 1), hE_1, rfl, rfl⟩
        · obtain ⟨t23, h23, hE_2⟩ := bind_some hE_2
          rcases Bool.eq_false_or_eq_true (!t23) with g25 | g25
          · replace hE_2 := if_tt g25 hE_2
            refine Tri.reg (l := [0, 1, 2, 3, 4, 5, 6, 7, 8, 9, 10, 11, 12, 13, 14, 15, 16, 17, 18, 19, 20, 21]) rfl ?_
            refine F.q rfl rfl rfl (wanted_none rfl) (r_move rfl) ?_
            refine F.q rfl rfl rfl (wanted_none rfl) (r_fieldAddr tf33_0 rfl) ?_
            refine F.q rfl rfl rfl (wanted_none rfl) (r_fieldAddr tf31_1 rfl) ?_
            refine F.q rfl rfl rfl (wanted_none rfl) (r_load ta22 rfl (fun w hw => cell_2 (box_cells (i := 0) rfl w hw) rfl)) ?_
            refine F.q rfl rfl rfl (wanted_none rfl) (r_len Try.underlying22 rfl hl_va0_1) ?_
            refine F.q rfl rfl rfl (wanted_none rfl) (r_sub rfl rfl) ?_
            refine F.qc rfl rfl rfl (wanted_none rfl) (q_callF (xs := _) rfl ok92 rfl rfl (fun w hw => impl_within.ok h23 w )) ?_
            refine F.q rfl rfl rfl (wanted_none rfl) (r_not rfl) ?_
            refine F.q rfl rfl rfl (wanted_none rfl) (r_move rfl) ?_
            refine F.sk rfl rfl rfl (wf rfl rfl rfl g25) ?_
            refine F.sk rfl rfl rfl (wf rfl rfl rfl g25) ?_
            refine F.sk rfl rfl rfl (wf rfl rfl rfl g25) ?_
            refine F.sk rfl rfl rfl (wanted_undef rfl rfl rfl) ?_
            refine F.sk rfl rfl rfl (wanted_undef rfl rfl rfl) ?_
            refine F.sk rfl rfl rfl (wanted_undef rfl rfl rfl) ?_
            refine F.sk rfl rfl rfl (wanted_undef rfl rfl rfl) ?_
            refine F.sk rfl rfl rfl (wanted_undef rfl rfl rfl) ?_
            refine F.sk rfl rfl rfl (wanted_undef rfl rfl rfl) ?_
            refine F.sk rfl rfl rfl (wanted_undef rfl rfl rfl) ?_
            refine F.sk rfl rfl rfl (wanted_undef rfl rfl rfl) ?_
            refine F.sk rfl rfl rfl (wf rfl rfl rfl g25) ?_
            refine F.q rfl rfl rfl (wanted_none rfl) (r_pick rfl rfl g25) ?_
            refine F.nil ?_
            cases hE_2
            refine Nrm.only [1, 10, 11, 12, 38] rfl ?_
            refine Nrm.pick [0] rfl rfl ?_
            exact hj_1 _ _ ⟨rfl, rfl⟩
          · replace hE_2 := if_ff g25 hE_2
            rcases Bool.eq_false_or_eq_true (decide (x12 > 0)) with g28 | g28
            · replace hE_2 := if_tt g28 hE_2
              obtain ⟨t34, h34, hE_2⟩ := bind_some hE_2
              refine Tri.reg (l := [0, 1, 2, 3, 4, 5, 6, 7, 8, 9, 10, 11, 12, 13, 14, 15, 16, 17, 18, 19, 20, 21]) rfl ?_
              refine F.q rfl rfl rfl (wanted_none rfl) (r_move rfl) ?_
              refine F.q rfl rfl rfl (wanted_none rfl) (r_fieldAddr tf33_0 rfl) ?_
              refine F.q rfl rfl rfl (wanted_none rfl) (r_fieldAddr tf31_1 rfl) ?_
              refine F.q rfl rfl rfl (wanted_none rfl) (r_load ta22 rfl (fun w hw => cell_2 (box_cells (i := 0) rfl w hw) rfl)) ?_
              refine F.q rfl rfl rfl (wanted_none rfl) (r_len Try.underlying22 rfl hl_va0_1) ?_
              refine F.q rfl rfl rfl (wanted_none rfl) (r_sub rfl rfl) ?_
              refine F.qc rfl rfl rfl (wanted_none rfl) (q_callF (xs := _) rfl ok92 rfl rfl (fun w hw => impl_within.ok h23 w )) ?_
              refine F.q rfl rfl rfl (wanted_none rfl) (r_not rfl) ?_
              refine F.q rfl rfl rfl (wanted_none rfl) (r_move rfl) ?_
              refine F.q rfl rfl rfl (wg rfl rfl rfl g25) (r_move rfl) ?_
              refine F.q rfl rfl rfl (wg rfl rfl rfl g25) (r_gtr rfl rfl) ?_
              refine F.q rfl rfl rfl (wg rfl rfl rfl g25) (r_move rfl) ?_
              refine F.q rfl rfl rfl (wg rfl rfl rfl g28) (r_move rfl) ?_
              refine F.q rfl rfl rfl (wg rfl rfl rfl g28) (r_fieldAddr tf33_1 rfl) ?_
              refine F.q rfl rfl rfl (wg rfl rfl rfl g28) (r_load ta23 rfl (fun w hw => cell_1 (box_cells (i := 0) rfl w hw) rfl)) ?_
              refine F.q rfl rfl rfl (wg rfl rfl rfl g28) (r_move rfl) ?_
              refine F.q rfl rfl rfl (wg rfl rfl rfl g28) (r_sub rfl rfl) ?_
              refine F.q rfl rfl rfl (wg rfl rfl rfl g28) (r_indexAddrS Try.underlying23 ti3 rfl hl_va0_3 rfl (rdl_some h34).1 (rdl_some h34).2.1) ?_
              refine F.q rfl rfl rfl (wg rfl rfl rfl g28) (r_load ta3 rfl (fun w hw => cell_0 (Rd.flat ((fun _ hw => hr_a0_3.sep hw) w hw) (rdl_some h34).2.2) rfl)) ?_
              refine F.q rfl rfl rfl (wg rfl rfl rfl g28) (r_leq rfl rfl) ?_
              refine F.q rfl rfl rfl (wg rfl rfl rfl g25) (r_pick rfl rfl g28) ?_
              refine F.q rfl rfl rfl (wanted_none rfl) (r_pickf rfl rfl g25) ?_
              refine F.nil ?_
              cases hE_2
              refine Nrm.only [1, 10, 11, 12, 38] rfl ?_
              refine Nrm.pick [0] rfl rfl ?_
              exact hj_1 _ _ ⟨rfl, rfl⟩
            · replace hE_2 := if_ff g28 hE_2
              refine Tri.reg (l := [0, 1, 2, 3, 4, 5, 6, 7, 8, 9, 10, 11, 12, 13, 14, 15, 16, 17, 18, 19, 20, 21]) rfl ?_
              refine F.q rfl rfl rfl (wanted_none rfl) (r_move rfl) ?_
              refine F.q rfl rfl rfl (wanted_none rfl) (r_fieldAddr tf33_0 rfl) ?_
              refine F.q rfl rfl rfl (wanted_none rfl) (r_fieldAddr tf31_1 rfl) ?_
              refine F.q rfl rfl rfl (wanted_none rfl) (r_load ta22 rfl (fun w hw => cell_2 (box_cells (i := 0) rfl w hw) rfl)) ?_
              refine F.q rfl rfl rfl (wanted_none rfl) (r_len Try.underlying22 rfl hl_va0_1) ?_
              refine F.q rfl rfl rfl (wanted_none rfl) (r_sub rfl rfl) ?_
              refine F.qc rfl rfl rfl (wanted_none rfl) (q_callF (xs := _) rfl ok92 rfl rfl (fun w hw => impl_within.ok h23 w )) ?_
              refine F.q rfl rfl rfl (wanted_none rfl) (r_not rfl) ?_
              refine F.q rfl rfl rfl (wanted_none rfl) (r_move rfl) ?_
              refine F.q rfl rfl rfl (wg rfl rfl rfl g25) (r_move rfl) ?_
              refine F.q rfl rfl rfl (wg rfl rfl rfl g25) (r_gtr rfl rfl) ?_
              refine F.q rfl rfl rfl (wg rfl rfl rfl g25) (r_move rfl) ?_
              refine F.sk rfl rfl rfl (wf rfl rfl rfl g28) ?_
              refine F.sk rfl rfl rfl (wf rfl rfl rfl g28) ?_
              refine F.sk rfl rfl rfl (wf rfl rfl rfl g28) ?_
              refine F.sk rfl rfl rfl (wf rfl rfl rfl g28) ?_
              refine F.sk rfl rfl rfl (wf rfl rfl rfl g28) ?_
              refine F.sk rfl rfl rfl (wf rfl rfl rfl g28) ?_
              refine F.sk rfl rfl rfl (wf rfl rfl rfl g28) ?_
              refine F.sk rfl rfl rfl (wf rfl rfl rfl g28) ?_
              refine F.q rfl rfl rfl (wg rfl rfl rfl g25) (r_pickf rfl rfl g28) ?_
              refine F.q rfl rfl rfl (wanted_none rfl) (r_pickf rfl rfl g25) ?_
              refine F.nil ?_
              cases hE_2
              refine Nrm.only [1, 10, 11, 12, 38] rfl ?_
              refine Nrm.pick [0] rfl rfl ?_
              exact hj_1 _ _ ⟨rfl, rfl⟩
      · replace hE_1 := if_ff g_2 hE_1
        refine Tri.exit ?_
        refine Exi.then ?_
        refine Exi.then ?_
        refine Exi.same ?_
        cases hE_1
        replace h := Lr_inl h
        refine Nrm.seq ?_
        refine Tri.seq ?_
        refine Tri.reg (l := [0]) rfl ?_
        refine F.q rfl rfl rfl (wanted_none rfl) (r_assign rfl) ?_
        refine F.nil ?_
        refine Nrm.seq ?_
        refine Tri.ret ?_
        cases h
        exact Rtn.body (.tmp rfl .nil) (fun w hw => ⟨rfl, hw.ext⟩)

end Go.Proofs

/- loop.example/g01158/impl.those -/

namespace Go.Proofs
open Go Go.Ga
set_option linter.unusedVariables false
set_option maxRecDepth 100000
set_option maxHeartbeats 4000000
def impl_those.l0 (k : Nat) (a0 : (Int → Option (Bool))) : Nat → (List (Int)) → Int → Option ((List (Int)))
  | 0, _, _ => none
  | n + 1, x3, x6 => (if (decide (x6 < 64)) = true then (a0 x6).bind fun t11 => ((if t11 = true then if (x3 ++ ([x6] : List (Int))).length < 1099511627776 then some (x3 ++ ([x6] : List (Int))) else none else some x3)).bind fun y3 => impl_those.l0 k a0 n y3 (w64 (x6 + 1)) else some x3)

def impl_those.f (k : Nat) (a0 : (Int → Option (Bool))) : Option ((List Int)) := (impl_those.l0 k a0 k ([] : List (Int)) 0).bind fun x3 => some x3

theorem impl_those.ok {k : Nat}  {a0 : (Int → Option (Bool))} {r0 : List Int} (h : impl_those.f k a0 = some r0) (w : World) {fi_a0 : FuncId} {ca_a0 : Array Value} (ho_a0 : CallOk Try.prog fi_a0) (hf_a0 : ∀ w2, Ext w w2 → ∀ (z0 : Int) (y : Bool), a0 z0 = some y → Calls Try.prog fi_a0 (([.int .i64 z0] : List Value) ++ ca_a0.toList).toArray w2 (fun e w3 => e = .returned (.bool y) ∧ Ext w2 w3)) :
    Calls Try.prog 56 ([.func (.func fi_a0) #[] ca_a0] : List Value).toArray w (Post (fun u ns => ∃ (Sr0 : Nat → Prop), SlLen u r0.length ∧ ns = [R.sl Sr0 u r0]) w) := by
  unfold impl_those.f at h
  refine Calls.of_tri (N := 18) Try.func56 rfl rfl rfl (Sep.nil (M := noM)) ?_
  refine Tri.seq ?_
  refine Tri.reg (l := [0]) rfl ?_
  refine F.q rfl rfl rfl (wanted_none rfl) (r_assign rfl) ?_
  refine F.nil ?_
  refine Nrm.seq ?_
  refine Tri.seq ?_
  refine Tri.reg (l := [0, 1]) rfl ?_
  refine F.m rfl rfl rfl (wanted_none rfl) (m_build0 (α := Int) Try.underlying23 ti3) ?_
  rintro v5_1 _ ⟨S5_1, hl_v5_1, rfl⟩
  refine F.q rfl rfl rfl (wanted_none rfl) (r_assign rfl) ?_
  refine F.nil ?_
  refine Nrm.seq ?_
  refine Tri.seq ?_
  refine Tri.seq ?_
  refine Tri.reg (l := [0]) rfl ?_
  refine F.q rfl rfl rfl (wanted_none rfl) (r_move rfl) ?_
  refine F.nil ?_
  refine Nrm.seq ?_
  obtain ⟨x3, hE_1, h⟩ := bind_some h
  refine Tri.block ?_
  refine Tri.only [0, 3, 6] rfl ?_
  refine Tri.pick [0] rfl rfl ?_
  refine Tri.rounds (fun n e' C' => ∃ (x3' : List (Int)) (x6' : Int) (w3 : Value) (T3 : Nat → Prop), impl_those.l0 k a0 n x3' x6' = some x3 ∧ SlLen w3 (x3').length ∧ e' = [(0, .func (.func fi_a0) #[] ca_a0), (3, w3), (6, .int .i64 x6')] ∧ C' = Sep w noM [R.sl T3 w3 (x3' : List (Int))]) k ?_ ?_ ?_
  · exact ⟨([] : List (Int)), 0, v5_1, S5_1, hE_1, hl_v5_1, rfl, rfl⟩
  · rintro _ _ ⟨_, _, _, _, hE_1, _⟩
    rw [impl_those.l0.eq_1] at hE_1; cases hE_1
  · rintro n_1 _ _ ⟨x3, x6, w3, T3, hE_1, hl_w3, rfl, rfl⟩ ih_1
    rw [impl_those.l0.eq_2] at hE_1
    refine Tri.seq ?_
    refine Tri.reg (l := [0]) rfl ?_
    refine F.q rfl rfl rfl (wanted_none rfl) (r_lss rfl rfl) ?_
    refine F.nil ?_
    refine Nrm.seq ?_
    refine Tri.seq ?_
    refine Tri.cond (b := decide (x6 < 64)) rfl (fun g_1 => ?_) (fun g_1 => ?_)
    · replace hE_1 := if_tt g_1 hE_1
      refine Tri.skip ?_
      refine Nrm.seq ?_
      refine Tri.seq ?_
      refine Tri.block ?_
      refine Tri.seq ?_
      refine Tri.reg (l := [0, 1]) rfl ?_
      refine F.q rfl rfl rfl (wanted_none rfl) (r_move rfl) ?_
      refine F.q rfl rfl rfl (wanted_none rfl) (r_assign rfl) ?_
      refine F.nil ?_
      refine Nrm.seq ?_
      refine Tri.seq ?_
      obtain ⟨t11, h11, hE_1⟩ := bind_some hE_1
      refine Tri.reg (l := [0, 1, 2]) rfl ?_
      refine F.q rfl rfl rfl (wanted_none rfl) (r_move rfl) ?_
      refine F.q rfl rfl rfl (wanted_none rfl) (r_move rfl) ?_
      refine F.qc rfl rfl rfl (wanted_none rfl) (q_callC (xs := _) rfl ho_a0 rfl rfl (fun w hw => hf_a0 w hw.ext _  _ h11)) ?_
      refine F.nil ?_
      refine Nrm.seq ?_
      obtain ⟨y3, hE_2, hE_1⟩ := bind_some hE_1
      refine Tri.cut (fun e' C' => ∃ (v3_1 : Value) (S3_1 : Nat → Prop), SlLen v3_1 (y3).length ∧ e' = [(0, .func (.func fi_a0) #[] ca_a0), (3, v3_1), (6, .int .i64 x6)] ∧ C' = Sep w noM [R.sl S3_1 v3_1 (y3 : List (Int))]) ?_ (fun hj_1 => ?_)
      · rintro _ _ ⟨v3_1, S3_1, hl_v3_1, rfl, rfl⟩
        refine Nrm.block ?_
        refine Nrm.seq ?_
        refine Tri.reg (l := [0, 1]) rfl ?_
        refine F.q rfl rfl rfl (wanted_none rfl) (r_add rfl rfl) ?_
        refine F.q rfl rfl rfl (wanted_none rfl) (r_move rfl) ?_
        refine F.nil ?_
        refine Nrm.round ?_
        refine Rnd.only [0, 3, 6] rfl ?_
        refine Rnd.pick [0] rfl rfl ?_
        exact ih_1 _ _ ⟨y3, w64 (x6 + 1), v3_1, S3_1, hE_1, hl_v3_1, rfl, rfl⟩
      · refine Tri.cond (b := t11) rfl (fun g_2 => ?_) (fun g_2 => ?_)
        · replace hE_2 := if_tt g_2 hE_2
          obtain ⟨hs15, hE_2⟩ := ck hE_2
          refine Tri.reg (l := [0, 1, 2, 3, 4]) rfl ?_
          refine F.q rfl rfl rfl (wanted_none rfl) (r_move rfl) ?_
          refine F.q rfl rfl rfl (wanted_none rfl) (r_move rfl) ?_
          refine F.m rfl rfl rfl (wanted_none rfl) (m_buildF (l := ([x6] : List (Int))) Try.underlying23 ti3 rfl rfl rfl rfl rfl) ?_
          rintro v14_1 _ ⟨S14_1, hl_v14_1, rfl⟩
          refine F.ef rfl rfl rfl (wanted_none rfl) (d_append (i := 1) Try.underlying23 Try.underlying23 ti3 rfl (by decide) rfl rfl rfl (rd_sl (i := 0) rfl) hs15) ?_
          rintro v15_1 _ ⟨S15_1, rfl, hl_v15_1⟩
          refine F.q rfl rfl rfl (wanted_none rfl) (r_assign rfl) ?_
          refine F.nil ?_
          cases hE_2
          refine Nrm.only [0, 3, 6] rfl ?_
          refine Nrm.pick [1] rfl rfl ?_
          exact hj_1 _ _ ⟨v15_1, S15_1, hl_v15_1, rfl, rfl⟩
        · replace hE_2 := if_ff g_2 hE_2
          refine Tri.skip ?_
          cases hE_2
          refine Nrm.only [0, 3, 6] rfl ?_
          refine Nrm.pick [0] rfl rfl ?_
          exact hj_1 _ _ ⟨w3, T3, hl_w3, rfl, rfl⟩
    · replace hE_1 := if_ff g_1 hE_1
      refine Tri.exit ?_
      refine Exi.then ?_
      refine Exi.then ?_
      refine Exi.same ?_
      cases hE_1
      refine Nrm.seq ?_
      refine Tri.seq ?_
      refine Tri.reg (l := [0, 1]) rfl ?_
      refine F.q rfl rfl rfl (wanted_none rfl) (r_move rfl) ?_
      refine F.q rfl rfl rfl (wanted_none rfl) (r_assign rfl) ?_
      refine F.nil ?_
      refine Nrm.seq ?_
      refine Tri.ret ?_
      cases h
      exact Rtn.body (.tmp rfl .nil) (fun w hw => ⟨_, _, rfl, ⟨T3, hl_w3, rfl⟩, Sep.pick (is := [0]) rfl rfl hw⟩)

end Go.Proofs

/- loop.example/g01158/impl.members -/

namespace Go.Proofs
open Go Go.Ga
set_option linter.unusedVariables false
set_option maxRecDepth 100000
set_option maxHeartbeats 4000000
def impl_members.l0 (k : Nat) (a0 : Int) : Nat → (List (Int)) → Int → Option ((List (Int)))
  | 0, _, _ => none
  | n + 1, x3, x4 => if ¬ x4 < 0 then (if (decide ((shr a0 x4) > 0)) = true then if ¬ x4 < 0 then ((if ((band (shr a0 x4) 1) == 1) = true then if (x3 ++ ([x4] : List (Int))).length < 1099511627776 then some (x3 ++ ([x4] : List (Int))) else none else some x3)).bind fun y3 => impl_members.l0 k a0 n y3 (w64 (x4 + 1)) else none else some x3) else none

def impl_members.f (k : Nat) (a0 : Int) : Option ((List Int)) := (impl_members.l0 k a0 k ([] : List (Int)) 0).bind fun x3 => some x3

theorem impl_members.ok {k : Nat}  {a0 : Int} {r0 : List Int} (h : impl_members.f k a0 = some r0) (w : World) :
    Calls Try.prog 68 ([.int .i64 a0] : List Value).toArray w (Post (fun u ns => ∃ (Sr0 : Nat → Prop), SlLen u r0.length ∧ ns = [R.sl Sr0 u r0]) w) := by
  unfold impl_members.f at h
  refine Calls.of_tri (N := 22) Try.func68 rfl rfl rfl (Sep.nil (M := noM)) ?_
  refine Tri.seq ?_
  refine Tri.reg (l := [0]) rfl ?_
  refine F.q rfl rfl rfl (wanted_none rfl) (r_assign rfl) ?_
  refine F.nil ?_
  refine Nrm.seq ?_
  refine Tri.seq ?_
  refine Tri.reg (l := [0, 1]) rfl ?_
  refine F.m rfl rfl rfl (wanted_none rfl) (m_build0 (α := Int) Try.underlying23 ti3) ?_
  rintro v5_1 _ ⟨S5_1, hl_v5_1, rfl⟩
  refine F.q rfl rfl rfl (wanted_none rfl) (r_assign rfl) ?_
  refine F.nil ?_
  refine Nrm.seq ?_
  refine Tri.seq ?_
  refine Tri.seq ?_
  refine Tri.reg (l := [0]) rfl ?_
  refine F.q rfl rfl rfl (wanted_none rfl) (r_assign rfl) ?_
  refine F.nil ?_
  refine Nrm.seq ?_
  obtain ⟨x3, hE_1, h⟩ := bind_some h
  refine Tri.block ?_
  refine Tri.only [0, 3, 4] rfl ?_
  refine Tri.pick [0] rfl rfl ?_
  refine Tri.rounds (fun n e' C' => ∃ (x3' : List (Int)) (x4' : Int) (w3 : Value) (T3 : Nat → Prop), impl_members.l0 k a0 n x3' x4' = some x3 ∧ SlLen w3 (x3').length ∧ e' = [(0, .int .i64 a0), (3, w3), (4, .int .i64 x4')] ∧ C' = Sep w noM [R.sl T3 w3 (x3' : List (Int))]) k ?_ ?_ ?_
  · exact ⟨([] : List (Int)), 0, v5_1, S5_1, hE_1, hl_v5_1, rfl, rfl⟩
  · rintro _ _ ⟨_, _, _, _, hE_1, _⟩
    rw [impl_members.l0.eq_1] at hE_1; cases hE_1
  · rintro n_1 _ _ ⟨x3, x4, w3, T3, hE_1, hl_w3, rfl, rfl⟩ ih_1
    rw [impl_members.l0.eq_2] at hE_1
    refine Tri.seq ?_
    refine Tri.seq ?_
    obtain ⟨hs8, hE_1⟩ := ck hE_1
    refine Tri.reg (l := [0, 1, 2, 3]) rfl ?_
    refine F.q rfl rfl rfl (wanted_none rfl) (r_move rfl) ?_
    refine F.q rfl rfl rfl (wanted_none rfl) (r_move rfl) ?_
    refine F.q rfl rfl rfl (wanted_none rfl) (r_shr rfl rfl hs8) ?_
    refine F.q rfl rfl rfl (wanted_none rfl) (r_gtr rfl rfl) ?_
    refine F.nil ?_
    refine Nrm.seq ?_
    refine Tri.cond (b := decide ((shr a0 x4) > 0)) rfl (fun g_1 => ?_) (fun g_1 => ?_)
    · replace hE_1 := if_tt g_1 hE_1
      refine Tri.skip ?_
      refine Nrm.seq ?_
      refine Tri.seq ?_
      refine Tri.block ?_
      refine Tri.seq ?_
      obtain ⟨hs14, hE_1⟩ := ck hE_1
      refine Tri.reg (l := [0, 1, 2, 3, 4]) rfl ?_
      refine F.q rfl rfl rfl (wanted_none rfl) (r_move rfl) ?_
      refine F.q rfl rfl rfl (wanted_none rfl) (r_move rfl) ?_
      refine F.q rfl rfl rfl (wanted_none rfl) (r_shr rfl rfl hs14) ?_
      refine F.q rfl rfl rfl (wanted_none rfl) (r_and rfl rfl) ?_
      refine F.q rfl rfl rfl (wanted_none rfl) (r_eql rfl rfl) ?_
      refine F.nil ?_
      refine Nrm.seq ?_
      obtain ⟨y3, hE_2, hE_1⟩ := bind_some hE_1
      refine Tri.cut (fun e' C' => ∃ (v3_1 : Value) (S3_1 : Nat → Prop), SlLen v3_1 (y3).length ∧ e' = [(0, .int .i64 a0), (3, v3_1), (4, .int .i64 x4)] ∧ C' = Sep w noM [R.sl S3_1 v3_1 (y3 : List (Int))]) ?_ (fun hj_1 => ?_)
      · rintro _ _ ⟨v3_1, S3_1, hl_v3_1, rfl, rfl⟩
        refine Nrm.block ?_
        refine Nrm.seq ?_
        refine Tri.reg (l := [0, 1, 2]) rfl ?_
        refine F.q rfl rfl rfl (wanted_none rfl) (r_move rfl) ?_
        refine F.q rfl rfl rfl (wanted_none rfl) (r_add rfl rfl) ?_
        refine F.q rfl rfl rfl (wanted_none rfl) (r_assign rfl) ?_
        refine F.nil ?_
        refine Nrm.round ?_
        refine Rnd.only [0, 3, 4] rfl ?_
        refine Rnd.pick [0] rfl rfl ?_
        exact ih_1 _ _ ⟨y3, w64 (x4 + 1), v3_1, S3_1, hE_1, hl_v3_1, rfl, rfl⟩
      · refine Tri.cond (b := (band (shr a0 x4) 1) == 1) rfl (fun g_2 => ?_) (fun g_2 => ?_)
        · replace hE_2 := if_tt g_2 hE_2
          obtain ⟨hs20, hE_2⟩ := ck hE_2
          refine Tri.reg (l := [0, 1, 2, 3, 4]) rfl ?_
          refine F.q rfl rfl rfl (wanted_none rfl) (r_move rfl) ?_
          refine F.q rfl rfl rfl (wanted_none rfl) (r_move rfl) ?_
          refine F.m rfl rfl rfl (wanted_none rfl) (m_buildF (l := ([x4] : List (Int))) Try.underlying23 ti3 rfl rfl rfl rfl rfl) ?_
          rintro v19_1 _ ⟨S19_1, hl_v19_1, rfl⟩
          refine F.ef rfl rfl rfl (wanted_none rfl) (d_append (i := 1) Try.underlying23 Try.underlying23 ti3 rfl (by decide) rfl rfl rfl (rd_sl (i := 0) rfl) hs20) ?_
          rintro v20_1 _ ⟨S20_1, rfl, hl_v20_1⟩
          refine F.q rfl rfl rfl (wanted_none rfl) (r_assign rfl) ?_
          refine F.nil ?_
          cases hE_2
          refine Nrm.only [0, 3, 4] rfl ?_
          refine Nrm.pick [1] rfl rfl ?_
          exact hj_1 _ _ ⟨v20_1, S20_1, hl_v20_1, rfl, rfl⟩
        · replace hE_2 := if_ff g_2 hE_2
          refine Tri.skip ?_
          cases hE_2
          refine Nrm.only [0, 3, 4] rfl ?_
          refine Nrm.pick [0] rfl rfl ?_
          exact hj_1 _ _ ⟨w3, T3, hl_w3, rfl, rfl⟩
    · replace hE_1 := if_ff g_1 hE_1
      refine Tri.exit ?_
      refine Exi.then ?_
      refine Exi.then ?_
      refine Exi.same ?_
      cases hE_1
      refine Nrm.seq ?_
      refine Tri.seq ?_
      refine Tri.reg (l := [0, 1]) rfl ?_
      refine F.q rfl rfl rfl (wanted_none rfl) (r_move rfl) ?_
      refine F.q rfl rfl rfl (wanted_none rfl) (r_assign rfl) ?_
      refine F.nil ?_
      refine Nrm.seq ?_
      refine Tri.ret ?_
      cases h
      exact Rtn.body (.tmp rfl .nil) (fun w hw => ⟨_, _, rfl, ⟨T3, hl_w3, rfl⟩, Sep.pick (is := [0]) rfl rfl hw⟩)

end Go.Proofs

/- loop.example/g01158/impl.has -/

namespace Go.Proofs
open Go Go.Ga
set_option linter.unusedVariables false
set_option maxRecDepth 100000
set_option maxHeartbeats 4000000
def impl_has.f (k : Nat) (a0 : Int) (a1 : Int) : Option (Bool) := some ((bclr a1 a0) == 0)

theorem impl_has.ok {k : Nat}  {a0 : Int} {a1 : Int} {r0 : Bool} (h : impl_has.f k a0 a1 = some r0) (w : World) :
    Calls Try.prog 162 ([.int .i64 a0, .int .i64 a1] : List Value).toArray w (fun e w' => e = .returned (.bool r0) ∧ Ext w w') := by
  unfold impl_has.f at h
  refine Calls.of_tri (N := 9) Try.func162 rfl rfl rfl (Sep.nil (M := noM)) ?_
  refine Tri.seq ?_
  refine Tri.reg (l := [0]) rfl ?_
  refine F.q rfl rfl rfl (wanted_none rfl) (r_assign rfl) ?_
  refine F.nil ?_
  refine Nrm.seq ?_
  refine Tri.seq ?_
  refine Tri.reg (l := [0, 1, 2, 3, 4]) rfl ?_
  refine F.q rfl rfl rfl (wanted_none rfl) (r_move rfl) ?_
  refine F.q rfl rfl rfl (wanted_none rfl) (r_move rfl) ?_
  refine F.q rfl rfl rfl (wanted_none rfl) (r_andNot rfl rfl) ?_
  refine F.q rfl rfl rfl (wanted_none rfl) (r_eql rfl rfl) ?_
  refine F.q rfl rfl rfl (wanted_none rfl) (r_assign rfl) ?_
  refine F.nil ?_
  refine Nrm.seq ?_
  refine Tri.ret ?_
  cases h
  exact Rtn.body (.tmp rfl .nil) (fun w hw => ⟨rfl, hw.ext⟩)

end Go.Proofs

/- slices.Index[[]int,int] -/

namespace Go.Proofs
open Go Go.Ga
set_option linter.unusedVariables false
set_option maxRecDepth 100000
set_option maxHeartbeats 4000000
def slices_Index_int_int.l0 (k : Nat) (a0 : List Int) (a1 : Int) : Nat → Int → Option ((Unit) ⊕ (Int))
  | 0, _ => none
  | n + 1, x8 => (if (decide (x8 < (a0.length : Int))) = true then (rdl a0 x8).bind fun t14 => (if (a1 == t14) = true then some (Sum.inr x8) else slices_Index_int_int.l0 k a0 a1 n (w64 (x8 + 1))) else some (Sum.inl ()))

def slices_Index_int_int.f (k : Nat) (a0 : List Int) (a1 : Int) : Option (Int) := (slices_Index_int_int.l0 k a0 a1 k 0).bind fun s => Lr s some fun _ => some (-1)

theorem slices_Index_int_int.ok {k : Nat}  {a0 : List Int} {a1 : Int} {r0 : Int} (h : slices_Index_int_int.f k a0 a1 = some r0) (w : World) {va0 : Value} (hr_a0 : Rd w va0 a0) :
    Calls Try.prog 78 ([va0, .int .i64 a1] : List Value).toArray w (fun e w' => e = .returned (.int .i64 r0) ∧ Ext w w') := by
  unfold slices_Index_int_int.f at h
  have hl_va0 := hr_a0.len
  refine Calls.of_tri (N := 19) Try.func78 rfl rfl rfl (Sep.nil (M := noM)) ?_
  refine Tri.seq ?_
  refine Tri.reg (l := [0]) rfl ?_
  refine F.q rfl rfl rfl (wanted_none rfl) (r_assign rfl) ?_
  refine F.nil ?_
  refine Nrm.seq ?_
  refine Tri.seq ?_
  refine Tri.seq ?_
  refine Tri.reg (l := [0, 1, 2]) rfl ?_
  refine F.q rfl rfl rfl (wanted_none rfl) (r_move rfl) ?_
  refine F.q rfl rfl rfl (wanted_none rfl) (r_len Try.underlying23 rfl hl_va0) ?_
  refine F.q rfl rfl rfl (wanted_none rfl) (r_move rfl) ?_
  refine F.nil ?_
  refine Nrm.seq ?_
  obtain ⟨s0, hE_1, h⟩ := bind_some h
  refine Tri.block ?_
  refine Tri.only [0, 1, 7, 8] rfl ?_
  refine Tri.pick [] rfl rfl ?_
  refine Tri.rounds (fun n e' C' => ∃ (x8' : Int), slices_Index_int_int.l0 k a0 a1 n x8' = some s0 ∧ e' = [(0, va0), (1, .int .i64 a1), (7, .int .i64 (a0.length : Int)), (8, .int .i64 x8')] ∧ C' = Sep w noM []) k ?_ ?_ ?_
  · exact ⟨0, hE_1, rfl, rfl⟩
  · rintro _ _ ⟨_, hE_1, _⟩
    rw [slices_Index_int_int.l0.eq_1] at hE_1; cases hE_1
  · rintro n_1 _ _ ⟨x8, hE_1, rfl, rfl⟩ ih_1
    rw [slices_Index_int_int.l0.eq_2] at hE_1
    refine Tri.seq ?_
    refine Tri.reg (l := [0]) rfl ?_
    refine F.q rfl rfl rfl (wanted_none rfl) (r_lss rfl rfl) ?_
    refine F.nil ?_
    refine Nrm.seq ?_
    refine Tri.seq ?_
    refine Tri.cond (b := decide (x8 < (a0.length : Int))) rfl (fun g_1 => ?_) (fun g_1 => ?_)
    · replace hE_1 := if_tt g_1 hE_1
      refine Tri.skip ?_
      refine Nrm.seq ?_
      refine Tri.seq ?_
      refine Tri.block ?_
      refine Tri.seq ?_
      refine Tri.reg (l := [0, 1]) rfl ?_
      refine F.q rfl rfl rfl (wanted_none rfl) (r_move rfl) ?_
      refine F.q rfl rfl rfl (wanted_none rfl) (r_assign rfl) ?_
      refine F.nil ?_
      refine Nrm.seq ?_
      refine Tri.seq ?_
      obtain ⟨t14, h14, hE_1⟩ := bind_some hE_1
      refine Tri.reg (l := [0, 1, 2, 3, 4, 5]) rfl ?_
      refine F.q rfl rfl rfl (wanted_none rfl) (r_move rfl) ?_
      refine F.q rfl rfl rfl (wanted_none rfl) (r_move rfl) ?_
      refine F.q rfl rfl rfl (wanted_none rfl) (r_move rfl) ?_
      refine F.q rfl rfl rfl (wanted_none rfl) (r_indexAddrS Try.underlying23 ti3 rfl hl_va0 rfl (rdl_some h14).1 (rdl_some h14).2.1) ?_
      refine F.q rfl rfl rfl (wanted_none rfl) (r_load ta3 rfl (fun w hw => cell_0 (Rd.flat ((fun _ hw => hr_a0.sep hw) w hw) (rdl_some h14).2.2) rfl)) ?_
      refine F.q rfl rfl rfl (wanted_none rfl) (r_eql rfl rfl) ?_
      refine F.nil ?_
      refine Nrm.seq ?_
      refine Tri.cond (b := a1 == t14) rfl (fun g_2 => ?_) (fun g_2 => ?_)
      · replace hE_1 := if_tt g_2 hE_1
        refine Tri.seq ?_
        refine Tri.reg (l := [0, 1]) rfl ?_
        refine F.q rfl rfl rfl (wanted_none rfl) (r_move rfl) ?_
        refine F.q rfl rfl rfl (wanted_none rfl) (r_assign rfl) ?_
        refine F.nil ?_
        refine Nrm.seq ?_
        refine Tri.ret ?_
        refine Rtn.block ?_
        refine Rtn.then ?_
        refine Rtn.then ?_
        refine Rtn.block ?_
        refine Rtn.then ?_
        cases hE_1
        replace h := Lr_inr h
        cases h
        exact Rtn.body (.tmp rfl .nil) (fun w hw => ⟨rfl, hw.ext⟩)
      · replace hE_1 := if_ff g_2 hE_1
        refine Tri.skip ?_
        refine Nrm.block ?_
        refine Nrm.seq ?_
        refine Tri.reg (l := [0, 1]) rfl ?_
        refine F.q rfl rfl rfl (wanted_none rfl) (r_add rfl rfl) ?_
        refine F.q rfl rfl rfl (wanted_none rfl) (r_move rfl) ?_
        refine F.nil ?_
        refine Nrm.round ?_
        refine Rnd.only [0, 1, 7, 8] rfl ?_
        refine Rnd.pick [] rfl rfl ?_
        exact ih_1 _ _ ⟨w64 (x8 + 1), hE_1, rfl, rfl⟩
    · replace hE_1 := if_ff g_1 hE_1
      refine Tri.exit ?_
      refine Exi.then ?_
      refine Exi.then ?_
      refine Exi.same ?_
      cases hE_1
      replace h := Lr_inl h
      refine Nrm.seq ?_
      refine Tri.seq ?_
      refine Tri.reg (l := [0]) rfl ?_
      refine F.q rfl rfl rfl (wanted_none rfl) (r_assign rfl) ?_
      refine F.nil ?_
      refine Nrm.seq ?_
      refine Tri.ret ?_
      cases h
      exact Rtn.body (.tmp rfl .nil) (fun w hw => ⟨rfl, hw.ext⟩)

end Go.Proofs

/- slices.Contains[[]int,int] -/
namespace Go.Proofs
open Go Go.Ga
set_option linter.unusedVariables false
set_option maxRecDepth 100000
set_option maxHeartbeats 4000000
def slices_Contains_int_int.f (k : Nat) (a0 : List Int) (a1 : Int) : Option (Bool) := (slices_Index_int_int.f k a0 a1).bind fun t7 => some (decide (t7 ≥ 0))

theorem slices_Contains_int_int.ok {k : Nat}  {a0 : List Int} {a1 : Int} {r0 : Bool} (h : slices_Contains_int_int.f k a0 a1 = some r0) (w : World) {va0 : Value} (hr_a0 : Rd w va0 a0) :
    Calls Try.prog 163 ([va0, .int .i64 a1] : List Value).toArray w (fun e w' => e = .returned (.bool r0) ∧ Ext w w') := by
  unfold slices_Contains_int_int.f at h
  have hl_va0 := hr_a0.len
  refine Calls.of_tri (N := 9) Try.func163 rfl rfl rfl (Sep.nil (M := noM)) ?_
  refine Tri.seq ?_
  refine Tri.reg (l := [0]) rfl ?_
  refine F.q rfl rfl rfl (wanted_none rfl) (r_assign rfl) ?_
  refine F.nil ?_
  refine Nrm.seq ?_
  refine Tri.seq ?_
  obtain ⟨t7, h7, h⟩ := bind_some h
  refine Tri.reg (l := [0, 1, 2, 3, 4]) rfl ?_
  refine F.q rfl rfl rfl (wanted_none rfl) (r_move rfl) ?_
  refine F.q rfl rfl rfl (wanted_none rfl) (r_move rfl) ?_
  refine F.qc rfl rfl rfl (wanted_none rfl) (q_callF (xs := _) rfl ok78 rfl rfl (fun w hw => slices_Index_int_int.ok h7 w ((fun _ hw => hr_a0.sep hw) w hw))) ?_
  refine F.q rfl rfl rfl (wanted_none rfl) (r_geq rfl rfl) ?_
  refine F.q rfl rfl rfl (wanted_none rfl) (r_assign rfl) ?_
  refine F.nil ?_
  refine Nrm.seq ?_
  refine Tri.ret ?_
  cases h
  exact Rtn.body (.tmp rfl .nil) (fun w hw => ⟨rfl, hw.ext⟩)

end Go.Proofs

/- loop.example/g01158/impl.trapSteps -/
namespace Go.Proofs
open Go Go.Ga
set_option linter.unusedVariables false
set_option maxRecDepth 100000
set_option maxHeartbeats 4000000
def impl_trapSteps.l0 (k : Nat) (a0_1 : List (Int × Int × Int)) (a0_3 : List Int) (a1 : Int) (a2 : Int) : Nat → Int → Int → Option (Int)
  | 0, _, _ => none
  | n + 1, x7, x14 => (if (decide (x14 < (a0_1.length : Int))) = true then ((rdl a0_1 x14).bind fun t17 => (impl_has.f k a2 t17.2.2).bind fun t22 => (if (!t22) = true then some x7 else ((if (t17.1 == a1) = true then if ¬ t17.2.1 < 0 then some (bor x7 (shl 1 t17.2.1)) else none else some x7)).bind fun y7 => ((if (t17.2.1 == a1) = true then (slices_Contains_int_int.f k a0_3 x14).bind fun t41 => some (!t41) else some false)).bind fun y43 => ((if y43 = true then if ¬ t17.1 < 0 then some (bor y7 (shl 1 t17.1)) else none else some y7)).bind fun y7r => some y7r)).bind fun y7 => impl_trapSteps.l0 k a0_1 a0_3 a1 a2 n y7 (w64 (x14 + 1)) else some x7)

def impl_trapSteps.f (k : Nat) (a0_0 : Int) (a0_1 : List (Int × Int × Int)) (a0_2 : List Int) (a0_3 : List Int) (a1 : Int) (a2 : Int) : Option (Int) := (impl_trapSteps.l0 k a0_1 a0_3 a1 a2 k 0 0).bind fun x7 => some x7

theorem impl_trapSteps.ok {k : Nat}  {a0_0 : Int} {a0_1 : List (Int × Int × Int)} {a0_2 : List Int} {a0_3 : List Int} {a1 : Int} {a2 : Int} {r0 : Int} (h : impl_trapSteps.f k a0_0 a0_1 a0_2 a0_3 a1 a2 = some r0) (w : World) {va0_1 : Value} {va0_2 : Value} {va0_3 : Value} (hr_a0_1 : Rd w va0_1 a0_1) (hr_a0_2 : Rd w va0_2 a0_2) (hr_a0_3 : Rd w va0_3 a0_3) :
    Calls Try.prog 137 ([.agg ([.int .i64 a0_0, va0_1, va0_2, va0_3].toArray), .int .i64 a1, .int .i64 a2] : List Value).toArray w (fun e w' => e = .returned (.int .i64 r0) ∧ Ext w w') := by
  unfold impl_trapSteps.f at h
  have hl_va0_1 := hr_a0_1.len
  have hl_va0_2 := hr_a0_2.len
  have hl_va0_3 := hr_a0_3.len
  refine Calls.of_tri (N := 51) Try.func137 rfl rfl rfl (Sep.nil (M := noM)) ?_
  refine Tri.seq ?_
  refine Tri.reg (l := [0, 1]) rfl ?_
  refine F.m rfl rfl rfl (wanted_none rfl) (m_boxG rfl rfl) ?_
  rintro _ _ ⟨b3_1, rfl, rfl⟩
  refine F.q rfl rfl rfl (wanted_none rfl) (r_assign rfl) ?_
  refine F.nil ?_
  refine Nrm.seq ?_
  refine Tri.seq ?_
  refine Tri.reg (l := [0]) rfl ?_
  refine F.q rfl rfl rfl (wanted_none rfl) (r_assign rfl) ?_
  refine F.nil ?_
  refine Nrm.seq ?_
  refine Tri.seq ?_
  refine Tri.seq ?_
  refine Tri.reg (l := [0, 1, 2, 3, 4]) rfl ?_
  refine F.q rfl rfl rfl (wanted_none rfl) (r_fieldAddr tf33_0 rfl) ?_
  refine F.q rfl rfl rfl (wanted_none rfl) (r_fieldAddr tf31_1 rfl) ?_
  refine F.q rfl rfl rfl (wanted_none rfl) (r_load ta22 rfl (fun w hw => cell_2 (box_cells (i := 0) rfl w hw) rfl)) ?_
  refine F.q rfl rfl rfl (wanted_none rfl) (r_len Try.underlying22 rfl hl_va0_1) ?_
  refine F.q rfl rfl rfl (wanted_none rfl) (r_move rfl) ?_
  refine F.nil ?_
  refine Nrm.seq ?_
  obtain ⟨x7, hE_1, h⟩ := bind_some h
  refine Tri.block ?_
  refine Tri.only [1, 2, 3, 7, 12, 13, 14] rfl ?_
  refine Tri.pick [0] rfl rfl ?_
  refine Tri.rounds (fun n e' C' => ∃ (x7' : Int) (x14' : Int), impl_trapSteps.l0 k a0_1 a0_3 a1 a2 n x7' x14' = some x7 ∧ e' = [(1, .int .i64 a1), (2, .int .i64 a2), (3, .pointer (some ⟨b3_1, 0, none⟩)), (7, .int .i64 x7'), (12, va0_1), (13, .int .i64 (a0_1.length : Int)), (14, .int .i64 x14')] ∧ C' = Sep w noM [R.box b3_1 33 [.int .i64 a0_0, va0_1, va0_2, va0_3]]) k ?_ ?_ ?_
  · exact ⟨0, 0, hE_1, rfl, rfl⟩
  · rintro _ _ ⟨_, _, hE_1, _⟩
    rw [impl_trapSteps.l0.eq_1] at hE_1; cases hE_1
  · rintro n_1 _ _ ⟨x7, x14, hE_1, rfl, rfl⟩ ih_1
    rw [impl_trapSteps.l0.eq_2] at hE_1
    refine Tri.seq ?_
    refine Tri.reg (l := [0]) rfl ?_
    refine F.q rfl rfl rfl (wanted_none rfl) (r_lss rfl rfl) ?_
    refine F.nil ?_
    refine Nrm.seq ?_
    refine Tri.seq ?_
    refine Tri.cond (b := decide (x14 < (a0_1.length : Int))) rfl (fun g_1 => ?_) (fun g_1 => ?_)
    · replace hE_1 := if_tt g_1 hE_1
      refine Tri.skip ?_
      refine Nrm.seq ?_
      refine Tri.seq ?_
      obtain ⟨y7, hE_2, hE_1⟩ := bind_some hE_1
      refine Tri.cut (fun e' C' => e' = [(1, .int .i64 a1), (2, .int .i64 a2), (3, .pointer (some ⟨b3_1, 0, none⟩)), (7, .int .i64 y7), (12, va0_1), (13, .int .i64 (a0_1.length : Int)), (14, .int .i64 x14)] ∧ C' = Sep w noM [R.box b3_1 33 [.int .i64 a0_0, va0_1, va0_2, va0_3]]) ?_ (fun hj_1 => ?_)
      · rintro _ _ ⟨rfl, rfl⟩
        refine Nrm.seq ?_
        refine Tri.reg (l := [0, 1]) rfl ?_
        refine F.q rfl rfl rfl (wanted_none rfl) (r_add rfl rfl) ?_
        refine F.q rfl rfl rfl (wanted_none rfl) (r_move rfl) ?_
        refine F.nil ?_
        refine Nrm.round ?_
        refine Rnd.only [1, 2, 3, 7, 12, 13, 14] rfl ?_
        refine Rnd.pick [0] rfl rfl ?_
        exact ih_1 _ _ ⟨y7, w64 (x14 + 1), hE_1, rfl, rfl⟩
      · refine Tri.block ?_
        refine Tri.seq ?_
        obtain ⟨t17, h17, hE_2⟩ := bind_some hE_2
        refine Tri.reg (l := [0, 1, 2, 3, 4, 5]) rfl ?_
        refine F.q rfl rfl rfl (wanted_none rfl) (r_move rfl) ?_
        refine F.q rfl rfl rfl (wanted_none rfl) (r_indexAddrS Try.underlying22 ti116 rfl hl_va0_1 rfl (rdl_some h17).1 (rdl_some h17).2.1) ?_
        refine F.q rfl rfl rfl (wanted_none rfl) (r_loadA ta116 ti116 rfl rfl (fun w hw => (Rd.flat ((fun _ hw => hr_a0_1.sep hw) w hw) (rdl_some h17).2.2))) ?_
        refine F.m rfl rfl rfl (wanted_none rfl) (m_alloc ti116) ?_
        rintro _ _ ⟨b9_1, rfl, rfl⟩
        refine F.q rfl rfl rfl (wanted_none rfl) (r_assign rfl) ?_
        refine F.ef0 rfl rfl (wanted_none rfl) (d_storeG0 (i := 0) (cs2 := [.int .i64 t17.1, .int .i64 t17.2.1, .int .i64 t17.2.2]) ti116 rfl rfl rfl rfl rfl (Nat.le_of_ble_eq_true rfl) (lf_cons rfl (lf_cons rfl (lf_cons rfl lf_nil)))) ?_
        rintro _ _ ⟨rfl, rfl⟩
        refine F.nil ?_
        refine Nrm.seq ?_
        refine Tri.seq ?_
        refine Tri.seq ?_
        obtain ⟨t22, h22, hE_2⟩ := bind_some hE_2
        refine Tri.reg (l := [0, 1, 2, 3, 4]) rfl ?_
        refine F.q rfl rfl rfl (wanted_none rfl) (r_move rfl) ?_
        refine F.q rfl rfl rfl (wanted_none rfl) (r_indexAddrA Try.underlying116 ti3 rfl rfl (by decide) (by decide)) ?_
        refine F.q rfl rfl rfl (wanted_none rfl) (r_load ta3 rfl (fun w hw => cell_1 (box_cells (i := 0) rfl w hw) rfl)) ?_
        refine F.qc rfl rfl rfl (wanted_none rfl) (q_callF (xs := _) rfl ok162 rfl rfl (fun w hw => impl_has.ok h22 w )) ?_
        refine F.q rfl rfl rfl (wanted_none rfl) (r_not rfl) ?_
        refine F.nil ?_
        refine Nrm.seq ?_
        refine Tri.cond (b := !t22) rfl (fun g_2 => ?_) (fun g_2 => ?_)
        · replace hE_2 := if_tt g_2 hE_2
          refine Tri.exit ?_
          refine Exi.then ?_
          refine Exi.same ?_
          cases hE_2
          refine Nrm.only [1, 2, 3, 7, 12, 13, 14] rfl ?_
          refine Nrm.pick [1] rfl rfl ?_
          exact hj_1 _ _ ⟨rfl, rfl⟩
        · replace hE_2 := if_ff g_2 hE_2
          refine Tri.skip ?_
          refine Nrm.seq ?_
          refine Tri.seq ?_
          refine Tri.seq ?_
          refine Tri.reg (l := [0, 1, 2, 3]) rfl ?_
          refine F.q rfl rfl rfl (wanted_none rfl) (r_indexAddrA Try.underlying116 ti3 rfl rfl (by decide) (by decide)) ?_
          refine F.q rfl rfl rfl (wanted_none rfl) (r_load ta3 rfl (fun w hw => cell_1 (box_cells (i := 0) rfl w hw) rfl)) ?_
          refine F.q rfl rfl rfl (wanted_none rfl) (r_move rfl) ?_
          refine F.q rfl rfl rfl (wanted_none rfl) (r_eql rfl rfl) ?_
          refine F.nil ?_
          refine Nrm.seq ?_
          obtain ⟨y7, hE_3, hE_2⟩ := bind_some hE_2
          refine Tri.cut (fun e' C' => e' = [(1, .int .i64 a1), (2, .int .i64 a2), (3, .pointer (some ⟨b3_1, 0, none⟩)), (7, .int .i64 y7), (8, .int .i64 x14), (9, .pointer (some ⟨b9_1, 0, none⟩)), (12, va0_1), (13, .int .i64 (a0_1.length : Int)), (14, .int .i64 x14)] ∧ C' = Sep w noM [R.box b9_1 116 [.int .i64 t17.1, .int .i64 t17.2.1, .int .i64 t17.2.2], R.box b3_1 33 [.int .i64 a0_0, va0_1, va0_2, va0_3]]) ?_ (fun hj_2 => ?_)
          · rintro _ _ ⟨rfl, rfl⟩
            refine Nrm.seq ?_
            refine Tri.seq ?_
            obtain ⟨y43, hE_4, hE_2⟩ := bind_some hE_2
            refine Tri.cut (fun e' C' => e' = [(1, .int .i64 a1), (2, .int .i64 a2), (3, .pointer (some ⟨b3_1, 0, none⟩)), (7, .int .i64 y7), (9, .pointer (some ⟨b9_1, 0, none⟩)), (12, va0_1), (13, .int .i64 (a0_1.length : Int)), (14, .int .i64 x14), (43, .bool y43)] ∧ C' = Sep w noM [R.box b9_1 116 [.int .i64 t17.1, .int .i64 t17.2.1, .int .i64 t17.2.2], R.box b3_1 33 [.int .i64 a0_0, va0_1, va0_2, va0_3]]) ?_ (fun hj_3 => ?_)
            · rintro _ _ ⟨rfl, rfl⟩
              refine Nrm.seq ?_
              obtain ⟨y7r, hE_5, hE_2⟩ := bind_some hE_2
              refine Tri.cut (fun e' C' => e' = [(1, .int .i64 a1), (2, .int .i64 a2), (3, .pointer (some ⟨b3_1, 0, none⟩)), (7, .int .i64 y7r), (12, va0_1), (13, .int .i64 (a0_1.length : Int)), (14, .int .i64 x14)] ∧ C' = Sep w noM [R.box b3_1 33 [.int .i64 a0_0, va0_1, va0_2, va0_3]]) ?_ (fun hj_4 => ?_)
              · rintro _ _ ⟨rfl, rfl⟩
                refine Nrm.block ?_
                cases hE_2
                refine Nrm.only [1, 2, 3, 7, 12, 13, 14] rfl ?_
                refine Nrm.pick [0] rfl rfl ?_
                exact hj_1 _ _ ⟨rfl, rfl⟩
              · refine Tri.cond (b := y43) rfl (fun g_4 => ?_) (fun g_4 => ?_)
                · replace hE_5 := if_tt g_4 hE_5
                  obtain ⟨hs47, hE_5⟩ := ck hE_5
                  refine Tri.reg (l := [0, 1, 2, 3, 4, 5]) rfl ?_
                  refine F.q rfl rfl rfl (wanted_none rfl) (r_move rfl) ?_
                  refine F.q rfl rfl rfl (wanted_none rfl) (r_indexAddrA Try.underlying116 ti3 rfl rfl (by decide) (by decide)) ?_
                  refine F.q rfl rfl rfl (wanted_none rfl) (r_load ta3 rfl (fun w hw => cell_1 (box_cells (i := 0) rfl w hw) rfl)) ?_
                  refine F.q rfl rfl rfl (wanted_none rfl) (r_shl rfl rfl hs47) ?_
                  refine F.q rfl rfl rfl (wanted_none rfl) (r_or rfl rfl) ?_
                  refine F.q rfl rfl rfl (wanted_none rfl) (r_assign rfl) ?_
                  refine F.nil ?_
                  cases hE_5
                  refine Nrm.only [1, 2, 3, 7, 12, 13, 14] rfl ?_
                  refine Nrm.pick [1] rfl rfl ?_
                  exact hj_4 _ _ ⟨rfl, rfl⟩
                · replace hE_5 := if_ff g_4 hE_5
                  refine Tri.skip ?_
                  cases hE_5
                  refine Nrm.only [1, 2, 3, 7, 12, 13, 14] rfl ?_
                  refine Nrm.pick [1] rfl rfl ?_
                  exact hj_4 _ _ ⟨rfl, rfl⟩
            · rcases Bool.eq_false_or_eq_true (t17.2.1 == a1) with g37 | g37
              · replace hE_4 := if_tt g37 hE_4
                obtain ⟨t41, h41, hE_4⟩ := bind_some hE_4
                refine Tri.reg (l := [0, 1, 2, 3, 4, 5, 6, 7, 8, 9, 10]) rfl ?_
                refine F.q rfl rfl rfl (wanted_none rfl) (r_indexAddrA Try.underlying116 ti3 rfl rfl (by decide) (by decide)) ?_
                refine F.q rfl rfl rfl (wanted_none rfl) (r_load ta3 rfl (fun w hw => cell_1 (box_cells (i := 0) rfl w hw) rfl)) ?_
                refine F.q rfl rfl rfl (wanted_none rfl) (r_move rfl) ?_
                refine F.q rfl rfl rfl (wanted_none rfl) (r_eql rfl rfl) ?_
                refine F.q rfl rfl rfl (wanted_none rfl) (r_move rfl) ?_
                refine F.q rfl rfl rfl (wg rfl rfl rfl g37) (r_fieldAddr tf33_1 rfl) ?_
                refine F.q rfl rfl rfl (wg rfl rfl rfl g37) (r_load ta23 rfl (fun w hw => cell_1 (box_cells (i := 1) rfl w hw) rfl)) ?_
                refine F.q rfl rfl rfl (wg rfl rfl rfl g37) (r_move rfl) ?_
                refine F.qc rfl rfl rfl (wg rfl rfl rfl g37) (q_callF (xs := _) rfl ok163 rfl rfl (fun w hw => slices_Contains_int_int.ok h41 w ((fun _ hw => hr_a0_3.sep hw) w hw))) ?_
                refine F.q rfl rfl rfl (wg rfl rfl rfl g37) (r_not rfl) ?_
                refine F.q rfl rfl rfl (wanted_none rfl) (r_pick rfl rfl g37) ?_
                refine F.nil ?_
                cases hE_4
                refine Nrm.only [1, 2, 3, 7, 9, 12, 13, 14, 43] rfl ?_
                refine Nrm.pick [0, 1] rfl rfl ?_
                exact hj_3 _ _ ⟨rfl, rfl⟩
              · replace hE_4 := if_ff g37 hE_4
                refine Tri.reg (l := [0, 1, 2, 3, 4, 5, 6, 7, 8, 9, 10]) rfl ?_
                refine F.q rfl rfl rfl (wanted_none rfl) (r_indexAddrA Try.underlying116 ti3 rfl rfl (by decide) (by decide)) ?_
                refine F.q rfl rfl rfl (wanted_none rfl) (r_load ta3 rfl (fun w hw => cell_1 (box_cells (i := 0) rfl w hw) rfl)) ?_
                refine F.q rfl rfl rfl (wanted_none rfl) (r_move rfl) ?_
                refine F.q rfl rfl rfl (wanted_none rfl) (r_eql rfl rfl) ?_
                refine F.q rfl rfl rfl (wanted_none rfl) (r_move rfl) ?_
                refine F.sk rfl rfl rfl (wf rfl rfl rfl g37) ?_
                refine F.sk rfl rfl rfl (wf rfl rfl rfl g37) ?_
                refine F.sk rfl rfl rfl (wf rfl rfl rfl g37) ?_
                refine F.sk rfl rfl rfl (wf rfl rfl rfl g37) ?_
                refine F.sk rfl rfl rfl (wf rfl rfl rfl g37) ?_
                refine F.q rfl rfl rfl (wanted_none rfl) (r_pickf rfl rfl g37) ?_
                refine F.nil ?_
                cases hE_4
                refine Nrm.only [1, 2, 3, 7, 9, 12, 13, 14, 43] rfl ?_
                refine Nrm.pick [0, 1] rfl rfl ?_
                exact hj_3 _ _ ⟨rfl, rfl⟩
          · refine Tri.cond (b := t17.1 == a1) rfl (fun g_3 => ?_) (fun g_3 => ?_)
            · replace hE_3 := if_tt g_3 hE_3
              obtain ⟨hs31, hE_3⟩ := ck hE_3
              refine Tri.reg (l := [0, 1, 2, 3, 4, 5]) rfl ?_
              refine F.q rfl rfl rfl (wanted_none rfl) (r_move rfl) ?_
              refine F.q rfl rfl rfl (wanted_none rfl) (r_indexAddrA Try.underlying116 ti3 rfl rfl (by decide) (by decide)) ?_
              refine F.q rfl rfl rfl (wanted_none rfl) (r_load ta3 rfl (fun w hw => cell_1 (box_cells (i := 0) rfl w hw) rfl)) ?_
              refine F.q rfl rfl rfl (wanted_none rfl) (r_shl rfl rfl hs31) ?_
              refine F.q rfl rfl rfl (wanted_none rfl) (r_or rfl rfl) ?_
              refine F.q rfl rfl rfl (wanted_none rfl) (r_assign rfl) ?_
              refine F.nil ?_
              cases hE_3
              refine Nrm.only [1, 2, 3, 7, 8, 9, 12, 13, 14] rfl ?_
              refine Nrm.pick [0, 1] rfl rfl ?_
              exact hj_2 _ _ ⟨rfl, rfl⟩
            · replace hE_3 := if_ff g_3 hE_3
              refine Tri.skip ?_
              cases hE_3
              refine Nrm.only [1, 2, 3, 7, 8, 9, 12, 13, 14] rfl ?_
              refine Nrm.pick [0, 1] rfl rfl ?_
              exact hj_2 _ _ ⟨rfl, rfl⟩
    · replace hE_1 := if_ff g_1 hE_1
      refine Tri.exit ?_
      refine Exi.then ?_
      refine Exi.then ?_
      refine Exi.same ?_
      cases hE_1
      refine Nrm.seq ?_
      refine Tri.seq ?_
      refine Tri.reg (l := [0, 1]) rfl ?_
      refine F.q rfl rfl rfl (wanted_none rfl) (r_move rfl) ?_
      refine F.q rfl rfl rfl (wanted_none rfl) (r_assign rfl) ?_
      refine F.nil ?_
      refine Nrm.seq ?_
      refine Tri.ret ?_
      cases h
      exact Rtn.body (.tmp rfl .nil) (fun w hw => ⟨rfl, hw.ext⟩)

end Go.Proofs

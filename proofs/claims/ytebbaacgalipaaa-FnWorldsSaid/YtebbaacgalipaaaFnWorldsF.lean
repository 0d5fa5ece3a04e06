/- A part of the proof of FnWorlds: what the functions of the program compute, walked on the model. No condition. -/
import Derived.Test.YtebbaacgalipaaaFnWorldsC
import Derived.Test.YtebbaacgalipaaaFnWorldsD
import Derived.Test.YtebbaacgalipaaaFnWorldsE
set_option linter.unusedSimpArgs false
/- loop.example/g01158/spec.l10Rounds -/
namespace Go.Proofs
open Go Go.Ga
set_option linter.unusedVariables false
set_option maxRecDepth 100000
set_option maxHeartbeats 4000000
def spec_l10Rounds.l3 (k : Nat) (a0_1 : List (List Int)) (a1 : Bool) (x8 : Int) (x11 : Int) (t61 : Int × List (Int × Int × Int) × List Int) (t68 : List Int) (t73 : Bool) : Nat → (List (Int)) → Int → (List (List Int)) → Option ((List (List Int)) × (List (Int)))
 | 0, _, _, _ => none
 | n + 1, x10r, x15, xq6_2_2rrr => (if (decide (x15 < t61.1)) = true then ((spec_l1Has.f k t68 x15).bind fun t82 => (if t82 = true then (rdl (xq6_2_2rrr : List (List Int)) x11).bind fun t87 => (rdl t87 x15).bind fun t90 => some (decide (t90 < 0), (xq6_2_2rrr : List (List Int)).set (x11 : Int).toNat t87) else some (false, xq6_2_2rrr))).bind fun (y93, yb6_2_2r) => ((if y93 = true then (rdl (yb6_2_2r : List (List Int)) x11).bind fun t97 => (rdl t97 x15).bind fun t101 => some ((yb6_2_2r : List (List Int)).set (x11 : Int).toNat (t97.set x15.toNat x8)) else some yb6_2_2r)).bind fun yb6_2_2rr => ((spec_l1Has.f k t68 x15).bind fun t104 => (if t104 = true then some true else (if a1 = true then some t73 else some false))).bind fun y110 => ((if y110 = true then (rdl a0_1 x11).bind fun t114 => (rdl t114 x15).bind fun t117 => (rdl x10r t117).bind fun t123 => (rdl t61.2.2 x15).bind fun t128 => (rdl x10r t117).bind fun t131 => some (x10r.set t117.toNat (bor t123 t128)) else some x10r)).bind fun y10 => spec_l10Rounds.l3 k a0_1 a1 x8 x11 t61 t68 t73 n y10 (w64 (x15 + 1)) yb6_2_2rr else some (xq6_2_2rrr, x10r))

def spec_l10Rounds.l2 (k : Nat) (a0_0 : List (Int × List (Int × Int × Int) × List Int)) (a0_1 : List (List Int)) (a1 : Bool) (x8 : Int) (t49 : List Int) : Nat → (List (Int)) → Int → (List (Int)) → (List (List Int)) → Option ((List (Int)) × (List (List Int)) × (List (Int)))
 | 0, _, _, _, _ => none
 | n + 1, x10, x11, xq6_2_1r, xq6_2_2rr => (if (decide (x11 < (a0_0.length : Int))) = true then (rdl a0_0 x11).bind fun t61 => (rdl t49 x11).bind fun t66 => (spec_l2Reach.f k t61.1 t61.2.1 t61.2.2 0 t66).bind fun t68 => (spec_l1Has.f k t68 (w64 (t61.1 - 1))).bind fun t73 => (spec_l10Rounds.l3 k a0_1 a1 x8 x11 t61 t68 t73 k x10 0 xq6_2_2rr).bind fun (xq6_2_2rrr, x10r) => ((if t73 = true then (rdl xq6_2_1r x11).bind fun t137 => some (decide (t137 < 0)) else some false)).bind fun y140 => ((if y140 = true then (rdl xq6_2_1r x11).bind fun t145 => some (xq6_2_1r.set x11.toNat x8) else some xq6_2_1r)).bind fun yb6_2_1r => spec_l10Rounds.l2 k a0_0 a0_1 a1 x8 t49 n x10r (w64 (x11 + 1)) yb6_2_1r xq6_2_2rrr else some (xq6_2_1r, xq6_2_2rr, x10))

def spec_l10Rounds.l1 (k : Nat) (a0_0 : List (Int × List (Int × Int × Int) × List Int)) (a0_1 : List (List Int)) (a1 : Bool) : Nat → Int → (List (List Int)) → (List (Int)) → (List (List Int)) → Option ((Unit) ⊕ ((List (List Int)) × (List Int) × (List (List Int))))
 | 0, _, _, _, _ => none
 | n + 1, x8, xq6_2_0, xq6_2_1, xq6_2_2r => (rdl (xq6_2_0 : List (List Int)) x8).bind fun t49 => (spec_l1Own.f k t49).bind fun t52 => (spec_l10Rounds.l2 k a0_0 a0_1 a1 x8 t49 k t52 0 xq6_2_1 xq6_2_2r).bind fun (xq6_2_1r, xq6_2_2rr, x10) => (spec_l1Same.f k x10 t49).bind fun t148 => (if t148 = true then some (Sum.inr ((xq6_2_0 : List (List Int)).set (x8 : Int).toNat t49, xq6_2_1r, xq6_2_2rr)) else if (((xq6_2_0 : List (List Int)).set (x8 : Int).toNat t49 : List (List Int)) ++ ([x10] : List (List Int))).length < 1099511627776 then spec_l10Rounds.l1 k a0_0 a0_1 a1 n (w64 (x8 + 1)) (((xq6_2_0 : List (List Int)).set (x8 : Int).toNat t49 : List (List Int)) ++ ([x10] : List (List Int))) xq6_2_1r xq6_2_2rr else none)

def spec_l10Rounds.l0 (k : Nat) (a0_0 : List (Int × List (Int × Int × Int) × List Int)) : Nat → Int → (List (List Int)) → Option ((List (List Int)))
 | 0, _, _ => none
 | n + 1, x7, xq6_2_2 => (if (decide (x7 < (a0_0.length : Int))) = true then (rdl a0_0 x7).bind fun t37 => (spec_l10None.f k t37.1).bind fun t40 => if ((xq6_2_2 : List (List Int)) ++ ([t40] : List (List Int))).length < 1099511627776 then spec_l10Rounds.l0 k a0_0 n (w64 (x7 + 1)) ((xq6_2_2 : List (List Int)) ++ ([t40] : List (List Int))) else none else some xq6_2_2)

def spec_l10Rounds.f (k : Nat) (a0_0 : List (Int × List (Int × Int × Int) × List Int)) (a0_1 : List (List Int)) (a1 : Bool) : Option ((List (List Int)) × (List Int) × (List (List Int))) := (if 0 ≤ (a0_0.length : Int) ∧ (a0_0.length : Int) < 1099511627776 then (spec_l10None.f k (a0_0.length : Int)).bind fun t24 => some (([List.replicate ((a0_0.length : Int)).toNat (0 : Int)] : List (List Int)), t24, ([] : List (List Int))) else none).bind fun (yb6_2_0, yb6_2_1, yb6_2_2) => (spec_l10Rounds.l0 k a0_0 k 0 yb6_2_2).bind fun xq6_2_2 => (spec_l10Rounds.l1 k a0_0 a0_1 a1 k 0 yb6_2_0 yb6_2_1 xq6_2_2).bind fun s => Lr s some fun _ => none

theorem spec_l10Rounds.ok {k : Nat}  {a0_0 : List (Int × List (Int × Int × Int) × List Int)} {a0_1 : List (List Int)} {a1 : Bool} {r0 : List (List Int)} {r1 : List Int} {r2 : List (List Int)} (h : spec_l10Rounds.f k a0_0 a0_1 a1 = some (r0, r1, r2)) (w : World) {va0_0 : Value} {va0_1 : Value} (hr_a0_0 : Rd w va0_0 a0_0) (hr_a0_1 : Rd w va0_1 a0_1) :
  Calls Try.prog 148 ([.agg ([va0_0, va0_1].toArray), .bool a1] : List Value).toArray w (Post (fun u ns => ∃ (ur0 : Value) (Sr0 : Nat → Prop) (ur1 : Value) (Sr1 : Nat → Prop) (ur2 : Value) (Sr2 : Nat → Prop), u = .agg [ur0, ur1, ur2].toArray ∧ SlLen ur0 r0.length ∧ SlLen ur1 r1.length ∧ SlLen ur2 r2.length ∧ ns = [R.sl Sr0 ur0 r0, R.sl Sr1 ur1 r1, R.sl Sr2 ur2 r2]) w) := by
 unfold spec_l10Rounds.f at h
 have hl_va0_0 := hr_a0_0.len
 have hl_va0_1 := hr_a0_1.len
 refine Calls.of_tri (N := 156) Try.func148 rfl rfl rfl (Sep.nil (M := noM)) ?_
 refine Tri.seq (Tri.reg (l := [0, 1]) rfl ?_)
 refine F.mn rfl (m_boxG rfl rfl) ?_
 rintro _ _ ⟨b2_1, rfl, rfl⟩
 refine F.mn rfl (m_alloc ti148) ?_
 rintro _ _ ⟨b4_1, rfl, rfl⟩
 refine F.nil (Nrm.seq (Tri.seq (Tri.reg (l := [0, 1, 2, 3]) rfl ?_)))
 refine F.qn rfl (r_fieldAddr tf85_0 rfl) (F.qn rfl (r_load ta82 rfl (fun w hw => cell_1 (box_cells (i := 1) rfl w hw) rfl)) (F.qn rfl (r_len Try.underlying82 rfl hl_va0_0) (F.qn rfl (r_assign rfl) (F.nil (Nrm.seq (Tri.seq ?_))))))
 obtain ⟨⟨yb6_2_0, yb6_2_1, yb6_2_2⟩, hE_1, h⟩ := bind_some h
 refine Tri.cut (fun e' C' => ∃ (vb6_2_0_1 : Value) (Sb6_2_0_1 : Nat → Prop) (vb6_2_1_1 : Value) (Sb6_2_1_1 : Nat → Prop) (vb6_2_2_1 : Value) (Sb6_2_2_1 : Nat → Prop) (b6_2 : Nat), SlLen vb6_2_0_1 (yb6_2_0).length ∧ SlLen vb6_2_1_1 (yb6_2_1).length ∧ SlLen vb6_2_2_1 (yb6_2_2).length ∧ e' = [(1, .bool a1), (2, .pointer (some ⟨b2_1, 0, none⟩)), (4, .pointer (some ⟨b4_1, 0, none⟩)), (5, .int .i64 (a0_0.length : Int)), (6, .pointer (some ⟨b6_2, 0, none⟩))] ∧ C' = Sep w noM [R.box b4_1 148 [.slice none 0 0, .slice none 0 0, .slice none 0 0], R.box b2_1 85 [va0_0, va0_1], R.box b6_2 148 [vb6_2_0_1, vb6_2_1_1, vb6_2_2_1], R.sl Sb6_2_0_1 vb6_2_0_1 (yb6_2_0 : List (List Int)), R.sl Sb6_2_1_1 vb6_2_1_1 (yb6_2_1 : List (Int)), R.sl Sb6_2_2_1 vb6_2_2_1 (yb6_2_2 : List (List Int))]) ?_ (fun hj_1 => ?_)
 ·rintro _ _ ⟨vb6_2_0_1, Sb6_2_0_1, vb6_2_1_1, Sb6_2_1_1, vb6_2_2_1, Sb6_2_2_1, b6_2, hl_vb6_2_0_1, hl_vb6_2_1_1, hl_vb6_2_2_1, rfl, rfl⟩
  refine Nrm.seq (Tri.seq (Tri.seq (Tri.reg (l := [0]) rfl ?_)))
  refine F.qn rfl (r_assign rfl) (F.nil (Nrm.seq ?_))
  obtain ⟨xq6_2_2, hE_2, h⟩ := bind_some h
  refine Tri.block ?_
  refine Tri.only [1, 2, 4, 5, 6, 7] rfl ?_
  refine Tri.pick [0, 1, 2, 3, 4, 5] rfl rfl ?_
  refine Tri.rounds (fun n e' C' => ∃ (x7' : Int) (xq6_2_2' : List (List Int)) (wq6_2_2 : Value) (Tq6_2_2 : Nat → Prop), spec_l10Rounds.l0 k a0_0 n x7' xq6_2_2' = some xq6_2_2 ∧ SlLen wq6_2_2 (xq6_2_2').length ∧ e' = [(1, .bool a1), (2, .pointer (some ⟨b2_1, 0, none⟩)), (4, .pointer (some ⟨b4_1, 0, none⟩)), (5, .int .i64 (a0_0.length : Int)), (6, .pointer (some ⟨b6_2, 0, none⟩)), (7, .int .i64 x7')] ∧ C' = Sep w noM [R.box b4_1 148 [.slice none 0 0, .slice none 0 0, .slice none 0 0], R.box b2_1 85 [va0_0, va0_1], R.box b6_2 148 [vb6_2_0_1, vb6_2_1_1, wq6_2_2], R.sl Sb6_2_0_1 vb6_2_0_1 (yb6_2_0 : List (List Int)), R.sl Sb6_2_1_1 vb6_2_1_1 (yb6_2_1 : List (Int)), R.sl Tq6_2_2 wq6_2_2 (xq6_2_2' : List (List Int))]) k ?_ ?_ ?_
  ·exact ⟨0, yb6_2_2, vb6_2_2_1, Sb6_2_2_1, hE_2, hl_vb6_2_2_1, rfl, rfl⟩
  ·rintro _ _ ⟨_, _, _, _, hE_2, _⟩
   rw [spec_l10Rounds.l0.eq_1] at hE_2; cases hE_2
  ·rintro n_1 _ _ ⟨x7, xq6_2_2, wq6_2_2, Tq6_2_2, hE_2, hl_wq6_2_2, rfl, rfl⟩ ih_1
   rw [spec_l10Rounds.l0.eq_2] at hE_2
   refine Tri.seq (Tri.seq (Tri.reg (l := [0, 1, 2]) rfl ?_))
   refine F.qn rfl (r_move rfl) (F.qn rfl (r_move rfl) (F.qn rfl (r_lss rfl rfl) (F.nil (Nrm.seq (Tri.cond (b := decide (x7 < (a0_0.length : Int))) rfl (fun g_1 => ?_) (fun g_1 => ?_))))))
   ·replace hE_2 := if_tt g_1 hE_2
    refine Tri.skip (Nrm.seq (Tri.seq (Tri.block ?_)))
    obtain ⟨t37, h37, hE_2⟩ := bind_some hE_2
    obtain ⟨_, hc37, hp37⟩ := Rd.elem hr_a0_0 (rdl_some h37).2.2
    obtain ⟨v37_1, v37_2, rfl, hr_v37_1, hr_v37_2⟩ := op27 hp37
    have hl_v37_1 := hr_v37_1.len
    have hl_v37_2 := hr_v37_2.len
    obtain ⟨t40, h40, hE_2⟩ := bind_some hE_2
    obtain ⟨hs42, hE_2⟩ := ck hE_2
    refine Tri.drawB mixedT Sep.up [(0, true), (1, true), (2, true), (3, true), (4, true), (5, true), (6, true), (7, true), (8, false), (9, false)] [10, 11, 12] (by kernel_rfl) ?_
    refine B.q rfl rfl rfl (wanted_none rfl) (r_fieldAddr tf148_2 rfl) ?_
    refine B.q rfl rfl rfl (wanted_none rfl) (r_load ta83 rfl (fun w hw => cell_1 (box_cells (i := 2) rfl w hw) rfl)) ?_
    refine B.q rfl rfl rfl (wanted_none rfl) (r_fieldAddr tf85_0 rfl) ?_
    refine B.q rfl rfl rfl (wanted_none rfl) (r_load ta82 rfl (fun w hw => cell_1 (box_cells (i := 1) rfl w hw) rfl)) ?_
    refine B.q rfl rfl rfl (wanted_none rfl) (r_move rfl) ?_
    refine B.q rfl rfl rfl (wanted_none rfl) (r_indexAddrS Try.underlying82 ti27 rfl hl_va0_0 rfl (rdl_some h37).1 (rdl_some h37).2.1) ?_
    refine B.q rfl rfl rfl (wanted_none rfl) (r_fieldAddr tf27_0 rfl) ?_
    refine B.q rfl rfl rfl (wanted_none rfl) (r_load ta3 rfl (fun w hw => cell_1 (hc37.sep hw) rfl)) ?_
    refine B.ef rfl rfl rfl (wanted_none rfl) (Makes.does (m_callF (xs := _) rfl ok200 rfl rfl (fun w hw => spec_l10None.ok h40 w ))) (by rintro v40_2 _ ⟨_, ⟨S40_2, hl_v40_2, rfl⟩, rfl⟩; exact upd rfl [1, 2, 3, 4, 5, 6] rfl rfl) ?_
    rintro v40_2 _ ⟨_, ⟨S40_2, hl_v40_2, rfl⟩, rfl⟩
    refine B.ef rfl rfl rfl (wanted_none rfl) (d_build1 (cells := [v40_2]) (x0 := (t40 : List Int)) (cs := [R.sl S40_2 v40_2 (t40 : List (Int))]) (rest := [R.box b4_1 148 [.slice none 0 0, .slice none 0 0, .slice none 0 0], R.box b2_1 85 [va0_0, va0_1], R.box b6_2 148 [vb6_2_0_1, vb6_2_1_1, wq6_2_2], R.sl Sb6_2_0_1 vb6_2_0_1 (yb6_2_0 : List (List Int)), R.sl Sb6_2_1_1 vb6_2_1_1 (yb6_2_1 : List (Int)), R.sl Tq6_2_2 wq6_2_2 (xq6_2_2 : List (List Int))]) [0] [1, 2, 3, 4, 5, 6] Try.underlying83 ti25 rfl (sl_cells hl_v40_2) rfl (lf_cons (sl_leaf hl_v40_2) lf_nil) rfl rfl (jn_sl (S := S40_2) (v := v40_2) (l := (t40 : List (Int))))) (by rintro v41_2 _ ⟨S41_2, hl_v41_2, rfl⟩; exact upd rfl [1, 2, 3, 4, 5, 6] rfl rfl) ?_
    rintro v41_2 _ ⟨S41_2, hl_v41_2, rfl⟩
    refine B.nil ?_
    refine F.efn rfl (d_appendN (rest := [R.box b4_1 148 [.slice none 0 0, .slice none 0 0, .slice none 0 0], R.box b2_1 85 [va0_0, va0_1], R.box b6_2 148 [vb6_2_0_1, vb6_2_1_1, wq6_2_2], R.sl Sb6_2_0_1 vb6_2_0_1 (yb6_2_0 : List (List Int)), R.sl Sb6_2_1_1 vb6_2_1_1 (yb6_2_1 : List (Int))]) 6 0 [1, 2, 3, 4, 5] Try.underlying83 Try.underlying83 ti25 rfl (by decide) rfl rfl rfl rfl hs42) ?_
    rintro v42_2 _ ⟨S42_2, hl_v42_2, rfl⟩
    refine F.qn rfl (r_fieldAddr tf148_2 rfl) ?_
    refine F.ef0 rfl rfl (wanted_none rfl) (d_storeG1 (i := 3) (cs2 := [v42_2]) ti83 rfl rfl rfl (sl_cells hl_v42_2) rfl (Nat.le_of_ble_eq_true rfl) (lf_cons (sl_leaf hl_v42_2) lf_nil)) ?_
    rintro _ _ ⟨rfl, rfl⟩
    refine F.nil (Nrm.block ?_)
    refine Nrm.seq (Tri.reg (l := [0, 1, 2]) rfl ?_)
    refine F.qn rfl (r_move rfl) (F.qn rfl (r_add rfl rfl) (F.qn rfl (r_assign rfl) (F.nil (Nrm.round ?_))))
    refine Rnd.only [1, 2, 4, 5, 6, 7] rfl ?_
    refine Rnd.pick [1, 2, 3, 4, 5, 0] rfl rfl ?_
    exact ih_1 _ _ ⟨w64 (x7 + 1), (xq6_2_2 : List (List Int)) ++ ([t40] : List (List Int)), v42_2, S42_2, hE_2, hl_v42_2, rfl, rfl⟩
   ·replace hE_2 := if_ff g_1 hE_2
    refine Tri.exit ?_
    refine Exi.then ?_
    refine Exi.then ?_
    refine Exi.same ?_
    cases hE_2
    refine Nrm.seq (Tri.seq (Tri.reg (l := [0]) rfl ?_))
    refine F.qn rfl (r_assign rfl) (F.nil (Nrm.seq ?_))
    obtain ⟨s1, hE_3, h⟩ := bind_some h
    refine Tri.block ?_
    refine Tri.only [1, 2, 4, 5, 6, 8] rfl ?_
    refine Tri.pick [0, 1, 2, 3, 4, 5] rfl rfl ?_
    refine Tri.rounds (fun n e' C' => ∃ (x8' : Int) (xq6_2_0' : List (List Int)) (xq6_2_1' : List (Int)) (xq6_2_2r' : List (List Int)) (wq6_2_0 : Value) (Tq6_2_0 : Nat → Prop) (wq6_2_1 : Value) (Tq6_2_1 : Nat → Prop) (wq6_2_2r : Value) (Tq6_2_2r : Nat → Prop), spec_l10Rounds.l1 k a0_0 a0_1 a1 n x8' xq6_2_0' xq6_2_1' xq6_2_2r' = some s1 ∧ SlLen wq6_2_0 (xq6_2_0').length ∧ SlLen wq6_2_1 (xq6_2_1').length ∧ SlLen wq6_2_2r (xq6_2_2r').length ∧ e' = [(1, .bool a1), (2, .pointer (some ⟨b2_1, 0, none⟩)), (4, .pointer (some ⟨b4_1, 0, none⟩)), (5, .int .i64 (a0_0.length : Int)), (6, .pointer (some ⟨b6_2, 0, none⟩)), (8, .int .i64 x8')] ∧ C' = Sep w noM [R.box b4_1 148 [.slice none 0 0, .slice none 0 0, .slice none 0 0], R.box b2_1 85 [va0_0, va0_1], R.box b6_2 148 [wq6_2_0, wq6_2_1, wq6_2_2r], R.sl Tq6_2_0 wq6_2_0 (xq6_2_0' : List (List Int)), R.sl Tq6_2_1 wq6_2_1 (xq6_2_1' : List (Int)), R.sl Tq6_2_2r wq6_2_2r (xq6_2_2r' : List (List Int))]) k ?_ ?_ ?_
    ·exact ⟨0, yb6_2_0, yb6_2_1, xq6_2_2, vb6_2_0_1, Sb6_2_0_1, vb6_2_1_1, Sb6_2_1_1, wq6_2_2, Tq6_2_2, hE_3, hl_vb6_2_0_1, hl_vb6_2_1_1, hl_wq6_2_2, rfl, rfl⟩
    ·rintro _ _ ⟨_, _, _, _, _, _, _, _, _, _, hE_3, _⟩
     rw [spec_l10Rounds.l1.eq_1] at hE_3; cases hE_3
    ·rintro n_2 _ _ ⟨x8, xq6_2_0, xq6_2_1, xq6_2_2r, wq6_2_0, Tq6_2_0, wq6_2_1, Tq6_2_1, wq6_2_2r, Tq6_2_2r, hE_3, hl_wq6_2_0, hl_wq6_2_1, hl_wq6_2_2r, rfl, rfl⟩ ih_2
     rw [spec_l10Rounds.l1.eq_2] at hE_3
     refine Tri.seq (Tri.block ?_)
     refine Tri.seq ?_
     obtain ⟨t49, h49, hE_3⟩ := bind_some hE_3
     refine Tri.ex (on25 [3] [0, 1, 2, 4, 5] rfl rfl (rdl_some h49).2.2) ?_
     rintro _ ⟨v49_0_1, S49_0_1, Sr49_1, hl_v49_0_1, hS49_1, rfl⟩
     refine Tri.reg (l := [0, 1, 2, 3, 4, 5]) rfl ?_
     refine F.qn rfl (r_fieldAddr tf148_0 rfl) (F.qn rfl (r_load ta83 rfl (fun w hw => cell_1 (box_cells (i := 4) rfl w hw) rfl)) (F.qn rfl (r_move rfl) (F.qn rfl (r_indexAddrS Try.underlying83 ti25 rfl hl_wq6_2_0 rfl (rdl_some h49).1 (rdl_some h49).2.1) (F.qn rfl (r_load ta25 rfl (fun w hw => cell_0 (hole_cells (p := 1) rfl w hw) rfl)) (F.qn rfl (r_assign rfl) (F.nil (Nrm.seq (Tri.seq ?_))))))))
     obtain ⟨t52, h52, hE_3⟩ := bind_some hE_3
     refine Tri.reg (l := [0, 1, 2]) rfl ?_
     refine F.qn rfl (r_move rfl) ?_
     refine F.mn rfl (m_callF (xs := _) rfl ok183 rfl rfl (fun w hw => spec_l1Own.ok h52 w ((rd_sl (i := 0) rfl) w hw))) ?_
     rintro v52_1 _ ⟨_, ⟨S52_1, hl_v52_1, rfl⟩, rfl⟩
     refine F.qn rfl (r_assign rfl) (F.nil (Nrm.seq (Tri.seq (Tri.seq (Tri.reg (l := [0]) rfl ?_)))))
     refine F.qn rfl (r_assign rfl) (F.nil (Nrm.seq ?_))
     obtain ⟨⟨xq6_2_1r, xq6_2_2rr, x10⟩, hE_4, hE_3⟩ := bind_some hE_3
     refine Tri.block ?_
     refine Tri.only [1, 2, 4, 5, 6, 8, 9, 10, 11] rfl ?_
     refine Tri.pick [2, 3, 4, 5, 0, 1, 6, 7] rfl rfl ?_
     refine Tri.rounds (fun n e' C' => ∃ (x10' : List (Int)) (x11' : Int) (xq6_2_1r' : List (Int)) (xq6_2_2rr' : List (List Int)) (w10 : Value) (T10 : Nat → Prop) (wq6_2_1r : Value) (Tq6_2_1r : Nat → Prop) (wq6_2_2rr : Value) (Tq6_2_2rr : Nat → Prop), spec_l10Rounds.l2 k a0_0 a0_1 a1 x8 t49 n x10' x11' xq6_2_1r' xq6_2_2rr' = some (xq6_2_1r, xq6_2_2rr, x10) ∧ SlLen w10 (x10').length ∧ SlLen wq6_2_1r (xq6_2_1r').length ∧ SlLen wq6_2_2rr (xq6_2_2rr').length ∧ e' = [(1, .bool a1), (2, .pointer (some ⟨b2_1, 0, none⟩)), (4, .pointer (some ⟨b4_1, 0, none⟩)), (5, .int .i64 (a0_0.length : Int)), (6, .pointer (some ⟨b6_2, 0, none⟩)), (8, .int .i64 x8), (9, v49_0_1), (10, w10), (11, .int .i64 x11')] ∧ C' = Sep w noM [R.hole Sr49_1 wq6_2_0 (xq6_2_0 : List (List Int)) (x8 : Int).toNat [v49_0_1], R.box b4_1 148 [.slice none 0 0, .slice none 0 0, .slice none 0 0], R.box b2_1 85 [va0_0, va0_1], R.box b6_2 148 [wq6_2_0, wq6_2_1r, wq6_2_2rr], R.sl T10 w10 (x10' : List (Int)), R.sl S49_0_1 v49_0_1 (t49 : List (Int)), R.sl Tq6_2_1r wq6_2_1r (xq6_2_1r' : List (Int)), R.sl Tq6_2_2rr wq6_2_2rr (xq6_2_2rr' : List (List Int))]) k ?_ ?_ ?_
     ·exact ⟨t52, 0, xq6_2_1, xq6_2_2r, v52_1, S52_1, wq6_2_1, Tq6_2_1, wq6_2_2r, Tq6_2_2r, hE_4, hl_v52_1, hl_wq6_2_1, hl_wq6_2_2r, rfl, rfl⟩
     ·rintro _ _ ⟨_, _, _, _, _, _, _, _, _, _, hE_4, _⟩
      rw [spec_l10Rounds.l2.eq_1] at hE_4; cases hE_4
     ·rintro n_3 _ _ ⟨x10, x11, xq6_2_1r, xq6_2_2rr, w10, T10, wq6_2_1r, Tq6_2_1r, wq6_2_2rr, Tq6_2_2rr, hE_4, hl_w10, hl_wq6_2_1r, hl_wq6_2_2rr, rfl, rfl⟩ ih_3
      rw [spec_l10Rounds.l2.eq_2] at hE_4
      refine Tri.seq (Tri.seq (Tri.reg (l := [0, 1, 2]) rfl ?_))
      refine F.qn rfl (r_move rfl) (F.qn rfl (r_move rfl) (F.qn rfl (r_lss rfl rfl) (F.nil (Nrm.seq (Tri.cond (b := decide (x11 < (a0_0.length : Int))) rfl (fun g_2 => ?_) (fun g_2 => ?_))))))
      ·replace hE_4 := if_tt g_2 hE_4
       refine Tri.skip (Nrm.seq (Tri.seq (Tri.block ?_)))
       refine Tri.seq ?_
       obtain ⟨t61, h61, hE_4⟩ := bind_some hE_4
       obtain ⟨_, hc61, hp61⟩ := Rd.elem hr_a0_0 (rdl_some h61).2.2
       obtain ⟨v61_1, v61_2, rfl, hr_v61_1, hr_v61_2⟩ := op27 hp61
       have hl_v61_1 := hr_v61_1.len
       have hl_v61_2 := hr_v61_2.len
       refine Tri.reg (l := [0, 1, 2, 3, 4, 5, 6]) rfl ?_
       refine F.qn rfl (r_fieldAddr tf85_0 rfl) (F.qn rfl (r_load ta82 rfl (fun w hw => cell_1 (box_cells (i := 2) rfl w hw) rfl)) (F.qn rfl (r_move rfl) (F.qn rfl (r_indexAddrS Try.underlying82 ti27 rfl hl_va0_0 rfl (rdl_some h61).1 (rdl_some h61).2.1) (F.qn rfl (r_loadA ta27 ti27 rfl rfl (fun w hw => (hc61.sep hw))) ?_))))
       refine F.mn rfl (m_alloc ti27) ?_
       rintro _ _ ⟨b12_1, rfl, rfl⟩
       refine F.ef0 rfl rfl (wanted_none rfl) (d_storeG0 (i := 0) (cs2 := [.int .i64 t61.1, v61_1, v61_2]) ti27 rfl rfl rfl rfl rfl (Nat.le_of_ble_eq_true rfl) (lf_cons rfl (lf_cons (sl_leaf hl_v61_1) (lf_cons (sl_leaf hl_v61_2) lf_nil)))) ?_
       rintro _ _ ⟨rfl, rfl⟩
       refine F.nil (Nrm.seq (Tri.seq ?_))
       obtain ⟨t66, h66, hE_4⟩ := bind_some hE_4
       obtain ⟨t68, h68, hE_4⟩ := bind_some hE_4
       refine Tri.drawA mixedT Sep.up [(0, true), (1, true), (2, true), (3, true), (4, true), (5, false), (6, true)] [] (by kernel_rfl) ?_
       refine S.qn rfl (r_loadA ta27 ti27 rfl rfl (fun w hw => (box_cells (i := 0) rfl w hw))) (S.qn rfl (r_move rfl) (S.qn rfl (r_move rfl) (S.qn rfl (r_indexAddrS Try.underlying25 ti3 rfl hl_v49_0_1 rfl (rdl_some h66).1 (rdl_some h66).2.1) (S.qn rfl (r_load ta3 rfl (fun w hw => cell_0 (Rd.flat ((rd_sl (i := 6) rfl) w hw) (rdl_some h66).2.2) rfl)) ?_))))
       refine S.m rfl rfl rfl (wanted_none rfl) (m_callF (xs := _) rfl ok161 rfl rfl (fun w hw => spec_l2Reach.ok h68 w ((fun _ hw => hr_v61_1.sep hw) w hw) ((fun _ hw => hr_v61_2.sep hw) w hw))) ?_
       rintro v68_2 _ ⟨_, ⟨S68_2, hl_v68_2, rfl⟩, rfl⟩
       refine S.qn rfl (r_assign rfl) (S.nil (F.nil (Nrm.seq (Tri.seq ?_))))
       obtain ⟨t73, h73, hE_4⟩ := bind_some hE_4
       refine Tri.reg (l := [0, 1, 2, 3, 4, 5]) rfl ?_
       refine F.qn rfl (r_move rfl) (F.qn rfl (r_fieldAddr tf27_0 rfl) (F.qn rfl (r_load ta3 rfl (fun w hw => cell_1 (box_cells (i := 1) rfl w hw) rfl)) (F.qn rfl (r_sub rfl rfl) ?_)))
       refine F.qcn rfl (q_callF (xs := _) rfl ok99 rfl rfl (fun w hw => spec_l1Has.ok h73 w ((rd_sl (i := 0) rfl) w hw))) ?_
       refine F.qn rfl (r_assign rfl) (F.nil (Nrm.seq (Tri.seq (Tri.seq (Tri.reg (l := [0]) rfl ?_)))))
       refine F.qn rfl (r_assign rfl) (F.nil (Nrm.seq ?_))
       obtain ⟨⟨xq6_2_2rrr, x10r⟩, hE_5, hE_4⟩ := bind_some hE_4
       refine Tri.block ?_
       refine Tri.only [1, 2, 4, 5, 6, 8, 9, 10, 11, 12, 13, 14, 15] rfl ?_
       refine Tri.pick [1, 2, 3, 4, 5, 0, 6, 7, 8, 9] rfl rfl ?_
       refine Tri.rounds (fun n e' C' => ∃ (x10r' : List (Int)) (x15' : Int) (xq6_2_2rrr' : List (List Int)) (w10r : Value) (T10r : Nat → Prop) (wq6_2_2rrr : Value) (Tq6_2_2rrr : Nat → Prop), spec_l10Rounds.l3 k a0_1 a1 x8 x11 t61 t68 t73 n x10r' x15' xq6_2_2rrr' = some (xq6_2_2rrr, x10r) ∧ SlLen w10r (x10r').length ∧ SlLen wq6_2_2rrr (xq6_2_2rrr').length ∧ e' = [(1, .bool a1), (2, .pointer (some ⟨b2_1, 0, none⟩)), (4, .pointer (some ⟨b4_1, 0, none⟩)), (5, .int .i64 (a0_0.length : Int)), (6, .pointer (some ⟨b6_2, 0, none⟩)), (8, .int .i64 x8), (9, v49_0_1), (10, w10r), (11, .int .i64 x11), (12, .pointer (some ⟨b12_1, 0, none⟩)), (13, v68_2), (14, .bool t73), (15, .int .i64 x15')] ∧ C' = Sep w noM [R.box b12_1 27 [.int .i64 t61.1, v61_1, v61_2], R.hole Sr49_1 wq6_2_0 (xq6_2_0 : List (List Int)) (x8 : Int).toNat [v49_0_1], R.box b4_1 148 [.slice none 0 0, .slice none 0 0, .slice none 0 0], R.box b2_1 85 [va0_0, va0_1], R.box b6_2 148 [wq6_2_0, wq6_2_1r, wq6_2_2rrr], R.sl S68_2 v68_2 (t68 : List (Int)), R.sl T10r w10r (x10r' : List (Int)), R.sl S49_0_1 v49_0_1 (t49 : List (Int)), R.sl Tq6_2_1r wq6_2_1r (xq6_2_1r : List (Int)), R.sl Tq6_2_2rrr wq6_2_2rrr (xq6_2_2rrr' : List (List Int))]) k ?_ ?_ ?_
       ·exact ⟨x10, 0, xq6_2_2rr, w10, T10, wq6_2_2rr, Tq6_2_2rr, hE_5, hl_w10, hl_wq6_2_2rr, rfl, rfl⟩
       ·rintro _ _ ⟨_, _, _, _, _, _, _, hE_5, _⟩
        rw [spec_l10Rounds.l3.eq_1] at hE_5; cases hE_5
       ·rintro n_4 _ _ ⟨x10r, x15, xq6_2_2rrr, w10r, T10r, wq6_2_2rrr, Tq6_2_2rrr, hE_5, hl_w10r, hl_wq6_2_2rrr, rfl, rfl⟩ ih_4
        rw [spec_l10Rounds.l3.eq_2] at hE_5
        refine Tri.seq (Tri.seq (Tri.reg (l := [0, 1, 2, 3]) rfl ?_))
        refine F.qn rfl (r_move rfl) (F.qn rfl (r_fieldAddr tf27_0 rfl) (F.qn rfl (r_load ta3 rfl (fun w hw => cell_1 (box_cells (i := 0) rfl w hw) rfl)) (F.qn rfl (r_lss rfl rfl) (F.nil (Nrm.seq (Tri.cond (b := decide (x15 < t61.1)) rfl (fun g_3 => ?_) (fun g_3 => ?_)))))))
        ·replace hE_5 := if_tt g_3 hE_5
         refine Tri.skip (Nrm.seq (Tri.seq (Tri.block ?_)))
         refine Tri.seq (Tri.seq ?_)
         obtain ⟨⟨y93, yb6_2_2r⟩, hE_6, hE_5⟩ := bind_some hE_5
         refine Tri.cut (fun e' C' => ∃ (vb6_2_2_2 : Value) (Sb6_2_2_2 : Nat → Prop), SlLen vb6_2_2_2 (yb6_2_2r).length ∧ e' = [(1, .bool a1), (2, .pointer (some ⟨b2_1, 0, none⟩)), (4, .pointer (some ⟨b4_1, 0, none⟩)), (5, .int .i64 (a0_0.length : Int)), (6, .pointer (some ⟨b6_2, 0, none⟩)), (8, .int .i64 x8), (9, v49_0_1), (10, w10r), (11, .int .i64 x11), (12, .pointer (some ⟨b12_1, 0, none⟩)), (13, v68_2), (14, .bool t73), (15, .int .i64 x15), (93, .bool y93)] ∧ C' = Sep w noM [R.box b12_1 27 [.int .i64 t61.1, v61_1, v61_2], R.hole Sr49_1 wq6_2_0 (xq6_2_0 : List (List Int)) (x8 : Int).toNat [v49_0_1], R.box b4_1 148 [.slice none 0 0, .slice none 0 0, .slice none 0 0], R.box b2_1 85 [va0_0, va0_1], R.box b6_2 148 [wq6_2_0, wq6_2_1r, vb6_2_2_2], R.sl Sb6_2_2_2 vb6_2_2_2 (yb6_2_2r : List (List Int)), R.sl S49_0_1 v49_0_1 (t49 : List (Int)), R.sl S68_2 v68_2 (t68 : List (Int)), R.sl T10r w10r (x10r : List (Int)), R.sl Tq6_2_1r wq6_2_1r (xq6_2_1r : List (Int))]) ?_ (fun hj_2 => ?_)
         ·rintro _ _ ⟨vb6_2_2_2, Sb6_2_2_2, hl_vb6_2_2_2, rfl, rfl⟩
          refine Nrm.seq ?_
          obtain ⟨yb6_2_2rr, hE_7, hE_5⟩ := bind_some hE_5
          refine Tri.cut (fun e' C' => ∃ (vb6_2_2_3 : Value) (Sb6_2_2_3 : Nat → Prop), SlLen vb6_2_2_3 (yb6_2_2rr).length ∧ e' = [(1, .bool a1), (2, .pointer (some ⟨b2_1, 0, none⟩)), (4, .pointer (some ⟨b4_1, 0, none⟩)), (5, .int .i64 (a0_0.length : Int)), (6, .pointer (some ⟨b6_2, 0, none⟩)), (8, .int .i64 x8), (9, v49_0_1), (10, w10r), (11, .int .i64 x11), (12, .pointer (some ⟨b12_1, 0, none⟩)), (13, v68_2), (14, .bool t73), (15, .int .i64 x15)] ∧ C' = Sep w noM [R.box b12_1 27 [.int .i64 t61.1, v61_1, v61_2], R.hole Sr49_1 wq6_2_0 (xq6_2_0 : List (List Int)) (x8 : Int).toNat [v49_0_1], R.box b4_1 148 [.slice none 0 0, .slice none 0 0, .slice none 0 0], R.box b2_1 85 [va0_0, va0_1], R.box b6_2 148 [wq6_2_0, wq6_2_1r, vb6_2_2_3], R.sl Sb6_2_2_3 vb6_2_2_3 (yb6_2_2rr : List (List Int)), R.sl S49_0_1 v49_0_1 (t49 : List (Int)), R.sl S68_2 v68_2 (t68 : List (Int)), R.sl T10r w10r (x10r : List (Int)), R.sl Tq6_2_1r wq6_2_1r (xq6_2_1r : List (Int))]) ?_ (fun hj_3 => ?_)
          ·rintro _ _ ⟨vb6_2_2_3, Sb6_2_2_3, hl_vb6_2_2_3, rfl, rfl⟩
           refine Nrm.seq (Tri.seq ?_)
           obtain ⟨y110, hE_8, hE_5⟩ := bind_some hE_5
           refine Tri.cut (fun e' C' => e' = [(1, .bool a1), (2, .pointer (some ⟨b2_1, 0, none⟩)), (4, .pointer (some ⟨b4_1, 0, none⟩)), (5, .int .i64 (a0_0.length : Int)), (6, .pointer (some ⟨b6_2, 0, none⟩)), (8, .int .i64 x8), (9, v49_0_1), (10, w10r), (11, .int .i64 x11), (12, .pointer (some ⟨b12_1, 0, none⟩)), (13, v68_2), (14, .bool t73), (15, .int .i64 x15), (110, .bool y110)] ∧ C' = Sep w noM [R.box b12_1 27 [.int .i64 t61.1, v61_1, v61_2], R.hole Sr49_1 wq6_2_0 (xq6_2_0 : List (List Int)) (x8 : Int).toNat [v49_0_1], R.box b4_1 148 [.slice none 0 0, .slice none 0 0, .slice none 0 0], R.box b2_1 85 [va0_0, va0_1], R.box b6_2 148 [wq6_2_0, wq6_2_1r, vb6_2_2_3], R.sl S49_0_1 v49_0_1 (t49 : List (Int)), R.sl S68_2 v68_2 (t68 : List (Int)), R.sl Sb6_2_2_3 vb6_2_2_3 (yb6_2_2rr : List (List Int)), R.sl T10r w10r (x10r : List (Int)), R.sl Tq6_2_1r wq6_2_1r (xq6_2_1r : List (Int))]) ?_ (fun hj_4 => ?_)
           ·rintro _ _ ⟨rfl, rfl⟩
            refine Nrm.seq ?_
            obtain ⟨y10, hE_9, hE_5⟩ := bind_some hE_5
            refine Tri.cut (fun e' C' => ∃ (v10_1 : Value) (S10_1 : Nat → Prop), SlLen v10_1 (y10).length ∧ e' = [(1, .bool a1), (2, .pointer (some ⟨b2_1, 0, none⟩)), (4, .pointer (some ⟨b4_1, 0, none⟩)), (5, .int .i64 (a0_0.length : Int)), (6, .pointer (some ⟨b6_2, 0, none⟩)), (8, .int .i64 x8), (9, v49_0_1), (10, v10_1), (11, .int .i64 x11), (12, .pointer (some ⟨b12_1, 0, none⟩)), (13, v68_2), (14, .bool t73), (15, .int .i64 x15)] ∧ C' = Sep w noM [R.box b12_1 27 [.int .i64 t61.1, v61_1, v61_2], R.hole Sr49_1 wq6_2_0 (xq6_2_0 : List (List Int)) (x8 : Int).toNat [v49_0_1], R.box b4_1 148 [.slice none 0 0, .slice none 0 0, .slice none 0 0], R.box b2_1 85 [va0_0, va0_1], R.box b6_2 148 [wq6_2_0, wq6_2_1r, vb6_2_2_3], R.sl S10_1 v10_1 (y10 : List (Int)), R.sl S49_0_1 v49_0_1 (t49 : List (Int)), R.sl S68_2 v68_2 (t68 : List (Int)), R.sl Sb6_2_2_3 vb6_2_2_3 (yb6_2_2rr : List (List Int)), R.sl Tq6_2_1r wq6_2_1r (xq6_2_1r : List (Int))]) ?_ (fun hj_5 => ?_)
            ·rintro _ _ ⟨v10_1, S10_1, hl_v10_1, rfl, rfl⟩
             refine Nrm.block ?_
             refine Nrm.seq (Tri.reg (l := [0, 1, 2]) rfl ?_)
             refine F.qn rfl (r_move rfl) (F.qn rfl (r_add rfl rfl) (F.qn rfl (r_assign rfl) (F.nil (Nrm.round ?_))))
             refine Rnd.only [1, 2, 4, 5, 6, 8, 9, 10, 11, 12, 13, 14, 15] rfl ?_
             refine Rnd.pick [0, 1, 2, 3, 4, 7, 5, 6, 9, 8] rfl rfl ?_
             exact ih_4 _ _ ⟨y10, w64 (x15 + 1), yb6_2_2rr, v10_1, S10_1, vb6_2_2_3, Sb6_2_2_3, hE_5, hl_v10_1, hl_vb6_2_2_3, rfl, rfl⟩
            ·refine Tri.cond (b := y110) rfl (fun g_5 => ?_) (fun g_5 => ?_)
             ·replace hE_9 := if_tt g_5 hE_9
              refine Tri.seq ?_
              obtain ⟨t114, h114, hE_9⟩ := bind_some hE_9
              obtain ⟨_, hc114, hp114⟩ := Rd.elem hr_a0_1 (rdl_some h114).2.2
              obtain ⟨v114_0, rfl, hr_v114_0⟩ := op25 hp114
              have hl_v114_0 := hr_v114_0.len
              obtain ⟨t117, h117, hE_9⟩ := bind_some hE_9
              refine Tri.reg (l := [0, 1, 2, 3, 4, 5, 6, 7, 8]) rfl ?_
              refine F.qn rfl (r_fieldAddr tf85_1 rfl) (F.qn rfl (r_load ta83 rfl (fun w hw => cell_1 (box_cells (i := 3) rfl w hw) rfl)) (F.qn rfl (r_move rfl) ?_))
              refine F.qn rfl (r_indexAddrS Try.underlying83 ti25 rfl hl_va0_1 rfl (rdl_some h114).1 (rdl_some h114).2.1) (F.qn rfl (r_load ta25 rfl (fun w hw => cell_0 (hc114.sep hw) rfl)) (F.qn rfl (r_move rfl) (F.qn rfl (r_indexAddrS Try.underlying25 ti3 rfl hl_v114_0 rfl (rdl_some h117).1 (rdl_some h117).2.1) (F.qn rfl (r_load ta3 rfl (fun w hw => cell_0 (Rd.flat ((fun _ hw => hr_v114_0.sep hw) w hw) (rdl_some h117).2.2) rfl)) (F.qn rfl (r_assign rfl) (F.nil (Nrm.seq ?_)))))))
              obtain ⟨t123, h123, hE_9⟩ := bind_some hE_9
              obtain ⟨t128, h128, hE_9⟩ := bind_some hE_9
              obtain ⟨t131, h131, hE_9⟩ := bind_some hE_9
              refine Tri.drawA mixedT Sep.up [(0, true), (1, true), (2, true), (3, true), (4, true), (5, true), (6, true), (7, true), (8, true), (9, true), (10, true), (11, true), (12, true)] [13] (by kernel_rfl) ?_
              iterate 4 refine S.qn rfl (r_move rfl) ?_
              refine S.qn rfl (r_indexAddrS Try.underlying25 ti3 rfl hl_w10r rfl (rdl_some h123).1 (rdl_some h123).2.1) (S.qn rfl (r_load ta3 rfl (fun w hw => cell_0 (Rd.flat ((rd_sl (i := 8) rfl) w hw) (rdl_some h123).2.2) rfl)) (S.qn rfl (r_fieldAddr tf27_2 rfl) ?_))
              refine S.qn rfl (r_load ta25 rfl (fun w hw => cell_1 (box_cells (i := 0) rfl w hw) rfl)) (S.qn rfl (r_move rfl) (S.qn rfl (r_indexAddrS Try.underlying25 ti3 rfl hl_v61_2 rfl (rdl_some h128).1 (rdl_some h128).2.1) (S.qn rfl (r_load ta3 rfl (fun w hw => cell_0 (Rd.flat ((fun _ hw => hr_v61_2.sep hw) w hw) (rdl_some h128).2.2) rfl)) (S.qn rfl (r_or rfl rfl) (S.qn rfl (r_indexAddrS Try.underlying25 ti3 rfl hl_w10r rfl (rdl_some h131).1 (rdl_some h131).2.1) (S.nil (F.ef0 rfl rfl (wanted_none rfl) (d_storeE (i := 8) (x1 := bor t123 t128) ti3 rfl rfl rfl (rdl_some h131) rfl) ?_)))))))
              rintro _ _ ⟨rfl, rfl⟩
              refine F.nil ?_
              cases hE_9
              refine Nrm.only [1, 2, 4, 5, 6, 8, 9, 10, 11, 12, 13, 14, 15] rfl ?_
              refine Nrm.pick [0, 1, 2, 3, 4, 8, 5, 6, 7, 9] rfl rfl ?_
              exact hj_5 _ _ ⟨w10r, T10r, (len_set hl_w10r), rfl, rfl⟩
             ·replace hE_9 := if_ff g_5 hE_9
              refine Tri.skip ?_
              cases hE_9
              refine Nrm.only [1, 2, 4, 5, 6, 8, 9, 10, 11, 12, 13, 14, 15] rfl ?_
              refine Nrm.pick [0, 1, 2, 3, 4, 8, 5, 6, 7, 9] rfl rfl ?_
              exact hj_5 _ _ ⟨w10r, T10r, hl_w10r, rfl, rfl⟩
           ·obtain ⟨t104, h104, hE_8⟩ := bind_some hE_8
            rcases Bool.eq_false_or_eq_true (t104) with g105 | g105
            ·replace hE_8 := if_tt g105 hE_8
             refine Tri.reg (l := [0, 1, 2, 3, 4, 5, 6, 7, 8]) rfl ?_
             refine F.qn rfl (r_move rfl) (F.qn rfl (r_move rfl) ?_)
             refine F.qcn rfl (q_callF (xs := _) rfl ok99 rfl rfl (fun w hw => spec_l1Has.ok h104 w ((rd_sl (i := 7) rfl) w hw))) ?_
             refine F.qn rfl (r_move rfl) (F.skf rfl g105 (F.skf rfl g105 ?_))
             refine F.sk rfl rfl rfl (wanted_undef rfl rfl rfl) ?_
             refine F.skf rfl g105 (F.qn rfl (r_pick rfl rfl g105) (F.nil ?_))
             cases hE_8
             refine Nrm.only [1, 2, 4, 5, 6, 8, 9, 10, 11, 12, 13, 14, 15, 110] rfl ?_
             refine Nrm.pick [0, 1, 2, 3, 4, 6, 7, 5, 8, 9] rfl rfl ?_
             exact hj_4 _ _ ⟨rfl, rfl⟩
            ·replace hE_8 := if_ff g105 hE_8
             rcases Bool.eq_false_or_eq_true (a1) with g107 | g107
             ·replace hE_8 := if_tt g107 hE_8
              refine Tri.reg (l := [0, 1, 2, 3, 4, 5, 6, 7, 8]) rfl ?_
              refine F.qn rfl (r_move rfl) (F.qn rfl (r_move rfl) ?_)
              refine F.qcn rfl (q_callF (xs := _) rfl ok99 rfl rfl (fun w hw => spec_l1Has.ok h104 w ((rd_sl (i := 7) rfl) w hw))) ?_
              refine F.qn rfl (r_move rfl) (F.qg rfl g105 (r_move rfl) (F.qg rfl g105 (r_move rfl) (F.qg rfl g107 (r_move rfl) (F.qg rfl g105 (r_pick rfl rfl g107) (F.qn rfl (r_pickf rfl rfl g105) (F.nil ?_))))))
              cases hE_8
              refine Nrm.only [1, 2, 4, 5, 6, 8, 9, 10, 11, 12, 13, 14, 15, 110] rfl ?_
              refine Nrm.pick [0, 1, 2, 3, 4, 6, 7, 5, 8, 9] rfl rfl ?_
              exact hj_4 _ _ ⟨rfl, rfl⟩
             ·replace hE_8 := if_ff g107 hE_8
              refine Tri.reg (l := [0, 1, 2, 3, 4, 5, 6, 7, 8]) rfl ?_
              refine F.qn rfl (r_move rfl) (F.qn rfl (r_move rfl) ?_)
              refine F.qcn rfl (q_callF (xs := _) rfl ok99 rfl rfl (fun w hw => spec_l1Has.ok h104 w ((rd_sl (i := 7) rfl) w hw))) ?_
              refine F.qn rfl (r_move rfl) (F.qg rfl g105 (r_move rfl) (F.qg rfl g105 (r_move rfl) (F.skf rfl g107 (F.qg rfl g105 (r_pickf rfl rfl g107) (F.qn rfl (r_pickf rfl rfl g105) (F.nil ?_))))))
              cases hE_8
              refine Nrm.only [1, 2, 4, 5, 6, 8, 9, 10, 11, 12, 13, 14, 15, 110] rfl ?_
              refine Nrm.pick [0, 1, 2, 3, 4, 6, 7, 5, 8, 9] rfl rfl ?_
              exact hj_4 _ _ ⟨rfl, rfl⟩
          ·refine Tri.cond (b := y93) rfl (fun g_4 => ?_) (fun g_4 => ?_)
           ·replace hE_7 := if_tt g_4 hE_7
            obtain ⟨t97, h97, hE_7⟩ := bind_some hE_7
            obtain ⟨t101, h101, hE_7⟩ := bind_some hE_7
            refine Tri.ex (on25 [5] [0, 1, 2, 3, 4, 6, 7, 8, 9] rfl rfl (rdl_some h97).2.2) ?_
            rintro _ ⟨v97_0_1, S97_0_1, Sr97_1, hl_v97_0_1, hS97_1, rfl⟩
            refine Tri.reg (l := [0, 1, 2, 3, 4, 5, 6, 7, 8]) rfl ?_
            refine F.qn rfl (r_fieldAddr tf148_2 rfl) (F.qn rfl (r_load ta83 rfl (fun w hw => cell_1 (box_cells (i := 6) rfl w hw) rfl)) ?_)
            refine F.qn rfl (r_move rfl) (F.qn rfl (r_indexAddrS Try.underlying83 ti25 rfl hl_vb6_2_2_2 rfl (rdl_some h97).1 (rdl_some h97).2.1) (F.qn rfl (r_load ta25 rfl (fun w hw => cell_0 (hole_cells (p := 1) rfl w hw) rfl)) (F.qn rfl (r_move rfl) (F.qn rfl (r_move rfl) (F.qn rfl (r_indexAddrS Try.underlying25 ti3 rfl hl_v97_0_1 rfl (rdl_some h101).1 (rdl_some h101).2.1) ?_)))))
            refine F.ef0 rfl rfl (wanted_none rfl) (d_storeE (i := 0) (x1 := x8) ti3 rfl rfl rfl (rdl_some h101) rfl) ?_
            rintro _ _ ⟨rfl, rfl⟩
            refine F.nil (Nrm.imp (cloS1 (cs := [R.sl S97_0_1 v97_0_1 (t97.set x15.toNat x8 : List (Int))]) (rest := [R.box b12_1 27 [.int .i64 t61.1, v61_1, v61_2], R.hole Sr49_1 wq6_2_0 (xq6_2_0 : List (List Int)) (x8 : Int).toNat [v49_0_1], R.box b4_1 148 [.slice none 0 0, .slice none 0 0, .slice none 0 0], R.box b2_1 85 [va0_0, va0_1], R.box b6_2 148 [wq6_2_0, wq6_2_1r, vb6_2_2_2], R.sl S49_0_1 v49_0_1 (t49 : List (Int)), R.sl S68_2 v68_2 (t68 : List (Int)), R.sl T10r w10r (x10r : List (Int)), R.sl Tq6_2_1r wq6_2_1r (xq6_2_1r : List (Int))]) [0, 1] [2, 3, 4, 5, 6, 7, 8, 9, 10] rfl rfl (jn_sl (S := S97_0_1) (v := v97_0_1) (l := (t97.set x15.toNat x8 : List (Int)))) hS97_1) ?_)
            cases hE_7
            refine Nrm.only [1, 2, 4, 5, 6, 8, 9, 10, 11, 12, 13, 14, 15] rfl ?_
            refine Nrm.pick [1, 2, 3, 4, 5, 0, 6, 7, 8, 9] rfl rfl ?_
            exact hj_3 _ _ ⟨vb6_2_2_2, Sb6_2_2_2, (len_set hl_vb6_2_2_2), rfl, rfl⟩
           ·replace hE_7 := if_ff g_4 hE_7
            refine Tri.skip ?_
            cases hE_7
            refine Nrm.only [1, 2, 4, 5, 6, 8, 9, 10, 11, 12, 13, 14, 15] rfl ?_
            refine Nrm.pick [0, 1, 2, 3, 4, 5, 6, 7, 8, 9] rfl rfl ?_
            exact hj_3 _ _ ⟨vb6_2_2_2, Sb6_2_2_2, hl_vb6_2_2_2, rfl, rfl⟩
         ·obtain ⟨t82, h82, hE_6⟩ := bind_some hE_6
          rcases Bool.eq_false_or_eq_true (t82) with g83 | g83
          ·replace hE_6 := if_tt g83 hE_6
           obtain ⟨t87, h87, hE_6⟩ := bind_some hE_6
           obtain ⟨t90, h90, hE_6⟩ := bind_some hE_6
           refine Tri.ex (on25 [9] [0, 1, 2, 3, 4, 5, 6, 7, 8] rfl rfl (rdl_some h87).2.2) ?_
           rintro _ ⟨v87_0_1, S87_0_1, Sr87_1, hl_v87_0_1, hS87_1, rfl⟩
           refine Tri.reg (l := List.range 14) rfl ?_
           refine F.qn rfl (r_move rfl) (F.qn rfl (r_move rfl) ?_)
           refine F.qcn rfl (q_callF (xs := _) rfl ok99 rfl rfl (fun w hw => spec_l1Has.ok h82 w ((rd_sl (i := 7) rfl) w hw))) ?_
           refine F.qn rfl (r_move rfl) (F.qg rfl g83 (r_fieldAddr tf148_2 rfl) (F.qg rfl g83 (r_load ta83 rfl (fun w hw => cell_1 (box_cells (i := 6) rfl w hw) rfl)) (F.qg rfl g83 (r_move rfl) (F.qg rfl g83 (r_indexAddrS Try.underlying83 ti25 rfl hl_wq6_2_2rrr rfl (rdl_some h87).1 (rdl_some h87).2.1) ?_))))
           refine F.qg rfl g83 (r_load ta25 rfl (fun w hw => cell_0 (hole_cells (p := 1) rfl w hw) rfl)) (F.qg rfl g83 (r_move rfl) (F.qg rfl g83 (r_indexAddrS Try.underlying25 ti3 rfl hl_v87_0_1 rfl (rdl_some h90).1 (rdl_some h90).2.1) (F.qg rfl g83 (r_load ta3 rfl (fun w hw => cell_0 (Rd.flat ((rd_sl (i := 0) rfl) w hw) (rdl_some h90).2.2) rfl)) (F.qg rfl g83 (r_lss rfl rfl) (F.qn rfl (r_pick rfl rfl g83) ?_)))))
           refine F.nil (Nrm.imp (cloS1 (cs := [R.sl S87_0_1 v87_0_1 (t87 : List (Int))]) (rest := [R.box b12_1 27 [.int .i64 t61.1, v61_1, v61_2], R.hole Sr49_1 wq6_2_0 (xq6_2_0 : List (List Int)) (x8 : Int).toNat [v49_0_1], R.box b4_1 148 [.slice none 0 0, .slice none 0 0, .slice none 0 0], R.box b2_1 85 [va0_0, va0_1], R.box b6_2 148 [wq6_2_0, wq6_2_1r, wq6_2_2rrr], R.sl S68_2 v68_2 (t68 : List (Int)), R.sl T10r w10r (x10r : List (Int)), R.sl S49_0_1 v49_0_1 (t49 : List (Int)), R.sl Tq6_2_1r wq6_2_1r (xq6_2_1r : List (Int))]) [0, 1] [2, 3, 4, 5, 6, 7, 8, 9, 10] rfl rfl (jn_sl (S := S87_0_1) (v := v87_0_1) (l := (t87 : List (Int)))) hS87_1) ?_)
           cases hE_6
           refine Nrm.only [1, 2, 4, 5, 6, 8, 9, 10, 11, 12, 13, 14, 15, 93] rfl ?_
           refine Nrm.pick [1, 2, 3, 4, 5, 0, 8, 6, 7, 9] rfl rfl ?_
           exact hj_2 _ _ ⟨wq6_2_2rrr, Tq6_2_2rrr, (len_set hl_wq6_2_2rrr), rfl, rfl⟩
          ·replace hE_6 := if_ff g83 hE_6
           refine Tri.reg (l := List.range 14) rfl ?_
           refine F.qn rfl (r_move rfl) (F.qn rfl (r_move rfl) ?_)
           refine F.qcn rfl (q_callF (xs := _) rfl ok99 rfl rfl (fun w hw => spec_l1Has.ok h82 w ((rd_sl (i := 5) rfl) w hw))) ?_
           refine F.qn rfl (r_move rfl) ?_
           iterate 9 refine F.skf rfl g83 ?_
           refine F.qn rfl (r_pickf rfl rfl g83) (F.nil ?_)
           cases hE_6
           refine Nrm.only [1, 2, 4, 5, 6, 8, 9, 10, 11, 12, 13, 14, 15, 93] rfl ?_
           refine Nrm.pick [0, 1, 2, 3, 4, 9, 7, 5, 6, 8] rfl rfl ?_
           exact hj_2 _ _ ⟨wq6_2_2rrr, Tq6_2_2rrr, hl_wq6_2_2rrr, rfl, rfl⟩
        ·replace hE_5 := if_ff g_3 hE_5
         refine Tri.exit ?_
         refine Exi.then ?_
         refine Exi.then ?_
         refine Exi.same ?_
         cases hE_5
         refine Nrm.seq (Tri.seq ?_)
         obtain ⟨y140, hE_10, hE_4⟩ := bind_some hE_4
         refine Tri.cut (fun e' C' => e' = [(1, .bool a1), (2, .pointer (some ⟨b2_1, 0, none⟩)), (4, .pointer (some ⟨b4_1, 0, none⟩)), (5, .int .i64 (a0_0.length : Int)), (6, .pointer (some ⟨b6_2, 0, none⟩)), (8, .int .i64 x8), (9, v49_0_1), (10, w10r), (11, .int .i64 x11), (140, .bool y140)] ∧ C' = Sep w noM [R.hole Sr49_1 wq6_2_0 (xq6_2_0 : List (List Int)) (x8 : Int).toNat [v49_0_1], R.box b4_1 148 [.slice none 0 0, .slice none 0 0, .slice none 0 0], R.box b2_1 85 [va0_0, va0_1], R.box b6_2 148 [wq6_2_0, wq6_2_1r, wq6_2_2rrr], R.sl S49_0_1 v49_0_1 (t49 : List (Int)), R.sl T10r w10r (x10r : List (Int)), R.sl Tq6_2_1r wq6_2_1r (xq6_2_1r : List (Int)), R.sl Tq6_2_2rrr wq6_2_2rrr (xq6_2_2rrr : List (List Int))]) ?_ (fun hj_6 => ?_)
         ·rintro _ _ ⟨rfl, rfl⟩
          refine Nrm.seq ?_
          obtain ⟨yb6_2_1r, hE_11, hE_4⟩ := bind_some hE_4
          refine Tri.cut (fun e' C' => ∃ (vb6_2_1_2 : Value) (Sb6_2_1_2 : Nat → Prop), SlLen vb6_2_1_2 (yb6_2_1r).length ∧ e' = [(1, .bool a1), (2, .pointer (some ⟨b2_1, 0, none⟩)), (4, .pointer (some ⟨b4_1, 0, none⟩)), (5, .int .i64 (a0_0.length : Int)), (6, .pointer (some ⟨b6_2, 0, none⟩)), (8, .int .i64 x8), (9, v49_0_1), (10, w10r), (11, .int .i64 x11)] ∧ C' = Sep w noM [R.hole Sr49_1 wq6_2_0 (xq6_2_0 : List (List Int)) (x8 : Int).toNat [v49_0_1], R.box b4_1 148 [.slice none 0 0, .slice none 0 0, .slice none 0 0], R.box b2_1 85 [va0_0, va0_1], R.box b6_2 148 [wq6_2_0, vb6_2_1_2, wq6_2_2rrr], R.sl Sb6_2_1_2 vb6_2_1_2 (yb6_2_1r : List (Int)), R.sl S49_0_1 v49_0_1 (t49 : List (Int)), R.sl T10r w10r (x10r : List (Int)), R.sl Tq6_2_2rrr wq6_2_2rrr (xq6_2_2rrr : List (List Int))]) ?_ (fun hj_7 => ?_)
          ·rintro _ _ ⟨vb6_2_1_2, Sb6_2_1_2, hl_vb6_2_1_2, rfl, rfl⟩
           refine Nrm.block ?_
           refine Nrm.seq (Tri.reg (l := [0, 1, 2]) rfl ?_)
           refine F.qn rfl (r_move rfl) (F.qn rfl (r_add rfl rfl) (F.qn rfl (r_assign rfl) (F.nil (Nrm.round ?_))))
           refine Rnd.only [1, 2, 4, 5, 6, 8, 9, 10, 11] rfl ?_
           refine Rnd.pick [0, 1, 2, 3, 6, 5, 4, 7] rfl rfl ?_
           exact ih_3 _ _ ⟨x10r, w64 (x11 + 1), yb6_2_1r, xq6_2_2rrr, w10r, T10r, vb6_2_1_2, Sb6_2_1_2, wq6_2_2rrr, Tq6_2_2rrr, hE_4, hl_w10r, hl_vb6_2_1_2, hl_wq6_2_2rrr, rfl, rfl⟩
          ·refine Tri.cond (b := y140) rfl (fun g_6 => ?_) (fun g_6 => ?_)
           ·replace hE_11 := if_tt g_6 hE_11
            obtain ⟨t145, h145, hE_11⟩ := bind_some hE_11
            refine Tri.reg (l := [0, 1, 2, 3, 4, 5]) rfl ?_
            refine F.qn rfl (r_fieldAddr tf148_1 rfl) (F.qn rfl (r_load ta25 rfl (fun w hw => cell_1 (box_cells (i := 3) rfl w hw) rfl)) (F.qn rfl (r_move rfl) (F.qn rfl (r_move rfl) (F.qn rfl (r_indexAddrS Try.underlying25 ti3 rfl hl_wq6_2_1r rfl (rdl_some h145).1 (rdl_some h145).2.1) ?_))))
            refine F.ef0 rfl rfl (wanted_none rfl) (d_storeE (i := 6) (x1 := x8) ti3 rfl rfl rfl (rdl_some h145) rfl) ?_
            rintro _ _ ⟨rfl, rfl⟩
            refine F.nil ?_
            cases hE_11
            refine Nrm.only [1, 2, 4, 5, 6, 8, 9, 10, 11] rfl ?_
            refine Nrm.pick [0, 1, 2, 3, 6, 4, 5, 7] rfl rfl ?_
            exact hj_7 _ _ ⟨wq6_2_1r, Tq6_2_1r, (len_set hl_wq6_2_1r), rfl, rfl⟩
           ·replace hE_11 := if_ff g_6 hE_11
            refine Tri.skip ?_
            cases hE_11
            refine Nrm.only [1, 2, 4, 5, 6, 8, 9, 10, 11] rfl ?_
            refine Nrm.pick [0, 1, 2, 3, 6, 4, 5, 7] rfl rfl ?_
            exact hj_7 _ _ ⟨wq6_2_1r, Tq6_2_1r, hl_wq6_2_1r, rfl, rfl⟩
         ·rcases Bool.eq_false_or_eq_true (t73) with g133 | g133
          ·replace hE_10 := if_tt g133 hE_10
           obtain ⟨t137, h137, hE_10⟩ := bind_some hE_10
           refine Tri.reg (l := [0, 1, 2, 3, 4, 5, 6, 7, 8]) rfl ?_
           refine F.qn rfl (r_move rfl) (F.qn rfl (r_move rfl) (F.qg rfl g133 (r_fieldAddr tf148_1 rfl) ?_))
           refine F.qg rfl g133 (r_load ta25 rfl (fun w hw => cell_1 (box_cells (i := 4) rfl w hw) rfl)) (F.qg rfl g133 (r_move rfl) (F.qg rfl g133 (r_indexAddrS Try.underlying25 ti3 rfl hl_wq6_2_1r rfl (rdl_some h137).1 (rdl_some h137).2.1) (F.qg rfl g133 (r_load ta3 rfl (fun w hw => cell_0 (Rd.flat ((rd_sl (i := 8) rfl) w hw) (rdl_some h137).2.2) rfl)) (F.qg rfl g133 (r_lss rfl rfl) (F.qn rfl (r_pick rfl rfl g133) (F.nil ?_))))))
           cases hE_10
           refine Nrm.only [1, 2, 4, 5, 6, 8, 9, 10, 11, 140] rfl ?_
           refine Nrm.pick [1, 2, 3, 4, 7, 6, 8, 9] rfl rfl ?_
           exact hj_6 _ _ ⟨rfl, rfl⟩
          ·replace hE_10 := if_ff g133 hE_10
           refine Tri.reg (l := [0, 1, 2, 3, 4, 5, 6, 7, 8]) rfl ?_
           refine F.qn rfl (r_move rfl) (F.qn rfl (r_move rfl) ?_)
           iterate 6 refine F.skf rfl g133 ?_
           refine F.qn rfl (r_pickf rfl rfl g133) (F.nil ?_)
           cases hE_10
           refine Nrm.only [1, 2, 4, 5, 6, 8, 9, 10, 11, 140] rfl ?_
           refine Nrm.pick [1, 2, 3, 4, 7, 6, 8, 9] rfl rfl ?_
           exact hj_6 _ _ ⟨rfl, rfl⟩
      ·replace hE_4 := if_ff g_2 hE_4
       refine Tri.exit ?_
       refine Exi.then ?_
       refine Exi.then ?_
       refine Exi.same ?_
       cases hE_4
       refine Nrm.seq (Tri.seq (Tri.seq ?_))
       obtain ⟨t148, h148, hE_3⟩ := bind_some hE_3
       refine Tri.reg (l := [0, 1, 2]) rfl ?_
       refine F.qn rfl (r_move rfl) (F.qn rfl (r_move rfl) ?_)
       refine F.qcn rfl (q_callF (xs := _) rfl ok201 rfl rfl (fun w hw => spec_l1Same.ok h148 w ((rd_sl (i := 4) rfl) w hw) ((rd_sl (i := 5) rfl) w hw))) ?_
       refine F.nil (Nrm.imp (cloS1 (cs := [R.sl S49_0_1 v49_0_1 (t49 : List (Int))]) (rest := [R.box b4_1 148 [.slice none 0 0, .slice none 0 0, .slice none 0 0], R.box b2_1 85 [va0_0, va0_1], R.box b6_2 148 [wq6_2_0, wq6_2_1r, wq6_2_2rr], R.sl T10 w10 (x10 : List (Int)), R.sl Tq6_2_1r wq6_2_1r (xq6_2_1r : List (Int)), R.sl Tq6_2_2rr wq6_2_2rr (xq6_2_2rr : List (List Int))]) [5, 0] [1, 2, 3, 4, 6, 7] rfl rfl (jn_sl (S := S49_0_1) (v := v49_0_1) (l := (t49 : List (Int)))) hS49_1) ?_)
       refine Nrm.seq (Tri.cond (b := t148) rfl (fun g_7 => ?_) (fun g_7 => ?_))
       ·replace hE_3 := if_tt g_7 hE_3
        refine Tri.seq (Tri.reg (l := [0, 1]) rfl ?_)
        refine F.qn rfl (r_loadA ta148 ti148 rfl rfl (fun w hw => (box_cells (i := 3) rfl w hw))) ?_
        refine F.ef0 rfl rfl (wanted_none rfl) (d_storeG0 (i := 1) (cs2 := [wq6_2_0, wq6_2_1r, wq6_2_2rr]) ti148 rfl rfl rfl rfl rfl (Nat.le_of_ble_eq_true rfl) (lf_cons (sl_leaf hl_wq6_2_0) (lf_cons (sl_leaf hl_wq6_2_1r) (lf_cons (sl_leaf hl_wq6_2_2rr) lf_nil)))) ?_
        rintro _ _ ⟨rfl, rfl⟩
        refine F.nil (Nrm.seq (Tri.ret ?_))
        refine Rtn.then ?_
        refine Rtn.block ?_
        refine Rtn.then ?_
        refine Rtn.then ?_
        refine Rtn.block ?_
        cases hE_3
        replace h := Lr_inr h
        cases h
        exact Rtn.body (.cell rfl ta148 ti148 rfl (fun _ hw => box_cells (i := 1) rfl _ hw) .nil) (fun w hw => ⟨_, _, rfl, ⟨wq6_2_0, Tq6_2_0, wq6_2_1r, Tq6_2_1r, wq6_2_2rr, Tq6_2_2rr, rfl, (len_set hl_wq6_2_0), hl_wq6_2_1r, hl_wq6_2_2rr, rfl⟩, Sep.pick (is := [0, 5, 6]) rfl rfl hw⟩)
       ·replace hE_3 := if_ff g_7 hE_3
        refine Tri.skip (Nrm.seq ?_)
        obtain ⟨hs154, hE_3⟩ := ck hE_3
        refine Tri.reg (l := [0, 1, 2, 3, 4, 5, 6]) rfl ?_
        refine F.qn rfl (r_fieldAddr tf148_0 rfl) (F.qn rfl (r_load ta83 rfl (fun w hw => cell_1 (box_cells (i := 3) rfl w hw) rfl)) (F.qn rfl (r_move rfl) ?_))
        refine F.efn rfl (d_build1 (cells := [w10]) (x0 := (x10 : List Int)) (cs := [R.sl T10 w10 (x10 : List (Int))]) (rest := [R.sl Tq6_2_0 wq6_2_0 ((xq6_2_0 : List (List Int)).set (x8 : Int).toNat t49 : List (List Int)), R.box b4_1 148 [.slice none 0 0, .slice none 0 0, .slice none 0 0], R.box b2_1 85 [va0_0, va0_1], R.box b6_2 148 [wq6_2_0, wq6_2_1r, wq6_2_2rr], R.sl Tq6_2_1r wq6_2_1r (xq6_2_1r : List (Int)), R.sl Tq6_2_2rr wq6_2_2rr (xq6_2_2rr : List (List Int))]) [4] [0, 1, 2, 3, 5, 6] Try.underlying83 ti25 rfl (sl_cells hl_w10) rfl (lf_cons (sl_leaf hl_w10) lf_nil) rfl rfl (jn_sl (S := T10) (v := w10) (l := (x10 : List (Int))))) ?_
        rintro v153_1 _ ⟨S153_1, hl_v153_1, rfl⟩
        refine F.efn rfl (d_appendN (rest := [R.box b4_1 148 [.slice none 0 0, .slice none 0 0, .slice none 0 0], R.box b2_1 85 [va0_0, va0_1], R.box b6_2 148 [wq6_2_0, wq6_2_1r, wq6_2_2rr], R.sl Tq6_2_1r wq6_2_1r (xq6_2_1r : List (Int)), R.sl Tq6_2_2rr wq6_2_2rr (xq6_2_2rr : List (List Int))]) 1 0 [2, 3, 4, 5, 6] Try.underlying83 Try.underlying83 ti25 rfl (by decide) rfl rfl rfl rfl hs154) ?_
        rintro v154_1 _ ⟨S154_1, hl_v154_1, rfl⟩
        refine F.qn rfl (r_fieldAddr tf148_0 rfl) ?_
        refine F.ef0 rfl rfl (wanted_none rfl) (d_storeG1 (i := 3) (cs2 := [v154_1]) ti83 rfl rfl rfl (sl_cells hl_v154_1) rfl (Nat.le_of_ble_eq_true rfl) (lf_cons (sl_leaf hl_v154_1) lf_nil)) ?_
        rintro _ _ ⟨rfl, rfl⟩
        refine F.nil (Nrm.block ?_)
        refine Nrm.seq (Tri.reg (l := [0, 1, 2]) rfl ?_)
        refine F.qn rfl (r_move rfl) (F.qn rfl (r_add rfl rfl) (F.qn rfl (r_assign rfl) (F.nil (Nrm.round ?_))))
        refine Rnd.only [1, 2, 4, 5, 6, 8] rfl ?_
        refine Rnd.pick [1, 2, 3, 0, 4, 5] rfl rfl ?_
        exact ih_2 _ _ ⟨w64 (x8 + 1), ((xq6_2_0 : List (List Int)).set (x8 : Int).toNat t49 : List (List Int)) ++ ([x10] : List (List Int)), xq6_2_1r, xq6_2_2rr, v154_1, S154_1, wq6_2_1r, Tq6_2_1r, wq6_2_2rr, Tq6_2_2rr, hE_3, hl_v154_1, hl_wq6_2_1r, hl_wq6_2_2rr, rfl, rfl⟩
 ·obtain ⟨hm21, hE_1⟩ := ck hE_1
  obtain ⟨t24, h24, hE_1⟩ := bind_some hE_1
  refine Tri.drawT mixedT Sep.up [0, 3, 1, 2, 4, 5, 6, 7] [8] (.q 0 (.q 3 (.alt 1 (.alt 2 (.alt 4 (.alt 5 (.alt 6 (.alt 7 .nil .stop) (.alt 7 (.alt 6 .nil .stop) .stop)) (.alt 7 (.alt 5 (.alt 6 .nil .stop) .stop) .stop)) (.alt 5 (.alt 4 (.alt 6 (.alt 7 .nil .stop) (.alt 7 (.alt 6 .nil .stop) .stop)) (.alt 7 (.alt 4 (.alt 6 .nil .stop) .stop) .stop)) (.alt 7 (.alt 4 (.alt 5 (.alt 6 .nil .stop) .stop) (.alt 5 (.alt 4 (.alt 6 .nil .stop) .stop) .stop)) .stop))) (.alt 4 (.alt 2 (.alt 5 (.alt 6 (.alt 7 .nil .stop) (.alt 7 (.alt 6 .nil .stop) .stop)) (.alt 7 (.alt 5 (.alt 6 .nil .stop) .stop) .stop)) (.alt 5 (.alt 2 (.alt 6 (.alt 7 .nil .stop) (.alt 7 (.alt 6 .nil .stop) .stop)) (.alt 7 (.alt 2 (.alt 6 .nil .stop) .stop) .stop)) (.alt 7 (.alt 2 (.alt 5 (.alt 6 .nil .stop) .stop) (.alt 5 (.alt 2 (.alt 6 .nil .stop) .stop) .stop)) .stop))) (.alt 5 (.alt 2 (.alt 4 (.alt 6 (.alt 7 .nil .stop) (.alt 7 (.alt 6 .nil .stop) .stop)) (.alt 7 (.alt 4 (.alt 6 .nil .stop) .stop) .stop)) (.alt 4 (.alt 2 (.alt 6 (.alt 7 .nil .stop) (.alt 7 (.alt 6 .nil .stop) .stop)) (.alt 7 (.alt 2 (.alt 6 .nil .stop) .stop) .stop)) (.alt 7 (.alt 2 (.alt 4 (.alt 6 .nil .stop) .stop) (.alt 4 (.alt 2 (.alt 6 .nil .stop) .stop) .stop)) .stop))) (.alt 7 (.alt 2 (.alt 4 (.alt 5 (.alt 6 .nil .stop) .stop) (.alt 5 (.alt 4 (.alt 6 .nil .stop) .stop) .stop)) (.alt 4 (.alt 2 (.alt 5 (.alt 6 .nil .stop) .stop) (.alt 5 (.alt 2 (.alt 6 .nil .stop) .stop) .stop)) (.alt 5 (.alt 2 (.alt 4 (.alt 6 .nil .stop) .stop) (.alt 4 (.alt 2 (.alt 6 .nil .stop) .stop) .stop)) .stop))) .stop)))) (.alt 4 (.alt 1 (.alt 2 (.alt 5 (.alt 6 (.alt 7 .nil .stop) (.alt 7 (.alt 6 .nil .stop) .stop)) (.alt 7 (.alt 5 (.alt 6 .nil .stop) .stop) .stop)) (.alt 5 (.alt 2 (.alt 6 (.alt 7 .nil .stop) (.alt 7 (.alt 6 .nil .stop) .stop)) (.alt 7 (.alt 2 (.alt 6 .nil .stop) .stop) .stop)) (.alt 7 (.alt 2 (.alt 5 (.alt 6 .nil .stop) .stop) (.alt 5 (.alt 2 (.alt 6 .nil .stop) .stop) .stop)) .stop))) (.alt 5 (.alt 1 (.alt 2 (.alt 6 (.alt 7 .nil .stop) (.alt 7 (.alt 6 .nil .stop) .stop)) (.alt 7 (.alt 2 (.alt 6 .nil .stop) .stop) .stop)) (.alt 7 (.alt 1 (.alt 2 (.alt 6 .nil .stop) .stop) .stop) .stop)) (.alt 7 (.alt 1 (.alt 2 (.alt 5 (.alt 6 .nil .stop) .stop) (.alt 5 (.alt 2 (.alt 6 .nil .stop) .stop) .stop)) (.alt 5 (.alt 1 (.alt 2 (.alt 6 .nil .stop) .stop) .stop) .stop)) .stop))) (.alt 5 (.alt 1 (.alt 2 (.alt 4 (.alt 6 (.alt 7 .nil .stop) (.alt 7 (.alt 6 .nil .stop) .stop)) (.alt 7 (.alt 4 (.alt 6 .nil .stop) .stop) .stop)) (.alt 4 (.alt 2 (.alt 6 (.alt 7 .nil .stop) (.alt 7 (.alt 6 .nil .stop) .stop)) (.alt 7 (.alt 2 (.alt 6 .nil .stop) .stop) .stop)) (.alt 7 (.alt 2 (.alt 4 (.alt 6 .nil .stop) .stop) (.alt 4 (.alt 2 (.alt 6 .nil .stop) .stop) .stop)) .stop))) (.alt 4 (.alt 1 (.alt 2 (.alt 6 (.alt 7 .nil .stop) (.alt 7 (.alt 6 .nil .stop) .stop)) (.alt 7 (.alt 2 (.alt 6 .nil .stop) .stop) .stop)) (.alt 7 (.alt 1 (.alt 2 (.alt 6 .nil .stop) .stop) .stop) .stop)) (.alt 7 (.alt 1 (.alt 2 (.alt 4 (.alt 6 .nil .stop) .stop) (.alt 4 (.alt 2 (.alt 6 .nil .stop) .stop) .stop)) (.alt 4 (.alt 1 (.alt 2 (.alt 6 .nil .stop) .stop) .stop) .stop)) .stop))) (.alt 7 (.alt 1 (.alt 2 (.alt 4 (.alt 5 (.alt 6 .nil .stop) .stop) (.alt 5 (.alt 4 (.alt 6 .nil .stop) .stop) .stop)) (.alt 4 (.alt 2 (.alt 5 (.alt 6 .nil .stop) .stop) (.alt 5 (.alt 2 (.alt 6 .nil .stop) .stop) .stop)) (.alt 5 (.alt 2 (.alt 4 (.alt 6 .nil .stop) .stop) (.alt 4 (.alt 2 (.alt 6 .nil .stop) .stop) .stop)) .stop))) (.alt 4 (.alt 1 (.alt 2 (.alt 5 (.alt 6 .nil .stop) .stop) (.alt 5 (.alt 2 (.alt 6 .nil .stop) .stop) .stop)) (.alt 5 (.alt 1 (.alt 2 (.alt 6 .nil .stop) .stop) .stop) .stop)) (.alt 5 (.alt 1 (.alt 2 (.alt 4 (.alt 6 .nil .stop) .stop) (.alt 4 (.alt 2 (.alt 6 .nil .stop) .stop) .stop)) (.alt 4 (.alt 1 (.alt 2 (.alt 6 .nil .stop) .stop) .stop) .stop)) .stop))) .stop)))))) (by kernel_rfl) ?_
  refine T.q rfl rfl rfl (wanted_none rfl) (r_move rfl) ?_
  refine T.q rfl rfl rfl (wanted_none rfl) (r_move rfl) ?_
  refine T.ef rfl rfl rfl (wanted_none rfl) (Makes.does (m_make (x0 := (0 : Int)) Try.underlying25 ti3 rfl rfl rfl hm21.1 hm21.2 (by decide))) (by rintro v21_2 _ ⟨S21_2, hl_v21_2, rfl⟩; exact upd rfl [1, 2] rfl rfl) ?_ ?_
  ·rintro v21_2 _ ⟨S21_2, hl_v21_2, rfl⟩
   refine T.ef rfl rfl rfl (wanted_none rfl) (d_build1 (cells := [v21_2]) (x0 := (List.replicate ((a0_0.length : Int)).toNat (0 : Int) : List Int)) (cs := [R.sl S21_2 v21_2 (List.replicate ((a0_0.length : Int)).toNat (0 : Int) : List (Int))]) (rest := [R.box b4_1 148 [.slice none 0 0, .slice none 0 0, .slice none 0 0], R.box b2_1 85 [va0_0, va0_1]]) [0] [1, 2] Try.underlying83 ti25 rfl (sl_cells hl_v21_2) rfl (lf_cons (sl_leaf hl_v21_2) lf_nil) rfl rfl (jn_sl (S := S21_2) (v := v21_2) (l := (List.replicate ((a0_0.length : Int)).toNat (0 : Int) : List (Int))))) (by rintro v22_2 _ ⟨S22_2, hl_v22_2, rfl⟩; exact upd rfl [1, 2] rfl rfl) ?_ ?_
   ·rintro v22_2 _ ⟨S22_2, hl_v22_2, rfl⟩
    refine T.ef rfl rfl rfl (wanted_none rfl) (Makes.does (m_callF (xs := _) rfl ok200 rfl rfl (fun w hw => spec_l10None.ok h24 w ))) (by rintro v24_2 _ ⟨_, ⟨S24_2, hl_v24_2, rfl⟩, rfl⟩; exact upd rfl [2, 3] rfl rfl) ?_ ?_
    ·rintro v24_2 _ ⟨_, ⟨S24_2, hl_v24_2, rfl⟩, rfl⟩
     refine T.ef rfl rfl rfl (wanted_none rfl) (Makes.does (m_build0 (α := List Int) Try.underlying83 ti25)) (by rintro v25_2 _ ⟨S25_2, hl_v25_2, rfl⟩; exact upd rfl [3, 4] rfl rfl) ?_ ?_
     ·rintro v25_2 _ ⟨S25_2, hl_v25_2, rfl⟩
      refine T.ef rfl rfl rfl (wanted_none rfl) (Runs.does (r_build (pl := [(0, 1), (1, 1), (2, 1)]) (qs := [(0, [v22_2]), (1, [v24_2]), (2, [v25_2])]) (cs := [v22_2, v24_2, v25_2]) (by kernel_rfl) ti148 rfl (.cons (sl_cells hl_v22_2) rfl (Nat.le_of_ble_eq_true rfl) (.cons (sl_cells hl_v24_2) rfl (Nat.le_of_ble_eq_true rfl) (.cons (sl_cells hl_v25_2) rfl (Nat.le_of_ble_eq_true rfl) .nil))) rfl rfl)) (by rintro _ _ ⟨rfl, rfl⟩; exact upd rfl [3, 4] rfl rfl) ?_ ?_
      ·rintro _ _ ⟨rfl, rfl⟩
       refine T.ef rfl rfl rfl (wanted_none rfl) (Makes.does (m_alloc ti148)) (by rintro _ _ ⟨b6_3, rfl, rfl⟩; exact upd rfl [4, 5] rfl rfl) ?_ ?_
       ·rintro _ _ ⟨b6_3, rfl, rfl⟩
        refine T.nil ?_
        refine F.ef0 rfl rfl (wanted_none rfl) (d_storeG0 (i := 0) (cs2 := [v22_2, v24_2, v25_2]) ti148 rfl rfl rfl rfl rfl (Nat.le_of_ble_eq_true rfl) (lf_cons (sl_leaf hl_v22_2) (lf_cons (sl_leaf hl_v24_2) (lf_cons (sl_leaf hl_v25_2) lf_nil)))) ?_
        rintro _ _ ⟨rfl, rfl⟩
        refine F.nil ?_
        cases hE_1
        refine Nrm.only [1, 2, 4, 5, 6] rfl ?_
        refine Nrm.pick [4, 5, 0, 3, 2, 1] rfl rfl ?_
        exact hj_1 _ _ ⟨v22_2, S22_2, v24_2, S24_2, v25_2, S25_2, b6_3, hl_v22_2, hl_v24_2, hl_v25_2, rfl, rfl⟩
       exact T.stop
      ·refine T.ef rfl rfl rfl (wanted_none rfl) (Makes.does (m_alloc ti148)) (by rintro _ _ ⟨b6_4, rfl, rfl⟩; exact upd rfl [4, 5] rfl rfl) ?_ ?_
       ·rintro _ _ ⟨b6_4, rfl, rfl⟩
        refine T.ef rfl rfl rfl (wanted_none rfl) (Runs.does (r_build (pl := [(0, 1), (1, 1), (2, 1)]) (qs := [(0, [v22_2]), (1, [v24_2]), (2, [v25_2])]) (cs := [v22_2, v24_2, v25_2]) (by kernel_rfl) ti148 rfl (.cons (sl_cells hl_v22_2) rfl (Nat.le_of_ble_eq_true rfl) (.cons (sl_cells hl_v24_2) rfl (Nat.le_of_ble_eq_true rfl) (.cons (sl_cells hl_v25_2) rfl (Nat.le_of_ble_eq_true rfl) .nil))) rfl rfl)) (by rintro _ _ ⟨rfl, rfl⟩; exact upd rfl [4, 5] rfl rfl) ?_ ?_
        ·rintro _ _ ⟨rfl, rfl⟩
         refine T.nil ?_
         refine F.ef0 rfl rfl (wanted_none rfl) (d_storeG0 (i := 0) (cs2 := [v22_2, v24_2, v25_2]) ti148 rfl rfl rfl rfl rfl (Nat.le_of_ble_eq_true rfl) (lf_cons (sl_leaf hl_v22_2) (lf_cons (sl_leaf hl_v24_2) (lf_cons (sl_leaf hl_v25_2) lf_nil)))) ?_
         rintro _ _ ⟨rfl, rfl⟩
         refine F.nil ?_
         cases hE_1
         refine Nrm.only [1, 2, 4, 5, 6] rfl ?_
         refine Nrm.pick [4, 5, 0, 3, 2, 1] rfl rfl ?_
         exact hj_1 _ _ ⟨v22_2, S22_2, v24_2, S24_2, v25_2, S25_2, b6_4, hl_v22_2, hl_v24_2, hl_v25_2, rfl, rfl⟩
        exact T.stop
       exact T.stop
     ·refine T.ef rfl rfl rfl (wanted_none rfl) (Makes.does (m_alloc ti148)) (by rintro _ _ ⟨b6_5, rfl, rfl⟩; exact upd rfl [3, 4] rfl rfl) ?_ ?_
      ·rintro _ _ ⟨b6_5, rfl, rfl⟩
       refine T.ef rfl rfl rfl (wanted_none rfl) (Makes.does (m_build0 (α := List Int) Try.underlying83 ti25)) (by rintro v25_3 _ ⟨S25_3, hl_v25_3, rfl⟩; exact upd rfl [4, 5] rfl rfl) ?_ ?_
       ·rintro v25_3 _ ⟨S25_3, hl_v25_3, rfl⟩
        refine T.ef rfl rfl rfl (wanted_none rfl) (Runs.does (r_build (pl := [(0, 1), (1, 1), (2, 1)]) (qs := [(0, [v22_2]), (1, [v24_2]), (2, [v25_3])]) (cs := [v22_2, v24_2, v25_3]) (by kernel_rfl) ti148 rfl (.cons (sl_cells hl_v22_2) rfl (Nat.le_of_ble_eq_true rfl) (.cons (sl_cells hl_v24_2) rfl (Nat.le_of_ble_eq_true rfl) (.cons (sl_cells hl_v25_3) rfl (Nat.le_of_ble_eq_true rfl) .nil))) rfl rfl)) (by rintro _ _ ⟨rfl, rfl⟩; exact upd rfl [4, 5] rfl rfl) ?_ ?_
        ·rintro _ _ ⟨rfl, rfl⟩
         refine T.nil ?_
         refine F.ef0 rfl rfl (wanted_none rfl) (d_storeG0 (i := 1) (cs2 := [v22_2, v24_2, v25_3]) ti148 rfl rfl rfl rfl rfl (Nat.le_of_ble_eq_true rfl) (lf_cons (sl_leaf hl_v22_2) (lf_cons (sl_leaf hl_v24_2) (lf_cons (sl_leaf hl_v25_3) lf_nil)))) ?_
         rintro _ _ ⟨rfl, rfl⟩
         refine F.nil ?_
         cases hE_1
         refine Nrm.only [1, 2, 4, 5, 6] rfl ?_
         refine Nrm.pick [4, 5, 1, 3, 2, 0] rfl rfl ?_
         exact hj_1 _ _ ⟨v22_2, S22_2, v24_2, S24_2, v25_3, S25_3, b6_5, hl_v22_2, hl_v24_2, hl_v25_3, rfl, rfl⟩
        exact T.stop
       exact T.stop
      exact T.stop
    ·refine T.ef rfl rfl rfl (wanted_none rfl) (Makes.does (m_build0 (α := List Int) Try.underlying83 ti25)) (by rintro v25_4 _ ⟨S25_4, hl_v25_4, rfl⟩; exact upd rfl [2, 3] rfl rfl) ?_ ?_
     ·rintro v25_4 _ ⟨S25_4, hl_v25_4, rfl⟩
      refine T.ef rfl rfl rfl (wanted_none rfl) (Makes.does (m_callF (xs := _) rfl ok200 rfl rfl (fun w hw => spec_l10None.ok h24 w ))) (by rintro v24_3 _ ⟨_, ⟨S24_3, hl_v24_3, rfl⟩, rfl⟩; exact upd rfl [3, 4] rfl rfl) ?_ ?_
      ·rintro v24_3 _ ⟨_, ⟨S24_3, hl_v24_3, rfl⟩, rfl⟩
       refine T.ef rfl rfl rfl (wanted_none rfl) (Runs.does (r_build (pl := [(0, 1), (1, 1), (2, 1)]) (qs := [(0, [v22_2]), (1, [v24_3]), (2, [v25_4])]) (cs := [v22_2, v24_3, v25_4]) (by kernel_rfl) ti148 rfl (.cons (sl_cells hl_v22_2) rfl (Nat.le_of_ble_eq_true rfl) (.cons (sl_cells hl_v24_3) rfl (Nat.le_of_ble_eq_true rfl) (.cons (sl_cells hl_v25_4) rfl (Nat.le_of_ble_eq_true rfl) .nil))) rfl rfl)) (by rintro _ _ ⟨rfl, rfl⟩; exact upd rfl [3, 4] rfl rfl) ?_ ?_
       ·rintro _ _ ⟨rfl, rfl⟩
        refine T.ef rfl rfl rfl (wanted_none rfl) (Makes.does (m_alloc ti148)) (by rintro _ _ ⟨b6_6, rfl, rfl⟩; exact upd rfl [4, 5] rfl rfl) ?_ ?_
        ·rintro _ _ ⟨b6_6, rfl, rfl⟩
         refine T.nil ?_
         refine F.ef0 rfl rfl (wanted_none rfl) (d_storeG0 (i := 0) (cs2 := [v22_2, v24_3, v25_4]) ti148 rfl rfl rfl rfl rfl (Nat.le_of_ble_eq_true rfl) (lf_cons (sl_leaf hl_v22_2) (lf_cons (sl_leaf hl_v24_3) (lf_cons (sl_leaf hl_v25_4) lf_nil)))) ?_
         rintro _ _ ⟨rfl, rfl⟩
         refine F.nil ?_
         cases hE_1
         refine Nrm.only [1, 2, 4, 5, 6] rfl ?_
         refine Nrm.pick [4, 5, 0, 3, 1, 2] rfl rfl ?_
         exact hj_1 _ _ ⟨v22_2, S22_2, v24_3, S24_3, v25_4, S25_4, b6_6, hl_v22_2, hl_v24_3, hl_v25_4, rfl, rfl⟩
        exact T.stop
       ·refine T.ef rfl rfl rfl (wanted_none rfl) (Makes.does (m_alloc ti148)) (by rintro _ _ ⟨b6_7, rfl, rfl⟩; exact upd rfl [4, 5] rfl rfl) ?_ ?_
        ·rintro _ _ ⟨b6_7, rfl, rfl⟩
         refine T.ef rfl rfl rfl (wanted_none rfl) (Runs.does (r_build (pl := [(0, 1), (1, 1), (2, 1)]) (qs := [(0, [v22_2]), (1, [v24_3]), (2, [v25_4])]) (cs := [v22_2, v24_3, v25_4]) (by kernel_rfl) ti148 rfl (.cons (sl_cells hl_v22_2) rfl (Nat.le_of_ble_eq_true rfl) (.cons (sl_cells hl_v24_3) rfl (Nat.le_of_ble_eq_true rfl) (.cons (sl_cells hl_v25_4) rfl (Nat.le_of_ble_eq_true rfl) .nil))) rfl rfl)) (by rintro _ _ ⟨rfl, rfl⟩; exact upd rfl [4, 5] rfl rfl) ?_ ?_
         ·rintro _ _ ⟨rfl, rfl⟩
          refine T.nil ?_
          refine F.ef0 rfl rfl (wanted_none rfl) (d_storeG0 (i := 0) (cs2 := [v22_2, v24_3, v25_4]) ti148 rfl rfl rfl rfl rfl (Nat.le_of_ble_eq_true rfl) (lf_cons (sl_leaf hl_v22_2) (lf_cons (sl_leaf hl_v24_3) (lf_cons (sl_leaf hl_v25_4) lf_nil)))) ?_
          rintro _ _ ⟨rfl, rfl⟩
          refine F.nil ?_
          cases hE_1
          refine Nrm.only [1, 2, 4, 5, 6] rfl ?_
          refine Nrm.pick [4, 5, 0, 3, 1, 2] rfl rfl ?_
          exact hj_1 _ _ ⟨v22_2, S22_2, v24_3, S24_3, v25_4, S25_4, b6_7, hl_v22_2, hl_v24_3, hl_v25_4, rfl, rfl⟩
         exact T.stop
        exact T.stop
      ·refine T.ef rfl rfl rfl (wanted_none rfl) (Makes.does (m_alloc ti148)) (by rintro _ _ ⟨b6_8, rfl, rfl⟩; exact upd rfl [3, 4] rfl rfl) ?_ ?_
       ·rintro _ _ ⟨b6_8, rfl, rfl⟩
        refine T.ef rfl rfl rfl (wanted_none rfl) (Makes.does (m_callF (xs := _) rfl ok200 rfl rfl (fun w hw => spec_l10None.ok h24 w ))) (by rintro v24_4 _ ⟨_, ⟨S24_4, hl_v24_4, rfl⟩, rfl⟩; exact upd rfl [4, 5] rfl rfl) ?_ ?_
        ·rintro v24_4 _ ⟨_, ⟨S24_4, hl_v24_4, rfl⟩, rfl⟩
         refine T.ef rfl rfl rfl (wanted_none rfl) (Runs.does (r_build (pl := [(0, 1), (1, 1), (2, 1)]) (qs := [(0, [v22_2]), (1, [v24_4]), (2, [v25_4])]) (cs := [v22_2, v24_4, v25_4]) (by kernel_rfl) ti148 rfl (.cons (sl_cells hl_v22_2) rfl (Nat.le_of_ble_eq_true rfl) (.cons (sl_cells hl_v24_4) rfl (Nat.le_of_ble_eq_true rfl) (.cons (sl_cells hl_v25_4) rfl (Nat.le_of_ble_eq_true rfl) .nil))) rfl rfl)) (by rintro _ _ ⟨rfl, rfl⟩; exact upd rfl [4, 5] rfl rfl) ?_ ?_
         ·rintro _ _ ⟨rfl, rfl⟩
          refine T.nil ?_
          refine F.ef0 rfl rfl (wanted_none rfl) (d_storeG0 (i := 1) (cs2 := [v22_2, v24_4, v25_4]) ti148 rfl rfl rfl rfl rfl (Nat.le_of_ble_eq_true rfl) (lf_cons (sl_leaf hl_v22_2) (lf_cons (sl_leaf hl_v24_4) (lf_cons (sl_leaf hl_v25_4) lf_nil)))) ?_
          rintro _ _ ⟨rfl, rfl⟩
          refine F.nil ?_
          cases hE_1
          refine Nrm.only [1, 2, 4, 5, 6] rfl ?_
          refine Nrm.pick [4, 5, 1, 3, 0, 2] rfl rfl ?_
          exact hj_1 _ _ ⟨v22_2, S22_2, v24_4, S24_4, v25_4, S25_4, b6_8, hl_v22_2, hl_v24_4, hl_v25_4, rfl, rfl⟩
         exact T.stop
        exact T.stop
       exact T.stop
     ·refine T.ef rfl rfl rfl (wanted_none rfl) (Makes.does (m_alloc ti148)) (by rintro _ _ ⟨b6_9, rfl, rfl⟩; exact upd rfl [2, 3] rfl rfl) ?_ ?_
      ·rintro _ _ ⟨b6_9, rfl, rfl⟩
       refine T.ef rfl rfl rfl (wanted_none rfl) (Makes.does (m_callF (xs := _) rfl ok200 rfl rfl (fun w hw => spec_l10None.ok h24 w ))) (by rintro v24_5 _ ⟨_, ⟨S24_5, hl_v24_5, rfl⟩, rfl⟩; exact upd rfl [3, 4] rfl rfl) ?_ ?_
       ·rintro v24_5 _ ⟨_, ⟨S24_5, hl_v24_5, rfl⟩, rfl⟩
        refine T.ef rfl rfl rfl (wanted_none rfl) (Makes.does (m_build0 (α := List Int) Try.underlying83 ti25)) (by rintro v25_5 _ ⟨S25_5, hl_v25_5, rfl⟩; exact upd rfl [4, 5] rfl rfl) ?_ ?_
        ·rintro v25_5 _ ⟨S25_5, hl_v25_5, rfl⟩
         refine T.ef rfl rfl rfl (wanted_none rfl) (Runs.does (r_build (pl := [(0, 1), (1, 1), (2, 1)]) (qs := [(0, [v22_2]), (1, [v24_5]), (2, [v25_5])]) (cs := [v22_2, v24_5, v25_5]) (by kernel_rfl) ti148 rfl (.cons (sl_cells hl_v22_2) rfl (Nat.le_of_ble_eq_true rfl) (.cons (sl_cells hl_v24_5) rfl (Nat.le_of_ble_eq_true rfl) (.cons (sl_cells hl_v25_5) rfl (Nat.le_of_ble_eq_true rfl) .nil))) rfl rfl)) (by rintro _ _ ⟨rfl, rfl⟩; exact upd rfl [4, 5] rfl rfl) ?_ ?_
         ·rintro _ _ ⟨rfl, rfl⟩
          refine T.nil ?_
          refine F.ef0 rfl rfl (wanted_none rfl) (d_storeG0 (i := 2) (cs2 := [v22_2, v24_5, v25_5]) ti148 rfl rfl rfl rfl rfl (Nat.le_of_ble_eq_true rfl) (lf_cons (sl_leaf hl_v22_2) (lf_cons (sl_leaf hl_v24_5) (lf_cons (sl_leaf hl_v25_5) lf_nil)))) ?_
          rintro _ _ ⟨rfl, rfl⟩
          refine F.nil ?_
          cases hE_1
          refine Nrm.only [1, 2, 4, 5, 6] rfl ?_
          refine Nrm.pick [4, 5, 2, 3, 1, 0] rfl rfl ?_
          exact hj_1 _ _ ⟨v22_2, S22_2, v24_5, S24_5, v25_5, S25_5, b6_9, hl_v22_2, hl_v24_5, hl_v25_5, rfl, rfl⟩
         exact T.stop
        exact T.stop
       ·refine T.ef rfl rfl rfl (wanted_none rfl) (Makes.does (m_build0 (α := List Int) Try.underlying83 ti25)) (by rintro v25_6 _ ⟨S25_6, hl_v25_6, rfl⟩; exact upd rfl [3, 4] rfl rfl) ?_ ?_
        ·rintro v25_6 _ ⟨S25_6, hl_v25_6, rfl⟩
         refine T.ef rfl rfl rfl (wanted_none rfl) (Makes.does (m_callF (xs := _) rfl ok200 rfl rfl (fun w hw => spec_l10None.ok h24 w ))) (by rintro v24_6 _ ⟨_, ⟨S24_6, hl_v24_6, rfl⟩, rfl⟩; exact upd rfl [4, 5] rfl rfl) ?_ ?_
         ·rintro v24_6 _ ⟨_, ⟨S24_6, hl_v24_6, rfl⟩, rfl⟩
          refine T.ef rfl rfl rfl (wanted_none rfl) (Runs.does (r_build (pl := [(0, 1), (1, 1), (2, 1)]) (qs := [(0, [v22_2]), (1, [v24_6]), (2, [v25_6])]) (cs := [v22_2, v24_6, v25_6]) (by kernel_rfl) ti148 rfl (.cons (sl_cells hl_v22_2) rfl (Nat.le_of_ble_eq_true rfl) (.cons (sl_cells hl_v24_6) rfl (Nat.le_of_ble_eq_true rfl) (.cons (sl_cells hl_v25_6) rfl (Nat.le_of_ble_eq_true rfl) .nil))) rfl rfl)) (by rintro _ _ ⟨rfl, rfl⟩; exact upd rfl [4, 5] rfl rfl) ?_ ?_
          ·rintro _ _ ⟨rfl, rfl⟩
           refine T.nil ?_
           refine F.ef0 rfl rfl (wanted_none rfl) (d_storeG0 (i := 2) (cs2 := [v22_2, v24_6, v25_6]) ti148 rfl rfl rfl rfl rfl (Nat.le_of_ble_eq_true rfl) (lf_cons (sl_leaf hl_v22_2) (lf_cons (sl_leaf hl_v24_6) (lf_cons (sl_leaf hl_v25_6) lf_nil)))) ?_
           rintro _ _ ⟨rfl, rfl⟩
           refine F.nil ?_
           cases hE_1
           refine Nrm.only [1, 2, 4, 5, 6] rfl ?_
           refine Nrm.pick [4, 5, 2, 3, 0, 1] rfl rfl ?_
           exact hj_1 _ _ ⟨v22_2, S22_2, v24_6, S24_6, v25_6, S25_6, b6_9, hl_v22_2, hl_v24_6, hl_v25_6, rfl, rfl⟩
          exact T.stop
         exact T.stop
        exact T.stop
      exact T.stop
   ·refine T.ef rfl rfl rfl (wanted_none rfl) (Makes.does (m_callF (xs := _) rfl ok200 rfl rfl (fun w hw => spec_l10None.ok h24 w ))) (by rintro v24_7 _ ⟨_, ⟨S24_7, hl_v24_7, rfl⟩, rfl⟩; exact upd rfl [2, 3] rfl rfl) ?_ ?_
    ·rintro v24_7 _ ⟨_, ⟨S24_7, hl_v24_7, rfl⟩, rfl⟩
     refine T.ef rfl rfl rfl (wanted_none rfl) (d_build1 (cells := [v21_2]) (x0 := (List.replicate ((a0_0.length : Int)).toNat (0 : Int) : List Int)) (cs := [R.sl S21_2 v21_2 (List.replicate ((a0_0.length : Int)).toNat (0 : Int) : List (Int))]) (rest := [R.sl S24_7 v24_7 (t24 : List (Int)), R.box b4_1 148 [.slice none 0 0, .slice none 0 0, .slice none 0 0], R.box b2_1 85 [va0_0, va0_1]]) [1] [0, 2, 3] Try.underlying83 ti25 rfl (sl_cells hl_v21_2) rfl (lf_cons (sl_leaf hl_v21_2) lf_nil) rfl rfl (jn_sl (S := S21_2) (v := v21_2) (l := (List.replicate ((a0_0.length : Int)).toNat (0 : Int) : List (Int))))) (by rintro v22_3 _ ⟨S22_3, hl_v22_3, rfl⟩; exact upd rfl [2, 3] rfl rfl) ?_ ?_
     ·rintro v22_3 _ ⟨S22_3, hl_v22_3, rfl⟩
      refine T.ef rfl rfl rfl (wanted_none rfl) (Makes.does (m_build0 (α := List Int) Try.underlying83 ti25)) (by rintro v25_7 _ ⟨S25_7, hl_v25_7, rfl⟩; exact upd rfl [3, 4] rfl rfl) ?_ ?_
      ·rintro v25_7 _ ⟨S25_7, hl_v25_7, rfl⟩
       refine T.ef rfl rfl rfl (wanted_none rfl) (Runs.does (r_build (pl := [(0, 1), (1, 1), (2, 1)]) (qs := [(0, [v22_3]), (1, [v24_7]), (2, [v25_7])]) (cs := [v22_3, v24_7, v25_7]) (by kernel_rfl) ti148 rfl (.cons (sl_cells hl_v22_3) rfl (Nat.le_of_ble_eq_true rfl) (.cons (sl_cells hl_v24_7) rfl (Nat.le_of_ble_eq_true rfl) (.cons (sl_cells hl_v25_7) rfl (Nat.le_of_ble_eq_true rfl) .nil))) rfl rfl)) (by rintro _ _ ⟨rfl, rfl⟩; exact upd rfl [3, 4] rfl rfl) ?_ ?_
       ·rintro _ _ ⟨rfl, rfl⟩
        refine T.ef rfl rfl rfl (wanted_none rfl) (Makes.does (m_alloc ti148)) (by rintro _ _ ⟨b6_10, rfl, rfl⟩; exact upd rfl [4, 5] rfl rfl) ?_ ?_
        ·rintro _ _ ⟨b6_10, rfl, rfl⟩
         refine T.nil ?_
         refine F.ef0 rfl rfl (wanted_none rfl) (d_storeG0 (i := 0) (cs2 := [v22_3, v24_7, v25_7]) ti148 rfl rfl rfl rfl rfl (Nat.le_of_ble_eq_true rfl) (lf_cons (sl_leaf hl_v22_3) (lf_cons (sl_leaf hl_v24_7) (lf_cons (sl_leaf hl_v25_7) lf_nil)))) ?_
         rintro _ _ ⟨rfl, rfl⟩
         refine F.nil ?_
         cases hE_1
         refine Nrm.only [1, 2, 4, 5, 6] rfl ?_
         refine Nrm.pick [4, 5, 0, 2, 3, 1] rfl rfl ?_
         exact hj_1 _ _ ⟨v22_3, S22_3, v24_7, S24_7, v25_7, S25_7, b6_10, hl_v22_3, hl_v24_7, hl_v25_7, rfl, rfl⟩
        exact T.stop
       ·refine T.ef rfl rfl rfl (wanted_none rfl) (Makes.does (m_alloc ti148)) (by rintro _ _ ⟨b6_11, rfl, rfl⟩; exact upd rfl [4, 5] rfl rfl) ?_ ?_
        ·rintro _ _ ⟨b6_11, rfl, rfl⟩
         refine T.ef rfl rfl rfl (wanted_none rfl) (Runs.does (r_build (pl := [(0, 1), (1, 1), (2, 1)]) (qs := [(0, [v22_3]), (1, [v24_7]), (2, [v25_7])]) (cs := [v22_3, v24_7, v25_7]) (by kernel_rfl) ti148 rfl (.cons (sl_cells hl_v22_3) rfl (Nat.le_of_ble_eq_true rfl) (.cons (sl_cells hl_v24_7) rfl (Nat.le_of_ble_eq_true rfl) (.cons (sl_cells hl_v25_7) rfl (Nat.le_of_ble_eq_true rfl) .nil))) rfl rfl)) (by rintro _ _ ⟨rfl, rfl⟩; exact upd rfl [4, 5] rfl rfl) ?_ ?_
         ·rintro _ _ ⟨rfl, rfl⟩
          refine T.nil ?_
          refine F.ef0 rfl rfl (wanted_none rfl) (d_storeG0 (i := 0) (cs2 := [v22_3, v24_7, v25_7]) ti148 rfl rfl rfl rfl rfl (Nat.le_of_ble_eq_true rfl) (lf_cons (sl_leaf hl_v22_3) (lf_cons (sl_leaf hl_v24_7) (lf_cons (sl_leaf hl_v25_7) lf_nil)))) ?_
          rintro _ _ ⟨rfl, rfl⟩
          refine F.nil ?_
          cases hE_1
          refine Nrm.only [1, 2, 4, 5, 6] rfl ?_
          refine Nrm.pick [4, 5, 0, 2, 3, 1] rfl rfl ?_
          exact hj_1 _ _ ⟨v22_3, S22_3, v24_7, S24_7, v25_7, S25_7, b6_11, hl_v22_3, hl_v24_7, hl_v25_7, rfl, rfl⟩
         exact T.stop
        exact T.stop
      ·refine T.ef rfl rfl rfl (wanted_none rfl) (Makes.does (m_alloc ti148)) (by rintro _ _ ⟨b6_12, rfl, rfl⟩; exact upd rfl [3, 4] rfl rfl) ?_ ?_
       ·rintro _ _ ⟨b6_12, rfl, rfl⟩
        refine T.ef rfl rfl rfl (wanted_none rfl) (Makes.does (m_build0 (α := List Int) Try.underlying83 ti25)) (by rintro v25_8 _ ⟨S25_8, hl_v25_8, rfl⟩; exact upd rfl [4, 5] rfl rfl) ?_ ?_
        ·rintro v25_8 _ ⟨S25_8, hl_v25_8, rfl⟩
         refine T.ef rfl rfl rfl (wanted_none rfl) (Runs.does (r_build (pl := [(0, 1), (1, 1), (2, 1)]) (qs := [(0, [v22_3]), (1, [v24_7]), (2, [v25_8])]) (cs := [v22_3, v24_7, v25_8]) (by kernel_rfl) ti148 rfl (.cons (sl_cells hl_v22_3) rfl (Nat.le_of_ble_eq_true rfl) (.cons (sl_cells hl_v24_7) rfl (Nat.le_of_ble_eq_true rfl) (.cons (sl_cells hl_v25_8) rfl (Nat.le_of_ble_eq_true rfl) .nil))) rfl rfl)) (by rintro _ _ ⟨rfl, rfl⟩; exact upd rfl [4, 5] rfl rfl) ?_ ?_
         ·rintro _ _ ⟨rfl, rfl⟩
          refine T.nil ?_
          refine F.ef0 rfl rfl (wanted_none rfl) (d_storeG0 (i := 1) (cs2 := [v22_3, v24_7, v25_8]) ti148 rfl rfl rfl rfl rfl (Nat.le_of_ble_eq_true rfl) (lf_cons (sl_leaf hl_v22_3) (lf_cons (sl_leaf hl_v24_7) (lf_cons (sl_leaf hl_v25_8) lf_nil)))) ?_
          rintro _ _ ⟨rfl, rfl⟩
          refine F.nil ?_
          cases hE_1
          refine Nrm.only [1, 2, 4, 5, 6] rfl ?_
          refine Nrm.pick [4, 5, 1, 2, 3, 0] rfl rfl ?_
          exact hj_1 _ _ ⟨v22_3, S22_3, v24_7, S24_7, v25_8, S25_8, b6_12, hl_v22_3, hl_v24_7, hl_v25_8, rfl, rfl⟩
         exact T.stop
        exact T.stop
       exact T.stop
     ·refine T.ef rfl rfl rfl (wanted_none rfl) (Makes.does (m_build0 (α := List Int) Try.underlying83 ti25)) (by rintro v25_9 _ ⟨S25_9, hl_v25_9, rfl⟩; exact upd rfl [3, 4] rfl rfl) ?_ ?_
      ·rintro v25_9 _ ⟨S25_9, hl_v25_9, rfl⟩
       refine T.ef rfl rfl rfl (wanted_none rfl) (d_build1 (cells := [v21_2]) (x0 := (List.replicate ((a0_0.length : Int)).toNat (0 : Int) : List Int)) (cs := [R.sl S21_2 v21_2 (List.replicate ((a0_0.length : Int)).toNat (0 : Int) : List (Int))]) (rest := [R.sl S25_9 v25_9 (([] : List (List Int)) : List (List Int)), R.sl S24_7 v24_7 (t24 : List (Int)), R.box b4_1 148 [.slice none 0 0, .slice none 0 0, .slice none 0 0], R.box b2_1 85 [va0_0, va0_1]]) [2] [0, 1, 3, 4] Try.underlying83 ti25 rfl (sl_cells hl_v21_2) rfl (lf_cons (sl_leaf hl_v21_2) lf_nil) rfl rfl (jn_sl (S := S21_2) (v := v21_2) (l := (List.replicate ((a0_0.length : Int)).toNat (0 : Int) : List (Int))))) (by rintro v22_4 _ ⟨S22_4, hl_v22_4, rfl⟩; exact upd rfl [3, 4] rfl rfl) ?_ ?_
       ·rintro v22_4 _ ⟨S22_4, hl_v22_4, rfl⟩
        refine T.ef rfl rfl rfl (wanted_none rfl) (Runs.does (r_build (pl := [(0, 1), (1, 1), (2, 1)]) (qs := [(0, [v22_4]), (1, [v24_7]), (2, [v25_9])]) (cs := [v22_4, v24_7, v25_9]) (by kernel_rfl) ti148 rfl (.cons (sl_cells hl_v22_4) rfl (Nat.le_of_ble_eq_true rfl) (.cons (sl_cells hl_v24_7) rfl (Nat.le_of_ble_eq_true rfl) (.cons (sl_cells hl_v25_9) rfl (Nat.le_of_ble_eq_true rfl) .nil))) rfl rfl)) (by rintro _ _ ⟨rfl, rfl⟩; exact upd rfl [3, 4] rfl rfl) ?_ ?_
        ·rintro _ _ ⟨rfl, rfl⟩
         refine T.ef rfl rfl rfl (wanted_none rfl) (Makes.does (m_alloc ti148)) (by rintro _ _ ⟨b6_13, rfl, rfl⟩; exact upd rfl [4, 5] rfl rfl) ?_ ?_
         ·rintro _ _ ⟨b6_13, rfl, rfl⟩
          refine T.nil ?_
          refine F.ef0 rfl rfl (wanted_none rfl) (d_storeG0 (i := 0) (cs2 := [v22_4, v24_7, v25_9]) ti148 rfl rfl rfl rfl rfl (Nat.le_of_ble_eq_true rfl) (lf_cons (sl_leaf hl_v22_4) (lf_cons (sl_leaf hl_v24_7) (lf_cons (sl_leaf hl_v25_9) lf_nil)))) ?_
          rintro _ _ ⟨rfl, rfl⟩
          refine F.nil ?_
          cases hE_1
          refine Nrm.only [1, 2, 4, 5, 6] rfl ?_
          refine Nrm.pick [4, 5, 0, 1, 3, 2] rfl rfl ?_
          exact hj_1 _ _ ⟨v22_4, S22_4, v24_7, S24_7, v25_9, S25_9, b6_13, hl_v22_4, hl_v24_7, hl_v25_9, rfl, rfl⟩
         exact T.stop
        ·refine T.ef rfl rfl rfl (wanted_none rfl) (Makes.does (m_alloc ti148)) (by rintro _ _ ⟨b6_14, rfl, rfl⟩; exact upd rfl [4, 5] rfl rfl) ?_ ?_
         ·rintro _ _ ⟨b6_14, rfl, rfl⟩
          refine T.ef rfl rfl rfl (wanted_none rfl) (Runs.does (r_build (pl := [(0, 1), (1, 1), (2, 1)]) (qs := [(0, [v22_4]), (1, [v24_7]), (2, [v25_9])]) (cs := [v22_4, v24_7, v25_9]) (by kernel_rfl) ti148 rfl (.cons (sl_cells hl_v22_4) rfl (Nat.le_of_ble_eq_true rfl) (.cons (sl_cells hl_v24_7) rfl (Nat.le_of_ble_eq_true rfl) (.cons (sl_cells hl_v25_9) rfl (Nat.le_of_ble_eq_true rfl) .nil))) rfl rfl)) (by rintro _ _ ⟨rfl, rfl⟩; exact upd rfl [4, 5] rfl rfl) ?_ ?_
          ·rintro _ _ ⟨rfl, rfl⟩
           refine T.nil ?_
           refine F.ef0 rfl rfl (wanted_none rfl) (d_storeG0 (i := 0) (cs2 := [v22_4, v24_7, v25_9]) ti148 rfl rfl rfl rfl rfl (Nat.le_of_ble_eq_true rfl) (lf_cons (sl_leaf hl_v22_4) (lf_cons (sl_leaf hl_v24_7) (lf_cons (sl_leaf hl_v25_9) lf_nil)))) ?_
           rintro _ _ ⟨rfl, rfl⟩
           refine F.nil ?_
           cases hE_1
           refine Nrm.only [1, 2, 4, 5, 6] rfl ?_
           refine Nrm.pick [4, 5, 0, 1, 3, 2] rfl rfl ?_
           exact hj_1 _ _ ⟨v22_4, S22_4, v24_7, S24_7, v25_9, S25_9, b6_14, hl_v22_4, hl_v24_7, hl_v25_9, rfl, rfl⟩
          exact T.stop
         exact T.stop
       ·refine T.ef rfl rfl rfl (wanted_none rfl) (Makes.does (m_alloc ti148)) (by rintro _ _ ⟨b6_15, rfl, rfl⟩; exact upd rfl [4, 5] rfl rfl) ?_ ?_
        ·rintro _ _ ⟨b6_15, rfl, rfl⟩
         refine T.ef rfl rfl rfl (wanted_none rfl) (d_build1 (cells := [v21_2]) (x0 := (List.replicate ((a0_0.length : Int)).toNat (0 : Int) : List Int)) (cs := [R.sl S21_2 v21_2 (List.replicate ((a0_0.length : Int)).toNat (0 : Int) : List (Int))]) (rest := [R.box b6_15 148 [.slice none 0 0, .slice none 0 0, .slice none 0 0], R.sl S25_9 v25_9 (([] : List (List Int)) : List (List Int)), R.sl S24_7 v24_7 (t24 : List (Int)), R.box b4_1 148 [.slice none 0 0, .slice none 0 0, .slice none 0 0], R.box b2_1 85 [va0_0, va0_1]]) [3] [0, 1, 2, 4, 5] Try.underlying83 ti25 rfl (sl_cells hl_v21_2) rfl (lf_cons (sl_leaf hl_v21_2) lf_nil) rfl rfl (jn_sl (S := S21_2) (v := v21_2) (l := (List.replicate ((a0_0.length : Int)).toNat (0 : Int) : List (Int))))) (by rintro v22_5 _ ⟨S22_5, hl_v22_5, rfl⟩; exact upd rfl [4, 5] rfl rfl) ?_ ?_
         ·rintro v22_5 _ ⟨S22_5, hl_v22_5, rfl⟩
          refine T.ef rfl rfl rfl (wanted_none rfl) (Runs.does (r_build (pl := [(0, 1), (1, 1), (2, 1)]) (qs := [(0, [v22_5]), (1, [v24_7]), (2, [v25_9])]) (cs := [v22_5, v24_7, v25_9]) (by kernel_rfl) ti148 rfl (.cons (sl_cells hl_v22_5) rfl (Nat.le_of_ble_eq_true rfl) (.cons (sl_cells hl_v24_7) rfl (Nat.le_of_ble_eq_true rfl) (.cons (sl_cells hl_v25_9) rfl (Nat.le_of_ble_eq_true rfl) .nil))) rfl rfl)) (by rintro _ _ ⟨rfl, rfl⟩; exact upd rfl [4, 5] rfl rfl) ?_ ?_
          ·rintro _ _ ⟨rfl, rfl⟩
           refine T.nil ?_
           refine F.ef0 rfl rfl (wanted_none rfl) (d_storeG0 (i := 1) (cs2 := [v22_5, v24_7, v25_9]) ti148 rfl rfl rfl rfl rfl (Nat.le_of_ble_eq_true rfl) (lf_cons (sl_leaf hl_v22_5) (lf_cons (sl_leaf hl_v24_7) (lf_cons (sl_leaf hl_v25_9) lf_nil)))) ?_
           rintro _ _ ⟨rfl, rfl⟩
           refine F.nil ?_
           cases hE_1
           refine Nrm.only [1, 2, 4, 5, 6] rfl ?_
           refine Nrm.pick [4, 5, 1, 0, 3, 2] rfl rfl ?_
           exact hj_1 _ _ ⟨v22_5, S22_5, v24_7, S24_7, v25_9, S25_9, b6_15, hl_v22_5, hl_v24_7, hl_v25_9, rfl, rfl⟩
          exact T.stop
         exact T.stop
        exact T.stop
      ·refine T.ef rfl rfl rfl (wanted_none rfl) (Makes.does (m_alloc ti148)) (by rintro _ _ ⟨b6_16, rfl, rfl⟩; exact upd rfl [3, 4] rfl rfl) ?_ ?_
       ·rintro _ _ ⟨b6_16, rfl, rfl⟩
        refine T.ef rfl rfl rfl (wanted_none rfl) (d_build1 (cells := [v21_2]) (x0 := (List.replicate ((a0_0.length : Int)).toNat (0 : Int) : List Int)) (cs := [R.sl S21_2 v21_2 (List.replicate ((a0_0.length : Int)).toNat (0 : Int) : List (Int))]) (rest := [R.box b6_16 148 [.slice none 0 0, .slice none 0 0, .slice none 0 0], R.sl S24_7 v24_7 (t24 : List (Int)), R.box b4_1 148 [.slice none 0 0, .slice none 0 0, .slice none 0 0], R.box b2_1 85 [va0_0, va0_1]]) [2] [0, 1, 3, 4] Try.underlying83 ti25 rfl (sl_cells hl_v21_2) rfl (lf_cons (sl_leaf hl_v21_2) lf_nil) rfl rfl (jn_sl (S := S21_2) (v := v21_2) (l := (List.replicate ((a0_0.length : Int)).toNat (0 : Int) : List (Int))))) (by rintro v22_6 _ ⟨S22_6, hl_v22_6, rfl⟩; exact upd rfl [3, 4] rfl rfl) ?_ ?_
        ·rintro v22_6 _ ⟨S22_6, hl_v22_6, rfl⟩
         refine T.ef rfl rfl rfl (wanted_none rfl) (Makes.does (m_build0 (α := List Int) Try.underlying83 ti25)) (by rintro v25_10 _ ⟨S25_10, hl_v25_10, rfl⟩; exact upd rfl [4, 5] rfl rfl) ?_ ?_
         ·rintro v25_10 _ ⟨S25_10, hl_v25_10, rfl⟩
          refine T.ef rfl rfl rfl (wanted_none rfl) (Runs.does (r_build (pl := [(0, 1), (1, 1), (2, 1)]) (qs := [(0, [v22_6]), (1, [v24_7]), (2, [v25_10])]) (cs := [v22_6, v24_7, v25_10]) (by kernel_rfl) ti148 rfl (.cons (sl_cells hl_v22_6) rfl (Nat.le_of_ble_eq_true rfl) (.cons (sl_cells hl_v24_7) rfl (Nat.le_of_ble_eq_true rfl) (.cons (sl_cells hl_v25_10) rfl (Nat.le_of_ble_eq_true rfl) .nil))) rfl rfl)) (by rintro _ _ ⟨rfl, rfl⟩; exact upd rfl [4, 5] rfl rfl) ?_ ?_
          ·rintro _ _ ⟨rfl, rfl⟩
           refine T.nil ?_
           refine F.ef0 rfl rfl (wanted_none rfl) (d_storeG0 (i := 2) (cs2 := [v22_6, v24_7, v25_10]) ti148 rfl rfl rfl rfl rfl (Nat.le_of_ble_eq_true rfl) (lf_cons (sl_leaf hl_v22_6) (lf_cons (sl_leaf hl_v24_7) (lf_cons (sl_leaf hl_v25_10) lf_nil)))) ?_
           rintro _ _ ⟨rfl, rfl⟩
           refine F.nil ?_
           cases hE_1
           refine Nrm.only [1, 2, 4, 5, 6] rfl ?_
           refine Nrm.pick [4, 5, 2, 1, 3, 0] rfl rfl ?_
           exact hj_1 _ _ ⟨v22_6, S22_6, v24_7, S24_7, v25_10, S25_10, b6_16, hl_v22_6, hl_v24_7, hl_v25_10, rfl, rfl⟩
          exact T.stop
         exact T.stop
        ·refine T.ef rfl rfl rfl (wanted_none rfl) (Makes.does (m_build0 (α := List Int) Try.underlying83 ti25)) (by rintro v25_11 _ ⟨S25_11, hl_v25_11, rfl⟩; exact upd rfl [4, 5] rfl rfl) ?_ ?_
         ·rintro v25_11 _ ⟨S25_11, hl_v25_11, rfl⟩
          refine T.ef rfl rfl rfl (wanted_none rfl) (d_build1 (cells := [v21_2]) (x0 := (List.replicate ((a0_0.length : Int)).toNat (0 : Int) : List Int)) (cs := [R.sl S21_2 v21_2 (List.replicate ((a0_0.length : Int)).toNat (0 : Int) : List (Int))]) (rest := [R.sl S25_11 v25_11 (([] : List (List Int)) : List (List Int)), R.box b6_16 148 [.slice none 0 0, .slice none 0 0, .slice none 0 0], R.sl S24_7 v24_7 (t24 : List (Int)), R.box b4_1 148 [.slice none 0 0, .slice none 0 0, .slice none 0 0], R.box b2_1 85 [va0_0, va0_1]]) [3] [0, 1, 2, 4, 5] Try.underlying83 ti25 rfl (sl_cells hl_v21_2) rfl (lf_cons (sl_leaf hl_v21_2) lf_nil) rfl rfl (jn_sl (S := S21_2) (v := v21_2) (l := (List.replicate ((a0_0.length : Int)).toNat (0 : Int) : List (Int))))) (by rintro v22_7 _ ⟨S22_7, hl_v22_7, rfl⟩; exact upd rfl [4, 5] rfl rfl) ?_ ?_
          ·rintro v22_7 _ ⟨S22_7, hl_v22_7, rfl⟩
           refine T.ef rfl rfl rfl (wanted_none rfl) (Runs.does (r_build (pl := [(0, 1), (1, 1), (2, 1)]) (qs := [(0, [v22_7]), (1, [v24_7]), (2, [v25_11])]) (cs := [v22_7, v24_7, v25_11]) (by kernel_rfl) ti148 rfl (.cons (sl_cells hl_v22_7) rfl (Nat.le_of_ble_eq_true rfl) (.cons (sl_cells hl_v24_7) rfl (Nat.le_of_ble_eq_true rfl) (.cons (sl_cells hl_v25_11) rfl (Nat.le_of_ble_eq_true rfl) .nil))) rfl rfl)) (by rintro _ _ ⟨rfl, rfl⟩; exact upd rfl [4, 5] rfl rfl) ?_ ?_
           ·rintro _ _ ⟨rfl, rfl⟩
            refine T.nil ?_
            refine F.ef0 rfl rfl (wanted_none rfl) (d_storeG0 (i := 2) (cs2 := [v22_7, v24_7, v25_11]) ti148 rfl rfl rfl rfl rfl (Nat.le_of_ble_eq_true rfl) (lf_cons (sl_leaf hl_v22_7) (lf_cons (sl_leaf hl_v24_7) (lf_cons (sl_leaf hl_v25_11) lf_nil)))) ?_
            rintro _ _ ⟨rfl, rfl⟩
            refine F.nil ?_
            cases hE_1
            refine Nrm.only [1, 2, 4, 5, 6] rfl ?_
            refine Nrm.pick [4, 5, 2, 0, 3, 1] rfl rfl ?_
            exact hj_1 _ _ ⟨v22_7, S22_7, v24_7, S24_7, v25_11, S25_11, b6_16, hl_v22_7, hl_v24_7, hl_v25_11, rfl, rfl⟩
           exact T.stop
          exact T.stop
         exact T.stop
       exact T.stop
    ·refine T.ef rfl rfl rfl (wanted_none rfl) (Makes.does (m_build0 (α := List Int) Try.underlying83 ti25)) (by rintro v25_12 _ ⟨S25_12, hl_v25_12, rfl⟩; exact upd rfl [2, 3] rfl rfl) ?_ ?_
     ·rintro v25_12 _ ⟨S25_12, hl_v25_12, rfl⟩
      refine T.ef rfl rfl rfl (wanted_none rfl) (d_build1 (cells := [v21_2]) (x0 := (List.replicate ((a0_0.length : Int)).toNat (0 : Int) : List Int)) (cs := [R.sl S21_2 v21_2 (List.replicate ((a0_0.length : Int)).toNat (0 : Int) : List (Int))]) (rest := [R.sl S25_12 v25_12 (([] : List (List Int)) : List (List Int)), R.box b4_1 148 [.slice none 0 0, .slice none 0 0, .slice none 0 0], R.box b2_1 85 [va0_0, va0_1]]) [1] [0, 2, 3] Try.underlying83 ti25 rfl (sl_cells hl_v21_2) rfl (lf_cons (sl_leaf hl_v21_2) lf_nil) rfl rfl (jn_sl (S := S21_2) (v := v21_2) (l := (List.replicate ((a0_0.length : Int)).toNat (0 : Int) : List (Int))))) (by rintro v22_8 _ ⟨S22_8, hl_v22_8, rfl⟩; exact upd rfl [2, 3] rfl rfl) ?_ ?_
      ·rintro v22_8 _ ⟨S22_8, hl_v22_8, rfl⟩
       refine T.ef rfl rfl rfl (wanted_none rfl) (Makes.does (m_callF (xs := _) rfl ok200 rfl rfl (fun w hw => spec_l10None.ok h24 w ))) (by rintro v24_8 _ ⟨_, ⟨S24_8, hl_v24_8, rfl⟩, rfl⟩; exact upd rfl [3, 4] rfl rfl) ?_ ?_
       ·rintro v24_8 _ ⟨_, ⟨S24_8, hl_v24_8, rfl⟩, rfl⟩
        refine T.ef rfl rfl rfl (wanted_none rfl) (Runs.does (r_build (pl := [(0, 1), (1, 1), (2, 1)]) (qs := [(0, [v22_8]), (1, [v24_8]), (2, [v25_12])]) (cs := [v22_8, v24_8, v25_12]) (by kernel_rfl) ti148 rfl (.cons (sl_cells hl_v22_8) rfl (Nat.le_of_ble_eq_true rfl) (.cons (sl_cells hl_v24_8) rfl (Nat.le_of_ble_eq_true rfl) (.cons (sl_cells hl_v25_12) rfl (Nat.le_of_ble_eq_true rfl) .nil))) rfl rfl)) (by rintro _ _ ⟨rfl, rfl⟩; exact upd rfl [3, 4] rfl rfl) ?_ ?_
        ·rintro _ _ ⟨rfl, rfl⟩
         refine T.ef rfl rfl rfl (wanted_none rfl) (Makes.does (m_alloc ti148)) (by rintro _ _ ⟨b6_17, rfl, rfl⟩; exact upd rfl [4, 5] rfl rfl) ?_ ?_
         ·rintro _ _ ⟨b6_17, rfl, rfl⟩
          refine T.nil ?_
          refine F.ef0 rfl rfl (wanted_none rfl) (d_storeG0 (i := 0) (cs2 := [v22_8, v24_8, v25_12]) ti148 rfl rfl rfl rfl rfl (Nat.le_of_ble_eq_true rfl) (lf_cons (sl_leaf hl_v22_8) (lf_cons (sl_leaf hl_v24_8) (lf_cons (sl_leaf hl_v25_12) lf_nil)))) ?_
          rintro _ _ ⟨rfl, rfl⟩
          refine F.nil ?_
          cases hE_1
          refine Nrm.only [1, 2, 4, 5, 6] rfl ?_
          refine Nrm.pick [4, 5, 0, 2, 1, 3] rfl rfl ?_
          exact hj_1 _ _ ⟨v22_8, S22_8, v24_8, S24_8, v25_12, S25_12, b6_17, hl_v22_8, hl_v24_8, hl_v25_12, rfl, rfl⟩
         exact T.stop
        ·refine T.ef rfl rfl rfl (wanted_none rfl) (Makes.does (m_alloc ti148)) (by rintro _ _ ⟨b6_18, rfl, rfl⟩; exact upd rfl [4, 5] rfl rfl) ?_ ?_
         ·rintro _ _ ⟨b6_18, rfl, rfl⟩
          refine T.ef rfl rfl rfl (wanted_none rfl) (Runs.does (r_build (pl := [(0, 1), (1, 1), (2, 1)]) (qs := [(0, [v22_8]), (1, [v24_8]), (2, [v25_12])]) (cs := [v22_8, v24_8, v25_12]) (by kernel_rfl) ti148 rfl (.cons (sl_cells hl_v22_8) rfl (Nat.le_of_ble_eq_true rfl) (.cons (sl_cells hl_v24_8) rfl (Nat.le_of_ble_eq_true rfl) (.cons (sl_cells hl_v25_12) rfl (Nat.le_of_ble_eq_true rfl) .nil))) rfl rfl)) (by rintro _ _ ⟨rfl, rfl⟩; exact upd rfl [4, 5] rfl rfl) ?_ ?_
          ·rintro _ _ ⟨rfl, rfl⟩
           refine T.nil ?_
           refine F.ef0 rfl rfl (wanted_none rfl) (d_storeG0 (i := 0) (cs2 := [v22_8, v24_8, v25_12]) ti148 rfl rfl rfl rfl rfl (Nat.le_of_ble_eq_true rfl) (lf_cons (sl_leaf hl_v22_8) (lf_cons (sl_leaf hl_v24_8) (lf_cons (sl_leaf hl_v25_12) lf_nil)))) ?_
           rintro _ _ ⟨rfl, rfl⟩
           refine F.nil ?_
           cases hE_1
           refine Nrm.only [1, 2, 4, 5, 6] rfl ?_
           refine Nrm.pick [4, 5, 0, 2, 1, 3] rfl rfl ?_
           exact hj_1 _ _ ⟨v22_8, S22_8, v24_8, S24_8, v25_12, S25_12, b6_18, hl_v22_8, hl_v24_8, hl_v25_12, rfl, rfl⟩
          exact T.stop
         exact T.stop
       ·refine T.ef rfl rfl rfl (wanted_none rfl) (Makes.does (m_alloc ti148)) (by rintro _ _ ⟨b6_19, rfl, rfl⟩; exact upd rfl [3, 4] rfl rfl) ?_ ?_
        ·rintro _ _ ⟨b6_19, rfl, rfl⟩
         refine T.ef rfl rfl rfl (wanted_none rfl) (Makes.does (m_callF (xs := _) rfl ok200 rfl rfl (fun w hw => spec_l10None.ok h24 w ))) (by rintro v24_9 _ ⟨_, ⟨S24_9, hl_v24_9, rfl⟩, rfl⟩; exact upd rfl [4, 5] rfl rfl) ?_ ?_
         ·rintro v24_9 _ ⟨_, ⟨S24_9, hl_v24_9, rfl⟩, rfl⟩
          refine T.ef rfl rfl rfl (wanted_none rfl) (Runs.does (r_build (pl := [(0, 1), (1, 1), (2, 1)]) (qs := [(0, [v22_8]), (1, [v24_9]), (2, [v25_12])]) (cs := [v22_8, v24_9, v25_12]) (by kernel_rfl) ti148 rfl (.cons (sl_cells hl_v22_8) rfl (Nat.le_of_ble_eq_true rfl) (.cons (sl_cells hl_v24_9) rfl (Nat.le_of_ble_eq_true rfl) (.cons (sl_cells hl_v25_12) rfl (Nat.le_of_ble_eq_true rfl) .nil))) rfl rfl)) (by rintro _ _ ⟨rfl, rfl⟩; exact upd rfl [4, 5] rfl rfl) ?_ ?_
          ·rintro _ _ ⟨rfl, rfl⟩
           refine T.nil ?_
           refine F.ef0 rfl rfl (wanted_none rfl) (d_storeG0 (i := 1) (cs2 := [v22_8, v24_9, v25_12]) ti148 rfl rfl rfl rfl rfl (Nat.le_of_ble_eq_true rfl) (lf_cons (sl_leaf hl_v22_8) (lf_cons (sl_leaf hl_v24_9) (lf_cons (sl_leaf hl_v25_12) lf_nil)))) ?_
           rintro _ _ ⟨rfl, rfl⟩
           refine F.nil ?_
           cases hE_1
           refine Nrm.only [1, 2, 4, 5, 6] rfl ?_
           refine Nrm.pick [4, 5, 1, 2, 0, 3] rfl rfl ?_
           exact hj_1 _ _ ⟨v22_8, S22_8, v24_9, S24_9, v25_12, S25_12, b6_19, hl_v22_8, hl_v24_9, hl_v25_12, rfl, rfl⟩
          exact T.stop
         exact T.stop
        exact T.stop
      ·refine T.ef rfl rfl rfl (wanted_none rfl) (Makes.does (m_callF (xs := _) rfl ok200 rfl rfl (fun w hw => spec_l10None.ok h24 w ))) (by rintro v24_10 _ ⟨_, ⟨S24_10, hl_v24_10, rfl⟩, rfl⟩; exact upd rfl [3, 4] rfl rfl) ?_ ?_
       ·rintro v24_10 _ ⟨_, ⟨S24_10, hl_v24_10, rfl⟩, rfl⟩
        refine T.ef rfl rfl rfl (wanted_none rfl) (d_build1 (cells := [v21_2]) (x0 := (List.replicate ((a0_0.length : Int)).toNat (0 : Int) : List Int)) (cs := [R.sl S21_2 v21_2 (List.replicate ((a0_0.length : Int)).toNat (0 : Int) : List (Int))]) (rest := [R.sl S24_10 v24_10 (t24 : List (Int)), R.sl S25_12 v25_12 (([] : List (List Int)) : List (List Int)), R.box b4_1 148 [.slice none 0 0, .slice none 0 0, .slice none 0 0], R.box b2_1 85 [va0_0, va0_1]]) [2] [0, 1, 3, 4] Try.underlying83 ti25 rfl (sl_cells hl_v21_2) rfl (lf_cons (sl_leaf hl_v21_2) lf_nil) rfl rfl (jn_sl (S := S21_2) (v := v21_2) (l := (List.replicate ((a0_0.length : Int)).toNat (0 : Int) : List (Int))))) (by rintro v22_9 _ ⟨S22_9, hl_v22_9, rfl⟩; exact upd rfl [3, 4] rfl rfl) ?_ ?_
        ·rintro v22_9 _ ⟨S22_9, hl_v22_9, rfl⟩
         refine T.ef rfl rfl rfl (wanted_none rfl) (Runs.does (r_build (pl := [(0, 1), (1, 1), (2, 1)]) (qs := [(0, [v22_9]), (1, [v24_10]), (2, [v25_12])]) (cs := [v22_9, v24_10, v25_12]) (by kernel_rfl) ti148 rfl (.cons (sl_cells hl_v22_9) rfl (Nat.le_of_ble_eq_true rfl) (.cons (sl_cells hl_v24_10) rfl (Nat.le_of_ble_eq_true rfl) (.cons (sl_cells hl_v25_12) rfl (Nat.le_of_ble_eq_true rfl) .nil))) rfl rfl)) (by rintro _ _ ⟨rfl, rfl⟩; exact upd rfl [3, 4] rfl rfl) ?_ ?_
         ·rintro _ _ ⟨rfl, rfl⟩
          refine T.ef rfl rfl rfl (wanted_none rfl) (Makes.does (m_alloc ti148)) (by rintro _ _ ⟨b6_20, rfl, rfl⟩; exact upd rfl [4, 5] rfl rfl) ?_ ?_
          ·rintro _ _ ⟨b6_20, rfl, rfl⟩
           refine T.nil ?_
           refine F.ef0 rfl rfl (wanted_none rfl) (d_storeG0 (i := 0) (cs2 := [v22_9, v24_10, v25_12]) ti148 rfl rfl rfl rfl rfl (Nat.le_of_ble_eq_true rfl) (lf_cons (sl_leaf hl_v22_9) (lf_cons (sl_leaf hl_v24_10) (lf_cons (sl_leaf hl_v25_12) lf_nil)))) ?_
           rintro _ _ ⟨rfl, rfl⟩
           refine F.nil ?_
           cases hE_1
           refine Nrm.only [1, 2, 4, 5, 6] rfl ?_
           refine Nrm.pick [4, 5, 0, 1, 2, 3] rfl rfl ?_
           exact hj_1 _ _ ⟨v22_9, S22_9, v24_10, S24_10, v25_12, S25_12, b6_20, hl_v22_9, hl_v24_10, hl_v25_12, rfl, rfl⟩
          exact T.stop
         ·refine T.ef rfl rfl rfl (wanted_none rfl) (Makes.does (m_alloc ti148)) (by rintro _ _ ⟨b6_21, rfl, rfl⟩; exact upd rfl [4, 5] rfl rfl) ?_ ?_
          ·rintro _ _ ⟨b6_21, rfl, rfl⟩
           refine T.ef rfl rfl rfl (wanted_none rfl) (Runs.does (r_build (pl := [(0, 1), (1, 1), (2, 1)]) (qs := [(0, [v22_9]), (1, [v24_10]), (2, [v25_12])]) (cs := [v22_9, v24_10, v25_12]) (by kernel_rfl) ti148 rfl (.cons (sl_cells hl_v22_9) rfl (Nat.le_of_ble_eq_true rfl) (.cons (sl_cells hl_v24_10) rfl (Nat.le_of_ble_eq_true rfl) (.cons (sl_cells hl_v25_12) rfl (Nat.le_of_ble_eq_true rfl) .nil))) rfl rfl)) (by rintro _ _ ⟨rfl, rfl⟩; exact upd rfl [4, 5] rfl rfl) ?_ ?_
           ·rintro _ _ ⟨rfl, rfl⟩
            refine T.nil ?_
            refine F.ef0 rfl rfl (wanted_none rfl) (d_storeG0 (i := 0) (cs2 := [v22_9, v24_10, v25_12]) ti148 rfl rfl rfl rfl rfl (Nat.le_of_ble_eq_true rfl) (lf_cons (sl_leaf hl_v22_9) (lf_cons (sl_leaf hl_v24_10) (lf_cons (sl_leaf hl_v25_12) lf_nil)))) ?_
            rintro _ _ ⟨rfl, rfl⟩
            refine F.nil ?_
            cases hE_1
            refine Nrm.only [1, 2, 4, 5, 6] rfl ?_
            refine Nrm.pick [4, 5, 0, 1, 2, 3] rfl rfl ?_
            exact hj_1 _ _ ⟨v22_9, S22_9, v24_10, S24_10, v25_12, S25_12, b6_21, hl_v22_9, hl_v24_10, hl_v25_12, rfl, rfl⟩
           exact T.stop
          exact T.stop
        ·refine T.ef rfl rfl rfl (wanted_none rfl) (Makes.does (m_alloc ti148)) (by rintro _ _ ⟨b6_22, rfl, rfl⟩; exact upd rfl [4, 5] rfl rfl) ?_ ?_
         ·rintro _ _ ⟨b6_22, rfl, rfl⟩
          refine T.ef rfl rfl rfl (wanted_none rfl) (d_build1 (cells := [v21_2]) (x0 := (List.replicate ((a0_0.length : Int)).toNat (0 : Int) : List Int)) (cs := [R.sl S21_2 v21_2 (List.replicate ((a0_0.length : Int)).toNat (0 : Int) : List (Int))]) (rest := [R.box b6_22 148 [.slice none 0 0, .slice none 0 0, .slice none 0 0], R.sl S24_10 v24_10 (t24 : List (Int)), R.sl S25_12 v25_12 (([] : List (List Int)) : List (List Int)), R.box b4_1 148 [.slice none 0 0, .slice none 0 0, .slice none 0 0], R.box b2_1 85 [va0_0, va0_1]]) [3] [0, 1, 2, 4, 5] Try.underlying83 ti25 rfl (sl_cells hl_v21_2) rfl (lf_cons (sl_leaf hl_v21_2) lf_nil) rfl rfl (jn_sl (S := S21_2) (v := v21_2) (l := (List.replicate ((a0_0.length : Int)).toNat (0 : Int) : List (Int))))) (by rintro v22_10 _ ⟨S22_10, hl_v22_10, rfl⟩; exact upd rfl [4, 5] rfl rfl) ?_ ?_
          ·rintro v22_10 _ ⟨S22_10, hl_v22_10, rfl⟩
           refine T.ef rfl rfl rfl (wanted_none rfl) (Runs.does (r_build (pl := [(0, 1), (1, 1), (2, 1)]) (qs := [(0, [v22_10]), (1, [v24_10]), (2, [v25_12])]) (cs := [v22_10, v24_10, v25_12]) (by kernel_rfl) ti148 rfl (.cons (sl_cells hl_v22_10) rfl (Nat.le_of_ble_eq_true rfl) (.cons (sl_cells hl_v24_10) rfl (Nat.le_of_ble_eq_true rfl) (.cons (sl_cells hl_v25_12) rfl (Nat.le_of_ble_eq_true rfl) .nil))) rfl rfl)) (by rintro _ _ ⟨rfl, rfl⟩; exact upd rfl [4, 5] rfl rfl) ?_ ?_
           ·rintro _ _ ⟨rfl, rfl⟩
            refine T.nil ?_
            refine F.ef0 rfl rfl (wanted_none rfl) (d_storeG0 (i := 1) (cs2 := [v22_10, v24_10, v25_12]) ti148 rfl rfl rfl rfl rfl (Nat.le_of_ble_eq_true rfl) (lf_cons (sl_leaf hl_v22_10) (lf_cons (sl_leaf hl_v24_10) (lf_cons (sl_leaf hl_v25_12) lf_nil)))) ?_
            rintro _ _ ⟨rfl, rfl⟩
            refine F.nil ?_
            cases hE_1
            refine Nrm.only [1, 2, 4, 5, 6] rfl ?_
            refine Nrm.pick [4, 5, 1, 0, 2, 3] rfl rfl ?_
            exact hj_1 _ _ ⟨v22_10, S22_10, v24_10, S24_10, v25_12, S25_12, b6_22, hl_v22_10, hl_v24_10, hl_v25_12, rfl, rfl⟩
           exact T.stop
          exact T.stop
         exact T.stop
       ·refine T.ef rfl rfl rfl (wanted_none rfl) (Makes.does (m_alloc ti148)) (by rintro _ _ ⟨b6_23, rfl, rfl⟩; exact upd rfl [3, 4] rfl rfl) ?_ ?_
        ·rintro _ _ ⟨b6_23, rfl, rfl⟩
         refine T.ef rfl rfl rfl (wanted_none rfl) (d_build1 (cells := [v21_2]) (x0 := (List.replicate ((a0_0.length : Int)).toNat (0 : Int) : List Int)) (cs := [R.sl S21_2 v21_2 (List.replicate ((a0_0.length : Int)).toNat (0 : Int) : List (Int))]) (rest := [R.box b6_23 148 [.slice none 0 0, .slice none 0 0, .slice none 0 0], R.sl S25_12 v25_12 (([] : List (List Int)) : List (List Int)), R.box b4_1 148 [.slice none 0 0, .slice none 0 0, .slice none 0 0], R.box b2_1 85 [va0_0, va0_1]]) [2] [0, 1, 3, 4] Try.underlying83 ti25 rfl (sl_cells hl_v21_2) rfl (lf_cons (sl_leaf hl_v21_2) lf_nil) rfl rfl (jn_sl (S := S21_2) (v := v21_2) (l := (List.replicate ((a0_0.length : Int)).toNat (0 : Int) : List (Int))))) (by rintro v22_11 _ ⟨S22_11, hl_v22_11, rfl⟩; exact upd rfl [3, 4] rfl rfl) ?_ ?_
         ·rintro v22_11 _ ⟨S22_11, hl_v22_11, rfl⟩
          refine T.ef rfl rfl rfl (wanted_none rfl) (Makes.does (m_callF (xs := _) rfl ok200 rfl rfl (fun w hw => spec_l10None.ok h24 w ))) (by rintro v24_11 _ ⟨_, ⟨S24_11, hl_v24_11, rfl⟩, rfl⟩; exact upd rfl [4, 5] rfl rfl) ?_ ?_
          ·rintro v24_11 _ ⟨_, ⟨S24_11, hl_v24_11, rfl⟩, rfl⟩
           refine T.ef rfl rfl rfl (wanted_none rfl) (Runs.does (r_build (pl := [(0, 1), (1, 1), (2, 1)]) (qs := [(0, [v22_11]), (1, [v24_11]), (2, [v25_12])]) (cs := [v22_11, v24_11, v25_12]) (by kernel_rfl) ti148 rfl (.cons (sl_cells hl_v22_11) rfl (Nat.le_of_ble_eq_true rfl) (.cons (sl_cells hl_v24_11) rfl (Nat.le_of_ble_eq_true rfl) (.cons (sl_cells hl_v25_12) rfl (Nat.le_of_ble_eq_true rfl) .nil))) rfl rfl)) (by rintro _ _ ⟨rfl, rfl⟩; exact upd rfl [4, 5] rfl rfl) ?_ ?_
           ·rintro _ _ ⟨rfl, rfl⟩
            refine T.nil ?_
            refine F.ef0 rfl rfl (wanted_none rfl) (d_storeG0 (i := 2) (cs2 := [v22_11, v24_11, v25_12]) ti148 rfl rfl rfl rfl rfl (Nat.le_of_ble_eq_true rfl) (lf_cons (sl_leaf hl_v22_11) (lf_cons (sl_leaf hl_v24_11) (lf_cons (sl_leaf hl_v25_12) lf_nil)))) ?_
            rintro _ _ ⟨rfl, rfl⟩
            refine F.nil ?_
            cases hE_1
            refine Nrm.only [1, 2, 4, 5, 6] rfl ?_
            refine Nrm.pick [4, 5, 2, 1, 0, 3] rfl rfl ?_
            exact hj_1 _ _ ⟨v22_11, S22_11, v24_11, S24_11, v25_12, S25_12, b6_23, hl_v22_11, hl_v24_11, hl_v25_12, rfl, rfl⟩
           exact T.stop
          exact T.stop
         ·refine T.ef rfl rfl rfl (wanted_none rfl) (Makes.does (m_callF (xs := _) rfl ok200 rfl rfl (fun w hw => spec_l10None.ok h24 w ))) (by rintro v24_12 _ ⟨_, ⟨S24_12, hl_v24_12, rfl⟩, rfl⟩; exact upd rfl [4, 5] rfl rfl) ?_ ?_
          ·rintro v24_12 _ ⟨_, ⟨S24_12, hl_v24_12, rfl⟩, rfl⟩
           refine T.ef rfl rfl rfl (wanted_none rfl) (d_build1 (cells := [v21_2]) (x0 := (List.replicate ((a0_0.length : Int)).toNat (0 : Int) : List Int)) (cs := [R.sl S21_2 v21_2 (List.replicate ((a0_0.length : Int)).toNat (0 : Int) : List (Int))]) (rest := [R.sl S24_12 v24_12 (t24 : List (Int)), R.box b6_23 148 [.slice none 0 0, .slice none 0 0, .slice none 0 0], R.sl S25_12 v25_12 (([] : List (List Int)) : List (List Int)), R.box b4_1 148 [.slice none 0 0, .slice none 0 0, .slice none 0 0], R.box b2_1 85 [va0_0, va0_1]]) [3] [0, 1, 2, 4, 5] Try.underlying83 ti25 rfl (sl_cells hl_v21_2) rfl (lf_cons (sl_leaf hl_v21_2) lf_nil) rfl rfl (jn_sl (S := S21_2) (v := v21_2) (l := (List.replicate ((a0_0.length : Int)).toNat (0 : Int) : List (Int))))) (by rintro v22_12 _ ⟨S22_12, hl_v22_12, rfl⟩; exact upd rfl [4, 5] rfl rfl) ?_ ?_
           ·rintro v22_12 _ ⟨S22_12, hl_v22_12, rfl⟩
            refine T.ef rfl rfl rfl (wanted_none rfl) (Runs.does (r_build (pl := [(0, 1), (1, 1), (2, 1)]) (qs := [(0, [v22_12]), (1, [v24_12]), (2, [v25_12])]) (cs := [v22_12, v24_12, v25_12]) (by kernel_rfl) ti148 rfl (.cons (sl_cells hl_v22_12) rfl (Nat.le_of_ble_eq_true rfl) (.cons (sl_cells hl_v24_12) rfl (Nat.le_of_ble_eq_true rfl) (.cons (sl_cells hl_v25_12) rfl (Nat.le_of_ble_eq_true rfl) .nil))) rfl rfl)) (by rintro _ _ ⟨rfl, rfl⟩; exact upd rfl [4, 5] rfl rfl) ?_ ?_
            ·rintro _ _ ⟨rfl, rfl⟩
             refine T.nil ?_
             refine F.ef0 rfl rfl (wanted_none rfl) (d_storeG0 (i := 2) (cs2 := [v22_12, v24_12, v25_12]) ti148 rfl rfl rfl rfl rfl (Nat.le_of_ble_eq_true rfl) (lf_cons (sl_leaf hl_v22_12) (lf_cons (sl_leaf hl_v24_12) (lf_cons (sl_leaf hl_v25_12) lf_nil)))) ?_
             rintro _ _ ⟨rfl, rfl⟩
             refine F.nil ?_
             cases hE_1
             refine Nrm.only [1, 2, 4, 5, 6] rfl ?_
             refine Nrm.pick [4, 5, 2, 0, 1, 3] rfl rfl ?_
             exact hj_1 _ _ ⟨v22_12, S22_12, v24_12, S24_12, v25_12, S25_12, b6_23, hl_v22_12, hl_v24_12, hl_v25_12, rfl, rfl⟩
            exact T.stop
           exact T.stop
          exact T.stop
        exact T.stop
     ·refine T.ef rfl rfl rfl (wanted_none rfl) (Makes.does (m_alloc ti148)) (by rintro _ _ ⟨b6_24, rfl, rfl⟩; exact upd rfl [2, 3] rfl rfl) ?_ ?_
      ·rintro _ _ ⟨b6_24, rfl, rfl⟩
       refine T.ef rfl rfl rfl (wanted_none rfl) (d_build1 (cells := [v21_2]) (x0 := (List.replicate ((a0_0.length : Int)).toNat (0 : Int) : List Int)) (cs := [R.sl S21_2 v21_2 (List.replicate ((a0_0.length : Int)).toNat (0 : Int) : List (Int))]) (rest := [R.box b6_24 148 [.slice none 0 0, .slice none 0 0, .slice none 0 0], R.box b4_1 148 [.slice none 0 0, .slice none 0 0, .slice none 0 0], R.box b2_1 85 [va0_0, va0_1]]) [1] [0, 2, 3] Try.underlying83 ti25 rfl (sl_cells hl_v21_2) rfl (lf_cons (sl_leaf hl_v21_2) lf_nil) rfl rfl (jn_sl (S := S21_2) (v := v21_2) (l := (List.replicate ((a0_0.length : Int)).toNat (0 : Int) : List (Int))))) (by rintro v22_13 _ ⟨S22_13, hl_v22_13, rfl⟩; exact upd rfl [2, 3] rfl rfl) ?_ ?_
       ·rintro v22_13 _ ⟨S22_13, hl_v22_13, rfl⟩
        refine T.ef rfl rfl rfl (wanted_none rfl) (Makes.does (m_callF (xs := _) rfl ok200 rfl rfl (fun w hw => spec_l10None.ok h24 w ))) (by rintro v24_13 _ ⟨_, ⟨S24_13, hl_v24_13, rfl⟩, rfl⟩; exact upd rfl [3, 4] rfl rfl) ?_ ?_
        ·rintro v24_13 _ ⟨_, ⟨S24_13, hl_v24_13, rfl⟩, rfl⟩
         refine T.ef rfl rfl rfl (wanted_none rfl) (Makes.does (m_build0 (α := List Int) Try.underlying83 ti25)) (by rintro v25_13 _ ⟨S25_13, hl_v25_13, rfl⟩; exact upd rfl [4, 5] rfl rfl) ?_ ?_
         ·rintro v25_13 _ ⟨S25_13, hl_v25_13, rfl⟩
          refine T.ef rfl rfl rfl (wanted_none rfl) (Runs.does (r_build (pl := [(0, 1), (1, 1), (2, 1)]) (qs := [(0, [v22_13]), (1, [v24_13]), (2, [v25_13])]) (cs := [v22_13, v24_13, v25_13]) (by kernel_rfl) ti148 rfl (.cons (sl_cells hl_v22_13) rfl (Nat.le_of_ble_eq_true rfl) (.cons (sl_cells hl_v24_13) rfl (Nat.le_of_ble_eq_true rfl) (.cons (sl_cells hl_v25_13) rfl (Nat.le_of_ble_eq_true rfl) .nil))) rfl rfl)) (by rintro _ _ ⟨rfl, rfl⟩; exact upd rfl [4, 5] rfl rfl) ?_ ?_
          ·rintro _ _ ⟨rfl, rfl⟩
           refine T.nil ?_
           refine F.ef0 rfl rfl (wanted_none rfl) (d_storeG0 (i := 3) (cs2 := [v22_13, v24_13, v25_13]) ti148 rfl rfl rfl rfl rfl (Nat.le_of_ble_eq_true rfl) (lf_cons (sl_leaf hl_v22_13) (lf_cons (sl_leaf hl_v24_13) (lf_cons (sl_leaf hl_v25_13) lf_nil)))) ?_
           rintro _ _ ⟨rfl, rfl⟩
           refine F.nil ?_
           cases hE_1
           refine Nrm.only [1, 2, 4, 5, 6] rfl ?_
           refine Nrm.pick [4, 5, 3, 2, 1, 0] rfl rfl ?_
           exact hj_1 _ _ ⟨v22_13, S22_13, v24_13, S24_13, v25_13, S25_13, b6_24, hl_v22_13, hl_v24_13, hl_v25_13, rfl, rfl⟩
          exact T.stop
         exact T.stop
        ·refine T.ef rfl rfl rfl (wanted_none rfl) (Makes.does (m_build0 (α := List Int) Try.underlying83 ti25)) (by rintro v25_14 _ ⟨S25_14, hl_v25_14, rfl⟩; exact upd rfl [3, 4] rfl rfl) ?_ ?_
         ·rintro v25_14 _ ⟨S25_14, hl_v25_14, rfl⟩
          refine T.ef rfl rfl rfl (wanted_none rfl) (Makes.does (m_callF (xs := _) rfl ok200 rfl rfl (fun w hw => spec_l10None.ok h24 w ))) (by rintro v24_14 _ ⟨_, ⟨S24_14, hl_v24_14, rfl⟩, rfl⟩; exact upd rfl [4, 5] rfl rfl) ?_ ?_
          ·rintro v24_14 _ ⟨_, ⟨S24_14, hl_v24_14, rfl⟩, rfl⟩
           refine T.ef rfl rfl rfl (wanted_none rfl) (Runs.does (r_build (pl := [(0, 1), (1, 1), (2, 1)]) (qs := [(0, [v22_13]), (1, [v24_14]), (2, [v25_14])]) (cs := [v22_13, v24_14, v25_14]) (by kernel_rfl) ti148 rfl (.cons (sl_cells hl_v22_13) rfl (Nat.le_of_ble_eq_true rfl) (.cons (sl_cells hl_v24_14) rfl (Nat.le_of_ble_eq_true rfl) (.cons (sl_cells hl_v25_14) rfl (Nat.le_of_ble_eq_true rfl) .nil))) rfl rfl)) (by rintro _ _ ⟨rfl, rfl⟩; exact upd rfl [4, 5] rfl rfl) ?_ ?_
           ·rintro _ _ ⟨rfl, rfl⟩
            refine T.nil ?_
            refine F.ef0 rfl rfl (wanted_none rfl) (d_storeG0 (i := 3) (cs2 := [v22_13, v24_14, v25_14]) ti148 rfl rfl rfl rfl rfl (Nat.le_of_ble_eq_true rfl) (lf_cons (sl_leaf hl_v22_13) (lf_cons (sl_leaf hl_v24_14) (lf_cons (sl_leaf hl_v25_14) lf_nil)))) ?_
            rintro _ _ ⟨rfl, rfl⟩
            refine F.nil ?_
            cases hE_1
            refine Nrm.only [1, 2, 4, 5, 6] rfl ?_
            refine Nrm.pick [4, 5, 3, 2, 0, 1] rfl rfl ?_
            exact hj_1 _ _ ⟨v22_13, S22_13, v24_14, S24_14, v25_14, S25_14, b6_24, hl_v22_13, hl_v24_14, hl_v25_14, rfl, rfl⟩
           exact T.stop
          exact T.stop
         exact T.stop
       ·refine T.ef rfl rfl rfl (wanted_none rfl) (Makes.does (m_callF (xs := _) rfl ok200 rfl rfl (fun w hw => spec_l10None.ok h24 w ))) (by rintro v24_15 _ ⟨_, ⟨S24_15, hl_v24_15, rfl⟩, rfl⟩; exact upd rfl [3, 4] rfl rfl) ?_ ?_
        ·rintro v24_15 _ ⟨_, ⟨S24_15, hl_v24_15, rfl⟩, rfl⟩
         refine T.ef rfl rfl rfl (wanted_none rfl) (d_build1 (cells := [v21_2]) (x0 := (List.replicate ((a0_0.length : Int)).toNat (0 : Int) : List Int)) (cs := [R.sl S21_2 v21_2 (List.replicate ((a0_0.length : Int)).toNat (0 : Int) : List (Int))]) (rest := [R.sl S24_15 v24_15 (t24 : List (Int)), R.box b6_24 148 [.slice none 0 0, .slice none 0 0, .slice none 0 0], R.box b4_1 148 [.slice none 0 0, .slice none 0 0, .slice none 0 0], R.box b2_1 85 [va0_0, va0_1]]) [2] [0, 1, 3, 4] Try.underlying83 ti25 rfl (sl_cells hl_v21_2) rfl (lf_cons (sl_leaf hl_v21_2) lf_nil) rfl rfl (jn_sl (S := S21_2) (v := v21_2) (l := (List.replicate ((a0_0.length : Int)).toNat (0 : Int) : List (Int))))) (by rintro v22_14 _ ⟨S22_14, hl_v22_14, rfl⟩; exact upd rfl [3, 4] rfl rfl) ?_ ?_
         ·rintro v22_14 _ ⟨S22_14, hl_v22_14, rfl⟩
          refine T.ef rfl rfl rfl (wanted_none rfl) (Makes.does (m_build0 (α := List Int) Try.underlying83 ti25)) (by rintro v25_15 _ ⟨S25_15, hl_v25_15, rfl⟩; exact upd rfl [4, 5] rfl rfl) ?_ ?_
          ·rintro v25_15 _ ⟨S25_15, hl_v25_15, rfl⟩
           refine T.ef rfl rfl rfl (wanted_none rfl) (Runs.does (r_build (pl := [(0, 1), (1, 1), (2, 1)]) (qs := [(0, [v22_14]), (1, [v24_15]), (2, [v25_15])]) (cs := [v22_14, v24_15, v25_15]) (by kernel_rfl) ti148 rfl (.cons (sl_cells hl_v22_14) rfl (Nat.le_of_ble_eq_true rfl) (.cons (sl_cells hl_v24_15) rfl (Nat.le_of_ble_eq_true rfl) (.cons (sl_cells hl_v25_15) rfl (Nat.le_of_ble_eq_true rfl) .nil))) rfl rfl)) (by rintro _ _ ⟨rfl, rfl⟩; exact upd rfl [4, 5] rfl rfl) ?_ ?_
           ·rintro _ _ ⟨rfl, rfl⟩
            refine T.nil ?_
            refine F.ef0 rfl rfl (wanted_none rfl) (d_storeG0 (i := 3) (cs2 := [v22_14, v24_15, v25_15]) ti148 rfl rfl rfl rfl rfl (Nat.le_of_ble_eq_true rfl) (lf_cons (sl_leaf hl_v22_14) (lf_cons (sl_leaf hl_v24_15) (lf_cons (sl_leaf hl_v25_15) lf_nil)))) ?_
            rintro _ _ ⟨rfl, rfl⟩
            refine F.nil ?_
            cases hE_1
            refine Nrm.only [1, 2, 4, 5, 6] rfl ?_
            refine Nrm.pick [4, 5, 3, 1, 2, 0] rfl rfl ?_
            exact hj_1 _ _ ⟨v22_14, S22_14, v24_15, S24_15, v25_15, S25_15, b6_24, hl_v22_14, hl_v24_15, hl_v25_15, rfl, rfl⟩
           exact T.stop
          exact T.stop
         ·refine T.ef rfl rfl rfl (wanted_none rfl) (Makes.does (m_build0 (α := List Int) Try.underlying83 ti25)) (by rintro v25_16 _ ⟨S25_16, hl_v25_16, rfl⟩; exact upd rfl [4, 5] rfl rfl) ?_ ?_
          ·rintro v25_16 _ ⟨S25_16, hl_v25_16, rfl⟩
           refine T.ef rfl rfl rfl (wanted_none rfl) (d_build1 (cells := [v21_2]) (x0 := (List.replicate ((a0_0.length : Int)).toNat (0 : Int) : List Int)) (cs := [R.sl S21_2 v21_2 (List.replicate ((a0_0.length : Int)).toNat (0 : Int) : List (Int))]) (rest := [R.sl S25_16 v25_16 (([] : List (List Int)) : List (List Int)), R.sl S24_15 v24_15 (t24 : List (Int)), R.box b6_24 148 [.slice none 0 0, .slice none 0 0, .slice none 0 0], R.box b4_1 148 [.slice none 0 0, .slice none 0 0, .slice none 0 0], R.box b2_1 85 [va0_0, va0_1]]) [3] [0, 1, 2, 4, 5] Try.underlying83 ti25 rfl (sl_cells hl_v21_2) rfl (lf_cons (sl_leaf hl_v21_2) lf_nil) rfl rfl (jn_sl (S := S21_2) (v := v21_2) (l := (List.replicate ((a0_0.length : Int)).toNat (0 : Int) : List (Int))))) (by rintro v22_15 _ ⟨S22_15, hl_v22_15, rfl⟩; exact upd rfl [4, 5] rfl rfl) ?_ ?_
           ·rintro v22_15 _ ⟨S22_15, hl_v22_15, rfl⟩
            refine T.ef rfl rfl rfl (wanted_none rfl) (Runs.does (r_build (pl := [(0, 1), (1, 1), (2, 1)]) (qs := [(0, [v22_15]), (1, [v24_15]), (2, [v25_16])]) (cs := [v22_15, v24_15, v25_16]) (by kernel_rfl) ti148 rfl (.cons (sl_cells hl_v22_15) rfl (Nat.le_of_ble_eq_true rfl) (.cons (sl_cells hl_v24_15) rfl (Nat.le_of_ble_eq_true rfl) (.cons (sl_cells hl_v25_16) rfl (Nat.le_of_ble_eq_true rfl) .nil))) rfl rfl)) (by rintro _ _ ⟨rfl, rfl⟩; exact upd rfl [4, 5] rfl rfl) ?_ ?_
            ·rintro _ _ ⟨rfl, rfl⟩
             refine T.nil ?_
             refine F.ef0 rfl rfl (wanted_none rfl) (d_storeG0 (i := 3) (cs2 := [v22_15, v24_15, v25_16]) ti148 rfl rfl rfl rfl rfl (Nat.le_of_ble_eq_true rfl) (lf_cons (sl_leaf hl_v22_15) (lf_cons (sl_leaf hl_v24_15) (lf_cons (sl_leaf hl_v25_16) lf_nil)))) ?_
             rintro _ _ ⟨rfl, rfl⟩
             refine F.nil ?_
             cases hE_1
             refine Nrm.only [1, 2, 4, 5, 6] rfl ?_
             refine Nrm.pick [4, 5, 3, 0, 2, 1] rfl rfl ?_
             exact hj_1 _ _ ⟨v22_15, S22_15, v24_15, S24_15, v25_16, S25_16, b6_24, hl_v22_15, hl_v24_15, hl_v25_16, rfl, rfl⟩
            exact T.stop
           exact T.stop
          exact T.stop
        ·refine T.ef rfl rfl rfl (wanted_none rfl) (Makes.does (m_build0 (α := List Int) Try.underlying83 ti25)) (by rintro v25_17 _ ⟨S25_17, hl_v25_17, rfl⟩; exact upd rfl [3, 4] rfl rfl) ?_ ?_
         ·rintro v25_17 _ ⟨S25_17, hl_v25_17, rfl⟩
          refine T.ef rfl rfl rfl (wanted_none rfl) (d_build1 (cells := [v21_2]) (x0 := (List.replicate ((a0_0.length : Int)).toNat (0 : Int) : List Int)) (cs := [R.sl S21_2 v21_2 (List.replicate ((a0_0.length : Int)).toNat (0 : Int) : List (Int))]) (rest := [R.sl S25_17 v25_17 (([] : List (List Int)) : List (List Int)), R.box b6_24 148 [.slice none 0 0, .slice none 0 0, .slice none 0 0], R.box b4_1 148 [.slice none 0 0, .slice none 0 0, .slice none 0 0], R.box b2_1 85 [va0_0, va0_1]]) [2] [0, 1, 3, 4] Try.underlying83 ti25 rfl (sl_cells hl_v21_2) rfl (lf_cons (sl_leaf hl_v21_2) lf_nil) rfl rfl (jn_sl (S := S21_2) (v := v21_2) (l := (List.replicate ((a0_0.length : Int)).toNat (0 : Int) : List (Int))))) (by rintro v22_16 _ ⟨S22_16, hl_v22_16, rfl⟩; exact upd rfl [3, 4] rfl rfl) ?_ ?_
          ·rintro v22_16 _ ⟨S22_16, hl_v22_16, rfl⟩
           refine T.ef rfl rfl rfl (wanted_none rfl) (Makes.does (m_callF (xs := _) rfl ok200 rfl rfl (fun w hw => spec_l10None.ok h24 w ))) (by rintro v24_16 _ ⟨_, ⟨S24_16, hl_v24_16, rfl⟩, rfl⟩; exact upd rfl [4, 5] rfl rfl) ?_ ?_
           ·rintro v24_16 _ ⟨_, ⟨S24_16, hl_v24_16, rfl⟩, rfl⟩
            refine T.ef rfl rfl rfl (wanted_none rfl) (Runs.does (r_build (pl := [(0, 1), (1, 1), (2, 1)]) (qs := [(0, [v22_16]), (1, [v24_16]), (2, [v25_17])]) (cs := [v22_16, v24_16, v25_17]) (by kernel_rfl) ti148 rfl (.cons (sl_cells hl_v22_16) rfl (Nat.le_of_ble_eq_true rfl) (.cons (sl_cells hl_v24_16) rfl (Nat.le_of_ble_eq_true rfl) (.cons (sl_cells hl_v25_17) rfl (Nat.le_of_ble_eq_true rfl) .nil))) rfl rfl)) (by rintro _ _ ⟨rfl, rfl⟩; exact upd rfl [4, 5] rfl rfl) ?_ ?_
            ·rintro _ _ ⟨rfl, rfl⟩
             refine T.nil ?_
             refine F.ef0 rfl rfl (wanted_none rfl) (d_storeG0 (i := 3) (cs2 := [v22_16, v24_16, v25_17]) ti148 rfl rfl rfl rfl rfl (Nat.le_of_ble_eq_true rfl) (lf_cons (sl_leaf hl_v22_16) (lf_cons (sl_leaf hl_v24_16) (lf_cons (sl_leaf hl_v25_17) lf_nil)))) ?_
             rintro _ _ ⟨rfl, rfl⟩
             refine F.nil ?_
             cases hE_1
             refine Nrm.only [1, 2, 4, 5, 6] rfl ?_
             refine Nrm.pick [4, 5, 3, 1, 0, 2] rfl rfl ?_
             exact hj_1 _ _ ⟨v22_16, S22_16, v24_16, S24_16, v25_17, S25_17, b6_24, hl_v22_16, hl_v24_16, hl_v25_17, rfl, rfl⟩
            exact T.stop
           exact T.stop
          ·refine T.ef rfl rfl rfl (wanted_none rfl) (Makes.does (m_callF (xs := _) rfl ok200 rfl rfl (fun w hw => spec_l10None.ok h24 w ))) (by rintro v24_17 _ ⟨_, ⟨S24_17, hl_v24_17, rfl⟩, rfl⟩; exact upd rfl [4, 5] rfl rfl) ?_ ?_
           ·rintro v24_17 _ ⟨_, ⟨S24_17, hl_v24_17, rfl⟩, rfl⟩
            refine T.ef rfl rfl rfl (wanted_none rfl) (d_build1 (cells := [v21_2]) (x0 := (List.replicate ((a0_0.length : Int)).toNat (0 : Int) : List Int)) (cs := [R.sl S21_2 v21_2 (List.replicate ((a0_0.length : Int)).toNat (0 : Int) : List (Int))]) (rest := [R.sl S24_17 v24_17 (t24 : List (Int)), R.sl S25_17 v25_17 (([] : List (List Int)) : List (List Int)), R.box b6_24 148 [.slice none 0 0, .slice none 0 0, .slice none 0 0], R.box b4_1 148 [.slice none 0 0, .slice none 0 0, .slice none 0 0], R.box b2_1 85 [va0_0, va0_1]]) [3] [0, 1, 2, 4, 5] Try.underlying83 ti25 rfl (sl_cells hl_v21_2) rfl (lf_cons (sl_leaf hl_v21_2) lf_nil) rfl rfl (jn_sl (S := S21_2) (v := v21_2) (l := (List.replicate ((a0_0.length : Int)).toNat (0 : Int) : List (Int))))) (by rintro v22_17 _ ⟨S22_17, hl_v22_17, rfl⟩; exact upd rfl [4, 5] rfl rfl) ?_ ?_
            ·rintro v22_17 _ ⟨S22_17, hl_v22_17, rfl⟩
             refine T.ef rfl rfl rfl (wanted_none rfl) (Runs.does (r_build (pl := [(0, 1), (1, 1), (2, 1)]) (qs := [(0, [v22_17]), (1, [v24_17]), (2, [v25_17])]) (cs := [v22_17, v24_17, v25_17]) (by kernel_rfl) ti148 rfl (.cons (sl_cells hl_v22_17) rfl (Nat.le_of_ble_eq_true rfl) (.cons (sl_cells hl_v24_17) rfl (Nat.le_of_ble_eq_true rfl) (.cons (sl_cells hl_v25_17) rfl (Nat.le_of_ble_eq_true rfl) .nil))) rfl rfl)) (by rintro _ _ ⟨rfl, rfl⟩; exact upd rfl [4, 5] rfl rfl) ?_ ?_
             ·rintro _ _ ⟨rfl, rfl⟩
              refine T.nil ?_
              refine F.ef0 rfl rfl (wanted_none rfl) (d_storeG0 (i := 3) (cs2 := [v22_17, v24_17, v25_17]) ti148 rfl rfl rfl rfl rfl (Nat.le_of_ble_eq_true rfl) (lf_cons (sl_leaf hl_v22_17) (lf_cons (sl_leaf hl_v24_17) (lf_cons (sl_leaf hl_v25_17) lf_nil)))) ?_
              rintro _ _ ⟨rfl, rfl⟩
              refine F.nil ?_
              cases hE_1
              refine Nrm.only [1, 2, 4, 5, 6] rfl ?_
              refine Nrm.pick [4, 5, 3, 0, 1, 2] rfl rfl ?_
              exact hj_1 _ _ ⟨v22_17, S22_17, v24_17, S24_17, v25_17, S25_17, b6_24, hl_v22_17, hl_v24_17, hl_v25_17, rfl, rfl⟩
             exact T.stop
            exact T.stop
           exact T.stop
         exact T.stop
      exact T.stop
  ·refine T.ef rfl rfl rfl (wanted_none rfl) (Makes.does (m_callF (xs := _) rfl ok200 rfl rfl (fun w hw => spec_l10None.ok h24 w ))) (by rintro v24_18 _ ⟨_, ⟨S24_18, hl_v24_18, rfl⟩, rfl⟩; exact upd rfl [1, 2] rfl rfl) ?_ ?_
   ·rintro v24_18 _ ⟨_, ⟨S24_18, hl_v24_18, rfl⟩, rfl⟩
    refine T.ef rfl rfl rfl (wanted_none rfl) (Makes.does (m_make (x0 := (0 : Int)) Try.underlying25 ti3 rfl rfl rfl hm21.1 hm21.2 (by decide))) (by rintro v21_3 _ ⟨S21_3, hl_v21_3, rfl⟩; exact upd rfl [2, 3] rfl rfl) ?_ ?_
    ·rintro v21_3 _ ⟨S21_3, hl_v21_3, rfl⟩
     refine T.ef rfl rfl rfl (wanted_none rfl) (d_build1 (cells := [v21_3]) (x0 := (List.replicate ((a0_0.length : Int)).toNat (0 : Int) : List Int)) (cs := [R.sl S21_3 v21_3 (List.replicate ((a0_0.length : Int)).toNat (0 : Int) : List (Int))]) (rest := [R.sl S24_18 v24_18 (t24 : List (Int)), R.box b4_1 148 [.slice none 0 0, .slice none 0 0, .slice none 0 0], R.box b2_1 85 [va0_0, va0_1]]) [0] [1, 2, 3] Try.underlying83 ti25 rfl (sl_cells hl_v21_3) rfl (lf_cons (sl_leaf hl_v21_3) lf_nil) rfl rfl (jn_sl (S := S21_3) (v := v21_3) (l := (List.replicate ((a0_0.length : Int)).toNat (0 : Int) : List (Int))))) (by rintro v22_18 _ ⟨S22_18, hl_v22_18, rfl⟩; exact upd rfl [2, 3] rfl rfl) ?_ ?_
     ·rintro v22_18 _ ⟨S22_18, hl_v22_18, rfl⟩
      refine T.ef rfl rfl rfl (wanted_none rfl) (Makes.does (m_build0 (α := List Int) Try.underlying83 ti25)) (by rintro v25_18 _ ⟨S25_18, hl_v25_18, rfl⟩; exact upd rfl [3, 4] rfl rfl) ?_ ?_
      ·rintro v25_18 _ ⟨S25_18, hl_v25_18, rfl⟩
       refine T.ef rfl rfl rfl (wanted_none rfl) (Runs.does (r_build (pl := [(0, 1), (1, 1), (2, 1)]) (qs := [(0, [v22_18]), (1, [v24_18]), (2, [v25_18])]) (cs := [v22_18, v24_18, v25_18]) (by kernel_rfl) ti148 rfl (.cons (sl_cells hl_v22_18) rfl (Nat.le_of_ble_eq_true rfl) (.cons (sl_cells hl_v24_18) rfl (Nat.le_of_ble_eq_true rfl) (.cons (sl_cells hl_v25_18) rfl (Nat.le_of_ble_eq_true rfl) .nil))) rfl rfl)) (by rintro _ _ ⟨rfl, rfl⟩; exact upd rfl [3, 4] rfl rfl) ?_ ?_
       ·rintro _ _ ⟨rfl, rfl⟩
        refine T.ef rfl rfl rfl (wanted_none rfl) (Makes.does (m_alloc ti148)) (by rintro _ _ ⟨b6_25, rfl, rfl⟩; exact upd rfl [4, 5] rfl rfl) ?_ ?_
        ·rintro _ _ ⟨b6_25, rfl, rfl⟩
         refine T.nil ?_
         refine F.ef0 rfl rfl (wanted_none rfl) (d_storeG0 (i := 0) (cs2 := [v22_18, v24_18, v25_18]) ti148 rfl rfl rfl rfl rfl (Nat.le_of_ble_eq_true rfl) (lf_cons (sl_leaf hl_v22_18) (lf_cons (sl_leaf hl_v24_18) (lf_cons (sl_leaf hl_v25_18) lf_nil)))) ?_
         rintro _ _ ⟨rfl, rfl⟩
         refine F.nil ?_
         cases hE_1
         refine Nrm.only [1, 2, 4, 5, 6] rfl ?_
         refine Nrm.pick [4, 5, 0, 2, 3, 1] rfl rfl ?_
         exact hj_1 _ _ ⟨v22_18, S22_18, v24_18, S24_18, v25_18, S25_18, b6_25, hl_v22_18, hl_v24_18, hl_v25_18, rfl, rfl⟩
        exact T.stop
       ·refine T.ef rfl rfl rfl (wanted_none rfl) (Makes.does (m_alloc ti148)) (by rintro _ _ ⟨b6_26, rfl, rfl⟩; exact upd rfl [4, 5] rfl rfl) ?_ ?_
        ·rintro _ _ ⟨b6_26, rfl, rfl⟩
         refine T.ef rfl rfl rfl (wanted_none rfl) (Runs.does (r_build (pl := [(0, 1), (1, 1), (2, 1)]) (qs := [(0, [v22_18]), (1, [v24_18]), (2, [v25_18])]) (cs := [v22_18, v24_18, v25_18]) (by kernel_rfl) ti148 rfl (.cons (sl_cells hl_v22_18) rfl (Nat.le_of_ble_eq_true rfl) (.cons (sl_cells hl_v24_18) rfl (Nat.le_of_ble_eq_true rfl) (.cons (sl_cells hl_v25_18) rfl (Nat.le_of_ble_eq_true rfl) .nil))) rfl rfl)) (by rintro _ _ ⟨rfl, rfl⟩; exact upd rfl [4, 5] rfl rfl) ?_ ?_
         ·rintro _ _ ⟨rfl, rfl⟩
          refine T.nil ?_
          refine F.ef0 rfl rfl (wanted_none rfl) (d_storeG0 (i := 0) (cs2 := [v22_18, v24_18, v25_18]) ti148 rfl rfl rfl rfl rfl (Nat.le_of_ble_eq_true rfl) (lf_cons (sl_leaf hl_v22_18) (lf_cons (sl_leaf hl_v24_18) (lf_cons (sl_leaf hl_v25_18) lf_nil)))) ?_
          rintro _ _ ⟨rfl, rfl⟩
          refine F.nil ?_
          cases hE_1
          refine Nrm.only [1, 2, 4, 5, 6] rfl ?_
          refine Nrm.pick [4, 5, 0, 2, 3, 1] rfl rfl ?_
          exact hj_1 _ _ ⟨v22_18, S22_18, v24_18, S24_18, v25_18, S25_18, b6_26, hl_v22_18, hl_v24_18, hl_v25_18, rfl, rfl⟩
         exact T.stop
        exact T.stop
      ·refine T.ef rfl rfl rfl (wanted_none rfl) (Makes.does (m_alloc ti148)) (by rintro _ _ ⟨b6_27, rfl, rfl⟩; exact upd rfl [3, 4] rfl rfl) ?_ ?_
       ·rintro _ _ ⟨b6_27, rfl, rfl⟩
        refine T.ef rfl rfl rfl (wanted_none rfl) (Makes.does (m_build0 (α := List Int) Try.underlying83 ti25)) (by rintro v25_19 _ ⟨S25_19, hl_v25_19, rfl⟩; exact upd rfl [4, 5] rfl rfl) ?_ ?_
        ·rintro v25_19 _ ⟨S25_19, hl_v25_19, rfl⟩
         refine T.ef rfl rfl rfl (wanted_none rfl) (Runs.does (r_build (pl := [(0, 1), (1, 1), (2, 1)]) (qs := [(0, [v22_18]), (1, [v24_18]), (2, [v25_19])]) (cs := [v22_18, v24_18, v25_19]) (by kernel_rfl) ti148 rfl (.cons (sl_cells hl_v22_18) rfl (Nat.le_of_ble_eq_true rfl) (.cons (sl_cells hl_v24_18) rfl (Nat.le_of_ble_eq_true rfl) (.cons (sl_cells hl_v25_19) rfl (Nat.le_of_ble_eq_true rfl) .nil))) rfl rfl)) (by rintro _ _ ⟨rfl, rfl⟩; exact upd rfl [4, 5] rfl rfl) ?_ ?_
         ·rintro _ _ ⟨rfl, rfl⟩
          refine T.nil ?_
          refine F.ef0 rfl rfl (wanted_none rfl) (d_storeG0 (i := 1) (cs2 := [v22_18, v24_18, v25_19]) ti148 rfl rfl rfl rfl rfl (Nat.le_of_ble_eq_true rfl) (lf_cons (sl_leaf hl_v22_18) (lf_cons (sl_leaf hl_v24_18) (lf_cons (sl_leaf hl_v25_19) lf_nil)))) ?_
          rintro _ _ ⟨rfl, rfl⟩
          refine F.nil ?_
          cases hE_1
          refine Nrm.only [1, 2, 4, 5, 6] rfl ?_
          refine Nrm.pick [4, 5, 1, 2, 3, 0] rfl rfl ?_
          exact hj_1 _ _ ⟨v22_18, S22_18, v24_18, S24_18, v25_19, S25_19, b6_27, hl_v22_18, hl_v24_18, hl_v25_19, rfl, rfl⟩
         exact T.stop
        exact T.stop
       exact T.stop
     ·refine T.ef rfl rfl rfl (wanted_none rfl) (Makes.does (m_build0 (α := List Int) Try.underlying83 ti25)) (by rintro v25_20 _ ⟨S25_20, hl_v25_20, rfl⟩; exact upd rfl [3, 4] rfl rfl) ?_ ?_
      ·rintro v25_20 _ ⟨S25_20, hl_v25_20, rfl⟩
       refine T.ef rfl rfl rfl (wanted_none rfl) (d_build1 (cells := [v21_3]) (x0 := (List.replicate ((a0_0.length : Int)).toNat (0 : Int) : List Int)) (cs := [R.sl S21_3 v21_3 (List.replicate ((a0_0.length : Int)).toNat (0 : Int) : List (Int))]) (rest := [R.sl S25_20 v25_20 (([] : List (List Int)) : List (List Int)), R.sl S24_18 v24_18 (t24 : List (Int)), R.box b4_1 148 [.slice none 0 0, .slice none 0 0, .slice none 0 0], R.box b2_1 85 [va0_0, va0_1]]) [1] [0, 2, 3, 4] Try.underlying83 ti25 rfl (sl_cells hl_v21_3) rfl (lf_cons (sl_leaf hl_v21_3) lf_nil) rfl rfl (jn_sl (S := S21_3) (v := v21_3) (l := (List.replicate ((a0_0.length : Int)).toNat (0 : Int) : List (Int))))) (by rintro v22_19 _ ⟨S22_19, hl_v22_19, rfl⟩; exact upd rfl [3, 4] rfl rfl) ?_ ?_
       ·rintro v22_19 _ ⟨S22_19, hl_v22_19, rfl⟩
        refine T.ef rfl rfl rfl (wanted_none rfl) (Runs.does (r_build (pl := [(0, 1), (1, 1), (2, 1)]) (qs := [(0, [v22_19]), (1, [v24_18]), (2, [v25_20])]) (cs := [v22_19, v24_18, v25_20]) (by kernel_rfl) ti148 rfl (.cons (sl_cells hl_v22_19) rfl (Nat.le_of_ble_eq_true rfl) (.cons (sl_cells hl_v24_18) rfl (Nat.le_of_ble_eq_true rfl) (.cons (sl_cells hl_v25_20) rfl (Nat.le_of_ble_eq_true rfl) .nil))) rfl rfl)) (by rintro _ _ ⟨rfl, rfl⟩; exact upd rfl [3, 4] rfl rfl) ?_ ?_
        ·rintro _ _ ⟨rfl, rfl⟩
         refine T.ef rfl rfl rfl (wanted_none rfl) (Makes.does (m_alloc ti148)) (by rintro _ _ ⟨b6_28, rfl, rfl⟩; exact upd rfl [4, 5] rfl rfl) ?_ ?_
         ·rintro _ _ ⟨b6_28, rfl, rfl⟩
          refine T.nil ?_
          refine F.ef0 rfl rfl (wanted_none rfl) (d_storeG0 (i := 0) (cs2 := [v22_19, v24_18, v25_20]) ti148 rfl rfl rfl rfl rfl (Nat.le_of_ble_eq_true rfl) (lf_cons (sl_leaf hl_v22_19) (lf_cons (sl_leaf hl_v24_18) (lf_cons (sl_leaf hl_v25_20) lf_nil)))) ?_
          rintro _ _ ⟨rfl, rfl⟩
          refine F.nil ?_
          cases hE_1
          refine Nrm.only [1, 2, 4, 5, 6] rfl ?_
          refine Nrm.pick [4, 5, 0, 1, 3, 2] rfl rfl ?_
          exact hj_1 _ _ ⟨v22_19, S22_19, v24_18, S24_18, v25_20, S25_20, b6_28, hl_v22_19, hl_v24_18, hl_v25_20, rfl, rfl⟩
         exact T.stop
        ·refine T.ef rfl rfl rfl (wanted_none rfl) (Makes.does (m_alloc ti148)) (by rintro _ _ ⟨b6_29, rfl, rfl⟩; exact upd rfl [4, 5] rfl rfl) ?_ ?_
         ·rintro _ _ ⟨b6_29, rfl, rfl⟩
          refine T.ef rfl rfl rfl (wanted_none rfl) (Runs.does (r_build (pl := [(0, 1), (1, 1), (2, 1)]) (qs := [(0, [v22_19]), (1, [v24_18]), (2, [v25_20])]) (cs := [v22_19, v24_18, v25_20]) (by kernel_rfl) ti148 rfl (.cons (sl_cells hl_v22_19) rfl (Nat.le_of_ble_eq_true rfl) (.cons (sl_cells hl_v24_18) rfl (Nat.le_of_ble_eq_true rfl) (.cons (sl_cells hl_v25_20) rfl (Nat.le_of_ble_eq_true rfl) .nil))) rfl rfl)) (by rintro _ _ ⟨rfl, rfl⟩; exact upd rfl [4, 5] rfl rfl) ?_ ?_
          ·rintro _ _ ⟨rfl, rfl⟩
           refine T.nil ?_
           refine F.ef0 rfl rfl (wanted_none rfl) (d_storeG0 (i := 0) (cs2 := [v22_19, v24_18, v25_20]) ti148 rfl rfl rfl rfl rfl (Nat.le_of_ble_eq_true rfl) (lf_cons (sl_leaf hl_v22_19) (lf_cons (sl_leaf hl_v24_18) (lf_cons (sl_leaf hl_v25_20) lf_nil)))) ?_
           rintro _ _ ⟨rfl, rfl⟩
           refine F.nil ?_
           cases hE_1
           refine Nrm.only [1, 2, 4, 5, 6] rfl ?_
           refine Nrm.pick [4, 5, 0, 1, 3, 2] rfl rfl ?_
           exact hj_1 _ _ ⟨v22_19, S22_19, v24_18, S24_18, v25_20, S25_20, b6_29, hl_v22_19, hl_v24_18, hl_v25_20, rfl, rfl⟩
          exact T.stop
         exact T.stop
       ·refine T.ef rfl rfl rfl (wanted_none rfl) (Makes.does (m_alloc ti148)) (by rintro _ _ ⟨b6_30, rfl, rfl⟩; exact upd rfl [4, 5] rfl rfl) ?_ ?_
        ·rintro _ _ ⟨b6_30, rfl, rfl⟩
         refine T.ef rfl rfl rfl (wanted_none rfl) (d_build1 (cells := [v21_3]) (x0 := (List.replicate ((a0_0.length : Int)).toNat (0 : Int) : List Int)) (cs := [R.sl S21_3 v21_3 (List.replicate ((a0_0.length : Int)).toNat (0 : Int) : List (Int))]) (rest := [R.box b6_30 148 [.slice none 0 0, .slice none 0 0, .slice none 0 0], R.sl S25_20 v25_20 (([] : List (List Int)) : List (List Int)), R.sl S24_18 v24_18 (t24 : List (Int)), R.box b4_1 148 [.slice none 0 0, .slice none 0 0, .slice none 0 0], R.box b2_1 85 [va0_0, va0_1]]) [2] [0, 1, 3, 4, 5] Try.underlying83 ti25 rfl (sl_cells hl_v21_3) rfl (lf_cons (sl_leaf hl_v21_3) lf_nil) rfl rfl (jn_sl (S := S21_3) (v := v21_3) (l := (List.replicate ((a0_0.length : Int)).toNat (0 : Int) : List (Int))))) (by rintro v22_20 _ ⟨S22_20, hl_v22_20, rfl⟩; exact upd rfl [4, 5] rfl rfl) ?_ ?_
         ·rintro v22_20 _ ⟨S22_20, hl_v22_20, rfl⟩
          refine T.ef rfl rfl rfl (wanted_none rfl) (Runs.does (r_build (pl := [(0, 1), (1, 1), (2, 1)]) (qs := [(0, [v22_20]), (1, [v24_18]), (2, [v25_20])]) (cs := [v22_20, v24_18, v25_20]) (by kernel_rfl) ti148 rfl (.cons (sl_cells hl_v22_20) rfl (Nat.le_of_ble_eq_true rfl) (.cons (sl_cells hl_v24_18) rfl (Nat.le_of_ble_eq_true rfl) (.cons (sl_cells hl_v25_20) rfl (Nat.le_of_ble_eq_true rfl) .nil))) rfl rfl)) (by rintro _ _ ⟨rfl, rfl⟩; exact upd rfl [4, 5] rfl rfl) ?_ ?_
          ·rintro _ _ ⟨rfl, rfl⟩
           refine T.nil ?_
           refine F.ef0 rfl rfl (wanted_none rfl) (d_storeG0 (i := 1) (cs2 := [v22_20, v24_18, v25_20]) ti148 rfl rfl rfl rfl rfl (Nat.le_of_ble_eq_true rfl) (lf_cons (sl_leaf hl_v22_20) (lf_cons (sl_leaf hl_v24_18) (lf_cons (sl_leaf hl_v25_20) lf_nil)))) ?_
           rintro _ _ ⟨rfl, rfl⟩
           refine F.nil ?_
           cases hE_1
           refine Nrm.only [1, 2, 4, 5, 6] rfl ?_
           refine Nrm.pick [4, 5, 1, 0, 3, 2] rfl rfl ?_
           exact hj_1 _ _ ⟨v22_20, S22_20, v24_18, S24_18, v25_20, S25_20, b6_30, hl_v22_20, hl_v24_18, hl_v25_20, rfl, rfl⟩
          exact T.stop
         exact T.stop
        exact T.stop
      ·refine T.ef rfl rfl rfl (wanted_none rfl) (Makes.does (m_alloc ti148)) (by rintro _ _ ⟨b6_31, rfl, rfl⟩; exact upd rfl [3, 4] rfl rfl) ?_ ?_
       ·rintro _ _ ⟨b6_31, rfl, rfl⟩
        refine T.ef rfl rfl rfl (wanted_none rfl) (d_build1 (cells := [v21_3]) (x0 := (List.replicate ((a0_0.length : Int)).toNat (0 : Int) : List Int)) (cs := [R.sl S21_3 v21_3 (List.replicate ((a0_0.length : Int)).toNat (0 : Int) : List (Int))]) (rest := [R.box b6_31 148 [.slice none 0 0, .slice none 0 0, .slice none 0 0], R.sl S24_18 v24_18 (t24 : List (Int)), R.box b4_1 148 [.slice none 0 0, .slice none 0 0, .slice none 0 0], R.box b2_1 85 [va0_0, va0_1]]) [1] [0, 2, 3, 4] Try.underlying83 ti25 rfl (sl_cells hl_v21_3) rfl (lf_cons (sl_leaf hl_v21_3) lf_nil) rfl rfl (jn_sl (S := S21_3) (v := v21_3) (l := (List.replicate ((a0_0.length : Int)).toNat (0 : Int) : List (Int))))) (by rintro v22_21 _ ⟨S22_21, hl_v22_21, rfl⟩; exact upd rfl [3, 4] rfl rfl) ?_ ?_
        ·rintro v22_21 _ ⟨S22_21, hl_v22_21, rfl⟩
         refine T.ef rfl rfl rfl (wanted_none rfl) (Makes.does (m_build0 (α := List Int) Try.underlying83 ti25)) (by rintro v25_21 _ ⟨S25_21, hl_v25_21, rfl⟩; exact upd rfl [4, 5] rfl rfl) ?_ ?_
         ·rintro v25_21 _ ⟨S25_21, hl_v25_21, rfl⟩
          refine T.ef rfl rfl rfl (wanted_none rfl) (Runs.does (r_build (pl := [(0, 1), (1, 1), (2, 1)]) (qs := [(0, [v22_21]), (1, [v24_18]), (2, [v25_21])]) (cs := [v22_21, v24_18, v25_21]) (by kernel_rfl) ti148 rfl (.cons (sl_cells hl_v22_21) rfl (Nat.le_of_ble_eq_true rfl) (.cons (sl_cells hl_v24_18) rfl (Nat.le_of_ble_eq_true rfl) (.cons (sl_cells hl_v25_21) rfl (Nat.le_of_ble_eq_true rfl) .nil))) rfl rfl)) (by rintro _ _ ⟨rfl, rfl⟩; exact upd rfl [4, 5] rfl rfl) ?_ ?_
          ·rintro _ _ ⟨rfl, rfl⟩
           refine T.nil ?_
           refine F.ef0 rfl rfl (wanted_none rfl) (d_storeG0 (i := 2) (cs2 := [v22_21, v24_18, v25_21]) ti148 rfl rfl rfl rfl rfl (Nat.le_of_ble_eq_true rfl) (lf_cons (sl_leaf hl_v22_21) (lf_cons (sl_leaf hl_v24_18) (lf_cons (sl_leaf hl_v25_21) lf_nil)))) ?_
           rintro _ _ ⟨rfl, rfl⟩
           refine F.nil ?_
           cases hE_1
           refine Nrm.only [1, 2, 4, 5, 6] rfl ?_
           refine Nrm.pick [4, 5, 2, 1, 3, 0] rfl rfl ?_
           exact hj_1 _ _ ⟨v22_21, S22_21, v24_18, S24_18, v25_21, S25_21, b6_31, hl_v22_21, hl_v24_18, hl_v25_21, rfl, rfl⟩
          exact T.stop
         exact T.stop
        ·refine T.ef rfl rfl rfl (wanted_none rfl) (Makes.does (m_build0 (α := List Int) Try.underlying83 ti25)) (by rintro v25_22 _ ⟨S25_22, hl_v25_22, rfl⟩; exact upd rfl [4, 5] rfl rfl) ?_ ?_
         ·rintro v25_22 _ ⟨S25_22, hl_v25_22, rfl⟩
          refine T.ef rfl rfl rfl (wanted_none rfl) (d_build1 (cells := [v21_3]) (x0 := (List.replicate ((a0_0.length : Int)).toNat (0 : Int) : List Int)) (cs := [R.sl S21_3 v21_3 (List.replicate ((a0_0.length : Int)).toNat (0 : Int) : List (Int))]) (rest := [R.sl S25_22 v25_22 (([] : List (List Int)) : List (List Int)), R.box b6_31 148 [.slice none 0 0, .slice none 0 0, .slice none 0 0], R.sl S24_18 v24_18 (t24 : List (Int)), R.box b4_1 148 [.slice none 0 0, .slice none 0 0, .slice none 0 0], R.box b2_1 85 [va0_0, va0_1]]) [2] [0, 1, 3, 4, 5] Try.underlying83 ti25 rfl (sl_cells hl_v21_3) rfl (lf_cons (sl_leaf hl_v21_3) lf_nil) rfl rfl (jn_sl (S := S21_3) (v := v21_3) (l := (List.replicate ((a0_0.length : Int)).toNat (0 : Int) : List (Int))))) (by rintro v22_22 _ ⟨S22_22, hl_v22_22, rfl⟩; exact upd rfl [4, 5] rfl rfl) ?_ ?_
          ·rintro v22_22 _ ⟨S22_22, hl_v22_22, rfl⟩
           refine T.ef rfl rfl rfl (wanted_none rfl) (Runs.does (r_build (pl := [(0, 1), (1, 1), (2, 1)]) (qs := [(0, [v22_22]), (1, [v24_18]), (2, [v25_22])]) (cs := [v22_22, v24_18, v25_22]) (by kernel_rfl) ti148 rfl (.cons (sl_cells hl_v22_22) rfl (Nat.le_of_ble_eq_true rfl) (.cons (sl_cells hl_v24_18) rfl (Nat.le_of_ble_eq_true rfl) (.cons (sl_cells hl_v25_22) rfl (Nat.le_of_ble_eq_true rfl) .nil))) rfl rfl)) (by rintro _ _ ⟨rfl, rfl⟩; exact upd rfl [4, 5] rfl rfl) ?_ ?_
           ·rintro _ _ ⟨rfl, rfl⟩
            refine T.nil ?_
            refine F.ef0 rfl rfl (wanted_none rfl) (d_storeG0 (i := 2) (cs2 := [v22_22, v24_18, v25_22]) ti148 rfl rfl rfl rfl rfl (Nat.le_of_ble_eq_true rfl) (lf_cons (sl_leaf hl_v22_22) (lf_cons (sl_leaf hl_v24_18) (lf_cons (sl_leaf hl_v25_22) lf_nil)))) ?_
            rintro _ _ ⟨rfl, rfl⟩
            refine F.nil ?_
            cases hE_1
            refine Nrm.only [1, 2, 4, 5, 6] rfl ?_
            refine Nrm.pick [4, 5, 2, 0, 3, 1] rfl rfl ?_
            exact hj_1 _ _ ⟨v22_22, S22_22, v24_18, S24_18, v25_22, S25_22, b6_31, hl_v22_22, hl_v24_18, hl_v25_22, rfl, rfl⟩
           exact T.stop
          exact T.stop
         exact T.stop
       exact T.stop
    ·refine T.ef rfl rfl rfl (wanted_none rfl) (Makes.does (m_build0 (α := List Int) Try.underlying83 ti25)) (by rintro v25_23 _ ⟨S25_23, hl_v25_23, rfl⟩; exact upd rfl [2, 3] rfl rfl) ?_ ?_
     ·rintro v25_23 _ ⟨S25_23, hl_v25_23, rfl⟩
      refine T.ef rfl rfl rfl (wanted_none rfl) (Makes.does (m_make (x0 := (0 : Int)) Try.underlying25 ti3 rfl rfl rfl hm21.1 hm21.2 (by decide))) (by rintro v21_4 _ ⟨S21_4, hl_v21_4, rfl⟩; exact upd rfl [3, 4] rfl rfl) ?_ ?_
      ·rintro v21_4 _ ⟨S21_4, hl_v21_4, rfl⟩
       refine T.ef rfl rfl rfl (wanted_none rfl) (d_build1 (cells := [v21_4]) (x0 := (List.replicate ((a0_0.length : Int)).toNat (0 : Int) : List Int)) (cs := [R.sl S21_4 v21_4 (List.replicate ((a0_0.length : Int)).toNat (0 : Int) : List (Int))]) (rest := [R.sl S25_23 v25_23 (([] : List (List Int)) : List (List Int)), R.sl S24_18 v24_18 (t24 : List (Int)), R.box b4_1 148 [.slice none 0 0, .slice none 0 0, .slice none 0 0], R.box b2_1 85 [va0_0, va0_1]]) [0] [1, 2, 3, 4] Try.underlying83 ti25 rfl (sl_cells hl_v21_4) rfl (lf_cons (sl_leaf hl_v21_4) lf_nil) rfl rfl (jn_sl (S := S21_4) (v := v21_4) (l := (List.replicate ((a0_0.length : Int)).toNat (0 : Int) : List (Int))))) (by rintro v22_23 _ ⟨S22_23, hl_v22_23, rfl⟩; exact upd rfl [3, 4] rfl rfl) ?_ ?_
       ·rintro v22_23 _ ⟨S22_23, hl_v22_23, rfl⟩
        refine T.ef rfl rfl rfl (wanted_none rfl) (Runs.does (r_build (pl := [(0, 1), (1, 1), (2, 1)]) (qs := [(0, [v22_23]), (1, [v24_18]), (2, [v25_23])]) (cs := [v22_23, v24_18, v25_23]) (by kernel_rfl) ti148 rfl (.cons (sl_cells hl_v22_23) rfl (Nat.le_of_ble_eq_true rfl) (.cons (sl_cells hl_v24_18) rfl (Nat.le_of_ble_eq_true rfl) (.cons (sl_cells hl_v25_23) rfl (Nat.le_of_ble_eq_true rfl) .nil))) rfl rfl)) (by rintro _ _ ⟨rfl, rfl⟩; exact upd rfl [3, 4] rfl rfl) ?_ ?_
        ·rintro _ _ ⟨rfl, rfl⟩
         refine T.ef rfl rfl rfl (wanted_none rfl) (Makes.does (m_alloc ti148)) (by rintro _ _ ⟨b6_32, rfl, rfl⟩; exact upd rfl [4, 5] rfl rfl) ?_ ?_
         ·rintro _ _ ⟨b6_32, rfl, rfl⟩
          refine T.nil ?_
          refine F.ef0 rfl rfl (wanted_none rfl) (d_storeG0 (i := 0) (cs2 := [v22_23, v24_18, v25_23]) ti148 rfl rfl rfl rfl rfl (Nat.le_of_ble_eq_true rfl) (lf_cons (sl_leaf hl_v22_23) (lf_cons (sl_leaf hl_v24_18) (lf_cons (sl_leaf hl_v25_23) lf_nil)))) ?_
          rintro _ _ ⟨rfl, rfl⟩
          refine F.nil ?_
          cases hE_1
          refine Nrm.only [1, 2, 4, 5, 6] rfl ?_
          refine Nrm.pick [4, 5, 0, 1, 3, 2] rfl rfl ?_
          exact hj_1 _ _ ⟨v22_23, S22_23, v24_18, S24_18, v25_23, S25_23, b6_32, hl_v22_23, hl_v24_18, hl_v25_23, rfl, rfl⟩
         exact T.stop
        ·refine T.ef rfl rfl rfl (wanted_none rfl) (Makes.does (m_alloc ti148)) (by rintro _ _ ⟨b6_33, rfl, rfl⟩; exact upd rfl [4, 5] rfl rfl) ?_ ?_
         ·rintro _ _ ⟨b6_33, rfl, rfl⟩
          refine T.ef rfl rfl rfl (wanted_none rfl) (Runs.does (r_build (pl := [(0, 1), (1, 1), (2, 1)]) (qs := [(0, [v22_23]), (1, [v24_18]), (2, [v25_23])]) (cs := [v22_23, v24_18, v25_23]) (by kernel_rfl) ti148 rfl (.cons (sl_cells hl_v22_23) rfl (Nat.le_of_ble_eq_true rfl) (.cons (sl_cells hl_v24_18) rfl (Nat.le_of_ble_eq_true rfl) (.cons (sl_cells hl_v25_23) rfl (Nat.le_of_ble_eq_true rfl) .nil))) rfl rfl)) (by rintro _ _ ⟨rfl, rfl⟩; exact upd rfl [4, 5] rfl rfl) ?_ ?_
          ·rintro _ _ ⟨rfl, rfl⟩
           refine T.nil ?_
           refine F.ef0 rfl rfl (wanted_none rfl) (d_storeG0 (i := 0) (cs2 := [v22_23, v24_18, v25_23]) ti148 rfl rfl rfl rfl rfl (Nat.le_of_ble_eq_true rfl) (lf_cons (sl_leaf hl_v22_23) (lf_cons (sl_leaf hl_v24_18) (lf_cons (sl_leaf hl_v25_23) lf_nil)))) ?_
           rintro _ _ ⟨rfl, rfl⟩
           refine F.nil ?_
           cases hE_1
           refine Nrm.only [1, 2, 4, 5, 6] rfl ?_
           refine Nrm.pick [4, 5, 0, 1, 3, 2] rfl rfl ?_
           exact hj_1 _ _ ⟨v22_23, S22_23, v24_18, S24_18, v25_23, S25_23, b6_33, hl_v22_23, hl_v24_18, hl_v25_23, rfl, rfl⟩
          exact T.stop
         exact T.stop
       ·refine T.ef rfl rfl rfl (wanted_none rfl) (Makes.does (m_alloc ti148)) (by rintro _ _ ⟨b6_34, rfl, rfl⟩; exact upd rfl [4, 5] rfl rfl) ?_ ?_
        ·rintro _ _ ⟨b6_34, rfl, rfl⟩
         refine T.ef rfl rfl rfl (wanted_none rfl) (d_build1 (cells := [v21_4]) (x0 := (List.replicate ((a0_0.length : Int)).toNat (0 : Int) : List Int)) (cs := [R.sl S21_4 v21_4 (List.replicate ((a0_0.length : Int)).toNat (0 : Int) : List (Int))]) (rest := [R.box b6_34 148 [.slice none 0 0, .slice none 0 0, .slice none 0 0], R.sl S25_23 v25_23 (([] : List (List Int)) : List (List Int)), R.sl S24_18 v24_18 (t24 : List (Int)), R.box b4_1 148 [.slice none 0 0, .slice none 0 0, .slice none 0 0], R.box b2_1 85 [va0_0, va0_1]]) [1] [0, 2, 3, 4, 5] Try.underlying83 ti25 rfl (sl_cells hl_v21_4) rfl (lf_cons (sl_leaf hl_v21_4) lf_nil) rfl rfl (jn_sl (S := S21_4) (v := v21_4) (l := (List.replicate ((a0_0.length : Int)).toNat (0 : Int) : List (Int))))) (by rintro v22_24 _ ⟨S22_24, hl_v22_24, rfl⟩; exact upd rfl [4, 5] rfl rfl) ?_ ?_
         ·rintro v22_24 _ ⟨S22_24, hl_v22_24, rfl⟩
          refine T.ef rfl rfl rfl (wanted_none rfl) (Runs.does (r_build (pl := [(0, 1), (1, 1), (2, 1)]) (qs := [(0, [v22_24]), (1, [v24_18]), (2, [v25_23])]) (cs := [v22_24, v24_18, v25_23]) (by kernel_rfl) ti148 rfl (.cons (sl_cells hl_v22_24) rfl (Nat.le_of_ble_eq_true rfl) (.cons (sl_cells hl_v24_18) rfl (Nat.le_of_ble_eq_true rfl) (.cons (sl_cells hl_v25_23) rfl (Nat.le_of_ble_eq_true rfl) .nil))) rfl rfl)) (by rintro _ _ ⟨rfl, rfl⟩; exact upd rfl [4, 5] rfl rfl) ?_ ?_
          ·rintro _ _ ⟨rfl, rfl⟩
           refine T.nil ?_
           refine F.ef0 rfl rfl (wanted_none rfl) (d_storeG0 (i := 1) (cs2 := [v22_24, v24_18, v25_23]) ti148 rfl rfl rfl rfl rfl (Nat.le_of_ble_eq_true rfl) (lf_cons (sl_leaf hl_v22_24) (lf_cons (sl_leaf hl_v24_18) (lf_cons (sl_leaf hl_v25_23) lf_nil)))) ?_
           rintro _ _ ⟨rfl, rfl⟩
           refine F.nil ?_
           cases hE_1
           refine Nrm.only [1, 2, 4, 5, 6] rfl ?_
           refine Nrm.pick [4, 5, 1, 0, 3, 2] rfl rfl ?_
           exact hj_1 _ _ ⟨v22_24, S22_24, v24_18, S24_18, v25_23, S25_23, b6_34, hl_v22_24, hl_v24_18, hl_v25_23, rfl, rfl⟩
          exact T.stop
         exact T.stop
        exact T.stop
      ·refine T.ef rfl rfl rfl (wanted_none rfl) (Makes.does (m_alloc ti148)) (by rintro _ _ ⟨b6_35, rfl, rfl⟩; exact upd rfl [3, 4] rfl rfl) ?_ ?_
       ·rintro _ _ ⟨b6_35, rfl, rfl⟩
        refine T.ef rfl rfl rfl (wanted_none rfl) (Makes.does (m_make (x0 := (0 : Int)) Try.underlying25 ti3 rfl rfl rfl hm21.1 hm21.2 (by decide))) (by rintro v21_5 _ ⟨S21_5, hl_v21_5, rfl⟩; exact upd rfl [4, 5] rfl rfl) ?_ ?_
        ·rintro v21_5 _ ⟨S21_5, hl_v21_5, rfl⟩
         refine T.ef rfl rfl rfl (wanted_none rfl) (d_build1 (cells := [v21_5]) (x0 := (List.replicate ((a0_0.length : Int)).toNat (0 : Int) : List Int)) (cs := [R.sl S21_5 v21_5 (List.replicate ((a0_0.length : Int)).toNat (0 : Int) : List (Int))]) (rest := [R.box b6_35 148 [.slice none 0 0, .slice none 0 0, .slice none 0 0], R.sl S25_23 v25_23 (([] : List (List Int)) : List (List Int)), R.sl S24_18 v24_18 (t24 : List (Int)), R.box b4_1 148 [.slice none 0 0, .slice none 0 0, .slice none 0 0], R.box b2_1 85 [va0_0, va0_1]]) [0] [1, 2, 3, 4, 5] Try.underlying83 ti25 rfl (sl_cells hl_v21_5) rfl (lf_cons (sl_leaf hl_v21_5) lf_nil) rfl rfl (jn_sl (S := S21_5) (v := v21_5) (l := (List.replicate ((a0_0.length : Int)).toNat (0 : Int) : List (Int))))) (by rintro v22_25 _ ⟨S22_25, hl_v22_25, rfl⟩; exact upd rfl [4, 5] rfl rfl) ?_ ?_
         ·rintro v22_25 _ ⟨S22_25, hl_v22_25, rfl⟩
          refine T.ef rfl rfl rfl (wanted_none rfl) (Runs.does (r_build (pl := [(0, 1), (1, 1), (2, 1)]) (qs := [(0, [v22_25]), (1, [v24_18]), (2, [v25_23])]) (cs := [v22_25, v24_18, v25_23]) (by kernel_rfl) ti148 rfl (.cons (sl_cells hl_v22_25) rfl (Nat.le_of_ble_eq_true rfl) (.cons (sl_cells hl_v24_18) rfl (Nat.le_of_ble_eq_true rfl) (.cons (sl_cells hl_v25_23) rfl (Nat.le_of_ble_eq_true rfl) .nil))) rfl rfl)) (by rintro _ _ ⟨rfl, rfl⟩; exact upd rfl [4, 5] rfl rfl) ?_ ?_
          ·rintro _ _ ⟨rfl, rfl⟩
           refine T.nil ?_
           refine F.ef0 rfl rfl (wanted_none rfl) (d_storeG0 (i := 1) (cs2 := [v22_25, v24_18, v25_23]) ti148 rfl rfl rfl rfl rfl (Nat.le_of_ble_eq_true rfl) (lf_cons (sl_leaf hl_v22_25) (lf_cons (sl_leaf hl_v24_18) (lf_cons (sl_leaf hl_v25_23) lf_nil)))) ?_
           rintro _ _ ⟨rfl, rfl⟩
           refine F.nil ?_
           cases hE_1
           refine Nrm.only [1, 2, 4, 5, 6] rfl ?_
           refine Nrm.pick [4, 5, 1, 0, 3, 2] rfl rfl ?_
           exact hj_1 _ _ ⟨v22_25, S22_25, v24_18, S24_18, v25_23, S25_23, b6_35, hl_v22_25, hl_v24_18, hl_v25_23, rfl, rfl⟩
          exact T.stop
         exact T.stop
        exact T.stop
       exact T.stop
     ·refine T.ef rfl rfl rfl (wanted_none rfl) (Makes.does (m_alloc ti148)) (by rintro _ _ ⟨b6_36, rfl, rfl⟩; exact upd rfl [2, 3] rfl rfl) ?_ ?_
      ·rintro _ _ ⟨b6_36, rfl, rfl⟩
       refine T.ef rfl rfl rfl (wanted_none rfl) (Makes.does (m_make (x0 := (0 : Int)) Try.underlying25 ti3 rfl rfl rfl hm21.1 hm21.2 (by decide))) (by rintro v21_6 _ ⟨S21_6, hl_v21_6, rfl⟩; exact upd rfl [3, 4] rfl rfl) ?_ ?_
       ·rintro v21_6 _ ⟨S21_6, hl_v21_6, rfl⟩
        refine T.ef rfl rfl rfl (wanted_none rfl) (d_build1 (cells := [v21_6]) (x0 := (List.replicate ((a0_0.length : Int)).toNat (0 : Int) : List Int)) (cs := [R.sl S21_6 v21_6 (List.replicate ((a0_0.length : Int)).toNat (0 : Int) : List (Int))]) (rest := [R.box b6_36 148 [.slice none 0 0, .slice none 0 0, .slice none 0 0], R.sl S24_18 v24_18 (t24 : List (Int)), R.box b4_1 148 [.slice none 0 0, .slice none 0 0, .slice none 0 0], R.box b2_1 85 [va0_0, va0_1]]) [0] [1, 2, 3, 4] Try.underlying83 ti25 rfl (sl_cells hl_v21_6) rfl (lf_cons (sl_leaf hl_v21_6) lf_nil) rfl rfl (jn_sl (S := S21_6) (v := v21_6) (l := (List.replicate ((a0_0.length : Int)).toNat (0 : Int) : List (Int))))) (by rintro v22_26 _ ⟨S22_26, hl_v22_26, rfl⟩; exact upd rfl [3, 4] rfl rfl) ?_ ?_
        ·rintro v22_26 _ ⟨S22_26, hl_v22_26, rfl⟩
         refine T.ef rfl rfl rfl (wanted_none rfl) (Makes.does (m_build0 (α := List Int) Try.underlying83 ti25)) (by rintro v25_24 _ ⟨S25_24, hl_v25_24, rfl⟩; exact upd rfl [4, 5] rfl rfl) ?_ ?_
         ·rintro v25_24 _ ⟨S25_24, hl_v25_24, rfl⟩
          refine T.ef rfl rfl rfl (wanted_none rfl) (Runs.does (r_build (pl := [(0, 1), (1, 1), (2, 1)]) (qs := [(0, [v22_26]), (1, [v24_18]), (2, [v25_24])]) (cs := [v22_26, v24_18, v25_24]) (by kernel_rfl) ti148 rfl (.cons (sl_cells hl_v22_26) rfl (Nat.le_of_ble_eq_true rfl) (.cons (sl_cells hl_v24_18) rfl (Nat.le_of_ble_eq_true rfl) (.cons (sl_cells hl_v25_24) rfl (Nat.le_of_ble_eq_true rfl) .nil))) rfl rfl)) (by rintro _ _ ⟨rfl, rfl⟩; exact upd rfl [4, 5] rfl rfl) ?_ ?_
          ·rintro _ _ ⟨rfl, rfl⟩
           refine T.nil ?_
           refine F.ef0 rfl rfl (wanted_none rfl) (d_storeG0 (i := 2) (cs2 := [v22_26, v24_18, v25_24]) ti148 rfl rfl rfl rfl rfl (Nat.le_of_ble_eq_true rfl) (lf_cons (sl_leaf hl_v22_26) (lf_cons (sl_leaf hl_v24_18) (lf_cons (sl_leaf hl_v25_24) lf_nil)))) ?_
           rintro _ _ ⟨rfl, rfl⟩
           refine F.nil ?_
           cases hE_1
           refine Nrm.only [1, 2, 4, 5, 6] rfl ?_
           refine Nrm.pick [4, 5, 2, 1, 3, 0] rfl rfl ?_
           exact hj_1 _ _ ⟨v22_26, S22_26, v24_18, S24_18, v25_24, S25_24, b6_36, hl_v22_26, hl_v24_18, hl_v25_24, rfl, rfl⟩
          exact T.stop
         exact T.stop
        ·refine T.ef rfl rfl rfl (wanted_none rfl) (Makes.does (m_build0 (α := List Int) Try.underlying83 ti25)) (by rintro v25_25 _ ⟨S25_25, hl_v25_25, rfl⟩; exact upd rfl [4, 5] rfl rfl) ?_ ?_
         ·rintro v25_25 _ ⟨S25_25, hl_v25_25, rfl⟩
          refine T.ef rfl rfl rfl (wanted_none rfl) (d_build1 (cells := [v21_6]) (x0 := (List.replicate ((a0_0.length : Int)).toNat (0 : Int) : List Int)) (cs := [R.sl S21_6 v21_6 (List.replicate ((a0_0.length : Int)).toNat (0 : Int) : List (Int))]) (rest := [R.sl S25_25 v25_25 (([] : List (List Int)) : List (List Int)), R.box b6_36 148 [.slice none 0 0, .slice none 0 0, .slice none 0 0], R.sl S24_18 v24_18 (t24 : List (Int)), R.box b4_1 148 [.slice none 0 0, .slice none 0 0, .slice none 0 0], R.box b2_1 85 [va0_0, va0_1]]) [1] [0, 2, 3, 4, 5] Try.underlying83 ti25 rfl (sl_cells hl_v21_6) rfl (lf_cons (sl_leaf hl_v21_6) lf_nil) rfl rfl (jn_sl (S := S21_6) (v := v21_6) (l := (List.replicate ((a0_0.length : Int)).toNat (0 : Int) : List (Int))))) (by rintro v22_27 _ ⟨S22_27, hl_v22_27, rfl⟩; exact upd rfl [4, 5] rfl rfl) ?_ ?_
          ·rintro v22_27 _ ⟨S22_27, hl_v22_27, rfl⟩
           refine T.ef rfl rfl rfl (wanted_none rfl) (Runs.does (r_build (pl := [(0, 1), (1, 1), (2, 1)]) (qs := [(0, [v22_27]), (1, [v24_18]), (2, [v25_25])]) (cs := [v22_27, v24_18, v25_25]) (by kernel_rfl) ti148 rfl (.cons (sl_cells hl_v22_27) rfl (Nat.le_of_ble_eq_true rfl) (.cons (sl_cells hl_v24_18) rfl (Nat.le_of_ble_eq_true rfl) (.cons (sl_cells hl_v25_25) rfl (Nat.le_of_ble_eq_true rfl) .nil))) rfl rfl)) (by rintro _ _ ⟨rfl, rfl⟩; exact upd rfl [4, 5] rfl rfl) ?_ ?_
           ·rintro _ _ ⟨rfl, rfl⟩
            refine T.nil ?_
            refine F.ef0 rfl rfl (wanted_none rfl) (d_storeG0 (i := 2) (cs2 := [v22_27, v24_18, v25_25]) ti148 rfl rfl rfl rfl rfl (Nat.le_of_ble_eq_true rfl) (lf_cons (sl_leaf hl_v22_27) (lf_cons (sl_leaf hl_v24_18) (lf_cons (sl_leaf hl_v25_25) lf_nil)))) ?_
            rintro _ _ ⟨rfl, rfl⟩
            refine F.nil ?_
            cases hE_1
            refine Nrm.only [1, 2, 4, 5, 6] rfl ?_
            refine Nrm.pick [4, 5, 2, 0, 3, 1] rfl rfl ?_
            exact hj_1 _ _ ⟨v22_27, S22_27, v24_18, S24_18, v25_25, S25_25, b6_36, hl_v22_27, hl_v24_18, hl_v25_25, rfl, rfl⟩
           exact T.stop
          exact T.stop
         exact T.stop
       ·refine T.ef rfl rfl rfl (wanted_none rfl) (Makes.does (m_build0 (α := List Int) Try.underlying83 ti25)) (by rintro v25_26 _ ⟨S25_26, hl_v25_26, rfl⟩; exact upd rfl [3, 4] rfl rfl) ?_ ?_
        ·rintro v25_26 _ ⟨S25_26, hl_v25_26, rfl⟩
         refine T.ef rfl rfl rfl (wanted_none rfl) (Makes.does (m_make (x0 := (0 : Int)) Try.underlying25 ti3 rfl rfl rfl hm21.1 hm21.2 (by decide))) (by rintro v21_7 _ ⟨S21_7, hl_v21_7, rfl⟩; exact upd rfl [4, 5] rfl rfl) ?_ ?_
         ·rintro v21_7 _ ⟨S21_7, hl_v21_7, rfl⟩
          refine T.ef rfl rfl rfl (wanted_none rfl) (d_build1 (cells := [v21_7]) (x0 := (List.replicate ((a0_0.length : Int)).toNat (0 : Int) : List Int)) (cs := [R.sl S21_7 v21_7 (List.replicate ((a0_0.length : Int)).toNat (0 : Int) : List (Int))]) (rest := [R.sl S25_26 v25_26 (([] : List (List Int)) : List (List Int)), R.box b6_36 148 [.slice none 0 0, .slice none 0 0, .slice none 0 0], R.sl S24_18 v24_18 (t24 : List (Int)), R.box b4_1 148 [.slice none 0 0, .slice none 0 0, .slice none 0 0], R.box b2_1 85 [va0_0, va0_1]]) [0] [1, 2, 3, 4, 5] Try.underlying83 ti25 rfl (sl_cells hl_v21_7) rfl (lf_cons (sl_leaf hl_v21_7) lf_nil) rfl rfl (jn_sl (S := S21_7) (v := v21_7) (l := (List.replicate ((a0_0.length : Int)).toNat (0 : Int) : List (Int))))) (by rintro v22_28 _ ⟨S22_28, hl_v22_28, rfl⟩; exact upd rfl [4, 5] rfl rfl) ?_ ?_
          ·rintro v22_28 _ ⟨S22_28, hl_v22_28, rfl⟩
           refine T.ef rfl rfl rfl (wanted_none rfl) (Runs.does (r_build (pl := [(0, 1), (1, 1), (2, 1)]) (qs := [(0, [v22_28]), (1, [v24_18]), (2, [v25_26])]) (cs := [v22_28, v24_18, v25_26]) (by kernel_rfl) ti148 rfl (.cons (sl_cells hl_v22_28) rfl (Nat.le_of_ble_eq_true rfl) (.cons (sl_cells hl_v24_18) rfl (Nat.le_of_ble_eq_true rfl) (.cons (sl_cells hl_v25_26) rfl (Nat.le_of_ble_eq_true rfl) .nil))) rfl rfl)) (by rintro _ _ ⟨rfl, rfl⟩; exact upd rfl [4, 5] rfl rfl) ?_ ?_
           ·rintro _ _ ⟨rfl, rfl⟩
            refine T.nil ?_
            refine F.ef0 rfl rfl (wanted_none rfl) (d_storeG0 (i := 2) (cs2 := [v22_28, v24_18, v25_26]) ti148 rfl rfl rfl rfl rfl (Nat.le_of_ble_eq_true rfl) (lf_cons (sl_leaf hl_v22_28) (lf_cons (sl_leaf hl_v24_18) (lf_cons (sl_leaf hl_v25_26) lf_nil)))) ?_
            rintro _ _ ⟨rfl, rfl⟩
            refine F.nil ?_
            cases hE_1
            refine Nrm.only [1, 2, 4, 5, 6] rfl ?_
            refine Nrm.pick [4, 5, 2, 0, 3, 1] rfl rfl ?_
            exact hj_1 _ _ ⟨v22_28, S22_28, v24_18, S24_18, v25_26, S25_26, b6_36, hl_v22_28, hl_v24_18, hl_v25_26, rfl, rfl⟩
           exact T.stop
          exact T.stop
         exact T.stop
        exact T.stop
      exact T.stop
   ·refine T.ef rfl rfl rfl (wanted_none rfl) (Makes.does (m_build0 (α := List Int) Try.underlying83 ti25)) (by rintro v25_27 _ ⟨S25_27, hl_v25_27, rfl⟩; exact upd rfl [1, 2] rfl rfl) ?_ ?_
    ·rintro v25_27 _ ⟨S25_27, hl_v25_27, rfl⟩
     refine T.ef rfl rfl rfl (wanted_none rfl) (Makes.does (m_make (x0 := (0 : Int)) Try.underlying25 ti3 rfl rfl rfl hm21.1 hm21.2 (by decide))) (by rintro v21_8 _ ⟨S21_8, hl_v21_8, rfl⟩; exact upd rfl [2, 3] rfl rfl) ?_ ?_
     ·rintro v21_8 _ ⟨S21_8, hl_v21_8, rfl⟩
      refine T.ef rfl rfl rfl (wanted_none rfl) (d_build1 (cells := [v21_8]) (x0 := (List.replicate ((a0_0.length : Int)).toNat (0 : Int) : List Int)) (cs := [R.sl S21_8 v21_8 (List.replicate ((a0_0.length : Int)).toNat (0 : Int) : List (Int))]) (rest := [R.sl S25_27 v25_27 (([] : List (List Int)) : List (List Int)), R.box b4_1 148 [.slice none 0 0, .slice none 0 0, .slice none 0 0], R.box b2_1 85 [va0_0, va0_1]]) [0] [1, 2, 3] Try.underlying83 ti25 rfl (sl_cells hl_v21_8) rfl (lf_cons (sl_leaf hl_v21_8) lf_nil) rfl rfl (jn_sl (S := S21_8) (v := v21_8) (l := (List.replicate ((a0_0.length : Int)).toNat (0 : Int) : List (Int))))) (by rintro v22_29 _ ⟨S22_29, hl_v22_29, rfl⟩; exact upd rfl [2, 3] rfl rfl) ?_ ?_
      ·rintro v22_29 _ ⟨S22_29, hl_v22_29, rfl⟩
       refine T.ef rfl rfl rfl (wanted_none rfl) (Makes.does (m_callF (xs := _) rfl ok200 rfl rfl (fun w hw => spec_l10None.ok h24 w ))) (by rintro v24_19 _ ⟨_, ⟨S24_19, hl_v24_19, rfl⟩, rfl⟩; exact upd rfl [3, 4] rfl rfl) ?_ ?_
       ·rintro v24_19 _ ⟨_, ⟨S24_19, hl_v24_19, rfl⟩, rfl⟩
        refine T.ef rfl rfl rfl (wanted_none rfl) (Runs.does (r_build (pl := [(0, 1), (1, 1), (2, 1)]) (qs := [(0, [v22_29]), (1, [v24_19]), (2, [v25_27])]) (cs := [v22_29, v24_19, v25_27]) (by kernel_rfl) ti148 rfl (.cons (sl_cells hl_v22_29) rfl (Nat.le_of_ble_eq_true rfl) (.cons (sl_cells hl_v24_19) rfl (Nat.le_of_ble_eq_true rfl) (.cons (sl_cells hl_v25_27) rfl (Nat.le_of_ble_eq_true rfl) .nil))) rfl rfl)) (by rintro _ _ ⟨rfl, rfl⟩; exact upd rfl [3, 4] rfl rfl) ?_ ?_
        ·rintro _ _ ⟨rfl, rfl⟩
         refine T.ef rfl rfl rfl (wanted_none rfl) (Makes.does (m_alloc ti148)) (by rintro _ _ ⟨b6_37, rfl, rfl⟩; exact upd rfl [4, 5] rfl rfl) ?_ ?_
         ·rintro _ _ ⟨b6_37, rfl, rfl⟩
          refine T.nil ?_
          refine F.ef0 rfl rfl (wanted_none rfl) (d_storeG0 (i := 0) (cs2 := [v22_29, v24_19, v25_27]) ti148 rfl rfl rfl rfl rfl (Nat.le_of_ble_eq_true rfl) (lf_cons (sl_leaf hl_v22_29) (lf_cons (sl_leaf hl_v24_19) (lf_cons (sl_leaf hl_v25_27) lf_nil)))) ?_
          rintro _ _ ⟨rfl, rfl⟩
          refine F.nil ?_
          cases hE_1
          refine Nrm.only [1, 2, 4, 5, 6] rfl ?_
          refine Nrm.pick [4, 5, 0, 2, 1, 3] rfl rfl ?_
          exact hj_1 _ _ ⟨v22_29, S22_29, v24_19, S24_19, v25_27, S25_27, b6_37, hl_v22_29, hl_v24_19, hl_v25_27, rfl, rfl⟩
         exact T.stop
        ·refine T.ef rfl rfl rfl (wanted_none rfl) (Makes.does (m_alloc ti148)) (by rintro _ _ ⟨b6_38, rfl, rfl⟩; exact upd rfl [4, 5] rfl rfl) ?_ ?_
         ·rintro _ _ ⟨b6_38, rfl, rfl⟩
          refine T.ef rfl rfl rfl (wanted_none rfl) (Runs.does (r_build (pl := [(0, 1), (1, 1), (2, 1)]) (qs := [(0, [v22_29]), (1, [v24_19]), (2, [v25_27])]) (cs := [v22_29, v24_19, v25_27]) (by kernel_rfl) ti148 rfl (.cons (sl_cells hl_v22_29) rfl (Nat.le_of_ble_eq_true rfl) (.cons (sl_cells hl_v24_19) rfl (Nat.le_of_ble_eq_true rfl) (.cons (sl_cells hl_v25_27) rfl (Nat.le_of_ble_eq_true rfl) .nil))) rfl rfl)) (by rintro _ _ ⟨rfl, rfl⟩; exact upd rfl [4, 5] rfl rfl) ?_ ?_
          ·rintro _ _ ⟨rfl, rfl⟩
           refine T.nil ?_
           refine F.ef0 rfl rfl (wanted_none rfl) (d_storeG0 (i := 0) (cs2 := [v22_29, v24_19, v25_27]) ti148 rfl rfl rfl rfl rfl (Nat.le_of_ble_eq_true rfl) (lf_cons (sl_leaf hl_v22_29) (lf_cons (sl_leaf hl_v24_19) (lf_cons (sl_leaf hl_v25_27) lf_nil)))) ?_
           rintro _ _ ⟨rfl, rfl⟩
           refine F.nil ?_
           cases hE_1
           refine Nrm.only [1, 2, 4, 5, 6] rfl ?_
           refine Nrm.pick [4, 5, 0, 2, 1, 3] rfl rfl ?_
           exact hj_1 _ _ ⟨v22_29, S22_29, v24_19, S24_19, v25_27, S25_27, b6_38, hl_v22_29, hl_v24_19, hl_v25_27, rfl, rfl⟩
          exact T.stop
         exact T.stop
       ·refine T.ef rfl rfl rfl (wanted_none rfl) (Makes.does (m_alloc ti148)) (by rintro _ _ ⟨b6_39, rfl, rfl⟩; exact upd rfl [3, 4] rfl rfl) ?_ ?_
        ·rintro _ _ ⟨b6_39, rfl, rfl⟩
         refine T.ef rfl rfl rfl (wanted_none rfl) (Makes.does (m_callF (xs := _) rfl ok200 rfl rfl (fun w hw => spec_l10None.ok h24 w ))) (by rintro v24_20 _ ⟨_, ⟨S24_20, hl_v24_20, rfl⟩, rfl⟩; exact upd rfl [4, 5] rfl rfl) ?_ ?_
         ·rintro v24_20 _ ⟨_, ⟨S24_20, hl_v24_20, rfl⟩, rfl⟩
          refine T.ef rfl rfl rfl (wanted_none rfl) (Runs.does (r_build (pl := [(0, 1), (1, 1), (2, 1)]) (qs := [(0, [v22_29]), (1, [v24_20]), (2, [v25_27])]) (cs := [v22_29, v24_20, v25_27]) (by kernel_rfl) ti148 rfl (.cons (sl_cells hl_v22_29) rfl (Nat.le_of_ble_eq_true rfl) (.cons (sl_cells hl_v24_20) rfl (Nat.le_of_ble_eq_true rfl) (.cons (sl_cells hl_v25_27) rfl (Nat.le_of_ble_eq_true rfl) .nil))) rfl rfl)) (by rintro _ _ ⟨rfl, rfl⟩; exact upd rfl [4, 5] rfl rfl) ?_ ?_
          ·rintro _ _ ⟨rfl, rfl⟩
           refine T.nil ?_
           refine F.ef0 rfl rfl (wanted_none rfl) (d_storeG0 (i := 1) (cs2 := [v22_29, v24_20, v25_27]) ti148 rfl rfl rfl rfl rfl (Nat.le_of_ble_eq_true rfl) (lf_cons (sl_leaf hl_v22_29) (lf_cons (sl_leaf hl_v24_20) (lf_cons (sl_leaf hl_v25_27) lf_nil)))) ?_
           rintro _ _ ⟨rfl, rfl⟩
           refine F.nil ?_
           cases hE_1
           refine Nrm.only [1, 2, 4, 5, 6] rfl ?_
           refine Nrm.pick [4, 5, 1, 2, 0, 3] rfl rfl ?_
           exact hj_1 _ _ ⟨v22_29, S22_29, v24_20, S24_20, v25_27, S25_27, b6_39, hl_v22_29, hl_v24_20, hl_v25_27, rfl, rfl⟩
          exact T.stop
         exact T.stop
        exact T.stop
      ·refine T.ef rfl rfl rfl (wanted_none rfl) (Makes.does (m_callF (xs := _) rfl ok200 rfl rfl (fun w hw => spec_l10None.ok h24 w ))) (by rintro v24_21 _ ⟨_, ⟨S24_21, hl_v24_21, rfl⟩, rfl⟩; exact upd rfl [3, 4] rfl rfl) ?_ ?_
       ·rintro v24_21 _ ⟨_, ⟨S24_21, hl_v24_21, rfl⟩, rfl⟩
        refine T.ef rfl rfl rfl (wanted_none rfl) (d_build1 (cells := [v21_8]) (x0 := (List.replicate ((a0_0.length : Int)).toNat (0 : Int) : List Int)) (cs := [R.sl S21_8 v21_8 (List.replicate ((a0_0.length : Int)).toNat (0 : Int) : List (Int))]) (rest := [R.sl S24_21 v24_21 (t24 : List (Int)), R.sl S25_27 v25_27 (([] : List (List Int)) : List (List Int)), R.box b4_1 148 [.slice none 0 0, .slice none 0 0, .slice none 0 0], R.box b2_1 85 [va0_0, va0_1]]) [1] [0, 2, 3, 4] Try.underlying83 ti25 rfl (sl_cells hl_v21_8) rfl (lf_cons (sl_leaf hl_v21_8) lf_nil) rfl rfl (jn_sl (S := S21_8) (v := v21_8) (l := (List.replicate ((a0_0.length : Int)).toNat (0 : Int) : List (Int))))) (by rintro v22_30 _ ⟨S22_30, hl_v22_30, rfl⟩; exact upd rfl [3, 4] rfl rfl) ?_ ?_
        ·rintro v22_30 _ ⟨S22_30, hl_v22_30, rfl⟩
         refine T.ef rfl rfl rfl (wanted_none rfl) (Runs.does (r_build (pl := [(0, 1), (1, 1), (2, 1)]) (qs := [(0, [v22_30]), (1, [v24_21]), (2, [v25_27])]) (cs := [v22_30, v24_21, v25_27]) (by kernel_rfl) ti148 rfl (.cons (sl_cells hl_v22_30) rfl (Nat.le_of_ble_eq_true rfl) (.cons (sl_cells hl_v24_21) rfl (Nat.le_of_ble_eq_true rfl) (.cons (sl_cells hl_v25_27) rfl (Nat.le_of_ble_eq_true rfl) .nil))) rfl rfl)) (by rintro _ _ ⟨rfl, rfl⟩; exact upd rfl [3, 4] rfl rfl) ?_ ?_
         ·rintro _ _ ⟨rfl, rfl⟩
          refine T.ef rfl rfl rfl (wanted_none rfl) (Makes.does (m_alloc ti148)) (by rintro _ _ ⟨b6_40, rfl, rfl⟩; exact upd rfl [4, 5] rfl rfl) ?_ ?_
          ·rintro _ _ ⟨b6_40, rfl, rfl⟩
           refine T.nil ?_
           refine F.ef0 rfl rfl (wanted_none rfl) (d_storeG0 (i := 0) (cs2 := [v22_30, v24_21, v25_27]) ti148 rfl rfl rfl rfl rfl (Nat.le_of_ble_eq_true rfl) (lf_cons (sl_leaf hl_v22_30) (lf_cons (sl_leaf hl_v24_21) (lf_cons (sl_leaf hl_v25_27) lf_nil)))) ?_
           rintro _ _ ⟨rfl, rfl⟩
           refine F.nil ?_
           cases hE_1
           refine Nrm.only [1, 2, 4, 5, 6] rfl ?_
           refine Nrm.pick [4, 5, 0, 1, 2, 3] rfl rfl ?_
           exact hj_1 _ _ ⟨v22_30, S22_30, v24_21, S24_21, v25_27, S25_27, b6_40, hl_v22_30, hl_v24_21, hl_v25_27, rfl, rfl⟩
          exact T.stop
         ·refine T.ef rfl rfl rfl (wanted_none rfl) (Makes.does (m_alloc ti148)) (by rintro _ _ ⟨b6_41, rfl, rfl⟩; exact upd rfl [4, 5] rfl rfl) ?_ ?_
          ·rintro _ _ ⟨b6_41, rfl, rfl⟩
           refine T.ef rfl rfl rfl (wanted_none rfl) (Runs.does (r_build (pl := [(0, 1), (1, 1), (2, 1)]) (qs := [(0, [v22_30]), (1, [v24_21]), (2, [v25_27])]) (cs := [v22_30, v24_21, v25_27]) (by kernel_rfl) ti148 rfl (.cons (sl_cells hl_v22_30) rfl (Nat.le_of_ble_eq_true rfl) (.cons (sl_cells hl_v24_21) rfl (Nat.le_of_ble_eq_true rfl) (.cons (sl_cells hl_v25_27) rfl (Nat.le_of_ble_eq_true rfl) .nil))) rfl rfl)) (by rintro _ _ ⟨rfl, rfl⟩; exact upd rfl [4, 5] rfl rfl) ?_ ?_
           ·rintro _ _ ⟨rfl, rfl⟩
            refine T.nil ?_
            refine F.ef0 rfl rfl (wanted_none rfl) (d_storeG0 (i := 0) (cs2 := [v22_30, v24_21, v25_27]) ti148 rfl rfl rfl rfl rfl (Nat.le_of_ble_eq_true rfl) (lf_cons (sl_leaf hl_v22_30) (lf_cons (sl_leaf hl_v24_21) (lf_cons (sl_leaf hl_v25_27) lf_nil)))) ?_
            rintro _ _ ⟨rfl, rfl⟩
            refine F.nil ?_
            cases hE_1
            refine Nrm.only [1, 2, 4, 5, 6] rfl ?_
            refine Nrm.pick [4, 5, 0, 1, 2, 3] rfl rfl ?_
            exact hj_1 _ _ ⟨v22_30, S22_30, v24_21, S24_21, v25_27, S25_27, b6_41, hl_v22_30, hl_v24_21, hl_v25_27, rfl, rfl⟩
           exact T.stop
          exact T.stop
        ·refine T.ef rfl rfl rfl (wanted_none rfl) (Makes.does (m_alloc ti148)) (by rintro _ _ ⟨b6_42, rfl, rfl⟩; exact upd rfl [4, 5] rfl rfl) ?_ ?_
         ·rintro _ _ ⟨b6_42, rfl, rfl⟩
          refine T.ef rfl rfl rfl (wanted_none rfl) (d_build1 (cells := [v21_8]) (x0 := (List.replicate ((a0_0.length : Int)).toNat (0 : Int) : List Int)) (cs := [R.sl S21_8 v21_8 (List.replicate ((a0_0.length : Int)).toNat (0 : Int) : List (Int))]) (rest := [R.box b6_42 148 [.slice none 0 0, .slice none 0 0, .slice none 0 0], R.sl S24_21 v24_21 (t24 : List (Int)), R.sl S25_27 v25_27 (([] : List (List Int)) : List (List Int)), R.box b4_1 148 [.slice none 0 0, .slice none 0 0, .slice none 0 0], R.box b2_1 85 [va0_0, va0_1]]) [2] [0, 1, 3, 4, 5] Try.underlying83 ti25 rfl (sl_cells hl_v21_8) rfl (lf_cons (sl_leaf hl_v21_8) lf_nil) rfl rfl (jn_sl (S := S21_8) (v := v21_8) (l := (List.replicate ((a0_0.length : Int)).toNat (0 : Int) : List (Int))))) (by rintro v22_31 _ ⟨S22_31, hl_v22_31, rfl⟩; exact upd rfl [4, 5] rfl rfl) ?_ ?_
          ·rintro v22_31 _ ⟨S22_31, hl_v22_31, rfl⟩
           refine T.ef rfl rfl rfl (wanted_none rfl) (Runs.does (r_build (pl := [(0, 1), (1, 1), (2, 1)]) (qs := [(0, [v22_31]), (1, [v24_21]), (2, [v25_27])]) (cs := [v22_31, v24_21, v25_27]) (by kernel_rfl) ti148 rfl (.cons (sl_cells hl_v22_31) rfl (Nat.le_of_ble_eq_true rfl) (.cons (sl_cells hl_v24_21) rfl (Nat.le_of_ble_eq_true rfl) (.cons (sl_cells hl_v25_27) rfl (Nat.le_of_ble_eq_true rfl) .nil))) rfl rfl)) (by rintro _ _ ⟨rfl, rfl⟩; exact upd rfl [4, 5] rfl rfl) ?_ ?_
           ·rintro _ _ ⟨rfl, rfl⟩
            refine T.nil ?_
            refine F.ef0 rfl rfl (wanted_none rfl) (d_storeG0 (i := 1) (cs2 := [v22_31, v24_21, v25_27]) ti148 rfl rfl rfl rfl rfl (Nat.le_of_ble_eq_true rfl) (lf_cons (sl_leaf hl_v22_31) (lf_cons (sl_leaf hl_v24_21) (lf_cons (sl_leaf hl_v25_27) lf_nil)))) ?_
            rintro _ _ ⟨rfl, rfl⟩
            refine F.nil ?_
            cases hE_1
            refine Nrm.only [1, 2, 4, 5, 6] rfl ?_
            refine Nrm.pick [4, 5, 1, 0, 2, 3] rfl rfl ?_
            exact hj_1 _ _ ⟨v22_31, S22_31, v24_21, S24_21, v25_27, S25_27, b6_42, hl_v22_31, hl_v24_21, hl_v25_27, rfl, rfl⟩
           exact T.stop
          exact T.stop
         exact T.stop
       ·refine T.ef rfl rfl rfl (wanted_none rfl) (Makes.does (m_alloc ti148)) (by rintro _ _ ⟨b6_43, rfl, rfl⟩; exact upd rfl [3, 4] rfl rfl) ?_ ?_
        ·rintro _ _ ⟨b6_43, rfl, rfl⟩
         refine T.ef rfl rfl rfl (wanted_none rfl) (d_build1 (cells := [v21_8]) (x0 := (List.replicate ((a0_0.length : Int)).toNat (0 : Int) : List Int)) (cs := [R.sl S21_8 v21_8 (List.replicate ((a0_0.length : Int)).toNat (0 : Int) : List (Int))]) (rest := [R.box b6_43 148 [.slice none 0 0, .slice none 0 0, .slice none 0 0], R.sl S25_27 v25_27 (([] : List (List Int)) : List (List Int)), R.box b4_1 148 [.slice none 0 0, .slice none 0 0, .slice none 0 0], R.box b2_1 85 [va0_0, va0_1]]) [1] [0, 2, 3, 4] Try.underlying83 ti25 rfl (sl_cells hl_v21_8) rfl (lf_cons (sl_leaf hl_v21_8) lf_nil) rfl rfl (jn_sl (S := S21_8) (v := v21_8) (l := (List.replicate ((a0_0.length : Int)).toNat (0 : Int) : List (Int))))) (by rintro v22_32 _ ⟨S22_32, hl_v22_32, rfl⟩; exact upd rfl [3, 4] rfl rfl) ?_ ?_
         ·rintro v22_32 _ ⟨S22_32, hl_v22_32, rfl⟩
          refine T.ef rfl rfl rfl (wanted_none rfl) (Makes.does (m_callF (xs := _) rfl ok200 rfl rfl (fun w hw => spec_l10None.ok h24 w ))) (by rintro v24_22 _ ⟨_, ⟨S24_22, hl_v24_22, rfl⟩, rfl⟩; exact upd rfl [4, 5] rfl rfl) ?_ ?_
          ·rintro v24_22 _ ⟨_, ⟨S24_22, hl_v24_22, rfl⟩, rfl⟩
           refine T.ef rfl rfl rfl (wanted_none rfl) (Runs.does (r_build (pl := [(0, 1), (1, 1), (2, 1)]) (qs := [(0, [v22_32]), (1, [v24_22]), (2, [v25_27])]) (cs := [v22_32, v24_22, v25_27]) (by kernel_rfl) ti148 rfl (.cons (sl_cells hl_v22_32) rfl (Nat.le_of_ble_eq_true rfl) (.cons (sl_cells hl_v24_22) rfl (Nat.le_of_ble_eq_true rfl) (.cons (sl_cells hl_v25_27) rfl (Nat.le_of_ble_eq_true rfl) .nil))) rfl rfl)) (by rintro _ _ ⟨rfl, rfl⟩; exact upd rfl [4, 5] rfl rfl) ?_ ?_
           ·rintro _ _ ⟨rfl, rfl⟩
            refine T.nil ?_
            refine F.ef0 rfl rfl (wanted_none rfl) (d_storeG0 (i := 2) (cs2 := [v22_32, v24_22, v25_27]) ti148 rfl rfl rfl rfl rfl (Nat.le_of_ble_eq_true rfl) (lf_cons (sl_leaf hl_v22_32) (lf_cons (sl_leaf hl_v24_22) (lf_cons (sl_leaf hl_v25_27) lf_nil)))) ?_
            rintro _ _ ⟨rfl, rfl⟩
            refine F.nil ?_
            cases hE_1
            refine Nrm.only [1, 2, 4, 5, 6] rfl ?_
            refine Nrm.pick [4, 5, 2, 1, 0, 3] rfl rfl ?_
            exact hj_1 _ _ ⟨v22_32, S22_32, v24_22, S24_22, v25_27, S25_27, b6_43, hl_v22_32, hl_v24_22, hl_v25_27, rfl, rfl⟩
           exact T.stop
          exact T.stop
         ·refine T.ef rfl rfl rfl (wanted_none rfl) (Makes.does (m_callF (xs := _) rfl ok200 rfl rfl (fun w hw => spec_l10None.ok h24 w ))) (by rintro v24_23 _ ⟨_, ⟨S24_23, hl_v24_23, rfl⟩, rfl⟩; exact upd rfl [4, 5] rfl rfl) ?_ ?_
          ·rintro v24_23 _ ⟨_, ⟨S24_23, hl_v24_23, rfl⟩, rfl⟩
           refine T.ef rfl rfl rfl (wanted_none rfl) (d_build1 (cells := [v21_8]) (x0 := (List.replicate ((a0_0.length : Int)).toNat (0 : Int) : List Int)) (cs := [R.sl S21_8 v21_8 (List.replicate ((a0_0.length : Int)).toNat (0 : Int) : List (Int))]) (rest := [R.sl S24_23 v24_23 (t24 : List (Int)), R.box b6_43 148 [.slice none 0 0, .slice none 0 0, .slice none 0 0], R.sl S25_27 v25_27 (([] : List (List Int)) : List (List Int)), R.box b4_1 148 [.slice none 0 0, .slice none 0 0, .slice none 0 0], R.box b2_1 85 [va0_0, va0_1]]) [2] [0, 1, 3, 4, 5] Try.underlying83 ti25 rfl (sl_cells hl_v21_8) rfl (lf_cons (sl_leaf hl_v21_8) lf_nil) rfl rfl (jn_sl (S := S21_8) (v := v21_8) (l := (List.replicate ((a0_0.length : Int)).toNat (0 : Int) : List (Int))))) (by rintro v22_33 _ ⟨S22_33, hl_v22_33, rfl⟩; exact upd rfl [4, 5] rfl rfl) ?_ ?_
           ·rintro v22_33 _ ⟨S22_33, hl_v22_33, rfl⟩
            refine T.ef rfl rfl rfl (wanted_none rfl) (Runs.does (r_build (pl := [(0, 1), (1, 1), (2, 1)]) (qs := [(0, [v22_33]), (1, [v24_23]), (2, [v25_27])]) (cs := [v22_33, v24_23, v25_27]) (by kernel_rfl) ti148 rfl (.cons (sl_cells hl_v22_33) rfl (Nat.le_of_ble_eq_true rfl) (.cons (sl_cells hl_v24_23) rfl (Nat.le_of_ble_eq_true rfl) (.cons (sl_cells hl_v25_27) rfl (Nat.le_of_ble_eq_true rfl) .nil))) rfl rfl)) (by rintro _ _ ⟨rfl, rfl⟩; exact upd rfl [4, 5] rfl rfl) ?_ ?_
            ·rintro _ _ ⟨rfl, rfl⟩
             refine T.nil ?_
             refine F.ef0 rfl rfl (wanted_none rfl) (d_storeG0 (i := 2) (cs2 := [v22_33, v24_23, v25_27]) ti148 rfl rfl rfl rfl rfl (Nat.le_of_ble_eq_true rfl) (lf_cons (sl_leaf hl_v22_33) (lf_cons (sl_leaf hl_v24_23) (lf_cons (sl_leaf hl_v25_27) lf_nil)))) ?_
             rintro _ _ ⟨rfl, rfl⟩
             refine F.nil ?_
             cases hE_1
             refine Nrm.only [1, 2, 4, 5, 6] rfl ?_
             refine Nrm.pick [4, 5, 2, 0, 1, 3] rfl rfl ?_
             exact hj_1 _ _ ⟨v22_33, S22_33, v24_23, S24_23, v25_27, S25_27, b6_43, hl_v22_33, hl_v24_23, hl_v25_27, rfl, rfl⟩
            exact T.stop
           exact T.stop
          exact T.stop
        exact T.stop
     ·refine T.ef rfl rfl rfl (wanted_none rfl) (Makes.does (m_callF (xs := _) rfl ok200 rfl rfl (fun w hw => spec_l10None.ok h24 w ))) (by rintro v24_24 _ ⟨_, ⟨S24_24, hl_v24_24, rfl⟩, rfl⟩; exact upd rfl [2, 3] rfl rfl) ?_ ?_
      ·rintro v24_24 _ ⟨_, ⟨S24_24, hl_v24_24, rfl⟩, rfl⟩
       refine T.ef rfl rfl rfl (wanted_none rfl) (Makes.does (m_make (x0 := (0 : Int)) Try.underlying25 ti3 rfl rfl rfl hm21.1 hm21.2 (by decide))) (by rintro v21_9 _ ⟨S21_9, hl_v21_9, rfl⟩; exact upd rfl [3, 4] rfl rfl) ?_ ?_
       ·rintro v21_9 _ ⟨S21_9, hl_v21_9, rfl⟩
        refine T.ef rfl rfl rfl (wanted_none rfl) (d_build1 (cells := [v21_9]) (x0 := (List.replicate ((a0_0.length : Int)).toNat (0 : Int) : List Int)) (cs := [R.sl S21_9 v21_9 (List.replicate ((a0_0.length : Int)).toNat (0 : Int) : List (Int))]) (rest := [R.sl S24_24 v24_24 (t24 : List (Int)), R.sl S25_27 v25_27 (([] : List (List Int)) : List (List Int)), R.box b4_1 148 [.slice none 0 0, .slice none 0 0, .slice none 0 0], R.box b2_1 85 [va0_0, va0_1]]) [0] [1, 2, 3, 4] Try.underlying83 ti25 rfl (sl_cells hl_v21_9) rfl (lf_cons (sl_leaf hl_v21_9) lf_nil) rfl rfl (jn_sl (S := S21_9) (v := v21_9) (l := (List.replicate ((a0_0.length : Int)).toNat (0 : Int) : List (Int))))) (by rintro v22_34 _ ⟨S22_34, hl_v22_34, rfl⟩; exact upd rfl [3, 4] rfl rfl) ?_ ?_
        ·rintro v22_34 _ ⟨S22_34, hl_v22_34, rfl⟩
         refine T.ef rfl rfl rfl (wanted_none rfl) (Runs.does (r_build (pl := [(0, 1), (1, 1), (2, 1)]) (qs := [(0, [v22_34]), (1, [v24_24]), (2, [v25_27])]) (cs := [v22_34, v24_24, v25_27]) (by kernel_rfl) ti148 rfl (.cons (sl_cells hl_v22_34) rfl (Nat.le_of_ble_eq_true rfl) (.cons (sl_cells hl_v24_24) rfl (Nat.le_of_ble_eq_true rfl) (.cons (sl_cells hl_v25_27) rfl (Nat.le_of_ble_eq_true rfl) .nil))) rfl rfl)) (by rintro _ _ ⟨rfl, rfl⟩; exact upd rfl [3, 4] rfl rfl) ?_ ?_
         ·rintro _ _ ⟨rfl, rfl⟩
          refine T.ef rfl rfl rfl (wanted_none rfl) (Makes.does (m_alloc ti148)) (by rintro _ _ ⟨b6_44, rfl, rfl⟩; exact upd rfl [4, 5] rfl rfl) ?_ ?_
          ·rintro _ _ ⟨b6_44, rfl, rfl⟩
           refine T.nil ?_
           refine F.ef0 rfl rfl (wanted_none rfl) (d_storeG0 (i := 0) (cs2 := [v22_34, v24_24, v25_27]) ti148 rfl rfl rfl rfl rfl (Nat.le_of_ble_eq_true rfl) (lf_cons (sl_leaf hl_v22_34) (lf_cons (sl_leaf hl_v24_24) (lf_cons (sl_leaf hl_v25_27) lf_nil)))) ?_
           rintro _ _ ⟨rfl, rfl⟩
           refine F.nil ?_
           cases hE_1
           refine Nrm.only [1, 2, 4, 5, 6] rfl ?_
           refine Nrm.pick [4, 5, 0, 1, 2, 3] rfl rfl ?_
           exact hj_1 _ _ ⟨v22_34, S22_34, v24_24, S24_24, v25_27, S25_27, b6_44, hl_v22_34, hl_v24_24, hl_v25_27, rfl, rfl⟩
          exact T.stop
         ·refine T.ef rfl rfl rfl (wanted_none rfl) (Makes.does (m_alloc ti148)) (by rintro _ _ ⟨b6_45, rfl, rfl⟩; exact upd rfl [4, 5] rfl rfl) ?_ ?_
          ·rintro _ _ ⟨b6_45, rfl, rfl⟩
           refine T.ef rfl rfl rfl (wanted_none rfl) (Runs.does (r_build (pl := [(0, 1), (1, 1), (2, 1)]) (qs := [(0, [v22_34]), (1, [v24_24]), (2, [v25_27])]) (cs := [v22_34, v24_24, v25_27]) (by kernel_rfl) ti148 rfl (.cons (sl_cells hl_v22_34) rfl (Nat.le_of_ble_eq_true rfl) (.cons (sl_cells hl_v24_24) rfl (Nat.le_of_ble_eq_true rfl) (.cons (sl_cells hl_v25_27) rfl (Nat.le_of_ble_eq_true rfl) .nil))) rfl rfl)) (by rintro _ _ ⟨rfl, rfl⟩; exact upd rfl [4, 5] rfl rfl) ?_ ?_
           ·rintro _ _ ⟨rfl, rfl⟩
            refine T.nil ?_
            refine F.ef0 rfl rfl (wanted_none rfl) (d_storeG0 (i := 0) (cs2 := [v22_34, v24_24, v25_27]) ti148 rfl rfl rfl rfl rfl (Nat.le_of_ble_eq_true rfl) (lf_cons (sl_leaf hl_v22_34) (lf_cons (sl_leaf hl_v24_24) (lf_cons (sl_leaf hl_v25_27) lf_nil)))) ?_
            rintro _ _ ⟨rfl, rfl⟩
            refine F.nil ?_
            cases hE_1
            refine Nrm.only [1, 2, 4, 5, 6] rfl ?_
            refine Nrm.pick [4, 5, 0, 1, 2, 3] rfl rfl ?_
            exact hj_1 _ _ ⟨v22_34, S22_34, v24_24, S24_24, v25_27, S25_27, b6_45, hl_v22_34, hl_v24_24, hl_v25_27, rfl, rfl⟩
           exact T.stop
          exact T.stop
        ·refine T.ef rfl rfl rfl (wanted_none rfl) (Makes.does (m_alloc ti148)) (by rintro _ _ ⟨b6_46, rfl, rfl⟩; exact upd rfl [4, 5] rfl rfl) ?_ ?_
         ·rintro _ _ ⟨b6_46, rfl, rfl⟩
          refine T.ef rfl rfl rfl (wanted_none rfl) (d_build1 (cells := [v21_9]) (x0 := (List.replicate ((a0_0.length : Int)).toNat (0 : Int) : List Int)) (cs := [R.sl S21_9 v21_9 (List.replicate ((a0_0.length : Int)).toNat (0 : Int) : List (Int))]) (rest := [R.box b6_46 148 [.slice none 0 0, .slice none 0 0, .slice none 0 0], R.sl S24_24 v24_24 (t24 : List (Int)), R.sl S25_27 v25_27 (([] : List (List Int)) : List (List Int)), R.box b4_1 148 [.slice none 0 0, .slice none 0 0, .slice none 0 0], R.box b2_1 85 [va0_0, va0_1]]) [1] [0, 2, 3, 4, 5] Try.underlying83 ti25 rfl (sl_cells hl_v21_9) rfl (lf_cons (sl_leaf hl_v21_9) lf_nil) rfl rfl (jn_sl (S := S21_9) (v := v21_9) (l := (List.replicate ((a0_0.length : Int)).toNat (0 : Int) : List (Int))))) (by rintro v22_35 _ ⟨S22_35, hl_v22_35, rfl⟩; exact upd rfl [4, 5] rfl rfl) ?_ ?_
          ·rintro v22_35 _ ⟨S22_35, hl_v22_35, rfl⟩
           refine T.ef rfl rfl rfl (wanted_none rfl) (Runs.does (r_build (pl := [(0, 1), (1, 1), (2, 1)]) (qs := [(0, [v22_35]), (1, [v24_24]), (2, [v25_27])]) (cs := [v22_35, v24_24, v25_27]) (by kernel_rfl) ti148 rfl (.cons (sl_cells hl_v22_35) rfl (Nat.le_of_ble_eq_true rfl) (.cons (sl_cells hl_v24_24) rfl (Nat.le_of_ble_eq_true rfl) (.cons (sl_cells hl_v25_27) rfl (Nat.le_of_ble_eq_true rfl) .nil))) rfl rfl)) (by rintro _ _ ⟨rfl, rfl⟩; exact upd rfl [4, 5] rfl rfl) ?_ ?_
           ·rintro _ _ ⟨rfl, rfl⟩
            refine T.nil ?_
            refine F.ef0 rfl rfl (wanted_none rfl) (d_storeG0 (i := 1) (cs2 := [v22_35, v24_24, v25_27]) ti148 rfl rfl rfl rfl rfl (Nat.le_of_ble_eq_true rfl) (lf_cons (sl_leaf hl_v22_35) (lf_cons (sl_leaf hl_v24_24) (lf_cons (sl_leaf hl_v25_27) lf_nil)))) ?_
            rintro _ _ ⟨rfl, rfl⟩
            refine F.nil ?_
            cases hE_1
            refine Nrm.only [1, 2, 4, 5, 6] rfl ?_
            refine Nrm.pick [4, 5, 1, 0, 2, 3] rfl rfl ?_
            exact hj_1 _ _ ⟨v22_35, S22_35, v24_24, S24_24, v25_27, S25_27, b6_46, hl_v22_35, hl_v24_24, hl_v25_27, rfl, rfl⟩
           exact T.stop
          exact T.stop
         exact T.stop
       ·refine T.ef rfl rfl rfl (wanted_none rfl) (Makes.does (m_alloc ti148)) (by rintro _ _ ⟨b6_47, rfl, rfl⟩; exact upd rfl [3, 4] rfl rfl) ?_ ?_
        ·rintro _ _ ⟨b6_47, rfl, rfl⟩
         refine T.ef rfl rfl rfl (wanted_none rfl) (Makes.does (m_make (x0 := (0 : Int)) Try.underlying25 ti3 rfl rfl rfl hm21.1 hm21.2 (by decide))) (by rintro v21_10 _ ⟨S21_10, hl_v21_10, rfl⟩; exact upd rfl [4, 5] rfl rfl) ?_ ?_
         ·rintro v21_10 _ ⟨S21_10, hl_v21_10, rfl⟩
          refine T.ef rfl rfl rfl (wanted_none rfl) (d_build1 (cells := [v21_10]) (x0 := (List.replicate ((a0_0.length : Int)).toNat (0 : Int) : List Int)) (cs := [R.sl S21_10 v21_10 (List.replicate ((a0_0.length : Int)).toNat (0 : Int) : List (Int))]) (rest := [R.box b6_47 148 [.slice none 0 0, .slice none 0 0, .slice none 0 0], R.sl S24_24 v24_24 (t24 : List (Int)), R.sl S25_27 v25_27 (([] : List (List Int)) : List (List Int)), R.box b4_1 148 [.slice none 0 0, .slice none 0 0, .slice none 0 0], R.box b2_1 85 [va0_0, va0_1]]) [0] [1, 2, 3, 4, 5] Try.underlying83 ti25 rfl (sl_cells hl_v21_10) rfl (lf_cons (sl_leaf hl_v21_10) lf_nil) rfl rfl (jn_sl (S := S21_10) (v := v21_10) (l := (List.replicate ((a0_0.length : Int)).toNat (0 : Int) : List (Int))))) (by rintro v22_36 _ ⟨S22_36, hl_v22_36, rfl⟩; exact upd rfl [4, 5] rfl rfl) ?_ ?_
          ·rintro v22_36 _ ⟨S22_36, hl_v22_36, rfl⟩
           refine T.ef rfl rfl rfl (wanted_none rfl) (Runs.does (r_build (pl := [(0, 1), (1, 1), (2, 1)]) (qs := [(0, [v22_36]), (1, [v24_24]), (2, [v25_27])]) (cs := [v22_36, v24_24, v25_27]) (by kernel_rfl) ti148 rfl (.cons (sl_cells hl_v22_36) rfl (Nat.le_of_ble_eq_true rfl) (.cons (sl_cells hl_v24_24) rfl (Nat.le_of_ble_eq_true rfl) (.cons (sl_cells hl_v25_27) rfl (Nat.le_of_ble_eq_true rfl) .nil))) rfl rfl)) (by rintro _ _ ⟨rfl, rfl⟩; exact upd rfl [4, 5] rfl rfl) ?_ ?_
           ·rintro _ _ ⟨rfl, rfl⟩
            refine T.nil ?_
            refine F.ef0 rfl rfl (wanted_none rfl) (d_storeG0 (i := 1) (cs2 := [v22_36, v24_24, v25_27]) ti148 rfl rfl rfl rfl rfl (Nat.le_of_ble_eq_true rfl) (lf_cons (sl_leaf hl_v22_36) (lf_cons (sl_leaf hl_v24_24) (lf_cons (sl_leaf hl_v25_27) lf_nil)))) ?_
            rintro _ _ ⟨rfl, rfl⟩
            refine F.nil ?_
            cases hE_1
            refine Nrm.only [1, 2, 4, 5, 6] rfl ?_
            refine Nrm.pick [4, 5, 1, 0, 2, 3] rfl rfl ?_
            exact hj_1 _ _ ⟨v22_36, S22_36, v24_24, S24_24, v25_27, S25_27, b6_47, hl_v22_36, hl_v24_24, hl_v25_27, rfl, rfl⟩
           exact T.stop
          exact T.stop
         exact T.stop
        exact T.stop
      ·refine T.ef rfl rfl rfl (wanted_none rfl) (Makes.does (m_alloc ti148)) (by rintro _ _ ⟨b6_48, rfl, rfl⟩; exact upd rfl [2, 3] rfl rfl) ?_ ?_
       ·rintro _ _ ⟨b6_48, rfl, rfl⟩
        refine T.ef rfl rfl rfl (wanted_none rfl) (Makes.does (m_make (x0 := (0 : Int)) Try.underlying25 ti3 rfl rfl rfl hm21.1 hm21.2 (by decide))) (by rintro v21_11 _ ⟨S21_11, hl_v21_11, rfl⟩; exact upd rfl [3, 4] rfl rfl) ?_ ?_
        ·rintro v21_11 _ ⟨S21_11, hl_v21_11, rfl⟩
         refine T.ef rfl rfl rfl (wanted_none rfl) (d_build1 (cells := [v21_11]) (x0 := (List.replicate ((a0_0.length : Int)).toNat (0 : Int) : List Int)) (cs := [R.sl S21_11 v21_11 (List.replicate ((a0_0.length : Int)).toNat (0 : Int) : List (Int))]) (rest := [R.box b6_48 148 [.slice none 0 0, .slice none 0 0, .slice none 0 0], R.sl S25_27 v25_27 (([] : List (List Int)) : List (List Int)), R.box b4_1 148 [.slice none 0 0, .slice none 0 0, .slice none 0 0], R.box b2_1 85 [va0_0, va0_1]]) [0] [1, 2, 3, 4] Try.underlying83 ti25 rfl (sl_cells hl_v21_11) rfl (lf_cons (sl_leaf hl_v21_11) lf_nil) rfl rfl (jn_sl (S := S21_11) (v := v21_11) (l := (List.replicate ((a0_0.length : Int)).toNat (0 : Int) : List (Int))))) (by rintro v22_37 _ ⟨S22_37, hl_v22_37, rfl⟩; exact upd rfl [3, 4] rfl rfl) ?_ ?_
         ·rintro v22_37 _ ⟨S22_37, hl_v22_37, rfl⟩
          refine T.ef rfl rfl rfl (wanted_none rfl) (Makes.does (m_callF (xs := _) rfl ok200 rfl rfl (fun w hw => spec_l10None.ok h24 w ))) (by rintro v24_25 _ ⟨_, ⟨S24_25, hl_v24_25, rfl⟩, rfl⟩; exact upd rfl [4, 5] rfl rfl) ?_ ?_
          ·rintro v24_25 _ ⟨_, ⟨S24_25, hl_v24_25, rfl⟩, rfl⟩
           refine T.ef rfl rfl rfl (wanted_none rfl) (Runs.does (r_build (pl := [(0, 1), (1, 1), (2, 1)]) (qs := [(0, [v22_37]), (1, [v24_25]), (2, [v25_27])]) (cs := [v22_37, v24_25, v25_27]) (by kernel_rfl) ti148 rfl (.cons (sl_cells hl_v22_37) rfl (Nat.le_of_ble_eq_true rfl) (.cons (sl_cells hl_v24_25) rfl (Nat.le_of_ble_eq_true rfl) (.cons (sl_cells hl_v25_27) rfl (Nat.le_of_ble_eq_true rfl) .nil))) rfl rfl)) (by rintro _ _ ⟨rfl, rfl⟩; exact upd rfl [4, 5] rfl rfl) ?_ ?_
           ·rintro _ _ ⟨rfl, rfl⟩
            refine T.nil ?_
            refine F.ef0 rfl rfl (wanted_none rfl) (d_storeG0 (i := 2) (cs2 := [v22_37, v24_25, v25_27]) ti148 rfl rfl rfl rfl rfl (Nat.le_of_ble_eq_true rfl) (lf_cons (sl_leaf hl_v22_37) (lf_cons (sl_leaf hl_v24_25) (lf_cons (sl_leaf hl_v25_27) lf_nil)))) ?_
            rintro _ _ ⟨rfl, rfl⟩
            refine F.nil ?_
            cases hE_1
            refine Nrm.only [1, 2, 4, 5, 6] rfl ?_
            refine Nrm.pick [4, 5, 2, 1, 0, 3] rfl rfl ?_
            exact hj_1 _ _ ⟨v22_37, S22_37, v24_25, S24_25, v25_27, S25_27, b6_48, hl_v22_37, hl_v24_25, hl_v25_27, rfl, rfl⟩
           exact T.stop
          exact T.stop
         ·refine T.ef rfl rfl rfl (wanted_none rfl) (Makes.does (m_callF (xs := _) rfl ok200 rfl rfl (fun w hw => spec_l10None.ok h24 w ))) (by rintro v24_26 _ ⟨_, ⟨S24_26, hl_v24_26, rfl⟩, rfl⟩; exact upd rfl [4, 5] rfl rfl) ?_ ?_
          ·rintro v24_26 _ ⟨_, ⟨S24_26, hl_v24_26, rfl⟩, rfl⟩
           refine T.ef rfl rfl rfl (wanted_none rfl) (d_build1 (cells := [v21_11]) (x0 := (List.replicate ((a0_0.length : Int)).toNat (0 : Int) : List Int)) (cs := [R.sl S21_11 v21_11 (List.replicate ((a0_0.length : Int)).toNat (0 : Int) : List (Int))]) (rest := [R.sl S24_26 v24_26 (t24 : List (Int)), R.box b6_48 148 [.slice none 0 0, .slice none 0 0, .slice none 0 0], R.sl S25_27 v25_27 (([] : List (List Int)) : List (List Int)), R.box b4_1 148 [.slice none 0 0, .slice none 0 0, .slice none 0 0], R.box b2_1 85 [va0_0, va0_1]]) [1] [0, 2, 3, 4, 5] Try.underlying83 ti25 rfl (sl_cells hl_v21_11) rfl (lf_cons (sl_leaf hl_v21_11) lf_nil) rfl rfl (jn_sl (S := S21_11) (v := v21_11) (l := (List.replicate ((a0_0.length : Int)).toNat (0 : Int) : List (Int))))) (by rintro v22_38 _ ⟨S22_38, hl_v22_38, rfl⟩; exact upd rfl [4, 5] rfl rfl) ?_ ?_
           ·rintro v22_38 _ ⟨S22_38, hl_v22_38, rfl⟩
            refine T.ef rfl rfl rfl (wanted_none rfl) (Runs.does (r_build (pl := [(0, 1), (1, 1), (2, 1)]) (qs := [(0, [v22_38]), (1, [v24_26]), (2, [v25_27])]) (cs := [v22_38, v24_26, v25_27]) (by kernel_rfl) ti148 rfl (.cons (sl_cells hl_v22_38) rfl (Nat.le_of_ble_eq_true rfl) (.cons (sl_cells hl_v24_26) rfl (Nat.le_of_ble_eq_true rfl) (.cons (sl_cells hl_v25_27) rfl (Nat.le_of_ble_eq_true rfl) .nil))) rfl rfl)) (by rintro _ _ ⟨rfl, rfl⟩; exact upd rfl [4, 5] rfl rfl) ?_ ?_
            ·rintro _ _ ⟨rfl, rfl⟩
             refine T.nil ?_
             refine F.ef0 rfl rfl (wanted_none rfl) (d_storeG0 (i := 2) (cs2 := [v22_38, v24_26, v25_27]) ti148 rfl rfl rfl rfl rfl (Nat.le_of_ble_eq_true rfl) (lf_cons (sl_leaf hl_v22_38) (lf_cons (sl_leaf hl_v24_26) (lf_cons (sl_leaf hl_v25_27) lf_nil)))) ?_
             rintro _ _ ⟨rfl, rfl⟩
             refine F.nil ?_
             cases hE_1
             refine Nrm.only [1, 2, 4, 5, 6] rfl ?_
             refine Nrm.pick [4, 5, 2, 0, 1, 3] rfl rfl ?_
             exact hj_1 _ _ ⟨v22_38, S22_38, v24_26, S24_26, v25_27, S25_27, b6_48, hl_v22_38, hl_v24_26, hl_v25_27, rfl, rfl⟩
            exact T.stop
           exact T.stop
          exact T.stop
        ·refine T.ef rfl rfl rfl (wanted_none rfl) (Makes.does (m_callF (xs := _) rfl ok200 rfl rfl (fun w hw => spec_l10None.ok h24 w ))) (by rintro v24_27 _ ⟨_, ⟨S24_27, hl_v24_27, rfl⟩, rfl⟩; exact upd rfl [3, 4] rfl rfl) ?_ ?_
         ·rintro v24_27 _ ⟨_, ⟨S24_27, hl_v24_27, rfl⟩, rfl⟩
          refine T.ef rfl rfl rfl (wanted_none rfl) (Makes.does (m_make (x0 := (0 : Int)) Try.underlying25 ti3 rfl rfl rfl hm21.1 hm21.2 (by decide))) (by rintro v21_12 _ ⟨S21_12, hl_v21_12, rfl⟩; exact upd rfl [4, 5] rfl rfl) ?_ ?_
          ·rintro v21_12 _ ⟨S21_12, hl_v21_12, rfl⟩
           refine T.ef rfl rfl rfl (wanted_none rfl) (d_build1 (cells := [v21_12]) (x0 := (List.replicate ((a0_0.length : Int)).toNat (0 : Int) : List Int)) (cs := [R.sl S21_12 v21_12 (List.replicate ((a0_0.length : Int)).toNat (0 : Int) : List (Int))]) (rest := [R.sl S24_27 v24_27 (t24 : List (Int)), R.box b6_48 148 [.slice none 0 0, .slice none 0 0, .slice none 0 0], R.sl S25_27 v25_27 (([] : List (List Int)) : List (List Int)), R.box b4_1 148 [.slice none 0 0, .slice none 0 0, .slice none 0 0], R.box b2_1 85 [va0_0, va0_1]]) [0] [1, 2, 3, 4, 5] Try.underlying83 ti25 rfl (sl_cells hl_v21_12) rfl (lf_cons (sl_leaf hl_v21_12) lf_nil) rfl rfl (jn_sl (S := S21_12) (v := v21_12) (l := (List.replicate ((a0_0.length : Int)).toNat (0 : Int) : List (Int))))) (by rintro v22_39 _ ⟨S22_39, hl_v22_39, rfl⟩; exact upd rfl [4, 5] rfl rfl) ?_ ?_
           ·rintro v22_39 _ ⟨S22_39, hl_v22_39, rfl⟩
            refine T.ef rfl rfl rfl (wanted_none rfl) (Runs.does (r_build (pl := [(0, 1), (1, 1), (2, 1)]) (qs := [(0, [v22_39]), (1, [v24_27]), (2, [v25_27])]) (cs := [v22_39, v24_27, v25_27]) (by kernel_rfl) ti148 rfl (.cons (sl_cells hl_v22_39) rfl (Nat.le_of_ble_eq_true rfl) (.cons (sl_cells hl_v24_27) rfl (Nat.le_of_ble_eq_true rfl) (.cons (sl_cells hl_v25_27) rfl (Nat.le_of_ble_eq_true rfl) .nil))) rfl rfl)) (by rintro _ _ ⟨rfl, rfl⟩; exact upd rfl [4, 5] rfl rfl) ?_ ?_
            ·rintro _ _ ⟨rfl, rfl⟩
             refine T.nil ?_
             refine F.ef0 rfl rfl (wanted_none rfl) (d_storeG0 (i := 2) (cs2 := [v22_39, v24_27, v25_27]) ti148 rfl rfl rfl rfl rfl (Nat.le_of_ble_eq_true rfl) (lf_cons (sl_leaf hl_v22_39) (lf_cons (sl_leaf hl_v24_27) (lf_cons (sl_leaf hl_v25_27) lf_nil)))) ?_
             rintro _ _ ⟨rfl, rfl⟩
             refine F.nil ?_
             cases hE_1
             refine Nrm.only [1, 2, 4, 5, 6] rfl ?_
             refine Nrm.pick [4, 5, 2, 0, 1, 3] rfl rfl ?_
             exact hj_1 _ _ ⟨v22_39, S22_39, v24_27, S24_27, v25_27, S25_27, b6_48, hl_v22_39, hl_v24_27, hl_v25_27, rfl, rfl⟩
            exact T.stop
           exact T.stop
          exact T.stop
         exact T.stop
       exact T.stop
    ·refine T.ef rfl rfl rfl (wanted_none rfl) (Makes.does (m_alloc ti148)) (by rintro _ _ ⟨b6_49, rfl, rfl⟩; exact upd rfl [1, 2] rfl rfl) ?_ ?_
     ·rintro _ _ ⟨b6_49, rfl, rfl⟩
      refine T.ef rfl rfl rfl (wanted_none rfl) (Makes.does (m_make (x0 := (0 : Int)) Try.underlying25 ti3 rfl rfl rfl hm21.1 hm21.2 (by decide))) (by rintro v21_13 _ ⟨S21_13, hl_v21_13, rfl⟩; exact upd rfl [2, 3] rfl rfl) ?_ ?_
      ·rintro v21_13 _ ⟨S21_13, hl_v21_13, rfl⟩
       refine T.ef rfl rfl rfl (wanted_none rfl) (d_build1 (cells := [v21_13]) (x0 := (List.replicate ((a0_0.length : Int)).toNat (0 : Int) : List Int)) (cs := [R.sl S21_13 v21_13 (List.replicate ((a0_0.length : Int)).toNat (0 : Int) : List (Int))]) (rest := [R.box b6_49 148 [.slice none 0 0, .slice none 0 0, .slice none 0 0], R.box b4_1 148 [.slice none 0 0, .slice none 0 0, .slice none 0 0], R.box b2_1 85 [va0_0, va0_1]]) [0] [1, 2, 3] Try.underlying83 ti25 rfl (sl_cells hl_v21_13) rfl (lf_cons (sl_leaf hl_v21_13) lf_nil) rfl rfl (jn_sl (S := S21_13) (v := v21_13) (l := (List.replicate ((a0_0.length : Int)).toNat (0 : Int) : List (Int))))) (by rintro v22_40 _ ⟨S22_40, hl_v22_40, rfl⟩; exact upd rfl [2, 3] rfl rfl) ?_ ?_
       ·rintro v22_40 _ ⟨S22_40, hl_v22_40, rfl⟩
        refine T.ef rfl rfl rfl (wanted_none rfl) (Makes.does (m_callF (xs := _) rfl ok200 rfl rfl (fun w hw => spec_l10None.ok h24 w ))) (by rintro v24_28 _ ⟨_, ⟨S24_28, hl_v24_28, rfl⟩, rfl⟩; exact upd rfl [3, 4] rfl rfl) ?_ ?_
        ·rintro v24_28 _ ⟨_, ⟨S24_28, hl_v24_28, rfl⟩, rfl⟩
         refine T.ef rfl rfl rfl (wanted_none rfl) (Makes.does (m_build0 (α := List Int) Try.underlying83 ti25)) (by rintro v25_28 _ ⟨S25_28, hl_v25_28, rfl⟩; exact upd rfl [4, 5] rfl rfl) ?_ ?_
         ·rintro v25_28 _ ⟨S25_28, hl_v25_28, rfl⟩
          refine T.ef rfl rfl rfl (wanted_none rfl) (Runs.does (r_build (pl := [(0, 1), (1, 1), (2, 1)]) (qs := [(0, [v22_40]), (1, [v24_28]), (2, [v25_28])]) (cs := [v22_40, v24_28, v25_28]) (by kernel_rfl) ti148 rfl (.cons (sl_cells hl_v22_40) rfl (Nat.le_of_ble_eq_true rfl) (.cons (sl_cells hl_v24_28) rfl (Nat.le_of_ble_eq_true rfl) (.cons (sl_cells hl_v25_28) rfl (Nat.le_of_ble_eq_true rfl) .nil))) rfl rfl)) (by rintro _ _ ⟨rfl, rfl⟩; exact upd rfl [4, 5] rfl rfl) ?_ ?_
          ·rintro _ _ ⟨rfl, rfl⟩
           refine T.nil ?_
           refine F.ef0 rfl rfl (wanted_none rfl) (d_storeG0 (i := 3) (cs2 := [v22_40, v24_28, v25_28]) ti148 rfl rfl rfl rfl rfl (Nat.le_of_ble_eq_true rfl) (lf_cons (sl_leaf hl_v22_40) (lf_cons (sl_leaf hl_v24_28) (lf_cons (sl_leaf hl_v25_28) lf_nil)))) ?_
           rintro _ _ ⟨rfl, rfl⟩
           refine F.nil ?_
           cases hE_1
           refine Nrm.only [1, 2, 4, 5, 6] rfl ?_
           refine Nrm.pick [4, 5, 3, 2, 1, 0] rfl rfl ?_
           exact hj_1 _ _ ⟨v22_40, S22_40, v24_28, S24_28, v25_28, S25_28, b6_49, hl_v22_40, hl_v24_28, hl_v25_28, rfl, rfl⟩
          exact T.stop
         exact T.stop
        ·refine T.ef rfl rfl rfl (wanted_none rfl) (Makes.does (m_build0 (α := List Int) Try.underlying83 ti25)) (by rintro v25_29 _ ⟨S25_29, hl_v25_29, rfl⟩; exact upd rfl [3, 4] rfl rfl) ?_ ?_
         ·rintro v25_29 _ ⟨S25_29, hl_v25_29, rfl⟩
          refine T.ef rfl rfl rfl (wanted_none rfl) (Makes.does (m_callF (xs := _) rfl ok200 rfl rfl (fun w hw => spec_l10None.ok h24 w ))) (by rintro v24_29 _ ⟨_, ⟨S24_29, hl_v24_29, rfl⟩, rfl⟩; exact upd rfl [4, 5] rfl rfl) ?_ ?_
          ·rintro v24_29 _ ⟨_, ⟨S24_29, hl_v24_29, rfl⟩, rfl⟩
           refine T.ef rfl rfl rfl (wanted_none rfl) (Runs.does (r_build (pl := [(0, 1), (1, 1), (2, 1)]) (qs := [(0, [v22_40]), (1, [v24_29]), (2, [v25_29])]) (cs := [v22_40, v24_29, v25_29]) (by kernel_rfl) ti148 rfl (.cons (sl_cells hl_v22_40) rfl (Nat.le_of_ble_eq_true rfl) (.cons (sl_cells hl_v24_29) rfl (Nat.le_of_ble_eq_true rfl) (.cons (sl_cells hl_v25_29) rfl (Nat.le_of_ble_eq_true rfl) .nil))) rfl rfl)) (by rintro _ _ ⟨rfl, rfl⟩; exact upd rfl [4, 5] rfl rfl) ?_ ?_
           ·rintro _ _ ⟨rfl, rfl⟩
            refine T.nil ?_
            refine F.ef0 rfl rfl (wanted_none rfl) (d_storeG0 (i := 3) (cs2 := [v22_40, v24_29, v25_29]) ti148 rfl rfl rfl rfl rfl (Nat.le_of_ble_eq_true rfl) (lf_cons (sl_leaf hl_v22_40) (lf_cons (sl_leaf hl_v24_29) (lf_cons (sl_leaf hl_v25_29) lf_nil)))) ?_
            rintro _ _ ⟨rfl, rfl⟩
            refine F.nil ?_
            cases hE_1
            refine Nrm.only [1, 2, 4, 5, 6] rfl ?_
            refine Nrm.pick [4, 5, 3, 2, 0, 1] rfl rfl ?_
            exact hj_1 _ _ ⟨v22_40, S22_40, v24_29, S24_29, v25_29, S25_29, b6_49, hl_v22_40, hl_v24_29, hl_v25_29, rfl, rfl⟩
           exact T.stop
          exact T.stop
         exact T.stop
       ·refine T.ef rfl rfl rfl (wanted_none rfl) (Makes.does (m_callF (xs := _) rfl ok200 rfl rfl (fun w hw => spec_l10None.ok h24 w ))) (by rintro v24_30 _ ⟨_, ⟨S24_30, hl_v24_30, rfl⟩, rfl⟩; exact upd rfl [3, 4] rfl rfl) ?_ ?_
        ·rintro v24_30 _ ⟨_, ⟨S24_30, hl_v24_30, rfl⟩, rfl⟩
         refine T.ef rfl rfl rfl (wanted_none rfl) (d_build1 (cells := [v21_13]) (x0 := (List.replicate ((a0_0.length : Int)).toNat (0 : Int) : List Int)) (cs := [R.sl S21_13 v21_13 (List.replicate ((a0_0.length : Int)).toNat (0 : Int) : List (Int))]) (rest := [R.sl S24_30 v24_30 (t24 : List (Int)), R.box b6_49 148 [.slice none 0 0, .slice none 0 0, .slice none 0 0], R.box b4_1 148 [.slice none 0 0, .slice none 0 0, .slice none 0 0], R.box b2_1 85 [va0_0, va0_1]]) [1] [0, 2, 3, 4] Try.underlying83 ti25 rfl (sl_cells hl_v21_13) rfl (lf_cons (sl_leaf hl_v21_13) lf_nil) rfl rfl (jn_sl (S := S21_13) (v := v21_13) (l := (List.replicate ((a0_0.length : Int)).toNat (0 : Int) : List (Int))))) (by rintro v22_41 _ ⟨S22_41, hl_v22_41, rfl⟩; exact upd rfl [3, 4] rfl rfl) ?_ ?_
         ·rintro v22_41 _ ⟨S22_41, hl_v22_41, rfl⟩
          refine T.ef rfl rfl rfl (wanted_none rfl) (Makes.does (m_build0 (α := List Int) Try.underlying83 ti25)) (by rintro v25_30 _ ⟨S25_30, hl_v25_30, rfl⟩; exact upd rfl [4, 5] rfl rfl) ?_ ?_
          ·rintro v25_30 _ ⟨S25_30, hl_v25_30, rfl⟩
           refine T.ef rfl rfl rfl (wanted_none rfl) (Runs.does (r_build (pl := [(0, 1), (1, 1), (2, 1)]) (qs := [(0, [v22_41]), (1, [v24_30]), (2, [v25_30])]) (cs := [v22_41, v24_30, v25_30]) (by kernel_rfl) ti148 rfl (.cons (sl_cells hl_v22_41) rfl (Nat.le_of_ble_eq_true rfl) (.cons (sl_cells hl_v24_30) rfl (Nat.le_of_ble_eq_true rfl) (.cons (sl_cells hl_v25_30) rfl (Nat.le_of_ble_eq_true rfl) .nil))) rfl rfl)) (by rintro _ _ ⟨rfl, rfl⟩; exact upd rfl [4, 5] rfl rfl) ?_ ?_
           ·rintro _ _ ⟨rfl, rfl⟩
            refine T.nil ?_
            refine F.ef0 rfl rfl (wanted_none rfl) (d_storeG0 (i := 3) (cs2 := [v22_41, v24_30, v25_30]) ti148 rfl rfl rfl rfl rfl (Nat.le_of_ble_eq_true rfl) (lf_cons (sl_leaf hl_v22_41) (lf_cons (sl_leaf hl_v24_30) (lf_cons (sl_leaf hl_v25_30) lf_nil)))) ?_
            rintro _ _ ⟨rfl, rfl⟩
            refine F.nil ?_
            cases hE_1
            refine Nrm.only [1, 2, 4, 5, 6] rfl ?_
            refine Nrm.pick [4, 5, 3, 1, 2, 0] rfl rfl ?_
            exact hj_1 _ _ ⟨v22_41, S22_41, v24_30, S24_30, v25_30, S25_30, b6_49, hl_v22_41, hl_v24_30, hl_v25_30, rfl, rfl⟩
           exact T.stop
          exact T.stop
         ·refine T.ef rfl rfl rfl (wanted_none rfl) (Makes.does (m_build0 (α := List Int) Try.underlying83 ti25)) (by rintro v25_31 _ ⟨S25_31, hl_v25_31, rfl⟩; exact upd rfl [4, 5] rfl rfl) ?_ ?_
          ·rintro v25_31 _ ⟨S25_31, hl_v25_31, rfl⟩
           refine T.ef rfl rfl rfl (wanted_none rfl) (d_build1 (cells := [v21_13]) (x0 := (List.replicate ((a0_0.length : Int)).toNat (0 : Int) : List Int)) (cs := [R.sl S21_13 v21_13 (List.replicate ((a0_0.length : Int)).toNat (0 : Int) : List (Int))]) (rest := [R.sl S25_31 v25_31 (([] : List (List Int)) : List (List Int)), R.sl S24_30 v24_30 (t24 : List (Int)), R.box b6_49 148 [.slice none 0 0, .slice none 0 0, .slice none 0 0], R.box b4_1 148 [.slice none 0 0, .slice none 0 0, .slice none 0 0], R.box b2_1 85 [va0_0, va0_1]]) [2] [0, 1, 3, 4, 5] Try.underlying83 ti25 rfl (sl_cells hl_v21_13) rfl (lf_cons (sl_leaf hl_v21_13) lf_nil) rfl rfl (jn_sl (S := S21_13) (v := v21_13) (l := (List.replicate ((a0_0.length : Int)).toNat (0 : Int) : List (Int))))) (by rintro v22_42 _ ⟨S22_42, hl_v22_42, rfl⟩; exact upd rfl [4, 5] rfl rfl) ?_ ?_
           ·rintro v22_42 _ ⟨S22_42, hl_v22_42, rfl⟩
            refine T.ef rfl rfl rfl (wanted_none rfl) (Runs.does (r_build (pl := [(0, 1), (1, 1), (2, 1)]) (qs := [(0, [v22_42]), (1, [v24_30]), (2, [v25_31])]) (cs := [v22_42, v24_30, v25_31]) (by kernel_rfl) ti148 rfl (.cons (sl_cells hl_v22_42) rfl (Nat.le_of_ble_eq_true rfl) (.cons (sl_cells hl_v24_30) rfl (Nat.le_of_ble_eq_true rfl) (.cons (sl_cells hl_v25_31) rfl (Nat.le_of_ble_eq_true rfl) .nil))) rfl rfl)) (by rintro _ _ ⟨rfl, rfl⟩; exact upd rfl [4, 5] rfl rfl) ?_ ?_
            ·rintro _ _ ⟨rfl, rfl⟩
             refine T.nil ?_
             refine F.ef0 rfl rfl (wanted_none rfl) (d_storeG0 (i := 3) (cs2 := [v22_42, v24_30, v25_31]) ti148 rfl rfl rfl rfl rfl (Nat.le_of_ble_eq_true rfl) (lf_cons (sl_leaf hl_v22_42) (lf_cons (sl_leaf hl_v24_30) (lf_cons (sl_leaf hl_v25_31) lf_nil)))) ?_
             rintro _ _ ⟨rfl, rfl⟩
             refine F.nil ?_
             cases hE_1
             refine Nrm.only [1, 2, 4, 5, 6] rfl ?_
             refine Nrm.pick [4, 5, 3, 0, 2, 1] rfl rfl ?_
             exact hj_1 _ _ ⟨v22_42, S22_42, v24_30, S24_30, v25_31, S25_31, b6_49, hl_v22_42, hl_v24_30, hl_v25_31, rfl, rfl⟩
            exact T.stop
           exact T.stop
          exact T.stop
        ·refine T.ef rfl rfl rfl (wanted_none rfl) (Makes.does (m_build0 (α := List Int) Try.underlying83 ti25)) (by rintro v25_32 _ ⟨S25_32, hl_v25_32, rfl⟩; exact upd rfl [3, 4] rfl rfl) ?_ ?_
         ·rintro v25_32 _ ⟨S25_32, hl_v25_32, rfl⟩
          refine T.ef rfl rfl rfl (wanted_none rfl) (d_build1 (cells := [v21_13]) (x0 := (List.replicate ((a0_0.length : Int)).toNat (0 : Int) : List Int)) (cs := [R.sl S21_13 v21_13 (List.replicate ((a0_0.length : Int)).toNat (0 : Int) : List (Int))]) (rest := [R.sl S25_32 v25_32 (([] : List (List Int)) : List (List Int)), R.box b6_49 148 [.slice none 0 0, .slice none 0 0, .slice none 0 0], R.box b4_1 148 [.slice none 0 0, .slice none 0 0, .slice none 0 0], R.box b2_1 85 [va0_0, va0_1]]) [1] [0, 2, 3, 4] Try.underlying83 ti25 rfl (sl_cells hl_v21_13) rfl (lf_cons (sl_leaf hl_v21_13) lf_nil) rfl rfl (jn_sl (S := S21_13) (v := v21_13) (l := (List.replicate ((a0_0.length : Int)).toNat (0 : Int) : List (Int))))) (by rintro v22_43 _ ⟨S22_43, hl_v22_43, rfl⟩; exact upd rfl [3, 4] rfl rfl) ?_ ?_
          ·rintro v22_43 _ ⟨S22_43, hl_v22_43, rfl⟩
           refine T.ef rfl rfl rfl (wanted_none rfl) (Makes.does (m_callF (xs := _) rfl ok200 rfl rfl (fun w hw => spec_l10None.ok h24 w ))) (by rintro v24_31 _ ⟨_, ⟨S24_31, hl_v24_31, rfl⟩, rfl⟩; exact upd rfl [4, 5] rfl rfl) ?_ ?_
           ·rintro v24_31 _ ⟨_, ⟨S24_31, hl_v24_31, rfl⟩, rfl⟩
            refine T.ef rfl rfl rfl (wanted_none rfl) (Runs.does (r_build (pl := [(0, 1), (1, 1), (2, 1)]) (qs := [(0, [v22_43]), (1, [v24_31]), (2, [v25_32])]) (cs := [v22_43, v24_31, v25_32]) (by kernel_rfl) ti148 rfl (.cons (sl_cells hl_v22_43) rfl (Nat.le_of_ble_eq_true rfl) (.cons (sl_cells hl_v24_31) rfl (Nat.le_of_ble_eq_true rfl) (.cons (sl_cells hl_v25_32) rfl (Nat.le_of_ble_eq_true rfl) .nil))) rfl rfl)) (by rintro _ _ ⟨rfl, rfl⟩; exact upd rfl [4, 5] rfl rfl) ?_ ?_
            ·rintro _ _ ⟨rfl, rfl⟩
             refine T.nil ?_
             refine F.ef0 rfl rfl (wanted_none rfl) (d_storeG0 (i := 3) (cs2 := [v22_43, v24_31, v25_32]) ti148 rfl rfl rfl rfl rfl (Nat.le_of_ble_eq_true rfl) (lf_cons (sl_leaf hl_v22_43) (lf_cons (sl_leaf hl_v24_31) (lf_cons (sl_leaf hl_v25_32) lf_nil)))) ?_
             rintro _ _ ⟨rfl, rfl⟩
             refine F.nil ?_
             cases hE_1
             refine Nrm.only [1, 2, 4, 5, 6] rfl ?_
             refine Nrm.pick [4, 5, 3, 1, 0, 2] rfl rfl ?_
             exact hj_1 _ _ ⟨v22_43, S22_43, v24_31, S24_31, v25_32, S25_32, b6_49, hl_v22_43, hl_v24_31, hl_v25_32, rfl, rfl⟩
            exact T.stop
           exact T.stop
          ·refine T.ef rfl rfl rfl (wanted_none rfl) (Makes.does (m_callF (xs := _) rfl ok200 rfl rfl (fun w hw => spec_l10None.ok h24 w ))) (by rintro v24_32 _ ⟨_, ⟨S24_32, hl_v24_32, rfl⟩, rfl⟩; exact upd rfl [4, 5] rfl rfl) ?_ ?_
           ·rintro v24_32 _ ⟨_, ⟨S24_32, hl_v24_32, rfl⟩, rfl⟩
            refine T.ef rfl rfl rfl (wanted_none rfl) (d_build1 (cells := [v21_13]) (x0 := (List.replicate ((a0_0.length : Int)).toNat (0 : Int) : List Int)) (cs := [R.sl S21_13 v21_13 (List.replicate ((a0_0.length : Int)).toNat (0 : Int) : List (Int))]) (rest := [R.sl S24_32 v24_32 (t24 : List (Int)), R.sl S25_32 v25_32 (([] : List (List Int)) : List (List Int)), R.box b6_49 148 [.slice none 0 0, .slice none 0 0, .slice none 0 0], R.box b4_1 148 [.slice none 0 0, .slice none 0 0, .slice none 0 0], R.box b2_1 85 [va0_0, va0_1]]) [2] [0, 1, 3, 4, 5] Try.underlying83 ti25 rfl (sl_cells hl_v21_13) rfl (lf_cons (sl_leaf hl_v21_13) lf_nil) rfl rfl (jn_sl (S := S21_13) (v := v21_13) (l := (List.replicate ((a0_0.length : Int)).toNat (0 : Int) : List (Int))))) (by rintro v22_44 _ ⟨S22_44, hl_v22_44, rfl⟩; exact upd rfl [4, 5] rfl rfl) ?_ ?_
            ·rintro v22_44 _ ⟨S22_44, hl_v22_44, rfl⟩
             refine T.ef rfl rfl rfl (wanted_none rfl) (Runs.does (r_build (pl := [(0, 1), (1, 1), (2, 1)]) (qs := [(0, [v22_44]), (1, [v24_32]), (2, [v25_32])]) (cs := [v22_44, v24_32, v25_32]) (by kernel_rfl) ti148 rfl (.cons (sl_cells hl_v22_44) rfl (Nat.le_of_ble_eq_true rfl) (.cons (sl_cells hl_v24_32) rfl (Nat.le_of_ble_eq_true rfl) (.cons (sl_cells hl_v25_32) rfl (Nat.le_of_ble_eq_true rfl) .nil))) rfl rfl)) (by rintro _ _ ⟨rfl, rfl⟩; exact upd rfl [4, 5] rfl rfl) ?_ ?_
             ·rintro _ _ ⟨rfl, rfl⟩
              refine T.nil ?_
              refine F.ef0 rfl rfl (wanted_none rfl) (d_storeG0 (i := 3) (cs2 := [v22_44, v24_32, v25_32]) ti148 rfl rfl rfl rfl rfl (Nat.le_of_ble_eq_true rfl) (lf_cons (sl_leaf hl_v22_44) (lf_cons (sl_leaf hl_v24_32) (lf_cons (sl_leaf hl_v25_32) lf_nil)))) ?_
              rintro _ _ ⟨rfl, rfl⟩
              refine F.nil ?_
              cases hE_1
              refine Nrm.only [1, 2, 4, 5, 6] rfl ?_
              refine Nrm.pick [4, 5, 3, 0, 1, 2] rfl rfl ?_
              exact hj_1 _ _ ⟨v22_44, S22_44, v24_32, S24_32, v25_32, S25_32, b6_49, hl_v22_44, hl_v24_32, hl_v25_32, rfl, rfl⟩
             exact T.stop
            exact T.stop
           exact T.stop
         exact T.stop
      ·refine T.ef rfl rfl rfl (wanted_none rfl) (Makes.does (m_callF (xs := _) rfl ok200 rfl rfl (fun w hw => spec_l10None.ok h24 w ))) (by rintro v24_33 _ ⟨_, ⟨S24_33, hl_v24_33, rfl⟩, rfl⟩; exact upd rfl [2, 3] rfl rfl) ?_ ?_
       ·rintro v24_33 _ ⟨_, ⟨S24_33, hl_v24_33, rfl⟩, rfl⟩
        refine T.ef rfl rfl rfl (wanted_none rfl) (Makes.does (m_make (x0 := (0 : Int)) Try.underlying25 ti3 rfl rfl rfl hm21.1 hm21.2 (by decide))) (by rintro v21_14 _ ⟨S21_14, hl_v21_14, rfl⟩; exact upd rfl [3, 4] rfl rfl) ?_ ?_
        ·rintro v21_14 _ ⟨S21_14, hl_v21_14, rfl⟩
         refine T.ef rfl rfl rfl (wanted_none rfl) (d_build1 (cells := [v21_14]) (x0 := (List.replicate ((a0_0.length : Int)).toNat (0 : Int) : List Int)) (cs := [R.sl S21_14 v21_14 (List.replicate ((a0_0.length : Int)).toNat (0 : Int) : List (Int))]) (rest := [R.sl S24_33 v24_33 (t24 : List (Int)), R.box b6_49 148 [.slice none 0 0, .slice none 0 0, .slice none 0 0], R.box b4_1 148 [.slice none 0 0, .slice none 0 0, .slice none 0 0], R.box b2_1 85 [va0_0, va0_1]]) [0] [1, 2, 3, 4] Try.underlying83 ti25 rfl (sl_cells hl_v21_14) rfl (lf_cons (sl_leaf hl_v21_14) lf_nil) rfl rfl (jn_sl (S := S21_14) (v := v21_14) (l := (List.replicate ((a0_0.length : Int)).toNat (0 : Int) : List (Int))))) (by rintro v22_45 _ ⟨S22_45, hl_v22_45, rfl⟩; exact upd rfl [3, 4] rfl rfl) ?_ ?_
         ·rintro v22_45 _ ⟨S22_45, hl_v22_45, rfl⟩
          refine T.ef rfl rfl rfl (wanted_none rfl) (Makes.does (m_build0 (α := List Int) Try.underlying83 ti25)) (by rintro v25_33 _ ⟨S25_33, hl_v25_33, rfl⟩; exact upd rfl [4, 5] rfl rfl) ?_ ?_
          ·rintro v25_33 _ ⟨S25_33, hl_v25_33, rfl⟩
           refine T.ef rfl rfl rfl (wanted_none rfl) (Runs.does (r_build (pl := [(0, 1), (1, 1), (2, 1)]) (qs := [(0, [v22_45]), (1, [v24_33]), (2, [v25_33])]) (cs := [v22_45, v24_33, v25_33]) (by kernel_rfl) ti148 rfl (.cons (sl_cells hl_v22_45) rfl (Nat.le_of_ble_eq_true rfl) (.cons (sl_cells hl_v24_33) rfl (Nat.le_of_ble_eq_true rfl) (.cons (sl_cells hl_v25_33) rfl (Nat.le_of_ble_eq_true rfl) .nil))) rfl rfl)) (by rintro _ _ ⟨rfl, rfl⟩; exact upd rfl [4, 5] rfl rfl) ?_ ?_
           ·rintro _ _ ⟨rfl, rfl⟩
            refine T.nil ?_
            refine F.ef0 rfl rfl (wanted_none rfl) (d_storeG0 (i := 3) (cs2 := [v22_45, v24_33, v25_33]) ti148 rfl rfl rfl rfl rfl (Nat.le_of_ble_eq_true rfl) (lf_cons (sl_leaf hl_v22_45) (lf_cons (sl_leaf hl_v24_33) (lf_cons (sl_leaf hl_v25_33) lf_nil)))) ?_
            rintro _ _ ⟨rfl, rfl⟩
            refine F.nil ?_
            cases hE_1
            refine Nrm.only [1, 2, 4, 5, 6] rfl ?_
            refine Nrm.pick [4, 5, 3, 1, 2, 0] rfl rfl ?_
            exact hj_1 _ _ ⟨v22_45, S22_45, v24_33, S24_33, v25_33, S25_33, b6_49, hl_v22_45, hl_v24_33, hl_v25_33, rfl, rfl⟩
           exact T.stop
          exact T.stop
         ·refine T.ef rfl rfl rfl (wanted_none rfl) (Makes.does (m_build0 (α := List Int) Try.underlying83 ti25)) (by rintro v25_34 _ ⟨S25_34, hl_v25_34, rfl⟩; exact upd rfl [4, 5] rfl rfl) ?_ ?_
          ·rintro v25_34 _ ⟨S25_34, hl_v25_34, rfl⟩
           refine T.ef rfl rfl rfl (wanted_none rfl) (d_build1 (cells := [v21_14]) (x0 := (List.replicate ((a0_0.length : Int)).toNat (0 : Int) : List Int)) (cs := [R.sl S21_14 v21_14 (List.replicate ((a0_0.length : Int)).toNat (0 : Int) : List (Int))]) (rest := [R.sl S25_34 v25_34 (([] : List (List Int)) : List (List Int)), R.sl S24_33 v24_33 (t24 : List (Int)), R.box b6_49 148 [.slice none 0 0, .slice none 0 0, .slice none 0 0], R.box b4_1 148 [.slice none 0 0, .slice none 0 0, .slice none 0 0], R.box b2_1 85 [va0_0, va0_1]]) [1] [0, 2, 3, 4, 5] Try.underlying83 ti25 rfl (sl_cells hl_v21_14) rfl (lf_cons (sl_leaf hl_v21_14) lf_nil) rfl rfl (jn_sl (S := S21_14) (v := v21_14) (l := (List.replicate ((a0_0.length : Int)).toNat (0 : Int) : List (Int))))) (by rintro v22_46 _ ⟨S22_46, hl_v22_46, rfl⟩; exact upd rfl [4, 5] rfl rfl) ?_ ?_
           ·rintro v22_46 _ ⟨S22_46, hl_v22_46, rfl⟩
            refine T.ef rfl rfl rfl (wanted_none rfl) (Runs.does (r_build (pl := [(0, 1), (1, 1), (2, 1)]) (qs := [(0, [v22_46]), (1, [v24_33]), (2, [v25_34])]) (cs := [v22_46, v24_33, v25_34]) (by kernel_rfl) ti148 rfl (.cons (sl_cells hl_v22_46) rfl (Nat.le_of_ble_eq_true rfl) (.cons (sl_cells hl_v24_33) rfl (Nat.le_of_ble_eq_true rfl) (.cons (sl_cells hl_v25_34) rfl (Nat.le_of_ble_eq_true rfl) .nil))) rfl rfl)) (by rintro _ _ ⟨rfl, rfl⟩; exact upd rfl [4, 5] rfl rfl) ?_ ?_
            ·rintro _ _ ⟨rfl, rfl⟩
             refine T.nil ?_
             refine F.ef0 rfl rfl (wanted_none rfl) (d_storeG0 (i := 3) (cs2 := [v22_46, v24_33, v25_34]) ti148 rfl rfl rfl rfl rfl (Nat.le_of_ble_eq_true rfl) (lf_cons (sl_leaf hl_v22_46) (lf_cons (sl_leaf hl_v24_33) (lf_cons (sl_leaf hl_v25_34) lf_nil)))) ?_
             rintro _ _ ⟨rfl, rfl⟩
             refine F.nil ?_
             cases hE_1
             refine Nrm.only [1, 2, 4, 5, 6] rfl ?_
             refine Nrm.pick [4, 5, 3, 0, 2, 1] rfl rfl ?_
             exact hj_1 _ _ ⟨v22_46, S22_46, v24_33, S24_33, v25_34, S25_34, b6_49, hl_v22_46, hl_v24_33, hl_v25_34, rfl, rfl⟩
            exact T.stop
           exact T.stop
          exact T.stop
        ·refine T.ef rfl rfl rfl (wanted_none rfl) (Makes.does (m_build0 (α := List Int) Try.underlying83 ti25)) (by rintro v25_35 _ ⟨S25_35, hl_v25_35, rfl⟩; exact upd rfl [3, 4] rfl rfl) ?_ ?_
         ·rintro v25_35 _ ⟨S25_35, hl_v25_35, rfl⟩
          refine T.ef rfl rfl rfl (wanted_none rfl) (Makes.does (m_make (x0 := (0 : Int)) Try.underlying25 ti3 rfl rfl rfl hm21.1 hm21.2 (by decide))) (by rintro v21_15 _ ⟨S21_15, hl_v21_15, rfl⟩; exact upd rfl [4, 5] rfl rfl) ?_ ?_
          ·rintro v21_15 _ ⟨S21_15, hl_v21_15, rfl⟩
           refine T.ef rfl rfl rfl (wanted_none rfl) (d_build1 (cells := [v21_15]) (x0 := (List.replicate ((a0_0.length : Int)).toNat (0 : Int) : List Int)) (cs := [R.sl S21_15 v21_15 (List.replicate ((a0_0.length : Int)).toNat (0 : Int) : List (Int))]) (rest := [R.sl S25_35 v25_35 (([] : List (List Int)) : List (List Int)), R.sl S24_33 v24_33 (t24 : List (Int)), R.box b6_49 148 [.slice none 0 0, .slice none 0 0, .slice none 0 0], R.box b4_1 148 [.slice none 0 0, .slice none 0 0, .slice none 0 0], R.box b2_1 85 [va0_0, va0_1]]) [0] [1, 2, 3, 4, 5] Try.underlying83 ti25 rfl (sl_cells hl_v21_15) rfl (lf_cons (sl_leaf hl_v21_15) lf_nil) rfl rfl (jn_sl (S := S21_15) (v := v21_15) (l := (List.replicate ((a0_0.length : Int)).toNat (0 : Int) : List (Int))))) (by rintro v22_47 _ ⟨S22_47, hl_v22_47, rfl⟩; exact upd rfl [4, 5] rfl rfl) ?_ ?_
           ·rintro v22_47 _ ⟨S22_47, hl_v22_47, rfl⟩
            refine T.ef rfl rfl rfl (wanted_none rfl) (Runs.does (r_build (pl := [(0, 1), (1, 1), (2, 1)]) (qs := [(0, [v22_47]), (1, [v24_33]), (2, [v25_35])]) (cs := [v22_47, v24_33, v25_35]) (by kernel_rfl) ti148 rfl (.cons (sl_cells hl_v22_47) rfl (Nat.le_of_ble_eq_true rfl) (.cons (sl_cells hl_v24_33) rfl (Nat.le_of_ble_eq_true rfl) (.cons (sl_cells hl_v25_35) rfl (Nat.le_of_ble_eq_true rfl) .nil))) rfl rfl)) (by rintro _ _ ⟨rfl, rfl⟩; exact upd rfl [4, 5] rfl rfl) ?_ ?_
            ·rintro _ _ ⟨rfl, rfl⟩
             refine T.nil ?_
             refine F.ef0 rfl rfl (wanted_none rfl) (d_storeG0 (i := 3) (cs2 := [v22_47, v24_33, v25_35]) ti148 rfl rfl rfl rfl rfl (Nat.le_of_ble_eq_true rfl) (lf_cons (sl_leaf hl_v22_47) (lf_cons (sl_leaf hl_v24_33) (lf_cons (sl_leaf hl_v25_35) lf_nil)))) ?_
             rintro _ _ ⟨rfl, rfl⟩
             refine F.nil ?_
             cases hE_1
             refine Nrm.only [1, 2, 4, 5, 6] rfl ?_
             refine Nrm.pick [4, 5, 3, 0, 2, 1] rfl rfl ?_
             exact hj_1 _ _ ⟨v22_47, S22_47, v24_33, S24_33, v25_35, S25_35, b6_49, hl_v22_47, hl_v24_33, hl_v25_35, rfl, rfl⟩
            exact T.stop
           exact T.stop
          exact T.stop
         exact T.stop
       ·refine T.ef rfl rfl rfl (wanted_none rfl) (Makes.does (m_build0 (α := List Int) Try.underlying83 ti25)) (by rintro v25_36 _ ⟨S25_36, hl_v25_36, rfl⟩; exact upd rfl [2, 3] rfl rfl) ?_ ?_
        ·rintro v25_36 _ ⟨S25_36, hl_v25_36, rfl⟩
         refine T.ef rfl rfl rfl (wanted_none rfl) (Makes.does (m_make (x0 := (0 : Int)) Try.underlying25 ti3 rfl rfl rfl hm21.1 hm21.2 (by decide))) (by rintro v21_16 _ ⟨S21_16, hl_v21_16, rfl⟩; exact upd rfl [3, 4] rfl rfl) ?_ ?_
         ·rintro v21_16 _ ⟨S21_16, hl_v21_16, rfl⟩
          refine T.ef rfl rfl rfl (wanted_none rfl) (d_build1 (cells := [v21_16]) (x0 := (List.replicate ((a0_0.length : Int)).toNat (0 : Int) : List Int)) (cs := [R.sl S21_16 v21_16 (List.replicate ((a0_0.length : Int)).toNat (0 : Int) : List (Int))]) (rest := [R.sl S25_36 v25_36 (([] : List (List Int)) : List (List Int)), R.box b6_49 148 [.slice none 0 0, .slice none 0 0, .slice none 0 0], R.box b4_1 148 [.slice none 0 0, .slice none 0 0, .slice none 0 0], R.box b2_1 85 [va0_0, va0_1]]) [0] [1, 2, 3, 4] Try.underlying83 ti25 rfl (sl_cells hl_v21_16) rfl (lf_cons (sl_leaf hl_v21_16) lf_nil) rfl rfl (jn_sl (S := S21_16) (v := v21_16) (l := (List.replicate ((a0_0.length : Int)).toNat (0 : Int) : List (Int))))) (by rintro v22_48 _ ⟨S22_48, hl_v22_48, rfl⟩; exact upd rfl [3, 4] rfl rfl) ?_ ?_
          ·rintro v22_48 _ ⟨S22_48, hl_v22_48, rfl⟩
           refine T.ef rfl rfl rfl (wanted_none rfl) (Makes.does (m_callF (xs := _) rfl ok200 rfl rfl (fun w hw => spec_l10None.ok h24 w ))) (by rintro v24_34 _ ⟨_, ⟨S24_34, hl_v24_34, rfl⟩, rfl⟩; exact upd rfl [4, 5] rfl rfl) ?_ ?_
           ·rintro v24_34 _ ⟨_, ⟨S24_34, hl_v24_34, rfl⟩, rfl⟩
            refine T.ef rfl rfl rfl (wanted_none rfl) (Runs.does (r_build (pl := [(0, 1), (1, 1), (2, 1)]) (qs := [(0, [v22_48]), (1, [v24_34]), (2, [v25_36])]) (cs := [v22_48, v24_34, v25_36]) (by kernel_rfl) ti148 rfl (.cons (sl_cells hl_v22_48) rfl (Nat.le_of_ble_eq_true rfl) (.cons (sl_cells hl_v24_34) rfl (Nat.le_of_ble_eq_true rfl) (.cons (sl_cells hl_v25_36) rfl (Nat.le_of_ble_eq_true rfl) .nil))) rfl rfl)) (by rintro _ _ ⟨rfl, rfl⟩; exact upd rfl [4, 5] rfl rfl) ?_ ?_
            ·rintro _ _ ⟨rfl, rfl⟩
             refine T.nil ?_
             refine F.ef0 rfl rfl (wanted_none rfl) (d_storeG0 (i := 3) (cs2 := [v22_48, v24_34, v25_36]) ti148 rfl rfl rfl rfl rfl (Nat.le_of_ble_eq_true rfl) (lf_cons (sl_leaf hl_v22_48) (lf_cons (sl_leaf hl_v24_34) (lf_cons (sl_leaf hl_v25_36) lf_nil)))) ?_
             rintro _ _ ⟨rfl, rfl⟩
             refine F.nil ?_
             cases hE_1
             refine Nrm.only [1, 2, 4, 5, 6] rfl ?_
             refine Nrm.pick [4, 5, 3, 1, 0, 2] rfl rfl ?_
             exact hj_1 _ _ ⟨v22_48, S22_48, v24_34, S24_34, v25_36, S25_36, b6_49, hl_v22_48, hl_v24_34, hl_v25_36, rfl, rfl⟩
            exact T.stop
           exact T.stop
          ·refine T.ef rfl rfl rfl (wanted_none rfl) (Makes.does (m_callF (xs := _) rfl ok200 rfl rfl (fun w hw => spec_l10None.ok h24 w ))) (by rintro v24_35 _ ⟨_, ⟨S24_35, hl_v24_35, rfl⟩, rfl⟩; exact upd rfl [4, 5] rfl rfl) ?_ ?_
           ·rintro v24_35 _ ⟨_, ⟨S24_35, hl_v24_35, rfl⟩, rfl⟩
            refine T.ef rfl rfl rfl (wanted_none rfl) (d_build1 (cells := [v21_16]) (x0 := (List.replicate ((a0_0.length : Int)).toNat (0 : Int) : List Int)) (cs := [R.sl S21_16 v21_16 (List.replicate ((a0_0.length : Int)).toNat (0 : Int) : List (Int))]) (rest := [R.sl S24_35 v24_35 (t24 : List (Int)), R.sl S25_36 v25_36 (([] : List (List Int)) : List (List Int)), R.box b6_49 148 [.slice none 0 0, .slice none 0 0, .slice none 0 0], R.box b4_1 148 [.slice none 0 0, .slice none 0 0, .slice none 0 0], R.box b2_1 85 [va0_0, va0_1]]) [1] [0, 2, 3, 4, 5] Try.underlying83 ti25 rfl (sl_cells hl_v21_16) rfl (lf_cons (sl_leaf hl_v21_16) lf_nil) rfl rfl (jn_sl (S := S21_16) (v := v21_16) (l := (List.replicate ((a0_0.length : Int)).toNat (0 : Int) : List (Int))))) (by rintro v22_49 _ ⟨S22_49, hl_v22_49, rfl⟩; exact upd rfl [4, 5] rfl rfl) ?_ ?_
            ·rintro v22_49 _ ⟨S22_49, hl_v22_49, rfl⟩
             refine T.ef rfl rfl rfl (wanted_none rfl) (Runs.does (r_build (pl := [(0, 1), (1, 1), (2, 1)]) (qs := [(0, [v22_49]), (1, [v24_35]), (2, [v25_36])]) (cs := [v22_49, v24_35, v25_36]) (by kernel_rfl) ti148 rfl (.cons (sl_cells hl_v22_49) rfl (Nat.le_of_ble_eq_true rfl) (.cons (sl_cells hl_v24_35) rfl (Nat.le_of_ble_eq_true rfl) (.cons (sl_cells hl_v25_36) rfl (Nat.le_of_ble_eq_true rfl) .nil))) rfl rfl)) (by rintro _ _ ⟨rfl, rfl⟩; exact upd rfl [4, 5] rfl rfl) ?_ ?_
             ·rintro _ _ ⟨rfl, rfl⟩
              refine T.nil ?_
              refine F.ef0 rfl rfl (wanted_none rfl) (d_storeG0 (i := 3) (cs2 := [v22_49, v24_35, v25_36]) ti148 rfl rfl rfl rfl rfl (Nat.le_of_ble_eq_true rfl) (lf_cons (sl_leaf hl_v22_49) (lf_cons (sl_leaf hl_v24_35) (lf_cons (sl_leaf hl_v25_36) lf_nil)))) ?_
              rintro _ _ ⟨rfl, rfl⟩
              refine F.nil ?_
              cases hE_1
              refine Nrm.only [1, 2, 4, 5, 6] rfl ?_
              refine Nrm.pick [4, 5, 3, 0, 1, 2] rfl rfl ?_
              exact hj_1 _ _ ⟨v22_49, S22_49, v24_35, S24_35, v25_36, S25_36, b6_49, hl_v22_49, hl_v24_35, hl_v25_36, rfl, rfl⟩
             exact T.stop
            exact T.stop
           exact T.stop
         ·refine T.ef rfl rfl rfl (wanted_none rfl) (Makes.does (m_callF (xs := _) rfl ok200 rfl rfl (fun w hw => spec_l10None.ok h24 w ))) (by rintro v24_36 _ ⟨_, ⟨S24_36, hl_v24_36, rfl⟩, rfl⟩; exact upd rfl [3, 4] rfl rfl) ?_ ?_
          ·rintro v24_36 _ ⟨_, ⟨S24_36, hl_v24_36, rfl⟩, rfl⟩
           refine T.ef rfl rfl rfl (wanted_none rfl) (Makes.does (m_make (x0 := (0 : Int)) Try.underlying25 ti3 rfl rfl rfl hm21.1 hm21.2 (by decide))) (by rintro v21_17 _ ⟨S21_17, hl_v21_17, rfl⟩; exact upd rfl [4, 5] rfl rfl) ?_ ?_
           ·rintro v21_17 _ ⟨S21_17, hl_v21_17, rfl⟩
            refine T.ef rfl rfl rfl (wanted_none rfl) (d_build1 (cells := [v21_17]) (x0 := (List.replicate ((a0_0.length : Int)).toNat (0 : Int) : List Int)) (cs := [R.sl S21_17 v21_17 (List.replicate ((a0_0.length : Int)).toNat (0 : Int) : List (Int))]) (rest := [R.sl S24_36 v24_36 (t24 : List (Int)), R.sl S25_36 v25_36 (([] : List (List Int)) : List (List Int)), R.box b6_49 148 [.slice none 0 0, .slice none 0 0, .slice none 0 0], R.box b4_1 148 [.slice none 0 0, .slice none 0 0, .slice none 0 0], R.box b2_1 85 [va0_0, va0_1]]) [0] [1, 2, 3, 4, 5] Try.underlying83 ti25 rfl (sl_cells hl_v21_17) rfl (lf_cons (sl_leaf hl_v21_17) lf_nil) rfl rfl (jn_sl (S := S21_17) (v := v21_17) (l := (List.replicate ((a0_0.length : Int)).toNat (0 : Int) : List (Int))))) (by rintro v22_50 _ ⟨S22_50, hl_v22_50, rfl⟩; exact upd rfl [4, 5] rfl rfl) ?_ ?_
            ·rintro v22_50 _ ⟨S22_50, hl_v22_50, rfl⟩
             refine T.ef rfl rfl rfl (wanted_none rfl) (Runs.does (r_build (pl := [(0, 1), (1, 1), (2, 1)]) (qs := [(0, [v22_50]), (1, [v24_36]), (2, [v25_36])]) (cs := [v22_50, v24_36, v25_36]) (by kernel_rfl) ti148 rfl (.cons (sl_cells hl_v22_50) rfl (Nat.le_of_ble_eq_true rfl) (.cons (sl_cells hl_v24_36) rfl (Nat.le_of_ble_eq_true rfl) (.cons (sl_cells hl_v25_36) rfl (Nat.le_of_ble_eq_true rfl) .nil))) rfl rfl)) (by rintro _ _ ⟨rfl, rfl⟩; exact upd rfl [4, 5] rfl rfl) ?_ ?_
             ·rintro _ _ ⟨rfl, rfl⟩
              refine T.nil ?_
              refine F.ef0 rfl rfl (wanted_none rfl) (d_storeG0 (i := 3) (cs2 := [v22_50, v24_36, v25_36]) ti148 rfl rfl rfl rfl rfl (Nat.le_of_ble_eq_true rfl) (lf_cons (sl_leaf hl_v22_50) (lf_cons (sl_leaf hl_v24_36) (lf_cons (sl_leaf hl_v25_36) lf_nil)))) ?_
              rintro _ _ ⟨rfl, rfl⟩
              refine F.nil ?_
              cases hE_1
              refine Nrm.only [1, 2, 4, 5, 6] rfl ?_
              refine Nrm.pick [4, 5, 3, 0, 1, 2] rfl rfl ?_
              exact hj_1 _ _ ⟨v22_50, S22_50, v24_36, S24_36, v25_36, S25_36, b6_49, hl_v22_50, hl_v24_36, hl_v25_36, rfl, rfl⟩
             exact T.stop
            exact T.stop
           exact T.stop
          exact T.stop
        exact T.stop
     exact T.stop

end Go.Proofs

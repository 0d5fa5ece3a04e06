/- A part of the proof of FnAssumed: what the functions of the program compute, walked on the model. No condition. -/
import Derived.Shelf.SlGeneric
import Derived.Shelf.SortM.Plain
import Derived.Shelf.SortM.SortNone
import Derived.Test.YtebbaacgalipaaaChecked
import Derived.Test.YtebbaacgalipaaaFnAssumedB
import Derived.Test.YtebbaacgalipaaaFnAssumedC
set_option linter.unusedSimpArgs false
/- (*loop.example/g01158/spec.l1Cur).colours -/
namespace Go.Proofs
open Go Go.Ga
set_option linter.unusedVariables false
set_option maxRecDepth 100000
set_option maxHeartbeats 4000000
def spec_l1Cur_colours.l0 (k : Nat) (a0_0 : List By) : Nat → Int → Int → Int → Int → Option (Int × Int × Int)
 | 0, _, _, _, _ => none
 | n + 1, x3, x4, xpa0_1, xpa0_2 => (if (decide (x4 > 0)) = true then (spec_l1Cur_pick.f k a0_0 xpa0_1 xpa0_2 6).bind fun (t18_1, t18_2, t18_3) => if ¬ t18_1 < 0 then spec_l1Cur_colours.l0 k a0_0 n (bor x3 (shl 1 t18_1)) (w64 (x4 - 1)) t18_2 t18_3 else none else some (x3, xpa0_1, xpa0_2))

def spec_l1Cur_colours.f (k : Nat) (a0_0 : List By) (a0_1 : Int) (a0_2 : Int) : Option (Int × Int × Int) := (spec_l1Cur_one.f k a0_0 a0_1 a0_2 30).bind fun (t6_1, t6_2, t6_3) => (if t6_1 = true then (spec_l1Cur_among.f k a0_0 t6_2 t6_3 ([63, 64, (-1), 4611686018427387904] : List (Int))).bind fun (t9_1, t9_2, t9_3) => some (t9_1, t9_2, t9_3) else (spec_l1Cur_pick.f k a0_0 t6_2 t6_3 4).bind fun (t11_1, t11_2, t11_3) => (spec_l1Cur_colours.l0 k a0_0 k 0 t11_1 t11_2 t11_3).bind fun (x3, xpa0_1, xpa0_2) => some (x3, xpa0_1, xpa0_2))

theorem spec_l1Cur_colours.ok {k : Nat}  {a0_0 : List By} {a0_1 : Int} {a0_2 : Int} {r0 : Int} {r1 : Int} {r2 : Int} (h : spec_l1Cur_colours.f k a0_0 a0_1 a0_2 = some (r0, r1, r2)) (w : World) {pa0 : Nat} {va0_0 : Value} (hr_a0_0 : RdM w (footM [R.box pa0 100 [va0_0, .int .i64 a0_1, .int .u64 a0_2]]) va0_0 a0_0) (hw0 : Sep w (footM [R.box pa0 100 [va0_0, .int .i64 a0_1, .int .u64 a0_2]]) [R.box pa0 100 [va0_0, .int .i64 a0_1, .int .u64 a0_2]] w) :
  Calls Try.prog 134 ([.pointer (some ⟨pa0, 0, none⟩)] : List Value).toArray w (PostM (footM [R.box pa0 100 [va0_0, .int .i64 a0_1, .int .u64 a0_2]]) (fun u ns => u = .int .i64 r0 ∧ ns = [R.box pa0 100 [va0_0, .int .i64 r1, .int .u64 r2]]) w) := by
 unfold spec_l1Cur_colours.f at h
 have hl_va0_0 := hr_a0_0.len
 refine Calls.of_tri (N := 22) Try.func134 rfl rfl rfl hw0 ?_
 refine Tri.seq ?_
 refine Tri.reg (l := [0]) rfl ?_
 refine F.q rfl rfl rfl (wanted_none rfl) (r_assign rfl) ?_
 refine F.nil ?_
 refine Nrm.seq ?_
 refine Tri.seq ?_
 refine Tri.seq ?_
 obtain ⟨⟨t6_1, t6_2, t6_3⟩, h6, h⟩ := bind_some h
 refine Tri.reg (l := [0, 1]) rfl ?_
 refine F.q rfl rfl rfl (wanted_none rfl) (r_move rfl) ?_
 refine F.ef rfl rfl rfl (wanted_none rfl) (d_callM (xs := _) (cs := [R.box pa0 100 [va0_0, .int .i64 a0_1, .int .u64 a0_2]]) (rest := []) [0] [] rfl ok93 rfl rfl rfl rfl (fun w hw => spec_l1Cur_one.ok h6 w (hr_a0_0.down hw) (Sep.sub hw))) ?_
 rintro _ _ ⟨_, ⟨rfl, rfl⟩, rfl⟩
 refine F.nil ?_
 refine Nrm.seq ?_
 refine Tri.cond (b := t6_1) rfl (fun g_1 => ?_) (fun g_1 => ?_)
 ·replace h := if_tt g_1 h
  refine Tri.seq ?_
  obtain ⟨⟨t9_1, t9_2, t9_3⟩, h9, h⟩ := bind_some h
  refine Tri.reg (l := [0, 1, 2, 3]) rfl ?_
  refine F.q rfl rfl rfl (wanted_none rfl) (r_move rfl) ?_
  refine F.m rfl rfl rfl (wanted_none rfl) (m_buildF (l := ([63, 64, (-1), 4611686018427387904] : List (Int))) Try.underlying25 ti3 rfl rfl rfl rfl rfl) ?_
  rintro v8_1 _ ⟨S8_1, hl_v8_1, rfl⟩
  refine F.ef rfl rfl rfl (wanted_none rfl) (d_callM (xs := _) (cs := [R.box pa0 100 [va0_0, .int .i64 t6_2, .int .u64 t6_3]]) (rest := [R.sl S8_1 v8_1 (([63, 64, (-1), 4611686018427387904] : List (Int)) : List (Int))]) [1] [0] rfl ok96 rfl rfl rfl rfl (fun w hw => spec_l1Cur_among.ok h9 w (hr_a0_0.down hw) (rdm_sl (i := 0) rfl hw) (Sep.sub hw))) ?_
  rintro _ _ ⟨_, ⟨rfl, rfl⟩, rfl⟩
  refine F.q rfl rfl rfl (wanted_none rfl) (r_assign rfl) ?_
  refine F.nil ?_
  refine Nrm.seq ?_
  refine Tri.ret ?_
  refine Rtn.then ?_
  cases h
  exact Rtn.body (.tmp rfl .nil) (fun w hw => ⟨_, _, rfl, ⟨rfl, rfl⟩, Sep.pick (is := [0]) rfl rfl hw⟩)
 ·replace h := if_ff g_1 h
  refine Tri.skip ?_
  refine Nrm.seq ?_
  refine Tri.seq ?_
  refine Tri.reg (l := [0]) rfl ?_
  refine F.q rfl rfl rfl (wanted_none rfl) (r_assign rfl) ?_
  refine F.nil ?_
  refine Nrm.seq ?_
  refine Tri.seq ?_
  refine Tri.seq ?_
  obtain ⟨⟨t11_1, t11_2, t11_3⟩, h11, h⟩ := bind_some h
  refine Tri.reg (l := [0, 1, 2]) rfl ?_
  refine F.q rfl rfl rfl (wanted_none rfl) (r_move rfl) ?_
  refine F.ef rfl rfl rfl (wanted_none rfl) (d_callM (xs := _) (cs := [R.box pa0 100 [va0_0, .int .i64 t6_2, .int .u64 t6_3]]) (rest := []) [0] [] rfl ok95 rfl rfl rfl rfl (fun w hw => spec_l1Cur_pick.ok h11 w (hr_a0_0.down hw) (Sep.sub hw))) ?_
  rintro _ _ ⟨_, ⟨rfl, rfl⟩, rfl⟩
  refine F.q rfl rfl rfl (wanted_none rfl) (r_assign rfl) ?_
  refine F.nil ?_
  refine Nrm.seq ?_
  obtain ⟨⟨x3, xpa0_1, xpa0_2⟩, hE_1, h⟩ := bind_some h
  refine Tri.block ?_
  refine Tri.only [0, 3, 4] rfl ?_
  refine Tri.pick [0] rfl rfl ?_
  refine Tri.rounds (fun n e' C' => ∃ (x3' : Int) (x4' : Int) (xpa0_1' : Int) (xpa0_2' : Int), spec_l1Cur_colours.l0 k a0_0 n x3' x4' xpa0_1' xpa0_2' = some (x3, xpa0_1, xpa0_2) ∧ e' = [(0, .pointer (some ⟨pa0, 0, none⟩)), (3, .int .i64 x3'), (4, .int .i64 x4')] ∧ C' = Sep w (footM [R.box pa0 100 [va0_0, .int .i64 a0_1, .int .u64 a0_2]]) [R.box pa0 100 [va0_0, .int .i64 xpa0_1', .int .u64 xpa0_2']]) k ?_ ?_ ?_
  ·exact ⟨0, t11_1, t11_2, t11_3, hE_1, rfl, rfl⟩
  ·rintro _ _ ⟨_, _, _, _, hE_1, _⟩
   rw [spec_l1Cur_colours.l0.eq_1] at hE_1; cases hE_1
  ·rintro n_1 _ _ ⟨x3, x4, xpa0_1, xpa0_2, hE_1, rfl, rfl⟩ ih_1
   rw [spec_l1Cur_colours.l0.eq_2] at hE_1
   refine Tri.seq ?_
   refine Tri.seq ?_
   refine Tri.reg (l := [0, 1]) rfl ?_
   refine F.q rfl rfl rfl (wanted_none rfl) (r_move rfl) ?_
   refine F.q rfl rfl rfl (wanted_none rfl) (r_gtr rfl rfl) ?_
   refine F.nil ?_
   refine Nrm.seq ?_
   refine Tri.cond (b := decide (x4 > 0)) rfl (fun g_2 => ?_) (fun g_2 => ?_)
   ·replace hE_1 := if_tt g_2 hE_1
    refine Tri.skip ?_
    refine Nrm.seq ?_
    refine Tri.seq ?_
    refine Tri.block ?_
    obtain ⟨⟨t18_1, t18_2, t18_3⟩, h18, hE_1⟩ := bind_some hE_1
    obtain ⟨hs19, hE_1⟩ := ck hE_1
    refine Tri.reg (l := [0, 1, 2, 3, 4, 5]) rfl ?_
    refine F.q rfl rfl rfl (wanted_none rfl) (r_move rfl) ?_
    refine F.q rfl rfl rfl (wanted_none rfl) (r_move rfl) ?_
    refine F.ef rfl rfl rfl (wanted_none rfl) (d_callM (xs := _) (cs := [R.box pa0 100 [va0_0, .int .i64 xpa0_1, .int .u64 xpa0_2]]) (rest := []) [0] [] rfl ok95 rfl rfl rfl rfl (fun w hw => spec_l1Cur_pick.ok h18 w (hr_a0_0.down hw) (Sep.sub hw))) ?_
    rintro _ _ ⟨_, ⟨rfl, rfl⟩, rfl⟩
    refine F.q rfl rfl rfl (wanted_none rfl) (r_shl rfl rfl hs19) ?_
    refine F.q rfl rfl rfl (wanted_none rfl) (r_or rfl rfl) ?_
    refine F.q rfl rfl rfl (wanted_none rfl) (r_assign rfl) ?_
    refine F.nil ?_
    refine Nrm.block ?_
    refine Nrm.seq ?_
    refine Tri.reg (l := [0, 1, 2]) rfl ?_
    refine F.q rfl rfl rfl (wanted_none rfl) (r_move rfl) ?_
    refine F.q rfl rfl rfl (wanted_none rfl) (r_sub rfl rfl) ?_
    refine F.q rfl rfl rfl (wanted_none rfl) (r_assign rfl) ?_
    refine F.nil ?_
    refine Nrm.round ?_
    refine Rnd.only [0, 3, 4] rfl ?_
    refine Rnd.pick [0] rfl rfl ?_
    exact ih_1 _ _ ⟨bor x3 (shl 1 t18_1), w64 (x4 - 1), t18_2, t18_3, hE_1, rfl, rfl⟩
   ·replace hE_1 := if_ff g_2 hE_1
    refine Tri.exit ?_
    refine Exi.then ?_
    refine Exi.then ?_
    refine Exi.same ?_
    cases hE_1
    refine Nrm.seq ?_
    refine Tri.seq ?_
    refine Tri.reg (l := [0, 1]) rfl ?_
    refine F.q rfl rfl rfl (wanted_none rfl) (r_move rfl) ?_
    refine F.q rfl rfl rfl (wanted_none rfl) (r_assign rfl) ?_
    refine F.nil ?_
    refine Nrm.seq ?_
    refine Tri.ret ?_
    cases h
    exact Rtn.body (.tmp rfl .nil) (fun w hw => ⟨_, _, rfl, ⟨rfl, rfl⟩, Sep.pick (is := [0]) rfl rfl hw⟩)

end Go.Proofs

/- (*loop.example/g01158/spec.l1Cur).few -/
namespace Go.Proofs
open Go Go.Ga
set_option linter.unusedVariables false
set_option maxRecDepth 100000
set_option maxHeartbeats 4000000
def spec_l1Cur_few.l0 (k : Nat) (a0_0 : List By) (a1 : Int) : Nat → Int → Int → Int → Int → Option (Int × Int × Int)
 | 0, _, _, _, _ => none
 | n + 1, x5, x6, xpa0_1, xpa0_2 => (if (decide (x6 > 0)) = true then (spec_l1Cur_pick.f k a0_0 xpa0_1 xpa0_2 a1).bind fun (t17_1, t17_2, t17_3) => if ¬ t17_1 < 0 then spec_l1Cur_few.l0 k a0_0 a1 n (bor x5 (shl 1 t17_1)) (w64 (x6 - 1)) t17_2 t17_3 else none else some (x5, xpa0_1, xpa0_2))

def spec_l1Cur_few.f (k : Nat) (a0_0 : List By) (a0_1 : Int) (a0_2 : Int) (a1 : Int) : Option (Int × Int × Int) := (spec_l1Cur_among.f k a0_0 a0_1 a0_2 ([0, 1, 1, 1, 2] : List (Int))).bind fun (t9_1, t9_2, t9_3) => (spec_l1Cur_few.l0 k a0_0 a1 k 0 t9_1 t9_2 t9_3).bind fun (x5, xpa0_1, xpa0_2) => some (x5, xpa0_1, xpa0_2)

theorem spec_l1Cur_few.ok {k : Nat}  {a0_0 : List By} {a0_1 : Int} {a0_2 : Int} {a1 : Int} {r0 : Int} {r1 : Int} {r2 : Int} (h : spec_l1Cur_few.f k a0_0 a0_1 a0_2 a1 = some (r0, r1, r2)) (w : World) {pa0 : Nat} {va0_0 : Value} (hr_a0_0 : RdM w (footM [R.box pa0 100 [va0_0, .int .i64 a0_1, .int .u64 a0_2]]) va0_0 a0_0) (hw0 : Sep w (footM [R.box pa0 100 [va0_0, .int .i64 a0_1, .int .u64 a0_2]]) [R.box pa0 100 [va0_0, .int .i64 a0_1, .int .u64 a0_2]] w) :
  Calls Try.prog 205 ([.pointer (some ⟨pa0, 0, none⟩), .int .i64 a1] : List Value).toArray w (PostM (footM [R.box pa0 100 [va0_0, .int .i64 a0_1, .int .u64 a0_2]]) (fun u ns => u = .int .i64 r0 ∧ ns = [R.box pa0 100 [va0_0, .int .i64 r1, .int .u64 r2]]) w) := by
 unfold spec_l1Cur_few.f at h
 have hl_va0_0 := hr_a0_0.len
 refine Calls.of_tri (N := 21) Try.func205 rfl rfl rfl hw0 ?_
 refine Tri.seq ?_
 refine Tri.reg (l := [0]) rfl ?_
 refine F.q rfl rfl rfl (wanted_none rfl) (r_assign rfl) ?_
 refine F.nil ?_
 refine Nrm.seq ?_
 refine Tri.seq ?_
 refine Tri.reg (l := [0]) rfl ?_
 refine F.q rfl rfl rfl (wanted_none rfl) (r_assign rfl) ?_
 refine F.nil ?_
 refine Nrm.seq ?_
 refine Tri.seq ?_
 refine Tri.seq ?_
 obtain ⟨⟨t9_1, t9_2, t9_3⟩, h9, h⟩ := bind_some h
 refine Tri.reg (l := [0, 1, 2, 3]) rfl ?_
 refine F.q rfl rfl rfl (wanted_none rfl) (r_move rfl) ?_
 refine F.m rfl rfl rfl (wanted_none rfl) (m_buildF (l := ([0, 1, 1, 1, 2] : List (Int))) Try.underlying25 ti3 rfl rfl rfl rfl rfl) ?_
 rintro v8_1 _ ⟨S8_1, hl_v8_1, rfl⟩
 refine F.ef rfl rfl rfl (wanted_none rfl) (d_callM (xs := _) (cs := [R.box pa0 100 [va0_0, .int .i64 a0_1, .int .u64 a0_2]]) (rest := [R.sl S8_1 v8_1 (([0, 1, 1, 1, 2] : List (Int)) : List (Int))]) [1] [0] rfl ok96 rfl rfl rfl rfl (fun w hw => spec_l1Cur_among.ok h9 w (hr_a0_0.down hw) (rdm_sl (i := 0) rfl hw) (Sep.sub hw))) ?_
 rintro _ _ ⟨_, ⟨rfl, rfl⟩, rfl⟩
 refine F.q rfl rfl rfl (wanted_none rfl) (r_assign rfl) ?_
 refine F.nil ?_
 refine Nrm.seq ?_
 obtain ⟨⟨x5, xpa0_1, xpa0_2⟩, hE_1, h⟩ := bind_some h
 refine Tri.block ?_
 refine Tri.only [0, 1, 5, 6] rfl ?_
 refine Tri.pick [0] rfl rfl ?_
 refine Tri.rounds (fun n e' C' => ∃ (x5' : Int) (x6' : Int) (xpa0_1' : Int) (xpa0_2' : Int), spec_l1Cur_few.l0 k a0_0 a1 n x5' x6' xpa0_1' xpa0_2' = some (x5, xpa0_1, xpa0_2) ∧ e' = [(0, .pointer (some ⟨pa0, 0, none⟩)), (1, .int .i64 a1), (5, .int .i64 x5'), (6, .int .i64 x6')] ∧ C' = Sep w (footM [R.box pa0 100 [va0_0, .int .i64 a0_1, .int .u64 a0_2]]) [R.box pa0 100 [va0_0, .int .i64 xpa0_1', .int .u64 xpa0_2']]) k ?_ ?_ ?_
 ·exact ⟨0, t9_1, t9_2, t9_3, hE_1, rfl, rfl⟩
 ·rintro _ _ ⟨_, _, _, _, hE_1, _⟩
  rw [spec_l1Cur_few.l0.eq_1] at hE_1; cases hE_1
 ·rintro n_1 _ _ ⟨x5, x6, xpa0_1, xpa0_2, hE_1, rfl, rfl⟩ ih_1
  rw [spec_l1Cur_few.l0.eq_2] at hE_1
  refine Tri.seq ?_
  refine Tri.seq ?_
  refine Tri.reg (l := [0, 1]) rfl ?_
  refine F.q rfl rfl rfl (wanted_none rfl) (r_move rfl) ?_
  refine F.q rfl rfl rfl (wanted_none rfl) (r_gtr rfl rfl) ?_
  refine F.nil ?_
  refine Nrm.seq ?_
  refine Tri.cond (b := decide (x6 > 0)) rfl (fun g_1 => ?_) (fun g_1 => ?_)
  ·replace hE_1 := if_tt g_1 hE_1
   refine Tri.skip ?_
   refine Nrm.seq ?_
   refine Tri.seq ?_
   refine Tri.block ?_
   obtain ⟨⟨t17_1, t17_2, t17_3⟩, h17, hE_1⟩ := bind_some hE_1
   obtain ⟨hs18, hE_1⟩ := ck hE_1
   refine Tri.reg (l := [0, 1, 2, 3, 4, 5, 6]) rfl ?_
   iterate 3 refine F.q rfl rfl rfl (wanted_none rfl) (r_move rfl) ?_
   refine F.ef rfl rfl rfl (wanted_none rfl) (d_callM (xs := _) (cs := [R.box pa0 100 [va0_0, .int .i64 xpa0_1, .int .u64 xpa0_2]]) (rest := []) [0] [] rfl ok95 rfl rfl rfl rfl (fun w hw => spec_l1Cur_pick.ok h17 w (hr_a0_0.down hw) (Sep.sub hw))) ?_
   rintro _ _ ⟨_, ⟨rfl, rfl⟩, rfl⟩
   refine F.q rfl rfl rfl (wanted_none rfl) (r_shl rfl rfl hs18) ?_
   refine F.q rfl rfl rfl (wanted_none rfl) (r_or rfl rfl) ?_
   refine F.q rfl rfl rfl (wanted_none rfl) (r_assign rfl) ?_
   refine F.nil ?_
   refine Nrm.block ?_
   refine Nrm.seq ?_
   refine Tri.reg (l := [0, 1, 2]) rfl ?_
   refine F.q rfl rfl rfl (wanted_none rfl) (r_move rfl) ?_
   refine F.q rfl rfl rfl (wanted_none rfl) (r_sub rfl rfl) ?_
   refine F.q rfl rfl rfl (wanted_none rfl) (r_assign rfl) ?_
   refine F.nil ?_
   refine Nrm.round ?_
   refine Rnd.only [0, 1, 5, 6] rfl ?_
   refine Rnd.pick [0] rfl rfl ?_
   exact ih_1 _ _ ⟨bor x5 (shl 1 t17_1), w64 (x6 - 1), t17_2, t17_3, hE_1, rfl, rfl⟩
  ·replace hE_1 := if_ff g_1 hE_1
   refine Tri.exit ?_
   refine Exi.then ?_
   refine Exi.then ?_
   refine Exi.same ?_
   cases hE_1
   refine Nrm.seq ?_
   refine Tri.seq ?_
   refine Tri.reg (l := [0, 1]) rfl ?_
   refine F.q rfl rfl rfl (wanted_none rfl) (r_move rfl) ?_
   refine F.q rfl rfl rfl (wanted_none rfl) (r_assign rfl) ?_
   refine F.nil ?_
   refine Nrm.seq ?_
   refine Tri.ret ?_
   cases h
   exact Rtn.body (.tmp rfl .nil) (fun w hw => ⟨_, _, rfl, ⟨rfl, rfl⟩, Sep.pick (is := [0]) rfl rfl hw⟩)

end Go.Proofs

/- loop.example/g01158/spec.l1Most -/

namespace Go.Proofs
open Go Go.Ga
set_option linter.unusedVariables false
set_option maxRecDepth 100000
set_option maxHeartbeats 4000000
def spec_l1Most.f (k : Nat) (a0 : Int) (a1 : Int) : Option (Int) := (if (decide (a0 > a1)) = true then some a0 else some a1)

theorem spec_l1Most.ok {k : Nat}  {a0 : Int} {a1 : Int} {r0 : Int} (h : spec_l1Most.f k a0 a1 = some r0) (w : World) :
  Calls Try.prog 180 ([.int .i64 a0, .int .i64 a1] : List Value).toArray w (fun e w' => e = .returned (.int .i64 r0) ∧ Ext w w') := by
 unfold spec_l1Most.f at h
 refine Calls.of_tri (N := 10) Try.func180 rfl rfl rfl (Sep.nil (M := noM)) ?_
 refine Tri.seq ?_
 refine Tri.reg (l := [0]) rfl ?_
 refine F.q rfl rfl rfl (wanted_none rfl) (r_assign rfl) ?_
 refine F.nil ?_
 refine Nrm.seq ?_
 refine Tri.seq ?_
 refine Tri.seq ?_
 refine Tri.reg (l := [0, 1, 2]) rfl ?_
 refine F.q rfl rfl rfl (wanted_none rfl) (r_move rfl) ?_
 refine F.q rfl rfl rfl (wanted_none rfl) (r_move rfl) ?_
 refine F.q rfl rfl rfl (wanted_none rfl) (r_gtr rfl rfl) ?_
 refine F.nil ?_
 refine Nrm.seq ?_
 refine Tri.cond (b := decide (a0 > a1)) rfl (fun g_1 => ?_) (fun g_1 => ?_)
 ·replace h := if_tt g_1 h
  refine Tri.seq ?_
  refine Tri.reg (l := [0, 1]) rfl ?_
  refine F.q rfl rfl rfl (wanted_none rfl) (r_move rfl) ?_
  refine F.q rfl rfl rfl (wanted_none rfl) (r_assign rfl) ?_
  refine F.nil ?_
  refine Nrm.seq ?_
  refine Tri.ret ?_
  refine Rtn.then ?_
  cases h
  exact Rtn.body (.tmp rfl .nil) (fun w hw => ⟨rfl, hw.ext⟩)
 ·replace h := if_ff g_1 h
  refine Tri.skip ?_
  refine Nrm.seq ?_
  refine Tri.seq ?_
  refine Tri.reg (l := [0, 1]) rfl ?_
  refine F.q rfl rfl rfl (wanted_none rfl) (r_move rfl) ?_
  refine F.q rfl rfl rfl (wanted_none rfl) (r_assign rfl) ?_
  refine F.nil ?_
  refine Nrm.seq ?_
  refine Tri.ret ?_
  cases h
  exact Rtn.body (.tmp rfl .nil) (fun w hw => ⟨rfl, hw.ext⟩)

end Go.Proofs

/- loop.example/g01158/spec.l1Least -/

namespace Go.Proofs
open Go Go.Ga
set_option linter.unusedVariables false
set_option maxRecDepth 100000
set_option maxHeartbeats 4000000
def spec_l1Least.f (k : Nat) (a0 : Int) (a1 : Int) : Option (Int) := (if (decide (a0 < a1)) = true then some a0 else some a1)

theorem spec_l1Least.ok {k : Nat}  {a0 : Int} {a1 : Int} {r0 : Int} (h : spec_l1Least.f k a0 a1 = some r0) (w : World) :
  Calls Try.prog 181 ([.int .i64 a0, .int .i64 a1] : List Value).toArray w (fun e w' => e = .returned (.int .i64 r0) ∧ Ext w w') := by
 unfold spec_l1Least.f at h
 refine Calls.of_tri (N := 10) Try.func181 rfl rfl rfl (Sep.nil (M := noM)) ?_
 refine Tri.seq ?_
 refine Tri.reg (l := [0]) rfl ?_
 refine F.q rfl rfl rfl (wanted_none rfl) (r_assign rfl) ?_
 refine F.nil ?_
 refine Nrm.seq ?_
 refine Tri.seq ?_
 refine Tri.seq ?_
 refine Tri.reg (l := [0, 1, 2]) rfl ?_
 refine F.q rfl rfl rfl (wanted_none rfl) (r_move rfl) ?_
 refine F.q rfl rfl rfl (wanted_none rfl) (r_move rfl) ?_
 refine F.q rfl rfl rfl (wanted_none rfl) (r_lss rfl rfl) ?_
 refine F.nil ?_
 refine Nrm.seq ?_
 refine Tri.cond (b := decide (a0 < a1)) rfl (fun g_1 => ?_) (fun g_1 => ?_)
 ·replace h := if_tt g_1 h
  refine Tri.seq ?_
  refine Tri.reg (l := [0, 1]) rfl ?_
  refine F.q rfl rfl rfl (wanted_none rfl) (r_move rfl) ?_
  refine F.q rfl rfl rfl (wanted_none rfl) (r_assign rfl) ?_
  refine F.nil ?_
  refine Nrm.seq ?_
  refine Tri.ret ?_
  refine Rtn.then ?_
  cases h
  exact Rtn.body (.tmp rfl .nil) (fun w hw => ⟨rfl, hw.ext⟩)
 ·replace h := if_ff g_1 h
  refine Tri.skip ?_
  refine Nrm.seq ?_
  refine Tri.seq ?_
  refine Tri.reg (l := [0, 1]) rfl ?_
  refine F.q rfl rfl rfl (wanted_none rfl) (r_move rfl) ?_
  refine F.q rfl rfl rfl (wanted_none rfl) (r_assign rfl) ?_
  refine F.nil ?_
  refine Nrm.seq ?_
  refine Tri.ret ?_
  cases h
  exact Rtn.body (.tmp rfl .nil) (fun w hw => ⟨rfl, hw.ext⟩)

end Go.Proofs

/- loop.example/g01158/spec.l2Before -/

namespace Go.Proofs
open Go Go.Ga
set_option linter.unusedVariables false
set_option maxRecDepth 100000
set_option maxHeartbeats 4000000
def spec_l2Before.l0 (k : Nat) (a0_0 : Int) (a0_1 : Int) (a0_2 : Int) (a1_0 : Int) (a1_1 : Int) (a1_2 : Int) : Nat → Int → Option ((Unit) ⊕ (Bool))
 | 0, _ => none
 | n + 1, x5 => (if (decide (x5 < 3)) = true then (rdl [a0_0, a0_1, a0_2] x5).bind fun t11 => (rdl [a1_0, a1_1, a1_2] x5).bind fun t14 => (if (t11 != t14) = true then (rdl [a0_0, a0_1, a0_2] x5).bind fun t18 => (rdl [a1_0, a1_1, a1_2] x5).bind fun t21 => some (Sum.inr (decide (t18 < t21))) else spec_l2Before.l0 k a0_0 a0_1 a0_2 a1_0 a1_1 a1_2 n (w64 (x5 + 1))) else some (Sum.inl ()))

def spec_l2Before.f (k : Nat) (a0_0 : Int) (a0_1 : Int) (a0_2 : Int) (a1_0 : Int) (a1_1 : Int) (a1_2 : Int) : Option (Bool) := (spec_l2Before.l0 k a0_0 a0_1 a0_2 a1_0 a1_1 a1_2 k 0).bind fun s => Lr s some fun _ => some false

theorem spec_l2Before.ok {k : Nat}  {a0_0 : Int} {a0_1 : Int} {a0_2 : Int} {a1_0 : Int} {a1_1 : Int} {a1_2 : Int} {r0 : Bool} (h : spec_l2Before.f k a0_0 a0_1 a0_2 a1_0 a1_1 a1_2 = some r0) (w : World) :
  Calls Try.prog 213 ([.agg ([.int .i64 a0_0, .int .i64 a0_1, .int .i64 a0_2].toArray), .agg ([.int .i64 a1_0, .int .i64 a1_1, .int .i64 a1_2].toArray)] : List Value).toArray w (fun e w' => e = .returned (.bool r0) ∧ Ext w w') := by
 unfold spec_l2Before.f at h
 refine Calls.of_tri (N := 24) Try.func213 rfl rfl rfl (Sep.nil (M := noM)) ?_
 refine Tri.seq ?_
 refine Tri.reg (l := [0, 1, 2]) rfl ?_
 refine F.m rfl rfl rfl (wanted_none rfl) (m_boxG rfl rfl) ?_
 rintro _ _ ⟨b2_1, rfl, rfl⟩
 refine F.m rfl rfl rfl (wanted_none rfl) (m_boxG rfl rfl) ?_
 rintro _ _ ⟨b3_1, rfl, rfl⟩
 refine F.q rfl rfl rfl (wanted_none rfl) (r_assign rfl) ?_
 refine F.nil ?_
 refine Nrm.seq ?_
 refine Tri.seq ?_
 refine Tri.seq ?_
 refine Tri.reg (l := [0]) rfl ?_
 refine F.q rfl rfl rfl (wanted_none rfl) (r_assign rfl) ?_
 refine F.nil ?_
 refine Nrm.seq ?_
 obtain ⟨s0, hE_1, h⟩ := bind_some h
 refine Tri.block ?_
 refine Tri.only [2, 3, 5] rfl ?_
 refine Tri.pick [0, 1] rfl rfl ?_
 refine Tri.rounds (fun n e' C' => ∃ (x5' : Int), spec_l2Before.l0 k a0_0 a0_1 a0_2 a1_0 a1_1 a1_2 n x5' = some s0 ∧ e' = [(2, .pointer (some ⟨b2_1, 0, none⟩)), (3, .pointer (some ⟨b3_1, 0, none⟩)), (5, .int .i64 x5')] ∧ C' = Sep w noM [R.box b3_1 121 [.int .i64 a1_0, .int .i64 a1_1, .int .i64 a1_2], R.box b2_1 121 [.int .i64 a0_0, .int .i64 a0_1, .int .i64 a0_2]]) k ?_ ?_ ?_
 ·exact ⟨0, hE_1, rfl, rfl⟩
 ·rintro _ _ ⟨_, hE_1, _⟩
  rw [spec_l2Before.l0.eq_1] at hE_1; cases hE_1
 ·rintro n_1 _ _ ⟨x5, hE_1, rfl, rfl⟩ ih_1
  rw [spec_l2Before.l0.eq_2] at hE_1
  refine Tri.seq ?_
  refine Tri.seq ?_
  refine Tri.reg (l := [0, 1]) rfl ?_
  refine F.q rfl rfl rfl (wanted_none rfl) (r_move rfl) ?_
  refine F.q rfl rfl rfl (wanted_none rfl) (r_lss rfl rfl) ?_
  refine F.nil ?_
  refine Nrm.seq ?_
  refine Tri.cond (b := decide (x5 < 3)) rfl (fun g_1 => ?_) (fun g_1 => ?_)
  ·replace hE_1 := if_tt g_1 hE_1
   refine Tri.skip ?_
   refine Nrm.seq ?_
   refine Tri.seq ?_
   refine Tri.block ?_
   refine Tri.seq ?_
   obtain ⟨t11, h11, hE_1⟩ := bind_some hE_1
   obtain ⟨t14, h14, hE_1⟩ := bind_some hE_1
   refine Tri.drawA mixedT Sep.up [(0, true), (1, true), (2, true), (3, true), (4, true), (5, true), (6, true)] [] (by kernel_rfl) ?_
   refine S.q rfl rfl rfl (wanted_none rfl) (r_move rfl) ?_
   refine S.q rfl rfl rfl (wanted_none rfl) (r_indexAddrA Try.underlying121 ti3 rfl rfl (rdl_some h11).1 (rdl_some h11).2.1) ?_
   refine S.q rfl rfl rfl (wanted_none rfl) (r_load ta3 rfl (fun w hw => cell_dynB (box_cells (i := 1) rfl w hw) rfl h11)) ?_
   refine S.q rfl rfl rfl (wanted_none rfl) (r_move rfl) ?_
   refine S.q rfl rfl rfl (wanted_none rfl) (r_indexAddrA Try.underlying121 ti3 rfl rfl (rdl_some h14).1 (rdl_some h14).2.1) ?_
   refine S.q rfl rfl rfl (wanted_none rfl) (r_load ta3 rfl (fun w hw => cell_dynB (box_cells (i := 0) rfl w hw) rfl h14)) ?_
   refine S.q rfl rfl rfl (wanted_none rfl) (r_neq rfl rfl) ?_
   refine S.nil ?_
   refine F.nil ?_
   refine Nrm.seq ?_
   refine Tri.cond (b := t11 != t14) rfl (fun g_2 => ?_) (fun g_2 => ?_)
   ·replace hE_1 := if_tt g_2 hE_1
    refine Tri.seq ?_
    obtain ⟨t18, h18, hE_1⟩ := bind_some hE_1
    obtain ⟨t21, h21, hE_1⟩ := bind_some hE_1
    refine Tri.drawA mixedT Sep.up [(0, true), (1, true), (2, true), (3, true), (4, true), (5, true), (6, true), (7, true)] [] (by kernel_rfl) ?_
    refine S.q rfl rfl rfl (wanted_none rfl) (r_move rfl) ?_
    refine S.q rfl rfl rfl (wanted_none rfl) (r_indexAddrA Try.underlying121 ti3 rfl rfl (rdl_some h18).1 (rdl_some h18).2.1) ?_
    refine S.q rfl rfl rfl (wanted_none rfl) (r_load ta3 rfl (fun w hw => cell_dynB (box_cells (i := 1) rfl w hw) rfl h18)) ?_
    refine S.q rfl rfl rfl (wanted_none rfl) (r_move rfl) ?_
    refine S.q rfl rfl rfl (wanted_none rfl) (r_indexAddrA Try.underlying121 ti3 rfl rfl (rdl_some h21).1 (rdl_some h21).2.1) ?_
    refine S.q rfl rfl rfl (wanted_none rfl) (r_load ta3 rfl (fun w hw => cell_dynB (box_cells (i := 0) rfl w hw) rfl h21)) ?_
    refine S.q rfl rfl rfl (wanted_none rfl) (r_lss rfl rfl) ?_
    refine S.q rfl rfl rfl (wanted_none rfl) (r_assign rfl) ?_
    refine S.nil ?_
    refine F.nil ?_
    refine Nrm.seq ?_
    refine Tri.ret ?_
    refine Rtn.block ?_
    refine Rtn.then ?_
    refine Rtn.then ?_
    refine Rtn.block ?_
    refine Rtn.then ?_
    cases hE_1
    replace h := Lr_inr h
    cases h
    exact Rtn.body (.tmp rfl .nil) (fun w hw => ⟨rfl, hw.ext⟩)
   ·replace hE_1 := if_ff g_2 hE_1
    refine Tri.skip ?_
    refine Nrm.block ?_
    refine Nrm.seq ?_
    refine Tri.reg (l := [0, 1, 2]) rfl ?_
    refine F.q rfl rfl rfl (wanted_none rfl) (r_move rfl) ?_
    refine F.q rfl rfl rfl (wanted_none rfl) (r_add rfl rfl) ?_
    refine F.q rfl rfl rfl (wanted_none rfl) (r_assign rfl) ?_
    refine F.nil ?_
    refine Nrm.round ?_
    refine Rnd.only [2, 3, 5] rfl ?_
    refine Rnd.pick [0, 1] rfl rfl ?_
    exact ih_1 _ _ ⟨w64 (x5 + 1), hE_1, rfl, rfl⟩
  ·replace hE_1 := if_ff g_1 hE_1
   refine Tri.exit ?_
   refine Exi.then ?_
   refine Exi.then ?_
   refine Exi.same ?_
   cases hE_1
   replace h := Lr_inl h
   refine Nrm.seq ?_
   refine Tri.seq ?_
   refine Tri.reg (l := [0]) rfl ?_
   refine F.q rfl rfl rfl (wanted_none rfl) (r_assign rfl) ?_
   refine F.nil ?_
   refine Nrm.seq ?_
   refine Tri.ret ?_
   cases h
   exact Rtn.body (.tmp rfl .nil) (fun w hw => ⟨rfl, hw.ext⟩)

end Go.Proofs

/- loop.example/g01158/spec.l2Put -/
namespace Go.Proofs
open Go Go.Ga
set_option linter.unusedVariables false
set_option maxRecDepth 100000
set_option maxHeartbeats 4000000
def spec_l2Put.l0 (k : Nat) (a0 : List (Int × Int × Int)) (a3 : Int) (t13 : Int) (t16 : Int) : Nat → Int → Option (Int)
 | 0, _ => none
 | n + 1, x10 => ((if (decide (x10 < (a0.length : Int))) = true then (rdl a0 x10).bind fun t26 => (spec_l2Before.f k t26.1 t26.2.1 t26.2.2 t13 t16 a3).bind fun t29 => some t29 else some false)).bind fun y30 => (if y30 = true then spec_l2Put.l0 k a0 a3 t13 t16 n (w64 (x10 + 1)) else some x10)

def spec_l2Put.f (k : Nat) (a0 : List (Int × Int × Int)) (a1 : Int) (a2 : Int) (a3 : Int) : Option ((List (Int × Int × Int))) := (spec_l1Least.f k a1 a2).bind fun t13 => (spec_l1Most.f k a1 a2).bind fun t16 => (spec_l2Put.l0 k a0 a3 t13 t16 k 0).bind fun x10 => ((if (decide (x10 < (a0.length : Int))) = true then (rdl a0 x10).bind fun t40 => some (decide ((t40.1, t40.2.1, t40.2.2) = (t13, t16, a3))) else some false)).bind fun y44 => (if y44 = true then some a0 else ((slc a0 0 x10).bind fun t49 => (slc a0 x10 (a0.length : Int)).bind fun t56 => if (([] : List (Int × Int × Int)) ++ t49).length < 1099511627776 then if ((([] : List (Int × Int × Int)) ++ t49) ++ ([(t13, t16, a3)] : List (Int × Int × Int))).length < 1099511627776 then if (((([] : List (Int × Int × Int)) ++ t49) ++ ([(t13, t16, a3)] : List (Int × Int × Int))) ++ t56).length < 1099511627776 then some (((([] : List (Int × Int × Int)) ++ t49) ++ ([(t13, t16, a3)] : List (Int × Int × Int))) ++ t56) else none else none else none).bind fun y8 => some y8)

theorem spec_l2Put.ok {k : Nat}  {a0 : List (Int × Int × Int)} {a1 : Int} {a2 : Int} {a3 : Int} {r0 : List (Int × Int × Int)} (h : spec_l2Put.f k a0 a1 a2 a3 = some r0) (w : World) {va0 : Value} {Sa0 : Nat → Prop} (hl_va0 : SlLen va0 a0.length) (hw0 : Sep w (footM [R.sl Sa0 va0 a0]) [R.sl Sa0 va0 a0] w) :
  Calls Try.prog 206 ([va0, .int .i64 a1, .int .i64 a2, .int .i64 a3] : List Value).toArray w (PostM (footM [R.sl Sa0 va0 a0]) (fun u ns => ∃ (Sr0 : Nat → Prop), SlLen u r0.length ∧ ns = [R.sl Sr0 u r0]) w) := by
 unfold spec_l2Put.f at h
 refine Calls.of_tri (N := 58) Try.func206 rfl rfl rfl hw0 ?_
 refine Tri.seq ?_
 refine Tri.reg (l := [0]) rfl ?_
 refine F.q rfl rfl rfl (wanted_none rfl) (r_assign rfl) ?_
 refine F.nil ?_
 refine Nrm.seq ?_
 refine Tri.seq ?_
 obtain ⟨t13, h13, h⟩ := bind_some h
 obtain ⟨t16, h16, h⟩ := bind_some h
 refine Tri.reg (l := [0, 1, 2, 3, 4, 5, 6, 7, 8, 9]) rfl ?_
 refine F.q rfl rfl rfl (wanted_none rfl) (r_move rfl) ?_
 refine F.q rfl rfl rfl (wanted_none rfl) (r_move rfl) ?_
 refine F.qc rfl rfl rfl (wanted_none rfl) (q_callF (xs := _) rfl ok181 rfl rfl (fun w hw => spec_l1Least.ok h13 w )) ?_
 refine F.q rfl rfl rfl (wanted_none rfl) (r_move rfl) ?_
 refine F.q rfl rfl rfl (wanted_none rfl) (r_move rfl) ?_
 refine F.qc rfl rfl rfl (wanted_none rfl) (q_callF (xs := _) rfl ok180 rfl rfl (fun w hw => spec_l1Most.ok h16 w )) ?_
 refine F.q rfl rfl rfl (wanted_none rfl) (r_move rfl) ?_
 refine F.q rfl rfl rfl (wanted_none rfl) (r_buildA (qs := [(0, [.int .i64 t13]), (1, [.int .i64 t16]), (2, [.int .i64 a3])]) (cs := [.int .i64 t13, .int .i64 t16, .int .i64 a3]) Try.underlying121 ti3 ti121 rfl (.cons rfl rfl (Nat.le_of_ble_eq_true rfl) (.cons rfl rfl (Nat.le_of_ble_eq_true rfl) (.cons rfl rfl (Nat.le_of_ble_eq_true rfl) .nil))) rfl rfl) ?_
 refine F.m rfl rfl rfl (wanted_none rfl) (m_alloc ti121) ?_
 rintro _ _ ⟨b9_1, rfl, rfl⟩
 refine F.ef0 rfl rfl (wanted_none rfl) (d_storeG0 (i := 0) (cs2 := [.int .i64 t13, .int .i64 t16, .int .i64 a3]) ti121 rfl rfl rfl rfl rfl (Nat.le_of_ble_eq_true rfl) (lf_cons rfl (lf_cons rfl (lf_cons rfl lf_nil)))) ?_
 rintro _ _ ⟨rfl, rfl⟩
 refine F.nil ?_
 refine Nrm.seq ?_
 refine Tri.seq ?_
 refine Tri.reg (l := [0]) rfl ?_
 refine F.q rfl rfl rfl (wanted_none rfl) (r_assign rfl) ?_
 refine F.nil ?_
 refine Nrm.seq ?_
 refine Tri.seq ?_
 obtain ⟨x10, hE_1, h⟩ := bind_some h
 refine Tri.block ?_
 refine Tri.only [0, 9, 10] rfl ?_
 refine Tri.pick [0, 1] rfl rfl ?_
 refine Tri.rounds (fun n e' C' => ∃ (x10' : Int), spec_l2Put.l0 k a0 a3 t13 t16 n x10' = some x10 ∧ e' = [(0, va0), (9, .pointer (some ⟨b9_1, 0, none⟩)), (10, .int .i64 x10')] ∧ C' = Sep w (footM [R.sl Sa0 va0 a0]) [R.box b9_1 121 [.int .i64 t13, .int .i64 t16, .int .i64 a3], R.sl Sa0 va0 (a0 : List (Int × Int × Int))]) k ?_ ?_ ?_
 ·exact ⟨0, hE_1, rfl, rfl⟩
 ·rintro _ _ ⟨_, hE_1, _⟩
  rw [spec_l2Put.l0.eq_1] at hE_1; cases hE_1
 ·rintro n_1 _ _ ⟨x10, hE_1, rfl, rfl⟩ ih_1
  rw [spec_l2Put.l0.eq_2] at hE_1
  refine Tri.seq ?_
  refine Tri.seq ?_
  obtain ⟨y30, hE_2, hE_1⟩ := bind_some hE_1
  refine Tri.cut (fun e' C' => e' = [(0, va0), (9, .pointer (some ⟨b9_1, 0, none⟩)), (10, .int .i64 x10), (30, .bool y30)] ∧ C' = Sep w (footM [R.sl Sa0 va0 a0]) [R.box b9_1 121 [.int .i64 t13, .int .i64 t16, .int .i64 a3], R.sl Sa0 va0 (a0 : List (Int × Int × Int))]) ?_ (fun hj_1 => ?_)
  ·rintro _ _ ⟨rfl, rfl⟩
   refine Nrm.seq ?_
   refine Tri.cond (b := y30) rfl (fun g_1 => ?_) (fun g_1 => ?_)
   ·replace hE_1 := if_tt g_1 hE_1
    refine Tri.skip ?_
    refine Nrm.seq ?_
    refine Tri.block ?_
    refine Tri.reg (l := [0, 1, 2]) rfl ?_
    refine F.q rfl rfl rfl (wanted_none rfl) (r_move rfl) ?_
    refine F.q rfl rfl rfl (wanted_none rfl) (r_add rfl rfl) ?_
    refine F.q rfl rfl rfl (wanted_none rfl) (r_assign rfl) ?_
    refine F.nil ?_
    refine Nrm.block ?_
    refine Nrm.round ?_
    refine Rnd.only [0, 9, 10] rfl ?_
    refine Rnd.pick [0, 1] rfl rfl ?_
    exact ih_1 _ _ ⟨w64 (x10 + 1), hE_1, rfl, rfl⟩
   ·replace hE_1 := if_ff g_1 hE_1
    refine Tri.exit ?_
    refine Exi.then ?_
    refine Exi.then ?_
    refine Exi.same ?_
    cases hE_1
    refine Nrm.seq ?_
    refine Tri.seq ?_
    refine Tri.seq ?_
    obtain ⟨y44, hE_3, h⟩ := bind_some h
    refine Tri.cut (fun e' C' => e' = [(0, va0), (9, .pointer (some ⟨b9_1, 0, none⟩)), (10, .int .i64 x10), (44, .bool y44)] ∧ C' = Sep w (footM [R.sl Sa0 va0 a0]) [R.box b9_1 121 [.int .i64 t13, .int .i64 t16, .int .i64 a3], R.sl Sa0 va0 (a0 : List (Int × Int × Int))]) ?_ (fun hj_2 => ?_)
    ·rintro _ _ ⟨rfl, rfl⟩
     refine Nrm.seq ?_
     refine Tri.cond (b := y44) rfl (fun g_2 => ?_) (fun g_2 => ?_)
     ·replace h := if_tt g_2 h
      refine Tri.seq ?_
      refine Tri.reg (l := [0, 1]) rfl ?_
      refine F.q rfl rfl rfl (wanted_none rfl) (r_move rfl) ?_
      refine F.q rfl rfl rfl (wanted_none rfl) (r_assign rfl) ?_
      refine F.nil ?_
      refine Nrm.seq ?_
      refine Tri.ret ?_
      refine Rtn.then ?_
      cases h
      exact Rtn.body (.tmp rfl .nil) (fun w hw => ⟨_, _, rfl, ⟨Sa0, hl_va0, rfl⟩, Sep.pick (is := [1]) rfl rfl hw⟩)
     ·replace h := if_ff g_2 h
      refine Tri.skip ?_
      refine Nrm.seq ?_
      refine Tri.seq ?_
      obtain ⟨y8, hE_4, h⟩ := bind_some h
      refine Tri.cut (fun e' C' => ∃ (v8_1 : Value) (S8_1 : Nat → Prop), SlLen v8_1 (y8).length ∧ e' = [(8, v8_1)] ∧ C' = Sep w (footM [R.sl Sa0 va0 a0]) [R.sl S8_1 v8_1 (y8 : List (Int × Int × Int))]) ?_ (fun hj_3 => ?_)
      ·rintro _ _ ⟨v8_1, S8_1, hl_v8_1, rfl, rfl⟩
       refine Nrm.seq ?_
       refine Tri.ret ?_
       cases h
       exact Rtn.body (.tmp rfl .nil) (fun w hw => ⟨_, _, rfl, ⟨S8_1, hl_v8_1, rfl⟩, Sep.pick (is := [0]) rfl rfl hw⟩)
      ·obtain ⟨t49, h49, hE_4⟩ := bind_some hE_4
       obtain ⟨t56, h56, hE_4⟩ := bind_some hE_4
       obtain ⟨hs50, hE_4⟩ := ck hE_4
       obtain ⟨hs53, hE_4⟩ := ck hE_4
       obtain ⟨hs57, hE_4⟩ := ck hE_4
       refine Tri.drawT mixedT Sep.up [1, 2, 3, 5, 8, 9, 10, 0, 4, 6, 7] [11, 12] (.q 1 (.q 2 (.q 3 (.q 5 (.q 8 (.q 9 (.q 10 (.alt 0 (.alt 4 (.alt 6 (.alt 7 .nil .stop) .stop) (.alt 6 (.alt 4 (.alt 7 .nil .stop) .stop) .stop)) (.alt 6 (.alt 0 (.alt 4 (.alt 7 .nil .stop) .stop) .stop) .stop))))))))) (by kernel_rfl) ?_
       refine T.q rfl rfl rfl (wanted_none rfl) (r_move rfl) ?_
       refine T.q rfl rfl rfl (wanted_none rfl) (r_move rfl) ?_
       refine T.q rfl rfl rfl (wanted_none rfl) (r_sliceH Try.underlying24 ti121 rfl (rd_sl (i := 1) rfl) rfl h49) ?_
       refine T.q rfl rfl rfl (wanted_none rfl) (r_loadA ta121 ti121 rfl rfl (fun w hw => (box_cells (i := 0) rfl w hw))) ?_
       refine T.q rfl rfl rfl (wanted_none rfl) (r_move rfl) ?_
       refine T.q rfl rfl rfl (wanted_none rfl) (r_move rfl) ?_
       refine T.q rfl rfl rfl (wanted_none rfl) (r_sliceL Try.underlying24 ti121 rfl (rd_sl (i := 1) rfl) rfl h56) ?_
       refine T.ef rfl rfl rfl (wanted_none rfl) (Makes.does (m_build0 (α := Int × Int × Int) Try.underlying24 ti121)) (by rintro v46_2 _ ⟨S46_2, hl_v46_2, rfl⟩; exact upd rfl [1, 2] rfl rfl) ?_ ?_
       ·rintro v46_2 _ ⟨S46_2, hl_v46_2, rfl⟩
        refine T.ef rfl rfl rfl (wanted_none rfl) (d_append (i := 0) Try.underlying24 Try.underlying24 ti121 rfl (by decide) rfl rfl rfl (fun w hw => rd_slc ((rd_sl (i := 2) rfl) w hw) h49) hs50) (by rintro v50_2 _ ⟨S50_2, rfl, hl_v50_2⟩; exact upd rfl [1, 2] rfl rfl) ?_ ?_
        ·rintro v50_2 _ ⟨S50_2, rfl, hl_v50_2⟩
         refine T.ef rfl rfl rfl (wanted_none rfl) (Makes.does (m_buildF (l := ([(t13, t16, a3)] : List (Int × Int × Int))) Try.underlying24 ti121 rfl rfl rfl rfl rfl)) (by rintro v52_2 _ ⟨S52_2, hl_v52_2, rfl⟩; exact upd rfl [2, 3] rfl rfl) ?_ ?_
         ·rintro v52_2 _ ⟨S52_2, hl_v52_2, rfl⟩
          refine T.ef rfl rfl rfl (wanted_none rfl) (d_append (i := 1) Try.underlying24 Try.underlying24 ti121 rfl (by decide) rfl rfl rfl (rd_sl (i := 0) rfl) hs53) (by rintro v53_2 _ ⟨S53_2, rfl, hl_v53_2⟩; exact upd rfl [2, 3] rfl rfl) ?_ ?_
          ·rintro v53_2 _ ⟨S53_2, rfl, hl_v53_2⟩
           refine T.nil ?_
           refine F.ef rfl rfl rfl (wanted_none rfl) (d_append (i := 1) Try.underlying24 Try.underlying24 ti121 rfl (by decide) rfl rfl rfl (fun w hw => rd_slc ((rd_sl (i := 3) rfl) w hw) h56) hs57) ?_
           rintro v57_2 _ ⟨S57_2, rfl, hl_v57_2⟩
           refine F.q rfl rfl rfl (wanted_none rfl) (r_assign rfl) ?_
           refine F.nil ?_
           cases hE_4
           refine Nrm.only [8] rfl ?_
           refine Nrm.pick [1] rfl rfl ?_
           exact hj_3 _ _ ⟨v57_2, S57_2, hl_v57_2, rfl, rfl⟩
          exact T.stop
         exact T.stop
        ·refine T.ef rfl rfl rfl (wanted_none rfl) (Makes.does (m_buildF (l := ([(t13, t16, a3)] : List (Int × Int × Int))) Try.underlying24 ti121 rfl rfl rfl rfl rfl)) (by rintro v52_3 _ ⟨S52_3, hl_v52_3, rfl⟩; exact upd rfl [2, 3] rfl rfl) ?_ ?_
         ·rintro v52_3 _ ⟨S52_3, hl_v52_3, rfl⟩
          refine T.ef rfl rfl rfl (wanted_none rfl) (d_append (i := 1) Try.underlying24 Try.underlying24 ti121 rfl (by decide) rfl rfl rfl (fun w hw => rd_slc ((rd_sl (i := 3) rfl) w hw) h49) hs50) (by rintro v50_3 _ ⟨S50_3, rfl, hl_v50_3⟩; exact upd rfl [2, 3] rfl rfl) ?_ ?_
          ·rintro v50_3 _ ⟨S50_3, rfl, hl_v50_3⟩
           refine T.ef rfl rfl rfl (wanted_none rfl) (d_append (i := 1) Try.underlying24 Try.underlying24 ti121 rfl (by decide) rfl rfl rfl (rd_sl (i := 0) rfl) hs53) (by rintro v53_3 _ ⟨S53_3, rfl, hl_v53_3⟩; exact upd rfl [2, 3] rfl rfl) ?_ ?_
           ·rintro v53_3 _ ⟨S53_3, rfl, hl_v53_3⟩
            refine T.nil ?_
            refine F.ef rfl rfl rfl (wanted_none rfl) (d_append (i := 1) Try.underlying24 Try.underlying24 ti121 rfl (by decide) rfl rfl rfl (fun w hw => rd_slc ((rd_sl (i := 3) rfl) w hw) h56) hs57) ?_
            rintro v57_3 _ ⟨S57_3, rfl, hl_v57_3⟩
            refine F.q rfl rfl rfl (wanted_none rfl) (r_assign rfl) ?_
            refine F.nil ?_
            cases hE_4
            refine Nrm.only [8] rfl ?_
            refine Nrm.pick [1] rfl rfl ?_
            exact hj_3 _ _ ⟨v57_3, S57_3, hl_v57_3, rfl, rfl⟩
           exact T.stop
          exact T.stop
         exact T.stop
       ·refine T.ef rfl rfl rfl (wanted_none rfl) (Makes.does (m_buildF (l := ([(t13, t16, a3)] : List (Int × Int × Int))) Try.underlying24 ti121 rfl rfl rfl rfl rfl)) (by rintro v52_4 _ ⟨S52_4, hl_v52_4, rfl⟩; exact upd rfl [1, 2] rfl rfl) ?_ ?_
        ·rintro v52_4 _ ⟨S52_4, hl_v52_4, rfl⟩
         refine T.ef rfl rfl rfl (wanted_none rfl) (Makes.does (m_build0 (α := Int × Int × Int) Try.underlying24 ti121)) (by rintro v46_3 _ ⟨S46_3, hl_v46_3, rfl⟩; exact upd rfl [2, 3] rfl rfl) ?_ ?_
         ·rintro v46_3 _ ⟨S46_3, hl_v46_3, rfl⟩
          refine T.ef rfl rfl rfl (wanted_none rfl) (d_append (i := 0) Try.underlying24 Try.underlying24 ti121 rfl (by decide) rfl rfl rfl (fun w hw => rd_slc ((rd_sl (i := 3) rfl) w hw) h49) hs50) (by rintro v50_4 _ ⟨S50_4, rfl, hl_v50_4⟩; exact upd rfl [2, 3] rfl rfl) ?_ ?_
          ·rintro v50_4 _ ⟨S50_4, rfl, hl_v50_4⟩
           refine T.ef rfl rfl rfl (wanted_none rfl) (d_append (i := 0) Try.underlying24 Try.underlying24 ti121 rfl (by decide) rfl rfl rfl (rd_sl (i := 1) rfl) hs53) (by rintro v53_4 _ ⟨S53_4, rfl, hl_v53_4⟩; exact upd rfl [2, 3] rfl rfl) ?_ ?_
           ·rintro v53_4 _ ⟨S53_4, rfl, hl_v53_4⟩
            refine T.nil ?_
            refine F.ef rfl rfl rfl (wanted_none rfl) (d_append (i := 0) Try.underlying24 Try.underlying24 ti121 rfl (by decide) rfl rfl rfl (fun w hw => rd_slc ((rd_sl (i := 3) rfl) w hw) h56) hs57) ?_
            rintro v57_4 _ ⟨S57_4, rfl, hl_v57_4⟩
            refine F.q rfl rfl rfl (wanted_none rfl) (r_assign rfl) ?_
            refine F.nil ?_
            cases hE_4
            refine Nrm.only [8] rfl ?_
            refine Nrm.pick [0] rfl rfl ?_
            exact hj_3 _ _ ⟨v57_4, S57_4, hl_v57_4, rfl, rfl⟩
           exact T.stop
          exact T.stop
         exact T.stop
        exact T.stop
    ·rcases Bool.eq_false_or_eq_true (decide (x10 < (a0.length : Int))) with g37 | g37
     ·replace hE_3 := if_tt g37 hE_3
      obtain ⟨t40, h40, hE_3⟩ := bind_some hE_3
      refine Tri.drawA mixedT Sep.up [(0, true), (1, true), (2, true), (3, true), (4, true), (5, true), (6, true), (7, true), (8, true), (9, true), (10, true), (11, true)] [] (by kernel_rfl) ?_
      refine S.q rfl rfl rfl (wanted_none rfl) (r_move rfl) ?_
      refine S.q rfl rfl rfl (wanted_none rfl) (r_move rfl) ?_
      refine S.q rfl rfl rfl (wanted_none rfl) (r_len Try.underlying24 rfl hl_va0) ?_
      refine S.q rfl rfl rfl (wanted_none rfl) (r_lss rfl rfl) ?_
      refine S.q rfl rfl rfl (wanted_none rfl) (r_move rfl) ?_
      refine S.q rfl rfl rfl (wg rfl rfl rfl g37) (r_move rfl) ?_
      refine S.q rfl rfl rfl (wg rfl rfl rfl g37) (r_move rfl) ?_
      refine S.q rfl rfl rfl (wg rfl rfl rfl g37) (r_indexAddrS Try.underlying24 ti121 rfl hl_va0 rfl (rdl_some h40).1 (rdl_some h40).2.1) ?_
      refine S.q rfl rfl rfl (wg rfl rfl rfl g37) (r_loadA ta121 ti121 rfl rfl (fun w hw => (Rd.flat ((rd_sl (i := 1) rfl) w hw) (rdl_some h40).2.2))) ?_
      refine S.q rfl rfl rfl (wg rfl rfl rfl g37) (r_loadA ta121 ti121 rfl rfl (fun w hw => (box_cells (i := 0) rfl w hw))) ?_
      refine S.q rfl rfl rfl (wg rfl rfl rfl g37) (r_eqlA3 Try.underlying121 Try.underlying3 ti3 ta3 rfl rfl eg121) ?_
      refine S.q rfl rfl rfl (wanted_none rfl) (r_pick rfl rfl g37) ?_
      refine S.nil ?_
      refine F.nil ?_
      cases hE_3
      refine Nrm.only [0, 9, 10, 44] rfl ?_
      refine Nrm.pick [0, 1] rfl rfl ?_
      exact hj_2 _ _ ⟨rfl, rfl⟩
     ·replace hE_3 := if_ff g37 hE_3
      refine Tri.drawA mixedT Sep.up [(0, true), (1, true), (2, true), (3, true), (4, true), (5, true), (6, true), (7, true), (8, true), (9, true), (10, true), (11, true)] [] (by kernel_rfl) ?_
      refine S.q rfl rfl rfl (wanted_none rfl) (r_move rfl) ?_
      refine S.q rfl rfl rfl (wanted_none rfl) (r_move rfl) ?_
      refine S.q rfl rfl rfl (wanted_none rfl) (r_len Try.underlying24 rfl hl_va0) ?_
      refine S.q rfl rfl rfl (wanted_none rfl) (r_lss rfl rfl) ?_
      refine S.q rfl rfl rfl (wanted_none rfl) (r_move rfl) ?_
      iterate 6 refine S.sk rfl rfl rfl (wf rfl rfl rfl g37) ?_
      refine S.q rfl rfl rfl (wanted_none rfl) (r_pickf rfl rfl g37) ?_
      refine S.nil ?_
      refine F.nil ?_
      cases hE_3
      refine Nrm.only [0, 9, 10, 44] rfl ?_
      refine Nrm.pick [0, 1] rfl rfl ?_
      exact hj_2 _ _ ⟨rfl, rfl⟩
  ·rcases Bool.eq_false_or_eq_true (decide (x10 < (a0.length : Int))) with g23 | g23
   ·replace hE_2 := if_tt g23 hE_2
    obtain ⟨t26, h26, hE_2⟩ := bind_some hE_2
    obtain ⟨t29, h29, hE_2⟩ := bind_some hE_2
    refine Tri.drawA mixedT Sep.up [(0, true), (1, true), (2, true), (3, true), (4, true), (5, true), (6, true), (7, true), (8, true), (9, true), (10, true), (11, true)] [] (by kernel_rfl) ?_
    refine S.q rfl rfl rfl (wanted_none rfl) (r_move rfl) ?_
    refine S.q rfl rfl rfl (wanted_none rfl) (r_move rfl) ?_
    refine S.q rfl rfl rfl (wanted_none rfl) (r_len Try.underlying24 rfl hl_va0) ?_
    refine S.q rfl rfl rfl (wanted_none rfl) (r_lss rfl rfl) ?_
    refine S.q rfl rfl rfl (wanted_none rfl) (r_move rfl) ?_
    refine S.q rfl rfl rfl (wg rfl rfl rfl g23) (r_move rfl) ?_
    refine S.q rfl rfl rfl (wg rfl rfl rfl g23) (r_move rfl) ?_
    refine S.q rfl rfl rfl (wg rfl rfl rfl g23) (r_indexAddrS Try.underlying24 ti121 rfl hl_va0 rfl (rdl_some h26).1 (rdl_some h26).2.1) ?_
    refine S.q rfl rfl rfl (wg rfl rfl rfl g23) (r_loadA ta121 ti121 rfl rfl (fun w hw => (Rd.flat ((rd_sl (i := 1) rfl) w hw) (rdl_some h26).2.2))) ?_
    refine S.q rfl rfl rfl (wg rfl rfl rfl g23) (r_loadA ta121 ti121 rfl rfl (fun w hw => (box_cells (i := 0) rfl w hw))) ?_
    refine S.qc rfl rfl rfl (wg rfl rfl rfl g23) (q_callF (xs := _) rfl ok213 rfl rfl (fun w hw => spec_l2Before.ok h29 w )) ?_
    refine S.q rfl rfl rfl (wanted_none rfl) (r_pick rfl rfl g23) ?_
    refine S.nil ?_
    refine F.nil ?_
    cases hE_2
    refine Nrm.only [0, 9, 10, 30] rfl ?_
    refine Nrm.pick [0, 1] rfl rfl ?_
    exact hj_1 _ _ ⟨rfl, rfl⟩
   ·replace hE_2 := if_ff g23 hE_2
    refine Tri.drawA mixedT Sep.up [(0, true), (1, true), (2, true), (3, true), (4, true), (5, true), (6, true), (7, true), (8, true), (9, true), (10, true), (11, true)] [] (by kernel_rfl) ?_
    refine S.q rfl rfl rfl (wanted_none rfl) (r_move rfl) ?_
    refine S.q rfl rfl rfl (wanted_none rfl) (r_move rfl) ?_
    refine S.q rfl rfl rfl (wanted_none rfl) (r_len Try.underlying24 rfl hl_va0) ?_
    refine S.q rfl rfl rfl (wanted_none rfl) (r_lss rfl rfl) ?_
    refine S.q rfl rfl rfl (wanted_none rfl) (r_move rfl) ?_
    iterate 6 refine S.sk rfl rfl rfl (wf rfl rfl rfl g23) ?_
    refine S.q rfl rfl rfl (wanted_none rfl) (r_pickf rfl rfl g23) ?_
    refine S.nil ?_
    refine F.nil ?_
    cases hE_2
    refine Nrm.only [0, 9, 10, 30] rfl ?_
    refine Nrm.pick [0, 1] rfl rfl ?_
    exact hj_1 _ _ ⟨rfl, rfl⟩

end Go.Proofs

/- (*loop.example/g01158/spec.l1Cur).someMaze -/
namespace Go.Proofs
open Go Go.Ga
set_option linter.unusedVariables false
set_option maxRecDepth 100000
set_option maxHeartbeats 4000000
def spec_l1Cur_someMaze.l1 (k : Nat) (a0_0 : List By) (a1 : Int) (t20_1 : Int) : Nat → Int → Int → Int → (List (Int × Int × Int)) → Option (Int × Int × (List (Int × Int × Int)))
 | 0, _, _, _, _ => none
 | n + 1, x11, xpa0_1r, xpa0_2r, xq5_1_1r => ((if (decide (x11 > 0)) = true then (if (decide (a1 > 1)) = true then some (decide (a1 < 13)) else some false) else some false)).bind fun y77 => (if y77 = true then (spec_l1Cur_pick.f k a0_0 xpa0_1r xpa0_2r a1).bind fun (t82_1, t82_2, t82_3) => (spec_l1Cur_pick.f k a0_0 t82_2 t82_3 a1).bind fun (t85_1, t85_2, t85_3) => ((if (t82_1 != t85_1) = true then (spec_l1Cur_few.f k a0_0 t85_2 t85_3 (w64 (1 + t20_1))).bind fun (t95_1, t95_2, t95_3) => (spec_l2Put.f k xq5_1_1r t82_1 t85_1 t95_1).bind fun t96 => some (t95_2, t95_3, t96) else some (t85_2, t85_3, xq5_1_1r))).bind fun (ypa0_1rr, ypa0_2rr, yb5_1_1r) => spec_l1Cur_someMaze.l1 k a0_0 a1 t20_1 n (w64 (x11 - 1)) ypa0_1rr ypa0_2rr yb5_1_1r else some (xpa0_1r, xpa0_2r, xq5_1_1r))

def spec_l1Cur_someMaze.l0 (k : Nat) (a0_0 : List By) (a1 : Int) (t20_1 : Int) : Nat → Int → Int → (List (Int × Int × Int)) → (List (Int)) → Int → Int → Option (Int × Int × (List (Int × Int × Int)) × (List (Int)))
 | 0, _, _, _, _, _, _ => none
 | n + 1, x7, x8, xq5_1_1, xq5_1_2, xpa0_1, xpa0_2 => ((if (decide (x8 < a1)) = true then some (decide (x8 < 13)) else some false)).bind fun y28 => (if y28 = true then (spec_l1Cur_one.f k a0_0 xpa0_1 xpa0_2 2).bind fun (t32_1, t32_2, t32_3) => ((if t32_1 = true then (spec_l1Cur_pick.f k a0_0 t32_2 t32_3 (w64 (1 + t20_1))).bind fun (t35_1, t35_2, t35_3) => if ¬ t35_1 < 0 then some (shl 1 t35_1, t35_2, t35_3) else none else some (0, t32_2, t32_3))).bind fun (y9, ypa0_1, ypa0_2) => if (xq5_1_2 ++ ([y9] : List (Int))).length < 1099511627776 then ((if (decide (x8 > 0)) = true then (spec_l1Cur_few.f k a0_0 ypa0_1 ypa0_2 (w64 (1 + t20_1))).bind fun (t47_1, t47_2, t47_3) => (spec_l1Cur_one.f k a0_0 t47_2 t47_3 3).bind fun (t49_1, t49_2, t49_3) => ((if (!t49_1) = true then some (band t47_1 x7) else some t47_1)).bind fun y10 => (spec_l1Cur_pick.f k a0_0 t49_2 t49_3 x8).bind fun (t58_1, t58_2, t58_3) => (spec_l2Put.f k xq5_1_1 t58_1 x8 y10).bind fun t61 => some (t58_2, t58_3, t61) else some (ypa0_1, ypa0_2, xq5_1_1))).bind fun (ypa0_1r, ypa0_2r, yb5_1_1) => spec_l1Cur_someMaze.l0 k a0_0 a1 t20_1 n (bor x7 y9) (w64 (x8 + 1)) yb5_1_1 (xq5_1_2 ++ ([y9] : List (Int))) ypa0_1r ypa0_2r else none else some (xpa0_1, xpa0_2, xq5_1_1, xq5_1_2))

def spec_l1Cur_someMaze.f (k : Nat) (a0_0 : List By) (a0_1 : Int) (a0_2 : Int) (a1 : Int) : Option (Int × (List (Int × Int × Int)) × (List Int) × Int × Int) := (spec_l1Cur_pick.f k a0_0 a0_1 a0_2 6).bind fun (t20_1, t20_2, t20_3) => (spec_l1Cur_someMaze.l0 k a0_0 a1 t20_1 k 0 0 ([] : List (Int × Int × Int)) ([] : List (Int)) t20_2 t20_3).bind fun (xpa0_1, xpa0_2, xq5_1_1, xq5_1_2) => (spec_l1Cur_pick.f k a0_0 xpa0_1 xpa0_2 6).bind fun (t67_1, t67_2, t67_3) => (spec_l1Cur_someMaze.l1 k a0_0 a1 t20_1 k t67_1 t67_2 t67_3 xq5_1_1).bind fun (xpa0_1r, xpa0_2r, xq5_1_1r) => (spec_l1Cur_pick.f k a0_0 xpa0_1r xpa0_2r 60).bind fun (t99_1, t99_2, t99_3) => (if (t99_1 == 0) = true then (spec_l1Cur_among.f k a0_0 t99_2 t99_3 ([0, 13, w64 (a1 + 1)] : List (Int))).bind fun (t107_1, t107_2, t107_3) => some (t107_1, xq5_1_1r, xq5_1_2, t107_2, t107_3) else (if (t99_1 == 1) = true then ((if (decide ((xq5_1_1r.length : Int) > 0)) = true then (spec_l1Cur_pick.f k a0_0 t99_2 t99_3 (xq5_1_1r.length : Int)).bind fun (t119_1, t119_2, t119_3) => (rdl xq5_1_1r t119_1).bind fun t126 => (rdl xq5_1_1r t119_1).bind fun t132 => (rdl xq5_1_1r t119_1).bind fun t136 => some (t119_2, t119_3, xq5_1_1r.set t119_1.toNat (t126.2.1, t132.1, 0)) else some (t99_2, t99_3, xq5_1_1r))).bind fun (ypa0_1rrr, ypa0_2rrr, yb5_1_1rr) => some (a1, yb5_1_1rr, xq5_1_2, ypa0_1rrr, ypa0_2rrr) else (if (t99_1 == 2) = true then ((if (decide ((xq5_1_2.length : Int) > 0)) = true then ((spec_l1Cur_pick.f k a0_0 t99_2 t99_3 (xq5_1_2.length : Int)).bind fun (t149_1, t149_2, t149_3) => (spec_l1Cur_among.f k a0_0 t149_2 t149_3 ([64, (-1), 63] : List (Int))).bind fun (t152_1, t152_2, t152_3) => (rdl xq5_1_2 t149_1).bind fun t153 => some (t152_2, t152_3, xq5_1_2.set t149_1.toNat t152_1)).bind fun (ypa0_1rrrr, ypa0_2rrrr, yb5_1_2) => some (ypa0_1rrrr, ypa0_2rrrr, yb5_1_2) else some (t99_2, t99_3, xq5_1_2))).bind fun (ypa0_1rrrr, ypa0_2rrrr, yb5_1_2) => some (a1, xq5_1_1r, yb5_1_2, ypa0_1rrrr, ypa0_2rrrr) else (if (t99_1 == 3) = true then ((if (decide ((xq5_1_1r.length : Int) > 0)) = true then (rdl xq5_1_1r 0).bind fun t164 => if (xq5_1_1r ++ ([t164] : List (Int × Int × Int))).length < 1099511627776 then some (xq5_1_1r ++ ([t164] : List (Int × Int × Int))) else none else some xq5_1_1r)).bind fun yb5_1_1rrr => some (a1, yb5_1_1rrr, xq5_1_2, t99_2, t99_3) else (if (t99_1 == 4) = true then some (0, [], [], t99_2, t99_3) else some (a1, xq5_1_1r, xq5_1_2, t99_2, t99_3))))))

theorem spec_l1Cur_someMaze.ok {k : Nat}  {a0_0 : List By} {a0_1 : Int} {a0_2 : Int} {a1 : Int} {r0 : Int} {r1 : List (Int × Int × Int)} {r2 : List Int} {r3 : Int} {r4 : Int} (h : spec_l1Cur_someMaze.f k a0_0 a0_1 a0_2 a1 = some (r0, r1, r2, r3, r4)) (w : World) {pa0 : Nat} {va0_0 : Value} (hr_a0_0 : RdM w (footM [R.box pa0 100 [va0_0, .int .i64 a0_1, .int .u64 a0_2]]) va0_0 a0_0) (hw0 : Sep w (footM [R.box pa0 100 [va0_0, .int .i64 a0_1, .int .u64 a0_2]]) [R.box pa0 100 [va0_0, .int .i64 a0_1, .int .u64 a0_2]] w) :
  Calls Try.prog 162 ([.pointer (some ⟨pa0, 0, none⟩), .int .i64 a1] : List Value).toArray w (PostM (footM [R.box pa0 100 [va0_0, .int .i64 a0_1, .int .u64 a0_2]]) (fun u ns => ∃ (ur1 : Value) (Sr1 : Nat → Prop) (ur2 : Value) (Sr2 : Nat → Prop), u = .agg [.int .i64 r0, ur1, ur2].toArray ∧ SlLen ur1 r1.length ∧ SlLen ur2 r2.length ∧ ns = [R.sl Sr1 ur1 r1, R.sl Sr2 ur2 r2, R.box pa0 100 [va0_0, .int .i64 r3, .int .u64 r4]]) w) := by
 unfold spec_l1Cur_someMaze.f at h
 have hl_va0_0 := hr_a0_0.len
 refine Calls.of_tri (N := 173) Try.func162 rfl rfl rfl hw0 ?_
 refine Tri.seq ?_
 refine Tri.reg (l := [0]) rfl ?_
 refine F.m rfl rfl rfl (wanted_none rfl) (m_alloc ti27) ?_
 rintro _ _ ⟨b4_1, rfl, rfl⟩
 refine F.nil ?_
 refine Nrm.seq ?_
 refine Tri.seq ?_
 obtain ⟨⟨t20_1, t20_2, t20_3⟩, h20, h⟩ := bind_some h
 refine Tri.reg (l := [0, 1, 2, 3, 4, 5, 6, 7, 8, 9]) rfl ?_
 refine F.q rfl rfl rfl (wanted_none rfl) (r_move rfl) ?_
 refine F.m rfl rfl rfl (wanted_none rfl) (m_build0 (α := Int × Int × Int) Try.underlying24 ti121) ?_
 rintro v16_1 _ ⟨S16_1, hl_v16_1, rfl⟩
 refine F.m rfl rfl rfl (wanted_none rfl) (m_build0 (α := Int) Try.underlying25 ti3) ?_
 rintro v17_1 _ ⟨S17_1, hl_v17_1, rfl⟩
 refine F.q rfl rfl rfl (wanted_none rfl) (r_build (pl := [(0, 1), (1, 1), (2, 1)]) (qs := [(0, [.int .i64 a1]), (1, [v16_1]), (2, [v17_1])]) (cs := [.int .i64 a1, v16_1, v17_1]) (by kernel_rfl) ti27 rfl (.cons rfl rfl (Nat.le_of_ble_eq_true rfl) (.cons (sl_cells hl_v16_1) rfl (Nat.le_of_ble_eq_true rfl) (.cons (sl_cells hl_v17_1) rfl (Nat.le_of_ble_eq_true rfl) .nil))) rfl rfl) ?_
 refine F.q rfl rfl rfl (wanted_none rfl) (r_move rfl) ?_
 refine F.ef rfl rfl rfl (wanted_none rfl) (d_callM (xs := _) (cs := [R.box pa0 100 [va0_0, .int .i64 a0_1, .int .u64 a0_2]]) (rest := [R.sl S17_1 v17_1 (([] : List (Int)) : List (Int)), R.sl S16_1 v16_1 (([] : List (Int × Int × Int)) : List (Int × Int × Int)), R.box b4_1 27 [.int .i64 0, .slice none 0 0, .slice none 0 0]]) [3] [0, 1, 2] rfl ok95 rfl rfl rfl rfl (fun w hw => spec_l1Cur_pick.ok h20 w (hr_a0_0.down hw) (Sep.sub hw))) ?_
 rintro _ _ ⟨_, ⟨rfl, rfl⟩, rfl⟩
 refine F.q rfl rfl rfl (wanted_none rfl) (r_add rfl rfl) ?_
 refine F.m rfl rfl rfl (wanted_none rfl) (m_alloc ti27) ?_
 rintro _ _ ⟨b5_1, rfl, rfl⟩
 refine F.ef0 rfl rfl (wanted_none rfl) (d_storeG0 (i := 0) (cs2 := [.int .i64 a1, v16_1, v17_1]) ti27 rfl rfl rfl rfl rfl (Nat.le_of_ble_eq_true rfl) (lf_cons rfl (lf_cons (sl_leaf hl_v16_1) (lf_cons (sl_leaf hl_v17_1) lf_nil)))) ?_
 rintro _ _ ⟨rfl, rfl⟩
 refine F.q rfl rfl rfl (wanted_none rfl) (r_assign rfl) ?_
 refine F.nil ?_
 refine Nrm.seq ?_
 refine Tri.seq ?_
 refine Tri.reg (l := [0]) rfl ?_
 refine F.q rfl rfl rfl (wanted_none rfl) (r_assign rfl) ?_
 refine F.nil ?_
 refine Nrm.seq ?_
 refine Tri.seq ?_
 refine Tri.seq ?_
 refine Tri.reg (l := [0]) rfl ?_
 refine F.q rfl rfl rfl (wanted_none rfl) (r_assign rfl) ?_
 refine F.nil ?_
 refine Nrm.seq ?_
 obtain ⟨⟨xpa0_1, xpa0_2, xq5_1_1, xq5_1_2⟩, hE_1, h⟩ := bind_some h
 refine Tri.block ?_
 refine Tri.only [0, 1, 4, 5, 6, 7, 8] rfl ?_
 refine Tri.pick [0, 1, 4, 2, 3] rfl rfl ?_
 refine Tri.rounds (fun n e' C' => ∃ (x7' : Int) (x8' : Int) (xq5_1_1' : List (Int × Int × Int)) (xq5_1_2' : List (Int)) (xpa0_1' : Int) (xpa0_2' : Int) (wq5_1_1 : Value) (Tq5_1_1 : Nat → Prop) (wq5_1_2 : Value) (Tq5_1_2 : Nat → Prop), spec_l1Cur_someMaze.l0 k a0_0 a1 t20_1 n x7' x8' xq5_1_1' xq5_1_2' xpa0_1' xpa0_2' = some (xpa0_1, xpa0_2, xq5_1_1, xq5_1_2) ∧ SlLen wq5_1_1 (xq5_1_1').length ∧ SlLen wq5_1_2 (xq5_1_2').length ∧ e' = [(0, .pointer (some ⟨pa0, 0, none⟩)), (1, .int .i64 a1), (4, .pointer (some ⟨b4_1, 0, none⟩)), (5, .pointer (some ⟨b5_1, 0, none⟩)), (6, .int .i64 (w64 (1 + t20_1))), (7, .int .i64 x7'), (8, .int .i64 x8')] ∧ C' = Sep w (footM [R.box pa0 100 [va0_0, .int .i64 a0_1, .int .u64 a0_2]]) [R.box b5_1 27 [.int .i64 a1, wq5_1_1, wq5_1_2], R.box pa0 100 [va0_0, .int .i64 xpa0_1', .int .u64 xpa0_2'], R.box b4_1 27 [.int .i64 0, .slice none 0 0, .slice none 0 0], R.sl Tq5_1_2 wq5_1_2 (xq5_1_2' : List (Int)), R.sl Tq5_1_1 wq5_1_1 (xq5_1_1' : List (Int × Int × Int))]) k ?_ ?_ ?_
 ·exact ⟨0, 0, ([] : List (Int × Int × Int)), ([] : List (Int)), t20_2, t20_3, v16_1, S16_1, v17_1, S17_1, hE_1, hl_v16_1, hl_v17_1, rfl, rfl⟩
 ·rintro _ _ ⟨_, _, _, _, _, _, _, _, _, _, hE_1, _⟩
  rw [spec_l1Cur_someMaze.l0.eq_1] at hE_1; cases hE_1
 ·rintro n_1 _ _ ⟨x7, x8, xq5_1_1, xq5_1_2, xpa0_1, xpa0_2, wq5_1_1, Tq5_1_1, wq5_1_2, Tq5_1_2, hE_1, hl_wq5_1_1, hl_wq5_1_2, rfl, rfl⟩ ih_1
  rw [spec_l1Cur_someMaze.l0.eq_2] at hE_1
  refine Tri.seq ?_
  refine Tri.seq ?_
  obtain ⟨y28, hE_2, hE_1⟩ := bind_some hE_1
  refine Tri.cut (fun e' C' => e' = [(0, .pointer (some ⟨pa0, 0, none⟩)), (1, .int .i64 a1), (4, .pointer (some ⟨b4_1, 0, none⟩)), (5, .pointer (some ⟨b5_1, 0, none⟩)), (6, .int .i64 (w64 (1 + t20_1))), (7, .int .i64 x7), (8, .int .i64 x8), (28, .bool y28)] ∧ C' = Sep w (footM [R.box pa0 100 [va0_0, .int .i64 a0_1, .int .u64 a0_2]]) [R.box b5_1 27 [.int .i64 a1, wq5_1_1, wq5_1_2], R.box pa0 100 [va0_0, .int .i64 xpa0_1, .int .u64 xpa0_2], R.box b4_1 27 [.int .i64 0, .slice none 0 0, .slice none 0 0], R.sl Tq5_1_1 wq5_1_1 (xq5_1_1 : List (Int × Int × Int)), R.sl Tq5_1_2 wq5_1_2 (xq5_1_2 : List (Int))]) ?_ (fun hj_1 => ?_)
  ·rintro _ _ ⟨rfl, rfl⟩
   refine Nrm.seq ?_
   refine Tri.cond (b := y28) rfl (fun g_1 => ?_) (fun g_1 => ?_)
   ·replace hE_1 := if_tt g_1 hE_1
    refine Tri.skip ?_
    refine Nrm.seq ?_
    refine Tri.seq ?_
    refine Tri.block ?_
    refine Tri.seq ?_
    refine Tri.reg (l := [0]) rfl ?_
    refine F.q rfl rfl rfl (wanted_none rfl) (r_assign rfl) ?_
    refine F.nil ?_
    refine Nrm.seq ?_
    refine Tri.seq ?_
    refine Tri.seq ?_
    obtain ⟨⟨t32_1, t32_2, t32_3⟩, h32, hE_1⟩ := bind_some hE_1
    refine Tri.reg (l := [0, 1]) rfl ?_
    refine F.q rfl rfl rfl (wanted_none rfl) (r_move rfl) ?_
    refine F.ef rfl rfl rfl (wanted_none rfl) (d_callM (xs := _) (cs := [R.box pa0 100 [va0_0, .int .i64 xpa0_1, .int .u64 xpa0_2]]) (rest := [R.box b5_1 27 [.int .i64 a1, wq5_1_1, wq5_1_2], R.box b4_1 27 [.int .i64 0, .slice none 0 0, .slice none 0 0], R.sl Tq5_1_1 wq5_1_1 (xq5_1_1 : List (Int × Int × Int)), R.sl Tq5_1_2 wq5_1_2 (xq5_1_2 : List (Int))]) [1] [0, 2, 3, 4] rfl ok93 rfl rfl rfl rfl (fun w hw => spec_l1Cur_one.ok h32 w (hr_a0_0.down hw) (Sep.sub hw))) ?_
    rintro _ _ ⟨_, ⟨rfl, rfl⟩, rfl⟩
    refine F.nil ?_
    refine Nrm.seq ?_
    obtain ⟨⟨y9, ypa0_1, ypa0_2⟩, hE_3, hE_1⟩ := bind_some hE_1
    refine Tri.cut (fun e' C' => e' = [(0, .pointer (some ⟨pa0, 0, none⟩)), (1, .int .i64 a1), (4, .pointer (some ⟨b4_1, 0, none⟩)), (5, .pointer (some ⟨b5_1, 0, none⟩)), (6, .int .i64 (w64 (1 + t20_1))), (7, .int .i64 x7), (8, .int .i64 x8), (9, .int .i64 y9)] ∧ C' = Sep w (footM [R.box pa0 100 [va0_0, .int .i64 a0_1, .int .u64 a0_2]]) [R.box pa0 100 [va0_0, .int .i64 ypa0_1, .int .u64 ypa0_2], R.box b5_1 27 [.int .i64 a1, wq5_1_1, wq5_1_2], R.box b4_1 27 [.int .i64 0, .slice none 0 0, .slice none 0 0], R.sl Tq5_1_1 wq5_1_1 (xq5_1_1 : List (Int × Int × Int)), R.sl Tq5_1_2 wq5_1_2 (xq5_1_2 : List (Int))]) ?_ (fun hj_2 => ?_)
    ·rintro _ _ ⟨rfl, rfl⟩
     refine Nrm.seq ?_
     refine Tri.seq ?_
     obtain ⟨hs41, hE_1⟩ := ck hE_1
     refine Tri.reg (l := [0, 1, 2, 3, 4, 5, 6]) rfl ?_
     refine F.q rfl rfl rfl (wanted_none rfl) (r_fieldAddr tf27_2 rfl) ?_
     refine F.q rfl rfl rfl (wanted_none rfl) (r_load ta25 rfl (fun w hw => cell_1 (box_cells (i := 1) rfl w hw) rfl)) ?_
     refine F.q rfl rfl rfl (wanted_none rfl) (r_move rfl) ?_
     refine F.m rfl rfl rfl (wanted_none rfl) (m_buildF (l := ([y9] : List (Int))) Try.underlying25 ti3 rfl rfl rfl rfl rfl) ?_
     rintro v40_1 _ ⟨S40_1, hl_v40_1, rfl⟩
     refine F.ef rfl rfl rfl (wanted_none rfl) (d_append (i := 5) Try.underlying25 Try.underlying25 ti3 rfl (by decide) rfl rfl rfl (rd_sl (i := 0) rfl) hs41) ?_
     rintro v41_1 _ ⟨S41_1, rfl, hl_v41_1⟩
     refine F.q rfl rfl rfl (wanted_none rfl) (r_fieldAddr tf27_2 rfl) ?_
     refine F.ef0 rfl rfl (wanted_none rfl) (d_storeG1 (i := 2) (cs2 := [v41_1]) ti25 rfl rfl rfl (sl_cells hl_v41_1) rfl (Nat.le_of_ble_eq_true rfl) (lf_cons (sl_leaf hl_v41_1) lf_nil)) ?_
     rintro _ _ ⟨rfl, rfl⟩
     refine F.nil ?_
     refine Nrm.seq ?_
     refine Tri.seq ?_
     refine Tri.seq ?_
     refine Tri.reg (l := [0, 1]) rfl ?_
     refine F.q rfl rfl rfl (wanted_none rfl) (r_move rfl) ?_
     refine F.q rfl rfl rfl (wanted_none rfl) (r_gtr rfl rfl) ?_
     refine F.nil ?_
     refine Nrm.seq ?_
     obtain ⟨⟨ypa0_1r, ypa0_2r, yb5_1_1⟩, hE_4, hE_1⟩ := bind_some hE_1
     refine Tri.cut (fun e' C' => ∃ (vb5_1_1_1 : Value) (Sb5_1_1_1 : Nat → Prop), SlLen vb5_1_1_1 (yb5_1_1).length ∧ e' = [(0, .pointer (some ⟨pa0, 0, none⟩)), (1, .int .i64 a1), (4, .pointer (some ⟨b4_1, 0, none⟩)), (5, .pointer (some ⟨b5_1, 0, none⟩)), (6, .int .i64 (w64 (1 + t20_1))), (7, .int .i64 x7), (8, .int .i64 x8), (9, .int .i64 y9)] ∧ C' = Sep w (footM [R.box pa0 100 [va0_0, .int .i64 a0_1, .int .u64 a0_2]]) [R.box pa0 100 [va0_0, .int .i64 ypa0_1r, .int .u64 ypa0_2r], R.box b5_1 27 [.int .i64 a1, vb5_1_1_1, v41_1], R.box b4_1 27 [.int .i64 0, .slice none 0 0, .slice none 0 0], R.sl Sb5_1_1_1 vb5_1_1_1 (yb5_1_1 : List (Int × Int × Int)), R.sl S41_1 v41_1 (xq5_1_2 ++ ([y9] : List (Int)) : List (Int))]) ?_ (fun hj_3 => ?_)
     ·rintro _ _ ⟨vb5_1_1_1, Sb5_1_1_1, hl_vb5_1_1_1, rfl, rfl⟩
      refine Nrm.seq ?_
      refine Tri.reg (l := [0, 1, 2, 3]) rfl ?_
      refine F.q rfl rfl rfl (wanted_none rfl) (r_move rfl) ?_
      refine F.q rfl rfl rfl (wanted_none rfl) (r_move rfl) ?_
      refine F.q rfl rfl rfl (wanted_none rfl) (r_or rfl rfl) ?_
      refine F.q rfl rfl rfl (wanted_none rfl) (r_assign rfl) ?_
      refine F.nil ?_
      refine Nrm.block ?_
      refine Nrm.seq ?_
      refine Tri.reg (l := [0, 1, 2]) rfl ?_
      refine F.q rfl rfl rfl (wanted_none rfl) (r_move rfl) ?_
      refine F.q rfl rfl rfl (wanted_none rfl) (r_add rfl rfl) ?_
      refine F.q rfl rfl rfl (wanted_none rfl) (r_assign rfl) ?_
      refine F.nil ?_
      refine Nrm.round ?_
      refine Rnd.only [0, 1, 4, 5, 6, 7, 8] rfl ?_
      refine Rnd.pick [1, 0, 2, 4, 3] rfl rfl ?_
      exact ih_1 _ _ ⟨bor x7 y9, w64 (x8 + 1), yb5_1_1, xq5_1_2 ++ ([y9] : List (Int)), ypa0_1r, ypa0_2r, vb5_1_1_1, Sb5_1_1_1, v41_1, S41_1, hE_1, hl_vb5_1_1_1, hl_v41_1, rfl, rfl⟩
     ·refine Tri.cond (b := decide (x8 > 0)) rfl (fun g_3 => ?_) (fun g_3 => ?_)
      ·replace hE_4 := if_tt g_3 hE_4
       refine Tri.seq ?_
       obtain ⟨⟨t47_1, t47_2, t47_3⟩, h47, hE_4⟩ := bind_some hE_4
       refine Tri.reg (l := [0, 1, 2, 3]) rfl ?_
       refine F.q rfl rfl rfl (wanted_none rfl) (r_move rfl) ?_
       refine F.q rfl rfl rfl (wanted_none rfl) (r_move rfl) ?_
       refine F.ef rfl rfl rfl (wanted_none rfl) (d_callM (xs := _) (cs := [R.box pa0 100 [va0_0, .int .i64 ypa0_1, .int .u64 ypa0_2]]) (rest := [R.sl S40_1 v40_1 (([y9] : List (Int)) : List (Int)), R.box b5_1 27 [.int .i64 a1, wq5_1_1, v41_1], R.box b4_1 27 [.int .i64 0, .slice none 0 0, .slice none 0 0], R.sl Tq5_1_1 wq5_1_1 (xq5_1_1 : List (Int × Int × Int)), R.sl S41_1 v41_1 (xq5_1_2 ++ ([y9] : List (Int)) : List (Int))]) [1] [0, 2, 3, 4, 5] rfl ok205 rfl rfl rfl rfl (fun w hw => spec_l1Cur_few.ok h47 w (hr_a0_0.down hw) (Sep.sub hw))) ?_
       rintro _ _ ⟨_, ⟨rfl, rfl⟩, rfl⟩
       refine F.q rfl rfl rfl (wanted_none rfl) (r_assign rfl) ?_
       refine F.nil ?_
       refine Nrm.seq ?_
       refine Tri.seq ?_
       refine Tri.seq ?_
       obtain ⟨⟨t49_1, t49_2, t49_3⟩, h49, hE_4⟩ := bind_some hE_4
       refine Tri.reg (l := [0, 1, 2]) rfl ?_
       refine F.q rfl rfl rfl (wanted_none rfl) (r_move rfl) ?_
       refine F.ef rfl rfl rfl (wanted_none rfl) (d_callM (xs := _) (cs := [R.box pa0 100 [va0_0, .int .i64 t47_2, .int .u64 t47_3]]) (rest := [R.sl S40_1 v40_1 (([y9] : List (Int)) : List (Int)), R.box b5_1 27 [.int .i64 a1, wq5_1_1, v41_1], R.box b4_1 27 [.int .i64 0, .slice none 0 0, .slice none 0 0], R.sl Tq5_1_1 wq5_1_1 (xq5_1_1 : List (Int × Int × Int)), R.sl S41_1 v41_1 (xq5_1_2 ++ ([y9] : List (Int)) : List (Int))]) [0] [1, 2, 3, 4, 5] rfl ok93 rfl rfl rfl rfl (fun w hw => spec_l1Cur_one.ok h49 w (hr_a0_0.down hw) (Sep.sub hw))) ?_
       rintro _ _ ⟨_, ⟨rfl, rfl⟩, rfl⟩
       refine F.q rfl rfl rfl (wanted_none rfl) (r_not rfl) ?_
       refine F.nil ?_
       refine Nrm.seq ?_
       obtain ⟨y10, hE_5, hE_4⟩ := bind_some hE_4
       refine Tri.cut (fun e' C' => e' = [(0, .pointer (some ⟨pa0, 0, none⟩)), (1, .int .i64 a1), (4, .pointer (some ⟨b4_1, 0, none⟩)), (5, .pointer (some ⟨b5_1, 0, none⟩)), (6, .int .i64 (w64 (1 + t20_1))), (7, .int .i64 x7), (8, .int .i64 x8), (9, .int .i64 y9), (10, .int .i64 y10)] ∧ C' = Sep w (footM [R.box pa0 100 [va0_0, .int .i64 a0_1, .int .u64 a0_2]]) [R.box pa0 100 [va0_0, .int .i64 t49_2, .int .u64 t49_3], R.box b5_1 27 [.int .i64 a1, wq5_1_1, v41_1], R.box b4_1 27 [.int .i64 0, .slice none 0 0, .slice none 0 0], R.sl S41_1 v41_1 (xq5_1_2 ++ ([y9] : List (Int)) : List (Int)), R.sl Tq5_1_1 wq5_1_1 (xq5_1_1 : List (Int × Int × Int))]) ?_ (fun hj_4 => ?_)
       ·rintro _ _ ⟨rfl, rfl⟩
        refine Nrm.seq ?_
        obtain ⟨⟨t58_1, t58_2, t58_3⟩, h58, hE_4⟩ := bind_some hE_4
        obtain ⟨t61, h61, hE_4⟩ := bind_some hE_4
        refine Tri.drawK (B := Sep w (footM [R.box pa0 100 [va0_0, .int .i64 a0_1, .int .u64 a0_2]]) [R.box b5_1 27 [.int .i64 a1, wq5_1_1, v41_1], R.box b4_1 27 [.int .i64 0, .slice none 0 0, .slice none 0 0], R.sl S41_1 v41_1 (xq5_1_2 ++ ([y9] : List (Int)) : List (Int)), R.sl Tq5_1_1 wq5_1_1 (xq5_1_1 : List (Int × Int × Int))]) mixedT Sep.up [(0, true), (1, true), (2, true), (3, true), (5, true), (6, true), (4, false)] [7, 8, 9] (by kernel_rfl) ?_
        refine K.q [1, 2, 3, 4] rfl rfl rfl rfl rfl (wanted_none rfl) (r_fieldAddr tf27_1 rfl) ?_
        refine K.q [1, 2, 3, 4] rfl rfl rfl rfl rfl (wanted_none rfl) (r_load ta24 rfl (fun w hw => cell_1 (box_cells (i := 0) rfl w hw) rfl)) ?_
        iterate 4 refine K.q [1, 2, 3, 4] rfl rfl rfl rfl rfl (wanted_none rfl) (r_move rfl) ?_
        refine B.ef rfl rfl rfl (wanted_none rfl) (d_callM (xs := _) (cs := [R.box pa0 100 [va0_0, .int .i64 t49_2, .int .u64 t49_3]]) (rest := [R.box b5_1 27 [.int .i64 a1, wq5_1_1, v41_1], R.box b4_1 27 [.int .i64 0, .slice none 0 0, .slice none 0 0], R.sl S41_1 v41_1 (xq5_1_2 ++ ([y9] : List (Int)) : List (Int)), R.sl Tq5_1_1 wq5_1_1 (xq5_1_1 : List (Int × Int × Int))]) [0] [1, 2, 3, 4] rfl ok95 rfl rfl rfl rfl (fun w hw => spec_l1Cur_pick.ok h58 w (hr_a0_0.down hw) (Sep.sub hw))) (by rintro _ _ ⟨_, ⟨rfl, rfl⟩, rfl⟩; exact upd rfl [1, 2, 3, 4] rfl rfl) ?_
        rintro _ _ ⟨_, ⟨rfl, rfl⟩, rfl⟩
        refine B.nil ?_
        refine F.ef rfl rfl rfl (wanted_none rfl) (d_callM (xs := _) (cs := [R.sl Tq5_1_1 wq5_1_1 (xq5_1_1 : List (Int × Int × Int))]) (rest := [R.box pa0 100 [va0_0, .int .i64 t58_2, .int .u64 t58_3], R.box b5_1 27 [.int .i64 a1, wq5_1_1, v41_1], R.box b4_1 27 [.int .i64 0, .slice none 0 0, .slice none 0 0], R.sl S41_1 v41_1 (xq5_1_2 ++ ([y9] : List (Int)) : List (Int))]) [4] [0, 1, 2, 3] rfl ok206 rfl rfl rfl rfl (fun w hw => spec_l2Put.ok h61 w hl_wq5_1_1 (Sep.sub hw))) ?_
        rintro v61_2 _ ⟨_, ⟨S61_2, hl_v61_2, rfl⟩, rfl⟩
        refine F.q rfl rfl rfl (wanted_none rfl) (r_fieldAddr tf27_1 rfl) ?_
        refine F.ef0 rfl rfl (wanted_none rfl) (d_storeG1 (i := 2) (cs2 := [v61_2]) ti24 rfl rfl rfl (sl_cells hl_v61_2) rfl (Nat.le_of_ble_eq_true rfl) (lf_cons (sl_leaf hl_v61_2) lf_nil)) ?_
        rintro _ _ ⟨rfl, rfl⟩
        refine F.nil ?_
        cases hE_4
        refine Nrm.only [0, 1, 4, 5, 6, 7, 8, 9] rfl ?_
        refine Nrm.pick [1, 2, 3, 0, 4] rfl rfl ?_
        exact hj_3 _ _ ⟨v61_2, S61_2, hl_v61_2, rfl, rfl⟩
       ·refine Tri.cond (b := !t49_1) rfl (fun g_4 => ?_) (fun g_4 => ?_)
        ·replace hE_5 := if_tt g_4 hE_5
         refine Tri.reg (l := [0, 1, 2, 3]) rfl ?_
         refine F.q rfl rfl rfl (wanted_none rfl) (r_move rfl) ?_
         refine F.q rfl rfl rfl (wanted_none rfl) (r_move rfl) ?_
         refine F.q rfl rfl rfl (wanted_none rfl) (r_and rfl rfl) ?_
         refine F.q rfl rfl rfl (wanted_none rfl) (r_assign rfl) ?_
         refine F.nil ?_
         cases hE_5
         refine Nrm.only [0, 1, 4, 5, 6, 7, 8, 9, 10] rfl ?_
         refine Nrm.pick [0, 2, 3, 5, 4] rfl rfl ?_
         exact hj_4 _ _ ⟨rfl, rfl⟩
        ·replace hE_5 := if_ff g_4 hE_5
         refine Tri.skip ?_
         cases hE_5
         refine Nrm.only [0, 1, 4, 5, 6, 7, 8, 9, 10] rfl ?_
         refine Nrm.pick [0, 2, 3, 5, 4] rfl rfl ?_
         exact hj_4 _ _ ⟨rfl, rfl⟩
      ·replace hE_4 := if_ff g_3 hE_4
       refine Tri.skip ?_
       cases hE_4
       refine Nrm.only [0, 1, 4, 5, 6, 7, 8, 9] rfl ?_
       refine Nrm.pick [1, 2, 3, 4, 5] rfl rfl ?_
       exact hj_3 _ _ ⟨wq5_1_1, Tq5_1_1, hl_wq5_1_1, rfl, rfl⟩
    ·refine Tri.cond (b := t32_1) rfl (fun g_2 => ?_) (fun g_2 => ?_)
     ·replace hE_3 := if_tt g_2 hE_3
      obtain ⟨⟨t35_1, t35_2, t35_3⟩, h35, hE_3⟩ := bind_some hE_3
      obtain ⟨hs36, hE_3⟩ := ck hE_3
      refine Tri.reg (l := [0, 1, 2, 3, 4]) rfl ?_
      refine F.q rfl rfl rfl (wanted_none rfl) (r_move rfl) ?_
      refine F.q rfl rfl rfl (wanted_none rfl) (r_move rfl) ?_
      refine F.ef rfl rfl rfl (wanted_none rfl) (d_callM (xs := _) (cs := [R.box pa0 100 [va0_0, .int .i64 t32_2, .int .u64 t32_3]]) (rest := [R.box b5_1 27 [.int .i64 a1, wq5_1_1, wq5_1_2], R.box b4_1 27 [.int .i64 0, .slice none 0 0, .slice none 0 0], R.sl Tq5_1_1 wq5_1_1 (xq5_1_1 : List (Int × Int × Int)), R.sl Tq5_1_2 wq5_1_2 (xq5_1_2 : List (Int))]) [0] [1, 2, 3, 4] rfl ok95 rfl rfl rfl rfl (fun w hw => spec_l1Cur_pick.ok h35 w (hr_a0_0.down hw) (Sep.sub hw))) ?_
      rintro _ _ ⟨_, ⟨rfl, rfl⟩, rfl⟩
      refine F.q rfl rfl rfl (wanted_none rfl) (r_shl rfl rfl hs36) ?_
      refine F.q rfl rfl rfl (wanted_none rfl) (r_assign rfl) ?_
      refine F.nil ?_
      cases hE_3
      refine Nrm.only [0, 1, 4, 5, 6, 7, 8, 9] rfl ?_
      refine Nrm.pick [0, 1, 2, 3, 4] rfl rfl ?_
      exact hj_2 _ _ ⟨rfl, rfl⟩
     ·replace hE_3 := if_ff g_2 hE_3
      refine Tri.skip ?_
      cases hE_3
      refine Nrm.only [0, 1, 4, 5, 6, 7, 8, 9] rfl ?_
      refine Nrm.pick [0, 1, 2, 3, 4] rfl rfl ?_
      exact hj_2 _ _ ⟨rfl, rfl⟩
   ·replace hE_1 := if_ff g_1 hE_1
    refine Tri.exit ?_
    refine Exi.then ?_
    refine Exi.then ?_
    refine Exi.same ?_
    cases hE_1
    refine Nrm.seq ?_
    refine Tri.seq ?_
    refine Tri.seq ?_
    obtain ⟨⟨t67_1, t67_2, t67_3⟩, h67, h⟩ := bind_some h
    refine Tri.reg (l := [0, 1, 2]) rfl ?_
    refine F.q rfl rfl rfl (wanted_none rfl) (r_move rfl) ?_
    refine F.ef rfl rfl rfl (wanted_none rfl) (d_callM (xs := _) (cs := [R.box pa0 100 [va0_0, .int .i64 xpa0_1, .int .u64 xpa0_2]]) (rest := [R.box b5_1 27 [.int .i64 a1, wq5_1_1, wq5_1_2], R.box b4_1 27 [.int .i64 0, .slice none 0 0, .slice none 0 0], R.sl Tq5_1_1 wq5_1_1 (xq5_1_1 : List (Int × Int × Int)), R.sl Tq5_1_2 wq5_1_2 (xq5_1_2 : List (Int))]) [1] [0, 2, 3, 4] rfl ok95 rfl rfl rfl rfl (fun w hw => spec_l1Cur_pick.ok h67 w (hr_a0_0.down hw) (Sep.sub hw))) ?_
    rintro _ _ ⟨_, ⟨rfl, rfl⟩, rfl⟩
    refine F.q rfl rfl rfl (wanted_none rfl) (r_assign rfl) ?_
    refine F.nil ?_
    refine Nrm.seq ?_
    obtain ⟨⟨xpa0_1r, xpa0_2r, xq5_1_1r⟩, hE_6, h⟩ := bind_some h
    refine Tri.block ?_
    refine Tri.only [0, 1, 4, 5, 6, 11] rfl ?_
    refine Tri.pick [0, 1, 2, 3, 4] rfl rfl ?_
    refine Tri.rounds (fun n e' C' => ∃ (x11' : Int) (xpa0_1r' : Int) (xpa0_2r' : Int) (xq5_1_1r' : List (Int × Int × Int)) (wq5_1_1r : Value) (Tq5_1_1r : Nat → Prop), spec_l1Cur_someMaze.l1 k a0_0 a1 t20_1 n x11' xpa0_1r' xpa0_2r' xq5_1_1r' = some (xpa0_1r, xpa0_2r, xq5_1_1r) ∧ SlLen wq5_1_1r (xq5_1_1r').length ∧ e' = [(0, .pointer (some ⟨pa0, 0, none⟩)), (1, .int .i64 a1), (4, .pointer (some ⟨b4_1, 0, none⟩)), (5, .pointer (some ⟨b5_1, 0, none⟩)), (6, .int .i64 (w64 (1 + t20_1))), (11, .int .i64 x11')] ∧ C' = Sep w (footM [R.box pa0 100 [va0_0, .int .i64 a0_1, .int .u64 a0_2]]) [R.box pa0 100 [va0_0, .int .i64 xpa0_1r', .int .u64 xpa0_2r'], R.box b5_1 27 [.int .i64 a1, wq5_1_1r, wq5_1_2], R.box b4_1 27 [.int .i64 0, .slice none 0 0, .slice none 0 0], R.sl Tq5_1_1r wq5_1_1r (xq5_1_1r' : List (Int × Int × Int)), R.sl Tq5_1_2 wq5_1_2 (xq5_1_2 : List (Int))]) k ?_ ?_ ?_
    ·exact ⟨t67_1, t67_2, t67_3, xq5_1_1, wq5_1_1, Tq5_1_1, hE_6, hl_wq5_1_1, rfl, rfl⟩
    ·rintro _ _ ⟨_, _, _, _, _, _, hE_6, _⟩
     rw [spec_l1Cur_someMaze.l1.eq_1] at hE_6; cases hE_6
    ·rintro n_2 _ _ ⟨x11, xpa0_1r, xpa0_2r, xq5_1_1r, wq5_1_1r, Tq5_1_1r, hE_6, hl_wq5_1_1r, rfl, rfl⟩ ih_2
     rw [spec_l1Cur_someMaze.l1.eq_2] at hE_6
     refine Tri.seq ?_
     refine Tri.seq ?_
     obtain ⟨y77, hE_7, hE_6⟩ := bind_some hE_6
     refine Tri.cut (fun e' C' => e' = [(0, .pointer (some ⟨pa0, 0, none⟩)), (1, .int .i64 a1), (4, .pointer (some ⟨b4_1, 0, none⟩)), (5, .pointer (some ⟨b5_1, 0, none⟩)), (6, .int .i64 (w64 (1 + t20_1))), (11, .int .i64 x11), (77, .bool y77)] ∧ C' = Sep w (footM [R.box pa0 100 [va0_0, .int .i64 a0_1, .int .u64 a0_2]]) [R.box pa0 100 [va0_0, .int .i64 xpa0_1r, .int .u64 xpa0_2r], R.box b5_1 27 [.int .i64 a1, wq5_1_1r, wq5_1_2], R.box b4_1 27 [.int .i64 0, .slice none 0 0, .slice none 0 0], R.sl Tq5_1_1r wq5_1_1r (xq5_1_1r : List (Int × Int × Int)), R.sl Tq5_1_2 wq5_1_2 (xq5_1_2 : List (Int))]) ?_ (fun hj_5 => ?_)
     ·rintro _ _ ⟨rfl, rfl⟩
      refine Nrm.seq ?_
      refine Tri.cond (b := y77) rfl (fun g_5 => ?_) (fun g_5 => ?_)
      ·replace hE_6 := if_tt g_5 hE_6
       refine Tri.skip ?_
       refine Nrm.seq ?_
       refine Tri.seq ?_
       refine Tri.block ?_
       refine Tri.seq ?_
       obtain ⟨⟨t82_1, t82_2, t82_3⟩, h82, hE_6⟩ := bind_some hE_6
       obtain ⟨⟨t85_1, t85_2, t85_3⟩, h85, hE_6⟩ := bind_some hE_6
       refine Tri.reg (l := [0, 1, 2, 3, 4, 5, 6, 7]) rfl ?_
       refine F.q rfl rfl rfl (wanted_none rfl) (r_move rfl) ?_
       refine F.q rfl rfl rfl (wanted_none rfl) (r_move rfl) ?_
       refine F.ef rfl rfl rfl (wanted_none rfl) (d_callM (xs := _) (cs := [R.box pa0 100 [va0_0, .int .i64 xpa0_1r, .int .u64 xpa0_2r]]) (rest := [R.box b5_1 27 [.int .i64 a1, wq5_1_1r, wq5_1_2], R.box b4_1 27 [.int .i64 0, .slice none 0 0, .slice none 0 0], R.sl Tq5_1_1r wq5_1_1r (xq5_1_1r : List (Int × Int × Int)), R.sl Tq5_1_2 wq5_1_2 (xq5_1_2 : List (Int))]) [0] [1, 2, 3, 4] rfl ok95 rfl rfl rfl rfl (fun w hw => spec_l1Cur_pick.ok h82 w (hr_a0_0.down hw) (Sep.sub hw))) ?_
       rintro _ _ ⟨_, ⟨rfl, rfl⟩, rfl⟩
       refine F.q rfl rfl rfl (wanted_none rfl) (r_move rfl) ?_
       refine F.q rfl rfl rfl (wanted_none rfl) (r_move rfl) ?_
       refine F.ef rfl rfl rfl (wanted_none rfl) (d_callM (xs := _) (cs := [R.box pa0 100 [va0_0, .int .i64 t82_2, .int .u64 t82_3]]) (rest := [R.box b5_1 27 [.int .i64 a1, wq5_1_1r, wq5_1_2], R.box b4_1 27 [.int .i64 0, .slice none 0 0, .slice none 0 0], R.sl Tq5_1_1r wq5_1_1r (xq5_1_1r : List (Int × Int × Int)), R.sl Tq5_1_2 wq5_1_2 (xq5_1_2 : List (Int))]) [0] [1, 2, 3, 4] rfl ok95 rfl rfl rfl rfl (fun w hw => spec_l1Cur_pick.ok h85 w (hr_a0_0.down hw) (Sep.sub hw))) ?_
       rintro _ _ ⟨_, ⟨rfl, rfl⟩, rfl⟩
       refine F.q rfl rfl rfl (wanted_none rfl) (r_assign rfl) ?_
       refine F.q rfl rfl rfl (wanted_none rfl) (r_assign rfl) ?_
       refine F.nil ?_
       refine Nrm.seq ?_
       refine Tri.seq ?_
       refine Tri.reg (l := [0, 1, 2]) rfl ?_
       refine F.q rfl rfl rfl (wanted_none rfl) (r_move rfl) ?_
       refine F.q rfl rfl rfl (wanted_none rfl) (r_move rfl) ?_
       refine F.q rfl rfl rfl (wanted_none rfl) (r_neq rfl rfl) ?_
       refine F.nil ?_
       refine Nrm.seq ?_
       obtain ⟨⟨ypa0_1rr, ypa0_2rr, yb5_1_1r⟩, hE_8, hE_6⟩ := bind_some hE_6
       refine Tri.cut (fun e' C' => ∃ (vb5_1_1_2 : Value) (Sb5_1_1_2 : Nat → Prop), SlLen vb5_1_1_2 (yb5_1_1r).length ∧ e' = [(0, .pointer (some ⟨pa0, 0, none⟩)), (1, .int .i64 a1), (4, .pointer (some ⟨b4_1, 0, none⟩)), (5, .pointer (some ⟨b5_1, 0, none⟩)), (6, .int .i64 (w64 (1 + t20_1))), (11, .int .i64 x11)] ∧ C' = Sep w (footM [R.box pa0 100 [va0_0, .int .i64 a0_1, .int .u64 a0_2]]) [R.box pa0 100 [va0_0, .int .i64 ypa0_1rr, .int .u64 ypa0_2rr], R.box b5_1 27 [.int .i64 a1, vb5_1_1_2, wq5_1_2], R.box b4_1 27 [.int .i64 0, .slice none 0 0, .slice none 0 0], R.sl Sb5_1_1_2 vb5_1_1_2 (yb5_1_1r : List (Int × Int × Int)), R.sl Tq5_1_2 wq5_1_2 (xq5_1_2 : List (Int))]) ?_ (fun hj_6 => ?_)
       ·rintro _ _ ⟨vb5_1_1_2, Sb5_1_1_2, hl_vb5_1_1_2, rfl, rfl⟩
        refine Nrm.block ?_
        refine Nrm.seq ?_
        refine Tri.reg (l := [0, 1, 2]) rfl ?_
        refine F.q rfl rfl rfl (wanted_none rfl) (r_move rfl) ?_
        refine F.q rfl rfl rfl (wanted_none rfl) (r_sub rfl rfl) ?_
        refine F.q rfl rfl rfl (wanted_none rfl) (r_assign rfl) ?_
        refine F.nil ?_
        refine Nrm.round ?_
        refine Rnd.only [0, 1, 4, 5, 6, 11] rfl ?_
        refine Rnd.pick [0, 1, 2, 3, 4] rfl rfl ?_
        exact ih_2 _ _ ⟨w64 (x11 - 1), ypa0_1rr, ypa0_2rr, yb5_1_1r, vb5_1_1_2, Sb5_1_1_2, hE_6, hl_vb5_1_1_2, rfl, rfl⟩
       ·refine Tri.cond (b := t82_1 != t85_1) rfl (fun g_6 => ?_) (fun g_6 => ?_)
        ·replace hE_8 := if_tt g_6 hE_8
         obtain ⟨⟨t95_1, t95_2, t95_3⟩, h95, hE_8⟩ := bind_some hE_8
         obtain ⟨t96, h96, hE_8⟩ := bind_some hE_8
         refine Tri.drawK (B := Sep w (footM [R.box pa0 100 [va0_0, .int .i64 a0_1, .int .u64 a0_2]]) [R.box b5_1 27 [.int .i64 a1, wq5_1_1r, wq5_1_2], R.box b4_1 27 [.int .i64 0, .slice none 0 0, .slice none 0 0], R.sl Tq5_1_1r wq5_1_1r (xq5_1_1r : List (Int × Int × Int)), R.sl Tq5_1_2 wq5_1_2 (xq5_1_2 : List (Int))]) mixedT Sep.up [(0, true), (1, true), (2, true), (3, true), (4, true), (5, true), (6, false)] [7, 8, 9] (by kernel_rfl) ?_
         refine K.q [1, 2, 3, 4] rfl rfl rfl rfl rfl (wanted_none rfl) (r_fieldAddr tf27_1 rfl) ?_
         refine K.q [1, 2, 3, 4] rfl rfl rfl rfl rfl (wanted_none rfl) (r_load ta24 rfl (fun w hw => cell_1 (box_cells (i := 0) rfl w hw) rfl)) ?_
         iterate 4 refine K.q [1, 2, 3, 4] rfl rfl rfl rfl rfl (wanted_none rfl) (r_move rfl) ?_
         refine B.ef rfl rfl rfl (wanted_none rfl) (d_callM (xs := _) (cs := [R.box pa0 100 [va0_0, .int .i64 t85_2, .int .u64 t85_3]]) (rest := [R.box b5_1 27 [.int .i64 a1, wq5_1_1r, wq5_1_2], R.box b4_1 27 [.int .i64 0, .slice none 0 0, .slice none 0 0], R.sl Tq5_1_1r wq5_1_1r (xq5_1_1r : List (Int × Int × Int)), R.sl Tq5_1_2 wq5_1_2 (xq5_1_2 : List (Int))]) [0] [1, 2, 3, 4] rfl ok205 rfl rfl rfl rfl (fun w hw => spec_l1Cur_few.ok h95 w (hr_a0_0.down hw) (Sep.sub hw))) (by rintro _ _ ⟨_, ⟨rfl, rfl⟩, rfl⟩; exact upd rfl [1, 2, 3, 4] rfl rfl) ?_
         rintro _ _ ⟨_, ⟨rfl, rfl⟩, rfl⟩
         refine B.nil ?_
         refine F.ef rfl rfl rfl (wanted_none rfl) (d_callM (xs := _) (cs := [R.sl Tq5_1_1r wq5_1_1r (xq5_1_1r : List (Int × Int × Int))]) (rest := [R.box pa0 100 [va0_0, .int .i64 t95_2, .int .u64 t95_3], R.box b5_1 27 [.int .i64 a1, wq5_1_1r, wq5_1_2], R.box b4_1 27 [.int .i64 0, .slice none 0 0, .slice none 0 0], R.sl Tq5_1_2 wq5_1_2 (xq5_1_2 : List (Int))]) [3] [0, 1, 2, 4] rfl ok206 rfl rfl rfl rfl (fun w hw => spec_l2Put.ok h96 w hl_wq5_1_1r (Sep.sub hw))) ?_
         rintro v96_2 _ ⟨_, ⟨S96_2, hl_v96_2, rfl⟩, rfl⟩
         refine F.q rfl rfl rfl (wanted_none rfl) (r_fieldAddr tf27_1 rfl) ?_
         refine F.ef0 rfl rfl (wanted_none rfl) (d_storeG1 (i := 2) (cs2 := [v96_2]) ti24 rfl rfl rfl (sl_cells hl_v96_2) rfl (Nat.le_of_ble_eq_true rfl) (lf_cons (sl_leaf hl_v96_2) lf_nil)) ?_
         rintro _ _ ⟨rfl, rfl⟩
         refine F.nil ?_
         cases hE_8
         refine Nrm.only [0, 1, 4, 5, 6, 11] rfl ?_
         refine Nrm.pick [1, 2, 3, 0, 4] rfl rfl ?_
         exact hj_6 _ _ ⟨v96_2, S96_2, hl_v96_2, rfl, rfl⟩
        ·replace hE_8 := if_ff g_6 hE_8
         refine Tri.skip ?_
         cases hE_8
         refine Nrm.only [0, 1, 4, 5, 6, 11] rfl ?_
         refine Nrm.pick [0, 1, 2, 3, 4] rfl rfl ?_
         exact hj_6 _ _ ⟨wq5_1_1r, Tq5_1_1r, hl_wq5_1_1r, rfl, rfl⟩
      ·replace hE_6 := if_ff g_5 hE_6
       refine Tri.exit ?_
       refine Exi.then ?_
       refine Exi.then ?_
       refine Exi.same ?_
       cases hE_6
       refine Nrm.seq ?_
       refine Tri.seq ?_
       refine Tri.seq ?_
       obtain ⟨⟨t99_1, t99_2, t99_3⟩, h99, h⟩ := bind_some h
       refine Tri.reg (l := [0, 1]) rfl ?_
       refine F.q rfl rfl rfl (wanted_none rfl) (r_move rfl) ?_
       refine F.ef rfl rfl rfl (wanted_none rfl) (d_callM (xs := _) (cs := [R.box pa0 100 [va0_0, .int .i64 xpa0_1r, .int .u64 xpa0_2r]]) (rest := [R.box b5_1 27 [.int .i64 a1, wq5_1_1r, wq5_1_2], R.box b4_1 27 [.int .i64 0, .slice none 0 0, .slice none 0 0], R.sl Tq5_1_1r wq5_1_1r (xq5_1_1r : List (Int × Int × Int)), R.sl Tq5_1_2 wq5_1_2 (xq5_1_2 : List (Int))]) [0] [1, 2, 3, 4] rfl ok95 rfl rfl rfl rfl (fun w hw => spec_l1Cur_pick.ok h99 w (hr_a0_0.down hw) (Sep.sub hw))) ?_
       rintro _ _ ⟨_, ⟨rfl, rfl⟩, rfl⟩
       refine F.nil ?_
       refine Nrm.seq ?_
       refine Tri.block ?_
       refine Tri.seq ?_
       refine Tri.reg (l := [0, 1]) rfl ?_
       refine F.q rfl rfl rfl (wanted_none rfl) (r_eql rfl rfl) ?_
       refine F.q rfl rfl rfl (wanted_none rfl) (r_assign rfl) ?_
       refine F.nil ?_
       refine Nrm.seq ?_
       refine Tri.cond (b := t99_1 == 0) rfl (fun g_7 => ?_) (fun g_7 => ?_)
       ·replace h := if_tt g_7 h
        obtain ⟨⟨t107_1, t107_2, t107_3⟩, h107, h⟩ := bind_some h
        refine Tri.reg (l := [0, 1, 2, 3, 4, 5, 6, 7]) rfl ?_
        refine F.q rfl rfl rfl (wanted_none rfl) (r_move rfl) ?_
        refine F.q rfl rfl rfl (wanted_none rfl) (r_fieldAddr tf27_0 rfl) ?_
        refine F.q rfl rfl rfl (wanted_none rfl) (r_load ta3 rfl (fun w hw => cell_1 (box_cells (i := 1) rfl w hw) rfl)) ?_
        refine F.q rfl rfl rfl (wanted_none rfl) (r_add rfl rfl) ?_
        refine F.m rfl rfl rfl (wanted_none rfl) (m_buildF (l := ([0, 13, w64 (a1 + 1)] : List (Int))) Try.underlying25 ti3 rfl rfl rfl rfl rfl) ?_
        rintro v106_1 _ ⟨S106_1, hl_v106_1, rfl⟩
        refine F.ef rfl rfl rfl (wanted_none rfl) (d_callM (xs := _) (cs := [R.box pa0 100 [va0_0, .int .i64 t99_2, .int .u64 t99_3]]) (rest := [R.sl S106_1 v106_1 (([0, 13, w64 (a1 + 1)] : List (Int)) : List (Int)), R.box b5_1 27 [.int .i64 a1, wq5_1_1r, wq5_1_2], R.box b4_1 27 [.int .i64 0, .slice none 0 0, .slice none 0 0], R.sl Tq5_1_1r wq5_1_1r (xq5_1_1r : List (Int × Int × Int)), R.sl Tq5_1_2 wq5_1_2 (xq5_1_2 : List (Int))]) [1] [0, 2, 3, 4, 5] rfl ok96 rfl rfl rfl rfl (fun w hw => spec_l1Cur_among.ok h107 w (hr_a0_0.down hw) (rdm_sl (i := 0) rfl hw) (Sep.sub hw))) ?_
        rintro _ _ ⟨_, ⟨rfl, rfl⟩, rfl⟩
        refine F.q rfl rfl rfl (wanted_none rfl) (r_fieldAddr tf27_0 rfl) ?_
        refine F.ef0 rfl rfl (wanted_none rfl) (d_storeG1 (i := 2) (cs2 := [.int .i64 t107_1]) ti3 rfl rfl rfl rfl rfl (Nat.le_of_ble_eq_true rfl) (lf_cons rfl lf_nil)) ?_
        rintro _ _ ⟨rfl, rfl⟩
        refine F.nil ?_
        refine Nrm.block ?_
        refine Nrm.seq ?_
        refine Tri.seq ?_
        refine Tri.reg (l := [0, 1]) rfl ?_
        refine F.q rfl rfl rfl (wanted_none rfl) (r_loadA ta27 ti27 rfl rfl (fun w hw => (box_cells (i := 2) rfl w hw))) ?_
        refine F.ef0 rfl rfl (wanted_none rfl) (d_storeG0 (i := 3) (cs2 := [.int .i64 t107_1, wq5_1_1r, wq5_1_2]) ti27 rfl rfl rfl rfl rfl (Nat.le_of_ble_eq_true rfl) (lf_cons rfl (lf_cons (sl_leaf hl_wq5_1_1r) (lf_cons (sl_leaf hl_wq5_1_2) lf_nil)))) ?_
        rintro _ _ ⟨rfl, rfl⟩
        refine F.nil ?_
        refine Nrm.seq ?_
        refine Tri.ret ?_
        cases h
        exact Rtn.body (.cell rfl ta27 ti27 rfl (fun _ hw => box_cells (i := 3) rfl _ hw) .nil) (fun w hw => ⟨_, _, rfl, ⟨wq5_1_1r, Tq5_1_1r, wq5_1_2, Tq5_1_2, rfl, hl_wq5_1_1r, hl_wq5_1_2, rfl⟩, Sep.pick (is := [4, 5, 0]) rfl rfl hw⟩)
       ·replace h := if_ff g_7 h
        refine Tri.seq ?_
        refine Tri.reg (l := [0, 1]) rfl ?_
        refine F.q rfl rfl rfl (wanted_none rfl) (r_eql rfl rfl) ?_
        refine F.q rfl rfl rfl (wanted_none rfl) (r_assign rfl) ?_
        refine F.nil ?_
        refine Nrm.seq ?_
        refine Tri.cond (b := t99_1 == 1) rfl (fun g_8 => ?_) (fun g_8 => ?_)
        ·replace h := if_tt g_8 h
         refine Tri.seq ?_
         refine Tri.reg (l := [0, 1, 2, 3]) rfl ?_
         refine F.q rfl rfl rfl (wanted_none rfl) (r_fieldAddr tf27_1 rfl) ?_
         refine F.q rfl rfl rfl (wanted_none rfl) (r_load ta24 rfl (fun w hw => cell_1 (box_cells (i := 1) rfl w hw) rfl)) ?_
         refine F.q rfl rfl rfl (wanted_none rfl) (r_len Try.underlying24 rfl hl_wq5_1_1r) ?_
         refine F.q rfl rfl rfl (wanted_none rfl) (r_gtr rfl rfl) ?_
         refine F.nil ?_
         refine Nrm.seq ?_
         obtain ⟨⟨ypa0_1rrr, ypa0_2rrr, yb5_1_1rr⟩, hE_9, h⟩ := bind_some h
         refine Tri.cut (fun e' C' => ∃ (vb5_1_1_3 : Value) (Sb5_1_1_3 : Nat → Prop), SlLen vb5_1_1_3 (yb5_1_1rr).length ∧ e' = [(4, .pointer (some ⟨b4_1, 0, none⟩)), (5, .pointer (some ⟨b5_1, 0, none⟩))] ∧ C' = Sep w (footM [R.box pa0 100 [va0_0, .int .i64 a0_1, .int .u64 a0_2]]) [R.box pa0 100 [va0_0, .int .i64 ypa0_1rrr, .int .u64 ypa0_2rrr], R.box b5_1 27 [.int .i64 a1, vb5_1_1_3, wq5_1_2], R.box b4_1 27 [.int .i64 0, .slice none 0 0, .slice none 0 0], R.sl Sb5_1_1_3 vb5_1_1_3 (yb5_1_1rr : List (Int × Int × Int)), R.sl Tq5_1_2 wq5_1_2 (xq5_1_2 : List (Int))]) ?_ (fun hj_7 => ?_)
         ·rintro _ _ ⟨vb5_1_1_3, Sb5_1_1_3, hl_vb5_1_1_3, rfl, rfl⟩
          refine Nrm.block ?_
          refine Nrm.seq ?_
          refine Tri.seq ?_
          refine Tri.reg (l := [0, 1]) rfl ?_
          refine F.q rfl rfl rfl (wanted_none rfl) (r_loadA ta27 ti27 rfl rfl (fun w hw => (box_cells (i := 1) rfl w hw))) ?_
          refine F.ef0 rfl rfl (wanted_none rfl) (d_storeG0 (i := 2) (cs2 := [.int .i64 a1, vb5_1_1_3, wq5_1_2]) ti27 rfl rfl rfl rfl rfl (Nat.le_of_ble_eq_true rfl) (lf_cons rfl (lf_cons (sl_leaf hl_vb5_1_1_3) (lf_cons (sl_leaf hl_wq5_1_2) lf_nil)))) ?_
          rintro _ _ ⟨rfl, rfl⟩
          refine F.nil ?_
          refine Nrm.seq ?_
          refine Tri.ret ?_
          cases h
          exact Rtn.body (.cell rfl ta27 ti27 rfl (fun _ hw => box_cells (i := 2) rfl _ hw) .nil) (fun w hw => ⟨_, _, rfl, ⟨vb5_1_1_3, Sb5_1_1_3, wq5_1_2, Tq5_1_2, rfl, hl_vb5_1_1_3, hl_wq5_1_2, rfl⟩, Sep.pick (is := [3, 4, 0]) rfl rfl hw⟩)
         ·refine Tri.cond (b := decide ((xq5_1_1r.length : Int) > 0)) rfl (fun g_9 => ?_) (fun g_9 => ?_)
          ·replace hE_9 := if_tt g_9 hE_9
           refine Tri.seq ?_
           obtain ⟨⟨t119_1, t119_2, t119_3⟩, h119, hE_9⟩ := bind_some hE_9
           refine Tri.reg (l := [0, 1, 2, 3, 4, 5]) rfl ?_
           refine F.q rfl rfl rfl (wanted_none rfl) (r_move rfl) ?_
           refine F.q rfl rfl rfl (wanted_none rfl) (r_fieldAddr tf27_1 rfl) ?_
           refine F.q rfl rfl rfl (wanted_none rfl) (r_load ta24 rfl (fun w hw => cell_1 (box_cells (i := 1) rfl w hw) rfl)) ?_
           refine F.q rfl rfl rfl (wanted_none rfl) (r_len Try.underlying24 rfl hl_wq5_1_1r) ?_
           refine F.ef rfl rfl rfl (wanted_none rfl) (d_callM (xs := _) (cs := [R.box pa0 100 [va0_0, .int .i64 t99_2, .int .u64 t99_3]]) (rest := [R.box b5_1 27 [.int .i64 a1, wq5_1_1r, wq5_1_2], R.box b4_1 27 [.int .i64 0, .slice none 0 0, .slice none 0 0], R.sl Tq5_1_1r wq5_1_1r (xq5_1_1r : List (Int × Int × Int)), R.sl Tq5_1_2 wq5_1_2 (xq5_1_2 : List (Int))]) [0] [1, 2, 3, 4] rfl ok95 rfl rfl rfl rfl (fun w hw => spec_l1Cur_pick.ok h119 w (hr_a0_0.down hw) (Sep.sub hw))) ?_
           rintro _ _ ⟨_, ⟨rfl, rfl⟩, rfl⟩
           refine F.q rfl rfl rfl (wanted_none rfl) (r_assign rfl) ?_
           refine F.nil ?_
           refine Nrm.seq ?_
           obtain ⟨t126, h126, hE_9⟩ := bind_some hE_9
           obtain ⟨t132, h132, hE_9⟩ := bind_some hE_9
           obtain ⟨t136, h136, hE_9⟩ := bind_some hE_9
           refine Tri.drawA mixedT Sep.up [(0, true), (1, true), (2, true), (3, true), (4, true), (5, true), (6, true), (7, true), (8, true), (9, true), (10, true), (11, true), (12, true), (13, true), (14, true), (15, true), (16, true)] [17] (by kernel_rfl) ?_
           refine S.q rfl rfl rfl (wanted_none rfl) (r_fieldAddr tf27_1 rfl) ?_
           refine S.q rfl rfl rfl (wanted_none rfl) (r_load ta24 rfl (fun w hw => cell_1 (box_cells (i := 1) rfl w hw) rfl)) ?_
           refine S.q rfl rfl rfl (wanted_none rfl) (r_move rfl) ?_
           refine S.q rfl rfl rfl (wanted_none rfl) (r_fieldAddr tf27_1 rfl) ?_
           refine S.q rfl rfl rfl (wanted_none rfl) (r_load ta24 rfl (fun w hw => cell_1 (box_cells (i := 1) rfl w hw) rfl)) ?_
           refine S.q rfl rfl rfl (wanted_none rfl) (r_move rfl) ?_
           refine S.q rfl rfl rfl (wanted_none rfl) (r_indexAddrS Try.underlying24 ti121 rfl hl_wq5_1_1r rfl (rdl_some h126).1 (rdl_some h126).2.1) ?_
           refine S.q rfl rfl rfl (wanted_none rfl) (r_indexAddrA Try.underlying121 ti3 rfl rfl (by decide) (by decide)) ?_
           refine S.q rfl rfl rfl (wanted_none rfl) (r_load ta3 rfl (fun w hw => cell_1 (Rd.flat ((rd_sl (i := 3) rfl) w hw) (rdl_some h126).2.2) rfl)) ?_
           refine S.q rfl rfl rfl (wanted_none rfl) (r_fieldAddr tf27_1 rfl) ?_
           refine S.q rfl rfl rfl (wanted_none rfl) (r_load ta24 rfl (fun w hw => cell_1 (box_cells (i := 1) rfl w hw) rfl)) ?_
           refine S.q rfl rfl rfl (wanted_none rfl) (r_move rfl) ?_
           refine S.q rfl rfl rfl (wanted_none rfl) (r_indexAddrS Try.underlying24 ti121 rfl hl_wq5_1_1r rfl (rdl_some h132).1 (rdl_some h132).2.1) ?_
           refine S.q rfl rfl rfl (wanted_none rfl) (r_indexAddrA Try.underlying121 ti3 rfl rfl (by decide) (by decide)) ?_
           refine S.q rfl rfl rfl (wanted_none rfl) (r_load ta3 rfl (fun w hw => cell_1 (Rd.flat ((rd_sl (i := 3) rfl) w hw) (rdl_some h132).2.2) rfl)) ?_
           refine S.q rfl rfl rfl (wanted_none rfl) (r_buildA (qs := [(0, [.int .i64 t126.2.1]), (1, [.int .i64 t132.1]), (2, [.int .i64 0])]) (cs := [.int .i64 t126.2.1, .int .i64 t132.1, .int .i64 0]) Try.underlying121 ti3 ti121 rfl (.cons rfl rfl (Nat.le_of_ble_eq_true rfl) (.cons rfl rfl (Nat.le_of_ble_eq_true rfl) (.cons rfl rfl (Nat.le_of_ble_eq_true rfl) .nil))) rfl rfl) ?_
           refine S.q rfl rfl rfl (wanted_none rfl) (r_indexAddrS Try.underlying24 ti121 rfl hl_wq5_1_1r rfl (rdl_some h136).1 (rdl_some h136).2.1) ?_
           refine S.nil ?_
           refine F.ef0 rfl rfl (wanted_none rfl) (d_storeE (i := 3) (x1 := (t126.2.1, t132.1, 0)) ti121 rfl rfl rfl (rdl_some h136) rfl) ?_
           rintro _ _ ⟨rfl, rfl⟩
           refine F.nil ?_
           cases hE_9
           refine Nrm.only [4, 5] rfl ?_
           refine Nrm.pick [0, 1, 2, 3, 4] rfl rfl ?_
           exact hj_7 _ _ ⟨wq5_1_1r, Tq5_1_1r, (len_set hl_wq5_1_1r), rfl, rfl⟩
          ·replace hE_9 := if_ff g_9 hE_9
           refine Tri.skip ?_
           cases hE_9
           refine Nrm.only [4, 5] rfl ?_
           refine Nrm.pick [0, 1, 2, 3, 4] rfl rfl ?_
           exact hj_7 _ _ ⟨wq5_1_1r, Tq5_1_1r, hl_wq5_1_1r, rfl, rfl⟩
        ·replace h := if_ff g_8 h
         refine Tri.seq ?_
         refine Tri.reg (l := [0, 1]) rfl ?_
         refine F.q rfl rfl rfl (wanted_none rfl) (r_eql rfl rfl) ?_
         refine F.q rfl rfl rfl (wanted_none rfl) (r_assign rfl) ?_
         refine F.nil ?_
         refine Nrm.seq ?_
         refine Tri.cond (b := t99_1 == 2) rfl (fun g_10 => ?_) (fun g_10 => ?_)
         ·replace h := if_tt g_10 h
          refine Tri.seq ?_
          refine Tri.reg (l := [0, 1, 2, 3]) rfl ?_
          refine F.q rfl rfl rfl (wanted_none rfl) (r_fieldAddr tf27_2 rfl) ?_
          refine F.q rfl rfl rfl (wanted_none rfl) (r_load ta25 rfl (fun w hw => cell_1 (box_cells (i := 1) rfl w hw) rfl)) ?_
          refine F.q rfl rfl rfl (wanted_none rfl) (r_len Try.underlying25 rfl hl_wq5_1_2) ?_
          refine F.q rfl rfl rfl (wanted_none rfl) (r_gtr rfl rfl) ?_
          refine F.nil ?_
          refine Nrm.seq ?_
          obtain ⟨⟨ypa0_1rrrr, ypa0_2rrrr, yb5_1_2⟩, hE_10, h⟩ := bind_some h
          refine Tri.cut (fun e' C' => ∃ (vb5_1_2_1 : Value) (Sb5_1_2_1 : Nat → Prop), SlLen vb5_1_2_1 (yb5_1_2).length ∧ e' = [(4, .pointer (some ⟨b4_1, 0, none⟩)), (5, .pointer (some ⟨b5_1, 0, none⟩))] ∧ C' = Sep w (footM [R.box pa0 100 [va0_0, .int .i64 a0_1, .int .u64 a0_2]]) [R.box pa0 100 [va0_0, .int .i64 ypa0_1rrrr, .int .u64 ypa0_2rrrr], R.box b5_1 27 [.int .i64 a1, wq5_1_1r, vb5_1_2_1], R.box b4_1 27 [.int .i64 0, .slice none 0 0, .slice none 0 0], R.sl Sb5_1_2_1 vb5_1_2_1 (yb5_1_2 : List (Int)), R.sl Tq5_1_1r wq5_1_1r (xq5_1_1r : List (Int × Int × Int))]) ?_ (fun hj_8 => ?_)
          ·rintro _ _ ⟨vb5_1_2_1, Sb5_1_2_1, hl_vb5_1_2_1, rfl, rfl⟩
           refine Nrm.block ?_
           refine Nrm.seq ?_
           refine Tri.seq ?_
           refine Tri.reg (l := [0, 1]) rfl ?_
           refine F.q rfl rfl rfl (wanted_none rfl) (r_loadA ta27 ti27 rfl rfl (fun w hw => (box_cells (i := 1) rfl w hw))) ?_
           refine F.ef0 rfl rfl (wanted_none rfl) (d_storeG0 (i := 2) (cs2 := [.int .i64 a1, wq5_1_1r, vb5_1_2_1]) ti27 rfl rfl rfl rfl rfl (Nat.le_of_ble_eq_true rfl) (lf_cons rfl (lf_cons (sl_leaf hl_wq5_1_1r) (lf_cons (sl_leaf hl_vb5_1_2_1) lf_nil)))) ?_
           rintro _ _ ⟨rfl, rfl⟩
           refine F.nil ?_
           refine Nrm.seq ?_
           refine Tri.ret ?_
           cases h
           exact Rtn.body (.cell rfl ta27 ti27 rfl (fun _ hw => box_cells (i := 2) rfl _ hw) .nil) (fun w hw => ⟨_, _, rfl, ⟨wq5_1_1r, Tq5_1_1r, vb5_1_2_1, Sb5_1_2_1, rfl, hl_wq5_1_1r, hl_vb5_1_2_1, rfl⟩, Sep.pick (is := [4, 3, 0]) rfl rfl hw⟩)
          ·refine Tri.cond (b := decide ((xq5_1_2.length : Int) > 0)) rfl (fun g_11 => ?_) (fun g_11 => ?_)
           ·replace hE_10 := if_tt g_11 hE_10
            obtain ⟨⟨ypa0_1rrrr, ypa0_2rrrr, yb5_1_2⟩, hE_11, hE_10⟩ := bind_some hE_10
            refine Tri.cut (fun e' C' => ∃ (vb5_1_2_2 : Value) (Sb5_1_2_2 : Nat → Prop), SlLen vb5_1_2_2 (yb5_1_2).length ∧ e' = [(4, .pointer (some ⟨b4_1, 0, none⟩)), (5, .pointer (some ⟨b5_1, 0, none⟩))] ∧ C' = Sep w (footM [R.box pa0 100 [va0_0, .int .i64 a0_1, .int .u64 a0_2]]) [R.box pa0 100 [va0_0, .int .i64 ypa0_1rrrr, .int .u64 ypa0_2rrrr], R.box b5_1 27 [.int .i64 a1, wq5_1_1r, vb5_1_2_2], R.box b4_1 27 [.int .i64 0, .slice none 0 0, .slice none 0 0], R.sl Sb5_1_2_2 vb5_1_2_2 (yb5_1_2 : List (Int)), R.sl Tq5_1_1r wq5_1_1r (xq5_1_1r : List (Int × Int × Int))]) ?_ (fun hj_9 => ?_)
            ·rintro _ _ ⟨vb5_1_2_2, Sb5_1_2_2, hl_vb5_1_2_2, rfl, rfl⟩
             cases hE_10
             refine Nrm.only [4, 5] rfl ?_
             refine Nrm.pick [0, 1, 2, 3, 4] rfl rfl ?_
             exact hj_8 _ _ ⟨vb5_1_2_2, Sb5_1_2_2, hl_vb5_1_2_2, rfl, rfl⟩
            ·obtain ⟨⟨t149_1, t149_2, t149_3⟩, h149, hE_11⟩ := bind_some hE_11
             obtain ⟨⟨t152_1, t152_2, t152_3⟩, h152, hE_11⟩ := bind_some hE_11
             obtain ⟨t153, h153, hE_11⟩ := bind_some hE_11
             refine Tri.drawTK (B := Sep w (footM [R.box pa0 100 [va0_0, .int .i64 a0_1, .int .u64 a0_2]]) [R.box b5_1 27 [.int .i64 a1, wq5_1_1r, wq5_1_2], R.box b4_1 27 [.int .i64 0, .slice none 0 0, .slice none 0 0], R.sl Tq5_1_1r wq5_1_1r (xq5_1_1r : List (Int × Int × Int)), R.sl Tq5_1_2 wq5_1_2 (xq5_1_2 : List (Int))]) mixedT Sep.up [0, 1, 2, 3, 4, 5, 7, 6, 8, 9] [10, 11] (.q 0 (.q 1 (.q 2 (.q 3 (.q 4 (.q 5 (.q 7 (.alt 6 (.alt 8 (.alt 9 .nil .stop) .stop) (.alt 8 (.alt 6 (.alt 9 .nil .stop) .stop) .stop))))))))) (by kernel_rfl) ?_
             refine TK.q [1, 2, 3, 4] rfl rfl rfl rfl rfl (wanted_none rfl) (r_fieldAddr tf27_2 rfl) ?_
             refine TK.q [1, 2, 3, 4] rfl rfl rfl rfl rfl (wanted_none rfl) (r_load ta25 rfl (fun w hw => cell_1 (box_cells (i := 0) rfl w hw) rfl)) ?_
             refine TK.q [1, 2, 3, 4] rfl rfl rfl rfl rfl (wanted_none rfl) (r_move rfl) ?_
             refine TK.q [1, 2, 3, 4] rfl rfl rfl rfl rfl (wanted_none rfl) (r_fieldAddr tf27_2 rfl) ?_
             refine TK.q [1, 2, 3, 4] rfl rfl rfl rfl rfl (wanted_none rfl) (r_load ta25 rfl (fun w hw => cell_1 (box_cells (i := 0) rfl w hw) rfl)) ?_
             refine TK.q [1, 2, 3, 4] rfl rfl rfl rfl rfl (wanted_none rfl) (r_len Try.underlying25 rfl hl_wq5_1_2) ?_
             refine TK.q [1, 2, 3, 4] rfl rfl rfl rfl rfl (wanted_none rfl) (r_move rfl) ?_
             refine T.ef rfl rfl rfl (wanted_none rfl) (d_callM (xs := _) (cs := [R.box pa0 100 [va0_0, .int .i64 t99_2, .int .u64 t99_3]]) (rest := [R.box b5_1 27 [.int .i64 a1, wq5_1_1r, wq5_1_2], R.box b4_1 27 [.int .i64 0, .slice none 0 0, .slice none 0 0], R.sl Tq5_1_1r wq5_1_1r (xq5_1_1r : List (Int × Int × Int)), R.sl Tq5_1_2 wq5_1_2 (xq5_1_2 : List (Int))]) [0] [1, 2, 3, 4] rfl ok95 rfl rfl rfl rfl (fun w hw => spec_l1Cur_pick.ok h149 w (hr_a0_0.down hw) (Sep.sub hw))) (by rintro _ _ ⟨_, ⟨rfl, rfl⟩, rfl⟩; exact upd rfl [1, 2, 3, 4] rfl rfl) ?_ ?_
             ·rintro _ _ ⟨_, ⟨rfl, rfl⟩, rfl⟩
              refine T.ef rfl rfl rfl (wanted_none rfl) (Makes.does (m_buildF (l := ([64, (-1), 63] : List (Int))) Try.underlying25 ti3 rfl rfl rfl rfl rfl)) (by rintro v151_2 _ ⟨S151_2, hl_v151_2, rfl⟩; exact upd rfl [2, 3, 4, 5] rfl rfl) ?_ ?_
              ·rintro v151_2 _ ⟨S151_2, hl_v151_2, rfl⟩
               refine T.ef rfl rfl rfl (wanted_none rfl) (d_callM (xs := _) (cs := [R.box pa0 100 [va0_0, .int .i64 t149_2, .int .u64 t149_3]]) (rest := [R.sl S151_2 v151_2 (([64, (-1), 63] : List (Int)) : List (Int)), R.box b5_1 27 [.int .i64 a1, wq5_1_1r, wq5_1_2], R.box b4_1 27 [.int .i64 0, .slice none 0 0, .slice none 0 0], R.sl Tq5_1_1r wq5_1_1r (xq5_1_1r : List (Int × Int × Int)), R.sl Tq5_1_2 wq5_1_2 (xq5_1_2 : List (Int))]) [1] [0, 2, 3, 4, 5] rfl ok96 rfl rfl rfl rfl (fun w hw => spec_l1Cur_among.ok h152 w (hr_a0_0.down hw) (rdm_sl (i := 0) rfl hw) (Sep.sub hw))) (by rintro _ _ ⟨_, ⟨rfl, rfl⟩, rfl⟩; exact upd rfl [2, 3, 4, 5] rfl rfl) ?_ ?_
               ·rintro _ _ ⟨_, ⟨rfl, rfl⟩, rfl⟩
                refine T.nil ?_
                refine F.q rfl rfl rfl (wanted_none rfl) (r_indexAddrS Try.underlying25 ti3 rfl hl_wq5_1_2 rfl (rdl_some h153).1 (rdl_some h153).2.1) ?_
                refine F.ef0 rfl rfl (wanted_none rfl) (d_storeE (i := 5) (x1 := t152_1) ti3 rfl rfl rfl (rdl_some h153) rfl) ?_
                rintro _ _ ⟨rfl, rfl⟩
                refine F.nil ?_
                cases hE_11
                refine Nrm.only [4, 5] rfl ?_
                refine Nrm.pick [0, 2, 3, 5, 4] rfl rfl ?_
                exact hj_9 _ _ ⟨wq5_1_2, Tq5_1_2, (len_set hl_wq5_1_2), rfl, rfl⟩
               exact T.stop
              exact T.stop
             ·refine T.ef rfl rfl rfl (wanted_none rfl) (Makes.does (m_buildF (l := ([64, (-1), 63] : List (Int))) Try.underlying25 ti3 rfl rfl rfl rfl rfl)) (by rintro v151_3 _ ⟨S151_3, hl_v151_3, rfl⟩; exact upd rfl [2, 3, 4, 5] rfl rfl) ?_ ?_
              ·rintro v151_3 _ ⟨S151_3, hl_v151_3, rfl⟩
               refine T.ef rfl rfl rfl (wanted_none rfl) (d_callM (xs := _) (cs := [R.box pa0 100 [va0_0, .int .i64 t99_2, .int .u64 t99_3]]) (rest := [R.sl S151_3 v151_3 (([64, (-1), 63] : List (Int)) : List (Int)), R.box b5_1 27 [.int .i64 a1, wq5_1_1r, wq5_1_2], R.box b4_1 27 [.int .i64 0, .slice none 0 0, .slice none 0 0], R.sl Tq5_1_1r wq5_1_1r (xq5_1_1r : List (Int × Int × Int)), R.sl Tq5_1_2 wq5_1_2 (xq5_1_2 : List (Int))]) [1] [0, 2, 3, 4, 5] rfl ok95 rfl rfl rfl rfl (fun w hw => spec_l1Cur_pick.ok h149 w (hr_a0_0.down hw) (Sep.sub hw))) (by rintro _ _ ⟨_, ⟨rfl, rfl⟩, rfl⟩; exact upd rfl [2, 3, 4, 5] rfl rfl) ?_ ?_
               ·rintro _ _ ⟨_, ⟨rfl, rfl⟩, rfl⟩
                refine T.ef rfl rfl rfl (wanted_none rfl) (d_callM (xs := _) (cs := [R.box pa0 100 [va0_0, .int .i64 t149_2, .int .u64 t149_3]]) (rest := [R.sl S151_3 v151_3 (([64, (-1), 63] : List (Int)) : List (Int)), R.box b5_1 27 [.int .i64 a1, wq5_1_1r, wq5_1_2], R.box b4_1 27 [.int .i64 0, .slice none 0 0, .slice none 0 0], R.sl Tq5_1_1r wq5_1_1r (xq5_1_1r : List (Int × Int × Int)), R.sl Tq5_1_2 wq5_1_2 (xq5_1_2 : List (Int))]) [0] [1, 2, 3, 4, 5] rfl ok96 rfl rfl rfl rfl (fun w hw => spec_l1Cur_among.ok h152 w (hr_a0_0.down hw) (rdm_sl (i := 0) rfl hw) (Sep.sub hw))) (by rintro _ _ ⟨_, ⟨rfl, rfl⟩, rfl⟩; exact upd rfl [2, 3, 4, 5] rfl rfl) ?_ ?_
                ·rintro _ _ ⟨_, ⟨rfl, rfl⟩, rfl⟩
                 refine T.nil ?_
                 refine F.q rfl rfl rfl (wanted_none rfl) (r_indexAddrS Try.underlying25 ti3 rfl hl_wq5_1_2 rfl (rdl_some h153).1 (rdl_some h153).2.1) ?_
                 refine F.ef0 rfl rfl (wanted_none rfl) (d_storeE (i := 5) (x1 := t152_1) ti3 rfl rfl rfl (rdl_some h153) rfl) ?_
                 rintro _ _ ⟨rfl, rfl⟩
                 refine F.nil ?_
                 cases hE_11
                 refine Nrm.only [4, 5] rfl ?_
                 refine Nrm.pick [0, 2, 3, 5, 4] rfl rfl ?_
                 exact hj_9 _ _ ⟨wq5_1_2, Tq5_1_2, (len_set hl_wq5_1_2), rfl, rfl⟩
                exact T.stop
               exact T.stop
              exact T.stop
           ·replace hE_10 := if_ff g_11 hE_10
            refine Tri.skip ?_
            cases hE_10
            refine Nrm.only [4, 5] rfl ?_
            refine Nrm.pick [0, 1, 2, 4, 3] rfl rfl ?_
            exact hj_8 _ _ ⟨wq5_1_2, Tq5_1_2, hl_wq5_1_2, rfl, rfl⟩
         ·replace h := if_ff g_10 h
          refine Tri.seq ?_
          refine Tri.reg (l := [0, 1]) rfl ?_
          refine F.q rfl rfl rfl (wanted_none rfl) (r_eql rfl rfl) ?_
          refine F.q rfl rfl rfl (wanted_none rfl) (r_assign rfl) ?_
          refine F.nil ?_
          refine Nrm.seq ?_
          refine Tri.cond (b := t99_1 == 3) rfl (fun g_12 => ?_) (fun g_12 => ?_)
          ·replace h := if_tt g_12 h
           refine Tri.seq ?_
           refine Tri.reg (l := [0, 1, 2, 3]) rfl ?_
           refine F.q rfl rfl rfl (wanted_none rfl) (r_fieldAddr tf27_1 rfl) ?_
           refine F.q rfl rfl rfl (wanted_none rfl) (r_load ta24 rfl (fun w hw => cell_1 (box_cells (i := 1) rfl w hw) rfl)) ?_
           refine F.q rfl rfl rfl (wanted_none rfl) (r_len Try.underlying24 rfl hl_wq5_1_1r) ?_
           refine F.q rfl rfl rfl (wanted_none rfl) (r_gtr rfl rfl) ?_
           refine F.nil ?_
           refine Nrm.seq ?_
           obtain ⟨yb5_1_1rrr, hE_12, h⟩ := bind_some h
           refine Tri.cut (fun e' C' => ∃ (vb5_1_1_4 : Value) (Sb5_1_1_4 : Nat → Prop), SlLen vb5_1_1_4 (yb5_1_1rrr).length ∧ e' = [(4, .pointer (some ⟨b4_1, 0, none⟩)), (5, .pointer (some ⟨b5_1, 0, none⟩))] ∧ C' = Sep w (footM [R.box pa0 100 [va0_0, .int .i64 a0_1, .int .u64 a0_2]]) [R.box pa0 100 [va0_0, .int .i64 t99_2, .int .u64 t99_3], R.box b5_1 27 [.int .i64 a1, vb5_1_1_4, wq5_1_2], R.box b4_1 27 [.int .i64 0, .slice none 0 0, .slice none 0 0], R.sl Sb5_1_1_4 vb5_1_1_4 (yb5_1_1rrr : List (Int × Int × Int)), R.sl Tq5_1_2 wq5_1_2 (xq5_1_2 : List (Int))]) ?_ (fun hj_10 => ?_)
           ·rintro _ _ ⟨vb5_1_1_4, Sb5_1_1_4, hl_vb5_1_1_4, rfl, rfl⟩
            refine Nrm.block ?_
            refine Nrm.seq ?_
            refine Tri.seq ?_
            refine Tri.reg (l := [0, 1]) rfl ?_
            refine F.q rfl rfl rfl (wanted_none rfl) (r_loadA ta27 ti27 rfl rfl (fun w hw => (box_cells (i := 1) rfl w hw))) ?_
            refine F.ef0 rfl rfl (wanted_none rfl) (d_storeG0 (i := 2) (cs2 := [.int .i64 a1, vb5_1_1_4, wq5_1_2]) ti27 rfl rfl rfl rfl rfl (Nat.le_of_ble_eq_true rfl) (lf_cons rfl (lf_cons (sl_leaf hl_vb5_1_1_4) (lf_cons (sl_leaf hl_wq5_1_2) lf_nil)))) ?_
            rintro _ _ ⟨rfl, rfl⟩
            refine F.nil ?_
            refine Nrm.seq ?_
            refine Tri.ret ?_
            cases h
            exact Rtn.body (.cell rfl ta27 ti27 rfl (fun _ hw => box_cells (i := 2) rfl _ hw) .nil) (fun w hw => ⟨_, _, rfl, ⟨vb5_1_1_4, Sb5_1_1_4, wq5_1_2, Tq5_1_2, rfl, hl_vb5_1_1_4, hl_wq5_1_2, rfl⟩, Sep.pick (is := [3, 4, 0]) rfl rfl hw⟩)
           ·refine Tri.cond (b := decide ((xq5_1_1r.length : Int) > 0)) rfl (fun g_13 => ?_) (fun g_13 => ?_)
            ·replace hE_12 := if_tt g_13 hE_12
             obtain ⟨t164, h164, hE_12⟩ := bind_some hE_12
             obtain ⟨hs167, hE_12⟩ := ck hE_12
             refine Tri.drawA mixedT Sep.up [(0, true), (1, true), (2, true), (3, true), (4, true), (5, true), (6, false)] [7, 8, 9] (by kernel_rfl) ?_
             refine S.q rfl rfl rfl (wanted_none rfl) (r_fieldAddr tf27_1 rfl) ?_
             refine S.q rfl rfl rfl (wanted_none rfl) (r_load ta24 rfl (fun w hw => cell_1 (box_cells (i := 1) rfl w hw) rfl)) ?_
             refine S.q rfl rfl rfl (wanted_none rfl) (r_fieldAddr tf27_1 rfl) ?_
             refine S.q rfl rfl rfl (wanted_none rfl) (r_load ta24 rfl (fun w hw => cell_1 (box_cells (i := 1) rfl w hw) rfl)) ?_
             refine S.q rfl rfl rfl (wanted_none rfl) (r_indexAddrS Try.underlying24 ti121 rfl hl_wq5_1_1r rfl (rdl_some h164).1 (rdl_some h164).2.1) ?_
             refine S.q rfl rfl rfl (wanted_none rfl) (r_loadA ta121 ti121 rfl rfl (fun w hw => (Rd.flat ((rd_sl (i := 3) rfl) w hw) (rdl_some h164).2.2))) ?_
             refine S.m rfl rfl rfl (wanted_none rfl) (m_buildF (l := ([t164] : List (Int × Int × Int))) Try.underlying24 ti121 rfl rfl rfl rfl rfl) ?_
             rintro v166_2 _ ⟨S166_2, hl_v166_2, rfl⟩
             refine S.nil ?_
             refine F.ef rfl rfl rfl (wanted_none rfl) (d_append (i := 4) Try.underlying24 Try.underlying24 ti121 rfl (by decide) rfl rfl rfl (rd_sl (i := 0) rfl) hs167) ?_
             rintro v167_2 _ ⟨S167_2, rfl, hl_v167_2⟩
             refine F.q rfl rfl rfl (wanted_none rfl) (r_fieldAddr tf27_1 rfl) ?_
             refine F.ef0 rfl rfl (wanted_none rfl) (d_storeG1 (i := 2) (cs2 := [v167_2]) ti24 rfl rfl rfl (sl_cells hl_v167_2) rfl (Nat.le_of_ble_eq_true rfl) (lf_cons (sl_leaf hl_v167_2) lf_nil)) ?_
             rintro _ _ ⟨rfl, rfl⟩
             refine F.nil ?_
             cases hE_12
             refine Nrm.only [4, 5] rfl ?_
             refine Nrm.pick [1, 2, 3, 4, 5] rfl rfl ?_
             exact hj_10 _ _ ⟨v167_2, S167_2, hl_v167_2, rfl, rfl⟩
            ·replace hE_12 := if_ff g_13 hE_12
             refine Tri.skip ?_
             cases hE_12
             refine Nrm.only [4, 5] rfl ?_
             refine Nrm.pick [0, 1, 2, 3, 4] rfl rfl ?_
             exact hj_10 _ _ ⟨wq5_1_1r, Tq5_1_1r, hl_wq5_1_1r, rfl, rfl⟩
          ·replace h := if_ff g_12 h
           refine Tri.seq ?_
           refine Tri.reg (l := [0, 1]) rfl ?_
           refine F.q rfl rfl rfl (wanted_none rfl) (r_eql rfl rfl) ?_
           refine F.q rfl rfl rfl (wanted_none rfl) (r_assign rfl) ?_
           refine F.nil ?_
           refine Nrm.seq ?_
           refine Tri.cond (b := t99_1 == 4) rfl (fun g_14 => ?_) (fun g_14 => ?_)
           ·replace h := if_tt g_14 h
            refine Tri.seq ?_
            refine Tri.reg (l := [0, 1]) rfl ?_
            refine F.q rfl rfl rfl (wanted_none rfl) (r_build (pl := [(0, 1), (1, 1), (2, 1)]) (qs := []) (cs := [.int .i64 0, .slice none 0 0, .slice none 0 0]) (by kernel_rfl) ti27 rfl .nil rfl rfl) ?_
            refine F.ef0 rfl rfl (wanted_none rfl) (d_storeG0 (i := 2) (cs2 := [.int .i64 0, .slice none 0 0, .slice none 0 0]) ti27 rfl rfl rfl rfl rfl (Nat.le_of_ble_eq_true rfl) (lf_cons rfl (lf_cons rfl (lf_cons rfl lf_nil)))) ?_
            rintro _ _ ⟨rfl, rfl⟩
            refine F.nil ?_
            refine Nrm.seq ?_
            refine Tri.ret ?_
            refine Rtn.block ?_
            refine Rtn.then ?_
            cases h
            exact Rtn.body (.cell rfl ta27 ti27 rfl (fun _ hw => box_cells (i := 2) rfl _ hw) .nil) (fun w hw => ⟨_, _, rfl, ⟨.slice none 0 0, fun _ => False, .slice none 0 0, fun _ => False, rfl, len_nil, len_nil, rfl⟩, Sep.pick (is := [0, 1, 2]) rfl rfl hw.pushNil.pushNil⟩)
           ·replace h := if_ff g_14 h
            refine Tri.skip ?_
            refine Nrm.block ?_
            refine Nrm.seq ?_
            refine Tri.seq ?_
            refine Tri.reg (l := [0, 1]) rfl ?_
            refine F.q rfl rfl rfl (wanted_none rfl) (r_loadA ta27 ti27 rfl rfl (fun w hw => (box_cells (i := 1) rfl w hw))) ?_
            refine F.ef0 rfl rfl (wanted_none rfl) (d_storeG0 (i := 2) (cs2 := [.int .i64 a1, wq5_1_1r, wq5_1_2]) ti27 rfl rfl rfl rfl rfl (Nat.le_of_ble_eq_true rfl) (lf_cons rfl (lf_cons (sl_leaf hl_wq5_1_1r) (lf_cons (sl_leaf hl_wq5_1_2) lf_nil)))) ?_
            rintro _ _ ⟨rfl, rfl⟩
            refine F.nil ?_
            refine Nrm.seq ?_
            refine Tri.ret ?_
            cases h
            exact Rtn.body (.cell rfl ta27 ti27 rfl (fun _ hw => box_cells (i := 2) rfl _ hw) .nil) (fun w hw => ⟨_, _, rfl, ⟨wq5_1_1r, Tq5_1_1r, wq5_1_2, Tq5_1_2, rfl, hl_wq5_1_1r, hl_wq5_1_2, rfl⟩, Sep.pick (is := [3, 4, 0]) rfl rfl hw⟩)
     ·rcases Bool.eq_false_or_eq_true (decide (x11 > 0)) with g70 | g70
      ·replace hE_7 := if_tt g70 hE_7
       rcases Bool.eq_false_or_eq_true (decide (a1 > 1)) with g74 | g74
       ·replace hE_7 := if_tt g74 hE_7
        refine Tri.reg (l := [0, 1, 2, 3, 4, 5, 6, 7, 8, 9]) rfl ?_
        refine F.q rfl rfl rfl (wanted_none rfl) (r_move rfl) ?_
        refine F.q rfl rfl rfl (wanted_none rfl) (r_gtr rfl rfl) ?_
        refine F.q rfl rfl rfl (wanted_none rfl) (r_move rfl) ?_
        refine F.q rfl rfl rfl (wg rfl rfl rfl g70) (r_move rfl) ?_
        refine F.q rfl rfl rfl (wg rfl rfl rfl g70) (r_gtr rfl rfl) ?_
        refine F.q rfl rfl rfl (wanted_none rfl) (r_pick rfl rfl g70) ?_
        refine F.q rfl rfl rfl (wanted_none rfl) (r_move rfl) ?_
        refine F.q rfl rfl rfl (wg rfl rfl rfl g74) (r_move rfl) ?_
        refine F.q rfl rfl rfl (wg rfl rfl rfl g74) (r_lss rfl rfl) ?_
        refine F.q rfl rfl rfl (wanted_none rfl) (r_pick rfl rfl g74) ?_
        refine F.nil ?_
        cases hE_7
        refine Nrm.only [0, 1, 4, 5, 6, 11, 77] rfl ?_
        refine Nrm.pick [0, 1, 2, 3, 4] rfl rfl ?_
        exact hj_5 _ _ ⟨rfl, rfl⟩
       ·replace hE_7 := if_ff g74 hE_7
        refine Tri.reg (l := [0, 1, 2, 3, 4, 5, 6, 7, 8, 9]) rfl ?_
        refine F.q rfl rfl rfl (wanted_none rfl) (r_move rfl) ?_
        refine F.q rfl rfl rfl (wanted_none rfl) (r_gtr rfl rfl) ?_
        refine F.q rfl rfl rfl (wanted_none rfl) (r_move rfl) ?_
        refine F.q rfl rfl rfl (wg rfl rfl rfl g70) (r_move rfl) ?_
        refine F.q rfl rfl rfl (wg rfl rfl rfl g70) (r_gtr rfl rfl) ?_
        refine F.q rfl rfl rfl (wanted_none rfl) (r_pick rfl rfl g70) ?_
        refine F.q rfl rfl rfl (wanted_none rfl) (r_move rfl) ?_
        refine F.sk rfl rfl rfl (wf rfl rfl rfl g74) ?_
        refine F.sk rfl rfl rfl (wf rfl rfl rfl g74) ?_
        refine F.q rfl rfl rfl (wanted_none rfl) (r_pickf rfl rfl g74) ?_
        refine F.nil ?_
        cases hE_7
        refine Nrm.only [0, 1, 4, 5, 6, 11, 77] rfl ?_
        refine Nrm.pick [0, 1, 2, 3, 4] rfl rfl ?_
        exact hj_5 _ _ ⟨rfl, rfl⟩
      ·replace hE_7 := if_ff g70 hE_7
       refine Tri.reg (l := [0, 1, 2, 3, 4, 5, 6, 7, 8, 9]) rfl ?_
       refine F.q rfl rfl rfl (wanted_none rfl) (r_move rfl) ?_
       refine F.q rfl rfl rfl (wanted_none rfl) (r_gtr rfl rfl) ?_
       refine F.q rfl rfl rfl (wanted_none rfl) (r_move rfl) ?_
       refine F.sk rfl rfl rfl (wf rfl rfl rfl g70) ?_
       refine F.sk rfl rfl rfl (wf rfl rfl rfl g70) ?_
       refine F.q rfl rfl rfl (wanted_none rfl) (r_pickf rfl rfl g70) ?_
       refine F.q rfl rfl rfl (wanted_none rfl) (r_move rfl) ?_
       refine F.sk rfl rfl rfl (wf rfl rfl rfl rfl) ?_
       refine F.sk rfl rfl rfl (wf rfl rfl rfl rfl) ?_
       refine F.q rfl rfl rfl (wanted_none rfl) (r_pickf rfl rfl rfl) ?_
       refine F.nil ?_
       cases hE_7
       refine Nrm.only [0, 1, 4, 5, 6, 11, 77] rfl ?_
       refine Nrm.pick [0, 1, 2, 3, 4] rfl rfl ?_
       exact hj_5 _ _ ⟨rfl, rfl⟩
  ·rcases Bool.eq_false_or_eq_true (decide (x8 < a1)) with g25 | g25
   ·replace hE_2 := if_tt g25 hE_2
    refine Tri.reg (l := [0, 1, 2, 3, 4, 5, 6]) rfl ?_
    refine F.q rfl rfl rfl (wanted_none rfl) (r_move rfl) ?_
    refine F.q rfl rfl rfl (wanted_none rfl) (r_move rfl) ?_
    refine F.q rfl rfl rfl (wanted_none rfl) (r_lss rfl rfl) ?_
    refine F.q rfl rfl rfl (wanted_none rfl) (r_move rfl) ?_
    refine F.q rfl rfl rfl (wg rfl rfl rfl g25) (r_move rfl) ?_
    refine F.q rfl rfl rfl (wg rfl rfl rfl g25) (r_lss rfl rfl) ?_
    refine F.q rfl rfl rfl (wanted_none rfl) (r_pick rfl rfl g25) ?_
    refine F.nil ?_
    cases hE_2
    refine Nrm.only [0, 1, 4, 5, 6, 7, 8, 28] rfl ?_
    refine Nrm.pick [0, 1, 2, 4, 3] rfl rfl ?_
    exact hj_1 _ _ ⟨rfl, rfl⟩
   ·replace hE_2 := if_ff g25 hE_2
    refine Tri.reg (l := [0, 1, 2, 3, 4, 5, 6]) rfl ?_
    refine F.q rfl rfl rfl (wanted_none rfl) (r_move rfl) ?_
    refine F.q rfl rfl rfl (wanted_none rfl) (r_move rfl) ?_
    refine F.q rfl rfl rfl (wanted_none rfl) (r_lss rfl rfl) ?_
    refine F.q rfl rfl rfl (wanted_none rfl) (r_move rfl) ?_
    refine F.sk rfl rfl rfl (wf rfl rfl rfl g25) ?_
    refine F.sk rfl rfl rfl (wf rfl rfl rfl g25) ?_
    refine F.q rfl rfl rfl (wanted_none rfl) (r_pickf rfl rfl g25) ?_
    refine F.nil ?_
    cases hE_2
    refine Nrm.only [0, 1, 4, 5, 6, 7, 8, 28] rfl ?_
    refine Nrm.pick [0, 1, 2, 4, 3] rfl rfl ?_
    exact hj_1 _ _ ⟨rfl, rfl⟩

end Go.Proofs

/- (*loop.example/g01158/spec.l1Cur).fill9 -/
namespace Go.Proofs
open Go Go.Ga
set_option linter.unusedVariables false
set_option maxRecDepth 100000
set_option maxHeartbeats 4000000
def spec_l1Cur_fill9.l0 (k : Nat) (t11_2 : List (Int × Int × Int)) : Nat → Int → Int → Option (Int)
 | 0, _, _ => none
 | n + 1, x5, x6 => (if (decide (x6 < (t11_2.length : Int))) = true then (rdl t11_2 x6).bind fun t23 => spec_l1Cur_fill9.l0 k t11_2 n (bor x5 t23.2.2) (w64 (x6 + 1)) else some x5)

def spec_l1Cur_fill9.f (k : Nat) (a0_0 : List By) (a0_1 : Int) (a0_2 : Int) : Option (Int × (List (Int × Int × Int)) × (List Int) × Int × Int × Int) := (spec_l1Cur_among.f k a0_0 a0_1 a0_2 ([4, 5, 3, 6, 4, 2, 7, 1] : List (Int))).bind fun (t10_1, t10_2, t10_3) => (spec_l1Cur_someMaze.f k a0_0 t10_2 t10_3 t10_1).bind fun (t11_1, t11_2, t11_3, t11_4, t11_5) => (spec_l1Cur_fill9.l0 k t11_2 k 0 0).bind fun x5 => ((spec_l2Set.f k x5).bind fun t28 => (if t28 = true then (spec_l2Many.f k x5).bind fun t31 => (if (decide (t31 ≤ 3)) = true then (spec_l1Cur_one.f k a0_0 t11_4 t11_5 3).bind fun (t36_1, t36_2, t36_3) => some (!t36_1, t36_2, t36_3) else some (false, t11_4, t11_5)) else some (false, t11_4, t11_5))).bind fun (y38, ypa0_1, ypa0_2) => (if y38 = true then some (t11_1, t11_2, t11_3, x5, ypa0_1, ypa0_2) else (spec_l1Cur_one.f k a0_0 ypa0_1 ypa0_2 12).bind fun (t42_1, t42_2, t42_3) => (if t42_1 = true then (spec_l1Cur_colours.f k a0_0 t42_2 t42_3).bind fun (t45_1, t45_2, t45_3) => some (t11_1, t11_2, t11_3, t45_1, t45_2, t45_3) else (spec_l1Cur_among.f k a0_0 t42_2 t42_3 ([1, 3, 2, 5, 6, 7, 0] : List (Int))).bind fun (t49_1, t49_2, t49_3) => some (t11_1, t11_2, t11_3, t49_1, t49_2, t49_3)))

theorem spec_l1Cur_fill9.ok {k : Nat}  {a0_0 : List By} {a0_1 : Int} {a0_2 : Int} {r0 : Int} {r1 : List (Int × Int × Int)} {r2 : List Int} {r3 : Int} {r4 : Int} {r5 : Int} (h : spec_l1Cur_fill9.f k a0_0 a0_1 a0_2 = some (r0, r1, r2, r3, r4, r5)) (w : World) {pa0 : Nat} {va0_0 : Value} (hr_a0_0 : RdM w (footM [R.box pa0 100 [va0_0, .int .i64 a0_1, .int .u64 a0_2]]) va0_0 a0_0) (hw0 : Sep w (footM [R.box pa0 100 [va0_0, .int .i64 a0_1, .int .u64 a0_2]]) [R.box pa0 100 [va0_0, .int .i64 a0_1, .int .u64 a0_2]] w) :
  Calls Try.prog 86 ([.pointer (some ⟨pa0, 0, none⟩)] : List Value).toArray w (PostM (footM [R.box pa0 100 [va0_0, .int .i64 a0_1, .int .u64 a0_2]]) (fun u ns => ∃ (ur1 : Value) (Sr1 : Nat → Prop) (ur2 : Value) (Sr2 : Nat → Prop), u = .tuple #[.agg [.int .i64 r0, ur1, ur2].toArray, .int .i64 r3] ∧ SlLen ur1 r1.length ∧ SlLen ur2 r2.length ∧ ns = [R.sl Sr1 ur1 r1, R.sl Sr2 ur2 r2, R.box pa0 100 [va0_0, .int .i64 r4, .int .u64 r5]]) w) := by
 unfold spec_l1Cur_fill9.f at h
 have hl_va0_0 := hr_a0_0.len
 refine Calls.of_tri (N := 50) Try.func86 rfl rfl rfl hw0 ?_
 refine Tri.seq ?_
 refine Tri.reg (l := [0, 1]) rfl ?_
 refine F.m rfl rfl rfl (wanted_none rfl) (m_alloc ti27) ?_
 rintro _ _ ⟨b2_1, rfl, rfl⟩
 refine F.q rfl rfl rfl (wanted_none rfl) (r_assign rfl) ?_
 refine F.nil ?_
 refine Nrm.seq ?_
 refine Tri.seq ?_
 obtain ⟨⟨t10_1, t10_2, t10_3⟩, h10, h⟩ := bind_some h
 obtain ⟨⟨t11_1, t11_2, t11_3, t11_4, t11_5⟩, h11, h⟩ := bind_some h
 refine Tri.reg (l := [0, 1, 2, 3, 4, 5, 6]) rfl ?_
 refine F.q rfl rfl rfl (wanted_none rfl) (r_move rfl) ?_
 refine F.q rfl rfl rfl (wanted_none rfl) (r_move rfl) ?_
 refine F.m rfl rfl rfl (wanted_none rfl) (m_buildF (l := ([4, 5, 3, 6, 4, 2, 7, 1] : List (Int))) Try.underlying25 ti3 rfl rfl rfl rfl rfl) ?_
 rintro v9_1 _ ⟨S9_1, hl_v9_1, rfl⟩
 refine F.ef rfl rfl rfl (wanted_none rfl) (d_callM (xs := _) (cs := [R.box pa0 100 [va0_0, .int .i64 a0_1, .int .u64 a0_2]]) (rest := [R.sl S9_1 v9_1 (([4, 5, 3, 6, 4, 2, 7, 1] : List (Int)) : List (Int)), R.box b2_1 27 [.int .i64 0, .slice none 0 0, .slice none 0 0]]) [2] [0, 1] rfl ok96 rfl rfl rfl rfl (fun w hw => spec_l1Cur_among.ok h10 w (hr_a0_0.down hw) (rdm_sl (i := 0) rfl hw) (Sep.sub hw))) ?_
 rintro _ _ ⟨_, ⟨rfl, rfl⟩, rfl⟩
 refine F.ef rfl rfl rfl (wanted_none rfl) (d_callM (xs := _) (cs := [R.box pa0 100 [va0_0, .int .i64 t10_2, .int .u64 t10_3]]) (rest := [R.sl S9_1 v9_1 (([4, 5, 3, 6, 4, 2, 7, 1] : List (Int)) : List (Int)), R.box b2_1 27 [.int .i64 0, .slice none 0 0, .slice none 0 0]]) [0] [1, 2] rfl ok162 rfl rfl rfl rfl (fun w hw => spec_l1Cur_someMaze.ok h11 w (hr_a0_0.down hw) (Sep.sub hw))) ?_
 rintro _ _ ⟨_, ⟨v11_1, S11_1, v11_2, S11_2, rfl, hl_v11_1, hl_v11_2, rfl⟩, rfl⟩
 refine F.m rfl rfl rfl (wanted_none rfl) (m_alloc ti27) ?_
 rintro _ _ ⟨b4_1, rfl, rfl⟩
 refine F.ef0 rfl rfl (wanted_none rfl) (d_storeG0 (i := 0) (cs2 := [.int .i64 t11_1, v11_1, v11_2]) ti27 rfl rfl rfl rfl rfl (Nat.le_of_ble_eq_true rfl) (lf_cons rfl (lf_cons (sl_leaf hl_v11_1) (lf_cons (sl_leaf hl_v11_2) lf_nil)))) ?_
 rintro _ _ ⟨rfl, rfl⟩
 refine F.nil ?_
 refine Nrm.seq ?_
 refine Tri.seq ?_
 refine Tri.reg (l := [0]) rfl ?_
 refine F.q rfl rfl rfl (wanted_none rfl) (r_assign rfl) ?_
 refine F.nil ?_
 refine Nrm.seq ?_
 refine Tri.seq ?_
 refine Tri.seq ?_
 refine Tri.reg (l := [0]) rfl ?_
 refine F.q rfl rfl rfl (wanted_none rfl) (r_assign rfl) ?_
 refine F.nil ?_
 refine Nrm.seq ?_
 obtain ⟨x5, hE_1, h⟩ := bind_some h
 refine Tri.block ?_
 refine Tri.only [0, 2, 4, 5, 6] rfl ?_
 refine Tri.pick [0, 3, 5, 1, 2] rfl rfl ?_
 refine Tri.rounds (fun n e' C' => ∃ (x5' : Int) (x6' : Int), spec_l1Cur_fill9.l0 k t11_2 n x5' x6' = some x5 ∧ e' = [(0, .pointer (some ⟨pa0, 0, none⟩)), (2, .pointer (some ⟨b2_1, 0, none⟩)), (4, .pointer (some ⟨b4_1, 0, none⟩)), (5, .int .i64 x5'), (6, .int .i64 x6')] ∧ C' = Sep w (footM [R.box pa0 100 [va0_0, .int .i64 a0_1, .int .u64 a0_2]]) [R.box b4_1 27 [.int .i64 t11_1, v11_1, v11_2], R.box pa0 100 [va0_0, .int .i64 t11_4, .int .u64 t11_5], R.box b2_1 27 [.int .i64 0, .slice none 0 0, .slice none 0 0], R.sl S11_1 v11_1 (t11_2 : List (Int × Int × Int)), R.sl S11_2 v11_2 (t11_3 : List (Int))]) k ?_ ?_ ?_
 ·exact ⟨0, 0, hE_1, rfl, rfl⟩
 ·rintro _ _ ⟨_, _, hE_1, _⟩
  rw [spec_l1Cur_fill9.l0.eq_1] at hE_1; cases hE_1
 ·rintro n_1 _ _ ⟨x5, x6, hE_1, rfl, rfl⟩ ih_1
  rw [spec_l1Cur_fill9.l0.eq_2] at hE_1
  refine Tri.seq ?_
  refine Tri.seq ?_
  refine Tri.reg (l := [0, 1, 2, 3, 4]) rfl ?_
  refine F.q rfl rfl rfl (wanted_none rfl) (r_move rfl) ?_
  refine F.q rfl rfl rfl (wanted_none rfl) (r_fieldAddr tf27_1 rfl) ?_
  refine F.q rfl rfl rfl (wanted_none rfl) (r_load ta24 rfl (fun w hw => cell_1 (box_cells (i := 0) rfl w hw) rfl)) ?_
  refine F.q rfl rfl rfl (wanted_none rfl) (r_len Try.underlying24 rfl hl_v11_1) ?_
  refine F.q rfl rfl rfl (wanted_none rfl) (r_lss rfl rfl) ?_
  refine F.nil ?_
  refine Nrm.seq ?_
  refine Tri.cond (b := decide (x6 < (t11_2.length : Int))) rfl (fun g_1 => ?_) (fun g_1 => ?_)
  ·replace hE_1 := if_tt g_1 hE_1
   refine Tri.skip ?_
   refine Nrm.seq ?_
   refine Tri.seq ?_
   refine Tri.block ?_
   obtain ⟨t23, h23, hE_1⟩ := bind_some hE_1
   refine Tri.reg (l := [0, 1, 2, 3, 4, 5, 6, 7, 8]) rfl ?_
   refine F.q rfl rfl rfl (wanted_none rfl) (r_move rfl) ?_
   refine F.q rfl rfl rfl (wanted_none rfl) (r_fieldAddr tf27_1 rfl) ?_
   refine F.q rfl rfl rfl (wanted_none rfl) (r_load ta24 rfl (fun w hw => cell_1 (box_cells (i := 0) rfl w hw) rfl)) ?_
   refine F.q rfl rfl rfl (wanted_none rfl) (r_move rfl) ?_
   refine F.q rfl rfl rfl (wanted_none rfl) (r_indexAddrS Try.underlying24 ti121 rfl hl_v11_1 rfl (rdl_some h23).1 (rdl_some h23).2.1) ?_
   refine F.q rfl rfl rfl (wanted_none rfl) (r_indexAddrA Try.underlying121 ti3 rfl rfl (by decide) (by decide)) ?_
   refine F.q rfl rfl rfl (wanted_none rfl) (r_load ta3 rfl (fun w hw => cell_1 (Rd.flat ((rd_sl (i := 3) rfl) w hw) (rdl_some h23).2.2) rfl)) ?_
   refine F.q rfl rfl rfl (wanted_none rfl) (r_or rfl rfl) ?_
   refine F.q rfl rfl rfl (wanted_none rfl) (r_assign rfl) ?_
   refine F.nil ?_
   refine Nrm.block ?_
   refine Nrm.seq ?_
   refine Tri.reg (l := [0, 1, 2]) rfl ?_
   refine F.q rfl rfl rfl (wanted_none rfl) (r_move rfl) ?_
   refine F.q rfl rfl rfl (wanted_none rfl) (r_add rfl rfl) ?_
   refine F.q rfl rfl rfl (wanted_none rfl) (r_assign rfl) ?_
   refine F.nil ?_
   refine Nrm.round ?_
   refine Rnd.only [0, 2, 4, 5, 6] rfl ?_
   refine Rnd.pick [0, 1, 2, 3, 4] rfl rfl ?_
   exact ih_1 _ _ ⟨bor x5 t23.2.2, w64 (x6 + 1), hE_1, rfl, rfl⟩
  ·replace hE_1 := if_ff g_1 hE_1
   refine Tri.exit ?_
   refine Exi.then ?_
   refine Exi.then ?_
   refine Exi.same ?_
   cases hE_1
   refine Nrm.seq ?_
   refine Tri.seq ?_
   refine Tri.seq ?_
   obtain ⟨⟨y38, ypa0_1, ypa0_2⟩, hE_2, h⟩ := bind_some h
   refine Tri.cut (fun e' C' => e' = [(0, .pointer (some ⟨pa0, 0, none⟩)), (2, .pointer (some ⟨b2_1, 0, none⟩)), (4, .pointer (some ⟨b4_1, 0, none⟩)), (5, .int .i64 x5), (38, .bool y38)] ∧ C' = Sep w (footM [R.box pa0 100 [va0_0, .int .i64 a0_1, .int .u64 a0_2]]) [R.box pa0 100 [va0_0, .int .i64 ypa0_1, .int .u64 ypa0_2], R.box b4_1 27 [.int .i64 t11_1, v11_1, v11_2], R.box b2_1 27 [.int .i64 0, .slice none 0 0, .slice none 0 0], R.sl S11_1 v11_1 (t11_2 : List (Int × Int × Int)), R.sl S11_2 v11_2 (t11_3 : List (Int))]) ?_ (fun hj_1 => ?_)
   ·rintro _ _ ⟨rfl, rfl⟩
    refine Nrm.seq ?_
    refine Tri.cond (b := y38) rfl (fun g_2 => ?_) (fun g_2 => ?_)
    ·replace h := if_tt g_2 h
     refine Tri.seq ?_
     refine Tri.reg (l := [0, 1, 2, 3]) rfl ?_
     refine F.q rfl rfl rfl (wanted_none rfl) (r_loadA ta27 ti27 rfl rfl (fun w hw => (box_cells (i := 1) rfl w hw))) ?_
     refine F.q rfl rfl rfl (wanted_none rfl) (r_move rfl) ?_
     refine F.ef0 rfl rfl (wanted_none rfl) (d_storeG0 (i := 2) (cs2 := [.int .i64 t11_1, v11_1, v11_2]) ti27 rfl rfl rfl rfl rfl (Nat.le_of_ble_eq_true rfl) (lf_cons rfl (lf_cons (sl_leaf hl_v11_1) (lf_cons (sl_leaf hl_v11_2) lf_nil)))) ?_
     rintro _ _ ⟨rfl, rfl⟩
     refine F.q rfl rfl rfl (wanted_none rfl) (r_assign rfl) ?_
     refine F.nil ?_
     refine Nrm.seq ?_
     refine Tri.ret ?_
     refine Rtn.then ?_
     cases h
     exact Rtn.body (.cell rfl ta27 ti27 rfl (fun _ hw => box_cells (i := 2) rfl _ hw) (.tmp rfl .nil)) (fun w hw => ⟨_, _, rfl, ⟨v11_1, S11_1, v11_2, S11_2, rfl, hl_v11_1, hl_v11_2, rfl⟩, Sep.pick (is := [3, 4, 0]) rfl rfl hw⟩)
    ·replace h := if_ff g_2 h
     refine Tri.skip ?_
     refine Nrm.seq ?_
     refine Tri.seq ?_
     refine Tri.seq ?_
     obtain ⟨⟨t42_1, t42_2, t42_3⟩, h42, h⟩ := bind_some h
     refine Tri.reg (l := [0, 1]) rfl ?_
     refine F.q rfl rfl rfl (wanted_none rfl) (r_move rfl) ?_
     refine F.ef rfl rfl rfl (wanted_none rfl) (d_callM (xs := _) (cs := [R.box pa0 100 [va0_0, .int .i64 ypa0_1, .int .u64 ypa0_2]]) (rest := [R.box b4_1 27 [.int .i64 t11_1, v11_1, v11_2], R.box b2_1 27 [.int .i64 0, .slice none 0 0, .slice none 0 0], R.sl S11_1 v11_1 (t11_2 : List (Int × Int × Int)), R.sl S11_2 v11_2 (t11_3 : List (Int))]) [0] [1, 2, 3, 4] rfl ok93 rfl rfl rfl rfl (fun w hw => spec_l1Cur_one.ok h42 w (hr_a0_0.down hw) (Sep.sub hw))) ?_
     rintro _ _ ⟨_, ⟨rfl, rfl⟩, rfl⟩
     refine F.nil ?_
     refine Nrm.seq ?_
     refine Tri.cond (b := t42_1) rfl (fun g_3 => ?_) (fun g_3 => ?_)
     ·replace h := if_tt g_3 h
      refine Tri.seq ?_
      obtain ⟨⟨t45_1, t45_2, t45_3⟩, h45, h⟩ := bind_some h
      refine Tri.drawK (B := Sep w (footM [R.box pa0 100 [va0_0, .int .i64 a0_1, .int .u64 a0_2]]) [R.box b4_1 27 [.int .i64 t11_1, v11_1, v11_2], R.box b2_1 27 [.int .i64 0, .slice none 0 0, .slice none 0 0], R.sl S11_1 v11_1 (t11_2 : List (Int × Int × Int)), R.sl S11_2 v11_2 (t11_3 : List (Int))]) mixedT Sep.up [(0, true), (1, true), (2, false)] [3, 4] (by kernel_rfl) ?_
      refine K.q [1, 2, 3, 4] rfl rfl rfl rfl rfl (wanted_none rfl) (r_loadA ta27 ti27 rfl rfl (fun w hw => (box_cells (i := 0) rfl w hw))) ?_
      refine K.q [1, 2, 3, 4] rfl rfl rfl rfl rfl (wanted_none rfl) (r_move rfl) ?_
      refine B.ef rfl rfl rfl (wanted_none rfl) (d_callM (xs := _) (cs := [R.box pa0 100 [va0_0, .int .i64 t42_2, .int .u64 t42_3]]) (rest := [R.box b4_1 27 [.int .i64 t11_1, v11_1, v11_2], R.box b2_1 27 [.int .i64 0, .slice none 0 0, .slice none 0 0], R.sl S11_1 v11_1 (t11_2 : List (Int × Int × Int)), R.sl S11_2 v11_2 (t11_3 : List (Int))]) [0] [1, 2, 3, 4] rfl ok134 rfl rfl rfl rfl (fun w hw => spec_l1Cur_colours.ok h45 w (hr_a0_0.down hw) (Sep.sub hw))) (by rintro _ _ ⟨_, ⟨rfl, rfl⟩, rfl⟩; exact upd rfl [1, 2, 3, 4] rfl rfl) ?_
      rintro _ _ ⟨_, ⟨rfl, rfl⟩, rfl⟩
      refine B.nil ?_
      refine F.ef0 rfl rfl (wanted_none rfl) (d_storeG0 (i := 2) (cs2 := [.int .i64 t11_1, v11_1, v11_2]) ti27 rfl rfl rfl rfl rfl (Nat.le_of_ble_eq_true rfl) (lf_cons rfl (lf_cons (sl_leaf hl_v11_1) (lf_cons (sl_leaf hl_v11_2) lf_nil)))) ?_
      rintro _ _ ⟨rfl, rfl⟩
      refine F.q rfl rfl rfl (wanted_none rfl) (r_assign rfl) ?_
      refine F.nil ?_
      refine Nrm.seq ?_
      refine Tri.ret ?_
      refine Rtn.then ?_
      cases h
      exact Rtn.body (.cell rfl ta27 ti27 rfl (fun _ hw => box_cells (i := 2) rfl _ hw) (.tmp rfl .nil)) (fun w hw => ⟨_, _, rfl, ⟨v11_1, S11_1, v11_2, S11_2, rfl, hl_v11_1, hl_v11_2, rfl⟩, Sep.pick (is := [3, 4, 0]) rfl rfl hw⟩)
     ·replace h := if_ff g_3 h
      refine Tri.skip ?_
      refine Nrm.seq ?_
      refine Tri.seq ?_
      obtain ⟨⟨t49_1, t49_2, t49_3⟩, h49, h⟩ := bind_some h
      refine Tri.drawK (B := Sep w (footM [R.box pa0 100 [va0_0, .int .i64 a0_1, .int .u64 a0_2]]) [R.box b4_1 27 [.int .i64 t11_1, v11_1, v11_2], R.box b2_1 27 [.int .i64 0, .slice none 0 0, .slice none 0 0], R.sl S11_1 v11_1 (t11_2 : List (Int × Int × Int)), R.sl S11_2 v11_2 (t11_3 : List (Int))]) mixedT Sep.up [(0, true), (1, true), (2, false), (3, false)] [4, 5] (by kernel_rfl) ?_
      refine K.q [1, 2, 3, 4] rfl rfl rfl rfl rfl (wanted_none rfl) (r_loadA ta27 ti27 rfl rfl (fun w hw => (box_cells (i := 0) rfl w hw))) ?_
      refine K.q [1, 2, 3, 4] rfl rfl rfl rfl rfl (wanted_none rfl) (r_move rfl) ?_
      refine B.ef rfl rfl rfl (wanted_none rfl) (Makes.does (m_buildF (l := ([1, 3, 2, 5, 6, 7, 0] : List (Int))) Try.underlying25 ti3 rfl rfl rfl rfl rfl)) (by rintro v48_2 _ ⟨S48_2, hl_v48_2, rfl⟩; exact upd rfl [2, 3, 4, 5] rfl rfl) ?_
      rintro v48_2 _ ⟨S48_2, hl_v48_2, rfl⟩
      refine B.ef rfl rfl rfl (wanted_none rfl) (d_callM (xs := _) (cs := [R.box pa0 100 [va0_0, .int .i64 t42_2, .int .u64 t42_3]]) (rest := [R.sl S48_2 v48_2 (([1, 3, 2, 5, 6, 7, 0] : List (Int)) : List (Int)), R.box b4_1 27 [.int .i64 t11_1, v11_1, v11_2], R.box b2_1 27 [.int .i64 0, .slice none 0 0, .slice none 0 0], R.sl S11_1 v11_1 (t11_2 : List (Int × Int × Int)), R.sl S11_2 v11_2 (t11_3 : List (Int))]) [1] [0, 2, 3, 4, 5] rfl ok96 rfl rfl rfl rfl (fun w hw => spec_l1Cur_among.ok h49 w (hr_a0_0.down hw) (rdm_sl (i := 0) rfl hw) (Sep.sub hw))) (by rintro _ _ ⟨_, ⟨rfl, rfl⟩, rfl⟩; exact upd rfl [2, 3, 4, 5] rfl rfl) ?_
      rintro _ _ ⟨_, ⟨rfl, rfl⟩, rfl⟩
      refine B.nil ?_
      refine F.ef0 rfl rfl (wanted_none rfl) (d_storeG0 (i := 3) (cs2 := [.int .i64 t11_1, v11_1, v11_2]) ti27 rfl rfl rfl rfl rfl (Nat.le_of_ble_eq_true rfl) (lf_cons rfl (lf_cons (sl_leaf hl_v11_1) (lf_cons (sl_leaf hl_v11_2) lf_nil)))) ?_
      rintro _ _ ⟨rfl, rfl⟩
      refine F.q rfl rfl rfl (wanted_none rfl) (r_assign rfl) ?_
      refine F.nil ?_
      refine Nrm.seq ?_
      refine Tri.ret ?_
      cases h
      exact Rtn.body (.cell rfl ta27 ti27 rfl (fun _ hw => box_cells (i := 3) rfl _ hw) (.tmp rfl .nil)) (fun w hw => ⟨_, _, rfl, ⟨v11_1, S11_1, v11_2, S11_2, rfl, hl_v11_1, hl_v11_2, rfl⟩, Sep.pick (is := [4, 5, 0]) rfl rfl hw⟩)
   ·obtain ⟨t28, h28, hE_2⟩ := bind_some hE_2
    rcases Bool.eq_false_or_eq_true (t28) with g29 | g29
    ·replace hE_2 := if_tt g29 hE_2
     obtain ⟨t31, h31, hE_2⟩ := bind_some hE_2
     rcases Bool.eq_false_or_eq_true (decide (t31 ≤ 3)) with g34 | g34
     ·replace hE_2 := if_tt g34 hE_2
      obtain ⟨⟨t36_1, t36_2, t36_3⟩, h36, hE_2⟩ := bind_some hE_2
      refine Tri.reg (l := [0, 1, 2, 3, 4, 5, 6, 7, 8, 9, 10, 11]) rfl ?_
      refine F.q rfl rfl rfl (wanted_none rfl) (r_move rfl) ?_
      refine F.qc rfl rfl rfl (wanted_none rfl) (q_callF (xs := _) rfl ok92 rfl rfl (fun w hw => spec_l2Set.ok h28 w )) ?_
      refine F.q rfl rfl rfl (wanted_none rfl) (r_move rfl) ?_
      refine F.q rfl rfl rfl (wg rfl rfl rfl g29) (r_move rfl) ?_
      refine F.qc rfl rfl rfl (wg rfl rfl rfl g29) (q_callF (xs := _) rfl ok119 rfl rfl (fun w hw => spec_l2Many.ok h31 w )) ?_
      refine F.q rfl rfl rfl (wg rfl rfl rfl g29) (r_leq rfl rfl) ?_
      refine F.q rfl rfl rfl (wanted_none rfl) (r_pick rfl rfl g29) ?_
      refine F.q rfl rfl rfl (wanted_none rfl) (r_move rfl) ?_
      refine F.q rfl rfl rfl (wg rfl rfl rfl g34) (r_move rfl) ?_
      refine F.ef rfl rfl rfl (wg rfl rfl rfl g34) (d_callM (xs := _) (cs := [R.box pa0 100 [va0_0, .int .i64 t11_4, .int .u64 t11_5]]) (rest := [R.box b4_1 27 [.int .i64 t11_1, v11_1, v11_2], R.box b2_1 27 [.int .i64 0, .slice none 0 0, .slice none 0 0], R.sl S11_1 v11_1 (t11_2 : List (Int × Int × Int)), R.sl S11_2 v11_2 (t11_3 : List (Int))]) [1] [0, 2, 3, 4] rfl ok93 rfl rfl rfl rfl (fun w hw => spec_l1Cur_one.ok h36 w (hr_a0_0.down hw) (Sep.sub hw))) ?_
      rintro _ _ ⟨_, ⟨rfl, rfl⟩, rfl⟩
      refine F.q rfl rfl rfl (wg rfl rfl rfl g34) (r_not rfl) ?_
      refine F.q rfl rfl rfl (wanted_none rfl) (r_pick rfl rfl g34) ?_
      refine F.nil ?_
      cases hE_2
      refine Nrm.only [0, 2, 4, 5, 38] rfl ?_
      refine Nrm.pick [0, 1, 2, 3, 4] rfl rfl ?_
      exact hj_1 _ _ ⟨rfl, rfl⟩
     ·replace hE_2 := if_ff g34 hE_2
      refine Tri.reg (l := [0, 1, 2, 3, 4, 5, 6, 7, 8, 9, 10, 11]) rfl ?_
      refine F.q rfl rfl rfl (wanted_none rfl) (r_move rfl) ?_
      refine F.qc rfl rfl rfl (wanted_none rfl) (q_callF (xs := _) rfl ok92 rfl rfl (fun w hw => spec_l2Set.ok h28 w )) ?_
      refine F.q rfl rfl rfl (wanted_none rfl) (r_move rfl) ?_
      refine F.q rfl rfl rfl (wg rfl rfl rfl g29) (r_move rfl) ?_
      refine F.qc rfl rfl rfl (wg rfl rfl rfl g29) (q_callF (xs := _) rfl ok119 rfl rfl (fun w hw => spec_l2Many.ok h31 w )) ?_
      refine F.q rfl rfl rfl (wg rfl rfl rfl g29) (r_leq rfl rfl) ?_
      refine F.q rfl rfl rfl (wanted_none rfl) (r_pick rfl rfl g29) ?_
      refine F.q rfl rfl rfl (wanted_none rfl) (r_move rfl) ?_
      iterate 3 refine F.sk rfl rfl rfl (wf rfl rfl rfl g34) ?_
      refine F.q rfl rfl rfl (wanted_none rfl) (r_pickf rfl rfl g34) ?_
      refine F.nil ?_
      cases hE_2
      refine Nrm.only [0, 2, 4, 5, 38] rfl ?_
      refine Nrm.pick [1, 0, 2, 3, 4] rfl rfl ?_
      exact hj_1 _ _ ⟨rfl, rfl⟩
    ·replace hE_2 := if_ff g29 hE_2
     refine Tri.reg (l := [0, 1, 2, 3, 4, 5, 6, 7, 8, 9, 10, 11]) rfl ?_
     refine F.q rfl rfl rfl (wanted_none rfl) (r_move rfl) ?_
     refine F.qc rfl rfl rfl (wanted_none rfl) (q_callF (xs := _) rfl ok92 rfl rfl (fun w hw => spec_l2Set.ok h28 w )) ?_
     refine F.q rfl rfl rfl (wanted_none rfl) (r_move rfl) ?_
     iterate 3 refine F.sk rfl rfl rfl (wf rfl rfl rfl g29) ?_
     refine F.q rfl rfl rfl (wanted_none rfl) (r_pickf rfl rfl g29) ?_
     refine F.q rfl rfl rfl (wanted_none rfl) (r_move rfl) ?_
     iterate 3 refine F.sk rfl rfl rfl (wf rfl rfl rfl rfl) ?_
     refine F.q rfl rfl rfl (wanted_none rfl) (r_pickf rfl rfl rfl) ?_
     refine F.nil ?_
     cases hE_2
     refine Nrm.only [0, 2, 4, 5, 38] rfl ?_
     refine Nrm.pick [1, 0, 2, 3, 4] rfl rfl ?_
     exact hj_1 _ _ ⟨rfl, rfl⟩

end Go.Proofs

/- loop.example/g01158/spec.l2Colours -/

namespace Go.Proofs
open Go Go.Ga
set_option linter.unusedVariables false
set_option maxRecDepth 100000
set_option maxHeartbeats 4000000
def spec_l2Colours.l0 (k : Nat) (a0 : Int) : Nat → (List (Int)) → Int → Option ((List (Int)))
 | 0, _, _ => none
 | n + 1, x3, x4 => (if (decide (x4 < 6)) = true then if ¬ x4 < 0 then ((if ((band (shr a0 x4) 1) == 1) = true then if (x3 ++ ([x4] : List (Int))).length < 1099511627776 then some (x3 ++ ([x4] : List (Int))) else none else some x3)).bind fun y3 => spec_l2Colours.l0 k a0 n y3 (w64 (x4 + 1)) else none else some x3)

def spec_l2Colours.f (k : Nat) (a0 : Int) : Option ((List Int)) := (spec_l2Colours.l0 k a0 k ([] : List (Int)) 0).bind fun x3 => some x3

theorem spec_l2Colours.ok {k : Nat}  {a0 : Int} {r0 : List Int} (h : spec_l2Colours.f k a0 = some r0) (w : World) :
  Calls Try.prog 94 ([.int .i64 a0] : List Value).toArray w (Post (fun u ns => ∃ (Sr0 : Nat → Prop), SlLen u r0.length ∧ ns = [R.sl Sr0 u r0]) w) := by
 unfold spec_l2Colours.f at h
 refine Calls.of_tri (N := 20) Try.func94 rfl rfl rfl (Sep.nil (M := noM)) ?_
 refine Tri.seq ?_
 refine Tri.reg (l := [0]) rfl ?_
 refine F.q rfl rfl rfl (wanted_none rfl) (r_assign rfl) ?_
 refine F.nil ?_
 refine Nrm.seq ?_
 refine Tri.seq ?_
 refine Tri.reg (l := [0, 1]) rfl ?_
 refine F.m rfl rfl rfl (wanted_none rfl) (m_build0 (α := Int) Try.underlying25 ti3) ?_
 rintro v5_1 _ ⟨S5_1, hl_v5_1, rfl⟩
 refine F.q rfl rfl rfl (wanted_none rfl) (r_assign rfl) ?_
 refine F.nil ?_
 refine Nrm.seq ?_
 refine Tri.seq ?_
 refine Tri.seq ?_
 refine Tri.reg (l := [0]) rfl ?_
 refine F.q rfl rfl rfl (wanted_none rfl) (r_assign rfl) ?_
 refine F.nil ?_
 refine Nrm.seq ?_
 obtain ⟨x3, hE_1, h⟩ := bind_some h
 refine Tri.block ?_
 refine Tri.only [0, 3, 4] rfl ?_
 refine Tri.pick [0] rfl rfl ?_
 refine Tri.rounds (fun n e' C' => ∃ (x3' : List (Int)) (x4' : Int) (w3 : Value) (T3 : Nat → Prop), spec_l2Colours.l0 k a0 n x3' x4' = some x3 ∧ SlLen w3 (x3').length ∧ e' = [(0, .int .i64 a0), (3, w3), (4, .int .i64 x4')] ∧ C' = Sep w noM [R.sl T3 w3 (x3' : List (Int))]) k ?_ ?_ ?_
 ·exact ⟨([] : List (Int)), 0, v5_1, S5_1, hE_1, hl_v5_1, rfl, rfl⟩
 ·rintro _ _ ⟨_, _, _, _, hE_1, _⟩
  rw [spec_l2Colours.l0.eq_1] at hE_1; cases hE_1
 ·rintro n_1 _ _ ⟨x3, x4, w3, T3, hE_1, hl_w3, rfl, rfl⟩ ih_1
  rw [spec_l2Colours.l0.eq_2] at hE_1
  refine Tri.seq ?_
  refine Tri.seq ?_
  refine Tri.reg (l := [0, 1]) rfl ?_
  refine F.q rfl rfl rfl (wanted_none rfl) (r_move rfl) ?_
  refine F.q rfl rfl rfl (wanted_none rfl) (r_lss rfl rfl) ?_
  refine F.nil ?_
  refine Nrm.seq ?_
  refine Tri.cond (b := decide (x4 < 6)) rfl (fun g_1 => ?_) (fun g_1 => ?_)
  ·replace hE_1 := if_tt g_1 hE_1
   refine Tri.skip ?_
   refine Nrm.seq ?_
   refine Tri.seq ?_
   refine Tri.block ?_
   refine Tri.seq ?_
   obtain ⟨hs12, hE_1⟩ := ck hE_1
   refine Tri.reg (l := [0, 1, 2, 3, 4]) rfl ?_
   refine F.q rfl rfl rfl (wanted_none rfl) (r_move rfl) ?_
   refine F.q rfl rfl rfl (wanted_none rfl) (r_move rfl) ?_
   refine F.q rfl rfl rfl (wanted_none rfl) (r_shr rfl rfl hs12) ?_
   refine F.q rfl rfl rfl (wanted_none rfl) (r_and rfl rfl) ?_
   refine F.q rfl rfl rfl (wanted_none rfl) (r_eql rfl rfl) ?_
   refine F.nil ?_
   refine Nrm.seq ?_
   obtain ⟨y3, hE_2, hE_1⟩ := bind_some hE_1
   refine Tri.cut (fun e' C' => ∃ (v3_1 : Value) (S3_1 : Nat → Prop), SlLen v3_1 (y3).length ∧ e' = [(0, .int .i64 a0), (3, v3_1), (4, .int .i64 x4)] ∧ C' = Sep w noM [R.sl S3_1 v3_1 (y3 : List (Int))]) ?_ (fun hj_1 => ?_)
   ·rintro _ _ ⟨v3_1, S3_1, hl_v3_1, rfl, rfl⟩
    refine Nrm.block ?_
    refine Nrm.seq ?_
    refine Tri.reg (l := [0, 1, 2]) rfl ?_
    refine F.q rfl rfl rfl (wanted_none rfl) (r_move rfl) ?_
    refine F.q rfl rfl rfl (wanted_none rfl) (r_add rfl rfl) ?_
    refine F.q rfl rfl rfl (wanted_none rfl) (r_assign rfl) ?_
    refine F.nil ?_
    refine Nrm.round ?_
    refine Rnd.only [0, 3, 4] rfl ?_
    refine Rnd.pick [0] rfl rfl ?_
    exact ih_1 _ _ ⟨y3, w64 (x4 + 1), v3_1, S3_1, hE_1, hl_v3_1, rfl, rfl⟩
   ·refine Tri.cond (b := (band (shr a0 x4) 1) == 1) rfl (fun g_2 => ?_) (fun g_2 => ?_)
    ·replace hE_2 := if_tt g_2 hE_2
     obtain ⟨hs18, hE_2⟩ := ck hE_2
     refine Tri.reg (l := [0, 1, 2, 3, 4]) rfl ?_
     refine F.q rfl rfl rfl (wanted_none rfl) (r_move rfl) ?_
     refine F.q rfl rfl rfl (wanted_none rfl) (r_move rfl) ?_
     refine F.m rfl rfl rfl (wanted_none rfl) (m_buildF (l := ([x4] : List (Int))) Try.underlying25 ti3 rfl rfl rfl rfl rfl) ?_
     rintro v17_1 _ ⟨S17_1, hl_v17_1, rfl⟩
     refine F.ef rfl rfl rfl (wanted_none rfl) (d_append (i := 1) Try.underlying25 Try.underlying25 ti3 rfl (by decide) rfl rfl rfl (rd_sl (i := 0) rfl) hs18) ?_
     rintro v18_1 _ ⟨S18_1, rfl, hl_v18_1⟩
     refine F.q rfl rfl rfl (wanted_none rfl) (r_assign rfl) ?_
     refine F.nil ?_
     cases hE_2
     refine Nrm.only [0, 3, 4] rfl ?_
     refine Nrm.pick [1] rfl rfl ?_
     exact hj_1 _ _ ⟨v18_1, S18_1, hl_v18_1, rfl, rfl⟩
    ·replace hE_2 := if_ff g_2 hE_2
     refine Tri.skip ?_
     cases hE_2
     refine Nrm.only [0, 3, 4] rfl ?_
     refine Nrm.pick [0] rfl rfl ?_
     exact hj_1 _ _ ⟨w3, T3, hl_w3, rfl, rfl⟩
  ·replace hE_1 := if_ff g_1 hE_1
   refine Tri.exit ?_
   refine Exi.then ?_
   refine Exi.then ?_
   refine Exi.same ?_
   cases hE_1
   refine Nrm.seq ?_
   refine Tri.seq ?_
   refine Tri.reg (l := [0, 1]) rfl ?_
   refine F.q rfl rfl rfl (wanted_none rfl) (r_move rfl) ?_
   refine F.q rfl rfl rfl (wanted_none rfl) (r_assign rfl) ?_
   refine F.nil ?_
   refine Nrm.seq ?_
   refine Tri.ret ?_
   cases h
   exact Rtn.body (.tmp rfl .nil) (fun w hw => ⟨_, _, rfl, ⟨T3, hl_w3, rfl⟩, Sep.pick (is := [0]) rfl rfl hw⟩)

end Go.Proofs

/- (*loop.example/g01158/spec.l1Cur).orderOf -/
namespace Go.Proofs
open Go Go.Ga
set_option linter.unusedVariables false
set_option maxRecDepth 100000
set_option maxHeartbeats 4000000
def spec_l1Cur_orderOf.l0 (k : Nat) (a0_0 : List By) (a1 : Int) : Nat → (List (Int)) → Int → Int → Int → Option (Int × Int × (List (Int)))
 | 0, _, _, _, _ => none
 | n + 1, x5, x6, xpa0_1, xpa0_2 => ((if (decide (x6 < a1)) = true then some (decide (x6 < 13)) else some false)).bind fun y15 => (if y15 = true then (spec_l1Cur_pick.f k a0_0 xpa0_1 xpa0_2 (w64 ((x5.length : Int) + 1))).bind fun (t22_1, t22_2, t22_3) => ((slc x5 0 t22_1).bind fun t26 => (slc x5 t22_1 (x5.length : Int)).bind fun t33 => if (([] : List (Int)) ++ t26).length < 1099511627776 then if ((([] : List (Int)) ++ t26) ++ ([x6] : List (Int))).length < 1099511627776 then if (((([] : List (Int)) ++ t26) ++ ([x6] : List (Int))) ++ t33).length < 1099511627776 then some (((([] : List (Int)) ++ t26) ++ ([x6] : List (Int))) ++ t33) else none else none else none).bind fun y5 => spec_l1Cur_orderOf.l0 k a0_0 a1 n y5 (w64 (x6 + 1)) t22_2 t22_3 else some (xpa0_1, xpa0_2, x5))

def spec_l1Cur_orderOf.f (k : Nat) (a0_0 : List By) (a0_1 : Int) (a0_2 : Int) (a1 : Int) : Option ((List Int) × Int × Int) := (spec_l1Cur_orderOf.l0 k a0_0 a1 k ([] : List (Int)) 0 a0_1 a0_2).bind fun (xpa0_1, xpa0_2, x5) => ((if (decide ((x5.length : Int) > 0)) = true then (spec_l1Cur_one.f k a0_0 xpa0_1 xpa0_2 20).bind fun (t40_1, t40_2, t40_3) => some (t40_1, t40_2, t40_3) else some (false, xpa0_1, xpa0_2))).bind fun (y41, ypa0_1, ypa0_2) => ((if y41 = true then (spec_l1Cur_among.f k a0_0 ypa0_1 ypa0_2 ([0, 1, (-1), a1] : List (Int))).bind fun (t46_1, t46_2, t46_3) => (rdl x5 0).bind fun t47 => some (x5.set (0 : Int).toNat t46_1, t46_2, t46_3) else some (x5, ypa0_1, ypa0_2))).bind fun (y5r, ypa0_1r, ypa0_2r) => some (y5r, ypa0_1r, ypa0_2r)

theorem spec_l1Cur_orderOf.ok {k : Nat}  {a0_0 : List By} {a0_1 : Int} {a0_2 : Int} {a1 : Int} {r0 : List Int} {r1 : Int} {r2 : Int} (h : spec_l1Cur_orderOf.f k a0_0 a0_1 a0_2 a1 = some (r0, r1, r2)) (w : World) {pa0 : Nat} {va0_0 : Value} (hr_a0_0 : RdM w (footM [R.box pa0 100 [va0_0, .int .i64 a0_1, .int .u64 a0_2]]) va0_0 a0_0) (hw0 : Sep w (footM [R.box pa0 100 [va0_0, .int .i64 a0_1, .int .u64 a0_2]]) [R.box pa0 100 [va0_0, .int .i64 a0_1, .int .u64 a0_2]] w) :
  Calls Try.prog 104 ([.pointer (some ⟨pa0, 0, none⟩), .int .i64 a1] : List Value).toArray w (PostM (footM [R.box pa0 100 [va0_0, .int .i64 a0_1, .int .u64 a0_2]]) (fun u ns => ∃ (Sr0 : Nat → Prop), SlLen u r0.length ∧ ns = [R.sl Sr0 u r0, R.box pa0 100 [va0_0, .int .i64 r1, .int .u64 r2]]) w) := by
 unfold spec_l1Cur_orderOf.f at h
 have hl_va0_0 := hr_a0_0.len
 refine Calls.of_tri (N := 49) Try.func104 rfl rfl rfl hw0 ?_
 refine Tri.seq ?_
 refine Tri.reg (l := [0]) rfl ?_
 refine F.q rfl rfl rfl (wanted_none rfl) (r_assign rfl) ?_
 refine F.nil ?_
 refine Nrm.seq ?_
 refine Tri.seq ?_
 refine Tri.reg (l := [0, 1]) rfl ?_
 refine F.m rfl rfl rfl (wanted_none rfl) (m_build0 (α := Int) Try.underlying25 ti3) ?_
 rintro v8_1 _ ⟨S8_1, hl_v8_1, rfl⟩
 refine F.q rfl rfl rfl (wanted_none rfl) (r_assign rfl) ?_
 refine F.nil ?_
 refine Nrm.seq ?_
 refine Tri.seq ?_
 refine Tri.seq ?_
 refine Tri.reg (l := [0]) rfl ?_
 refine F.q rfl rfl rfl (wanted_none rfl) (r_assign rfl) ?_
 refine F.nil ?_
 refine Nrm.seq ?_
 obtain ⟨⟨xpa0_1, xpa0_2, x5⟩, hE_1, h⟩ := bind_some h
 refine Tri.block ?_
 refine Tri.only [0, 1, 5, 6] rfl ?_
 refine Tri.pick [1, 0] rfl rfl ?_
 refine Tri.rounds (fun n e' C' => ∃ (x5' : List (Int)) (x6' : Int) (xpa0_1' : Int) (xpa0_2' : Int) (w5 : Value) (T5 : Nat → Prop), spec_l1Cur_orderOf.l0 k a0_0 a1 n x5' x6' xpa0_1' xpa0_2' = some (xpa0_1, xpa0_2, x5) ∧ SlLen w5 (x5').length ∧ e' = [(0, .pointer (some ⟨pa0, 0, none⟩)), (1, .int .i64 a1), (5, w5), (6, .int .i64 x6')] ∧ C' = Sep w (footM [R.box pa0 100 [va0_0, .int .i64 a0_1, .int .u64 a0_2]]) [R.box pa0 100 [va0_0, .int .i64 xpa0_1', .int .u64 xpa0_2'], R.sl T5 w5 (x5' : List (Int))]) k ?_ ?_ ?_
 ·exact ⟨([] : List (Int)), 0, a0_1, a0_2, v8_1, S8_1, hE_1, hl_v8_1, rfl, rfl⟩
 ·rintro _ _ ⟨_, _, _, _, _, _, hE_1, _⟩
  rw [spec_l1Cur_orderOf.l0.eq_1] at hE_1; cases hE_1
 ·rintro n_1 _ _ ⟨x5, x6, xpa0_1, xpa0_2, w5, T5, hE_1, hl_w5, rfl, rfl⟩ ih_1
  rw [spec_l1Cur_orderOf.l0.eq_2] at hE_1
  refine Tri.seq ?_
  refine Tri.seq ?_
  obtain ⟨y15, hE_2, hE_1⟩ := bind_some hE_1
  refine Tri.cut (fun e' C' => e' = [(0, .pointer (some ⟨pa0, 0, none⟩)), (1, .int .i64 a1), (5, w5), (6, .int .i64 x6), (15, .bool y15)] ∧ C' = Sep w (footM [R.box pa0 100 [va0_0, .int .i64 a0_1, .int .u64 a0_2]]) [R.box pa0 100 [va0_0, .int .i64 xpa0_1, .int .u64 xpa0_2], R.sl T5 w5 (x5 : List (Int))]) ?_ (fun hj_1 => ?_)
  ·rintro _ _ ⟨rfl, rfl⟩
   refine Nrm.seq ?_
   refine Tri.cond (b := y15) rfl (fun g_1 => ?_) (fun g_1 => ?_)
   ·replace hE_1 := if_tt g_1 hE_1
    refine Tri.skip ?_
    refine Nrm.seq ?_
    refine Tri.seq ?_
    refine Tri.block ?_
    refine Tri.seq ?_
    obtain ⟨⟨t22_1, t22_2, t22_3⟩, h22, hE_1⟩ := bind_some hE_1
    refine Tri.reg (l := [0, 1, 2, 3, 4, 5]) rfl ?_
    refine F.q rfl rfl rfl (wanted_none rfl) (r_move rfl) ?_
    refine F.q rfl rfl rfl (wanted_none rfl) (r_move rfl) ?_
    refine F.q rfl rfl rfl (wanted_none rfl) (r_len Try.underlying25 rfl hl_w5) ?_
    refine F.q rfl rfl rfl (wanted_none rfl) (r_add rfl rfl) ?_
    refine F.ef rfl rfl rfl (wanted_none rfl) (d_callM (xs := _) (cs := [R.box pa0 100 [va0_0, .int .i64 xpa0_1, .int .u64 xpa0_2]]) (rest := [R.sl T5 w5 (x5 : List (Int))]) [0] [1] rfl ok95 rfl rfl rfl rfl (fun w hw => spec_l1Cur_pick.ok h22 w (hr_a0_0.down hw) (Sep.sub hw))) ?_
    rintro _ _ ⟨_, ⟨rfl, rfl⟩, rfl⟩
    refine F.q rfl rfl rfl (wanted_none rfl) (r_assign rfl) ?_
    refine F.nil ?_
    refine Nrm.seq ?_
    obtain ⟨y5, hE_3, hE_1⟩ := bind_some hE_1
    refine Tri.cut (fun e' C' => ∃ (v5_1 : Value) (S5_1 : Nat → Prop), SlLen v5_1 (y5).length ∧ e' = [(0, .pointer (some ⟨pa0, 0, none⟩)), (1, .int .i64 a1), (5, v5_1), (6, .int .i64 x6)] ∧ C' = Sep w (footM [R.box pa0 100 [va0_0, .int .i64 a0_1, .int .u64 a0_2]]) [R.box pa0 100 [va0_0, .int .i64 t22_2, .int .u64 t22_3], R.sl S5_1 v5_1 (y5 : List (Int))]) ?_ (fun hj_2 => ?_)
    ·rintro _ _ ⟨v5_1, S5_1, hl_v5_1, rfl, rfl⟩
     refine Nrm.block ?_
     refine Nrm.seq ?_
     refine Tri.reg (l := [0, 1, 2]) rfl ?_
     refine F.q rfl rfl rfl (wanted_none rfl) (r_move rfl) ?_
     refine F.q rfl rfl rfl (wanted_none rfl) (r_add rfl rfl) ?_
     refine F.q rfl rfl rfl (wanted_none rfl) (r_assign rfl) ?_
     refine F.nil ?_
     refine Nrm.round ?_
     refine Rnd.only [0, 1, 5, 6] rfl ?_
     refine Rnd.pick [0, 1] rfl rfl ?_
     exact ih_1 _ _ ⟨y5, w64 (x6 + 1), t22_2, t22_3, v5_1, S5_1, hE_1, hl_v5_1, rfl, rfl⟩
    ·obtain ⟨t26, h26, hE_3⟩ := bind_some hE_3
     obtain ⟨t33, h33, hE_3⟩ := bind_some hE_3
     obtain ⟨hs27, hE_3⟩ := ck hE_3
     obtain ⟨hs30, hE_3⟩ := ck hE_3
     obtain ⟨hs34, hE_3⟩ := ck hE_3
     refine Tri.drawT mixedT Sep.up [1, 2, 3, 5, 8, 9, 10, 0, 4, 6, 7] [11, 12] (.q 1 (.q 2 (.q 3 (.q 5 (.q 8 (.q 9 (.q 10 (.alt 0 (.alt 4 (.alt 6 (.alt 7 .nil .stop) .stop) (.alt 6 (.alt 4 (.alt 7 .nil .stop) .stop) .stop)) (.alt 6 (.alt 0 (.alt 4 (.alt 7 .nil .stop) .stop) .stop) .stop))))))))) (by kernel_rfl) ?_
     refine T.q rfl rfl rfl (wanted_none rfl) (r_move rfl) ?_
     refine T.q rfl rfl rfl (wanted_none rfl) (r_move rfl) ?_
     refine T.q rfl rfl rfl (wanted_none rfl) (r_sliceH Try.underlying25 ti3 rfl (rd_sl (i := 1) rfl) rfl h26) ?_
     iterate 3 refine T.q rfl rfl rfl (wanted_none rfl) (r_move rfl) ?_
     refine T.q rfl rfl rfl (wanted_none rfl) (r_sliceL Try.underlying25 ti3 rfl (rd_sl (i := 1) rfl) rfl h33) ?_
     refine T.ef rfl rfl rfl (wanted_none rfl) (Makes.does (m_build0 (α := Int) Try.underlying25 ti3)) (by rintro v23_2 _ ⟨S23_2, hl_v23_2, rfl⟩; exact upd rfl [1, 2] rfl rfl) ?_ ?_
     ·rintro v23_2 _ ⟨S23_2, hl_v23_2, rfl⟩
      refine T.ef rfl rfl rfl (wanted_none rfl) (d_append (i := 0) Try.underlying25 Try.underlying25 ti3 rfl (by decide) rfl rfl rfl (fun w hw => rd_slc ((rd_sl (i := 2) rfl) w hw) h26) hs27) (by rintro v27_2 _ ⟨S27_2, rfl, hl_v27_2⟩; exact upd rfl [1, 2] rfl rfl) ?_ ?_
      ·rintro v27_2 _ ⟨S27_2, rfl, hl_v27_2⟩
       refine T.ef rfl rfl rfl (wanted_none rfl) (Makes.does (m_buildF (l := ([x6] : List (Int))) Try.underlying25 ti3 rfl rfl rfl rfl rfl)) (by rintro v29_2 _ ⟨S29_2, hl_v29_2, rfl⟩; exact upd rfl [2, 3] rfl rfl) ?_ ?_
       ·rintro v29_2 _ ⟨S29_2, hl_v29_2, rfl⟩
        refine T.ef rfl rfl rfl (wanted_none rfl) (d_append (i := 1) Try.underlying25 Try.underlying25 ti3 rfl (by decide) rfl rfl rfl (rd_sl (i := 0) rfl) hs30) (by rintro v30_2 _ ⟨S30_2, rfl, hl_v30_2⟩; exact upd rfl [2, 3] rfl rfl) ?_ ?_
        ·rintro v30_2 _ ⟨S30_2, rfl, hl_v30_2⟩
         refine T.nil ?_
         refine F.ef rfl rfl rfl (wanted_none rfl) (d_append (i := 1) Try.underlying25 Try.underlying25 ti3 rfl (by decide) rfl rfl rfl (fun w hw => rd_slc ((rd_sl (i := 3) rfl) w hw) h33) hs34) ?_
         rintro v34_2 _ ⟨S34_2, rfl, hl_v34_2⟩
         refine F.q rfl rfl rfl (wanted_none rfl) (r_assign rfl) ?_
         refine F.nil ?_
         cases hE_3
         refine Nrm.only [0, 1, 5, 6] rfl ?_
         refine Nrm.pick [2, 1] rfl rfl ?_
         exact hj_2 _ _ ⟨v34_2, S34_2, hl_v34_2, rfl, rfl⟩
        exact T.stop
       exact T.stop
      ·refine T.ef rfl rfl rfl (wanted_none rfl) (Makes.does (m_buildF (l := ([x6] : List (Int))) Try.underlying25 ti3 rfl rfl rfl rfl rfl)) (by rintro v29_3 _ ⟨S29_3, hl_v29_3, rfl⟩; exact upd rfl [2, 3] rfl rfl) ?_ ?_
       ·rintro v29_3 _ ⟨S29_3, hl_v29_3, rfl⟩
        refine T.ef rfl rfl rfl (wanted_none rfl) (d_append (i := 1) Try.underlying25 Try.underlying25 ti3 rfl (by decide) rfl rfl rfl (fun w hw => rd_slc ((rd_sl (i := 3) rfl) w hw) h26) hs27) (by rintro v27_3 _ ⟨S27_3, rfl, hl_v27_3⟩; exact upd rfl [2, 3] rfl rfl) ?_ ?_
        ·rintro v27_3 _ ⟨S27_3, rfl, hl_v27_3⟩
         refine T.ef rfl rfl rfl (wanted_none rfl) (d_append (i := 1) Try.underlying25 Try.underlying25 ti3 rfl (by decide) rfl rfl rfl (rd_sl (i := 0) rfl) hs30) (by rintro v30_3 _ ⟨S30_3, rfl, hl_v30_3⟩; exact upd rfl [2, 3] rfl rfl) ?_ ?_
         ·rintro v30_3 _ ⟨S30_3, rfl, hl_v30_3⟩
          refine T.nil ?_
          refine F.ef rfl rfl rfl (wanted_none rfl) (d_append (i := 1) Try.underlying25 Try.underlying25 ti3 rfl (by decide) rfl rfl rfl (fun w hw => rd_slc ((rd_sl (i := 3) rfl) w hw) h33) hs34) ?_
          rintro v34_3 _ ⟨S34_3, rfl, hl_v34_3⟩
          refine F.q rfl rfl rfl (wanted_none rfl) (r_assign rfl) ?_
          refine F.nil ?_
          cases hE_3
          refine Nrm.only [0, 1, 5, 6] rfl ?_
          refine Nrm.pick [2, 1] rfl rfl ?_
          exact hj_2 _ _ ⟨v34_3, S34_3, hl_v34_3, rfl, rfl⟩
         exact T.stop
        exact T.stop
       exact T.stop
     ·refine T.ef rfl rfl rfl (wanted_none rfl) (Makes.does (m_buildF (l := ([x6] : List (Int))) Try.underlying25 ti3 rfl rfl rfl rfl rfl)) (by rintro v29_4 _ ⟨S29_4, hl_v29_4, rfl⟩; exact upd rfl [1, 2] rfl rfl) ?_ ?_
      ·rintro v29_4 _ ⟨S29_4, hl_v29_4, rfl⟩
       refine T.ef rfl rfl rfl (wanted_none rfl) (Makes.does (m_build0 (α := Int) Try.underlying25 ti3)) (by rintro v23_3 _ ⟨S23_3, hl_v23_3, rfl⟩; exact upd rfl [2, 3] rfl rfl) ?_ ?_
       ·rintro v23_3 _ ⟨S23_3, hl_v23_3, rfl⟩
        refine T.ef rfl rfl rfl (wanted_none rfl) (d_append (i := 0) Try.underlying25 Try.underlying25 ti3 rfl (by decide) rfl rfl rfl (fun w hw => rd_slc ((rd_sl (i := 3) rfl) w hw) h26) hs27) (by rintro v27_4 _ ⟨S27_4, rfl, hl_v27_4⟩; exact upd rfl [2, 3] rfl rfl) ?_ ?_
        ·rintro v27_4 _ ⟨S27_4, rfl, hl_v27_4⟩
         refine T.ef rfl rfl rfl (wanted_none rfl) (d_append (i := 0) Try.underlying25 Try.underlying25 ti3 rfl (by decide) rfl rfl rfl (rd_sl (i := 1) rfl) hs30) (by rintro v30_4 _ ⟨S30_4, rfl, hl_v30_4⟩; exact upd rfl [2, 3] rfl rfl) ?_ ?_
         ·rintro v30_4 _ ⟨S30_4, rfl, hl_v30_4⟩
          refine T.nil ?_
          refine F.ef rfl rfl rfl (wanted_none rfl) (d_append (i := 0) Try.underlying25 Try.underlying25 ti3 rfl (by decide) rfl rfl rfl (fun w hw => rd_slc ((rd_sl (i := 3) rfl) w hw) h33) hs34) ?_
          rintro v34_4 _ ⟨S34_4, rfl, hl_v34_4⟩
          refine F.q rfl rfl rfl (wanted_none rfl) (r_assign rfl) ?_
          refine F.nil ?_
          cases hE_3
          refine Nrm.only [0, 1, 5, 6] rfl ?_
          refine Nrm.pick [2, 0] rfl rfl ?_
          exact hj_2 _ _ ⟨v34_4, S34_4, hl_v34_4, rfl, rfl⟩
         exact T.stop
        exact T.stop
       exact T.stop
      exact T.stop
   ·replace hE_1 := if_ff g_1 hE_1
    refine Tri.exit ?_
    refine Exi.then ?_
    refine Exi.then ?_
    refine Exi.same ?_
    cases hE_1
    refine Nrm.seq ?_
    refine Tri.seq ?_
    refine Tri.seq ?_
    obtain ⟨⟨y41, ypa0_1, ypa0_2⟩, hE_4, h⟩ := bind_some h
    refine Tri.cut (fun e' C' => e' = [(0, .pointer (some ⟨pa0, 0, none⟩)), (1, .int .i64 a1), (5, w5), (41, .bool y41)] ∧ C' = Sep w (footM [R.box pa0 100 [va0_0, .int .i64 a0_1, .int .u64 a0_2]]) [R.box pa0 100 [va0_0, .int .i64 ypa0_1, .int .u64 ypa0_2], R.sl T5 w5 (x5 : List (Int))]) ?_ (fun hj_3 => ?_)
    ·rintro _ _ ⟨rfl, rfl⟩
     refine Nrm.seq ?_
     obtain ⟨⟨y5r, ypa0_1r, ypa0_2r⟩, hE_5, h⟩ := bind_some h
     refine Tri.cut (fun e' C' => ∃ (v5_2 : Value) (S5_2 : Nat → Prop), SlLen v5_2 (y5r).length ∧ e' = [(5, v5_2)] ∧ C' = Sep w (footM [R.box pa0 100 [va0_0, .int .i64 a0_1, .int .u64 a0_2]]) [R.box pa0 100 [va0_0, .int .i64 ypa0_1r, .int .u64 ypa0_2r], R.sl S5_2 v5_2 (y5r : List (Int))]) ?_ (fun hj_4 => ?_)
     ·rintro _ _ ⟨v5_2, S5_2, hl_v5_2, rfl, rfl⟩
      refine Nrm.seq ?_
      refine Tri.seq ?_
      refine Tri.reg (l := [0, 1]) rfl ?_
      refine F.q rfl rfl rfl (wanted_none rfl) (r_move rfl) ?_
      refine F.q rfl rfl rfl (wanted_none rfl) (r_assign rfl) ?_
      refine F.nil ?_
      refine Nrm.seq ?_
      refine Tri.ret ?_
      cases h
      exact Rtn.body (.tmp rfl .nil) (fun w hw => ⟨_, _, rfl, ⟨S5_2, hl_v5_2, rfl⟩, Sep.pick (is := [1, 0]) rfl rfl hw⟩)
     ·refine Tri.cond (b := y41) rfl (fun g_2 => ?_) (fun g_2 => ?_)
      ·replace hE_5 := if_tt g_2 hE_5
       obtain ⟨⟨t46_1, t46_2, t46_3⟩, h46, hE_5⟩ := bind_some hE_5
       obtain ⟨t47, h47, hE_5⟩ := bind_some hE_5
       refine Tri.reg (l := [0, 1, 2, 3, 4, 5, 6]) rfl ?_
       iterate 3 refine F.q rfl rfl rfl (wanted_none rfl) (r_move rfl) ?_
       refine F.m rfl rfl rfl (wanted_none rfl) (m_buildF (l := ([0, 1, (-1), a1] : List (Int))) Try.underlying25 ti3 rfl rfl rfl rfl rfl) ?_
       rintro v45_1 _ ⟨S45_1, hl_v45_1, rfl⟩
       refine F.ef rfl rfl rfl (wanted_none rfl) (d_callM (xs := _) (cs := [R.box pa0 100 [va0_0, .int .i64 ypa0_1, .int .u64 ypa0_2]]) (rest := [R.sl S45_1 v45_1 (([0, 1, (-1), a1] : List (Int)) : List (Int)), R.sl T5 w5 (x5 : List (Int))]) [1] [0, 2] rfl ok96 rfl rfl rfl rfl (fun w hw => spec_l1Cur_among.ok h46 w (hr_a0_0.down hw) (rdm_sl (i := 0) rfl hw) (Sep.sub hw))) ?_
       rintro _ _ ⟨_, ⟨rfl, rfl⟩, rfl⟩
       refine F.q rfl rfl rfl (wanted_none rfl) (r_indexAddrS Try.underlying25 ti3 rfl hl_w5 rfl (rdl_some h47).1 (rdl_some h47).2.1) ?_
       refine F.ef0 rfl rfl (wanted_none rfl) (d_storeE (i := 2) (x1 := t46_1) ti3 rfl rfl rfl (rdl_some h47) rfl) ?_
       rintro _ _ ⟨rfl, rfl⟩
       refine F.nil ?_
       cases hE_5
       refine Nrm.only [5] rfl ?_
       refine Nrm.pick [0, 2] rfl rfl ?_
       exact hj_4 _ _ ⟨w5, T5, (len_set hl_w5), rfl, rfl⟩
      ·replace hE_5 := if_ff g_2 hE_5
       refine Tri.skip ?_
       cases hE_5
       refine Nrm.only [5] rfl ?_
       refine Nrm.pick [0, 1] rfl rfl ?_
       exact hj_4 _ _ ⟨w5, T5, hl_w5, rfl, rfl⟩
    ·rcases Bool.eq_false_or_eq_true (decide ((x5.length : Int) > 0)) with g38 | g38
     ·replace hE_4 := if_tt g38 hE_4
      obtain ⟨⟨t40_1, t40_2, t40_3⟩, h40, hE_4⟩ := bind_some hE_4
      refine Tri.reg (l := [0, 1, 2, 3, 4, 5, 6]) rfl ?_
      refine F.q rfl rfl rfl (wanted_none rfl) (r_move rfl) ?_
      refine F.q rfl rfl rfl (wanted_none rfl) (r_len Try.underlying25 rfl hl_w5) ?_
      refine F.q rfl rfl rfl (wanted_none rfl) (r_gtr rfl rfl) ?_
      refine F.q rfl rfl rfl (wanted_none rfl) (r_move rfl) ?_
      refine F.q rfl rfl rfl (wg rfl rfl rfl g38) (r_move rfl) ?_
      refine F.ef rfl rfl rfl (wg rfl rfl rfl g38) (d_callM (xs := _) (cs := [R.box pa0 100 [va0_0, .int .i64 xpa0_1, .int .u64 xpa0_2]]) (rest := [R.sl T5 w5 (x5 : List (Int))]) [0] [1] rfl ok93 rfl rfl rfl rfl (fun w hw => spec_l1Cur_one.ok h40 w (hr_a0_0.down hw) (Sep.sub hw))) ?_
      rintro _ _ ⟨_, ⟨rfl, rfl⟩, rfl⟩
      refine F.q rfl rfl rfl (wanted_none rfl) (r_pick rfl rfl g38) ?_
      refine F.nil ?_
      cases hE_4
      refine Nrm.only [0, 1, 5, 41] rfl ?_
      refine Nrm.pick [0, 1] rfl rfl ?_
      exact hj_3 _ _ ⟨rfl, rfl⟩
     ·replace hE_4 := if_ff g38 hE_4
      refine Tri.reg (l := [0, 1, 2, 3, 4, 5, 6]) rfl ?_
      refine F.q rfl rfl rfl (wanted_none rfl) (r_move rfl) ?_
      refine F.q rfl rfl rfl (wanted_none rfl) (r_len Try.underlying25 rfl hl_w5) ?_
      refine F.q rfl rfl rfl (wanted_none rfl) (r_gtr rfl rfl) ?_
      refine F.q rfl rfl rfl (wanted_none rfl) (r_move rfl) ?_
      refine F.sk rfl rfl rfl (wf rfl rfl rfl g38) ?_
      refine F.sk rfl rfl rfl (wf rfl rfl rfl g38) ?_
      refine F.q rfl rfl rfl (wanted_none rfl) (r_pickf rfl rfl g38) ?_
      refine F.nil ?_
      cases hE_4
      refine Nrm.only [0, 1, 5, 41] rfl ?_
      refine Nrm.pick [0, 1] rfl rfl ?_
      exact hj_3 _ _ ⟨rfl, rfl⟩
  ·rcases Bool.eq_false_or_eq_true (decide (x6 < a1)) with g12 | g12
   ·replace hE_2 := if_tt g12 hE_2
    refine Tri.reg (l := [0, 1, 2, 3, 4, 5, 6]) rfl ?_
    refine F.q rfl rfl rfl (wanted_none rfl) (r_move rfl) ?_
    refine F.q rfl rfl rfl (wanted_none rfl) (r_move rfl) ?_
    refine F.q rfl rfl rfl (wanted_none rfl) (r_lss rfl rfl) ?_
    refine F.q rfl rfl rfl (wanted_none rfl) (r_move rfl) ?_
    refine F.q rfl rfl rfl (wg rfl rfl rfl g12) (r_move rfl) ?_
    refine F.q rfl rfl rfl (wg rfl rfl rfl g12) (r_lss rfl rfl) ?_
    refine F.q rfl rfl rfl (wanted_none rfl) (r_pick rfl rfl g12) ?_
    refine F.nil ?_
    cases hE_2
    refine Nrm.only [0, 1, 5, 6, 15] rfl ?_
    refine Nrm.pick [0, 1] rfl rfl ?_
    exact hj_1 _ _ ⟨rfl, rfl⟩
   ·replace hE_2 := if_ff g12 hE_2
    refine Tri.reg (l := [0, 1, 2, 3, 4, 5, 6]) rfl ?_
    refine F.q rfl rfl rfl (wanted_none rfl) (r_move rfl) ?_
    refine F.q rfl rfl rfl (wanted_none rfl) (r_move rfl) ?_
    refine F.q rfl rfl rfl (wanted_none rfl) (r_lss rfl rfl) ?_
    refine F.q rfl rfl rfl (wanted_none rfl) (r_move rfl) ?_
    refine F.sk rfl rfl rfl (wf rfl rfl rfl g12) ?_
    refine F.sk rfl rfl rfl (wf rfl rfl rfl g12) ?_
    refine F.q rfl rfl rfl (wanted_none rfl) (r_pickf rfl rfl g12) ?_
    refine F.nil ?_
    cases hE_2
    refine Nrm.only [0, 1, 5, 6, 15] rfl ?_
    refine Nrm.pick [0, 1] rfl rfl ?_
    exact hj_1 _ _ ⟨rfl, rfl⟩

end Go.Proofs

/- loop.example/g01158/spec.DrawAssumedFilling -/
namespace Go.Proofs
open Go Go.Ga
set_option linter.unusedVariables false
set_option maxRecDepth 100000
set_option maxHeartbeats 4000000
def spec_DrawAssumedFilling.l0 (k : Nat) (t28 : List Int) (t32_1 : List Int) : Nat → (List (Int)) → Int → Option ((List (Int)))
 | 0, _, _ => none
 | n + 1, x9, x13 => (if (decide (x13 < (t32_1.length : Int))) = true then (rdl t32_1 x13).bind fun t41 => (spec_l1In.f k t41 0 (w64 ((t28.length : Int) - 1))).bind fun t46 => ((if t46 = true then (rdl t32_1 x13).bind fun t51 => (rdl t28 t51).bind fun t53 => if (x9 ++ ([t53] : List (Int))).length < 1099511627776 then some (x9 ++ ([t53] : List (Int))) else none else some x9)).bind fun y9 => spec_DrawAssumedFilling.l0 k t28 t32_1 n y9 (w64 (x13 + 1)) else some x9)

def spec_DrawAssumedFilling.l1 (k : Nat) (a0 : List By) (y9 : List (Int)) : Nat → (List (Int)) → Int → Int → Int → Option (Int × Int × (List (Int)))
 | 0, _, _, _, _ => none
 | n + 1, x10, x14, xb17_1_1, xb17_1_2 => (if (decide (x14 < (y9.length : Int))) = true then (spec_l1Cur_pick.f k a0 xb17_1_1 xb17_1_2 9).bind fun (t65_1, t65_2, t65_3) => if (x10 ++ ([t65_1] : List (Int))).length < 1099511627776 then spec_DrawAssumedFilling.l1 k a0 y9 n (x10 ++ ([t65_1] : List (Int))) (w64 (x14 + 1)) t65_2 t65_3 else none else some (xb17_1_1, xb17_1_2, x10))

def spec_DrawAssumedFilling.f (k : Nat) (a0 : List By) : Option (Int × (List (Int × Int × Int)) × (List Int) × Int × (List Int) × (List Int)) := (spec_l1Cur_fill9.f k a0 0 0).bind fun (t20_1, t20_2, t20_3, t20_4, t20_5, t20_6) => (spec_l2Set.f k t20_4).bind fun t26 => ((if t26 = true then (spec_l2Colours.f k t20_4).bind fun t28 => (spec_l1Cur_orderOf.f k a0 t20_5 t20_6 (t28.length : Int)).bind fun (t32_1, t32_2, t32_3) => (spec_DrawAssumedFilling.l0 k t28 t32_1 k ([] : List (Int)) 0).bind fun x9 => some (x9, t32_2, t32_3) else some (([] : List (Int)), t20_5, t20_6))).bind fun (y9, yb17_1_1, yb17_1_2) => (spec_DrawAssumedFilling.l1 k a0 y9 k ([] : List (Int)) 0 yb17_1_1 yb17_1_2).bind fun (xb17_1_1, xb17_1_2, x10) => (spec_l1Cur_one.f k a0 xb17_1_1 xb17_1_2 24).bind fun (t69_1, t69_2, t69_3) => ((if t69_1 = true then (spec_l1Cur_among.f k a0 t69_2 t69_3 ([0, (-1)] : List (Int))).bind fun (t73_1, t73_2, t73_3) => if (x10 ++ ([t73_1] : List (Int))).length < 1099511627776 then some (x10 ++ ([t73_1] : List (Int))) else none else some x10)).bind fun y10 => some (t20_1, t20_2, t20_3, t20_4, y9, y10)

theorem spec_DrawAssumedFilling.ok {k : Nat}  {a0 : List By} {r0 : Int} {r1 : List (Int × Int × Int)} {r2 : List Int} {r3 : Int} {r4 : List Int} {r5 : List Int} (h : spec_DrawAssumedFilling.f k a0 = some (r0, r1, r2, r3, r4, r5)) (w : World) {va0 : Value} (hr_a0 : Rd w va0 a0) :
  Calls Try.prog 25 ([va0] : List Value).toArray w (Post (fun u ns => ∃ (ur1 : Value) (Sr1 : Nat → Prop) (ur2 : Value) (Sr2 : Nat → Prop) (ur4 : Value) (Sr4 : Nat → Prop) (ur5 : Value) (Sr5 : Nat → Prop), u = .tuple #[.agg [.int .i64 r0, ur1, ur2].toArray, .int .i64 r3, ur4, ur5] ∧ SlLen ur1 r1.length ∧ SlLen ur2 r2.length ∧ SlLen ur4 r4.length ∧ SlLen ur5 r5.length ∧ ns = [R.sl Sr1 ur1 r1, R.sl Sr2 ur2 r2, R.sl Sr4 ur4 r4, R.sl Sr5 ur5 r5]) w) := by
 unfold spec_DrawAssumedFilling.f at h
 have hl_va0 := hr_a0.len
 refine Calls.of_tri (N := 80) Try.func25 rfl rfl rfl (Sep.nil (M := noM)) ?_
 refine Tri.seq ?_
 refine Tri.reg (l := [0, 1, 2, 3]) rfl ?_
 refine F.m rfl rfl rfl (wanted_none rfl) (m_alloc ti27) ?_
 rintro _ _ ⟨b2_1, rfl, rfl⟩
 iterate 3 refine F.q rfl rfl rfl (wanted_none rfl) (r_assign rfl) ?_
 refine F.nil ?_
 refine Nrm.seq ?_
 refine Tri.seq ?_
 refine Tri.reg (l := [0, 1, 2, 3]) rfl ?_
 refine F.q rfl rfl rfl (wanted_none rfl) (r_move rfl) ?_
 refine F.q rfl rfl rfl (wanted_none rfl) (r_build (pl := [(0, 1), (1, 1), (2, 1)]) (qs := [(0, [va0])]) (cs := [va0, .int .i64 0, .int .u64 0]) (by kernel_rfl) ti100 rfl (.cons (sl_cells hl_va0) rfl (Nat.le_of_ble_eq_true rfl) .nil) rfl rfl) ?_
 refine F.m rfl rfl rfl (wanted_none rfl) (m_boxG rfl rfl) ?_
 rintro _ _ ⟨b17_1, rfl, rfl⟩
 refine F.q rfl rfl rfl (wanted_none rfl) (r_assign rfl) ?_
 refine F.nil ?_
 refine Nrm.seq ?_
 refine Tri.seq ?_
 obtain ⟨⟨t20_1, t20_2, t20_3, t20_4, t20_5, t20_6⟩, h20, h⟩ := bind_some h
 refine Tri.reg (l := [0, 1, 2, 3, 4, 5, 6, 7]) rfl ?_
 refine F.q rfl rfl rfl (wanted_none rfl) (r_move rfl) ?_
 refine F.ef rfl rfl rfl (wanted_none rfl) (d_callM (xs := _) (cs := [R.box b17_1 100 [va0, .int .i64 0, .int .u64 0]]) (rest := [R.box b2_1 27 [.int .i64 0, .slice none 0 0, .slice none 0 0]]) [0] [1] rfl ok86 rfl rfl rfl rfl (fun w hw => spec_l1Cur_fill9.ok h20 w (hr_a0.down hw) (Sep.sub hw))) ?_
 rintro _ _ ⟨_, ⟨v20_1, S20_1, v20_2, S20_2, rfl, hl_v20_1, hl_v20_2, rfl⟩, rfl⟩
 refine F.q rfl rfl rfl (wanted_none rfl) (r_move rfl) ?_
 refine F.q rfl rfl rfl (wanted_none rfl) (r_extract rfl rfl) ?_
 refine F.q rfl rfl rfl (wanted_none rfl) (r_extract rfl rfl) ?_
 refine F.m rfl rfl rfl (wanted_none rfl) (m_alloc ti27) ?_
 rintro _ _ ⟨b7_1, rfl, rfl⟩
 refine F.ef0 rfl rfl (wanted_none rfl) (d_storeG0 (i := 0) (cs2 := [.int .i64 t20_1, v20_1, v20_2]) ti27 rfl rfl rfl rfl rfl (Nat.le_of_ble_eq_true rfl) (lf_cons rfl (lf_cons (sl_leaf hl_v20_1) (lf_cons (sl_leaf hl_v20_2) lf_nil)))) ?_
 rintro _ _ ⟨rfl, rfl⟩
 refine F.q rfl rfl rfl (wanted_none rfl) (r_assign rfl) ?_
 refine F.nil ?_
 refine Nrm.seq ?_
 refine Tri.seq ?_
 refine Tri.reg (l := [0, 1, 2, 3]) rfl ?_
 refine F.m rfl rfl rfl (wanted_none rfl) (m_build0 (α := Int) Try.underlying25 ti3) ?_
 rintro v23_1 _ ⟨S23_1, hl_v23_1, rfl⟩
 refine F.m rfl rfl rfl (wanted_none rfl) (m_build0 (α := Int) Try.underlying25 ti3) ?_
 rintro v24_1 _ ⟨S24_1, hl_v24_1, rfl⟩
 refine F.q rfl rfl rfl (wanted_none rfl) (r_assign rfl) ?_
 refine F.q rfl rfl rfl (wanted_none rfl) (r_assign rfl) ?_
 refine F.nil ?_
 refine Nrm.seq ?_
 refine Tri.seq ?_
 refine Tri.seq ?_
 obtain ⟨t26, h26, h⟩ := bind_some h
 refine Tri.reg (l := [0, 1]) rfl ?_
 refine F.q rfl rfl rfl (wanted_none rfl) (r_move rfl) ?_
 refine F.qc rfl rfl rfl (wanted_none rfl) (q_callF (xs := _) rfl ok92 rfl rfl (fun w hw => spec_l2Set.ok h26 w )) ?_
 refine F.nil ?_
 refine Nrm.seq ?_
 obtain ⟨⟨y9, yb17_1_1, yb17_1_2⟩, hE_1, h⟩ := bind_some h
 refine Tri.cut (fun e' C' => ∃ (v9_1 : Value) (S9_1 : Nat → Prop), SlLen v9_1 (y9).length ∧ e' = [(2, .pointer (some ⟨b2_1, 0, none⟩)), (6, .pointer (some ⟨b17_1, 0, none⟩)), (7, .pointer (some ⟨b7_1, 0, none⟩)), (8, .int .i64 t20_4), (9, v9_1), (10, v24_1)] ∧ C' = Sep w noM [R.box b17_1 100 [va0, .int .i64 yb17_1_1, .int .u64 yb17_1_2], R.box b7_1 27 [.int .i64 t20_1, v20_1, v20_2], R.box b2_1 27 [.int .i64 0, .slice none 0 0, .slice none 0 0], R.sl S9_1 v9_1 (y9 : List (Int)), R.sl S20_1 v20_1 (t20_2 : List (Int × Int × Int)), R.sl S20_2 v20_2 (t20_3 : List (Int)), R.sl S24_1 v24_1 (([] : List (Int)) : List (Int))]) ?_ (fun hj_1 => ?_)
 ·rintro _ _ ⟨v9_1, S9_1, hl_v9_1, rfl, rfl⟩
  refine Nrm.seq ?_
  refine Tri.seq ?_
  refine Tri.seq ?_
  refine Tri.reg (l := [0]) rfl ?_
  refine F.q rfl rfl rfl (wanted_none rfl) (r_assign rfl) ?_
  refine F.nil ?_
  refine Nrm.seq ?_
  obtain ⟨⟨xb17_1_1, xb17_1_2, x10⟩, hE_4, h⟩ := bind_some h
  refine Tri.block ?_
  refine Tri.only [2, 6, 7, 8, 9, 10, 14] rfl ?_
  refine Tri.pick [0, 1, 2, 3, 4, 5, 6] rfl rfl ?_
  refine Tri.rounds (fun n e' C' => ∃ (x10' : List (Int)) (x14' : Int) (xb17_1_1' : Int) (xb17_1_2' : Int) (w10 : Value) (T10 : Nat → Prop), spec_DrawAssumedFilling.l1 k a0 y9 n x10' x14' xb17_1_1' xb17_1_2' = some (xb17_1_1, xb17_1_2, x10) ∧ SlLen w10 (x10').length ∧ e' = [(2, .pointer (some ⟨b2_1, 0, none⟩)), (6, .pointer (some ⟨b17_1, 0, none⟩)), (7, .pointer (some ⟨b7_1, 0, none⟩)), (8, .int .i64 t20_4), (9, v9_1), (10, w10), (14, .int .i64 x14')] ∧ C' = Sep w noM [R.box b17_1 100 [va0, .int .i64 xb17_1_1', .int .u64 xb17_1_2'], R.box b7_1 27 [.int .i64 t20_1, v20_1, v20_2], R.box b2_1 27 [.int .i64 0, .slice none 0 0, .slice none 0 0], R.sl S9_1 v9_1 (y9 : List (Int)), R.sl S20_1 v20_1 (t20_2 : List (Int × Int × Int)), R.sl S20_2 v20_2 (t20_3 : List (Int)), R.sl T10 w10 (x10' : List (Int))]) k ?_ ?_ ?_
  ·exact ⟨([] : List (Int)), 0, yb17_1_1, yb17_1_2, v24_1, S24_1, hE_4, hl_v24_1, rfl, rfl⟩
  ·rintro _ _ ⟨_, _, _, _, _, _, hE_4, _⟩
   rw [spec_DrawAssumedFilling.l1.eq_1] at hE_4; cases hE_4
  ·rintro n_2 _ _ ⟨x10, x14, xb17_1_1, xb17_1_2, w10, T10, hE_4, hl_w10, rfl, rfl⟩ ih_2
   rw [spec_DrawAssumedFilling.l1.eq_2] at hE_4
   refine Tri.seq ?_
   refine Tri.seq ?_
   refine Tri.reg (l := [0, 1, 2, 3]) rfl ?_
   refine F.q rfl rfl rfl (wanted_none rfl) (r_move rfl) ?_
   refine F.q rfl rfl rfl (wanted_none rfl) (r_move rfl) ?_
   refine F.q rfl rfl rfl (wanted_none rfl) (r_len Try.underlying25 rfl hl_v9_1) ?_
   refine F.q rfl rfl rfl (wanted_none rfl) (r_lss rfl rfl) ?_
   refine F.nil ?_
   refine Nrm.seq ?_
   refine Tri.cond (b := decide (x14 < (y9.length : Int))) rfl (fun g_4 => ?_) (fun g_4 => ?_)
   ·replace hE_4 := if_tt g_4 hE_4
    refine Tri.skip ?_
    refine Nrm.seq ?_
    refine Tri.seq ?_
    refine Tri.block ?_
    obtain ⟨⟨t65_1, t65_2, t65_3⟩, h65, hE_4⟩ := bind_some hE_4
    obtain ⟨hs67, hE_4⟩ := ck hE_4
    refine Tri.reg (l := [0, 1, 2, 3, 4, 5]) rfl ?_
    refine F.q rfl rfl rfl (wanted_none rfl) (r_move rfl) ?_
    refine F.q rfl rfl rfl (wanted_none rfl) (r_move rfl) ?_
    refine F.ef rfl rfl rfl (wanted_none rfl) (d_callM (xs := _) (cs := [R.box b17_1 100 [va0, .int .i64 xb17_1_1, .int .u64 xb17_1_2]]) (rest := [R.box b7_1 27 [.int .i64 t20_1, v20_1, v20_2], R.box b2_1 27 [.int .i64 0, .slice none 0 0, .slice none 0 0], R.sl S9_1 v9_1 (y9 : List (Int)), R.sl S20_1 v20_1 (t20_2 : List (Int × Int × Int)), R.sl S20_2 v20_2 (t20_3 : List (Int)), R.sl T10 w10 (x10 : List (Int))]) [0] [1, 2, 3, 4, 5, 6] rfl ok95 rfl rfl rfl rfl (fun w hw => spec_l1Cur_pick.ok h65 w (hr_a0.down hw) (Sep.sub hw))) ?_
    rintro _ _ ⟨_, ⟨rfl, rfl⟩, rfl⟩
    refine F.m rfl rfl rfl (wanted_none rfl) (m_buildF (l := ([t65_1] : List (Int))) Try.underlying25 ti3 rfl rfl rfl rfl rfl) ?_
    rintro v66_1 _ ⟨S66_1, hl_v66_1, rfl⟩
    refine F.ef rfl rfl rfl (wanted_none rfl) (d_append (i := 7) Try.underlying25 Try.underlying25 ti3 rfl (by decide) rfl rfl rfl (rd_sl (i := 0) rfl) hs67) ?_
    rintro v67_1 _ ⟨S67_1, rfl, hl_v67_1⟩
    refine F.q rfl rfl rfl (wanted_none rfl) (r_assign rfl) ?_
    refine F.nil ?_
    refine Nrm.block ?_
    refine Nrm.seq ?_
    refine Tri.reg (l := [0, 1, 2]) rfl ?_
    refine F.q rfl rfl rfl (wanted_none rfl) (r_move rfl) ?_
    refine F.q rfl rfl rfl (wanted_none rfl) (r_add rfl rfl) ?_
    refine F.q rfl rfl rfl (wanted_none rfl) (r_assign rfl) ?_
    refine F.nil ?_
    refine Nrm.round ?_
    refine Rnd.only [2, 6, 7, 8, 9, 10, 14] rfl ?_
    refine Rnd.pick [1, 2, 3, 4, 5, 6, 7] rfl rfl ?_
    exact ih_2 _ _ ⟨x10 ++ ([t65_1] : List (Int)), w64 (x14 + 1), t65_2, t65_3, v67_1, S67_1, hE_4, hl_v67_1, rfl, rfl⟩
   ·replace hE_4 := if_ff g_4 hE_4
    refine Tri.exit ?_
    refine Exi.then ?_
    refine Exi.then ?_
    refine Exi.same ?_
    cases hE_4
    refine Nrm.seq ?_
    refine Tri.seq ?_
    refine Tri.seq ?_
    obtain ⟨⟨t69_1, t69_2, t69_3⟩, h69, h⟩ := bind_some h
    refine Tri.reg (l := [0, 1]) rfl ?_
    refine F.q rfl rfl rfl (wanted_none rfl) (r_move rfl) ?_
    refine F.ef rfl rfl rfl (wanted_none rfl) (d_callM (xs := _) (cs := [R.box b17_1 100 [va0, .int .i64 xb17_1_1, .int .u64 xb17_1_2]]) (rest := [R.box b7_1 27 [.int .i64 t20_1, v20_1, v20_2], R.box b2_1 27 [.int .i64 0, .slice none 0 0, .slice none 0 0], R.sl S9_1 v9_1 (y9 : List (Int)), R.sl S20_1 v20_1 (t20_2 : List (Int × Int × Int)), R.sl S20_2 v20_2 (t20_3 : List (Int)), R.sl T10 w10 (x10 : List (Int))]) [0] [1, 2, 3, 4, 5, 6] rfl ok93 rfl rfl rfl rfl (fun w hw => spec_l1Cur_one.ok h69 w (hr_a0.down hw) (Sep.sub hw))) ?_
    rintro _ _ ⟨_, ⟨rfl, rfl⟩, rfl⟩
    refine F.nil ?_
    refine Nrm.seq ?_
    obtain ⟨y10, hE_5, h⟩ := bind_some h
    refine Tri.cut (fun e' C' => ∃ (v10_1 : Value) (S10_1 : Nat → Prop), SlLen v10_1 (y10).length ∧ e' = [(2, .pointer (some ⟨b2_1, 0, none⟩)), (7, .pointer (some ⟨b7_1, 0, none⟩)), (8, .int .i64 t20_4), (9, v9_1), (10, v10_1)] ∧ C' = Sep w noM [R.box b7_1 27 [.int .i64 t20_1, v20_1, v20_2], R.box b2_1 27 [.int .i64 0, .slice none 0 0, .slice none 0 0], R.sl S10_1 v10_1 (y10 : List (Int)), R.sl S20_1 v20_1 (t20_2 : List (Int × Int × Int)), R.sl S20_2 v20_2 (t20_3 : List (Int)), R.sl S9_1 v9_1 (y9 : List (Int))]) ?_ (fun hj_3 => ?_)
    ·rintro _ _ ⟨v10_1, S10_1, hl_v10_1, rfl, rfl⟩
     refine Nrm.seq ?_
     refine Tri.seq ?_
     refine Tri.reg (l := [0, 1, 2, 3, 4, 5, 6, 7]) rfl ?_
     refine F.q rfl rfl rfl (wanted_none rfl) (r_loadA ta27 ti27 rfl rfl (fun w hw => (box_cells (i := 0) rfl w hw))) ?_
     iterate 3 refine F.q rfl rfl rfl (wanted_none rfl) (r_move rfl) ?_
     refine F.ef0 rfl rfl (wanted_none rfl) (d_storeG0 (i := 1) (cs2 := [.int .i64 t20_1, v20_1, v20_2]) ti27 rfl rfl rfl rfl rfl (Nat.le_of_ble_eq_true rfl) (lf_cons rfl (lf_cons (sl_leaf hl_v20_1) (lf_cons (sl_leaf hl_v20_2) lf_nil)))) ?_
     rintro _ _ ⟨rfl, rfl⟩
     iterate 3 refine F.q rfl rfl rfl (wanted_none rfl) (r_assign rfl) ?_
     refine F.nil ?_
     refine Nrm.seq ?_
     refine Tri.ret ?_
     cases h
     exact Rtn.body (.cell rfl ta27 ti27 rfl (fun _ hw => box_cells (i := 1) rfl _ hw) (.tmp rfl (.tmp rfl (.tmp rfl .nil)))) (fun w hw => ⟨_, _, rfl, ⟨v20_1, S20_1, v20_2, S20_2, v9_1, S9_1, v10_1, S10_1, rfl, hl_v20_1, hl_v20_2, hl_v9_1, hl_v10_1, rfl⟩, Sep.pick (is := [3, 4, 5, 2]) rfl rfl hw⟩)
    ·refine Tri.cond (b := t69_1) rfl (fun g_5 => ?_) (fun g_5 => ?_)
     ·replace hE_5 := if_tt g_5 hE_5
      obtain ⟨⟨t73_1, t73_2, t73_3⟩, h73, hE_5⟩ := bind_some hE_5
      obtain ⟨hs75, hE_5⟩ := ck hE_5
      refine Tri.reg (l := [0, 1, 2, 3, 4, 5, 6]) rfl ?_
      refine F.q rfl rfl rfl (wanted_none rfl) (r_move rfl) ?_
      refine F.q rfl rfl rfl (wanted_none rfl) (r_move rfl) ?_
      refine F.m rfl rfl rfl (wanted_none rfl) (m_buildF (l := ([0, (-1)] : List (Int))) Try.underlying25 ti3 rfl rfl rfl rfl rfl) ?_
      rintro v72_1 _ ⟨S72_1, hl_v72_1, rfl⟩
      refine F.ef rfl rfl rfl (wanted_none rfl) (d_callM (xs := _) (cs := [R.box b17_1 100 [va0, .int .i64 t69_2, .int .u64 t69_3]]) (rest := [R.sl S72_1 v72_1 (([0, (-1)] : List (Int)) : List (Int)), R.box b7_1 27 [.int .i64 t20_1, v20_1, v20_2], R.box b2_1 27 [.int .i64 0, .slice none 0 0, .slice none 0 0], R.sl S9_1 v9_1 (y9 : List (Int)), R.sl S20_1 v20_1 (t20_2 : List (Int × Int × Int)), R.sl S20_2 v20_2 (t20_3 : List (Int)), R.sl T10 w10 (x10 : List (Int))]) [1] [0, 2, 3, 4, 5, 6, 7] rfl ok96 rfl rfl rfl rfl (fun w hw => spec_l1Cur_among.ok h73 w (hr_a0.down hw) (rdm_sl (i := 0) rfl hw) (Sep.sub hw))) ?_
      rintro _ _ ⟨_, ⟨rfl, rfl⟩, rfl⟩
      refine F.m rfl rfl rfl (wanted_none rfl) (m_buildF (l := ([t73_1] : List (Int))) Try.underlying25 ti3 rfl rfl rfl rfl rfl) ?_
      rintro v74_1 _ ⟨S74_1, hl_v74_1, rfl⟩
      refine F.ef rfl rfl rfl (wanted_none rfl) (d_append (i := 8) Try.underlying25 Try.underlying25 ti3 rfl (by decide) rfl rfl rfl (rd_sl (i := 0) rfl) hs75) ?_
      rintro v75_1 _ ⟨S75_1, rfl, hl_v75_1⟩
      refine F.q rfl rfl rfl (wanted_none rfl) (r_assign rfl) ?_
      refine F.nil ?_
      cases hE_5
      refine Nrm.only [2, 7, 8, 9, 10] rfl ?_
      refine Nrm.pick [3, 4, 8, 6, 7, 5] rfl rfl ?_
      exact hj_3 _ _ ⟨v75_1, S75_1, hl_v75_1, rfl, rfl⟩
     ·replace hE_5 := if_ff g_5 hE_5
      refine Tri.skip ?_
      cases hE_5
      refine Nrm.only [2, 7, 8, 9, 10] rfl ?_
      refine Nrm.pick [1, 2, 6, 4, 5, 3] rfl rfl ?_
      exact hj_3 _ _ ⟨w10, T10, hl_w10, rfl, rfl⟩
 ·refine Tri.cond (b := t26) rfl (fun g_1 => ?_) (fun g_1 => ?_)
  ·replace hE_1 := if_tt g_1 hE_1
   refine Tri.seq ?_
   obtain ⟨t28, h28, hE_1⟩ := bind_some hE_1
   refine Tri.reg (l := [0, 1, 2]) rfl ?_
   refine F.q rfl rfl rfl (wanted_none rfl) (r_move rfl) ?_
   refine F.m rfl rfl rfl (wanted_none rfl) (m_callF (xs := _) rfl ok94 rfl rfl (fun w hw => spec_l2Colours.ok h28 w )) ?_
   rintro v28_1 _ ⟨_, ⟨S28_1, hl_v28_1, rfl⟩, rfl⟩
   refine F.q rfl rfl rfl (wanted_none rfl) (r_assign rfl) ?_
   refine F.nil ?_
   refine Nrm.seq ?_
   refine Tri.seq ?_
   obtain ⟨⟨t32_1, t32_2, t32_3⟩, h32, hE_1⟩ := bind_some hE_1
   refine Tri.reg (l := [0, 1, 2, 3, 4]) rfl ?_
   refine F.q rfl rfl rfl (wanted_none rfl) (r_move rfl) ?_
   refine F.q rfl rfl rfl (wanted_none rfl) (r_move rfl) ?_
   refine F.q rfl rfl rfl (wanted_none rfl) (r_len Try.underlying25 rfl hl_v28_1) ?_
   refine F.ef rfl rfl rfl (wanted_none rfl) (d_callM (xs := _) (cs := [R.box b17_1 100 [va0, .int .i64 t20_5, .int .u64 t20_6]]) (rest := [R.sl S28_1 v28_1 (t28 : List (Int)), R.sl S24_1 v24_1 (([] : List (Int)) : List (Int)), R.sl S23_1 v23_1 (([] : List (Int)) : List (Int)), R.box b7_1 27 [.int .i64 t20_1, v20_1, v20_2], R.sl S20_1 v20_1 (t20_2 : List (Int × Int × Int)), R.sl S20_2 v20_2 (t20_3 : List (Int)), R.box b2_1 27 [.int .i64 0, .slice none 0 0, .slice none 0 0]]) [6] [0, 1, 2, 3, 4, 5, 7] rfl ok104 rfl rfl rfl rfl (fun w hw => spec_l1Cur_orderOf.ok h32 w (hr_a0.down hw) (Sep.sub hw))) ?_
   rintro v32_1 _ ⟨_, ⟨S32_1, hl_v32_1, rfl⟩, rfl⟩
   refine F.q rfl rfl rfl (wanted_none rfl) (r_assign rfl) ?_
   refine F.nil ?_
   refine Nrm.seq ?_
   refine Tri.seq ?_
   refine Tri.reg (l := [0]) rfl ?_
   refine F.q rfl rfl rfl (wanted_none rfl) (r_assign rfl) ?_
   refine F.nil ?_
   refine Nrm.seq ?_
   obtain ⟨x9, hE_2, hE_1⟩ := bind_some hE_1
   refine Tri.block ?_
   refine Tri.only [2, 6, 7, 8, 9, 10, 11, 12, 13] rfl ?_
   refine Tri.pick [1, 5, 8, 0, 2, 3, 4, 6, 7] rfl rfl ?_
   refine Tri.rounds (fun n e' C' => ∃ (x9' : List (Int)) (x13' : Int) (w9 : Value) (T9 : Nat → Prop), spec_DrawAssumedFilling.l0 k t28 t32_1 n x9' x13' = some x9 ∧ SlLen w9 (x9').length ∧ e' = [(2, .pointer (some ⟨b2_1, 0, none⟩)), (6, .pointer (some ⟨b17_1, 0, none⟩)), (7, .pointer (some ⟨b7_1, 0, none⟩)), (8, .int .i64 t20_4), (9, w9), (10, v24_1), (11, v28_1), (12, v32_1), (13, .int .i64 x13')] ∧ C' = Sep w noM [R.box b17_1 100 [va0, .int .i64 t32_2, .int .u64 t32_3], R.box b7_1 27 [.int .i64 t20_1, v20_1, v20_2], R.box b2_1 27 [.int .i64 0, .slice none 0 0, .slice none 0 0], R.sl S32_1 v32_1 (t32_1 : List (Int)), R.sl S28_1 v28_1 (t28 : List (Int)), R.sl S24_1 v24_1 (([] : List (Int)) : List (Int)), R.sl T9 w9 (x9' : List (Int)), R.sl S20_1 v20_1 (t20_2 : List (Int × Int × Int)), R.sl S20_2 v20_2 (t20_3 : List (Int))]) k ?_ ?_ ?_
   ·exact ⟨([] : List (Int)), 0, v23_1, S23_1, hE_2, hl_v23_1, rfl, rfl⟩
   ·rintro _ _ ⟨_, _, _, _, hE_2, _⟩
    rw [spec_DrawAssumedFilling.l0.eq_1] at hE_2; cases hE_2
   ·rintro n_1 _ _ ⟨x9, x13, w9, T9, hE_2, hl_w9, rfl, rfl⟩ ih_1
    rw [spec_DrawAssumedFilling.l0.eq_2] at hE_2
    refine Tri.seq ?_
    refine Tri.seq ?_
    refine Tri.reg (l := [0, 1, 2, 3]) rfl ?_
    refine F.q rfl rfl rfl (wanted_none rfl) (r_move rfl) ?_
    refine F.q rfl rfl rfl (wanted_none rfl) (r_move rfl) ?_
    refine F.q rfl rfl rfl (wanted_none rfl) (r_len Try.underlying25 rfl hl_v32_1) ?_
    refine F.q rfl rfl rfl (wanted_none rfl) (r_lss rfl rfl) ?_
    refine F.nil ?_
    refine Nrm.seq ?_
    refine Tri.cond (b := decide (x13 < (t32_1.length : Int))) rfl (fun g_2 => ?_) (fun g_2 => ?_)
    ·replace hE_2 := if_tt g_2 hE_2
     refine Tri.skip ?_
     refine Nrm.seq ?_
     refine Tri.seq ?_
     refine Tri.block ?_
     refine Tri.seq ?_
     obtain ⟨t41, h41, hE_2⟩ := bind_some hE_2
     obtain ⟨t46, h46, hE_2⟩ := bind_some hE_2
     refine Tri.reg (l := [0, 1, 2, 3, 4, 5, 6, 7]) rfl ?_
     refine F.q rfl rfl rfl (wanted_none rfl) (r_move rfl) ?_
     refine F.q rfl rfl rfl (wanted_none rfl) (r_move rfl) ?_
     refine F.q rfl rfl rfl (wanted_none rfl) (r_indexAddrS Try.underlying25 ti3 rfl hl_v32_1 rfl (rdl_some h41).1 (rdl_some h41).2.1) ?_
     refine F.q rfl rfl rfl (wanted_none rfl) (r_load ta3 rfl (fun w hw => cell_0 (Rd.flat ((rd_sl (i := 3) rfl) w hw) (rdl_some h41).2.2) rfl)) ?_
     refine F.q rfl rfl rfl (wanted_none rfl) (r_move rfl) ?_
     refine F.q rfl rfl rfl (wanted_none rfl) (r_len Try.underlying25 rfl hl_v28_1) ?_
     refine F.q rfl rfl rfl (wanted_none rfl) (r_sub rfl rfl) ?_
     refine F.qc rfl rfl rfl (wanted_none rfl) (q_callF (xs := _) rfl ok105 rfl rfl (fun w hw => spec_l1In.ok h46 w )) ?_
     refine F.nil ?_
     refine Nrm.seq ?_
     obtain ⟨y9, hE_3, hE_2⟩ := bind_some hE_2
     refine Tri.cut (fun e' C' => ∃ (v9_2 : Value) (S9_2 : Nat → Prop), SlLen v9_2 (y9).length ∧ e' = [(2, .pointer (some ⟨b2_1, 0, none⟩)), (6, .pointer (some ⟨b17_1, 0, none⟩)), (7, .pointer (some ⟨b7_1, 0, none⟩)), (8, .int .i64 t20_4), (9, v9_2), (10, v24_1), (11, v28_1), (12, v32_1), (13, .int .i64 x13)] ∧ C' = Sep w noM [R.box b17_1 100 [va0, .int .i64 t32_2, .int .u64 t32_3], R.box b7_1 27 [.int .i64 t20_1, v20_1, v20_2], R.box b2_1 27 [.int .i64 0, .slice none 0 0, .slice none 0 0], R.sl S9_2 v9_2 (y9 : List (Int)), R.sl S20_1 v20_1 (t20_2 : List (Int × Int × Int)), R.sl S20_2 v20_2 (t20_3 : List (Int)), R.sl S24_1 v24_1 (([] : List (Int)) : List (Int)), R.sl S28_1 v28_1 (t28 : List (Int)), R.sl S32_1 v32_1 (t32_1 : List (Int))]) ?_ (fun hj_2 => ?_)
     ·rintro _ _ ⟨v9_2, S9_2, hl_v9_2, rfl, rfl⟩
      refine Nrm.block ?_
      refine Nrm.seq ?_
      refine Tri.reg (l := [0, 1, 2]) rfl ?_
      refine F.q rfl rfl rfl (wanted_none rfl) (r_move rfl) ?_
      refine F.q rfl rfl rfl (wanted_none rfl) (r_add rfl rfl) ?_
      refine F.q rfl rfl rfl (wanted_none rfl) (r_assign rfl) ?_
      refine F.nil ?_
      refine Nrm.round ?_
      refine Rnd.only [2, 6, 7, 8, 9, 10, 11, 12, 13] rfl ?_
      refine Rnd.pick [0, 1, 2, 8, 7, 6, 3, 4, 5] rfl rfl ?_
      exact ih_1 _ _ ⟨y9, w64 (x13 + 1), v9_2, S9_2, hE_2, hl_v9_2, rfl, rfl⟩
     ·refine Tri.cond (b := t46) rfl (fun g_3 => ?_) (fun g_3 => ?_)
      ·replace hE_3 := if_tt g_3 hE_3
       obtain ⟨t51, h51, hE_3⟩ := bind_some hE_3
       obtain ⟨t53, h53, hE_3⟩ := bind_some hE_3
       obtain ⟨hs56, hE_3⟩ := ck hE_3
       refine Tri.reg (l := [0, 1, 2, 3, 4, 5, 6, 7, 8, 9, 10]) rfl ?_
       iterate 4 refine F.q rfl rfl rfl (wanted_none rfl) (r_move rfl) ?_
       refine F.q rfl rfl rfl (wanted_none rfl) (r_indexAddrS Try.underlying25 ti3 rfl hl_v32_1 rfl (rdl_some h51).1 (rdl_some h51).2.1) ?_
       refine F.q rfl rfl rfl (wanted_none rfl) (r_load ta3 rfl (fun w hw => cell_0 (Rd.flat ((rd_sl (i := 3) rfl) w hw) (rdl_some h51).2.2) rfl)) ?_
       refine F.q rfl rfl rfl (wanted_none rfl) (r_indexAddrS Try.underlying25 ti3 rfl hl_v28_1 rfl (rdl_some h53).1 (rdl_some h53).2.1) ?_
       refine F.q rfl rfl rfl (wanted_none rfl) (r_load ta3 rfl (fun w hw => cell_0 (Rd.flat ((rd_sl (i := 4) rfl) w hw) (rdl_some h53).2.2) rfl)) ?_
       refine F.m rfl rfl rfl (wanted_none rfl) (m_buildF (l := ([t53] : List (Int))) Try.underlying25 ti3 rfl rfl rfl rfl rfl) ?_
       rintro v55_1 _ ⟨S55_1, hl_v55_1, rfl⟩
       refine F.ef rfl rfl rfl (wanted_none rfl) (d_append (i := 7) Try.underlying25 Try.underlying25 ti3 rfl (by decide) rfl rfl rfl (rd_sl (i := 0) rfl) hs56) ?_
       rintro v56_1 _ ⟨S56_1, rfl, hl_v56_1⟩
       refine F.q rfl rfl rfl (wanted_none rfl) (r_assign rfl) ?_
       refine F.nil ?_
       cases hE_3
       refine Nrm.only [2, 6, 7, 8, 9, 10, 11, 12, 13] rfl ?_
       refine Nrm.pick [1, 2, 3, 7, 8, 9, 6, 5, 4] rfl rfl ?_
       exact hj_2 _ _ ⟨v56_1, S56_1, hl_v56_1, rfl, rfl⟩
      ·replace hE_3 := if_ff g_3 hE_3
       refine Tri.skip ?_
       cases hE_3
       refine Nrm.only [2, 6, 7, 8, 9, 10, 11, 12, 13] rfl ?_
       refine Nrm.pick [0, 1, 2, 6, 7, 8, 5, 4, 3] rfl rfl ?_
       exact hj_2 _ _ ⟨w9, T9, hl_w9, rfl, rfl⟩
    ·replace hE_2 := if_ff g_2 hE_2
     refine Tri.exit ?_
     refine Exi.then ?_
     refine Exi.then ?_
     refine Exi.same ?_
     cases hE_2
     cases hE_1
     refine Nrm.only [2, 6, 7, 8, 9, 10] rfl ?_
     refine Nrm.pick [0, 1, 2, 6, 7, 8, 5] rfl rfl ?_
     exact hj_1 _ _ ⟨w9, T9, hl_w9, rfl, rfl⟩
  ·replace hE_1 := if_ff g_1 hE_1
   refine Tri.skip ?_
   cases hE_1
   refine Nrm.only [2, 6, 7, 8, 9, 10] rfl ?_
   refine Nrm.pick [5, 2, 6, 1, 3, 4, 0] rfl rfl ?_
   exact hj_1 _ _ ⟨v23_1, S23_1, hl_v23_1, rfl, rfl⟩

end Go.Proofs

/- slices.Index[[]int,int] -/

namespace Go.Proofs
open Go Go.Ga
set_option linter.unusedVariables false
set_option maxRecDepth 100000
set_option maxHeartbeats 4000000
def slices_Index_int_int.l0 (k : Nat) (a0 : List Int) (a1 : Int) : Nat → Int → Option ((Unit) ⊕ (Int))
 | 0, _ => none
 | n + 1, x8 => (if (decide (x8 < (a0.length : Int))) = true then (rdl a0 x8).bind fun t14 => (if (a1 == t14) = true then some (Sum.inr x8) else slices_Index_int_int.l0 k a0 a1 n (w64 (x8 + 1))) else some (Sum.inl ()))

def slices_Index_int_int.f (k : Nat) (a0 : List Int) (a1 : Int) : Option (Int) := (slices_Index_int_int.l0 k a0 a1 k 0).bind fun s => Lr s some fun _ => some (-1)

theorem slices_Index_int_int.ok {k : Nat}  {a0 : List Int} {a1 : Int} {r0 : Int} (h : slices_Index_int_int.f k a0 a1 = some r0) (w : World) {va0 : Value} (hr_a0 : Rd w va0 a0) :
  Calls Try.prog 97 ([va0, .int .i64 a1] : List Value).toArray w (fun e w' => e = .returned (.int .i64 r0) ∧ Ext w w') := by
 unfold slices_Index_int_int.f at h
 have hl_va0 := hr_a0.len
 refine Calls.of_tri (N := 19) Try.func97 rfl rfl rfl (Sep.nil (M := noM)) ?_
 refine Tri.seq ?_
 refine Tri.reg (l := [0]) rfl ?_
 refine F.q rfl rfl rfl (wanted_none rfl) (r_assign rfl) ?_
 refine F.nil ?_
 refine Nrm.seq ?_
 refine Tri.seq ?_
 refine Tri.seq ?_
 refine Tri.reg (l := [0, 1, 2]) rfl ?_
 refine F.q rfl rfl rfl (wanted_none rfl) (r_move rfl) ?_
 refine F.q rfl rfl rfl (wanted_none rfl) (r_len Try.underlying25 rfl hl_va0) ?_
 refine F.q rfl rfl rfl (wanted_none rfl) (r_move rfl) ?_
 refine F.nil ?_
 refine Nrm.seq ?_
 obtain ⟨s0, hE_1, h⟩ := bind_some h
 refine Tri.block ?_
 refine Tri.only [0, 1, 7, 8] rfl ?_
 refine Tri.pick [] rfl rfl ?_
 refine Tri.rounds (fun n e' C' => ∃ (x8' : Int), slices_Index_int_int.l0 k a0 a1 n x8' = some s0 ∧ e' = [(0, va0), (1, .int .i64 a1), (7, .int .i64 (a0.length : Int)), (8, .int .i64 x8')] ∧ C' = Sep w noM []) k ?_ ?_ ?_
 ·exact ⟨0, hE_1, rfl, rfl⟩
 ·rintro _ _ ⟨_, hE_1, _⟩
  rw [slices_Index_int_int.l0.eq_1] at hE_1; cases hE_1
 ·rintro n_1 _ _ ⟨x8, hE_1, rfl, rfl⟩ ih_1
  rw [slices_Index_int_int.l0.eq_2] at hE_1
  refine Tri.seq ?_
  refine Tri.reg (l := [0]) rfl ?_
  refine F.q rfl rfl rfl (wanted_none rfl) (r_lss rfl rfl) ?_
  refine F.nil ?_
  refine Nrm.seq ?_
  refine Tri.seq ?_
  refine Tri.cond (b := decide (x8 < (a0.length : Int))) rfl (fun g_1 => ?_) (fun g_1 => ?_)
  ·replace hE_1 := if_tt g_1 hE_1
   refine Tri.skip ?_
   refine Nrm.seq ?_
   refine Tri.seq ?_
   refine Tri.block ?_
   refine Tri.seq ?_
   refine Tri.reg (l := [0, 1]) rfl ?_
   refine F.q rfl rfl rfl (wanted_none rfl) (r_move rfl) ?_
   refine F.q rfl rfl rfl (wanted_none rfl) (r_assign rfl) ?_
   refine F.nil ?_
   refine Nrm.seq ?_
   refine Tri.seq ?_
   obtain ⟨t14, h14, hE_1⟩ := bind_some hE_1
   refine Tri.reg (l := [0, 1, 2, 3, 4, 5]) rfl ?_
   iterate 3 refine F.q rfl rfl rfl (wanted_none rfl) (r_move rfl) ?_
   refine F.q rfl rfl rfl (wanted_none rfl) (r_indexAddrS Try.underlying25 ti3 rfl hl_va0 rfl (rdl_some h14).1 (rdl_some h14).2.1) ?_
   refine F.q rfl rfl rfl (wanted_none rfl) (r_load ta3 rfl (fun w hw => cell_0 (Rd.flat ((fun _ hw => hr_a0.sep hw) w hw) (rdl_some h14).2.2) rfl)) ?_
   refine F.q rfl rfl rfl (wanted_none rfl) (r_eql rfl rfl) ?_
   refine F.nil ?_
   refine Nrm.seq ?_
   refine Tri.cond (b := a1 == t14) rfl (fun g_2 => ?_) (fun g_2 => ?_)
   ·replace hE_1 := if_tt g_2 hE_1
    refine Tri.seq ?_
    refine Tri.reg (l := [0, 1]) rfl ?_
    refine F.q rfl rfl rfl (wanted_none rfl) (r_move rfl) ?_
    refine F.q rfl rfl rfl (wanted_none rfl) (r_assign rfl) ?_
    refine F.nil ?_
    refine Nrm.seq ?_
    refine Tri.ret ?_
    refine Rtn.block ?_
    refine Rtn.then ?_
    refine Rtn.then ?_
    refine Rtn.block ?_
    refine Rtn.then ?_
    cases hE_1
    replace h := Lr_inr h
    cases h
    exact Rtn.body (.tmp rfl .nil) (fun w hw => ⟨rfl, hw.ext⟩)
   ·replace hE_1 := if_ff g_2 hE_1
    refine Tri.skip ?_
    refine Nrm.block ?_
    refine Nrm.seq ?_
    refine Tri.reg (l := [0, 1]) rfl ?_
    refine F.q rfl rfl rfl (wanted_none rfl) (r_add rfl rfl) ?_
    refine F.q rfl rfl rfl (wanted_none rfl) (r_move rfl) ?_
    refine F.nil ?_
    refine Nrm.round ?_
    refine Rnd.only [0, 1, 7, 8] rfl ?_
    refine Rnd.pick [] rfl rfl ?_
    exact ih_1 _ _ ⟨w64 (x8 + 1), hE_1, rfl, rfl⟩
  ·replace hE_1 := if_ff g_1 hE_1
   refine Tri.exit ?_
   refine Exi.then ?_
   refine Exi.then ?_
   refine Exi.same ?_
   cases hE_1
   replace h := Lr_inl h
   refine Nrm.seq ?_
   refine Tri.seq ?_
   refine Tri.reg (l := [0]) rfl ?_
   refine F.q rfl rfl rfl (wanted_none rfl) (r_assign rfl) ?_
   refine F.nil ?_
   refine Nrm.seq ?_
   refine Tri.ret ?_
   cases h
   exact Rtn.body (.tmp rfl .nil) (fun w hw => ⟨rfl, hw.ext⟩)

end Go.Proofs

/- loop.example/g01158/impl.atLast -/
namespace Go.Proofs
open Go Go.Ga
set_option linter.unusedVariables false
set_option maxRecDepth 100000
set_option maxHeartbeats 4000000
def impl_atLast.f (k : Nat) (a0_0 : Int) (a0_1 : List (Int × Int × Int)) (a0_2 : List Int) (a1 : Int) : Option (Int × Int) := (impl_rounds.f k a0_0 a0_1 a0_2 a1).bind fun t8 => (rdl t8 (w64 ((t8.length : Int) - 1))).bind fun t13 => some (t13.1, t13.2)

theorem impl_atLast.ok {k : Nat}  {a0_0 : Int} {a0_1 : List (Int × Int × Int)} {a0_2 : List Int} {a1 : Int} {r0 : Int} {r1 : Int} (h : impl_atLast.f k a0_0 a0_1 a0_2 a1 = some (r0, r1)) (w : World) {va0_1 : Value} {va0_2 : Value} (hr_a0_1 : Rd w va0_1 a0_1) (hr_a0_2 : Rd w va0_2 a0_2) :
  Calls Try.prog 111 ([.agg ([.int .i64 a0_0, va0_1, va0_2].toArray), .int .i64 a1] : List Value).toArray w (fun e w' => e = .returned (.agg [.int .i64 r0, .int .i64 r1].toArray) ∧ Ext w w') := by
 unfold impl_atLast.f at h
 have hl_va0_1 := hr_a0_1.len
 have hl_va0_2 := hr_a0_2.len
 refine Calls.of_tri (N := 15) Try.func111 rfl rfl rfl (Sep.nil (M := noM)) ?_
 refine Tri.seq ?_
 refine Tri.reg (l := [0, 1]) rfl ?_
 refine F.m rfl rfl rfl (wanted_none rfl) (m_boxG rfl rfl) ?_
 rintro _ _ ⟨b2_1, rfl, rfl⟩
 refine F.m rfl rfl rfl (wanted_none rfl) (m_alloc ti117) ?_
 rintro _ _ ⟨b4_1, rfl, rfl⟩
 refine F.nil ?_
 refine Nrm.seq ?_
 refine Tri.seq ?_
 obtain ⟨t8, h8, h⟩ := bind_some h
 refine Tri.reg (l := [0, 1, 2, 3]) rfl ?_
 refine F.q rfl rfl rfl (wanted_none rfl) (r_loadA ta27 ti27 rfl rfl (fun w hw => (box_cells (i := 1) rfl w hw))) ?_
 refine F.q rfl rfl rfl (wanted_none rfl) (r_move rfl) ?_
 refine F.m rfl rfl rfl (wanted_none rfl) (m_callF (xs := _) rfl ok179 rfl rfl (fun w hw => impl_rounds.ok h8 w ((fun _ hw => hr_a0_1.sep hw) w hw) ((fun _ hw => hr_a0_2.sep hw) w hw))) ?_
 rintro v8_1 _ ⟨_, ⟨S8_1, hl_v8_1, rfl⟩, rfl⟩
 refine F.q rfl rfl rfl (wanted_none rfl) (r_assign rfl) ?_
 refine F.nil ?_
 refine Nrm.seq ?_
 refine Tri.seq ?_
 obtain ⟨t13, h13, h⟩ := bind_some h
 refine Tri.reg (l := [0, 1, 2, 3, 4, 5, 6]) rfl ?_
 refine F.q rfl rfl rfl (wanted_none rfl) (r_move rfl) ?_
 refine F.q rfl rfl rfl (wanted_none rfl) (r_move rfl) ?_
 refine F.q rfl rfl rfl (wanted_none rfl) (r_len Try.underlying170 rfl hl_v8_1) ?_
 refine F.q rfl rfl rfl (wanted_none rfl) (r_sub rfl rfl) ?_
 refine F.q rfl rfl rfl (wanted_none rfl) (r_indexAddrS Try.underlying170 ti117 rfl hl_v8_1 rfl (rdl_some h13).1 (rdl_some h13).2.1) ?_
 refine F.q rfl rfl rfl (wanted_none rfl) (r_loadA ta117 ti117 rfl rfl (fun w hw => (Rd.flat ((rd_sl (i := 0) rfl) w hw) (rdl_some h13).2.2))) ?_
 refine F.ef0 rfl rfl (wanted_none rfl) (d_storeG0 (i := 1) (cs2 := [.int .i64 t13.1, .int .i64 t13.2]) ti117 rfl rfl rfl rfl rfl (Nat.le_of_ble_eq_true rfl) (lf_cons rfl (lf_cons rfl lf_nil))) ?_
 rintro _ _ ⟨rfl, rfl⟩
 refine F.nil ?_
 refine Nrm.seq ?_
 refine Tri.ret ?_
 cases h
 exact Rtn.body (.cell rfl ta117 ti117 rfl (fun _ hw => box_cells (i := 1) rfl _ hw) .nil) (fun w hw => ⟨rfl, hw.ext⟩)

end Go.Proofs

/- Contracts of the library, laid at this seat. ddee84239a138eef -/
namespace Go.Proofs
open Go.Shelf
def Try.sortInt_ren : Go.Shelf.Ren := ⟨fun | 5 => 172 | 8 => 211 | 7 => 210 | 19 => 227 | 20 => 228 | 10 => 218 | 11 => 219 | 12 => 220 | 13 => 221 | 14 => 222 | 15 => 223 | 16 => 224 | 17 => 225 | 18 => 226 | 30 => 232 | 31 => 233 | 32 => 234 | 33 => 235 | 34 => 236 | 35 => 229 | 40 => 237 | n => n, fun | 23 => 25 | 25 => 3 | 3 => 3 | 32 => 172 | 22 => 25 | 0 => 0 | 44 => 201 | 46 => 98 | 4 => 4 | 36 => 196 | 35 => 195 | 41 => 30 | 5 => 5 | 9 => 9 | 53 => 207 | 57 => 211 | 63 => 213 | 64 => 214 | n => n, fun | n => n⟩
theorem Try.sortInt : Go.Proofs.SlLaysM.n5 Try.prog Try.sortInt_ren := {
 mixed := by kernel_rfl
 f5 := ⟨Try.f172.name, by decide, Try.func172.trans (congrArg some (by kernel_rfl))⟩
 f7 := ⟨Try.f210.name, by decide, Try.func210.trans (congrArg some (by kernel_rfl))⟩
 f8 := Try.func211.trans (congrArg some (by kernel_rfl))
 f10 := ⟨Try.f218.name, by decide, Try.func218.trans (congrArg some (by kernel_rfl))⟩
 f11 := ⟨Try.f219.name, by decide, Try.func219.trans (congrArg some (by kernel_rfl))⟩
 f12 := ⟨Try.f220.name, by decide, Try.func220.trans (congrArg some (by kernel_rfl))⟩
 f13 := ⟨Try.f221.name, by decide, Try.func221.trans (congrArg some (by kernel_rfl))⟩
 f14 := ⟨Try.f222.name, by decide, Try.func222.trans (congrArg some (by kernel_rfl))⟩
 f15 := ⟨Try.f223.name, by decide, Try.func223.trans (congrArg some (by kernel_rfl))⟩
 f16 := ⟨Try.f224.name, by decide, Try.func224.trans (congrArg some (by kernel_rfl))⟩
 f17 := ⟨Try.f225.name, by decide, Try.func225.trans (congrArg some (by kernel_rfl))⟩
 f18 := ⟨Try.f226.name, by decide, Try.func226.trans (congrArg some (by kernel_rfl))⟩
 f19 := Try.func227.trans (congrArg some (by kernel_rfl))
 f20 := Try.func228.trans (congrArg some (by kernel_rfl))
 f30 := ⟨Try.f232.name, by decide, Try.func232.trans (congrArg some (by kernel_rfl))⟩
 f31 := Try.func233.trans (congrArg some (by kernel_rfl))
 f32 := Try.func234.trans (congrArg some (by kernel_rfl))
 f33 := ⟨Try.f235.name, by decide, Try.func235.trans (congrArg some (by kernel_rfl))⟩
 f34 := ⟨Try.f236.name, by decide, Try.func236.trans (congrArg some (by kernel_rfl))⟩
 f35 := ⟨Try.f229.name, by decide, Try.func229.trans (congrArg some (by kernel_rfl))⟩
 f40 := ⟨Try.f237.name, by decide, Try.func237.trans (congrArg some (by kernel_rfl))⟩
 t0 := Try.underlying0
 a0 := Try.isAgg0
 z0 := Try.sizeOf0
 v0 := Try.zeroValue0
 t3 := Try.underlying3
 a3 := Try.isAgg3
 z3 := Try.sizeOf3
 v3 := Try.zeroValue3
 t4 := Try.underlying4
 a4 := Try.isAgg4
 z4 := Try.sizeOf4
 v4 := Try.zeroValue4
 t5 := Try.underlying5
 a5 := Try.isAgg5
 z5 := Try.sizeOf5
 v5 := Try.zeroValue5
 t9 := Try.underlying9
 a9 := Try.isAgg9
 z9 := Try.sizeOf9
 v9 := Try.zeroValue9
 t22 := Try.underlying25
 a22 := Try.isAgg25
 z22 := Try.sizeOf25
 v22 := Try.zeroValue25
 t23 := Try.underlying25
 a23 := Try.isAgg25
 z23 := Try.sizeOf25
 v23 := Try.zeroValue25
 t25 := Try.underlying3
 a25 := Try.isAgg3
 z25 := Try.sizeOf3
 v25 := Try.zeroValue3
 t32 := Try.underlying172
 a32 := Try.isAgg172
 z32 := Try.sizeOf172
 v32 := Try.zeroValue172
 t35 := Try.underlying195
 a35 := Try.isAgg195
 z35 := Try.sizeOf195
 v35 := Try.zeroValue195
 t36 := Try.underlying196
 a36 := Try.isAgg196
 z36 := Try.sizeOf196
 v36 := Try.zeroValue196
 t41 := Try.underlying30
 a41 := Try.isAgg30
 z41 := Try.sizeOf30
 v41 := Try.zeroValue30
 t44 := Try.underlying201
 a44 := Try.isAgg201
 z44 := Try.sizeOf201
 v44 := Try.zeroValue201
 t46 := Try.underlying98
 a46 := Try.isAgg98
 z46 := Try.sizeOf98
 v46 := Try.zeroValue98
 t53 := Try.underlying207
 a53 := Try.isAgg207
 z53 := Try.sizeOf207
 v53 := Try.zeroValue207
 t57 := Try.underlying211
 a57 := Try.isAgg211
 z57 := Try.sizeOf211
 v57 := Try.zeroValue211
 t63 := Try.underlying213
 a63 := Try.isAgg213
 z63 := Try.sizeOf213
 v63 := Try.zeroValue213
 t64 := Try.underlying214
 a64 := Try.isAgg214
 z64 := Try.sizeOf214
 v64 := Try.zeroValue214 }
end Go.Proofs

/- slices.Sort[[]int,int] -/

namespace Go.Proofs
open Go Go.Ga
set_option linter.unusedVariables false
set_option maxRecDepth 100000
set_option maxHeartbeats 4000000
def slices_Sort_int_int.f (k : Nat) (a0 : List Int) : Option (List Int) := if a0.length < 4611686018427387904 then some (a0.mergeSort fun x y => decide (x ≤ y)) else none

theorem slices_Sort_int_int.ok {k : Nat} {a0 : List Int} {r0 : List Int} (h : slices_Sort_int_int.f k a0 = some r0) (w : World) {va0 : Value} {Sa0 : Nat → Prop} (hl_va0 : SlLen va0 a0.length) (hw0 : Sep w (footM [R.sl Sa0 va0 a0]) [R.sl Sa0 va0 a0] w) :
  Calls Try.prog 172 ([va0] : List Value).toArray w (PostM (footM [R.sl Sa0 va0 a0]) (fun u ns => u = .tuple #[] ∧ SlLen va0 r0.length ∧ ns = [R.sl Sa0 va0 r0]) w) :=
 sortInt_ok (fun w => AnyM.slices_Sort_int_none Try.sortInt none 0 w) (fun blk off cap zs w h1 h2 h3 => AnyM.slices_Sort_int Try.sortInt blk off cap zs w h1 h2 h3) h w hl_va0 hw0

end Go.Proofs

/- A part of the proof of FnWorlds: what the functions of the program compute, walked on the model. No condition. -/
import Derived.Test.YtebbaacgalipaaaFnWorldsB
import Derived.Test.YtebbaacgalipaaaFnWorldsC
import Derived.Test.YtebbaacgalipaaaFnWorldsD
import Derived.Test.YtebbaacgalipaaaFnWorldsE
import Derived.Test.YtebbaacgalipaaaFnWorldsF
set_option linter.unusedSimpArgs false
/- loop.example/g01158/spec.RoundSets -/
namespace Go.Proofs
open Go Go.Ga
set_option linter.unusedVariables false
set_option maxRecDepth 100000
set_option maxHeartbeats 4000000
def spec_RoundSets.f (k : Nat) (a0_0 : List (Int × List (Int × Int × Int) × List Int)) (a0_1 : List (List Int)) : Option ((List (List Int)) × Bool) := (spec_l10Worlds.f k a0_0 a0_1).bind fun t5 => (if (!t5) = true then some (([] : List (List Int)), false) else (spec_l10Rounds.f k a0_0 a0_1 false).bind fun (t9_1, t9_2, t9_3) => some (t9_1, true))

theorem spec_RoundSets.ok {k : Nat}  {a0_0 : List (Int × List (Int × Int × Int) × List Int)} {a0_1 : List (List Int)} {r0 : List (List Int)} {r1 : Bool} (h : spec_RoundSets.f k a0_0 a0_1 = some (r0, r1)) (w : World) {va0_0 : Value} {va0_1 : Value} (hr_a0_0 : Rd w va0_0 a0_0) (hr_a0_1 : Rd w va0_1 a0_1) :
  Calls Try.prog 68 ([.agg ([va0_0, va0_1].toArray)] : List Value).toArray w (Post (fun u ns => ∃ (ur0 : Value) (Sr0 : Nat → Prop), u = .tuple #[ur0, .bool r1] ∧ SlLen ur0 r0.length ∧ ns = [R.sl Sr0 ur0 r0]) w) := by
 unfold spec_RoundSets.f at h
 have hl_va0_0 := hr_a0_0.len
 have hl_va0_1 := hr_a0_1.len
 refine Calls.of_tri (N := 11) Try.func68 rfl rfl rfl (Sep.nil (M := noM)) ?_
 refine Tri.seq (Tri.reg (l := [0, 1, 2]) rfl ?_)
 refine F.mn rfl (m_boxG rfl rfl) ?_
 rintro _ _ ⟨b1_1, rfl, rfl⟩
 refine F.qn rfl (r_assign rfl) (F.qn rfl (r_assign rfl) (F.nil (Nrm.seq (Tri.seq (Tri.seq ?_)))))
 obtain ⟨t5, h5, h⟩ := bind_some h
 refine Tri.reg (l := [0, 1, 2]) rfl ?_
 refine F.qn rfl (r_loadA ta85 ti85 rfl rfl (fun w hw => (box_cells (i := 0) rfl w hw))) ?_
 refine F.qcn rfl (q_callF (xs := _) rfl ok147 rfl rfl (fun w hw => spec_l10Worlds.ok h5 w ((fun _ hw => hr_a0_0.sep hw) w hw) ((fun _ hw => hr_a0_1.sep hw) w hw))) ?_
 refine F.qn rfl (r_not rfl) (F.nil (Nrm.seq (Tri.cond (b := !t5) rfl (fun g_1 => ?_) (fun g_1 => ?_))))
 ·replace h := if_tt g_1 h
  refine Tri.seq (Tri.reg (l := [0, 1, 2]) rfl ?_)
  refine F.mn rfl (m_build0 (α := List Int) Try.underlying83 ti25) ?_
  rintro v7_1 _ ⟨S7_1, hl_v7_1, rfl⟩
  refine F.qn rfl (r_assign rfl) (F.qn rfl (r_assign rfl) (F.nil (Nrm.seq (Tri.ret ?_))))
  refine Rtn.then ?_
  cases h
  exact Rtn.body (.tmp rfl (.tmp rfl .nil)) (fun w hw => ⟨_, _, rfl, ⟨v7_1, S7_1, rfl, hl_v7_1, rfl⟩, Sep.pick (is := [0]) rfl rfl hw⟩)
 ·replace h := if_ff g_1 h
  refine Tri.skip (Nrm.seq (Tri.seq ?_))
  obtain ⟨⟨t9_1, t9_2, t9_3⟩, h9, h⟩ := bind_some h
  refine Tri.reg (l := [0, 1, 2, 3, 4]) rfl ?_
  refine F.qn rfl (r_loadA ta85 ti85 rfl rfl (fun w hw => (box_cells (i := 0) rfl w hw))) ?_
  refine F.mn rfl (m_callF (xs := _) rfl ok148 rfl rfl (fun w hw => spec_l10Rounds.ok h9 w ((fun _ hw => hr_a0_0.sep hw) w hw) ((fun _ hw => hr_a0_1.sep hw) w hw))) ?_
  rintro _ _ ⟨_, ⟨v9_1, S9_1, v9_2, S9_2, v9_3, S9_3, rfl, hl_v9_1, hl_v9_2, hl_v9_3, rfl⟩, rfl⟩
  refine F.qn rfl (r_field Try.underlying148 rfl ta83 rfl rfl) (F.qn rfl (r_assign rfl) (F.qn rfl (r_assign rfl) (F.nil (Nrm.seq (Tri.ret ?_)))))
  cases h
  exact Rtn.body (.tmp rfl (.tmp rfl .nil)) (fun w hw => ⟨_, _, rfl, ⟨v9_1, S9_1, rfl, hl_v9_1, rfl⟩, Sep.pick (is := [0]) rfl rfl hw⟩)


def laws_rTable.l0 (k : Nat) (a0 : List (List Int)) (a1 : List (List Int)) : Nat → Int → Option ((Unit) ⊕ (Bool))
 | 0, _ => none
 | n + 1, x5 => (if (decide (x5 < (a0.length : Int))) = true then (rdl a0 x5).bind fun t19 => (rdl a1 x5).bind fun t23 => (laws_rInts.f k t19 t23).bind fun t25 => (if (!t25) = true then some (Sum.inr false) else laws_rTable.l0 k a0 a1 n (w64 (x5 + 1))) else some (Sum.inl ()))

def laws_rTable.f (k : Nat) (a0 : List (List Int)) (a1 : List (List Int)) : Option (Bool) := (if ((a0.length : Int) != (a1.length : Int)) = true then some false else (laws_rTable.l0 k a0 a1 k 0).bind fun s => Lr s some fun _ => some true)

theorem laws_rTable.ok {k : Nat}  {a0 : List (List Int)} {a1 : List (List Int)} {r0 : Bool} (h : laws_rTable.f k a0 a1 = some r0) (w : World) {va0 : Value} {va1 : Value} (hr_a0 : Rd w va0 a0) (hr_a1 : Rd w va1 a1) :
  Calls Try.prog 70 ([va0, va1] : List Value).toArray w (fun e w' => e = .returned (.bool r0) ∧ Ext w w') := by
 unfold laws_rTable.f at h
 have hl_va0 := hr_a0.len
 have hl_va1 := hr_a1.len
 refine Calls.of_tri (N := 27) Try.func70 rfl rfl rfl (Sep.nil (M := noM)) ?_
 refine Tri.seq (Tri.reg (l := [0]) rfl ?_)
 refine F.qn rfl (r_assign rfl) (F.nil (Nrm.seq (Tri.seq (Tri.seq (Tri.reg (l := [0, 1, 2, 3, 4]) rfl ?_)))))
 refine F.qn rfl (r_move rfl) (F.qn rfl (r_len Try.underlying83 rfl hl_va0) (F.qn rfl (r_move rfl) (F.qn rfl (r_len Try.underlying83 rfl hl_va1) (F.qn rfl (r_neq rfl rfl) (F.nil (Nrm.seq (Tri.cond (b := (a0.length : Int) != (a1.length : Int)) rfl (fun g_1 => ?_) (fun g_1 => ?_))))))))
 ·replace h := if_tt g_1 h
  refine Tri.seq (Tri.reg (l := [0]) rfl ?_)
  refine F.qn rfl (r_assign rfl) (F.nil (Nrm.seq (Tri.ret ?_)))
  refine Rtn.then ?_
  cases h
  exact Rtn.body (.tmp rfl .nil) (fun w hw => ⟨rfl, hw.ext⟩)
 ·replace h := if_ff g_1 h
  refine Tri.skip (Nrm.seq (Tri.seq (Tri.seq (Tri.reg (l := [0]) rfl ?_))))
  refine F.qn rfl (r_assign rfl) (F.nil (Nrm.seq ?_))
  obtain ⟨s0, hE_1, h⟩ := bind_some h
  refine Tri.block ?_
  refine Tri.only [0, 1, 5] rfl ?_
  refine Tri.pick [] rfl rfl ?_
  refine Tri.rounds (fun n e' C' => ∃ (x5' : Int), laws_rTable.l0 k a0 a1 n x5' = some s0 ∧ e' = [(0, va0), (1, va1), (5, .int .i64 x5')] ∧ C' = Sep w noM []) k ?_ ?_ ?_
  ·exact ⟨0, hE_1, rfl, rfl⟩
  ·rintro _ _ ⟨_, hE_1, _⟩
   rw [laws_rTable.l0.eq_1] at hE_1; cases hE_1
  ·rintro n_1 _ _ ⟨x5, hE_1, rfl, rfl⟩ ih_1
   rw [laws_rTable.l0.eq_2] at hE_1
   refine Tri.seq (Tri.seq (Tri.reg (l := [0, 1, 2, 3]) rfl ?_))
   refine F.qn rfl (r_move rfl) (F.qn rfl (r_move rfl) (F.qn rfl (r_len Try.underlying83 rfl hl_va0) (F.qn rfl (r_lss rfl rfl) (F.nil (Nrm.seq (Tri.cond (b := decide (x5 < (a0.length : Int))) rfl (fun g_2 => ?_) (fun g_2 => ?_)))))))
   ·replace hE_1 := if_tt g_2 hE_1
    refine Tri.skip (Nrm.seq (Tri.seq (Tri.block ?_)))
    refine Tri.seq ?_
    obtain ⟨t19, h19, hE_1⟩ := bind_some hE_1
    obtain ⟨_, hc19, hp19⟩ := Rd.elem hr_a0 (rdl_some h19).2.2
    obtain ⟨v19_0, rfl, hr_v19_0⟩ := op25 hp19
    have hl_v19_0 := hr_v19_0.len
    obtain ⟨t23, h23, hE_1⟩ := bind_some hE_1
    obtain ⟨_, hc23, hp23⟩ := Rd.elem hr_a1 (rdl_some h23).2.2
    obtain ⟨v23_0, rfl, hr_v23_0⟩ := op25 hp23
    have hl_v23_0 := hr_v23_0.len
    obtain ⟨t25, h25, hE_1⟩ := bind_some hE_1
    refine Tri.drawA mixedT Sep.up [(0, true), (1, true), (2, true), (3, true), (4, true), (5, true), (6, true), (7, true), (8, true), (9, true)] [] (by kernel_rfl) ?_
    refine S.qn rfl (r_move rfl) (S.qn rfl (r_move rfl) ?_)
    refine S.qn rfl (r_indexAddrS Try.underlying83 ti25 rfl hl_va0 rfl (rdl_some h19).1 (rdl_some h19).2.1) (S.qn rfl (r_load ta25 rfl (fun w hw => cell_0 (hc19.sep hw) rfl)) (S.qn rfl (r_move rfl) (S.qn rfl (r_move rfl) (S.qn rfl (r_indexAddrS Try.underlying83 ti25 rfl hl_va1 rfl (rdl_some h23).1 (rdl_some h23).2.1) (S.qn rfl (r_load ta25 rfl (fun w hw => cell_0 (hc23.sep hw) rfl)) ?_)))))
    refine S.qcn rfl (q_callF (xs := _) rfl ok51 rfl rfl (fun w hw => laws_rInts.ok h25 w ((fun _ hw => hr_v19_0.sep hw) w hw) ((fun _ hw => hr_v23_0.sep hw) w hw))) ?_
    refine S.qn rfl (r_not rfl) (S.nil (F.nil (Nrm.seq (Tri.cond (b := !t25) rfl (fun g_3 => ?_) (fun g_3 => ?_)))))
    ·replace hE_1 := if_tt g_3 hE_1
     refine Tri.seq (Tri.reg (l := [0]) rfl ?_)
     refine F.qn rfl (r_assign rfl) (F.nil (Nrm.seq (Tri.ret ?_)))
     refine Rtn.block ?_
     refine Rtn.then ?_
     refine Rtn.then ?_
     refine Rtn.block ?_
     refine Rtn.then ?_
     cases hE_1
     replace h := Lr_inr h
     cases h
     exact Rtn.body (.tmp rfl .nil) (fun w hw => ⟨rfl, hw.ext⟩)
    ·replace hE_1 := if_ff g_3 hE_1
     refine Tri.skip (Nrm.block ?_)
     refine Nrm.seq (Tri.reg (l := [0, 1, 2]) rfl ?_)
     refine F.qn rfl (r_move rfl) (F.qn rfl (r_add rfl rfl) (F.qn rfl (r_assign rfl) (F.nil (Nrm.round ?_))))
     refine Rnd.only [0, 1, 5] rfl ?_
     refine Rnd.pick [] rfl rfl ?_
     exact ih_1 _ _ ⟨w64 (x5 + 1), hE_1, rfl, rfl⟩
   ·replace hE_1 := if_ff g_2 hE_1
    refine Tri.exit ?_
    refine Exi.then ?_
    refine Exi.then ?_
    refine Exi.same ?_
    cases hE_1
    replace h := Lr_inl h
    refine Nrm.seq (Tri.seq (Tri.reg (l := [0]) rfl ?_))
    refine F.qn rfl (r_assign rfl) (F.nil (Nrm.seq (Tri.ret ?_)))
    cases h
    exact Rtn.body (.tmp rfl .nil) (fun w hw => ⟨rfl, hw.ext⟩)


def impl_played_won.l0 (k : Nat) (a0_1 : List (List Int)) : Nat → (List (Int)) → Int → Option ((List (Int)))
 | 0, _, _ => none
 | n + 1, x3, x10 => (if (decide (x10 < (a0_1.length : Int))) = true then (rdl a0_1 x10).bind fun t12 => (rdl t12 (w64 ((t12.length : Int) - 1))).bind fun t19 => if (x3 ++ ([t19] : List (Int))).length < 1099511627776 then impl_played_won.l0 k a0_1 n (x3 ++ ([t19] : List (Int))) (w64 (x10 + 1)) else none else some x3)

def impl_played_won.f (k : Nat) (a0_0 : List (List Int)) (a0_1 : List (List Int)) : Option ((List Int)) := (impl_played_won.l0 k a0_1 k ([] : List (Int)) 0).bind fun x3 => some x3

theorem impl_played_won.ok {k : Nat}  {a0_0 : List (List Int)} {a0_1 : List (List Int)} {r0 : List Int} (h : impl_played_won.f k a0_0 a0_1 = some r0) (w : World) {va0_0 : Value} {va0_1 : Value} (hr_a0_0 : Rd w va0_0 a0_0) (hr_a0_1 : Rd w va0_1 a0_1) :
  Calls Try.prog 152 ([.agg ([va0_0, va0_1].toArray)] : List Value).toArray w (Post (fun u ns => ∃ (Sr0 : Nat → Prop), SlLen u r0.length ∧ ns = [R.sl Sr0 u r0]) w) := by
 unfold impl_played_won.f at h
 have hl_va0_0 := hr_a0_0.len
 have hl_va0_1 := hr_a0_1.len
 refine Calls.of_tri (N := 25) Try.func152 rfl rfl rfl (Sep.nil (M := noM)) ?_
 refine Tri.seq (Tri.reg (l := [0, 1]) rfl ?_)
 refine F.mn rfl (m_boxG rfl rfl) ?_
 rintro _ _ ⟨b1_1, rfl, rfl⟩
 refine F.qn rfl (r_assign rfl) (F.nil (Nrm.seq (Tri.seq (Tri.reg (l := [0, 1]) rfl ?_))))
 refine F.mn rfl (m_build0 (α := Int) Try.underlying25 ti3) ?_
 rintro v6_1 _ ⟨S6_1, hl_v6_1, rfl⟩
 refine F.qn rfl (r_assign rfl) (F.nil (Nrm.seq (Tri.seq (Tri.seq (Tri.reg (l := [0, 1, 2, 3]) rfl ?_)))))
 refine F.qn rfl (r_fieldAddr tf145_1 rfl) (F.qn rfl (r_load ta83 rfl (fun w hw => cell_1 (box_cells (i := 1) rfl w hw) rfl)) (F.qn rfl (r_len Try.underlying83 rfl hl_va0_1) (F.qn rfl (r_move rfl) (F.nil (Nrm.seq ?_)))))
 obtain ⟨x3, hE_1, h⟩ := bind_some h
 refine Tri.block ?_
 refine Tri.only [3, 8, 9, 10] rfl ?_
 refine Tri.pick [0] rfl rfl ?_
 refine Tri.rounds (fun n e' C' => ∃ (x3' : List (Int)) (x10' : Int) (w3 : Value) (T3 : Nat → Prop), impl_played_won.l0 k a0_1 n x3' x10' = some x3 ∧ SlLen w3 (x3').length ∧ e' = [(3, w3), (8, va0_1), (9, .int .i64 (a0_1.length : Int)), (10, .int .i64 x10')] ∧ C' = Sep w noM [R.sl T3 w3 (x3' : List (Int))]) k ?_ ?_ ?_
 ·exact ⟨([] : List (Int)), 0, v6_1, S6_1, hE_1, hl_v6_1, rfl, rfl⟩
 ·rintro _ _ ⟨_, _, _, _, hE_1, _⟩
  rw [impl_played_won.l0.eq_1] at hE_1; cases hE_1
 ·rintro n_1 _ _ ⟨x3, x10, w3, T3, hE_1, hl_w3, rfl, rfl⟩ ih_1
  rw [impl_played_won.l0.eq_2] at hE_1
  refine Tri.seq (Tri.reg (l := [0]) rfl ?_)
  refine F.qn rfl (r_lss rfl rfl) (F.nil (Nrm.seq (Tri.seq (Tri.cond (b := decide (x10 < (a0_1.length : Int))) rfl (fun g_1 => ?_) (fun g_1 => ?_)))))
  ·replace hE_1 := if_tt g_1 hE_1
   refine Tri.skip (Nrm.seq (Tri.seq (Tri.block ?_)))
   refine Tri.seq ?_
   obtain ⟨t12, h12, hE_1⟩ := bind_some hE_1
   obtain ⟨_, hc12, hp12⟩ := Rd.elem hr_a0_1 (rdl_some h12).2.2
   obtain ⟨v12_0, rfl, hr_v12_0⟩ := op25 hp12
   have hl_v12_0 := hr_v12_0.len
   refine Tri.reg (l := [0, 1, 2]) rfl ?_
   refine F.qn rfl (r_indexAddrS Try.underlying83 ti25 rfl hl_va0_1 rfl (rdl_some h12).1 (rdl_some h12).2.1) (F.qn rfl (r_load ta25 rfl (fun w hw => cell_0 (hc12.sep hw) rfl)) (F.qn rfl (r_assign rfl) (F.nil (Nrm.seq ?_))))
   obtain ⟨t19, h19, hE_1⟩ := bind_some hE_1
   obtain ⟨hs22, hE_1⟩ := ck hE_1
   refine Tri.reg (l := [0, 1, 2, 3, 4, 5, 6, 7, 8, 9]) rfl ?_
   iterate 3 refine F.qn rfl (r_move rfl) ?_
   refine F.qn rfl (r_len Try.underlying25 rfl hl_v12_0) (F.qn rfl (r_sub rfl rfl) (F.qn rfl (r_indexAddrS Try.underlying25 ti3 rfl hl_v12_0 rfl (rdl_some h19).1 (rdl_some h19).2.1) (F.qn rfl (r_load ta3 rfl (fun w hw => cell_0 (Rd.flat ((fun _ hw => hr_v12_0.sep hw) w hw) (rdl_some h19).2.2) rfl)) ?_)))
   refine F.mn rfl (m_buildF (l := ([t19] : List (Int))) Try.underlying25 ti3 rfl rfl rfl rfl rfl) ?_
   rintro v21_1 _ ⟨S21_1, hl_v21_1, rfl⟩
   refine F.efn rfl (d_append (i := 1) Try.underlying25 Try.underlying25 ti3 rfl (by decide) rfl rfl rfl (rd_sl (i := 0) rfl) hs22) ?_
   rintro v22_1 _ ⟨S22_1, rfl, hl_v22_1⟩
   refine F.qn rfl (r_assign rfl) (F.nil (Nrm.block ?_))
   refine Nrm.seq (Tri.reg (l := [0, 1]) rfl ?_)
   refine F.qn rfl (r_add rfl rfl) (F.qn rfl (r_move rfl) (F.nil (Nrm.round ?_)))
   refine Rnd.only [3, 8, 9, 10] rfl ?_
   refine Rnd.pick [1] rfl rfl ?_
   exact ih_1 _ _ ⟨x3 ++ ([t19] : List (Int)), w64 (x10 + 1), v22_1, S22_1, hE_1, hl_v22_1, rfl, rfl⟩
  ·replace hE_1 := if_ff g_1 hE_1
   refine Tri.exit ?_
   refine Exi.then ?_
   refine Exi.then ?_
   refine Exi.same ?_
   cases hE_1
   refine Nrm.seq (Tri.seq (Tri.reg (l := [0, 1]) rfl ?_))
   refine F.qn rfl (r_move rfl) (F.qn rfl (r_assign rfl) (F.nil (Nrm.seq (Tri.ret ?_))))
   cases h
   exact Rtn.body (.tmp rfl .nil) (fun w hw => ⟨_, _, rfl, ⟨T3, hl_w3, rfl⟩, Sep.pick (is := [0]) rfl rfl hw⟩)


def impl_WonRounds.f (k : Nat) (a0_0 : List (Int × List (Int × Int × Int) × List Int)) (a0_1 : List (List Int)) : Option ((List Int) × Bool) := (impl_IsWorlds.f k a0_0 a0_1).bind fun t5 => (if (!t5) = true then some ([], false) else (impl_play.f k a0_0 a0_1 false).bind fun (t8_1, t8_2) => (impl_played_won.f k t8_1 t8_2).bind fun t9 => some (t9, true))

theorem impl_WonRounds.ok {k : Nat}  {a0_0 : List (Int × List (Int × Int × Int) × List Int)} {a0_1 : List (List Int)} {r0 : List Int} {r1 : Bool} (h : impl_WonRounds.f k a0_0 a0_1 = some (r0, r1)) (w : World) {va0_0 : Value} {va0_1 : Value} (hr_a0_0 : Rd w va0_0 a0_0) (hr_a0_1 : Rd w va0_1 a0_1) :
  Calls Try.prog 71 ([.agg ([va0_0, va0_1].toArray)] : List Value).toArray w (Post (fun u ns => ∃ (ur0 : Value) (Sr0 : Nat → Prop), u = .tuple #[ur0, .bool r1] ∧ SlLen ur0 r0.length ∧ ns = [R.sl Sr0 ur0 r0]) w) := by
 unfold impl_WonRounds.f at h
 have hl_va0_0 := hr_a0_0.len
 have hl_va0_1 := hr_a0_1.len
 refine Calls.of_tri (N := 10) Try.func71 rfl rfl rfl (Sep.nil (M := noM)) ?_
 refine Tri.seq (Tri.reg (l := [0, 1, 2]) rfl ?_)
 refine F.mn rfl (m_boxG rfl rfl) ?_
 rintro _ _ ⟨b1_1, rfl, rfl⟩
 refine F.qn rfl (r_assign rfl) (F.qn rfl (r_assign rfl) (F.nil (Nrm.seq (Tri.seq (Tri.seq ?_)))))
 obtain ⟨t5, h5, h⟩ := bind_some h
 refine Tri.reg (l := [0, 1, 2]) rfl ?_
 refine F.qn rfl (r_loadA ta85 ti85 rfl rfl (fun w hw => (box_cells (i := 0) rfl w hw))) ?_
 refine F.qcn rfl (q_callF (xs := _) rfl ok69 rfl rfl (fun w hw => impl_IsWorlds.ok h5 w ((fun _ hw => hr_a0_0.sep hw) w hw) ((fun _ hw => hr_a0_1.sep hw) w hw))) ?_
 refine F.qn rfl (r_not rfl) (F.nil (Nrm.seq (Tri.cond (b := !t5) rfl (fun g_1 => ?_) (fun g_1 => ?_))))
 ·replace h := if_tt g_1 h
  refine Tri.seq (Tri.reg (l := [0, 1]) rfl ?_)
  refine F.qn rfl (r_assign rfl) (F.qn rfl (r_assign rfl) (F.nil (Nrm.seq (Tri.ret ?_))))
  refine Rtn.then ?_
  cases h
  exact Rtn.body (.tmp rfl (.tmp rfl .nil)) (fun w hw => ⟨_, _, rfl, ⟨.slice none 0 0, fun _ => False, rfl, len_nil, rfl⟩, Sep.pick (is := [0]) rfl rfl hw.pushNil⟩)
 ·replace h := if_ff g_1 h
  refine Tri.skip (Nrm.seq (Tri.seq ?_))
  obtain ⟨⟨t8_1, t8_2⟩, h8, h⟩ := bind_some h
  obtain ⟨t9, h9, h⟩ := bind_some h
  refine Tri.reg (l := [0, 1, 2, 3, 4]) rfl ?_
  refine F.qn rfl (r_loadA ta85 ti85 rfl rfl (fun w hw => (box_cells (i := 0) rfl w hw))) ?_
  refine F.mn rfl (m_callF (xs := _) rfl ok146 rfl rfl (fun w hw => impl_play.ok h8 w ((fun _ hw => hr_a0_0.sep hw) w hw) ((fun _ hw => hr_a0_1.sep hw) w hw))) ?_
  rintro _ _ ⟨_, ⟨v8_1, S8_1, v8_2, S8_2, rfl, hl_v8_1, hl_v8_2, rfl⟩, rfl⟩
  refine F.mn rfl (m_callF (xs := _) rfl ok152 rfl rfl (fun w hw => impl_played_won.ok h9 w ((rd_sl (i := 0) rfl) w hw) ((rd_sl (i := 1) rfl) w hw))) ?_
  rintro v9_1 _ ⟨_, ⟨S9_1, hl_v9_1, rfl⟩, rfl⟩
  refine F.qn rfl (r_assign rfl) (F.qn rfl (r_assign rfl) (F.nil (Nrm.seq (Tri.ret ?_))))
  cases h
  exact Rtn.body (.tmp rfl (.tmp rfl .nil)) (fun w hw => ⟨_, _, rfl, ⟨v9_1, S9_1, rfl, hl_v9_1, rfl⟩, Sep.pick (is := [0]) rfl rfl hw⟩)


def spec_WonRounds.f (k : Nat) (a0_0 : List (Int × List (Int × Int × Int) × List Int)) (a0_1 : List (List Int)) : Option ((List Int) × Bool) := (spec_l10Worlds.f k a0_0 a0_1).bind fun t5 => (if (!t5) = true then some (([] : List (Int)), false) else (spec_l10Rounds.f k a0_0 a0_1 false).bind fun (t9_1, t9_2, t9_3) => some (t9_2, true))

theorem spec_WonRounds.ok {k : Nat}  {a0_0 : List (Int × List (Int × Int × Int) × List Int)} {a0_1 : List (List Int)} {r0 : List Int} {r1 : Bool} (h : spec_WonRounds.f k a0_0 a0_1 = some (r0, r1)) (w : World) {va0_0 : Value} {va0_1 : Value} (hr_a0_0 : Rd w va0_0 a0_0) (hr_a0_1 : Rd w va0_1 a0_1) :
  Calls Try.prog 72 ([.agg ([va0_0, va0_1].toArray)] : List Value).toArray w (Post (fun u ns => ∃ (ur0 : Value) (Sr0 : Nat → Prop), u = .tuple #[ur0, .bool r1] ∧ SlLen ur0 r0.length ∧ ns = [R.sl Sr0 ur0 r0]) w) := by
 unfold spec_WonRounds.f at h
 have hl_va0_0 := hr_a0_0.len
 have hl_va0_1 := hr_a0_1.len
 refine Calls.of_tri (N := 11) Try.func72 rfl rfl rfl (Sep.nil (M := noM)) ?_
 refine Tri.seq (Tri.reg (l := [0, 1, 2]) rfl ?_)
 refine F.mn rfl (m_boxG rfl rfl) ?_
 rintro _ _ ⟨b1_1, rfl, rfl⟩
 refine F.qn rfl (r_assign rfl) (F.qn rfl (r_assign rfl) (F.nil (Nrm.seq (Tri.seq (Tri.seq ?_)))))
 obtain ⟨t5, h5, h⟩ := bind_some h
 refine Tri.reg (l := [0, 1, 2]) rfl ?_
 refine F.qn rfl (r_loadA ta85 ti85 rfl rfl (fun w hw => (box_cells (i := 0) rfl w hw))) ?_
 refine F.qcn rfl (q_callF (xs := _) rfl ok147 rfl rfl (fun w hw => spec_l10Worlds.ok h5 w ((fun _ hw => hr_a0_0.sep hw) w hw) ((fun _ hw => hr_a0_1.sep hw) w hw))) ?_
 refine F.qn rfl (r_not rfl) (F.nil (Nrm.seq (Tri.cond (b := !t5) rfl (fun g_1 => ?_) (fun g_1 => ?_))))
 ·replace h := if_tt g_1 h
  refine Tri.seq (Tri.reg (l := [0, 1, 2]) rfl ?_)
  refine F.mn rfl (m_build0 (α := Int) Try.underlying25 ti3) ?_
  rintro v7_1 _ ⟨S7_1, hl_v7_1, rfl⟩
  refine F.qn rfl (r_assign rfl) (F.qn rfl (r_assign rfl) (F.nil (Nrm.seq (Tri.ret ?_))))
  refine Rtn.then ?_
  cases h
  exact Rtn.body (.tmp rfl (.tmp rfl .nil)) (fun w hw => ⟨_, _, rfl, ⟨v7_1, S7_1, rfl, hl_v7_1, rfl⟩, Sep.pick (is := [0]) rfl rfl hw⟩)
 ·replace h := if_ff g_1 h
  refine Tri.skip (Nrm.seq (Tri.seq ?_))
  obtain ⟨⟨t9_1, t9_2, t9_3⟩, h9, h⟩ := bind_some h
  refine Tri.reg (l := [0, 1, 2, 3, 4]) rfl ?_
  refine F.qn rfl (r_loadA ta85 ti85 rfl rfl (fun w hw => (box_cells (i := 0) rfl w hw))) ?_
  refine F.mn rfl (m_callF (xs := _) rfl ok148 rfl rfl (fun w hw => spec_l10Rounds.ok h9 w ((fun _ hw => hr_a0_0.sep hw) w hw) ((fun _ hw => hr_a0_1.sep hw) w hw))) ?_
  rintro _ _ ⟨_, ⟨v9_1, S9_1, v9_2, S9_2, v9_3, S9_3, rfl, hl_v9_1, hl_v9_2, hl_v9_3, rfl⟩, rfl⟩
  refine F.qn rfl (r_field Try.underlying148 rfl ta25 rfl rfl) (F.qn rfl (r_assign rfl) (F.qn rfl (r_assign rfl) (F.nil (Nrm.seq (Tri.ret ?_)))))
  cases h
  exact Rtn.body (.tmp rfl (.tmp rfl .nil)) (fun w hw => ⟨_, _, rfl, ⟨v9_2, S9_2, rfl, hl_v9_2, rfl⟩, Sep.pick (is := [1]) rfl rfl hw⟩)


def slices_Index_int_int.l0 (k : Nat) (a0 : List Int) (a1 : Int) : Nat → Int → Option ((Unit) ⊕ (Int))
 | 0, _ => none
 | n + 1, x8 => (if (decide (x8 < (a0.length : Int))) = true then (rdl a0 x8).bind fun t14 => (if (a1 == t14) = true then some (Sum.inr x8) else slices_Index_int_int.l0 k a0 a1 n (w64 (x8 + 1))) else some (Sum.inl ()))

def slices_Index_int_int.f (k : Nat) (a0 : List Int) (a1 : Int) : Option (Int) := (slices_Index_int_int.l0 k a0 a1 k 0).bind fun s => Lr s some fun _ => some (-1)

theorem slices_Index_int_int.ok {k : Nat}  {a0 : List Int} {a1 : Int} {r0 : Int} (h : slices_Index_int_int.f k a0 a1 = some r0) (w : World) {va0 : Value} (hr_a0 : Rd w va0 a0) :
  Calls Try.prog 97 ([va0, .int .i64 a1] : List Value).toArray w (fun e w' => e = .returned (.int .i64 r0) ∧ Ext w w') := by
 unfold slices_Index_int_int.f at h
 have hl_va0 := hr_a0.len
 refine Calls.of_tri (N := 19) Try.func97 rfl rfl rfl (Sep.nil (M := noM)) ?_
 refine Tri.seq (Tri.reg (l := [0]) rfl ?_)
 refine F.qn rfl (r_assign rfl) (F.nil (Nrm.seq (Tri.seq (Tri.seq (Tri.reg (l := [0, 1, 2]) rfl ?_)))))
 refine F.qn rfl (r_move rfl) (F.qn rfl (r_len Try.underlying25 rfl hl_va0) (F.qn rfl (r_move rfl) (F.nil (Nrm.seq ?_))))
 obtain ⟨s0, hE_1, h⟩ := bind_some h
 refine Tri.block ?_
 refine Tri.only [0, 1, 7, 8] rfl ?_
 refine Tri.pick [] rfl rfl ?_
 refine Tri.rounds (fun n e' C' => ∃ (x8' : Int), slices_Index_int_int.l0 k a0 a1 n x8' = some s0 ∧ e' = [(0, va0), (1, .int .i64 a1), (7, .int .i64 (a0.length : Int)), (8, .int .i64 x8')] ∧ C' = Sep w noM []) k ?_ ?_ ?_
 ·exact ⟨0, hE_1, rfl, rfl⟩
 ·rintro _ _ ⟨_, hE_1, _⟩
  rw [slices_Index_int_int.l0.eq_1] at hE_1; cases hE_1
 ·rintro n_1 _ _ ⟨x8, hE_1, rfl, rfl⟩ ih_1
  rw [slices_Index_int_int.l0.eq_2] at hE_1
  refine Tri.seq (Tri.reg (l := [0]) rfl ?_)
  refine F.qn rfl (r_lss rfl rfl) (F.nil (Nrm.seq (Tri.seq (Tri.cond (b := decide (x8 < (a0.length : Int))) rfl (fun g_1 => ?_) (fun g_1 => ?_)))))
  ·replace hE_1 := if_tt g_1 hE_1
   refine Tri.skip (Nrm.seq (Tri.seq (Tri.block ?_)))
   refine Tri.seq (Tri.reg (l := [0, 1]) rfl ?_)
   refine F.qn rfl (r_move rfl) (F.qn rfl (r_assign rfl) (F.nil (Nrm.seq (Tri.seq ?_))))
   obtain ⟨t14, h14, hE_1⟩ := bind_some hE_1
   refine Tri.reg (l := [0, 1, 2, 3, 4, 5]) rfl ?_
   iterate 3 refine F.qn rfl (r_move rfl) ?_
   refine F.qn rfl (r_indexAddrS Try.underlying25 ti3 rfl hl_va0 rfl (rdl_some h14).1 (rdl_some h14).2.1) (F.qn rfl (r_load ta3 rfl (fun w hw => cell_0 (Rd.flat ((fun _ hw => hr_a0.sep hw) w hw) (rdl_some h14).2.2) rfl)) (F.qn rfl (r_eql rfl rfl) (F.nil (Nrm.seq (Tri.cond (b := a1 == t14) rfl (fun g_2 => ?_) (fun g_2 => ?_))))))
   ·replace hE_1 := if_tt g_2 hE_1
    refine Tri.seq (Tri.reg (l := [0, 1]) rfl ?_)
    refine F.qn rfl (r_move rfl) (F.qn rfl (r_assign rfl) (F.nil (Nrm.seq (Tri.ret ?_))))
    refine Rtn.block ?_
    refine Rtn.then ?_
    refine Rtn.then ?_
    refine Rtn.block ?_
    refine Rtn.then ?_
    cases hE_1
    replace h := Lr_inr h
    cases h
    exact Rtn.body (.tmp rfl .nil) (fun w hw => ⟨rfl, hw.ext⟩)
   ·replace hE_1 := if_ff g_2 hE_1
    refine Tri.skip (Nrm.block ?_)
    refine Nrm.seq (Tri.reg (l := [0, 1]) rfl ?_)
    refine F.qn rfl (r_add rfl rfl) (F.qn rfl (r_move rfl) (F.nil (Nrm.round ?_)))
    refine Rnd.only [0, 1, 7, 8] rfl ?_
    refine Rnd.pick [] rfl rfl ?_
    exact ih_1 _ _ ⟨w64 (x8 + 1), hE_1, rfl, rfl⟩
  ·replace hE_1 := if_ff g_1 hE_1
   refine Tri.exit ?_
   refine Exi.then ?_
   refine Exi.then ?_
   refine Exi.same ?_
   cases hE_1
   replace h := Lr_inl h
   refine Nrm.seq (Tri.seq (Tri.reg (l := [0]) rfl ?_))
   refine F.qn rfl (r_assign rfl) (F.nil (Nrm.seq (Tri.ret ?_)))
   cases h
   exact Rtn.body (.tmp rfl .nil) (fun w hw => ⟨rfl, hw.ext⟩)


def slices_Contains_int_int.f (k : Nat) (a0 : List Int) (a1 : Int) : Option (Bool) := (slices_Index_int_int.f k a0 a1).bind fun t7 => some (decide (t7 ≥ 0))

theorem slices_Contains_int_int.ok {k : Nat}  {a0 : List Int} {a1 : Int} {r0 : Bool} (h : slices_Contains_int_int.f k a0 a1 = some r0) (w : World) {va0 : Value} (hr_a0 : Rd w va0 a0) :
  Calls Try.prog 153 ([va0, .int .i64 a1] : List Value).toArray w (fun e w' => e = .returned (.bool r0) ∧ Ext w w') := by
 unfold slices_Contains_int_int.f at h
 have hl_va0 := hr_a0.len
 refine Calls.of_tri (N := 9) Try.func153 rfl rfl rfl (Sep.nil (M := noM)) ?_
 refine Tri.seq (Tri.reg (l := [0]) rfl ?_)
 refine F.qn rfl (r_assign rfl) (F.nil (Nrm.seq (Tri.seq ?_)))
 obtain ⟨t7, h7, h⟩ := bind_some h
 refine Tri.reg (l := [0, 1, 2, 3, 4]) rfl ?_
 refine F.qn rfl (r_move rfl) (F.qn rfl (r_move rfl) ?_)
 refine F.qcn rfl (q_callF (xs := _) rfl ok97 rfl rfl (fun w hw => slices_Index_int_int.ok h7 w ((fun _ hw => hr_a0.sep hw) w hw))) ?_
 refine F.qn rfl (r_geq rfl rfl) (F.qn rfl (r_assign rfl) (F.nil (Nrm.seq (Tri.ret ?_))))
 cases h
 exact Rtn.body (.tmp rfl .nil) (fun w hw => ⟨rfl, hw.ext⟩)


def impl_AllWon.f (k : Nat) (a0_0 : List (Int × List (Int × Int × Int) × List Int)) (a0_1 : List (List Int)) : Option (Bool × Bool) := (impl_IsWorlds.f k a0_0 a0_1).bind fun t5 => (if (!t5) = true then some (false, false) else (impl_play.f k a0_0 a0_1 false).bind fun (t8_1, t8_2) => (impl_played_won.f k t8_1 t8_2).bind fun t9 => (slices_Contains_int_int.f k t9 (-1)).bind fun t10 => some (!t10, true))

theorem impl_AllWon.ok {k : Nat}  {a0_0 : List (Int × List (Int × Int × Int) × List Int)} {a0_1 : List (List Int)} {r0 : Bool} {r1 : Bool} (h : impl_AllWon.f k a0_0 a0_1 = some (r0, r1)) (w : World) {va0_0 : Value} {va0_1 : Value} (hr_a0_0 : Rd w va0_0 a0_0) (hr_a0_1 : Rd w va0_1 a0_1) :
  Calls Try.prog 73 ([.agg ([va0_0, va0_1].toArray)] : List Value).toArray w (fun e w' => e = .returned (.tuple #[.bool r0, .bool r1]) ∧ Ext w w') := by
 unfold impl_AllWon.f at h
 have hl_va0_0 := hr_a0_0.len
 have hl_va0_1 := hr_a0_1.len
 refine Calls.of_tri (N := 12) Try.func73 rfl rfl rfl (Sep.nil (M := noM)) ?_
 refine Tri.seq (Tri.reg (l := [0, 1, 2]) rfl ?_)
 refine F.mn rfl (m_boxG rfl rfl) ?_
 rintro _ _ ⟨b1_1, rfl, rfl⟩
 refine F.qn rfl (r_assign rfl) (F.qn rfl (r_assign rfl) (F.nil (Nrm.seq (Tri.seq (Tri.seq ?_)))))
 obtain ⟨t5, h5, h⟩ := bind_some h
 refine Tri.reg (l := [0, 1, 2]) rfl ?_
 refine F.qn rfl (r_loadA ta85 ti85 rfl rfl (fun w hw => (box_cells (i := 0) rfl w hw))) ?_
 refine F.qcn rfl (q_callF (xs := _) rfl ok69 rfl rfl (fun w hw => impl_IsWorlds.ok h5 w ((fun _ hw => hr_a0_0.sep hw) w hw) ((fun _ hw => hr_a0_1.sep hw) w hw))) ?_
 refine F.qn rfl (r_not rfl) (F.nil (Nrm.seq (Tri.cond (b := !t5) rfl (fun g_1 => ?_) (fun g_1 => ?_))))
 ·replace h := if_tt g_1 h
  refine Tri.seq (Tri.reg (l := [0, 1]) rfl ?_)
  refine F.qn rfl (r_assign rfl) (F.qn rfl (r_assign rfl) (F.nil (Nrm.seq (Tri.ret ?_))))
  refine Rtn.then ?_
  cases h
  exact Rtn.body (.tmp rfl (.tmp rfl .nil)) (fun w hw => ⟨rfl, hw.ext⟩)
 ·replace h := if_ff g_1 h
  refine Tri.skip (Nrm.seq (Tri.seq ?_))
  obtain ⟨⟨t8_1, t8_2⟩, h8, h⟩ := bind_some h
  obtain ⟨t9, h9, h⟩ := bind_some h
  obtain ⟨t10, h10, h⟩ := bind_some h
  refine Tri.reg (l := [0, 1, 2, 3, 4, 5, 6]) rfl ?_
  refine F.qn rfl (r_loadA ta85 ti85 rfl rfl (fun w hw => (box_cells (i := 0) rfl w hw))) ?_
  refine F.mn rfl (m_callF (xs := _) rfl ok146 rfl rfl (fun w hw => impl_play.ok h8 w ((fun _ hw => hr_a0_0.sep hw) w hw) ((fun _ hw => hr_a0_1.sep hw) w hw))) ?_
  rintro _ _ ⟨_, ⟨v8_1, S8_1, v8_2, S8_2, rfl, hl_v8_1, hl_v8_2, rfl⟩, rfl⟩
  refine F.mn rfl (m_callF (xs := _) rfl ok152 rfl rfl (fun w hw => impl_played_won.ok h9 w ((rd_sl (i := 0) rfl) w hw) ((rd_sl (i := 1) rfl) w hw))) ?_
  rintro v9_1 _ ⟨_, ⟨S9_1, hl_v9_1, rfl⟩, rfl⟩
  refine F.qcn rfl (q_callF (xs := _) rfl ok153 rfl rfl (fun w hw => slices_Contains_int_int.ok h10 w ((rd_sl (i := 0) rfl) w hw))) ?_
  refine F.qn rfl (r_not rfl) (F.qn rfl (r_assign rfl) (F.qn rfl (r_assign rfl) (F.nil (Nrm.seq (Tri.ret ?_)))))
  cases h
  exact Rtn.body (.tmp rfl (.tmp rfl .nil)) (fun w hw => ⟨rfl, hw.ext⟩)


def spec_AllWon.f (k : Nat) (a0_0 : List (Int × List (Int × Int × Int) × List Int)) (a0_1 : List (List Int)) : Option (Bool × Bool) := (spec_l10Worlds.f k a0_0 a0_1).bind fun t5 => (if (!t5) = true then some (false, false) else (spec_l10Rounds.f k a0_0 a0_1 false).bind fun (t8_1, t8_2, t8_3) => (spec_l1Has.f k t8_2 (-1)).bind fun t10 => some (!t10, true))

theorem spec_AllWon.ok {k : Nat}  {a0_0 : List (Int × List (Int × Int × Int) × List Int)} {a0_1 : List (List Int)} {r0 : Bool} {r1 : Bool} (h : spec_AllWon.f k a0_0 a0_1 = some (r0, r1)) (w : World) {va0_0 : Value} {va0_1 : Value} (hr_a0_0 : Rd w va0_0 a0_0) (hr_a0_1 : Rd w va0_1 a0_1) :
  Calls Try.prog 74 ([.agg ([va0_0, va0_1].toArray)] : List Value).toArray w (fun e w' => e = .returned (.tuple #[.bool r0, .bool r1]) ∧ Ext w w') := by
 unfold spec_AllWon.f at h
 have hl_va0_0 := hr_a0_0.len
 have hl_va0_1 := hr_a0_1.len
 refine Calls.of_tri (N := 12) Try.func74 rfl rfl rfl (Sep.nil (M := noM)) ?_
 refine Tri.seq (Tri.reg (l := [0, 1, 2]) rfl ?_)
 refine F.mn rfl (m_boxG rfl rfl) ?_
 rintro _ _ ⟨b1_1, rfl, rfl⟩
 refine F.qn rfl (r_assign rfl) (F.qn rfl (r_assign rfl) (F.nil (Nrm.seq (Tri.seq (Tri.seq ?_)))))
 obtain ⟨t5, h5, h⟩ := bind_some h
 refine Tri.reg (l := [0, 1, 2]) rfl ?_
 refine F.qn rfl (r_loadA ta85 ti85 rfl rfl (fun w hw => (box_cells (i := 0) rfl w hw))) ?_
 refine F.qcn rfl (q_callF (xs := _) rfl ok147 rfl rfl (fun w hw => spec_l10Worlds.ok h5 w ((fun _ hw => hr_a0_0.sep hw) w hw) ((fun _ hw => hr_a0_1.sep hw) w hw))) ?_
 refine F.qn rfl (r_not rfl) (F.nil (Nrm.seq (Tri.cond (b := !t5) rfl (fun g_1 => ?_) (fun g_1 => ?_))))
 ·replace h := if_tt g_1 h
  refine Tri.seq (Tri.reg (l := [0, 1]) rfl ?_)
  refine F.qn rfl (r_assign rfl) (F.qn rfl (r_assign rfl) (F.nil (Nrm.seq (Tri.ret ?_))))
  refine Rtn.then ?_
  cases h
  exact Rtn.body (.tmp rfl (.tmp rfl .nil)) (fun w hw => ⟨rfl, hw.ext⟩)
 ·replace h := if_ff g_1 h
  refine Tri.skip (Nrm.seq (Tri.seq ?_))
  obtain ⟨⟨t8_1, t8_2, t8_3⟩, h8, h⟩ := bind_some h
  obtain ⟨t10, h10, h⟩ := bind_some h
  refine Tri.reg (l := [0, 1, 2, 3, 4, 5, 6]) rfl ?_
  refine F.qn rfl (r_loadA ta85 ti85 rfl rfl (fun w hw => (box_cells (i := 0) rfl w hw))) ?_
  refine F.mn rfl (m_callF (xs := _) rfl ok148 rfl rfl (fun w hw => spec_l10Rounds.ok h8 w ((fun _ hw => hr_a0_0.sep hw) w hw) ((fun _ hw => hr_a0_1.sep hw) w hw))) ?_
  rintro _ _ ⟨_, ⟨v8_1, S8_1, v8_2, S8_2, v8_3, S8_3, rfl, hl_v8_1, hl_v8_2, hl_v8_3, rfl⟩, rfl⟩
  refine F.qn rfl (r_field Try.underlying148 rfl ta25 rfl rfl) ?_
  refine F.qcn rfl (q_callF (xs := _) rfl ok99 rfl rfl (fun w hw => spec_l1Has.ok h10 w ((rd_sl (i := 1) rfl) w hw))) ?_
  refine F.qn rfl (r_not rfl) (F.qn rfl (r_assign rfl) (F.qn rfl (r_assign rfl) (F.nil (Nrm.seq (Tri.ret ?_)))))
  cases h
  exact Rtn.body (.tmp rfl (.tmp rfl .nil)) (fun w hw => ⟨rfl, hw.ext⟩)


def impl_ReleaseSets.f (k : Nat) (a0_0 : List (Int × List (Int × Int × Int) × List Int)) (a0_1 : List (List Int)) : Option ((List (List Int)) × Bool) := (impl_IsWorlds.f k a0_0 a0_1).bind fun t5 => (if (!t5) = true then some ([], false) else (impl_play.f k a0_0 a0_1 true).bind fun (t8_1, t8_2) => some (t8_1, true))

theorem impl_ReleaseSets.ok {k : Nat}  {a0_0 : List (Int × List (Int × Int × Int) × List Int)} {a0_1 : List (List Int)} {r0 : List (List Int)} {r1 : Bool} (h : impl_ReleaseSets.f k a0_0 a0_1 = some (r0, r1)) (w : World) {va0_0 : Value} {va0_1 : Value} (hr_a0_0 : Rd w va0_0 a0_0) (hr_a0_1 : Rd w va0_1 a0_1) :
  Calls Try.prog 75 ([.agg ([va0_0, va0_1].toArray)] : List Value).toArray w (Post (fun u ns => ∃ (ur0 : Value) (Sr0 : Nat → Prop), u = .tuple #[ur0, .bool r1] ∧ SlLen ur0 r0.length ∧ ns = [R.sl Sr0 ur0 r0]) w) := by
 unfold impl_ReleaseSets.f at h
 have hl_va0_0 := hr_a0_0.len
 have hl_va0_1 := hr_a0_1.len
 refine Calls.of_tri (N := 10) Try.func75 rfl rfl rfl (Sep.nil (M := noM)) ?_
 refine Tri.seq (Tri.reg (l := [0, 1, 2]) rfl ?_)
 refine F.mn rfl (m_boxG rfl rfl) ?_
 rintro _ _ ⟨b1_1, rfl, rfl⟩
 refine F.qn rfl (r_assign rfl) (F.qn rfl (r_assign rfl) (F.nil (Nrm.seq (Tri.seq (Tri.seq ?_)))))
 obtain ⟨t5, h5, h⟩ := bind_some h
 refine Tri.reg (l := [0, 1, 2]) rfl ?_
 refine F.qn rfl (r_loadA ta85 ti85 rfl rfl (fun w hw => (box_cells (i := 0) rfl w hw))) ?_
 refine F.qcn rfl (q_callF (xs := _) rfl ok69 rfl rfl (fun w hw => impl_IsWorlds.ok h5 w ((fun _ hw => hr_a0_0.sep hw) w hw) ((fun _ hw => hr_a0_1.sep hw) w hw))) ?_
 refine F.qn rfl (r_not rfl) (F.nil (Nrm.seq (Tri.cond (b := !t5) rfl (fun g_1 => ?_) (fun g_1 => ?_))))
 ·replace h := if_tt g_1 h
  refine Tri.seq (Tri.reg (l := [0, 1]) rfl ?_)
  refine F.qn rfl (r_assign rfl) (F.qn rfl (r_assign rfl) (F.nil (Nrm.seq (Tri.ret ?_))))
  refine Rtn.then ?_
  cases h
  exact Rtn.body (.tmp rfl (.tmp rfl .nil)) (fun w hw => ⟨_, _, rfl, ⟨.slice none 0 0, fun _ => False, rfl, len_nil, rfl⟩, Sep.pick (is := [0]) rfl rfl hw.pushNil⟩)
 ·replace h := if_ff g_1 h
  refine Tri.skip (Nrm.seq (Tri.seq ?_))
  obtain ⟨⟨t8_1, t8_2⟩, h8, h⟩ := bind_some h
  refine Tri.reg (l := [0, 1, 2, 3, 4]) rfl ?_
  refine F.qn rfl (r_loadA ta85 ti85 rfl rfl (fun w hw => (box_cells (i := 0) rfl w hw))) ?_
  refine F.mn rfl (m_callF (xs := _) rfl ok146 rfl rfl (fun w hw => impl_play.ok h8 w ((fun _ hw => hr_a0_0.sep hw) w hw) ((fun _ hw => hr_a0_1.sep hw) w hw))) ?_
  rintro _ _ ⟨_, ⟨v8_1, S8_1, v8_2, S8_2, rfl, hl_v8_1, hl_v8_2, rfl⟩, rfl⟩
  refine F.qn rfl (r_field Try.underlying145 rfl ta83 rfl rfl) (F.qn rfl (r_assign rfl) (F.qn rfl (r_assign rfl) (F.nil (Nrm.seq (Tri.ret ?_)))))
  cases h
  exact Rtn.body (.tmp rfl (.tmp rfl .nil)) (fun w hw => ⟨_, _, rfl, ⟨v8_1, S8_1, rfl, hl_v8_1, rfl⟩, Sep.pick (is := [0]) rfl rfl hw⟩)


def spec_ReleaseSets.f (k : Nat) (a0_0 : List (Int × List (Int × Int × Int) × List Int)) (a0_1 : List (List Int)) : Option ((List (List Int)) × Bool) := (spec_l10Worlds.f k a0_0 a0_1).bind fun t5 => (if (!t5) = true then some (([] : List (List Int)), false) else (spec_l10Rounds.f k a0_0 a0_1 true).bind fun (t9_1, t9_2, t9_3) => some (t9_1, true))

theorem spec_ReleaseSets.ok {k : Nat}  {a0_0 : List (Int × List (Int × Int × Int) × List Int)} {a0_1 : List (List Int)} {r0 : List (List Int)} {r1 : Bool} (h : spec_ReleaseSets.f k a0_0 a0_1 = some (r0, r1)) (w : World) {va0_0 : Value} {va0_1 : Value} (hr_a0_0 : Rd w va0_0 a0_0) (hr_a0_1 : Rd w va0_1 a0_1) :
  Calls Try.prog 76 ([.agg ([va0_0, va0_1].toArray)] : List Value).toArray w (Post (fun u ns => ∃ (ur0 : Value) (Sr0 : Nat → Prop), u = .tuple #[ur0, .bool r1] ∧ SlLen ur0 r0.length ∧ ns = [R.sl Sr0 ur0 r0]) w) := by
 unfold spec_ReleaseSets.f at h
 have hl_va0_0 := hr_a0_0.len
 have hl_va0_1 := hr_a0_1.len
 refine Calls.of_tri (N := 11) Try.func76 rfl rfl rfl (Sep.nil (M := noM)) ?_
 refine Tri.seq (Tri.reg (l := [0, 1, 2]) rfl ?_)
 refine F.mn rfl (m_boxG rfl rfl) ?_
 rintro _ _ ⟨b1_1, rfl, rfl⟩
 refine F.qn rfl (r_assign rfl) (F.qn rfl (r_assign rfl) (F.nil (Nrm.seq (Tri.seq (Tri.seq ?_)))))
 obtain ⟨t5, h5, h⟩ := bind_some h
 refine Tri.reg (l := [0, 1, 2]) rfl ?_
 refine F.qn rfl (r_loadA ta85 ti85 rfl rfl (fun w hw => (box_cells (i := 0) rfl w hw))) ?_
 refine F.qcn rfl (q_callF (xs := _) rfl ok147 rfl rfl (fun w hw => spec_l10Worlds.ok h5 w ((fun _ hw => hr_a0_0.sep hw) w hw) ((fun _ hw => hr_a0_1.sep hw) w hw))) ?_
 refine F.qn rfl (r_not rfl) (F.nil (Nrm.seq (Tri.cond (b := !t5) rfl (fun g_1 => ?_) (fun g_1 => ?_))))
 ·replace h := if_tt g_1 h
  refine Tri.seq (Tri.reg (l := [0, 1, 2]) rfl ?_)
  refine F.mn rfl (m_build0 (α := List Int) Try.underlying83 ti25) ?_
  rintro v7_1 _ ⟨S7_1, hl_v7_1, rfl⟩
  refine F.qn rfl (r_assign rfl) (F.qn rfl (r_assign rfl) (F.nil (Nrm.seq (Tri.ret ?_))))
  refine Rtn.then ?_
  cases h
  exact Rtn.body (.tmp rfl (.tmp rfl .nil)) (fun w hw => ⟨_, _, rfl, ⟨v7_1, S7_1, rfl, hl_v7_1, rfl⟩, Sep.pick (is := [0]) rfl rfl hw⟩)
 ·replace h := if_ff g_1 h
  refine Tri.skip (Nrm.seq (Tri.seq ?_))
  obtain ⟨⟨t9_1, t9_2, t9_3⟩, h9, h⟩ := bind_some h
  refine Tri.reg (l := [0, 1, 2, 3, 4]) rfl ?_
  refine F.qn rfl (r_loadA ta85 ti85 rfl rfl (fun w hw => (box_cells (i := 0) rfl w hw))) ?_
  refine F.mn rfl (m_callF (xs := _) rfl ok148 rfl rfl (fun w hw => spec_l10Rounds.ok h9 w ((fun _ hw => hr_a0_0.sep hw) w hw) ((fun _ hw => hr_a0_1.sep hw) w hw))) ?_
  rintro _ _ ⟨_, ⟨v9_1, S9_1, v9_2, S9_2, v9_3, S9_3, rfl, hl_v9_1, hl_v9_2, hl_v9_3, rfl⟩, rfl⟩
  refine F.qn rfl (r_field Try.underlying148 rfl ta83 rfl rfl) (F.qn rfl (r_assign rfl) (F.qn rfl (r_assign rfl) (F.nil (Nrm.seq (Tri.ret ?_)))))
  cases h
  exact Rtn.body (.tmp rfl (.tmp rfl .nil)) (fun w hw => ⟨_, _, rfl, ⟨v9_1, S9_1, rfl, hl_v9_1, rfl⟩, Sep.pick (is := [0]) rfl rfl hw⟩)


def impl_ReleaseRounds.f (k : Nat) (a0_0 : List (Int × List (Int × Int × Int) × List Int)) (a0_1 : List (List Int)) : Option ((List Int) × Bool) := (impl_IsWorlds.f k a0_0 a0_1).bind fun t5 => (if (!t5) = true then some ([], false) else (impl_play.f k a0_0 a0_1 true).bind fun (t8_1, t8_2) => (impl_played_won.f k t8_1 t8_2).bind fun t9 => some (t9, true))

theorem impl_ReleaseRounds.ok {k : Nat}  {a0_0 : List (Int × List (Int × Int × Int) × List Int)} {a0_1 : List (List Int)} {r0 : List Int} {r1 : Bool} (h : impl_ReleaseRounds.f k a0_0 a0_1 = some (r0, r1)) (w : World) {va0_0 : Value} {va0_1 : Value} (hr_a0_0 : Rd w va0_0 a0_0) (hr_a0_1 : Rd w va0_1 a0_1) :
  Calls Try.prog 77 ([.agg ([va0_0, va0_1].toArray)] : List Value).toArray w (Post (fun u ns => ∃ (ur0 : Value) (Sr0 : Nat → Prop), u = .tuple #[ur0, .bool r1] ∧ SlLen ur0 r0.length ∧ ns = [R.sl Sr0 ur0 r0]) w) := by
 unfold impl_ReleaseRounds.f at h
 have hl_va0_0 := hr_a0_0.len
 have hl_va0_1 := hr_a0_1.len
 refine Calls.of_tri (N := 10) Try.func77 rfl rfl rfl (Sep.nil (M := noM)) ?_
 refine Tri.seq (Tri.reg (l := [0, 1, 2]) rfl ?_)
 refine F.mn rfl (m_boxG rfl rfl) ?_
 rintro _ _ ⟨b1_1, rfl, rfl⟩
 refine F.qn rfl (r_assign rfl) (F.qn rfl (r_assign rfl) (F.nil (Nrm.seq (Tri.seq (Tri.seq ?_)))))
 obtain ⟨t5, h5, h⟩ := bind_some h
 refine Tri.reg (l := [0, 1, 2]) rfl ?_
 refine F.qn rfl (r_loadA ta85 ti85 rfl rfl (fun w hw => (box_cells (i := 0) rfl w hw))) ?_
 refine F.qcn rfl (q_callF (xs := _) rfl ok69 rfl rfl (fun w hw => impl_IsWorlds.ok h5 w ((fun _ hw => hr_a0_0.sep hw) w hw) ((fun _ hw => hr_a0_1.sep hw) w hw))) ?_
 refine F.qn rfl (r_not rfl) (F.nil (Nrm.seq (Tri.cond (b := !t5) rfl (fun g_1 => ?_) (fun g_1 => ?_))))
 ·replace h := if_tt g_1 h
  refine Tri.seq (Tri.reg (l := [0, 1]) rfl ?_)
  refine F.qn rfl (r_assign rfl) (F.qn rfl (r_assign rfl) (F.nil (Nrm.seq (Tri.ret ?_))))
  refine Rtn.then ?_
  cases h
  exact Rtn.body (.tmp rfl (.tmp rfl .nil)) (fun w hw => ⟨_, _, rfl, ⟨.slice none 0 0, fun _ => False, rfl, len_nil, rfl⟩, Sep.pick (is := [0]) rfl rfl hw.pushNil⟩)
 ·replace h := if_ff g_1 h
  refine Tri.skip (Nrm.seq (Tri.seq ?_))
  obtain ⟨⟨t8_1, t8_2⟩, h8, h⟩ := bind_some h
  obtain ⟨t9, h9, h⟩ := bind_some h
  refine Tri.reg (l := [0, 1, 2, 3, 4]) rfl ?_
  refine F.qn rfl (r_loadA ta85 ti85 rfl rfl (fun w hw => (box_cells (i := 0) rfl w hw))) ?_
  refine F.mn rfl (m_callF (xs := _) rfl ok146 rfl rfl (fun w hw => impl_play.ok h8 w ((fun _ hw => hr_a0_0.sep hw) w hw) ((fun _ hw => hr_a0_1.sep hw) w hw))) ?_
  rintro _ _ ⟨_, ⟨v8_1, S8_1, v8_2, S8_2, rfl, hl_v8_1, hl_v8_2, rfl⟩, rfl⟩
  refine F.mn rfl (m_callF (xs := _) rfl ok152 rfl rfl (fun w hw => impl_played_won.ok h9 w ((rd_sl (i := 0) rfl) w hw) ((rd_sl (i := 1) rfl) w hw))) ?_
  rintro v9_1 _ ⟨_, ⟨S9_1, hl_v9_1, rfl⟩, rfl⟩
  refine F.qn rfl (r_assign rfl) (F.qn rfl (r_assign rfl) (F.nil (Nrm.seq (Tri.ret ?_))))
  cases h
  exact Rtn.body (.tmp rfl (.tmp rfl .nil)) (fun w hw => ⟨_, _, rfl, ⟨v9_1, S9_1, rfl, hl_v9_1, rfl⟩, Sep.pick (is := [0]) rfl rfl hw⟩)


def spec_ReleaseRounds.f (k : Nat) (a0_0 : List (Int × List (Int × Int × Int) × List Int)) (a0_1 : List (List Int)) : Option ((List Int) × Bool) := (spec_l10Worlds.f k a0_0 a0_1).bind fun t5 => (if (!t5) = true then some (([] : List (Int)), false) else (spec_l10Rounds.f k a0_0 a0_1 true).bind fun (t9_1, t9_2, t9_3) => some (t9_2, true))

theorem spec_ReleaseRounds.ok {k : Nat}  {a0_0 : List (Int × List (Int × Int × Int) × List Int)} {a0_1 : List (List Int)} {r0 : List Int} {r1 : Bool} (h : spec_ReleaseRounds.f k a0_0 a0_1 = some (r0, r1)) (w : World) {va0_0 : Value} {va0_1 : Value} (hr_a0_0 : Rd w va0_0 a0_0) (hr_a0_1 : Rd w va0_1 a0_1) :
  Calls Try.prog 78 ([.agg ([va0_0, va0_1].toArray)] : List Value).toArray w (Post (fun u ns => ∃ (ur0 : Value) (Sr0 : Nat → Prop), u = .tuple #[ur0, .bool r1] ∧ SlLen ur0 r0.length ∧ ns = [R.sl Sr0 ur0 r0]) w) := by
 unfold spec_ReleaseRounds.f at h
 have hl_va0_0 := hr_a0_0.len
 have hl_va0_1 := hr_a0_1.len
 refine Calls.of_tri (N := 11) Try.func78 rfl rfl rfl (Sep.nil (M := noM)) ?_
 refine Tri.seq (Tri.reg (l := [0, 1, 2]) rfl ?_)
 refine F.mn rfl (m_boxG rfl rfl) ?_
 rintro _ _ ⟨b1_1, rfl, rfl⟩
 refine F.qn rfl (r_assign rfl) (F.qn rfl (r_assign rfl) (F.nil (Nrm.seq (Tri.seq (Tri.seq ?_)))))
 obtain ⟨t5, h5, h⟩ := bind_some h
 refine Tri.reg (l := [0, 1, 2]) rfl ?_
 refine F.qn rfl (r_loadA ta85 ti85 rfl rfl (fun w hw => (box_cells (i := 0) rfl w hw))) ?_
 refine F.qcn rfl (q_callF (xs := _) rfl ok147 rfl rfl (fun w hw => spec_l10Worlds.ok h5 w ((fun _ hw => hr_a0_0.sep hw) w hw) ((fun _ hw => hr_a0_1.sep hw) w hw))) ?_
 refine F.qn rfl (r_not rfl) (F.nil (Nrm.seq (Tri.cond (b := !t5) rfl (fun g_1 => ?_) (fun g_1 => ?_))))
 ·replace h := if_tt g_1 h
  refine Tri.seq (Tri.reg (l := [0, 1, 2]) rfl ?_)
  refine F.mn rfl (m_build0 (α := Int) Try.underlying25 ti3) ?_
  rintro v7_1 _ ⟨S7_1, hl_v7_1, rfl⟩
  refine F.qn rfl (r_assign rfl) (F.qn rfl (r_assign rfl) (F.nil (Nrm.seq (Tri.ret ?_))))
  refine Rtn.then ?_
  cases h
  exact Rtn.body (.tmp rfl (.tmp rfl .nil)) (fun w hw => ⟨_, _, rfl, ⟨v7_1, S7_1, rfl, hl_v7_1, rfl⟩, Sep.pick (is := [0]) rfl rfl hw⟩)
 ·replace h := if_ff g_1 h
  refine Tri.skip (Nrm.seq (Tri.seq ?_))
  obtain ⟨⟨t9_1, t9_2, t9_3⟩, h9, h⟩ := bind_some h
  refine Tri.reg (l := [0, 1, 2, 3, 4]) rfl ?_
  refine F.qn rfl (r_loadA ta85 ti85 rfl rfl (fun w hw => (box_cells (i := 0) rfl w hw))) ?_
  refine F.mn rfl (m_callF (xs := _) rfl ok148 rfl rfl (fun w hw => spec_l10Rounds.ok h9 w ((fun _ hw => hr_a0_0.sep hw) w hw) ((fun _ hw => hr_a0_1.sep hw) w hw))) ?_
  rintro _ _ ⟨_, ⟨v9_1, S9_1, v9_2, S9_2, v9_3, S9_3, rfl, hl_v9_1, hl_v9_2, hl_v9_3, rfl⟩, rfl⟩
  refine F.qn rfl (r_field Try.underlying148 rfl ta25 rfl rfl) (F.qn rfl (r_assign rfl) (F.qn rfl (r_assign rfl) (F.nil (Nrm.seq (Tri.ret ?_)))))
  cases h
  exact Rtn.body (.tmp rfl (.tmp rfl .nil)) (fun w hw => ⟨_, _, rfl, ⟨v9_2, S9_2, rfl, hl_v9_2, rfl⟩, Sep.pick (is := [1]) rfl rfl hw⟩)


def spec_l1Cur_world.f (k : Nat) (a0_0 : List By) (a0_1 : Int) (a0_2 : Int) (a1_0 : List (Int × List (Int × Int × Int) × List Int)) (a1_1 : List (List Int)) : Option (Int × Int × Int) := (spec_l1Cur_one.f k a0_0 a0_1 a0_2 20).bind fun (t6_1, t6_2, t6_3) => (if t6_1 = true then (spec_l1Cur_among.f k a0_0 t6_2 t6_3 ([(-1), (a1_0.length : Int), 4611686018427387904] : List (Int))).bind fun (t12_1, t12_2, t12_3) => some (t12_1, t12_2, t12_3) else (spec_l1Most.f k (a1_0.length : Int) 1).bind fun t17 => (spec_l1Cur_pick.f k a0_0 t6_2 t6_3 t17).bind fun (t18_1, t18_2, t18_3) => some (t18_1, t18_2, t18_3))

theorem spec_l1Cur_world.ok {k : Nat}  {a0_0 : List By} {a0_1 : Int} {a0_2 : Int} {a1_0 : List (Int × List (Int × Int × Int) × List Int)} {a1_1 : List (List Int)} {r0 : Int} {r1 : Int} {r2 : Int} (h : spec_l1Cur_world.f k a0_0 a0_1 a0_2 a1_0 a1_1 = some (r0, r1, r2)) (w : World) {pa0 : Nat} {va0_0 : Value} (hr_a0_0 : RdM w (footM [R.box pa0 100 [va0_0, .int .i64 a0_1, .int .u64 a0_2]]) va0_0 a0_0) {va1_0 : Value} (hr_a1_0 : RdM w (footM [R.box pa0 100 [va0_0, .int .i64 a0_1, .int .u64 a0_2]]) va1_0 a1_0) {va1_1 : Value} (hr_a1_1 : RdM w (footM [R.box pa0 100 [va0_0, .int .i64 a0_1, .int .u64 a0_2]]) va1_1 a1_1) (hw0 : Sep w (footM [R.box pa0 100 [va0_0, .int .i64 a0_1, .int .u64 a0_2]]) [R.box pa0 100 [va0_0, .int .i64 a0_1, .int .u64 a0_2]] w) :
  Calls Try.prog 155 ([.pointer (some ⟨pa0, 0, none⟩), .agg ([va1_0, va1_1].toArray)] : List Value).toArray w (PostM (footM [R.box pa0 100 [va0_0, .int .i64 a0_1, .int .u64 a0_2]]) (fun u ns => u = .int .i64 r0 ∧ ns = [R.box pa0 100 [va0_0, .int .i64 r1, .int .u64 r2]]) w) := by
 unfold spec_l1Cur_world.f at h
 have hl_va0_0 := hr_a0_0.len
 have hl_va1_0 := hr_a1_0.len
 have hl_va1_1 := hr_a1_1.len
 refine Calls.of_tri (N := 19) Try.func155 rfl rfl rfl hw0 ?_
 refine Tri.seq (Tri.reg (l := [0, 1]) rfl ?_)
 refine F.mn rfl (m_boxG rfl rfl) ?_
 rintro _ _ ⟨b3_1, rfl, rfl⟩
 refine F.qn rfl (r_assign rfl) (F.nil (Nrm.seq (Tri.seq (Tri.seq ?_))))
 obtain ⟨⟨t6_1, t6_2, t6_3⟩, h6, h⟩ := bind_some h
 refine Tri.reg (l := [0, 1]) rfl ?_
 refine F.qn rfl (r_move rfl) ?_
 refine F.efn rfl (d_callM (xs := _) (cs := [R.box pa0 100 [va0_0, .int .i64 a0_1, .int .u64 a0_2]]) (rest := [R.box b3_1 85 [va1_0, va1_1]]) [1] [0] rfl ok93 rfl rfl rfl rfl (fun w hw => spec_l1Cur_one.ok h6 w (hr_a0_0.down hw) (Sep.sub hw))) ?_
 rintro _ _ ⟨_, ⟨rfl, rfl⟩, rfl⟩
 refine F.nil (Nrm.seq (Tri.cond (b := t6_1) rfl (fun g_1 => ?_) (fun g_1 => ?_)))
 ·replace h := if_tt g_1 h
  refine Tri.seq ?_
  obtain ⟨⟨t12_1, t12_2, t12_3⟩, h12, h⟩ := bind_some h
  refine Tri.reg (l := [0, 1, 2, 3, 4, 5, 6]) rfl ?_
  refine F.qn rfl (r_move rfl) (F.qn rfl (r_fieldAddr tf85_0 rfl) (F.qn rfl (r_load ta82 rfl (fun w hw => cell_1 (box_cells (i := 1) rfl w hw) rfl)) (F.qn rfl (r_len Try.underlying82 rfl hl_va1_0) ?_)))
  refine F.mn rfl (m_buildF (l := ([(-1), (a1_0.length : Int), 4611686018427387904] : List (Int))) Try.underlying25 ti3 rfl rfl rfl rfl rfl) ?_
  rintro v11_1 _ ⟨S11_1, hl_v11_1, rfl⟩
  refine F.efn rfl (d_callM (xs := _) (cs := [R.box pa0 100 [va0_0, .int .i64 t6_2, .int .u64 t6_3]]) (rest := [R.sl S11_1 v11_1 (([(-1), (a1_0.length : Int), 4611686018427387904] : List (Int)) : List (Int)), R.box b3_1 85 [va1_0, va1_1]]) [1] [0, 2] rfl ok96 rfl rfl rfl rfl (fun w hw => spec_l1Cur_among.ok h12 w (hr_a0_0.down hw) (rdm_sl (i := 0) rfl hw) (Sep.sub hw))) ?_
  rintro _ _ ⟨_, ⟨rfl, rfl⟩, rfl⟩
  refine F.qn rfl (r_assign rfl) (F.nil (Nrm.seq (Tri.ret ?_)))
  refine Rtn.then ?_
  cases h
  exact Rtn.body (.tmp rfl .nil) (fun w hw => ⟨_, _, rfl, ⟨rfl, rfl⟩, Sep.pick (is := [0]) rfl rfl hw⟩)
 ·replace h := if_ff g_1 h
  refine Tri.skip (Nrm.seq (Tri.seq ?_))
  obtain ⟨t17, h17, h⟩ := bind_some h
  obtain ⟨⟨t18_1, t18_2, t18_3⟩, h18, h⟩ := bind_some h
  refine Tri.reg (l := [0, 1, 2, 3, 4, 5, 6]) rfl ?_
  refine F.qn rfl (r_move rfl) (F.qn rfl (r_fieldAddr tf85_0 rfl) (F.qn rfl (r_load ta82 rfl (fun w hw => cell_1 (box_cells (i := 1) rfl w hw) rfl)) (F.qn rfl (r_len Try.underlying82 rfl hl_va1_0) ?_)))
  refine F.qcn rfl (q_callF (xs := _) rfl ok180 rfl rfl (fun w hw => spec_l1Most.ok h17 w )) ?_
  refine F.efn rfl (d_callM (xs := _) (cs := [R.box pa0 100 [va0_0, .int .i64 t6_2, .int .u64 t6_3]]) (rest := [R.box b3_1 85 [va1_0, va1_1]]) [0] [1] rfl ok95 rfl rfl rfl rfl (fun w hw => spec_l1Cur_pick.ok h18 w (hr_a0_0.down hw) (Sep.sub hw))) ?_
  rintro _ _ ⟨_, ⟨rfl, rfl⟩, rfl⟩
  refine F.qn rfl (r_assign rfl) (F.nil (Nrm.seq (Tri.ret ?_)))
  cases h
  exact Rtn.body (.tmp rfl .nil) (fun w hw => ⟨_, _, rfl, ⟨rfl, rfl⟩, Sep.pick (is := [0]) rfl rfl hw⟩)


def spec_DrawLeansOn.f (k : Nat) (a0 : List By) : Option ((List (Int × List (Int × Int × Int) × List Int)) × (List (List Int)) × Int) := (spec_l1Cur_worlds.f k a0 0 0).bind fun (t10_1, t10_2, t10_3, t10_4) => (spec_l1Cur_world.f k a0 t10_3 t10_4 t10_1 t10_2).bind fun (t14_1, t14_2, t14_3) => some (t10_1, t10_2, t14_1)

theorem spec_DrawLeansOn.ok {k : Nat}  {a0 : List By} {r0 : List (Int × List (Int × Int × Int) × List Int)} {r1 : List (List Int)} {r2 : Int} (h : spec_DrawLeansOn.f k a0 = some (r0, r1, r2)) (w : World) {va0 : Value} (hr_a0 : Rd w va0 a0) :
  Calls Try.prog 79 ([va0] : List Value).toArray w (Post (fun u ns => ∃ (ur0 : Value) (Sr0 : Nat → Prop) (ur1 : Value) (Sr1 : Nat → Prop), u = .tuple #[.agg [ur0, ur1].toArray, .int .i64 r2] ∧ SlLen ur0 r0.length ∧ SlLen ur1 r1.length ∧ ns = [R.sl Sr0 ur0 r0, R.sl Sr1 ur1 r1]) w) := by
 unfold spec_DrawLeansOn.f at h
 have hl_va0 := hr_a0.len
 refine Calls.of_tri (N := 15) Try.func79 rfl rfl rfl (Sep.nil (M := noM)) ?_
 refine Tri.seq (Tri.reg (l := [0, 1]) rfl ?_)
 refine F.mn rfl (m_alloc ti85) ?_
 rintro _ _ ⟨b2_1, rfl, rfl⟩
 refine F.qn rfl (r_assign rfl) (F.nil (Nrm.seq (Tri.seq (Tri.reg (l := [0, 1, 2, 3]) rfl ?_))))
 refine F.qn rfl (r_move rfl) (F.qn rfl (r_build (pl := [(0, 1), (1, 1), (2, 1)]) (qs := [(0, [va0])]) (cs := [va0, .int .i64 0, .int .u64 0]) (by kernel_rfl) ti100 rfl (.cons (sl_cells hl_va0) rfl (Nat.le_of_ble_eq_true rfl) .nil) rfl rfl) ?_)
 refine F.mn rfl (m_boxG rfl rfl) ?_
 rintro _ _ ⟨b8_1, rfl, rfl⟩
 refine F.qn rfl (r_assign rfl) (F.nil (Nrm.seq (Tri.seq ?_)))
 obtain ⟨⟨t10_1, t10_2, t10_3, t10_4⟩, h10, h⟩ := bind_some h
 refine Tri.reg (l := [0, 1, 2, 3]) rfl ?_
 refine F.qn rfl (r_move rfl) ?_
 refine F.efn rfl (d_callM (xs := _) (cs := [R.box b8_1 100 [va0, .int .i64 0, .int .u64 0]]) (rest := [R.box b2_1 85 [.slice none 0 0, .slice none 0 0]]) [0] [1] rfl ok154 rfl rfl rfl rfl (fun w hw => spec_l1Cur_worlds.ok h10 w (hr_a0.down hw) (Sep.sub hw))) ?_
 rintro _ _ ⟨_, ⟨v10_1, S10_1, v10_2, S10_2, rfl, hl_v10_1, hl_v10_2, rfl⟩, rfl⟩
 refine F.mn rfl (m_alloc ti85) ?_
 rintro _ _ ⟨b5_1, rfl, rfl⟩
 refine F.ef0 rfl rfl (wanted_none rfl) (d_storeG0 (i := 0) (cs2 := [v10_1, v10_2]) ti85 rfl rfl rfl rfl rfl (Nat.le_of_ble_eq_true rfl) (lf_cons (sl_leaf hl_v10_1) (lf_cons (sl_leaf hl_v10_2) lf_nil))) ?_
 rintro _ _ ⟨rfl, rfl⟩
 refine F.nil (Nrm.seq (Tri.seq ?_))
 obtain ⟨⟨t14_1, t14_2, t14_3⟩, h14, h⟩ := bind_some h
 refine Tri.drawK (B := Sep w noM [R.box b5_1 85 [v10_1, v10_2], R.sl S10_1 v10_1 (t10_1 : List (Int × List (Int × Int × Int) × List Int)), R.sl S10_2 v10_2 (t10_2 : List (List Int)), R.box b2_1 85 [.slice none 0 0, .slice none 0 0]]) mixedT Sep.up [(0, true), (1, true), (2, true), (3, false)] [4, 5] (by kernel_rfl) ?_
 refine K.q [0, 1, 2, 4] rfl rfl rfl rfl rfl (wanted_none rfl) (r_loadA ta85 ti85 rfl rfl (fun w hw => (box_cells (i := 0) rfl w hw))) ?_
 refine K.q [0, 1, 2, 4] rfl rfl rfl rfl rfl (wanted_none rfl) (r_move rfl) ?_
 refine K.q [0, 1, 2, 4] rfl rfl rfl rfl rfl (wanted_none rfl) (r_loadA ta85 ti85 rfl rfl (fun w hw => (box_cells (i := 0) rfl w hw))) ?_
 refine B.ef rfl rfl rfl (wanted_none rfl) (d_callM (xs := _) (cs := [R.box b8_1 100 [va0, .int .i64 t10_3, .int .u64 t10_4]]) (rest := [R.box b5_1 85 [v10_1, v10_2], R.sl S10_1 v10_1 (t10_1 : List (Int × List (Int × Int × Int) × List Int)), R.sl S10_2 v10_2 (t10_2 : List (List Int)), R.box b2_1 85 [.slice none 0 0, .slice none 0 0]]) [3] [0, 1, 2, 4] rfl ok155 rfl rfl rfl rfl (fun w hw => spec_l1Cur_world.ok h14 w (hr_a0.down hw) (rdm_sl (i := 1) rfl hw) (rdm_sl (i := 2) rfl hw) (Sep.sub hw))) (by rintro _ _ ⟨_, ⟨rfl, rfl⟩, rfl⟩; exact upd rfl [1, 2, 3, 4] rfl rfl) ?_
 rintro _ _ ⟨_, ⟨rfl, rfl⟩, rfl⟩
 refine B.nil ?_
 refine F.ef0 rfl rfl (wanted_none rfl) (d_storeG0 (i := 4) (cs2 := [v10_1, v10_2]) ti85 rfl rfl rfl rfl rfl (Nat.le_of_ble_eq_true rfl) (lf_cons (sl_leaf hl_v10_1) (lf_cons (sl_leaf hl_v10_2) lf_nil))) ?_
 rintro _ _ ⟨rfl, rfl⟩
 refine F.qn rfl (r_assign rfl) (F.nil (Nrm.seq (Tri.ret ?_)))
 cases h
 exact Rtn.body (.cell rfl ta85 ti85 rfl (fun _ hw => box_cells (i := 4) rfl _ hw) (.tmp rfl .nil)) (fun w hw => ⟨_, _, rfl, ⟨v10_1, S10_1, v10_2, S10_2, rfl, hl_v10_1, hl_v10_2, rfl⟩, Sep.pick (is := [2, 3]) rfl rfl hw⟩)


def slices_Clone__3int__3int.f (k : Nat) (a0 : List (Int × Int × Int)) : Option ((List (Int × Int × Int))) := if (([] : List (Int × Int × Int)) ++ a0).length < 1099511627776 then some (([] : List (Int × Int × Int)) ++ a0) else none

theorem slices_Clone__3int__3int.ok {k : Nat}  {a0 : List (Int × Int × Int)} {r0 : List (Int × Int × Int)} (h : slices_Clone__3int__3int.f k a0 = some r0) (w : World) {va0 : Value} (hr_a0 : Rd w va0 a0) :
  Calls Try.prog 212 ([va0] : List Value).toArray w (Post (fun u ns => ∃ (Sr0 : Nat → Prop), SlLen u r0.length ∧ ns = [R.sl Sr0 u r0]) w) := by
 unfold slices_Clone__3int__3int.f at h
 have hl_va0 := hr_a0.len
 rcases Rd.cases hr_a0 with ⟨rfl, rfl⟩ | ⟨pa0, ca0, rfl⟩
 ·replace h : some [] = some r0 := by simpa using h
  refine Calls.of_tri (N := 8) Try.func212 rfl rfl rfl (Sep.nil (M := noM)) ?_
  refine Tri.seq (Tri.reg (l := [0]) rfl ?_)
  refine F.qn rfl (r_assign rfl) (F.nil (Nrm.seq (Tri.seq (Tri.seq (Tri.reg (l := [0, 1]) rfl ?_)))))
  refine F.qn rfl (r_move rfl) (F.qn rfl (r_eqlNN Try.underlying24 rfl rfl) (F.nil (Nrm.seq (Tri.condT rfl rfl ?_))))
  refine Tri.seq (Tri.reg (l := [0]) rfl ?_)
  refine F.qn rfl (r_assign rfl) (F.nil (Nrm.seq (Tri.ret ?_)))
  refine Rtn.then ?_
  cases h
  exact Rtn.body (.tmp rfl .nil) (fun w hw => ⟨_, _, rfl, ⟨fun _ => False, len_nil, rfl⟩, Sep.pick (is := [0]) rfl rfl hw.pushNil⟩)
 ·refine Calls.of_tri (N := 8) Try.func212 rfl rfl rfl (Sep.nil (M := noM)) ?_
  refine Tri.seq (Tri.reg (l := [0]) rfl ?_)
  refine F.qn rfl (r_assign rfl) (F.nil (Nrm.seq (Tri.seq (Tri.seq (Tri.reg (l := [0, 1]) rfl ?_)))))
  refine F.qn rfl (r_move rfl) (F.qn rfl (r_eqlN Try.underlying24 rfl rfl ⟨_, _, rfl⟩) (F.nil (Nrm.seq (Tri.condF rfl rfl ?_))))
  refine Tri.skip (Nrm.seq (Tri.seq ?_))
  obtain ⟨hs7, h⟩ := ck h
  refine Tri.reg (l := [0, 1, 2, 3]) rfl ?_
  refine F.mn rfl (m_build0 (α := Int × Int × Int) Try.underlying24 ti121) ?_
  rintro v5_1 _ ⟨S5_1, hl_v5_1, rfl⟩
  refine F.qn rfl (r_move rfl) ?_
  refine F.efn rfl (d_append (i := 0) Try.underlying24 Try.underlying24 ti121 rfl (by decide) rfl rfl rfl (fun _ hw => hr_a0.sep hw) hs7) ?_
  rintro v7_1 _ ⟨S7_1, rfl, hl_v7_1⟩
  refine F.qn rfl (r_assign rfl) (F.nil (Nrm.seq (Tri.ret ?_)))
  cases h
  exact Rtn.body (.tmp rfl .nil) (fun w hw => ⟨_, _, rfl, ⟨S7_1, hl_v7_1, rfl⟩, Sep.pick (is := [0]) rfl rfl hw⟩)


def impl_own.f (k : Nat) (a0_0 : Int) (a0_1 : List (Int × Int × Int)) (a0_2 : List Int) : Option (Int × (List (Int × Int × Int)) × (List Int)) := (slices_Clone__3int__3int.f k a0_1).bind fun t7 => (slices_Clone_int_int.f k a0_2).bind fun t10 => some (a0_0, t7, t10)

theorem impl_own.ok {k : Nat}  {a0_0 : Int} {a0_1 : List (Int × Int × Int)} {a0_2 : List Int} {r0 : Int} {r1 : List (Int × Int × Int)} {r2 : List Int} (h : impl_own.f k a0_0 a0_1 a0_2 = some (r0, r1, r2)) (w : World) {va0_1 : Value} {va0_2 : Value} (hr_a0_1 : Rd w va0_1 a0_1) (hr_a0_2 : Rd w va0_2 a0_2) :
  Calls Try.prog 178 ([.agg ([.int .i64 a0_0, va0_1, va0_2].toArray)] : List Value).toArray w (Post (fun u ns => ∃ (ur1 : Value) (Sr1 : Nat → Prop) (ur2 : Value) (Sr2 : Nat → Prop), u = .agg [.int .i64 r0, ur1, ur2].toArray ∧ SlLen ur1 r1.length ∧ SlLen ur2 r2.length ∧ ns = [R.sl Sr1 ur1 r1, R.sl Sr2 ur2 r2]) w) := by
 unfold impl_own.f at h
 have hl_va0_1 := hr_a0_1.len
 have hl_va0_2 := hr_a0_2.len
 refine Calls.of_tri (N := 12) Try.func178 rfl rfl rfl (Sep.nil (M := noM)) ?_
 refine Tri.seq (Tri.reg (l := [0, 1]) rfl ?_)
 refine F.mn rfl (m_boxG rfl rfl) ?_
 rintro _ _ ⟨b1_1, rfl, rfl⟩
 refine F.mn rfl (m_alloc ti27) ?_
 rintro _ _ ⟨b2_1, rfl, rfl⟩
 refine F.nil (Nrm.seq (Tri.seq ?_))
 obtain ⟨t7, h7, h⟩ := bind_some h
 obtain ⟨t10, h10, h⟩ := bind_some h
 refine Tri.drawA mixedT Sep.up [(0, true), (1, true), (2, true), (3, true), (5, true), (6, true), (4, false), (7, false), (8, true)] [9] (by kernel_rfl) ?_
 refine S.qn rfl (r_fieldAddr tf27_0 rfl) (S.qn rfl (r_load ta3 rfl (fun w hw => cell_1 (box_cells (i := 1) rfl w hw) rfl)) (S.qn rfl (r_fieldAddr tf27_1 rfl) (S.qn rfl (r_load ta24 rfl (fun w hw => cell_1 (box_cells (i := 1) rfl w hw) rfl)) (S.qn rfl (r_fieldAddr tf27_2 rfl) (S.qn rfl (r_load ta25 rfl (fun w hw => cell_1 (box_cells (i := 1) rfl w hw) rfl)) ?_)))))
 refine S.m rfl rfl rfl (wanted_none rfl) (m_callF (xs := _) rfl ok212 rfl rfl (fun w hw => slices_Clone__3int__3int.ok h7 w ((fun _ hw => hr_a0_1.sep hw) w hw))) ?_
 rintro v7_2 _ ⟨_, ⟨S7_2, hl_v7_2, rfl⟩, rfl⟩
 refine S.m rfl rfl rfl (wanted_none rfl) (m_callF (xs := _) rfl ok171 rfl rfl (fun w hw => slices_Clone_int_int.ok h10 w ((fun _ hw => hr_a0_2.sep hw) w hw))) ?_
 rintro v10_2 _ ⟨_, ⟨S10_2, hl_v10_2, rfl⟩, rfl⟩
 refine S.qn rfl (r_build (pl := [(0, 1), (1, 1), (2, 1)]) (qs := [(0, [.int .i64 a0_0]), (1, [v7_2]), (2, [v10_2])]) (cs := [.int .i64 a0_0, v7_2, v10_2]) (by kernel_rfl) ti27 rfl (.cons rfl rfl (Nat.le_of_ble_eq_true rfl) (.cons (sl_cells hl_v7_2) rfl (Nat.le_of_ble_eq_true rfl) (.cons (sl_cells hl_v10_2) rfl (Nat.le_of_ble_eq_true rfl) .nil))) rfl rfl) (S.nil (F.ef0 rfl rfl (wanted_none rfl) (d_storeG0 (i := 2) (cs2 := [.int .i64 a0_0, v7_2, v10_2]) ti27 rfl rfl rfl rfl rfl (Nat.le_of_ble_eq_true rfl) (lf_cons rfl (lf_cons (sl_leaf hl_v7_2) (lf_cons (sl_leaf hl_v10_2) lf_nil)))) ?_))
 rintro _ _ ⟨rfl, rfl⟩
 refine F.nil (Nrm.seq (Tri.ret ?_))
 cases h
 exact Rtn.body (.cell rfl ta27 ti27 rfl (fun _ hw => box_cells (i := 2) rfl _ hw) .nil) (fun w hw => ⟨_, _, rfl, ⟨v7_2, S7_2, v10_2, S10_2, rfl, hl_v7_2, hl_v10_2, rfl⟩, Sep.pick (is := [1, 0]) rfl rfl hw⟩)


def impl_laid.l0 (k : Nat) (a1 : List Int) (a2 : List Int) : Nat → Int → (List (Int)) → Option ((List (Int)))
 | 0, _, _ => none
 | n + 1, x16, xq7_1_2 => (if (decide (x16 < (a2.length : Int))) = true then (rdl a2 x16).bind fun t19 => (rdl xq7_1_2 t19).bind fun t24 => (rdl a1 x16).bind fun t28 => if ¬ t28 < 0 then (rdl xq7_1_2 t19).bind fun t32 => impl_laid.l0 k a1 a2 n (w64 (x16 + 1)) (xq7_1_2.set t19.toNat (bor t24 (shl 1 t28))) else none else some xq7_1_2)

def impl_laid.f (k : Nat) (a0_0 : Int) (a0_1 : List (Int × Int × Int)) (a0_2 : List Int) (a1 : List Int) (a2 : List Int) : Option (Int × (List (Int × Int × Int)) × (List Int)) := (impl_own.f k a0_0 a0_1 a0_2).bind fun (t11_1, t11_2, t11_3) => (impl_laid.l0 k a1 a2 k 0 (List.replicate t11_3.length (0 : Int))).bind fun xq7_1_2 => some (t11_1, t11_2, xq7_1_2)

theorem impl_laid.ok {k : Nat}  {a0_0 : Int} {a0_1 : List (Int × Int × Int)} {a0_2 : List Int} {a1 : List Int} {a2 : List Int} {r0 : Int} {r1 : List (Int × Int × Int)} {r2 : List Int} (h : impl_laid.f k a0_0 a0_1 a0_2 a1 a2 = some (r0, r1, r2)) (w : World) {va0_1 : Value} {va0_2 : Value} {va1 : Value} {va2 : Value} (hr_a0_1 : Rd w va0_1 a0_1) (hr_a0_2 : Rd w va0_2 a0_2) (hr_a1 : Rd w va1 a1) (hr_a2 : Rd w va2 a2) :
  Calls Try.prog 110 ([.agg ([.int .i64 a0_0, va0_1, va0_2].toArray), va1, va2] : List Value).toArray w (Post (fun u ns => ∃ (ur1 : Value) (Sr1 : Nat → Prop) (ur2 : Value) (Sr2 : Nat → Prop), u = .agg [.int .i64 r0, ur1, ur2].toArray ∧ SlLen ur1 r1.length ∧ SlLen ur2 r2.length ∧ ns = [R.sl Sr1 ur1 r1, R.sl Sr2 ur2 r2]) w) := by
 unfold impl_laid.f at h
 have hl_va0_1 := hr_a0_1.len
 have hl_va0_2 := hr_a0_2.len
 have hl_va1 := hr_a1.len
 have hl_va2 := hr_a2.len
 refine Calls.of_tri (N := 35) Try.func110 rfl rfl rfl (Sep.nil (M := noM)) ?_
 refine Tri.seq (Tri.reg (l := [0, 1]) rfl ?_)
 refine F.mn rfl (m_boxG rfl rfl) ?_
 rintro _ _ ⟨b3_1, rfl, rfl⟩
 refine F.mn rfl (m_alloc ti27) ?_
 rintro _ _ ⟨b6_1, rfl, rfl⟩
 refine F.nil (Nrm.seq (Tri.seq ?_))
 obtain ⟨⟨t11_1, t11_2, t11_3⟩, h11, h⟩ := bind_some h
 refine Tri.reg (l := [0, 1, 2, 3]) rfl ?_
 refine F.qn rfl (r_loadA ta27 ti27 rfl rfl (fun w hw => (box_cells (i := 1) rfl w hw))) ?_
 refine F.mn rfl (m_callF (xs := _) rfl ok178 rfl rfl (fun w hw => impl_own.ok h11 w ((fun _ hw => hr_a0_1.sep hw) w hw) ((fun _ hw => hr_a0_2.sep hw) w hw))) ?_
 rintro _ _ ⟨_, ⟨v11_1, S11_1, v11_2, S11_2, rfl, hl_v11_1, hl_v11_2, rfl⟩, rfl⟩
 refine F.mn rfl (m_alloc ti27) ?_
 rintro _ _ ⟨b7_1, rfl, rfl⟩
 refine F.ef0 rfl rfl (wanted_none rfl) (d_storeG0 (i := 0) (cs2 := [.int .i64 t11_1, v11_1, v11_2]) ti27 rfl rfl rfl rfl rfl (Nat.le_of_ble_eq_true rfl) (lf_cons rfl (lf_cons (sl_leaf hl_v11_1) (lf_cons (sl_leaf hl_v11_2) lf_nil)))) ?_
 rintro _ _ ⟨rfl, rfl⟩
 refine F.nil (Nrm.seq (Tri.seq (Tri.reg (l := [0, 1, 2]) rfl ?_)))
 refine F.qn rfl (r_fieldAddr tf27_2 rfl) (F.qn rfl (r_load ta25 rfl (fun w hw => cell_1 (box_cells (i := 0) rfl w hw) rfl)) ?_)
 refine F.ef0 rfl rfl (wanted_none rfl) (d_clear0 (i := 2) (x0 := (0 : Int)) Try.underlying25 ti3 rfl rfl rfl) ?_
 rintro _ _ rfl
 refine F.nil (Nrm.seq (Tri.seq (Tri.seq (Tri.reg (l := [0, 1, 2]) rfl ?_))))
 refine F.qn rfl (r_move rfl) (F.qn rfl (r_len Try.underlying25 rfl hl_va2) (F.qn rfl (r_move rfl) (F.nil (Nrm.seq ?_))))
 obtain ⟨xq7_1_2, hE_1, h⟩ := bind_some h
 refine Tri.block ?_
 refine Tri.only [1, 6, 7, 14, 15, 16] rfl ?_
 refine Tri.pick [0, 3, 1, 2] rfl rfl ?_
 refine Tri.rounds (fun n e' C' => ∃ (x16' : Int) (xq7_1_2' : List (Int)), impl_laid.l0 k a1 a2 n x16' xq7_1_2' = some xq7_1_2 ∧ SlLen v11_2 (xq7_1_2').length ∧ e' = [(1, va1), (6, .pointer (some ⟨b6_1, 0, none⟩)), (7, .pointer (some ⟨b7_1, 0, none⟩)), (14, va2), (15, .int .i64 (a2.length : Int)), (16, .int .i64 x16')] ∧ C' = Sep w noM [R.box b7_1 27 [.int .i64 t11_1, v11_1, v11_2], R.box b6_1 27 [.int .i64 0, .slice none 0 0, .slice none 0 0], R.sl S11_1 v11_1 (t11_2 : List (Int × Int × Int)), R.sl S11_2 v11_2 (xq7_1_2' : List (Int))]) k ?_ ?_ ?_
 ·exact ⟨0, List.replicate t11_3.length (0 : Int), hE_1, (clr0_len hl_v11_2), rfl, rfl⟩
 ·rintro _ _ ⟨_, _, hE_1, _⟩
  rw [impl_laid.l0.eq_1] at hE_1; cases hE_1
 ·rintro n_1 _ _ ⟨x16, xq7_1_2, hE_1, hl_xq7_1_2, rfl, rfl⟩ ih_1
  rw [impl_laid.l0.eq_2] at hE_1
  refine Tri.seq (Tri.reg (l := [0]) rfl ?_)
  refine F.qn rfl (r_lss rfl rfl) (F.nil (Nrm.seq (Tri.seq (Tri.cond (b := decide (x16 < (a2.length : Int))) rfl (fun g_1 => ?_) (fun g_1 => ?_)))))
  ·replace hE_1 := if_tt g_1 hE_1
   refine Tri.skip (Nrm.seq (Tri.seq (Tri.block ?_)))
   refine Tri.seq ?_
   obtain ⟨t19, h19, hE_1⟩ := bind_some hE_1
   refine Tri.reg (l := [0, 1, 2, 3, 4]) rfl ?_
   refine F.qn rfl (r_move rfl) (F.qn rfl (r_indexAddrS Try.underlying25 ti3 rfl hl_va2 rfl (rdl_some h19).1 (rdl_some h19).2.1) (F.qn rfl (r_load ta3 rfl (fun w hw => cell_0 (Rd.flat ((fun _ hw => hr_a2.sep hw) w hw) (rdl_some h19).2.2) rfl)) (F.qn rfl (r_assign rfl) (F.qn rfl (r_assign rfl) (F.nil (Nrm.seq ?_))))))
   obtain ⟨t24, h24, hE_1⟩ := bind_some hE_1
   obtain ⟨t28, h28, hE_1⟩ := bind_some hE_1
   obtain ⟨hs30, hE_1⟩ := ck hE_1
   obtain ⟨t32, h32, hE_1⟩ := bind_some hE_1
   refine Tri.drawA mixedT Sep.up [(0, true), (1, true), (2, true), (3, true), (4, true), (5, true), (6, true), (7, true), (8, true), (9, true), (10, true), (11, true)] [12] (by kernel_rfl) ?_
   refine S.qn rfl (r_fieldAddr tf27_2 rfl) (S.qn rfl (r_load ta25 rfl (fun w hw => cell_1 (box_cells (i := 0) rfl w hw) rfl)) (S.qn rfl (r_move rfl) (S.qn rfl (r_indexAddrS Try.underlying25 ti3 rfl hl_xq7_1_2 rfl (rdl_some h24).1 (rdl_some h24).2.1) (S.qn rfl (r_load ta3 rfl (fun w hw => cell_0 (Rd.flat ((rd_sl (i := 3) rfl) w hw) (rdl_some h24).2.2) rfl)) (S.qn rfl (r_move rfl) ?_)))))
   refine S.qn rfl (r_move rfl) (S.qn rfl (r_indexAddrS Try.underlying25 ti3 rfl hl_va1 rfl (rdl_some h28).1 (rdl_some h28).2.1) (S.qn rfl (r_load ta3 rfl (fun w hw => cell_0 (Rd.flat ((fun _ hw => hr_a1.sep hw) w hw) (rdl_some h28).2.2) rfl)) (S.qn rfl (r_shl rfl rfl hs30) (S.qn rfl (r_or rfl rfl) (S.qn rfl (r_indexAddrS Try.underlying25 ti3 rfl hl_xq7_1_2 rfl (rdl_some h32).1 (rdl_some h32).2.1) (S.nil (F.ef0 rfl rfl (wanted_none rfl) (d_storeE (i := 3) (x1 := bor t24 (shl 1 t28)) ti3 rfl rfl rfl (rdl_some h32) rfl) ?_)))))))
   rintro _ _ ⟨rfl, rfl⟩
   refine F.nil (Nrm.block ?_)
   refine Nrm.seq (Tri.reg (l := [0, 1]) rfl ?_)
   refine F.qn rfl (r_add rfl rfl) (F.qn rfl (r_move rfl) (F.nil (Nrm.round ?_)))
   refine Rnd.only [1, 6, 7, 14, 15, 16] rfl ?_
   refine Rnd.pick [0, 1, 2, 3] rfl rfl ?_
   exact ih_1 _ _ ⟨w64 (x16 + 1), xq7_1_2.set t19.toNat (bor t24 (shl 1 t28)), hE_1, (len_set hl_xq7_1_2), rfl, rfl⟩
  ·replace hE_1 := if_ff g_1 hE_1
   refine Tri.exit ?_
   refine Exi.then ?_
   refine Exi.then ?_
   refine Exi.same ?_
   cases hE_1
   refine Nrm.seq (Tri.seq (Tri.reg (l := [0, 1]) rfl ?_))
   refine F.qn rfl (r_loadA ta27 ti27 rfl rfl (fun w hw => (box_cells (i := 0) rfl w hw))) ?_
   refine F.ef0 rfl rfl (wanted_none rfl) (d_storeG0 (i := 1) (cs2 := [.int .i64 t11_1, v11_1, v11_2]) ti27 rfl rfl rfl rfl rfl (Nat.le_of_ble_eq_true rfl) (lf_cons rfl (lf_cons (sl_leaf hl_v11_1) (lf_cons (sl_leaf hl_xq7_1_2) lf_nil)))) ?_
   rintro _ _ ⟨rfl, rfl⟩
   refine F.nil (Nrm.seq (Tri.ret ?_))
   cases h
   exact Rtn.body (.cell rfl ta27 ti27 rfl (fun _ hw => box_cells (i := 1) rfl _ hw) .nil) (fun w hw => ⟨_, _, rfl, ⟨v11_1, S11_1, v11_2, S11_2, rfl, hl_v11_1, hl_xq7_1_2, rfl⟩, Sep.pick (is := [2, 3]) rfl rfl hw⟩)


def impl_isWorld.f (k : Nat) (a0_0 : List (Int × List (Int × Int × Int) × List Int)) (a0_1 : List (List Int)) (a1 : Int) : Option (Bool) := ((impl_IsWorlds.f k a0_0 a0_1).bind fun t6 => (if t6 = true then (impl_within.f k a1 0 (w64 ((a0_0.length : Int) - 1))).bind fun t13 => some t13 else some false)).bind fun y4 => some y4

theorem impl_isWorld.ok {k : Nat}  {a0_0 : List (Int × List (Int × Int × Int) × List Int)} {a0_1 : List (List Int)} {a1 : Int} {r0 : Bool} (h : impl_isWorld.f k a0_0 a0_1 a1 = some r0) (w : World) {va0_0 : Value} {va0_1 : Value} (hr_a0_0 : Rd w va0_0 a0_0) (hr_a0_1 : Rd w va0_1 a0_1) :
  Calls Try.prog 156 ([.agg ([va0_0, va0_1].toArray), .int .i64 a1] : List Value).toArray w (fun e w' => e = .returned (.bool r0) ∧ Ext w w') := by
 unfold impl_isWorld.f at h
 have hl_va0_0 := hr_a0_0.len
 have hl_va0_1 := hr_a0_1.len
 refine Calls.of_tri (N := 15) Try.func156 rfl rfl rfl (Sep.nil (M := noM)) ?_
 refine Tri.seq (Tri.reg (l := [0, 1]) rfl ?_)
 refine F.mn rfl (m_boxG rfl rfl) ?_
 rintro _ _ ⟨b2_1, rfl, rfl⟩
 refine F.qn rfl (r_assign rfl) (F.nil (Nrm.seq (Tri.seq ?_)))
 obtain ⟨y4, hE_1, h⟩ := bind_some h
 refine Tri.cut (fun e' C' => e' = [(4, .bool y4)] ∧ C' = Sep w noM []) ?_ (fun hj_1 => ?_)
 ·rintro _ _ ⟨rfl, rfl⟩
  refine Nrm.seq (Tri.ret ?_)
  cases h
  exact Rtn.body (.tmp rfl .nil) (fun w hw => ⟨rfl, hw.ext⟩)
 ·obtain ⟨t6, h6, hE_1⟩ := bind_some hE_1
  rcases Bool.eq_false_or_eq_true (t6) with g7 | g7
  ·replace hE_1 := if_tt g7 hE_1
   obtain ⟨t13, h13, hE_1⟩ := bind_some hE_1
   refine Tri.reg (l := [0, 1, 2, 3, 4, 5, 6, 7, 8, 9, 10]) rfl ?_
   refine F.qn rfl (r_loadA ta85 ti85 rfl rfl (fun w hw => (box_cells (i := 0) rfl w hw))) ?_
   refine F.qcn rfl (q_callF (xs := _) rfl ok69 rfl rfl (fun w hw => impl_IsWorlds.ok h6 w ((fun _ hw => hr_a0_0.sep hw) w hw) ((fun _ hw => hr_a0_1.sep hw) w hw))) ?_
   refine F.qn rfl (r_move rfl) (F.qg rfl g7 (r_move rfl) (F.qg rfl g7 (r_fieldAddr tf85_0 rfl) (F.qg rfl g7 (r_load ta82 rfl (fun w hw => cell_1 (box_cells (i := 0) rfl w hw) rfl)) (F.qg rfl g7 (r_len Try.underlying82 rfl hl_va0_0) (F.qg rfl g7 (r_sub rfl rfl) ?_)))))
   refine F.qc rfl rfl rfl (wg rfl rfl rfl g7) (q_callF (xs := _) rfl ok149 rfl rfl (fun w hw => impl_within.ok h13 w )) ?_
   refine F.qn rfl (r_pick rfl rfl g7) (F.qn rfl (r_assign rfl) (F.nil ?_))
   cases hE_1
   refine Nrm.only [4] rfl ?_
   refine Nrm.pick [] rfl rfl ?_
   exact hj_1 _ _ ⟨rfl, rfl⟩
  ·replace hE_1 := if_ff g7 hE_1
   refine Tri.reg (l := [0, 1, 2, 3, 4, 5, 6, 7, 8, 9, 10]) rfl ?_
   refine F.qn rfl (r_loadA ta85 ti85 rfl rfl (fun w hw => (box_cells (i := 0) rfl w hw))) ?_
   refine F.qcn rfl (q_callF (xs := _) rfl ok69 rfl rfl (fun w hw => impl_IsWorlds.ok h6 w ((fun _ hw => hr_a0_0.sep hw) w hw) ((fun _ hw => hr_a0_1.sep hw) w hw))) ?_
   refine F.qn rfl (r_move rfl) ?_
   iterate 6 refine F.skf rfl g7 ?_
   refine F.qn rfl (r_pickf rfl rfl g7) (F.qn rfl (r_assign rfl) (F.nil ?_))
   cases hE_1
   refine Nrm.only [4] rfl ?_
   refine Nrm.pick [] rfl rfl ?_
   exact hj_1 _ _ ⟨rfl, rfl⟩


def slices_Clone_impl_Maze_impl_Maze_sh1.f (k : Nat) (a0 : List (Int × (Sh (Int × Int × Int)) × (Sh (Int)))) : Option ((List (Int × (Sh (Int × Int × Int)) × (Sh (Int))))) := if (([] : List (Int × (Sh (Int × Int × Int)) × (Sh (Int)))) ++ a0).length < 1099511627776 then some (([] : List (Int × (Sh (Int × Int × Int)) × (Sh (Int)))) ++ a0) else none

theorem slices_Clone_impl_Maze_impl_Maze_sh1.ok {k : Nat}  {a0 : List (Int × (Sh (Int × Int × Int)) × (Sh (Int)))} {r0 : List (Int × (Sh (Int × Int × Int)) × (Sh (Int)))} (h : slices_Clone_impl_Maze_impl_Maze_sh1.f k a0 = some r0) (w : World) {va0 : Value} (hr_a0 : Rd w va0 a0) :
  Calls Try.prog 202 ([va0] : List Value).toArray w (Post (fun u ns => ∃ (Sr0 : Nat → Prop), SlLen u r0.length ∧ ns = [R.sl Sr0 u r0]) w) := by
 unfold slices_Clone_impl_Maze_impl_Maze_sh1.f at h
 have hl_va0 := hr_a0.len
 rcases Rd.cases hr_a0 with ⟨rfl, rfl⟩ | ⟨pa0, ca0, rfl⟩
 ·replace h : some [] = some r0 := by simpa using h
  refine Calls.of_tri (N := 8) Try.func202 rfl rfl rfl (Sep.nil (M := noM)) ?_
  refine Tri.seq (Tri.reg (l := [0]) rfl ?_)
  refine F.qn rfl (r_assign rfl) (F.nil (Nrm.seq (Tri.seq (Tri.seq (Tri.reg (l := [0, 1]) rfl ?_)))))
  refine F.qn rfl (r_move rfl) (F.qn rfl (r_eqlNN Try.underlying82 rfl rfl) (F.nil (Nrm.seq (Tri.condT rfl rfl ?_))))
  refine Tri.seq (Tri.reg (l := [0]) rfl ?_)
  refine F.qn rfl (r_assign rfl) (F.nil (Nrm.seq (Tri.ret ?_)))
  refine Rtn.then ?_
  cases h
  exact Rtn.body (.tmp rfl .nil) (fun w hw => ⟨_, _, rfl, ⟨fun _ => False, len_nil, rfl⟩, Sep.pick (is := [0]) rfl rfl hw.pushNil⟩)
 ·refine Calls.of_tri (N := 8) Try.func202 rfl rfl rfl (Sep.nil (M := noM)) ?_
  refine Tri.seq (Tri.reg (l := [0]) rfl ?_)
  refine F.qn rfl (r_assign rfl) (F.nil (Nrm.seq (Tri.seq (Tri.seq (Tri.reg (l := [0, 1]) rfl ?_)))))
  refine F.qn rfl (r_move rfl) (F.qn rfl (r_eqlN Try.underlying82 rfl rfl ⟨_, _, rfl⟩) (F.nil (Nrm.seq (Tri.condF rfl rfl ?_))))
  refine Tri.skip (Nrm.seq (Tri.seq ?_))
  obtain ⟨hs7, h⟩ := ck h
  refine Tri.reg (l := [0, 1, 2, 3]) rfl ?_
  refine F.mn rfl (m_build0 (α := Int × (Sh (Int × Int × Int)) × (Sh (Int))) Try.underlying82 ti27) ?_
  rintro v5_1 _ ⟨S5_1, hl_v5_1, rfl⟩
  refine F.qn rfl (r_move rfl) ?_
  refine F.efn rfl (d_append (i := 0) Try.underlying82 Try.underlying82 ti27 rfl (by decide) rfl rfl rfl (fun _ hw => hr_a0.sep hw) hs7) ?_
  rintro v7_1 _ ⟨S7_1, rfl, hl_v7_1⟩
  refine F.qn rfl (r_assign rfl) (F.nil (Nrm.seq (Tri.ret ?_)))
  cases h
  exact Rtn.body (.tmp rfl .nil) (fun w hw => ⟨_, _, rfl, ⟨S7_1, hl_v7_1, rfl⟩, Sep.pick (is := [0]) rfl rfl hw⟩)


def impl_withMaze_sh1.f (k : Nat) (a0_0 : List (Int × (Sh (Int × Int × Int)) × (Sh (Int)))) (a0_1 : List (Sh (Int))) (a1 : Int) (a2_0 : Int) (a2_1 : Sh (Int × Int × Int)) (a2_2 : Sh (Int)) : Option ((List (Int × (Sh (Int × Int × Int)) × (Sh (Int))))) := ((slices_Clone_impl_Maze_impl_Maze_sh1.f k a0_0).bind fun t10 => some t10).bind fun yb7_2_0 => (rdl yb7_2_0 a1).bind fun t18 => some (yb7_2_0.set a1.toNat (a2_0, a2_1, a2_2))

theorem impl_withMaze_sh1.ok {k : Nat}  {a0_0 : List (Int × (Sh (Int × Int × Int)) × (Sh (Int)))} {a0_1 : List (Sh (Int))} {a1 : Int} {a2_0 : Int} {a2_1 : Sh (Int × Int × Int)} {a2_2 : Sh (Int)} {r0 : List (Int × (Sh (Int × Int × Int)) × (Sh (Int)))} (h : impl_withMaze_sh1.f k a0_0 a0_1 a1 a2_0 a2_1 a2_2 = some r0) (w : World) {va0_0 : Value} {va0_1 : Value} (hr_a0_0 : Rd w va0_0 a0_0) (hr_a0_1 : Rd w va0_1 a0_1) :
  Calls Try.prog 157 ([.agg ([va0_0, va0_1].toArray), .int .i64 a1, .agg ([.int .i64 a2_0, a2_1.v, a2_2.v].toArray)] : List Value).toArray w (Post (fun u ns => ∃ (ur0 : Value) (Sr0 : Nat → Prop), u = .agg [ur0, va0_1].toArray ∧ SlLen ur0 r0.length ∧ ns = [R.sl Sr0 ur0 r0]) w) := by
 unfold impl_withMaze_sh1.f at h
 have hl_va0_0 := hr_a0_0.len
 have hl_va0_1 := hr_a0_1.len
 refine Calls.of_tri (N := 20) Try.func157 rfl rfl rfl (Sep.nil (M := noM)) ?_
 refine Tri.seq (Tri.reg (l := [0, 1, 2]) rfl ?_)
 refine F.mn rfl (m_boxG rfl rfl) ?_
 rintro _ _ ⟨b3_1, rfl, rfl⟩
 refine F.mn rfl (m_boxG rfl rfl) ?_
 rintro _ _ ⟨b5_1, rfl, rfl⟩
 refine F.mn rfl (m_alloc ti85) ?_
 rintro _ _ ⟨b6_1, rfl, rfl⟩
 refine F.nil (Nrm.seq (Tri.seq ?_))
 obtain ⟨yb7_2_0, hE_1, h⟩ := bind_some h
 refine Tri.cut (fun e' C' => ∃ (vb7_2_0_1 : Value) (Sb7_2_0_1 : Nat → Prop) (b7_2 : Nat), SlLen vb7_2_0_1 (yb7_2_0).length ∧ e' = [(1, .int .i64 a1), (5, .pointer (some ⟨b5_1, 0, none⟩)), (6, .pointer (some ⟨b6_1, 0, none⟩)), (7, .pointer (some ⟨b7_2, 0, none⟩))] ∧ C' = Sep w noM [R.box b6_1 85 [.slice none 0 0, .slice none 0 0], R.box b5_1 27 [.int .i64 a2_0, a2_1.v, a2_2.v], R.box b7_2 85 [vb7_2_0_1, va0_1], R.sl Sb7_2_0_1 vb7_2_0_1 (yb7_2_0 : List (Int × (Sh (Int × Int × Int)) × (Sh (Int))))]) ?_ (fun hj_1 => ?_)
 ·rintro _ _ ⟨vb7_2_0_1, Sb7_2_0_1, b7_2, hl_vb7_2_0_1, rfl, rfl⟩
  refine Nrm.seq (Tri.seq ?_)
  obtain ⟨t18, h18, h⟩ := bind_some h
  refine Tri.reg (l := [0, 1, 2, 3, 4, 5]) rfl ?_
  refine F.qn rfl (r_fieldAddr tf85_0 rfl) (F.qn rfl (r_load ta82 rfl (fun w hw => cell_1 (box_cells (i := 2) rfl w hw) rfl)) (F.qn rfl (r_move rfl) (F.qn rfl (r_loadA ta27 ti27 rfl rfl (fun w hw => (box_cells (i := 1) rfl w hw))) (F.qn rfl (r_indexAddrS Try.underlying82 ti27 rfl hl_vb7_2_0_1 rfl (rdl_some h18).1 (rdl_some h18).2.1) ?_))))
  refine F.ef0 rfl rfl (wanted_none rfl) (d_storeE (i := 3) (x1 := (a2_0, a2_1, a2_2)) ti27 rfl rfl rfl (rdl_some h18) rfl) ?_
  rintro _ _ ⟨rfl, rfl⟩
  refine F.nil (Nrm.seq (Tri.seq (Tri.reg (l := [0, 1]) rfl ?_)))
  refine F.qn rfl (r_loadA ta85 ti85 rfl rfl (fun w hw => (box_cells (i := 2) rfl w hw))) ?_
  refine F.ef0 rfl rfl (wanted_none rfl) (d_storeG0 (i := 0) (cs2 := [vb7_2_0_1, va0_1]) ti85 rfl rfl rfl rfl rfl (Nat.le_of_ble_eq_true rfl) (lf_cons (sl_leaf hl_vb7_2_0_1) (lf_cons (sl_leaf hl_va0_1) lf_nil))) ?_
  rintro _ _ ⟨rfl, rfl⟩
  refine F.nil (Nrm.seq (Tri.ret ?_))
  cases h
  exact Rtn.body (.cell rfl ta85 ti85 rfl (fun _ hw => box_cells (i := 0) rfl _ hw) .nil) (fun w hw => ⟨_, _, rfl, ⟨vb7_2_0_1, Sb7_2_0_1, rfl, (len_set hl_vb7_2_0_1), rfl⟩, Sep.pick (is := [3]) rfl rfl hw⟩)
 ·obtain ⟨t10, h10, hE_1⟩ := bind_some hE_1
  refine Tri.drawT mixedT Sep.up [0, 1, 3, 4, 2, 5, 6] [7] (.q 0 (.q 1 (.q 3 (.q 4 (.alt 2 (.alt 5 (.alt 6 .nil .stop) (.alt 6 (.alt 5 .nil .stop) .stop)) (.alt 6 (.alt 2 (.alt 5 .nil .stop) .stop) .stop)))))) (by kernel_rfl) ?_
  refine T.q rfl rfl rfl (wanted_none rfl) (r_fieldAddr tf85_0 rfl) ?_
  refine T.q rfl rfl rfl (wanted_none rfl) (r_load ta82 rfl (fun w hw => cell_1 (box_cells (i := 2) rfl w hw) rfl)) ?_
  refine T.q rfl rfl rfl (wanted_none rfl) (r_fieldAddr tf85_1 rfl) ?_
  refine T.q rfl rfl rfl (wanted_none rfl) (r_load ta83 rfl (fun w hw => cell_1 (box_cells (i := 2) rfl w hw) rfl)) ?_
  refine T.ef rfl rfl rfl (wanted_none rfl) (Makes.does (m_callF (xs := _) rfl ok202 rfl rfl (fun w hw => slices_Clone_impl_Maze_impl_Maze_sh1.ok h10 w ((fun _ hw => hr_a0_0.sep hw) w hw)))) (by rintro v10_2 _ ⟨_, ⟨S10_2, hl_v10_2, rfl⟩, rfl⟩; exact upd rfl [1, 2, 3] rfl rfl) ?_ ?_
  ·rintro v10_2 _ ⟨_, ⟨S10_2, hl_v10_2, rfl⟩, rfl⟩
   refine T.ef rfl rfl rfl (wanted_none rfl) (Runs.does (r_build (pl := [(0, 1), (1, 1)]) (qs := [(0, [v10_2]), (1, [va0_1])]) (cs := [v10_2, va0_1]) (by kernel_rfl) ti85 rfl (.cons (sl_cells hl_v10_2) rfl (Nat.le_of_ble_eq_true rfl) (.cons (sl_cells hl_va0_1) rfl (Nat.le_of_ble_eq_true rfl) .nil)) rfl rfl)) (by rintro _ _ ⟨rfl, rfl⟩; exact upd rfl [1, 2, 3] rfl rfl) ?_ ?_
   ·rintro _ _ ⟨rfl, rfl⟩
    refine T.ef rfl rfl rfl (wanted_none rfl) (Makes.does (m_alloc ti85)) (by rintro _ _ ⟨b7_3, rfl, rfl⟩; exact upd rfl [2, 3, 4] rfl rfl) ?_ ?_
    ·rintro _ _ ⟨b7_3, rfl, rfl⟩
     refine T.nil ?_
     refine F.ef0 rfl rfl (wanted_none rfl) (d_storeG0 (i := 0) (cs2 := [v10_2, va0_1]) ti85 rfl rfl rfl rfl rfl (Nat.le_of_ble_eq_true rfl) (lf_cons (sl_leaf hl_v10_2) (lf_cons (sl_leaf hl_va0_1) lf_nil))) ?_
     rintro _ _ ⟨rfl, rfl⟩
     refine F.nil ?_
     cases hE_1
     refine Nrm.only [1, 5, 6, 7] rfl ?_
     refine Nrm.pick [2, 3, 0, 1] rfl rfl ?_
     exact hj_1 _ _ ⟨v10_2, S10_2, b7_3, hl_v10_2, rfl, rfl⟩
    exact T.stop
   ·refine T.ef rfl rfl rfl (wanted_none rfl) (Makes.does (m_alloc ti85)) (by rintro _ _ ⟨b7_4, rfl, rfl⟩; exact upd rfl [2, 3, 4] rfl rfl) ?_ ?_
    ·rintro _ _ ⟨b7_4, rfl, rfl⟩
     refine T.ef rfl rfl rfl (wanted_none rfl) (Runs.does (r_build (pl := [(0, 1), (1, 1)]) (qs := [(0, [v10_2]), (1, [va0_1])]) (cs := [v10_2, va0_1]) (by kernel_rfl) ti85 rfl (.cons (sl_cells hl_v10_2) rfl (Nat.le_of_ble_eq_true rfl) (.cons (sl_cells hl_va0_1) rfl (Nat.le_of_ble_eq_true rfl) .nil)) rfl rfl)) (by rintro _ _ ⟨rfl, rfl⟩; exact upd rfl [2, 3, 4] rfl rfl) ?_ ?_
     ·rintro _ _ ⟨rfl, rfl⟩
      refine T.nil ?_
      refine F.ef0 rfl rfl (wanted_none rfl) (d_storeG0 (i := 0) (cs2 := [v10_2, va0_1]) ti85 rfl rfl rfl rfl rfl (Nat.le_of_ble_eq_true rfl) (lf_cons (sl_leaf hl_v10_2) (lf_cons (sl_leaf hl_va0_1) lf_nil))) ?_
      rintro _ _ ⟨rfl, rfl⟩
      refine F.nil ?_
      cases hE_1
      refine Nrm.only [1, 5, 6, 7] rfl ?_
      refine Nrm.pick [2, 3, 0, 1] rfl rfl ?_
      exact hj_1 _ _ ⟨v10_2, S10_2, b7_4, hl_v10_2, rfl, rfl⟩
     exact T.stop
    exact T.stop
  ·refine T.ef rfl rfl rfl (wanted_none rfl) (Makes.does (m_alloc ti85)) (by rintro _ _ ⟨b7_5, rfl, rfl⟩; exact upd rfl [1, 2, 3] rfl rfl) ?_ ?_
   ·rintro _ _ ⟨b7_5, rfl, rfl⟩
    refine T.ef rfl rfl rfl (wanted_none rfl) (Makes.does (m_callF (xs := _) rfl ok202 rfl rfl (fun w hw => slices_Clone_impl_Maze_impl_Maze_sh1.ok h10 w ((fun _ hw => hr_a0_0.sep hw) w hw)))) (by rintro v10_3 _ ⟨_, ⟨S10_3, hl_v10_3, rfl⟩, rfl⟩; exact upd rfl [2, 3, 4] rfl rfl) ?_ ?_
    ·rintro v10_3 _ ⟨_, ⟨S10_3, hl_v10_3, rfl⟩, rfl⟩
     refine T.ef rfl rfl rfl (wanted_none rfl) (Runs.does (r_build (pl := [(0, 1), (1, 1)]) (qs := [(0, [v10_3]), (1, [va0_1])]) (cs := [v10_3, va0_1]) (by kernel_rfl) ti85 rfl (.cons (sl_cells hl_v10_3) rfl (Nat.le_of_ble_eq_true rfl) (.cons (sl_cells hl_va0_1) rfl (Nat.le_of_ble_eq_true rfl) .nil)) rfl rfl)) (by rintro _ _ ⟨rfl, rfl⟩; exact upd rfl [2, 3, 4] rfl rfl) ?_ ?_
     ·rintro _ _ ⟨rfl, rfl⟩
      refine T.nil ?_
      refine F.ef0 rfl rfl (wanted_none rfl) (d_storeG0 (i := 1) (cs2 := [v10_3, va0_1]) ti85 rfl rfl rfl rfl rfl (Nat.le_of_ble_eq_true rfl) (lf_cons (sl_leaf hl_v10_3) (lf_cons (sl_leaf hl_va0_1) lf_nil))) ?_
      rintro _ _ ⟨rfl, rfl⟩
      refine F.nil ?_
      cases hE_1
      refine Nrm.only [1, 5, 6, 7] rfl ?_
      refine Nrm.pick [2, 3, 1, 0] rfl rfl ?_
      exact hj_1 _ _ ⟨v10_3, S10_3, b7_5, hl_v10_3, rfl, rfl⟩
     exact T.stop
    exact T.stop
   exact T.stop


theorem impl_withMaze.okx {mz : List MzT} {ls : List SMz} {os : List (List Int)} {j n : Int} {d : List (Int × Int × Int)} {ks : List Int} (hj : 0 ≤ j ∧ j < mz.length) (hz : mz.length < 1099511627776) (w : World) {vM vO vd vk : Value} (hab : ls.map SMz.abs = mz) (hM : Rd w vM ls) (hO : Rd w vO os) (hd0 : isLeaf vd = true) (hk0 : isLeaf vk = true) :
  Calls Try.prog 157 ([.agg [vM, vO].toArray, .int .i64 j, .agg [.int .i64 n, vd, vk].toArray] : List Value).toArray w (Post (fun u ns => ∃ (u0 : Value) (S0 : Nat → Prop), u = .agg [u0, vO].toArray ∧ SlLen u0 mz.length ∧ ns = [R.sl S0 u0 (ls.set j.toNat (n, ⟨vd, d, hd0⟩, ⟨vk, ks, hk0⟩))]) w) := by
 obtain ⟨lo, _, hO'⟩ := sh_open hO
 have hll : ls.length = mz.length := by rw [← hab, List.length_map]
 have hlt : j.toNat < ls.length := by omega
 have hr : rdl ls j = some ls[j.toNat] := by
  obtain ⟨i, rfl⟩ := Int.eq_ofNat_of_zero_le hj.1
  exact rdl_lt hlt
 have e : impl_withMaze_sh1.f 1 ls lo j n (⟨vd, d, hd0⟩ : Sh (Int × Int × Int)) (⟨vk, ks, hk0⟩ : Sh Int) = some (ls.set j.toNat (n, ⟨vd, d, hd0⟩, ⟨vk, ks, hk0⟩)) := by
  unfold impl_withMaze_sh1.f slices_Clone_impl_Maze_impl_Maze_sh1.f
  rw [if_pos (by simpa [hll] using hz)]
  simp only [Option.bind_some, List.nil_append, hr]
 refine (impl_withMaze_sh1.ok e w hM hO').mono fun e' w' ⟨u, ns, h1, h2, h3⟩ => ?_
 obtain ⟨u0, S0, rfl, h4, rfl⟩ := h2
 exact ⟨_, _, h1, ⟨u0, S0, rfl, by rw [← hll]; simpa using h4, rfl⟩, h3⟩


def impl_LeansOn.l0 (k : Nat) (a0_0 : List (Int × List (Int × Int × Int) × List Int)) (a0_1 : List (List Int)) (a1 : Int) : Nat → (List (Int)) → Int → Option ((List (Int)))
 | 0, _, _ => none
 | n + 1, x6, x25 => (if (decide (x25 < (a0_0.length : Int))) = true then (rdl a0_0 x25).bind fun t28 => ((if (x25 != a1) = true then (impl_laid.f k t28.1 t28.2.1 t28.2.2 [] []).bind fun (t37_1, t37_2, t37_3) => if 0 ≤ x25 ∧ x25 < (a0_0.length : Int) ∧ a0_0.length < 1099511627776 then (impl_play.f k (a0_0.set (x25).toNat (t37_1, t37_2, t37_3)) a0_1 false).bind fun (t39_1, t39_2) => (impl_played_won.f k t39_1 t39_2).bind fun t40 => (rdl t40 a1).bind fun t42 => some (decide (t42 < 0)) else none else some false)).bind fun y45 => ((if y45 = true then if (x6 ++ ([x25] : List (Int))).length < 1099511627776 then some (x6 ++ ([x25] : List (Int))) else none else some x6)).bind fun y6 => impl_LeansOn.l0 k a0_0 a0_1 a1 n y6 (w64 (x25 + 1)) else some x6)

def impl_LeansOn.f (k : Nat) (a0_0 : List (Int × List (Int × Int × Int) × List Int)) (a0_1 : List (List Int)) (a1 : Int) : Option ((List Int) × Bool) := (impl_isWorld.f k a0_0 a0_1 a1).bind fun t11 => (if (!t11) = true then some ([], false) else (impl_play.f k a0_0 a0_1 false).bind fun (t15_1, t15_2) => (impl_played_won.f k t15_1 t15_2).bind fun t16 => (rdl t16 a1).bind fun t18 => (if (decide (t18 < 0)) = true then some (([] : List (Int)), true) else (impl_LeansOn.l0 k a0_0 a0_1 a1 k ([] : List (Int)) 0).bind fun x6 => some (x6, true)))

theorem impl_LeansOn.ok {k : Nat}  {a0_0 : List (Int × List (Int × Int × Int) × List Int)} {a0_1 : List (List Int)} {a1 : Int} {r0 : List Int} {r1 : Bool} (h : impl_LeansOn.f k a0_0 a0_1 a1 = some (r0, r1)) (w : World) {va0_0 : Value} {va0_1 : Value} (hr_a0_0 : Rd w va0_0 a0_0) (hr_a0_1 : Rd w va0_1 a0_1) :
  Calls Try.prog 80 ([.agg ([va0_0, va0_1].toArray), .int .i64 a1] : List Value).toArray w (Post (fun u ns => ∃ (ur0 : Value) (Sr0 : Nat → Prop), u = .tuple #[ur0, .bool r1] ∧ SlLen ur0 r0.length ∧ ns = [R.sl Sr0 ur0 r0]) w) := by
 unfold impl_LeansOn.f at h
 have hl_va0_0 := hr_a0_0.len
 have hl_va0_1 := hr_a0_1.len
 obtain ⟨ls_va0_0, hab_va0_0, hfl_va0_0, hrd_va0_0⟩ := shM_open hr_a0_0
 refine Calls.of_tri (N := 52) Try.func80 rfl rfl rfl (Sep.nil (M := noM)) ?_
 refine Tri.seq (Tri.reg (l := [0, 1, 2]) rfl ?_)
 refine F.mn rfl (m_boxG rfl rfl) ?_
 rintro _ _ ⟨b2_1, rfl, rfl⟩
 refine F.qn rfl (r_assign rfl) (F.qn rfl (r_assign rfl) (F.nil (Nrm.seq (Tri.seq (Tri.seq ?_)))))
 obtain ⟨t11, h11, h⟩ := bind_some h
 refine Tri.reg (l := [0, 1, 2, 3]) rfl ?_
 refine F.qn rfl (r_loadA ta85 ti85 rfl rfl (fun w hw => (box_cells (i := 0) rfl w hw))) (F.qn rfl (r_move rfl) ?_)
 refine F.qcn rfl (q_callF (xs := _) rfl ok156 rfl rfl (fun w hw => impl_isWorld.ok h11 w ((fun _ hw => hr_a0_0.sep hw) w hw) ((fun _ hw => hr_a0_1.sep hw) w hw))) ?_
 refine F.qn rfl (r_not rfl) (F.nil (Nrm.seq (Tri.cond (b := !t11) rfl (fun g_1 => ?_) (fun g_1 => ?_))))
 ·replace h := if_tt g_1 h
  refine Tri.seq (Tri.reg (l := [0, 1]) rfl ?_)
  refine F.qn rfl (r_assign rfl) (F.qn rfl (r_assign rfl) (F.nil (Nrm.seq (Tri.ret ?_))))
  refine Rtn.then ?_
  cases h
  exact Rtn.body (.tmp rfl (.tmp rfl .nil)) (fun w hw => ⟨_, _, rfl, ⟨.slice none 0 0, fun _ => False, rfl, len_nil, rfl⟩, Sep.pick (is := [0]) rfl rfl hw.pushNil⟩)
 ·replace h := if_ff g_1 h
  refine Tri.skip (Nrm.seq (Tri.seq (Tri.reg (l := [0, 1]) rfl ?_)))
  refine F.mn rfl (m_build0 (α := Int) Try.underlying25 ti3) ?_
  rintro v13_1 _ ⟨S13_1, hl_v13_1, rfl⟩
  refine F.qn rfl (r_assign rfl) (F.nil (Nrm.seq (Tri.seq (Tri.seq ?_))))
  obtain ⟨⟨t15_1, t15_2⟩, h15, h⟩ := bind_some h
  obtain ⟨t16, h16, h⟩ := bind_some h
  obtain ⟨t18, h18, h⟩ := bind_some h
  refine Tri.reg (l := [0, 1, 2, 3, 4, 5, 6]) rfl ?_
  refine F.qn rfl (r_loadA ta85 ti85 rfl rfl (fun w hw => (box_cells (i := 1) rfl w hw))) ?_
  refine F.mn rfl (m_callF (xs := _) rfl ok146 rfl rfl (fun w hw => impl_play.ok h15 w ((fun _ hw => hr_a0_0.sep hw) w hw) ((fun _ hw => hr_a0_1.sep hw) w hw))) ?_
  rintro _ _ ⟨_, ⟨v15_1, S15_1, v15_2, S15_2, rfl, hl_v15_1, hl_v15_2, rfl⟩, rfl⟩
  refine F.mn rfl (m_callF (xs := _) rfl ok152 rfl rfl (fun w hw => impl_played_won.ok h16 w ((rd_sl (i := 0) rfl) w hw) ((rd_sl (i := 1) rfl) w hw))) ?_
  rintro v16_1 _ ⟨_, ⟨S16_1, hl_v16_1, rfl⟩, rfl⟩
  refine F.qn rfl (r_move rfl) (F.qn rfl (r_indexAddrS Try.underlying25 ti3 rfl hl_v16_1 rfl (rdl_some h18).1 (rdl_some h18).2.1) (F.qn rfl (r_load ta3 rfl (fun w hw => cell_0 (Rd.flat ((rd_sl (i := 0) rfl) w hw) (rdl_some h18).2.2) rfl)) (F.qn rfl (r_lss rfl rfl) (F.nil (Nrm.seq (Tri.cond (b := decide (t18 < 0)) rfl (fun g_2 => ?_) (fun g_2 => ?_)))))))
  ·replace h := if_tt g_2 h
   refine Tri.seq (Tri.reg (l := [0, 1, 2]) rfl ?_)
   refine F.qn rfl (r_move rfl) (F.qn rfl (r_assign rfl) (F.qn rfl (r_assign rfl) (F.nil (Nrm.seq (Tri.ret ?_)))))
   refine Rtn.then ?_
   cases h
   exact Rtn.body (.tmp rfl (.tmp rfl .nil)) (fun w hw => ⟨_, _, rfl, ⟨v13_1, S13_1, rfl, hl_v13_1, rfl⟩, Sep.pick (is := [3]) rfl rfl hw⟩)
  ·replace h := if_ff g_2 h
   refine Tri.skip (Nrm.seq (Tri.seq (Tri.seq (Tri.reg (l := [0, 1, 2, 3]) rfl ?_))))
   refine F.qn rfl (r_fieldAddr tf85_0 rfl) (F.qn rfl (r_load ta82 rfl (fun w hw => cell_1 (box_cells (i := 4) rfl w hw) rfl)) (F.qn rfl (r_len Try.underlying82 rfl hl_va0_0) (F.qn rfl (r_move rfl) (F.nil (Nrm.seq ?_)))))
   obtain ⟨x6, hE_1, h⟩ := bind_some h
   refine Tri.block ?_
   refine Tri.only [1, 2, 6, 23, 24, 25] rfl ?_
   refine Tri.pick [4, 3] rfl rfl ?_
   refine Tri.rounds (fun n e' C' => ∃ (x6' : List (Int)) (x25' : Int) (w6 : Value) (T6 : Nat → Prop), impl_LeansOn.l0 k a0_0 a0_1 a1 n x6' x25' = some x6 ∧ SlLen w6 (x6').length ∧ e' = [(1, .int .i64 a1), (2, .pointer (some ⟨b2_1, 0, none⟩)), (6, w6), (23, va0_0), (24, .int .i64 (a0_0.length : Int)), (25, .int .i64 x25')] ∧ C' = Sep w noM [R.box b2_1 85 [va0_0, va0_1], R.sl T6 w6 (x6' : List (Int))]) k ?_ ?_ ?_
   ·exact ⟨([] : List (Int)), 0, v13_1, S13_1, hE_1, hl_v13_1, rfl, rfl⟩
   ·rintro _ _ ⟨_, _, _, _, hE_1, _⟩
    rw [impl_LeansOn.l0.eq_1] at hE_1; cases hE_1
   ·rintro n_1 _ _ ⟨x6, x25, w6, T6, hE_1, hl_w6, rfl, rfl⟩ ih_1
    rw [impl_LeansOn.l0.eq_2] at hE_1
    refine Tri.seq (Tri.reg (l := [0]) rfl ?_)
    refine F.qn rfl (r_lss rfl rfl) (F.nil (Nrm.seq (Tri.seq (Tri.cond (b := decide (x25 < (a0_0.length : Int))) rfl (fun g_3 => ?_) (fun g_3 => ?_)))))
    ·replace hE_1 := if_tt g_3 hE_1
     refine Tri.skip (Nrm.seq (Tri.seq (Tri.block ?_)))
     refine Tri.seq ?_
     obtain ⟨t28, h28, hE_1⟩ := bind_some hE_1
     obtain ⟨_, hc28, hp28⟩ := Rd.elem hr_a0_0 (rdl_some h28).2.2
     obtain ⟨v28_1, v28_2, rfl, hr_v28_1, hr_v28_2⟩ := op27 hp28
     have hl_v28_1 := hr_v28_1.len
     have hl_v28_2 := hr_v28_2.len
     refine Tri.reg (l := [0, 1, 2, 3, 4, 5]) rfl ?_
     refine F.qn rfl (r_move rfl) (F.qn rfl (r_indexAddrS Try.underlying82 ti27 rfl hl_va0_0 rfl (rdl_some h28).1 (rdl_some h28).2.1) (F.qn rfl (r_loadA ta27 ti27 rfl rfl (fun w hw => (hc28.sep hw))) ?_))
     refine F.mn rfl (m_alloc ti27) ?_
     rintro _ _ ⟨b8_1, rfl, rfl⟩
     refine F.qn rfl (r_assign rfl) ?_
     refine F.ef0 rfl rfl (wanted_none rfl) (d_storeG0 (i := 0) (cs2 := [.int .i64 t28.1, v28_1, v28_2]) ti27 rfl rfl rfl rfl rfl (Nat.le_of_ble_eq_true rfl) (lf_cons rfl (lf_cons (sl_leaf hl_v28_1) (lf_cons (sl_leaf hl_v28_2) lf_nil)))) ?_
     rintro _ _ ⟨rfl, rfl⟩
     refine F.nil (Nrm.seq (Tri.seq ?_))
     obtain ⟨y45, hE_2, hE_1⟩ := bind_some hE_1
     refine Tri.cut (fun e' C' => e' = [(1, .int .i64 a1), (2, .pointer (some ⟨b2_1, 0, none⟩)), (6, w6), (7, .int .i64 x25), (23, va0_0), (24, .int .i64 (a0_0.length : Int)), (25, .int .i64 x25), (45, .bool y45)] ∧ C' = Sep w noM [R.box b2_1 85 [va0_0, va0_1], R.sl T6 w6 (x6 : List (Int))]) ?_ (fun hj_1 => ?_)
     ·rintro _ _ ⟨rfl, rfl⟩
      refine Nrm.seq ?_
      obtain ⟨y6, hE_3, hE_1⟩ := bind_some hE_1
      refine Tri.cut (fun e' C' => ∃ (v6_1 : Value) (S6_1 : Nat → Prop), SlLen v6_1 (y6).length ∧ e' = [(1, .int .i64 a1), (2, .pointer (some ⟨b2_1, 0, none⟩)), (6, v6_1), (23, va0_0), (24, .int .i64 (a0_0.length : Int)), (25, .int .i64 x25)] ∧ C' = Sep w noM [R.box b2_1 85 [va0_0, va0_1], R.sl S6_1 v6_1 (y6 : List (Int))]) ?_ (fun hj_2 => ?_)
      ·rintro _ _ ⟨v6_1, S6_1, hl_v6_1, rfl, rfl⟩
       refine Nrm.block ?_
       refine Nrm.seq (Tri.reg (l := [0, 1]) rfl ?_)
       refine F.qn rfl (r_add rfl rfl) (F.qn rfl (r_move rfl) (F.nil (Nrm.round ?_)))
       refine Rnd.only [1, 2, 6, 23, 24, 25] rfl ?_
       refine Rnd.pick [0, 1] rfl rfl ?_
       exact ih_1 _ _ ⟨y6, w64 (x25 + 1), v6_1, S6_1, hE_1, hl_v6_1, rfl, rfl⟩
      ·refine Tri.cond (b := y45) rfl (fun g_4 => ?_) (fun g_4 => ?_)
       ·replace hE_3 := if_tt g_4 hE_3
        obtain ⟨hs49, hE_3⟩ := ck hE_3
        refine Tri.reg (l := [0, 1, 2, 3, 4]) rfl ?_
        refine F.qn rfl (r_move rfl) (F.qn rfl (r_move rfl) ?_)
        refine F.mn rfl (m_buildF (l := ([x25] : List (Int))) Try.underlying25 ti3 rfl rfl rfl rfl rfl) ?_
        rintro v48_1 _ ⟨S48_1, hl_v48_1, rfl⟩
        refine F.efn rfl (d_append (i := 2) Try.underlying25 Try.underlying25 ti3 rfl (by decide) rfl rfl rfl (rd_sl (i := 0) rfl) hs49) ?_
        rintro v49_1 _ ⟨S49_1, rfl, hl_v49_1⟩
        refine F.qn rfl (r_assign rfl) (F.nil ?_)
        cases hE_3
        refine Nrm.only [1, 2, 6, 23, 24, 25] rfl ?_
        refine Nrm.pick [1, 2] rfl rfl ?_
        exact hj_2 _ _ ⟨v49_1, S49_1, hl_v49_1, rfl, rfl⟩
       ·replace hE_3 := if_ff g_4 hE_3
        refine Tri.skip ?_
        cases hE_3
        refine Nrm.only [1, 2, 6, 23, 24, 25] rfl ?_
        refine Nrm.pick [0, 1] rfl rfl ?_
        exact hj_2 _ _ ⟨w6, T6, hl_w6, rfl, rfl⟩
     ·rcases Bool.eq_false_or_eq_true (x25 != a1) with g33 | g33
      ·replace hE_2 := if_tt g33 hE_2
       obtain ⟨⟨t37_1, t37_2, t37_3⟩, h37, hE_2⟩ := bind_some hE_2
       obtain ⟨hx38, hE_2⟩ := ck hE_2
       obtain ⟨⟨t39_1, t39_2⟩, h39, hE_2⟩ := bind_some hE_2
       obtain ⟨t40, h40, hE_2⟩ := bind_some hE_2
       obtain ⟨t42, h42, hE_2⟩ := bind_some hE_2
       refine Tri.drawA mixedT Sep.up [(0, true), (1, true), (2, true), (3, true), (4, true), (5, true), (6, true), (11, true), (7, false), (8, false), (9, false), (10, false), (12, true), (13, true), (14, true), (15, true)] [] (by kernel_rfl) ?_
       refine S.qn rfl (r_move rfl) (S.qn rfl (r_move rfl) ?_)
       refine S.qn rfl (r_neq rfl rfl) (S.qn rfl (r_move rfl) (S.qg rfl g33 (r_loadA ta85 ti85 rfl rfl (fun w hw => (box_cells (i := 1) rfl w hw))) (S.qg rfl g33 (r_move rfl) (S.qg rfl g33 (r_loadA ta27 ti27 rfl rfl (fun w hw => (box_cells (i := 0) rfl w hw))) (S.qg rfl g33 (r_move rfl) ?_)))))
       refine S.m rfl rfl rfl (wg rfl rfl rfl g33) (m_callF (xs := _) rfl ok110 rfl rfl (fun w hw => impl_laid.ok h37 w ((fun _ hw => hr_v28_1.sep hw) w hw) ((fun _ hw => hr_v28_2.sep hw) w hw) ((fun _ _ => rd_nil) w hw) ((fun _ _ => rd_nil) w hw))) ?_
       rintro _ _ ⟨_, ⟨v37_5, S37_5, v37_6, S37_6, rfl, hl_v37_5, hl_v37_6, rfl⟩, rfl⟩
       refine S.m rfl rfl rfl (wg rfl rfl rfl g33) (m_callF (xs := _) rfl ok157 rfl rfl (fun w hw => impl_withMaze.okx (d := t37_2) (ks := t37_3) ⟨hx38.1, hx38.2.1⟩ hx38.2.2 w hab_va0_0 (Rd.sep hfl_va0_0 hw) ((fun _ hw => hr_a0_1.sep hw) w hw) (SlLen.leaf hl_v37_5) (SlLen.leaf hl_v37_6))) ?_
       rintro _ _ ⟨_, ⟨v38_3, S38_3, rfl, hl_v38_3, rfl⟩, rfl⟩
       refine S.m rfl rfl rfl (wg rfl rfl rfl g33) (m_callF (xs := _) rfl ok146 rfl rfl (fun w hw => impl_play.ok h39 w ((rd_withM (i := 0) rfl hab_va0_0 hrd_va0_0 (rd_sl (i := 1) rfl) (rd_sl (i := 2) rfl)) w hw) ((fun _ hw => hr_a0_1.sep hw) w hw))) ?_
       rintro _ _ ⟨_, ⟨v39_5, S39_5, v39_6, S39_6, rfl, hl_v39_5, hl_v39_6, rfl⟩, rfl⟩
       refine S.m rfl rfl rfl (wg rfl rfl rfl g33) (m_callF (xs := _) rfl ok152 rfl rfl (fun w hw => impl_played_won.ok h40 w ((rd_sl (i := 0) rfl) w hw) ((rd_sl (i := 1) rfl) w hw))) ?_
       rintro v40_3 _ ⟨_, ⟨S40_3, hl_v40_3, rfl⟩, rfl⟩
       refine S.qg rfl g33 (r_indexAddrS Try.underlying25 ti3 rfl hl_v40_3 rfl (rdl_some h42).1 (rdl_some h42).2.1) (S.qg rfl g33 (r_load ta3 rfl (fun w hw => cell_0 (Rd.flat ((rd_sl (i := 0) rfl) w hw) (rdl_some h42).2.2) rfl)) (S.qg rfl g33 (r_lss rfl rfl) (S.qn rfl (r_pick rfl rfl g33) (S.nil (F.nil ?_)))))
       cases hE_2
       refine Nrm.only [1, 2, 6, 7, 23, 24, 25, 45] rfl ?_
       refine Nrm.pick [7, 8] rfl rfl ?_
       exact hj_1 _ _ ⟨rfl, rfl⟩
      ·replace hE_2 := if_ff g33 hE_2
       refine Tri.drawA mixedT Sep.up [(0, true), (1, true), (2, true), (3, true), (4, true), (5, true), (6, true), (7, true), (8, true), (9, true), (10, true), (11, true), (12, true), (13, true), (14, true), (15, true)] [] (by kernel_rfl) ?_
       refine S.qn rfl (r_move rfl) (S.qn rfl (r_move rfl) (S.qn rfl (r_neq rfl rfl) (S.qn rfl (r_move rfl) ?_)))
       iterate 11 refine S.skf rfl g33 ?_
       refine S.qn rfl (r_pickf rfl rfl g33) (S.nil (F.nil ?_))
       cases hE_2
       refine Nrm.only [1, 2, 6, 7, 23, 24, 25, 45] rfl ?_
       refine Nrm.pick [1, 2] rfl rfl ?_
       exact hj_1 _ _ ⟨rfl, rfl⟩
    ·replace hE_1 := if_ff g_3 hE_1
     refine Tri.exit ?_
     refine Exi.then ?_
     refine Exi.then ?_
     refine Exi.same ?_
     cases hE_1
     refine Nrm.seq (Tri.seq (Tri.reg (l := [0, 1, 2]) rfl ?_))
     refine F.qn rfl (r_move rfl) (F.qn rfl (r_assign rfl) (F.qn rfl (r_assign rfl) (F.nil (Nrm.seq (Tri.ret ?_)))))
     cases h
     exact Rtn.body (.tmp rfl (.tmp rfl .nil)) (fun w hw => ⟨_, _, rfl, ⟨w6, T6, rfl, hl_w6, rfl⟩, Sep.pick (is := [1]) rfl rfl hw⟩)


def spec_l10World.f (k : Nat) (a0_0 : List (Int × List (Int × Int × Int) × List Int)) (a0_1 : List (List Int)) (a1 : Int) : Option (Bool) := ((spec_l10Worlds.f k a0_0 a0_1).bind fun t6 => (if t6 = true then (spec_l1In.f k a1 0 (w64 ((a0_0.length : Int) - 1))).bind fun t13 => some t13 else some false)).bind fun y4 => some y4

theorem spec_l10World.ok {k : Nat}  {a0_0 : List (Int × List (Int × Int × Int) × List Int)} {a0_1 : List (List Int)} {a1 : Int} {r0 : Bool} (h : spec_l10World.f k a0_0 a0_1 a1 = some r0) (w : World) {va0_0 : Value} {va0_1 : Value} (hr_a0_0 : Rd w va0_0 a0_0) (hr_a0_1 : Rd w va0_1 a0_1) :
  Calls Try.prog 158 ([.agg ([va0_0, va0_1].toArray), .int .i64 a1] : List Value).toArray w (fun e w' => e = .returned (.bool r0) ∧ Ext w w') := by
 unfold spec_l10World.f at h
 have hl_va0_0 := hr_a0_0.len
 have hl_va0_1 := hr_a0_1.len
 refine Calls.of_tri (N := 15) Try.func158 rfl rfl rfl (Sep.nil (M := noM)) ?_
 refine Tri.seq (Tri.reg (l := [0, 1]) rfl ?_)
 refine F.mn rfl (m_boxG rfl rfl) ?_
 rintro _ _ ⟨b2_1, rfl, rfl⟩
 refine F.qn rfl (r_assign rfl) (F.nil (Nrm.seq (Tri.seq ?_)))
 obtain ⟨y4, hE_1, h⟩ := bind_some h
 refine Tri.cut (fun e' C' => e' = [(4, .bool y4)] ∧ C' = Sep w noM []) ?_ (fun hj_1 => ?_)
 ·rintro _ _ ⟨rfl, rfl⟩
  refine Nrm.seq (Tri.ret ?_)
  cases h
  exact Rtn.body (.tmp rfl .nil) (fun w hw => ⟨rfl, hw.ext⟩)
 ·obtain ⟨t6, h6, hE_1⟩ := bind_some hE_1
  rcases Bool.eq_false_or_eq_true (t6) with g7 | g7
  ·replace hE_1 := if_tt g7 hE_1
   obtain ⟨t13, h13, hE_1⟩ := bind_some hE_1
   refine Tri.reg (l := [0, 1, 2, 3, 4, 5, 6, 7, 8, 9, 10]) rfl ?_
   refine F.qn rfl (r_loadA ta85 ti85 rfl rfl (fun w hw => (box_cells (i := 0) rfl w hw))) ?_
   refine F.qcn rfl (q_callF (xs := _) rfl ok147 rfl rfl (fun w hw => spec_l10Worlds.ok h6 w ((fun _ hw => hr_a0_0.sep hw) w hw) ((fun _ hw => hr_a0_1.sep hw) w hw))) ?_
   refine F.qn rfl (r_move rfl) (F.qg rfl g7 (r_move rfl) (F.qg rfl g7 (r_fieldAddr tf85_0 rfl) (F.qg rfl g7 (r_load ta82 rfl (fun w hw => cell_1 (box_cells (i := 0) rfl w hw) rfl)) (F.qg rfl g7 (r_len Try.underlying82 rfl hl_va0_0) (F.qg rfl g7 (r_sub rfl rfl) ?_)))))
   refine F.qc rfl rfl rfl (wg rfl rfl rfl g7) (q_callF (xs := _) rfl ok105 rfl rfl (fun w hw => spec_l1In.ok h13 w )) ?_
   refine F.qn rfl (r_pick rfl rfl g7) (F.qn rfl (r_assign rfl) (F.nil ?_))
   cases hE_1
   refine Nrm.only [4] rfl ?_
   refine Nrm.pick [] rfl rfl ?_
   exact hj_1 _ _ ⟨rfl, rfl⟩
  ·replace hE_1 := if_ff g7 hE_1
   refine Tri.reg (l := [0, 1, 2, 3, 4, 5, 6, 7, 8, 9, 10]) rfl ?_
   refine F.qn rfl (r_loadA ta85 ti85 rfl rfl (fun w hw => (box_cells (i := 0) rfl w hw))) ?_
   refine F.qcn rfl (q_callF (xs := _) rfl ok147 rfl rfl (fun w hw => spec_l10Worlds.ok h6 w ((fun _ hw => hr_a0_0.sep hw) w hw) ((fun _ hw => hr_a0_1.sep hw) w hw))) ?_
   refine F.qn rfl (r_move rfl) ?_
   iterate 6 refine F.skf rfl g7 ?_
   refine F.qn rfl (r_pickf rfl rfl g7) (F.qn rfl (r_assign rfl) (F.nil ?_))
   cases hE_1
   refine Nrm.only [4] rfl ?_
   refine Nrm.pick [] rfl rfl ?_
   exact hj_1 _ _ ⟨rfl, rfl⟩


def spec_l2Own.f (k : Nat) (a0_0 : Int) (a0_1 : List (Int × Int × Int)) (a0_2 : List Int) : Option (Int × (List (Int × Int × Int)) × (List Int)) := if (([] : List (Int × Int × Int)) ++ a0_1).length < 1099511627776 then (spec_l1Own.f k a0_2).bind fun t11 => some (a0_0, ([] : List (Int × Int × Int)) ++ a0_1, t11) else none

theorem spec_l2Own.ok {k : Nat}  {a0_0 : Int} {a0_1 : List (Int × Int × Int)} {a0_2 : List Int} {r0 : Int} {r1 : List (Int × Int × Int)} {r2 : List Int} (h : spec_l2Own.f k a0_0 a0_1 a0_2 = some (r0, r1, r2)) (w : World) {va0_1 : Value} {va0_2 : Value} (hr_a0_1 : Rd w va0_1 a0_1) (hr_a0_2 : Rd w va0_2 a0_2) :
  Calls Try.prog 182 ([.agg ([.int .i64 a0_0, va0_1, va0_2].toArray)] : List Value).toArray w (Post (fun u ns => ∃ (ur1 : Value) (Sr1 : Nat → Prop) (ur2 : Value) (Sr2 : Nat → Prop), u = .agg [.int .i64 r0, ur1, ur2].toArray ∧ SlLen ur1 r1.length ∧ SlLen ur2 r2.length ∧ ns = [R.sl Sr1 ur1 r1, R.sl Sr2 ur2 r2]) w) := by
 unfold spec_l2Own.f at h
 have hl_va0_1 := hr_a0_1.len
 have hl_va0_2 := hr_a0_2.len
 refine Calls.of_tri (N := 13) Try.func182 rfl rfl rfl (Sep.nil (M := noM)) ?_
 refine Tri.seq (Tri.reg (l := [0, 1]) rfl ?_)
 refine F.mn rfl (m_boxG rfl rfl) ?_
 rintro _ _ ⟨b1_1, rfl, rfl⟩
 refine F.mn rfl (m_alloc ti27) ?_
 rintro _ _ ⟨b2_1, rfl, rfl⟩
 refine F.nil (Nrm.seq (Tri.seq ?_))
 obtain ⟨hs8, h⟩ := ck h
 obtain ⟨t11, h11, h⟩ := bind_some h
 refine Tri.drawB mixedT Sep.up [(0, true), (1, true), (3, true), (4, true), (6, true), (7, true), (2, false), (5, false), (8, false)] [9, 10] (by kernel_rfl) ?_
 refine B.q rfl rfl rfl (wanted_none rfl) (r_fieldAddr tf27_0 rfl) ?_
 refine B.q rfl rfl rfl (wanted_none rfl) (r_load ta3 rfl (fun w hw => cell_1 (box_cells (i := 1) rfl w hw) rfl)) ?_
 refine B.q rfl rfl rfl (wanted_none rfl) (r_fieldAddr tf27_1 rfl) ?_
 refine B.q rfl rfl rfl (wanted_none rfl) (r_load ta24 rfl (fun w hw => cell_1 (box_cells (i := 1) rfl w hw) rfl)) ?_
 refine B.q rfl rfl rfl (wanted_none rfl) (r_fieldAddr tf27_2 rfl) ?_
 refine B.q rfl rfl rfl (wanted_none rfl) (r_load ta25 rfl (fun w hw => cell_1 (box_cells (i := 1) rfl w hw) rfl)) ?_
 refine B.ef rfl rfl rfl (wanted_none rfl) (Makes.does (m_build0 (α := Int × Int × Int) Try.underlying24 ti121)) (by rintro v5_2 _ ⟨S5_2, hl_v5_2, rfl⟩; exact upd rfl [1, 2] rfl rfl) ?_
 rintro v5_2 _ ⟨S5_2, hl_v5_2, rfl⟩
 refine B.ef rfl rfl rfl (wanted_none rfl) (d_append (i := 0) Try.underlying24 Try.underlying24 ti121 rfl (by decide) rfl rfl rfl (fun _ hw => hr_a0_1.sep hw) hs8) (by rintro v8_2 _ ⟨S8_2, rfl, hl_v8_2⟩; exact upd rfl [1, 2] rfl rfl) ?_
 rintro v8_2 _ ⟨S8_2, rfl, hl_v8_2⟩
 refine B.ef rfl rfl rfl (wanted_none rfl) (Makes.does (m_callF (xs := _) rfl ok183 rfl rfl (fun w hw => spec_l1Own.ok h11 w ((fun _ hw => hr_a0_2.sep hw) w hw)))) (by rintro v11_2 _ ⟨_, ⟨S11_2, hl_v11_2, rfl⟩, rfl⟩; exact upd rfl [2, 3] rfl rfl) ?_
 rintro v11_2 _ ⟨_, ⟨S11_2, hl_v11_2, rfl⟩, rfl⟩
 refine B.nil ?_
 refine F.qn rfl (r_build (pl := [(0, 1), (1, 1), (2, 1)]) (qs := [(0, [.int .i64 a0_0]), (1, [v8_2]), (2, [v11_2])]) (cs := [.int .i64 a0_0, v8_2, v11_2]) (by kernel_rfl) ti27 rfl (.cons rfl rfl (Nat.le_of_ble_eq_true rfl) (.cons (sl_cells hl_v8_2) rfl (Nat.le_of_ble_eq_true rfl) (.cons (sl_cells hl_v11_2) rfl (Nat.le_of_ble_eq_true rfl) .nil))) rfl rfl) ?_
 refine F.ef0 rfl rfl (wanted_none rfl) (d_storeG0 (i := 2) (cs2 := [.int .i64 a0_0, v8_2, v11_2]) ti27 rfl rfl rfl rfl rfl (Nat.le_of_ble_eq_true rfl) (lf_cons rfl (lf_cons (sl_leaf hl_v8_2) (lf_cons (sl_leaf hl_v11_2) lf_nil)))) ?_
 rintro _ _ ⟨rfl, rfl⟩
 refine F.nil (Nrm.seq (Tri.ret ?_))
 cases h
 exact Rtn.body (.cell rfl ta27 ti27 rfl (fun _ hw => box_cells (i := 2) rfl _ hw) .nil) (fun w hw => ⟨_, _, rfl, ⟨v8_2, S8_2, v11_2, S11_2, rfl, hl_v8_2, hl_v11_2, rfl⟩, Sep.pick (is := [1, 0]) rfl rfl hw⟩)


def spec_l10Own.l0 (k : Nat) (a0_0 : List (Int × List (Int × Int × Int) × List Int)) (a0_1 : List (List Int)) : Nat → Int → (List (Int × List (Int × Int × Int) × List Int)) → (List (List Int)) → Option ((List (Int × List (Int × Int × Int) × List Int)) × (List (List Int)))
 | 0, _, _, _ => none
 | n + 1, x4, xq3_1_0, xq3_1_1 => (if (decide (x4 < (a0_0.length : Int))) = true then (rdl a0_0 x4).bind fun t20 => (spec_l2Own.f k t20.1 t20.2.1 t20.2.2).bind fun (t22_1, t22_2, t22_3) => if ((xq3_1_0 : List (Int × List (Int × Int × Int) × List Int)) ++ ([(t22_1, t22_2, t22_3)] : List (Int × List (Int × Int × Int) × List Int))).length < 1099511627776 then (rdl a0_1 x4).bind fun t31 => (spec_l1Own.f k t31).bind fun t33 => if ((xq3_1_1 : List (List Int)) ++ ([t33] : List (List Int))).length < 1099511627776 then spec_l10Own.l0 k a0_0 a0_1 n (w64 (x4 + 1)) ((xq3_1_0 : List (Int × List (Int × Int × Int) × List Int)) ++ ([(t22_1, t22_2, t22_3)] : List (Int × List (Int × Int × Int) × List Int))) ((xq3_1_1 : List (List Int)) ++ ([t33] : List (List Int))) else none else none else some (xq3_1_0, xq3_1_1))

def spec_l10Own.f (k : Nat) (a0_0 : List (Int × List (Int × Int × Int) × List Int)) (a0_1 : List (List Int)) : Option ((List (Int × List (Int × Int × Int) × List Int)) × (List (List Int))) := (spec_l10Own.l0 k a0_0 a0_1 k 0 ([] : List (Int × List (Int × Int × Int) × List Int)) ([] : List (List Int))).bind fun (xq3_1_0, xq3_1_1) => some (xq3_1_0, xq3_1_1)

theorem spec_l10Own.ok {k : Nat}  {a0_0 : List (Int × List (Int × Int × Int) × List Int)} {a0_1 : List (List Int)} {r0 : List (Int × List (Int × Int × Int) × List Int)} {r1 : List (List Int)} (h : spec_l10Own.f k a0_0 a0_1 = some (r0, r1)) (w : World) {va0_0 : Value} {va0_1 : Value} (hr_a0_0 : Rd w va0_0 a0_0) (hr_a0_1 : Rd w va0_1 a0_1) :
  Calls Try.prog 159 ([.agg ([va0_0, va0_1].toArray)] : List Value).toArray w (Post (fun u ns => ∃ (ur0 : Value) (Sr0 : Nat → Prop) (ur1 : Value) (Sr1 : Nat → Prop), u = .agg [ur0, ur1].toArray ∧ SlLen ur0 r0.length ∧ SlLen ur1 r1.length ∧ ns = [R.sl Sr0 ur0 r0, R.sl Sr1 ur1 r1]) w) := by
 unfold spec_l10Own.f at h
 have hl_va0_0 := hr_a0_0.len
 have hl_va0_1 := hr_a0_1.len
 refine Calls.of_tri (N := 38) Try.func159 rfl rfl rfl (Sep.nil (M := noM)) ?_
 refine Tri.seq (Tri.reg (l := [0, 1]) rfl ?_)
 refine F.mn rfl (m_boxG rfl rfl) ?_
 rintro _ _ ⟨b1_1, rfl, rfl⟩
 refine F.mn rfl (m_alloc ti85) ?_
 rintro _ _ ⟨b2_1, rfl, rfl⟩
 refine F.nil (Nrm.seq (Tri.seq (Tri.reg (l := [0, 1, 2, 3, 4]) rfl ?_)))
 refine F.mn rfl (m_build0 (α := Int × List (Int × Int × Int) × List Int) Try.underlying82 ti27) ?_
 rintro v5_1 _ ⟨S5_1, hl_v5_1, rfl⟩
 refine F.mn rfl (m_build0 (α := List Int) Try.underlying83 ti25) ?_
 rintro v6_1 _ ⟨S6_1, hl_v6_1, rfl⟩
 refine F.qn rfl (r_build (pl := [(0, 1), (1, 1)]) (qs := [(0, [v5_1]), (1, [v6_1])]) (cs := [v5_1, v6_1]) (by kernel_rfl) ti85 rfl (.cons (sl_cells hl_v5_1) rfl (Nat.le_of_ble_eq_true rfl) (.cons (sl_cells hl_v6_1) rfl (Nat.le_of_ble_eq_true rfl) .nil)) rfl rfl) ?_
 refine F.mn rfl (m_alloc ti85) ?_
 rintro _ _ ⟨b3_1, rfl, rfl⟩
 refine F.ef0 rfl rfl (wanted_none rfl) (d_storeG0 (i := 0) (cs2 := [v5_1, v6_1]) ti85 rfl rfl rfl rfl rfl (Nat.le_of_ble_eq_true rfl) (lf_cons (sl_leaf hl_v5_1) (lf_cons (sl_leaf hl_v6_1) lf_nil))) ?_
 rintro _ _ ⟨rfl, rfl⟩
 refine F.nil (Nrm.seq (Tri.seq (Tri.seq (Tri.reg (l := [0]) rfl ?_))))
 refine F.qn rfl (r_assign rfl) (F.nil (Nrm.seq ?_))
 obtain ⟨⟨xq3_1_0, xq3_1_1⟩, hE_1, h⟩ := bind_some h
 refine Tri.block ?_
 refine Tri.only [1, 2, 3, 4] rfl ?_
 refine Tri.pick [0, 3, 4, 1, 2] rfl rfl ?_
 refine Tri.rounds (fun n e' C' => ∃ (x4' : Int) (xq3_1_0' : List (Int × List (Int × Int × Int) × List Int)) (xq3_1_1' : List (List Int)) (wq3_1_0 : Value) (Tq3_1_0 : Nat → Prop) (wq3_1_1 : Value) (Tq3_1_1 : Nat → Prop), spec_l10Own.l0 k a0_0 a0_1 n x4' xq3_1_0' xq3_1_1' = some (xq3_1_0, xq3_1_1) ∧ SlLen wq3_1_0 (xq3_1_0').length ∧ SlLen wq3_1_1 (xq3_1_1').length ∧ e' = [(1, .pointer (some ⟨b1_1, 0, none⟩)), (2, .pointer (some ⟨b2_1, 0, none⟩)), (3, .pointer (some ⟨b3_1, 0, none⟩)), (4, .int .i64 x4')] ∧ C' = Sep w noM [R.box b3_1 85 [wq3_1_0, wq3_1_1], R.box b2_1 85 [.slice none 0 0, .slice none 0 0], R.box b1_1 85 [va0_0, va0_1], R.sl Tq3_1_1 wq3_1_1 (xq3_1_1' : List (List Int)), R.sl Tq3_1_0 wq3_1_0 (xq3_1_0' : List (Int × List (Int × Int × Int) × List Int))]) k ?_ ?_ ?_
 ·exact ⟨0, ([] : List (Int × List (Int × Int × Int) × List Int)), ([] : List (List Int)), v5_1, S5_1, v6_1, S6_1, hE_1, hl_v5_1, hl_v6_1, rfl, rfl⟩
 ·rintro _ _ ⟨_, _, _, _, _, _, _, hE_1, _⟩
  rw [spec_l10Own.l0.eq_1] at hE_1; cases hE_1
 ·rintro n_1 _ _ ⟨x4, xq3_1_0, xq3_1_1, wq3_1_0, Tq3_1_0, wq3_1_1, Tq3_1_1, hE_1, hl_wq3_1_0, hl_wq3_1_1, rfl, rfl⟩ ih_1
  rw [spec_l10Own.l0.eq_2] at hE_1
  refine Tri.seq (Tri.seq (Tri.reg (l := [0, 1, 2, 3, 4]) rfl ?_))
  refine F.qn rfl (r_move rfl) (F.qn rfl (r_fieldAddr tf85_0 rfl) (F.qn rfl (r_load ta82 rfl (fun w hw => cell_1 (box_cells (i := 2) rfl w hw) rfl)) (F.qn rfl (r_len Try.underlying82 rfl hl_va0_0) (F.qn rfl (r_lss rfl rfl) (F.nil (Nrm.seq (Tri.cond (b := decide (x4 < (a0_0.length : Int))) rfl (fun g_1 => ?_) (fun g_1 => ?_))))))))
  ·replace hE_1 := if_tt g_1 hE_1
   refine Tri.skip (Nrm.seq (Tri.seq (Tri.block ?_)))
   refine Tri.seq ?_
   obtain ⟨t20, h20, hE_1⟩ := bind_some hE_1
   obtain ⟨_, hc20, hp20⟩ := Rd.elem hr_a0_0 (rdl_some h20).2.2
   obtain ⟨v20_1, v20_2, rfl, hr_v20_1, hr_v20_2⟩ := op27 hp20
   have hl_v20_1 := hr_v20_1.len
   have hl_v20_2 := hr_v20_2.len
   obtain ⟨⟨t22_1, t22_2, t22_3⟩, h22, hE_1⟩ := bind_some hE_1
   obtain ⟨hs24, hE_1⟩ := ck hE_1
   refine Tri.drawB mixedT Sep.up [(0, true), (1, true), (2, true), (3, true), (4, true), (5, true), (6, true), (7, false), (8, false)] [9, 10, 11] (by kernel_rfl) ?_
   refine B.q rfl rfl rfl (wanted_none rfl) (r_fieldAddr tf85_0 rfl) ?_
   refine B.q rfl rfl rfl (wanted_none rfl) (r_load ta82 rfl (fun w hw => cell_1 (box_cells (i := 0) rfl w hw) rfl)) ?_
   refine B.q rfl rfl rfl (wanted_none rfl) (r_fieldAddr tf85_0 rfl) ?_
   refine B.q rfl rfl rfl (wanted_none rfl) (r_load ta82 rfl (fun w hw => cell_1 (box_cells (i := 2) rfl w hw) rfl)) ?_
   refine B.q rfl rfl rfl (wanted_none rfl) (r_move rfl) ?_
   refine B.q rfl rfl rfl (wanted_none rfl) (r_indexAddrS Try.underlying82 ti27 rfl hl_va0_0 rfl (rdl_some h20).1 (rdl_some h20).2.1) ?_
   refine B.q rfl rfl rfl (wanted_none rfl) (r_loadA ta27 ti27 rfl rfl (fun w hw => (hc20.sep hw))) ?_
   refine B.ef rfl rfl rfl (wanted_none rfl) (Makes.does (m_callF (xs := _) rfl ok182 rfl rfl (fun w hw => spec_l2Own.ok h22 w ((fun _ hw => hr_v20_1.sep hw) w hw) ((fun _ hw => hr_v20_2.sep hw) w hw)))) (by rintro _ _ ⟨_, ⟨v22_3, S22_3, v22_4, S22_4, rfl, hl_v22_3, hl_v22_4, rfl⟩, rfl⟩; exact upd rfl [2, 3, 4, 5, 6] rfl rfl) ?_
   rintro _ _ ⟨_, ⟨v22_3, S22_3, v22_4, S22_4, rfl, hl_v22_3, hl_v22_4, rfl⟩, rfl⟩
   refine B.ef rfl rfl rfl (wanted_none rfl) (d_build1 (cells := [.int .i64 t22_1, v22_3, v22_4]) (x0 := ((t22_1, t22_2, t22_3) : Int × List (Int × Int × Int) × List Int)) (cs := [R.sl S22_3 v22_3 (t22_2 : List (Int × Int × Int)), R.sl S22_4 v22_4 (t22_3 : List (Int))]) (rest := [R.box b3_1 85 [wq3_1_0, wq3_1_1], R.box b2_1 85 [.slice none 0 0, .slice none 0 0], R.box b1_1 85 [va0_0, va0_1], R.sl Tq3_1_1 wq3_1_1 (xq3_1_1 : List (List Int)), R.sl Tq3_1_0 wq3_1_0 (xq3_1_0 : List (Int × List (Int × Int × Int) × List Int))]) [0, 1] [2, 3, 4, 5, 6] Try.underlying82 ti27 rfl rfl rfl (lf_cons rfl (lf_cons (sl_leaf hl_v22_3) (lf_cons (sl_leaf hl_v22_4) lf_nil))) rfl rfl (jn_pair (jn_int (n := t22_1)) (jn_pair (jn_sl (S := S22_3) (v := v22_3) (l := (t22_2 : List (Int × Int × Int)))) (jn_sl (S := S22_4) (v := v22_4) (l := (t22_3 : List (Int))))))) (by rintro v23_2 _ ⟨S23_2, hl_v23_2, rfl⟩; exact upd rfl [1, 2, 3, 4, 5] rfl rfl) ?_
   rintro v23_2 _ ⟨S23_2, hl_v23_2, rfl⟩
   refine B.nil ?_
   refine F.efn rfl (d_appendN (rest := [R.box b3_1 85 [wq3_1_0, wq3_1_1], R.box b2_1 85 [.slice none 0 0, .slice none 0 0], R.box b1_1 85 [va0_0, va0_1], R.sl Tq3_1_1 wq3_1_1 (xq3_1_1 : List (List Int))]) 5 0 [1, 2, 3, 4] Try.underlying82 Try.underlying82 ti27 rfl (by decide) rfl rfl rfl rfl hs24) ?_
   rintro v24_2 _ ⟨S24_2, hl_v24_2, rfl⟩
   refine F.qn rfl (r_fieldAddr tf85_0 rfl) ?_
   refine F.ef0 rfl rfl (wanted_none rfl) (d_storeG1 (i := 1) (cs2 := [v24_2]) ti82 rfl rfl rfl (sl_cells hl_v24_2) rfl (Nat.le_of_ble_eq_true rfl) (lf_cons (sl_leaf hl_v24_2) lf_nil)) ?_
   rintro _ _ ⟨rfl, rfl⟩
   refine F.nil (Nrm.seq ?_)
   obtain ⟨t31, h31, hE_1⟩ := bind_some hE_1
   obtain ⟨_, hc31, hp31⟩ := Rd.elem hr_a0_1 (rdl_some h31).2.2
   obtain ⟨v31_0, rfl, hr_v31_0⟩ := op25 hp31
   have hl_v31_0 := hr_v31_0.len
   obtain ⟨t33, h33, hE_1⟩ := bind_some hE_1
   obtain ⟨hs35, hE_1⟩ := ck hE_1
   refine Tri.drawB mixedT Sep.up [(0, true), (1, true), (2, true), (3, true), (4, true), (5, true), (6, true), (7, false), (8, false)] [9, 10, 11] (by kernel_rfl) ?_
   refine B.q rfl rfl rfl (wanted_none rfl) (r_fieldAddr tf85_1 rfl) ?_
   refine B.q rfl rfl rfl (wanted_none rfl) (r_load ta83 rfl (fun w hw => cell_1 (box_cells (i := 1) rfl w hw) rfl)) ?_
   refine B.q rfl rfl rfl (wanted_none rfl) (r_fieldAddr tf85_1 rfl) ?_
   refine B.q rfl rfl rfl (wanted_none rfl) (r_load ta83 rfl (fun w hw => cell_1 (box_cells (i := 3) rfl w hw) rfl)) ?_
   refine B.q rfl rfl rfl (wanted_none rfl) (r_move rfl) ?_
   refine B.q rfl rfl rfl (wanted_none rfl) (r_indexAddrS Try.underlying83 ti25 rfl hl_va0_1 rfl (rdl_some h31).1 (rdl_some h31).2.1) ?_
   refine B.q rfl rfl rfl (wanted_none rfl) (r_load ta25 rfl (fun w hw => cell_0 (hc31.sep hw) rfl)) ?_
   refine B.ef rfl rfl rfl (wanted_none rfl) (Makes.does (m_callF (xs := _) rfl ok183 rfl rfl (fun w hw => spec_l1Own.ok h33 w ((fun _ hw => hr_v31_0.sep hw) w hw)))) (by rintro v33_2 _ ⟨_, ⟨S33_2, hl_v33_2, rfl⟩, rfl⟩; exact upd rfl [1, 2, 3, 4, 5] rfl rfl) ?_
   rintro v33_2 _ ⟨_, ⟨S33_2, hl_v33_2, rfl⟩, rfl⟩
   refine B.ef rfl rfl rfl (wanted_none rfl) (d_build1 (cells := [v33_2]) (x0 := (t33 : List Int)) (cs := [R.sl S33_2 v33_2 (t33 : List (Int))]) (rest := [R.sl S24_2 v24_2 ((xq3_1_0 : List (Int × List (Int × Int × Int) × List Int)) ++ ([(t22_1, t22_2, t22_3)] : List (Int × List (Int × Int × Int) × List Int)) : List (Int × List (Int × Int × Int) × List Int)), R.box b3_1 85 [v24_2, wq3_1_1], R.box b2_1 85 [.slice none 0 0, .slice none 0 0], R.box b1_1 85 [va0_0, va0_1], R.sl Tq3_1_1 wq3_1_1 (xq3_1_1 : List (List Int))]) [0] [1, 2, 3, 4, 5] Try.underlying83 ti25 rfl (sl_cells hl_v33_2) rfl (lf_cons (sl_leaf hl_v33_2) lf_nil) rfl rfl (jn_sl (S := S33_2) (v := v33_2) (l := (t33 : List (Int))))) (by rintro v34_2 _ ⟨S34_2, hl_v34_2, rfl⟩; exact upd rfl [1, 2, 3, 4, 5] rfl rfl) ?_
   rintro v34_2 _ ⟨S34_2, hl_v34_2, rfl⟩
   refine B.nil ?_
   refine F.efn rfl (d_appendN (rest := [R.sl S24_2 v24_2 ((xq3_1_0 : List (Int × List (Int × Int × Int) × List Int)) ++ ([(t22_1, t22_2, t22_3)] : List (Int × List (Int × Int × Int) × List Int)) : List (Int × List (Int × Int × Int) × List Int)), R.box b3_1 85 [v24_2, wq3_1_1], R.box b2_1 85 [.slice none 0 0, .slice none 0 0], R.box b1_1 85 [va0_0, va0_1]]) 5 0 [1, 2, 3, 4] Try.underlying83 Try.underlying83 ti25 rfl (by decide) rfl rfl rfl rfl hs35) ?_
   rintro v35_2 _ ⟨S35_2, hl_v35_2, rfl⟩
   refine F.qn rfl (r_fieldAddr tf85_1 rfl) ?_
   refine F.ef0 rfl rfl (wanted_none rfl) (d_storeG1 (i := 2) (cs2 := [v35_2]) ti83 rfl rfl rfl (sl_cells hl_v35_2) rfl (Nat.le_of_ble_eq_true rfl) (lf_cons (sl_leaf hl_v35_2) lf_nil)) ?_
   rintro _ _ ⟨rfl, rfl⟩
   refine F.nil (Nrm.block ?_)
   refine Nrm.seq (Tri.reg (l := [0, 1, 2]) rfl ?_)
   refine F.qn rfl (r_move rfl) (F.qn rfl (r_add rfl rfl) (F.qn rfl (r_assign rfl) (F.nil (Nrm.round ?_))))
   refine Rnd.only [1, 2, 3, 4] rfl ?_
   refine Rnd.pick [2, 3, 4, 0, 1] rfl rfl ?_
   exact ih_1 _ _ ⟨w64 (x4 + 1), (xq3_1_0 : List (Int × List (Int × Int × Int) × List Int)) ++ ([(t22_1, t22_2, t22_3)] : List (Int × List (Int × Int × Int) × List Int)), (xq3_1_1 : List (List Int)) ++ ([t33] : List (List Int)), v24_2, S24_2, v35_2, S35_2, hE_1, hl_v24_2, hl_v35_2, rfl, rfl⟩
  ·replace hE_1 := if_ff g_1 hE_1
   refine Tri.exit ?_
   refine Exi.then ?_
   refine Exi.then ?_
   refine Exi.same ?_
   cases hE_1
   refine Nrm.seq (Tri.seq (Tri.reg (l := [0, 1]) rfl ?_))
   refine F.qn rfl (r_loadA ta85 ti85 rfl rfl (fun w hw => (box_cells (i := 0) rfl w hw))) ?_
   refine F.ef0 rfl rfl (wanted_none rfl) (d_storeG0 (i := 1) (cs2 := [wq3_1_0, wq3_1_1]) ti85 rfl rfl rfl rfl rfl (Nat.le_of_ble_eq_true rfl) (lf_cons (sl_leaf hl_wq3_1_0) (lf_cons (sl_leaf hl_wq3_1_1) lf_nil))) ?_
   rintro _ _ ⟨rfl, rfl⟩
   refine F.nil (Nrm.seq (Tri.ret ?_))
   cases h
   exact Rtn.body (.cell rfl ta85 ti85 rfl (fun _ hw => box_cells (i := 1) rfl _ hw) .nil) (fun w hw => ⟨_, _, rfl, ⟨wq3_1_0, Tq3_1_0, wq3_1_1, Tq3_1_1, rfl, hl_wq3_1_0, hl_wq3_1_1, rfl⟩, Sep.pick (is := [4, 3]) rfl rfl hw⟩)


def spec_LeansOn.l0 (k : Nat) (a0_0 : List (Int × List (Int × Int × Int) × List Int)) (a0_1 : List (List Int)) (a1 : Int) : Nat → (List (Int)) → Int → Option ((List (Int)))
 | 0, _, _ => none
 | n + 1, x6, x7 => (if (decide (x7 < (a0_0.length : Int))) = true then ((if (x7 == a1) = true then some x6 else (spec_l10Own.f k a0_0 a0_1).bind fun (t34_1, t34_2) => (rdl (t34_1 : List (Int × List (Int × Int × Int) × List Int)) x7).bind fun t41 => if 0 ≤ t41.1 ∧ t41.1 < 1099511627776 then (spec_l10Rounds.f k ((t34_1 : List (Int × List (Int × Int × Int) × List Int)).set (x7 : Int).toNat (t41.1, t41.2.1, List.replicate (t41.1).toNat (0 : Int))) t34_2 false).bind fun (t48_1, t48_2, t48_3) => (rdl t48_2 a1).bind fun t51 => ((if (decide (t51 < 0)) = true then if (x6 ++ ([x7] : List (Int))).length < 1099511627776 then some (x6 ++ ([x7] : List (Int))) else none else some x6)).bind fun y6 => some y6 else none)).bind fun y6 => spec_LeansOn.l0 k a0_0 a0_1 a1 n y6 (w64 (x7 + 1)) else some x6)

def spec_LeansOn.f (k : Nat) (a0_0 : List (Int × List (Int × Int × Int) × List Int)) (a0_1 : List (List Int)) (a1 : Int) : Option ((List Int) × Bool) := (spec_l10World.f k a0_0 a0_1 a1).bind fun t12 => (if (!t12) = true then some (([] : List (Int)), false) else (spec_l10Rounds.f k a0_0 a0_1 false).bind fun (t16_1, t16_2, t16_3) => (rdl t16_2 a1).bind fun t19 => (if (decide (t19 < 0)) = true then some (([] : List (Int)), true) else (spec_LeansOn.l0 k a0_0 a0_1 a1 k ([] : List (Int)) 0).bind fun x6 => some (x6, true)))

theorem spec_LeansOn.ok {k : Nat}  {a0_0 : List (Int × List (Int × Int × Int) × List Int)} {a0_1 : List (List Int)} {a1 : Int} {r0 : List Int} {r1 : Bool} (h : spec_LeansOn.f k a0_0 a0_1 a1 = some (r0, r1)) (w : World) {va0_0 : Value} {va0_1 : Value} (hr_a0_0 : Rd w va0_0 a0_0) (hr_a0_1 : Rd w va0_1 a0_1) :
  Calls Try.prog 81 ([.agg ([va0_0, va0_1].toArray), .int .i64 a1] : List Value).toArray w (Post (fun u ns => ∃ (ur0 : Value) (Sr0 : Nat → Prop), u = .tuple #[ur0, .bool r1] ∧ SlLen ur0 r0.length ∧ ns = [R.sl Sr0 ur0 r0]) w) := by
 unfold spec_LeansOn.f at h
 have hl_va0_0 := hr_a0_0.len
 have hl_va0_1 := hr_a0_1.len
 refine Calls.of_tri (N := 59) Try.func81 rfl rfl rfl (Sep.nil (M := noM)) ?_
 refine Tri.seq (Tri.reg (l := [0, 1, 2]) rfl ?_)
 refine F.mn rfl (m_boxG rfl rfl) ?_
 rintro _ _ ⟨b2_1, rfl, rfl⟩
 refine F.qn rfl (r_assign rfl) (F.qn rfl (r_assign rfl) (F.nil (Nrm.seq (Tri.seq (Tri.reg (l := [0, 1]) rfl ?_)))))
 refine F.mn rfl (m_build0 (α := Int) Try.underlying25 ti3) ?_
 rintro v9_1 _ ⟨S9_1, hl_v9_1, rfl⟩
 refine F.qn rfl (r_assign rfl) (F.nil (Nrm.seq (Tri.seq (Tri.seq ?_))))
 obtain ⟨t12, h12, h⟩ := bind_some h
 refine Tri.reg (l := [0, 1, 2, 3]) rfl ?_
 refine F.qn rfl (r_loadA ta85 ti85 rfl rfl (fun w hw => (box_cells (i := 1) rfl w hw))) (F.qn rfl (r_move rfl) ?_)
 refine F.qcn rfl (q_callF (xs := _) rfl ok158 rfl rfl (fun w hw => spec_l10World.ok h12 w ((fun _ hw => hr_a0_0.sep hw) w hw) ((fun _ hw => hr_a0_1.sep hw) w hw))) ?_
 refine F.qn rfl (r_not rfl) (F.nil (Nrm.seq (Tri.cond (b := !t12) rfl (fun g_1 => ?_) (fun g_1 => ?_))))
 ·replace h := if_tt g_1 h
  refine Tri.seq (Tri.reg (l := [0, 1, 2]) rfl ?_)
  refine F.qn rfl (r_move rfl) (F.qn rfl (r_assign rfl) (F.qn rfl (r_assign rfl) (F.nil (Nrm.seq (Tri.ret ?_)))))
  refine Rtn.then ?_
  cases h
  exact Rtn.body (.tmp rfl (.tmp rfl .nil)) (fun w hw => ⟨_, _, rfl, ⟨v9_1, S9_1, rfl, hl_v9_1, rfl⟩, Sep.pick (is := [0]) rfl rfl hw⟩)
 ·replace h := if_ff g_1 h
  refine Tri.skip (Nrm.seq (Tri.seq (Tri.seq ?_)))
  obtain ⟨⟨t16_1, t16_2, t16_3⟩, h16, h⟩ := bind_some h
  obtain ⟨t19, h19, h⟩ := bind_some h
  refine Tri.reg (l := [0, 1, 2, 3, 4, 5, 6]) rfl ?_
  refine F.qn rfl (r_loadA ta85 ti85 rfl rfl (fun w hw => (box_cells (i := 1) rfl w hw))) ?_
  refine F.mn rfl (m_callF (xs := _) rfl ok148 rfl rfl (fun w hw => spec_l10Rounds.ok h16 w ((fun _ hw => hr_a0_0.sep hw) w hw) ((fun _ hw => hr_a0_1.sep hw) w hw))) ?_
  rintro _ _ ⟨_, ⟨v16_1, S16_1, v16_2, S16_2, v16_3, S16_3, rfl, hl_v16_1, hl_v16_2, hl_v16_3, rfl⟩, rfl⟩
  refine F.qn rfl (r_field Try.underlying148 rfl ta25 rfl rfl) (F.qn rfl (r_move rfl) (F.qn rfl (r_indexAddrS Try.underlying25 ti3 rfl hl_v16_2 rfl (rdl_some h19).1 (rdl_some h19).2.1) (F.qn rfl (r_load ta3 rfl (fun w hw => cell_0 (Rd.flat ((rd_sl (i := 1) rfl) w hw) (rdl_some h19).2.2) rfl)) (F.qn rfl (r_lss rfl rfl) (F.nil (Nrm.seq (Tri.cond (b := decide (t19 < 0)) rfl (fun g_2 => ?_) (fun g_2 => ?_))))))))
  ·replace h := if_tt g_2 h
   refine Tri.seq (Tri.reg (l := [0, 1, 2]) rfl ?_)
   refine F.qn rfl (r_move rfl) (F.qn rfl (r_assign rfl) (F.qn rfl (r_assign rfl) (F.nil (Nrm.seq (Tri.ret ?_)))))
   refine Rtn.then ?_
   cases h
   exact Rtn.body (.tmp rfl (.tmp rfl .nil)) (fun w hw => ⟨_, _, rfl, ⟨v9_1, S9_1, rfl, hl_v9_1, rfl⟩, Sep.pick (is := [3]) rfl rfl hw⟩)
  ·replace h := if_ff g_2 h
   refine Tri.skip (Nrm.seq (Tri.seq (Tri.seq (Tri.reg (l := [0]) rfl ?_))))
   refine F.qn rfl (r_assign rfl) (F.nil (Nrm.seq ?_))
   obtain ⟨x6, hE_1, h⟩ := bind_some h
   refine Tri.block ?_
   refine Tri.only [1, 2, 6, 7] rfl ?_
   refine Tri.pick [4, 3] rfl rfl ?_
   refine Tri.rounds (fun n e' C' => ∃ (x6' : List (Int)) (x7' : Int) (w6 : Value) (T6 : Nat → Prop), spec_LeansOn.l0 k a0_0 a0_1 a1 n x6' x7' = some x6 ∧ SlLen w6 (x6').length ∧ e' = [(1, .int .i64 a1), (2, .pointer (some ⟨b2_1, 0, none⟩)), (6, w6), (7, .int .i64 x7')] ∧ C' = Sep w noM [R.box b2_1 85 [va0_0, va0_1], R.sl T6 w6 (x6' : List (Int))]) k ?_ ?_ ?_
   ·exact ⟨([] : List (Int)), 0, v9_1, S9_1, hE_1, hl_v9_1, rfl, rfl⟩
   ·rintro _ _ ⟨_, _, _, _, hE_1, _⟩
    rw [spec_LeansOn.l0.eq_1] at hE_1; cases hE_1
   ·rintro n_1 _ _ ⟨x6, x7, w6, T6, hE_1, hl_w6, rfl, rfl⟩ ih_1
    rw [spec_LeansOn.l0.eq_2] at hE_1
    refine Tri.seq (Tri.seq (Tri.reg (l := [0, 1, 2, 3, 4]) rfl ?_))
    refine F.qn rfl (r_move rfl) (F.qn rfl (r_fieldAddr tf85_0 rfl) (F.qn rfl (r_load ta82 rfl (fun w hw => cell_1 (box_cells (i := 0) rfl w hw) rfl)) (F.qn rfl (r_len Try.underlying82 rfl hl_va0_0) (F.qn rfl (r_lss rfl rfl) (F.nil (Nrm.seq (Tri.cond (b := decide (x7 < (a0_0.length : Int))) rfl (fun g_3 => ?_) (fun g_3 => ?_))))))))
    ·replace hE_1 := if_tt g_3 hE_1
     refine Tri.skip (Nrm.seq (Tri.seq ?_))
     obtain ⟨y6, hE_2, hE_1⟩ := bind_some hE_1
     refine Tri.cut (fun e' C' => ∃ (v6_1 : Value) (S6_1 : Nat → Prop), SlLen v6_1 (y6).length ∧ e' = [(1, .int .i64 a1), (2, .pointer (some ⟨b2_1, 0, none⟩)), (6, v6_1), (7, .int .i64 x7)] ∧ C' = Sep w noM [R.box b2_1 85 [va0_0, va0_1], R.sl S6_1 v6_1 (y6 : List (Int))]) ?_ (fun hj_1 => ?_)
     ·rintro _ _ ⟨v6_1, S6_1, hl_v6_1, rfl, rfl⟩
      refine Nrm.seq (Tri.reg (l := [0, 1, 2]) rfl ?_)
      refine F.qn rfl (r_move rfl) (F.qn rfl (r_add rfl rfl) (F.qn rfl (r_assign rfl) (F.nil (Nrm.round ?_))))
      refine Rnd.only [1, 2, 6, 7] rfl ?_
      refine Rnd.pick [0, 1] rfl rfl ?_
      exact ih_1 _ _ ⟨y6, w64 (x7 + 1), v6_1, S6_1, hE_1, hl_v6_1, rfl, rfl⟩
     ·refine Tri.block ?_
      refine Tri.seq (Tri.seq (Tri.reg (l := [0, 1, 2]) rfl ?_))
      refine F.qn rfl (r_move rfl) (F.qn rfl (r_move rfl) (F.qn rfl (r_eql rfl rfl) (F.nil (Nrm.seq (Tri.cond (b := x7 == a1) rfl (fun g_4 => ?_) (fun g_4 => ?_))))))
      ·replace hE_2 := if_tt g_4 hE_2
       refine Tri.exit ?_
       refine Exi.then ?_
       refine Exi.same ?_
       cases hE_2
       refine Nrm.only [1, 2, 6, 7] rfl ?_
       refine Nrm.pick [0, 1] rfl rfl ?_
       exact hj_1 _ _ ⟨w6, T6, hl_w6, rfl, rfl⟩
      ·replace hE_2 := if_ff g_4 hE_2
       refine Tri.skip (Nrm.seq (Tri.seq ?_))
       obtain ⟨⟨t34_1, t34_2⟩, h34, hE_2⟩ := bind_some hE_2
       refine Tri.reg (l := [0, 1, 2, 3]) rfl ?_
       refine F.qn rfl (r_loadA ta85 ti85 rfl rfl (fun w hw => (box_cells (i := 0) rfl w hw))) ?_
       refine F.mn rfl (m_callF (xs := _) rfl ok159 rfl rfl (fun w hw => spec_l10Own.ok h34 w ((fun _ hw => hr_a0_0.sep hw) w hw) ((fun _ hw => hr_a0_1.sep hw) w hw))) ?_
       rintro _ _ ⟨_, ⟨v34_1, S34_1, v34_2, S34_2, rfl, hl_v34_1, hl_v34_2, rfl⟩, rfl⟩
       refine F.mn rfl (m_alloc ti85) ?_
       rintro _ _ ⟨b8_1, rfl, rfl⟩
       refine F.ef0 rfl rfl (wanted_none rfl) (d_storeG0 (i := 0) (cs2 := [v34_1, v34_2]) ti85 rfl rfl rfl rfl rfl (Nat.le_of_ble_eq_true rfl) (lf_cons (sl_leaf hl_v34_1) (lf_cons (sl_leaf hl_v34_2) lf_nil))) ?_
       rintro _ _ ⟨rfl, rfl⟩
       refine F.nil (Nrm.seq (Tri.seq ?_))
       obtain ⟨t41, h41, hE_2⟩ := bind_some hE_2
       obtain ⟨hm44, hE_2⟩ := ck hE_2
       refine Tri.ex (on27 [1] [0, 2, 3, 4] rfl rfl (rdl_some h41).2.2) ?_
       rintro _ ⟨v41_1_1, S41_1_1, v41_2_1, S41_2_1, Sr41_1, hl_v41_1_1, hl_v41_2_1, hS41_1, rfl⟩
       refine Tri.drawA mixedT Sep.up [(0, true), (1, true), (2, true), (3, true), (4, true), (5, true), (6, true), (7, true), (8, true), (9, false), (10, true), (11, true)] [12] (by kernel_rfl) ?_
       refine S.qn rfl (r_fieldAddr tf85_0 rfl) (S.qn rfl (r_load ta82 rfl (fun w hw => cell_1 (box_cells (i := 3) rfl w hw) rfl)) (S.qn rfl (r_move rfl) ?_))
       refine S.qn rfl (r_fieldAddr tf85_0 rfl) (S.qn rfl (r_load ta82 rfl (fun w hw => cell_1 (box_cells (i := 3) rfl w hw) rfl)) (S.qn rfl (r_move rfl) (S.qn rfl (r_indexAddrS Try.underlying82 ti27 rfl hl_v34_1 rfl (rdl_some h41).1 (rdl_some h41).2.1) (S.qn rfl (r_fieldAddr tf27_0 rfl) (S.qn rfl (r_load ta3 rfl (fun w hw => cell_1 (hole_cells (p := 2) rfl w hw) rfl)) ?_)))))
       refine S.m rfl rfl rfl (wanted_none rfl) (m_make (x0 := (0 : Int)) Try.underlying25 ti3 rfl rfl rfl hm44.1 hm44.2 (by decide)) ?_
       rintro v44_2 _ ⟨S44_2, hl_v44_2, rfl⟩
       refine S.qn rfl (r_indexAddrS Try.underlying82 ti27 rfl hl_v34_1 rfl (rdl_some h41).1 (rdl_some h41).2.1) (S.qn rfl (r_fieldAddr tf27_2 rfl) (S.nil (F.ef0 rfl rfl (wanted_none rfl) (d_storeH1 (α := Int × List (Int × Int × Int) × List Int) (p := 3) (k := 2) (cs2 := [v44_2]) ti25 rfl rfl rfl (sl_cells hl_v44_2) rfl (Nat.le_of_ble_eq_true rfl) (lf_cons (sl_leaf hl_v44_2) lf_nil)) ?_)))
       rintro _ _ ⟨rfl, rfl⟩
       refine F.nil (Nrm.ex (clo (cs := [R.sl S41_1_1 v41_1_1 (t41.2.1 : List (Int × Int × Int)), R.sl S44_2 v44_2 (List.replicate (t41.1).toNat (0 : Int) : List (Int))]) (rest := [R.sl S41_2_1 v41_2_1 (t41.2.2 : List (Int)), R.box b8_1 85 [v34_1, v34_2], R.sl S34_2 v34_2 (t34_2 : List (List Int)), R.box b2_1 85 [va0_0, va0_1], R.sl T6 w6 (x6 : List (Int))]) [1, 0, 3] [2, 4, 5, 6, 7] rfl rfl (jn_pair (jn_int (n := t41.1)) (jn_pair (jn_sl (S := S41_1_1) (v := v41_1_1) (l := (t41.2.1 : List (Int × Int × Int)))) (jn_sl (S := S44_2) (v := v44_2) (l := (List.replicate (t41.1).toNat (0 : Int) : List (Int))))))) ?_)
       rintro _ ⟨Sc_1, rfl⟩
       refine Nrm.seq (Tri.seq ?_)
       obtain ⟨⟨t48_1, t48_2, t48_3⟩, h48, hE_2⟩ := bind_some hE_2
       obtain ⟨t51, h51, hE_2⟩ := bind_some hE_2
       refine Tri.reg (l := [0, 1, 2, 3, 4, 5, 6]) rfl ?_
       refine F.qn rfl (r_loadA ta85 ti85 rfl rfl (fun w hw => (box_cells (i := 2) rfl w hw))) ?_
       refine F.mn rfl (m_callF (xs := _) rfl ok148 rfl rfl (fun w hw => spec_l10Rounds.ok h48 w ((rd_sl (i := 0) rfl) w hw) ((rd_sl (i := 3) rfl) w hw))) ?_
       rintro _ _ ⟨_, ⟨v48_1, S48_1, v48_2, S48_2, v48_3, S48_3, rfl, hl_v48_1, hl_v48_2, hl_v48_3, rfl⟩, rfl⟩
       refine F.qn rfl (r_field Try.underlying148 rfl ta25 rfl rfl) (F.qn rfl (r_move rfl) (F.qn rfl (r_indexAddrS Try.underlying25 ti3 rfl hl_v48_2 rfl (rdl_some h51).1 (rdl_some h51).2.1) (F.qn rfl (r_load ta3 rfl (fun w hw => cell_0 (Rd.flat ((rd_sl (i := 1) rfl) w hw) (rdl_some h51).2.2) rfl)) (F.qn rfl (r_lss rfl rfl) (F.nil (Nrm.seq ?_))))))
       obtain ⟨y6, hE_3, hE_2⟩ := bind_some hE_2
       refine Tri.cut (fun e' C' => ∃ (v6_2 : Value) (S6_2 : Nat → Prop), SlLen v6_2 (y6).length ∧ e' = [(1, .int .i64 a1), (2, .pointer (some ⟨b2_1, 0, none⟩)), (6, v6_2), (7, .int .i64 x7)] ∧ C' = Sep w noM [R.box b2_1 85 [va0_0, va0_1], R.sl S6_2 v6_2 (y6 : List (Int))]) ?_ (fun hj_2 => ?_)
       ·rintro _ _ ⟨v6_2, S6_2, hl_v6_2, rfl, rfl⟩
        refine Nrm.block ?_
        cases hE_2
        refine Nrm.only [1, 2, 6, 7] rfl ?_
        refine Nrm.pick [0, 1] rfl rfl ?_
        exact hj_1 _ _ ⟨v6_2, S6_2, hl_v6_2, rfl, rfl⟩
       ·refine Tri.cond (b := decide (t51 < 0)) rfl (fun g_5 => ?_) (fun g_5 => ?_)
        ·replace hE_3 := if_tt g_5 hE_3
         obtain ⟨hs57, hE_3⟩ := ck hE_3
         refine Tri.reg (l := [0, 1, 2, 3, 4]) rfl ?_
         refine F.qn rfl (r_move rfl) (F.qn rfl (r_move rfl) ?_)
         refine F.mn rfl (m_buildF (l := ([x7] : List (Int))) Try.underlying25 ti3 rfl rfl rfl rfl rfl) ?_
         rintro v56_1 _ ⟨S56_1, hl_v56_1, rfl⟩
         refine F.efn rfl (d_append (i := 9) Try.underlying25 Try.underlying25 ti3 rfl (by decide) rfl rfl rfl (rd_sl (i := 0) rfl) hs57) ?_
         rintro v57_1 _ ⟨S57_1, rfl, hl_v57_1⟩
         refine F.qn rfl (r_assign rfl) (F.nil ?_)
         cases hE_3
         refine Nrm.only [1, 2, 6, 7] rfl ?_
         refine Nrm.pick [8, 9] rfl rfl ?_
         exact hj_2 _ _ ⟨v57_1, S57_1, hl_v57_1, rfl, rfl⟩
        ·replace hE_3 := if_ff g_5 hE_3
         refine Tri.skip ?_
         cases hE_3
         refine Nrm.only [1, 2, 6, 7] rfl ?_
         refine Nrm.pick [7, 8] rfl rfl ?_
         exact hj_2 _ _ ⟨w6, T6, hl_w6, rfl, rfl⟩
    ·replace hE_1 := if_ff g_3 hE_1
     refine Tri.exit ?_
     refine Exi.then ?_
     refine Exi.then ?_
     refine Exi.same ?_
     cases hE_1
     refine Nrm.seq (Tri.seq (Tri.reg (l := [0, 1, 2]) rfl ?_))
     refine F.qn rfl (r_move rfl) (F.qn rfl (r_assign rfl) (F.qn rfl (r_assign rfl) (F.nil (Nrm.seq (Tri.ret ?_)))))
     cases h
     exact Rtn.body (.tmp rfl (.tmp rfl .nil)) (fun w hw => ⟨_, _, rfl, ⟨w6, T6, rfl, hl_w6, rfl⟩, Sep.pick (is := [1]) rfl rfl hw⟩)


def impl_ReachedIn.f (k : Nat) (a0_0 : List (Int × List (Int × Int × Int) × List Int)) (a0_1 : List (List Int)) (a1 : Int) : Option ((List Int) × Bool) := (impl_isWorld.f k a0_0 a0_1 a1).bind fun t8 => (if (!t8) = true then some ([], false) else (impl_play.f k a0_0 a0_1 false).bind fun (t11_1, t11_2) => (rdl (t11_2 : List (List Int)) a1).bind fun t14 => some (t14, true))

theorem impl_ReachedIn.ok {k : Nat}  {a0_0 : List (Int × List (Int × Int × Int) × List Int)} {a0_1 : List (List Int)} {a1 : Int} {r0 : List Int} {r1 : Bool} (h : impl_ReachedIn.f k a0_0 a0_1 a1 = some (r0, r1)) (w : World) {va0_0 : Value} {va0_1 : Value} (hr_a0_0 : Rd w va0_0 a0_0) (hr_a0_1 : Rd w va0_1 a0_1) :
  Calls Try.prog 82 ([.agg ([va0_0, va0_1].toArray), .int .i64 a1] : List Value).toArray w (Post (fun u ns => ∃ (ur0 : Value) (Sr0 : Nat → Prop), u = .tuple #[ur0, .bool r1] ∧ SlLen ur0 r0.length ∧ ns = [R.sl Sr0 ur0 r0]) w) := by
 unfold impl_ReachedIn.f at h
 have hl_va0_0 := hr_a0_0.len
 have hl_va0_1 := hr_a0_1.len
 refine Calls.of_tri (N := 16) Try.func82 rfl rfl rfl (Sep.nil (M := noM)) ?_
 refine Tri.seq (Tri.reg (l := [0, 1, 2]) rfl ?_)
 refine F.mn rfl (m_boxG rfl rfl) ?_
 rintro _ _ ⟨b2_1, rfl, rfl⟩
 refine F.qn rfl (r_assign rfl) (F.qn rfl (r_assign rfl) (F.nil (Nrm.seq (Tri.seq (Tri.seq ?_)))))
 obtain ⟨t8, h8, h⟩ := bind_some h
 refine Tri.reg (l := [0, 1, 2, 3]) rfl ?_
 refine F.qn rfl (r_loadA ta85 ti85 rfl rfl (fun w hw => (box_cells (i := 0) rfl w hw))) (F.qn rfl (r_move rfl) ?_)
 refine F.qcn rfl (q_callF (xs := _) rfl ok156 rfl rfl (fun w hw => impl_isWorld.ok h8 w ((fun _ hw => hr_a0_0.sep hw) w hw) ((fun _ hw => hr_a0_1.sep hw) w hw))) ?_
 refine F.qn rfl (r_not rfl) (F.nil (Nrm.seq (Tri.cond (b := !t8) rfl (fun g_1 => ?_) (fun g_1 => ?_))))
 ·replace h := if_tt g_1 h
  refine Tri.seq (Tri.reg (l := [0, 1]) rfl ?_)
  refine F.qn rfl (r_assign rfl) (F.qn rfl (r_assign rfl) (F.nil (Nrm.seq (Tri.ret ?_))))
  refine Rtn.then ?_
  cases h
  exact Rtn.body (.tmp rfl (.tmp rfl .nil)) (fun w hw => ⟨_, _, rfl, ⟨.slice none 0 0, fun _ => False, rfl, len_nil, rfl⟩, Sep.pick (is := [0]) rfl rfl hw.pushNil⟩)
 ·replace h := if_ff g_1 h
  refine Tri.skip (Nrm.seq (Tri.seq ?_))
  obtain ⟨⟨t11_1, t11_2⟩, h11, h⟩ := bind_some h
  obtain ⟨t14, h14, h⟩ := bind_some h
  refine Tri.reg (l := [0, 1, 2, 3, 4, 5, 6, 7]) rfl ?_
  refine F.qn rfl (r_loadA ta85 ti85 rfl rfl (fun w hw => (box_cells (i := 0) rfl w hw))) ?_
  refine F.mn rfl (m_callF (xs := _) rfl ok146 rfl rfl (fun w hw => impl_play.ok h11 w ((fun _ hw => hr_a0_0.sep hw) w hw) ((fun _ hw => hr_a0_1.sep hw) w hw))) ?_
  rintro _ _ ⟨_, ⟨v11_1, S11_1, v11_2, S11_2, rfl, hl_v11_1, hl_v11_2, rfl⟩, rfl⟩
  refine F.qn rfl (r_field Try.underlying145 rfl ta83 rfl rfl) (F.qn rfl (r_move rfl) ?_)
  refine F.ex (on25 [1] [0, 2] rfl rfl (rdl_some h14).2.2) ?_
  rintro _ ⟨v14_0_1, S14_0_1, Sr14_1, hl_v14_0_1, hS14_1, rfl⟩
  refine F.qn rfl (r_indexAddrS Try.underlying83 ti25 rfl hl_v11_2 rfl (rdl_some h14).1 (rdl_some h14).2.1) (F.qn rfl (r_load ta25 rfl (fun w hw => cell_0 (hole_cells (p := 1) rfl w hw) rfl)) (F.qn rfl (r_assign rfl) (F.qn rfl (r_assign rfl) (F.nil (Nrm.seq (Tri.ret ?_))))))
  cases h
  exact Rtn.body (.tmp rfl (.tmp rfl .nil)) (fun w hw => ⟨_, _, rfl, ⟨v14_0_1, S14_0_1, rfl, hl_v14_0_1, rfl⟩, Sep.pick (is := [0]) rfl rfl hw⟩)


def spec_ReachedIn.f (k : Nat) (a0_0 : List (Int × List (Int × Int × Int) × List Int)) (a0_1 : List (List Int)) (a1 : Int) : Option ((List Int) × Bool) := (spec_l10World.f k a0_0 a0_1 a1).bind fun t8 => (if (!t8) = true then some (([] : List (Int)), false) else (spec_l10Rounds.f k a0_0 a0_1 false).bind fun (t12_1, t12_2, t12_3) => (rdl (t12_3 : List (List Int)) a1).bind fun t15 => some (t15, true))

theorem spec_ReachedIn.ok {k : Nat}  {a0_0 : List (Int × List (Int × Int × Int) × List Int)} {a0_1 : List (List Int)} {a1 : Int} {r0 : List Int} {r1 : Bool} (h : spec_ReachedIn.f k a0_0 a0_1 a1 = some (r0, r1)) (w : World) {va0_0 : Value} {va0_1 : Value} (hr_a0_0 : Rd w va0_0 a0_0) (hr_a0_1 : Rd w va0_1 a0_1) :
  Calls Try.prog 83 ([.agg ([va0_0, va0_1].toArray), .int .i64 a1] : List Value).toArray w (Post (fun u ns => ∃ (ur0 : Value) (Sr0 : Nat → Prop), u = .tuple #[ur0, .bool r1] ∧ SlLen ur0 r0.length ∧ ns = [R.sl Sr0 ur0 r0]) w) := by
 unfold spec_ReachedIn.f at h
 have hl_va0_0 := hr_a0_0.len
 have hl_va0_1 := hr_a0_1.len
 refine Calls.of_tri (N := 17) Try.func83 rfl rfl rfl (Sep.nil (M := noM)) ?_
 refine Tri.seq (Tri.reg (l := [0, 1, 2]) rfl ?_)
 refine F.mn rfl (m_boxG rfl rfl) ?_
 rintro _ _ ⟨b2_1, rfl, rfl⟩
 refine F.qn rfl (r_assign rfl) (F.qn rfl (r_assign rfl) (F.nil (Nrm.seq (Tri.seq (Tri.seq ?_)))))
 obtain ⟨t8, h8, h⟩ := bind_some h
 refine Tri.reg (l := [0, 1, 2, 3]) rfl ?_
 refine F.qn rfl (r_loadA ta85 ti85 rfl rfl (fun w hw => (box_cells (i := 0) rfl w hw))) (F.qn rfl (r_move rfl) ?_)
 refine F.qcn rfl (q_callF (xs := _) rfl ok158 rfl rfl (fun w hw => spec_l10World.ok h8 w ((fun _ hw => hr_a0_0.sep hw) w hw) ((fun _ hw => hr_a0_1.sep hw) w hw))) ?_
 refine F.qn rfl (r_not rfl) (F.nil (Nrm.seq (Tri.cond (b := !t8) rfl (fun g_1 => ?_) (fun g_1 => ?_))))
 ·replace h := if_tt g_1 h
  refine Tri.seq (Tri.reg (l := [0, 1, 2]) rfl ?_)
  refine F.mn rfl (m_build0 (α := Int) Try.underlying25 ti3) ?_
  rintro v10_1 _ ⟨S10_1, hl_v10_1, rfl⟩
  refine F.qn rfl (r_assign rfl) (F.qn rfl (r_assign rfl) (F.nil (Nrm.seq (Tri.ret ?_))))
  refine Rtn.then ?_
  cases h
  exact Rtn.body (.tmp rfl (.tmp rfl .nil)) (fun w hw => ⟨_, _, rfl, ⟨v10_1, S10_1, rfl, hl_v10_1, rfl⟩, Sep.pick (is := [0]) rfl rfl hw⟩)
 ·replace h := if_ff g_1 h
  refine Tri.skip (Nrm.seq (Tri.seq ?_))
  obtain ⟨⟨t12_1, t12_2, t12_3⟩, h12, h⟩ := bind_some h
  obtain ⟨t15, h15, h⟩ := bind_some h
  refine Tri.reg (l := [0, 1, 2, 3, 4, 5, 6, 7]) rfl ?_
  refine F.qn rfl (r_loadA ta85 ti85 rfl rfl (fun w hw => (box_cells (i := 0) rfl w hw))) ?_
  refine F.mn rfl (m_callF (xs := _) rfl ok148 rfl rfl (fun w hw => spec_l10Rounds.ok h12 w ((fun _ hw => hr_a0_0.sep hw) w hw) ((fun _ hw => hr_a0_1.sep hw) w hw))) ?_
  rintro _ _ ⟨_, ⟨v12_1, S12_1, v12_2, S12_2, v12_3, S12_3, rfl, hl_v12_1, hl_v12_2, hl_v12_3, rfl⟩, rfl⟩
  refine F.qn rfl (r_field Try.underlying148 rfl ta83 rfl rfl) (F.qn rfl (r_move rfl) ?_)
  refine F.ex (on25 [2] [0, 1, 3] rfl rfl (rdl_some h15).2.2) ?_
  rintro _ ⟨v15_0_1, S15_0_1, Sr15_1, hl_v15_0_1, hS15_1, rfl⟩
  refine F.qn rfl (r_indexAddrS Try.underlying83 ti25 rfl hl_v12_3 rfl (rdl_some h15).1 (rdl_some h15).2.1) (F.qn rfl (r_load ta25 rfl (fun w hw => cell_0 (hole_cells (p := 1) rfl w hw) rfl)) (F.qn rfl (r_assign rfl) (F.qn rfl (r_assign rfl) (F.nil (Nrm.seq (Tri.ret ?_))))))
  cases h
  exact Rtn.body (.tmp rfl (.tmp rfl .nil)) (fun w hw => ⟨_, _, rfl, ⟨v15_0_1, S15_0_1, rfl, hl_v15_0_1, rfl⟩, Sep.pick (is := [0]) rfl rfl hw⟩)


def impl_CanEver.l1 (k : Nat) (a0_1 : List (List Int)) (a1 : Int) (x19 : Int) (t22 : Int × List (Int × Int × Int) × List Int) : Nat → Int → Int → Option (Int)
 | 0, _, _ => none
 | n + 1, x6r, x27 => (if (decide (x27 < (t22.2.2.length : Int))) = true then (rdl t22.2.2 x27).bind fun t30 => (rdl a0_1 x19).bind fun t35 => (rdl t35 x27).bind fun t38 => ((if (t38 == a1) = true then some (bor x6r t30) else some x6r)).bind fun y6 => impl_CanEver.l1 k a0_1 a1 x19 t22 n y6 (w64 (x27 + 1)) else some x6r)

def impl_CanEver.l0 (k : Nat) (a0_0 : List (Int × List (Int × Int × Int) × List Int)) (a0_1 : List (List Int)) (a1 : Int) : Nat → Int → Int → Option (Int)
 | 0, _, _ => none
 | n + 1, x6, x19 => (if (decide (x19 < (a0_0.length : Int))) = true then (rdl a0_0 x19).bind fun t22 => (impl_CanEver.l1 k a0_1 a1 x19 t22 k x6 0).bind fun x6r => impl_CanEver.l0 k a0_0 a0_1 a1 n x6r (w64 (x19 + 1)) else some x6)

def impl_CanEver.f (k : Nat) (a0_0 : List (Int × List (Int × Int × Int) × List Int)) (a0_1 : List (List Int)) (a1 : Int) : Option (Bool × Bool) := (impl_isWorld.f k a0_0 a0_1 a1).bind fun t14 => (if (!t14) = true then some (false, false) else (impl_CanEver.l0 k a0_0 a0_1 a1 k 0 0).bind fun x6 => (rdl a0_0 a1).bind fun t50 => (impl_reach.f k t50.1 t50.2.1 t50.2.2 0 x6).bind fun t54 => if ¬ (w64 (t50.1 - 1)) < 0 then some ((band (shr t54 (w64 (t50.1 - 1))) 1) == 1, true) else none)

theorem impl_CanEver.ok {k : Nat}  {a0_0 : List (Int × List (Int × Int × Int) × List Int)} {a0_1 : List (List Int)} {a1 : Int} {r0 : Bool} {r1 : Bool} (h : impl_CanEver.f k a0_0 a0_1 a1 = some (r0, r1)) (w : World) {va0_0 : Value} {va0_1 : Value} (hr_a0_0 : Rd w va0_0 a0_0) (hr_a0_1 : Rd w va0_1 a0_1) :
  Calls Try.prog 84 ([.agg ([va0_0, va0_1].toArray), .int .i64 a1] : List Value).toArray w (fun e w' => e = .returned (.tuple #[.bool r0, .bool r1]) ∧ Ext w w') := by
 unfold impl_CanEver.f at h
 have hl_va0_0 := hr_a0_0.len
 have hl_va0_1 := hr_a0_1.len
 refine Calls.of_tri (N := 61) Try.func84 rfl rfl rfl (Sep.nil (M := noM)) ?_
 refine Tri.seq (Tri.reg (l := [0, 1, 2]) rfl ?_)
 refine F.mn rfl (m_boxG rfl rfl) ?_
 rintro _ _ ⟨b2_1, rfl, rfl⟩
 refine F.qn rfl (r_assign rfl) (F.qn rfl (r_assign rfl) (F.nil (Nrm.seq (Tri.seq (Tri.seq ?_)))))
 obtain ⟨t14, h14, h⟩ := bind_some h
 refine Tri.reg (l := [0, 1, 2, 3]) rfl ?_
 refine F.qn rfl (r_loadA ta85 ti85 rfl rfl (fun w hw => (box_cells (i := 0) rfl w hw))) (F.qn rfl (r_move rfl) ?_)
 refine F.qcn rfl (q_callF (xs := _) rfl ok156 rfl rfl (fun w hw => impl_isWorld.ok h14 w ((fun _ hw => hr_a0_0.sep hw) w hw) ((fun _ hw => hr_a0_1.sep hw) w hw))) ?_
 refine F.qn rfl (r_not rfl) (F.nil (Nrm.seq (Tri.cond (b := !t14) rfl (fun g_1 => ?_) (fun g_1 => ?_))))
 ·replace h := if_tt g_1 h
  refine Tri.seq (Tri.reg (l := [0, 1]) rfl ?_)
  refine F.qn rfl (r_assign rfl) (F.qn rfl (r_assign rfl) (F.nil (Nrm.seq (Tri.ret ?_))))
  refine Rtn.then ?_
  cases h
  exact Rtn.body (.tmp rfl (.tmp rfl .nil)) (fun w hw => ⟨rfl, hw.ext⟩)
 ·replace h := if_ff g_1 h
  refine Tri.skip (Nrm.seq (Tri.seq (Tri.reg (l := [0]) rfl ?_)))
  refine F.qn rfl (r_assign rfl) (F.nil (Nrm.seq (Tri.seq (Tri.seq (Tri.reg (l := [0, 1, 2, 3]) rfl ?_)))))
  refine F.qn rfl (r_fieldAddr tf85_0 rfl) (F.qn rfl (r_load ta82 rfl (fun w hw => cell_1 (box_cells (i := 0) rfl w hw) rfl)) (F.qn rfl (r_len Try.underlying82 rfl hl_va0_0) (F.qn rfl (r_move rfl) (F.nil (Nrm.seq ?_)))))
  obtain ⟨x6, hE_1, h⟩ := bind_some h
  refine Tri.block ?_
  refine Tri.only [1, 2, 6, 17, 18, 19] rfl ?_
  refine Tri.pick [0] rfl rfl ?_
  refine Tri.rounds (fun n e' C' => ∃ (x6' : Int) (x19' : Int), impl_CanEver.l0 k a0_0 a0_1 a1 n x6' x19' = some x6 ∧ e' = [(1, .int .i64 a1), (2, .pointer (some ⟨b2_1, 0, none⟩)), (6, .int .i64 x6'), (17, va0_0), (18, .int .i64 (a0_0.length : Int)), (19, .int .i64 x19')] ∧ C' = Sep w noM [R.box b2_1 85 [va0_0, va0_1]]) k ?_ ?_ ?_
  ·exact ⟨0, 0, hE_1, rfl, rfl⟩
  ·rintro _ _ ⟨_, _, hE_1, _⟩
   rw [impl_CanEver.l0.eq_1] at hE_1; cases hE_1
  ·rintro n_1 _ _ ⟨x6, x19, hE_1, rfl, rfl⟩ ih_1
   rw [impl_CanEver.l0.eq_2] at hE_1
   refine Tri.seq (Tri.reg (l := [0]) rfl ?_)
   refine F.qn rfl (r_lss rfl rfl) (F.nil (Nrm.seq (Tri.seq (Tri.cond (b := decide (x19 < (a0_0.length : Int))) rfl (fun g_2 => ?_) (fun g_2 => ?_)))))
   ·replace hE_1 := if_tt g_2 hE_1
    refine Tri.skip (Nrm.seq (Tri.seq (Tri.block ?_)))
    refine Tri.seq ?_
    obtain ⟨t22, h22, hE_1⟩ := bind_some hE_1
    obtain ⟨_, hc22, hp22⟩ := Rd.elem hr_a0_0 (rdl_some h22).2.2
    obtain ⟨v22_1, v22_2, rfl, hr_v22_1, hr_v22_2⟩ := op27 hp22
    have hl_v22_1 := hr_v22_1.len
    have hl_v22_2 := hr_v22_2.len
    refine Tri.reg (l := [0, 1, 2, 3, 4, 5]) rfl ?_
    refine F.qn rfl (r_move rfl) (F.qn rfl (r_indexAddrS Try.underlying82 ti27 rfl hl_va0_0 rfl (rdl_some h22).1 (rdl_some h22).2.1) (F.qn rfl (r_loadA ta27 ti27 rfl rfl (fun w hw => (hc22.sep hw))) ?_))
    refine F.mn rfl (m_alloc ti27) ?_
    rintro _ _ ⟨b8_1, rfl, rfl⟩
    refine F.qn rfl (r_assign rfl) ?_
    refine F.ef0 rfl rfl (wanted_none rfl) (d_storeG0 (i := 0) (cs2 := [.int .i64 t22.1, v22_1, v22_2]) ti27 rfl rfl rfl rfl rfl (Nat.le_of_ble_eq_true rfl) (lf_cons rfl (lf_cons (sl_leaf hl_v22_1) (lf_cons (sl_leaf hl_v22_2) lf_nil)))) ?_
    rintro _ _ ⟨rfl, rfl⟩
    refine F.nil (Nrm.seq (Tri.seq (Tri.reg (l := [0, 1, 2, 3]) rfl ?_)))
    refine F.qn rfl (r_fieldAddr tf27_2 rfl) (F.qn rfl (r_load ta25 rfl (fun w hw => cell_1 (box_cells (i := 0) rfl w hw) rfl)) (F.qn rfl (r_len Try.underlying25 rfl hl_v22_2) (F.qn rfl (r_move rfl) (F.nil (Nrm.seq ?_)))))
    obtain ⟨x6r, hE_2, hE_1⟩ := bind_some hE_1
    refine Tri.block ?_
    refine Tri.only [1, 2, 6, 7, 17, 18, 19, 25, 26, 27] rfl ?_
    refine Tri.pick [1] rfl rfl ?_
    refine Tri.rounds (fun n e' C' => ∃ (x6r' : Int) (x27' : Int), impl_CanEver.l1 k a0_1 a1 x19 t22 n x6r' x27' = some x6r ∧ e' = [(1, .int .i64 a1), (2, .pointer (some ⟨b2_1, 0, none⟩)), (6, .int .i64 x6r'), (7, .int .i64 x19), (17, va0_0), (18, .int .i64 (a0_0.length : Int)), (19, .int .i64 x19), (25, v22_2), (26, .int .i64 (t22.2.2.length : Int)), (27, .int .i64 x27')] ∧ C' = Sep w noM [R.box b2_1 85 [va0_0, va0_1]]) k ?_ ?_ ?_
    ·exact ⟨x6, 0, hE_2, rfl, rfl⟩
    ·rintro _ _ ⟨_, _, hE_2, _⟩
     rw [impl_CanEver.l1.eq_1] at hE_2; cases hE_2
    ·rintro n_2 _ _ ⟨x6r, x27, hE_2, rfl, rfl⟩ ih_2
     rw [impl_CanEver.l1.eq_2] at hE_2
     refine Tri.seq (Tri.reg (l := [0]) rfl ?_)
     refine F.qn rfl (r_lss rfl rfl) (F.nil (Nrm.seq (Tri.seq (Tri.cond (b := decide (x27 < (t22.2.2.length : Int))) rfl (fun g_3 => ?_) (fun g_3 => ?_)))))
     ·replace hE_2 := if_tt g_3 hE_2
      refine Tri.skip (Nrm.seq (Tri.seq (Tri.block ?_)))
      refine Tri.seq ?_
      obtain ⟨t30, h30, hE_2⟩ := bind_some hE_2
      refine Tri.reg (l := [0, 1, 2, 3, 4]) rfl ?_
      refine F.qn rfl (r_move rfl) (F.qn rfl (r_indexAddrS Try.underlying25 ti3 rfl hl_v22_2 rfl (rdl_some h30).1 (rdl_some h30).2.1) (F.qn rfl (r_load ta3 rfl (fun w hw => cell_0 (Rd.flat ((fun _ hw => hr_v22_2.sep hw) w hw) (rdl_some h30).2.2) rfl)) (F.qn rfl (r_assign rfl) (F.qn rfl (r_assign rfl) (F.nil (Nrm.seq (Tri.seq ?_)))))))
      obtain ⟨t35, h35, hE_2⟩ := bind_some hE_2
      obtain ⟨_, hc35, hp35⟩ := Rd.elem hr_a0_1 (rdl_some h35).2.2
      obtain ⟨v35_0, rfl, hr_v35_0⟩ := op25 hp35
      have hl_v35_0 := hr_v35_0.len
      obtain ⟨t38, h38, hE_2⟩ := bind_some hE_2
      refine Tri.reg (l := [0, 1, 2, 3, 4, 5, 6, 7, 8, 9]) rfl ?_
      refine F.qn rfl (r_fieldAddr tf85_1 rfl) (F.qn rfl (r_load ta83 rfl (fun w hw => cell_1 (box_cells (i := 0) rfl w hw) rfl)) (F.qn rfl (r_move rfl) (F.qn rfl (r_indexAddrS Try.underlying83 ti25 rfl hl_va0_1 rfl (rdl_some h35).1 (rdl_some h35).2.1) ?_)))
      refine F.qn rfl (r_load ta25 rfl (fun w hw => cell_0 (hc35.sep hw) rfl)) (F.qn rfl (r_move rfl) (F.qn rfl (r_indexAddrS Try.underlying25 ti3 rfl hl_v35_0 rfl (rdl_some h38).1 (rdl_some h38).2.1) (F.qn rfl (r_load ta3 rfl (fun w hw => cell_0 (Rd.flat ((fun _ hw => hr_v35_0.sep hw) w hw) (rdl_some h38).2.2) rfl)) (F.qn rfl (r_move rfl) (F.qn rfl (r_eql rfl rfl) (F.nil (Nrm.seq ?_)))))))
      obtain ⟨y6, hE_3, hE_2⟩ := bind_some hE_2
      refine Tri.cut (fun e' C' => e' = [(1, .int .i64 a1), (2, .pointer (some ⟨b2_1, 0, none⟩)), (6, .int .i64 y6), (7, .int .i64 x19), (17, va0_0), (18, .int .i64 (a0_0.length : Int)), (19, .int .i64 x19), (25, v22_2), (26, .int .i64 (t22.2.2.length : Int)), (27, .int .i64 x27)] ∧ C' = Sep w noM [R.box b2_1 85 [va0_0, va0_1]]) ?_ (fun hj_1 => ?_)
      ·rintro _ _ ⟨rfl, rfl⟩
       refine Nrm.block ?_
       refine Nrm.seq (Tri.reg (l := [0, 1]) rfl ?_)
       refine F.qn rfl (r_add rfl rfl) (F.qn rfl (r_move rfl) (F.nil (Nrm.round ?_)))
       refine Rnd.only [1, 2, 6, 7, 17, 18, 19, 25, 26, 27] rfl ?_
       refine Rnd.pick [0] rfl rfl ?_
       exact ih_2 _ _ ⟨y6, w64 (x27 + 1), hE_2, rfl, rfl⟩
      ·refine Tri.cond (b := t38 == a1) rfl (fun g_4 => ?_) (fun g_4 => ?_)
       ·replace hE_3 := if_tt g_4 hE_3
        refine Tri.reg (l := [0, 1, 2, 3]) rfl ?_
        refine F.qn rfl (r_move rfl) (F.qn rfl (r_move rfl) (F.qn rfl (r_or rfl rfl) (F.qn rfl (r_assign rfl) (F.nil ?_))))
        cases hE_3
        refine Nrm.only [1, 2, 6, 7, 17, 18, 19, 25, 26, 27] rfl ?_
        refine Nrm.pick [0] rfl rfl ?_
        exact hj_1 _ _ ⟨rfl, rfl⟩
       ·replace hE_3 := if_ff g_4 hE_3
        refine Tri.skip ?_
        cases hE_3
        refine Nrm.only [1, 2, 6, 7, 17, 18, 19, 25, 26, 27] rfl ?_
        refine Nrm.pick [0] rfl rfl ?_
        exact hj_1 _ _ ⟨rfl, rfl⟩
     ·replace hE_2 := if_ff g_3 hE_2
      refine Tri.exit ?_
      refine Exi.then ?_
      refine Exi.then ?_
      refine Exi.same ?_
      cases hE_2
      refine Nrm.block ?_
      refine Nrm.seq (Tri.reg (l := [0, 1]) rfl ?_)
      refine F.qn rfl (r_add rfl rfl) (F.qn rfl (r_move rfl) (F.nil (Nrm.round ?_)))
      refine Rnd.only [1, 2, 6, 17, 18, 19] rfl ?_
      refine Rnd.pick [0] rfl rfl ?_
      exact ih_1 _ _ ⟨x6r, w64 (x19 + 1), hE_1, rfl, rfl⟩
   ·replace hE_1 := if_ff g_2 hE_1
    refine Tri.exit ?_
    refine Exi.then ?_
    refine Exi.then ?_
    refine Exi.same ?_
    cases hE_1
    refine Nrm.seq (Tri.seq ?_)
    obtain ⟨t50, h50, h⟩ := bind_some h
    obtain ⟨_, hc50, hp50⟩ := Rd.elem hr_a0_0 (rdl_some h50).2.2
    obtain ⟨v50_1, v50_2, rfl, hr_v50_1, hr_v50_2⟩ := op27 hp50
    have hl_v50_1 := hr_v50_1.len
    have hl_v50_2 := hr_v50_2.len
    refine Tri.reg (l := [0, 1, 2, 3, 4, 5, 6]) rfl ?_
    refine F.qn rfl (r_fieldAddr tf85_0 rfl) (F.qn rfl (r_load ta82 rfl (fun w hw => cell_1 (box_cells (i := 0) rfl w hw) rfl)) (F.qn rfl (r_move rfl) (F.qn rfl (r_indexAddrS Try.underlying82 ti27 rfl hl_va0_0 rfl (rdl_some h50).1 (rdl_some h50).2.1) (F.qn rfl (r_loadA ta27 ti27 rfl rfl (fun w hw => (hc50.sep hw))) ?_))))
    refine F.mn rfl (m_alloc ti27) ?_
    rintro _ _ ⟨b11_1, rfl, rfl⟩
    refine F.ef0 rfl rfl (wanted_none rfl) (d_storeG0 (i := 0) (cs2 := [.int .i64 t50.1, v50_1, v50_2]) ti27 rfl rfl rfl rfl rfl (Nat.le_of_ble_eq_true rfl) (lf_cons rfl (lf_cons (sl_leaf hl_v50_1) (lf_cons (sl_leaf hl_v50_2) lf_nil)))) ?_
    rintro _ _ ⟨rfl, rfl⟩
    refine F.nil (Nrm.seq (Tri.seq ?_))
    obtain ⟨t54, h54, h⟩ := bind_some h
    obtain ⟨hs58, h⟩ := ck h
    refine Tri.drawA mixedT Sep.up [(0, true), (1, true), (2, true), (3, true), (4, true), (5, true), (6, true), (7, true), (8, true), (9, true), (10, true)] [] (by kernel_rfl) ?_
    refine S.qn rfl (r_loadA ta27 ti27 rfl rfl (fun w hw => (box_cells (i := 0) rfl w hw))) (S.qn rfl (r_move rfl) ?_)
    refine S.qcn rfl (q_callF (xs := _) rfl ok160 rfl rfl (fun w hw => impl_reach.ok h54 w ((fun _ hw => hr_v50_1.sep hw) w hw) ((fun _ hw => hr_v50_2.sep hw) w hw))) ?_
    refine S.qn rfl (r_fieldAddr tf27_0 rfl) (S.qn rfl (r_load ta3 rfl (fun w hw => cell_1 (box_cells (i := 0) rfl w hw) rfl)) ?_)
    refine S.qn rfl (r_sub rfl rfl) (S.qn rfl (r_shr rfl rfl hs58) (S.qn rfl (r_and rfl rfl) (S.qn rfl (r_eql rfl rfl) (S.qn rfl (r_assign rfl) (S.qn rfl (r_assign rfl) (S.nil (F.nil (Nrm.seq (Tri.ret ?_)))))))))
    cases h
    exact Rtn.body (.tmp rfl (.tmp rfl .nil)) (fun w hw => ⟨rfl, hw.ext⟩)


def spec_CanEver.l1 (k : Nat) (a0_0 : List (Int × List (Int × Int × Int) × List Int)) (a0_1 : List (List Int)) (a1 : Int) (x7 : Int) : Nat → Int → Int → Option (Int)
 | 0, _, _ => none
 | n + 1, x6r, x8 => (rdl a0_0 x7).bind fun t24 => (if (decide (x8 < t24.1)) = true then (rdl a0_1 x7).bind fun t33 => (rdl t33 x8).bind fun t36 => ((if (t36 == a1) = true then (rdl a0_0 x7).bind fun t44 => (rdl t44.2.2 x8).bind fun t48 => some (bor x6r t48) else some x6r)).bind fun y6 => spec_CanEver.l1 k a0_0 a0_1 a1 x7 n y6 (w64 (x8 + 1)) else some x6r)

def spec_CanEver.l0 (k : Nat) (a0_0 : List (Int × List (Int × Int × Int) × List Int)) (a0_1 : List (List Int)) (a1 : Int) : Nat → Int → Int → Option (Int)
 | 0, _, _ => none
 | n + 1, x6, x7 => (if (decide (x7 < (a0_0.length : Int))) = true then (spec_CanEver.l1 k a0_0 a0_1 a1 x7 k x6 0).bind fun x6r => spec_CanEver.l0 k a0_0 a0_1 a1 n x6r (w64 (x7 + 1)) else some x6)

def spec_CanEver.f (k : Nat) (a0_0 : List (Int × List (Int × Int × Int) × List Int)) (a0_1 : List (List Int)) (a1 : Int) : Option (Bool × Bool) := (spec_l10World.f k a0_0 a0_1 a1).bind fun t11 => (if (!t11) = true then some (false, false) else (spec_CanEver.l0 k a0_0 a0_1 a1 k 0 0).bind fun x6 => (rdl a0_0 a1).bind fun t54 => (rdl a0_0 a1).bind fun t61 => (spec_l2Reach.f k t54.1 t54.2.1 t54.2.2 0 x6).bind fun t57 => (spec_l1Has.f k t57 (w64 (t61.1 - 1))).bind fun t65 => some (t65, true))

theorem spec_CanEver.ok {k : Nat}  {a0_0 : List (Int × List (Int × Int × Int) × List Int)} {a0_1 : List (List Int)} {a1 : Int} {r0 : Bool} {r1 : Bool} (h : spec_CanEver.f k a0_0 a0_1 a1 = some (r0, r1)) (w : World) {va0_0 : Value} {va0_1 : Value} (hr_a0_0 : Rd w va0_0 a0_0) (hr_a0_1 : Rd w va0_1 a0_1) :
  Calls Try.prog 85 ([.agg ([va0_0, va0_1].toArray), .int .i64 a1] : List Value).toArray w (fun e w' => e = .returned (.tuple #[.bool r0, .bool r1]) ∧ Ext w w') := by
 unfold spec_CanEver.f at h
 have hl_va0_0 := hr_a0_0.len
 have hl_va0_1 := hr_a0_1.len
 refine Calls.of_tri (N := 66) Try.func85 rfl rfl rfl (Sep.nil (M := noM)) ?_
 refine Tri.seq (Tri.reg (l := [0, 1, 2]) rfl ?_)
 refine F.mn rfl (m_boxG rfl rfl) ?_
 rintro _ _ ⟨b2_1, rfl, rfl⟩
 refine F.qn rfl (r_assign rfl) (F.qn rfl (r_assign rfl) (F.nil (Nrm.seq (Tri.seq (Tri.seq ?_)))))
 obtain ⟨t11, h11, h⟩ := bind_some h
 refine Tri.reg (l := [0, 1, 2, 3]) rfl ?_
 refine F.qn rfl (r_loadA ta85 ti85 rfl rfl (fun w hw => (box_cells (i := 0) rfl w hw))) (F.qn rfl (r_move rfl) ?_)
 refine F.qcn rfl (q_callF (xs := _) rfl ok158 rfl rfl (fun w hw => spec_l10World.ok h11 w ((fun _ hw => hr_a0_0.sep hw) w hw) ((fun _ hw => hr_a0_1.sep hw) w hw))) ?_
 refine F.qn rfl (r_not rfl) (F.nil (Nrm.seq (Tri.cond (b := !t11) rfl (fun g_1 => ?_) (fun g_1 => ?_))))
 ·replace h := if_tt g_1 h
  refine Tri.seq (Tri.reg (l := [0, 1]) rfl ?_)
  refine F.qn rfl (r_assign rfl) (F.qn rfl (r_assign rfl) (F.nil (Nrm.seq (Tri.ret ?_))))
  refine Rtn.then ?_
  cases h
  exact Rtn.body (.tmp rfl (.tmp rfl .nil)) (fun w hw => ⟨rfl, hw.ext⟩)
 ·replace h := if_ff g_1 h
  refine Tri.skip (Nrm.seq (Tri.seq (Tri.reg (l := [0]) rfl ?_)))
  refine F.qn rfl (r_assign rfl) (F.nil (Nrm.seq (Tri.seq (Tri.seq (Tri.reg (l := [0]) rfl ?_)))))
  refine F.qn rfl (r_assign rfl) (F.nil (Nrm.seq ?_))
  obtain ⟨x6, hE_1, h⟩ := bind_some h
  refine Tri.block ?_
  refine Tri.only [1, 2, 6, 7] rfl ?_
  refine Tri.pick [0] rfl rfl ?_
  refine Tri.rounds (fun n e' C' => ∃ (x6' : Int) (x7' : Int), spec_CanEver.l0 k a0_0 a0_1 a1 n x6' x7' = some x6 ∧ e' = [(1, .int .i64 a1), (2, .pointer (some ⟨b2_1, 0, none⟩)), (6, .int .i64 x6'), (7, .int .i64 x7')] ∧ C' = Sep w noM [R.box b2_1 85 [va0_0, va0_1]]) k ?_ ?_ ?_
  ·exact ⟨0, 0, hE_1, rfl, rfl⟩
  ·rintro _ _ ⟨_, _, hE_1, _⟩
   rw [spec_CanEver.l0.eq_1] at hE_1; cases hE_1
  ·rintro n_1 _ _ ⟨x6, x7, hE_1, rfl, rfl⟩ ih_1
   rw [spec_CanEver.l0.eq_2] at hE_1
   refine Tri.seq (Tri.seq (Tri.reg (l := [0, 1, 2, 3, 4]) rfl ?_))
   refine F.qn rfl (r_move rfl) (F.qn rfl (r_fieldAddr tf85_0 rfl) (F.qn rfl (r_load ta82 rfl (fun w hw => cell_1 (box_cells (i := 0) rfl w hw) rfl)) (F.qn rfl (r_len Try.underlying82 rfl hl_va0_0) (F.qn rfl (r_lss rfl rfl) (F.nil (Nrm.seq (Tri.cond (b := decide (x7 < (a0_0.length : Int))) rfl (fun g_2 => ?_) (fun g_2 => ?_))))))))
   ·replace hE_1 := if_tt g_2 hE_1
    refine Tri.skip (Nrm.seq (Tri.seq (Tri.block ?_)))
    refine Tri.seq (Tri.reg (l := [0]) rfl ?_)
    refine F.qn rfl (r_assign rfl) (F.nil (Nrm.seq ?_))
    obtain ⟨x6r, hE_2, hE_1⟩ := bind_some hE_1
    refine Tri.block ?_
    refine Tri.only [1, 2, 6, 7, 8] rfl ?_
    refine Tri.pick [0] rfl rfl ?_
    refine Tri.rounds (fun n e' C' => ∃ (x6r' : Int) (x8' : Int), spec_CanEver.l1 k a0_0 a0_1 a1 x7 n x6r' x8' = some x6r ∧ e' = [(1, .int .i64 a1), (2, .pointer (some ⟨b2_1, 0, none⟩)), (6, .int .i64 x6r'), (7, .int .i64 x7), (8, .int .i64 x8')] ∧ C' = Sep w noM [R.box b2_1 85 [va0_0, va0_1]]) k ?_ ?_ ?_
    ·exact ⟨x6, 0, hE_2, rfl, rfl⟩
    ·rintro _ _ ⟨_, _, hE_2, _⟩
     rw [spec_CanEver.l1.eq_1] at hE_2; cases hE_2
    ·rintro n_2 _ _ ⟨x6r, x8, hE_2, rfl, rfl⟩ ih_2
     rw [spec_CanEver.l1.eq_2] at hE_2
     refine Tri.seq (Tri.seq ?_)
     obtain ⟨t24, h24, hE_2⟩ := bind_some hE_2
     obtain ⟨_, hc24, hp24⟩ := Rd.elem hr_a0_0 (rdl_some h24).2.2
     obtain ⟨v24_1, v24_2, rfl, hr_v24_1, hr_v24_2⟩ := op27 hp24
     have hl_v24_1 := hr_v24_1.len
     have hl_v24_2 := hr_v24_2.len
     refine Tri.reg (l := [0, 1, 2, 3, 4, 5, 6, 7]) rfl ?_
     refine F.qn rfl (r_move rfl) (F.qn rfl (r_fieldAddr tf85_0 rfl) ?_)
     refine F.qn rfl (r_load ta82 rfl (fun w hw => cell_1 (box_cells (i := 0) rfl w hw) rfl)) (F.qn rfl (r_move rfl) (F.qn rfl (r_indexAddrS Try.underlying82 ti27 rfl hl_va0_0 rfl (rdl_some h24).1 (rdl_some h24).2.1) (F.qn rfl (r_fieldAddr tf27_0 rfl) (F.qn rfl (r_load ta3 rfl (fun w hw => cell_1 (hc24.sep hw) rfl)) (F.qn rfl (r_lss rfl rfl) (F.nil (Nrm.seq (Tri.cond (b := decide (x8 < t24.1)) rfl (fun g_3 => ?_) (fun g_3 => ?_)))))))))
     ·replace hE_2 := if_tt g_3 hE_2
      refine Tri.skip (Nrm.seq (Tri.seq (Tri.block ?_)))
      refine Tri.seq ?_
      obtain ⟨t33, h33, hE_2⟩ := bind_some hE_2
      obtain ⟨_, hc33, hp33⟩ := Rd.elem hr_a0_1 (rdl_some h33).2.2
      obtain ⟨v33_0, rfl, hr_v33_0⟩ := op25 hp33
      have hl_v33_0 := hr_v33_0.len
      obtain ⟨t36, h36, hE_2⟩ := bind_some hE_2
      refine Tri.reg (l := [0, 1, 2, 3, 4, 5, 6, 7, 8, 9]) rfl ?_
      refine F.qn rfl (r_fieldAddr tf85_1 rfl) (F.qn rfl (r_load ta83 rfl (fun w hw => cell_1 (box_cells (i := 0) rfl w hw) rfl)) (F.qn rfl (r_move rfl) (F.qn rfl (r_indexAddrS Try.underlying83 ti25 rfl hl_va0_1 rfl (rdl_some h33).1 (rdl_some h33).2.1) ?_)))
      refine F.qn rfl (r_load ta25 rfl (fun w hw => cell_0 (hc33.sep hw) rfl)) (F.qn rfl (r_move rfl) (F.qn rfl (r_indexAddrS Try.underlying25 ti3 rfl hl_v33_0 rfl (rdl_some h36).1 (rdl_some h36).2.1) (F.qn rfl (r_load ta3 rfl (fun w hw => cell_0 (Rd.flat ((fun _ hw => hr_v33_0.sep hw) w hw) (rdl_some h36).2.2) rfl)) (F.qn rfl (r_move rfl) (F.qn rfl (r_eql rfl rfl) (F.nil (Nrm.seq ?_)))))))
      obtain ⟨y6, hE_3, hE_2⟩ := bind_some hE_2
      refine Tri.cut (fun e' C' => e' = [(1, .int .i64 a1), (2, .pointer (some ⟨b2_1, 0, none⟩)), (6, .int .i64 y6), (7, .int .i64 x7), (8, .int .i64 x8)] ∧ C' = Sep w noM [R.box b2_1 85 [va0_0, va0_1]]) ?_ (fun hj_1 => ?_)
      ·rintro _ _ ⟨rfl, rfl⟩
       refine Nrm.block ?_
       refine Nrm.seq (Tri.reg (l := [0, 1, 2]) rfl ?_)
       refine F.qn rfl (r_move rfl) (F.qn rfl (r_add rfl rfl) (F.qn rfl (r_assign rfl) (F.nil (Nrm.round ?_))))
       refine Rnd.only [1, 2, 6, 7, 8] rfl ?_
       refine Rnd.pick [0] rfl rfl ?_
       exact ih_2 _ _ ⟨y6, w64 (x8 + 1), hE_2, rfl, rfl⟩
      ·refine Tri.cond (b := t36 == a1) rfl (fun g_4 => ?_) (fun g_4 => ?_)
       ·replace hE_3 := if_tt g_4 hE_3
        obtain ⟨t44, h44, hE_3⟩ := bind_some hE_3
        obtain ⟨_, hc44, hp44⟩ := Rd.elem hr_a0_0 (rdl_some h44).2.2
        obtain ⟨v44_1, v44_2, rfl, hr_v44_1, hr_v44_2⟩ := op27 hp44
        have hl_v44_1 := hr_v44_1.len
        have hl_v44_2 := hr_v44_2.len
        obtain ⟨t48, h48, hE_3⟩ := bind_some hE_3
        refine Tri.reg (l := List.range 12) rfl ?_
        refine F.qn rfl (r_move rfl) (F.qn rfl (r_fieldAddr tf85_0 rfl) (F.qn rfl (r_load ta82 rfl (fun w hw => cell_1 (box_cells (i := 0) rfl w hw) rfl)) (F.qn rfl (r_move rfl) (F.qn rfl (r_indexAddrS Try.underlying82 ti27 rfl hl_va0_0 rfl (rdl_some h44).1 (rdl_some h44).2.1) (F.qn rfl (r_fieldAddr tf27_2 rfl) ?_)))))
        refine F.qn rfl (r_load ta25 rfl (fun w hw => cell_1 (hc44.sep hw) rfl)) (F.qn rfl (r_move rfl) (F.qn rfl (r_indexAddrS Try.underlying25 ti3 rfl hl_v44_2 rfl (rdl_some h48).1 (rdl_some h48).2.1) (F.qn rfl (r_load ta3 rfl (fun w hw => cell_0 (Rd.flat ((fun _ hw => hr_v44_2.sep hw) w hw) (rdl_some h48).2.2) rfl)) (F.qn rfl (r_or rfl rfl) (F.qn rfl (r_assign rfl) (F.nil ?_))))))
        cases hE_3
        refine Nrm.only [1, 2, 6, 7, 8] rfl ?_
        refine Nrm.pick [0] rfl rfl ?_
        exact hj_1 _ _ ⟨rfl, rfl⟩
       ·replace hE_3 := if_ff g_4 hE_3
        refine Tri.skip ?_
        cases hE_3
        refine Nrm.only [1, 2, 6, 7, 8] rfl ?_
        refine Nrm.pick [0] rfl rfl ?_
        exact hj_1 _ _ ⟨rfl, rfl⟩
     ·replace hE_2 := if_ff g_3 hE_2
      refine Tri.exit ?_
      refine Exi.then ?_
      refine Exi.then ?_
      refine Exi.same ?_
      cases hE_2
      refine Nrm.block ?_
      refine Nrm.seq (Tri.reg (l := [0, 1, 2]) rfl ?_)
      refine F.qn rfl (r_move rfl) (F.qn rfl (r_add rfl rfl) (F.qn rfl (r_assign rfl) (F.nil (Nrm.round ?_))))
      refine Rnd.only [1, 2, 6, 7] rfl ?_
      refine Rnd.pick [0] rfl rfl ?_
      exact ih_1 _ _ ⟨x6r, w64 (x7 + 1), hE_1, rfl, rfl⟩
   ·replace hE_1 := if_ff g_2 hE_1
    refine Tri.exit ?_
    refine Exi.then ?_
    refine Exi.then ?_
    refine Exi.same ?_
    cases hE_1
    refine Nrm.seq (Tri.seq ?_)
    obtain ⟨t54, h54, h⟩ := bind_some h
    obtain ⟨_, hc54, hp54⟩ := Rd.elem hr_a0_0 (rdl_some h54).2.2
    obtain ⟨v54_1, v54_2, rfl, hr_v54_1, hr_v54_2⟩ := op27 hp54
    have hl_v54_1 := hr_v54_1.len
    have hl_v54_2 := hr_v54_2.len
    obtain ⟨t61, h61, h⟩ := bind_some h
    obtain ⟨_, hc61, hp61⟩ := Rd.elem hr_a0_0 (rdl_some h61).2.2
    obtain ⟨v61_1, v61_2, rfl, hr_v61_1, hr_v61_2⟩ := op27 hp61
    have hl_v61_1 := hr_v61_1.len
    have hl_v61_2 := hr_v61_2.len
    obtain ⟨t57, h57, h⟩ := bind_some h
    obtain ⟨t65, h65, h⟩ := bind_some h
    refine Tri.drawA mixedT Sep.up [(0, true), (1, true), (2, true), (3, true), (4, true), (5, true), (7, true), (8, true), (9, true), (10, true), (11, true), (12, true), (13, true), (6, false), (14, true), (15, true), (16, true)] [] (by kernel_rfl) ?_
    refine S.qn rfl (r_fieldAddr tf85_0 rfl) ?_
    refine S.qn rfl (r_load ta82 rfl (fun w hw => cell_1 (box_cells (i := 0) rfl w hw) rfl)) (S.qn rfl (r_move rfl) (S.qn rfl (r_indexAddrS Try.underlying82 ti27 rfl hl_va0_0 rfl (rdl_some h54).1 (rdl_some h54).2.1) (S.qn rfl (r_loadA ta27 ti27 rfl rfl (fun w hw => (hc54.sep hw))) (S.qn rfl (r_move rfl) (S.qn rfl (r_fieldAddr tf85_0 rfl) ?_)))))
    refine S.qn rfl (r_load ta82 rfl (fun w hw => cell_1 (box_cells (i := 0) rfl w hw) rfl)) (S.qn rfl (r_move rfl) (S.qn rfl (r_indexAddrS Try.underlying82 ti27 rfl hl_va0_0 rfl (rdl_some h61).1 (rdl_some h61).2.1) (S.qn rfl (r_fieldAddr tf27_0 rfl) (S.qn rfl (r_load ta3 rfl (fun w hw => cell_1 (hc61.sep hw) rfl)) (S.qn rfl (r_sub rfl rfl) ?_)))))
    refine S.m rfl rfl rfl (wanted_none rfl) (m_callF (xs := _) rfl ok161 rfl rfl (fun w hw => spec_l2Reach.ok h57 w ((fun _ hw => hr_v54_1.sep hw) w hw) ((fun _ hw => hr_v54_2.sep hw) w hw))) ?_
    rintro v57_2 _ ⟨_, ⟨S57_2, hl_v57_2, rfl⟩, rfl⟩
    refine S.qcn rfl (q_callF (xs := _) rfl ok99 rfl rfl (fun w hw => spec_l1Has.ok h65 w ((rd_sl (i := 0) rfl) w hw))) ?_
    refine S.qn rfl (r_assign rfl) (S.qn rfl (r_assign rfl) (S.nil (F.nil (Nrm.seq (Tri.ret ?_)))))
    cases h
    exact Rtn.body (.tmp rfl (.tmp rfl .nil)) (fun w hw => ⟨rfl, hw.ext⟩)

end Go.Proofs

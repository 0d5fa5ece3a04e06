/- A part of the proof of FnVisits: what the functions of the program compute, walked on the model. No condition. -/
import Derived.Test.YtebbaacgalipaaaGreatFnVisitsC
import Derived.Test.YtebbaacgalipaaaGreatFnVisitsD
import Derived.Test.YtebbaacgalipaaaGreatFnVisitsE
import Derived.Test.YtebbaacgalipaaaGreatFnVisitsF
set_option linter.unusedSimpArgs false
/- loop.example/g01158/impl.asked -/
namespace Go.Proofs
open Go Go.Ga
set_option linter.unusedVariables false
set_option maxRecDepth 100000
set_option maxHeartbeats 4000000
def impl_asked.f (k : Nat) (a0_0 : Int) (a0_1 : List (Int × Int × Int)) (a0_2 : List Int) (a1 : Int) : Option (Bool) := ((impl_IsMaze.f k a0_0 a0_1 a0_2).bind fun t6 => (if t6 = true then (impl_isSet.f k a1).bind fun t9 => some t9 else some false)).bind fun y4 => some y4

theorem impl_asked.ok {k : Nat}  {a0_0 : Int} {a0_1 : List (Int × Int × Int)} {a0_2 : List Int} {a1 : Int} {r0 : Bool} (h : impl_asked.f k a0_0 a0_1 a0_2 a1 = some r0) (w : World) {va0_1 : Value} {va0_2 : Value} (hr_a0_1 : Rd w va0_1 a0_1) (hr_a0_2 : Rd w va0_2 a0_2) :
  Calls Tryz.prog 96 ([.agg ([.int .i64 a0_0, va0_1, va0_2].toArray), .int .i64 a1] : List Value).toArray w (fun e w' => e = .returned (.bool r0) ∧ Ext w w') := by
 unfold impl_asked.f at h
 have hl_va0_1 := hr_a0_1.len
 have hl_va0_2 := hr_a0_2.len
 refine Calls.of_tri (N := 11) Tryz.func96 rfl rfl rfl (Sep.nil (M := noM)) ?_
 refine Tri.seq (Tri.reg (l := [0, 1]) rfl ?_)
 refine F.mn rfl (m_boxG rfl rfl) ?_
 rintro _ _ ⟨b2_1, rfl, rfl⟩
 refine F.qn rfl (r_assign rfl) (F.nil (Nrm.seq (Tri.seq ?_)))
 obtain ⟨y4, hE_1, h⟩ := bind_some h
 refine Tri.cut (fun e' C' => e' = [(4, .bool y4)] ∧ C' = Sep w noM []) ?_ (fun hj_1 => ?_)
 ·rintro _ _ ⟨rfl, rfl⟩
  refine Nrm.seq (Tri.ret ?_)
  cases h
  exact Rtn.body (.tmp rfl .nil) (fun w hw => ⟨rfl, hw.ext⟩)
 ·obtain ⟨t6, h6, hE_1⟩ := bind_some hE_1
  rcases Bool.eq_false_or_eq_true (t6) with g7 | g7
  ·replace hE_1 := if_tt g7 hE_1
   obtain ⟨t9, h9, hE_1⟩ := bind_some hE_1
   refine Tri.reg (l := [0, 1, 2, 3, 4, 5, 6]) rfl ?_
   refine F.qn rfl (r_loadA ta27 ti27 rfl rfl (fun w hw => (box_cells (i := 0) rfl w hw))) ?_
   refine F.qcn rfl (q_callF (xs := _) rfl ok102 rfl rfl (fun w hw => impl_IsMaze.ok h6 w ((fun _ hw => hr_a0_1.sep hw) w hw) ((fun _ hw => hr_a0_2.sep hw) w hw))) ?_
   refine F.qn rfl (r_move rfl) (F.qg rfl g7 (r_move rfl) ?_)
   refine F.qc rfl rfl rfl (wg rfl rfl rfl g7) (q_callF (xs := _) rfl ok177 rfl rfl (fun w hw => impl_isSet.ok h9 w )) ?_
   refine F.qn rfl (r_pick rfl rfl g7) (F.qn rfl (r_assign rfl) (F.nil ?_))
   cases hE_1
   refine Nrm.only [4] rfl ?_
   refine Nrm.pick [] rfl rfl ?_
   exact hj_1 _ _ ⟨rfl, rfl⟩
  ·replace hE_1 := if_ff g7 hE_1
   refine Tri.reg (l := [0, 1, 2, 3, 4, 5, 6]) rfl ?_
   refine F.qn rfl (r_loadA ta27 ti27 rfl rfl (fun w hw => (box_cells (i := 0) rfl w hw))) ?_
   refine F.qcn rfl (q_callF (xs := _) rfl ok102 rfl rfl (fun w hw => impl_IsMaze.ok h6 w ((fun _ hw => hr_a0_1.sep hw) w hw) ((fun _ hw => hr_a0_2.sep hw) w hw))) ?_
   refine F.qn rfl (r_move rfl) (F.skf rfl g7 (F.skf rfl g7 (F.qn rfl (r_pickf rfl rfl g7) (F.qn rfl (r_assign rfl) (F.nil ?_)))))
   cases hE_1
   refine Nrm.only [4] rfl ?_
   refine Nrm.pick [] rfl rfl ?_
   exact hj_1 _ _ ⟨rfl, rfl⟩


def impl_rounds.l1 (k : Nat) (a0_2 : List Int) (t18 : List Int) : Nat → Int → Int → Option (Int)
 | 0, _, _ => none
 | n + 1, x8, x20 => (if (decide (x20 < (t18.length : Int))) = true then (rdl t18 x20).bind fun t22 => (rdl a0_2 t22).bind fun t28 => impl_rounds.l1 k a0_2 t18 n (bor x8 t28) (w64 (x20 + 1)) else some x8)

def impl_rounds.l0 (k : Nat) (a0_0 : Int) (a0_1 : List (Int × Int × Int)) (a0_2 : List Int) : Nat → (List (Int × Int)) → Int → Option ((Unit) ⊕ ((List (Int × Int))))
 | 0, _, _ => none
 | n + 1, x5, x6 => (impl_reach.f k a0_0 a0_1 a0_2 0 x6).bind fun t15 => (impl_members.f k t15).bind fun t18 => (impl_rounds.l1 k a0_2 t18 k x6 0).bind fun x8 => if (x5 ++ ([(x6, t15)] : List (Int × Int))).length < 1099511627776 then (if (x8 == x6) = true then some (Sum.inr (x5 ++ ([(x6, t15)] : List (Int × Int)))) else impl_rounds.l0 k a0_0 a0_1 a0_2 n (x5 ++ ([(x6, t15)] : List (Int × Int))) x8) else none

def impl_rounds.f (k : Nat) (a0_0 : Int) (a0_1 : List (Int × Int × Int)) (a0_2 : List Int) (a1 : Int) : Option ((List (Int × Int))) := (impl_rounds.l0 k a0_0 a0_1 a0_2 k ([] : List (Int × Int)) a1).bind fun s => Lr s some fun _ => none

theorem impl_rounds.ok {k : Nat}  {a0_0 : Int} {a0_1 : List (Int × Int × Int)} {a0_2 : List Int} {a1 : Int} {r0 : List (Int × Int)} (h : impl_rounds.f k a0_0 a0_1 a0_2 a1 = some r0) (w : World) {va0_1 : Value} {va0_2 : Value} (hr_a0_1 : Rd w va0_1 a0_1) (hr_a0_2 : Rd w va0_2 a0_2) :
  Calls Tryz.prog 209 ([.agg ([.int .i64 a0_0, va0_1, va0_2].toArray), .int .i64 a1] : List Value).toArray w (Post (fun u ns => ∃ (Sr0 : Nat → Prop), SlLen u r0.length ∧ ns = [R.sl Sr0 u r0]) w) := by
 unfold impl_rounds.f at h
 have hl_va0_1 := hr_a0_1.len
 have hl_va0_2 := hr_a0_2.len
 refine Calls.of_tri (N := 43) Tryz.func209 rfl rfl rfl (Sep.nil (M := noM)) ?_
 refine Tri.seq (Tri.reg (l := [0, 1]) rfl ?_)
 refine F.mn rfl (m_boxG rfl rfl) ?_
 rintro _ _ ⟨b2_1, rfl, rfl⟩
 refine F.qn rfl (r_assign rfl) (F.nil (Nrm.seq (Tri.seq (Tri.reg (l := [0, 1]) rfl ?_))))
 refine F.mn rfl (m_build0 (α := Int × Int) Tryz.underlying186 ti128) ?_
 rintro v11_1 _ ⟨S11_1, hl_v11_1, rfl⟩
 refine F.qn rfl (r_assign rfl) (F.nil (Nrm.seq (Tri.seq (Tri.reg (l := [0, 1]) rfl ?_))))
 refine F.qn rfl (r_move rfl) (F.qn rfl (r_assign rfl) (F.nil (Nrm.seq ?_)))
 obtain ⟨s0, hE_1, h⟩ := bind_some h
 refine Tri.block ?_
 refine Tri.only [2, 5, 6] rfl ?_
 refine Tri.pick [1, 0] rfl rfl ?_
 refine Tri.rounds (fun n e' C' => ∃ (x5' : List (Int × Int)) (x6' : Int) (w5 : Value) (T5 : Nat → Prop), impl_rounds.l0 k a0_0 a0_1 a0_2 n x5' x6' = some s0 ∧ SlLen w5 (x5').length ∧ e' = [(2, .pointer (some ⟨b2_1, 0, none⟩)), (5, w5), (6, .int .i64 x6')] ∧ C' = Sep w noM [R.box b2_1 27 [.int .i64 a0_0, va0_1, va0_2], R.sl T5 w5 (x5' : List (Int × Int))]) k ?_ ?_ ?_
 ·exact ⟨([] : List (Int × Int)), a1, v11_1, S11_1, hE_1, hl_v11_1, rfl, rfl⟩
 ·rintro _ _ ⟨_, _, _, _, hE_1, _⟩
  rw [impl_rounds.l0.eq_1] at hE_1; cases hE_1
 ·rintro n_1 _ _ ⟨x5, x6, w5, T5, hE_1, hl_w5, rfl, rfl⟩ ih_1
  rw [impl_rounds.l0.eq_2] at hE_1
  refine Tri.block ?_
  refine Tri.seq ?_
  obtain ⟨t15, h15, hE_1⟩ := bind_some hE_1
  refine Tri.reg (l := [0, 1, 2, 3, 4, 5]) rfl ?_
  refine F.qn rfl (r_loadA ta27 ti27 rfl rfl (fun w hw => (box_cells (i := 0) rfl w hw))) (F.qn rfl (r_move rfl) ?_)
  refine F.qcn rfl (q_callF (xs := _) rfl ok120 rfl rfl (fun w hw => impl_reach.ok h15 w ((fun _ hw => hr_a0_1.sep hw) w hw) ((fun _ hw => hr_a0_2.sep hw) w hw))) ?_
  refine F.qn rfl (r_move rfl) (F.qn rfl (r_assign rfl) (F.qn rfl (r_assign rfl) (F.nil (Nrm.seq (Tri.seq (Tri.seq ?_))))))
  obtain ⟨t18, h18, hE_1⟩ := bind_some hE_1
  refine Tri.reg (l := [0, 1, 2, 3]) rfl ?_
  refine F.qn rfl (r_move rfl) ?_
  refine F.mn rfl (m_callF (xs := _) rfl ok119 rfl rfl (fun w hw => impl_members.ok h18 w )) ?_
  rintro v18_1 _ ⟨_, ⟨S18_1, hl_v18_1, rfl⟩, rfl⟩
  refine F.qn rfl (r_len Tryz.underlying25 rfl hl_v18_1) (F.qn rfl (r_move rfl) (F.nil (Nrm.seq ?_)))
  obtain ⟨x8, hE_2, hE_1⟩ := bind_some hE_1
  refine Tri.block ?_
  refine Tri.only [2, 5, 6, 7, 8, 18, 19, 20] rfl ?_
  refine Tri.pick [1, 0, 2] rfl rfl ?_
  refine Tri.rounds (fun n e' C' => ∃ (x8' : Int) (x20' : Int), impl_rounds.l1 k a0_2 t18 n x8' x20' = some x8 ∧ e' = [(2, .pointer (some ⟨b2_1, 0, none⟩)), (5, w5), (6, .int .i64 x6), (7, .int .i64 t15), (8, .int .i64 x8'), (18, v18_1), (19, .int .i64 (t18.length : Int)), (20, .int .i64 x20')] ∧ C' = Sep w noM [R.box b2_1 27 [.int .i64 a0_0, va0_1, va0_2], R.sl S18_1 v18_1 (t18 : List (Int)), R.sl T5 w5 (x5 : List (Int × Int))]) k ?_ ?_ ?_
  ·exact ⟨x6, 0, hE_2, rfl, rfl⟩
  ·rintro _ _ ⟨_, _, hE_2, _⟩
   rw [impl_rounds.l1.eq_1] at hE_2; cases hE_2
  ·rintro n_2 _ _ ⟨x8, x20, hE_2, rfl, rfl⟩ ih_2
   rw [impl_rounds.l1.eq_2] at hE_2
   refine Tri.seq (Tri.reg (l := [0]) rfl ?_)
   refine F.qn rfl (r_lss rfl rfl) (F.nil (Nrm.seq (Tri.seq (Tri.cond (b := decide (x20 < (t18.length : Int))) rfl (fun g_1 => ?_) (fun g_1 => ?_)))))
   ·replace hE_2 := if_tt g_1 hE_2
    refine Tri.skip (Nrm.seq (Tri.seq (Tri.block ?_)))
    refine Tri.seq ?_
    obtain ⟨t22, h22, hE_2⟩ := bind_some hE_2
    refine Tri.reg (l := [0, 1, 2]) rfl ?_
    refine F.qn rfl (r_indexAddrS Tryz.underlying25 ti3 rfl hl_v18_1 rfl (rdl_some h22).1 (rdl_some h22).2.1) (F.qn rfl (r_load ta3 rfl (fun w hw => cell_0 (Rd.flat ((rd_sl (i := 1) rfl) w hw) (rdl_some h22).2.2) rfl)) (F.qn rfl (r_assign rfl) (F.nil (Nrm.seq ?_))))
    obtain ⟨t28, h28, hE_2⟩ := bind_some hE_2
    refine Tri.reg (l := [0, 1, 2, 3, 4, 5, 6, 7]) rfl ?_
    refine F.qn rfl (r_move rfl) (F.qn rfl (r_fieldAddr tf27_2 rfl) ?_)
    refine F.qn rfl (r_load ta25 rfl (fun w hw => cell_1 (box_cells (i := 0) rfl w hw) rfl)) (F.qn rfl (r_move rfl) (F.qn rfl (r_indexAddrS Tryz.underlying25 ti3 rfl hl_va0_2 rfl (rdl_some h28).1 (rdl_some h28).2.1) (F.qn rfl (r_load ta3 rfl (fun w hw => cell_0 (Rd.flat ((fun _ hw => hr_a0_2.sep hw) w hw) (rdl_some h28).2.2) rfl)) (F.qn rfl (r_or rfl rfl) (F.qn rfl (r_assign rfl) (F.nil (Nrm.block ?_)))))))
    refine Nrm.seq (Tri.reg (l := [0, 1]) rfl ?_)
    refine F.qn rfl (r_add rfl rfl) (F.qn rfl (r_move rfl) (F.nil (Nrm.round ?_)))
    refine Rnd.only [2, 5, 6, 7, 8, 18, 19, 20] rfl ?_
    refine Rnd.pick [0, 1, 2] rfl rfl ?_
    exact ih_2 _ _ ⟨bor x8 t28, w64 (x20 + 1), hE_2, rfl, rfl⟩
   ·replace hE_2 := if_ff g_1 hE_2
    refine Tri.exit ?_
    refine Exi.then ?_
    refine Exi.then ?_
    refine Exi.same ?_
    cases hE_2
    refine Nrm.seq (Tri.seq ?_)
    obtain ⟨hs37, hE_1⟩ := ck hE_1
    refine Tri.reg (l := [0, 1, 2, 3, 4, 5, 6]) rfl ?_
    iterate 3 refine F.qn rfl (r_move rfl) ?_
    refine F.qn rfl (r_build (pl := [(0, 1), (1, 1)]) (qs := [(0, [.int .i64 x6]), (1, [.int .i64 t15])]) (cs := [.int .i64 x6, .int .i64 t15]) (by kernel_rfl) ti128 rfl (.cons rfl rfl (Nat.le_of_ble_eq_true rfl) (.cons rfl rfl (Nat.le_of_ble_eq_true rfl) .nil)) rfl rfl) ?_
    refine F.mn rfl (m_buildF (l := ([(x6, t15)] : List (Int × Int))) Tryz.underlying186 ti128 rfl rfl rfl rfl rfl) ?_
    rintro v36_1 _ ⟨S36_1, hl_v36_1, rfl⟩
    refine F.efn rfl (d_append (i := 3) Tryz.underlying186 Tryz.underlying186 ti128 rfl (by decide) rfl rfl rfl (rd_sl (i := 0) rfl) hs37) ?_
    rintro v37_1 _ ⟨S37_1, rfl, hl_v37_1⟩
    refine F.qn rfl (r_assign rfl) (F.nil (Nrm.seq (Tri.seq (Tri.seq (Tri.reg (l := [0, 1, 2]) rfl ?_)))))
    refine F.qn rfl (r_move rfl) (F.qn rfl (r_move rfl) (F.qn rfl (r_eql rfl rfl) (F.nil (Nrm.seq (Tri.cond (b := x8 == x6) rfl (fun g_2 => ?_) (fun g_2 => ?_))))))
    ·replace hE_1 := if_tt g_2 hE_1
     refine Tri.seq (Tri.reg (l := [0, 1]) rfl ?_)
     refine F.qn rfl (r_move rfl) (F.qn rfl (r_assign rfl) (F.nil (Nrm.seq (Tri.ret ?_))))
     refine Rtn.then ?_
     refine Rtn.block ?_
     refine Rtn.then ?_
     refine Rtn.block ?_
     cases hE_1
     replace h := Lr_inr h
     cases h
     exact Rtn.body (.tmp rfl .nil) (fun w hw => ⟨_, _, rfl, ⟨S37_1, hl_v37_1, rfl⟩, Sep.pick (is := [3]) rfl rfl hw⟩)
    ·replace hE_1 := if_ff g_2 hE_1
     refine Tri.skip (Nrm.seq (Tri.reg (l := [0, 1]) rfl ?_))
     refine F.qn rfl (r_move rfl) (F.qn rfl (r_assign rfl) (F.nil (Nrm.block ?_)))
     refine Nrm.round ?_
     refine Rnd.only [2, 5, 6] rfl ?_
     refine Rnd.pick [1, 3] rfl rfl ?_
     exact ih_1 _ _ ⟨x5 ++ ([(x6, t15)] : List (Int × Int)), x8, v37_1, S37_1, hE_1, hl_v37_1, rfl, rfl⟩


def impl_atLast.f (k : Nat) (a0_0 : Int) (a0_1 : List (Int × Int × Int)) (a0_2 : List Int) (a1 : Int) : Option (Int × Int) := (impl_rounds.f k a0_0 a0_1 a0_2 a1).bind fun t8 => (rdl t8 (w64 ((t8.length : Int) - 1))).bind fun t13 => some (t13.1, t13.2)

theorem impl_atLast.ok {k : Nat}  {a0_0 : Int} {a0_1 : List (Int × Int × Int)} {a0_2 : List Int} {a1 : Int} {r0 : Int} {r1 : Int} (h : impl_atLast.f k a0_0 a0_1 a0_2 a1 = some (r0, r1)) (w : World) {va0_1 : Value} {va0_2 : Value} (hr_a0_1 : Rd w va0_1 a0_1) (hr_a0_2 : Rd w va0_2 a0_2) :
  Calls Tryz.prog 124 ([.agg ([.int .i64 a0_0, va0_1, va0_2].toArray), .int .i64 a1] : List Value).toArray w (fun e w' => e = .returned (.agg [.int .i64 r0, .int .i64 r1].toArray) ∧ Ext w w') := by
 unfold impl_atLast.f at h
 have hl_va0_1 := hr_a0_1.len
 have hl_va0_2 := hr_a0_2.len
 refine Calls.of_tri (N := 15) Tryz.func124 rfl rfl rfl (Sep.nil (M := noM)) ?_
 refine Tri.seq (Tri.reg (l := [0, 1]) rfl ?_)
 refine F.mn rfl (m_boxG rfl rfl) ?_
 rintro _ _ ⟨b2_1, rfl, rfl⟩
 refine F.mn rfl (m_alloc ti128) ?_
 rintro _ _ ⟨b4_1, rfl, rfl⟩
 refine F.nil (Nrm.seq (Tri.seq ?_))
 obtain ⟨t8, h8, h⟩ := bind_some h
 refine Tri.reg (l := [0, 1, 2, 3]) rfl ?_
 refine F.qn rfl (r_loadA ta27 ti27 rfl rfl (fun w hw => (box_cells (i := 1) rfl w hw))) (F.qn rfl (r_move rfl) ?_)
 refine F.mn rfl (m_callF (xs := _) rfl ok209 rfl rfl (fun w hw => impl_rounds.ok h8 w ((fun _ hw => hr_a0_1.sep hw) w hw) ((fun _ hw => hr_a0_2.sep hw) w hw))) ?_
 rintro v8_1 _ ⟨_, ⟨S8_1, hl_v8_1, rfl⟩, rfl⟩
 refine F.qn rfl (r_assign rfl) (F.nil (Nrm.seq (Tri.seq ?_)))
 obtain ⟨t13, h13, h⟩ := bind_some h
 refine Tri.reg (l := [0, 1, 2, 3, 4, 5, 6]) rfl ?_
 refine F.qn rfl (r_move rfl) (F.qn rfl (r_move rfl) (F.qn rfl (r_len Tryz.underlying186 rfl hl_v8_1) (F.qn rfl (r_sub rfl rfl) (F.qn rfl (r_indexAddrS Tryz.underlying186 ti128 rfl hl_v8_1 rfl (rdl_some h13).1 (rdl_some h13).2.1) (F.qn rfl (r_loadA ta128 ti128 rfl rfl (fun w hw => (Rd.flat ((rd_sl (i := 0) rfl) w hw) (rdl_some h13).2.2))) ?_)))))
 refine F.ef0 rfl rfl (wanted_none rfl) (d_storeG0 (i := 1) (cs2 := [.int .i64 t13.1, .int .i64 t13.2]) ti128 rfl rfl rfl rfl rfl (Nat.le_of_ble_eq_true rfl) (lf_cons rfl (lf_cons rfl lf_nil))) ?_
 rintro _ _ ⟨rfl, rfl⟩
 refine F.nil (Nrm.seq (Tri.ret ?_))
 cases h
 exact Rtn.body (.cell rfl ta128 ti128 rfl (fun _ hw => box_cells (i := 1) rfl _ hw) .nil) (fun w hw => ⟨rfl, hw.ext⟩)


def impl_GainAtLast.f (k : Nat) (a0_0 : Int) (a0_1 : List (Int × Int × Int)) (a0_2 : List Int) (a1 : Int) : Option (Int × (List Int) × Bool) := (impl_asked.f k a0_0 a0_1 a0_2 a1).bind fun t10 => (if (!t10) = true then some (0, [], false) else (impl_atLast.f k a0_0 a0_1 a0_2 a1).bind fun (t14_1, t14_2) => (impl_members.f k t14_2).bind fun t19 => some (t14_1, t19, true))

theorem impl_GainAtLast.ok {k : Nat}  {a0_0 : Int} {a0_1 : List (Int × Int × Int)} {a0_2 : List Int} {a1 : Int} {r0 : Int} {r1 : List Int} {r2 : Bool} (h : impl_GainAtLast.f k a0_0 a0_1 a0_2 a1 = some (r0, r1, r2)) (w : World) {va0_1 : Value} {va0_2 : Value} (hr_a0_1 : Rd w va0_1 a0_1) (hr_a0_2 : Rd w va0_2 a0_2) :
  Calls Tryz.prog 45 ([.agg ([.int .i64 a0_0, va0_1, va0_2].toArray), .int .i64 a1] : List Value).toArray w (Post (fun u ns => ∃ (ur1 : Value) (Sr1 : Nat → Prop), u = .tuple #[.int .i64 r0, ur1, .bool r2] ∧ SlLen ur1 r1.length ∧ ns = [R.sl Sr1 ur1 r1]) w) := by
 unfold impl_GainAtLast.f at h
 have hl_va0_1 := hr_a0_1.len
 have hl_va0_2 := hr_a0_2.len
 refine Calls.of_tri (N := 20) Tryz.func45 rfl rfl rfl (Sep.nil (M := noM)) ?_
 refine Tri.seq (Tri.reg (l := [0, 1, 2, 3]) rfl ?_)
 refine F.mn rfl (m_boxG rfl rfl) ?_
 rintro _ _ ⟨b2_1, rfl, rfl⟩
 iterate 3 refine F.qn rfl (r_assign rfl) ?_
 refine F.nil (Nrm.seq (Tri.seq (Tri.seq ?_)))
 obtain ⟨t10, h10, h⟩ := bind_some h
 refine Tri.reg (l := [0, 1, 2, 3]) rfl ?_
 refine F.qn rfl (r_loadA ta27 ti27 rfl rfl (fun w hw => (box_cells (i := 0) rfl w hw))) (F.qn rfl (r_move rfl) ?_)
 refine F.qcn rfl (q_callF (xs := _) rfl ok96 rfl rfl (fun w hw => impl_asked.ok h10 w ((fun _ hw => hr_a0_1.sep hw) w hw) ((fun _ hw => hr_a0_2.sep hw) w hw))) ?_
 refine F.qn rfl (r_not rfl) (F.nil (Nrm.seq (Tri.cond (b := !t10) rfl (fun g_1 => ?_) (fun g_1 => ?_))))
 ·replace h := if_tt g_1 h
  refine Tri.seq (Tri.reg (l := [0, 1, 2]) rfl ?_)
  iterate 3 refine F.qn rfl (r_assign rfl) ?_
  refine F.nil (Nrm.seq (Tri.ret ?_))
  refine Rtn.then ?_
  cases h
  exact Rtn.body (.tmp rfl (.tmp rfl (.tmp rfl .nil))) (fun w hw => ⟨_, _, rfl, ⟨.slice none 0 0, fun _ => False, rfl, len_nil, rfl⟩, Sep.pick (is := [0]) rfl rfl hw.pushNil⟩)
 ·replace h := if_ff g_1 h
  refine Tri.skip (Nrm.seq (Tri.seq ?_))
  obtain ⟨⟨t14_1, t14_2⟩, h14, h⟩ := bind_some h
  refine Tri.reg (l := [0, 1, 2, 3, 4]) rfl ?_
  refine F.qn rfl (r_loadA ta27 ti27 rfl rfl (fun w hw => (box_cells (i := 0) rfl w hw))) (F.qn rfl (r_move rfl) ?_)
  refine F.qcn rfl (q_callF (xs := _) rfl ok124 rfl rfl (fun w hw => impl_atLast.ok h14 w ((fun _ hw => hr_a0_1.sep hw) w hw) ((fun _ hw => hr_a0_2.sep hw) w hw))) ?_
  refine F.mn rfl (m_alloc ti128) ?_
  rintro _ _ ⟨b7_1, rfl, rfl⟩
  refine F.ef0 rfl rfl (wanted_none rfl) (d_storeG0 (i := 0) (cs2 := [.int .i64 t14_1, .int .i64 t14_2]) ti128 rfl rfl rfl rfl rfl (Nat.le_of_ble_eq_true rfl) (lf_cons rfl (lf_cons rfl lf_nil))) ?_
  rintro _ _ ⟨rfl, rfl⟩
  refine F.nil (Nrm.seq (Tri.seq ?_))
  obtain ⟨t19, h19, h⟩ := bind_some h
  refine Tri.drawA mixedT Sep.up [(0, true), (1, true), (2, true), (3, true), (4, false), (5, true), (6, true), (7, true)] [] (by kernel_rfl) ?_
  refine S.qn rfl (r_fieldAddr tf128_0 rfl) (S.qn rfl (r_load ta3 rfl (fun w hw => cell_1 (box_cells (i := 0) rfl w hw) rfl)) (S.qn rfl (r_fieldAddr tf128_1 rfl) (S.qn rfl (r_load ta3 rfl (fun w hw => cell_1 (box_cells (i := 0) rfl w hw) rfl)) ?_)))
  refine S.m rfl rfl rfl (wanted_none rfl) (m_callF (xs := _) rfl ok119 rfl rfl (fun w hw => impl_members.ok h19 w )) ?_
  rintro v19_2 _ ⟨_, ⟨S19_2, hl_v19_2, rfl⟩, rfl⟩
  iterate 3 refine S.qn rfl (r_assign rfl) ?_
  refine S.nil (F.nil (Nrm.seq (Tri.ret ?_)))
  cases h
  exact Rtn.body (.tmp rfl (.tmp rfl (.tmp rfl .nil))) (fun w hw => ⟨_, _, rfl, ⟨v19_2, S19_2, rfl, hl_v19_2, rfl⟩, Sep.pick (is := [0]) rfl rfl hw⟩)


def laws_vWithin.l0 (k : Nat) (a0 : List Int) (a1 : List Int) : Nat → Int → Option ((Unit) ⊕ (Bool))
 | 0, _ => none
 | n + 1, x5 => (if (decide (x5 < (a0.length : Int))) = true then (rdl a0 x5).bind fun t15 => (laws_vHas.f k a1 t15).bind fun t17 => (if (!t17) = true then some (Sum.inr false) else laws_vWithin.l0 k a0 a1 n (w64 (x5 + 1))) else some (Sum.inl ()))

def laws_vWithin.f (k : Nat) (a0 : List Int) (a1 : List Int) : Option (Bool) := (laws_vWithin.l0 k a0 a1 k 0).bind fun s => Lr s some fun _ => some true

theorem laws_vWithin.ok {k : Nat}  {a0 : List Int} {a1 : List Int} {r0 : Bool} (h : laws_vWithin.f k a0 a1 = some r0) (w : World) {va0 : Value} {va1 : Value} (hr_a0 : Rd w va0 a0) (hr_a1 : Rd w va1 a1) :
  Calls Tryz.prog 46 ([va0, va1] : List Value).toArray w (fun e w' => e = .returned (.bool r0) ∧ Ext w w') := by
 unfold laws_vWithin.f at h
 have hl_va0 := hr_a0.len
 have hl_va1 := hr_a1.len
 refine Calls.of_tri (N := 19) Tryz.func46 rfl rfl rfl (Sep.nil (M := noM)) ?_
 refine Tri.seq (Tri.reg (l := [0]) rfl ?_)
 refine F.qn rfl (r_assign rfl) (F.nil (Nrm.seq (Tri.seq (Tri.seq (Tri.reg (l := [0]) rfl ?_)))))
 refine F.qn rfl (r_assign rfl) (F.nil (Nrm.seq ?_))
 obtain ⟨s0, hE_1, h⟩ := bind_some h
 refine Tri.block ?_
 refine Tri.only [0, 1, 5] rfl ?_
 refine Tri.pick [] rfl rfl ?_
 refine Tri.rounds (fun n e' C' => ∃ (x5' : Int), laws_vWithin.l0 k a0 a1 n x5' = some s0 ∧ e' = [(0, va0), (1, va1), (5, .int .i64 x5')] ∧ C' = Sep w noM []) k ?_ ?_ ?_
 ·exact ⟨0, hE_1, rfl, rfl⟩
 ·rintro _ _ ⟨_, hE_1, _⟩
  rw [laws_vWithin.l0.eq_1] at hE_1; cases hE_1
 ·rintro n_1 _ _ ⟨x5, hE_1, rfl, rfl⟩ ih_1
  rw [laws_vWithin.l0.eq_2] at hE_1
  refine Tri.seq (Tri.seq (Tri.reg (l := [0, 1, 2, 3]) rfl ?_))
  refine F.qn rfl (r_move rfl) (F.qn rfl (r_move rfl) (F.qn rfl (r_len Tryz.underlying25 rfl hl_va0) (F.qn rfl (r_lss rfl rfl) (F.nil (Nrm.seq (Tri.cond (b := decide (x5 < (a0.length : Int))) rfl (fun g_1 => ?_) (fun g_1 => ?_)))))))
  ·replace hE_1 := if_tt g_1 hE_1
   refine Tri.skip (Nrm.seq (Tri.seq (Tri.block ?_)))
   refine Tri.seq ?_
   obtain ⟨t15, h15, hE_1⟩ := bind_some hE_1
   obtain ⟨t17, h17, hE_1⟩ := bind_some hE_1
   refine Tri.reg (l := [0, 1, 2, 3, 4, 5, 6]) rfl ?_
   iterate 3 refine F.qn rfl (r_move rfl) ?_
   refine F.qn rfl (r_indexAddrS Tryz.underlying25 ti3 rfl hl_va0 rfl (rdl_some h15).1 (rdl_some h15).2.1) (F.qn rfl (r_load ta3 rfl (fun w hw => cell_0 (Rd.flat ((fun _ hw => hr_a0.sep hw) w hw) (rdl_some h15).2.2) rfl)) ?_)
   refine F.qcn rfl (q_callF (xs := _) rfl ok22 rfl rfl (fun w hw => laws_vHas.ok h17 w ((fun _ hw => hr_a1.sep hw) w hw))) ?_
   refine F.qn rfl (r_not rfl) (F.nil (Nrm.seq (Tri.cond (b := !t17) rfl (fun g_2 => ?_) (fun g_2 => ?_))))
   ·replace hE_1 := if_tt g_2 hE_1
    refine Tri.seq (Tri.reg (l := [0]) rfl ?_)
    refine F.qn rfl (r_assign rfl) (F.nil (Nrm.seq (Tri.ret ?_)))
    refine Rtn.block ?_
    refine Rtn.then ?_
    refine Rtn.then ?_
    refine Rtn.block ?_
    refine Rtn.then ?_
    cases hE_1
    replace h := Lr_inr h
    cases h
    exact Rtn.body (.tmp rfl .nil) (fun w hw => ⟨rfl, hw.ext⟩)
   ·replace hE_1 := if_ff g_2 hE_1
    refine Tri.skip (Nrm.block ?_)
    refine Nrm.seq (Tri.reg (l := [0, 1, 2]) rfl ?_)
    refine F.qn rfl (r_move rfl) (F.qn rfl (r_add rfl rfl) (F.qn rfl (r_assign rfl) (F.nil (Nrm.round ?_))))
    refine Rnd.only [0, 1, 5] rfl ?_
    refine Rnd.pick [] rfl rfl ?_
    exact ih_1 _ _ ⟨w64 (x5 + 1), hE_1, rfl, rfl⟩
  ·replace hE_1 := if_ff g_1 hE_1
   refine Tri.exit ?_
   refine Exi.then ?_
   refine Exi.then ?_
   refine Exi.same ?_
   cases hE_1
   replace h := Lr_inl h
   refine Nrm.seq (Tri.seq (Tri.reg (l := [0]) rfl ?_))
   refine F.qn rfl (r_assign rfl) (F.nil (Nrm.seq (Tri.ret ?_)))
   cases h
   exact Rtn.body (.tmp rfl .nil) (fun w hw => ⟨rfl, hw.ext⟩)


noncomputable def laws_FnVisits.f (k : Nat) (a0 : List By) : Option (Bool) := (laws_vBig.f k a0).bind fun t38 => (if t38 = true then some true else (spec_DrawNewVisit.f k a0).bind fun (t40_1, t40_2, t40_3) => (impl_NewVisit.f k t40_1 t40_2 t40_3).bind fun (t43_1, t43_2, t43_3, t43_4, t43_5, t43_6) => (spec_NewVisit.f k t40_1 t40_2 t40_3).bind fun (t48_1, t48_2, t48_3, t48_4, t48_5, t48_6) => (laws_vCut.f k a0 1).bind fun t53 => (spec_DrawDoDeed.f k t53).bind fun (t54_1, t54_2, t54_3, t54_4, t54_5, t54_6, t54_7, t54_8, t54_9) => (impl_DoDeed.f k t54_1 t54_2 t54_3 t54_4 t54_5 t54_6 t54_7 t54_8 t54_9).bind fun (t60_1, t60_2, t60_3, t60_4, t60_5, t60_6) => (spec_DoDeed.f k t54_1 t54_2 t54_3 t54_4 t54_5 t54_6 t54_7 t54_8 t54_9).bind fun (t66_1, t66_2, t66_3, t66_4, t66_5, t66_6) => (laws_vCut.f k a0 2).bind fun t71 => (spec_DrawDoDeeds.f k t71).bind fun (t72_1, t72_2, t72_3, t72_4, t72_5, t72_6) => (impl_DoDeeds.f k t72_1 t72_2 t72_3 t72_4 t72_5 t72_6).bind fun (t78_1, t78_2, t78_3, t78_4, t78_5, t78_6, t78_7) => (spec_DoDeeds.f k t72_1 t72_2 t72_3 t72_4 t72_5 t72_6).bind fun (t85_1, t85_2, t85_3, t85_4, t85_5, t85_6, t85_7) => (impl_HasNow.f k t54_1 t54_2 t54_3 t54_4 t54_5).bind fun (t91_1, t91_2) => (spec_HasNow.f k t54_1 t54_2 t54_3 t54_4 t54_5).bind fun (t96_1, t96_2) => (impl_NodesAhead.f k t54_1 t54_2 t54_3 t54_4 t54_5).bind fun (t101_1, t101_2) => (spec_NodesAhead.f k t54_1 t54_2 t54_3 t54_4 t54_5).bind fun (t106_1, t106_2) => ((if (t43_6 != t48_6) = true then some true else (laws_vVisit.f k t43_1 t43_2 t43_3 t43_4 t43_5 t48_1 t48_2 t48_3 t48_4 t48_5).bind fun t115 => (if (!t115) = true then some true else (if (t60_6 != t66_6) = true then some true else (laws_vVisit.f k t60_1 t60_2 t60_3 t60_4 t60_5 t66_1 t66_2 t66_3 t66_4 t66_5).bind fun t126 => (if (!t126) = true then some true else (if (t78_7 != t85_7) = true then some true else (if (t78_6 != t85_6) = true then some true else (laws_vVisit.f k t78_1 t78_2 t78_3 t78_4 t78_5 t85_1 t85_2 t85_3 t85_4 t85_5).bind fun t142 => (if (!t142) = true then some true else (impl_IsVisit.f k t54_1 t54_2 t54_3 t54_4 t54_5).bind fun t147 => (spec_IsVisit.f k t54_1 t54_2 t54_3 t54_4 t54_5).bind fun t149 => (if (t147 != t149) = true then some true else (if (t91_1 != t96_1) = true then some true else (if (t91_2 != t96_2) = true then some true else (if (t101_2 != t106_2) = true then some true else (laws_vInts.f k t101_1 t106_1).bind fun t170 => (if (!t170) = true then some true else (impl_IsVisit.f k t54_1 t54_2 t54_3 t54_4 t54_5).bind fun t176 => (if (t91_2 != t176) = true then some true else some (t91_2 != t101_2))))))))))))))).bind fun y183 => (if y183 = true then some false else ((if t78_7 = true then (impl_IsVisit.f k t78_1 t78_2 t78_3 t78_4 t78_5).bind fun t187 => some (!t187) else some false)).bind fun y189 => (if y189 = true then some false else (if t91_2 = true then (impl_GainAtLast.f k t54_1 t54_2 t54_3 0).bind fun (t194_1, t194_2, t194_3) => ((if (!t194_3) = true then some true else (if ((band t91_1 t194_1) != t91_1) = true then some true else (laws_vWithin.f k t54_4 t194_2).bind fun t211 => (if (!t211) = true then some true else (laws_vWithin.f k t101_1 t194_2).bind fun t217 => some (!t217))))).bind fun y219 => (if y219 = true then some false else (if (!t60_6) = true then some true else ((impl_IsVisit.f k t60_1 t60_2 t60_3 t60_4 t60_5).bind fun t223 => (if (!t223) = true then some true else some (t60_5 != (w64 (t54_5 + 1))))).bind fun y232 => (if y232 = true then some false else ((if (t54_6 != 1) = true then some true else some (t60_5 == 1000))).bind fun y240 => (if y240 = true then some true else (impl_HasNow.f k t60_1 t60_2 t60_3 t60_4 t60_5).bind fun (t243_1, t243_2) => (impl_DoDeed.f k t60_1 t60_2 t60_3 t60_4 t60_5 2 0 0 0).bind fun (t249_1, t249_2, t249_3, t249_4, t249_5, t249_6) => ((if t243_2 = true then (if t249_6 = true then (if ((band t243_1 t91_1) == t91_1) = true then (laws_vVisit.f k t249_1 t249_2 t249_3 t249_4 t54_5 t54_1 t54_2 t54_3 t54_4 t54_5).bind fun t269 => (if t269 = true then (laws_vHas.f k t101_1 t54_7).bind fun t275 => some t275 else some false) else some false) else some false) else some false)).bind fun y2 => some y2)))) else (if (!t60_6) = true then some true else ((impl_IsVisit.f k t60_1 t60_2 t60_3 t60_4 t60_5).bind fun t223 => (if (!t223) = true then some true else some (t60_5 != (w64 (t54_5 + 1))))).bind fun y232r => (if y232r = true then some false else ((if (t54_6 != 1) = true then some true else some (t60_5 == 1000))).bind fun y240r => (if y240r = true then some true else (impl_HasNow.f k t60_1 t60_2 t60_3 t60_4 t60_5).bind fun (t243_1, t243_2) => (impl_DoDeed.f k t60_1 t60_2 t60_3 t60_4 t60_5 2 0 0 0).bind fun (t249_1, t249_2, t249_3, t249_4, t249_5, t249_6) => ((if t243_2 = true then (if t249_6 = true then (if ((band t243_1 t91_1) == t91_1) = true then (laws_vVisit.f k t249_1 t249_2 t249_3 t249_4 t54_5 t54_1 t54_2 t54_3 t54_4 t54_5).bind fun t269 => (if t269 = true then (laws_vHas.f k t101_1 t54_7).bind fun t275 => some t275 else some false) else some false) else some false) else some false)).bind fun y2r => some y2r)))))))

theorem laws_FnVisits.ok {k : Nat}  {a0 : List By} {r0 : Bool} (h : laws_FnVisits.f k a0 = some r0) (w : World) {va0 : Value} (hr_a0 : Rd w va0 a0) :
  Calls Tryz.prog 4 ([va0] : List Value).toArray w (fun e w' => e = .returned (.bool r0) ∧ Ext w w') := by
 unfold laws_FnVisits.f at h
 have hl_va0 := hr_a0.len
 refine Calls.of_tri (N := 277) Tryz.func4 rfl rfl rfl (Sep.nil (M := noM)) ?_
 refine Tri.seq (Tri.reg (l := [0]) rfl ?_)
 refine F.qn rfl (r_assign rfl) (F.nil (Nrm.seq (Tri.seq (Tri.seq ?_))))
 obtain ⟨t38, h38, h⟩ := bind_some h
 refine Tri.reg (l := [0, 1]) rfl ?_
 refine F.qn rfl (r_move rfl) ?_
 refine F.qcn rfl (q_callF (xs := _) rfl ok7 rfl rfl (fun w hw => laws_vBig.ok h38 w ((fun _ hw => hr_a0.sep hw) w hw))) ?_
 refine F.nil (Nrm.seq (Tri.cond (b := t38) rfl (fun g_1 => ?_) (fun g_1 => ?_)))
 ·replace h := if_tt g_1 h
  refine Tri.seq (Tri.reg (l := [0]) rfl ?_)
  refine F.qn rfl (r_assign rfl) (F.nil (Nrm.seq (Tri.ret ?_)))
  refine Rtn.then ?_
  cases h
  exact Rtn.body (.tmp rfl .nil) (fun w hw => ⟨rfl, hw.ext⟩)
 ·replace h := if_ff g_1 h
  refine Tri.skip (Nrm.seq (Tri.seq ?_))
  obtain ⟨⟨t40_1, t40_2, t40_3⟩, h40, h⟩ := bind_some h
  refine Tri.reg (l := [0, 1, 2, 3]) rfl ?_
  refine F.qn rfl (r_move rfl) ?_
  refine F.mn rfl (m_callF (xs := _) rfl ok28 rfl rfl (fun w hw => spec_DrawNewVisit.ok h40 w ((fun _ hw => hr_a0.sep hw) w hw))) ?_
  rintro _ _ ⟨_, ⟨v40_1, S40_1, v40_2, S40_2, rfl, hl_v40_1, hl_v40_2, rfl⟩, rfl⟩
  refine F.mn rfl (m_alloc ti27) ?_
  rintro _ _ ⟨b3_1, rfl, rfl⟩
  refine F.ef0 rfl rfl (wanted_none rfl) (d_storeG0 (i := 0) (cs2 := [.int .i64 t40_1, v40_1, v40_2]) ti27 rfl rfl rfl rfl rfl (Nat.le_of_ble_eq_true rfl) (lf_cons rfl (lf_cons (sl_leaf hl_v40_1) (lf_cons (sl_leaf hl_v40_2) lf_nil)))) ?_
  rintro _ _ ⟨rfl, rfl⟩
  refine F.nil (Nrm.seq (Tri.seq ?_))
  obtain ⟨⟨t43_1, t43_2, t43_3, t43_4, t43_5, t43_6⟩, h43, h⟩ := bind_some h
  refine Tri.reg (l := [0, 1, 2, 3, 4, 5, 6, 7]) rfl ?_
  refine F.qn rfl (r_loadA ta27 ti27 rfl rfl (fun w hw => (box_cells (i := 0) rfl w hw))) ?_
  refine F.mn rfl (m_callF (xs := _) rfl ok29 rfl rfl (fun w hw => impl_NewVisit.ok h43 w ((rd_sl (i := 1) rfl) w hw) ((rd_sl (i := 2) rfl) w hw))) ?_
  rintro _ _ ⟨_, ⟨v43_1, S43_1, v43_2, S43_2, v43_3, S43_3, rfl, hl_v43_1, hl_v43_2, hl_v43_3, rfl⟩, rfl⟩
  refine F.qn rfl (r_move rfl) (F.qn rfl (r_extract rfl rfl) (F.qn rfl (r_extract rfl rfl) ?_))
  refine F.mn rfl (m_alloc ti44) ?_
  rintro _ _ ⟨b4_1, rfl, rfl⟩
  refine F.ef0 rfl rfl (wanted_none rfl) (d_storeG0 (i := 0) (cs2 := [.int .i64 t43_1, v43_1, v43_2, v43_3, .int .i64 t43_5]) ti44 rfl rfl rfl rfl rfl (Nat.le_of_ble_eq_true rfl) (lf_cons rfl (lf_cons (sl_leaf hl_v43_1) (lf_cons (sl_leaf hl_v43_2) (lf_cons (sl_leaf hl_v43_3) (lf_cons rfl lf_nil)))))) ?_
  rintro _ _ ⟨rfl, rfl⟩
  refine F.qn rfl (r_assign rfl) (F.nil (Nrm.seq (Tri.seq ?_)))
  obtain ⟨⟨t48_1, t48_2, t48_3, t48_4, t48_5, t48_6⟩, h48, h⟩ := bind_some h
  refine Tri.reg (l := [0, 1, 2, 3, 4, 5, 6, 7]) rfl ?_
  refine F.qn rfl (r_loadA ta27 ti27 rfl rfl (fun w hw => (box_cells (i := 4) rfl w hw))) ?_
  refine F.mn rfl (m_callF (xs := _) rfl ok30 rfl rfl (fun w hw => spec_NewVisit.ok h48 w ((rd_sl (i := 5) rfl) w hw) ((rd_sl (i := 6) rfl) w hw))) ?_
  rintro _ _ ⟨_, ⟨v48_1, S48_1, v48_2, S48_2, v48_3, S48_3, rfl, hl_v48_1, hl_v48_2, hl_v48_3, rfl⟩, rfl⟩
  refine F.qn rfl (r_move rfl) (F.qn rfl (r_extract rfl rfl) (F.qn rfl (r_extract rfl rfl) ?_))
  refine F.mn rfl (m_alloc ti44) ?_
  rintro _ _ ⟨b6_1, rfl, rfl⟩
  refine F.ef0 rfl rfl (wanted_none rfl) (d_storeG0 (i := 0) (cs2 := [.int .i64 t48_1, v48_1, v48_2, v48_3, .int .i64 t48_5]) ti44 rfl rfl rfl rfl rfl (Nat.le_of_ble_eq_true rfl) (lf_cons rfl (lf_cons (sl_leaf hl_v48_1) (lf_cons (sl_leaf hl_v48_2) (lf_cons (sl_leaf hl_v48_3) (lf_cons rfl lf_nil)))))) ?_
  rintro _ _ ⟨rfl, rfl⟩
  refine F.qn rfl (r_assign rfl) (F.nil (Nrm.seq (Tri.seq ?_)))
  obtain ⟨t53, h53, h⟩ := bind_some h
  obtain ⟨⟨t54_1, t54_2, t54_3, t54_4, t54_5, t54_6, t54_7, t54_8, t54_9⟩, h54, h⟩ := bind_some h
  refine Tri.reg (l := [0, 1, 2, 3, 4, 5, 6, 7, 8, 9]) rfl ?_
  refine F.qn rfl (r_move rfl) ?_
  refine F.mn rfl (m_callF (xs := _) rfl ok32 rfl rfl (fun w hw => laws_vCut.ok h53 w ((fun _ hw => hr_a0.sep hw) w hw))) ?_
  rintro v53_1 _ ⟨_, ⟨S53_1, hl_v53_1, rfl⟩, rfl⟩
  refine F.mn rfl (m_callF (xs := _) rfl ok31 rfl rfl (fun w hw => spec_DrawDoDeed.ok h54 w ((rd_sl (i := 0) rfl) w hw))) ?_
  rintro _ _ ⟨_, ⟨v54_1, S54_1, v54_2, S54_2, v54_3, S54_3, rfl, hl_v54_1, hl_v54_2, hl_v54_3, rfl⟩, rfl⟩
  refine F.qn rfl (r_move rfl) (F.qn rfl (r_extract rfl rfl) (F.qn rfl (r_extract rfl rfl) ?_))
  refine F.mn rfl (m_alloc ti44) ?_
  rintro _ _ ⟨b8_1, rfl, rfl⟩
  refine F.mn rfl (m_alloc ti48) ?_
  rintro _ _ ⟨b9_1, rfl, rfl⟩
  refine F.ef0 rfl rfl (wanted_none rfl) (d_storeG0 (i := 1) (cs2 := [.int .i64 t54_1, v54_1, v54_2, v54_3, .int .i64 t54_5]) ti44 rfl rfl rfl rfl rfl (Nat.le_of_ble_eq_true rfl) (lf_cons rfl (lf_cons (sl_leaf hl_v54_1) (lf_cons (sl_leaf hl_v54_2) (lf_cons (sl_leaf hl_v54_3) (lf_cons rfl lf_nil)))))) ?_
  rintro _ _ ⟨rfl, rfl⟩
  refine F.ef0 rfl rfl (wanted_none rfl) (d_storeG0 (i := 0) (cs2 := [.int .i64 t54_6, .int .i64 t54_7, .int .i64 t54_8, .int .i64 t54_9]) ti48 rfl rfl rfl rfl rfl (Nat.le_of_ble_eq_true rfl) (lf_cons rfl (lf_cons rfl (lf_cons rfl (lf_cons rfl lf_nil))))) ?_
  rintro _ _ ⟨rfl, rfl⟩
  refine F.nil (Nrm.seq (Tri.seq ?_))
  obtain ⟨⟨t60_1, t60_2, t60_3, t60_4, t60_5, t60_6⟩, h60, h⟩ := bind_some h
  refine Tri.reg (l := [0, 1, 2, 3, 4, 5, 6, 7, 8]) rfl ?_
  refine F.qn rfl (r_loadA ta44 ti44 rfl rfl (fun w hw => (box_cells (i := 1) rfl w hw))) (F.qn rfl (r_loadA ta48 ti48 rfl rfl (fun w hw => (box_cells (i := 0) rfl w hw))) ?_)
  refine F.mn rfl (m_callF (xs := _) rfl ok33 rfl rfl (fun w hw => impl_DoDeed.ok h60 w ((rd_sl (i := 2) rfl) w hw) ((rd_sl (i := 3) rfl) w hw) ((rd_sl (i := 4) rfl) w hw))) ?_
  rintro _ _ ⟨_, ⟨v60_1, S60_1, v60_2, S60_2, v60_3, S60_3, rfl, hl_v60_1, hl_v60_2, hl_v60_3, rfl⟩, rfl⟩
  refine F.qn rfl (r_move rfl) (F.qn rfl (r_extract rfl rfl) (F.qn rfl (r_extract rfl rfl) ?_))
  refine F.mn rfl (m_alloc ti44) ?_
  rintro _ _ ⟨b10_1, rfl, rfl⟩
  refine F.ef0 rfl rfl (wanted_none rfl) (d_storeG0 (i := 0) (cs2 := [.int .i64 t60_1, v60_1, v60_2, v60_3, .int .i64 t60_5]) ti44 rfl rfl rfl rfl rfl (Nat.le_of_ble_eq_true rfl) (lf_cons rfl (lf_cons (sl_leaf hl_v60_1) (lf_cons (sl_leaf hl_v60_2) (lf_cons (sl_leaf hl_v60_3) (lf_cons rfl lf_nil)))))) ?_
  rintro _ _ ⟨rfl, rfl⟩
  refine F.qn rfl (r_assign rfl) (F.nil (Nrm.seq (Tri.seq ?_)))
  obtain ⟨⟨t66_1, t66_2, t66_3, t66_4, t66_5, t66_6⟩, h66, h⟩ := bind_some h
  refine Tri.reg (l := [0, 1, 2, 3, 4, 5, 6, 7, 8]) rfl ?_
  refine F.qn rfl (r_loadA ta44 ti44 rfl rfl (fun w hw => (box_cells (i := 5) rfl w hw))) (F.qn rfl (r_loadA ta48 ti48 rfl rfl (fun w hw => (box_cells (i := 4) rfl w hw))) ?_)
  refine F.mn rfl (m_callF (xs := _) rfl ok34 rfl rfl (fun w hw => spec_DoDeed.ok h66 w ((rd_sl (i := 6) rfl) w hw) ((rd_sl (i := 7) rfl) w hw) ((rd_sl (i := 8) rfl) w hw))) ?_
  rintro _ _ ⟨_, ⟨v66_1, S66_1, v66_2, S66_2, v66_3, S66_3, rfl, hl_v66_1, hl_v66_2, hl_v66_3, rfl⟩, rfl⟩
  refine F.qn rfl (r_move rfl) (F.qn rfl (r_extract rfl rfl) (F.qn rfl (r_extract rfl rfl) ?_))
  refine F.mn rfl (m_alloc ti44) ?_
  rintro _ _ ⟨b12_1, rfl, rfl⟩
  refine F.ef0 rfl rfl (wanted_none rfl) (d_storeG0 (i := 0) (cs2 := [.int .i64 t66_1, v66_1, v66_2, v66_3, .int .i64 t66_5]) ti44 rfl rfl rfl rfl rfl (Nat.le_of_ble_eq_true rfl) (lf_cons rfl (lf_cons (sl_leaf hl_v66_1) (lf_cons (sl_leaf hl_v66_2) (lf_cons (sl_leaf hl_v66_3) (lf_cons rfl lf_nil)))))) ?_
  rintro _ _ ⟨rfl, rfl⟩
  refine F.qn rfl (r_assign rfl) (F.nil (Nrm.seq (Tri.seq ?_)))
  obtain ⟨t71, h71, h⟩ := bind_some h
  obtain ⟨⟨t72_1, t72_2, t72_3, t72_4, t72_5, t72_6⟩, h72, h⟩ := bind_some h
  refine Tri.reg (l := [0, 1, 2, 3, 4, 5, 6, 7, 8]) rfl ?_
  refine F.qn rfl (r_move rfl) ?_
  refine F.mn rfl (m_callF (xs := _) rfl ok32 rfl rfl (fun w hw => laws_vCut.ok h71 w ((fun _ hw => hr_a0.sep hw) w hw))) ?_
  rintro v71_1 _ ⟨_, ⟨S71_1, hl_v71_1, rfl⟩, rfl⟩
  refine F.mn rfl (m_callF (xs := _) rfl ok35 rfl rfl (fun w hw => spec_DrawDoDeeds.ok h72 w ((rd_sl (i := 0) rfl) w hw))) ?_
  rintro _ _ ⟨_, ⟨v72_1, S72_1, v72_2, S72_2, v72_3, S72_3, v72_4, S72_4, rfl, hl_v72_1, hl_v72_2, hl_v72_3, hl_v72_4, rfl⟩, rfl⟩
  refine F.qn rfl (r_move rfl) (F.qn rfl (r_extract rfl rfl) (F.qn rfl (r_extract rfl rfl) ?_))
  refine F.mn rfl (m_alloc ti44) ?_
  rintro _ _ ⟨b14_1, rfl, rfl⟩
  refine F.ef0 rfl rfl (wanted_none rfl) (d_storeG0 (i := 0) (cs2 := [.int .i64 t72_1, v72_1, v72_2, v72_3, .int .i64 t72_5]) ti44 rfl rfl rfl rfl rfl (Nat.le_of_ble_eq_true rfl) (lf_cons rfl (lf_cons (sl_leaf hl_v72_1) (lf_cons (sl_leaf hl_v72_2) (lf_cons (sl_leaf hl_v72_3) (lf_cons rfl lf_nil)))))) ?_
  rintro _ _ ⟨rfl, rfl⟩
  refine F.qn rfl (r_assign rfl) (F.nil (Nrm.seq (Tri.seq ?_)))
  obtain ⟨⟨t78_1, t78_2, t78_3, t78_4, t78_5, t78_6, t78_7⟩, h78, h⟩ := bind_some h
  refine Tri.reg (l := [0, 1, 2, 3, 4, 5, 6, 7, 8, 9, 10]) rfl ?_
  refine F.qn rfl (r_loadA ta44 ti44 rfl rfl (fun w hw => (box_cells (i := 0) rfl w hw))) (F.qn rfl (r_move rfl) ?_)
  refine F.mn rfl (m_callF (xs := _) rfl ok36 rfl rfl (fun w hw => impl_DoDeeds.ok h78 w ((rd_sl (i := 1) rfl) w hw) ((rd_sl (i := 2) rfl) w hw) ((rd_sl (i := 3) rfl) w hw) ((rd_sl (i := 4) rfl) w hw))) ?_
  rintro _ _ ⟨_, ⟨v78_1, S78_1, v78_2, S78_2, v78_3, S78_3, rfl, hl_v78_1, hl_v78_2, hl_v78_3, rfl⟩, rfl⟩
  refine F.qn rfl (r_move rfl) ?_
  iterate 3 refine F.qn rfl (r_extract rfl rfl) ?_
  refine F.mn rfl (m_alloc ti44) ?_
  rintro _ _ ⟨b16_1, rfl, rfl⟩
  refine F.ef0 rfl rfl (wanted_none rfl) (d_storeG0 (i := 0) (cs2 := [.int .i64 t78_1, v78_1, v78_2, v78_3, .int .i64 t78_5]) ti44 rfl rfl rfl rfl rfl (Nat.le_of_ble_eq_true rfl) (lf_cons rfl (lf_cons (sl_leaf hl_v78_1) (lf_cons (sl_leaf hl_v78_2) (lf_cons (sl_leaf hl_v78_3) (lf_cons rfl lf_nil)))))) ?_
  rintro _ _ ⟨rfl, rfl⟩
  refine F.qn rfl (r_assign rfl) (F.qn rfl (r_assign rfl) (F.nil (Nrm.seq (Tri.seq ?_))))
  obtain ⟨⟨t85_1, t85_2, t85_3, t85_4, t85_5, t85_6, t85_7⟩, h85, h⟩ := bind_some h
  refine Tri.reg (l := [0, 1, 2, 3, 4, 5, 6, 7, 8, 9, 10]) rfl ?_
  refine F.qn rfl (r_loadA ta44 ti44 rfl rfl (fun w hw => (box_cells (i := 4) rfl w hw))) (F.qn rfl (r_move rfl) ?_)
  refine F.mn rfl (m_callF (xs := _) rfl ok37 rfl rfl (fun w hw => spec_DoDeeds.ok h85 w ((rd_sl (i := 5) rfl) w hw) ((rd_sl (i := 6) rfl) w hw) ((rd_sl (i := 7) rfl) w hw) ((rd_sl (i := 8) rfl) w hw))) ?_
  rintro _ _ ⟨_, ⟨v85_1, S85_1, v85_2, S85_2, v85_3, S85_3, rfl, hl_v85_1, hl_v85_2, hl_v85_3, rfl⟩, rfl⟩
  refine F.qn rfl (r_move rfl) ?_
  iterate 3 refine F.qn rfl (r_extract rfl rfl) ?_
  refine F.mn rfl (m_alloc ti44) ?_
  rintro _ _ ⟨b19_1, rfl, rfl⟩
  refine F.ef0 rfl rfl (wanted_none rfl) (d_storeG0 (i := 0) (cs2 := [.int .i64 t85_1, v85_1, v85_2, v85_3, .int .i64 t85_5]) ti44 rfl rfl rfl rfl rfl (Nat.le_of_ble_eq_true rfl) (lf_cons rfl (lf_cons (sl_leaf hl_v85_1) (lf_cons (sl_leaf hl_v85_2) (lf_cons (sl_leaf hl_v85_3) (lf_cons rfl lf_nil)))))) ?_
  rintro _ _ ⟨rfl, rfl⟩
  refine F.qn rfl (r_assign rfl) (F.qn rfl (r_assign rfl) (F.nil (Nrm.seq (Tri.seq ?_))))
  obtain ⟨⟨t91_1, t91_2⟩, h91, h⟩ := bind_some h
  refine Tri.reg (l := [0, 1, 2, 3, 4, 5, 6]) rfl ?_
  refine F.qn rfl (r_loadA ta44 ti44 rfl rfl (fun w hw => (box_cells (i := 23) rfl w hw))) ?_
  refine F.qcn rfl (q_callF (xs := _) rfl ok38 rfl rfl (fun w hw => impl_HasNow.ok h91 w ((rd_sl (i := 24) rfl) w hw) ((rd_sl (i := 25) rfl) w hw) ((rd_sl (i := 26) rfl) w hw))) ?_
  refine F.qn rfl (r_move rfl) (F.qn rfl (r_extract rfl rfl) (F.qn rfl (r_extract rfl rfl) (F.qn rfl (r_assign rfl) (F.qn rfl (r_assign rfl) (F.nil (Nrm.seq (Tri.seq ?_)))))))
  obtain ⟨⟨t96_1, t96_2⟩, h96, h⟩ := bind_some h
  refine Tri.reg (l := [0, 1, 2, 3, 4, 5, 6]) rfl ?_
  refine F.qn rfl (r_loadA ta44 ti44 rfl rfl (fun w hw => (box_cells (i := 23) rfl w hw))) ?_
  refine F.qcn rfl (q_callF (xs := _) rfl ok39 rfl rfl (fun w hw => spec_HasNow.ok h96 w ((rd_sl (i := 24) rfl) w hw) ((rd_sl (i := 25) rfl) w hw) ((rd_sl (i := 26) rfl) w hw))) ?_
  refine F.qn rfl (r_move rfl) (F.qn rfl (r_extract rfl rfl) (F.qn rfl (r_extract rfl rfl) (F.qn rfl (r_assign rfl) (F.qn rfl (r_assign rfl) (F.nil (Nrm.seq (Tri.seq ?_)))))))
  obtain ⟨⟨t101_1, t101_2⟩, h101, h⟩ := bind_some h
  refine Tri.reg (l := [0, 1, 2, 3, 4, 5, 6]) rfl ?_
  refine F.qn rfl (r_loadA ta44 ti44 rfl rfl (fun w hw => (box_cells (i := 23) rfl w hw))) ?_
  refine F.mn rfl (m_callF (xs := _) rfl ok40 rfl rfl (fun w hw => impl_NodesAhead.ok h101 w ((rd_sl (i := 24) rfl) w hw) ((rd_sl (i := 25) rfl) w hw) ((rd_sl (i := 26) rfl) w hw))) ?_
  rintro _ _ ⟨_, ⟨v101_1, S101_1, rfl, hl_v101_1, rfl⟩, rfl⟩
  refine F.qn rfl (r_move rfl) (F.qn rfl (r_extract rfl rfl) (F.qn rfl (r_extract rfl rfl) (F.qn rfl (r_assign rfl) (F.qn rfl (r_assign rfl) (F.nil (Nrm.seq (Tri.seq ?_)))))))
  obtain ⟨⟨t106_1, t106_2⟩, h106, h⟩ := bind_some h
  refine Tri.reg (l := [0, 1, 2, 3, 4, 5, 6]) rfl ?_
  refine F.qn rfl (r_loadA ta44 ti44 rfl rfl (fun w hw => (box_cells (i := 24) rfl w hw))) ?_
  refine F.mn rfl (m_callF (xs := _) rfl ok41 rfl rfl (fun w hw => spec_NodesAhead.ok h106 w ((rd_sl (i := 25) rfl) w hw) ((rd_sl (i := 26) rfl) w hw) ((rd_sl (i := 27) rfl) w hw))) ?_
  rintro _ _ ⟨_, ⟨v106_1, S106_1, rfl, hl_v106_1, rfl⟩, rfl⟩
  refine F.qn rfl (r_move rfl) (F.qn rfl (r_extract rfl rfl) (F.qn rfl (r_extract rfl rfl) (F.qn rfl (r_assign rfl) (F.qn rfl (r_assign rfl) (F.nil (Nrm.seq (Tri.seq (Tri.seq ?_))))))))
  obtain ⟨y183, hE_1, h⟩ := bind_some h
  refine Tri.cut (fun e' C' => e' = [(8, .pointer (some ⟨b8_1, 0, none⟩)), (9, .pointer (some ⟨b9_1, 0, none⟩)), (10, .pointer (some ⟨b10_1, 0, none⟩)), (11, .bool t60_6), (16, .pointer (some ⟨b16_1, 0, none⟩)), (18, .bool t78_7), (22, .int .i64 t91_1), (23, .bool t91_2), (26, v101_1), (183, .bool y183)] ∧ C' = Sep w noM [R.box b16_1 44 [.int .i64 t78_1, v78_1, v78_2, v78_3, .int .i64 t78_5], R.box b10_1 44 [.int .i64 t60_1, v60_1, v60_2, v60_3, .int .i64 t60_5], R.box b9_1 48 [.int .i64 t54_6, .int .i64 t54_7, .int .i64 t54_8, .int .i64 t54_9], R.box b8_1 44 [.int .i64 t54_1, v54_1, v54_2, v54_3, .int .i64 t54_5], R.sl S101_1 v101_1 (t101_1 : List (Int)), R.sl S54_1 v54_1 (t54_2 : List (Int × Int × Int)), R.sl S54_2 v54_2 (t54_3 : List (Int)), R.sl S54_3 v54_3 (t54_4 : List (Int)), R.sl S60_1 v60_1 (t60_2 : List (Int × Int × Int)), R.sl S60_2 v60_2 (t60_3 : List (Int)), R.sl S60_3 v60_3 (t60_4 : List (Int)), R.sl S78_1 v78_1 (t78_2 : List (Int × Int × Int)), R.sl S78_2 v78_2 (t78_3 : List (Int)), R.sl S78_3 v78_3 (t78_4 : List (Int))]) ?_ (fun hj_1 => ?_)
  ·rintro _ _ ⟨rfl, rfl⟩
   refine Nrm.seq (Tri.cond (b := y183) rfl (fun g_2 => ?_) (fun g_2 => ?_))
   ·replace h := if_tt g_2 h
    refine Tri.seq (Tri.reg (l := [0]) rfl ?_)
    refine F.qn rfl (r_assign rfl) (F.nil (Nrm.seq (Tri.ret ?_)))
    refine Rtn.then ?_
    cases h
    exact Rtn.body (.tmp rfl .nil) (fun w hw => ⟨rfl, hw.ext⟩)
   ·replace h := if_ff g_2 h
    refine Tri.skip (Nrm.seq (Tri.seq (Tri.seq ?_)))
    obtain ⟨y189, hE_2, h⟩ := bind_some h
    refine Tri.cut (fun e' C' => e' = [(8, .pointer (some ⟨b8_1, 0, none⟩)), (9, .pointer (some ⟨b9_1, 0, none⟩)), (10, .pointer (some ⟨b10_1, 0, none⟩)), (11, .bool t60_6), (22, .int .i64 t91_1), (23, .bool t91_2), (26, v101_1), (189, .bool y189)] ∧ C' = Sep w noM [R.box b10_1 44 [.int .i64 t60_1, v60_1, v60_2, v60_3, .int .i64 t60_5], R.box b9_1 48 [.int .i64 t54_6, .int .i64 t54_7, .int .i64 t54_8, .int .i64 t54_9], R.box b8_1 44 [.int .i64 t54_1, v54_1, v54_2, v54_3, .int .i64 t54_5], R.sl S101_1 v101_1 (t101_1 : List (Int)), R.sl S54_1 v54_1 (t54_2 : List (Int × Int × Int)), R.sl S54_2 v54_2 (t54_3 : List (Int)), R.sl S54_3 v54_3 (t54_4 : List (Int)), R.sl S60_1 v60_1 (t60_2 : List (Int × Int × Int)), R.sl S60_2 v60_2 (t60_3 : List (Int)), R.sl S60_3 v60_3 (t60_4 : List (Int))]) ?_ (fun hj_2 => ?_)
    ·rintro _ _ ⟨rfl, rfl⟩
     refine Nrm.seq (Tri.cond (b := y189) rfl (fun g_3 => ?_) (fun g_3 => ?_))
     ·replace h := if_tt g_3 h
      refine Tri.seq (Tri.reg (l := [0]) rfl ?_)
      refine F.qn rfl (r_assign rfl) (F.nil (Nrm.seq (Tri.ret ?_)))
      refine Rtn.then ?_
      cases h
      exact Rtn.body (.tmp rfl .nil) (fun w hw => ⟨rfl, hw.ext⟩)
     ·replace h := if_ff g_3 h
      refine Tri.skip (Nrm.seq (Tri.seq (Tri.seq (Tri.reg (l := [0]) rfl ?_))))
      refine F.qn rfl (r_move rfl) (F.nil (Nrm.seq (Tri.cond (b := t91_2) rfl (fun g_4 => ?_) (fun g_4 => ?_))))
      ·replace h := if_tt g_4 h
       refine Tri.seq ?_
       obtain ⟨⟨t194_1, t194_2, t194_3⟩, h194, h⟩ := bind_some h
       refine Tri.reg (l := [0, 1, 2, 3, 4, 5, 6, 7, 8, 9]) rfl ?_
       refine F.qn rfl (r_fieldAddr tf44_0 rfl) (F.qn rfl (r_loadA ta27 ti27 rfl rfl (fun w hw => cells_1 (cs' := [.int .i64 t54_1, v54_1, v54_2]) (box_cells (i := 2) rfl w hw) rfl)) ?_)
       refine F.mn rfl (m_callF (xs := _) rfl ok45 rfl rfl (fun w hw => impl_GainAtLast.ok h194 w ((rd_sl (i := 4) rfl) w hw) ((rd_sl (i := 5) rfl) w hw))) ?_
       rintro _ _ ⟨_, ⟨v194_1, S194_1, rfl, hl_v194_1, rfl⟩, rfl⟩
       refine F.qn rfl (r_move rfl) ?_
       iterate 3 refine F.qn rfl (r_extract rfl rfl) ?_
       iterate 3 refine F.qn rfl (r_assign rfl) ?_
       refine F.nil (Nrm.seq (Tri.seq ?_))
       obtain ⟨y219, hE_3, h⟩ := bind_some h
       refine Tri.cut (fun e' C' => e' = [(8, .pointer (some ⟨b8_1, 0, none⟩)), (9, .pointer (some ⟨b9_1, 0, none⟩)), (10, .pointer (some ⟨b10_1, 0, none⟩)), (11, .bool t60_6), (22, .int .i64 t91_1), (26, v101_1), (219, .bool y219)] ∧ C' = Sep w noM [R.box b10_1 44 [.int .i64 t60_1, v60_1, v60_2, v60_3, .int .i64 t60_5], R.box b9_1 48 [.int .i64 t54_6, .int .i64 t54_7, .int .i64 t54_8, .int .i64 t54_9], R.box b8_1 44 [.int .i64 t54_1, v54_1, v54_2, v54_3, .int .i64 t54_5], R.sl S101_1 v101_1 (t101_1 : List (Int)), R.sl S54_1 v54_1 (t54_2 : List (Int × Int × Int)), R.sl S54_2 v54_2 (t54_3 : List (Int)), R.sl S54_3 v54_3 (t54_4 : List (Int)), R.sl S60_1 v60_1 (t60_2 : List (Int × Int × Int)), R.sl S60_2 v60_2 (t60_3 : List (Int)), R.sl S60_3 v60_3 (t60_4 : List (Int))]) ?_ (fun hj_3 => ?_)
       ·rintro _ _ ⟨rfl, rfl⟩
        refine Nrm.seq (Tri.cond (b := y219) rfl (fun g_5 => ?_) (fun g_5 => ?_))
        ·replace h := if_tt g_5 h
         refine Tri.seq (Tri.reg (l := [0]) rfl ?_)
         refine F.qn rfl (r_assign rfl) (F.nil (Nrm.seq (Tri.ret ?_)))
         refine Rtn.then ?_
         cases h
         exact Rtn.body (.tmp rfl .nil) (fun w hw => ⟨rfl, hw.ext⟩)
        ·replace h := if_ff g_5 h
         refine Tri.skip (Nrm.seq (Tri.seq (Tri.seq (Tri.reg (l := [0, 1]) rfl ?_))))
         refine F.qn rfl (r_move rfl) (F.qn rfl (r_not rfl) (F.nil (Nrm.seq (Tri.cond (b := !t60_6) rfl (fun g_6 => ?_) (fun g_6 => ?_)))))
         ·replace h := if_tt g_6 h
          refine Tri.seq (Tri.reg (l := [0]) rfl ?_)
          refine F.qn rfl (r_assign rfl) (F.nil (Nrm.seq (Tri.ret ?_)))
          refine Rtn.then ?_
          cases h
          exact Rtn.body (.tmp rfl .nil) (fun w hw => ⟨rfl, hw.ext⟩)
         ·replace h := if_ff g_6 h
          refine Tri.skip (Nrm.seq (Tri.seq (Tri.seq ?_)))
          obtain ⟨y232, hE_4, h⟩ := bind_some h
          refine Tri.cut (fun e' C' => e' = [(8, .pointer (some ⟨b8_1, 0, none⟩)), (9, .pointer (some ⟨b9_1, 0, none⟩)), (10, .pointer (some ⟨b10_1, 0, none⟩)), (22, .int .i64 t91_1), (26, v101_1), (232, .bool y232)] ∧ C' = Sep w noM [R.box b10_1 44 [.int .i64 t60_1, v60_1, v60_2, v60_3, .int .i64 t60_5], R.box b9_1 48 [.int .i64 t54_6, .int .i64 t54_7, .int .i64 t54_8, .int .i64 t54_9], R.box b8_1 44 [.int .i64 t54_1, v54_1, v54_2, v54_3, .int .i64 t54_5], R.sl S101_1 v101_1 (t101_1 : List (Int)), R.sl S54_1 v54_1 (t54_2 : List (Int × Int × Int)), R.sl S54_2 v54_2 (t54_3 : List (Int)), R.sl S54_3 v54_3 (t54_4 : List (Int)), R.sl S60_1 v60_1 (t60_2 : List (Int × Int × Int)), R.sl S60_2 v60_2 (t60_3 : List (Int)), R.sl S60_3 v60_3 (t60_4 : List (Int))]) ?_ (fun hj_4 => ?_)
          ·rintro _ _ ⟨rfl, rfl⟩
           refine Nrm.seq (Tri.cond (b := y232) rfl (fun g_7 => ?_) (fun g_7 => ?_))
           ·replace h := if_tt g_7 h
            refine Tri.seq (Tri.reg (l := [0]) rfl ?_)
            refine F.qn rfl (r_assign rfl) (F.nil (Nrm.seq (Tri.ret ?_)))
            refine Rtn.then ?_
            cases h
            exact Rtn.body (.tmp rfl .nil) (fun w hw => ⟨rfl, hw.ext⟩)
           ·replace h := if_ff g_7 h
            refine Tri.skip (Nrm.seq (Tri.seq (Tri.seq ?_)))
            obtain ⟨y240, hE_5, h⟩ := bind_some h
            refine Tri.cut (fun e' C' => e' = [(8, .pointer (some ⟨b8_1, 0, none⟩)), (9, .pointer (some ⟨b9_1, 0, none⟩)), (10, .pointer (some ⟨b10_1, 0, none⟩)), (22, .int .i64 t91_1), (26, v101_1), (240, .bool y240)] ∧ C' = Sep w noM [R.box b10_1 44 [.int .i64 t60_1, v60_1, v60_2, v60_3, .int .i64 t60_5], R.box b9_1 48 [.int .i64 t54_6, .int .i64 t54_7, .int .i64 t54_8, .int .i64 t54_9], R.box b8_1 44 [.int .i64 t54_1, v54_1, v54_2, v54_3, .int .i64 t54_5], R.sl S101_1 v101_1 (t101_1 : List (Int)), R.sl S54_1 v54_1 (t54_2 : List (Int × Int × Int)), R.sl S54_2 v54_2 (t54_3 : List (Int)), R.sl S54_3 v54_3 (t54_4 : List (Int)), R.sl S60_1 v60_1 (t60_2 : List (Int × Int × Int)), R.sl S60_2 v60_2 (t60_3 : List (Int)), R.sl S60_3 v60_3 (t60_4 : List (Int))]) ?_ (fun hj_5 => ?_)
            ·rintro _ _ ⟨rfl, rfl⟩
             refine Nrm.seq (Tri.cond (b := y240) rfl (fun g_8 => ?_) (fun g_8 => ?_))
             ·replace h := if_tt g_8 h
              refine Tri.seq (Tri.reg (l := [0]) rfl ?_)
              refine F.qn rfl (r_assign rfl) (F.nil (Nrm.seq (Tri.ret ?_)))
              refine Rtn.then ?_
              cases h
              exact Rtn.body (.tmp rfl .nil) (fun w hw => ⟨rfl, hw.ext⟩)
             ·replace h := if_ff g_8 h
              refine Tri.skip (Nrm.seq (Tri.seq ?_))
              obtain ⟨⟨t243_1, t243_2⟩, h243, h⟩ := bind_some h
              refine Tri.reg (l := [0, 1, 2, 3, 4, 5, 6]) rfl ?_
              refine F.qn rfl (r_loadA ta44 ti44 rfl rfl (fun w hw => (box_cells (i := 0) rfl w hw))) ?_
              refine F.qcn rfl (q_callF (xs := _) rfl ok38 rfl rfl (fun w hw => impl_HasNow.ok h243 w ((rd_sl (i := 7) rfl) w hw) ((rd_sl (i := 8) rfl) w hw) ((rd_sl (i := 9) rfl) w hw))) ?_
              refine F.qn rfl (r_move rfl) (F.qn rfl (r_extract rfl rfl) (F.qn rfl (r_extract rfl rfl) (F.qn rfl (r_assign rfl) (F.qn rfl (r_assign rfl) (F.nil (Nrm.seq (Tri.seq ?_)))))))
              obtain ⟨⟨t249_1, t249_2, t249_3, t249_4, t249_5, t249_6⟩, h249, h⟩ := bind_some h
              refine Tri.reg (l := [0, 1, 2, 3, 4, 5, 6, 7, 8]) rfl ?_
              refine F.qn rfl (r_loadA ta44 ti44 rfl rfl (fun w hw => (box_cells (i := 0) rfl w hw))) (F.qn rfl (r_build (pl := [(0, 1), (1, 1), (2, 1), (3, 1)]) (qs := [(0, [.int .i64 2])]) (cs := [.int .i64 2, .int .i64 0, .int .i64 0, .int .i64 0]) (by kernel_rfl) ti48 rfl (.cons rfl rfl (Nat.le_of_ble_eq_true rfl) .nil) rfl rfl) ?_)
              refine F.mn rfl (m_callF (xs := _) rfl ok33 rfl rfl (fun w hw => impl_DoDeed.ok h249 w ((rd_sl (i := 7) rfl) w hw) ((rd_sl (i := 8) rfl) w hw) ((rd_sl (i := 9) rfl) w hw))) ?_
              rintro _ _ ⟨_, ⟨v249_1, S249_1, v249_2, S249_2, v249_3, S249_3, rfl, hl_v249_1, hl_v249_2, hl_v249_3, rfl⟩, rfl⟩
              refine F.qn rfl (r_move rfl) (F.qn rfl (r_extract rfl rfl) (F.qn rfl (r_extract rfl rfl) ?_))
              refine F.mn rfl (m_alloc ti44) ?_
              rintro _ _ ⟨b35_1, rfl, rfl⟩
              refine F.ef0 rfl rfl (wanted_none rfl) (d_storeG0 (i := 0) (cs2 := [.int .i64 t249_1, v249_1, v249_2, v249_3, .int .i64 t249_5]) ti44 rfl rfl rfl rfl rfl (Nat.le_of_ble_eq_true rfl) (lf_cons rfl (lf_cons (sl_leaf hl_v249_1) (lf_cons (sl_leaf hl_v249_2) (lf_cons (sl_leaf hl_v249_3) (lf_cons rfl lf_nil)))))) ?_
              rintro _ _ ⟨rfl, rfl⟩
              refine F.qn rfl (r_assign rfl) (F.nil (Nrm.seq (Tri.seq (Tri.reg (l := [0, 1, 2, 3]) rfl ?_))))
              refine F.qn rfl (r_fieldAddr tf44_2 rfl) (F.qn rfl (r_load ta3 rfl (fun w hw => cell_1 (box_cells (i := 6) rfl w hw) rfl)) (F.qn rfl (r_fieldAddr tf44_2 rfl) ?_))
              refine F.ef0 rfl rfl (wanted_none rfl) (d_storeG1 (i := 0) (cs2 := [.int .i64 t54_5]) ti3 rfl rfl rfl rfl rfl (Nat.le_of_ble_eq_true rfl) (lf_cons rfl lf_nil)) ?_
              rintro _ _ ⟨rfl, rfl⟩
              refine F.nil (Nrm.seq (Tri.seq ?_))
              obtain ⟨y2, hE_6, h⟩ := bind_some h
              refine Tri.cut (fun e' C' => e' = [(2, .bool y2)] ∧ C' = Sep w noM []) ?_ (fun hj_6 => ?_)
              ·rintro _ _ ⟨rfl, rfl⟩
               refine Nrm.seq (Tri.ret ?_)
               cases h
               exact Rtn.body (.tmp rfl .nil) (fun w hw => ⟨rfl, hw.ext⟩)
              ·rcases Bool.eq_false_or_eq_true (t243_2) with g256 | g256
               ·replace hE_6 := if_tt g256 hE_6
                rcases Bool.eq_false_or_eq_true (t249_6) with g259 | g259
                ·replace hE_6 := if_tt g259 hE_6
                 rcases Bool.eq_false_or_eq_true ((band t243_1 t91_1) == t91_1) with g266 | g266
                 ·replace hE_6 := if_tt g266 hE_6
                  obtain ⟨t269, h269, hE_6⟩ := bind_some hE_6
                  rcases Bool.eq_false_or_eq_true (t269) with g271 | g271
                  ·replace hE_6 := if_tt g271 hE_6
                   obtain ⟨t275, h275, hE_6⟩ := bind_some hE_6
                   refine Tri.reg (l := List.range 23) rfl ?_
                   refine F.qn rfl (r_move rfl) (F.qn rfl (r_move rfl) ?_)
                   refine F.qg rfl g256 (r_move rfl) (F.qn rfl (r_pick rfl rfl g256) (F.qn rfl (r_move rfl) (F.qg rfl g259 (r_move rfl) (F.qg rfl g259 (r_move rfl) (F.qg rfl g259 (r_and rfl rfl) ?_)))))
                   refine F.qg rfl g259 (r_move rfl) (F.qg rfl g259 (r_eql rfl rfl) (F.qn rfl (r_pick rfl rfl g259) (F.qn rfl (r_move rfl) (F.qg rfl g266 (r_loadA ta44 ti44 rfl rfl (fun w hw => (box_cells (i := 0) rfl w hw))) (F.qg rfl g266 (r_loadA ta44 ti44 rfl rfl (fun w hw => (box_cells (i := 6) rfl w hw))) ?_)))))
                   refine F.qc rfl rfl rfl (wg rfl rfl rfl g266) (q_callF (xs := _) rfl ok42 rfl rfl (fun w hw => laws_vVisit.ok h269 w ((rd_sl (i := 1) rfl) w hw) ((rd_sl (i := 2) rfl) w hw) ((rd_sl (i := 3) rfl) w hw) ((rd_sl (i := 8) rfl) w hw) ((rd_sl (i := 9) rfl) w hw) ((rd_sl (i := 10) rfl) w hw))) ?_
                   refine F.qn rfl (r_pick rfl rfl g266) (F.qn rfl (r_move rfl) (F.qg rfl g271 (r_move rfl) (F.qg rfl g271 (r_fieldAddr tf48_1 rfl) (F.qg rfl g271 (r_load ta3 rfl (fun w hw => cell_1 (box_cells (i := 5) rfl w hw) rfl)) ?_))))
                   refine F.qc rfl rfl rfl (wg rfl rfl rfl g271) (q_callF (xs := _) rfl ok22 rfl rfl (fun w hw => laws_vHas.ok h275 w ((rd_sl (i := 7) rfl) w hw))) ?_
                   refine F.qn rfl (r_pick rfl rfl g271) (F.qn rfl (r_assign rfl) (F.nil ?_))
                   cases hE_6
                   refine Nrm.only [2] rfl ?_
                   refine Nrm.pick [] rfl rfl ?_
                   exact hj_6 _ _ ⟨rfl, rfl⟩
                  ·replace hE_6 := if_ff g271 hE_6
                   refine Tri.reg (l := List.range 23) rfl ?_
                   refine F.qn rfl (r_move rfl) (F.qn rfl (r_move rfl) ?_)
                   refine F.qg rfl g256 (r_move rfl) (F.qn rfl (r_pick rfl rfl g256) (F.qn rfl (r_move rfl) (F.qg rfl g259 (r_move rfl) (F.qg rfl g259 (r_move rfl) (F.qg rfl g259 (r_and rfl rfl) ?_)))))
                   refine F.qg rfl g259 (r_move rfl) (F.qg rfl g259 (r_eql rfl rfl) (F.qn rfl (r_pick rfl rfl g259) (F.qn rfl (r_move rfl) (F.qg rfl g266 (r_loadA ta44 ti44 rfl rfl (fun w hw => (box_cells (i := 0) rfl w hw))) (F.qg rfl g266 (r_loadA ta44 ti44 rfl rfl (fun w hw => (box_cells (i := 6) rfl w hw))) ?_)))))
                   refine F.qc rfl rfl rfl (wg rfl rfl rfl g266) (q_callF (xs := _) rfl ok42 rfl rfl (fun w hw => laws_vVisit.ok h269 w ((rd_sl (i := 1) rfl) w hw) ((rd_sl (i := 2) rfl) w hw) ((rd_sl (i := 3) rfl) w hw) ((rd_sl (i := 8) rfl) w hw) ((rd_sl (i := 9) rfl) w hw) ((rd_sl (i := 10) rfl) w hw))) ?_
                   refine F.qn rfl (r_pick rfl rfl g266) (F.qn rfl (r_move rfl) ?_)
                   iterate 4 refine F.skf rfl g271 ?_
                   refine F.qn rfl (r_pickf rfl rfl g271) (F.qn rfl (r_assign rfl) (F.nil ?_))
                   cases hE_6
                   refine Nrm.only [2] rfl ?_
                   refine Nrm.pick [] rfl rfl ?_
                   exact hj_6 _ _ ⟨rfl, rfl⟩
                 ·replace hE_6 := if_ff g266 hE_6
                  refine Tri.reg (l := List.range 23) rfl ?_
                  refine F.qn rfl (r_move rfl) (F.qn rfl (r_move rfl) (F.qg rfl g256 (r_move rfl) (F.qn rfl (r_pick rfl rfl g256) (F.qn rfl (r_move rfl) (F.qg rfl g259 (r_move rfl) ?_)))))
                  refine F.qg rfl g259 (r_move rfl) (F.qg rfl g259 (r_and rfl rfl) (F.qg rfl g259 (r_move rfl) (F.qg rfl g259 (r_eql rfl rfl) (F.qn rfl (r_pick rfl rfl g259) (F.qn rfl (r_move rfl) ?_)))))
                  iterate 3 refine F.skf rfl g266 ?_
                  refine F.qn rfl (r_pickf rfl rfl g266) (F.qn rfl (r_move rfl) ?_)
                  iterate 4 refine F.skf rfl rfl ?_
                  refine F.qn rfl (r_pickf rfl rfl rfl) (F.qn rfl (r_assign rfl) (F.nil ?_))
                  cases hE_6
                  refine Nrm.only [2] rfl ?_
                  refine Nrm.pick [] rfl rfl ?_
                  exact hj_6 _ _ ⟨rfl, rfl⟩
                ·replace hE_6 := if_ff g259 hE_6
                 refine Tri.reg (l := List.range 23) rfl ?_
                 refine F.qn rfl (r_move rfl) (F.qn rfl (r_move rfl) (F.qg rfl g256 (r_move rfl) (F.qn rfl (r_pick rfl rfl g256) (F.qn rfl (r_move rfl) ?_))))
                 iterate 5 refine F.skf rfl g259 ?_
                 refine F.qn rfl (r_pickf rfl rfl g259) (F.qn rfl (r_move rfl) ?_)
                 iterate 3 refine F.skf rfl rfl ?_
                 refine F.qn rfl (r_pickf rfl rfl rfl) (F.qn rfl (r_move rfl) ?_)
                 iterate 4 refine F.skf rfl rfl ?_
                 refine F.qn rfl (r_pickf rfl rfl rfl) (F.qn rfl (r_assign rfl) (F.nil ?_))
                 cases hE_6
                 refine Nrm.only [2] rfl ?_
                 refine Nrm.pick [] rfl rfl ?_
                 exact hj_6 _ _ ⟨rfl, rfl⟩
               ·replace hE_6 := if_ff g256 hE_6
                refine Tri.reg (l := List.range 23) rfl ?_
                refine F.qn rfl (r_move rfl) (F.qn rfl (r_move rfl) (F.skf rfl g256 (F.qn rfl (r_pickf rfl rfl g256) (F.qn rfl (r_move rfl) ?_))))
                iterate 5 refine F.skf rfl rfl ?_
                refine F.qn rfl (r_pickf rfl rfl rfl) (F.qn rfl (r_move rfl) ?_)
                iterate 3 refine F.skf rfl rfl ?_
                refine F.qn rfl (r_pickf rfl rfl rfl) (F.qn rfl (r_move rfl) ?_)
                iterate 4 refine F.skf rfl rfl ?_
                refine F.qn rfl (r_pickf rfl rfl rfl) (F.qn rfl (r_assign rfl) (F.nil ?_))
                cases hE_6
                refine Nrm.only [2] rfl ?_
                refine Nrm.pick [] rfl rfl ?_
                exact hj_6 _ _ ⟨rfl, rfl⟩
            ·rcases Bool.eq_false_or_eq_true (t54_6 != 1) with g236 | g236
             ·replace hE_5 := if_tt g236 hE_5
              refine Tri.reg (l := [0, 1, 2, 3, 4, 5, 6, 7]) rfl ?_
              refine F.qn rfl (r_fieldAddr tf48_0 rfl) (F.qn rfl (r_load ta3 rfl (fun w hw => cell_1 (box_cells (i := 1) rfl w hw) rfl)) (F.qn rfl (r_neq rfl rfl) (F.qn rfl (r_move rfl) ?_)))
              iterate 3 refine F.skf rfl g236 ?_
              refine F.qn rfl (r_pick rfl rfl g236) (F.nil ?_)
              cases hE_5
              refine Nrm.only [8, 9, 10, 22, 26, 240] rfl ?_
              refine Nrm.pick [0, 1, 2, 3, 4, 5, 6, 7, 8, 9] rfl rfl ?_
              exact hj_5 _ _ ⟨rfl, rfl⟩
             ·replace hE_5 := if_ff g236 hE_5
              refine Tri.reg (l := [0, 1, 2, 3, 4, 5, 6, 7]) rfl ?_
              refine F.qn rfl (r_fieldAddr tf48_0 rfl) (F.qn rfl (r_load ta3 rfl (fun w hw => cell_1 (box_cells (i := 1) rfl w hw) rfl)) ?_)
              refine F.qn rfl (r_neq rfl rfl) (F.qn rfl (r_move rfl) (F.qg rfl g236 (r_fieldAddr tf44_2 rfl) (F.qg rfl g236 (r_load ta3 rfl (fun w hw => cell_1 (box_cells (i := 0) rfl w hw) rfl)) (F.qg rfl g236 (r_eql rfl rfl) (F.qn rfl (r_pickf rfl rfl g236) (F.nil ?_))))))
              cases hE_5
              refine Nrm.only [8, 9, 10, 22, 26, 240] rfl ?_
              refine Nrm.pick [0, 1, 2, 3, 4, 5, 6, 7, 8, 9] rfl rfl ?_
              exact hj_5 _ _ ⟨rfl, rfl⟩
          ·obtain ⟨t223, h223, hE_4⟩ := bind_some hE_4
           rcases Bool.eq_false_or_eq_true (!t223) with g225 | g225
           ·replace hE_4 := if_tt g225 hE_4
            refine Tri.reg (l := [0, 1, 2, 3, 4, 5, 6, 7, 8, 9, 10]) rfl ?_
            refine F.qn rfl (r_loadA ta44 ti44 rfl rfl (fun w hw => (box_cells (i := 0) rfl w hw))) ?_
            refine F.qcn rfl (q_callF (xs := _) rfl ok43 rfl rfl (fun w hw => impl_IsVisit.ok h223 w ((rd_sl (i := 7) rfl) w hw) ((rd_sl (i := 8) rfl) w hw) ((rd_sl (i := 9) rfl) w hw))) ?_
            refine F.qn rfl (r_not rfl) (F.qn rfl (r_move rfl) ?_)
            iterate 6 refine F.skf rfl g225 ?_
            refine F.qn rfl (r_pick rfl rfl g225) (F.nil ?_)
            cases hE_4
            refine Nrm.only [8, 9, 10, 22, 26, 232] rfl ?_
            refine Nrm.pick [0, 1, 2, 3, 4, 5, 6, 7, 8, 9] rfl rfl ?_
            exact hj_4 _ _ ⟨rfl, rfl⟩
           ·replace hE_4 := if_ff g225 hE_4
            refine Tri.reg (l := [0, 1, 2, 3, 4, 5, 6, 7, 8, 9, 10]) rfl ?_
            refine F.qn rfl (r_loadA ta44 ti44 rfl rfl (fun w hw => (box_cells (i := 0) rfl w hw))) ?_
            refine F.qcn rfl (q_callF (xs := _) rfl ok43 rfl rfl (fun w hw => impl_IsVisit.ok h223 w ((rd_sl (i := 7) rfl) w hw) ((rd_sl (i := 8) rfl) w hw) ((rd_sl (i := 9) rfl) w hw))) ?_
            refine F.qn rfl (r_not rfl) (F.qn rfl (r_move rfl) (F.qg rfl g225 (r_fieldAddr tf44_2 rfl) ?_))
            refine F.qg rfl g225 (r_load ta3 rfl (fun w hw => cell_1 (box_cells (i := 0) rfl w hw) rfl)) (F.qg rfl g225 (r_fieldAddr tf44_2 rfl) (F.qg rfl g225 (r_load ta3 rfl (fun w hw => cell_1 (box_cells (i := 2) rfl w hw) rfl)) (F.qg rfl g225 (r_add rfl rfl) (F.qg rfl g225 (r_neq rfl rfl) (F.qn rfl (r_pickf rfl rfl g225) (F.nil ?_))))))
            cases hE_4
            refine Nrm.only [8, 9, 10, 22, 26, 232] rfl ?_
            refine Nrm.pick [0, 1, 2, 3, 4, 5, 6, 7, 8, 9] rfl rfl ?_
            exact hj_4 _ _ ⟨rfl, rfl⟩
       ·rcases Bool.eq_false_or_eq_true (!t194_3) with g200 | g200
        ·replace hE_3 := if_tt g200 hE_3
         refine Tri.reg (l := List.range 22) rfl ?_
         refine F.qn rfl (r_move rfl) (F.qn rfl (r_not rfl) (F.qn rfl (r_move rfl) ?_))
         iterate 5 refine F.skf rfl g200 ?_
         refine F.qn rfl (r_pick rfl rfl g200) (F.qn rfl (r_move rfl) ?_)
         iterate 5 refine F.skf rfl rfl ?_
         refine F.qn rfl (r_pick rfl rfl rfl) (F.qn rfl (r_move rfl) ?_)
         iterate 4 refine F.skf rfl rfl ?_
         refine F.qn rfl (r_pick rfl rfl rfl) (F.nil ?_)
         cases hE_3
         refine Nrm.only [8, 9, 10, 11, 22, 26, 219] rfl ?_
         refine Nrm.pick [1, 2, 3, 4, 5, 6, 7, 8, 9, 10] rfl rfl ?_
         exact hj_3 _ _ ⟨rfl, rfl⟩
        ·replace hE_3 := if_ff g200 hE_3
         rcases Bool.eq_false_or_eq_true ((band t91_1 t194_1) != t91_1) with g207 | g207
         ·replace hE_3 := if_tt g207 hE_3
          refine Tri.reg (l := List.range 22) rfl ?_
          refine F.qn rfl (r_move rfl) (F.qn rfl (r_not rfl) (F.qn rfl (r_move rfl) (F.qg rfl g200 (r_move rfl) ?_)))
          refine F.qg rfl g200 (r_move rfl) (F.qg rfl g200 (r_and rfl rfl) (F.qg rfl g200 (r_move rfl) (F.qg rfl g200 (r_neq rfl rfl) (F.qn rfl (r_pickf rfl rfl g200) (F.qn rfl (r_move rfl) ?_)))))
          iterate 5 refine F.skf rfl g207 ?_
          refine F.qn rfl (r_pick rfl rfl g207) (F.qn rfl (r_move rfl) ?_)
          iterate 4 refine F.skf rfl rfl ?_
          refine F.qn rfl (r_pick rfl rfl rfl) (F.nil ?_)
          cases hE_3
          refine Nrm.only [8, 9, 10, 11, 22, 26, 219] rfl ?_
          refine Nrm.pick [1, 2, 3, 4, 5, 6, 7, 8, 9, 10] rfl rfl ?_
          exact hj_3 _ _ ⟨rfl, rfl⟩
         ·replace hE_3 := if_ff g207 hE_3
          obtain ⟨t211, h211, hE_3⟩ := bind_some hE_3
          rcases Bool.eq_false_or_eq_true (!t211) with g214 | g214
          ·replace hE_3 := if_tt g214 hE_3
           refine Tri.reg (l := List.range 22) rfl ?_
           refine F.qn rfl (r_move rfl) ?_
           refine F.qn rfl (r_not rfl) (F.qn rfl (r_move rfl) (F.qg rfl g200 (r_move rfl) (F.qg rfl g200 (r_move rfl) (F.qg rfl g200 (r_and rfl rfl) (F.qg rfl g200 (r_move rfl) ?_)))))
           refine F.qg rfl g200 (r_neq rfl rfl) (F.qn rfl (r_pickf rfl rfl g200) (F.qn rfl (r_move rfl) (F.qg rfl g207 (r_fieldAddr tf44_1 rfl) (F.qg rfl g207 (r_load ta25 rfl (fun w hw => cell_1 (box_cells (i := 3) rfl w hw) rfl)) (F.qg rfl g207 (r_move rfl) ?_)))))
           refine F.qc rfl rfl rfl (wg rfl rfl rfl g207) (q_callF (xs := _) rfl ok46 rfl rfl (fun w hw => laws_vWithin.ok h211 w ((rd_sl (i := 7) rfl) w hw) ((rd_sl (i := 0) rfl) w hw))) ?_
           refine F.qg rfl g207 (r_not rfl) (F.qn rfl (r_pickf rfl rfl g207) (F.qn rfl (r_move rfl) ?_))
           iterate 4 refine F.skf rfl g214 ?_
           refine F.qn rfl (r_pick rfl rfl g214) (F.nil ?_)
           cases hE_3
           refine Nrm.only [8, 9, 10, 11, 22, 26, 219] rfl ?_
           refine Nrm.pick [1, 2, 3, 4, 5, 6, 7, 8, 9, 10] rfl rfl ?_
           exact hj_3 _ _ ⟨rfl, rfl⟩
          ·replace hE_3 := if_ff g214 hE_3
           obtain ⟨t217, h217, hE_3⟩ := bind_some hE_3
           refine Tri.reg (l := List.range 22) rfl ?_
           refine F.qn rfl (r_move rfl) ?_
           refine F.qn rfl (r_not rfl) (F.qn rfl (r_move rfl) (F.qg rfl g200 (r_move rfl) (F.qg rfl g200 (r_move rfl) (F.qg rfl g200 (r_and rfl rfl) (F.qg rfl g200 (r_move rfl) ?_)))))
           refine F.qg rfl g200 (r_neq rfl rfl) (F.qn rfl (r_pickf rfl rfl g200) (F.qn rfl (r_move rfl) (F.qg rfl g207 (r_fieldAddr tf44_1 rfl) (F.qg rfl g207 (r_load ta25 rfl (fun w hw => cell_1 (box_cells (i := 3) rfl w hw) rfl)) (F.qg rfl g207 (r_move rfl) ?_)))))
           refine F.qc rfl rfl rfl (wg rfl rfl rfl g207) (q_callF (xs := _) rfl ok46 rfl rfl (fun w hw => laws_vWithin.ok h211 w ((rd_sl (i := 7) rfl) w hw) ((rd_sl (i := 0) rfl) w hw))) ?_
           refine F.qg rfl g207 (r_not rfl) (F.qn rfl (r_pickf rfl rfl g207) (F.qn rfl (r_move rfl) (F.qg rfl g214 (r_move rfl) (F.qg rfl g214 (r_move rfl) ?_))))
           refine F.qc rfl rfl rfl (wg rfl rfl rfl g214) (q_callF (xs := _) rfl ok46 rfl rfl (fun w hw => laws_vWithin.ok h217 w ((rd_sl (i := 4) rfl) w hw) ((rd_sl (i := 0) rfl) w hw))) ?_
           refine F.qg rfl g214 (r_not rfl) (F.qn rfl (r_pickf rfl rfl g214) (F.nil ?_))
           cases hE_3
           refine Nrm.only [8, 9, 10, 11, 22, 26, 219] rfl ?_
           refine Nrm.pick [1, 2, 3, 4, 5, 6, 7, 8, 9, 10] rfl rfl ?_
           exact hj_3 _ _ ⟨rfl, rfl⟩
      ·replace h := if_ff g_4 h
       refine Tri.skip (Nrm.seq (Tri.seq (Tri.seq (Tri.reg (l := [0, 1]) rfl ?_))))
       refine F.qn rfl (r_move rfl) (F.qn rfl (r_not rfl) (F.nil (Nrm.seq (Tri.cond (b := !t60_6) rfl (fun g_9 => ?_) (fun g_9 => ?_)))))
       ·replace h := if_tt g_9 h
        refine Tri.seq (Tri.reg (l := [0]) rfl ?_)
        refine F.qn rfl (r_assign rfl) (F.nil (Nrm.seq (Tri.ret ?_)))
        refine Rtn.then ?_
        cases h
        exact Rtn.body (.tmp rfl .nil) (fun w hw => ⟨rfl, hw.ext⟩)
       ·replace h := if_ff g_9 h
        refine Tri.skip (Nrm.seq (Tri.seq (Tri.seq ?_)))
        obtain ⟨y232r, hE_7, h⟩ := bind_some h
        refine Tri.cut (fun e' C' => e' = [(8, .pointer (some ⟨b8_1, 0, none⟩)), (9, .pointer (some ⟨b9_1, 0, none⟩)), (10, .pointer (some ⟨b10_1, 0, none⟩)), (22, .int .i64 t91_1), (26, v101_1), (232, .bool y232r)] ∧ C' = Sep w noM [R.box b10_1 44 [.int .i64 t60_1, v60_1, v60_2, v60_3, .int .i64 t60_5], R.box b9_1 48 [.int .i64 t54_6, .int .i64 t54_7, .int .i64 t54_8, .int .i64 t54_9], R.box b8_1 44 [.int .i64 t54_1, v54_1, v54_2, v54_3, .int .i64 t54_5], R.sl S101_1 v101_1 (t101_1 : List (Int)), R.sl S54_1 v54_1 (t54_2 : List (Int × Int × Int)), R.sl S54_2 v54_2 (t54_3 : List (Int)), R.sl S54_3 v54_3 (t54_4 : List (Int)), R.sl S60_1 v60_1 (t60_2 : List (Int × Int × Int)), R.sl S60_2 v60_2 (t60_3 : List (Int)), R.sl S60_3 v60_3 (t60_4 : List (Int))]) ?_ (fun hj_7 => ?_)
        ·rintro _ _ ⟨rfl, rfl⟩
         refine Nrm.seq (Tri.cond (b := y232r) rfl (fun g_10 => ?_) (fun g_10 => ?_))
         ·replace h := if_tt g_10 h
          refine Tri.seq (Tri.reg (l := [0]) rfl ?_)
          refine F.qn rfl (r_assign rfl) (F.nil (Nrm.seq (Tri.ret ?_)))
          refine Rtn.then ?_
          cases h
          exact Rtn.body (.tmp rfl .nil) (fun w hw => ⟨rfl, hw.ext⟩)
         ·replace h := if_ff g_10 h
          refine Tri.skip (Nrm.seq (Tri.seq (Tri.seq ?_)))
          obtain ⟨y240r, hE_8, h⟩ := bind_some h
          refine Tri.cut (fun e' C' => e' = [(8, .pointer (some ⟨b8_1, 0, none⟩)), (9, .pointer (some ⟨b9_1, 0, none⟩)), (10, .pointer (some ⟨b10_1, 0, none⟩)), (22, .int .i64 t91_1), (26, v101_1), (240, .bool y240r)] ∧ C' = Sep w noM [R.box b10_1 44 [.int .i64 t60_1, v60_1, v60_2, v60_3, .int .i64 t60_5], R.box b9_1 48 [.int .i64 t54_6, .int .i64 t54_7, .int .i64 t54_8, .int .i64 t54_9], R.box b8_1 44 [.int .i64 t54_1, v54_1, v54_2, v54_3, .int .i64 t54_5], R.sl S101_1 v101_1 (t101_1 : List (Int)), R.sl S54_1 v54_1 (t54_2 : List (Int × Int × Int)), R.sl S54_2 v54_2 (t54_3 : List (Int)), R.sl S54_3 v54_3 (t54_4 : List (Int)), R.sl S60_1 v60_1 (t60_2 : List (Int × Int × Int)), R.sl S60_2 v60_2 (t60_3 : List (Int)), R.sl S60_3 v60_3 (t60_4 : List (Int))]) ?_ (fun hj_8 => ?_)
          ·rintro _ _ ⟨rfl, rfl⟩
           refine Nrm.seq (Tri.cond (b := y240r) rfl (fun g_11 => ?_) (fun g_11 => ?_))
           ·replace h := if_tt g_11 h
            refine Tri.seq (Tri.reg (l := [0]) rfl ?_)
            refine F.qn rfl (r_assign rfl) (F.nil (Nrm.seq (Tri.ret ?_)))
            refine Rtn.then ?_
            cases h
            exact Rtn.body (.tmp rfl .nil) (fun w hw => ⟨rfl, hw.ext⟩)
           ·replace h := if_ff g_11 h
            refine Tri.skip (Nrm.seq (Tri.seq ?_))
            obtain ⟨⟨t243_1, t243_2⟩, h243, h⟩ := bind_some h
            refine Tri.reg (l := [0, 1, 2, 3, 4, 5, 6]) rfl ?_
            refine F.qn rfl (r_loadA ta44 ti44 rfl rfl (fun w hw => (box_cells (i := 0) rfl w hw))) ?_
            refine F.qcn rfl (q_callF (xs := _) rfl ok38 rfl rfl (fun w hw => impl_HasNow.ok h243 w ((rd_sl (i := 7) rfl) w hw) ((rd_sl (i := 8) rfl) w hw) ((rd_sl (i := 9) rfl) w hw))) ?_
            refine F.qn rfl (r_move rfl) (F.qn rfl (r_extract rfl rfl) (F.qn rfl (r_extract rfl rfl) (F.qn rfl (r_assign rfl) (F.qn rfl (r_assign rfl) (F.nil (Nrm.seq (Tri.seq ?_)))))))
            obtain ⟨⟨t249_1, t249_2, t249_3, t249_4, t249_5, t249_6⟩, h249, h⟩ := bind_some h
            refine Tri.reg (l := [0, 1, 2, 3, 4, 5, 6, 7, 8]) rfl ?_
            refine F.qn rfl (r_loadA ta44 ti44 rfl rfl (fun w hw => (box_cells (i := 0) rfl w hw))) (F.qn rfl (r_build (pl := [(0, 1), (1, 1), (2, 1), (3, 1)]) (qs := [(0, [.int .i64 2])]) (cs := [.int .i64 2, .int .i64 0, .int .i64 0, .int .i64 0]) (by kernel_rfl) ti48 rfl (.cons rfl rfl (Nat.le_of_ble_eq_true rfl) .nil) rfl rfl) ?_)
            refine F.mn rfl (m_callF (xs := _) rfl ok33 rfl rfl (fun w hw => impl_DoDeed.ok h249 w ((rd_sl (i := 7) rfl) w hw) ((rd_sl (i := 8) rfl) w hw) ((rd_sl (i := 9) rfl) w hw))) ?_
            rintro _ _ ⟨_, ⟨v249_4, S249_4, v249_5, S249_5, v249_6, S249_6, rfl, hl_v249_4, hl_v249_5, hl_v249_6, rfl⟩, rfl⟩
            refine F.qn rfl (r_move rfl) (F.qn rfl (r_extract rfl rfl) (F.qn rfl (r_extract rfl rfl) ?_))
            refine F.mn rfl (m_alloc ti44) ?_
            rintro _ _ ⟨b35_2, rfl, rfl⟩
            refine F.ef0 rfl rfl (wanted_none rfl) (d_storeG0 (i := 0) (cs2 := [.int .i64 t249_1, v249_4, v249_5, v249_6, .int .i64 t249_5]) ti44 rfl rfl rfl rfl rfl (Nat.le_of_ble_eq_true rfl) (lf_cons rfl (lf_cons (sl_leaf hl_v249_4) (lf_cons (sl_leaf hl_v249_5) (lf_cons (sl_leaf hl_v249_6) (lf_cons rfl lf_nil)))))) ?_
            rintro _ _ ⟨rfl, rfl⟩
            refine F.qn rfl (r_assign rfl) (F.nil (Nrm.seq (Tri.seq (Tri.reg (l := [0, 1, 2, 3]) rfl ?_))))
            refine F.qn rfl (r_fieldAddr tf44_2 rfl) (F.qn rfl (r_load ta3 rfl (fun w hw => cell_1 (box_cells (i := 6) rfl w hw) rfl)) (F.qn rfl (r_fieldAddr tf44_2 rfl) ?_))
            refine F.ef0 rfl rfl (wanted_none rfl) (d_storeG1 (i := 0) (cs2 := [.int .i64 t54_5]) ti3 rfl rfl rfl rfl rfl (Nat.le_of_ble_eq_true rfl) (lf_cons rfl lf_nil)) ?_
            rintro _ _ ⟨rfl, rfl⟩
            refine F.nil (Nrm.seq (Tri.seq ?_))
            obtain ⟨y2r, hE_9, h⟩ := bind_some h
            refine Tri.cut (fun e' C' => e' = [(2, .bool y2r)] ∧ C' = Sep w noM []) ?_ (fun hj_9 => ?_)
            ·rintro _ _ ⟨rfl, rfl⟩
             refine Nrm.seq (Tri.ret ?_)
             cases h
             exact Rtn.body (.tmp rfl .nil) (fun w hw => ⟨rfl, hw.ext⟩)
            ·rcases Bool.eq_false_or_eq_true (t243_2) with g256 | g256
             ·replace hE_9 := if_tt g256 hE_9
              rcases Bool.eq_false_or_eq_true (t249_6) with g259 | g259
              ·replace hE_9 := if_tt g259 hE_9
               rcases Bool.eq_false_or_eq_true ((band t243_1 t91_1) == t91_1) with g266 | g266
               ·replace hE_9 := if_tt g266 hE_9
                obtain ⟨t269, h269, hE_9⟩ := bind_some hE_9
                rcases Bool.eq_false_or_eq_true (t269) with g271 | g271
                ·replace hE_9 := if_tt g271 hE_9
                 obtain ⟨t275, h275, hE_9⟩ := bind_some hE_9
                 refine Tri.reg (l := List.range 23) rfl ?_
                 refine F.qn rfl (r_move rfl) (F.qn rfl (r_move rfl) ?_)
                 refine F.qg rfl g256 (r_move rfl) (F.qn rfl (r_pick rfl rfl g256) (F.qn rfl (r_move rfl) (F.qg rfl g259 (r_move rfl) (F.qg rfl g259 (r_move rfl) (F.qg rfl g259 (r_and rfl rfl) ?_)))))
                 refine F.qg rfl g259 (r_move rfl) (F.qg rfl g259 (r_eql rfl rfl) (F.qn rfl (r_pick rfl rfl g259) (F.qn rfl (r_move rfl) (F.qg rfl g266 (r_loadA ta44 ti44 rfl rfl (fun w hw => (box_cells (i := 0) rfl w hw))) (F.qg rfl g266 (r_loadA ta44 ti44 rfl rfl (fun w hw => (box_cells (i := 6) rfl w hw))) ?_)))))
                 refine F.qc rfl rfl rfl (wg rfl rfl rfl g266) (q_callF (xs := _) rfl ok42 rfl rfl (fun w hw => laws_vVisit.ok h269 w ((rd_sl (i := 1) rfl) w hw) ((rd_sl (i := 2) rfl) w hw) ((rd_sl (i := 3) rfl) w hw) ((rd_sl (i := 8) rfl) w hw) ((rd_sl (i := 9) rfl) w hw) ((rd_sl (i := 10) rfl) w hw))) ?_
                 refine F.qn rfl (r_pick rfl rfl g266) (F.qn rfl (r_move rfl) (F.qg rfl g271 (r_move rfl) (F.qg rfl g271 (r_fieldAddr tf48_1 rfl) (F.qg rfl g271 (r_load ta3 rfl (fun w hw => cell_1 (box_cells (i := 5) rfl w hw) rfl)) ?_))))
                 refine F.qc rfl rfl rfl (wg rfl rfl rfl g271) (q_callF (xs := _) rfl ok22 rfl rfl (fun w hw => laws_vHas.ok h275 w ((rd_sl (i := 7) rfl) w hw))) ?_
                 refine F.qn rfl (r_pick rfl rfl g271) (F.qn rfl (r_assign rfl) (F.nil ?_))
                 cases hE_9
                 refine Nrm.only [2] rfl ?_
                 refine Nrm.pick [] rfl rfl ?_
                 exact hj_9 _ _ ⟨rfl, rfl⟩
                ·replace hE_9 := if_ff g271 hE_9
                 refine Tri.reg (l := List.range 23) rfl ?_
                 refine F.qn rfl (r_move rfl) (F.qn rfl (r_move rfl) ?_)
                 refine F.qg rfl g256 (r_move rfl) (F.qn rfl (r_pick rfl rfl g256) (F.qn rfl (r_move rfl) (F.qg rfl g259 (r_move rfl) (F.qg rfl g259 (r_move rfl) (F.qg rfl g259 (r_and rfl rfl) ?_)))))
                 refine F.qg rfl g259 (r_move rfl) (F.qg rfl g259 (r_eql rfl rfl) (F.qn rfl (r_pick rfl rfl g259) (F.qn rfl (r_move rfl) (F.qg rfl g266 (r_loadA ta44 ti44 rfl rfl (fun w hw => (box_cells (i := 0) rfl w hw))) (F.qg rfl g266 (r_loadA ta44 ti44 rfl rfl (fun w hw => (box_cells (i := 6) rfl w hw))) ?_)))))
                 refine F.qc rfl rfl rfl (wg rfl rfl rfl g266) (q_callF (xs := _) rfl ok42 rfl rfl (fun w hw => laws_vVisit.ok h269 w ((rd_sl (i := 1) rfl) w hw) ((rd_sl (i := 2) rfl) w hw) ((rd_sl (i := 3) rfl) w hw) ((rd_sl (i := 8) rfl) w hw) ((rd_sl (i := 9) rfl) w hw) ((rd_sl (i := 10) rfl) w hw))) ?_
                 refine F.qn rfl (r_pick rfl rfl g266) (F.qn rfl (r_move rfl) ?_)
                 iterate 4 refine F.skf rfl g271 ?_
                 refine F.qn rfl (r_pickf rfl rfl g271) (F.qn rfl (r_assign rfl) (F.nil ?_))
                 cases hE_9
                 refine Nrm.only [2] rfl ?_
                 refine Nrm.pick [] rfl rfl ?_
                 exact hj_9 _ _ ⟨rfl, rfl⟩
               ·replace hE_9 := if_ff g266 hE_9
                refine Tri.reg (l := List.range 23) rfl ?_
                refine F.qn rfl (r_move rfl) (F.qn rfl (r_move rfl) (F.qg rfl g256 (r_move rfl) (F.qn rfl (r_pick rfl rfl g256) (F.qn rfl (r_move rfl) (F.qg rfl g259 (r_move rfl) ?_)))))
                refine F.qg rfl g259 (r_move rfl) (F.qg rfl g259 (r_and rfl rfl) (F.qg rfl g259 (r_move rfl) (F.qg rfl g259 (r_eql rfl rfl) (F.qn rfl (r_pick rfl rfl g259) (F.qn rfl (r_move rfl) ?_)))))
                iterate 3 refine F.skf rfl g266 ?_
                refine F.qn rfl (r_pickf rfl rfl g266) (F.qn rfl (r_move rfl) ?_)
                iterate 4 refine F.skf rfl rfl ?_
                refine F.qn rfl (r_pickf rfl rfl rfl) (F.qn rfl (r_assign rfl) (F.nil ?_))
                cases hE_9
                refine Nrm.only [2] rfl ?_
                refine Nrm.pick [] rfl rfl ?_
                exact hj_9 _ _ ⟨rfl, rfl⟩
              ·replace hE_9 := if_ff g259 hE_9
               refine Tri.reg (l := List.range 23) rfl ?_
               refine F.qn rfl (r_move rfl) (F.qn rfl (r_move rfl) (F.qg rfl g256 (r_move rfl) (F.qn rfl (r_pick rfl rfl g256) (F.qn rfl (r_move rfl) ?_))))
               iterate 5 refine F.skf rfl g259 ?_
               refine F.qn rfl (r_pickf rfl rfl g259) (F.qn rfl (r_move rfl) ?_)
               iterate 3 refine F.skf rfl rfl ?_
               refine F.qn rfl (r_pickf rfl rfl rfl) (F.qn rfl (r_move rfl) ?_)
               iterate 4 refine F.skf rfl rfl ?_
               refine F.qn rfl (r_pickf rfl rfl rfl) (F.qn rfl (r_assign rfl) (F.nil ?_))
               cases hE_9
               refine Nrm.only [2] rfl ?_
               refine Nrm.pick [] rfl rfl ?_
               exact hj_9 _ _ ⟨rfl, rfl⟩
             ·replace hE_9 := if_ff g256 hE_9
              refine Tri.reg (l := List.range 23) rfl ?_
              refine F.qn rfl (r_move rfl) (F.qn rfl (r_move rfl) (F.skf rfl g256 (F.qn rfl (r_pickf rfl rfl g256) (F.qn rfl (r_move rfl) ?_))))
              iterate 5 refine F.skf rfl rfl ?_
              refine F.qn rfl (r_pickf rfl rfl rfl) (F.qn rfl (r_move rfl) ?_)
              iterate 3 refine F.skf rfl rfl ?_
              refine F.qn rfl (r_pickf rfl rfl rfl) (F.qn rfl (r_move rfl) ?_)
              iterate 4 refine F.skf rfl rfl ?_
              refine F.qn rfl (r_pickf rfl rfl rfl) (F.qn rfl (r_assign rfl) (F.nil ?_))
              cases hE_9
              refine Nrm.only [2] rfl ?_
              refine Nrm.pick [] rfl rfl ?_
              exact hj_9 _ _ ⟨rfl, rfl⟩
          ·rcases Bool.eq_false_or_eq_true (t54_6 != 1) with g236 | g236
           ·replace hE_8 := if_tt g236 hE_8
            refine Tri.reg (l := [0, 1, 2, 3, 4, 5, 6, 7]) rfl ?_
            refine F.qn rfl (r_fieldAddr tf48_0 rfl) (F.qn rfl (r_load ta3 rfl (fun w hw => cell_1 (box_cells (i := 1) rfl w hw) rfl)) (F.qn rfl (r_neq rfl rfl) (F.qn rfl (r_move rfl) ?_)))
            iterate 3 refine F.skf rfl g236 ?_
            refine F.qn rfl (r_pick rfl rfl g236) (F.nil ?_)
            cases hE_8
            refine Nrm.only [8, 9, 10, 22, 26, 240] rfl ?_
            refine Nrm.pick [0, 1, 2, 3, 4, 5, 6, 7, 8, 9] rfl rfl ?_
            exact hj_8 _ _ ⟨rfl, rfl⟩
           ·replace hE_8 := if_ff g236 hE_8
            refine Tri.reg (l := [0, 1, 2, 3, 4, 5, 6, 7]) rfl ?_
            refine F.qn rfl (r_fieldAddr tf48_0 rfl) (F.qn rfl (r_load ta3 rfl (fun w hw => cell_1 (box_cells (i := 1) rfl w hw) rfl)) ?_)
            refine F.qn rfl (r_neq rfl rfl) (F.qn rfl (r_move rfl) (F.qg rfl g236 (r_fieldAddr tf44_2 rfl) (F.qg rfl g236 (r_load ta3 rfl (fun w hw => cell_1 (box_cells (i := 0) rfl w hw) rfl)) (F.qg rfl g236 (r_eql rfl rfl) (F.qn rfl (r_pickf rfl rfl g236) (F.nil ?_))))))
            cases hE_8
            refine Nrm.only [8, 9, 10, 22, 26, 240] rfl ?_
            refine Nrm.pick [0, 1, 2, 3, 4, 5, 6, 7, 8, 9] rfl rfl ?_
            exact hj_8 _ _ ⟨rfl, rfl⟩
        ·obtain ⟨t223, h223, hE_7⟩ := bind_some hE_7
         rcases Bool.eq_false_or_eq_true (!t223) with g225 | g225
         ·replace hE_7 := if_tt g225 hE_7
          refine Tri.reg (l := [0, 1, 2, 3, 4, 5, 6, 7, 8, 9, 10]) rfl ?_
          refine F.qn rfl (r_loadA ta44 ti44 rfl rfl (fun w hw => (box_cells (i := 0) rfl w hw))) ?_
          refine F.qcn rfl (q_callF (xs := _) rfl ok43 rfl rfl (fun w hw => impl_IsVisit.ok h223 w ((rd_sl (i := 7) rfl) w hw) ((rd_sl (i := 8) rfl) w hw) ((rd_sl (i := 9) rfl) w hw))) ?_
          refine F.qn rfl (r_not rfl) (F.qn rfl (r_move rfl) ?_)
          iterate 6 refine F.skf rfl g225 ?_
          refine F.qn rfl (r_pick rfl rfl g225) (F.nil ?_)
          cases hE_7
          refine Nrm.only [8, 9, 10, 22, 26, 232] rfl ?_
          refine Nrm.pick [0, 1, 2, 3, 4, 5, 6, 7, 8, 9] rfl rfl ?_
          exact hj_7 _ _ ⟨rfl, rfl⟩
         ·replace hE_7 := if_ff g225 hE_7
          refine Tri.reg (l := [0, 1, 2, 3, 4, 5, 6, 7, 8, 9, 10]) rfl ?_
          refine F.qn rfl (r_loadA ta44 ti44 rfl rfl (fun w hw => (box_cells (i := 0) rfl w hw))) ?_
          refine F.qcn rfl (q_callF (xs := _) rfl ok43 rfl rfl (fun w hw => impl_IsVisit.ok h223 w ((rd_sl (i := 7) rfl) w hw) ((rd_sl (i := 8) rfl) w hw) ((rd_sl (i := 9) rfl) w hw))) ?_
          refine F.qn rfl (r_not rfl) (F.qn rfl (r_move rfl) (F.qg rfl g225 (r_fieldAddr tf44_2 rfl) ?_))
          refine F.qg rfl g225 (r_load ta3 rfl (fun w hw => cell_1 (box_cells (i := 0) rfl w hw) rfl)) (F.qg rfl g225 (r_fieldAddr tf44_2 rfl) (F.qg rfl g225 (r_load ta3 rfl (fun w hw => cell_1 (box_cells (i := 2) rfl w hw) rfl)) (F.qg rfl g225 (r_add rfl rfl) (F.qg rfl g225 (r_neq rfl rfl) (F.qn rfl (r_pickf rfl rfl g225) (F.nil ?_))))))
          cases hE_7
          refine Nrm.only [8, 9, 10, 22, 26, 232] rfl ?_
          refine Nrm.pick [0, 1, 2, 3, 4, 5, 6, 7, 8, 9] rfl rfl ?_
          exact hj_7 _ _ ⟨rfl, rfl⟩
    ·rcases Bool.eq_false_or_eq_true (t78_7) with g185 | g185
     ·replace hE_2 := if_tt g185 hE_2
      obtain ⟨t187, h187, hE_2⟩ := bind_some hE_2
      refine Tri.reg (l := [0, 1, 2, 3, 4, 5]) rfl ?_
      refine F.qn rfl (r_move rfl) (F.qn rfl (r_move rfl) (F.qg rfl g185 (r_loadA ta44 ti44 rfl rfl (fun w hw => (box_cells (i := 0) rfl w hw))) ?_))
      refine F.qc rfl rfl rfl (wg rfl rfl rfl g185) (q_callF (xs := _) rfl ok43 rfl rfl (fun w hw => impl_IsVisit.ok h187 w ((rd_sl (i := 11) rfl) w hw) ((rd_sl (i := 12) rfl) w hw) ((rd_sl (i := 13) rfl) w hw))) ?_
      refine F.qg rfl g185 (r_not rfl) (F.qn rfl (r_pick rfl rfl g185) (F.nil ?_))
      cases hE_2
      refine Nrm.only [8, 9, 10, 11, 22, 23, 26, 189] rfl ?_
      refine Nrm.pick [1, 2, 3, 4, 5, 6, 7, 8, 9, 10] rfl rfl ?_
      exact hj_2 _ _ ⟨rfl, rfl⟩
     ·replace hE_2 := if_ff g185 hE_2
      refine Tri.reg (l := [0, 1, 2, 3, 4, 5]) rfl ?_
      refine F.qn rfl (r_move rfl) (F.qn rfl (r_move rfl) ?_)
      iterate 3 refine F.skf rfl g185 ?_
      refine F.qn rfl (r_pickf rfl rfl g185) (F.nil ?_)
      cases hE_2
      refine Nrm.only [8, 9, 10, 11, 22, 23, 26, 189] rfl ?_
      refine Nrm.pick [1, 2, 3, 4, 5, 6, 7, 8, 9, 10] rfl rfl ?_
      exact hj_2 _ _ ⟨rfl, rfl⟩
  ·rcases Bool.eq_false_or_eq_true (t43_6 != t48_6) with g112 | g112
   ·replace hE_1 := if_tt g112 hE_1
    refine Tri.drawA mixedT Sep.up [(0, true), (1, true), (2, true), (3, true), (4, true), (5, true), (6, true), (7, true), (8, true), (9, true), (10, true), (11, true), (12, true), (13, true), (14, true), (15, true), (16, true), (17, true), (18, true), (19, true), (20, true), (21, true), (22, true), (23, true), (24, true), (25, true), (26, true), (27, true), (28, true), (29, true), (30, true), (31, true), (32, true), (33, true), (34, true), (35, true), (36, true), (37, true), (38, true), (39, true), (40, true), (41, true), (42, true), (43, true), (44, true), (45, true), (46, true), (47, true), (48, true), (49, true), (50, true), (51, true), (52, true), (53, true), (54, true), (55, true), (56, true), (57, true), (58, true), (59, true), (60, true), (61, true), (62, true), (63, true), (64, true), (65, true), (66, true), (67, true), (68, true), (69, true), (70, true), (71, true), (72, true), (73, true), (74, true)] [] (by kernel_rfl) ?_
    refine S.qn rfl (r_move rfl) (S.qn rfl (r_move rfl) (S.qn rfl (r_neqB Tryz.underlying4 rfl rfl) (S.qn rfl (r_move rfl) ?_)))
    iterate 4 refine S.skf rfl g112 ?_
    refine S.qn rfl (r_pick rfl rfl g112) (S.qn rfl (r_move rfl) ?_)
    iterate 3 refine S.skf rfl rfl ?_
    refine S.qn rfl (r_pick rfl rfl rfl) (S.qn rfl (r_move rfl) ?_)
    iterate 4 refine S.skf rfl rfl ?_
    refine S.qn rfl (r_pick rfl rfl rfl) (S.qn rfl (r_move rfl) ?_)
    iterate 3 refine S.skf rfl rfl ?_
    refine S.qn rfl (r_pick rfl rfl rfl) (S.qn rfl (r_move rfl) ?_)
    iterate 3 refine S.skf rfl rfl ?_
    refine S.qn rfl (r_pick rfl rfl rfl) (S.qn rfl (r_move rfl) ?_)
    iterate 4 refine S.skf rfl rfl ?_
    refine S.qn rfl (r_pick rfl rfl rfl) (S.qn rfl (r_move rfl) ?_)
    iterate 5 refine S.skf rfl rfl ?_
    refine S.qn rfl (r_pick rfl rfl rfl) (S.qn rfl (r_move rfl) ?_)
    iterate 3 refine S.skf rfl rfl ?_
    refine S.qn rfl (r_pick rfl rfl rfl) (S.qn rfl (r_move rfl) ?_)
    iterate 3 refine S.skf rfl rfl ?_
    refine S.qn rfl (r_pick rfl rfl rfl) (S.qn rfl (r_move rfl) ?_)
    iterate 3 refine S.skf rfl rfl ?_
    refine S.qn rfl (r_pick rfl rfl rfl) (S.qn rfl (r_move rfl) ?_)
    iterate 4 refine S.skf rfl rfl ?_
    refine S.qn rfl (r_pick rfl rfl rfl) (S.qn rfl (r_move rfl) ?_)
    iterate 4 refine S.skf rfl rfl ?_
    refine S.qn rfl (r_pick rfl rfl rfl) (S.qn rfl (r_move rfl) ?_)
    iterate 3 refine S.skf rfl rfl ?_
    refine S.qn rfl (r_pick rfl rfl rfl) (S.nil (F.nil ?_))
    cases hE_1
    refine Nrm.only [8, 9, 10, 11, 16, 18, 22, 23, 26, 183] rfl ?_
    refine Nrm.pick [6, 20, 24, 25, 1, 26, 27, 28, 21, 22, 23, 7, 8, 9] rfl rfl ?_
    exact hj_1 _ _ ⟨rfl, rfl⟩
   ·replace hE_1 := if_ff g112 hE_1
    obtain ⟨t115, h115, hE_1⟩ := bind_some hE_1
    rcases Bool.eq_false_or_eq_true (!t115) with g118 | g118
    ·replace hE_1 := if_tt g118 hE_1
     refine Tri.drawA mixedT Sep.up [(0, true), (1, true), (2, true), (3, true), (4, true), (5, true), (6, true), (7, true), (8, true), (9, true), (10, true), (11, true), (12, true), (13, true), (14, true), (15, true), (16, true), (17, true), (18, true), (19, true), (20, true), (21, true), (22, true), (23, true), (24, true), (25, true), (26, true), (27, true), (28, true), (29, true), (30, true), (31, true), (32, true), (33, true), (34, true), (35, true), (36, true), (37, true), (38, true), (39, true), (40, true), (41, true), (42, true), (43, true), (44, true), (45, true), (46, true), (47, true), (48, true), (49, true), (50, true), (51, true), (52, true), (53, true), (54, true), (55, true), (56, true), (57, true), (58, true), (59, true), (60, true), (61, true), (62, true), (63, true), (64, true), (65, true), (66, true), (67, true), (68, true), (69, true), (70, true), (71, true), (72, true), (73, true), (74, true)] [] (by kernel_rfl) ?_
     refine S.qn rfl (r_move rfl) (S.qn rfl (r_move rfl) (S.qn rfl (r_neqB Tryz.underlying4 rfl rfl) (S.qn rfl (r_move rfl) (S.qg rfl g112 (r_loadA ta44 ti44 rfl rfl (fun w hw => (box_cells (i := 34) rfl w hw))) (S.qg rfl g112 (r_loadA ta44 ti44 rfl rfl (fun w hw => (box_cells (i := 30) rfl w hw))) ?_)))))
     refine S.qc rfl rfl rfl (wg rfl rfl rfl g112) (q_callF (xs := _) rfl ok42 rfl rfl (fun w hw => laws_vVisit.ok h115 w ((rd_sl (i := 35) rfl) w hw) ((rd_sl (i := 36) rfl) w hw) ((rd_sl (i := 37) rfl) w hw) ((rd_sl (i := 31) rfl) w hw) ((rd_sl (i := 32) rfl) w hw) ((rd_sl (i := 33) rfl) w hw))) ?_
     refine S.qg rfl g112 (r_not rfl) (S.qn rfl (r_pickf rfl rfl g112) (S.qn rfl (r_move rfl) ?_))
     iterate 3 refine S.skf rfl g118 ?_
     refine S.qn rfl (r_pick rfl rfl g118) (S.qn rfl (r_move rfl) ?_)
     iterate 4 refine S.skf rfl rfl ?_
     refine S.qn rfl (r_pick rfl rfl rfl) (S.qn rfl (r_move rfl) ?_)
     iterate 3 refine S.skf rfl rfl ?_
     refine S.qn rfl (r_pick rfl rfl rfl) (S.qn rfl (r_move rfl) ?_)
     iterate 3 refine S.skf rfl rfl ?_
     refine S.qn rfl (r_pick rfl rfl rfl) (S.qn rfl (r_move rfl) ?_)
     iterate 4 refine S.skf rfl rfl ?_
     refine S.qn rfl (r_pick rfl rfl rfl) (S.qn rfl (r_move rfl) ?_)
     iterate 5 refine S.skf rfl rfl ?_
     refine S.qn rfl (r_pick rfl rfl rfl) (S.qn rfl (r_move rfl) ?_)
     iterate 3 refine S.skf rfl rfl ?_
     refine S.qn rfl (r_pick rfl rfl rfl) (S.qn rfl (r_move rfl) ?_)
     iterate 3 refine S.skf rfl rfl ?_
     refine S.qn rfl (r_pick rfl rfl rfl) (S.qn rfl (r_move rfl) ?_)
     iterate 3 refine S.skf rfl rfl ?_
     refine S.qn rfl (r_pick rfl rfl rfl) (S.qn rfl (r_move rfl) ?_)
     iterate 4 refine S.skf rfl rfl ?_
     refine S.qn rfl (r_pick rfl rfl rfl) (S.qn rfl (r_move rfl) ?_)
     iterate 4 refine S.skf rfl rfl ?_
     refine S.qn rfl (r_pick rfl rfl rfl) (S.qn rfl (r_move rfl) ?_)
     iterate 3 refine S.skf rfl rfl ?_
     refine S.qn rfl (r_pick rfl rfl rfl) (S.nil (F.nil ?_))
     cases hE_1
     refine Nrm.only [8, 9, 10, 11, 16, 18, 22, 23, 26, 183] rfl ?_
     refine Nrm.pick [6, 20, 24, 25, 1, 26, 27, 28, 21, 22, 23, 7, 8, 9] rfl rfl ?_
     exact hj_1 _ _ ⟨rfl, rfl⟩
    ·replace hE_1 := if_ff g118 hE_1
     rcases Bool.eq_false_or_eq_true (t60_6 != t66_6) with g123 | g123
     ·replace hE_1 := if_tt g123 hE_1
      refine Tri.drawA mixedT Sep.up [(0, true), (1, true), (2, true), (3, true), (4, true), (5, true), (6, true), (7, true), (8, true), (9, true), (10, true), (11, true), (12, true), (13, true), (14, true), (15, true), (16, true), (17, true), (18, true), (19, true), (20, true), (21, true), (22, true), (23, true), (24, true), (25, true), (26, true), (27, true), (28, true), (29, true), (30, true), (31, true), (32, true), (33, true), (34, true), (35, true), (36, true), (37, true), (38, true), (39, true), (40, true), (41, true), (42, true), (43, true), (44, true), (45, true), (46, true), (47, true), (48, true), (49, true), (50, true), (51, true), (52, true), (53, true), (54, true), (55, true), (56, true), (57, true), (58, true), (59, true), (60, true), (61, true), (62, true), (63, true), (64, true), (65, true), (66, true), (67, true), (68, true), (69, true), (70, true), (71, true), (72, true), (73, true), (74, true)] [] (by kernel_rfl) ?_
      refine S.qn rfl (r_move rfl) (S.qn rfl (r_move rfl) (S.qn rfl (r_neqB Tryz.underlying4 rfl rfl) (S.qn rfl (r_move rfl) (S.qg rfl g112 (r_loadA ta44 ti44 rfl rfl (fun w hw => (box_cells (i := 34) rfl w hw))) (S.qg rfl g112 (r_loadA ta44 ti44 rfl rfl (fun w hw => (box_cells (i := 30) rfl w hw))) ?_)))))
      refine S.qc rfl rfl rfl (wg rfl rfl rfl g112) (q_callF (xs := _) rfl ok42 rfl rfl (fun w hw => laws_vVisit.ok h115 w ((rd_sl (i := 35) rfl) w hw) ((rd_sl (i := 36) rfl) w hw) ((rd_sl (i := 37) rfl) w hw) ((rd_sl (i := 31) rfl) w hw) ((rd_sl (i := 32) rfl) w hw) ((rd_sl (i := 33) rfl) w hw))) ?_
      refine S.qg rfl g112 (r_not rfl) (S.qn rfl (r_pickf rfl rfl g112) ?_)
      refine S.qn rfl (r_move rfl) (S.qg rfl g118 (r_move rfl) (S.qg rfl g118 (r_move rfl) (S.qg rfl g118 (r_neqB Tryz.underlying4 rfl rfl) (S.qn rfl (r_pickf rfl rfl g118) (S.qn rfl (r_move rfl) ?_)))))
      iterate 4 refine S.skf rfl g123 ?_
      refine S.qn rfl (r_pick rfl rfl g123) (S.qn rfl (r_move rfl) ?_)
      iterate 3 refine S.skf rfl rfl ?_
      refine S.qn rfl (r_pick rfl rfl rfl) (S.qn rfl (r_move rfl) ?_)
      iterate 3 refine S.skf rfl rfl ?_
      refine S.qn rfl (r_pick rfl rfl rfl) (S.qn rfl (r_move rfl) ?_)
      iterate 4 refine S.skf rfl rfl ?_
      refine S.qn rfl (r_pick rfl rfl rfl) (S.qn rfl (r_move rfl) ?_)
      iterate 5 refine S.skf rfl rfl ?_
      refine S.qn rfl (r_pick rfl rfl rfl) (S.qn rfl (r_move rfl) ?_)
      iterate 3 refine S.skf rfl rfl ?_
      refine S.qn rfl (r_pick rfl rfl rfl) (S.qn rfl (r_move rfl) ?_)
      iterate 3 refine S.skf rfl rfl ?_
      refine S.qn rfl (r_pick rfl rfl rfl) (S.qn rfl (r_move rfl) ?_)
      iterate 3 refine S.skf rfl rfl ?_
      refine S.qn rfl (r_pick rfl rfl rfl) (S.qn rfl (r_move rfl) ?_)
      iterate 4 refine S.skf rfl rfl ?_
      refine S.qn rfl (r_pick rfl rfl rfl) (S.qn rfl (r_move rfl) ?_)
      iterate 4 refine S.skf rfl rfl ?_
      refine S.qn rfl (r_pick rfl rfl rfl) (S.qn rfl (r_move rfl) ?_)
      iterate 3 refine S.skf rfl rfl ?_
      refine S.qn rfl (r_pick rfl rfl rfl) (S.nil (F.nil ?_))
      cases hE_1
      refine Nrm.only [8, 9, 10, 11, 16, 18, 22, 23, 26, 183] rfl ?_
      refine Nrm.pick [6, 20, 24, 25, 1, 26, 27, 28, 21, 22, 23, 7, 8, 9] rfl rfl ?_
      exact hj_1 _ _ ⟨rfl, rfl⟩
     ·replace hE_1 := if_ff g123 hE_1
      obtain ⟨t126, h126, hE_1⟩ := bind_some hE_1
      rcases Bool.eq_false_or_eq_true (!t126) with g129 | g129
      ·replace hE_1 := if_tt g129 hE_1
       refine Tri.drawA mixedT Sep.up [(0, true), (1, true), (2, true), (3, true), (4, true), (5, true), (6, true), (7, true), (8, true), (9, true), (10, true), (11, true), (12, true), (13, true), (14, true), (15, true), (16, true), (17, true), (18, true), (19, true), (20, true), (21, true), (22, true), (23, true), (24, true), (25, true), (26, true), (27, true), (28, true), (29, true), (30, true), (31, true), (32, true), (33, true), (34, true), (35, true), (36, true), (37, true), (38, true), (39, true), (40, true), (41, true), (42, true), (43, true), (44, true), (45, true), (46, true), (47, true), (48, true), (49, true), (50, true), (51, true), (52, true), (53, true), (54, true), (55, true), (56, true), (57, true), (58, true), (59, true), (60, true), (61, true), (62, true), (63, true), (64, true), (65, true), (66, true), (67, true), (68, true), (69, true), (70, true), (71, true), (72, true), (73, true), (74, true)] [] (by kernel_rfl) ?_
       refine S.qn rfl (r_move rfl) (S.qn rfl (r_move rfl) (S.qn rfl (r_neqB Tryz.underlying4 rfl rfl) (S.qn rfl (r_move rfl) (S.qg rfl g112 (r_loadA ta44 ti44 rfl rfl (fun w hw => (box_cells (i := 34) rfl w hw))) (S.qg rfl g112 (r_loadA ta44 ti44 rfl rfl (fun w hw => (box_cells (i := 30) rfl w hw))) ?_)))))
       refine S.qc rfl rfl rfl (wg rfl rfl rfl g112) (q_callF (xs := _) rfl ok42 rfl rfl (fun w hw => laws_vVisit.ok h115 w ((rd_sl (i := 35) rfl) w hw) ((rd_sl (i := 36) rfl) w hw) ((rd_sl (i := 37) rfl) w hw) ((rd_sl (i := 31) rfl) w hw) ((rd_sl (i := 32) rfl) w hw) ((rd_sl (i := 33) rfl) w hw))) ?_
       refine S.qg rfl g112 (r_not rfl) (S.qn rfl (r_pickf rfl rfl g112) (S.qn rfl (r_move rfl) (S.qg rfl g118 (r_move rfl) ?_)))
       refine S.qg rfl g118 (r_move rfl) (S.qg rfl g118 (r_neqB Tryz.underlying4 rfl rfl) (S.qn rfl (r_pickf rfl rfl g118) (S.qn rfl (r_move rfl) (S.qg rfl g123 (r_loadA ta44 ti44 rfl rfl (fun w hw => (box_cells (i := 20) rfl w hw))) (S.qg rfl g123 (r_loadA ta44 ti44 rfl rfl (fun w hw => (box_cells (i := 16) rfl w hw))) ?_)))))
       refine S.qc rfl rfl rfl (wg rfl rfl rfl g123) (q_callF (xs := _) rfl ok42 rfl rfl (fun w hw => laws_vVisit.ok h126 w ((rd_sl (i := 21) rfl) w hw) ((rd_sl (i := 22) rfl) w hw) ((rd_sl (i := 23) rfl) w hw) ((rd_sl (i := 17) rfl) w hw) ((rd_sl (i := 18) rfl) w hw) ((rd_sl (i := 19) rfl) w hw))) ?_
       refine S.qg rfl g123 (r_not rfl) (S.qn rfl (r_pickf rfl rfl g123) (S.qn rfl (r_move rfl) ?_))
       iterate 3 refine S.skf rfl g129 ?_
       refine S.qn rfl (r_pick rfl rfl g129) (S.qn rfl (r_move rfl) ?_)
       iterate 3 refine S.skf rfl rfl ?_
       refine S.qn rfl (r_pick rfl rfl rfl) (S.qn rfl (r_move rfl) ?_)
       iterate 4 refine S.skf rfl rfl ?_
       refine S.qn rfl (r_pick rfl rfl rfl) (S.qn rfl (r_move rfl) ?_)
       iterate 5 refine S.skf rfl rfl ?_
       refine S.qn rfl (r_pick rfl rfl rfl) (S.qn rfl (r_move rfl) ?_)
       iterate 3 refine S.skf rfl rfl ?_
       refine S.qn rfl (r_pick rfl rfl rfl) (S.qn rfl (r_move rfl) ?_)
       iterate 3 refine S.skf rfl rfl ?_
       refine S.qn rfl (r_pick rfl rfl rfl) (S.qn rfl (r_move rfl) ?_)
       iterate 3 refine S.skf rfl rfl ?_
       refine S.qn rfl (r_pick rfl rfl rfl) (S.qn rfl (r_move rfl) ?_)
       iterate 4 refine S.skf rfl rfl ?_
       refine S.qn rfl (r_pick rfl rfl rfl) (S.qn rfl (r_move rfl) ?_)
       iterate 4 refine S.skf rfl rfl ?_
       refine S.qn rfl (r_pick rfl rfl rfl) (S.qn rfl (r_move rfl) ?_)
       iterate 3 refine S.skf rfl rfl ?_
       refine S.qn rfl (r_pick rfl rfl rfl) (S.nil (F.nil ?_))
       cases hE_1
       refine Nrm.only [8, 9, 10, 11, 16, 18, 22, 23, 26, 183] rfl ?_
       refine Nrm.pick [6, 20, 24, 25, 1, 26, 27, 28, 21, 22, 23, 7, 8, 9] rfl rfl ?_
       exact hj_1 _ _ ⟨rfl, rfl⟩
      ·replace hE_1 := if_ff g129 hE_1
       rcases Bool.eq_false_or_eq_true (t78_7 != t85_7) with g134 | g134
       ·replace hE_1 := if_tt g134 hE_1
        refine Tri.drawA mixedT Sep.up [(0, true), (1, true), (2, true), (3, true), (4, true), (5, true), (6, true), (7, true), (8, true), (9, true), (10, true), (11, true), (12, true), (13, true), (14, true), (15, true), (16, true), (17, true), (18, true), (19, true), (20, true), (21, true), (22, true), (23, true), (24, true), (25, true), (26, true), (27, true), (28, true), (29, true), (30, true), (31, true), (32, true), (33, true), (34, true), (35, true), (36, true), (37, true), (38, true), (39, true), (40, true), (41, true), (42, true), (43, true), (44, true), (45, true), (46, true), (47, true), (48, true), (49, true), (50, true), (51, true), (52, true), (53, true), (54, true), (55, true), (56, true), (57, true), (58, true), (59, true), (60, true), (61, true), (62, true), (63, true), (64, true), (65, true), (66, true), (67, true), (68, true), (69, true), (70, true), (71, true), (72, true), (73, true), (74, true)] [] (by kernel_rfl) ?_
        refine S.qn rfl (r_move rfl) (S.qn rfl (r_move rfl) (S.qn rfl (r_neqB Tryz.underlying4 rfl rfl) (S.qn rfl (r_move rfl) (S.qg rfl g112 (r_loadA ta44 ti44 rfl rfl (fun w hw => (box_cells (i := 34) rfl w hw))) (S.qg rfl g112 (r_loadA ta44 ti44 rfl rfl (fun w hw => (box_cells (i := 30) rfl w hw))) ?_)))))
        refine S.qc rfl rfl rfl (wg rfl rfl rfl g112) (q_callF (xs := _) rfl ok42 rfl rfl (fun w hw => laws_vVisit.ok h115 w ((rd_sl (i := 35) rfl) w hw) ((rd_sl (i := 36) rfl) w hw) ((rd_sl (i := 37) rfl) w hw) ((rd_sl (i := 31) rfl) w hw) ((rd_sl (i := 32) rfl) w hw) ((rd_sl (i := 33) rfl) w hw))) ?_
        refine S.qg rfl g112 (r_not rfl) (S.qn rfl (r_pickf rfl rfl g112) (S.qn rfl (r_move rfl) (S.qg rfl g118 (r_move rfl) ?_)))
        refine S.qg rfl g118 (r_move rfl) (S.qg rfl g118 (r_neqB Tryz.underlying4 rfl rfl) (S.qn rfl (r_pickf rfl rfl g118) (S.qn rfl (r_move rfl) (S.qg rfl g123 (r_loadA ta44 ti44 rfl rfl (fun w hw => (box_cells (i := 20) rfl w hw))) (S.qg rfl g123 (r_loadA ta44 ti44 rfl rfl (fun w hw => (box_cells (i := 16) rfl w hw))) ?_)))))
        refine S.qc rfl rfl rfl (wg rfl rfl rfl g123) (q_callF (xs := _) rfl ok42 rfl rfl (fun w hw => laws_vVisit.ok h126 w ((rd_sl (i := 21) rfl) w hw) ((rd_sl (i := 22) rfl) w hw) ((rd_sl (i := 23) rfl) w hw) ((rd_sl (i := 17) rfl) w hw) ((rd_sl (i := 18) rfl) w hw) ((rd_sl (i := 19) rfl) w hw))) ?_
        refine S.qg rfl g123 (r_not rfl) (S.qn rfl (r_pickf rfl rfl g123) ?_)
        refine S.qn rfl (r_move rfl) (S.qg rfl g129 (r_move rfl) (S.qg rfl g129 (r_move rfl) (S.qg rfl g129 (r_neqB Tryz.underlying4 rfl rfl) (S.qn rfl (r_pickf rfl rfl g129) (S.qn rfl (r_move rfl) ?_)))))
        iterate 3 refine S.skf rfl g134 ?_
        refine S.qn rfl (r_pick rfl rfl g134) (S.qn rfl (r_move rfl) ?_)
        iterate 4 refine S.skf rfl rfl ?_
        refine S.qn rfl (r_pick rfl rfl rfl) (S.qn rfl (r_move rfl) ?_)
        iterate 5 refine S.skf rfl rfl ?_
        refine S.qn rfl (r_pick rfl rfl rfl) (S.qn rfl (r_move rfl) ?_)
        iterate 3 refine S.skf rfl rfl ?_
        refine S.qn rfl (r_pick rfl rfl rfl) (S.qn rfl (r_move rfl) ?_)
        iterate 3 refine S.skf rfl rfl ?_
        refine S.qn rfl (r_pick rfl rfl rfl) (S.qn rfl (r_move rfl) ?_)
        iterate 3 refine S.skf rfl rfl ?_
        refine S.qn rfl (r_pick rfl rfl rfl) (S.qn rfl (r_move rfl) ?_)
        iterate 4 refine S.skf rfl rfl ?_
        refine S.qn rfl (r_pick rfl rfl rfl) (S.qn rfl (r_move rfl) ?_)
        iterate 4 refine S.skf rfl rfl ?_
        refine S.qn rfl (r_pick rfl rfl rfl) (S.qn rfl (r_move rfl) ?_)
        iterate 3 refine S.skf rfl rfl ?_
        refine S.qn rfl (r_pick rfl rfl rfl) (S.nil (F.nil ?_))
        cases hE_1
        refine Nrm.only [8, 9, 10, 11, 16, 18, 22, 23, 26, 183] rfl ?_
        refine Nrm.pick [6, 20, 24, 25, 1, 26, 27, 28, 21, 22, 23, 7, 8, 9] rfl rfl ?_
        exact hj_1 _ _ ⟨rfl, rfl⟩
       ·replace hE_1 := if_ff g134 hE_1
        rcases Bool.eq_false_or_eq_true (t78_6 != t85_6) with g139 | g139
        ·replace hE_1 := if_tt g139 hE_1
         refine Tri.drawA mixedT Sep.up [(0, true), (1, true), (2, true), (3, true), (4, true), (5, true), (6, true), (7, true), (8, true), (9, true), (10, true), (11, true), (12, true), (13, true), (14, true), (15, true), (16, true), (17, true), (18, true), (19, true), (20, true), (21, true), (22, true), (23, true), (24, true), (25, true), (26, true), (27, true), (28, true), (29, true), (30, true), (31, true), (32, true), (33, true), (34, true), (35, true), (36, true), (37, true), (38, true), (39, true), (40, true), (41, true), (42, true), (43, true), (44, true), (45, true), (46, true), (47, true), (48, true), (49, true), (50, true), (51, true), (52, true), (53, true), (54, true), (55, true), (56, true), (57, true), (58, true), (59, true), (60, true), (61, true), (62, true), (63, true), (64, true), (65, true), (66, true), (67, true), (68, true), (69, true), (70, true), (71, true), (72, true), (73, true), (74, true)] [] (by kernel_rfl) ?_
         refine S.qn rfl (r_move rfl) (S.qn rfl (r_move rfl) (S.qn rfl (r_neqB Tryz.underlying4 rfl rfl) (S.qn rfl (r_move rfl) (S.qg rfl g112 (r_loadA ta44 ti44 rfl rfl (fun w hw => (box_cells (i := 34) rfl w hw))) (S.qg rfl g112 (r_loadA ta44 ti44 rfl rfl (fun w hw => (box_cells (i := 30) rfl w hw))) ?_)))))
         refine S.qc rfl rfl rfl (wg rfl rfl rfl g112) (q_callF (xs := _) rfl ok42 rfl rfl (fun w hw => laws_vVisit.ok h115 w ((rd_sl (i := 35) rfl) w hw) ((rd_sl (i := 36) rfl) w hw) ((rd_sl (i := 37) rfl) w hw) ((rd_sl (i := 31) rfl) w hw) ((rd_sl (i := 32) rfl) w hw) ((rd_sl (i := 33) rfl) w hw))) ?_
         refine S.qg rfl g112 (r_not rfl) (S.qn rfl (r_pickf rfl rfl g112) (S.qn rfl (r_move rfl) (S.qg rfl g118 (r_move rfl) ?_)))
         refine S.qg rfl g118 (r_move rfl) (S.qg rfl g118 (r_neqB Tryz.underlying4 rfl rfl) (S.qn rfl (r_pickf rfl rfl g118) (S.qn rfl (r_move rfl) (S.qg rfl g123 (r_loadA ta44 ti44 rfl rfl (fun w hw => (box_cells (i := 20) rfl w hw))) (S.qg rfl g123 (r_loadA ta44 ti44 rfl rfl (fun w hw => (box_cells (i := 16) rfl w hw))) ?_)))))
         refine S.qc rfl rfl rfl (wg rfl rfl rfl g123) (q_callF (xs := _) rfl ok42 rfl rfl (fun w hw => laws_vVisit.ok h126 w ((rd_sl (i := 21) rfl) w hw) ((rd_sl (i := 22) rfl) w hw) ((rd_sl (i := 23) rfl) w hw) ((rd_sl (i := 17) rfl) w hw) ((rd_sl (i := 18) rfl) w hw) ((rd_sl (i := 19) rfl) w hw))) ?_
         refine S.qg rfl g123 (r_not rfl) ?_
         refine S.qn rfl (r_pickf rfl rfl g123) (S.qn rfl (r_move rfl) (S.qg rfl g129 (r_move rfl) (S.qg rfl g129 (r_move rfl) (S.qg rfl g129 (r_neqB Tryz.underlying4 rfl rfl) (S.qn rfl (r_pickf rfl rfl g129) ?_)))))
         refine S.qn rfl (r_move rfl) (S.qg rfl g134 (r_move rfl) (S.qg rfl g134 (r_move rfl) (S.qg rfl g134 (r_neq rfl rfl) (S.qn rfl (r_pickf rfl rfl g134) (S.qn rfl (r_move rfl) ?_)))))
         iterate 4 refine S.skf rfl g139 ?_
         refine S.qn rfl (r_pick rfl rfl g139) (S.qn rfl (r_move rfl) ?_)
         iterate 5 refine S.skf rfl rfl ?_
         refine S.qn rfl (r_pick rfl rfl rfl) (S.qn rfl (r_move rfl) ?_)
         iterate 3 refine S.skf rfl rfl ?_
         refine S.qn rfl (r_pick rfl rfl rfl) (S.qn rfl (r_move rfl) ?_)
         iterate 3 refine S.skf rfl rfl ?_
         refine S.qn rfl (r_pick rfl rfl rfl) (S.qn rfl (r_move rfl) ?_)
         iterate 3 refine S.skf rfl rfl ?_
         refine S.qn rfl (r_pick rfl rfl rfl) (S.qn rfl (r_move rfl) ?_)
         iterate 4 refine S.skf rfl rfl ?_
         refine S.qn rfl (r_pick rfl rfl rfl) (S.qn rfl (r_move rfl) ?_)
         iterate 4 refine S.skf rfl rfl ?_
         refine S.qn rfl (r_pick rfl rfl rfl) (S.qn rfl (r_move rfl) ?_)
         iterate 3 refine S.skf rfl rfl ?_
         refine S.qn rfl (r_pick rfl rfl rfl) (S.nil (F.nil ?_))
         cases hE_1
         refine Nrm.only [8, 9, 10, 11, 16, 18, 22, 23, 26, 183] rfl ?_
         refine Nrm.pick [6, 20, 24, 25, 1, 26, 27, 28, 21, 22, 23, 7, 8, 9] rfl rfl ?_
         exact hj_1 _ _ ⟨rfl, rfl⟩
        ·replace hE_1 := if_ff g139 hE_1
         obtain ⟨t142, h142, hE_1⟩ := bind_some hE_1
         rcases Bool.eq_false_or_eq_true (!t142) with g145 | g145
         ·replace hE_1 := if_tt g145 hE_1
          refine Tri.drawA mixedT Sep.up [(0, true), (1, true), (2, true), (3, true), (4, true), (5, true), (6, true), (7, true), (8, true), (9, true), (10, true), (11, true), (12, true), (13, true), (14, true), (15, true), (16, true), (17, true), (18, true), (19, true), (20, true), (21, true), (22, true), (23, true), (24, true), (25, true), (26, true), (27, true), (28, true), (29, true), (30, true), (31, true), (32, true), (33, true), (34, true), (35, true), (36, true), (37, true), (38, true), (39, true), (40, true), (41, true), (42, true), (43, true), (44, true), (45, true), (46, true), (47, true), (48, true), (49, true), (50, true), (51, true), (52, true), (53, true), (54, true), (55, true), (56, true), (57, true), (58, true), (59, true), (60, true), (61, true), (62, true), (63, true), (64, true), (65, true), (66, true), (67, true), (68, true), (69, true), (70, true), (71, true), (72, true), (73, true), (74, true)] [] (by kernel_rfl) ?_
          refine S.qn rfl (r_move rfl) (S.qn rfl (r_move rfl) (S.qn rfl (r_neqB Tryz.underlying4 rfl rfl) (S.qn rfl (r_move rfl) (S.qg rfl g112 (r_loadA ta44 ti44 rfl rfl (fun w hw => (box_cells (i := 34) rfl w hw))) (S.qg rfl g112 (r_loadA ta44 ti44 rfl rfl (fun w hw => (box_cells (i := 30) rfl w hw))) ?_)))))
          refine S.qc rfl rfl rfl (wg rfl rfl rfl g112) (q_callF (xs := _) rfl ok42 rfl rfl (fun w hw => laws_vVisit.ok h115 w ((rd_sl (i := 35) rfl) w hw) ((rd_sl (i := 36) rfl) w hw) ((rd_sl (i := 37) rfl) w hw) ((rd_sl (i := 31) rfl) w hw) ((rd_sl (i := 32) rfl) w hw) ((rd_sl (i := 33) rfl) w hw))) ?_
          refine S.qg rfl g112 (r_not rfl) (S.qn rfl (r_pickf rfl rfl g112) (S.qn rfl (r_move rfl) (S.qg rfl g118 (r_move rfl) ?_)))
          refine S.qg rfl g118 (r_move rfl) (S.qg rfl g118 (r_neqB Tryz.underlying4 rfl rfl) (S.qn rfl (r_pickf rfl rfl g118) (S.qn rfl (r_move rfl) (S.qg rfl g123 (r_loadA ta44 ti44 rfl rfl (fun w hw => (box_cells (i := 20) rfl w hw))) (S.qg rfl g123 (r_loadA ta44 ti44 rfl rfl (fun w hw => (box_cells (i := 16) rfl w hw))) ?_)))))
          refine S.qc rfl rfl rfl (wg rfl rfl rfl g123) (q_callF (xs := _) rfl ok42 rfl rfl (fun w hw => laws_vVisit.ok h126 w ((rd_sl (i := 21) rfl) w hw) ((rd_sl (i := 22) rfl) w hw) ((rd_sl (i := 23) rfl) w hw) ((rd_sl (i := 17) rfl) w hw) ((rd_sl (i := 18) rfl) w hw) ((rd_sl (i := 19) rfl) w hw))) ?_
          refine S.qg rfl g123 (r_not rfl) (S.qn rfl (r_pickf rfl rfl g123) (S.qn rfl (r_move rfl) ?_))
          refine S.qg rfl g129 (r_move rfl) (S.qg rfl g129 (r_move rfl) (S.qg rfl g129 (r_neqB Tryz.underlying4 rfl rfl) (S.qn rfl (r_pickf rfl rfl g129) (S.qn rfl (r_move rfl) (S.qg rfl g134 (r_move rfl) ?_)))))
          refine S.qg rfl g134 (r_move rfl) (S.qg rfl g134 (r_neq rfl rfl) (S.qn rfl (r_pickf rfl rfl g134) (S.qn rfl (r_move rfl) (S.qg rfl g139 (r_loadA ta44 ti44 rfl rfl (fun w hw => (box_cells (i := 6) rfl w hw))) (S.qg rfl g139 (r_loadA ta44 ti44 rfl rfl (fun w hw => (box_cells (i := 2) rfl w hw))) ?_)))))
          refine S.qc rfl rfl rfl (wg rfl rfl rfl g139) (q_callF (xs := _) rfl ok42 rfl rfl (fun w hw => laws_vVisit.ok h142 w ((rd_sl (i := 7) rfl) w hw) ((rd_sl (i := 8) rfl) w hw) ((rd_sl (i := 9) rfl) w hw) ((rd_sl (i := 3) rfl) w hw) ((rd_sl (i := 4) rfl) w hw) ((rd_sl (i := 5) rfl) w hw))) ?_
          refine S.qg rfl g139 (r_not rfl) (S.qn rfl (r_pickf rfl rfl g139) (S.qn rfl (r_move rfl) ?_))
          iterate 5 refine S.skf rfl g145 ?_
          refine S.qn rfl (r_pick rfl rfl g145) (S.qn rfl (r_move rfl) ?_)
          iterate 3 refine S.skf rfl rfl ?_
          refine S.qn rfl (r_pick rfl rfl rfl) (S.qn rfl (r_move rfl) ?_)
          iterate 3 refine S.skf rfl rfl ?_
          refine S.qn rfl (r_pick rfl rfl rfl) (S.qn rfl (r_move rfl) ?_)
          iterate 3 refine S.skf rfl rfl ?_
          refine S.qn rfl (r_pick rfl rfl rfl) (S.qn rfl (r_move rfl) ?_)
          iterate 4 refine S.skf rfl rfl ?_
          refine S.qn rfl (r_pick rfl rfl rfl) (S.qn rfl (r_move rfl) ?_)
          iterate 4 refine S.skf rfl rfl ?_
          refine S.qn rfl (r_pick rfl rfl rfl) (S.qn rfl (r_move rfl) ?_)
          iterate 3 refine S.skf rfl rfl ?_
          refine S.qn rfl (r_pick rfl rfl rfl) (S.nil (F.nil ?_))
          cases hE_1
          refine Nrm.only [8, 9, 10, 11, 16, 18, 22, 23, 26, 183] rfl ?_
          refine Nrm.pick [6, 20, 24, 25, 1, 26, 27, 28, 21, 22, 23, 7, 8, 9] rfl rfl ?_
          exact hj_1 _ _ ⟨rfl, rfl⟩
         ·replace hE_1 := if_ff g145 hE_1
          obtain ⟨t147, h147, hE_1⟩ := bind_some hE_1
          obtain ⟨t149, h149, hE_1⟩ := bind_some hE_1
          rcases Bool.eq_false_or_eq_true (t147 != t149) with g152 | g152
          ·replace hE_1 := if_tt g152 hE_1
           refine Tri.drawA mixedT Sep.up [(0, true), (1, true), (2, true), (3, true), (4, true), (5, true), (6, true), (7, true), (8, true), (9, true), (10, true), (11, true), (12, true), (13, true), (14, true), (15, true), (16, true), (17, true), (18, true), (19, true), (20, true), (21, true), (22, true), (23, true), (24, true), (25, true), (26, true), (27, true), (28, true), (29, true), (30, true), (31, true), (32, true), (33, true), (34, true), (35, true), (36, true), (37, true), (38, true), (39, true), (40, true), (41, true), (42, true), (43, true), (44, true), (45, true), (46, true), (47, true), (48, true), (49, true), (50, true), (51, true), (52, true), (53, true), (54, true), (55, true), (56, true), (57, true), (58, true), (59, true), (60, true), (61, true), (62, true), (63, true), (64, true), (65, true), (66, true), (67, true), (68, true), (69, true), (70, true), (71, true), (72, true), (73, true), (74, true)] [] (by kernel_rfl) ?_
           refine S.qn rfl (r_move rfl) (S.qn rfl (r_move rfl) (S.qn rfl (r_neqB Tryz.underlying4 rfl rfl) (S.qn rfl (r_move rfl) (S.qg rfl g112 (r_loadA ta44 ti44 rfl rfl (fun w hw => (box_cells (i := 34) rfl w hw))) (S.qg rfl g112 (r_loadA ta44 ti44 rfl rfl (fun w hw => (box_cells (i := 30) rfl w hw))) ?_)))))
           refine S.qc rfl rfl rfl (wg rfl rfl rfl g112) (q_callF (xs := _) rfl ok42 rfl rfl (fun w hw => laws_vVisit.ok h115 w ((rd_sl (i := 35) rfl) w hw) ((rd_sl (i := 36) rfl) w hw) ((rd_sl (i := 37) rfl) w hw) ((rd_sl (i := 31) rfl) w hw) ((rd_sl (i := 32) rfl) w hw) ((rd_sl (i := 33) rfl) w hw))) ?_
           refine S.qg rfl g112 (r_not rfl) (S.qn rfl (r_pickf rfl rfl g112) (S.qn rfl (r_move rfl) (S.qg rfl g118 (r_move rfl) ?_)))
           refine S.qg rfl g118 (r_move rfl) (S.qg rfl g118 (r_neqB Tryz.underlying4 rfl rfl) (S.qn rfl (r_pickf rfl rfl g118) (S.qn rfl (r_move rfl) (S.qg rfl g123 (r_loadA ta44 ti44 rfl rfl (fun w hw => (box_cells (i := 20) rfl w hw))) (S.qg rfl g123 (r_loadA ta44 ti44 rfl rfl (fun w hw => (box_cells (i := 16) rfl w hw))) ?_)))))
           refine S.qc rfl rfl rfl (wg rfl rfl rfl g123) (q_callF (xs := _) rfl ok42 rfl rfl (fun w hw => laws_vVisit.ok h126 w ((rd_sl (i := 21) rfl) w hw) ((rd_sl (i := 22) rfl) w hw) ((rd_sl (i := 23) rfl) w hw) ((rd_sl (i := 17) rfl) w hw) ((rd_sl (i := 18) rfl) w hw) ((rd_sl (i := 19) rfl) w hw))) ?_
           refine S.qg rfl g123 (r_not rfl) (S.qn rfl (r_pickf rfl rfl g123) (S.qn rfl (r_move rfl) ?_))
           refine S.qg rfl g129 (r_move rfl) (S.qg rfl g129 (r_move rfl) (S.qg rfl g129 (r_neqB Tryz.underlying4 rfl rfl) (S.qn rfl (r_pickf rfl rfl g129) (S.qn rfl (r_move rfl) (S.qg rfl g134 (r_move rfl) ?_)))))
           refine S.qg rfl g134 (r_move rfl) (S.qg rfl g134 (r_neq rfl rfl) (S.qn rfl (r_pickf rfl rfl g134) (S.qn rfl (r_move rfl) (S.qg rfl g139 (r_loadA ta44 ti44 rfl rfl (fun w hw => (box_cells (i := 6) rfl w hw))) (S.qg rfl g139 (r_loadA ta44 ti44 rfl rfl (fun w hw => (box_cells (i := 2) rfl w hw))) ?_)))))
           refine S.qc rfl rfl rfl (wg rfl rfl rfl g139) (q_callF (xs := _) rfl ok42 rfl rfl (fun w hw => laws_vVisit.ok h142 w ((rd_sl (i := 7) rfl) w hw) ((rd_sl (i := 8) rfl) w hw) ((rd_sl (i := 9) rfl) w hw) ((rd_sl (i := 3) rfl) w hw) ((rd_sl (i := 4) rfl) w hw) ((rd_sl (i := 5) rfl) w hw))) ?_
           refine S.qg rfl g139 (r_not rfl) (S.qn rfl (r_pickf rfl rfl g139) (S.qn rfl (r_move rfl) (S.qg rfl g145 (r_loadA ta44 ti44 rfl rfl (fun w hw => (box_cells (i := 25) rfl w hw))) ?_)))
           refine S.qc rfl rfl rfl (wg rfl rfl rfl g145) (q_callF (xs := _) rfl ok43 rfl rfl (fun w hw => impl_IsVisit.ok h147 w ((rd_sl (i := 26) rfl) w hw) ((rd_sl (i := 27) rfl) w hw) ((rd_sl (i := 28) rfl) w hw))) ?_
           refine S.qg rfl g145 (r_loadA ta44 ti44 rfl rfl (fun w hw => (box_cells (i := 25) rfl w hw))) ?_
           refine S.qc rfl rfl rfl (wg rfl rfl rfl g145) (q_callF (xs := _) rfl ok44 rfl rfl (fun w hw => spec_IsVisit.ok h149 w ((rd_sl (i := 26) rfl) w hw) ((rd_sl (i := 27) rfl) w hw) ((rd_sl (i := 28) rfl) w hw))) ?_
           refine S.qg rfl g145 (r_neqB Tryz.underlying4 rfl rfl) (S.qn rfl (r_pickf rfl rfl g145) (S.qn rfl (r_move rfl) ?_))
           iterate 3 refine S.skf rfl g152 ?_
           refine S.qn rfl (r_pick rfl rfl g152) (S.qn rfl (r_move rfl) ?_)
           iterate 3 refine S.skf rfl rfl ?_
           refine S.qn rfl (r_pick rfl rfl rfl) (S.qn rfl (r_move rfl) ?_)
           iterate 3 refine S.skf rfl rfl ?_
           refine S.qn rfl (r_pick rfl rfl rfl) (S.qn rfl (r_move rfl) ?_)
           iterate 4 refine S.skf rfl rfl ?_
           refine S.qn rfl (r_pick rfl rfl rfl) (S.qn rfl (r_move rfl) ?_)
           iterate 4 refine S.skf rfl rfl ?_
           refine S.qn rfl (r_pick rfl rfl rfl) (S.qn rfl (r_move rfl) ?_)
           iterate 3 refine S.skf rfl rfl ?_
           refine S.qn rfl (r_pick rfl rfl rfl) (S.nil (F.nil ?_))
           cases hE_1
           refine Nrm.only [8, 9, 10, 11, 16, 18, 22, 23, 26, 183] rfl ?_
           refine Nrm.pick [6, 20, 24, 25, 1, 26, 27, 28, 21, 22, 23, 7, 8, 9] rfl rfl ?_
           exact hj_1 _ _ ⟨rfl, rfl⟩
          ·replace hE_1 := if_ff g152 hE_1
           rcases Bool.eq_false_or_eq_true (t91_1 != t96_1) with g157 | g157
           ·replace hE_1 := if_tt g157 hE_1
            refine Tri.drawA mixedT Sep.up [(0, true), (1, true), (2, true), (3, true), (4, true), (5, true), (6, true), (7, true), (8, true), (9, true), (10, true), (11, true), (12, true), (13, true), (14, true), (15, true), (16, true), (17, true), (18, true), (19, true), (20, true), (21, true), (22, true), (23, true), (24, true), (25, true), (26, true), (27, true), (28, true), (29, true), (30, true), (31, true), (32, true), (33, true), (34, true), (35, true), (36, true), (37, true), (38, true), (39, true), (40, true), (41, true), (42, true), (43, true), (44, true), (45, true), (46, true), (47, true), (48, true), (49, true), (50, true), (51, true), (52, true), (53, true), (54, true), (55, true), (56, true), (57, true), (58, true), (59, true), (60, true), (61, true), (62, true), (63, true), (64, true), (65, true), (66, true), (67, true), (68, true), (69, true), (70, true), (71, true), (72, true), (73, true), (74, true)] [] (by kernel_rfl) ?_
            refine S.qn rfl (r_move rfl) (S.qn rfl (r_move rfl) (S.qn rfl (r_neqB Tryz.underlying4 rfl rfl) (S.qn rfl (r_move rfl) (S.qg rfl g112 (r_loadA ta44 ti44 rfl rfl (fun w hw => (box_cells (i := 34) rfl w hw))) (S.qg rfl g112 (r_loadA ta44 ti44 rfl rfl (fun w hw => (box_cells (i := 30) rfl w hw))) ?_)))))
            refine S.qc rfl rfl rfl (wg rfl rfl rfl g112) (q_callF (xs := _) rfl ok42 rfl rfl (fun w hw => laws_vVisit.ok h115 w ((rd_sl (i := 35) rfl) w hw) ((rd_sl (i := 36) rfl) w hw) ((rd_sl (i := 37) rfl) w hw) ((rd_sl (i := 31) rfl) w hw) ((rd_sl (i := 32) rfl) w hw) ((rd_sl (i := 33) rfl) w hw))) ?_
            refine S.qg rfl g112 (r_not rfl) (S.qn rfl (r_pickf rfl rfl g112) (S.qn rfl (r_move rfl) (S.qg rfl g118 (r_move rfl) ?_)))
            refine S.qg rfl g118 (r_move rfl) (S.qg rfl g118 (r_neqB Tryz.underlying4 rfl rfl) (S.qn rfl (r_pickf rfl rfl g118) (S.qn rfl (r_move rfl) (S.qg rfl g123 (r_loadA ta44 ti44 rfl rfl (fun w hw => (box_cells (i := 20) rfl w hw))) (S.qg rfl g123 (r_loadA ta44 ti44 rfl rfl (fun w hw => (box_cells (i := 16) rfl w hw))) ?_)))))
            refine S.qc rfl rfl rfl (wg rfl rfl rfl g123) (q_callF (xs := _) rfl ok42 rfl rfl (fun w hw => laws_vVisit.ok h126 w ((rd_sl (i := 21) rfl) w hw) ((rd_sl (i := 22) rfl) w hw) ((rd_sl (i := 23) rfl) w hw) ((rd_sl (i := 17) rfl) w hw) ((rd_sl (i := 18) rfl) w hw) ((rd_sl (i := 19) rfl) w hw))) ?_
            refine S.qg rfl g123 (r_not rfl) (S.qn rfl (r_pickf rfl rfl g123) (S.qn rfl (r_move rfl) ?_))
            refine S.qg rfl g129 (r_move rfl) (S.qg rfl g129 (r_move rfl) (S.qg rfl g129 (r_neqB Tryz.underlying4 rfl rfl) (S.qn rfl (r_pickf rfl rfl g129) (S.qn rfl (r_move rfl) (S.qg rfl g134 (r_move rfl) ?_)))))
            refine S.qg rfl g134 (r_move rfl) (S.qg rfl g134 (r_neq rfl rfl) (S.qn rfl (r_pickf rfl rfl g134) (S.qn rfl (r_move rfl) (S.qg rfl g139 (r_loadA ta44 ti44 rfl rfl (fun w hw => (box_cells (i := 6) rfl w hw))) (S.qg rfl g139 (r_loadA ta44 ti44 rfl rfl (fun w hw => (box_cells (i := 2) rfl w hw))) ?_)))))
            refine S.qc rfl rfl rfl (wg rfl rfl rfl g139) (q_callF (xs := _) rfl ok42 rfl rfl (fun w hw => laws_vVisit.ok h142 w ((rd_sl (i := 7) rfl) w hw) ((rd_sl (i := 8) rfl) w hw) ((rd_sl (i := 9) rfl) w hw) ((rd_sl (i := 3) rfl) w hw) ((rd_sl (i := 4) rfl) w hw) ((rd_sl (i := 5) rfl) w hw))) ?_
            refine S.qg rfl g139 (r_not rfl) (S.qn rfl (r_pickf rfl rfl g139) (S.qn rfl (r_move rfl) (S.qg rfl g145 (r_loadA ta44 ti44 rfl rfl (fun w hw => (box_cells (i := 25) rfl w hw))) ?_)))
            refine S.qc rfl rfl rfl (wg rfl rfl rfl g145) (q_callF (xs := _) rfl ok43 rfl rfl (fun w hw => impl_IsVisit.ok h147 w ((rd_sl (i := 26) rfl) w hw) ((rd_sl (i := 27) rfl) w hw) ((rd_sl (i := 28) rfl) w hw))) ?_
            refine S.qg rfl g145 (r_loadA ta44 ti44 rfl rfl (fun w hw => (box_cells (i := 25) rfl w hw))) ?_
            refine S.qc rfl rfl rfl (wg rfl rfl rfl g145) (q_callF (xs := _) rfl ok44 rfl rfl (fun w hw => spec_IsVisit.ok h149 w ((rd_sl (i := 26) rfl) w hw) ((rd_sl (i := 27) rfl) w hw) ((rd_sl (i := 28) rfl) w hw))) ?_
            refine S.qg rfl g145 (r_neqB Tryz.underlying4 rfl rfl) (S.qn rfl (r_pickf rfl rfl g145) ?_)
            refine S.qn rfl (r_move rfl) (S.qg rfl g152 (r_move rfl) (S.qg rfl g152 (r_move rfl) (S.qg rfl g152 (r_neq rfl rfl) (S.qn rfl (r_pickf rfl rfl g152) (S.qn rfl (r_move rfl) ?_)))))
            iterate 3 refine S.skf rfl g157 ?_
            refine S.qn rfl (r_pick rfl rfl g157) (S.qn rfl (r_move rfl) ?_)
            iterate 3 refine S.skf rfl rfl ?_
            refine S.qn rfl (r_pick rfl rfl rfl) (S.qn rfl (r_move rfl) ?_)
            iterate 4 refine S.skf rfl rfl ?_
            refine S.qn rfl (r_pick rfl rfl rfl) (S.qn rfl (r_move rfl) ?_)
            iterate 4 refine S.skf rfl rfl ?_
            refine S.qn rfl (r_pick rfl rfl rfl) (S.qn rfl (r_move rfl) ?_)
            iterate 3 refine S.skf rfl rfl ?_
            refine S.qn rfl (r_pick rfl rfl rfl) (S.nil (F.nil ?_))
            cases hE_1
            refine Nrm.only [8, 9, 10, 11, 16, 18, 22, 23, 26, 183] rfl ?_
            refine Nrm.pick [6, 20, 24, 25, 1, 26, 27, 28, 21, 22, 23, 7, 8, 9] rfl rfl ?_
            exact hj_1 _ _ ⟨rfl, rfl⟩
           ·replace hE_1 := if_ff g157 hE_1
            rcases Bool.eq_false_or_eq_true (t91_2 != t96_2) with g162 | g162
            ·replace hE_1 := if_tt g162 hE_1
             refine Tri.drawA mixedT Sep.up [(0, true), (1, true), (2, true), (3, true), (4, true), (5, true), (6, true), (7, true), (8, true), (9, true), (10, true), (11, true), (12, true), (13, true), (14, true), (15, true), (16, true), (17, true), (18, true), (19, true), (20, true), (21, true), (22, true), (23, true), (24, true), (25, true), (26, true), (27, true), (28, true), (29, true), (30, true), (31, true), (32, true), (33, true), (34, true), (35, true), (36, true), (37, true), (38, true), (39, true), (40, true), (41, true), (42, true), (43, true), (44, true), (45, true), (46, true), (47, true), (48, true), (49, true), (50, true), (51, true), (52, true), (53, true), (54, true), (55, true), (56, true), (57, true), (58, true), (59, true), (60, true), (61, true), (62, true), (63, true), (64, true), (65, true), (66, true), (67, true), (68, true), (69, true), (70, true), (71, true), (72, true), (73, true), (74, true)] [] (by kernel_rfl) ?_
             refine S.qn rfl (r_move rfl) (S.qn rfl (r_move rfl) (S.qn rfl (r_neqB Tryz.underlying4 rfl rfl) (S.qn rfl (r_move rfl) (S.qg rfl g112 (r_loadA ta44 ti44 rfl rfl (fun w hw => (box_cells (i := 34) rfl w hw))) (S.qg rfl g112 (r_loadA ta44 ti44 rfl rfl (fun w hw => (box_cells (i := 30) rfl w hw))) ?_)))))
             refine S.qc rfl rfl rfl (wg rfl rfl rfl g112) (q_callF (xs := _) rfl ok42 rfl rfl (fun w hw => laws_vVisit.ok h115 w ((rd_sl (i := 35) rfl) w hw) ((rd_sl (i := 36) rfl) w hw) ((rd_sl (i := 37) rfl) w hw) ((rd_sl (i := 31) rfl) w hw) ((rd_sl (i := 32) rfl) w hw) ((rd_sl (i := 33) rfl) w hw))) ?_
             refine S.qg rfl g112 (r_not rfl) (S.qn rfl (r_pickf rfl rfl g112) (S.qn rfl (r_move rfl) (S.qg rfl g118 (r_move rfl) ?_)))
             refine S.qg rfl g118 (r_move rfl) (S.qg rfl g118 (r_neqB Tryz.underlying4 rfl rfl) (S.qn rfl (r_pickf rfl rfl g118) (S.qn rfl (r_move rfl) (S.qg rfl g123 (r_loadA ta44 ti44 rfl rfl (fun w hw => (box_cells (i := 20) rfl w hw))) (S.qg rfl g123 (r_loadA ta44 ti44 rfl rfl (fun w hw => (box_cells (i := 16) rfl w hw))) ?_)))))
             refine S.qc rfl rfl rfl (wg rfl rfl rfl g123) (q_callF (xs := _) rfl ok42 rfl rfl (fun w hw => laws_vVisit.ok h126 w ((rd_sl (i := 21) rfl) w hw) ((rd_sl (i := 22) rfl) w hw) ((rd_sl (i := 23) rfl) w hw) ((rd_sl (i := 17) rfl) w hw) ((rd_sl (i := 18) rfl) w hw) ((rd_sl (i := 19) rfl) w hw))) ?_
             refine S.qg rfl g123 (r_not rfl) (S.qn rfl (r_pickf rfl rfl g123) (S.qn rfl (r_move rfl) ?_))
             refine S.qg rfl g129 (r_move rfl) (S.qg rfl g129 (r_move rfl) (S.qg rfl g129 (r_neqB Tryz.underlying4 rfl rfl) (S.qn rfl (r_pickf rfl rfl g129) (S.qn rfl (r_move rfl) (S.qg rfl g134 (r_move rfl) ?_)))))
             refine S.qg rfl g134 (r_move rfl) (S.qg rfl g134 (r_neq rfl rfl) (S.qn rfl (r_pickf rfl rfl g134) (S.qn rfl (r_move rfl) (S.qg rfl g139 (r_loadA ta44 ti44 rfl rfl (fun w hw => (box_cells (i := 6) rfl w hw))) (S.qg rfl g139 (r_loadA ta44 ti44 rfl rfl (fun w hw => (box_cells (i := 2) rfl w hw))) ?_)))))
             refine S.qc rfl rfl rfl (wg rfl rfl rfl g139) (q_callF (xs := _) rfl ok42 rfl rfl (fun w hw => laws_vVisit.ok h142 w ((rd_sl (i := 7) rfl) w hw) ((rd_sl (i := 8) rfl) w hw) ((rd_sl (i := 9) rfl) w hw) ((rd_sl (i := 3) rfl) w hw) ((rd_sl (i := 4) rfl) w hw) ((rd_sl (i := 5) rfl) w hw))) ?_
             refine S.qg rfl g139 (r_not rfl) (S.qn rfl (r_pickf rfl rfl g139) (S.qn rfl (r_move rfl) (S.qg rfl g145 (r_loadA ta44 ti44 rfl rfl (fun w hw => (box_cells (i := 25) rfl w hw))) ?_)))
             refine S.qc rfl rfl rfl (wg rfl rfl rfl g145) (q_callF (xs := _) rfl ok43 rfl rfl (fun w hw => impl_IsVisit.ok h147 w ((rd_sl (i := 26) rfl) w hw) ((rd_sl (i := 27) rfl) w hw) ((rd_sl (i := 28) rfl) w hw))) ?_
             refine S.qg rfl g145 (r_loadA ta44 ti44 rfl rfl (fun w hw => (box_cells (i := 25) rfl w hw))) ?_
             refine S.qc rfl rfl rfl (wg rfl rfl rfl g145) (q_callF (xs := _) rfl ok44 rfl rfl (fun w hw => spec_IsVisit.ok h149 w ((rd_sl (i := 26) rfl) w hw) ((rd_sl (i := 27) rfl) w hw) ((rd_sl (i := 28) rfl) w hw))) ?_
             refine S.qg rfl g145 (r_neqB Tryz.underlying4 rfl rfl) ?_
             refine S.qn rfl (r_pickf rfl rfl g145) (S.qn rfl (r_move rfl) (S.qg rfl g152 (r_move rfl) (S.qg rfl g152 (r_move rfl) (S.qg rfl g152 (r_neq rfl rfl) (S.qn rfl (r_pickf rfl rfl g152) ?_)))))
             refine S.qn rfl (r_move rfl) (S.qg rfl g157 (r_move rfl) (S.qg rfl g157 (r_move rfl) (S.qg rfl g157 (r_neqB Tryz.underlying4 rfl rfl) (S.qn rfl (r_pickf rfl rfl g157) (S.qn rfl (r_move rfl) ?_)))))
             iterate 3 refine S.skf rfl g162 ?_
             refine S.qn rfl (r_pick rfl rfl g162) (S.qn rfl (r_move rfl) ?_)
             iterate 4 refine S.skf rfl rfl ?_
             refine S.qn rfl (r_pick rfl rfl rfl) (S.qn rfl (r_move rfl) ?_)
             iterate 4 refine S.skf rfl rfl ?_
             refine S.qn rfl (r_pick rfl rfl rfl) (S.qn rfl (r_move rfl) ?_)
             iterate 3 refine S.skf rfl rfl ?_
             refine S.qn rfl (r_pick rfl rfl rfl) (S.nil (F.nil ?_))
             cases hE_1
             refine Nrm.only [8, 9, 10, 11, 16, 18, 22, 23, 26, 183] rfl ?_
             refine Nrm.pick [6, 20, 24, 25, 1, 26, 27, 28, 21, 22, 23, 7, 8, 9] rfl rfl ?_
             exact hj_1 _ _ ⟨rfl, rfl⟩
            ·replace hE_1 := if_ff g162 hE_1
             rcases Bool.eq_false_or_eq_true (t101_2 != t106_2) with g167 | g167
             ·replace hE_1 := if_tt g167 hE_1
              refine Tri.drawA mixedT Sep.up [(0, true), (1, true), (2, true), (3, true), (4, true), (5, true), (6, true), (7, true), (8, true), (9, true), (10, true), (11, true), (12, true), (13, true), (14, true), (15, true), (16, true), (17, true), (18, true), (19, true), (20, true), (21, true), (22, true), (23, true), (24, true), (25, true), (26, true), (27, true), (28, true), (29, true), (30, true), (31, true), (32, true), (33, true), (34, true), (35, true), (36, true), (37, true), (38, true), (39, true), (40, true), (41, true), (42, true), (43, true), (44, true), (45, true), (46, true), (47, true), (48, true), (49, true), (50, true), (51, true), (52, true), (53, true), (54, true), (55, true), (56, true), (57, true), (58, true), (59, true), (60, true), (61, true), (62, true), (63, true), (64, true), (65, true), (66, true), (67, true), (68, true), (69, true), (70, true), (71, true), (72, true), (73, true), (74, true)] [] (by kernel_rfl) ?_
              refine S.qn rfl (r_move rfl) (S.qn rfl (r_move rfl) (S.qn rfl (r_neqB Tryz.underlying4 rfl rfl) (S.qn rfl (r_move rfl) (S.qg rfl g112 (r_loadA ta44 ti44 rfl rfl (fun w hw => (box_cells (i := 34) rfl w hw))) (S.qg rfl g112 (r_loadA ta44 ti44 rfl rfl (fun w hw => (box_cells (i := 30) rfl w hw))) ?_)))))
              refine S.qc rfl rfl rfl (wg rfl rfl rfl g112) (q_callF (xs := _) rfl ok42 rfl rfl (fun w hw => laws_vVisit.ok h115 w ((rd_sl (i := 35) rfl) w hw) ((rd_sl (i := 36) rfl) w hw) ((rd_sl (i := 37) rfl) w hw) ((rd_sl (i := 31) rfl) w hw) ((rd_sl (i := 32) rfl) w hw) ((rd_sl (i := 33) rfl) w hw))) ?_
              refine S.qg rfl g112 (r_not rfl) (S.qn rfl (r_pickf rfl rfl g112) (S.qn rfl (r_move rfl) (S.qg rfl g118 (r_move rfl) ?_)))
              refine S.qg rfl g118 (r_move rfl) (S.qg rfl g118 (r_neqB Tryz.underlying4 rfl rfl) (S.qn rfl (r_pickf rfl rfl g118) (S.qn rfl (r_move rfl) (S.qg rfl g123 (r_loadA ta44 ti44 rfl rfl (fun w hw => (box_cells (i := 20) rfl w hw))) (S.qg rfl g123 (r_loadA ta44 ti44 rfl rfl (fun w hw => (box_cells (i := 16) rfl w hw))) ?_)))))
              refine S.qc rfl rfl rfl (wg rfl rfl rfl g123) (q_callF (xs := _) rfl ok42 rfl rfl (fun w hw => laws_vVisit.ok h126 w ((rd_sl (i := 21) rfl) w hw) ((rd_sl (i := 22) rfl) w hw) ((rd_sl (i := 23) rfl) w hw) ((rd_sl (i := 17) rfl) w hw) ((rd_sl (i := 18) rfl) w hw) ((rd_sl (i := 19) rfl) w hw))) ?_
              refine S.qg rfl g123 (r_not rfl) (S.qn rfl (r_pickf rfl rfl g123) (S.qn rfl (r_move rfl) ?_))
              refine S.qg rfl g129 (r_move rfl) (S.qg rfl g129 (r_move rfl) (S.qg rfl g129 (r_neqB Tryz.underlying4 rfl rfl) (S.qn rfl (r_pickf rfl rfl g129) (S.qn rfl (r_move rfl) (S.qg rfl g134 (r_move rfl) ?_)))))
              refine S.qg rfl g134 (r_move rfl) (S.qg rfl g134 (r_neq rfl rfl) (S.qn rfl (r_pickf rfl rfl g134) (S.qn rfl (r_move rfl) (S.qg rfl g139 (r_loadA ta44 ti44 rfl rfl (fun w hw => (box_cells (i := 6) rfl w hw))) (S.qg rfl g139 (r_loadA ta44 ti44 rfl rfl (fun w hw => (box_cells (i := 2) rfl w hw))) ?_)))))
              refine S.qc rfl rfl rfl (wg rfl rfl rfl g139) (q_callF (xs := _) rfl ok42 rfl rfl (fun w hw => laws_vVisit.ok h142 w ((rd_sl (i := 7) rfl) w hw) ((rd_sl (i := 8) rfl) w hw) ((rd_sl (i := 9) rfl) w hw) ((rd_sl (i := 3) rfl) w hw) ((rd_sl (i := 4) rfl) w hw) ((rd_sl (i := 5) rfl) w hw))) ?_
              refine S.qg rfl g139 (r_not rfl) (S.qn rfl (r_pickf rfl rfl g139) (S.qn rfl (r_move rfl) (S.qg rfl g145 (r_loadA ta44 ti44 rfl rfl (fun w hw => (box_cells (i := 25) rfl w hw))) ?_)))
              refine S.qc rfl rfl rfl (wg rfl rfl rfl g145) (q_callF (xs := _) rfl ok43 rfl rfl (fun w hw => impl_IsVisit.ok h147 w ((rd_sl (i := 26) rfl) w hw) ((rd_sl (i := 27) rfl) w hw) ((rd_sl (i := 28) rfl) w hw))) ?_
              refine S.qg rfl g145 (r_loadA ta44 ti44 rfl rfl (fun w hw => (box_cells (i := 25) rfl w hw))) ?_
              refine S.qc rfl rfl rfl (wg rfl rfl rfl g145) (q_callF (xs := _) rfl ok44 rfl rfl (fun w hw => spec_IsVisit.ok h149 w ((rd_sl (i := 26) rfl) w hw) ((rd_sl (i := 27) rfl) w hw) ((rd_sl (i := 28) rfl) w hw))) ?_
              refine S.qg rfl g145 (r_neqB Tryz.underlying4 rfl rfl) (S.qn rfl (r_pickf rfl rfl g145) (S.qn rfl (r_move rfl) (S.qg rfl g152 (r_move rfl) (S.qg rfl g152 (r_move rfl) (S.qg rfl g152 (r_neq rfl rfl) ?_)))))
              refine S.qn rfl (r_pickf rfl rfl g152) (S.qn rfl (r_move rfl) (S.qg rfl g157 (r_move rfl) (S.qg rfl g157 (r_move rfl) (S.qg rfl g157 (r_neqB Tryz.underlying4 rfl rfl) (S.qn rfl (r_pickf rfl rfl g157) ?_)))))
              refine S.qn rfl (r_move rfl) (S.qg rfl g162 (r_move rfl) (S.qg rfl g162 (r_move rfl) (S.qg rfl g162 (r_neqB Tryz.underlying4 rfl rfl) (S.qn rfl (r_pickf rfl rfl g162) (S.qn rfl (r_move rfl) ?_)))))
              iterate 4 refine S.skf rfl g167 ?_
              refine S.qn rfl (r_pick rfl rfl g167) (S.qn rfl (r_move rfl) ?_)
              iterate 4 refine S.skf rfl rfl ?_
              refine S.qn rfl (r_pick rfl rfl rfl) (S.qn rfl (r_move rfl) ?_)
              iterate 3 refine S.skf rfl rfl ?_
              refine S.qn rfl (r_pick rfl rfl rfl) (S.nil (F.nil ?_))
              cases hE_1
              refine Nrm.only [8, 9, 10, 11, 16, 18, 22, 23, 26, 183] rfl ?_
              refine Nrm.pick [6, 20, 24, 25, 1, 26, 27, 28, 21, 22, 23, 7, 8, 9] rfl rfl ?_
              exact hj_1 _ _ ⟨rfl, rfl⟩
             ·replace hE_1 := if_ff g167 hE_1
              obtain ⟨t170, h170, hE_1⟩ := bind_some hE_1
              rcases Bool.eq_false_or_eq_true (!t170) with g173 | g173
              ·replace hE_1 := if_tt g173 hE_1
               refine Tri.drawA mixedT Sep.up [(0, true), (1, true), (2, true), (3, true), (4, true), (5, true), (6, true), (7, true), (8, true), (9, true), (10, true), (11, true), (12, true), (13, true), (14, true), (15, true), (16, true), (17, true), (18, true), (19, true), (20, true), (21, true), (22, true), (23, true), (24, true), (25, true), (26, true), (27, true), (28, true), (29, true), (30, true), (31, true), (32, true), (33, true), (34, true), (35, true), (36, true), (37, true), (38, true), (39, true), (40, true), (41, true), (42, true), (43, true), (44, true), (45, true), (46, true), (47, true), (48, true), (49, true), (50, true), (51, true), (52, true), (53, true), (54, true), (55, true), (56, true), (57, true), (58, true), (59, true), (60, true), (61, true), (62, true), (63, true), (64, true), (65, true), (66, true), (67, true), (68, true), (69, true), (70, true), (71, true), (72, true), (73, true), (74, true)] [] (by kernel_rfl) ?_
               refine S.qn rfl (r_move rfl) (S.qn rfl (r_move rfl) (S.qn rfl (r_neqB Tryz.underlying4 rfl rfl) (S.qn rfl (r_move rfl) (S.qg rfl g112 (r_loadA ta44 ti44 rfl rfl (fun w hw => (box_cells (i := 34) rfl w hw))) (S.qg rfl g112 (r_loadA ta44 ti44 rfl rfl (fun w hw => (box_cells (i := 30) rfl w hw))) ?_)))))
               refine S.qc rfl rfl rfl (wg rfl rfl rfl g112) (q_callF (xs := _) rfl ok42 rfl rfl (fun w hw => laws_vVisit.ok h115 w ((rd_sl (i := 35) rfl) w hw) ((rd_sl (i := 36) rfl) w hw) ((rd_sl (i := 37) rfl) w hw) ((rd_sl (i := 31) rfl) w hw) ((rd_sl (i := 32) rfl) w hw) ((rd_sl (i := 33) rfl) w hw))) ?_
               refine S.qg rfl g112 (r_not rfl) (S.qn rfl (r_pickf rfl rfl g112) (S.qn rfl (r_move rfl) (S.qg rfl g118 (r_move rfl) ?_)))
               refine S.qg rfl g118 (r_move rfl) (S.qg rfl g118 (r_neqB Tryz.underlying4 rfl rfl) (S.qn rfl (r_pickf rfl rfl g118) (S.qn rfl (r_move rfl) (S.qg rfl g123 (r_loadA ta44 ti44 rfl rfl (fun w hw => (box_cells (i := 20) rfl w hw))) (S.qg rfl g123 (r_loadA ta44 ti44 rfl rfl (fun w hw => (box_cells (i := 16) rfl w hw))) ?_)))))
               refine S.qc rfl rfl rfl (wg rfl rfl rfl g123) (q_callF (xs := _) rfl ok42 rfl rfl (fun w hw => laws_vVisit.ok h126 w ((rd_sl (i := 21) rfl) w hw) ((rd_sl (i := 22) rfl) w hw) ((rd_sl (i := 23) rfl) w hw) ((rd_sl (i := 17) rfl) w hw) ((rd_sl (i := 18) rfl) w hw) ((rd_sl (i := 19) rfl) w hw))) ?_
               refine S.qg rfl g123 (r_not rfl) (S.qn rfl (r_pickf rfl rfl g123) (S.qn rfl (r_move rfl) ?_))
               refine S.qg rfl g129 (r_move rfl) (S.qg rfl g129 (r_move rfl) (S.qg rfl g129 (r_neqB Tryz.underlying4 rfl rfl) (S.qn rfl (r_pickf rfl rfl g129) (S.qn rfl (r_move rfl) (S.qg rfl g134 (r_move rfl) ?_)))))
               refine S.qg rfl g134 (r_move rfl) (S.qg rfl g134 (r_neq rfl rfl) (S.qn rfl (r_pickf rfl rfl g134) (S.qn rfl (r_move rfl) (S.qg rfl g139 (r_loadA ta44 ti44 rfl rfl (fun w hw => (box_cells (i := 6) rfl w hw))) (S.qg rfl g139 (r_loadA ta44 ti44 rfl rfl (fun w hw => (box_cells (i := 2) rfl w hw))) ?_)))))
               refine S.qc rfl rfl rfl (wg rfl rfl rfl g139) (q_callF (xs := _) rfl ok42 rfl rfl (fun w hw => laws_vVisit.ok h142 w ((rd_sl (i := 7) rfl) w hw) ((rd_sl (i := 8) rfl) w hw) ((rd_sl (i := 9) rfl) w hw) ((rd_sl (i := 3) rfl) w hw) ((rd_sl (i := 4) rfl) w hw) ((rd_sl (i := 5) rfl) w hw))) ?_
               refine S.qg rfl g139 (r_not rfl) (S.qn rfl (r_pickf rfl rfl g139) (S.qn rfl (r_move rfl) (S.qg rfl g145 (r_loadA ta44 ti44 rfl rfl (fun w hw => (box_cells (i := 25) rfl w hw))) ?_)))
               refine S.qc rfl rfl rfl (wg rfl rfl rfl g145) (q_callF (xs := _) rfl ok43 rfl rfl (fun w hw => impl_IsVisit.ok h147 w ((rd_sl (i := 26) rfl) w hw) ((rd_sl (i := 27) rfl) w hw) ((rd_sl (i := 28) rfl) w hw))) ?_
               refine S.qg rfl g145 (r_loadA ta44 ti44 rfl rfl (fun w hw => (box_cells (i := 25) rfl w hw))) ?_
               refine S.qc rfl rfl rfl (wg rfl rfl rfl g145) (q_callF (xs := _) rfl ok44 rfl rfl (fun w hw => spec_IsVisit.ok h149 w ((rd_sl (i := 26) rfl) w hw) ((rd_sl (i := 27) rfl) w hw) ((rd_sl (i := 28) rfl) w hw))) ?_
               refine S.qg rfl g145 (r_neqB Tryz.underlying4 rfl rfl) (S.qn rfl (r_pickf rfl rfl g145) ?_)
               refine S.qn rfl (r_move rfl) (S.qg rfl g152 (r_move rfl) (S.qg rfl g152 (r_move rfl) (S.qg rfl g152 (r_neq rfl rfl) (S.qn rfl (r_pickf rfl rfl g152) (S.qn rfl (r_move rfl) ?_)))))
               refine S.qg rfl g157 (r_move rfl) (S.qg rfl g157 (r_move rfl) (S.qg rfl g157 (r_neqB Tryz.underlying4 rfl rfl) (S.qn rfl (r_pickf rfl rfl g157) (S.qn rfl (r_move rfl) (S.qg rfl g162 (r_move rfl) ?_)))))
               refine S.qg rfl g162 (r_move rfl) (S.qg rfl g162 (r_neqB Tryz.underlying4 rfl rfl) (S.qn rfl (r_pickf rfl rfl g162) (S.qn rfl (r_move rfl) (S.qg rfl g167 (r_move rfl) (S.qg rfl g167 (r_move rfl) ?_)))))
               refine S.qc rfl rfl rfl (wg rfl rfl rfl g167) (q_callF (xs := _) rfl ok19 rfl rfl (fun w hw => laws_vInts.ok h170 w ((rd_sl (i := 1) rfl) w hw) ((rd_sl (i := 0) rfl) w hw))) ?_
               refine S.qg rfl g167 (r_not rfl) (S.qn rfl (r_pickf rfl rfl g167) (S.qn rfl (r_move rfl) ?_))
               iterate 4 refine S.skf rfl g173 ?_
               refine S.qn rfl (r_pick rfl rfl g173) (S.qn rfl (r_move rfl) ?_)
               iterate 3 refine S.skf rfl rfl ?_
               refine S.qn rfl (r_pick rfl rfl rfl) (S.nil (F.nil ?_))
               cases hE_1
               refine Nrm.only [8, 9, 10, 11, 16, 18, 22, 23, 26, 183] rfl ?_
               refine Nrm.pick [6, 20, 24, 25, 1, 26, 27, 28, 21, 22, 23, 7, 8, 9] rfl rfl ?_
               exact hj_1 _ _ ⟨rfl, rfl⟩
              ·replace hE_1 := if_ff g173 hE_1
               obtain ⟨t176, h176, hE_1⟩ := bind_some hE_1
               rcases Bool.eq_false_or_eq_true (t91_2 != t176) with g179 | g179
               ·replace hE_1 := if_tt g179 hE_1
                refine Tri.drawA mixedT Sep.up [(0, true), (1, true), (2, true), (3, true), (4, true), (5, true), (6, true), (7, true), (8, true), (9, true), (10, true), (11, true), (12, true), (13, true), (14, true), (15, true), (16, true), (17, true), (18, true), (19, true), (20, true), (21, true), (22, true), (23, true), (24, true), (25, true), (26, true), (27, true), (28, true), (29, true), (30, true), (31, true), (32, true), (33, true), (34, true), (35, true), (36, true), (37, true), (38, true), (39, true), (40, true), (41, true), (42, true), (43, true), (44, true), (45, true), (46, true), (47, true), (48, true), (49, true), (50, true), (51, true), (52, true), (53, true), (54, true), (55, true), (56, true), (57, true), (58, true), (59, true), (60, true), (61, true), (62, true), (63, true), (64, true), (65, true), (66, true), (67, true), (68, true), (69, true), (70, true), (71, true), (72, true), (73, true), (74, true)] [] (by kernel_rfl) ?_
                refine S.qn rfl (r_move rfl) (S.qn rfl (r_move rfl) (S.qn rfl (r_neqB Tryz.underlying4 rfl rfl) (S.qn rfl (r_move rfl) (S.qg rfl g112 (r_loadA ta44 ti44 rfl rfl (fun w hw => (box_cells (i := 34) rfl w hw))) (S.qg rfl g112 (r_loadA ta44 ti44 rfl rfl (fun w hw => (box_cells (i := 30) rfl w hw))) ?_)))))
                refine S.qc rfl rfl rfl (wg rfl rfl rfl g112) (q_callF (xs := _) rfl ok42 rfl rfl (fun w hw => laws_vVisit.ok h115 w ((rd_sl (i := 35) rfl) w hw) ((rd_sl (i := 36) rfl) w hw) ((rd_sl (i := 37) rfl) w hw) ((rd_sl (i := 31) rfl) w hw) ((rd_sl (i := 32) rfl) w hw) ((rd_sl (i := 33) rfl) w hw))) ?_
                refine S.qg rfl g112 (r_not rfl) (S.qn rfl (r_pickf rfl rfl g112) (S.qn rfl (r_move rfl) (S.qg rfl g118 (r_move rfl) ?_)))
                refine S.qg rfl g118 (r_move rfl) (S.qg rfl g118 (r_neqB Tryz.underlying4 rfl rfl) (S.qn rfl (r_pickf rfl rfl g118) (S.qn rfl (r_move rfl) (S.qg rfl g123 (r_loadA ta44 ti44 rfl rfl (fun w hw => (box_cells (i := 20) rfl w hw))) (S.qg rfl g123 (r_loadA ta44 ti44 rfl rfl (fun w hw => (box_cells (i := 16) rfl w hw))) ?_)))))
                refine S.qc rfl rfl rfl (wg rfl rfl rfl g123) (q_callF (xs := _) rfl ok42 rfl rfl (fun w hw => laws_vVisit.ok h126 w ((rd_sl (i := 21) rfl) w hw) ((rd_sl (i := 22) rfl) w hw) ((rd_sl (i := 23) rfl) w hw) ((rd_sl (i := 17) rfl) w hw) ((rd_sl (i := 18) rfl) w hw) ((rd_sl (i := 19) rfl) w hw))) ?_
                refine S.qg rfl g123 (r_not rfl) (S.qn rfl (r_pickf rfl rfl g123) (S.qn rfl (r_move rfl) ?_))
                refine S.qg rfl g129 (r_move rfl) (S.qg rfl g129 (r_move rfl) (S.qg rfl g129 (r_neqB Tryz.underlying4 rfl rfl) (S.qn rfl (r_pickf rfl rfl g129) (S.qn rfl (r_move rfl) (S.qg rfl g134 (r_move rfl) ?_)))))
                refine S.qg rfl g134 (r_move rfl) (S.qg rfl g134 (r_neq rfl rfl) (S.qn rfl (r_pickf rfl rfl g134) (S.qn rfl (r_move rfl) (S.qg rfl g139 (r_loadA ta44 ti44 rfl rfl (fun w hw => (box_cells (i := 6) rfl w hw))) (S.qg rfl g139 (r_loadA ta44 ti44 rfl rfl (fun w hw => (box_cells (i := 2) rfl w hw))) ?_)))))
                refine S.qc rfl rfl rfl (wg rfl rfl rfl g139) (q_callF (xs := _) rfl ok42 rfl rfl (fun w hw => laws_vVisit.ok h142 w ((rd_sl (i := 7) rfl) w hw) ((rd_sl (i := 8) rfl) w hw) ((rd_sl (i := 9) rfl) w hw) ((rd_sl (i := 3) rfl) w hw) ((rd_sl (i := 4) rfl) w hw) ((rd_sl (i := 5) rfl) w hw))) ?_
                refine S.qg rfl g139 (r_not rfl) (S.qn rfl (r_pickf rfl rfl g139) (S.qn rfl (r_move rfl) (S.qg rfl g145 (r_loadA ta44 ti44 rfl rfl (fun w hw => (box_cells (i := 25) rfl w hw))) ?_)))
                refine S.qc rfl rfl rfl (wg rfl rfl rfl g145) (q_callF (xs := _) rfl ok43 rfl rfl (fun w hw => impl_IsVisit.ok h147 w ((rd_sl (i := 26) rfl) w hw) ((rd_sl (i := 27) rfl) w hw) ((rd_sl (i := 28) rfl) w hw))) ?_
                refine S.qg rfl g145 (r_loadA ta44 ti44 rfl rfl (fun w hw => (box_cells (i := 25) rfl w hw))) ?_
                refine S.qc rfl rfl rfl (wg rfl rfl rfl g145) (q_callF (xs := _) rfl ok44 rfl rfl (fun w hw => spec_IsVisit.ok h149 w ((rd_sl (i := 26) rfl) w hw) ((rd_sl (i := 27) rfl) w hw) ((rd_sl (i := 28) rfl) w hw))) ?_
                refine S.qg rfl g145 (r_neqB Tryz.underlying4 rfl rfl) (S.qn rfl (r_pickf rfl rfl g145) ?_)
                refine S.qn rfl (r_move rfl) (S.qg rfl g152 (r_move rfl) (S.qg rfl g152 (r_move rfl) (S.qg rfl g152 (r_neq rfl rfl) (S.qn rfl (r_pickf rfl rfl g152) (S.qn rfl (r_move rfl) ?_)))))
                refine S.qg rfl g157 (r_move rfl) (S.qg rfl g157 (r_move rfl) (S.qg rfl g157 (r_neqB Tryz.underlying4 rfl rfl) (S.qn rfl (r_pickf rfl rfl g157) (S.qn rfl (r_move rfl) (S.qg rfl g162 (r_move rfl) ?_)))))
                refine S.qg rfl g162 (r_move rfl) (S.qg rfl g162 (r_neqB Tryz.underlying4 rfl rfl) (S.qn rfl (r_pickf rfl rfl g162) (S.qn rfl (r_move rfl) (S.qg rfl g167 (r_move rfl) (S.qg rfl g167 (r_move rfl) ?_)))))
                refine S.qc rfl rfl rfl (wg rfl rfl rfl g167) (q_callF (xs := _) rfl ok19 rfl rfl (fun w hw => laws_vInts.ok h170 w ((rd_sl (i := 1) rfl) w hw) ((rd_sl (i := 0) rfl) w hw))) ?_
                refine S.qg rfl g167 (r_not rfl) (S.qn rfl (r_pickf rfl rfl g167) (S.qn rfl (r_move rfl) (S.qg rfl g173 (r_move rfl) (S.qg rfl g173 (r_loadA ta44 ti44 rfl rfl (fun w hw => (box_cells (i := 25) rfl w hw))) ?_))))
                refine S.qc rfl rfl rfl (wg rfl rfl rfl g173) (q_callF (xs := _) rfl ok43 rfl rfl (fun w hw => impl_IsVisit.ok h176 w ((rd_sl (i := 26) rfl) w hw) ((rd_sl (i := 27) rfl) w hw) ((rd_sl (i := 28) rfl) w hw))) ?_
                refine S.qg rfl g173 (r_neqB Tryz.underlying4 rfl rfl) (S.qn rfl (r_pickf rfl rfl g173) (S.qn rfl (r_move rfl) ?_))
                iterate 3 refine S.skf rfl g179 ?_
                refine S.qn rfl (r_pick rfl rfl g179) (S.nil (F.nil ?_))
                cases hE_1
                refine Nrm.only [8, 9, 10, 11, 16, 18, 22, 23, 26, 183] rfl ?_
                refine Nrm.pick [6, 20, 24, 25, 1, 26, 27, 28, 21, 22, 23, 7, 8, 9] rfl rfl ?_
                exact hj_1 _ _ ⟨rfl, rfl⟩
               ·replace hE_1 := if_ff g179 hE_1
                refine Tri.drawA mixedT Sep.up [(0, true), (1, true), (2, true), (3, true), (4, true), (5, true), (6, true), (7, true), (8, true), (9, true), (10, true), (11, true), (12, true), (13, true), (14, true), (15, true), (16, true), (17, true), (18, true), (19, true), (20, true), (21, true), (22, true), (23, true), (24, true), (25, true), (26, true), (27, true), (28, true), (29, true), (30, true), (31, true), (32, true), (33, true), (34, true), (35, true), (36, true), (37, true), (38, true), (39, true), (40, true), (41, true), (42, true), (43, true), (44, true), (45, true), (46, true), (47, true), (48, true), (49, true), (50, true), (51, true), (52, true), (53, true), (54, true), (55, true), (56, true), (57, true), (58, true), (59, true), (60, true), (61, true), (62, true), (63, true), (64, true), (65, true), (66, true), (67, true), (68, true), (69, true), (70, true), (71, true), (72, true), (73, true), (74, true)] [] (by kernel_rfl) ?_
                refine S.qn rfl (r_move rfl) (S.qn rfl (r_move rfl) (S.qn rfl (r_neqB Tryz.underlying4 rfl rfl) (S.qn rfl (r_move rfl) (S.qg rfl g112 (r_loadA ta44 ti44 rfl rfl (fun w hw => (box_cells (i := 34) rfl w hw))) (S.qg rfl g112 (r_loadA ta44 ti44 rfl rfl (fun w hw => (box_cells (i := 30) rfl w hw))) ?_)))))
                refine S.qc rfl rfl rfl (wg rfl rfl rfl g112) (q_callF (xs := _) rfl ok42 rfl rfl (fun w hw => laws_vVisit.ok h115 w ((rd_sl (i := 35) rfl) w hw) ((rd_sl (i := 36) rfl) w hw) ((rd_sl (i := 37) rfl) w hw) ((rd_sl (i := 31) rfl) w hw) ((rd_sl (i := 32) rfl) w hw) ((rd_sl (i := 33) rfl) w hw))) ?_
                refine S.qg rfl g112 (r_not rfl) (S.qn rfl (r_pickf rfl rfl g112) (S.qn rfl (r_move rfl) (S.qg rfl g118 (r_move rfl) ?_)))
                refine S.qg rfl g118 (r_move rfl) (S.qg rfl g118 (r_neqB Tryz.underlying4 rfl rfl) (S.qn rfl (r_pickf rfl rfl g118) (S.qn rfl (r_move rfl) (S.qg rfl g123 (r_loadA ta44 ti44 rfl rfl (fun w hw => (box_cells (i := 20) rfl w hw))) (S.qg rfl g123 (r_loadA ta44 ti44 rfl rfl (fun w hw => (box_cells (i := 16) rfl w hw))) ?_)))))
                refine S.qc rfl rfl rfl (wg rfl rfl rfl g123) (q_callF (xs := _) rfl ok42 rfl rfl (fun w hw => laws_vVisit.ok h126 w ((rd_sl (i := 21) rfl) w hw) ((rd_sl (i := 22) rfl) w hw) ((rd_sl (i := 23) rfl) w hw) ((rd_sl (i := 17) rfl) w hw) ((rd_sl (i := 18) rfl) w hw) ((rd_sl (i := 19) rfl) w hw))) ?_
                refine S.qg rfl g123 (r_not rfl) (S.qn rfl (r_pickf rfl rfl g123) (S.qn rfl (r_move rfl) ?_))
                refine S.qg rfl g129 (r_move rfl) (S.qg rfl g129 (r_move rfl) (S.qg rfl g129 (r_neqB Tryz.underlying4 rfl rfl) (S.qn rfl (r_pickf rfl rfl g129) (S.qn rfl (r_move rfl) (S.qg rfl g134 (r_move rfl) ?_)))))
                refine S.qg rfl g134 (r_move rfl) (S.qg rfl g134 (r_neq rfl rfl) (S.qn rfl (r_pickf rfl rfl g134) (S.qn rfl (r_move rfl) (S.qg rfl g139 (r_loadA ta44 ti44 rfl rfl (fun w hw => (box_cells (i := 6) rfl w hw))) (S.qg rfl g139 (r_loadA ta44 ti44 rfl rfl (fun w hw => (box_cells (i := 2) rfl w hw))) ?_)))))
                refine S.qc rfl rfl rfl (wg rfl rfl rfl g139) (q_callF (xs := _) rfl ok42 rfl rfl (fun w hw => laws_vVisit.ok h142 w ((rd_sl (i := 7) rfl) w hw) ((rd_sl (i := 8) rfl) w hw) ((rd_sl (i := 9) rfl) w hw) ((rd_sl (i := 3) rfl) w hw) ((rd_sl (i := 4) rfl) w hw) ((rd_sl (i := 5) rfl) w hw))) ?_
                refine S.qg rfl g139 (r_not rfl) (S.qn rfl (r_pickf rfl rfl g139) (S.qn rfl (r_move rfl) (S.qg rfl g145 (r_loadA ta44 ti44 rfl rfl (fun w hw => (box_cells (i := 25) rfl w hw))) ?_)))
                refine S.qc rfl rfl rfl (wg rfl rfl rfl g145) (q_callF (xs := _) rfl ok43 rfl rfl (fun w hw => impl_IsVisit.ok h147 w ((rd_sl (i := 26) rfl) w hw) ((rd_sl (i := 27) rfl) w hw) ((rd_sl (i := 28) rfl) w hw))) ?_
                refine S.qg rfl g145 (r_loadA ta44 ti44 rfl rfl (fun w hw => (box_cells (i := 25) rfl w hw))) ?_
                refine S.qc rfl rfl rfl (wg rfl rfl rfl g145) (q_callF (xs := _) rfl ok44 rfl rfl (fun w hw => spec_IsVisit.ok h149 w ((rd_sl (i := 26) rfl) w hw) ((rd_sl (i := 27) rfl) w hw) ((rd_sl (i := 28) rfl) w hw))) ?_
                refine S.qg rfl g145 (r_neqB Tryz.underlying4 rfl rfl) (S.qn rfl (r_pickf rfl rfl g145) ?_)
                refine S.qn rfl (r_move rfl) (S.qg rfl g152 (r_move rfl) (S.qg rfl g152 (r_move rfl) (S.qg rfl g152 (r_neq rfl rfl) (S.qn rfl (r_pickf rfl rfl g152) (S.qn rfl (r_move rfl) ?_)))))
                refine S.qg rfl g157 (r_move rfl) (S.qg rfl g157 (r_move rfl) (S.qg rfl g157 (r_neqB Tryz.underlying4 rfl rfl) (S.qn rfl (r_pickf rfl rfl g157) (S.qn rfl (r_move rfl) (S.qg rfl g162 (r_move rfl) ?_)))))
                refine S.qg rfl g162 (r_move rfl) (S.qg rfl g162 (r_neqB Tryz.underlying4 rfl rfl) (S.qn rfl (r_pickf rfl rfl g162) (S.qn rfl (r_move rfl) (S.qg rfl g167 (r_move rfl) (S.qg rfl g167 (r_move rfl) ?_)))))
                refine S.qc rfl rfl rfl (wg rfl rfl rfl g167) (q_callF (xs := _) rfl ok19 rfl rfl (fun w hw => laws_vInts.ok h170 w ((rd_sl (i := 1) rfl) w hw) ((rd_sl (i := 0) rfl) w hw))) ?_
                refine S.qg rfl g167 (r_not rfl) (S.qn rfl (r_pickf rfl rfl g167) (S.qn rfl (r_move rfl) (S.qg rfl g173 (r_move rfl) (S.qg rfl g173 (r_loadA ta44 ti44 rfl rfl (fun w hw => (box_cells (i := 25) rfl w hw))) ?_))))
                refine S.qc rfl rfl rfl (wg rfl rfl rfl g173) (q_callF (xs := _) rfl ok43 rfl rfl (fun w hw => impl_IsVisit.ok h176 w ((rd_sl (i := 26) rfl) w hw) ((rd_sl (i := 27) rfl) w hw) ((rd_sl (i := 28) rfl) w hw))) ?_
                refine S.qg rfl g173 (r_neqB Tryz.underlying4 rfl rfl) ?_
                refine S.qn rfl (r_pickf rfl rfl g173) (S.qn rfl (r_move rfl) (S.qg rfl g179 (r_move rfl) (S.qg rfl g179 (r_move rfl) (S.qg rfl g179 (r_neqB Tryz.underlying4 rfl rfl) (S.qn rfl (r_pickf rfl rfl g179) (S.nil (F.nil ?_)))))))
                cases hE_1
                refine Nrm.only [8, 9, 10, 11, 16, 18, 22, 23, 26, 183] rfl ?_
                refine Nrm.pick [6, 20, 24, 25, 1, 26, 27, 28, 21, 22, 23, 7, 8, 9] rfl rfl ?_
                exact hj_1 _ _ ⟨rfl, rfl⟩

end Go.Proofs

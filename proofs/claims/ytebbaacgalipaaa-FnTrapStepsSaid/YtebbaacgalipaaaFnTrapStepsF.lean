/- A part of the proof of FnTrapSteps: what the functions of the program compute, walked on the model. No condition. -/
import Derived.Test.YtebbaacgalipaaaFnTrapStepsC
import Derived.Test.YtebbaacgalipaaaFnTrapStepsD
import Derived.Test.YtebbaacgalipaaaFnTrapStepsE
set_option linter.unusedSimpArgs false
/- loop.example/g01158/impl.trapFrom -/
namespace Go.Proofs
open Go Go.Ga
set_option linter.unusedVariables false
set_option maxRecDepth 100000
set_option maxHeartbeats 4000000
def impl_trapFrom.l1 (k : Nat) (x17 : Int) : Nat → Int → (Arr 768) → Option ((Arr 768))
 | 0, _, _ => none
 | n + 1, x20, xb7_1_0r => (if (decide (x20 < 64)) = true then if 0 ≤ x17 ∧ x17 < 12 then if 0 ≤ x20 ∧ x20 < 64 then impl_trapFrom.l1 k x17 n (w64 (x20 + 1)) (Arr.put xb7_1_0r (x17 * 64 + x20) (-1)) else none else none else some xb7_1_0r)

def impl_trapFrom.l3 (k : Nat) (a0_2 : List Int) (t43 : Int × Int) (t47 : Int × Int) (t54 : List Int) : Nat → (List (Int × Int)) → Int → (Arr 768) → Option ((Arr 768) × (List (Int × Int)))
 | 0, _, _, _ => none
 | n + 1, x10r, x56, xb7_1_0rrr => (if (decide (x56 < (t54.length : Int))) = true then (rdl t54 x56).bind fun t58 => (rdl a0_2 t58).bind fun t65 => if 0 ≤ t58 ∧ t58 < 12 then if 0 ≤ bor t47.2 t65 ∧ bor t47.2 t65 < 64 then ((if (decide ((Arr.at xb7_1_0rrr (t58 * 64 + (bor t47.2 t65))) < 0)) = true then if 0 ≤ t43.1 ∧ t43.1 < 12 then if 0 ≤ t47.2 ∧ t47.2 < 64 then if 0 ≤ t58 ∧ t58 < 12 then if 0 ≤ bor t47.2 t65 ∧ bor t47.2 t65 < 64 then if (x10r ++ ([(t58, bor t47.2 t65)] : List (Int × Int))).length < 1099511627776 then some (x10r ++ ([(t58, bor t47.2 t65)] : List (Int × Int)), (Arr.put xb7_1_0rrr (t58 * 64 + (bor t47.2 t65)) (w64 ((Arr.at xb7_1_0rrr (t43.1 * 64 + t47.2)) + 1)))) else none else none else none else none else none else some (x10r, xb7_1_0rrr))).bind fun (y10, yb7_1_0) => impl_trapFrom.l3 k a0_2 t43 t47 t54 n y10 (w64 (x56 + 1)) yb7_1_0 else none else none else some (xb7_1_0rrr, x10r))

def impl_trapFrom.l2 (k : Nat) (a0_0 : Int) (a0_1 : List (Int × Int × Int)) (a0_2 : List Int) (a0_3 : List Int) : Nat → (List (Int × Int)) → (Arr 768) → Option ((Arr 768))
 | 0, _, _ => none
 | n + 1, x10, xb7_1_0rr => (if (decide ((x10.length : Int) > 0)) = true then (rdl x10 0).bind fun t43 => (rdl x10 0).bind fun t47 => (impl_trapSteps.f k a0_0 a0_1 a0_2 a0_3 t43.1 t47.2).bind fun t53 => (impl_members.f k t53).bind fun t54 => (impl_trapFrom.l3 k a0_2 t43 t47 t54 k x10 0 xb7_1_0rr).bind fun (xb7_1_0rrr, x10r) => (slc x10r 1 (x10r.length : Int)).bind fun t41 => impl_trapFrom.l2 k a0_0 a0_1 a0_2 a0_3 n t41 xb7_1_0rrr else some xb7_1_0rr)

def impl_trapFrom.l0 (k : Nat) : Nat → Int → (Arr 768) → Option ((Arr 768))
 | 0, _, _ => none
 | n + 1, x17, xb7_1_0 => (if (decide (x17 < 12)) = true then (impl_trapFrom.l1 k x17 k 0 xb7_1_0).bind fun xb7_1_0r => impl_trapFrom.l0 k n (w64 (x17 + 1)) xb7_1_0r else some xb7_1_0)

def impl_trapFrom.f (k : Nat) (a0_0 : Int) (a0_1 : List (Int × Int × Int)) (a0_2 : List Int) (a0_3 : List Int) (a1 : Int) (a2 : Int) : Option ((Arr 768)) := (impl_trapFrom.l0 k k 0 (Arr.rep 768 0)).bind fun xb7_1_0 => if 0 ≤ a1 ∧ a1 < 12 then if 0 ≤ a2 ∧ a2 < 64 then (impl_trapFrom.l2 k a0_0 a0_1 a0_2 a0_3 k ([(a1, a2)] : List (Int × Int)) (Arr.put xb7_1_0 (a1 * 64 + a2) 0)).bind fun xb7_1_0rr => some xb7_1_0rr else none else none

theorem impl_trapFrom.ok {k : Nat}  {a0_0 : Int} {a0_1 : List (Int × Int × Int)} {a0_2 : List Int} {a0_3 : List Int} {a1 : Int} {a2 : Int} {r0 : Arr 768} (h : impl_trapFrom.f k a0_0 a0_1 a0_2 a0_3 a1 a2 = some r0) (w : World) {va0_1 : Value} {va0_2 : Value} {va0_3 : Value} (hr_a0_1 : Rd w va0_1 a0_1) (hr_a0_2 : Rd w va0_2 a0_2) (hr_a0_3 : Rd w va0_3 a0_3) :
  Calls Try.prog 193 ([.agg ([.int .i64 a0_0, va0_1, va0_2, va0_3].toArray), .int .i64 a1, .int .i64 a2] : List Value).toArray w (fun e w' => e = .returned (.agg (encA r0).toArray) ∧ Ext w w') := by
 unfold impl_trapFrom.f at h
 have hl_va0_1 := hr_a0_1.len
 have hl_va0_2 := hr_a0_2.len
 have hl_va0_3 := hr_a0_3.len
 refine Calls.of_tri (N := 92) Try.func193 rfl rfl rfl (Sep.nil (M := noM)) ?_
 refine Tri.seq (Tri.reg (l := [0, 1]) rfl ?_)
 refine F.mn rfl rfl rfl rfl (m_boxG rfl rfl) ?_
 rintro _ _ ⟨b3_1, rfl, rfl⟩
 refine F.mn rfl rfl rfl rfl (m_alloc ti125) ?_
 rintro _ _ ⟨b6_1, rfl, rfl⟩
 refine F.nil (Nrm.seq (Tri.seq (Tri.reg (l := [0, 1, 2]) rfl ?_)))
 refine F.qn rfl rfl rfl rfl (r_buildA (qs := []) (cs := encA (Arr.rep 768 0)) Try.underlying125 ti123 ti125 rfl .nil (encA_len _) rfl) ?_
 refine F.mn rfl rfl rfl rfl (m_alloc ti125) ?_
 rintro _ _ ⟨b7_1, rfl, rfl⟩
 refine F.ef0 rfl rfl (wanted_none rfl) (d_storeArr (i := 0) (g := (Arr.rep 768 0)) (h := (Arr.rep 768 0)) ti125 rfl rfl rfl) ?_
 rintro _ _ ⟨rfl, rfl⟩
 refine F.nil (Nrm.seq (Tri.seq (Tri.seq (Tri.reg (l := [0]) rfl ?_))))
 refine F.qn rfl rfl rfl rfl (r_move rfl) ?_
 refine F.nil (Nrm.seq ?_)
 obtain ⟨xb7_1_0, hE_1, h⟩ := bind_some h
 refine Tri.block ?_
 refine Tri.only [1, 2, 3, 6, 7, 17] rfl ?_
 refine Tri.pick [0, 1, 2] rfl rfl ?_
 refine Tri.rounds (fun n e' C' => ∃ (x17' : Int) (xb7_1_0' : Arr 768), impl_trapFrom.l0 k n x17' xb7_1_0' = some xb7_1_0 ∧ e' = [(1, .int .i64 a1), (2, .int .i64 a2), (3, .pointer (some ⟨b3_1, 0, none⟩)), (6, .pointer (some ⟨b6_1, 0, none⟩)), (7, .pointer (some ⟨b7_1, 0, none⟩)), (17, .int .i64 x17')] ∧ C' = Sep w noM [R.box b7_1 125 (encA xb7_1_0'), R.box b6_1 125 (encA (Arr.rep 768 0)), R.box b3_1 66 [.int .i64 a0_0, va0_1, va0_2, va0_3]]) k ?_ ?_ ?_
 ·exact ⟨0, (Arr.rep 768 0), hE_1, rfl, rfl⟩
 ·rintro _ _ ⟨_, _, hE_1, _⟩
  rw [impl_trapFrom.l0.eq_1] at hE_1; cases hE_1
 ·rintro n_1 _ _ ⟨x17, xb7_1_0, hE_1, rfl, rfl⟩ ih_1
  rw [impl_trapFrom.l0.eq_2] at hE_1
  refine Tri.seq (Tri.reg (l := [0]) rfl ?_)
  refine F.qn rfl rfl rfl rfl (r_lss rfl rfl) ?_
  refine F.nil (Nrm.seq (Tri.seq (Tri.cond (b := decide (x17 < 12)) rfl (fun g_1 => ?_) (fun g_1 => ?_))))
  ·replace hE_1 := if_tt g_1 hE_1
   refine Tri.skip (Nrm.seq (Tri.seq (Tri.block ?_)))
   refine Tri.seq (Tri.reg (l := [0, 1]) rfl ?_)
   refine F.qn rfl rfl rfl rfl (r_move rfl) ?_
   refine F.qn rfl rfl rfl rfl (r_assign rfl) ?_
   refine F.nil (Nrm.seq (Tri.seq (Tri.reg (l := [0]) rfl ?_)))
   refine F.qn rfl rfl rfl rfl (r_move rfl) ?_
   refine F.nil (Nrm.seq ?_)
   obtain ⟨xb7_1_0r, hE_2, hE_1⟩ := bind_some hE_1
   refine Tri.block ?_
   refine Tri.only [1, 2, 3, 6, 7, 8, 17, 20] rfl ?_
   refine Tri.pick [0, 1, 2] rfl rfl ?_
   refine Tri.rounds (fun n e' C' => ∃ (x20' : Int) (xb7_1_0r' : Arr 768), impl_trapFrom.l1 k x17 n x20' xb7_1_0r' = some xb7_1_0r ∧ e' = [(1, .int .i64 a1), (2, .int .i64 a2), (3, .pointer (some ⟨b3_1, 0, none⟩)), (6, .pointer (some ⟨b6_1, 0, none⟩)), (7, .pointer (some ⟨b7_1, 0, none⟩)), (8, .int .i64 x17), (17, .int .i64 x17), (20, .int .i64 x20')] ∧ C' = Sep w noM [R.box b7_1 125 (encA xb7_1_0r'), R.box b6_1 125 (encA (Arr.rep 768 0)), R.box b3_1 66 [.int .i64 a0_0, va0_1, va0_2, va0_3]]) k ?_ ?_ ?_
   ·exact ⟨0, xb7_1_0, hE_2, rfl, rfl⟩
   ·rintro _ _ ⟨_, _, hE_2, _⟩
    rw [impl_trapFrom.l1.eq_1] at hE_2; cases hE_2
   ·rintro n_2 _ _ ⟨x20, xb7_1_0r, hE_2, rfl, rfl⟩ ih_2
    rw [impl_trapFrom.l1.eq_2] at hE_2
    refine Tri.seq (Tri.reg (l := [0]) rfl ?_)
    refine F.qn rfl rfl rfl rfl (r_lss rfl rfl) ?_
    refine F.nil (Nrm.seq (Tri.seq (Tri.cond (b := decide (x20 < 64)) rfl (fun g_2 => ?_) (fun g_2 => ?_))))
    ·replace hE_2 := if_tt g_2 hE_2
     refine Tri.skip (Nrm.seq (Tri.seq (Tri.block ?_)))
     refine Tri.seq (Tri.reg (l := [0, 1]) rfl ?_)
     refine F.qn rfl rfl rfl rfl (r_move rfl) ?_
     refine F.qn rfl rfl rfl rfl (r_assign rfl) ?_
     refine F.nil (Nrm.seq ?_)
     obtain ⟨hb25, hE_2⟩ := ck hE_2
     obtain ⟨hb26, hE_2⟩ := ck hE_2
     refine Tri.reg (l := [0, 1, 2, 3, 4]) rfl ?_
     refine F.qn rfl rfl rfl rfl (r_move rfl) ?_
     refine F.qn rfl rfl rfl rfl (r_move rfl) ?_
     refine F.qn rfl rfl rfl rfl (r_indexAddrA Try.underlying125 ti123 rfl rfl hb25.1 hb25.2) ?_
     refine F.qn rfl rfl rfl rfl (r_indexAddrA Try.underlying123 ti3 rfl rfl hb26.1 hb26.2) ?_
     refine F.ef0 rfl rfl (wanted_none rfl) (d_storeTab (i := 0) (m := 64) (g := xb7_1_0r) (r := x17) (j := x20) (u := (-1)) ti3 rfl rfl rfl (tabB 12 64 768 hb25 rfl) hb26) ?_
     rintro _ _ ⟨rfl, rfl⟩
     refine F.nil (Nrm.block ?_)
     refine Nrm.seq (Tri.reg (l := [0, 1]) rfl ?_)
     refine F.qn rfl rfl rfl rfl (r_add rfl rfl) ?_
     refine F.qn rfl rfl rfl rfl (r_move rfl) ?_
     refine F.nil (Nrm.round ?_)
     refine Rnd.only [1, 2, 3, 6, 7, 8, 17, 20] rfl ?_
     refine Rnd.pick [0, 1, 2] rfl rfl ?_
     exact ih_2 _ _ ⟨w64 (x20 + 1), (Arr.put xb7_1_0r (x17 * 64 + x20) (-1)), hE_2, rfl, rfl⟩
    ·replace hE_2 := if_ff g_2 hE_2
     refine Tri.exit ?_
     refine Exi.then ?_
     refine Exi.then ?_
     refine Exi.same ?_
     cases hE_2
     refine Nrm.block ?_
     refine Nrm.seq (Tri.reg (l := [0, 1]) rfl ?_)
     refine F.qn rfl rfl rfl rfl (r_add rfl rfl) ?_
     refine F.qn rfl rfl rfl rfl (r_move rfl) ?_
     refine F.nil (Nrm.round ?_)
     refine Rnd.only [1, 2, 3, 6, 7, 17] rfl ?_
     refine Rnd.pick [0, 1, 2] rfl rfl ?_
     exact ih_1 _ _ ⟨w64 (x17 + 1), xb7_1_0r, hE_1, rfl, rfl⟩
  ·replace hE_1 := if_ff g_1 hE_1
   refine Tri.exit ?_
   refine Exi.then ?_
   refine Exi.then ?_
   refine Exi.same ?_
   cases hE_1
   refine Nrm.seq (Tri.seq ?_)
   obtain ⟨hb31, h⟩ := ck h
   obtain ⟨hb32, h⟩ := ck h
   refine Tri.reg (l := [0, 1, 2, 3, 4]) rfl ?_
   refine F.qn rfl rfl rfl rfl (r_move rfl) ?_
   refine F.qn rfl rfl rfl rfl (r_move rfl) ?_
   refine F.qn rfl rfl rfl rfl (r_indexAddrA Try.underlying125 ti123 rfl rfl hb31.1 hb31.2) ?_
   refine F.qn rfl rfl rfl rfl (r_indexAddrA Try.underlying123 ti3 rfl rfl hb32.1 hb32.2) ?_
   refine F.ef0 rfl rfl (wanted_none rfl) (d_storeTab (i := 0) (m := 64) (g := xb7_1_0) (r := a1) (j := a2) (u := 0) ti3 rfl rfl rfl (tabB 12 64 768 hb31 rfl) hb32) ?_
   rintro _ _ ⟨rfl, rfl⟩
   refine F.nil (Nrm.seq (Tri.seq (Tri.seq (Tri.reg (l := [0, 1, 2, 3, 4]) rfl ?_))))
   refine F.qn rfl rfl rfl rfl (r_move rfl) ?_
   refine F.qn rfl rfl rfl rfl (r_move rfl) ?_
   refine F.qn rfl rfl rfl rfl (r_buildA (qs := [(0, [.int .i64 a1]), (1, [.int .i64 a2])]) (cs := [.int .i64 a1, .int .i64 a2]) Try.underlying64 ti3 ti64 rfl (.cons rfl rfl (Nat.le_of_ble_eq_true rfl) (.cons rfl rfl (Nat.le_of_ble_eq_true rfl) .nil)) rfl rfl) ?_
   refine F.mn rfl rfl rfl rfl (m_buildF (l := ([(a1, a2)] : List (Int × Int))) Try.underlying56 ti64 rfl rfl rfl rfl rfl) ?_
   rintro v36_1 _ ⟨S36_1, hl_v36_1, rfl⟩
   refine F.qn rfl rfl rfl rfl (r_assign rfl) ?_
   refine F.nil (Nrm.seq ?_)
   obtain ⟨xb7_1_0rr, hE_3, h⟩ := bind_some h
   refine Tri.block ?_
   refine Tri.only [3, 6, 7, 10] rfl ?_
   refine Tri.pick [1, 2, 3, 0] rfl rfl ?_
   refine Tri.rounds (fun n e' C' => ∃ (x10' : List (Int × Int)) (xb7_1_0rr' : Arr 768) (w10 : Value) (T10 : Nat → Prop), impl_trapFrom.l2 k a0_0 a0_1 a0_2 a0_3 n x10' xb7_1_0rr' = some xb7_1_0rr ∧ SlLen w10 (x10').length ∧ e' = [(3, .pointer (some ⟨b3_1, 0, none⟩)), (6, .pointer (some ⟨b6_1, 0, none⟩)), (7, .pointer (some ⟨b7_1, 0, none⟩)), (10, w10)] ∧ C' = Sep w noM [R.box b7_1 125 (encA xb7_1_0rr'), R.box b6_1 125 (encA (Arr.rep 768 0)), R.box b3_1 66 [.int .i64 a0_0, va0_1, va0_2, va0_3], R.sl T10 w10 (x10' : List (Int × Int))]) k ?_ ?_ ?_
   ·exact ⟨([(a1, a2)] : List (Int × Int)), (Arr.put xb7_1_0 (a1 * 64 + a2) 0), v36_1, S36_1, hE_3, hl_v36_1, rfl, rfl⟩
   ·rintro _ _ ⟨_, _, _, _, hE_3, _⟩
    rw [impl_trapFrom.l2.eq_1] at hE_3; cases hE_3
   ·rintro n_3 _ _ ⟨x10, xb7_1_0rr, w10, T10, hE_3, hl_w10, rfl, rfl⟩ ih_3
    rw [impl_trapFrom.l2.eq_2] at hE_3
    refine Tri.seq (Tri.seq (Tri.reg (l := [0, 1, 2]) rfl ?_))
    refine F.qn rfl rfl rfl rfl (r_move rfl) ?_
    refine F.qn rfl rfl rfl rfl (r_len Try.underlying56 rfl hl_w10) ?_
    refine F.qn rfl rfl rfl rfl (r_gtr rfl rfl) ?_
    refine F.nil (Nrm.seq (Tri.cond (b := decide ((x10.length : Int) > 0)) rfl (fun g_3 => ?_) (fun g_3 => ?_)))
    ·replace hE_3 := if_tt g_3 hE_3
     refine Tri.skip (Nrm.seq (Tri.seq (Tri.block ?_)))
     refine Tri.seq ?_
     obtain ⟨t43, h43, hE_3⟩ := bind_some hE_3
     obtain ⟨t47, h47, hE_3⟩ := bind_some hE_3
     refine Tri.drawA mixedT Sep.up [(0, true), (1, true), (2, true), (3, true), (4, true), (5, true), (6, true), (7, true), (8, true), (9, true)] [] (by kernel_rfl) ?_
     refine S.qn rfl rfl rfl rfl (r_move rfl) ?_
     refine S.qn rfl rfl rfl rfl (r_indexAddrS Try.underlying56 ti64 rfl hl_w10 rfl (rdl_some h43).1 (rdl_some h43).2.1) ?_
     refine S.qn rfl rfl rfl rfl (r_indexAddrA Try.underlying64 ti3 rfl rfl (by decide) (by decide)) ?_
     refine S.qn rfl rfl rfl rfl (r_load ta3 rfl (fun w hw => cell_1 (Rd.flat ((rd_sl (i := 3) rfl) w hw) (rdl_some h43).2.2) rfl)) ?_
     refine S.qn rfl rfl rfl rfl (r_move rfl) ?_
     refine S.qn rfl rfl rfl rfl (r_indexAddrS Try.underlying56 ti64 rfl hl_w10 rfl (rdl_some h47).1 (rdl_some h47).2.1) ?_
     refine S.qn rfl rfl rfl rfl (r_indexAddrA Try.underlying64 ti3 rfl rfl (by decide) (by decide)) ?_
     refine S.qn rfl rfl rfl rfl (r_load ta3 rfl (fun w hw => cell_1 (Rd.flat ((rd_sl (i := 3) rfl) w hw) (rdl_some h47).2.2) rfl)) ?_
     refine S.qn rfl rfl rfl rfl (r_assign rfl) ?_
     refine S.qn rfl rfl rfl rfl (r_assign rfl) ?_
     refine S.nil (F.nil (Nrm.seq (Tri.seq ?_)))
     obtain ⟨t53, h53, hE_3⟩ := bind_some hE_3
     obtain ⟨t54, h54, hE_3⟩ := bind_some hE_3
     refine Tri.reg (l := [0, 1, 2, 3, 4, 5, 6]) rfl ?_
     refine F.qn rfl rfl rfl rfl (r_loadA ta66 ti66 rfl rfl (fun w hw => (box_cells (i := 2) rfl w hw))) ?_
     refine F.qn rfl rfl rfl rfl (r_move rfl) ?_
     refine F.qn rfl rfl rfl rfl (r_move rfl) ?_
     refine F.qcn rfl rfl rfl rfl (q_callF (xs := _) rfl ok124 rfl rfl (fun w hw => impl_trapSteps.ok h53 w ((fun _ hw => hr_a0_1.sep hw) w hw) ((fun _ hw => hr_a0_2.sep hw) w hw) ((fun _ hw => hr_a0_3.sep hw) w hw))) ?_
     refine F.mn rfl rfl rfl rfl (m_callF (xs := _) rfl ok98 rfl rfl (fun w hw => impl_members.ok h54 w )) ?_
     rintro v54_1 _ ⟨_, ⟨S54_1, hl_v54_1, rfl⟩, rfl⟩
     refine F.qn rfl rfl rfl rfl (r_len Try.underlying25 rfl hl_v54_1) ?_
     refine F.qn rfl rfl rfl rfl (r_move rfl) ?_
     refine F.nil (Nrm.seq ?_)
     obtain ⟨⟨xb7_1_0rrr, x10r⟩, hE_4, hE_3⟩ := bind_some hE_3
     refine Tri.block ?_
     refine Tri.only [3, 6, 7, 10, 11, 12, 54, 55, 56] rfl ?_
     refine Tri.pick [1, 2, 3, 0, 4] rfl rfl ?_
     refine Tri.rounds (fun n e' C' => ∃ (x10r' : List (Int × Int)) (x56' : Int) (xb7_1_0rrr' : Arr 768) (w10r : Value) (T10r : Nat → Prop), impl_trapFrom.l3 k a0_2 t43 t47 t54 n x10r' x56' xb7_1_0rrr' = some (xb7_1_0rrr, x10r) ∧ SlLen w10r (x10r').length ∧ e' = [(3, .pointer (some ⟨b3_1, 0, none⟩)), (6, .pointer (some ⟨b6_1, 0, none⟩)), (7, .pointer (some ⟨b7_1, 0, none⟩)), (10, w10r), (11, .int .i64 t43.1), (12, .int .i64 t47.2), (54, v54_1), (55, .int .i64 (t54.length : Int)), (56, .int .i64 x56')] ∧ C' = Sep w noM [R.box b7_1 125 (encA xb7_1_0rrr'), R.box b6_1 125 (encA (Arr.rep 768 0)), R.box b3_1 66 [.int .i64 a0_0, va0_1, va0_2, va0_3], R.sl S54_1 v54_1 (t54 : List (Int)), R.sl T10r w10r (x10r' : List (Int × Int))]) k ?_ ?_ ?_
     ·exact ⟨x10, 0, xb7_1_0rr, w10, T10, hE_4, hl_w10, rfl, rfl⟩
     ·rintro _ _ ⟨_, _, _, _, _, hE_4, _⟩
      rw [impl_trapFrom.l3.eq_1] at hE_4; cases hE_4
     ·rintro n_4 _ _ ⟨x10r, x56, xb7_1_0rrr, w10r, T10r, hE_4, hl_w10r, rfl, rfl⟩ ih_4
      rw [impl_trapFrom.l3.eq_2] at hE_4
      refine Tri.seq (Tri.reg (l := [0]) rfl ?_)
      refine F.qn rfl rfl rfl rfl (r_lss rfl rfl) ?_
      refine F.nil (Nrm.seq (Tri.seq (Tri.cond (b := decide (x56 < (t54.length : Int))) rfl (fun g_4 => ?_) (fun g_4 => ?_))))
      ·replace hE_4 := if_tt g_4 hE_4
       refine Tri.skip (Nrm.seq (Tri.seq (Tri.block ?_)))
       refine Tri.seq ?_
       obtain ⟨t58, h58, hE_4⟩ := bind_some hE_4
       refine Tri.reg (l := [0, 1, 2]) rfl ?_
       refine F.qn rfl rfl rfl rfl (r_indexAddrS Try.underlying25 ti3 rfl hl_v54_1 rfl (rdl_some h58).1 (rdl_some h58).2.1) ?_
       refine F.qn rfl rfl rfl rfl (r_load ta3 rfl (fun w hw => cell_0 (Rd.flat ((rd_sl (i := 3) rfl) w hw) (rdl_some h58).2.2) rfl)) ?_
       refine F.qn rfl rfl rfl rfl (r_assign rfl) ?_
       refine F.nil (Nrm.seq (Tri.seq ?_))
       obtain ⟨t65, h65, hE_4⟩ := bind_some hE_4
       refine Tri.reg (l := [0, 1, 2, 3, 4, 5, 6, 7, 8]) rfl ?_
       refine F.qn rfl rfl rfl rfl (r_move rfl) ?_
       refine F.qn rfl rfl rfl rfl (r_fieldAddr tf66_0 rfl) ?_
       refine F.qn rfl rfl rfl rfl (r_fieldAddr tf27_2 rfl) ?_
       refine F.qn rfl rfl rfl rfl (r_load ta25 rfl (fun w hw => cell_2 (box_cells (i := 2) rfl w hw) rfl)) ?_
       refine F.qn rfl rfl rfl rfl (r_move rfl) ?_
       refine F.qn rfl rfl rfl rfl (r_indexAddrS Try.underlying25 ti3 rfl hl_va0_2 rfl (rdl_some h65).1 (rdl_some h65).2.1) ?_
       refine F.qn rfl rfl rfl rfl (r_load ta3 rfl (fun w hw => cell_0 (Rd.flat ((fun _ hw => hr_a0_2.sep hw) w hw) (rdl_some h65).2.2) rfl)) ?_
       refine F.qn rfl rfl rfl rfl (r_or rfl rfl) ?_
       refine F.qn rfl rfl rfl rfl (r_assign rfl) ?_
       refine F.nil (Nrm.seq (Tri.seq ?_))
       obtain ⟨hb70, hE_4⟩ := ck hE_4
       obtain ⟨hb71, hE_4⟩ := ck hE_4
       refine Tri.reg (l := [0, 1, 2, 3, 4, 5]) rfl ?_
       refine F.qn rfl rfl rfl rfl (r_move rfl) ?_
       refine F.qn rfl rfl rfl rfl (r_move rfl) ?_
       refine F.qn rfl rfl rfl rfl (r_indexAddrA Try.underlying125 ti123 rfl rfl hb70.1 hb70.2) ?_
       refine F.qn rfl rfl rfl rfl (r_indexAddrA Try.underlying123 ti3 rfl rfl hb71.1 hb71.2) ?_
       refine F.qn rfl rfl rfl rfl (r_load ta3 rfl (fun w hw => cell_tab (g := xb7_1_0rrr) (m := 64) (box_cells (i := 0) rfl w hw) (tabB 12 64 768 hb70 rfl) hb71)) ?_
       refine F.qn rfl rfl rfl rfl (r_lss rfl rfl) ?_
       refine F.nil (Nrm.seq ?_)
       obtain ⟨⟨y10, yb7_1_0⟩, hE_5, hE_4⟩ := bind_some hE_4
       refine Tri.cut (fun e' C' => ∃ (v10_1 : Value) (S10_1 : Nat → Prop), SlLen v10_1 (y10).length ∧ e' = [(3, .pointer (some ⟨b3_1, 0, none⟩)), (6, .pointer (some ⟨b6_1, 0, none⟩)), (7, .pointer (some ⟨b7_1, 0, none⟩)), (10, v10_1), (11, .int .i64 t43.1), (12, .int .i64 t47.2), (54, v54_1), (55, .int .i64 (t54.length : Int)), (56, .int .i64 x56)] ∧ C' = Sep w noM [R.box b7_1 125 (encA yb7_1_0), R.box b6_1 125 (encA (Arr.rep 768 0)), R.box b3_1 66 [.int .i64 a0_0, va0_1, va0_2, va0_3], R.sl S10_1 v10_1 (y10 : List (Int × Int)), R.sl S54_1 v54_1 (t54 : List (Int))]) ?_ (fun hj_1 => ?_)
       ·rintro _ _ ⟨v10_1, S10_1, hl_v10_1, rfl, rfl⟩
        refine Nrm.block ?_
        refine Nrm.seq (Tri.reg (l := [0, 1]) rfl ?_)
        refine F.qn rfl rfl rfl rfl (r_add rfl rfl) ?_
        refine F.qn rfl rfl rfl rfl (r_move rfl) ?_
        refine F.nil (Nrm.round ?_)
        refine Rnd.only [3, 6, 7, 10, 11, 12, 54, 55, 56] rfl ?_
        refine Rnd.pick [0, 1, 2, 4, 3] rfl rfl ?_
        exact ih_4 _ _ ⟨y10, w64 (x56 + 1), yb7_1_0, v10_1, S10_1, hE_4, hl_v10_1, rfl, rfl⟩
       ·refine Tri.cond (b := decide ((Arr.at xb7_1_0rrr (t58 * 64 + (bor t47.2 t65))) < 0)) rfl (fun g_5 => ?_) (fun g_5 => ?_)
        ·replace hE_5 := if_tt g_5 hE_5
         refine Tri.seq ?_
         obtain ⟨hb78, hE_5⟩ := ck hE_5
         obtain ⟨hb79, hE_5⟩ := ck hE_5
         obtain ⟨hb82, hE_5⟩ := ck hE_5
         obtain ⟨hb83, hE_5⟩ := ck hE_5
         refine Tri.drawA mixedT Sep.up [(0, true), (1, true), (2, true), (3, true), (4, true), (5, true), (6, true), (7, true), (8, true), (9, true)] [10] (by kernel_rfl) ?_
         iterate 4 refine S.qn rfl rfl rfl rfl (r_move rfl) ?_
         refine S.qn rfl rfl rfl rfl (r_indexAddrA Try.underlying125 ti123 rfl rfl hb78.1 hb78.2) ?_
         refine S.qn rfl rfl rfl rfl (r_indexAddrA Try.underlying123 ti3 rfl rfl hb79.1 hb79.2) ?_
         refine S.qn rfl rfl rfl rfl (r_load ta3 rfl (fun w hw => cell_tab (g := xb7_1_0rrr) (m := 64) (box_cells (i := 0) rfl w hw) (tabB 12 64 768 hb78 rfl) hb79)) ?_
         refine S.qn rfl rfl rfl rfl (r_add rfl rfl) ?_
         refine S.qn rfl rfl rfl rfl (r_indexAddrA Try.underlying125 ti123 rfl rfl hb82.1 hb82.2) ?_
         refine S.qn rfl rfl rfl rfl (r_indexAddrA Try.underlying123 ti3 rfl rfl hb83.1 hb83.2) ?_
         refine S.nil (F.ef0 rfl rfl (wanted_none rfl) (d_storeTab (i := 0) (m := 64) (g := xb7_1_0rrr) (r := t58) (j := bor t47.2 t65) (u := w64 ((Arr.at xb7_1_0rrr (t43.1 * 64 + t47.2)) + 1)) ti3 rfl rfl rfl (tabB 12 64 768 hb82 rfl) hb83) ?_)
         rintro _ _ ⟨rfl, rfl⟩
         refine F.nil (Nrm.seq ?_)
         obtain ⟨hs89, hE_5⟩ := ck hE_5
         refine Tri.reg (l := [0, 1, 2, 3, 4, 5, 6]) rfl ?_
         iterate 3 refine F.qn rfl rfl rfl rfl (r_move rfl) ?_
         refine F.qn rfl rfl rfl rfl (r_buildA (qs := [(0, [.int .i64 t58]), (1, [.int .i64 (bor t47.2 t65)])]) (cs := [.int .i64 t58, .int .i64 (bor t47.2 t65)]) Try.underlying64 ti3 ti64 rfl (.cons rfl rfl (Nat.le_of_ble_eq_true rfl) (.cons rfl rfl (Nat.le_of_ble_eq_true rfl) .nil)) rfl rfl) ?_
         refine F.mn rfl rfl rfl rfl (m_buildF (l := ([(t58, bor t47.2 t65)] : List (Int × Int))) Try.underlying56 ti64 rfl rfl rfl rfl rfl) ?_
         rintro v88_1 _ ⟨S88_1, hl_v88_1, rfl⟩
         refine F.efn rfl rfl rfl rfl (d_append (i := 5) Try.underlying56 Try.underlying56 ti64 rfl (by decide) rfl rfl rfl (rd_sl (i := 0) rfl) hs89) ?_
         rintro v89_1 _ ⟨S89_1, rfl, hl_v89_1⟩
         refine F.qn rfl rfl rfl rfl (r_assign rfl) ?_
         refine F.nil ?_
         cases hE_5
         refine Nrm.only [3, 6, 7, 10, 11, 12, 54, 55, 56] rfl ?_
         refine Nrm.pick [1, 2, 3, 5, 4] rfl rfl ?_
         exact hj_1 _ _ ⟨v89_1, S89_1, hl_v89_1, rfl, rfl⟩
        ·replace hE_5 := if_ff g_5 hE_5
         refine Tri.skip ?_
         cases hE_5
         refine Nrm.only [3, 6, 7, 10, 11, 12, 54, 55, 56] rfl ?_
         refine Nrm.pick [0, 1, 2, 4, 3] rfl rfl ?_
         exact hj_1 _ _ ⟨w10r, T10r, hl_w10r, rfl, rfl⟩
      ·replace hE_4 := if_ff g_4 hE_4
       refine Tri.exit ?_
       refine Exi.then ?_
       refine Exi.then ?_
       refine Exi.same ?_
       cases hE_4
       refine Nrm.block ?_
       refine Nrm.seq ?_
       obtain ⟨t41, h41, hE_3⟩ := bind_some hE_3
       refine Tri.reg (l := [0, 1, 2]) rfl ?_
       refine F.qn rfl rfl rfl rfl (r_move rfl) ?_
       refine F.qn rfl rfl rfl rfl (r_sliceL Try.underlying56 ti64 rfl (rd_sl (i := 4) rfl) rfl h41) ?_
       refine F.qn rfl rfl rfl rfl (r_assign rfl) ?_
       refine F.nil (Nrm.imp (fun w hw => Sep.resl (i := 4) rfl h41 hw) ?_)
       refine Nrm.round ?_
       refine Rnd.only [3, 6, 7, 10] rfl ?_
       refine Rnd.pick [0, 1, 2, 4] rfl rfl ?_
       exact ih_3 _ _ ⟨t41, xb7_1_0rrr, (slSub w10r 2 (1 : Int).toNat (x10r.length : Int).toNat), T10r, hE_3, (slc_len hl_w10r h41), rfl, rfl⟩
    ·replace hE_3 := if_ff g_3 hE_3
     refine Tri.exit ?_
     refine Exi.then ?_
     refine Exi.then ?_
     refine Exi.same ?_
     cases hE_3
     refine Nrm.seq (Tri.seq (Tri.reg (l := [0, 1]) rfl ?_))
     refine F.qn rfl rfl rfl rfl (r_loadA (cs := encA xb7_1_0rr) ta125 ti125 rfl (encA_len _) (fun w hw => (box_cells (i := 0) rfl w hw))) ?_
     refine F.ef0 rfl rfl (wanted_none rfl) (d_storeArr (i := 1) (g := (Arr.rep 768 0)) (h := xb7_1_0rr) ti125 rfl rfl rfl) ?_
     rintro _ _ ⟨rfl, rfl⟩
     refine F.nil (Nrm.seq (Tri.ret ?_))
     cases h
     exact Rtn.body (.cell rfl ta125 ti125 (encA_len _) (fun _ hw => box_cells (i := 1) rfl _ hw) .nil) (fun w hw => ⟨rfl, hw.ext⟩)


def impl_lostStates.l1 (k : Nat) (yb6_2_0 : Arr 768) (yb7_2_0 : Arr 768) (x27 : Int) : Nat → (List (Int × Int)) → Int → Int → Option ((List (Int × Int)) × Int)
 | 0, _, _, _ => none
 | n + 1, x8r, x9r, x30 => (if (decide (x30 < 64)) = true then (if 0 ≤ x27 ∧ x27 < 12 then if 0 ≤ x30 ∧ x30 < 64 then (if (decide ((Arr.at yb6_2_0 (x27 * 64 + x30)) < 0)) = true then some (x8r, x9r) else if 0 ≤ x27 ∧ x27 < 12 then if 0 ≤ x30 ∧ x30 < 64 then ((if (decide ((Arr.at yb7_2_0 (x27 * 64 + x30)) < 0)) = true then if (x8r ++ ([(x27, x30)] : List (Int × Int))).length < 1099511627776 then some (x8r ++ ([(x27, x30)] : List (Int × Int))) else none else some x8r)).bind fun y8r => some (y8r, w64 (x9r + 1)) else none else none) else none else none).bind fun (y8r, y9r) => impl_lostStates.l1 k yb6_2_0 yb7_2_0 x27 n y8r y9r (w64 (x30 + 1)) else some (x8r, x9r))

def impl_lostStates.l0 (k : Nat) (a0_0 : Int) (yb6_2_0 : Arr 768) (yb7_2_0 : Arr 768) : Nat → (List (Int × Int)) → Int → Int → Option ((List (Int × Int)) × Int)
 | 0, _, _, _ => none
 | n + 1, x8, x9, x27 => (if (decide (x27 < a0_0)) = true then (impl_lostStates.l1 k yb6_2_0 yb7_2_0 x27 k x8 x9 0).bind fun (x8r, x9r) => impl_lostStates.l0 k a0_0 yb6_2_0 yb7_2_0 n x8r x9r (w64 (x27 + 1)) else some (x8, x9))

def impl_lostStates.f (k : Nat) (a0_0 : Int) (a0_1 : List (Int × Int × Int)) (a0_2 : List Int) (a0_3 : List Int) (a1 : Int) : Option ((List (Int × Int)) × Int) := ((rdl a0_2 0).bind fun t16 => (impl_trapFrom.f k a0_0 a0_1 a0_2 a0_3 0 (bor t16 a1)).bind fun t20 => (impl_toTrapGoal.f k a0_0 a0_1 a0_2 a0_3).bind fun t22 => some (([] : List (Int × Int)), 0, t20, t22)).bind fun (y8, y9, yb6_2_0, yb7_2_0) => (impl_lostStates.l0 k a0_0 yb6_2_0 yb7_2_0 k y8 y9 0).bind fun (x8, x9) => some (x8, x9)

theorem impl_lostStates.ok {k : Nat}  {a0_0 : Int} {a0_1 : List (Int × Int × Int)} {a0_2 : List Int} {a0_3 : List Int} {a1 : Int} {r0 : List (Int × Int)} {r1 : Int} (h : impl_lostStates.f k a0_0 a0_1 a0_2 a0_3 a1 = some (r0, r1)) (w : World) {va0_1 : Value} {va0_2 : Value} {va0_3 : Value} (hr_a0_1 : Rd w va0_1 a0_1) (hr_a0_2 : Rd w va0_2 a0_2) (hr_a0_3 : Rd w va0_3 a0_3) :
  Calls Try.prog 141 ([.agg ([.int .i64 a0_0, va0_1, va0_2, va0_3].toArray), .int .i64 a1] : List Value).toArray w (Post (fun u ns => ∃ (ur0 : Value) (Sr0 : Nat → Prop), u = .tuple #[ur0, .int .i64 r1] ∧ SlLen ur0 r0.length ∧ ns = [R.sl Sr0 ur0 r0]) w) := by
 unfold impl_lostStates.f at h
 have hl_va0_1 := hr_a0_1.len
 have hl_va0_2 := hr_a0_2.len
 have hl_va0_3 := hr_a0_3.len
 refine Calls.of_tri (N := 57) Try.func141 rfl rfl rfl (Sep.nil (M := noM)) ?_
 refine Tri.seq (Tri.reg (l := [0, 1, 2]) rfl ?_)
 refine F.mn rfl rfl rfl rfl (m_boxG rfl rfl) ?_
 rintro _ _ ⟨b2_1, rfl, rfl⟩
 refine F.qn rfl rfl rfl rfl (r_assign rfl) ?_
 refine F.qn rfl rfl rfl rfl (r_assign rfl) ?_
 refine F.nil (Nrm.seq (Tri.seq ?_))
 obtain ⟨⟨y8, y9, yb6_2_0, yb7_2_0⟩, hE_1, h⟩ := bind_some h
 refine Tri.cut (fun e' C' => ∃ (v8_1 : Value) (S8_1 : Nat → Prop) (b6_2 : Nat) (b7_2 : Nat), SlLen v8_1 (y8).length ∧ e' = [(2, .pointer (some ⟨b2_1, 0, none⟩)), (6, .pointer (some ⟨b6_2, 0, none⟩)), (7, .pointer (some ⟨b7_2, 0, none⟩)), (8, v8_1), (9, .int .i64 y9)] ∧ C' = Sep w noM [R.box b2_1 66 [.int .i64 a0_0, va0_1, va0_2, va0_3], R.box b6_2 125 (encA yb6_2_0), R.box b7_2 125 (encA yb7_2_0), R.sl S8_1 v8_1 (y8 : List (Int × Int))]) ?_ (fun hj_1 => ?_)
 ·rintro _ _ ⟨v8_1, S8_1, b6_2, b7_2, hl_v8_1, rfl, rfl⟩
  refine Nrm.seq (Tri.seq (Tri.seq (Tri.reg (l := [0, 1, 2, 3]) rfl ?_)))
  refine F.qn rfl rfl rfl rfl (r_fieldAddr tf66_0 rfl) ?_
  refine F.qn rfl rfl rfl rfl (r_fieldAddr tf27_0 rfl) ?_
  refine F.qn rfl rfl rfl rfl (r_load ta3 rfl (fun w hw => cell_2 (box_cells (i := 0) rfl w hw) rfl)) ?_
  refine F.qn rfl rfl rfl rfl (r_move rfl) ?_
  refine F.nil (Nrm.seq ?_)
  obtain ⟨⟨x8, x9⟩, hE_2, h⟩ := bind_some h
  refine Tri.block ?_
  refine Tri.only [6, 7, 8, 9, 26, 27] rfl ?_
  refine Tri.pick [1, 2, 3] rfl rfl ?_
  refine Tri.rounds (fun n e' C' => ∃ (x8' : List (Int × Int)) (x9' : Int) (x27' : Int) (w8 : Value) (T8 : Nat → Prop), impl_lostStates.l0 k a0_0 yb6_2_0 yb7_2_0 n x8' x9' x27' = some (x8, x9) ∧ SlLen w8 (x8').length ∧ e' = [(6, .pointer (some ⟨b6_2, 0, none⟩)), (7, .pointer (some ⟨b7_2, 0, none⟩)), (8, w8), (9, .int .i64 x9'), (26, .int .i64 a0_0), (27, .int .i64 x27')] ∧ C' = Sep w noM [R.box b6_2 125 (encA yb6_2_0), R.box b7_2 125 (encA yb7_2_0), R.sl T8 w8 (x8' : List (Int × Int))]) k ?_ ?_ ?_
  ·exact ⟨y8, y9, 0, v8_1, S8_1, hE_2, hl_v8_1, rfl, rfl⟩
  ·rintro _ _ ⟨_, _, _, _, _, hE_2, _⟩
   rw [impl_lostStates.l0.eq_1] at hE_2; cases hE_2
  ·rintro n_1 _ _ ⟨x8, x9, x27, w8, T8, hE_2, hl_w8, rfl, rfl⟩ ih_1
   rw [impl_lostStates.l0.eq_2] at hE_2
   refine Tri.seq (Tri.reg (l := [0]) rfl ?_)
   refine F.qn rfl rfl rfl rfl (r_lss rfl rfl) ?_
   refine F.nil (Nrm.seq (Tri.seq (Tri.cond (b := decide (x27 < a0_0)) rfl (fun g_1 => ?_) (fun g_1 => ?_))))
   ·replace hE_2 := if_tt g_1 hE_2
    refine Tri.skip (Nrm.seq (Tri.seq (Tri.block ?_)))
    refine Tri.seq (Tri.reg (l := [0, 1]) rfl ?_)
    refine F.qn rfl rfl rfl rfl (r_move rfl) ?_
    refine F.qn rfl rfl rfl rfl (r_assign rfl) ?_
    refine F.nil (Nrm.seq (Tri.seq (Tri.reg (l := [0]) rfl ?_)))
    refine F.qn rfl rfl rfl rfl (r_move rfl) ?_
    refine F.nil (Nrm.seq ?_)
    obtain ⟨⟨x8r, x9r⟩, hE_3, hE_2⟩ := bind_some hE_2
    refine Tri.block ?_
    refine Tri.only [6, 7, 8, 9, 10, 26, 27, 30] rfl ?_
    refine Tri.pick [0, 1, 2] rfl rfl ?_
    refine Tri.rounds (fun n e' C' => ∃ (x8r' : List (Int × Int)) (x9r' : Int) (x30' : Int) (w8r : Value) (T8r : Nat → Prop), impl_lostStates.l1 k yb6_2_0 yb7_2_0 x27 n x8r' x9r' x30' = some (x8r, x9r) ∧ SlLen w8r (x8r').length ∧ e' = [(6, .pointer (some ⟨b6_2, 0, none⟩)), (7, .pointer (some ⟨b7_2, 0, none⟩)), (8, w8r), (9, .int .i64 x9r'), (10, .int .i64 x27), (26, .int .i64 a0_0), (27, .int .i64 x27), (30, .int .i64 x30')] ∧ C' = Sep w noM [R.box b6_2 125 (encA yb6_2_0), R.box b7_2 125 (encA yb7_2_0), R.sl T8r w8r (x8r' : List (Int × Int))]) k ?_ ?_ ?_
    ·exact ⟨x8, x9, 0, w8, T8, hE_3, hl_w8, rfl, rfl⟩
    ·rintro _ _ ⟨_, _, _, _, _, hE_3, _⟩
     rw [impl_lostStates.l1.eq_1] at hE_3; cases hE_3
    ·rintro n_2 _ _ ⟨x8r, x9r, x30, w8r, T8r, hE_3, hl_w8r, rfl, rfl⟩ ih_2
     rw [impl_lostStates.l1.eq_2] at hE_3
     refine Tri.seq (Tri.reg (l := [0]) rfl ?_)
     refine F.qn rfl rfl rfl rfl (r_lss rfl rfl) ?_
     refine F.nil (Nrm.seq (Tri.seq (Tri.cond (b := decide (x30 < 64)) rfl (fun g_2 => ?_) (fun g_2 => ?_))))
     ·replace hE_3 := if_tt g_2 hE_3
      refine Tri.skip (Nrm.seq (Tri.seq ?_))
      obtain ⟨⟨y8r, y9r⟩, hE_4, hE_3⟩ := bind_some hE_3
      refine Tri.cut (fun e' C' => ∃ (v8_2 : Value) (S8_2 : Nat → Prop), SlLen v8_2 (y8r).length ∧ e' = [(6, .pointer (some ⟨b6_2, 0, none⟩)), (7, .pointer (some ⟨b7_2, 0, none⟩)), (8, v8_2), (9, .int .i64 y9r), (10, .int .i64 x27), (26, .int .i64 a0_0), (27, .int .i64 x27), (30, .int .i64 x30)] ∧ C' = Sep w noM [R.box b6_2 125 (encA yb6_2_0), R.box b7_2 125 (encA yb7_2_0), R.sl S8_2 v8_2 (y8r : List (Int × Int))]) ?_ (fun hj_2 => ?_)
      ·rintro _ _ ⟨v8_2, S8_2, hl_v8_2, rfl, rfl⟩
       refine Nrm.seq (Tri.reg (l := [0, 1]) rfl ?_)
       refine F.qn rfl rfl rfl rfl (r_add rfl rfl) ?_
       refine F.qn rfl rfl rfl rfl (r_move rfl) ?_
       refine F.nil (Nrm.round ?_)
       refine Rnd.only [6, 7, 8, 9, 10, 26, 27, 30] rfl ?_
       refine Rnd.pick [0, 1, 2] rfl rfl ?_
       exact ih_2 _ _ ⟨y8r, y9r, w64 (x30 + 1), v8_2, S8_2, hE_3, hl_v8_2, rfl, rfl⟩
      ·refine Tri.block ?_
       refine Tri.seq (Tri.reg (l := [0, 1]) rfl ?_)
       refine F.qn rfl rfl rfl rfl (r_move rfl) ?_
       refine F.qn rfl rfl rfl rfl (r_assign rfl) ?_
       refine F.nil (Nrm.seq (Tri.seq (Tri.seq ?_)))
       obtain ⟨hb35, hE_4⟩ := ck hE_4
       obtain ⟨hb36, hE_4⟩ := ck hE_4
       refine Tri.reg (l := [0, 1, 2, 3, 4, 5]) rfl ?_
       refine F.qn rfl rfl rfl rfl (r_move rfl) ?_
       refine F.qn rfl rfl rfl rfl (r_move rfl) ?_
       refine F.qn rfl rfl rfl rfl (r_indexAddrA Try.underlying125 ti123 rfl rfl hb35.1 hb35.2) ?_
       refine F.qn rfl rfl rfl rfl (r_indexAddrA Try.underlying123 ti3 rfl rfl hb36.1 hb36.2) ?_
       refine F.qn rfl rfl rfl rfl (r_load ta3 rfl (fun w hw => cell_tab (g := yb6_2_0) (m := 64) (box_cells (i := 0) rfl w hw) (tabB 12 64 768 hb35 rfl) hb36)) ?_
       refine F.qn rfl rfl rfl rfl (r_lss rfl rfl) ?_
       refine F.nil (Nrm.seq (Tri.cond (b := decide ((Arr.at yb6_2_0 (x27 * 64 + x30)) < 0)) rfl (fun g_3 => ?_) (fun g_3 => ?_)))
       ·replace hE_4 := if_tt g_3 hE_4
        refine Tri.exit ?_
        refine Exi.then ?_
        refine Exi.same ?_
        cases hE_4
        refine Nrm.only [6, 7, 8, 9, 10, 26, 27, 30] rfl ?_
        refine Nrm.pick [0, 1, 2] rfl rfl ?_
        exact hj_2 _ _ ⟨w8r, T8r, hl_w8r, rfl, rfl⟩
       ·replace hE_4 := if_ff g_3 hE_4
        refine Tri.skip (Nrm.seq (Tri.seq (Tri.reg (l := [0, 1, 2]) rfl ?_)))
        refine F.qn rfl rfl rfl rfl (r_move rfl) ?_
        refine F.qn rfl rfl rfl rfl (r_add rfl rfl) ?_
        refine F.qn rfl rfl rfl rfl (r_assign rfl) ?_
        refine F.nil (Nrm.seq (Tri.seq ?_))
        obtain ⟨hb43, hE_4⟩ := ck hE_4
        obtain ⟨hb44, hE_4⟩ := ck hE_4
        refine Tri.reg (l := [0, 1, 2, 3, 4, 5]) rfl ?_
        refine F.qn rfl rfl rfl rfl (r_move rfl) ?_
        refine F.qn rfl rfl rfl rfl (r_move rfl) ?_
        refine F.qn rfl rfl rfl rfl (r_indexAddrA Try.underlying125 ti123 rfl rfl hb43.1 hb43.2) ?_
        refine F.qn rfl rfl rfl rfl (r_indexAddrA Try.underlying123 ti3 rfl rfl hb44.1 hb44.2) ?_
        refine F.qn rfl rfl rfl rfl (r_load ta3 rfl (fun w hw => cell_tab (g := yb7_2_0) (m := 64) (box_cells (i := 1) rfl w hw) (tabB 12 64 768 hb43 rfl) hb44)) ?_
        refine F.qn rfl rfl rfl rfl (r_lss rfl rfl) ?_
        refine F.nil (Nrm.seq ?_)
        obtain ⟨y8r, hE_5, hE_4⟩ := bind_some hE_4
        refine Tri.cut (fun e' C' => ∃ (v8_3 : Value) (S8_3 : Nat → Prop), SlLen v8_3 (y8r).length ∧ e' = [(6, .pointer (some ⟨b6_2, 0, none⟩)), (7, .pointer (some ⟨b7_2, 0, none⟩)), (8, v8_3), (9, .int .i64 (w64 (x9r + 1))), (10, .int .i64 x27), (26, .int .i64 a0_0), (27, .int .i64 x27), (30, .int .i64 x30)] ∧ C' = Sep w noM [R.box b6_2 125 (encA yb6_2_0), R.box b7_2 125 (encA yb7_2_0), R.sl S8_3 v8_3 (y8r : List (Int × Int))]) ?_ (fun hj_3 => ?_)
        ·rintro _ _ ⟨v8_3, S8_3, hl_v8_3, rfl, rfl⟩
         refine Nrm.block ?_
         cases hE_4
         refine Nrm.only [6, 7, 8, 9, 10, 26, 27, 30] rfl ?_
         refine Nrm.pick [0, 1, 2] rfl rfl ?_
         exact hj_2 _ _ ⟨v8_3, S8_3, hl_v8_3, rfl, rfl⟩
        ·refine Tri.cond (b := decide ((Arr.at yb7_2_0 (x27 * 64 + x30)) < 0)) rfl (fun g_4 => ?_) (fun g_4 => ?_)
         ·replace hE_5 := if_tt g_4 hE_5
          obtain ⟨hs52, hE_5⟩ := ck hE_5
          refine Tri.reg (l := [0, 1, 2, 3, 4, 5, 6]) rfl ?_
          iterate 3 refine F.qn rfl rfl rfl rfl (r_move rfl) ?_
          refine F.qn rfl rfl rfl rfl (r_buildA (qs := [(0, [.int .i64 x27]), (1, [.int .i64 x30])]) (cs := [.int .i64 x27, .int .i64 x30]) Try.underlying64 ti3 ti64 rfl (.cons rfl rfl (Nat.le_of_ble_eq_true rfl) (.cons rfl rfl (Nat.le_of_ble_eq_true rfl) .nil)) rfl rfl) ?_
          refine F.mn rfl rfl rfl rfl (m_buildF (l := ([(x27, x30)] : List (Int × Int))) Try.underlying56 ti64 rfl rfl rfl rfl rfl) ?_
          rintro v51_1 _ ⟨S51_1, hl_v51_1, rfl⟩
          refine F.efn rfl rfl rfl rfl (d_append (i := 3) Try.underlying56 Try.underlying56 ti64 rfl (by decide) rfl rfl rfl (rd_sl (i := 0) rfl) hs52) ?_
          rintro v52_1 _ ⟨S52_1, rfl, hl_v52_1⟩
          refine F.qn rfl rfl rfl rfl (r_assign rfl) ?_
          refine F.nil ?_
          cases hE_5
          refine Nrm.only [6, 7, 8, 9, 10, 26, 27, 30] rfl ?_
          refine Nrm.pick [1, 2, 3] rfl rfl ?_
          exact hj_3 _ _ ⟨v52_1, S52_1, hl_v52_1, rfl, rfl⟩
         ·replace hE_5 := if_ff g_4 hE_5
          refine Tri.skip ?_
          cases hE_5
          refine Nrm.only [6, 7, 8, 9, 10, 26, 27, 30] rfl ?_
          refine Nrm.pick [0, 1, 2] rfl rfl ?_
          exact hj_3 _ _ ⟨w8r, T8r, hl_w8r, rfl, rfl⟩
     ·replace hE_3 := if_ff g_2 hE_3
      refine Tri.exit ?_
      refine Exi.then ?_
      refine Exi.then ?_
      refine Exi.same ?_
      cases hE_3
      refine Nrm.block ?_
      refine Nrm.seq (Tri.reg (l := [0, 1]) rfl ?_)
      refine F.qn rfl rfl rfl rfl (r_add rfl rfl) ?_
      refine F.qn rfl rfl rfl rfl (r_move rfl) ?_
      refine F.nil (Nrm.round ?_)
      refine Rnd.only [6, 7, 8, 9, 26, 27] rfl ?_
      refine Rnd.pick [0, 1, 2] rfl rfl ?_
      exact ih_1 _ _ ⟨x8r, x9r, w64 (x27 + 1), w8r, T8r, hE_2, hl_w8r, rfl, rfl⟩
   ·replace hE_2 := if_ff g_1 hE_2
    refine Tri.exit ?_
    refine Exi.then ?_
    refine Exi.then ?_
    refine Exi.same ?_
    cases hE_2
    refine Nrm.seq (Tri.seq (Tri.reg (l := [0, 1, 2, 3]) rfl ?_))
    refine F.qn rfl rfl rfl rfl (r_move rfl) ?_
    refine F.qn rfl rfl rfl rfl (r_move rfl) ?_
    refine F.qn rfl rfl rfl rfl (r_assign rfl) ?_
    refine F.qn rfl rfl rfl rfl (r_assign rfl) ?_
    refine F.nil (Nrm.seq (Tri.ret ?_))
    cases h
    exact Rtn.body (.tmp rfl (.tmp rfl .nil)) (fun w hw => ⟨_, _, rfl, ⟨w8, T8, rfl, hl_w8, rfl⟩, Sep.pick (is := [2]) rfl rfl hw⟩)
 ·obtain ⟨t16, h16, hE_1⟩ := bind_some hE_1
  obtain ⟨t20, h20, hE_1⟩ := bind_some hE_1
  obtain ⟨t22, h22, hE_1⟩ := bind_some hE_1
  refine Tri.drawT mixedT Sep.up [0, 1, 2, 3, 4, 5, 6, 7, 8, 9, 10, 11, 12, 13, 14, 15] [16, 17] (.q 0 (.q 1 (.q 2 (.q 3 (.q 4 (.q 5 (.q 6 (.q 7 (.q 8 (.q 9 (.q 10 (.alt 11 (.alt 12 (.alt 13 (.alt 14 (.alt 15 .nil .stop) .stop) .stop) (.alt 13 (.alt 12 (.alt 14 (.alt 15 .nil .stop) .stop) .stop) .stop)) (.alt 12 (.alt 11 (.alt 13 (.alt 14 (.alt 15 .nil .stop) .stop) .stop) (.alt 13 (.alt 11 (.alt 14 (.alt 15 .nil .stop) .stop) (.alt 14 (.alt 11 (.alt 15 .nil .stop) (.alt 15 (.alt 11 .nil .stop) .stop)) .stop)) .stop)) (.alt 13 (.alt 11 (.alt 12 (.alt 14 (.alt 15 .nil .stop) .stop) .stop) (.alt 12 (.alt 11 (.alt 14 (.alt 15 .nil .stop) .stop) (.alt 14 (.alt 11 (.alt 15 .nil .stop) (.alt 15 (.alt 11 .nil .stop) .stop)) .stop)) .stop)) .stop)))))))))))))) (by kernel_rfl) ?_
  refine T.q rfl rfl rfl (wanted_none rfl) (r_loadA ta66 ti66 rfl rfl (fun w hw => (box_cells (i := 0) rfl w hw))) ?_
  refine T.q rfl rfl rfl (wanted_none rfl) (r_fieldAddr tf66_0 rfl) ?_
  refine T.q rfl rfl rfl (wanted_none rfl) (r_fieldAddr tf27_2 rfl) ?_
  refine T.q rfl rfl rfl (wanted_none rfl) (r_load ta25 rfl (fun w hw => cell_2 (box_cells (i := 0) rfl w hw) rfl)) ?_
  refine T.q rfl rfl rfl (wanted_none rfl) (r_indexAddrS Try.underlying25 ti3 rfl hl_va0_2 rfl (rdl_some h16).1 (rdl_some h16).2.1) ?_
  refine T.q rfl rfl rfl (wanted_none rfl) (r_load ta3 rfl (fun w hw => cell_0 (Rd.flat ((fun _ hw => hr_a0_2.sep hw) w hw) (rdl_some h16).2.2) rfl)) ?_
  refine T.q rfl rfl rfl (wanted_none rfl) (r_move rfl) ?_
  refine T.q rfl rfl rfl (wanted_none rfl) (r_or rfl rfl) ?_
  refine T.qc rfl rfl rfl (wanted_none rfl) (q_callF (xs := _) rfl ok193 rfl rfl (fun w hw => impl_trapFrom.ok h20 w ((fun _ hw => hr_a0_1.sep hw) w hw) ((fun _ hw => hr_a0_2.sep hw) w hw) ((fun _ hw => hr_a0_3.sep hw) w hw))) ?_
  refine T.q rfl rfl rfl (wanted_none rfl) (r_loadA ta66 ti66 rfl rfl (fun w hw => (box_cells (i := 0) rfl w hw))) ?_
  refine T.qc rfl rfl rfl (wanted_none rfl) (q_callF (xs := _) rfl ok122 rfl rfl (fun w hw => impl_toTrapGoal.ok h22 w ((fun _ hw => hr_a0_1.sep hw) w hw) ((fun _ hw => hr_a0_2.sep hw) w hw) ((fun _ hw => hr_a0_3.sep hw) w hw))) ?_
  refine T.ef rfl rfl rfl (wanted_none rfl) (Makes.does (m_build0 (α := Int × Int) Try.underlying56 ti64)) (by rintro v23_2 _ ⟨S23_2, hl_v23_2, rfl⟩; exact upd rfl [1] rfl rfl) ?_ ?_
  ·rintro v23_2 _ ⟨S23_2, hl_v23_2, rfl⟩
   refine T.ef rfl rfl rfl (wanted_none rfl) (Makes.does (m_alloc ti125)) (by rintro _ _ ⟨b6_3, rfl, rfl⟩; exact upd rfl [2] rfl rfl) ?_ ?_
   ·rintro _ _ ⟨b6_3, rfl, rfl⟩
    refine T.ef rfl rfl rfl (wanted_none rfl) (Makes.does (m_alloc ti125)) (by rintro _ _ ⟨b7_3, rfl, rfl⟩; exact upd rfl [3] rfl rfl) ?_ ?_
    ·rintro _ _ ⟨b7_3, rfl, rfl⟩
     refine T.ef0 rfl rfl (wanted_none rfl) (d_storeArr (i := 1) (g := (Arr.rep 768 0)) (h := t20) ti125 rfl rfl rfl) (by rintro _ _ ⟨rfl, rfl⟩; exact upd rfl [3] rfl rfl) ?_ ?_
     ·rintro _ _ ⟨rfl, rfl⟩
      refine T.ef0 rfl rfl (wanted_none rfl) (d_storeArr (i := 0) (g := (Arr.rep 768 0)) (h := t22) ti125 rfl rfl rfl) (by rintro _ _ ⟨rfl, rfl⟩; exact upd rfl [3] rfl rfl) ?_ ?_
      ·rintro _ _ ⟨rfl, rfl⟩
       refine T.nil ?_
       refine F.qn rfl rfl rfl rfl (r_assign rfl) ?_
       refine F.qn rfl rfl rfl rfl (r_assign rfl) ?_
       refine F.nil ?_
       cases hE_1
       refine Nrm.only [2, 6, 7, 8, 9] rfl ?_
       refine Nrm.pick [3, 1, 0, 2] rfl rfl ?_
       exact hj_1 _ _ ⟨v23_2, S23_2, b6_3, b7_3, hl_v23_2, rfl, rfl⟩
      exact T.stop
     exact T.stop
    exact T.stop
   ·refine T.ef rfl rfl rfl (wanted_none rfl) (Makes.does (m_alloc ti125)) (by rintro _ _ ⟨b7_4, rfl, rfl⟩; exact upd rfl [2] rfl rfl) ?_ ?_
    ·rintro _ _ ⟨b7_4, rfl, rfl⟩
     refine T.ef rfl rfl rfl (wanted_none rfl) (Makes.does (m_alloc ti125)) (by rintro _ _ ⟨b6_4, rfl, rfl⟩; exact upd rfl [3] rfl rfl) ?_ ?_
     ·rintro _ _ ⟨b6_4, rfl, rfl⟩
      refine T.ef0 rfl rfl (wanted_none rfl) (d_storeArr (i := 0) (g := (Arr.rep 768 0)) (h := t20) ti125 rfl rfl rfl) (by rintro _ _ ⟨rfl, rfl⟩; exact upd rfl [3] rfl rfl) ?_ ?_
      ·rintro _ _ ⟨rfl, rfl⟩
       refine T.ef0 rfl rfl (wanted_none rfl) (d_storeArr (i := 1) (g := (Arr.rep 768 0)) (h := t22) ti125 rfl rfl rfl) (by rintro _ _ ⟨rfl, rfl⟩; exact upd rfl [3] rfl rfl) ?_ ?_
       ·rintro _ _ ⟨rfl, rfl⟩
        refine T.nil ?_
        refine F.qn rfl rfl rfl rfl (r_assign rfl) ?_
        refine F.qn rfl rfl rfl rfl (r_assign rfl) ?_
        refine F.nil ?_
        cases hE_1
        refine Nrm.only [2, 6, 7, 8, 9] rfl ?_
        refine Nrm.pick [3, 0, 1, 2] rfl rfl ?_
        exact hj_1 _ _ ⟨v23_2, S23_2, b6_4, b7_4, hl_v23_2, rfl, rfl⟩
       exact T.stop
      exact T.stop
     exact T.stop
    exact T.stop
  ·refine T.ef rfl rfl rfl (wanted_none rfl) (Makes.does (m_alloc ti125)) (by rintro _ _ ⟨b6_5, rfl, rfl⟩; exact upd rfl [1] rfl rfl) ?_ ?_
   ·rintro _ _ ⟨b6_5, rfl, rfl⟩
    refine T.ef rfl rfl rfl (wanted_none rfl) (Makes.does (m_build0 (α := Int × Int) Try.underlying56 ti64)) (by rintro v23_3 _ ⟨S23_3, hl_v23_3, rfl⟩; exact upd rfl [2] rfl rfl) ?_ ?_
    ·rintro v23_3 _ ⟨S23_3, hl_v23_3, rfl⟩
     refine T.ef rfl rfl rfl (wanted_none rfl) (Makes.does (m_alloc ti125)) (by rintro _ _ ⟨b7_5, rfl, rfl⟩; exact upd rfl [3] rfl rfl) ?_ ?_
     ·rintro _ _ ⟨b7_5, rfl, rfl⟩
      refine T.ef0 rfl rfl (wanted_none rfl) (d_storeArr (i := 2) (g := (Arr.rep 768 0)) (h := t20) ti125 rfl rfl rfl) (by rintro _ _ ⟨rfl, rfl⟩; exact upd rfl [3] rfl rfl) ?_ ?_
      ·rintro _ _ ⟨rfl, rfl⟩
       refine T.ef0 rfl rfl (wanted_none rfl) (d_storeArr (i := 0) (g := (Arr.rep 768 0)) (h := t22) ti125 rfl rfl rfl) (by rintro _ _ ⟨rfl, rfl⟩; exact upd rfl [3] rfl rfl) ?_ ?_
       ·rintro _ _ ⟨rfl, rfl⟩
        refine T.nil ?_
        refine F.qn rfl rfl rfl rfl (r_assign rfl) ?_
        refine F.qn rfl rfl rfl rfl (r_assign rfl) ?_
        refine F.nil ?_
        cases hE_1
        refine Nrm.only [2, 6, 7, 8, 9] rfl ?_
        refine Nrm.pick [3, 2, 0, 1] rfl rfl ?_
        exact hj_1 _ _ ⟨v23_3, S23_3, b6_5, b7_5, hl_v23_3, rfl, rfl⟩
       exact T.stop
      exact T.stop
     exact T.stop
    ·refine T.ef rfl rfl rfl (wanted_none rfl) (Makes.does (m_alloc ti125)) (by rintro _ _ ⟨b7_6, rfl, rfl⟩; exact upd rfl [2] rfl rfl) ?_ ?_
     ·rintro _ _ ⟨b7_6, rfl, rfl⟩
      refine T.ef rfl rfl rfl (wanted_none rfl) (Makes.does (m_build0 (α := Int × Int) Try.underlying56 ti64)) (by rintro v23_4 _ ⟨S23_4, hl_v23_4, rfl⟩; exact upd rfl [3] rfl rfl) ?_ ?_
      ·rintro v23_4 _ ⟨S23_4, hl_v23_4, rfl⟩
       refine T.ef0 rfl rfl (wanted_none rfl) (d_storeArr (i := 2) (g := (Arr.rep 768 0)) (h := t20) ti125 rfl rfl rfl) (by rintro _ _ ⟨rfl, rfl⟩; exact upd rfl [3] rfl rfl) ?_ ?_
       ·rintro _ _ ⟨rfl, rfl⟩
        refine T.ef0 rfl rfl (wanted_none rfl) (d_storeArr (i := 1) (g := (Arr.rep 768 0)) (h := t22) ti125 rfl rfl rfl) (by rintro _ _ ⟨rfl, rfl⟩; exact upd rfl [3] rfl rfl) ?_ ?_
        ·rintro _ _ ⟨rfl, rfl⟩
         refine T.nil ?_
         refine F.qn rfl rfl rfl rfl (r_assign rfl) ?_
         refine F.qn rfl rfl rfl rfl (r_assign rfl) ?_
         refine F.nil ?_
         cases hE_1
         refine Nrm.only [2, 6, 7, 8, 9] rfl ?_
         refine Nrm.pick [3, 2, 1, 0] rfl rfl ?_
         exact hj_1 _ _ ⟨v23_4, S23_4, b6_5, b7_6, hl_v23_4, rfl, rfl⟩
        exact T.stop
       exact T.stop
      ·refine T.ef0 rfl rfl (wanted_none rfl) (d_storeArr (i := 1) (g := (Arr.rep 768 0)) (h := t20) ti125 rfl rfl rfl) (by rintro _ _ ⟨rfl, rfl⟩; exact upd rfl [2] rfl rfl) ?_ ?_
       ·rintro _ _ ⟨rfl, rfl⟩
        refine T.ef rfl rfl rfl (wanted_none rfl) (Makes.does (m_build0 (α := Int × Int) Try.underlying56 ti64)) (by rintro v23_5 _ ⟨S23_5, hl_v23_5, rfl⟩; exact upd rfl [3] rfl rfl) ?_ ?_
        ·rintro v23_5 _ ⟨S23_5, hl_v23_5, rfl⟩
         refine T.ef0 rfl rfl (wanted_none rfl) (d_storeArr (i := 1) (g := (Arr.rep 768 0)) (h := t22) ti125 rfl rfl rfl) (by rintro _ _ ⟨rfl, rfl⟩; exact upd rfl [3] rfl rfl) ?_ ?_
         ·rintro _ _ ⟨rfl, rfl⟩
          refine T.nil ?_
          refine F.qn rfl rfl rfl rfl (r_assign rfl) ?_
          refine F.qn rfl rfl rfl rfl (r_assign rfl) ?_
          refine F.nil ?_
          cases hE_1
          refine Nrm.only [2, 6, 7, 8, 9] rfl ?_
          refine Nrm.pick [3, 2, 1, 0] rfl rfl ?_
          exact hj_1 _ _ ⟨v23_5, S23_5, b6_5, b7_6, hl_v23_5, rfl, rfl⟩
         exact T.stop
        ·refine T.ef0 rfl rfl (wanted_none rfl) (d_storeArr (i := 0) (g := (Arr.rep 768 0)) (h := t22) ti125 rfl rfl rfl) (by rintro _ _ ⟨rfl, rfl⟩; exact upd rfl [2] rfl rfl) ?_ ?_
         ·rintro _ _ ⟨rfl, rfl⟩
          refine T.ef rfl rfl rfl (wanted_none rfl) (Makes.does (m_build0 (α := Int × Int) Try.underlying56 ti64)) (by rintro v23_6 _ ⟨S23_6, hl_v23_6, rfl⟩; exact upd rfl [3] rfl rfl) ?_ ?_
          ·rintro v23_6 _ ⟨S23_6, hl_v23_6, rfl⟩
           refine T.nil ?_
           refine F.qn rfl rfl rfl rfl (r_assign rfl) ?_
           refine F.qn rfl rfl rfl rfl (r_assign rfl) ?_
           refine F.nil ?_
           cases hE_1
           refine Nrm.only [2, 6, 7, 8, 9] rfl ?_
           refine Nrm.pick [3, 2, 1, 0] rfl rfl ?_
           exact hj_1 _ _ ⟨v23_6, S23_6, b6_5, b7_6, hl_v23_6, rfl, rfl⟩
          exact T.stop
         exact T.stop
       exact T.stop
     exact T.stop
   ·refine T.ef rfl rfl rfl (wanted_none rfl) (Makes.does (m_alloc ti125)) (by rintro _ _ ⟨b7_7, rfl, rfl⟩; exact upd rfl [1] rfl rfl) ?_ ?_
    ·rintro _ _ ⟨b7_7, rfl, rfl⟩
     refine T.ef rfl rfl rfl (wanted_none rfl) (Makes.does (m_build0 (α := Int × Int) Try.underlying56 ti64)) (by rintro v23_7 _ ⟨S23_7, hl_v23_7, rfl⟩; exact upd rfl [2] rfl rfl) ?_ ?_
     ·rintro v23_7 _ ⟨S23_7, hl_v23_7, rfl⟩
      refine T.ef rfl rfl rfl (wanted_none rfl) (Makes.does (m_alloc ti125)) (by rintro _ _ ⟨b6_6, rfl, rfl⟩; exact upd rfl [3] rfl rfl) ?_ ?_
      ·rintro _ _ ⟨b6_6, rfl, rfl⟩
       refine T.ef0 rfl rfl (wanted_none rfl) (d_storeArr (i := 0) (g := (Arr.rep 768 0)) (h := t20) ti125 rfl rfl rfl) (by rintro _ _ ⟨rfl, rfl⟩; exact upd rfl [3] rfl rfl) ?_ ?_
       ·rintro _ _ ⟨rfl, rfl⟩
        refine T.ef0 rfl rfl (wanted_none rfl) (d_storeArr (i := 2) (g := (Arr.rep 768 0)) (h := t22) ti125 rfl rfl rfl) (by rintro _ _ ⟨rfl, rfl⟩; exact upd rfl [3] rfl rfl) ?_ ?_
        ·rintro _ _ ⟨rfl, rfl⟩
         refine T.nil ?_
         refine F.qn rfl rfl rfl rfl (r_assign rfl) ?_
         refine F.qn rfl rfl rfl rfl (r_assign rfl) ?_
         refine F.nil ?_
         cases hE_1
         refine Nrm.only [2, 6, 7, 8, 9] rfl ?_
         refine Nrm.pick [3, 0, 2, 1] rfl rfl ?_
         exact hj_1 _ _ ⟨v23_7, S23_7, b6_6, b7_7, hl_v23_7, rfl, rfl⟩
        exact T.stop
       exact T.stop
      exact T.stop
     ·refine T.ef rfl rfl rfl (wanted_none rfl) (Makes.does (m_alloc ti125)) (by rintro _ _ ⟨b6_7, rfl, rfl⟩; exact upd rfl [2] rfl rfl) ?_ ?_
      ·rintro _ _ ⟨b6_7, rfl, rfl⟩
       refine T.ef rfl rfl rfl (wanted_none rfl) (Makes.does (m_build0 (α := Int × Int) Try.underlying56 ti64)) (by rintro v23_8 _ ⟨S23_8, hl_v23_8, rfl⟩; exact upd rfl [3] rfl rfl) ?_ ?_
       ·rintro v23_8 _ ⟨S23_8, hl_v23_8, rfl⟩
        refine T.ef0 rfl rfl (wanted_none rfl) (d_storeArr (i := 1) (g := (Arr.rep 768 0)) (h := t20) ti125 rfl rfl rfl) (by rintro _ _ ⟨rfl, rfl⟩; exact upd rfl [3] rfl rfl) ?_ ?_
        ·rintro _ _ ⟨rfl, rfl⟩
         refine T.ef0 rfl rfl (wanted_none rfl) (d_storeArr (i := 2) (g := (Arr.rep 768 0)) (h := t22) ti125 rfl rfl rfl) (by rintro _ _ ⟨rfl, rfl⟩; exact upd rfl [3] rfl rfl) ?_ ?_
         ·rintro _ _ ⟨rfl, rfl⟩
          refine T.nil ?_
          refine F.qn rfl rfl rfl rfl (r_assign rfl) ?_
          refine F.qn rfl rfl rfl rfl (r_assign rfl) ?_
          refine F.nil ?_
          cases hE_1
          refine Nrm.only [2, 6, 7, 8, 9] rfl ?_
          refine Nrm.pick [3, 1, 2, 0] rfl rfl ?_
          exact hj_1 _ _ ⟨v23_8, S23_8, b6_7, b7_7, hl_v23_8, rfl, rfl⟩
         exact T.stop
        exact T.stop
       ·refine T.ef0 rfl rfl (wanted_none rfl) (d_storeArr (i := 0) (g := (Arr.rep 768 0)) (h := t20) ti125 rfl rfl rfl) (by rintro _ _ ⟨rfl, rfl⟩; exact upd rfl [2] rfl rfl) ?_ ?_
        ·rintro _ _ ⟨rfl, rfl⟩
         refine T.ef rfl rfl rfl (wanted_none rfl) (Makes.does (m_build0 (α := Int × Int) Try.underlying56 ti64)) (by rintro v23_9 _ ⟨S23_9, hl_v23_9, rfl⟩; exact upd rfl [3] rfl rfl) ?_ ?_
         ·rintro v23_9 _ ⟨S23_9, hl_v23_9, rfl⟩
          refine T.ef0 rfl rfl (wanted_none rfl) (d_storeArr (i := 2) (g := (Arr.rep 768 0)) (h := t22) ti125 rfl rfl rfl) (by rintro _ _ ⟨rfl, rfl⟩; exact upd rfl [3] rfl rfl) ?_ ?_
          ·rintro _ _ ⟨rfl, rfl⟩
           refine T.nil ?_
           refine F.qn rfl rfl rfl rfl (r_assign rfl) ?_
           refine F.qn rfl rfl rfl rfl (r_assign rfl) ?_
           refine F.nil ?_
           cases hE_1
           refine Nrm.only [2, 6, 7, 8, 9] rfl ?_
           refine Nrm.pick [3, 1, 2, 0] rfl rfl ?_
           exact hj_1 _ _ ⟨v23_9, S23_9, b6_7, b7_7, hl_v23_9, rfl, rfl⟩
          exact T.stop
         ·refine T.ef0 rfl rfl (wanted_none rfl) (d_storeArr (i := 1) (g := (Arr.rep 768 0)) (h := t22) ti125 rfl rfl rfl) (by rintro _ _ ⟨rfl, rfl⟩; exact upd rfl [2] rfl rfl) ?_ ?_
          ·rintro _ _ ⟨rfl, rfl⟩
           refine T.ef rfl rfl rfl (wanted_none rfl) (Makes.does (m_build0 (α := Int × Int) Try.underlying56 ti64)) (by rintro v23_10 _ ⟨S23_10, hl_v23_10, rfl⟩; exact upd rfl [3] rfl rfl) ?_ ?_
           ·rintro v23_10 _ ⟨S23_10, hl_v23_10, rfl⟩
            refine T.nil ?_
            refine F.qn rfl rfl rfl rfl (r_assign rfl) ?_
            refine F.qn rfl rfl rfl rfl (r_assign rfl) ?_
            refine F.nil ?_
            cases hE_1
            refine Nrm.only [2, 6, 7, 8, 9] rfl ?_
            refine Nrm.pick [3, 1, 2, 0] rfl rfl ?_
            exact hj_1 _ _ ⟨v23_10, S23_10, b6_7, b7_7, hl_v23_10, rfl, rfl⟩
           exact T.stop
          exact T.stop
        exact T.stop
      exact T.stop
    exact T.stop


def impl_TrapFreeSets_1.f (k : Nat) (a0 : Int) (c0_0 : Int) (c0_1 : List (Int × Int × Int)) (c0_2 : List Int) (c0_3 : List Int) : Option (Bool) := (impl_lostStates.f k c0_0 c0_1 c0_2 c0_3 a0).bind fun (t9_1, t9_2) => some ((t9_1.length : Int) == 0)

theorem impl_TrapFreeSets_1.ok {k : Nat} {pc0 : Addr} {a0 : Int} {c0_0 : Int} {c0_1 : List (Int × Int × Int)} {c0_2 : List Int} {c0_3 : List Int} {r0 : Bool} (h : impl_TrapFreeSets_1.f k a0 c0_0 c0_1 c0_2 c0_3 = some r0) (w : World) {vc0_1 : Value} {vc0_2 : Value} {vc0_3 : Value} (hb_c0 : CellsAt w pc0 [.int .i64 c0_0, vc0_1, vc0_2, vc0_3]) (hr_c0_1 : Rd w vc0_1 c0_1) (hr_c0_2 : Rd w vc0_2 c0_2) (hr_c0_3 : Rd w vc0_3 c0_3) :
  Calls Try.prog 140 ([.int .i64 a0, .pointer (some pc0)] : List Value).toArray w (fun e w' => e = .returned (.bool r0) ∧ Ext w w') := by
 unfold impl_TrapFreeSets_1.f at h
 have hl_vc0_1 := hr_c0_1.len
 have hl_vc0_2 := hr_c0_2.len
 have hl_vc0_3 := hr_c0_3.len
 refine Calls.of_tri (N := 15) Try.func140 rfl rfl rfl (Sep.nil (M := noM)) ?_
 refine Tri.seq (Tri.reg (l := [0]) rfl ?_)
 refine F.qn rfl rfl rfl rfl (r_assign rfl) ?_
 refine F.nil (Nrm.seq (Tri.seq ?_))
 obtain ⟨⟨t9_1, t9_2⟩, h9, h⟩ := bind_some h
 refine Tri.reg (l := [0, 1, 2, 3, 4, 5, 6, 7]) rfl ?_
 refine F.qn rfl rfl rfl rfl (r_loadA ta66 ti66 rfl rfl (fun w hw => (hb_c0.sep hw))) ?_
 refine F.qn rfl rfl rfl rfl (r_move rfl) ?_
 refine F.mn rfl rfl rfl rfl (m_callF (xs := _) rfl ok141 rfl rfl (fun w hw => impl_lostStates.ok h9 w ((fun _ hw => hr_c0_1.sep hw) w hw) ((fun _ hw => hr_c0_2.sep hw) w hw) ((fun _ hw => hr_c0_3.sep hw) w hw))) ?_
 rintro _ _ ⟨_, ⟨v9_1, S9_1, rfl, hl_v9_1, rfl⟩, rfl⟩
 refine F.qn rfl rfl rfl rfl (r_move rfl) ?_
 refine F.qn rfl rfl rfl rfl (r_extract rfl rfl) ?_
 refine F.qn rfl rfl rfl rfl (r_extract rfl rfl) ?_
 refine F.qn rfl rfl rfl rfl (r_assign rfl) ?_
 refine F.qn rfl rfl rfl rfl (r_assign rfl) ?_
 refine F.nil (Nrm.seq (Tri.seq (Tri.reg (l := [0, 1, 2, 3]) rfl ?_)))
 refine F.qn rfl rfl rfl rfl (r_move rfl) ?_
 refine F.qn rfl rfl rfl rfl (r_len Try.underlying56 rfl hl_v9_1) ?_
 refine F.qn rfl rfl rfl rfl (r_eql rfl rfl) ?_
 refine F.qn rfl rfl rfl rfl (r_assign rfl) ?_
 refine F.nil (Nrm.seq (Tri.ret ?_))
 cases h
 exact Rtn.body (.tmp rfl .nil) (fun w hw => ⟨rfl, hw.ext⟩)


def impl_TrapFreeSets.f (k : Nat) (a0_0 : Int) (a0_1 : List (Int × Int × Int)) (a0_2 : List Int) (a0_3 : List Int) : Option ((List Int) × Bool) := (impl_IsTrap.f k a0_0 a0_1 a0_2 a0_3).bind fun t5 => (if (!t5) = true then some ([], false) else (impl_those.f k (fun z0 => impl_TrapFreeSets_1.f k z0 a0_0 a0_1 a0_2 a0_3)).bind fun t8 => some (t8, true))

theorem impl_TrapFreeSets.ok {k : Nat}  {a0_0 : Int} {a0_1 : List (Int × Int × Int)} {a0_2 : List Int} {a0_3 : List Int} {r0 : List Int} {r1 : Bool} (h : impl_TrapFreeSets.f k a0_0 a0_1 a0_2 a0_3 = some (r0, r1)) (w : World) {va0_1 : Value} {va0_2 : Value} {va0_3 : Value} (hr_a0_1 : Rd w va0_1 a0_1) (hr_a0_2 : Rd w va0_2 a0_2) (hr_a0_3 : Rd w va0_3 a0_3) :
  Calls Try.prog 60 ([.agg ([.int .i64 a0_0, va0_1, va0_2, va0_3].toArray)] : List Value).toArray w (Post (fun u ns => ∃ (ur0 : Value) (Sr0 : Nat → Prop), u = .tuple #[ur0, .bool r1] ∧ SlLen ur0 r0.length ∧ ns = [R.sl Sr0 ur0 r0]) w) := by
 unfold impl_TrapFreeSets.f at h
 have hl_va0_1 := hr_a0_1.len
 have hl_va0_2 := hr_a0_2.len
 have hl_va0_3 := hr_a0_3.len
 refine Calls.of_tri (N := 9) Try.func60 rfl rfl rfl (Sep.nil (M := noM)) ?_
 refine Tri.seq (Tri.reg (l := [0, 1, 2]) rfl ?_)
 refine F.mn rfl rfl rfl rfl (m_boxG rfl rfl) ?_
 rintro _ _ ⟨b1_1, rfl, rfl⟩
 refine F.qn rfl rfl rfl rfl (r_assign rfl) ?_
 refine F.qn rfl rfl rfl rfl (r_assign rfl) ?_
 refine F.nil (Nrm.seq (Tri.seq (Tri.seq ?_)))
 obtain ⟨t5, h5, h⟩ := bind_some h
 refine Tri.reg (l := [0, 1, 2]) rfl ?_
 refine F.qn rfl rfl rfl rfl (r_loadA ta66 ti66 rfl rfl (fun w hw => (box_cells (i := 0) rfl w hw))) ?_
 refine F.qcn rfl rfl rfl rfl (q_callF (xs := _) rfl ok129 rfl rfl (fun w hw => impl_IsTrap.ok h5 w ((fun _ hw => hr_a0_1.sep hw) w hw) ((fun _ hw => hr_a0_2.sep hw) w hw) ((fun _ hw => hr_a0_3.sep hw) w hw))) ?_
 refine F.qn rfl rfl rfl rfl (r_not rfl) ?_
 refine F.nil (Nrm.seq (Tri.cond (b := !t5) rfl (fun g_1 => ?_) (fun g_1 => ?_)))
 ·replace h := if_tt g_1 h
  refine Tri.seq (Tri.reg (l := [0, 1]) rfl ?_)
  refine F.qn rfl rfl rfl rfl (r_assign rfl) ?_
  refine F.qn rfl rfl rfl rfl (r_assign rfl) ?_
  refine F.nil (Nrm.seq (Tri.ret ?_))
  refine Rtn.then ?_
  cases h
  exact Rtn.body (.tmp rfl (.tmp rfl .nil)) (fun w hw => ⟨_, _, rfl, ⟨.slice none 0 0, fun _ => False, rfl, len_nil, rfl⟩, Sep.pick (is := [0]) rfl rfl hw.pushNil⟩)
 ·replace h := if_ff g_1 h
  refine Tri.skip (Nrm.seq (Tri.seq ?_))
  obtain ⟨t8, h8, h⟩ := bind_some h
  refine Tri.reg (l := [0, 1, 2, 3]) rfl ?_
  refine F.qn rfl rfl rfl rfl (r_makeFunc rfl) ?_
  refine F.mn rfl rfl rfl rfl (m_callF (xs := _) rfl ok139 rfl rfl (fun w hw => impl_those.ok h8 w ok140 (fun w2 he2 z0 y2 hy2 => impl_TrapFreeSets_1.ok hy2 w2 ((box_cells (i := 0) rfl w hw).ext he2) (((fun _ hw => hr_a0_1.sep hw) w hw).ext he2) (((fun _ hw => hr_a0_2.sep hw) w hw).ext he2) (((fun _ hw => hr_a0_3.sep hw) w hw).ext he2)))) ?_
  rintro v8_1 _ ⟨_, ⟨S8_1, hl_v8_1, rfl⟩, rfl⟩
  refine F.qn rfl rfl rfl rfl (r_assign rfl) ?_
  refine F.qn rfl rfl rfl rfl (r_assign rfl) ?_
  refine F.nil (Nrm.seq (Tri.ret ?_))
  cases h
  exact Rtn.body (.tmp rfl (.tmp rfl .nil)) (fun w hw => ⟨_, _, rfl, ⟨v8_1, S8_1, rfl, hl_v8_1, rfl⟩, Sep.pick (is := [0]) rfl rfl hw⟩)


def spec_l11Spread.l2 (k : Nat) (x8 : Int) (t56 : List Int) : Nat → (List (Int)) → (List (Int)) → Int → Option ((List (Int)) × (List (Int)))
 | 0, _, _, _ => none
 | n + 1, x5rr, x7r, x10 => (if (decide (x10 < (t56.length : Int))) = true then (rdl t56 x10).bind fun t66 => (rdl x5rr t66).bind fun t68 => ((if (decide (t68 < 0)) = true then (rdl t56 x10).bind fun t74 => (rdl x7r x8).bind fun t79 => (rdl x5rr t79).bind fun t81 => (rdl x5rr t74).bind fun t84 => (rdl t56 x10).bind fun t88 => if (x7r ++ ([t88] : List (Int))).length < 1099511627776 then some (x5rr.set t74.toNat (w64 (t81 + 1)), x7r ++ ([t88] : List (Int))) else none else some (x5rr, x7r))).bind fun (y5, y7) => spec_l11Spread.l2 k x8 t56 n y5 y7 (w64 (x10 + 1)) else some (x5rr, x7r))

def spec_l11Spread.l1 (k : Nat) (a0_0 : Int) (a0_1 : List (Int × Int × Int)) (a0_2 : List Int) (a0_3 : List Int) : Nat → (List (Int)) → (List (Int)) → Int → Option ((List (Int)))
 | 0, _, _, _ => none
 | n + 1, x5r, x7, x8 => (if (decide (x8 < (x7.length : Int))) = true then (rdl x7 x8).bind fun t48 => (rdl x7 x8).bind fun t53 => (spec_l11Step.f k a0_0 a0_1 a0_2 a0_3 (quo t48 64) (rem t53 64)).bind fun t56 => (spec_l11Spread.l2 k x8 t56 k x5r x7 0).bind fun (x5rr, x7r) => spec_l11Spread.l1 k a0_0 a0_1 a0_2 a0_3 n x5rr x7r (w64 (x8 + 1)) else some x5r)

def spec_l11Spread.l0 (k : Nat) : Nat → (List (Int)) → Int → Option ((List (Int)))
 | 0, _, _ => none
 | n + 1, x5, x6 => (if (decide (x6 < (x5.length : Int))) = true then (rdl x5 x6).bind fun t24 => spec_l11Spread.l0 k n (x5.set x6.toNat (-1)) (w64 (x6 + 1)) else some x5)

def spec_l11Spread.f (k : Nat) (a0_0 : Int) (a0_1 : List (Int × Int × Int)) (a0_2 : List Int) (a0_3 : List Int) (a1 : Int) : Option ((List Int)) := if 0 ≤ w64 (a0_0 * 64) ∧ w64 (a0_0 * 64) < 1099511627776 then (spec_l11Spread.l0 k k (List.replicate (w64 (a0_0 * 64)).toNat (0 : Int)) 0).bind fun x5 => (rdl a0_2 0).bind fun t29 => (spec_l4Id.f k 0 (bor a1 t29)).bind fun t32 => (rdl ([t32] : List (Int)) 0).bind fun t36 => (rdl x5 t36).bind fun t38 => (spec_l11Spread.l1 k a0_0 a0_1 a0_2 a0_3 k (x5.set t36.toNat 0) ([t32] : List (Int)) 0).bind fun x5r => some x5r else none

theorem spec_l11Spread.ok {k : Nat}  {a0_0 : Int} {a0_1 : List (Int × Int × Int)} {a0_2 : List Int} {a0_3 : List Int} {a1 : Int} {r0 : List Int} (h : spec_l11Spread.f k a0_0 a0_1 a0_2 a0_3 a1 = some r0) (w : World) {va0_1 : Value} {va0_2 : Value} {va0_3 : Value} (hr_a0_1 : Rd w va0_1 a0_1) (hr_a0_2 : Rd w va0_2 a0_2) (hr_a0_3 : Rd w va0_3 a0_3) :
  Calls Try.prog 194 ([.agg ([.int .i64 a0_0, va0_1, va0_2, va0_3].toArray), .int .i64 a1] : List Value).toArray w (Post (fun u ns => ∃ (Sr0 : Nat → Prop), SlLen u r0.length ∧ ns = [R.sl Sr0 u r0]) w) := by
 unfold spec_l11Spread.f at h
 have hl_va0_1 := hr_a0_1.len
 have hl_va0_2 := hr_a0_2.len
 have hl_va0_3 := hr_a0_3.len
 refine Calls.of_tri (N := 93) Try.func194 rfl rfl rfl (Sep.nil (M := noM)) ?_
 refine Tri.seq (Tri.reg (l := [0, 1]) rfl ?_)
 refine F.mn rfl rfl rfl rfl (m_boxG rfl rfl) ?_
 rintro _ _ ⟨b2_1, rfl, rfl⟩
 refine F.qn rfl rfl rfl rfl (r_assign rfl) ?_
 refine F.nil (Nrm.seq (Tri.seq ?_))
 obtain ⟨hm15, h⟩ := ck h
 refine Tri.reg (l := [0, 1, 2, 3, 4, 5]) rfl ?_
 refine F.qn rfl rfl rfl rfl (r_fieldAddr tf66_0 rfl) ?_
 refine F.qn rfl rfl rfl rfl (r_fieldAddr tf27_0 rfl) ?_
 refine F.qn rfl rfl rfl rfl (r_load ta3 rfl (fun w hw => cell_2 (box_cells (i := 0) rfl w hw) rfl)) ?_
 refine F.qn rfl rfl rfl rfl (r_mul rfl rfl) ?_
 refine F.mn rfl rfl rfl rfl (m_make (x0 := (0 : Int)) Try.underlying25 ti3 rfl rfl rfl hm15.1 hm15.2 (by decide)) ?_
 rintro v15_1 _ ⟨S15_1, hl_v15_1, rfl⟩
 refine F.qn rfl rfl rfl rfl (r_assign rfl) ?_
 refine F.nil (Nrm.seq (Tri.seq (Tri.seq (Tri.reg (l := [0]) rfl ?_))))
 refine F.qn rfl rfl rfl rfl (r_assign rfl) ?_
 refine F.nil (Nrm.seq ?_)
 obtain ⟨x5, hE_1, h⟩ := bind_some h
 refine Tri.block ?_
 refine Tri.only [1, 2, 5, 6] rfl ?_
 refine Tri.pick [1, 0] rfl rfl ?_
 refine Tri.rounds (fun n e' C' => ∃ (x5' : List (Int)) (x6' : Int), spec_l11Spread.l0 k n x5' x6' = some x5 ∧ SlLen v15_1 (x5').length ∧ e' = [(1, .int .i64 a1), (2, .pointer (some ⟨b2_1, 0, none⟩)), (5, v15_1), (6, .int .i64 x6')] ∧ C' = Sep w noM [R.box b2_1 66 [.int .i64 a0_0, va0_1, va0_2, va0_3], R.sl S15_1 v15_1 (x5' : List (Int))]) k ?_ ?_ ?_
 ·exact ⟨List.replicate (w64 (a0_0 * 64)).toNat (0 : Int), 0, hE_1, hl_v15_1, rfl, rfl⟩
 ·rintro _ _ ⟨_, _, hE_1, _⟩
  rw [spec_l11Spread.l0.eq_1] at hE_1; cases hE_1
 ·rintro n_1 _ _ ⟨x5, x6, hE_1, hl_x5, rfl, rfl⟩ ih_1
  rw [spec_l11Spread.l0.eq_2] at hE_1
  refine Tri.seq (Tri.seq (Tri.reg (l := [0, 1, 2, 3]) rfl ?_))
  refine F.qn rfl rfl rfl rfl (r_move rfl) ?_
  refine F.qn rfl rfl rfl rfl (r_move rfl) ?_
  refine F.qn rfl rfl rfl rfl (r_len Try.underlying25 rfl hl_x5) ?_
  refine F.qn rfl rfl rfl rfl (r_lss rfl rfl) ?_
  refine F.nil (Nrm.seq (Tri.cond (b := decide (x6 < (x5.length : Int))) rfl (fun g_1 => ?_) (fun g_1 => ?_)))
  ·replace hE_1 := if_tt g_1 hE_1
   refine Tri.skip (Nrm.seq (Tri.seq (Tri.block ?_)))
   obtain ⟨t24, h24, hE_1⟩ := bind_some hE_1
   refine Tri.reg (l := [0, 1, 2, 3]) rfl ?_
   refine F.qn rfl rfl rfl rfl (r_move rfl) ?_
   refine F.qn rfl rfl rfl rfl (r_move rfl) ?_
   refine F.qn rfl rfl rfl rfl (r_indexAddrS Try.underlying25 ti3 rfl hl_x5 rfl (rdl_some h24).1 (rdl_some h24).2.1) ?_
   refine F.ef0 rfl rfl (wanted_none rfl) (d_storeE (i := 1) (x1 := (-1)) ti3 rfl rfl rfl (rdl_some h24) rfl) ?_
   rintro _ _ ⟨rfl, rfl⟩
   refine F.nil (Nrm.block ?_)
   refine Nrm.seq (Tri.reg (l := [0, 1, 2]) rfl ?_)
   refine F.qn rfl rfl rfl rfl (r_move rfl) ?_
   refine F.qn rfl rfl rfl rfl (r_add rfl rfl) ?_
   refine F.qn rfl rfl rfl rfl (r_assign rfl) ?_
   refine F.nil (Nrm.round ?_)
   refine Rnd.only [1, 2, 5, 6] rfl ?_
   refine Rnd.pick [0, 1] rfl rfl ?_
   exact ih_1 _ _ ⟨x5.set x6.toNat (-1), w64 (x6 + 1), hE_1, (len_set hl_x5), rfl, rfl⟩
  ·replace hE_1 := if_ff g_1 hE_1
   refine Tri.exit ?_
   refine Exi.then ?_
   refine Exi.then ?_
   refine Exi.same ?_
   cases hE_1
   refine Nrm.seq (Tri.seq ?_)
   obtain ⟨t29, h29, h⟩ := bind_some h
   obtain ⟨t32, h32, h⟩ := bind_some h
   refine Tri.reg (l := [0, 1, 2, 3, 4, 5, 6, 7, 8, 9]) rfl ?_
   refine F.qn rfl rfl rfl rfl (r_move rfl) ?_
   refine F.qn rfl rfl rfl rfl (r_fieldAddr tf66_0 rfl) ?_
   refine F.qn rfl rfl rfl rfl (r_fieldAddr tf27_2 rfl) ?_
   refine F.qn rfl rfl rfl rfl (r_load ta25 rfl (fun w hw => cell_2 (box_cells (i := 0) rfl w hw) rfl)) ?_
   refine F.qn rfl rfl rfl rfl (r_indexAddrS Try.underlying25 ti3 rfl hl_va0_2 rfl (rdl_some h29).1 (rdl_some h29).2.1) ?_
   refine F.qn rfl rfl rfl rfl (r_load ta3 rfl (fun w hw => cell_0 (Rd.flat ((fun _ hw => hr_a0_2.sep hw) w hw) (rdl_some h29).2.2) rfl)) ?_
   refine F.qn rfl rfl rfl rfl (r_or rfl rfl) ?_
   refine F.qcn rfl rfl rfl rfl (q_callF (xs := _) rfl ok137 rfl rfl (fun w hw => spec_l4Id.ok h32 w )) ?_
   refine F.mn rfl rfl rfl rfl (m_buildF (l := ([t32] : List (Int))) Try.underlying25 ti3 rfl rfl rfl rfl rfl) ?_
   rintro v33_1 _ ⟨S33_1, hl_v33_1, rfl⟩
   refine F.qn rfl rfl rfl rfl (r_assign rfl) ?_
   refine F.nil (Nrm.seq (Tri.seq ?_))
   obtain ⟨t36, h36, h⟩ := bind_some h
   obtain ⟨t38, h38, h⟩ := bind_some h
   refine Tri.reg (l := [0, 1, 2, 3, 4, 5]) rfl ?_
   refine F.qn rfl rfl rfl rfl (r_move rfl) ?_
   refine F.qn rfl rfl rfl rfl (r_move rfl) ?_
   refine F.qn rfl rfl rfl rfl (r_indexAddrS Try.underlying25 ti3 rfl hl_v33_1 rfl (rdl_some h36).1 (rdl_some h36).2.1) ?_
   refine F.qn rfl rfl rfl rfl (r_load ta3 rfl (fun w hw => cell_0 (Rd.flat ((rd_sl (i := 0) rfl) w hw) (rdl_some h36).2.2) rfl)) ?_
   refine F.qn rfl rfl rfl rfl (r_indexAddrS Try.underlying25 ti3 rfl hl_x5 rfl (rdl_some h38).1 (rdl_some h38).2.1) ?_
   refine F.ef0 rfl rfl (wanted_none rfl) (d_storeE (i := 2) (x1 := 0) ti3 rfl rfl rfl (rdl_some h38) rfl) ?_
   rintro _ _ ⟨rfl, rfl⟩
   refine F.nil (Nrm.seq (Tri.seq (Tri.seq (Tri.reg (l := [0]) rfl ?_))))
   refine F.qn rfl rfl rfl rfl (r_assign rfl) ?_
   refine F.nil (Nrm.seq ?_)
   obtain ⟨x5r, hE_2, h⟩ := bind_some h
   refine Tri.block ?_
   refine Tri.only [2, 5, 7, 8] rfl ?_
   refine Tri.pick [1, 0, 2] rfl rfl ?_
   refine Tri.rounds (fun n e' C' => ∃ (x5r' : List (Int)) (x7' : List (Int)) (x8' : Int) (w5r : Value) (T5r : Nat → Prop) (w7 : Value) (T7 : Nat → Prop), spec_l11Spread.l1 k a0_0 a0_1 a0_2 a0_3 n x5r' x7' x8' = some x5r ∧ SlLen w5r (x5r').length ∧ SlLen w7 (x7').length ∧ e' = [(2, .pointer (some ⟨b2_1, 0, none⟩)), (5, w5r), (7, w7), (8, .int .i64 x8')] ∧ C' = Sep w noM [R.box b2_1 66 [.int .i64 a0_0, va0_1, va0_2, va0_3], R.sl T7 w7 (x7' : List (Int)), R.sl T5r w5r (x5r' : List (Int))]) k ?_ ?_ ?_
   ·exact ⟨x5.set t36.toNat 0, ([t32] : List (Int)), 0, v15_1, S15_1, v33_1, S33_1, hE_2, (len_set hl_x5), hl_v33_1, rfl, rfl⟩
   ·rintro _ _ ⟨_, _, _, _, _, _, _, hE_2, _⟩
    rw [spec_l11Spread.l1.eq_1] at hE_2; cases hE_2
   ·rintro n_2 _ _ ⟨x5r, x7, x8, w5r, T5r, w7, T7, hE_2, hl_w5r, hl_w7, rfl, rfl⟩ ih_2
    rw [spec_l11Spread.l1.eq_2] at hE_2
    refine Tri.seq (Tri.seq (Tri.reg (l := [0, 1, 2, 3]) rfl ?_))
    refine F.qn rfl rfl rfl rfl (r_move rfl) ?_
    refine F.qn rfl rfl rfl rfl (r_move rfl) ?_
    refine F.qn rfl rfl rfl rfl (r_len Try.underlying25 rfl hl_w7) ?_
    refine F.qn rfl rfl rfl rfl (r_lss rfl rfl) ?_
    refine F.nil (Nrm.seq (Tri.cond (b := decide (x8 < (x7.length : Int))) rfl (fun g_2 => ?_) (fun g_2 => ?_)))
    ·replace hE_2 := if_tt g_2 hE_2
     refine Tri.skip (Nrm.seq (Tri.seq (Tri.block ?_)))
     refine Tri.seq ?_
     obtain ⟨t48, h48, hE_2⟩ := bind_some hE_2
     obtain ⟨t53, h53, hE_2⟩ := bind_some hE_2
     obtain ⟨t56, h56, hE_2⟩ := bind_some hE_2
     refine Tri.drawA mixedT Sep.up [(0, true), (1, true), (2, true), (3, true), (4, true), (5, true), (6, true), (7, true), (8, true), (9, true), (10, true), (11, false), (12, true)] [] (by kernel_rfl) ?_
     refine S.qn rfl rfl rfl rfl (r_loadA ta66 ti66 rfl rfl (fun w hw => (box_cells (i := 0) rfl w hw))) ?_
     refine S.qn rfl rfl rfl rfl (r_move rfl) ?_
     refine S.qn rfl rfl rfl rfl (r_move rfl) ?_
     refine S.qn rfl rfl rfl rfl (r_indexAddrS Try.underlying25 ti3 rfl hl_w7 rfl (rdl_some h48).1 (rdl_some h48).2.1) ?_
     refine S.qn rfl rfl rfl rfl (r_load ta3 rfl (fun w hw => cell_0 (Rd.flat ((rd_sl (i := 1) rfl) w hw) (rdl_some h48).2.2) rfl)) ?_
     refine S.qn rfl rfl rfl rfl (r_quo rfl rfl (by decide)) ?_
     refine S.qn rfl rfl rfl rfl (r_move rfl) ?_
     refine S.qn rfl rfl rfl rfl (r_move rfl) ?_
     refine S.qn rfl rfl rfl rfl (r_indexAddrS Try.underlying25 ti3 rfl hl_w7 rfl (rdl_some h53).1 (rdl_some h53).2.1) ?_
     refine S.qn rfl rfl rfl rfl (r_load ta3 rfl (fun w hw => cell_0 (Rd.flat ((rd_sl (i := 1) rfl) w hw) (rdl_some h53).2.2) rfl)) ?_
     refine S.qn rfl rfl rfl rfl (r_rem rfl rfl (by decide)) ?_
     refine S.m rfl rfl rfl (wanted_none rfl) (m_callF (xs := _) rfl ok128 rfl rfl (fun w hw => spec_l11Step.ok h56 w ((fun _ hw => hr_a0_1.sep hw) w hw) ((fun _ hw => hr_a0_2.sep hw) w hw) ((fun _ hw => hr_a0_3.sep hw) w hw))) ?_
     rintro v56_2 _ ⟨_, ⟨S56_2, hl_v56_2, rfl⟩, rfl⟩
     refine S.qn rfl rfl rfl rfl (r_assign rfl) ?_
     refine S.nil (F.nil (Nrm.seq (Tri.seq (Tri.reg (l := [0]) rfl ?_))))
     refine F.qn rfl rfl rfl rfl (r_assign rfl) ?_
     refine F.nil (Nrm.seq ?_)
     obtain ⟨⟨x5rr, x7r⟩, hE_3, hE_2⟩ := bind_some hE_2
     refine Tri.block ?_
     refine Tri.only [2, 5, 7, 8, 9, 10] rfl ?_
     refine Tri.pick [1, 0, 2, 3] rfl rfl ?_
     refine Tri.rounds (fun n e' C' => ∃ (x5rr' : List (Int)) (x7r' : List (Int)) (x10' : Int) (w5rr : Value) (T5rr : Nat → Prop) (w7r : Value) (T7r : Nat → Prop), spec_l11Spread.l2 k x8 t56 n x5rr' x7r' x10' = some (x5rr, x7r) ∧ SlLen w5rr (x5rr').length ∧ SlLen w7r (x7r').length ∧ e' = [(2, .pointer (some ⟨b2_1, 0, none⟩)), (5, w5rr), (7, w7r), (8, .int .i64 x8), (9, v56_2), (10, .int .i64 x10')] ∧ C' = Sep w noM [R.box b2_1 66 [.int .i64 a0_0, va0_1, va0_2, va0_3], R.sl S56_2 v56_2 (t56 : List (Int)), R.sl T7r w7r (x7r' : List (Int)), R.sl T5rr w5rr (x5rr' : List (Int))]) k ?_ ?_ ?_
     ·exact ⟨x5r, x7, 0, w5r, T5r, w7, T7, hE_3, hl_w5r, hl_w7, rfl, rfl⟩
     ·rintro _ _ ⟨_, _, _, _, _, _, _, hE_3, _⟩
      rw [spec_l11Spread.l2.eq_1] at hE_3; cases hE_3
     ·rintro n_3 _ _ ⟨x5rr, x7r, x10, w5rr, T5rr, w7r, T7r, hE_3, hl_w5rr, hl_w7r, rfl, rfl⟩ ih_3
      rw [spec_l11Spread.l2.eq_2] at hE_3
      refine Tri.seq (Tri.seq (Tri.reg (l := [0, 1, 2, 3]) rfl ?_))
      refine F.qn rfl rfl rfl rfl (r_move rfl) ?_
      refine F.qn rfl rfl rfl rfl (r_move rfl) ?_
      refine F.qn rfl rfl rfl rfl (r_len Try.underlying25 rfl hl_v56_2) ?_
      refine F.qn rfl rfl rfl rfl (r_lss rfl rfl) ?_
      refine F.nil (Nrm.seq (Tri.cond (b := decide (x10 < (t56.length : Int))) rfl (fun g_3 => ?_) (fun g_3 => ?_)))
      ·replace hE_3 := if_tt g_3 hE_3
       refine Tri.skip (Nrm.seq (Tri.seq (Tri.block ?_)))
       refine Tri.seq ?_
       obtain ⟨t66, h66, hE_3⟩ := bind_some hE_3
       obtain ⟨t68, h68, hE_3⟩ := bind_some hE_3
       refine Tri.reg (l := [0, 1, 2, 3, 4, 5, 6, 7]) rfl ?_
       iterate 3 refine F.qn rfl rfl rfl rfl (r_move rfl) ?_
       refine F.qn rfl rfl rfl rfl (r_indexAddrS Try.underlying25 ti3 rfl hl_v56_2 rfl (rdl_some h66).1 (rdl_some h66).2.1) ?_
       refine F.qn rfl rfl rfl rfl (r_load ta3 rfl (fun w hw => cell_0 (Rd.flat ((rd_sl (i := 1) rfl) w hw) (rdl_some h66).2.2) rfl)) ?_
       refine F.qn rfl rfl rfl rfl (r_indexAddrS Try.underlying25 ti3 rfl hl_w5rr rfl (rdl_some h68).1 (rdl_some h68).2.1) ?_
       refine F.qn rfl rfl rfl rfl (r_load ta3 rfl (fun w hw => cell_0 (Rd.flat ((rd_sl (i := 3) rfl) w hw) (rdl_some h68).2.2) rfl)) ?_
       refine F.qn rfl rfl rfl rfl (r_lss rfl rfl) ?_
       refine F.nil (Nrm.seq ?_)
       obtain ⟨⟨y5, y7⟩, hE_4, hE_3⟩ := bind_some hE_3
       refine Tri.cut (fun e' C' => ∃ (v5_1 : Value) (S5_1 : Nat → Prop) (v7_1 : Value) (S7_1 : Nat → Prop), SlLen v5_1 (y5).length ∧ SlLen v7_1 (y7).length ∧ e' = [(2, .pointer (some ⟨b2_1, 0, none⟩)), (5, v5_1), (7, v7_1), (8, .int .i64 x8), (9, v56_2), (10, .int .i64 x10)] ∧ C' = Sep w noM [R.box b2_1 66 [.int .i64 a0_0, va0_1, va0_2, va0_3], R.sl S5_1 v5_1 (y5 : List (Int)), R.sl S7_1 v7_1 (y7 : List (Int)), R.sl S56_2 v56_2 (t56 : List (Int))]) ?_ (fun hj_1 => ?_)
       ·rintro _ _ ⟨v5_1, S5_1, v7_1, S7_1, hl_v5_1, hl_v7_1, rfl, rfl⟩
        refine Nrm.block ?_
        refine Nrm.seq (Tri.reg (l := [0, 1, 2]) rfl ?_)
        refine F.qn rfl rfl rfl rfl (r_move rfl) ?_
        refine F.qn rfl rfl rfl rfl (r_add rfl rfl) ?_
        refine F.qn rfl rfl rfl rfl (r_assign rfl) ?_
        refine F.nil (Nrm.round ?_)
        refine Rnd.only [2, 5, 7, 8, 9, 10] rfl ?_
        refine Rnd.pick [0, 3, 2, 1] rfl rfl ?_
        exact ih_3 _ _ ⟨y5, y7, w64 (x10 + 1), v5_1, S5_1, v7_1, S7_1, hE_3, hl_v5_1, hl_v7_1, rfl, rfl⟩
       ·refine Tri.cond (b := decide (t68 < 0)) rfl (fun g_4 => ?_) (fun g_4 => ?_)
        ·replace hE_4 := if_tt g_4 hE_4
         refine Tri.seq ?_
         obtain ⟨t74, h74, hE_4⟩ := bind_some hE_4
         obtain ⟨t79, h79, hE_4⟩ := bind_some hE_4
         obtain ⟨t81, h81, hE_4⟩ := bind_some hE_4
         obtain ⟨t84, h84, hE_4⟩ := bind_some hE_4
         refine Tri.drawA mixedT Sep.up [(0, true), (1, true), (2, true), (3, true), (4, true), (5, true), (6, true), (7, true), (8, true), (9, true), (10, true), (11, true), (12, true), (13, true)] [14] (by kernel_rfl) ?_
         iterate 3 refine S.qn rfl rfl rfl rfl (r_move rfl) ?_
         refine S.qn rfl rfl rfl rfl (r_indexAddrS Try.underlying25 ti3 rfl hl_v56_2 rfl (rdl_some h74).1 (rdl_some h74).2.1) ?_
         refine S.qn rfl rfl rfl rfl (r_load ta3 rfl (fun w hw => cell_0 (Rd.flat ((rd_sl (i := 1) rfl) w hw) (rdl_some h74).2.2) rfl)) ?_
         iterate 3 refine S.qn rfl rfl rfl rfl (r_move rfl) ?_
         refine S.qn rfl rfl rfl rfl (r_indexAddrS Try.underlying25 ti3 rfl hl_w7r rfl (rdl_some h79).1 (rdl_some h79).2.1) ?_
         refine S.qn rfl rfl rfl rfl (r_load ta3 rfl (fun w hw => cell_0 (Rd.flat ((rd_sl (i := 2) rfl) w hw) (rdl_some h79).2.2) rfl)) ?_
         refine S.qn rfl rfl rfl rfl (r_indexAddrS Try.underlying25 ti3 rfl hl_w5rr rfl (rdl_some h81).1 (rdl_some h81).2.1) ?_
         refine S.qn rfl rfl rfl rfl (r_load ta3 rfl (fun w hw => cell_0 (Rd.flat ((rd_sl (i := 3) rfl) w hw) (rdl_some h81).2.2) rfl)) ?_
         refine S.qn rfl rfl rfl rfl (r_add rfl rfl) ?_
         refine S.qn rfl rfl rfl rfl (r_indexAddrS Try.underlying25 ti3 rfl hl_w5rr rfl (rdl_some h84).1 (rdl_some h84).2.1) ?_
         refine S.nil (F.ef0 rfl rfl (wanted_none rfl) (d_storeE (i := 3) (x1 := w64 (t81 + 1)) ti3 rfl rfl rfl (rdl_some h84) rfl) ?_)
         rintro _ _ ⟨rfl, rfl⟩
         refine F.nil (Nrm.seq ?_)
         obtain ⟨t88, h88, hE_4⟩ := bind_some hE_4
         obtain ⟨hs91, hE_4⟩ := ck hE_4
         refine Tri.reg (l := [0, 1, 2, 3, 4, 5, 6, 7]) rfl ?_
         iterate 3 refine F.qn rfl rfl rfl rfl (r_move rfl) ?_
         refine F.qn rfl rfl rfl rfl (r_indexAddrS Try.underlying25 ti3 rfl hl_v56_2 rfl (rdl_some h88).1 (rdl_some h88).2.1) ?_
         refine F.qn rfl rfl rfl rfl (r_load ta3 rfl (fun w hw => cell_0 (Rd.flat ((rd_sl (i := 1) rfl) w hw) (rdl_some h88).2.2) rfl)) ?_
         refine F.mn rfl rfl rfl rfl (m_buildF (l := ([t88] : List (Int))) Try.underlying25 ti3 rfl rfl rfl rfl rfl) ?_
         rintro v90_1 _ ⟨S90_1, hl_v90_1, rfl⟩
         refine F.efn rfl rfl rfl rfl (d_append (i := 3) Try.underlying25 Try.underlying25 ti3 rfl (by decide) rfl rfl rfl (rd_sl (i := 0) rfl) hs91) ?_
         rintro v91_1 _ ⟨S91_1, rfl, hl_v91_1⟩
         refine F.qn rfl rfl rfl rfl (r_assign rfl) ?_
         refine F.nil ?_
         cases hE_4
         refine Nrm.only [2, 5, 7, 8, 9, 10] rfl ?_
         refine Nrm.pick [1, 4, 3, 2] rfl rfl ?_
         exact hj_1 _ _ ⟨w5rr, T5rr, v91_1, S91_1, (len_set hl_w5rr), hl_v91_1, rfl, rfl⟩
        ·replace hE_4 := if_ff g_4 hE_4
         refine Tri.skip ?_
         cases hE_4
         refine Nrm.only [2, 5, 7, 8, 9, 10] rfl ?_
         refine Nrm.pick [0, 3, 2, 1] rfl rfl ?_
         exact hj_1 _ _ ⟨w5rr, T5rr, w7r, T7r, hl_w5rr, hl_w7r, rfl, rfl⟩
      ·replace hE_3 := if_ff g_3 hE_3
       refine Tri.exit ?_
       refine Exi.then ?_
       refine Exi.then ?_
       refine Exi.same ?_
       cases hE_3
       refine Nrm.block ?_
       refine Nrm.seq (Tri.reg (l := [0, 1, 2]) rfl ?_)
       refine F.qn rfl rfl rfl rfl (r_move rfl) ?_
       refine F.qn rfl rfl rfl rfl (r_add rfl rfl) ?_
       refine F.qn rfl rfl rfl rfl (r_assign rfl) ?_
       refine F.nil (Nrm.round ?_)
       refine Rnd.only [2, 5, 7, 8] rfl ?_
       refine Rnd.pick [0, 2, 3] rfl rfl ?_
       exact ih_2 _ _ ⟨x5rr, x7r, w64 (x8 + 1), w5rr, T5rr, w7r, T7r, hE_2, hl_w5rr, hl_w7r, rfl, rfl⟩
    ·replace hE_2 := if_ff g_2 hE_2
     refine Tri.exit ?_
     refine Exi.then ?_
     refine Exi.then ?_
     refine Exi.same ?_
     cases hE_2
     refine Nrm.seq (Tri.seq (Tri.reg (l := [0, 1]) rfl ?_))
     refine F.qn rfl rfl rfl rfl (r_move rfl) ?_
     refine F.qn rfl rfl rfl rfl (r_assign rfl) ?_
     refine F.nil (Nrm.seq (Tri.ret ?_))
     cases h
     exact Rtn.body (.tmp rfl .nil) (fun w hw => ⟨_, _, rfl, ⟨T5r, hl_w5r, rfl⟩, Sep.pick (is := [2]) rfl rfl hw⟩)


def spec_l11Lost.l0 (k : Nat) (a1 : List Bool) (t13 : List Int) : Nat → (List (Int)) → Int → Option ((List (Int)))
 | 0, _, _ => none
 | n + 1, x7, x9 => (if (decide (x9 < (t13.length : Int))) = true then ((rdl t13 x9).bind fun t22 => (if (decide (t22 ≥ 0)) = true then (rdl a1 x9).bind fun t28 => some (!t28) else some false)).bind fun y31 => ((if y31 = true then if (x7 ++ ([x9] : List (Int))).length < 1099511627776 then some (x7 ++ ([x9] : List (Int))) else none else some x7)).bind fun y7 => spec_l11Lost.l0 k a1 t13 n y7 (w64 (x9 + 1)) else some x7)

def spec_l11Lost.f (k : Nat) (a0_0 : Int) (a0_1 : List (Int × Int × Int)) (a0_2 : List Int) (a0_3 : List Int) (a1 : List Bool) (a2 : Int) : Option ((List Int)) := (spec_l11Spread.f k a0_0 a0_1 a0_2 a0_3 a2).bind fun t13 => (spec_l11Lost.l0 k a1 t13 k ([] : List (Int)) 0).bind fun x7 => some x7

theorem spec_l11Lost.ok {k : Nat}  {a0_0 : Int} {a0_1 : List (Int × Int × Int)} {a0_2 : List Int} {a0_3 : List Int} {a1 : List Bool} {a2 : Int} {r0 : List Int} (h : spec_l11Lost.f k a0_0 a0_1 a0_2 a0_3 a1 a2 = some r0) (w : World) {va0_1 : Value} {va0_2 : Value} {va0_3 : Value} {va1 : Value} (hr_a0_1 : Rd w va0_1 a0_1) (hr_a0_2 : Rd w va0_2 a0_2) (hr_a0_3 : Rd w va0_3 a0_3) (hr_a1 : Rd w va1 a1) :
  Calls Try.prog 142 ([.agg ([.int .i64 a0_0, va0_1, va0_2, va0_3].toArray), va1, .int .i64 a2] : List Value).toArray w (Post (fun u ns => ∃ (Sr0 : Nat → Prop), SlLen u r0.length ∧ ns = [R.sl Sr0 u r0]) w) := by
 unfold spec_l11Lost.f at h
 have hl_va0_1 := hr_a0_1.len
 have hl_va0_2 := hr_a0_2.len
 have hl_va0_3 := hr_a0_3.len
 have hl_va1 := hr_a1.len
 refine Calls.of_tri (N := 37) Try.func142 rfl rfl rfl (Sep.nil (M := noM)) ?_
 refine Tri.seq (Tri.reg (l := [0, 1]) rfl ?_)
 refine F.mn rfl rfl rfl rfl (m_boxG rfl rfl) ?_
 rintro _ _ ⟨b3_1, rfl, rfl⟩
 refine F.qn rfl rfl rfl rfl (r_assign rfl) ?_
 refine F.nil (Nrm.seq (Tri.seq ?_))
 obtain ⟨t13, h13, h⟩ := bind_some h
 refine Tri.reg (l := [0, 1, 2, 3, 4, 5]) rfl ?_
 refine F.mn rfl rfl rfl rfl (m_build0 (α := Int) Try.underlying25 ti3) ?_
 rintro v10_1 _ ⟨S10_1, hl_v10_1, rfl⟩
 refine F.qn rfl rfl rfl rfl (r_loadA ta66 ti66 rfl rfl (fun w hw => (box_cells (i := 1) rfl w hw))) ?_
 refine F.qn rfl rfl rfl rfl (r_move rfl) ?_
 refine F.mn rfl rfl rfl rfl (m_callF (xs := _) rfl ok194 rfl rfl (fun w hw => spec_l11Spread.ok h13 w ((fun _ hw => hr_a0_1.sep hw) w hw) ((fun _ hw => hr_a0_2.sep hw) w hw) ((fun _ hw => hr_a0_3.sep hw) w hw))) ?_
 rintro v13_1 _ ⟨_, ⟨S13_1, hl_v13_1, rfl⟩, rfl⟩
 refine F.qn rfl rfl rfl rfl (r_assign rfl) ?_
 refine F.qn rfl rfl rfl rfl (r_assign rfl) ?_
 refine F.nil (Nrm.seq (Tri.seq (Tri.seq (Tri.reg (l := [0]) rfl ?_))))
 refine F.qn rfl rfl rfl rfl (r_assign rfl) ?_
 refine F.nil (Nrm.seq ?_)
 obtain ⟨x7, hE_1, h⟩ := bind_some h
 refine Tri.block ?_
 refine Tri.only [1, 7, 8, 9] rfl ?_
 refine Tri.pick [0, 1] rfl rfl ?_
 refine Tri.rounds (fun n e' C' => ∃ (x7' : List (Int)) (x9' : Int) (w7 : Value) (T7 : Nat → Prop), spec_l11Lost.l0 k a1 t13 n x7' x9' = some x7 ∧ SlLen w7 (x7').length ∧ e' = [(1, va1), (7, w7), (8, v13_1), (9, .int .i64 x9')] ∧ C' = Sep w noM [R.sl S13_1 v13_1 (t13 : List (Int)), R.sl T7 w7 (x7' : List (Int))]) k ?_ ?_ ?_
 ·exact ⟨([] : List (Int)), 0, v10_1, S10_1, hE_1, hl_v10_1, rfl, rfl⟩
 ·rintro _ _ ⟨_, _, _, _, hE_1, _⟩
  rw [spec_l11Lost.l0.eq_1] at hE_1; cases hE_1
 ·rintro n_1 _ _ ⟨x7, x9, w7, T7, hE_1, hl_w7, rfl, rfl⟩ ih_1
  rw [spec_l11Lost.l0.eq_2] at hE_1
  refine Tri.seq (Tri.seq (Tri.reg (l := [0, 1, 2, 3]) rfl ?_))
  refine F.qn rfl rfl rfl rfl (r_move rfl) ?_
  refine F.qn rfl rfl rfl rfl (r_move rfl) ?_
  refine F.qn rfl rfl rfl rfl (r_len Try.underlying25 rfl hl_v13_1) ?_
  refine F.qn rfl rfl rfl rfl (r_lss rfl rfl) ?_
  refine F.nil (Nrm.seq (Tri.cond (b := decide (x9 < (t13.length : Int))) rfl (fun g_1 => ?_) (fun g_1 => ?_)))
  ·replace hE_1 := if_tt g_1 hE_1
   refine Tri.skip (Nrm.seq (Tri.seq (Tri.block ?_)))
   refine Tri.seq ?_
   obtain ⟨y31, hE_2, hE_1⟩ := bind_some hE_1
   refine Tri.cut (fun e' C' => e' = [(1, va1), (7, w7), (8, v13_1), (9, .int .i64 x9), (31, .bool y31)] ∧ C' = Sep w noM [R.sl S13_1 v13_1 (t13 : List (Int)), R.sl T7 w7 (x7 : List (Int))]) ?_ (fun hj_1 => ?_)
   ·rintro _ _ ⟨rfl, rfl⟩
    refine Nrm.seq ?_
    obtain ⟨y7, hE_3, hE_1⟩ := bind_some hE_1
    refine Tri.cut (fun e' C' => ∃ (v7_1 : Value) (S7_1 : Nat → Prop), SlLen v7_1 (y7).length ∧ e' = [(1, va1), (7, v7_1), (8, v13_1), (9, .int .i64 x9)] ∧ C' = Sep w noM [R.sl S7_1 v7_1 (y7 : List (Int)), R.sl S13_1 v13_1 (t13 : List (Int))]) ?_ (fun hj_2 => ?_)
    ·rintro _ _ ⟨v7_1, S7_1, hl_v7_1, rfl, rfl⟩
     refine Nrm.block ?_
     refine Nrm.seq (Tri.reg (l := [0, 1, 2]) rfl ?_)
     refine F.qn rfl rfl rfl rfl (r_move rfl) ?_
     refine F.qn rfl rfl rfl rfl (r_add rfl rfl) ?_
     refine F.qn rfl rfl rfl rfl (r_assign rfl) ?_
     refine F.nil (Nrm.round ?_)
     refine Rnd.only [1, 7, 8, 9] rfl ?_
     refine Rnd.pick [1, 0] rfl rfl ?_
     exact ih_1 _ _ ⟨y7, w64 (x9 + 1), v7_1, S7_1, hE_1, hl_v7_1, rfl, rfl⟩
    ·refine Tri.cond (b := y31) rfl (fun g_2 => ?_) (fun g_2 => ?_)
     ·replace hE_3 := if_tt g_2 hE_3
      obtain ⟨hs35, hE_3⟩ := ck hE_3
      refine Tri.reg (l := [0, 1, 2, 3, 4]) rfl ?_
      refine F.qn rfl rfl rfl rfl (r_move rfl) ?_
      refine F.qn rfl rfl rfl rfl (r_move rfl) ?_
      refine F.mn rfl rfl rfl rfl (m_buildF (l := ([x9] : List (Int))) Try.underlying25 ti3 rfl rfl rfl rfl rfl) ?_
      rintro v34_1 _ ⟨S34_1, hl_v34_1, rfl⟩
      refine F.efn rfl rfl rfl rfl (d_append (i := 2) Try.underlying25 Try.underlying25 ti3 rfl (by decide) rfl rfl rfl (rd_sl (i := 0) rfl) hs35) ?_
      rintro v35_1 _ ⟨S35_1, rfl, hl_v35_1⟩
      refine F.qn rfl rfl rfl rfl (r_assign rfl) ?_
      refine F.nil ?_
      cases hE_3
      refine Nrm.only [1, 7, 8, 9] rfl ?_
      refine Nrm.pick [2, 1] rfl rfl ?_
      exact hj_2 _ _ ⟨v35_1, S35_1, hl_v35_1, rfl, rfl⟩
     ·replace hE_3 := if_ff g_2 hE_3
      refine Tri.skip ?_
      cases hE_3
      refine Nrm.only [1, 7, 8, 9] rfl ?_
      refine Nrm.pick [1, 0] rfl rfl ?_
      exact hj_2 _ _ ⟨w7, T7, hl_w7, rfl, rfl⟩
   ·obtain ⟨t22, h22, hE_2⟩ := bind_some hE_2
    rcases Bool.eq_false_or_eq_true (decide (t22 ≥ 0)) with g25 | g25
    ·replace hE_2 := if_tt g25 hE_2
     obtain ⟨t28, h28, hE_2⟩ := bind_some hE_2
     refine Tri.reg (l := List.range 12) rfl ?_
     refine F.qn rfl rfl rfl rfl (r_move rfl) ?_
     refine F.qn rfl rfl rfl rfl (r_move rfl) ?_
     refine F.qn rfl rfl rfl rfl (r_indexAddrS Try.underlying25 ti3 rfl hl_v13_1 rfl (rdl_some h22).1 (rdl_some h22).2.1) ?_
     refine F.qn rfl rfl rfl rfl (r_load ta3 rfl (fun w hw => cell_0 (Rd.flat ((rd_sl (i := 0) rfl) w hw) (rdl_some h22).2.2) rfl)) ?_
     refine F.qn rfl rfl rfl rfl (r_geq rfl rfl) ?_
     refine F.qn rfl rfl rfl rfl (r_move rfl) ?_
     refine F.qg rfl rfl rfl rfl rfl rfl g25 (r_move rfl) ?_
     refine F.qg rfl rfl rfl rfl rfl rfl g25 (r_move rfl) ?_
     refine F.qg rfl rfl rfl rfl rfl rfl g25 (r_indexAddrS Try.underlying129 ti4 rfl hl_va1 rfl (rdl_some h28).1 (rdl_some h28).2.1) ?_
     refine F.qg rfl rfl rfl rfl rfl rfl g25 (r_load ta4 rfl (fun w hw => cell_0 (Rd.flat ((fun _ hw => hr_a1.sep hw) w hw) (rdl_some h28).2.2) rfl)) ?_
     refine F.qg rfl rfl rfl rfl rfl rfl g25 (r_not rfl) ?_
     refine F.qn rfl rfl rfl rfl (r_pick rfl rfl g25) ?_
     refine F.nil ?_
     cases hE_2
     refine Nrm.only [1, 7, 8, 9, 31] rfl ?_
     refine Nrm.pick [0, 1] rfl rfl ?_
     exact hj_1 _ _ ⟨rfl, rfl⟩
    ·replace hE_2 := if_ff g25 hE_2
     refine Tri.reg (l := List.range 12) rfl ?_
     refine F.qn rfl rfl rfl rfl (r_move rfl) ?_
     refine F.qn rfl rfl rfl rfl (r_move rfl) ?_
     refine F.qn rfl rfl rfl rfl (r_indexAddrS Try.underlying25 ti3 rfl hl_v13_1 rfl (rdl_some h22).1 (rdl_some h22).2.1) ?_
     refine F.qn rfl rfl rfl rfl (r_load ta3 rfl (fun w hw => cell_0 (Rd.flat ((rd_sl (i := 0) rfl) w hw) (rdl_some h22).2.2) rfl)) ?_
     refine F.qn rfl rfl rfl rfl (r_geq rfl rfl) ?_
     refine F.qn rfl rfl rfl rfl (r_move rfl) ?_
     iterate 5 refine F.sk rfl rfl rfl (wf rfl rfl rfl g25) ?_
     refine F.qn rfl rfl rfl rfl (r_pickf rfl rfl g25) ?_
     refine F.nil ?_
     cases hE_2
     refine Nrm.only [1, 7, 8, 9, 31] rfl ?_
     refine Nrm.pick [0, 1] rfl rfl ?_
     exact hj_1 _ _ ⟨rfl, rfl⟩
  ·replace hE_1 := if_ff g_1 hE_1
   refine Tri.exit ?_
   refine Exi.then ?_
   refine Exi.then ?_
   refine Exi.same ?_
   cases hE_1
   refine Nrm.seq (Tri.seq (Tri.reg (l := [0, 1]) rfl ?_))
   refine F.qn rfl rfl rfl rfl (r_move rfl) ?_
   refine F.qn rfl rfl rfl rfl (r_assign rfl) ?_
   refine F.nil (Nrm.seq (Tri.ret ?_))
   cases h
   exact Rtn.body (.tmp rfl .nil) (fun w hw => ⟨_, _, rfl, ⟨T7, hl_w7, rfl⟩, Sep.pick (is := [1]) rfl rfl hw⟩)


def spec_TrapFreeSets.l0 (k : Nat) (a0_0 : Int) (a0_1 : List (Int × Int × Int)) (a0_2 : List Int) (a0_3 : List Int) (t13 : List Bool) : Nat → (List (Int)) → Int → Option ((List (Int)))
 | 0, _, _ => none
 | n + 1, x4, x6 => (if (decide (x6 < 64)) = true then (spec_l11Lost.f k a0_0 a0_1 a0_2 a0_3 t13 x6).bind fun t21 => ((if ((t21.length : Int) == 0) = true then if (x4 ++ ([x6] : List (Int))).length < 1099511627776 then some (x4 ++ ([x6] : List (Int))) else none else some x4)).bind fun y4 => spec_TrapFreeSets.l0 k a0_0 a0_1 a0_2 a0_3 t13 n y4 (w64 (x6 + 1)) else some x4)

def spec_TrapFreeSets.f (k : Nat) (a0_0 : Int) (a0_1 : List (Int × Int × Int)) (a0_2 : List Int) (a0_3 : List Int) : Option ((List Int) × Bool) := (spec_l11Trap.f k a0_0 a0_1 a0_2 a0_3).bind fun t9 => (if (!t9) = true then some (([] : List (Int)), false) else (spec_l11Good.f k a0_0 a0_1 a0_2 a0_3).bind fun t13 => (spec_TrapFreeSets.l0 k a0_0 a0_1 a0_2 a0_3 t13 k ([] : List (Int)) 0).bind fun x4 => some (x4, true))

theorem spec_TrapFreeSets.ok {k : Nat}  {a0_0 : Int} {a0_1 : List (Int × Int × Int)} {a0_2 : List Int} {a0_3 : List Int} {r0 : List Int} {r1 : Bool} (h : spec_TrapFreeSets.f k a0_0 a0_1 a0_2 a0_3 = some (r0, r1)) (w : World) {va0_1 : Value} {va0_2 : Value} {va0_3 : Value} (hr_a0_1 : Rd w va0_1 a0_1) (hr_a0_2 : Rd w va0_2 a0_2) (hr_a0_3 : Rd w va0_3 a0_3) :
  Calls Try.prog 61 ([.agg ([.int .i64 a0_0, va0_1, va0_2, va0_3].toArray)] : List Value).toArray w (Post (fun u ns => ∃ (ur0 : Value) (Sr0 : Nat → Prop), u = .tuple #[ur0, .bool r1] ∧ SlLen ur0 r0.length ∧ ns = [R.sl Sr0 ur0 r0]) w) := by
 unfold spec_TrapFreeSets.f at h
 have hl_va0_1 := hr_a0_1.len
 have hl_va0_2 := hr_a0_2.len
 have hl_va0_3 := hr_a0_3.len
 refine Calls.of_tri (N := 29) Try.func61 rfl rfl rfl (Sep.nil (M := noM)) ?_
 refine Tri.seq (Tri.reg (l := [0, 1, 2]) rfl ?_)
 refine F.mn rfl rfl rfl rfl (m_boxG rfl rfl) ?_
 rintro _ _ ⟨b1_1, rfl, rfl⟩
 refine F.qn rfl rfl rfl rfl (r_assign rfl) ?_
 refine F.qn rfl rfl rfl rfl (r_assign rfl) ?_
 refine F.nil (Nrm.seq (Tri.seq (Tri.reg (l := [0, 1]) rfl ?_)))
 refine F.mn rfl rfl rfl rfl (m_build0 (α := Int) Try.underlying25 ti3) ?_
 rintro v7_1 _ ⟨S7_1, hl_v7_1, rfl⟩
 refine F.qn rfl rfl rfl rfl (r_assign rfl) ?_
 refine F.nil (Nrm.seq (Tri.seq (Tri.seq ?_)))
 obtain ⟨t9, h9, h⟩ := bind_some h
 refine Tri.reg (l := [0, 1, 2]) rfl ?_
 refine F.qn rfl rfl rfl rfl (r_loadA ta66 ti66 rfl rfl (fun w hw => (box_cells (i := 1) rfl w hw))) ?_
 refine F.qcn rfl rfl rfl rfl (q_callF (xs := _) rfl ok131 rfl rfl (fun w hw => spec_l11Trap.ok h9 w ((fun _ hw => hr_a0_1.sep hw) w hw) ((fun _ hw => hr_a0_2.sep hw) w hw) ((fun _ hw => hr_a0_3.sep hw) w hw))) ?_
 refine F.qn rfl rfl rfl rfl (r_not rfl) ?_
 refine F.nil (Nrm.seq (Tri.cond (b := !t9) rfl (fun g_1 => ?_) (fun g_1 => ?_)))
 ·replace h := if_tt g_1 h
  refine Tri.seq (Tri.reg (l := [0, 1, 2]) rfl ?_)
  refine F.qn rfl rfl rfl rfl (r_move rfl) ?_
  refine F.qn rfl rfl rfl rfl (r_assign rfl) ?_
  refine F.qn rfl rfl rfl rfl (r_assign rfl) ?_
  refine F.nil (Nrm.seq (Tri.ret ?_))
  refine Rtn.then ?_
  cases h
  exact Rtn.body (.tmp rfl (.tmp rfl .nil)) (fun w hw => ⟨_, _, rfl, ⟨v7_1, S7_1, rfl, hl_v7_1, rfl⟩, Sep.pick (is := [0]) rfl rfl hw⟩)
 ·replace h := if_ff g_1 h
  refine Tri.skip (Nrm.seq (Tri.seq ?_))
  obtain ⟨t13, h13, h⟩ := bind_some h
  refine Tri.reg (l := [0, 1, 2]) rfl ?_
  refine F.qn rfl rfl rfl rfl (r_loadA ta66 ti66 rfl rfl (fun w hw => (box_cells (i := 1) rfl w hw))) ?_
  refine F.mn rfl rfl rfl rfl (m_callF (xs := _) rfl ok127 rfl rfl (fun w hw => spec_l11Good.ok h13 w ((fun _ hw => hr_a0_1.sep hw) w hw) ((fun _ hw => hr_a0_2.sep hw) w hw) ((fun _ hw => hr_a0_3.sep hw) w hw))) ?_
  rintro v13_1 _ ⟨_, ⟨S13_1, hl_v13_1, rfl⟩, rfl⟩
  refine F.qn rfl rfl rfl rfl (r_assign rfl) ?_
  refine F.nil (Nrm.seq (Tri.seq (Tri.seq (Tri.reg (l := [0]) rfl ?_))))
  refine F.qn rfl rfl rfl rfl (r_assign rfl) ?_
  refine F.nil (Nrm.seq ?_)
  obtain ⟨x4, hE_1, h⟩ := bind_some h
  refine Tri.block ?_
  refine Tri.only [1, 4, 5, 6] rfl ?_
  refine Tri.pick [2, 0, 1] rfl rfl ?_
  refine Tri.rounds (fun n e' C' => ∃ (x4' : List (Int)) (x6' : Int) (w4 : Value) (T4 : Nat → Prop), spec_TrapFreeSets.l0 k a0_0 a0_1 a0_2 a0_3 t13 n x4' x6' = some x4 ∧ SlLen w4 (x4').length ∧ e' = [(1, .pointer (some ⟨b1_1, 0, none⟩)), (4, w4), (5, v13_1), (6, .int .i64 x6')] ∧ C' = Sep w noM [R.box b1_1 66 [.int .i64 a0_0, va0_1, va0_2, va0_3], R.sl S13_1 v13_1 (t13 : List (Bool)), R.sl T4 w4 (x4' : List (Int))]) k ?_ ?_ ?_
  ·exact ⟨([] : List (Int)), 0, v7_1, S7_1, hE_1, hl_v7_1, rfl, rfl⟩
  ·rintro _ _ ⟨_, _, _, _, hE_1, _⟩
   rw [spec_TrapFreeSets.l0.eq_1] at hE_1; cases hE_1
  ·rintro n_1 _ _ ⟨x4, x6, w4, T4, hE_1, hl_w4, rfl, rfl⟩ ih_1
   rw [spec_TrapFreeSets.l0.eq_2] at hE_1
   refine Tri.seq (Tri.seq (Tri.reg (l := [0, 1]) rfl ?_))
   refine F.qn rfl rfl rfl rfl (r_move rfl) ?_
   refine F.qn rfl rfl rfl rfl (r_lss rfl rfl) ?_
   refine F.nil (Nrm.seq (Tri.cond (b := decide (x6 < 64)) rfl (fun g_2 => ?_) (fun g_2 => ?_)))
   ·replace hE_1 := if_tt g_2 hE_1
    refine Tri.skip (Nrm.seq (Tri.seq (Tri.block ?_)))
    refine Tri.seq ?_
    obtain ⟨t21, h21, hE_1⟩ := bind_some hE_1
    refine Tri.reg (l := [0, 1, 2, 3, 4, 5]) rfl ?_
    refine F.qn rfl rfl rfl rfl (r_loadA ta66 ti66 rfl rfl (fun w hw => (box_cells (i := 0) rfl w hw))) ?_
    refine F.qn rfl rfl rfl rfl (r_move rfl) ?_
    refine F.qn rfl rfl rfl rfl (r_move rfl) ?_
    refine F.mn rfl rfl rfl rfl (m_callF (xs := _) rfl ok142 rfl rfl (fun w hw => spec_l11Lost.ok h21 w ((fun _ hw => hr_a0_1.sep hw) w hw) ((fun _ hw => hr_a0_2.sep hw) w hw) ((fun _ hw => hr_a0_3.sep hw) w hw) ((rd_sl (i := 1) rfl) w hw))) ?_
    rintro v21_1 _ ⟨_, ⟨S21_1, hl_v21_1, rfl⟩, rfl⟩
    refine F.qn rfl rfl rfl rfl (r_len Try.underlying25 rfl hl_v21_1) ?_
    refine F.qn rfl rfl rfl rfl (r_eql rfl rfl) ?_
    refine F.nil (Nrm.seq ?_)
    obtain ⟨y4, hE_2, hE_1⟩ := bind_some hE_1
    refine Tri.cut (fun e' C' => ∃ (v4_1 : Value) (S4_1 : Nat → Prop), SlLen v4_1 (y4).length ∧ e' = [(1, .pointer (some ⟨b1_1, 0, none⟩)), (4, v4_1), (5, v13_1), (6, .int .i64 x6)] ∧ C' = Sep w noM [R.box b1_1 66 [.int .i64 a0_0, va0_1, va0_2, va0_3], R.sl S4_1 v4_1 (y4 : List (Int)), R.sl S13_1 v13_1 (t13 : List (Bool))]) ?_ (fun hj_1 => ?_)
    ·rintro _ _ ⟨v4_1, S4_1, hl_v4_1, rfl, rfl⟩
     refine Nrm.block ?_
     refine Nrm.seq (Tri.reg (l := [0, 1, 2]) rfl ?_)
     refine F.qn rfl rfl rfl rfl (r_move rfl) ?_
     refine F.qn rfl rfl rfl rfl (r_add rfl rfl) ?_
     refine F.qn rfl rfl rfl rfl (r_assign rfl) ?_
     refine F.nil (Nrm.round ?_)
     refine Rnd.only [1, 4, 5, 6] rfl ?_
     refine Rnd.pick [0, 2, 1] rfl rfl ?_
     exact ih_1 _ _ ⟨y4, w64 (x6 + 1), v4_1, S4_1, hE_1, hl_v4_1, rfl, rfl⟩
    ·refine Tri.cond (b := (t21.length : Int) == 0) rfl (fun g_3 => ?_) (fun g_3 => ?_)
     ·replace hE_2 := if_tt g_3 hE_2
      obtain ⟨hs27, hE_2⟩ := ck hE_2
      refine Tri.reg (l := [0, 1, 2, 3, 4]) rfl ?_
      refine F.qn rfl rfl rfl rfl (r_move rfl) ?_
      refine F.qn rfl rfl rfl rfl (r_move rfl) ?_
      refine F.mn rfl rfl rfl rfl (m_buildF (l := ([x6] : List (Int))) Try.underlying25 ti3 rfl rfl rfl rfl rfl) ?_
      rintro v26_1 _ ⟨S26_1, hl_v26_1, rfl⟩
      refine F.efn rfl rfl rfl rfl (d_append (i := 4) Try.underlying25 Try.underlying25 ti3 rfl (by decide) rfl rfl rfl (rd_sl (i := 0) rfl) hs27) ?_
      rintro v27_1 _ ⟨S27_1, rfl, hl_v27_1⟩
      refine F.qn rfl rfl rfl rfl (r_assign rfl) ?_
      refine F.nil ?_
      cases hE_2
      refine Nrm.only [1, 4, 5, 6] rfl ?_
      refine Nrm.pick [2, 4, 3] rfl rfl ?_
      exact hj_1 _ _ ⟨v27_1, S27_1, hl_v27_1, rfl, rfl⟩
     ·replace hE_2 := if_ff g_3 hE_2
      refine Tri.skip ?_
      cases hE_2
      refine Nrm.only [1, 4, 5, 6] rfl ?_
      refine Nrm.pick [1, 3, 2] rfl rfl ?_
      exact hj_1 _ _ ⟨w4, T4, hl_w4, rfl, rfl⟩
   ·replace hE_1 := if_ff g_2 hE_1
    refine Tri.exit ?_
    refine Exi.then ?_
    refine Exi.then ?_
    refine Exi.same ?_
    cases hE_1
    refine Nrm.seq (Tri.seq (Tri.reg (l := [0, 1, 2]) rfl ?_))
    refine F.qn rfl rfl rfl rfl (r_move rfl) ?_
    refine F.qn rfl rfl rfl rfl (r_assign rfl) ?_
    refine F.qn rfl rfl rfl rfl (r_assign rfl) ?_
    refine F.nil (Nrm.seq (Tri.ret ?_))
    cases h
    exact Rtn.body (.tmp rfl (.tmp rfl .nil)) (fun w hw => ⟨_, _, rfl, ⟨w4, T4, rfl, hl_w4, rfl⟩, Sep.pick (is := [2]) rfl rfl hw⟩)


def impl_CountMet.f (k : Nat) (a0_0 : Int) (a0_1 : List (Int × Int × Int)) (a0_2 : List Int) (a0_3 : List Int) : Option (Int × Int × Bool) := (impl_IsTrap.f k a0_0 a0_1 a0_2 a0_3).bind fun t8 => (if (!t8) = true then some (0, 0, false) else (impl_lostStates.f k a0_0 a0_1 a0_2 a0_3 0).bind fun (t12_1, t12_2) => some (t12_2, (t12_1.length : Int), true))

theorem impl_CountMet.ok {k : Nat}  {a0_0 : Int} {a0_1 : List (Int × Int × Int)} {a0_2 : List Int} {a0_3 : List Int} {r0 : Int} {r1 : Int} {r2 : Bool} (h : impl_CountMet.f k a0_0 a0_1 a0_2 a0_3 = some (r0, r1, r2)) (w : World) {va0_1 : Value} {va0_2 : Value} {va0_3 : Value} (hr_a0_1 : Rd w va0_1 a0_1) (hr_a0_2 : Rd w va0_2 a0_2) (hr_a0_3 : Rd w va0_3 a0_3) :
  Calls Try.prog 62 ([.agg ([.int .i64 a0_0, va0_1, va0_2, va0_3].toArray)] : List Value).toArray w (fun e w' => e = .returned (.tuple #[.int .i64 r0, .int .i64 r1, .bool r2]) ∧ Ext w w') := by
 unfold impl_CountMet.f at h
 have hl_va0_1 := hr_a0_1.len
 have hl_va0_2 := hr_a0_2.len
 have hl_va0_3 := hr_a0_3.len
 refine Calls.of_tri (N := 18) Try.func62 rfl rfl rfl (Sep.nil (M := noM)) ?_
 refine Tri.seq (Tri.reg (l := [0, 1, 2, 3]) rfl ?_)
 refine F.mn rfl rfl rfl rfl (m_boxG rfl rfl) ?_
 rintro _ _ ⟨b1_1, rfl, rfl⟩
 iterate 3 refine F.qn rfl rfl rfl rfl (r_assign rfl) ?_
 refine F.nil (Nrm.seq (Tri.seq (Tri.seq ?_)))
 obtain ⟨t8, h8, h⟩ := bind_some h
 refine Tri.reg (l := [0, 1, 2]) rfl ?_
 refine F.qn rfl rfl rfl rfl (r_loadA ta66 ti66 rfl rfl (fun w hw => (box_cells (i := 0) rfl w hw))) ?_
 refine F.qcn rfl rfl rfl rfl (q_callF (xs := _) rfl ok129 rfl rfl (fun w hw => impl_IsTrap.ok h8 w ((fun _ hw => hr_a0_1.sep hw) w hw) ((fun _ hw => hr_a0_2.sep hw) w hw) ((fun _ hw => hr_a0_3.sep hw) w hw))) ?_
 refine F.qn rfl rfl rfl rfl (r_not rfl) ?_
 refine F.nil (Nrm.seq (Tri.cond (b := !t8) rfl (fun g_1 => ?_) (fun g_1 => ?_)))
 ·replace h := if_tt g_1 h
  refine Tri.seq (Tri.reg (l := [0, 1, 2]) rfl ?_)
  iterate 3 refine F.qn rfl rfl rfl rfl (r_assign rfl) ?_
  refine F.nil (Nrm.seq (Tri.ret ?_))
  refine Rtn.then ?_
  cases h
  exact Rtn.body (.tmp rfl (.tmp rfl (.tmp rfl .nil))) (fun w hw => ⟨rfl, hw.ext⟩)
 ·replace h := if_ff g_1 h
  refine Tri.skip (Nrm.seq (Tri.seq ?_))
  obtain ⟨⟨t12_1, t12_2⟩, h12, h⟩ := bind_some h
  refine Tri.reg (l := [0, 1, 2, 3, 4, 5, 6]) rfl ?_
  refine F.qn rfl rfl rfl rfl (r_loadA ta66 ti66 rfl rfl (fun w hw => (box_cells (i := 0) rfl w hw))) ?_
  refine F.mn rfl rfl rfl rfl (m_callF (xs := _) rfl ok141 rfl rfl (fun w hw => impl_lostStates.ok h12 w ((fun _ hw => hr_a0_1.sep hw) w hw) ((fun _ hw => hr_a0_2.sep hw) w hw) ((fun _ hw => hr_a0_3.sep hw) w hw))) ?_
  rintro _ _ ⟨_, ⟨v12_1, S12_1, rfl, hl_v12_1, rfl⟩, rfl⟩
  refine F.qn rfl rfl rfl rfl (r_move rfl) ?_
  refine F.qn rfl rfl rfl rfl (r_extract rfl rfl) ?_
  refine F.qn rfl rfl rfl rfl (r_extract rfl rfl) ?_
  refine F.qn rfl rfl rfl rfl (r_assign rfl) ?_
  refine F.qn rfl rfl rfl rfl (r_assign rfl) ?_
  refine F.nil (Nrm.seq (Tri.seq (Tri.reg (l := [0, 1, 2, 3, 4, 5]) rfl ?_)))
  refine F.qn rfl rfl rfl rfl (r_move rfl) ?_
  refine F.qn rfl rfl rfl rfl (r_move rfl) ?_
  refine F.qn rfl rfl rfl rfl (r_len Try.underlying56 rfl hl_v12_1) ?_
  iterate 3 refine F.qn rfl rfl rfl rfl (r_assign rfl) ?_
  refine F.nil (Nrm.seq (Tri.ret ?_))
  cases h
  exact Rtn.body (.tmp rfl (.tmp rfl (.tmp rfl .nil))) (fun w hw => ⟨rfl, hw.ext⟩)


def laws_rHas.l0 (k : Nat) (a0 : List Int) (a1 : Int) : Nat → Int → Option ((Unit) ⊕ (Bool))
 | 0, _ => none
 | n + 1, x5 => (if (decide (x5 < (a0.length : Int))) = true then (rdl a0 x5).bind fun t14 => (if (t14 == a1) = true then some (Sum.inr true) else laws_rHas.l0 k a0 a1 n (w64 (x5 + 1))) else some (Sum.inl ()))

def laws_rHas.f (k : Nat) (a0 : List Int) (a1 : Int) : Option (Bool) := (laws_rHas.l0 k a0 a1 k 0).bind fun s => Lr s some fun _ => some false

theorem laws_rHas.ok {k : Nat}  {a0 : List Int} {a1 : Int} {r0 : Bool} (h : laws_rHas.f k a0 a1 = some r0) (w : World) {va0 : Value} (hr_a0 : Rd w va0 a0) :
  Calls Try.prog 63 ([va0, .int .i64 a1] : List Value).toArray w (fun e w' => e = .returned (.bool r0) ∧ Ext w w') := by
 unfold laws_rHas.f at h
 have hl_va0 := hr_a0.len
 refine Calls.of_tri (N := 18) Try.func63 rfl rfl rfl (Sep.nil (M := noM)) ?_
 refine Tri.seq (Tri.reg (l := [0]) rfl ?_)
 refine F.qn rfl rfl rfl rfl (r_assign rfl) ?_
 refine F.nil (Nrm.seq (Tri.seq (Tri.seq (Tri.reg (l := [0]) rfl ?_))))
 refine F.qn rfl rfl rfl rfl (r_assign rfl) ?_
 refine F.nil (Nrm.seq ?_)
 obtain ⟨s0, hE_1, h⟩ := bind_some h
 refine Tri.block ?_
 refine Tri.only [0, 1, 5] rfl ?_
 refine Tri.pick [] rfl rfl ?_
 refine Tri.rounds (fun n e' C' => ∃ (x5' : Int), laws_rHas.l0 k a0 a1 n x5' = some s0 ∧ e' = [(0, va0), (1, .int .i64 a1), (5, .int .i64 x5')] ∧ C' = Sep w noM []) k ?_ ?_ ?_
 ·exact ⟨0, hE_1, rfl, rfl⟩
 ·rintro _ _ ⟨_, hE_1, _⟩
  rw [laws_rHas.l0.eq_1] at hE_1; cases hE_1
 ·rintro n_1 _ _ ⟨x5, hE_1, rfl, rfl⟩ ih_1
  rw [laws_rHas.l0.eq_2] at hE_1
  refine Tri.seq (Tri.seq (Tri.reg (l := [0, 1, 2, 3]) rfl ?_))
  refine F.qn rfl rfl rfl rfl (r_move rfl) ?_
  refine F.qn rfl rfl rfl rfl (r_move rfl) ?_
  refine F.qn rfl rfl rfl rfl (r_len Try.underlying25 rfl hl_va0) ?_
  refine F.qn rfl rfl rfl rfl (r_lss rfl rfl) ?_
  refine F.nil (Nrm.seq (Tri.cond (b := decide (x5 < (a0.length : Int))) rfl (fun g_1 => ?_) (fun g_1 => ?_)))
  ·replace hE_1 := if_tt g_1 hE_1
   refine Tri.skip (Nrm.seq (Tri.seq (Tri.block ?_)))
   refine Tri.seq ?_
   obtain ⟨t14, h14, hE_1⟩ := bind_some hE_1
   refine Tri.reg (l := [0, 1, 2, 3, 4, 5]) rfl ?_
   refine F.qn rfl rfl rfl rfl (r_move rfl) ?_
   refine F.qn rfl rfl rfl rfl (r_move rfl) ?_
   refine F.qn rfl rfl rfl rfl (r_indexAddrS Try.underlying25 ti3 rfl hl_va0 rfl (rdl_some h14).1 (rdl_some h14).2.1) ?_
   refine F.qn rfl rfl rfl rfl (r_load ta3 rfl (fun w hw => cell_0 (Rd.flat ((fun _ hw => hr_a0.sep hw) w hw) (rdl_some h14).2.2) rfl)) ?_
   refine F.qn rfl rfl rfl rfl (r_move rfl) ?_
   refine F.qn rfl rfl rfl rfl (r_eql rfl rfl) ?_
   refine F.nil (Nrm.seq (Tri.cond (b := t14 == a1) rfl (fun g_2 => ?_) (fun g_2 => ?_)))
   ·replace hE_1 := if_tt g_2 hE_1
    refine Tri.seq (Tri.reg (l := [0]) rfl ?_)
    refine F.qn rfl rfl rfl rfl (r_assign rfl) ?_
    refine F.nil (Nrm.seq (Tri.ret ?_))
    refine Rtn.block ?_
    refine Rtn.then ?_
    refine Rtn.then ?_
    refine Rtn.block ?_
    refine Rtn.then ?_
    cases hE_1
    replace h := Lr_inr h
    cases h
    exact Rtn.body (.tmp rfl .nil) (fun w hw => ⟨rfl, hw.ext⟩)
   ·replace hE_1 := if_ff g_2 hE_1
    refine Tri.skip (Nrm.block ?_)
    refine Nrm.seq (Tri.reg (l := [0, 1, 2]) rfl ?_)
    refine F.qn rfl rfl rfl rfl (r_move rfl) ?_
    refine F.qn rfl rfl rfl rfl (r_add rfl rfl) ?_
    refine F.qn rfl rfl rfl rfl (r_assign rfl) ?_
    refine F.nil (Nrm.round ?_)
    refine Rnd.only [0, 1, 5] rfl ?_
    refine Rnd.pick [] rfl rfl ?_
    exact ih_1 _ _ ⟨w64 (x5 + 1), hE_1, rfl, rfl⟩
  ·replace hE_1 := if_ff g_1 hE_1
   refine Tri.exit ?_
   refine Exi.then ?_
   refine Exi.then ?_
   refine Exi.same ?_
   cases hE_1
   replace h := Lr_inl h
   refine Nrm.seq (Tri.seq (Tri.reg (l := [0]) rfl ?_))
   refine F.qn rfl rfl rfl rfl (r_assign rfl) ?_
   refine F.nil (Nrm.seq (Tri.ret ?_))
   cases h
   exact Rtn.body (.tmp rfl .nil) (fun w hw => ⟨rfl, hw.ext⟩)


def impl_steps.l0 (k : Nat) (a0_1 : List (Int × Int × Int)) (a1 : Int) (a2 : Int) : Nat → Int → Int → Option (Int)
 | 0, _, _ => none
 | n + 1, x7, x13 => (if (decide (x13 < (a0_1.length : Int))) = true then ((rdl a0_1 x13).bind fun t15 => (impl_has.f k a2 t15.2.2).bind fun t20 => (if (!t20) = true then some x7 else ((if (t15.1 == a1) = true then if ¬ t15.2.1 < 0 then some (bor x7 (shl 1 t15.2.1)) else none else some x7)).bind fun y7 => ((if (t15.2.1 == a1) = true then if ¬ t15.1 < 0 then some (bor y7 (shl 1 t15.1)) else none else some y7)).bind fun y7r => some y7r)).bind fun y7 => impl_steps.l0 k a0_1 a1 a2 n y7 (w64 (x13 + 1)) else some x7)

def impl_steps.f (k : Nat) (a0_0 : Int) (a0_1 : List (Int × Int × Int)) (a0_2 : List Int) (a1 : Int) (a2 : Int) : Option (Int) := (impl_steps.l0 k a0_1 a1 a2 k 0 0).bind fun x7 => some x7

theorem impl_steps.ok {k : Nat}  {a0_0 : Int} {a0_1 : List (Int × Int × Int)} {a0_2 : List Int} {a1 : Int} {a2 : Int} {r0 : Int} (h : impl_steps.f k a0_0 a0_1 a0_2 a1 a2 = some r0) (w : World) {va0_1 : Value} {va0_2 : Value} (hr_a0_1 : Rd w va0_1 a0_1) (hr_a0_2 : Rd w va0_2 a0_2) :
  Calls Try.prog 197 ([.agg ([.int .i64 a0_0, va0_1, va0_2].toArray), .int .i64 a1, .int .i64 a2] : List Value).toArray w (fun e w' => e = .returned (.int .i64 r0) ∧ Ext w w') := by
 unfold impl_steps.f at h
 have hl_va0_1 := hr_a0_1.len
 have hl_va0_2 := hr_a0_2.len
 refine Calls.of_tri (N := 42) Try.func197 rfl rfl rfl (Sep.nil (M := noM)) ?_
 refine Tri.seq (Tri.reg (l := [0, 1]) rfl ?_)
 refine F.mn rfl rfl rfl rfl (m_boxG rfl rfl) ?_
 rintro _ _ ⟨b3_1, rfl, rfl⟩
 refine F.qn rfl rfl rfl rfl (r_assign rfl) ?_
 refine F.nil (Nrm.seq (Tri.seq (Tri.reg (l := [0]) rfl ?_)))
 refine F.qn rfl rfl rfl rfl (r_assign rfl) ?_
 refine F.nil (Nrm.seq (Tri.seq (Tri.seq (Tri.reg (l := [0, 1, 2, 3]) rfl ?_))))
 refine F.qn rfl rfl rfl rfl (r_fieldAddr tf27_1 rfl) ?_
 refine F.qn rfl rfl rfl rfl (r_load ta24 rfl (fun w hw => cell_1 (box_cells (i := 0) rfl w hw) rfl)) ?_
 refine F.qn rfl rfl rfl rfl (r_len Try.underlying24 rfl hl_va0_1) ?_
 refine F.qn rfl rfl rfl rfl (r_move rfl) ?_
 refine F.nil (Nrm.seq ?_)
 obtain ⟨x7, hE_1, h⟩ := bind_some h
 refine Tri.block ?_
 refine Tri.only [1, 2, 7, 11, 12, 13] rfl ?_
 refine Tri.pick [] rfl rfl ?_
 refine Tri.rounds (fun n e' C' => ∃ (x7' : Int) (x13' : Int), impl_steps.l0 k a0_1 a1 a2 n x7' x13' = some x7 ∧ e' = [(1, .int .i64 a1), (2, .int .i64 a2), (7, .int .i64 x7'), (11, va0_1), (12, .int .i64 (a0_1.length : Int)), (13, .int .i64 x13')] ∧ C' = Sep w noM []) k ?_ ?_ ?_
 ·exact ⟨0, 0, hE_1, rfl, rfl⟩
 ·rintro _ _ ⟨_, _, hE_1, _⟩
  rw [impl_steps.l0.eq_1] at hE_1; cases hE_1
 ·rintro n_1 _ _ ⟨x7, x13, hE_1, rfl, rfl⟩ ih_1
  rw [impl_steps.l0.eq_2] at hE_1
  refine Tri.seq (Tri.reg (l := [0]) rfl ?_)
  refine F.qn rfl rfl rfl rfl (r_lss rfl rfl) ?_
  refine F.nil (Nrm.seq (Tri.seq (Tri.cond (b := decide (x13 < (a0_1.length : Int))) rfl (fun g_1 => ?_) (fun g_1 => ?_))))
  ·replace hE_1 := if_tt g_1 hE_1
   refine Tri.skip (Nrm.seq (Tri.seq ?_))
   obtain ⟨y7, hE_2, hE_1⟩ := bind_some hE_1
   refine Tri.cut (fun e' C' => e' = [(1, .int .i64 a1), (2, .int .i64 a2), (7, .int .i64 y7), (11, va0_1), (12, .int .i64 (a0_1.length : Int)), (13, .int .i64 x13)] ∧ C' = Sep w noM []) ?_ (fun hj_1 => ?_)
   ·rintro _ _ ⟨rfl, rfl⟩
    refine Nrm.seq (Tri.reg (l := [0, 1]) rfl ?_)
    refine F.qn rfl rfl rfl rfl (r_add rfl rfl) ?_
    refine F.qn rfl rfl rfl rfl (r_move rfl) ?_
    refine F.nil (Nrm.round ?_)
    refine Rnd.only [1, 2, 7, 11, 12, 13] rfl ?_
    refine Rnd.pick [] rfl rfl ?_
    exact ih_1 _ _ ⟨y7, w64 (x13 + 1), hE_1, rfl, rfl⟩
   ·refine Tri.block ?_
    refine Tri.seq ?_
    obtain ⟨t15, h15, hE_2⟩ := bind_some hE_2
    refine Tri.reg (l := [0, 1, 2, 3]) rfl ?_
    refine F.qn rfl rfl rfl rfl (r_indexAddrS Try.underlying24 ti121 rfl hl_va0_1 rfl (rdl_some h15).1 (rdl_some h15).2.1) ?_
    refine F.qn rfl rfl rfl rfl (r_loadA ta121 ti121 rfl rfl (fun w hw => (Rd.flat ((fun _ hw => hr_a0_1.sep hw) w hw) (rdl_some h15).2.2))) ?_
    refine F.mn rfl rfl rfl rfl (m_alloc ti121) ?_
    rintro _ _ ⟨b9_1, rfl, rfl⟩
    refine F.ef0 rfl rfl (wanted_none rfl) (d_storeG0 (i := 0) (cs2 := [.int .i64 t15.1, .int .i64 t15.2.1, .int .i64 t15.2.2]) ti121 rfl rfl rfl rfl rfl (Nat.le_of_ble_eq_true rfl) (lf_cons rfl (lf_cons rfl (lf_cons rfl lf_nil)))) ?_
    rintro _ _ ⟨rfl, rfl⟩
    refine F.nil (Nrm.seq (Tri.seq (Tri.seq ?_)))
    obtain ⟨t20, h20, hE_2⟩ := bind_some hE_2
    refine Tri.reg (l := [0, 1, 2, 3, 4]) rfl ?_
    refine F.qn rfl rfl rfl rfl (r_move rfl) ?_
    refine F.qn rfl rfl rfl rfl (r_indexAddrA Try.underlying121 ti3 rfl rfl (by decide) (by decide)) ?_
    refine F.qn rfl rfl rfl rfl (r_load ta3 rfl (fun w hw => cell_1 (box_cells (i := 0) rfl w hw) rfl)) ?_
    refine F.qcn rfl rfl rfl rfl (q_callF (xs := _) rfl ok189 rfl rfl (fun w hw => impl_has.ok h20 w )) ?_
    refine F.qn rfl rfl rfl rfl (r_not rfl) ?_
    refine F.nil (Nrm.seq (Tri.cond (b := !t20) rfl (fun g_2 => ?_) (fun g_2 => ?_)))
    ·replace hE_2 := if_tt g_2 hE_2
     refine Tri.exit ?_
     refine Exi.then ?_
     refine Exi.same ?_
     cases hE_2
     refine Nrm.only [1, 2, 7, 11, 12, 13] rfl ?_
     refine Nrm.pick [] rfl rfl ?_
     exact hj_1 _ _ ⟨rfl, rfl⟩
    ·replace hE_2 := if_ff g_2 hE_2
     refine Tri.skip (Nrm.seq (Tri.seq (Tri.seq (Tri.reg (l := [0, 1, 2, 3]) rfl ?_))))
     refine F.qn rfl rfl rfl rfl (r_indexAddrA Try.underlying121 ti3 rfl rfl (by decide) (by decide)) ?_
     refine F.qn rfl rfl rfl rfl (r_load ta3 rfl (fun w hw => cell_1 (box_cells (i := 0) rfl w hw) rfl)) ?_
     refine F.qn rfl rfl rfl rfl (r_move rfl) ?_
     refine F.qn rfl rfl rfl rfl (r_eql rfl rfl) ?_
     refine F.nil (Nrm.seq ?_)
     obtain ⟨y7, hE_3, hE_2⟩ := bind_some hE_2
     refine Tri.cut (fun e' C' => e' = [(1, .int .i64 a1), (2, .int .i64 a2), (7, .int .i64 y7), (9, .pointer (some ⟨b9_1, 0, none⟩)), (11, va0_1), (12, .int .i64 (a0_1.length : Int)), (13, .int .i64 x13)] ∧ C' = Sep w noM [R.box b9_1 121 [.int .i64 t15.1, .int .i64 t15.2.1, .int .i64 t15.2.2]]) ?_ (fun hj_2 => ?_)
     ·rintro _ _ ⟨rfl, rfl⟩
      refine Nrm.seq (Tri.seq (Tri.reg (l := [0, 1, 2, 3]) rfl ?_))
      refine F.qn rfl rfl rfl rfl (r_indexAddrA Try.underlying121 ti3 rfl rfl (by decide) (by decide)) ?_
      refine F.qn rfl rfl rfl rfl (r_load ta3 rfl (fun w hw => cell_1 (box_cells (i := 0) rfl w hw) rfl)) ?_
      refine F.qn rfl rfl rfl rfl (r_move rfl) ?_
      refine F.qn rfl rfl rfl rfl (r_eql rfl rfl) ?_
      refine F.nil (Nrm.seq ?_)
      obtain ⟨y7r, hE_4, hE_2⟩ := bind_some hE_2
      refine Tri.cut (fun e' C' => e' = [(1, .int .i64 a1), (2, .int .i64 a2), (7, .int .i64 y7r), (11, va0_1), (12, .int .i64 (a0_1.length : Int)), (13, .int .i64 x13)] ∧ C' = Sep w noM []) ?_ (fun hj_3 => ?_)
      ·rintro _ _ ⟨rfl, rfl⟩
       refine Nrm.block ?_
       cases hE_2
       refine Nrm.only [1, 2, 7, 11, 12, 13] rfl ?_
       refine Nrm.pick [] rfl rfl ?_
       exact hj_1 _ _ ⟨rfl, rfl⟩
      ·refine Tri.cond (b := t15.2.1 == a1) rfl (fun g_4 => ?_) (fun g_4 => ?_)
       ·replace hE_4 := if_tt g_4 hE_4
        obtain ⟨hs38, hE_4⟩ := ck hE_4
        refine Tri.reg (l := [0, 1, 2, 3, 4, 5]) rfl ?_
        refine F.qn rfl rfl rfl rfl (r_move rfl) ?_
        refine F.qn rfl rfl rfl rfl (r_indexAddrA Try.underlying121 ti3 rfl rfl (by decide) (by decide)) ?_
        refine F.qn rfl rfl rfl rfl (r_load ta3 rfl (fun w hw => cell_1 (box_cells (i := 0) rfl w hw) rfl)) ?_
        refine F.qn rfl rfl rfl rfl (r_shl rfl rfl hs38) ?_
        refine F.qn rfl rfl rfl rfl (r_or rfl rfl) ?_
        refine F.qn rfl rfl rfl rfl (r_assign rfl) ?_
        refine F.nil ?_
        cases hE_4
        refine Nrm.only [1, 2, 7, 11, 12, 13] rfl ?_
        refine Nrm.pick [] rfl rfl ?_
        exact hj_3 _ _ ⟨rfl, rfl⟩
       ·replace hE_4 := if_ff g_4 hE_4
        refine Tri.skip ?_
        cases hE_4
        refine Nrm.only [1, 2, 7, 11, 12, 13] rfl ?_
        refine Nrm.pick [] rfl rfl ?_
        exact hj_3 _ _ ⟨rfl, rfl⟩
     ·refine Tri.cond (b := t15.1 == a1) rfl (fun g_3 => ?_) (fun g_3 => ?_)
      ·replace hE_3 := if_tt g_3 hE_3
       obtain ⟨hs29, hE_3⟩ := ck hE_3
       refine Tri.reg (l := [0, 1, 2, 3, 4, 5]) rfl ?_
       refine F.qn rfl rfl rfl rfl (r_move rfl) ?_
       refine F.qn rfl rfl rfl rfl (r_indexAddrA Try.underlying121 ti3 rfl rfl (by decide) (by decide)) ?_
       refine F.qn rfl rfl rfl rfl (r_load ta3 rfl (fun w hw => cell_1 (box_cells (i := 0) rfl w hw) rfl)) ?_
       refine F.qn rfl rfl rfl rfl (r_shl rfl rfl hs29) ?_
       refine F.qn rfl rfl rfl rfl (r_or rfl rfl) ?_
       refine F.qn rfl rfl rfl rfl (r_assign rfl) ?_
       refine F.nil ?_
       cases hE_3
       refine Nrm.only [1, 2, 7, 9, 11, 12, 13] rfl ?_
       refine Nrm.pick [0] rfl rfl ?_
       exact hj_2 _ _ ⟨rfl, rfl⟩
      ·replace hE_3 := if_ff g_3 hE_3
       refine Tri.skip ?_
       cases hE_3
       refine Nrm.only [1, 2, 7, 9, 11, 12, 13] rfl ?_
       refine Nrm.pick [0] rfl rfl ?_
       exact hj_2 _ _ ⟨rfl, rfl⟩
  ·replace hE_1 := if_ff g_1 hE_1
   refine Tri.exit ?_
   refine Exi.then ?_
   refine Exi.then ?_
   refine Exi.same ?_
   cases hE_1
   refine Nrm.seq (Tri.seq (Tri.reg (l := [0, 1]) rfl ?_))
   refine F.qn rfl rfl rfl rfl (r_move rfl) ?_
   refine F.qn rfl rfl rfl rfl (r_assign rfl) ?_
   refine F.nil (Nrm.seq (Tri.ret ?_))
   cases h
   exact Rtn.body (.tmp rfl .nil) (fun w hw => ⟨rfl, hw.ext⟩)


def impl_taken.l0 (k : Nat) (a0_0 : Int) (a0_1 : List (Int × Int × Int)) (a0_2 : List Int) (a1 : List Int) : Nat → (List (Int)) → Int → Int → Option (((List (Int))) ⊕ ((List Int) × Bool))
 | 0, _, _, _ => none
 | n + 1, x6, x7, x22 => (if (decide (x22 < (a1.length : Int))) = true then (rdl a1 x22).bind fun t25 => ((impl_within.f k t25 0 (w64 (a0_0 - 1))).bind fun t31 => (if (!t31) = true then some true else (if (decide (x22 > 0)) = true then (rdl a1 (w64 (x22 - 1))).bind fun t41 => (impl_steps.f k a0_0 a0_1 a0_2 t41 x7).bind fun t44 => if ¬ t25 < 0 then some ((band (shr t44 t25) 1) == 0) else none else some false))).bind fun y50 => (if y50 = true then some (Sum.inr ([], false)) else (rdl a0_2 t25).bind fun t55 => if (x6 ++ ([bor x7 t55] : List (Int))).length < 1099511627776 then impl_taken.l0 k a0_0 a0_1 a0_2 a1 n (x6 ++ ([bor x7 t55] : List (Int))) (bor x7 t55) (w64 (x22 + 1)) else none) else some (Sum.inl x6))

def impl_taken.f (k : Nat) (a0_0 : Int) (a0_1 : List (Int × Int × Int)) (a0_2 : List Int) (a1 : List Int) : Option ((List Int) × Bool) := ((if ((a1.length : Int) == 0) = true then some true else (rdl a1 0).bind fun t15 => some (t15 != 0))).bind fun y18 => (if y18 = true then some ([], false) else (impl_taken.l0 k a0_0 a0_1 a0_2 a1 k ([] : List (Int)) 0 0).bind fun s => Lr s some fun x6 => some (x6, true))

theorem impl_taken.ok {k : Nat}  {a0_0 : Int} {a0_1 : List (Int × Int × Int)} {a0_2 : List Int} {a1 : List Int} {r0 : List Int} {r1 : Bool} (h : impl_taken.f k a0_0 a0_1 a0_2 a1 = some (r0, r1)) (w : World) {va0_1 : Value} {va0_2 : Value} {va1 : Value} (hr_a0_1 : Rd w va0_1 a0_1) (hr_a0_2 : Rd w va0_2 a0_2) (hr_a1 : Rd w va1 a1) :
  Calls Try.prog 144 ([.agg ([.int .i64 a0_0, va0_1, va0_2].toArray), va1] : List Value).toArray w (Post (fun u ns => ∃ (ur0 : Value) (Sr0 : Nat → Prop), u = .tuple #[ur0, .bool r1] ∧ SlLen ur0 r0.length ∧ ns = [R.sl Sr0 ur0 r0]) w) := by
 unfold impl_taken.f at h
 have hl_va0_1 := hr_a0_1.len
 have hl_va0_2 := hr_a0_2.len
 have hl_va1 := hr_a1.len
 refine Calls.of_tri (N := 64) Try.func144 rfl rfl rfl (Sep.nil (M := noM)) ?_
 refine Tri.seq (Tri.reg (l := [0, 1, 2]) rfl ?_)
 refine F.mn rfl rfl rfl rfl (m_boxG rfl rfl) ?_
 rintro _ _ ⟨b2_1, rfl, rfl⟩
 refine F.qn rfl rfl rfl rfl (r_assign rfl) ?_
 refine F.qn rfl rfl rfl rfl (r_assign rfl) ?_
 refine F.nil (Nrm.seq (Tri.seq (Tri.seq ?_)))
 obtain ⟨y18, hE_1, h⟩ := bind_some h
 refine Tri.cut (fun e' C' => e' = [(1, va1), (2, .pointer (some ⟨b2_1, 0, none⟩)), (18, .bool y18)] ∧ C' = Sep w noM [R.box b2_1 27 [.int .i64 a0_0, va0_1, va0_2]]) ?_ (fun hj_1 => ?_)
 ·rintro _ _ ⟨rfl, rfl⟩
  refine Nrm.seq (Tri.cond (b := y18) rfl (fun g_1 => ?_) (fun g_1 => ?_))
  ·replace h := if_tt g_1 h
   refine Tri.seq (Tri.reg (l := [0, 1]) rfl ?_)
   refine F.qn rfl rfl rfl rfl (r_assign rfl) ?_
   refine F.qn rfl rfl rfl rfl (r_assign rfl) ?_
   refine F.nil (Nrm.seq (Tri.ret ?_))
   refine Rtn.then ?_
   cases h
   exact Rtn.body (.tmp rfl (.tmp rfl .nil)) (fun w hw => ⟨_, _, rfl, ⟨.slice none 0 0, fun _ => False, rfl, len_nil, rfl⟩, Sep.pick (is := [0]) rfl rfl hw.pushNil⟩)
  ·replace h := if_ff g_1 h
   refine Tri.skip (Nrm.seq (Tri.seq (Tri.reg (l := [0, 1, 2]) rfl ?_)))
   refine F.mn rfl rfl rfl rfl (m_build0 (α := Int) Try.underlying25 ti3) ?_
   rintro v19_1 _ ⟨S19_1, hl_v19_1, rfl⟩
   refine F.qn rfl rfl rfl rfl (r_assign rfl) ?_
   refine F.qn rfl rfl rfl rfl (r_assign rfl) ?_
   refine F.nil (Nrm.seq (Tri.seq (Tri.seq (Tri.reg (l := [0, 1, 2]) rfl ?_))))
   refine F.qn rfl rfl rfl rfl (r_move rfl) ?_
   refine F.qn rfl rfl rfl rfl (r_len Try.underlying25 rfl hl_va1) ?_
   refine F.qn rfl rfl rfl rfl (r_move rfl) ?_
   refine F.nil (Nrm.seq ?_)
   obtain ⟨s0, hE_2, h⟩ := bind_some h
   refine Tri.block ?_
   refine Tri.only [1, 2, 6, 7, 20, 21, 22] rfl ?_
   refine Tri.pick [1, 0] rfl rfl ?_
   refine Tri.rounds (fun n e' C' => ∃ (x6' : List (Int)) (x7' : Int) (x22' : Int) (w6 : Value) (T6 : Nat → Prop), impl_taken.l0 k a0_0 a0_1 a0_2 a1 n x6' x7' x22' = some s0 ∧ SlLen w6 (x6').length ∧ e' = [(1, va1), (2, .pointer (some ⟨b2_1, 0, none⟩)), (6, w6), (7, .int .i64 x7'), (20, va1), (21, .int .i64 (a1.length : Int)), (22, .int .i64 x22')] ∧ C' = Sep w noM [R.box b2_1 27 [.int .i64 a0_0, va0_1, va0_2], R.sl T6 w6 (x6' : List (Int))]) k ?_ ?_ ?_
   ·exact ⟨([] : List (Int)), 0, 0, v19_1, S19_1, hE_2, hl_v19_1, rfl, rfl⟩
   ·rintro _ _ ⟨_, _, _, _, _, hE_2, _⟩
    rw [impl_taken.l0.eq_1] at hE_2; cases hE_2
   ·rintro n_1 _ _ ⟨x6, x7, x22, w6, T6, hE_2, hl_w6, rfl, rfl⟩ ih_1
    rw [impl_taken.l0.eq_2] at hE_2
    refine Tri.seq (Tri.reg (l := [0]) rfl ?_)
    refine F.qn rfl rfl rfl rfl (r_lss rfl rfl) ?_
    refine F.nil (Nrm.seq (Tri.seq (Tri.cond (b := decide (x22 < (a1.length : Int))) rfl (fun g_2 => ?_) (fun g_2 => ?_))))
    ·replace hE_2 := if_tt g_2 hE_2
     refine Tri.skip (Nrm.seq (Tri.seq (Tri.block ?_)))
     refine Tri.seq ?_
     obtain ⟨t25, h25, hE_2⟩ := bind_some hE_2
     refine Tri.reg (l := [0, 1, 2, 3, 4]) rfl ?_
     refine F.qn rfl rfl rfl rfl (r_move rfl) ?_
     refine F.qn rfl rfl rfl rfl (r_indexAddrS Try.underlying25 ti3 rfl hl_va1 rfl (rdl_some h25).1 (rdl_some h25).2.1) ?_
     refine F.qn rfl rfl rfl rfl (r_load ta3 rfl (fun w hw => cell_0 (Rd.flat ((fun _ hw => hr_a1.sep hw) w hw) (rdl_some h25).2.2) rfl)) ?_
     refine F.qn rfl rfl rfl rfl (r_assign rfl) ?_
     refine F.qn rfl rfl rfl rfl (r_assign rfl) ?_
     refine F.nil (Nrm.seq (Tri.seq (Tri.seq ?_)))
     obtain ⟨y50, hE_3, hE_2⟩ := bind_some hE_2
     refine Tri.cut (fun e' C' => e' = [(1, va1), (2, .pointer (some ⟨b2_1, 0, none⟩)), (6, w6), (7, .int .i64 x7), (9, .int .i64 t25), (20, va1), (21, .int .i64 (a1.length : Int)), (22, .int .i64 x22), (50, .bool y50)] ∧ C' = Sep w noM [R.box b2_1 27 [.int .i64 a0_0, va0_1, va0_2], R.sl T6 w6 (x6 : List (Int))]) ?_ (fun hj_2 => ?_)
     ·rintro _ _ ⟨rfl, rfl⟩
      refine Nrm.seq (Tri.cond (b := y50) rfl (fun g_3 => ?_) (fun g_3 => ?_))
      ·replace hE_2 := if_tt g_3 hE_2
       refine Tri.seq (Tri.reg (l := [0, 1]) rfl ?_)
       refine F.qn rfl rfl rfl rfl (r_assign rfl) ?_
       refine F.qn rfl rfl rfl rfl (r_assign rfl) ?_
       refine F.nil (Nrm.seq (Tri.ret ?_))
       refine Rtn.then ?_
       refine Rtn.block ?_
       refine Rtn.then ?_
       refine Rtn.then ?_
       refine Rtn.block ?_
       refine Rtn.then ?_
       cases hE_2
       replace h := Lr_inr h
       cases h
       exact Rtn.body (.tmp rfl (.tmp rfl .nil)) (fun w hw => ⟨_, _, rfl, ⟨.slice none 0 0, fun _ => False, rfl, len_nil, rfl⟩, Sep.pick (is := [0]) rfl rfl hw.pushNil⟩)
      ·replace hE_2 := if_ff g_3 hE_2
       refine Tri.skip (Nrm.seq (Tri.seq ?_))
       obtain ⟨t55, h55, hE_2⟩ := bind_some hE_2
       refine Tri.reg (l := [0, 1, 2, 3, 4, 5, 6, 7]) rfl ?_
       refine F.qn rfl rfl rfl rfl (r_move rfl) ?_
       refine F.qn rfl rfl rfl rfl (r_fieldAddr tf27_2 rfl) ?_
       refine F.qn rfl rfl rfl rfl (r_load ta25 rfl (fun w hw => cell_1 (box_cells (i := 0) rfl w hw) rfl)) ?_
       refine F.qn rfl rfl rfl rfl (r_move rfl) ?_
       refine F.qn rfl rfl rfl rfl (r_indexAddrS Try.underlying25 ti3 rfl hl_va0_2 rfl (rdl_some h55).1 (rdl_some h55).2.1) ?_
       refine F.qn rfl rfl rfl rfl (r_load ta3 rfl (fun w hw => cell_0 (Rd.flat ((fun _ hw => hr_a0_2.sep hw) w hw) (rdl_some h55).2.2) rfl)) ?_
       refine F.qn rfl rfl rfl rfl (r_or rfl rfl) ?_
       refine F.qn rfl rfl rfl rfl (r_assign rfl) ?_
       refine F.nil (Nrm.seq ?_)
       obtain ⟨hs61, hE_2⟩ := ck hE_2
       refine Tri.reg (l := [0, 1, 2, 3, 4]) rfl ?_
       refine F.qn rfl rfl rfl rfl (r_move rfl) ?_
       refine F.qn rfl rfl rfl rfl (r_move rfl) ?_
       refine F.mn rfl rfl rfl rfl (m_buildF (l := ([bor x7 t55] : List (Int))) Try.underlying25 ti3 rfl rfl rfl rfl rfl) ?_
       rintro v60_1 _ ⟨S60_1, hl_v60_1, rfl⟩
       refine F.efn rfl rfl rfl rfl (d_append (i := 2) Try.underlying25 Try.underlying25 ti3 rfl (by decide) rfl rfl rfl (rd_sl (i := 0) rfl) hs61) ?_
       rintro v61_1 _ ⟨S61_1, rfl, hl_v61_1⟩
       refine F.qn rfl rfl rfl rfl (r_assign rfl) ?_
       refine F.nil (Nrm.block ?_)
       refine Nrm.seq (Tri.reg (l := [0, 1]) rfl ?_)
       refine F.qn rfl rfl rfl rfl (r_add rfl rfl) ?_
       refine F.qn rfl rfl rfl rfl (r_move rfl) ?_
       refine F.nil (Nrm.round ?_)
       refine Rnd.only [1, 2, 6, 7, 20, 21, 22] rfl ?_
       refine Rnd.pick [1, 2] rfl rfl ?_
       exact ih_1 _ _ ⟨x6 ++ ([bor x7 t55] : List (Int)), bor x7 t55, w64 (x22 + 1), v61_1, S61_1, hE_2, hl_v61_1, rfl, rfl⟩
     ·obtain ⟨t31, h31, hE_3⟩ := bind_some hE_3
      rcases Bool.eq_false_or_eq_true (!t31) with g33 | g33
      ·replace hE_3 := if_tt g33 hE_3
       refine Tri.drawA mixedT Sep.up [(0, true), (1, true), (2, true), (3, true), (4, true), (5, true), (6, true), (7, true), (8, true), (9, true), (10, true), (11, true), (12, true), (13, true), (14, true), (15, true), (16, true), (17, true), (18, true), (19, true), (20, true), (21, true), (22, true), (23, true)] [] (by kernel_rfl) ?_
       refine S.qn rfl rfl rfl rfl (r_move rfl) ?_
       refine S.qn rfl rfl rfl rfl (r_fieldAddr tf27_0 rfl) ?_
       refine S.qn rfl rfl rfl rfl (r_load ta3 rfl (fun w hw => cell_1 (box_cells (i := 0) rfl w hw) rfl)) ?_
       refine S.qn rfl rfl rfl rfl (r_sub rfl rfl) ?_
       refine S.qcn rfl rfl rfl rfl (q_callF (xs := _) rfl ok149 rfl rfl (fun w hw => impl_within.ok h31 w )) ?_
       refine S.qn rfl rfl rfl rfl (r_not rfl) ?_
       refine S.qn rfl rfl rfl rfl (r_move rfl) ?_
       iterate 3 refine S.sk rfl rfl rfl (wf rfl rfl rfl g33) ?_
       iterate 12 refine S.sk rfl rfl rfl (wanted_undef rfl rfl rfl) ?_
       refine S.sk rfl rfl rfl (wf rfl rfl rfl g33) ?_
       refine S.qn rfl rfl rfl rfl (r_pick rfl rfl g33) ?_
       refine S.nil (F.nil ?_)
       cases hE_3
       refine Nrm.only [1, 2, 6, 7, 9, 20, 21, 22, 50] rfl ?_
       refine Nrm.pick [0, 1] rfl rfl ?_
       exact hj_2 _ _ ⟨rfl, rfl⟩
      ·replace hE_3 := if_ff g33 hE_3
       rcases Bool.eq_false_or_eq_true (decide (x22 > 0)) with g36 | g36
       ·replace hE_3 := if_tt g36 hE_3
        obtain ⟨t41, h41, hE_3⟩ := bind_some hE_3
        obtain ⟨t44, h44, hE_3⟩ := bind_some hE_3
        obtain ⟨hs46, hE_3⟩ := ck hE_3
        refine Tri.drawA mixedT Sep.up [(0, true), (1, true), (2, true), (3, true), (4, true), (5, true), (6, true), (7, true), (8, true), (9, true), (10, true), (11, true), (12, true), (13, true), (14, true), (15, true), (16, true), (17, true), (18, true), (19, true), (20, true), (21, true), (22, true), (23, true)] [] (by kernel_rfl) ?_
        refine S.qn rfl rfl rfl rfl (r_move rfl) ?_
        refine S.qn rfl rfl rfl rfl (r_fieldAddr tf27_0 rfl) ?_
        refine S.qn rfl rfl rfl rfl (r_load ta3 rfl (fun w hw => cell_1 (box_cells (i := 0) rfl w hw) rfl)) ?_
        refine S.qn rfl rfl rfl rfl (r_sub rfl rfl) ?_
        refine S.qcn rfl rfl rfl rfl (q_callF (xs := _) rfl ok149 rfl rfl (fun w hw => impl_within.ok h31 w )) ?_
        refine S.qn rfl rfl rfl rfl (r_not rfl) ?_
        refine S.qn rfl rfl rfl rfl (r_move rfl) ?_
        refine S.qg rfl rfl rfl rfl rfl rfl g33 (r_move rfl) ?_
        refine S.qg rfl rfl rfl rfl rfl rfl g33 (r_gtr rfl rfl) ?_
        refine S.qg rfl rfl rfl rfl rfl rfl g33 (r_move rfl) ?_
        refine S.qg rfl rfl rfl rfl rfl rfl g36 (r_loadA ta27 ti27 rfl rfl (fun w hw => (box_cells (i := 0) rfl w hw))) ?_
        refine S.qg rfl rfl rfl rfl rfl rfl g36 (r_move rfl) ?_
        refine S.qg rfl rfl rfl rfl rfl rfl g36 (r_move rfl) ?_
        refine S.qg rfl rfl rfl rfl rfl rfl g36 (r_sub rfl rfl) ?_
        refine S.qg rfl rfl rfl rfl rfl rfl g36 (r_indexAddrS Try.underlying25 ti3 rfl hl_va1 rfl (rdl_some h41).1 (rdl_some h41).2.1) ?_
        refine S.qg rfl rfl rfl rfl rfl rfl g36 (r_load ta3 rfl (fun w hw => cell_0 (Rd.flat ((fun _ hw => hr_a1.sep hw) w hw) (rdl_some h41).2.2) rfl)) ?_
        refine S.qg rfl rfl rfl rfl rfl rfl g36 (r_move rfl) ?_
        refine S.qc rfl rfl rfl (wg rfl rfl rfl g36) (q_callF (xs := _) rfl ok197 rfl rfl (fun w hw => impl_steps.ok h44 w ((fun _ hw => hr_a0_1.sep hw) w hw) ((fun _ hw => hr_a0_2.sep hw) w hw))) ?_
        refine S.qg rfl rfl rfl rfl rfl rfl g36 (r_move rfl) ?_
        refine S.qg rfl rfl rfl rfl rfl rfl g36 (r_shr rfl rfl hs46) ?_
        refine S.qg rfl rfl rfl rfl rfl rfl g36 (r_and rfl rfl) ?_
        refine S.qg rfl rfl rfl rfl rfl rfl g36 (r_eql rfl rfl) ?_
        refine S.qg rfl rfl rfl rfl rfl rfl g33 (r_pick rfl rfl g36) ?_
        refine S.qn rfl rfl rfl rfl (r_pickf rfl rfl g33) ?_
        refine S.nil (F.nil ?_)
        cases hE_3
        refine Nrm.only [1, 2, 6, 7, 9, 20, 21, 22, 50] rfl ?_
        refine Nrm.pick [0, 1] rfl rfl ?_
        exact hj_2 _ _ ⟨rfl, rfl⟩
       ·replace hE_3 := if_ff g36 hE_3
        refine Tri.drawA mixedT Sep.up [(0, true), (1, true), (2, true), (3, true), (4, true), (5, true), (6, true), (7, true), (8, true), (9, true), (10, true), (11, true), (12, true), (13, true), (14, true), (15, true), (16, true), (17, true), (18, true), (19, true), (20, true), (21, true), (22, true), (23, true)] [] (by kernel_rfl) ?_
        refine S.qn rfl rfl rfl rfl (r_move rfl) ?_
        refine S.qn rfl rfl rfl rfl (r_fieldAddr tf27_0 rfl) ?_
        refine S.qn rfl rfl rfl rfl (r_load ta3 rfl (fun w hw => cell_1 (box_cells (i := 0) rfl w hw) rfl)) ?_
        refine S.qn rfl rfl rfl rfl (r_sub rfl rfl) ?_
        refine S.qcn rfl rfl rfl rfl (q_callF (xs := _) rfl ok149 rfl rfl (fun w hw => impl_within.ok h31 w )) ?_
        refine S.qn rfl rfl rfl rfl (r_not rfl) ?_
        refine S.qn rfl rfl rfl rfl (r_move rfl) ?_
        refine S.qg rfl rfl rfl rfl rfl rfl g33 (r_move rfl) ?_
        refine S.qg rfl rfl rfl rfl rfl rfl g33 (r_gtr rfl rfl) ?_
        refine S.qg rfl rfl rfl rfl rfl rfl g33 (r_move rfl) ?_
        iterate 12 refine S.sk rfl rfl rfl (wf rfl rfl rfl g36) ?_
        refine S.qg rfl rfl rfl rfl rfl rfl g33 (r_pickf rfl rfl g36) ?_
        refine S.qn rfl rfl rfl rfl (r_pickf rfl rfl g33) ?_
        refine S.nil (F.nil ?_)
        cases hE_3
        refine Nrm.only [1, 2, 6, 7, 9, 20, 21, 22, 50] rfl ?_
        refine Nrm.pick [0, 1] rfl rfl ?_
        exact hj_2 _ _ ⟨rfl, rfl⟩
    ·replace hE_2 := if_ff g_2 hE_2
     refine Tri.exit ?_
     refine Exi.then ?_
     refine Exi.then ?_
     refine Exi.same ?_
     cases hE_2
     replace h := Lr_inl h
     refine Nrm.seq (Tri.seq (Tri.reg (l := [0, 1, 2]) rfl ?_))
     refine F.qn rfl rfl rfl rfl (r_move rfl) ?_
     refine F.qn rfl rfl rfl rfl (r_assign rfl) ?_
     refine F.qn rfl rfl rfl rfl (r_assign rfl) ?_
     refine F.nil (Nrm.seq (Tri.ret ?_))
     cases h
     exact Rtn.body (.tmp rfl (.tmp rfl .nil)) (fun w hw => ⟨_, _, rfl, ⟨w6, T6, rfl, hl_w6, rfl⟩, Sep.pick (is := [1]) rfl rfl hw⟩)
 ·rcases Bool.eq_false_or_eq_true ((a1.length : Int) == 0) with g13 | g13
  ·replace hE_1 := if_tt g13 hE_1
   refine Tri.reg (l := [0, 1, 2, 3, 4, 5, 6, 7, 8]) rfl ?_
   refine F.qn rfl rfl rfl rfl (r_move rfl) ?_
   refine F.qn rfl rfl rfl rfl (r_len Try.underlying25 rfl hl_va1) ?_
   refine F.qn rfl rfl rfl rfl (r_eql rfl rfl) ?_
   refine F.qn rfl rfl rfl rfl (r_move rfl) ?_
   iterate 4 refine F.sk rfl rfl rfl (wf rfl rfl rfl g13) ?_
   refine F.qn rfl rfl rfl rfl (r_pick rfl rfl g13) ?_
   refine F.nil ?_
   cases hE_1
   refine Nrm.only [1, 2, 18] rfl ?_
   refine Nrm.pick [0] rfl rfl ?_
   exact hj_1 _ _ ⟨rfl, rfl⟩
  ·replace hE_1 := if_ff g13 hE_1
   obtain ⟨t15, h15, hE_1⟩ := bind_some hE_1
   refine Tri.reg (l := [0, 1, 2, 3, 4, 5, 6, 7, 8]) rfl ?_
   refine F.qn rfl rfl rfl rfl (r_move rfl) ?_
   refine F.qn rfl rfl rfl rfl (r_len Try.underlying25 rfl hl_va1) ?_
   refine F.qn rfl rfl rfl rfl (r_eql rfl rfl) ?_
   refine F.qn rfl rfl rfl rfl (r_move rfl) ?_
   refine F.qg rfl rfl rfl rfl rfl rfl g13 (r_move rfl) ?_
   refine F.qg rfl rfl rfl rfl rfl rfl g13 (r_indexAddrS Try.underlying25 ti3 rfl hl_va1 rfl (rdl_some h15).1 (rdl_some h15).2.1) ?_
   refine F.qg rfl rfl rfl rfl rfl rfl g13 (r_load ta3 rfl (fun w hw => cell_0 (Rd.flat ((fun _ hw => hr_a1.sep hw) w hw) (rdl_some h15).2.2) rfl)) ?_
   refine F.qg rfl rfl rfl rfl rfl rfl g13 (r_neq rfl rfl) ?_
   refine F.qn rfl rfl rfl rfl (r_pickf rfl rfl g13) ?_
   refine F.nil ?_
   cases hE_1
   refine Nrm.only [1, 2, 18] rfl ?_
   refine Nrm.pick [0] rfl rfl ?_
   exact hj_1 _ _ ⟨rfl, rfl⟩


def impl_IsKeyWalk.f (k : Nat) (a0_0 : Int) (a0_1 : List (Int × Int × Int)) (a0_2 : List Int) (a1 : List Int) : Option (Bool × Bool) := (impl_IsMaze.f k a0_0 a0_1 a0_2).bind fun t9 => (if (!t9) = true then some (false, false) else (impl_taken.f k a0_0 a0_1 a0_2 a1).bind fun (t14_1, t14_2) => some (t14_2, true))

theorem impl_IsKeyWalk.ok {k : Nat}  {a0_0 : Int} {a0_1 : List (Int × Int × Int)} {a0_2 : List Int} {a1 : List Int} {r0 : Bool} {r1 : Bool} (h : impl_IsKeyWalk.f k a0_0 a0_1 a0_2 a1 = some (r0, r1)) (w : World) {va0_1 : Value} {va0_2 : Value} {va1 : Value} (hr_a0_1 : Rd w va0_1 a0_1) (hr_a0_2 : Rd w va0_2 a0_2) (hr_a1 : Rd w va1 a1) :
  Calls Try.prog 65 ([.agg ([.int .i64 a0_0, va0_1, va0_2].toArray), va1] : List Value).toArray w (fun e w' => e = .returned (.tuple #[.bool r0, .bool r1]) ∧ Ext w w') := by
 unfold impl_IsKeyWalk.f at h
 have hl_va0_1 := hr_a0_1.len
 have hl_va0_2 := hr_a0_2.len
 have hl_va1 := hr_a1.len
 refine Calls.of_tri (N := 18) Try.func65 rfl rfl rfl (Sep.nil (M := noM)) ?_
 refine Tri.seq (Tri.reg (l := [0, 1, 2]) rfl ?_)
 refine F.mn rfl rfl rfl rfl (m_boxG rfl rfl) ?_
 rintro _ _ ⟨b2_1, rfl, rfl⟩
 refine F.qn rfl rfl rfl rfl (r_assign rfl) ?_
 refine F.qn rfl rfl rfl rfl (r_assign rfl) ?_
 refine F.nil (Nrm.seq (Tri.seq (Tri.seq ?_)))
 obtain ⟨t9, h9, h⟩ := bind_some h
 refine Tri.reg (l := [0, 1, 2]) rfl ?_
 refine F.qn rfl rfl rfl rfl (r_loadA ta27 ti27 rfl rfl (fun w hw => (box_cells (i := 0) rfl w hw))) ?_
 refine F.qcn rfl rfl rfl rfl (q_callF (xs := _) rfl ok143 rfl rfl (fun w hw => impl_IsMaze.ok h9 w ((fun _ hw => hr_a0_1.sep hw) w hw) ((fun _ hw => hr_a0_2.sep hw) w hw))) ?_
 refine F.qn rfl rfl rfl rfl (r_not rfl) ?_
 refine F.nil (Nrm.seq (Tri.cond (b := !t9) rfl (fun g_1 => ?_) (fun g_1 => ?_)))
 ·replace h := if_tt g_1 h
  refine Tri.seq (Tri.reg (l := [0, 1]) rfl ?_)
  refine F.qn rfl rfl rfl rfl (r_assign rfl) ?_
  refine F.qn rfl rfl rfl rfl (r_assign rfl) ?_
  refine F.nil (Nrm.seq (Tri.ret ?_))
  refine Rtn.then ?_
  cases h
  exact Rtn.body (.tmp rfl (.tmp rfl .nil)) (fun w hw => ⟨rfl, hw.ext⟩)
 ·replace h := if_ff g_1 h
  refine Tri.skip (Nrm.seq (Tri.seq ?_))
  obtain ⟨⟨t14_1, t14_2⟩, h14, h⟩ := bind_some h
  refine Tri.reg (l := [0, 1, 2, 3, 4, 5, 6, 7]) rfl ?_
  refine F.qn rfl rfl rfl rfl (r_loadA ta27 ti27 rfl rfl (fun w hw => (box_cells (i := 0) rfl w hw))) ?_
  refine F.qn rfl rfl rfl rfl (r_move rfl) ?_
  refine F.mn rfl rfl rfl rfl (m_callF (xs := _) rfl ok144 rfl rfl (fun w hw => impl_taken.ok h14 w ((fun _ hw => hr_a0_1.sep hw) w hw) ((fun _ hw => hr_a0_2.sep hw) w hw) ((fun _ hw => hr_a1.sep hw) w hw))) ?_
  rintro _ _ ⟨_, ⟨v14_1, S14_1, rfl, hl_v14_1, rfl⟩, rfl⟩
  refine F.qn rfl rfl rfl rfl (r_move rfl) ?_
  refine F.qn rfl rfl rfl rfl (r_extract rfl rfl) ?_
  refine F.qn rfl rfl rfl rfl (r_extract rfl rfl) ?_
  refine F.qn rfl rfl rfl rfl (r_assign rfl) ?_
  refine F.qn rfl rfl rfl rfl (r_assign rfl) ?_
  refine F.nil (Nrm.seq (Tri.seq (Tri.reg (l := [0, 1, 2]) rfl ?_)))
  refine F.qn rfl rfl rfl rfl (r_move rfl) ?_
  refine F.qn rfl rfl rfl rfl (r_assign rfl) ?_
  refine F.qn rfl rfl rfl rfl (r_assign rfl) ?_
  refine F.nil (Nrm.seq (Tri.ret ?_))
  cases h
  exact Rtn.body (.tmp rfl (.tmp rfl .nil)) (fun w hw => ⟨rfl, hw.ext⟩)

end Go.Proofs

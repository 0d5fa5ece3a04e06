/- A part of the proof of FnExactTrapFreeSets: what the functions of the program compute, walked on the model. No condition. -/
import Derived.Test.YtijhomjbcpaknaaFnExactTrapFreeSetsC
import Derived.Test.YtijhomjbcpaknaaFnExactTrapFreeSetsD
set_option linter.unusedSimpArgs false
/- loop.example/g01158/impl.trapFrom -/
namespace Go.Proofs
open Go Go.Ga
set_option linter.unusedVariables false
set_option maxRecDepth 100000
set_option maxHeartbeats 4000000
def impl_trapFrom.l1 (k : Nat) (x17 : Int) : Nat → Int → (Arr 768) → Option ((Arr 768))
  | 0, _, _ => none
  | n + 1, x20, xb7_1_0r => (if (decide (x20 < 64)) = true then if 0 ≤ x17 ∧ x17 < 12 then if 0 ≤ x20 ∧ x20 < 64 then impl_trapFrom.l1 k x17 n (w64 (x20 + 1)) (Arr.put xb7_1_0r (x17 * 64 + x20) (-1)) else none else none else some xb7_1_0r)

def impl_trapFrom.l3 (k : Nat) (a0_2 : List Int) (t43 : Int × Int) (t47 : Int × Int) (t54 : List Int) : Nat → (List (Int × Int)) → Int → (Arr 768) → Option ((Arr 768) × (List (Int × Int)))
  | 0, _, _, _ => none
  | n + 1, x10r, x56, xb7_1_0rrr => (if (decide (x56 < (t54.length : Int))) = true then (rdl t54 x56).bind fun t58 => (rdl a0_2 t58).bind fun t65 => if 0 ≤ t58 ∧ t58 < 12 then if 0 ≤ bor t47.2 t65 ∧ bor t47.2 t65 < 64 then ((if (decide ((Arr.at xb7_1_0rrr (t58 * 64 + (bor t47.2 t65))) < 0)) = true then if 0 ≤ t43.1 ∧ t43.1 < 12 then if 0 ≤ t47.2 ∧ t47.2 < 64 then if 0 ≤ t58 ∧ t58 < 12 then if 0 ≤ bor t47.2 t65 ∧ bor t47.2 t65 < 64 then if (x10r ++ ([(t58, bor t47.2 t65)] : List (Int × Int))).length < 1099511627776 then some (x10r ++ ([(t58, bor t47.2 t65)] : List (Int × Int)), (Arr.put xb7_1_0rrr (t58 * 64 + (bor t47.2 t65)) (w64 ((Arr.at xb7_1_0rrr (t43.1 * 64 + t47.2)) + 1)))) else none else none else none else none else none else some (x10r, xb7_1_0rrr))).bind fun (y10, yb7_1_0) => impl_trapFrom.l3 k a0_2 t43 t47 t54 n y10 (w64 (x56 + 1)) yb7_1_0 else none else none else some (xb7_1_0rrr, x10r))

def impl_trapFrom.l2 (k : Nat) (a0_0 : Int) (a0_1 : List (Int × Int × Int)) (a0_2 : List Int) (a0_3 : List Int) : Nat → (List (Int × Int)) → (Arr 768) → Option ((Arr 768))
  | 0, _, _ => none
  | n + 1, x10, xb7_1_0rr => (if (decide ((x10.length : Int) > 0)) = true then (rdl x10 0).bind fun t43 => (rdl x10 0).bind fun t47 => (impl_trapSteps.f k a0_0 a0_1 a0_2 a0_3 t43.1 t47.2).bind fun t53 => (impl_members.f k t53).bind fun t54 => (impl_trapFrom.l3 k a0_2 t43 t47 t54 k x10 0 xb7_1_0rr).bind fun (xb7_1_0rrr, x10r) => (slc x10r 1 (x10r.length : Int)).bind fun t41 => impl_trapFrom.l2 k a0_0 a0_1 a0_2 a0_3 n t41 xb7_1_0rrr else some xb7_1_0rr)

def impl_trapFrom.l0 (k : Nat) : Nat → Int → (Arr 768) → Option ((Arr 768))
  | 0, _, _ => none
  | n + 1, x17, xb7_1_0 => (if (decide (x17 < 12)) = true then (impl_trapFrom.l1 k x17 k 0 xb7_1_0).bind fun xb7_1_0r => impl_trapFrom.l0 k n (w64 (x17 + 1)) xb7_1_0r else some xb7_1_0)

def impl_trapFrom.f (k : Nat) (a0_0 : Int) (a0_1 : List (Int × Int × Int)) (a0_2 : List Int) (a0_3 : List Int) (a1 : Int) (a2 : Int) : Option ((Arr 768)) := (impl_trapFrom.l0 k k 0 (Arr.rep 768 0)).bind fun xb7_1_0 => if 0 ≤ a1 ∧ a1 < 12 then if 0 ≤ a2 ∧ a2 < 64 then (impl_trapFrom.l2 k a0_0 a0_1 a0_2 a0_3 k ([(a1, a2)] : List (Int × Int)) (Arr.put xb7_1_0 (a1 * 64 + a2) 0)).bind fun xb7_1_0rr => some xb7_1_0rr else none else none

theorem impl_trapFrom.ok {k : Nat}  {a0_0 : Int} {a0_1 : List (Int × Int × Int)} {a0_2 : List Int} {a0_3 : List Int} {a1 : Int} {a2 : Int} {r0 : Arr 768} (h : impl_trapFrom.f k a0_0 a0_1 a0_2 a0_3 a1 a2 = some r0) (w : World) {va0_1 : Value} {va0_2 : Value} {va0_3 : Value} (hr_a0_1 : Rd w va0_1 a0_1) (hr_a0_2 : Rd w va0_2 a0_2) (hr_a0_3 : Rd w va0_3 a0_3) :
    Calls Try.prog 93 ([.agg ([.int .i64 a0_0, va0_1, va0_2, va0_3].toArray), .int .i64 a1, .int .i64 a2] : List Value).toArray w (fun e w' => e = .returned (.agg (encA r0).toArray) ∧ Ext w w') := by
  unfold impl_trapFrom.f at h
  have hl_va0_1 := hr_a0_1.len
  have hl_va0_2 := hr_a0_2.len
  have hl_va0_3 := hr_a0_3.len
  refine Calls.of_tri (N := 92) Try.func93 rfl rfl rfl (Sep.nil (M := noM)) ?_
  refine Tri.seq ?_
  refine Tri.reg (l := [0, 1]) rfl ?_
  refine F.m rfl rfl rfl (wanted_none rfl) (m_boxG rfl rfl) ?_
  rintro _ _ ⟨b3_1, rfl, rfl⟩
  refine F.m rfl rfl rfl (wanted_none rfl) (m_alloc ti111) ?_
  rintro _ _ ⟨b6_1, rfl, rfl⟩
  refine F.nil ?_
  refine Nrm.seq ?_
  refine Tri.seq ?_
  refine Tri.reg (l := [0, 1, 2]) rfl ?_
  refine F.q rfl rfl rfl (wanted_none rfl) (r_buildA (qs := []) (cs := encA (Arr.rep 768 0)) Try.underlying111 ti109 ti111 rfl .nil (encA_len _) rfl) ?_
  refine F.m rfl rfl rfl (wanted_none rfl) (m_alloc ti111) ?_
  rintro _ _ ⟨b7_1, rfl, rfl⟩
  refine F.ef0 rfl rfl (wanted_none rfl) (d_storeArr (i := 0) (g := (Arr.rep 768 0)) (h := (Arr.rep 768 0)) ti111 rfl rfl rfl) ?_
  rintro _ _ ⟨rfl, rfl⟩
  refine F.nil ?_
  refine Nrm.seq ?_
  refine Tri.seq ?_
  refine Tri.seq ?_
  refine Tri.reg (l := [0]) rfl ?_
  refine F.q rfl rfl rfl (wanted_none rfl) (r_move rfl) ?_
  refine F.nil ?_
  refine Nrm.seq ?_
  obtain ⟨xb7_1_0, hE_1, h⟩ := bind_some h
  refine Tri.block ?_
  refine Tri.only [1, 2, 3, 6, 7, 17] rfl ?_
  refine Tri.pick [0, 1, 2] rfl rfl ?_
  refine Tri.rounds (fun n e' C' => ∃ (x17' : Int) (xb7_1_0' : Arr 768), impl_trapFrom.l0 k n x17' xb7_1_0' = some xb7_1_0 ∧ e' = [(1, .int .i64 a1), (2, .int .i64 a2), (3, .pointer (some ⟨b3_1, 0, none⟩)), (6, .pointer (some ⟨b6_1, 0, none⟩)), (7, .pointer (some ⟨b7_1, 0, none⟩)), (17, .int .i64 x17')] ∧ C' = Sep w noM [R.box b7_1 111 (encA xb7_1_0'), R.box b6_1 111 (encA (Arr.rep 768 0)), R.box b3_1 33 [.int .i64 a0_0, va0_1, va0_2, va0_3]]) k ?_ ?_ ?_
  · exact ⟨0, (Arr.rep 768 0), hE_1, rfl, rfl⟩
  · rintro _ _ ⟨_, _, hE_1, _⟩
    rw [impl_trapFrom.l0.eq_1] at hE_1; cases hE_1
  · rintro n_1 _ _ ⟨x17, xb7_1_0, hE_1, rfl, rfl⟩ ih_1
    rw [impl_trapFrom.l0.eq_2] at hE_1
    refine Tri.seq ?_
    refine Tri.reg (l := [0]) rfl ?_
    refine F.q rfl rfl rfl (wanted_none rfl) (r_lss rfl rfl) ?_
    refine F.nil ?_
    refine Nrm.seq ?_
    refine Tri.seq ?_
    refine Tri.cond (b := decide (x17 < 12)) rfl (fun g_1 => ?_) (fun g_1 => ?_)
    · replace hE_1 := if_tt g_1 hE_1
      refine Tri.skip ?_
      refine Nrm.seq ?_
      refine Tri.seq ?_
      refine Tri.block ?_
      refine Tri.seq ?_
      refine Tri.reg (l := [0, 1]) rfl ?_
      refine F.q rfl rfl rfl (wanted_none rfl) (r_move rfl) ?_
      refine F.q rfl rfl rfl (wanted_none rfl) (r_assign rfl) ?_
      refine F.nil ?_
      refine Nrm.seq ?_
      refine Tri.seq ?_
      refine Tri.reg (l := [0]) rfl ?_
      refine F.q rfl rfl rfl (wanted_none rfl) (r_move rfl) ?_
      refine F.nil ?_
      refine Nrm.seq ?_
      obtain ⟨xb7_1_0r, hE_2, hE_1⟩ := bind_some hE_1
      refine Tri.block ?_
      refine Tri.only [1, 2, 3, 6, 7, 8, 17, 20] rfl ?_
      refine Tri.pick [0, 1, 2] rfl rfl ?_
      refine Tri.rounds (fun n e' C' => ∃ (x20' : Int) (xb7_1_0r' : Arr 768), impl_trapFrom.l1 k x17 n x20' xb7_1_0r' = some xb7_1_0r ∧ e' = [(1, .int .i64 a1), (2, .int .i64 a2), (3, .pointer (some ⟨b3_1, 0, none⟩)), (6, .pointer (some ⟨b6_1, 0, none⟩)), (7, .pointer (some ⟨b7_1, 0, none⟩)), (8, .int .i64 x17), (17, .int .i64 x17), (20, .int .i64 x20')] ∧ C' = Sep w noM [R.box b7_1 111 (encA xb7_1_0r'), R.box b6_1 111 (encA (Arr.rep 768 0)), R.box b3_1 33 [.int .i64 a0_0, va0_1, va0_2, va0_3]]) k ?_ ?_ ?_
      · exact ⟨0, xb7_1_0, hE_2, rfl, rfl⟩
      · rintro _ _ ⟨_, _, hE_2, _⟩
        rw [impl_trapFrom.l1.eq_1] at hE_2; cases hE_2
      · rintro n_2 _ _ ⟨x20, xb7_1_0r, hE_2, rfl, rfl⟩ ih_2
        rw [impl_trapFrom.l1.eq_2] at hE_2
        refine Tri.seq ?_
        refine Tri.reg (l := [0]) rfl ?_
        refine F.q rfl rfl rfl (wanted_none rfl) (r_lss rfl rfl) ?_
        refine F.nil ?_
        refine Nrm.seq ?_
        refine Tri.seq ?_
        refine Tri.cond (b := decide (x20 < 64)) rfl (fun g_2 => ?_) (fun g_2 => ?_)
        · replace hE_2 := if_tt g_2 hE_2
          refine Tri.skip ?_
          refine Nrm.seq ?_
          refine Tri.seq ?_
          refine Tri.block ?_
          refine Tri.seq ?_
          refine Tri.reg (l := [0, 1]) rfl ?_
          refine F.q rfl rfl rfl (wanted_none rfl) (r_move rfl) ?_
          refine F.q rfl rfl rfl (wanted_none rfl) (r_assign rfl) ?_
          refine F.nil ?_
          refine Nrm.seq ?_
          obtain ⟨hb25, hE_2⟩ := ck hE_2
          obtain ⟨hb26, hE_2⟩ := ck hE_2
          refine Tri.reg (l := [0, 1, 2, 3, 4]) rfl ?_
          refine F.q rfl rfl rfl (wanted_none rfl) (r_move rfl) ?_
          refine F.q rfl rfl rfl (wanted_none rfl) (r_move rfl) ?_
          refine F.q rfl rfl rfl (wanted_none rfl) (r_indexAddrA Try.underlying111 ti109 rfl rfl hb25.1 hb25.2) ?_
          refine F.q rfl rfl rfl (wanted_none rfl) (r_indexAddrA Try.underlying109 ti3 rfl rfl hb26.1 hb26.2) ?_
          refine F.ef0 rfl rfl (wanted_none rfl) (d_storeTab (i := 0) (m := 64) (g := xb7_1_0r) (r := x17) (j := x20) (u := (-1)) ti3 rfl rfl rfl (tabB 12 64 768 hb25 rfl) hb26) ?_
          rintro _ _ ⟨rfl, rfl⟩
          refine F.nil ?_
          refine Nrm.block ?_
          refine Nrm.seq ?_
          refine Tri.reg (l := [0, 1]) rfl ?_
          refine F.q rfl rfl rfl (wanted_none rfl) (r_add rfl rfl) ?_
          refine F.q rfl rfl rfl (wanted_none rfl) (r_move rfl) ?_
          refine F.nil ?_
          refine Nrm.round ?_
          refine Rnd.only [1, 2, 3, 6, 7, 8, 17, 20] rfl ?_
          refine Rnd.pick [0, 1, 2] rfl rfl ?_
          exact ih_2 _ _ ⟨w64 (x20 + 1), (Arr.put xb7_1_0r (x17 * 64 + x20) (-1)), hE_2, rfl, rfl⟩
        · replace hE_2 := if_ff g_2 hE_2
          refine Tri.exit ?_
          refine Exi.then ?_
          refine Exi.then ?_
          refine Exi.same ?_
          cases hE_2
          refine Nrm.block ?_
          refine Nrm.seq ?_
          refine Tri.reg (l := [0, 1]) rfl ?_
          refine F.q rfl rfl rfl (wanted_none rfl) (r_add rfl rfl) ?_
          refine F.q rfl rfl rfl (wanted_none rfl) (r_move rfl) ?_
          refine F.nil ?_
          refine Nrm.round ?_
          refine Rnd.only [1, 2, 3, 6, 7, 17] rfl ?_
          refine Rnd.pick [0, 1, 2] rfl rfl ?_
          exact ih_1 _ _ ⟨w64 (x17 + 1), xb7_1_0r, hE_1, rfl, rfl⟩
    · replace hE_1 := if_ff g_1 hE_1
      refine Tri.exit ?_
      refine Exi.then ?_
      refine Exi.then ?_
      refine Exi.same ?_
      cases hE_1
      refine Nrm.seq ?_
      refine Tri.seq ?_
      obtain ⟨hb31, h⟩ := ck h
      obtain ⟨hb32, h⟩ := ck h
      refine Tri.reg (l := [0, 1, 2, 3, 4]) rfl ?_
      refine F.q rfl rfl rfl (wanted_none rfl) (r_move rfl) ?_
      refine F.q rfl rfl rfl (wanted_none rfl) (r_move rfl) ?_
      refine F.q rfl rfl rfl (wanted_none rfl) (r_indexAddrA Try.underlying111 ti109 rfl rfl hb31.1 hb31.2) ?_
      refine F.q rfl rfl rfl (wanted_none rfl) (r_indexAddrA Try.underlying109 ti3 rfl rfl hb32.1 hb32.2) ?_
      refine F.ef0 rfl rfl (wanted_none rfl) (d_storeTab (i := 0) (m := 64) (g := xb7_1_0) (r := a1) (j := a2) (u := 0) ti3 rfl rfl rfl (tabB 12 64 768 hb31 rfl) hb32) ?_
      rintro _ _ ⟨rfl, rfl⟩
      refine F.nil ?_
      refine Nrm.seq ?_
      refine Tri.seq ?_
      refine Tri.seq ?_
      refine Tri.reg (l := [0, 1, 2, 3, 4]) rfl ?_
      refine F.q rfl rfl rfl (wanted_none rfl) (r_move rfl) ?_
      refine F.q rfl rfl rfl (wanted_none rfl) (r_move rfl) ?_
      refine F.q rfl rfl rfl (wanted_none rfl) (r_buildA (qs := [(0, [.int .i64 a1]), (1, [.int .i64 a2])]) (cs := [.int .i64 a1, .int .i64 a2]) Try.underlying89 ti3 ti89 rfl (.cons rfl rfl (Nat.le_of_ble_eq_true rfl) (.cons rfl rfl (Nat.le_of_ble_eq_true rfl) .nil)) rfl rfl) ?_
      refine F.m rfl rfl rfl (wanted_none rfl) (m_buildF (l := ([(a1, a2)] : List (Int × Int))) Try.underlying41 ti89 rfl rfl rfl rfl rfl) ?_
      rintro v36_1 _ ⟨S36_1, hl_v36_1, rfl⟩
      refine F.q rfl rfl rfl (wanted_none rfl) (r_assign rfl) ?_
      refine F.nil ?_
      refine Nrm.seq ?_
      obtain ⟨xb7_1_0rr, hE_3, h⟩ := bind_some h
      refine Tri.block ?_
      refine Tri.only [3, 6, 7, 10] rfl ?_
      refine Tri.pick [1, 2, 3, 0] rfl rfl ?_
      refine Tri.rounds (fun n e' C' => ∃ (x10' : List (Int × Int)) (xb7_1_0rr' : Arr 768) (w10 : Value) (T10 : Nat → Prop), impl_trapFrom.l2 k a0_0 a0_1 a0_2 a0_3 n x10' xb7_1_0rr' = some xb7_1_0rr ∧ SlLen w10 (x10').length ∧ e' = [(3, .pointer (some ⟨b3_1, 0, none⟩)), (6, .pointer (some ⟨b6_1, 0, none⟩)), (7, .pointer (some ⟨b7_1, 0, none⟩)), (10, w10)] ∧ C' = Sep w noM [R.box b7_1 111 (encA xb7_1_0rr'), R.box b6_1 111 (encA (Arr.rep 768 0)), R.box b3_1 33 [.int .i64 a0_0, va0_1, va0_2, va0_3], R.sl T10 w10 (x10' : List (Int × Int))]) k ?_ ?_ ?_
      · exact ⟨([(a1, a2)] : List (Int × Int)), (Arr.put xb7_1_0 (a1 * 64 + a2) 0), v36_1, S36_1, hE_3, hl_v36_1, rfl, rfl⟩
      · rintro _ _ ⟨_, _, _, _, hE_3, _⟩
        rw [impl_trapFrom.l2.eq_1] at hE_3; cases hE_3
      · rintro n_3 _ _ ⟨x10, xb7_1_0rr, w10, T10, hE_3, hl_w10, rfl, rfl⟩ ih_3
        rw [impl_trapFrom.l2.eq_2] at hE_3
        refine Tri.seq ?_
        refine Tri.seq ?_
        refine Tri.reg (l := [0, 1, 2]) rfl ?_
        refine F.q rfl rfl rfl (wanted_none rfl) (r_move rfl) ?_
        refine F.q rfl rfl rfl (wanted_none rfl) (r_len Try.underlying41 rfl hl_w10) ?_
        refine F.q rfl rfl rfl (wanted_none rfl) (r_gtr rfl rfl) ?_
        refine F.nil ?_
        refine Nrm.seq ?_
        refine Tri.cond (b := decide ((x10.length : Int) > 0)) rfl (fun g_3 => ?_) (fun g_3 => ?_)
        · replace hE_3 := if_tt g_3 hE_3
          refine Tri.skip ?_
          refine Nrm.seq ?_
          refine Tri.seq ?_
          refine Tri.block ?_
          refine Tri.seq ?_
          obtain ⟨t43, h43, hE_3⟩ := bind_some hE_3
          obtain ⟨t47, h47, hE_3⟩ := bind_some hE_3
          refine Tri.drawA mixedT Sep.up [(0, true), (1, true), (2, true), (3, true), (4, true), (5, true), (6, true), (7, true), (8, true), (9, true)] [] (by kernel_rfl) ?_
          refine S.q rfl rfl rfl (wanted_none rfl) (r_move rfl) ?_
          refine S.q rfl rfl rfl (wanted_none rfl) (r_indexAddrS Try.underlying41 ti89 rfl hl_w10 rfl (rdl_some h43).1 (rdl_some h43).2.1) ?_
          refine S.q rfl rfl rfl (wanted_none rfl) (r_indexAddrA Try.underlying89 ti3 rfl rfl (by decide) (by decide)) ?_
          refine S.q rfl rfl rfl (wanted_none rfl) (r_load ta3 rfl (fun w hw => cell_1 (Rd.flat ((rd_sl (i := 3) rfl) w hw) (rdl_some h43).2.2) rfl)) ?_
          refine S.q rfl rfl rfl (wanted_none rfl) (r_move rfl) ?_
          refine S.q rfl rfl rfl (wanted_none rfl) (r_indexAddrS Try.underlying41 ti89 rfl hl_w10 rfl (rdl_some h47).1 (rdl_some h47).2.1) ?_
          refine S.q rfl rfl rfl (wanted_none rfl) (r_indexAddrA Try.underlying89 ti3 rfl rfl (by decide) (by decide)) ?_
          refine S.q rfl rfl rfl (wanted_none rfl) (r_load ta3 rfl (fun w hw => cell_1 (Rd.flat ((rd_sl (i := 3) rfl) w hw) (rdl_some h47).2.2) rfl)) ?_
          refine S.q rfl rfl rfl (wanted_none rfl) (r_assign rfl) ?_
          refine S.q rfl rfl rfl (wanted_none rfl) (r_assign rfl) ?_
          refine S.nil ?_
          refine F.nil ?_
          refine Nrm.seq ?_
          refine Tri.seq ?_
          obtain ⟨t53, h53, hE_3⟩ := bind_some hE_3
          obtain ⟨t54, h54, hE_3⟩ := bind_some hE_3
          refine Tri.reg (l := [0, 1, 2, 3, 4, 5, 6]) rfl ?_
          refine F.q rfl rfl rfl (wanted_none rfl) (r_loadA ta33 ti33 rfl rfl (fun w hw => (box_cells (i := 2) rfl w hw))) ?_
          refine F.q rfl rfl rfl (wanted_none rfl) (r_move rfl) ?_
          refine F.q rfl rfl rfl (wanted_none rfl) (r_move rfl) ?_
          refine F.qc rfl rfl rfl (wanted_none rfl) (q_callF (xs := _) rfl ok137 rfl rfl (fun w hw => impl_trapSteps.ok h53 w ((fun _ hw => hr_a0_1.sep hw) w hw) ((fun _ hw => hr_a0_2.sep hw) w hw) ((fun _ hw => hr_a0_3.sep hw) w hw))) ?_
          refine F.m rfl rfl rfl (wanted_none rfl) (m_callF (xs := _) rfl ok68 rfl rfl (fun w hw => impl_members.ok h54 w )) ?_
          rintro v54_1 _ ⟨_, ⟨S54_1, hl_v54_1, rfl⟩, rfl⟩
          refine F.q rfl rfl rfl (wanted_none rfl) (r_len Try.underlying23 rfl hl_v54_1) ?_
          refine F.q rfl rfl rfl (wanted_none rfl) (r_move rfl) ?_
          refine F.nil ?_
          refine Nrm.seq ?_
          obtain ⟨⟨xb7_1_0rrr, x10r⟩, hE_4, hE_3⟩ := bind_some hE_3
          refine Tri.block ?_
          refine Tri.only [3, 6, 7, 10, 11, 12, 54, 55, 56] rfl ?_
          refine Tri.pick [1, 2, 3, 0, 4] rfl rfl ?_
          refine Tri.rounds (fun n e' C' => ∃ (x10r' : List (Int × Int)) (x56' : Int) (xb7_1_0rrr' : Arr 768) (w10r : Value) (T10r : Nat → Prop), impl_trapFrom.l3 k a0_2 t43 t47 t54 n x10r' x56' xb7_1_0rrr' = some (xb7_1_0rrr, x10r) ∧ SlLen w10r (x10r').length ∧ e' = [(3, .pointer (some ⟨b3_1, 0, none⟩)), (6, .pointer (some ⟨b6_1, 0, none⟩)), (7, .pointer (some ⟨b7_1, 0, none⟩)), (10, w10r), (11, .int .i64 t43.1), (12, .int .i64 t47.2), (54, v54_1), (55, .int .i64 (t54.length : Int)), (56, .int .i64 x56')] ∧ C' = Sep w noM [R.box b7_1 111 (encA xb7_1_0rrr'), R.box b6_1 111 (encA (Arr.rep 768 0)), R.box b3_1 33 [.int .i64 a0_0, va0_1, va0_2, va0_3], R.sl S54_1 v54_1 (t54 : List (Int)), R.sl T10r w10r (x10r' : List (Int × Int))]) k ?_ ?_ ?_
          · exact ⟨x10, 0, xb7_1_0rr, w10, T10, hE_4, hl_w10, rfl, rfl⟩
          · rintro _ _ ⟨_, _, _, _, _, hE_4, _⟩
            rw [impl_trapFrom.l3.eq_1] at hE_4; cases hE_4
          · rintro n_4 _ _ ⟨x10r, x56, xb7_1_0rrr, w10r, T10r, hE_4, hl_w10r, rfl, rfl⟩ ih_4
            rw [impl_trapFrom.l3.eq_2] at hE_4
            refine Tri.seq ?_
            refine Tri.reg (l := [0]) rfl ?_
            refine F.q rfl rfl rfl (wanted_none rfl) (r_lss rfl rfl) ?_
            refine F.nil ?_
            refine Nrm.seq ?_
            refine Tri.seq ?_
            refine Tri.cond (b := decide (x56 < (t54.length : Int))) rfl (fun g_4 => ?_) (fun g_4 => ?_)
            · replace hE_4 := if_tt g_4 hE_4
              refine Tri.skip ?_
              refine Nrm.seq ?_
              refine Tri.seq ?_
              refine Tri.block ?_
              refine Tri.seq ?_
              obtain ⟨t58, h58, hE_4⟩ := bind_some hE_4
              refine Tri.reg (l := [0, 1, 2]) rfl ?_
              refine F.q rfl rfl rfl (wanted_none rfl) (r_indexAddrS Try.underlying23 ti3 rfl hl_v54_1 rfl (rdl_some h58).1 (rdl_some h58).2.1) ?_
              refine F.q rfl rfl rfl (wanted_none rfl) (r_load ta3 rfl (fun w hw => cell_0 (Rd.flat ((rd_sl (i := 3) rfl) w hw) (rdl_some h58).2.2) rfl)) ?_
              refine F.q rfl rfl rfl (wanted_none rfl) (r_assign rfl) ?_
              refine F.nil ?_
              refine Nrm.seq ?_
              refine Tri.seq ?_
              obtain ⟨t65, h65, hE_4⟩ := bind_some hE_4
              refine Tri.reg (l := [0, 1, 2, 3, 4, 5, 6, 7, 8]) rfl ?_
              refine F.q rfl rfl rfl (wanted_none rfl) (r_move rfl) ?_
              refine F.q rfl rfl rfl (wanted_none rfl) (r_fieldAddr tf33_0 rfl) ?_
              refine F.q rfl rfl rfl (wanted_none rfl) (r_fieldAddr tf31_2 rfl) ?_
              refine F.q rfl rfl rfl (wanted_none rfl) (r_load ta23 rfl (fun w hw => cell_2 (box_cells (i := 2) rfl w hw) rfl)) ?_
              refine F.q rfl rfl rfl (wanted_none rfl) (r_move rfl) ?_
              refine F.q rfl rfl rfl (wanted_none rfl) (r_indexAddrS Try.underlying23 ti3 rfl hl_va0_2 rfl (rdl_some h65).1 (rdl_some h65).2.1) ?_
              refine F.q rfl rfl rfl (wanted_none rfl) (r_load ta3 rfl (fun w hw => cell_0 (Rd.flat ((fun _ hw => hr_a0_2.sep hw) w hw) (rdl_some h65).2.2) rfl)) ?_
              refine F.q rfl rfl rfl (wanted_none rfl) (r_or rfl rfl) ?_
              refine F.q rfl rfl rfl (wanted_none rfl) (r_assign rfl) ?_
              refine F.nil ?_
              refine Nrm.seq ?_
              refine Tri.seq ?_
              obtain ⟨hb70, hE_4⟩ := ck hE_4
              obtain ⟨hb71, hE_4⟩ := ck hE_4
              refine Tri.reg (l := [0, 1, 2, 3, 4, 5]) rfl ?_
              refine F.q rfl rfl rfl (wanted_none rfl) (r_move rfl) ?_
              refine F.q rfl rfl rfl (wanted_none rfl) (r_move rfl) ?_
              refine F.q rfl rfl rfl (wanted_none rfl) (r_indexAddrA Try.underlying111 ti109 rfl rfl hb70.1 hb70.2) ?_
              refine F.q rfl rfl rfl (wanted_none rfl) (r_indexAddrA Try.underlying109 ti3 rfl rfl hb71.1 hb71.2) ?_
              refine F.q rfl rfl rfl (wanted_none rfl) (r_load ta3 rfl (fun w hw => cell_tab (g := xb7_1_0rrr) (m := 64) (box_cells (i := 0) rfl w hw) (tabB 12 64 768 hb70 rfl) hb71)) ?_
              refine F.q rfl rfl rfl (wanted_none rfl) (r_lss rfl rfl) ?_
              refine F.nil ?_
              refine Nrm.seq ?_
              obtain ⟨⟨y10, yb7_1_0⟩, hE_5, hE_4⟩ := bind_some hE_4
              refine Tri.cut (fun e' C' => ∃ (v10_1 : Value) (S10_1 : Nat → Prop), SlLen v10_1 (y10).length ∧ e' = [(3, .pointer (some ⟨b3_1, 0, none⟩)), (6, .pointer (some ⟨b6_1, 0, none⟩)), (7, .pointer (some ⟨b7_1, 0, none⟩)), (10, v10_1), (11, .int .i64 t43.1), (12, .int .i64 t47.2), (54, v54_1), (55, .int .i64 (t54.length : Int)), (56, .int .i64 x56)] ∧ C' = Sep w noM [R.box b7_1 111 (encA yb7_1_0), R.box b6_1 111 (encA (Arr.rep 768 0)), R.box b3_1 33 [.int .i64 a0_0, va0_1, va0_2, va0_3], R.sl S10_1 v10_1 (y10 : List (Int × Int)), R.sl S54_1 v54_1 (t54 : List (Int))]) ?_ (fun hj_1 => ?_)
              · rintro _ _ ⟨v10_1, S10_1, hl_v10_1, rfl, rfl⟩
                refine Nrm.block ?_
                refine Nrm.seq ?_
                refine Tri.reg (l := [0, 1]) rfl ?_
                refine F.q rfl rfl rfl (wanted_none rfl) (r_add rfl rfl) ?_
                refine F.q rfl rfl rfl (wanted_none rfl) (r_move rfl) ?_
                refine F.nil ?_
                refine Nrm.round ?_
                refine Rnd.only [3, 6, 7, 10, 11, 12, 54, 55, 56] rfl ?_
                refine Rnd.pick [0, 1, 2, 4, 3] rfl rfl ?_
                exact ih_4 _ _ ⟨y10, w64 (x56 + 1), yb7_1_0, v10_1, S10_1, hE_4, hl_v10_1, rfl, rfl⟩
              · refine Tri.cond (b := decide ((Arr.at xb7_1_0rrr (t58 * 64 + (bor t47.2 t65))) < 0)) rfl (fun g_5 => ?_) (fun g_5 => ?_)
                · replace hE_5 := if_tt g_5 hE_5
                  refine Tri.seq ?_
                  obtain ⟨hb78, hE_5⟩ := ck hE_5
                  obtain ⟨hb79, hE_5⟩ := ck hE_5
                  obtain ⟨hb82, hE_5⟩ := ck hE_5
                  obtain ⟨hb83, hE_5⟩ := ck hE_5
                  refine Tri.drawA mixedT Sep.up [(0, true), (1, true), (2, true), (3, true), (4, true), (5, true), (6, true), (7, true), (8, true), (9, true)] [10] (by kernel_rfl) ?_
                  refine S.q rfl rfl rfl (wanted_none rfl) (r_move rfl) ?_
                  refine S.q rfl rfl rfl (wanted_none rfl) (r_move rfl) ?_
                  refine S.q rfl rfl rfl (wanted_none rfl) (r_move rfl) ?_
                  refine S.q rfl rfl rfl (wanted_none rfl) (r_move rfl) ?_
                  refine S.q rfl rfl rfl (wanted_none rfl) (r_indexAddrA Try.underlying111 ti109 rfl rfl hb78.1 hb78.2) ?_
                  refine S.q rfl rfl rfl (wanted_none rfl) (r_indexAddrA Try.underlying109 ti3 rfl rfl hb79.1 hb79.2) ?_
                  refine S.q rfl rfl rfl (wanted_none rfl) (r_load ta3 rfl (fun w hw => cell_tab (g := xb7_1_0rrr) (m := 64) (box_cells (i := 0) rfl w hw) (tabB 12 64 768 hb78 rfl) hb79)) ?_
                  refine S.q rfl rfl rfl (wanted_none rfl) (r_add rfl rfl) ?_
                  refine S.q rfl rfl rfl (wanted_none rfl) (r_indexAddrA Try.underlying111 ti109 rfl rfl hb82.1 hb82.2) ?_
                  refine S.q rfl rfl rfl (wanted_none rfl) (r_indexAddrA Try.underlying109 ti3 rfl rfl hb83.1 hb83.2) ?_
                  refine S.nil ?_
                  refine F.ef0 rfl rfl (wanted_none rfl) (d_storeTab (i := 0) (m := 64) (g := xb7_1_0rrr) (r := t58) (j := bor t47.2 t65) (u := w64 ((Arr.at xb7_1_0rrr (t43.1 * 64 + t47.2)) + 1)) ti3 rfl rfl rfl (tabB 12 64 768 hb82 rfl) hb83) ?_
                  rintro _ _ ⟨rfl, rfl⟩
                  refine F.nil ?_
                  refine Nrm.seq ?_
                  obtain ⟨hs89, hE_5⟩ := ck hE_5
                  refine Tri.reg (l := [0, 1, 2, 3, 4, 5, 6]) rfl ?_
                  refine F.q rfl rfl rfl (wanted_none rfl) (r_move rfl) ?_
                  refine F.q rfl rfl rfl (wanted_none rfl) (r_move rfl) ?_
                  refine F.q rfl rfl rfl (wanted_none rfl) (r_move rfl) ?_
                  refine F.q rfl rfl rfl (wanted_none rfl) (r_buildA (qs := [(0, [.int .i64 t58]), (1, [.int .i64 (bor t47.2 t65)])]) (cs := [.int .i64 t58, .int .i64 (bor t47.2 t65)]) Try.underlying89 ti3 ti89 rfl (.cons rfl rfl (Nat.le_of_ble_eq_true rfl) (.cons rfl rfl (Nat.le_of_ble_eq_true rfl) .nil)) rfl rfl) ?_
                  refine F.m rfl rfl rfl (wanted_none rfl) (m_buildF (l := ([(t58, bor t47.2 t65)] : List (Int × Int))) Try.underlying41 ti89 rfl rfl rfl rfl rfl) ?_
                  rintro v88_1 _ ⟨S88_1, hl_v88_1, rfl⟩
                  refine F.ef rfl rfl rfl (wanted_none rfl) (d_append (i := 5) Try.underlying41 Try.underlying41 ti89 rfl (by decide) rfl rfl rfl (rd_sl (i := 0) rfl) hs89) ?_
                  rintro v89_1 _ ⟨S89_1, rfl, hl_v89_1⟩
                  refine F.q rfl rfl rfl (wanted_none rfl) (r_assign rfl) ?_
                  refine F.nil ?_
                  cases hE_5
                  refine Nrm.only [3, 6, 7, 10, 11, 12, 54, 55, 56] rfl ?_
                  refine Nrm.pick [1, 2, 3, 5, 4] rfl rfl ?_
                  exact hj_1 _ _ ⟨v89_1, S89_1, hl_v89_1, rfl, rfl⟩
                · replace hE_5 := if_ff g_5 hE_5
                  refine Tri.skip ?_
                  cases hE_5
                  refine Nrm.only [3, 6, 7, 10, 11, 12, 54, 55, 56] rfl ?_
                  refine Nrm.pick [0, 1, 2, 4, 3] rfl rfl ?_
                  exact hj_1 _ _ ⟨w10r, T10r, hl_w10r, rfl, rfl⟩
            · replace hE_4 := if_ff g_4 hE_4
              refine Tri.exit ?_
              refine Exi.then ?_
              refine Exi.then ?_
              refine Exi.same ?_
              cases hE_4
              refine Nrm.block ?_
              refine Nrm.seq ?_
              obtain ⟨t41, h41, hE_3⟩ := bind_some hE_3
              refine Tri.reg (l := [0, 1, 2]) rfl ?_
              refine F.q rfl rfl rfl (wanted_none rfl) (r_move rfl) ?_
              refine F.q rfl rfl rfl (wanted_none rfl) (r_sliceL Try.underlying41 ti89 rfl (rd_sl (i := 4) rfl) rfl h41) ?_
              refine F.q rfl rfl rfl (wanted_none rfl) (r_assign rfl) ?_
              refine F.nil ?_
              refine Nrm.imp (fun w hw => Sep.resl (i := 4) rfl h41 hw) ?_
              refine Nrm.round ?_
              refine Rnd.only [3, 6, 7, 10] rfl ?_
              refine Rnd.pick [0, 1, 2, 4] rfl rfl ?_
              exact ih_3 _ _ ⟨t41, xb7_1_0rrr, (slSub w10r 2 (1 : Int).toNat (x10r.length : Int).toNat), T10r, hE_3, (slc_len hl_w10r h41), rfl, rfl⟩
        · replace hE_3 := if_ff g_3 hE_3
          refine Tri.exit ?_
          refine Exi.then ?_
          refine Exi.then ?_
          refine Exi.same ?_
          cases hE_3
          refine Nrm.seq ?_
          refine Tri.seq ?_
          refine Tri.reg (l := [0, 1]) rfl ?_
          refine F.q rfl rfl rfl (wanted_none rfl) (r_loadA (cs := encA xb7_1_0rr) ta111 ti111 rfl (encA_len _) (fun w hw => (box_cells (i := 0) rfl w hw))) ?_
          refine F.ef0 rfl rfl (wanted_none rfl) (d_storeArr (i := 1) (g := (Arr.rep 768 0)) (h := xb7_1_0rr) ti111 rfl rfl rfl) ?_
          rintro _ _ ⟨rfl, rfl⟩
          refine F.nil ?_
          refine Nrm.seq ?_
          refine Tri.ret ?_
          cases h
          exact Rtn.body (.cell rfl ta111 ti111 (encA_len _) (fun _ hw => box_cells (i := 1) rfl _ hw) .nil) (fun w hw => ⟨rfl, hw.ext⟩)

end Go.Proofs

/- loop.example/g01158/impl.better -/

namespace Go.Proofs
open Go Go.Ga
set_option linter.unusedVariables false
set_option maxRecDepth 100000
set_option maxHeartbeats 4000000
def impl_better.f (k : Nat) (a0 : Int) (a1 : Int) : Option (Bool) := ((if (decide (a0 ≥ 0)) = true then (if (decide (a1 < 0)) = true then some true else some (decide (a0 < a1))) else some false)).bind fun y4 => some y4

theorem impl_better.ok {k : Nat}  {a0 : Int} {a1 : Int} {r0 : Bool} (h : impl_better.f k a0 a1 = some r0) (w : World) :
    Calls Try.prog 164 ([.int .i64 a0, .int .i64 a1] : List Value).toArray w (fun e w' => e = .returned (.bool r0) ∧ Ext w w') := by
  unfold impl_better.f at h
  refine Calls.of_tri (N := 16) Try.func164 rfl rfl rfl (Sep.nil (M := noM)) ?_
  refine Tri.seq ?_
  refine Tri.reg (l := [0]) rfl ?_
  refine F.q rfl rfl rfl (wanted_none rfl) (r_assign rfl) ?_
  refine F.nil ?_
  refine Nrm.seq ?_
  refine Tri.seq ?_
  obtain ⟨y4, hE_1, h⟩ := bind_some h
  refine Tri.cut (fun e' C' => e' = [(4, .bool y4)] ∧ C' = Sep w noM []) ?_ (fun hj_1 => ?_)
  · rintro _ _ ⟨rfl, rfl⟩
    refine Nrm.seq ?_
    refine Tri.ret ?_
    cases h
    exact Rtn.body (.tmp rfl .nil) (fun w hw => ⟨rfl, hw.ext⟩)
  · rcases Bool.eq_false_or_eq_true (decide (a0 ≥ 0)) with g7 | g7
    · replace hE_1 := if_tt g7 hE_1
      rcases Bool.eq_false_or_eq_true (decide (a1 < 0)) with g10 | g10
      · replace hE_1 := if_tt g10 hE_1
        refine Tri.reg (l := [0, 1, 2, 3, 4, 5, 6, 7, 8, 9, 10, 11]) rfl ?_
        refine F.q rfl rfl rfl (wanted_none rfl) (r_move rfl) ?_
        refine F.q rfl rfl rfl (wanted_none rfl) (r_geq rfl rfl) ?_
        refine F.q rfl rfl rfl (wanted_none rfl) (r_move rfl) ?_
        refine F.q rfl rfl rfl (wg rfl rfl rfl g7) (r_move rfl) ?_
        refine F.q rfl rfl rfl (wg rfl rfl rfl g7) (r_lss rfl rfl) ?_
        refine F.q rfl rfl rfl (wg rfl rfl rfl g7) (r_move rfl) ?_
        refine F.sk rfl rfl rfl (wf rfl rfl rfl g10) ?_
        refine F.sk rfl rfl rfl (wf rfl rfl rfl g10) ?_
        refine F.sk rfl rfl rfl (wf rfl rfl rfl g10) ?_
        refine F.q rfl rfl rfl (wg rfl rfl rfl g7) (r_pick rfl rfl g10) ?_
        refine F.q rfl rfl rfl (wanted_none rfl) (r_pick rfl rfl g7) ?_
        refine F.q rfl rfl rfl (wanted_none rfl) (r_assign rfl) ?_
        refine F.nil ?_
        cases hE_1
        refine Nrm.only [4] rfl ?_
        refine Nrm.pick [] rfl rfl ?_
        exact hj_1 _ _ ⟨rfl, rfl⟩
      · replace hE_1 := if_ff g10 hE_1
        refine Tri.reg (l := [0, 1, 2, 3, 4, 5, 6, 7, 8, 9, 10, 11]) rfl ?_
        refine F.q rfl rfl rfl (wanted_none rfl) (r_move rfl) ?_
        refine F.q rfl rfl rfl (wanted_none rfl) (r_geq rfl rfl) ?_
        refine F.q rfl rfl rfl (wanted_none rfl) (r_move rfl) ?_
        refine F.q rfl rfl rfl (wg rfl rfl rfl g7) (r_move rfl) ?_
        refine F.q rfl rfl rfl (wg rfl rfl rfl g7) (r_lss rfl rfl) ?_
        refine F.q rfl rfl rfl (wg rfl rfl rfl g7) (r_move rfl) ?_
        refine F.q rfl rfl rfl (wg rfl rfl rfl g10) (r_move rfl) ?_
        refine F.q rfl rfl rfl (wg rfl rfl rfl g10) (r_move rfl) ?_
        refine F.q rfl rfl rfl (wg rfl rfl rfl g10) (r_lss rfl rfl) ?_
        refine F.q rfl rfl rfl (wg rfl rfl rfl g7) (r_pickf rfl rfl g10) ?_
        refine F.q rfl rfl rfl (wanted_none rfl) (r_pick rfl rfl g7) ?_
        refine F.q rfl rfl rfl (wanted_none rfl) (r_assign rfl) ?_
        refine F.nil ?_
        cases hE_1
        refine Nrm.only [4] rfl ?_
        refine Nrm.pick [] rfl rfl ?_
        exact hj_1 _ _ ⟨rfl, rfl⟩
    · replace hE_1 := if_ff g7 hE_1
      refine Tri.reg (l := [0, 1, 2, 3, 4, 5, 6, 7, 8, 9, 10, 11]) rfl ?_
      refine F.q rfl rfl rfl (wanted_none rfl) (r_move rfl) ?_
      refine F.q rfl rfl rfl (wanted_none rfl) (r_geq rfl rfl) ?_
      refine F.q rfl rfl rfl (wanted_none rfl) (r_move rfl) ?_
      refine F.sk rfl rfl rfl (wf rfl rfl rfl g7) ?_
      refine F.sk rfl rfl rfl (wf rfl rfl rfl g7) ?_
      refine F.sk rfl rfl rfl (wf rfl rfl rfl g7) ?_
      refine F.sk rfl rfl rfl (wanted_undef rfl rfl rfl) ?_
      refine F.sk rfl rfl rfl (wanted_undef rfl rfl rfl) ?_
      refine F.sk rfl rfl rfl (wanted_undef rfl rfl rfl) ?_
      refine F.sk rfl rfl rfl (wf rfl rfl rfl g7) ?_
      refine F.q rfl rfl rfl (wanted_none rfl) (r_pickf rfl rfl g7) ?_
      refine F.q rfl rfl rfl (wanted_none rfl) (r_assign rfl) ?_
      refine F.nil ?_
      cases hE_1
      refine Nrm.only [4] rfl ?_
      refine Nrm.pick [] rfl rfl ?_
      exact hj_1 _ _ ⟨rfl, rfl⟩

end Go.Proofs

/- loop.example/g01158/impl.trapTo -/
namespace Go.Proofs
open Go Go.Ga
set_option linter.unusedVariables false
set_option maxRecDepth 100000
set_option maxHeartbeats 4000000
def impl_trapTo.l1 (k : Nat) (a0_0 : Int) (a1 : (Int → Int → Option (Bool))) (x15 : Int) : Nat → Int → (Arr 768) → Option ((Arr 768))
  | 0, _, _ => none
  | n + 1, x18, xb5_1_0r => (if (decide (x18 < 64)) = true then if 0 ≤ x15 ∧ x15 < 12 then if 0 ≤ x18 ∧ x18 < 64 then ((if (decide (x15 < a0_0)) = true then (a1 x15 x18).bind fun t34 => some t34 else some false)).bind fun y35 => ((if y35 = true then if 0 ≤ x15 ∧ x15 < 12 then if 0 ≤ x18 ∧ x18 < 64 then some (Arr.put (Arr.put xb5_1_0r (x15 * 64 + x18) (-1)) (x15 * 64 + x18) 0) else none else none else some (Arr.put xb5_1_0r (x15 * 64 + x18) (-1)))).bind fun yb5_1_0 => impl_trapTo.l1 k a0_0 a1 x15 n (w64 (x18 + 1)) yb5_1_0 else none else none else some xb5_1_0r)

def impl_trapTo.l5 (k : Nat) (a0_2 : List Int) (x46 : Int) (x49 : Int) (t56 : List Int) : Nat → Bool → Int → (Arr 768) → Option ((Arr 768) × Bool)
  | 0, _, _, _ => none
  | n + 1, x8rrr, x58, xb5_1_0rrrrr => (if (decide (x58 < (t56.length : Int))) = true then (rdl t56 x58).bind fun t60 => (rdl a0_2 t60).bind fun t68 => if 0 ≤ t60 ∧ t60 < 12 then if 0 ≤ bor x49 t68 ∧ bor x49 t68 < 64 then ((if (decide ((Arr.at xb5_1_0rrrrr (t60 * 64 + (bor x49 t68))) ≥ 0)) = true then if 0 ≤ x46 ∧ x46 < 12 then if 0 ≤ x49 ∧ x49 < 64 then (impl_better.f k (w64 ((Arr.at xb5_1_0rrrrr (t60 * 64 + (bor x49 t68))) + 1)) (Arr.at xb5_1_0rrrrr (x46 * 64 + x49))).bind fun t84 => some t84 else none else none else some false)).bind fun y85 => ((if y85 = true then if 0 ≤ x46 ∧ x46 < 12 then if 0 ≤ x49 ∧ x49 < 64 then some (true, (Arr.put xb5_1_0rrrrr (x46 * 64 + x49) (w64 ((Arr.at xb5_1_0rrrrr (t60 * 64 + (bor x49 t68))) + 1)))) else none else none else some (x8rrr, xb5_1_0rrrrr))).bind fun (y8, yb5_1_0r) => impl_trapTo.l5 k a0_2 x46 x49 t56 n y8 (w64 (x58 + 1)) yb5_1_0r else none else none else some (xb5_1_0rrrrr, x8rrr))

def impl_trapTo.l4 (k : Nat) (a0_0 : Int) (a0_1 : List (Int × Int × Int)) (a0_2 : List Int) (a0_3 : List Int) (x46 : Int) : Nat → Bool → Int → (Arr 768) → Option ((Arr 768) × Bool)
  | 0, _, _, _ => none
  | n + 1, x8rr, x49, xb5_1_0rrrr => (if (decide (x49 < 64)) = true then (impl_trapSteps.f k a0_0 a0_1 a0_2 a0_3 x46 x49).bind fun t55 => (impl_members.f k t55).bind fun t56 => (impl_trapTo.l5 k a0_2 x46 x49 t56 k x8rr 0 xb5_1_0rrrr).bind fun (xb5_1_0rrrrr, x8rrr) => impl_trapTo.l4 k a0_0 a0_1 a0_2 a0_3 x46 n x8rrr (w64 (x49 + 1)) xb5_1_0rrrrr else some (xb5_1_0rrrr, x8rr))

def impl_trapTo.l3 (k : Nat) (a0_0 : Int) (a0_1 : List (Int × Int × Int)) (a0_2 : List Int) (a0_3 : List Int) : Nat → Bool → Int → (Arr 768) → Option ((Arr 768) × Bool)
  | 0, _, _, _ => none
  | n + 1, x8r, x46, xb5_1_0rrr => (if (decide (x46 < a0_0)) = true then (impl_trapTo.l4 k a0_0 a0_1 a0_2 a0_3 x46 k x8r 0 xb5_1_0rrr).bind fun (xb5_1_0rrrr, x8rr) => impl_trapTo.l3 k a0_0 a0_1 a0_2 a0_3 n x8rr (w64 (x46 + 1)) xb5_1_0rrrr else some (xb5_1_0rrr, x8r))

def impl_trapTo.l2 (k : Nat) (a0_0 : Int) (a0_1 : List (Int × Int × Int)) (a0_2 : List Int) (a0_3 : List Int) : Nat → Bool → (Arr 768) → Option ((Arr 768))
  | 0, _, _ => none
  | n + 1, x8, xb5_1_0rr => (if x8 = true then (impl_trapTo.l3 k a0_0 a0_1 a0_2 a0_3 k false 0 xb5_1_0rr).bind fun (xb5_1_0rrr, x8r) => impl_trapTo.l2 k a0_0 a0_1 a0_2 a0_3 n x8r xb5_1_0rrr else some xb5_1_0rr)

def impl_trapTo.l0 (k : Nat) (a0_0 : Int) (a1 : (Int → Int → Option (Bool))) : Nat → Int → (Arr 768) → Option ((Arr 768))
  | 0, _, _ => none
  | n + 1, x15, xb5_1_0 => (if (decide (x15 < 12)) = true then (impl_trapTo.l1 k a0_0 a1 x15 k 0 xb5_1_0).bind fun xb5_1_0r => impl_trapTo.l0 k a0_0 a1 n (w64 (x15 + 1)) xb5_1_0r else some xb5_1_0)

def impl_trapTo.f (k : Nat) (a0_0 : Int) (a0_1 : List (Int × Int × Int)) (a0_2 : List Int) (a0_3 : List Int) (a1 : (Int → Int → Option (Bool))) : Option ((Arr 768)) := (impl_trapTo.l0 k a0_0 a1 k 0 (Arr.rep 768 0)).bind fun xb5_1_0 => (impl_trapTo.l2 k a0_0 a0_1 a0_2 a0_3 k true xb5_1_0).bind fun xb5_1_0rr => some xb5_1_0rr

theorem impl_trapTo.ok {k : Nat}  {a0_0 : Int} {a0_1 : List (Int × Int × Int)} {a0_2 : List Int} {a0_3 : List Int} {a1 : (Int → Int → Option (Bool))} {r0 : Arr 768} (h : impl_trapTo.f k a0_0 a0_1 a0_2 a0_3 a1 = some r0) (w : World) {va0_1 : Value} {va0_2 : Value} {va0_3 : Value} (hr_a0_1 : Rd w va0_1 a0_1) (hr_a0_2 : Rd w va0_2 a0_2) (hr_a0_3 : Rd w va0_3 a0_3) {fi_a1 : FuncId} {ca_a1 : Array Value} (ho_a1 : CallOk Try.prog fi_a1) (hf_a1 : ∀ w2, Ext w w2 → ∀ (z0 : Int) (z1 : Int) (y : Bool), a1 z0 z1 = some y → Calls Try.prog fi_a1 (([.int .i64 z0, .int .i64 z1] : List Value) ++ ca_a1.toList).toArray w2 (fun e w3 => e = .returned (.bool y) ∧ Ext w2 w3)) :
    Calls Try.prog 138 ([.agg ([.int .i64 a0_0, va0_1, va0_2, va0_3].toArray), .func (.func fi_a1) #[] ca_a1] : List Value).toArray w (fun e w' => e = .returned (.agg (encA r0).toArray) ∧ Ext w w') := by
  unfold impl_trapTo.f at h
  have hl_va0_1 := hr_a0_1.len
  have hl_va0_2 := hr_a0_2.len
  have hl_va0_3 := hr_a0_3.len
  refine Calls.of_tri (N := 96) Try.func138 rfl rfl rfl (Sep.nil (M := noM)) ?_
  refine Tri.seq ?_
  refine Tri.reg (l := [0, 1]) rfl ?_
  refine F.m rfl rfl rfl (wanted_none rfl) (m_boxG rfl rfl) ?_
  rintro _ _ ⟨b2_1, rfl, rfl⟩
  refine F.m rfl rfl rfl (wanted_none rfl) (m_alloc ti111) ?_
  rintro _ _ ⟨b4_1, rfl, rfl⟩
  refine F.nil ?_
  refine Nrm.seq ?_
  refine Tri.seq ?_
  refine Tri.reg (l := [0, 1, 2]) rfl ?_
  refine F.q rfl rfl rfl (wanted_none rfl) (r_buildA (qs := []) (cs := encA (Arr.rep 768 0)) Try.underlying111 ti109 ti111 rfl .nil (encA_len _) rfl) ?_
  refine F.m rfl rfl rfl (wanted_none rfl) (m_alloc ti111) ?_
  rintro _ _ ⟨b5_1, rfl, rfl⟩
  refine F.ef0 rfl rfl (wanted_none rfl) (d_storeArr (i := 0) (g := (Arr.rep 768 0)) (h := (Arr.rep 768 0)) ti111 rfl rfl rfl) ?_
  rintro _ _ ⟨rfl, rfl⟩
  refine F.nil ?_
  refine Nrm.seq ?_
  refine Tri.seq ?_
  refine Tri.seq ?_
  refine Tri.reg (l := [0]) rfl ?_
  refine F.q rfl rfl rfl (wanted_none rfl) (r_move rfl) ?_
  refine F.nil ?_
  refine Nrm.seq ?_
  obtain ⟨xb5_1_0, hE_1, h⟩ := bind_some h
  refine Tri.block ?_
  refine Tri.only [1, 2, 4, 5, 15] rfl ?_
  refine Tri.pick [0, 1, 2] rfl rfl ?_
  refine Tri.rounds (fun n e' C' => ∃ (x15' : Int) (xb5_1_0' : Arr 768), impl_trapTo.l0 k a0_0 a1 n x15' xb5_1_0' = some xb5_1_0 ∧ e' = [(1, .func (.func fi_a1) #[] ca_a1), (2, .pointer (some ⟨b2_1, 0, none⟩)), (4, .pointer (some ⟨b4_1, 0, none⟩)), (5, .pointer (some ⟨b5_1, 0, none⟩)), (15, .int .i64 x15')] ∧ C' = Sep w noM [R.box b5_1 111 (encA xb5_1_0'), R.box b4_1 111 (encA (Arr.rep 768 0)), R.box b2_1 33 [.int .i64 a0_0, va0_1, va0_2, va0_3]]) k ?_ ?_ ?_
  · exact ⟨0, (Arr.rep 768 0), hE_1, rfl, rfl⟩
  · rintro _ _ ⟨_, _, hE_1, _⟩
    rw [impl_trapTo.l0.eq_1] at hE_1; cases hE_1
  · rintro n_1 _ _ ⟨x15, xb5_1_0, hE_1, rfl, rfl⟩ ih_1
    rw [impl_trapTo.l0.eq_2] at hE_1
    refine Tri.seq ?_
    refine Tri.reg (l := [0]) rfl ?_
    refine F.q rfl rfl rfl (wanted_none rfl) (r_lss rfl rfl) ?_
    refine F.nil ?_
    refine Nrm.seq ?_
    refine Tri.seq ?_
    refine Tri.cond (b := decide (x15 < 12)) rfl (fun g_1 => ?_) (fun g_1 => ?_)
    · replace hE_1 := if_tt g_1 hE_1
      refine Tri.skip ?_
      refine Nrm.seq ?_
      refine Tri.seq ?_
      refine Tri.block ?_
      refine Tri.seq ?_
      refine Tri.reg (l := [0, 1]) rfl ?_
      refine F.q rfl rfl rfl (wanted_none rfl) (r_move rfl) ?_
      refine F.q rfl rfl rfl (wanted_none rfl) (r_assign rfl) ?_
      refine F.nil ?_
      refine Nrm.seq ?_
      refine Tri.seq ?_
      refine Tri.reg (l := [0]) rfl ?_
      refine F.q rfl rfl rfl (wanted_none rfl) (r_move rfl) ?_
      refine F.nil ?_
      refine Nrm.seq ?_
      obtain ⟨xb5_1_0r, hE_2, hE_1⟩ := bind_some hE_1
      refine Tri.block ?_
      refine Tri.only [1, 2, 4, 5, 6, 15, 18] rfl ?_
      refine Tri.pick [0, 1, 2] rfl rfl ?_
      refine Tri.rounds (fun n e' C' => ∃ (x18' : Int) (xb5_1_0r' : Arr 768), impl_trapTo.l1 k a0_0 a1 x15 n x18' xb5_1_0r' = some xb5_1_0r ∧ e' = [(1, .func (.func fi_a1) #[] ca_a1), (2, .pointer (some ⟨b2_1, 0, none⟩)), (4, .pointer (some ⟨b4_1, 0, none⟩)), (5, .pointer (some ⟨b5_1, 0, none⟩)), (6, .int .i64 x15), (15, .int .i64 x15), (18, .int .i64 x18')] ∧ C' = Sep w noM [R.box b5_1 111 (encA xb5_1_0r'), R.box b4_1 111 (encA (Arr.rep 768 0)), R.box b2_1 33 [.int .i64 a0_0, va0_1, va0_2, va0_3]]) k ?_ ?_ ?_
      · exact ⟨0, xb5_1_0, hE_2, rfl, rfl⟩
      · rintro _ _ ⟨_, _, hE_2, _⟩
        rw [impl_trapTo.l1.eq_1] at hE_2; cases hE_2
      · rintro n_2 _ _ ⟨x18, xb5_1_0r, hE_2, rfl, rfl⟩ ih_2
        rw [impl_trapTo.l1.eq_2] at hE_2
        refine Tri.seq ?_
        refine Tri.reg (l := [0]) rfl ?_
        refine F.q rfl rfl rfl (wanted_none rfl) (r_lss rfl rfl) ?_
        refine F.nil ?_
        refine Nrm.seq ?_
        refine Tri.seq ?_
        refine Tri.cond (b := decide (x18 < 64)) rfl (fun g_2 => ?_) (fun g_2 => ?_)
        · replace hE_2 := if_tt g_2 hE_2
          refine Tri.skip ?_
          refine Nrm.seq ?_
          refine Tri.seq ?_
          refine Tri.block ?_
          refine Tri.seq ?_
          refine Tri.reg (l := [0, 1]) rfl ?_
          refine F.q rfl rfl rfl (wanted_none rfl) (r_move rfl) ?_
          refine F.q rfl rfl rfl (wanted_none rfl) (r_assign rfl) ?_
          refine F.nil ?_
          refine Nrm.seq ?_
          refine Tri.seq ?_
          obtain ⟨hb23, hE_2⟩ := ck hE_2
          obtain ⟨hb24, hE_2⟩ := ck hE_2
          refine Tri.reg (l := [0, 1, 2, 3, 4]) rfl ?_
          refine F.q rfl rfl rfl (wanted_none rfl) (r_move rfl) ?_
          refine F.q rfl rfl rfl (wanted_none rfl) (r_move rfl) ?_
          refine F.q rfl rfl rfl (wanted_none rfl) (r_indexAddrA Try.underlying111 ti109 rfl rfl hb23.1 hb23.2) ?_
          refine F.q rfl rfl rfl (wanted_none rfl) (r_indexAddrA Try.underlying109 ti3 rfl rfl hb24.1 hb24.2) ?_
          refine F.ef0 rfl rfl (wanted_none rfl) (d_storeTab (i := 0) (m := 64) (g := xb5_1_0r) (r := x15) (j := x18) (u := (-1)) ti3 rfl rfl rfl (tabB 12 64 768 hb23 rfl) hb24) ?_
          rintro _ _ ⟨rfl, rfl⟩
          refine F.nil ?_
          refine Nrm.seq ?_
          refine Tri.seq ?_
          obtain ⟨y35, hE_3, hE_2⟩ := bind_some hE_2
          refine Tri.cut (fun e' C' => e' = [(1, .func (.func fi_a1) #[] ca_a1), (2, .pointer (some ⟨b2_1, 0, none⟩)), (4, .pointer (some ⟨b4_1, 0, none⟩)), (5, .pointer (some ⟨b5_1, 0, none⟩)), (6, .int .i64 x15), (7, .int .i64 x18), (15, .int .i64 x15), (18, .int .i64 x18), (35, .bool y35)] ∧ C' = Sep w noM [R.box b5_1 111 (encA (Arr.put xb5_1_0r (x15 * 64 + x18) (-1))), R.box b4_1 111 (encA (Arr.rep 768 0)), R.box b2_1 33 [.int .i64 a0_0, va0_1, va0_2, va0_3]]) ?_ (fun hj_1 => ?_)
          · rintro _ _ ⟨rfl, rfl⟩
            refine Nrm.seq ?_
            obtain ⟨yb5_1_0, hE_4, hE_2⟩ := bind_some hE_2
            refine Tri.cut (fun e' C' => e' = [(1, .func (.func fi_a1) #[] ca_a1), (2, .pointer (some ⟨b2_1, 0, none⟩)), (4, .pointer (some ⟨b4_1, 0, none⟩)), (5, .pointer (some ⟨b5_1, 0, none⟩)), (6, .int .i64 x15), (15, .int .i64 x15), (18, .int .i64 x18)] ∧ C' = Sep w noM [R.box b5_1 111 (encA yb5_1_0), R.box b4_1 111 (encA (Arr.rep 768 0)), R.box b2_1 33 [.int .i64 a0_0, va0_1, va0_2, va0_3]]) ?_ (fun hj_2 => ?_)
            · rintro _ _ ⟨rfl, rfl⟩
              refine Nrm.block ?_
              refine Nrm.seq ?_
              refine Tri.reg (l := [0, 1]) rfl ?_
              refine F.q rfl rfl rfl (wanted_none rfl) (r_add rfl rfl) ?_
              refine F.q rfl rfl rfl (wanted_none rfl) (r_move rfl) ?_
              refine F.nil ?_
              refine Nrm.round ?_
              refine Rnd.only [1, 2, 4, 5, 6, 15, 18] rfl ?_
              refine Rnd.pick [0, 1, 2] rfl rfl ?_
              exact ih_2 _ _ ⟨w64 (x18 + 1), yb5_1_0, hE_2, rfl, rfl⟩
            · refine Tri.cond (b := y35) rfl (fun g_3 => ?_) (fun g_3 => ?_)
              · replace hE_4 := if_tt g_3 hE_4
                obtain ⟨hb38, hE_4⟩ := ck hE_4
                obtain ⟨hb39, hE_4⟩ := ck hE_4
                refine Tri.reg (l := [0, 1, 2, 3, 4]) rfl ?_
                refine F.q rfl rfl rfl (wanted_none rfl) (r_move rfl) ?_
                refine F.q rfl rfl rfl (wanted_none rfl) (r_move rfl) ?_
                refine F.q rfl rfl rfl (wanted_none rfl) (r_indexAddrA Try.underlying111 ti109 rfl rfl hb38.1 hb38.2) ?_
                refine F.q rfl rfl rfl (wanted_none rfl) (r_indexAddrA Try.underlying109 ti3 rfl rfl hb39.1 hb39.2) ?_
                refine F.ef0 rfl rfl (wanted_none rfl) (d_storeTab (i := 0) (m := 64) (g := (Arr.put xb5_1_0r (x15 * 64 + x18) (-1))) (r := x15) (j := x18) (u := 0) ti3 rfl rfl rfl (tabB 12 64 768 hb38 rfl) hb39) ?_
                rintro _ _ ⟨rfl, rfl⟩
                refine F.nil ?_
                cases hE_4
                refine Nrm.only [1, 2, 4, 5, 6, 15, 18] rfl ?_
                refine Nrm.pick [0, 1, 2] rfl rfl ?_
                exact hj_2 _ _ ⟨rfl, rfl⟩
              · replace hE_4 := if_ff g_3 hE_4
                refine Tri.skip ?_
                cases hE_4
                refine Nrm.only [1, 2, 4, 5, 6, 15, 18] rfl ?_
                refine Nrm.pick [0, 1, 2] rfl rfl ?_
                exact hj_2 _ _ ⟨rfl, rfl⟩
          · rcases Bool.eq_false_or_eq_true (decide (x15 < a0_0)) with g30 | g30
            · replace hE_3 := if_tt g30 hE_3
              obtain ⟨t34, h34, hE_3⟩ := bind_some hE_3
              refine Tri.reg (l := [0, 1, 2, 3, 4, 5, 6, 7, 8, 9, 10]) rfl ?_
              refine F.q rfl rfl rfl (wanted_none rfl) (r_move rfl) ?_
              refine F.q rfl rfl rfl (wanted_none rfl) (r_fieldAddr tf33_0 rfl) ?_
              refine F.q rfl rfl rfl (wanted_none rfl) (r_fieldAddr tf31_0 rfl) ?_
              refine F.q rfl rfl rfl (wanted_none rfl) (r_load ta3 rfl (fun w hw => cell_2 (box_cells (i := 2) rfl w hw) rfl)) ?_
              refine F.q rfl rfl rfl (wanted_none rfl) (r_lss rfl rfl) ?_
              refine F.q rfl rfl rfl (wanted_none rfl) (r_move rfl) ?_
              refine F.q rfl rfl rfl (wg rfl rfl rfl g30) (r_move rfl) ?_
              refine F.q rfl rfl rfl (wg rfl rfl rfl g30) (r_move rfl) ?_
              refine F.q rfl rfl rfl (wg rfl rfl rfl g30) (r_move rfl) ?_
              refine F.qc rfl rfl rfl (wg rfl rfl rfl g30) (q_callC (xs := _) rfl ho_a1 rfl rfl (fun w hw => hf_a1 w hw.ext _ _  _ h34)) ?_
              refine F.q rfl rfl rfl (wanted_none rfl) (r_pick rfl rfl g30) ?_
              refine F.nil ?_
              cases hE_3
              refine Nrm.only [1, 2, 4, 5, 6, 7, 15, 18, 35] rfl ?_
              refine Nrm.pick [0, 1, 2] rfl rfl ?_
              exact hj_1 _ _ ⟨rfl, rfl⟩
            · replace hE_3 := if_ff g30 hE_3
              refine Tri.reg (l := [0, 1, 2, 3, 4, 5, 6, 7, 8, 9, 10]) rfl ?_
              refine F.q rfl rfl rfl (wanted_none rfl) (r_move rfl) ?_
              refine F.q rfl rfl rfl (wanted_none rfl) (r_fieldAddr tf33_0 rfl) ?_
              refine F.q rfl rfl rfl (wanted_none rfl) (r_fieldAddr tf31_0 rfl) ?_
              refine F.q rfl rfl rfl (wanted_none rfl) (r_load ta3 rfl (fun w hw => cell_2 (box_cells (i := 2) rfl w hw) rfl)) ?_
              refine F.q rfl rfl rfl (wanted_none rfl) (r_lss rfl rfl) ?_
              refine F.q rfl rfl rfl (wanted_none rfl) (r_move rfl) ?_
              refine F.sk rfl rfl rfl (wf rfl rfl rfl g30) ?_
              refine F.sk rfl rfl rfl (wf rfl rfl rfl g30) ?_
              refine F.sk rfl rfl rfl (wf rfl rfl rfl g30) ?_
              refine F.sk rfl rfl rfl (wf rfl rfl rfl g30) ?_
              refine F.q rfl rfl rfl (wanted_none rfl) (r_pickf rfl rfl g30) ?_
              refine F.nil ?_
              cases hE_3
              refine Nrm.only [1, 2, 4, 5, 6, 7, 15, 18, 35] rfl ?_
              refine Nrm.pick [0, 1, 2] rfl rfl ?_
              exact hj_1 _ _ ⟨rfl, rfl⟩
        · replace hE_2 := if_ff g_2 hE_2
          refine Tri.exit ?_
          refine Exi.then ?_
          refine Exi.then ?_
          refine Exi.same ?_
          cases hE_2
          refine Nrm.block ?_
          refine Nrm.seq ?_
          refine Tri.reg (l := [0, 1]) rfl ?_
          refine F.q rfl rfl rfl (wanted_none rfl) (r_add rfl rfl) ?_
          refine F.q rfl rfl rfl (wanted_none rfl) (r_move rfl) ?_
          refine F.nil ?_
          refine Nrm.round ?_
          refine Rnd.only [1, 2, 4, 5, 15] rfl ?_
          refine Rnd.pick [0, 1, 2] rfl rfl ?_
          exact ih_1 _ _ ⟨w64 (x15 + 1), xb5_1_0r, hE_1, rfl, rfl⟩
    · replace hE_1 := if_ff g_1 hE_1
      refine Tri.exit ?_
      refine Exi.then ?_
      refine Exi.then ?_
      refine Exi.same ?_
      cases hE_1
      refine Nrm.seq ?_
      refine Tri.seq ?_
      refine Tri.seq ?_
      refine Tri.reg (l := [0]) rfl ?_
      refine F.q rfl rfl rfl (wanted_none rfl) (r_assign rfl) ?_
      refine F.nil ?_
      refine Nrm.seq ?_
      obtain ⟨xb5_1_0rr, hE_5, h⟩ := bind_some h
      refine Tri.block ?_
      refine Tri.only [2, 4, 5, 8] rfl ?_
      refine Tri.pick [0, 1, 2] rfl rfl ?_
      refine Tri.rounds (fun n e' C' => ∃ (x8' : Bool) (xb5_1_0rr' : Arr 768), impl_trapTo.l2 k a0_0 a0_1 a0_2 a0_3 n x8' xb5_1_0rr' = some xb5_1_0rr ∧ e' = [(2, .pointer (some ⟨b2_1, 0, none⟩)), (4, .pointer (some ⟨b4_1, 0, none⟩)), (5, .pointer (some ⟨b5_1, 0, none⟩)), (8, .bool x8')] ∧ C' = Sep w noM [R.box b5_1 111 (encA xb5_1_0rr'), R.box b4_1 111 (encA (Arr.rep 768 0)), R.box b2_1 33 [.int .i64 a0_0, va0_1, va0_2, va0_3]]) k ?_ ?_ ?_
      · exact ⟨true, xb5_1_0, hE_5, rfl, rfl⟩
      · rintro _ _ ⟨_, _, hE_5, _⟩
        rw [impl_trapTo.l2.eq_1] at hE_5; cases hE_5
      · rintro n_3 _ _ ⟨x8, xb5_1_0rr, hE_5, rfl, rfl⟩ ih_3
        rw [impl_trapTo.l2.eq_2] at hE_5
        refine Tri.seq ?_
        refine Tri.seq ?_
        refine Tri.reg (l := [0]) rfl ?_
        refine F.q rfl rfl rfl (wanted_none rfl) (r_move rfl) ?_
        refine F.nil ?_
        refine Nrm.seq ?_
        refine Tri.cond (b := x8) rfl (fun g_4 => ?_) (fun g_4 => ?_)
        · replace hE_5 := if_tt g_4 hE_5
          refine Tri.skip ?_
          refine Nrm.seq ?_
          refine Tri.block ?_
          refine Tri.seq ?_
          refine Tri.reg (l := [0]) rfl ?_
          refine F.q rfl rfl rfl (wanted_none rfl) (r_assign rfl) ?_
          refine F.nil ?_
          refine Nrm.seq ?_
          refine Tri.seq ?_
          refine Tri.reg (l := [0, 1, 2, 3]) rfl ?_
          refine F.q rfl rfl rfl (wanted_none rfl) (r_fieldAddr tf33_0 rfl) ?_
          refine F.q rfl rfl rfl (wanted_none rfl) (r_fieldAddr tf31_0 rfl) ?_
          refine F.q rfl rfl rfl (wanted_none rfl) (r_load ta3 rfl (fun w hw => cell_2 (box_cells (i := 2) rfl w hw) rfl)) ?_
          refine F.q rfl rfl rfl (wanted_none rfl) (r_move rfl) ?_
          refine F.nil ?_
          refine Nrm.seq ?_
          obtain ⟨⟨xb5_1_0rrr, x8r⟩, hE_6, hE_5⟩ := bind_some hE_5
          refine Tri.block ?_
          refine Tri.only [2, 4, 5, 8, 45, 46] rfl ?_
          refine Tri.pick [0, 1, 2] rfl rfl ?_
          refine Tri.rounds (fun n e' C' => ∃ (x8r' : Bool) (x46' : Int) (xb5_1_0rrr' : Arr 768), impl_trapTo.l3 k a0_0 a0_1 a0_2 a0_3 n x8r' x46' xb5_1_0rrr' = some (xb5_1_0rrr, x8r) ∧ e' = [(2, .pointer (some ⟨b2_1, 0, none⟩)), (4, .pointer (some ⟨b4_1, 0, none⟩)), (5, .pointer (some ⟨b5_1, 0, none⟩)), (8, .bool x8r'), (45, .int .i64 a0_0), (46, .int .i64 x46')] ∧ C' = Sep w noM [R.box b5_1 111 (encA xb5_1_0rrr'), R.box b4_1 111 (encA (Arr.rep 768 0)), R.box b2_1 33 [.int .i64 a0_0, va0_1, va0_2, va0_3]]) k ?_ ?_ ?_
          · exact ⟨false, 0, xb5_1_0rr, hE_6, rfl, rfl⟩
          · rintro _ _ ⟨_, _, _, hE_6, _⟩
            rw [impl_trapTo.l3.eq_1] at hE_6; cases hE_6
          · rintro n_4 _ _ ⟨x8r, x46, xb5_1_0rrr, hE_6, rfl, rfl⟩ ih_4
            rw [impl_trapTo.l3.eq_2] at hE_6
            refine Tri.seq ?_
            refine Tri.reg (l := [0]) rfl ?_
            refine F.q rfl rfl rfl (wanted_none rfl) (r_lss rfl rfl) ?_
            refine F.nil ?_
            refine Nrm.seq ?_
            refine Tri.seq ?_
            refine Tri.cond (b := decide (x46 < a0_0)) rfl (fun g_5 => ?_) (fun g_5 => ?_)
            · replace hE_6 := if_tt g_5 hE_6
              refine Tri.skip ?_
              refine Nrm.seq ?_
              refine Tri.seq ?_
              refine Tri.block ?_
              refine Tri.seq ?_
              refine Tri.reg (l := [0, 1]) rfl ?_
              refine F.q rfl rfl rfl (wanted_none rfl) (r_move rfl) ?_
              refine F.q rfl rfl rfl (wanted_none rfl) (r_assign rfl) ?_
              refine F.nil ?_
              refine Nrm.seq ?_
              refine Tri.seq ?_
              refine Tri.reg (l := [0]) rfl ?_
              refine F.q rfl rfl rfl (wanted_none rfl) (r_move rfl) ?_
              refine F.nil ?_
              refine Nrm.seq ?_
              obtain ⟨⟨xb5_1_0rrrr, x8rr⟩, hE_7, hE_6⟩ := bind_some hE_6
              refine Tri.block ?_
              refine Tri.only [2, 4, 5, 8, 9, 45, 46, 49] rfl ?_
              refine Tri.pick [0, 1, 2] rfl rfl ?_
              refine Tri.rounds (fun n e' C' => ∃ (x8rr' : Bool) (x49' : Int) (xb5_1_0rrrr' : Arr 768), impl_trapTo.l4 k a0_0 a0_1 a0_2 a0_3 x46 n x8rr' x49' xb5_1_0rrrr' = some (xb5_1_0rrrr, x8rr) ∧ e' = [(2, .pointer (some ⟨b2_1, 0, none⟩)), (4, .pointer (some ⟨b4_1, 0, none⟩)), (5, .pointer (some ⟨b5_1, 0, none⟩)), (8, .bool x8rr'), (9, .int .i64 x46), (45, .int .i64 a0_0), (46, .int .i64 x46), (49, .int .i64 x49')] ∧ C' = Sep w noM [R.box b5_1 111 (encA xb5_1_0rrrr'), R.box b4_1 111 (encA (Arr.rep 768 0)), R.box b2_1 33 [.int .i64 a0_0, va0_1, va0_2, va0_3]]) k ?_ ?_ ?_
              · exact ⟨x8r, 0, xb5_1_0rrr, hE_7, rfl, rfl⟩
              · rintro _ _ ⟨_, _, _, hE_7, _⟩
                rw [impl_trapTo.l4.eq_1] at hE_7; cases hE_7
              · rintro n_5 _ _ ⟨x8rr, x49, xb5_1_0rrrr, hE_7, rfl, rfl⟩ ih_5
                rw [impl_trapTo.l4.eq_2] at hE_7
                refine Tri.seq ?_
                refine Tri.reg (l := [0]) rfl ?_
                refine F.q rfl rfl rfl (wanted_none rfl) (r_lss rfl rfl) ?_
                refine F.nil ?_
                refine Nrm.seq ?_
                refine Tri.seq ?_
                refine Tri.cond (b := decide (x49 < 64)) rfl (fun g_6 => ?_) (fun g_6 => ?_)
                · replace hE_7 := if_tt g_6 hE_7
                  refine Tri.skip ?_
                  refine Nrm.seq ?_
                  refine Tri.seq ?_
                  refine Tri.block ?_
                  refine Tri.seq ?_
                  refine Tri.reg (l := [0, 1]) rfl ?_
                  refine F.q rfl rfl rfl (wanted_none rfl) (r_move rfl) ?_
                  refine F.q rfl rfl rfl (wanted_none rfl) (r_assign rfl) ?_
                  refine F.nil ?_
                  refine Nrm.seq ?_
                  refine Tri.seq ?_
                  obtain ⟨t55, h55, hE_7⟩ := bind_some hE_7
                  obtain ⟨t56, h56, hE_7⟩ := bind_some hE_7
                  refine Tri.reg (l := [0, 1, 2, 3, 4, 5, 6]) rfl ?_
                  refine F.q rfl rfl rfl (wanted_none rfl) (r_loadA ta33 ti33 rfl rfl (fun w hw => (box_cells (i := 2) rfl w hw))) ?_
                  refine F.q rfl rfl rfl (wanted_none rfl) (r_move rfl) ?_
                  refine F.q rfl rfl rfl (wanted_none rfl) (r_move rfl) ?_
                  refine F.qc rfl rfl rfl (wanted_none rfl) (q_callF (xs := _) rfl ok137 rfl rfl (fun w hw => impl_trapSteps.ok h55 w ((fun _ hw => hr_a0_1.sep hw) w hw) ((fun _ hw => hr_a0_2.sep hw) w hw) ((fun _ hw => hr_a0_3.sep hw) w hw))) ?_
                  refine F.m rfl rfl rfl (wanted_none rfl) (m_callF (xs := _) rfl ok68 rfl rfl (fun w hw => impl_members.ok h56 w )) ?_
                  rintro v56_1 _ ⟨_, ⟨S56_1, hl_v56_1, rfl⟩, rfl⟩
                  refine F.q rfl rfl rfl (wanted_none rfl) (r_len Try.underlying23 rfl hl_v56_1) ?_
                  refine F.q rfl rfl rfl (wanted_none rfl) (r_move rfl) ?_
                  refine F.nil ?_
                  refine Nrm.seq ?_
                  obtain ⟨⟨xb5_1_0rrrrr, x8rrr⟩, hE_8, hE_7⟩ := bind_some hE_7
                  refine Tri.block ?_
                  refine Tri.only [2, 4, 5, 8, 9, 10, 45, 46, 49, 56, 57, 58] rfl ?_
                  refine Tri.pick [1, 2, 3, 0] rfl rfl ?_
                  refine Tri.rounds (fun n e' C' => ∃ (x8rrr' : Bool) (x58' : Int) (xb5_1_0rrrrr' : Arr 768), impl_trapTo.l5 k a0_2 x46 x49 t56 n x8rrr' x58' xb5_1_0rrrrr' = some (xb5_1_0rrrrr, x8rrr) ∧ e' = [(2, .pointer (some ⟨b2_1, 0, none⟩)), (4, .pointer (some ⟨b4_1, 0, none⟩)), (5, .pointer (some ⟨b5_1, 0, none⟩)), (8, .bool x8rrr'), (9, .int .i64 x46), (10, .int .i64 x49), (45, .int .i64 a0_0), (46, .int .i64 x46), (49, .int .i64 x49), (56, v56_1), (57, .int .i64 (t56.length : Int)), (58, .int .i64 x58')] ∧ C' = Sep w noM [R.box b5_1 111 (encA xb5_1_0rrrrr'), R.box b4_1 111 (encA (Arr.rep 768 0)), R.box b2_1 33 [.int .i64 a0_0, va0_1, va0_2, va0_3], R.sl S56_1 v56_1 (t56 : List (Int))]) k ?_ ?_ ?_
                  · exact ⟨x8rr, 0, xb5_1_0rrrr, hE_8, rfl, rfl⟩
                  · rintro _ _ ⟨_, _, _, hE_8, _⟩
                    rw [impl_trapTo.l5.eq_1] at hE_8; cases hE_8
                  · rintro n_6 _ _ ⟨x8rrr, x58, xb5_1_0rrrrr, hE_8, rfl, rfl⟩ ih_6
                    rw [impl_trapTo.l5.eq_2] at hE_8
                    refine Tri.seq ?_
                    refine Tri.reg (l := [0]) rfl ?_
                    refine F.q rfl rfl rfl (wanted_none rfl) (r_lss rfl rfl) ?_
                    refine F.nil ?_
                    refine Nrm.seq ?_
                    refine Tri.seq ?_
                    refine Tri.cond (b := decide (x58 < (t56.length : Int))) rfl (fun g_7 => ?_) (fun g_7 => ?_)
                    · replace hE_8 := if_tt g_7 hE_8
                      refine Tri.skip ?_
                      refine Nrm.seq ?_
                      refine Tri.seq ?_
                      refine Tri.block ?_
                      refine Tri.seq ?_
                      obtain ⟨t60, h60, hE_8⟩ := bind_some hE_8
                      refine Tri.reg (l := [0, 1, 2]) rfl ?_
                      refine F.q rfl rfl rfl (wanted_none rfl) (r_indexAddrS Try.underlying23 ti3 rfl hl_v56_1 rfl (rdl_some h60).1 (rdl_some h60).2.1) ?_
                      refine F.q rfl rfl rfl (wanted_none rfl) (r_load ta3 rfl (fun w hw => cell_0 (Rd.flat ((rd_sl (i := 3) rfl) w hw) (rdl_some h60).2.2) rfl)) ?_
                      refine F.q rfl rfl rfl (wanted_none rfl) (r_assign rfl) ?_
                      refine F.nil ?_
                      refine Nrm.seq ?_
                      refine Tri.seq ?_
                      obtain ⟨t68, h68, hE_8⟩ := bind_some hE_8
                      obtain ⟨hb71, hE_8⟩ := ck hE_8
                      obtain ⟨hb72, hE_8⟩ := ck hE_8
                      refine Tri.drawA mixedT Sep.up [(0, true), (1, true), (2, true), (3, true), (4, true), (5, true), (6, true), (7, true), (8, true), (9, true), (10, true), (11, true), (12, true)] [] (by kernel_rfl) ?_
                      refine S.q rfl rfl rfl (wanted_none rfl) (r_move rfl) ?_
                      refine S.q rfl rfl rfl (wanted_none rfl) (r_move rfl) ?_
                      refine S.q rfl rfl rfl (wanted_none rfl) (r_fieldAddr tf33_0 rfl) ?_
                      refine S.q rfl rfl rfl (wanted_none rfl) (r_fieldAddr tf31_2 rfl) ?_
                      refine S.q rfl rfl rfl (wanted_none rfl) (r_load ta23 rfl (fun w hw => cell_2 (box_cells (i := 2) rfl w hw) rfl)) ?_
                      refine S.q rfl rfl rfl (wanted_none rfl) (r_move rfl) ?_
                      refine S.q rfl rfl rfl (wanted_none rfl) (r_indexAddrS Try.underlying23 ti3 rfl hl_va0_2 rfl (rdl_some h68).1 (rdl_some h68).2.1) ?_
                      refine S.q rfl rfl rfl (wanted_none rfl) (r_load ta3 rfl (fun w hw => cell_0 (Rd.flat ((fun _ hw => hr_a0_2.sep hw) w hw) (rdl_some h68).2.2) rfl)) ?_
                      refine S.q rfl rfl rfl (wanted_none rfl) (r_or rfl rfl) ?_
                      refine S.q rfl rfl rfl (wanted_none rfl) (r_indexAddrA Try.underlying111 ti109 rfl rfl hb71.1 hb71.2) ?_
                      refine S.q rfl rfl rfl (wanted_none rfl) (r_indexAddrA Try.underlying109 ti3 rfl rfl hb72.1 hb72.2) ?_
                      refine S.q rfl rfl rfl (wanted_none rfl) (r_load ta3 rfl (fun w hw => cell_tab (g := xb5_1_0rrrrr) (m := 64) (box_cells (i := 0) rfl w hw) (tabB 12 64 768 hb71 rfl) hb72)) ?_
                      refine S.q rfl rfl rfl (wanted_none rfl) (r_assign rfl) ?_
                      refine S.nil ?_
                      refine F.nil ?_
                      refine Nrm.seq ?_
                      refine Tri.seq ?_
                      obtain ⟨y85, hE_9, hE_8⟩ := bind_some hE_8
                      refine Tri.cut (fun e' C' => e' = [(2, .pointer (some ⟨b2_1, 0, none⟩)), (4, .pointer (some ⟨b4_1, 0, none⟩)), (5, .pointer (some ⟨b5_1, 0, none⟩)), (8, .bool x8rrr), (9, .int .i64 x46), (10, .int .i64 x49), (13, .int .i64 (Arr.at xb5_1_0rrrrr (t60 * 64 + (bor x49 t68)))), (45, .int .i64 a0_0), (46, .int .i64 x46), (49, .int .i64 x49), (56, v56_1), (57, .int .i64 (t56.length : Int)), (58, .int .i64 x58), (85, .bool y85)] ∧ C' = Sep w noM [R.box b5_1 111 (encA xb5_1_0rrrrr), R.box b4_1 111 (encA (Arr.rep 768 0)), R.box b2_1 33 [.int .i64 a0_0, va0_1, va0_2, va0_3], R.sl S56_1 v56_1 (t56 : List (Int))]) ?_ (fun hj_3 => ?_)
                      · rintro _ _ ⟨rfl, rfl⟩
                        refine Nrm.seq ?_
                        obtain ⟨⟨y8, yb5_1_0r⟩, hE_10, hE_8⟩ := bind_some hE_8
                        refine Tri.cut (fun e' C' => e' = [(2, .pointer (some ⟨b2_1, 0, none⟩)), (4, .pointer (some ⟨b4_1, 0, none⟩)), (5, .pointer (some ⟨b5_1, 0, none⟩)), (8, .bool y8), (9, .int .i64 x46), (10, .int .i64 x49), (45, .int .i64 a0_0), (46, .int .i64 x46), (49, .int .i64 x49), (56, v56_1), (57, .int .i64 (t56.length : Int)), (58, .int .i64 x58)] ∧ C' = Sep w noM [R.box b5_1 111 (encA yb5_1_0r), R.box b4_1 111 (encA (Arr.rep 768 0)), R.box b2_1 33 [.int .i64 a0_0, va0_1, va0_2, va0_3], R.sl S56_1 v56_1 (t56 : List (Int))]) ?_ (fun hj_4 => ?_)
                        · rintro _ _ ⟨rfl, rfl⟩
                          refine Nrm.block ?_
                          refine Nrm.seq ?_
                          refine Tri.reg (l := [0, 1]) rfl ?_
                          refine F.q rfl rfl rfl (wanted_none rfl) (r_add rfl rfl) ?_
                          refine F.q rfl rfl rfl (wanted_none rfl) (r_move rfl) ?_
                          refine F.nil ?_
                          refine Nrm.round ?_
                          refine Rnd.only [2, 4, 5, 8, 9, 10, 45, 46, 49, 56, 57, 58] rfl ?_
                          refine Rnd.pick [0, 1, 2, 3] rfl rfl ?_
                          exact ih_6 _ _ ⟨y8, w64 (x58 + 1), yb5_1_0r, hE_8, rfl, rfl⟩
                        · refine Tri.cond (b := y85) rfl (fun g_8 => ?_) (fun g_8 => ?_)
                          · replace hE_10 := if_tt g_8 hE_10
                            refine Tri.seq ?_
                            obtain ⟨hb90, hE_10⟩ := ck hE_10
                            obtain ⟨hb91, hE_10⟩ := ck hE_10
                            refine Tri.reg (l := [0, 1, 2, 3, 4, 5, 6]) rfl ?_
                            refine F.q rfl rfl rfl (wanted_none rfl) (r_move rfl) ?_
                            refine F.q rfl rfl rfl (wanted_none rfl) (r_move rfl) ?_
                            refine F.q rfl rfl rfl (wanted_none rfl) (r_move rfl) ?_
                            refine F.q rfl rfl rfl (wanted_none rfl) (r_add rfl rfl) ?_
                            refine F.q rfl rfl rfl (wanted_none rfl) (r_indexAddrA Try.underlying111 ti109 rfl rfl hb90.1 hb90.2) ?_
                            refine F.q rfl rfl rfl (wanted_none rfl) (r_indexAddrA Try.underlying109 ti3 rfl rfl hb91.1 hb91.2) ?_
                            refine F.ef0 rfl rfl (wanted_none rfl) (d_storeTab (i := 0) (m := 64) (g := xb5_1_0rrrrr) (r := x46) (j := x49) (u := w64 ((Arr.at xb5_1_0rrrrr (t60 * 64 + (bor x49 t68))) + 1)) ti3 rfl rfl rfl (tabB 12 64 768 hb90 rfl) hb91) ?_
                            rintro _ _ ⟨rfl, rfl⟩
                            refine F.nil ?_
                            refine Nrm.seq ?_
                            refine Tri.reg (l := [0]) rfl ?_
                            refine F.q rfl rfl rfl (wanted_none rfl) (r_assign rfl) ?_
                            refine F.nil ?_
                            cases hE_10
                            refine Nrm.only [2, 4, 5, 8, 9, 10, 45, 46, 49, 56, 57, 58] rfl ?_
                            refine Nrm.pick [0, 1, 2, 3] rfl rfl ?_
                            exact hj_4 _ _ ⟨rfl, rfl⟩
                          · replace hE_10 := if_ff g_8 hE_10
                            refine Tri.skip ?_
                            cases hE_10
                            refine Nrm.only [2, 4, 5, 8, 9, 10, 45, 46, 49, 56, 57, 58] rfl ?_
                            refine Nrm.pick [0, 1, 2, 3] rfl rfl ?_
                            exact hj_4 _ _ ⟨rfl, rfl⟩
                      · rcases Bool.eq_false_or_eq_true (decide ((Arr.at xb5_1_0rrrrr (t60 * 64 + (bor x49 t68))) ≥ 0)) with g76 | g76
                        · replace hE_9 := if_tt g76 hE_9
                          obtain ⟨hb81, hE_9⟩ := ck hE_9
                          obtain ⟨hb82, hE_9⟩ := ck hE_9
                          obtain ⟨t84, h84, hE_9⟩ := bind_some hE_9
                          refine Tri.reg (l := [0, 1, 2, 3, 4, 5, 6, 7, 8, 9, 10, 11]) rfl ?_
                          refine F.q rfl rfl rfl (wanted_none rfl) (r_move rfl) ?_
                          refine F.q rfl rfl rfl (wanted_none rfl) (r_geq rfl rfl) ?_
                          refine F.q rfl rfl rfl (wanted_none rfl) (r_move rfl) ?_
                          refine F.q rfl rfl rfl (wg rfl rfl rfl g76) (r_move rfl) ?_
                          refine F.q rfl rfl rfl (wg rfl rfl rfl g76) (r_add rfl rfl) ?_
                          refine F.q rfl rfl rfl (wg rfl rfl rfl g76) (r_move rfl) ?_
                          refine F.q rfl rfl rfl (wg rfl rfl rfl g76) (r_move rfl) ?_
                          refine F.q rfl rfl rfl (wg rfl rfl rfl g76) (r_indexAddrA Try.underlying111 ti109 rfl rfl hb81.1 hb81.2) ?_
                          refine F.q rfl rfl rfl (wg rfl rfl rfl g76) (r_indexAddrA Try.underlying109 ti3 rfl rfl hb82.1 hb82.2) ?_
                          refine F.q rfl rfl rfl (wg rfl rfl rfl g76) (r_load ta3 rfl (fun w hw => cell_tab (g := xb5_1_0rrrrr) (m := 64) (box_cells (i := 0) rfl w hw) (tabB 12 64 768 hb81 rfl) hb82)) ?_
                          refine F.qc rfl rfl rfl (wg rfl rfl rfl g76) (q_callF (xs := _) rfl ok164 rfl rfl (fun w hw => impl_better.ok h84 w )) ?_
                          refine F.q rfl rfl rfl (wanted_none rfl) (r_pick rfl rfl g76) ?_
                          refine F.nil ?_
                          cases hE_9
                          refine Nrm.only [2, 4, 5, 8, 9, 10, 13, 45, 46, 49, 56, 57, 58, 85] rfl ?_
                          refine Nrm.pick [0, 1, 2, 3] rfl rfl ?_
                          exact hj_3 _ _ ⟨rfl, rfl⟩
                        · replace hE_9 := if_ff g76 hE_9
                          refine Tri.reg (l := [0, 1, 2, 3, 4, 5, 6, 7, 8, 9, 10, 11]) rfl ?_
                          refine F.q rfl rfl rfl (wanted_none rfl) (r_move rfl) ?_
                          refine F.q rfl rfl rfl (wanted_none rfl) (r_geq rfl rfl) ?_
                          refine F.q rfl rfl rfl (wanted_none rfl) (r_move rfl) ?_
                          refine F.sk rfl rfl rfl (wf rfl rfl rfl g76) ?_
                          refine F.sk rfl rfl rfl (wf rfl rfl rfl g76) ?_
                          refine F.sk rfl rfl rfl (wf rfl rfl rfl g76) ?_
                          refine F.sk rfl rfl rfl (wf rfl rfl rfl g76) ?_
                          refine F.sk rfl rfl rfl (wf rfl rfl rfl g76) ?_
                          refine F.sk rfl rfl rfl (wf rfl rfl rfl g76) ?_
                          refine F.sk rfl rfl rfl (wf rfl rfl rfl g76) ?_
                          refine F.sk rfl rfl rfl (wf rfl rfl rfl g76) ?_
                          refine F.q rfl rfl rfl (wanted_none rfl) (r_pickf rfl rfl g76) ?_
                          refine F.nil ?_
                          cases hE_9
                          refine Nrm.only [2, 4, 5, 8, 9, 10, 13, 45, 46, 49, 56, 57, 58, 85] rfl ?_
                          refine Nrm.pick [0, 1, 2, 3] rfl rfl ?_
                          exact hj_3 _ _ ⟨rfl, rfl⟩
                    · replace hE_8 := if_ff g_7 hE_8
                      refine Tri.exit ?_
                      refine Exi.then ?_
                      refine Exi.then ?_
                      refine Exi.same ?_
                      cases hE_8
                      refine Nrm.block ?_
                      refine Nrm.seq ?_
                      refine Tri.reg (l := [0, 1]) rfl ?_
                      refine F.q rfl rfl rfl (wanted_none rfl) (r_add rfl rfl) ?_
                      refine F.q rfl rfl rfl (wanted_none rfl) (r_move rfl) ?_
                      refine F.nil ?_
                      refine Nrm.round ?_
                      refine Rnd.only [2, 4, 5, 8, 9, 45, 46, 49] rfl ?_
                      refine Rnd.pick [0, 1, 2] rfl rfl ?_
                      exact ih_5 _ _ ⟨x8rrr, w64 (x49 + 1), xb5_1_0rrrrr, hE_7, rfl, rfl⟩
                · replace hE_7 := if_ff g_6 hE_7
                  refine Tri.exit ?_
                  refine Exi.then ?_
                  refine Exi.then ?_
                  refine Exi.same ?_
                  cases hE_7
                  refine Nrm.block ?_
                  refine Nrm.seq ?_
                  refine Tri.reg (l := [0, 1]) rfl ?_
                  refine F.q rfl rfl rfl (wanted_none rfl) (r_add rfl rfl) ?_
                  refine F.q rfl rfl rfl (wanted_none rfl) (r_move rfl) ?_
                  refine F.nil ?_
                  refine Nrm.round ?_
                  refine Rnd.only [2, 4, 5, 8, 45, 46] rfl ?_
                  refine Rnd.pick [0, 1, 2] rfl rfl ?_
                  exact ih_4 _ _ ⟨x8rr, w64 (x46 + 1), xb5_1_0rrrr, hE_6, rfl, rfl⟩
            · replace hE_6 := if_ff g_5 hE_6
              refine Tri.exit ?_
              refine Exi.then ?_
              refine Exi.then ?_
              refine Exi.same ?_
              cases hE_6
              refine Nrm.block ?_
              refine Nrm.round ?_
              refine Rnd.only [2, 4, 5, 8] rfl ?_
              refine Rnd.pick [0, 1, 2] rfl rfl ?_
              exact ih_3 _ _ ⟨x8r, xb5_1_0rrr, hE_5, rfl, rfl⟩
        · replace hE_5 := if_ff g_4 hE_5
          refine Tri.exit ?_
          refine Exi.then ?_
          refine Exi.then ?_
          refine Exi.same ?_
          cases hE_5
          refine Nrm.seq ?_
          refine Tri.seq ?_
          refine Tri.reg (l := [0, 1]) rfl ?_
          refine F.q rfl rfl rfl (wanted_none rfl) (r_loadA (cs := encA xb5_1_0rr) ta111 ti111 rfl (encA_len _) (fun w hw => (box_cells (i := 0) rfl w hw))) ?_
          refine F.ef0 rfl rfl (wanted_none rfl) (d_storeArr (i := 1) (g := (Arr.rep 768 0)) (h := xb5_1_0rr) ti111 rfl rfl rfl) ?_
          rintro _ _ ⟨rfl, rfl⟩
          refine F.nil ?_
          refine Nrm.seq ?_
          refine Tri.ret ?_
          cases h
          exact Rtn.body (.cell rfl ta111 ti111 (encA_len _) (fun _ hw => box_cells (i := 1) rfl _ hw) .nil) (fun w hw => ⟨rfl, hw.ext⟩)

end Go.Proofs

/- loop.example/g01158/impl.toTrapGoal$1 -/

namespace Go.Proofs
open Go Go.Ga
set_option linter.unusedVariables false
set_option maxRecDepth 100000
set_option maxHeartbeats 4000000
def impl_toTrapGoal_1.f (k : Nat) (a0 : Int) (a1 : Int) (c0_0 : Int) (c0_1 : List (Int × Int × Int)) (c0_2 : List Int) (c0_3 : List Int) : Option (Bool) := some (a0 == (w64 (c0_0 - 1)))

theorem impl_toTrapGoal_1.ok {k : Nat} {pc0 : Addr} {a0 : Int} {a1 : Int} {c0_0 : Int} {c0_1 : List (Int × Int × Int)} {c0_2 : List Int} {c0_3 : List Int} {r0 : Bool} (h : impl_toTrapGoal_1.f k a0 a1 c0_0 c0_1 c0_2 c0_3 = some r0) (w : World) {vc0_1 : Value} {vc0_2 : Value} {vc0_3 : Value} (hb_c0 : CellsAt w pc0 [.int .i64 c0_0, vc0_1, vc0_2, vc0_3]) (hr_c0_1 : Rd w vc0_1 c0_1) (hr_c0_2 : Rd w vc0_2 c0_2) (hr_c0_3 : Rd w vc0_3 c0_3) :
    Calls Try.prog 139 ([.int .i64 a0, .int .i64 a1, .pointer (some pc0)] : List Value).toArray w (fun e w' => e = .returned (.bool r0) ∧ Ext w w') := by
  unfold impl_toTrapGoal_1.f at h
  have hl_vc0_1 := hr_c0_1.len
  have hl_vc0_2 := hr_c0_2.len
  have hl_vc0_3 := hr_c0_3.len
  refine Calls.of_tri (N := 12) Try.func139 rfl rfl rfl (Sep.nil (M := noM)) ?_
  refine Tri.seq ?_
  refine Tri.reg (l := [0]) rfl ?_
  refine F.q rfl rfl rfl (wanted_none rfl) (r_assign rfl) ?_
  refine F.nil ?_
  refine Nrm.seq ?_
  refine Tri.seq ?_
  refine Tri.reg (l := [0, 1, 2, 3, 4, 5, 6]) rfl ?_
  refine F.q rfl rfl rfl (wanted_none rfl) (r_move rfl) ?_
  refine F.q rfl rfl rfl (wanted_none rfl) (r_fieldAddr tf33_0 rfl) ?_
  refine F.q rfl rfl rfl (wanted_none rfl) (r_fieldAddr tf31_0 rfl) ?_
  refine F.q rfl rfl rfl (wanted_none rfl) (r_load ta3 rfl (fun w hw => cell_2 (hb_c0.sep hw) rfl)) ?_
  refine F.q rfl rfl rfl (wanted_none rfl) (r_sub rfl rfl) ?_
  refine F.q rfl rfl rfl (wanted_none rfl) (r_eql rfl rfl) ?_
  refine F.q rfl rfl rfl (wanted_none rfl) (r_assign rfl) ?_
  refine F.nil ?_
  refine Nrm.seq ?_
  refine Tri.ret ?_
  cases h
  exact Rtn.body (.tmp rfl .nil) (fun w hw => ⟨rfl, hw.ext⟩)

end Go.Proofs

/- loop.example/g01158/impl.toTrapGoal -/
namespace Go.Proofs
open Go Go.Ga
set_option linter.unusedVariables false
set_option maxRecDepth 100000
set_option maxHeartbeats 4000000
def impl_toTrapGoal.f (k : Nat) (a0_0 : Int) (a0_1 : List (Int × Int × Int)) (a0_2 : List Int) (a0_3 : List Int) : Option ((Arr 768)) := (impl_trapTo.f k a0_0 a0_1 a0_2 a0_3 (fun z0 z1 => impl_toTrapGoal_1.f k z0 z1 a0_0 a0_1 a0_2 a0_3)).bind fun t5 => some t5

theorem impl_toTrapGoal.ok {k : Nat}  {a0_0 : Int} {a0_1 : List (Int × Int × Int)} {a0_2 : List Int} {a0_3 : List Int} {r0 : Arr 768} (h : impl_toTrapGoal.f k a0_0 a0_1 a0_2 a0_3 = some r0) (w : World) {va0_1 : Value} {va0_2 : Value} {va0_3 : Value} (hr_a0_1 : Rd w va0_1 a0_1) (hr_a0_2 : Rd w va0_2 a0_2) (hr_a0_3 : Rd w va0_3 a0_3) :
    Calls Try.prog 94 ([.agg ([.int .i64 a0_0, va0_1, va0_2, va0_3].toArray)] : List Value).toArray w (fun e w' => e = .returned (.agg (encA r0).toArray) ∧ Ext w w') := by
  unfold impl_toTrapGoal.f at h
  have hl_va0_1 := hr_a0_1.len
  have hl_va0_2 := hr_a0_2.len
  have hl_va0_3 := hr_a0_3.len
  refine Calls.of_tri (N := 6) Try.func94 rfl rfl rfl (Sep.nil (M := noM)) ?_
  refine Tri.seq ?_
  refine Tri.reg (l := [0, 1]) rfl ?_
  refine F.m rfl rfl rfl (wanted_none rfl) (m_boxG rfl rfl) ?_
  rintro _ _ ⟨b1_1, rfl, rfl⟩
  refine F.m rfl rfl rfl (wanted_none rfl) (m_alloc ti111) ?_
  rintro _ _ ⟨b2_1, rfl, rfl⟩
  refine F.nil ?_
  refine Nrm.seq ?_
  refine Tri.seq ?_
  obtain ⟨t5, h5, h⟩ := bind_some h
  refine Tri.reg (l := [0, 1, 2, 3]) rfl ?_
  refine F.q rfl rfl rfl (wanted_none rfl) (r_loadA ta33 ti33 rfl rfl (fun w hw => (box_cells (i := 1) rfl w hw))) ?_
  refine F.q rfl rfl rfl (wanted_none rfl) (r_makeFunc rfl) ?_
  refine F.qc rfl rfl rfl (wanted_none rfl) (q_callF (xs := _) rfl ok138 rfl rfl (fun w hw => impl_trapTo.ok h5 w ((fun _ hw => hr_a0_1.sep hw) w hw) ((fun _ hw => hr_a0_2.sep hw) w hw) ((fun _ hw => hr_a0_3.sep hw) w hw) ok139 (fun w2 he2 z0 z1 y2 hy2 => impl_toTrapGoal_1.ok hy2 w2 ((box_cells (i := 1) rfl w hw).ext he2) (((fun _ hw => hr_a0_1.sep hw) w hw).ext he2) (((fun _ hw => hr_a0_2.sep hw) w hw).ext he2) (((fun _ hw => hr_a0_3.sep hw) w hw).ext he2)))) ?_
  refine F.ef0 rfl rfl (wanted_none rfl) (d_storeArr (i := 0) (g := (Arr.rep 768 0)) (h := t5) ti111 rfl rfl rfl) ?_
  rintro _ _ ⟨rfl, rfl⟩
  refine F.nil ?_
  refine Nrm.seq ?_
  refine Tri.ret ?_
  cases h
  exact Rtn.body (.cell rfl ta111 ti111 (encA_len _) (fun _ hw => box_cells (i := 0) rfl _ hw) .nil) (fun w hw => ⟨rfl, hw.ext⟩)

end Go.Proofs

/- loop.example/g01158/impl.lostStates -/
namespace Go.Proofs
open Go Go.Ga
set_option linter.unusedVariables false
set_option maxRecDepth 100000
set_option maxHeartbeats 4000000
def impl_lostStates.l1 (k : Nat) (yb6_2_0 : Arr 768) (yb7_2_0 : Arr 768) (x27 : Int) : Nat → (List (Int × Int)) → Int → Int → Option ((List (Int × Int)) × Int)
  | 0, _, _, _ => none
  | n + 1, x8r, x9r, x30 => (if (decide (x30 < 64)) = true then (if 0 ≤ x27 ∧ x27 < 12 then if 0 ≤ x30 ∧ x30 < 64 then (if (decide ((Arr.at yb6_2_0 (x27 * 64 + x30)) < 0)) = true then some (x8r, x9r) else if 0 ≤ x27 ∧ x27 < 12 then if 0 ≤ x30 ∧ x30 < 64 then ((if (decide ((Arr.at yb7_2_0 (x27 * 64 + x30)) < 0)) = true then if (x8r ++ ([(x27, x30)] : List (Int × Int))).length < 1099511627776 then some (x8r ++ ([(x27, x30)] : List (Int × Int))) else none else some x8r)).bind fun y8r => some (y8r, w64 (x9r + 1)) else none else none) else none else none).bind fun (y8r, y9r) => impl_lostStates.l1 k yb6_2_0 yb7_2_0 x27 n y8r y9r (w64 (x30 + 1)) else some (x8r, x9r))

def impl_lostStates.l0 (k : Nat) (a0_0 : Int) (yb6_2_0 : Arr 768) (yb7_2_0 : Arr 768) : Nat → (List (Int × Int)) → Int → Int → Option ((List (Int × Int)) × Int)
  | 0, _, _, _ => none
  | n + 1, x8, x9, x27 => (if (decide (x27 < a0_0)) = true then (impl_lostStates.l1 k yb6_2_0 yb7_2_0 x27 k x8 x9 0).bind fun (x8r, x9r) => impl_lostStates.l0 k a0_0 yb6_2_0 yb7_2_0 n x8r x9r (w64 (x27 + 1)) else some (x8, x9))

def impl_lostStates.f (k : Nat) (a0_0 : Int) (a0_1 : List (Int × Int × Int)) (a0_2 : List Int) (a0_3 : List Int) (a1 : Int) : Option ((List (Int × Int)) × Int) := ((rdl a0_2 0).bind fun t16 => (impl_trapFrom.f k a0_0 a0_1 a0_2 a0_3 0 (bor t16 a1)).bind fun t20 => (impl_toTrapGoal.f k a0_0 a0_1 a0_2 a0_3).bind fun t22 => some (([] : List (Int × Int)), 0, t20, t22)).bind fun (y8, y9, yb6_2_0, yb7_2_0) => (impl_lostStates.l0 k a0_0 yb6_2_0 yb7_2_0 k y8 y9 0).bind fun (x8, x9) => some (x8, x9)

theorem impl_lostStates.ok {k : Nat}  {a0_0 : Int} {a0_1 : List (Int × Int × Int)} {a0_2 : List Int} {a0_3 : List Int} {a1 : Int} {r0 : List (Int × Int)} {r1 : Int} (h : impl_lostStates.f k a0_0 a0_1 a0_2 a0_3 a1 = some (r0, r1)) (w : World) {va0_1 : Value} {va0_2 : Value} {va0_3 : Value} (hr_a0_1 : Rd w va0_1 a0_1) (hr_a0_2 : Rd w va0_2 a0_2) (hr_a0_3 : Rd w va0_3 a0_3) :
    Calls Try.prog 58 ([.agg ([.int .i64 a0_0, va0_1, va0_2, va0_3].toArray), .int .i64 a1] : List Value).toArray w (Post (fun u ns => ∃ (ur0 : Value) (Sr0 : Nat → Prop), u = .tuple #[ur0, .int .i64 r1] ∧ SlLen ur0 r0.length ∧ ns = [R.sl Sr0 ur0 r0]) w) := by
  unfold impl_lostStates.f at h
  have hl_va0_1 := hr_a0_1.len
  have hl_va0_2 := hr_a0_2.len
  have hl_va0_3 := hr_a0_3.len
  refine Calls.of_tri (N := 57) Try.func58 rfl rfl rfl (Sep.nil (M := noM)) ?_
  refine Tri.seq ?_
  refine Tri.reg (l := [0, 1, 2]) rfl ?_
  refine F.m rfl rfl rfl (wanted_none rfl) (m_boxG rfl rfl) ?_
  rintro _ _ ⟨b2_1, rfl, rfl⟩
  refine F.q rfl rfl rfl (wanted_none rfl) (r_assign rfl) ?_
  refine F.q rfl rfl rfl (wanted_none rfl) (r_assign rfl) ?_
  refine F.nil ?_
  refine Nrm.seq ?_
  refine Tri.seq ?_
  obtain ⟨⟨y8, y9, yb6_2_0, yb7_2_0⟩, hE_1, h⟩ := bind_some h
  refine Tri.cut (fun e' C' => ∃ (v8_1 : Value) (S8_1 : Nat → Prop) (b6_2 : Nat) (b7_2 : Nat), SlLen v8_1 (y8).length ∧ e' = [(2, .pointer (some ⟨b2_1, 0, none⟩)), (6, .pointer (some ⟨b6_2, 0, none⟩)), (7, .pointer (some ⟨b7_2, 0, none⟩)), (8, v8_1), (9, .int .i64 y9)] ∧ C' = Sep w noM [R.box b2_1 33 [.int .i64 a0_0, va0_1, va0_2, va0_3], R.box b6_2 111 (encA yb6_2_0), R.box b7_2 111 (encA yb7_2_0), R.sl S8_1 v8_1 (y8 : List (Int × Int))]) ?_ (fun hj_1 => ?_)
  · rintro _ _ ⟨v8_1, S8_1, b6_2, b7_2, hl_v8_1, rfl, rfl⟩
    refine Nrm.seq ?_
    refine Tri.seq ?_
    refine Tri.seq ?_
    refine Tri.reg (l := [0, 1, 2, 3]) rfl ?_
    refine F.q rfl rfl rfl (wanted_none rfl) (r_fieldAddr tf33_0 rfl) ?_
    refine F.q rfl rfl rfl (wanted_none rfl) (r_fieldAddr tf31_0 rfl) ?_
    refine F.q rfl rfl rfl (wanted_none rfl) (r_load ta3 rfl (fun w hw => cell_2 (box_cells (i := 0) rfl w hw) rfl)) ?_
    refine F.q rfl rfl rfl (wanted_none rfl) (r_move rfl) ?_
    refine F.nil ?_
    refine Nrm.seq ?_
    obtain ⟨⟨x8, x9⟩, hE_2, h⟩ := bind_some h
    refine Tri.block ?_
    refine Tri.only [6, 7, 8, 9, 26, 27] rfl ?_
    refine Tri.pick [1, 2, 3] rfl rfl ?_
    refine Tri.rounds (fun n e' C' => ∃ (x8' : List (Int × Int)) (x9' : Int) (x27' : Int) (w8 : Value) (T8 : Nat → Prop), impl_lostStates.l0 k a0_0 yb6_2_0 yb7_2_0 n x8' x9' x27' = some (x8, x9) ∧ SlLen w8 (x8').length ∧ e' = [(6, .pointer (some ⟨b6_2, 0, none⟩)), (7, .pointer (some ⟨b7_2, 0, none⟩)), (8, w8), (9, .int .i64 x9'), (26, .int .i64 a0_0), (27, .int .i64 x27')] ∧ C' = Sep w noM [R.box b6_2 111 (encA yb6_2_0), R.box b7_2 111 (encA yb7_2_0), R.sl T8 w8 (x8' : List (Int × Int))]) k ?_ ?_ ?_
    · exact ⟨y8, y9, 0, v8_1, S8_1, hE_2, hl_v8_1, rfl, rfl⟩
    · rintro _ _ ⟨_, _, _, _, _, hE_2, _⟩
      rw [impl_lostStates.l0.eq_1] at hE_2; cases hE_2
    · rintro n_1 _ _ ⟨x8, x9, x27, w8, T8, hE_2, hl_w8, rfl, rfl⟩ ih_1
      rw [impl_lostStates.l0.eq_2] at hE_2
      refine Tri.seq ?_
      refine Tri.reg (l := [0]) rfl ?_
      refine F.q rfl rfl rfl (wanted_none rfl) (r_lss rfl rfl) ?_
      refine F.nil ?_
      refine Nrm.seq ?_
      refine Tri.seq ?_
      refine Tri.cond (b := decide (x27 < a0_0)) rfl (fun g_1 => ?_) (fun g_1 => ?_)
      · replace hE_2 := if_tt g_1 hE_2
        refine Tri.skip ?_
        refine Nrm.seq ?_
        refine Tri.seq ?_
        refine Tri.block ?_
        refine Tri.seq ?_
        refine Tri.reg (l := [0, 1]) rfl ?_
        refine F.q rfl rfl rfl (wanted_none rfl) (r_move rfl) ?_
        refine F.q rfl rfl rfl (wanted_none rfl) (r_assign rfl) ?_
        refine F.nil ?_
        refine Nrm.seq ?_
        refine Tri.seq ?_
        refine Tri.reg (l := [0]) rfl ?_
        refine F.q rfl rfl rfl (wanted_none rfl) (r_move rfl) ?_
        refine F.nil ?_
        refine Nrm.seq ?_
        obtain ⟨⟨x8r, x9r⟩, hE_3, hE_2⟩ := bind_some hE_2
        refine Tri.block ?_
        refine Tri.only [6, 7, 8, 9, 10, 26, 27, 30] rfl ?_
        refine Tri.pick [0, 1, 2] rfl rfl ?_
        refine Tri.rounds (fun n e' C' => ∃ (x8r' : List (Int × Int)) (x9r' : Int) (x30' : Int) (w8r : Value) (T8r : Nat → Prop), impl_lostStates.l1 k yb6_2_0 yb7_2_0 x27 n x8r' x9r' x30' = some (x8r, x9r) ∧ SlLen w8r (x8r').length ∧ e' = [(6, .pointer (some ⟨b6_2, 0, none⟩)), (7, .pointer (some ⟨b7_2, 0, none⟩)), (8, w8r), (9, .int .i64 x9r'), (10, .int .i64 x27), (26, .int .i64 a0_0), (27, .int .i64 x27), (30, .int .i64 x30')] ∧ C' = Sep w noM [R.box b6_2 111 (encA yb6_2_0), R.box b7_2 111 (encA yb7_2_0), R.sl T8r w8r (x8r' : List (Int × Int))]) k ?_ ?_ ?_
        · exact ⟨x8, x9, 0, w8, T8, hE_3, hl_w8, rfl, rfl⟩
        · rintro _ _ ⟨_, _, _, _, _, hE_3, _⟩
          rw [impl_lostStates.l1.eq_1] at hE_3; cases hE_3
        · rintro n_2 _ _ ⟨x8r, x9r, x30, w8r, T8r, hE_3, hl_w8r, rfl, rfl⟩ ih_2
          rw [impl_lostStates.l1.eq_2] at hE_3
          refine Tri.seq ?_
          refine Tri.reg (l := [0]) rfl ?_
          refine F.q rfl rfl rfl (wanted_none rfl) (r_lss rfl rfl) ?_
          refine F.nil ?_
          refine Nrm.seq ?_
          refine Tri.seq ?_
          refine Tri.cond (b := decide (x30 < 64)) rfl (fun g_2 => ?_) (fun g_2 => ?_)
          · replace hE_3 := if_tt g_2 hE_3
            refine Tri.skip ?_
            refine Nrm.seq ?_
            refine Tri.seq ?_
            obtain ⟨⟨y8r, y9r⟩, hE_4, hE_3⟩ := bind_some hE_3
            refine Tri.cut (fun e' C' => ∃ (v8_2 : Value) (S8_2 : Nat → Prop), SlLen v8_2 (y8r).length ∧ e' = [(6, .pointer (some ⟨b6_2, 0, none⟩)), (7, .pointer (some ⟨b7_2, 0, none⟩)), (8, v8_2), (9, .int .i64 y9r), (10, .int .i64 x27), (26, .int .i64 a0_0), (27, .int .i64 x27), (30, .int .i64 x30)] ∧ C' = Sep w noM [R.box b6_2 111 (encA yb6_2_0), R.box b7_2 111 (encA yb7_2_0), R.sl S8_2 v8_2 (y8r : List (Int × Int))]) ?_ (fun hj_2 => ?_)
            · rintro _ _ ⟨v8_2, S8_2, hl_v8_2, rfl, rfl⟩
              refine Nrm.seq ?_
              refine Tri.reg (l := [0, 1]) rfl ?_
              refine F.q rfl rfl rfl (wanted_none rfl) (r_add rfl rfl) ?_
              refine F.q rfl rfl rfl (wanted_none rfl) (r_move rfl) ?_
              refine F.nil ?_
              refine Nrm.round ?_
              refine Rnd.only [6, 7, 8, 9, 10, 26, 27, 30] rfl ?_
              refine Rnd.pick [0, 1, 2] rfl rfl ?_
              exact ih_2 _ _ ⟨y8r, y9r, w64 (x30 + 1), v8_2, S8_2, hE_3, hl_v8_2, rfl, rfl⟩
            · refine Tri.block ?_
              refine Tri.seq ?_
              refine Tri.reg (l := [0, 1]) rfl ?_
              refine F.q rfl rfl rfl (wanted_none rfl) (r_move rfl) ?_
              refine F.q rfl rfl rfl (wanted_none rfl) (r_assign rfl) ?_
              refine F.nil ?_
              refine Nrm.seq ?_
              refine Tri.seq ?_
              refine Tri.seq ?_
              obtain ⟨hb35, hE_4⟩ := ck hE_4
              obtain ⟨hb36, hE_4⟩ := ck hE_4
              refine Tri.reg (l := [0, 1, 2, 3, 4, 5]) rfl ?_
              refine F.q rfl rfl rfl (wanted_none rfl) (r_move rfl) ?_
              refine F.q rfl rfl rfl (wanted_none rfl) (r_move rfl) ?_
              refine F.q rfl rfl rfl (wanted_none rfl) (r_indexAddrA Try.underlying111 ti109 rfl rfl hb35.1 hb35.2) ?_
              refine F.q rfl rfl rfl (wanted_none rfl) (r_indexAddrA Try.underlying109 ti3 rfl rfl hb36.1 hb36.2) ?_
              refine F.q rfl rfl rfl (wanted_none rfl) (r_load ta3 rfl (fun w hw => cell_tab (g := yb6_2_0) (m := 64) (box_cells (i := 0) rfl w hw) (tabB 12 64 768 hb35 rfl) hb36)) ?_
              refine F.q rfl rfl rfl (wanted_none rfl) (r_lss rfl rfl) ?_
              refine F.nil ?_
              refine Nrm.seq ?_
              refine Tri.cond (b := decide ((Arr.at yb6_2_0 (x27 * 64 + x30)) < 0)) rfl (fun g_3 => ?_) (fun g_3 => ?_)
              · replace hE_4 := if_tt g_3 hE_4
                refine Tri.exit ?_
                refine Exi.then ?_
                refine Exi.same ?_
                cases hE_4
                refine Nrm.only [6, 7, 8, 9, 10, 26, 27, 30] rfl ?_
                refine Nrm.pick [0, 1, 2] rfl rfl ?_
                exact hj_2 _ _ ⟨w8r, T8r, hl_w8r, rfl, rfl⟩
              · replace hE_4 := if_ff g_3 hE_4
                refine Tri.skip ?_
                refine Nrm.seq ?_
                refine Tri.seq ?_
                refine Tri.reg (l := [0, 1, 2]) rfl ?_
                refine F.q rfl rfl rfl (wanted_none rfl) (r_move rfl) ?_
                refine F.q rfl rfl rfl (wanted_none rfl) (r_add rfl rfl) ?_
                refine F.q rfl rfl rfl (wanted_none rfl) (r_assign rfl) ?_
                refine F.nil ?_
                refine Nrm.seq ?_
                refine Tri.seq ?_
                obtain ⟨hb43, hE_4⟩ := ck hE_4
                obtain ⟨hb44, hE_4⟩ := ck hE_4
                refine Tri.reg (l := [0, 1, 2, 3, 4, 5]) rfl ?_
                refine F.q rfl rfl rfl (wanted_none rfl) (r_move rfl) ?_
                refine F.q rfl rfl rfl (wanted_none rfl) (r_move rfl) ?_
                refine F.q rfl rfl rfl (wanted_none rfl) (r_indexAddrA Try.underlying111 ti109 rfl rfl hb43.1 hb43.2) ?_
                refine F.q rfl rfl rfl (wanted_none rfl) (r_indexAddrA Try.underlying109 ti3 rfl rfl hb44.1 hb44.2) ?_
                refine F.q rfl rfl rfl (wanted_none rfl) (r_load ta3 rfl (fun w hw => cell_tab (g := yb7_2_0) (m := 64) (box_cells (i := 1) rfl w hw) (tabB 12 64 768 hb43 rfl) hb44)) ?_
                refine F.q rfl rfl rfl (wanted_none rfl) (r_lss rfl rfl) ?_
                refine F.nil ?_
                refine Nrm.seq ?_
                obtain ⟨y8r, hE_5, hE_4⟩ := bind_some hE_4
                refine Tri.cut (fun e' C' => ∃ (v8_3 : Value) (S8_3 : Nat → Prop), SlLen v8_3 (y8r).length ∧ e' = [(6, .pointer (some ⟨b6_2, 0, none⟩)), (7, .pointer (some ⟨b7_2, 0, none⟩)), (8, v8_3), (9, .int .i64 (w64 (x9r + 1))), (10, .int .i64 x27), (26, .int .i64 a0_0), (27, .int .i64 x27), (30, .int .i64 x30)] ∧ C' = Sep w noM [R.box b6_2 111 (encA yb6_2_0), R.box b7_2 111 (encA yb7_2_0), R.sl S8_3 v8_3 (y8r : List (Int × Int))]) ?_ (fun hj_3 => ?_)
                · rintro _ _ ⟨v8_3, S8_3, hl_v8_3, rfl, rfl⟩
                  refine Nrm.block ?_
                  cases hE_4
                  refine Nrm.only [6, 7, 8, 9, 10, 26, 27, 30] rfl ?_
                  refine Nrm.pick [0, 1, 2] rfl rfl ?_
                  exact hj_2 _ _ ⟨v8_3, S8_3, hl_v8_3, rfl, rfl⟩
                · refine Tri.cond (b := decide ((Arr.at yb7_2_0 (x27 * 64 + x30)) < 0)) rfl (fun g_4 => ?_) (fun g_4 => ?_)
                  · replace hE_5 := if_tt g_4 hE_5
                    obtain ⟨hs52, hE_5⟩ := ck hE_5
                    refine Tri.reg (l := [0, 1, 2, 3, 4, 5, 6]) rfl ?_
                    refine F.q rfl rfl rfl (wanted_none rfl) (r_move rfl) ?_
                    refine F.q rfl rfl rfl (wanted_none rfl) (r_move rfl) ?_
                    refine F.q rfl rfl rfl (wanted_none rfl) (r_move rfl) ?_
                    refine F.q rfl rfl rfl (wanted_none rfl) (r_buildA (qs := [(0, [.int .i64 x27]), (1, [.int .i64 x30])]) (cs := [.int .i64 x27, .int .i64 x30]) Try.underlying89 ti3 ti89 rfl (.cons rfl rfl (Nat.le_of_ble_eq_true rfl) (.cons rfl rfl (Nat.le_of_ble_eq_true rfl) .nil)) rfl rfl) ?_
                    refine F.m rfl rfl rfl (wanted_none rfl) (m_buildF (l := ([(x27, x30)] : List (Int × Int))) Try.underlying41 ti89 rfl rfl rfl rfl rfl) ?_
                    rintro v51_1 _ ⟨S51_1, hl_v51_1, rfl⟩
                    refine F.ef rfl rfl rfl (wanted_none rfl) (d_append (i := 3) Try.underlying41 Try.underlying41 ti89 rfl (by decide) rfl rfl rfl (rd_sl (i := 0) rfl) hs52) ?_
                    rintro v52_1 _ ⟨S52_1, rfl, hl_v52_1⟩
                    refine F.q rfl rfl rfl (wanted_none rfl) (r_assign rfl) ?_
                    refine F.nil ?_
                    cases hE_5
                    refine Nrm.only [6, 7, 8, 9, 10, 26, 27, 30] rfl ?_
                    refine Nrm.pick [1, 2, 3] rfl rfl ?_
                    exact hj_3 _ _ ⟨v52_1, S52_1, hl_v52_1, rfl, rfl⟩
                  · replace hE_5 := if_ff g_4 hE_5
                    refine Tri.skip ?_
                    cases hE_5
                    refine Nrm.only [6, 7, 8, 9, 10, 26, 27, 30] rfl ?_
                    refine Nrm.pick [0, 1, 2] rfl rfl ?_
                    exact hj_3 _ _ ⟨w8r, T8r, hl_w8r, rfl, rfl⟩
          · replace hE_3 := if_ff g_2 hE_3
            refine Tri.exit ?_
            refine Exi.then ?_
            refine Exi.then ?_
            refine Exi.same ?_
            cases hE_3
            refine Nrm.block ?_
            refine Nrm.seq ?_
            refine Tri.reg (l := [0, 1]) rfl ?_
            refine F.q rfl rfl rfl (wanted_none rfl) (r_add rfl rfl) ?_
            refine F.q rfl rfl rfl (wanted_none rfl) (r_move rfl) ?_
            refine F.nil ?_
            refine Nrm.round ?_
            refine Rnd.only [6, 7, 8, 9, 26, 27] rfl ?_
            refine Rnd.pick [0, 1, 2] rfl rfl ?_
            exact ih_1 _ _ ⟨x8r, x9r, w64 (x27 + 1), w8r, T8r, hE_2, hl_w8r, rfl, rfl⟩
      · replace hE_2 := if_ff g_1 hE_2
        refine Tri.exit ?_
        refine Exi.then ?_
        refine Exi.then ?_
        refine Exi.same ?_
        cases hE_2
        refine Nrm.seq ?_
        refine Tri.seq ?_
        refine Tri.reg (l := [0, 1, 2, 3]) rfl ?_
        refine F.q rfl rfl rfl (wanted_none rfl) (r_move rfl) ?_
        refine F.q rfl rfl rfl (wanted_none rfl) (r_move rfl) ?_
        refine F.q rfl rfl rfl (wanted_none rfl) (r_assign rfl) ?_
        refine F.q rfl rfl rfl (wanted_none rfl) (r_assign rfl) ?_
        refine F.nil ?_
        refine Nrm.seq ?_
        refine Tri.ret ?_
        cases h
        exact Rtn.body (.tmp rfl (.tmp rfl .nil)) (fun w hw => ⟨_, _, rfl, ⟨w8, T8, rfl, hl_w8, rfl⟩, Sep.pick (is := [2]) rfl rfl hw⟩)
  · obtain ⟨t16, h16, hE_1⟩ := bind_some hE_1
    obtain ⟨t20, h20, hE_1⟩ := bind_some hE_1
    obtain ⟨t22, h22, hE_1⟩ := bind_some hE_1
    refine Tri.drawT mixedT Sep.up [0, 1, 2, 3, 4, 5, 6, 7, 8, 9, 10, 11, 12, 13, 14, 15] [16, 17] (.q 0 (.q 1 (.q 2 (.q 3 (.q 4 (.q 5 (.q 6 (.q 7 (.q 8 (.q 9 (.q 10 (.alt 11 (.alt 12 (.alt 13 (.alt 14 (.alt 15 .nil .stop) .stop) .stop) (.alt 13 (.alt 12 (.alt 14 (.alt 15 .nil .stop) .stop) .stop) .stop)) (.alt 12 (.alt 11 (.alt 13 (.alt 14 (.alt 15 .nil .stop) .stop) .stop) (.alt 13 (.alt 11 (.alt 14 (.alt 15 .nil .stop) .stop) (.alt 14 (.alt 11 (.alt 15 .nil .stop) (.alt 15 (.alt 11 .nil .stop) .stop)) .stop)) .stop)) (.alt 13 (.alt 11 (.alt 12 (.alt 14 (.alt 15 .nil .stop) .stop) .stop) (.alt 12 (.alt 11 (.alt 14 (.alt 15 .nil .stop) .stop) (.alt 14 (.alt 11 (.alt 15 .nil .stop) (.alt 15 (.alt 11 .nil .stop) .stop)) .stop)) .stop)) .stop)))))))))))))) (by kernel_rfl) ?_
    refine T.q rfl rfl rfl (wanted_none rfl) (r_loadA ta33 ti33 rfl rfl (fun w hw => (box_cells (i := 0) rfl w hw))) ?_
    refine T.q rfl rfl rfl (wanted_none rfl) (r_fieldAddr tf33_0 rfl) ?_
    refine T.q rfl rfl rfl (wanted_none rfl) (r_fieldAddr tf31_2 rfl) ?_
    refine T.q rfl rfl rfl (wanted_none rfl) (r_load ta23 rfl (fun w hw => cell_2 (box_cells (i := 0) rfl w hw) rfl)) ?_
    refine T.q rfl rfl rfl (wanted_none rfl) (r_indexAddrS Try.underlying23 ti3 rfl hl_va0_2 rfl (rdl_some h16).1 (rdl_some h16).2.1) ?_
    refine T.q rfl rfl rfl (wanted_none rfl) (r_load ta3 rfl (fun w hw => cell_0 (Rd.flat ((fun _ hw => hr_a0_2.sep hw) w hw) (rdl_some h16).2.2) rfl)) ?_
    refine T.q rfl rfl rfl (wanted_none rfl) (r_move rfl) ?_
    refine T.q rfl rfl rfl (wanted_none rfl) (r_or rfl rfl) ?_
    refine T.qc rfl rfl rfl (wanted_none rfl) (q_callF (xs := _) rfl ok93 rfl rfl (fun w hw => impl_trapFrom.ok h20 w ((fun _ hw => hr_a0_1.sep hw) w hw) ((fun _ hw => hr_a0_2.sep hw) w hw) ((fun _ hw => hr_a0_3.sep hw) w hw))) ?_
    refine T.q rfl rfl rfl (wanted_none rfl) (r_loadA ta33 ti33 rfl rfl (fun w hw => (box_cells (i := 0) rfl w hw))) ?_
    refine T.qc rfl rfl rfl (wanted_none rfl) (q_callF (xs := _) rfl ok94 rfl rfl (fun w hw => impl_toTrapGoal.ok h22 w ((fun _ hw => hr_a0_1.sep hw) w hw) ((fun _ hw => hr_a0_2.sep hw) w hw) ((fun _ hw => hr_a0_3.sep hw) w hw))) ?_
    refine T.ef rfl rfl rfl (wanted_none rfl) (Makes.does (m_build0 (α := Int × Int) Try.underlying41 ti89)) (by rintro v23_2 _ ⟨S23_2, hl_v23_2, rfl⟩; exact upd rfl [1] rfl rfl) ?_ ?_
    · rintro v23_2 _ ⟨S23_2, hl_v23_2, rfl⟩
      refine T.ef rfl rfl rfl (wanted_none rfl) (Makes.does (m_alloc ti111)) (by rintro _ _ ⟨b6_3, rfl, rfl⟩; exact upd rfl [2] rfl rfl) ?_ ?_
      · rintro _ _ ⟨b6_3, rfl, rfl⟩
        refine T.ef rfl rfl rfl (wanted_none rfl) (Makes.does (m_alloc ti111)) (by rintro _ _ ⟨b7_3, rfl, rfl⟩; exact upd rfl [3] rfl rfl) ?_ ?_
        · rintro _ _ ⟨b7_3, rfl, rfl⟩
          refine T.ef0 rfl rfl (wanted_none rfl) (d_storeArr (i := 1) (g := (Arr.rep 768 0)) (h := t20) ti111 rfl rfl rfl) (by rintro _ _ ⟨rfl, rfl⟩; exact upd rfl [3] rfl rfl) ?_ ?_
          · rintro _ _ ⟨rfl, rfl⟩
            refine T.ef0 rfl rfl (wanted_none rfl) (d_storeArr (i := 0) (g := (Arr.rep 768 0)) (h := t22) ti111 rfl rfl rfl) (by rintro _ _ ⟨rfl, rfl⟩; exact upd rfl [3] rfl rfl) ?_ ?_
            · rintro _ _ ⟨rfl, rfl⟩
              refine T.nil ?_
              refine F.q rfl rfl rfl (wanted_none rfl) (r_assign rfl) ?_
              refine F.q rfl rfl rfl (wanted_none rfl) (r_assign rfl) ?_
              refine F.nil ?_
              cases hE_1
              refine Nrm.only [2, 6, 7, 8, 9] rfl ?_
              refine Nrm.pick [3, 1, 0, 2] rfl rfl ?_
              exact hj_1 _ _ ⟨v23_2, S23_2, b6_3, b7_3, hl_v23_2, rfl, rfl⟩
            exact T.stop
          exact T.stop
        exact T.stop
      · refine T.ef rfl rfl rfl (wanted_none rfl) (Makes.does (m_alloc ti111)) (by rintro _ _ ⟨b7_4, rfl, rfl⟩; exact upd rfl [2] rfl rfl) ?_ ?_
        · rintro _ _ ⟨b7_4, rfl, rfl⟩
          refine T.ef rfl rfl rfl (wanted_none rfl) (Makes.does (m_alloc ti111)) (by rintro _ _ ⟨b6_4, rfl, rfl⟩; exact upd rfl [3] rfl rfl) ?_ ?_
          · rintro _ _ ⟨b6_4, rfl, rfl⟩
            refine T.ef0 rfl rfl (wanted_none rfl) (d_storeArr (i := 0) (g := (Arr.rep 768 0)) (h := t20) ti111 rfl rfl rfl) (by rintro _ _ ⟨rfl, rfl⟩; exact upd rfl [3] rfl rfl) ?_ ?_
            · rintro _ _ ⟨rfl, rfl⟩
              refine T.ef0 rfl rfl (wanted_none rfl) (d_storeArr (i := 1) (g := (Arr.rep 768 0)) (h := t22) ti111 rfl rfl rfl) (by rintro _ _ ⟨rfl, rfl⟩; exact upd rfl [3] rfl rfl) ?_ ?_
              · rintro _ _ ⟨rfl, rfl⟩
                refine T.nil ?_
                refine F.q rfl rfl rfl (wanted_none rfl) (r_assign rfl) ?_
                refine F.q rfl rfl rfl (wanted_none rfl) (r_assign rfl) ?_
                refine F.nil ?_
                cases hE_1
                refine Nrm.only [2, 6, 7, 8, 9] rfl ?_
                refine Nrm.pick [3, 0, 1, 2] rfl rfl ?_
                exact hj_1 _ _ ⟨v23_2, S23_2, b6_4, b7_4, hl_v23_2, rfl, rfl⟩
              exact T.stop
            exact T.stop
          exact T.stop
        exact T.stop
    · refine T.ef rfl rfl rfl (wanted_none rfl) (Makes.does (m_alloc ti111)) (by rintro _ _ ⟨b6_5, rfl, rfl⟩; exact upd rfl [1] rfl rfl) ?_ ?_
      · rintro _ _ ⟨b6_5, rfl, rfl⟩
        refine T.ef rfl rfl rfl (wanted_none rfl) (Makes.does (m_build0 (α := Int × Int) Try.underlying41 ti89)) (by rintro v23_3 _ ⟨S23_3, hl_v23_3, rfl⟩; exact upd rfl [2] rfl rfl) ?_ ?_
        · rintro v23_3 _ ⟨S23_3, hl_v23_3, rfl⟩
          refine T.ef rfl rfl rfl (wanted_none rfl) (Makes.does (m_alloc ti111)) (by rintro _ _ ⟨b7_5, rfl, rfl⟩; exact upd rfl [3] rfl rfl) ?_ ?_
          · rintro _ _ ⟨b7_5, rfl, rfl⟩
            refine T.ef0 rfl rfl (wanted_none rfl) (d_storeArr (i := 2) (g := (Arr.rep 768 0)) (h := t20) ti111 rfl rfl rfl) (by rintro _ _ ⟨rfl, rfl⟩; exact upd rfl [3] rfl rfl) ?_ ?_
            · rintro _ _ ⟨rfl, rfl⟩
              refine T.ef0 rfl rfl (wanted_none rfl) (d_storeArr (i := 0) (g := (Arr.rep 768 0)) (h := t22) ti111 rfl rfl rfl) (by rintro _ _ ⟨rfl, rfl⟩; exact upd rfl [3] rfl rfl) ?_ ?_
              · rintro _ _ ⟨rfl, rfl⟩
                refine T.nil ?_
                refine F.q rfl rfl rfl (wanted_none rfl) (r_assign rfl) ?_
                refine F.q rfl rfl rfl (wanted_none rfl) (r_assign rfl) ?_
                refine F.nil ?_
                cases hE_1
                refine Nrm.only [2, 6, 7, 8, 9] rfl ?_
                refine Nrm.pick [3, 2, 0, 1] rfl rfl ?_
                exact hj_1 _ _ ⟨v23_3, S23_3, b6_5, b7_5, hl_v23_3, rfl, rfl⟩
              exact T.stop
            exact T.stop
          exact T.stop
        · refine T.ef rfl rfl rfl (wanted_none rfl) (Makes.does (m_alloc ti111)) (by rintro _ _ ⟨b7_6, rfl, rfl⟩; exact upd rfl [2] rfl rfl) ?_ ?_
          · rintro _ _ ⟨b7_6, rfl, rfl⟩
            refine T.ef rfl rfl rfl (wanted_none rfl) (Makes.does (m_build0 (α := Int × Int) Try.underlying41 ti89)) (by rintro v23_4 _ ⟨S23_4, hl_v23_4, rfl⟩; exact upd rfl [3] rfl rfl) ?_ ?_
            · rintro v23_4 _ ⟨S23_4, hl_v23_4, rfl⟩
              refine T.ef0 rfl rfl (wanted_none rfl) (d_storeArr (i := 2) (g := (Arr.rep 768 0)) (h := t20) ti111 rfl rfl rfl) (by rintro _ _ ⟨rfl, rfl⟩; exact upd rfl [3] rfl rfl) ?_ ?_
              · rintro _ _ ⟨rfl, rfl⟩
                refine T.ef0 rfl rfl (wanted_none rfl) (d_storeArr (i := 1) (g := (Arr.rep 768 0)) (h := t22) ti111 rfl rfl rfl) (by rintro _ _ ⟨rfl, rfl⟩; exact upd rfl [3] rfl rfl) ?_ ?_
                · rintro _ _ ⟨rfl, rfl⟩
                  refine T.nil ?_
                  refine F.q rfl rfl rfl (wanted_none rfl) (r_assign rfl) ?_
                  refine F.q rfl rfl rfl (wanted_none rfl) (r_assign rfl) ?_
                  refine F.nil ?_
                  cases hE_1
                  refine Nrm.only [2, 6, 7, 8, 9] rfl ?_
                  refine Nrm.pick [3, 2, 1, 0] rfl rfl ?_
                  exact hj_1 _ _ ⟨v23_4, S23_4, b6_5, b7_6, hl_v23_4, rfl, rfl⟩
                exact T.stop
              exact T.stop
            · refine T.ef0 rfl rfl (wanted_none rfl) (d_storeArr (i := 1) (g := (Arr.rep 768 0)) (h := t20) ti111 rfl rfl rfl) (by rintro _ _ ⟨rfl, rfl⟩; exact upd rfl [2] rfl rfl) ?_ ?_
              · rintro _ _ ⟨rfl, rfl⟩
                refine T.ef rfl rfl rfl (wanted_none rfl) (Makes.does (m_build0 (α := Int × Int) Try.underlying41 ti89)) (by rintro v23_5 _ ⟨S23_5, hl_v23_5, rfl⟩; exact upd rfl [3] rfl rfl) ?_ ?_
                · rintro v23_5 _ ⟨S23_5, hl_v23_5, rfl⟩
                  refine T.ef0 rfl rfl (wanted_none rfl) (d_storeArr (i := 1) (g := (Arr.rep 768 0)) (h := t22) ti111 rfl rfl rfl) (by rintro _ _ ⟨rfl, rfl⟩; exact upd rfl [3] rfl rfl) ?_ ?_
                  · rintro _ _ ⟨rfl, rfl⟩
                    refine T.nil ?_
                    refine F.q rfl rfl rfl (wanted_none rfl) (r_assign rfl) ?_
                    refine F.q rfl rfl rfl (wanted_none rfl) (r_assign rfl) ?_
                    refine F.nil ?_
                    cases hE_1
                    refine Nrm.only [2, 6, 7, 8, 9] rfl ?_
                    refine Nrm.pick [3, 2, 1, 0] rfl rfl ?_
                    exact hj_1 _ _ ⟨v23_5, S23_5, b6_5, b7_6, hl_v23_5, rfl, rfl⟩
                  exact T.stop
                · refine T.ef0 rfl rfl (wanted_none rfl) (d_storeArr (i := 0) (g := (Arr.rep 768 0)) (h := t22) ti111 rfl rfl rfl) (by rintro _ _ ⟨rfl, rfl⟩; exact upd rfl [2] rfl rfl) ?_ ?_
                  · rintro _ _ ⟨rfl, rfl⟩
                    refine T.ef rfl rfl rfl (wanted_none rfl) (Makes.does (m_build0 (α := Int × Int) Try.underlying41 ti89)) (by rintro v23_6 _ ⟨S23_6, hl_v23_6, rfl⟩; exact upd rfl [3] rfl rfl) ?_ ?_
                    · rintro v23_6 _ ⟨S23_6, hl_v23_6, rfl⟩
                      refine T.nil ?_
                      refine F.q rfl rfl rfl (wanted_none rfl) (r_assign rfl) ?_
                      refine F.q rfl rfl rfl (wanted_none rfl) (r_assign rfl) ?_
                      refine F.nil ?_
                      cases hE_1
                      refine Nrm.only [2, 6, 7, 8, 9] rfl ?_
                      refine Nrm.pick [3, 2, 1, 0] rfl rfl ?_
                      exact hj_1 _ _ ⟨v23_6, S23_6, b6_5, b7_6, hl_v23_6, rfl, rfl⟩
                    exact T.stop
                  exact T.stop
              exact T.stop
          exact T.stop
      · refine T.ef rfl rfl rfl (wanted_none rfl) (Makes.does (m_alloc ti111)) (by rintro _ _ ⟨b7_7, rfl, rfl⟩; exact upd rfl [1] rfl rfl) ?_ ?_
        · rintro _ _ ⟨b7_7, rfl, rfl⟩
          refine T.ef rfl rfl rfl (wanted_none rfl) (Makes.does (m_build0 (α := Int × Int) Try.underlying41 ti89)) (by rintro v23_7 _ ⟨S23_7, hl_v23_7, rfl⟩; exact upd rfl [2] rfl rfl) ?_ ?_
          · rintro v23_7 _ ⟨S23_7, hl_v23_7, rfl⟩
            refine T.ef rfl rfl rfl (wanted_none rfl) (Makes.does (m_alloc ti111)) (by rintro _ _ ⟨b6_6, rfl, rfl⟩; exact upd rfl [3] rfl rfl) ?_ ?_
            · rintro _ _ ⟨b6_6, rfl, rfl⟩
              refine T.ef0 rfl rfl (wanted_none rfl) (d_storeArr (i := 0) (g := (Arr.rep 768 0)) (h := t20) ti111 rfl rfl rfl) (by rintro _ _ ⟨rfl, rfl⟩; exact upd rfl [3] rfl rfl) ?_ ?_
              · rintro _ _ ⟨rfl, rfl⟩
                refine T.ef0 rfl rfl (wanted_none rfl) (d_storeArr (i := 2) (g := (Arr.rep 768 0)) (h := t22) ti111 rfl rfl rfl) (by rintro _ _ ⟨rfl, rfl⟩; exact upd rfl [3] rfl rfl) ?_ ?_
                · rintro _ _ ⟨rfl, rfl⟩
                  refine T.nil ?_
                  refine F.q rfl rfl rfl (wanted_none rfl) (r_assign rfl) ?_
                  refine F.q rfl rfl rfl (wanted_none rfl) (r_assign rfl) ?_
                  refine F.nil ?_
                  cases hE_1
                  refine Nrm.only [2, 6, 7, 8, 9] rfl ?_
                  refine Nrm.pick [3, 0, 2, 1] rfl rfl ?_
                  exact hj_1 _ _ ⟨v23_7, S23_7, b6_6, b7_7, hl_v23_7, rfl, rfl⟩
                exact T.stop
              exact T.stop
            exact T.stop
          · refine T.ef rfl rfl rfl (wanted_none rfl) (Makes.does (m_alloc ti111)) (by rintro _ _ ⟨b6_7, rfl, rfl⟩; exact upd rfl [2] rfl rfl) ?_ ?_
            · rintro _ _ ⟨b6_7, rfl, rfl⟩
              refine T.ef rfl rfl rfl (wanted_none rfl) (Makes.does (m_build0 (α := Int × Int) Try.underlying41 ti89)) (by rintro v23_8 _ ⟨S23_8, hl_v23_8, rfl⟩; exact upd rfl [3] rfl rfl) ?_ ?_
              · rintro v23_8 _ ⟨S23_8, hl_v23_8, rfl⟩
                refine T.ef0 rfl rfl (wanted_none rfl) (d_storeArr (i := 1) (g := (Arr.rep 768 0)) (h := t20) ti111 rfl rfl rfl) (by rintro _ _ ⟨rfl, rfl⟩; exact upd rfl [3] rfl rfl) ?_ ?_
                · rintro _ _ ⟨rfl, rfl⟩
                  refine T.ef0 rfl rfl (wanted_none rfl) (d_storeArr (i := 2) (g := (Arr.rep 768 0)) (h := t22) ti111 rfl rfl rfl) (by rintro _ _ ⟨rfl, rfl⟩; exact upd rfl [3] rfl rfl) ?_ ?_
                  · rintro _ _ ⟨rfl, rfl⟩
                    refine T.nil ?_
                    refine F.q rfl rfl rfl (wanted_none rfl) (r_assign rfl) ?_
                    refine F.q rfl rfl rfl (wanted_none rfl) (r_assign rfl) ?_
                    refine F.nil ?_
                    cases hE_1
                    refine Nrm.only [2, 6, 7, 8, 9] rfl ?_
                    refine Nrm.pick [3, 1, 2, 0] rfl rfl ?_
                    exact hj_1 _ _ ⟨v23_8, S23_8, b6_7, b7_7, hl_v23_8, rfl, rfl⟩
                  exact T.stop
                exact T.stop
              · refine T.ef0 rfl rfl (wanted_none rfl) (d_storeArr (i := 0) (g := (Arr.rep 768 0)) (h := t20) ti111 rfl rfl rfl) (by rintro _ _ ⟨rfl, rfl⟩; exact upd rfl [2] rfl rfl) ?_ ?_
                · rintro _ _ ⟨rfl, rfl⟩
                  refine T.ef rfl rfl rfl (wanted_none rfl) (Makes.does (m_build0 (α := Int × Int) Try.underlying41 ti89)) (by rintro v23_9 _ ⟨S23_9, hl_v23_9, rfl⟩; exact upd rfl [3] rfl rfl) ?_ ?_
                  · rintro v23_9 _ ⟨S23_9, hl_v23_9, rfl⟩
                    refine T.ef0 rfl rfl (wanted_none rfl) (d_storeArr (i := 2) (g := (Arr.rep 768 0)) (h := t22) ti111 rfl rfl rfl) (by rintro _ _ ⟨rfl, rfl⟩; exact upd rfl [3] rfl rfl) ?_ ?_
                    · rintro _ _ ⟨rfl, rfl⟩
                      refine T.nil ?_
                      refine F.q rfl rfl rfl (wanted_none rfl) (r_assign rfl) ?_
                      refine F.q rfl rfl rfl (wanted_none rfl) (r_assign rfl) ?_
                      refine F.nil ?_
                      cases hE_1
                      refine Nrm.only [2, 6, 7, 8, 9] rfl ?_
                      refine Nrm.pick [3, 1, 2, 0] rfl rfl ?_
                      exact hj_1 _ _ ⟨v23_9, S23_9, b6_7, b7_7, hl_v23_9, rfl, rfl⟩
                    exact T.stop
                  · refine T.ef0 rfl rfl (wanted_none rfl) (d_storeArr (i := 1) (g := (Arr.rep 768 0)) (h := t22) ti111 rfl rfl rfl) (by rintro _ _ ⟨rfl, rfl⟩; exact upd rfl [2] rfl rfl) ?_ ?_
                    · rintro _ _ ⟨rfl, rfl⟩
                      refine T.ef rfl rfl rfl (wanted_none rfl) (Makes.does (m_build0 (α := Int × Int) Try.underlying41 ti89)) (by rintro v23_10 _ ⟨S23_10, hl_v23_10, rfl⟩; exact upd rfl [3] rfl rfl) ?_ ?_
                      · rintro v23_10 _ ⟨S23_10, hl_v23_10, rfl⟩
                        refine T.nil ?_
                        refine F.q rfl rfl rfl (wanted_none rfl) (r_assign rfl) ?_
                        refine F.q rfl rfl rfl (wanted_none rfl) (r_assign rfl) ?_
                        refine F.nil ?_
                        cases hE_1
                        refine Nrm.only [2, 6, 7, 8, 9] rfl ?_
                        refine Nrm.pick [3, 1, 2, 0] rfl rfl ?_
                        exact hj_1 _ _ ⟨v23_10, S23_10, b6_7, b7_7, hl_v23_10, rfl, rfl⟩
                      exact T.stop
                    exact T.stop
                exact T.stop
            exact T.stop
        exact T.stop

end Go.Proofs

/- loop.example/g01158/impl.TrapFreeSets$1 -/
namespace Go.Proofs
open Go Go.Ga
set_option linter.unusedVariables false
set_option maxRecDepth 100000
set_option maxHeartbeats 4000000
def impl_TrapFreeSets_1.f (k : Nat) (a0 : Int) (c0_0 : Int) (c0_1 : List (Int × Int × Int)) (c0_2 : List Int) (c0_3 : List Int) : Option (Bool) := (impl_lostStates.f k c0_0 c0_1 c0_2 c0_3 a0).bind fun (t9_1, t9_2) => some ((t9_1.length : Int) == 0)

theorem impl_TrapFreeSets_1.ok {k : Nat} {pc0 : Addr} {a0 : Int} {c0_0 : Int} {c0_1 : List (Int × Int × Int)} {c0_2 : List Int} {c0_3 : List Int} {r0 : Bool} (h : impl_TrapFreeSets_1.f k a0 c0_0 c0_1 c0_2 c0_3 = some r0) (w : World) {vc0_1 : Value} {vc0_2 : Value} {vc0_3 : Value} (hb_c0 : CellsAt w pc0 [.int .i64 c0_0, vc0_1, vc0_2, vc0_3]) (hr_c0_1 : Rd w vc0_1 c0_1) (hr_c0_2 : Rd w vc0_2 c0_2) (hr_c0_3 : Rd w vc0_3 c0_3) :
    Calls Try.prog 57 ([.int .i64 a0, .pointer (some pc0)] : List Value).toArray w (fun e w' => e = .returned (.bool r0) ∧ Ext w w') := by
  unfold impl_TrapFreeSets_1.f at h
  have hl_vc0_1 := hr_c0_1.len
  have hl_vc0_2 := hr_c0_2.len
  have hl_vc0_3 := hr_c0_3.len
  refine Calls.of_tri (N := 15) Try.func57 rfl rfl rfl (Sep.nil (M := noM)) ?_
  refine Tri.seq ?_
  refine Tri.reg (l := [0]) rfl ?_
  refine F.q rfl rfl rfl (wanted_none rfl) (r_assign rfl) ?_
  refine F.nil ?_
  refine Nrm.seq ?_
  refine Tri.seq ?_
  obtain ⟨⟨t9_1, t9_2⟩, h9, h⟩ := bind_some h
  refine Tri.reg (l := [0, 1, 2, 3, 4, 5, 6, 7]) rfl ?_
  refine F.q rfl rfl rfl (wanted_none rfl) (r_loadA ta33 ti33 rfl rfl (fun w hw => (hb_c0.sep hw))) ?_
  refine F.q rfl rfl rfl (wanted_none rfl) (r_move rfl) ?_
  refine F.m rfl rfl rfl (wanted_none rfl) (m_callF (xs := _) rfl ok58 rfl rfl (fun w hw => impl_lostStates.ok h9 w ((fun _ hw => hr_c0_1.sep hw) w hw) ((fun _ hw => hr_c0_2.sep hw) w hw) ((fun _ hw => hr_c0_3.sep hw) w hw))) ?_
  rintro _ _ ⟨_, ⟨v9_1, S9_1, rfl, hl_v9_1, rfl⟩, rfl⟩
  refine F.q rfl rfl rfl (wanted_none rfl) (r_move rfl) ?_
  refine F.q rfl rfl rfl (wanted_none rfl) (r_extract rfl rfl) ?_
  refine F.q rfl rfl rfl (wanted_none rfl) (r_extract rfl rfl) ?_
  refine F.q rfl rfl rfl (wanted_none rfl) (r_assign rfl) ?_
  refine F.q rfl rfl rfl (wanted_none rfl) (r_assign rfl) ?_
  refine F.nil ?_
  refine Nrm.seq ?_
  refine Tri.seq ?_
  refine Tri.reg (l := [0, 1, 2, 3]) rfl ?_
  refine F.q rfl rfl rfl (wanted_none rfl) (r_move rfl) ?_
  refine F.q rfl rfl rfl (wanted_none rfl) (r_len Try.underlying41 rfl hl_v9_1) ?_
  refine F.q rfl rfl rfl (wanted_none rfl) (r_eql rfl rfl) ?_
  refine F.q rfl rfl rfl (wanted_none rfl) (r_assign rfl) ?_
  refine F.nil ?_
  refine Nrm.seq ?_
  refine Tri.ret ?_
  cases h
  exact Rtn.body (.tmp rfl .nil) (fun w hw => ⟨rfl, hw.ext⟩)

end Go.Proofs

/- loop.example/g01158/impl.TrapFreeSets -/
namespace Go.Proofs
open Go Go.Ga
set_option linter.unusedVariables false
set_option maxRecDepth 100000
set_option maxHeartbeats 4000000
def impl_TrapFreeSets.f (k : Nat) (a0_0 : Int) (a0_1 : List (Int × Int × Int)) (a0_2 : List Int) (a0_3 : List Int) : Option ((List Int) × Bool) := (impl_IsTrap.f k a0_0 a0_1 a0_2 a0_3).bind fun t5 => (if (!t5) = true then some ([], false) else (impl_those.f k (fun z0 => impl_TrapFreeSets_1.f k z0 a0_0 a0_1 a0_2 a0_3)).bind fun t8 => some (t8, true))

theorem impl_TrapFreeSets.ok {k : Nat}  {a0_0 : Int} {a0_1 : List (Int × Int × Int)} {a0_2 : List Int} {a0_3 : List Int} {r0 : List Int} {r1 : Bool} (h : impl_TrapFreeSets.f k a0_0 a0_1 a0_2 a0_3 = some (r0, r1)) (w : World) {va0_1 : Value} {va0_2 : Value} {va0_3 : Value} (hr_a0_1 : Rd w va0_1 a0_1) (hr_a0_2 : Rd w va0_2 a0_2) (hr_a0_3 : Rd w va0_3 a0_3) :
    Calls Try.prog 15 ([.agg ([.int .i64 a0_0, va0_1, va0_2, va0_3].toArray)] : List Value).toArray w (Post (fun u ns => ∃ (ur0 : Value) (Sr0 : Nat → Prop), u = .tuple #[ur0, .bool r1] ∧ SlLen ur0 r0.length ∧ ns = [R.sl Sr0 ur0 r0]) w) := by
  unfold impl_TrapFreeSets.f at h
  have hl_va0_1 := hr_a0_1.len
  have hl_va0_2 := hr_a0_2.len
  have hl_va0_3 := hr_a0_3.len
  refine Calls.of_tri (N := 9) Try.func15 rfl rfl rfl (Sep.nil (M := noM)) ?_
  refine Tri.seq ?_
  refine Tri.reg (l := [0, 1, 2]) rfl ?_
  refine F.m rfl rfl rfl (wanted_none rfl) (m_boxG rfl rfl) ?_
  rintro _ _ ⟨b1_1, rfl, rfl⟩
  refine F.q rfl rfl rfl (wanted_none rfl) (r_assign rfl) ?_
  refine F.q rfl rfl rfl (wanted_none rfl) (r_assign rfl) ?_
  refine F.nil ?_
  refine Nrm.seq ?_
  refine Tri.seq ?_
  refine Tri.seq ?_
  obtain ⟨t5, h5, h⟩ := bind_some h
  refine Tri.reg (l := [0, 1, 2]) rfl ?_
  refine F.q rfl rfl rfl (wanted_none rfl) (r_loadA ta33 ti33 rfl rfl (fun w hw => (box_cells (i := 0) rfl w hw))) ?_
  refine F.qc rfl rfl rfl (wanted_none rfl) (q_callF (xs := _) rfl ok55 rfl rfl (fun w hw => impl_IsTrap.ok h5 w ((fun _ hw => hr_a0_1.sep hw) w hw) ((fun _ hw => hr_a0_2.sep hw) w hw) ((fun _ hw => hr_a0_3.sep hw) w hw))) ?_
  refine F.q rfl rfl rfl (wanted_none rfl) (r_not rfl) ?_
  refine F.nil ?_
  refine Nrm.seq ?_
  refine Tri.cond (b := !t5) rfl (fun g_1 => ?_) (fun g_1 => ?_)
  · replace h := if_tt g_1 h
    refine Tri.seq ?_
    refine Tri.reg (l := [0, 1]) rfl ?_
    refine F.q rfl rfl rfl (wanted_none rfl) (r_assign rfl) ?_
    refine F.q rfl rfl rfl (wanted_none rfl) (r_assign rfl) ?_
    refine F.nil ?_
    refine Nrm.seq ?_
    refine Tri.ret ?_
    refine Rtn.then ?_
    cases h
    exact Rtn.body (.tmp rfl (.tmp rfl .nil)) (fun w hw => ⟨_, _, rfl, ⟨.slice none 0 0, fun _ => False, rfl, len_nil, rfl⟩, Sep.pick (is := [0]) rfl rfl hw.pushNil⟩)
  · replace h := if_ff g_1 h
    refine Tri.skip ?_
    refine Nrm.seq ?_
    refine Tri.seq ?_
    obtain ⟨t8, h8, h⟩ := bind_some h
    refine Tri.reg (l := [0, 1, 2, 3]) rfl ?_
    refine F.q rfl rfl rfl (wanted_none rfl) (r_makeFunc rfl) ?_
    refine F.m rfl rfl rfl (wanted_none rfl) (m_callF (xs := _) rfl ok56 rfl rfl (fun w hw => impl_those.ok h8 w ok57 (fun w2 he2 z0 y2 hy2 => impl_TrapFreeSets_1.ok hy2 w2 ((box_cells (i := 0) rfl w hw).ext he2) (((fun _ hw => hr_a0_1.sep hw) w hw).ext he2) (((fun _ hw => hr_a0_2.sep hw) w hw).ext he2) (((fun _ hw => hr_a0_3.sep hw) w hw).ext he2)))) ?_
    rintro v8_1 _ ⟨_, ⟨S8_1, hl_v8_1, rfl⟩, rfl⟩
    refine F.q rfl rfl rfl (wanted_none rfl) (r_assign rfl) ?_
    refine F.q rfl rfl rfl (wanted_none rfl) (r_assign rfl) ?_
    refine F.nil ?_
    refine Nrm.seq ?_
    refine Tri.ret ?_
    cases h
    exact Rtn.body (.tmp rfl (.tmp rfl .nil)) (fun w hw => ⟨_, _, rfl, ⟨v8_1, S8_1, rfl, hl_v8_1, rfl⟩, Sep.pick (is := [0]) rfl rfl hw⟩)

end Go.Proofs

/- loop.example/g01158/laws.eqIntS -/

namespace Go.Proofs
open Go Go.Ga
set_option linter.unusedVariables false
set_option maxRecDepth 100000
set_option maxHeartbeats 4000000
def laws_eqIntS.l0 (k : Nat) (a0 : List Int) (a1 : List Int) : Nat → Int → Option ((Unit) ⊕ (Bool))
  | 0, _ => none
  | n + 1, x5 => (if (decide (x5 < (a0.length : Int))) = true then (rdl a0 x5).bind fun t19 => (rdl a1 x5).bind fun t23 => (if (t19 != t23) = true then some (Sum.inr false) else laws_eqIntS.l0 k a0 a1 n (w64 (x5 + 1))) else some (Sum.inl ()))

def laws_eqIntS.f (k : Nat) (a0 : List Int) (a1 : List Int) : Option (Bool) := (if ((a0.length : Int) != (a1.length : Int)) = true then some false else (laws_eqIntS.l0 k a0 a1 k 0).bind fun s => Lr s some fun _ => some true)

theorem laws_eqIntS.ok {k : Nat}  {a0 : List Int} {a1 : List Int} {r0 : Bool} (h : laws_eqIntS.f k a0 a1 = some r0) (w : World) {va0 : Value} {va1 : Value} (hr_a0 : Rd w va0 a0) (hr_a1 : Rd w va1 a1) :
    Calls Try.prog 16 ([va0, va1] : List Value).toArray w (fun e w' => e = .returned (.bool r0) ∧ Ext w w') := by
  unfold laws_eqIntS.f at h
  have hl_va0 := hr_a0.len
  have hl_va1 := hr_a1.len
  refine Calls.of_tri (N := 26) Try.func16 rfl rfl rfl (Sep.nil (M := noM)) ?_
  refine Tri.seq ?_
  refine Tri.reg (l := [0]) rfl ?_
  refine F.q rfl rfl rfl (wanted_none rfl) (r_assign rfl) ?_
  refine F.nil ?_
  refine Nrm.seq ?_
  refine Tri.seq ?_
  refine Tri.seq ?_
  refine Tri.reg (l := [0, 1, 2, 3, 4]) rfl ?_
  refine F.q rfl rfl rfl (wanted_none rfl) (r_move rfl) ?_
  refine F.q rfl rfl rfl (wanted_none rfl) (r_len Try.underlying23 rfl hl_va0) ?_
  refine F.q rfl rfl rfl (wanted_none rfl) (r_move rfl) ?_
  refine F.q rfl rfl rfl (wanted_none rfl) (r_len Try.underlying23 rfl hl_va1) ?_
  refine F.q rfl rfl rfl (wanted_none rfl) (r_neq rfl rfl) ?_
  refine F.nil ?_
  refine Nrm.seq ?_
  refine Tri.cond (b := (a0.length : Int) != (a1.length : Int)) rfl (fun g_1 => ?_) (fun g_1 => ?_)
  · replace h := if_tt g_1 h
    refine Tri.seq ?_
    refine Tri.reg (l := [0]) rfl ?_
    refine F.q rfl rfl rfl (wanted_none rfl) (r_assign rfl) ?_
    refine F.nil ?_
    refine Nrm.seq ?_
    refine Tri.ret ?_
    refine Rtn.then ?_
    cases h
    exact Rtn.body (.tmp rfl .nil) (fun w hw => ⟨rfl, hw.ext⟩)
  · replace h := if_ff g_1 h
    refine Tri.skip ?_
    refine Nrm.seq ?_
    refine Tri.seq ?_
    refine Tri.seq ?_
    refine Tri.reg (l := [0]) rfl ?_
    refine F.q rfl rfl rfl (wanted_none rfl) (r_assign rfl) ?_
    refine F.nil ?_
    refine Nrm.seq ?_
    obtain ⟨s0, hE_1, h⟩ := bind_some h
    refine Tri.block ?_
    refine Tri.only [0, 1, 5] rfl ?_
    refine Tri.pick [] rfl rfl ?_
    refine Tri.rounds (fun n e' C' => ∃ (x5' : Int), laws_eqIntS.l0 k a0 a1 n x5' = some s0 ∧ e' = [(0, va0), (1, va1), (5, .int .i64 x5')] ∧ C' = Sep w noM []) k ?_ ?_ ?_
    · exact ⟨0, hE_1, rfl, rfl⟩
    · rintro _ _ ⟨_, hE_1, _⟩
      rw [laws_eqIntS.l0.eq_1] at hE_1; cases hE_1
    · rintro n_1 _ _ ⟨x5, hE_1, rfl, rfl⟩ ih_1
      rw [laws_eqIntS.l0.eq_2] at hE_1
      refine Tri.seq ?_
      refine Tri.seq ?_
      refine Tri.reg (l := [0, 1, 2, 3]) rfl ?_
      refine F.q rfl rfl rfl (wanted_none rfl) (r_move rfl) ?_
      refine F.q rfl rfl rfl (wanted_none rfl) (r_move rfl) ?_
      refine F.q rfl rfl rfl (wanted_none rfl) (r_len Try.underlying23 rfl hl_va0) ?_
      refine F.q rfl rfl rfl (wanted_none rfl) (r_lss rfl rfl) ?_
      refine F.nil ?_
      refine Nrm.seq ?_
      refine Tri.cond (b := decide (x5 < (a0.length : Int))) rfl (fun g_2 => ?_) (fun g_2 => ?_)
      · replace hE_1 := if_tt g_2 hE_1
        refine Tri.skip ?_
        refine Nrm.seq ?_
        refine Tri.seq ?_
        refine Tri.block ?_
        refine Tri.seq ?_
        obtain ⟨t19, h19, hE_1⟩ := bind_some hE_1
        obtain ⟨t23, h23, hE_1⟩ := bind_some hE_1
        refine Tri.drawA mixedT Sep.up [(0, true), (1, true), (2, true), (3, true), (4, true), (5, true), (6, true), (7, true), (8, true)] [] (by kernel_rfl) ?_
        refine S.q rfl rfl rfl (wanted_none rfl) (r_move rfl) ?_
        refine S.q rfl rfl rfl (wanted_none rfl) (r_move rfl) ?_
        refine S.q rfl rfl rfl (wanted_none rfl) (r_indexAddrS Try.underlying23 ti3 rfl hl_va0 rfl (rdl_some h19).1 (rdl_some h19).2.1) ?_
        refine S.q rfl rfl rfl (wanted_none rfl) (r_load ta3 rfl (fun w hw => cell_0 (Rd.flat ((fun _ hw => hr_a0.sep hw) w hw) (rdl_some h19).2.2) rfl)) ?_
        refine S.q rfl rfl rfl (wanted_none rfl) (r_move rfl) ?_
        refine S.q rfl rfl rfl (wanted_none rfl) (r_move rfl) ?_
        refine S.q rfl rfl rfl (wanted_none rfl) (r_indexAddrS Try.underlying23 ti3 rfl hl_va1 rfl (rdl_some h23).1 (rdl_some h23).2.1) ?_
        refine S.q rfl rfl rfl (wanted_none rfl) (r_load ta3 rfl (fun w hw => cell_0 (Rd.flat ((fun _ hw => hr_a1.sep hw) w hw) (rdl_some h23).2.2) rfl)) ?_
        refine S.q rfl rfl rfl (wanted_none rfl) (r_neq rfl rfl) ?_
        refine S.nil ?_
        refine F.nil ?_
        refine Nrm.seq ?_
        refine Tri.cond (b := t19 != t23) rfl (fun g_3 => ?_) (fun g_3 => ?_)
        · replace hE_1 := if_tt g_3 hE_1
          refine Tri.seq ?_
          refine Tri.reg (l := [0]) rfl ?_
          refine F.q rfl rfl rfl (wanted_none rfl) (r_assign rfl) ?_
          refine F.nil ?_
          refine Nrm.seq ?_
          refine Tri.ret ?_
          refine Rtn.block ?_
          refine Rtn.then ?_
          refine Rtn.then ?_
          refine Rtn.block ?_
          refine Rtn.then ?_
          cases hE_1
          replace h := Lr_inr h
          cases h
          exact Rtn.body (.tmp rfl .nil) (fun w hw => ⟨rfl, hw.ext⟩)
        · replace hE_1 := if_ff g_3 hE_1
          refine Tri.skip ?_
          refine Nrm.block ?_
          refine Nrm.seq ?_
          refine Tri.reg (l := [0, 1, 2]) rfl ?_
          refine F.q rfl rfl rfl (wanted_none rfl) (r_move rfl) ?_
          refine F.q rfl rfl rfl (wanted_none rfl) (r_add rfl rfl) ?_
          refine F.q rfl rfl rfl (wanted_none rfl) (r_assign rfl) ?_
          refine F.nil ?_
          refine Nrm.round ?_
          refine Rnd.only [0, 1, 5] rfl ?_
          refine Rnd.pick [] rfl rfl ?_
          exact ih_1 _ _ ⟨w64 (x5 + 1), hE_1, rfl, rfl⟩
      · replace hE_1 := if_ff g_2 hE_1
        refine Tri.exit ?_
        refine Exi.then ?_
        refine Exi.then ?_
        refine Exi.same ?_
        cases hE_1
        replace h := Lr_inl h
        refine Nrm.seq ?_
        refine Tri.seq ?_
        refine Tri.reg (l := [0]) rfl ?_
        refine F.q rfl rfl rfl (wanted_none rfl) (r_assign rfl) ?_
        refine F.nil ?_
        refine Nrm.seq ?_
        refine Tri.ret ?_
        cases h
        exact Rtn.body (.tmp rfl .nil) (fun w hw => ⟨rfl, hw.ext⟩)

end Go.Proofs

/- loop.example/g01158/laws.eqIntA3 -/

namespace Go.Proofs
open Go Go.Ga
set_option linter.unusedVariables false
set_option maxRecDepth 100000
set_option maxHeartbeats 4000000
def laws_eqIntA3.l0 (k : Nat) (a0_0 : Int) (a0_1 : Int) (a0_2 : Int) (a1_0 : Int) (a1_1 : Int) (a1_2 : Int) : Nat → Int → Option ((Unit) ⊕ (Bool))
  | 0, _ => none
  | n + 1, x5 => (if (decide (x5 < 3)) = true then (rdl [a0_0, a0_1, a0_2] x5).bind fun t11 => (rdl [a1_0, a1_1, a1_2] x5).bind fun t14 => (if (t11 != t14) = true then some (Sum.inr false) else laws_eqIntA3.l0 k a0_0 a0_1 a0_2 a1_0 a1_1 a1_2 n (w64 (x5 + 1))) else some (Sum.inl ()))

def laws_eqIntA3.f (k : Nat) (a0_0 : Int) (a0_1 : Int) (a0_2 : Int) (a1_0 : Int) (a1_1 : Int) (a1_2 : Int) : Option (Bool) := (laws_eqIntA3.l0 k a0_0 a0_1 a0_2 a1_0 a1_1 a1_2 k 0).bind fun s => Lr s some fun _ => some true

theorem laws_eqIntA3.ok {k : Nat}  {a0_0 : Int} {a0_1 : Int} {a0_2 : Int} {a1_0 : Int} {a1_1 : Int} {a1_2 : Int} {r0 : Bool} (h : laws_eqIntA3.f k a0_0 a0_1 a0_2 a1_0 a1_1 a1_2 = some r0) (w : World) :
    Calls Try.prog 106 ([.agg ([.int .i64 a0_0, .int .i64 a0_1, .int .i64 a0_2].toArray), .agg ([.int .i64 a1_0, .int .i64 a1_1, .int .i64 a1_2].toArray)] : List Value).toArray w (fun e w' => e = .returned (.bool r0) ∧ Ext w w') := by
  unfold laws_eqIntA3.f at h
  refine Calls.of_tri (N := 17) Try.func106 rfl rfl rfl (Sep.nil (M := noM)) ?_
  refine Tri.seq ?_
  refine Tri.reg (l := [0, 1, 2]) rfl ?_
  refine F.m rfl rfl rfl (wanted_none rfl) (m_boxG rfl rfl) ?_
  rintro _ _ ⟨b2_1, rfl, rfl⟩
  refine F.m rfl rfl rfl (wanted_none rfl) (m_boxG rfl rfl) ?_
  rintro _ _ ⟨b3_1, rfl, rfl⟩
  refine F.q rfl rfl rfl (wanted_none rfl) (r_assign rfl) ?_
  refine F.nil ?_
  refine Nrm.seq ?_
  refine Tri.seq ?_
  refine Tri.seq ?_
  refine Tri.reg (l := [0]) rfl ?_
  refine F.q rfl rfl rfl (wanted_none rfl) (r_assign rfl) ?_
  refine F.nil ?_
  refine Nrm.seq ?_
  obtain ⟨s0, hE_1, h⟩ := bind_some h
  refine Tri.block ?_
  refine Tri.only [2, 3, 5] rfl ?_
  refine Tri.pick [0, 1] rfl rfl ?_
  refine Tri.rounds (fun n e' C' => ∃ (x5' : Int), laws_eqIntA3.l0 k a0_0 a0_1 a0_2 a1_0 a1_1 a1_2 n x5' = some s0 ∧ e' = [(2, .pointer (some ⟨b2_1, 0, none⟩)), (3, .pointer (some ⟨b3_1, 0, none⟩)), (5, .int .i64 x5')] ∧ C' = Sep w noM [R.box b3_1 116 [.int .i64 a1_0, .int .i64 a1_1, .int .i64 a1_2], R.box b2_1 116 [.int .i64 a0_0, .int .i64 a0_1, .int .i64 a0_2]]) k ?_ ?_ ?_
  · exact ⟨0, hE_1, rfl, rfl⟩
  · rintro _ _ ⟨_, hE_1, _⟩
    rw [laws_eqIntA3.l0.eq_1] at hE_1; cases hE_1
  · rintro n_1 _ _ ⟨x5, hE_1, rfl, rfl⟩ ih_1
    rw [laws_eqIntA3.l0.eq_2] at hE_1
    refine Tri.seq ?_
    refine Tri.seq ?_
    refine Tri.reg (l := [0, 1]) rfl ?_
    refine F.q rfl rfl rfl (wanted_none rfl) (r_move rfl) ?_
    refine F.q rfl rfl rfl (wanted_none rfl) (r_lss rfl rfl) ?_
    refine F.nil ?_
    refine Nrm.seq ?_
    refine Tri.cond (b := decide (x5 < 3)) rfl (fun g_1 => ?_) (fun g_1 => ?_)
    · replace hE_1 := if_tt g_1 hE_1
      refine Tri.skip ?_
      refine Nrm.seq ?_
      refine Tri.seq ?_
      refine Tri.block ?_
      refine Tri.seq ?_
      obtain ⟨t11, h11, hE_1⟩ := bind_some hE_1
      obtain ⟨t14, h14, hE_1⟩ := bind_some hE_1
      refine Tri.drawA mixedT Sep.up [(0, true), (1, true), (2, true), (3, true), (4, true), (5, true), (6, true)] [] (by kernel_rfl) ?_
      refine S.q rfl rfl rfl (wanted_none rfl) (r_move rfl) ?_
      refine S.q rfl rfl rfl (wanted_none rfl) (r_indexAddrA Try.underlying116 ti3 rfl rfl (rdl_some h11).1 (rdl_some h11).2.1) ?_
      refine S.q rfl rfl rfl (wanted_none rfl) (r_load ta3 rfl (fun w hw => cell_dynB (box_cells (i := 1) rfl w hw) rfl h11)) ?_
      refine S.q rfl rfl rfl (wanted_none rfl) (r_move rfl) ?_
      refine S.q rfl rfl rfl (wanted_none rfl) (r_indexAddrA Try.underlying116 ti3 rfl rfl (rdl_some h14).1 (rdl_some h14).2.1) ?_
      refine S.q rfl rfl rfl (wanted_none rfl) (r_load ta3 rfl (fun w hw => cell_dynB (box_cells (i := 0) rfl w hw) rfl h14)) ?_
      refine S.q rfl rfl rfl (wanted_none rfl) (r_neq rfl rfl) ?_
      refine S.nil ?_
      refine F.nil ?_
      refine Nrm.seq ?_
      refine Tri.cond (b := t11 != t14) rfl (fun g_2 => ?_) (fun g_2 => ?_)
      · replace hE_1 := if_tt g_2 hE_1
        refine Tri.seq ?_
        refine Tri.reg (l := [0]) rfl ?_
        refine F.q rfl rfl rfl (wanted_none rfl) (r_assign rfl) ?_
        refine F.nil ?_
        refine Nrm.seq ?_
        refine Tri.ret ?_
        refine Rtn.block ?_
        refine Rtn.then ?_
        refine Rtn.then ?_
        refine Rtn.block ?_
        refine Rtn.then ?_
        cases hE_1
        replace h := Lr_inr h
        cases h
        exact Rtn.body (.tmp rfl .nil) (fun w hw => ⟨rfl, hw.ext⟩)
      · replace hE_1 := if_ff g_2 hE_1
        refine Tri.skip ?_
        refine Nrm.block ?_
        refine Nrm.seq ?_
        refine Tri.reg (l := [0, 1, 2]) rfl ?_
        refine F.q rfl rfl rfl (wanted_none rfl) (r_move rfl) ?_
        refine F.q rfl rfl rfl (wanted_none rfl) (r_add rfl rfl) ?_
        refine F.q rfl rfl rfl (wanted_none rfl) (r_assign rfl) ?_
        refine F.nil ?_
        refine Nrm.round ?_
        refine Rnd.only [2, 3, 5] rfl ?_
        refine Rnd.pick [0, 1] rfl rfl ?_
        exact ih_1 _ _ ⟨w64 (x5 + 1), hE_1, rfl, rfl⟩
    · replace hE_1 := if_ff g_1 hE_1
      refine Tri.exit ?_
      refine Exi.then ?_
      refine Exi.then ?_
      refine Exi.same ?_
      cases hE_1
      replace h := Lr_inl h
      refine Nrm.seq ?_
      refine Tri.seq ?_
      refine Tri.reg (l := [0]) rfl ?_
      refine F.q rfl rfl rfl (wanted_none rfl) (r_assign rfl) ?_
      refine F.nil ?_
      refine Nrm.seq ?_
      refine Tri.ret ?_
      cases h
      exact Rtn.body (.tmp rfl .nil) (fun w hw => ⟨rfl, hw.ext⟩)

end Go.Proofs

/- loop.example/g01158/laws.eqIntA3S -/
namespace Go.Proofs
open Go Go.Ga
set_option linter.unusedVariables false
set_option maxRecDepth 100000
set_option maxHeartbeats 4000000
def laws_eqIntA3S.l0 (k : Nat) (a0 : List (Int × Int × Int)) (a1 : List (Int × Int × Int)) : Nat → Int → Option ((Unit) ⊕ (Bool))
  | 0, _ => none
  | n + 1, x5 => (if (decide (x5 < (a0.length : Int))) = true then (rdl a0 x5).bind fun t19 => (rdl a1 x5).bind fun t23 => (laws_eqIntA3.f k t19.1 t19.2.1 t19.2.2 t23.1 t23.2.1 t23.2.2).bind fun t25 => (if (!t25) = true then some (Sum.inr false) else laws_eqIntA3S.l0 k a0 a1 n (w64 (x5 + 1))) else some (Sum.inl ()))

def laws_eqIntA3S.f (k : Nat) (a0 : List (Int × Int × Int)) (a1 : List (Int × Int × Int)) : Option (Bool) := (if ((a0.length : Int) != (a1.length : Int)) = true then some false else (laws_eqIntA3S.l0 k a0 a1 k 0).bind fun s => Lr s some fun _ => some true)

theorem laws_eqIntA3S.ok {k : Nat}  {a0 : List (Int × Int × Int)} {a1 : List (Int × Int × Int)} {r0 : Bool} (h : laws_eqIntA3S.f k a0 a1 = some r0) (w : World) {va0 : Value} {va1 : Value} (hr_a0 : Rd w va0 a0) (hr_a1 : Rd w va1 a1) :
    Calls Try.prog 71 ([va0, va1] : List Value).toArray w (fun e w' => e = .returned (.bool r0) ∧ Ext w w') := by
  unfold laws_eqIntA3S.f at h
  have hl_va0 := hr_a0.len
  have hl_va1 := hr_a1.len
  refine Calls.of_tri (N := 27) Try.func71 rfl rfl rfl (Sep.nil (M := noM)) ?_
  refine Tri.seq ?_
  refine Tri.reg (l := [0]) rfl ?_
  refine F.q rfl rfl rfl (wanted_none rfl) (r_assign rfl) ?_
  refine F.nil ?_
  refine Nrm.seq ?_
  refine Tri.seq ?_
  refine Tri.seq ?_
  refine Tri.reg (l := [0, 1, 2, 3, 4]) rfl ?_
  refine F.q rfl rfl rfl (wanted_none rfl) (r_move rfl) ?_
  refine F.q rfl rfl rfl (wanted_none rfl) (r_len Try.underlying22 rfl hl_va0) ?_
  refine F.q rfl rfl rfl (wanted_none rfl) (r_move rfl) ?_
  refine F.q rfl rfl rfl (wanted_none rfl) (r_len Try.underlying22 rfl hl_va1) ?_
  refine F.q rfl rfl rfl (wanted_none rfl) (r_neq rfl rfl) ?_
  refine F.nil ?_
  refine Nrm.seq ?_
  refine Tri.cond (b := (a0.length : Int) != (a1.length : Int)) rfl (fun g_1 => ?_) (fun g_1 => ?_)
  · replace h := if_tt g_1 h
    refine Tri.seq ?_
    refine Tri.reg (l := [0]) rfl ?_
    refine F.q rfl rfl rfl (wanted_none rfl) (r_assign rfl) ?_
    refine F.nil ?_
    refine Nrm.seq ?_
    refine Tri.ret ?_
    refine Rtn.then ?_
    cases h
    exact Rtn.body (.tmp rfl .nil) (fun w hw => ⟨rfl, hw.ext⟩)
  · replace h := if_ff g_1 h
    refine Tri.skip ?_
    refine Nrm.seq ?_
    refine Tri.seq ?_
    refine Tri.seq ?_
    refine Tri.reg (l := [0]) rfl ?_
    refine F.q rfl rfl rfl (wanted_none rfl) (r_assign rfl) ?_
    refine F.nil ?_
    refine Nrm.seq ?_
    obtain ⟨s0, hE_1, h⟩ := bind_some h
    refine Tri.block ?_
    refine Tri.only [0, 1, 5] rfl ?_
    refine Tri.pick [] rfl rfl ?_
    refine Tri.rounds (fun n e' C' => ∃ (x5' : Int), laws_eqIntA3S.l0 k a0 a1 n x5' = some s0 ∧ e' = [(0, va0), (1, va1), (5, .int .i64 x5')] ∧ C' = Sep w noM []) k ?_ ?_ ?_
    · exact ⟨0, hE_1, rfl, rfl⟩
    · rintro _ _ ⟨_, hE_1, _⟩
      rw [laws_eqIntA3S.l0.eq_1] at hE_1; cases hE_1
    · rintro n_1 _ _ ⟨x5, hE_1, rfl, rfl⟩ ih_1
      rw [laws_eqIntA3S.l0.eq_2] at hE_1
      refine Tri.seq ?_
      refine Tri.seq ?_
      refine Tri.reg (l := [0, 1, 2, 3]) rfl ?_
      refine F.q rfl rfl rfl (wanted_none rfl) (r_move rfl) ?_
      refine F.q rfl rfl rfl (wanted_none rfl) (r_move rfl) ?_
      refine F.q rfl rfl rfl (wanted_none rfl) (r_len Try.underlying22 rfl hl_va0) ?_
      refine F.q rfl rfl rfl (wanted_none rfl) (r_lss rfl rfl) ?_
      refine F.nil ?_
      refine Nrm.seq ?_
      refine Tri.cond (b := decide (x5 < (a0.length : Int))) rfl (fun g_2 => ?_) (fun g_2 => ?_)
      · replace hE_1 := if_tt g_2 hE_1
        refine Tri.skip ?_
        refine Nrm.seq ?_
        refine Tri.seq ?_
        refine Tri.block ?_
        refine Tri.seq ?_
        obtain ⟨t19, h19, hE_1⟩ := bind_some hE_1
        obtain ⟨t23, h23, hE_1⟩ := bind_some hE_1
        obtain ⟨t25, h25, hE_1⟩ := bind_some hE_1
        refine Tri.drawA mixedT Sep.up [(0, true), (1, true), (2, true), (3, true), (4, true), (5, true), (6, true), (7, true), (8, true), (9, true)] [] (by kernel_rfl) ?_
        refine S.q rfl rfl rfl (wanted_none rfl) (r_move rfl) ?_
        refine S.q rfl rfl rfl (wanted_none rfl) (r_move rfl) ?_
        refine S.q rfl rfl rfl (wanted_none rfl) (r_indexAddrS Try.underlying22 ti116 rfl hl_va0 rfl (rdl_some h19).1 (rdl_some h19).2.1) ?_
        refine S.q rfl rfl rfl (wanted_none rfl) (r_loadA ta116 ti116 rfl rfl (fun w hw => (Rd.flat ((fun _ hw => hr_a0.sep hw) w hw) (rdl_some h19).2.2))) ?_
        refine S.q rfl rfl rfl (wanted_none rfl) (r_move rfl) ?_
        refine S.q rfl rfl rfl (wanted_none rfl) (r_move rfl) ?_
        refine S.q rfl rfl rfl (wanted_none rfl) (r_indexAddrS Try.underlying22 ti116 rfl hl_va1 rfl (rdl_some h23).1 (rdl_some h23).2.1) ?_
        refine S.q rfl rfl rfl (wanted_none rfl) (r_loadA ta116 ti116 rfl rfl (fun w hw => (Rd.flat ((fun _ hw => hr_a1.sep hw) w hw) (rdl_some h23).2.2))) ?_
        refine S.qc rfl rfl rfl (wanted_none rfl) (q_callF (xs := _) rfl ok106 rfl rfl (fun w hw => laws_eqIntA3.ok h25 w )) ?_
        refine S.q rfl rfl rfl (wanted_none rfl) (r_not rfl) ?_
        refine S.nil ?_
        refine F.nil ?_
        refine Nrm.seq ?_
        refine Tri.cond (b := !t25) rfl (fun g_3 => ?_) (fun g_3 => ?_)
        · replace hE_1 := if_tt g_3 hE_1
          refine Tri.seq ?_
          refine Tri.reg (l := [0]) rfl ?_
          refine F.q rfl rfl rfl (wanted_none rfl) (r_assign rfl) ?_
          refine F.nil ?_
          refine Nrm.seq ?_
          refine Tri.ret ?_
          refine Rtn.block ?_
          refine Rtn.then ?_
          refine Rtn.then ?_
          refine Rtn.block ?_
          refine Rtn.then ?_
          cases hE_1
          replace h := Lr_inr h
          cases h
          exact Rtn.body (.tmp rfl .nil) (fun w hw => ⟨rfl, hw.ext⟩)
        · replace hE_1 := if_ff g_3 hE_1
          refine Tri.skip ?_
          refine Nrm.block ?_
          refine Nrm.seq ?_
          refine Tri.reg (l := [0, 1, 2]) rfl ?_
          refine F.q rfl rfl rfl (wanted_none rfl) (r_move rfl) ?_
          refine F.q rfl rfl rfl (wanted_none rfl) (r_add rfl rfl) ?_
          refine F.q rfl rfl rfl (wanted_none rfl) (r_assign rfl) ?_
          refine F.nil ?_
          refine Nrm.round ?_
          refine Rnd.only [0, 1, 5] rfl ?_
          refine Rnd.pick [] rfl rfl ?_
          exact ih_1 _ _ ⟨w64 (x5 + 1), hE_1, rfl, rfl⟩
      · replace hE_1 := if_ff g_2 hE_1
        refine Tri.exit ?_
        refine Exi.then ?_
        refine Exi.then ?_
        refine Exi.same ?_
        cases hE_1
        replace h := Lr_inl h
        refine Nrm.seq ?_
        refine Tri.seq ?_
        refine Tri.reg (l := [0]) rfl ?_
        refine F.q rfl rfl rfl (wanted_none rfl) (r_assign rfl) ?_
        refine F.nil ?_
        refine Nrm.seq ?_
        refine Tri.ret ?_
        cases h
        exact Rtn.body (.tmp rfl .nil) (fun w hw => ⟨rfl, hw.ext⟩)

end Go.Proofs

/- loop.example/g01158/laws.eqMaze -/
namespace Go.Proofs
open Go Go.Ga
set_option linter.unusedVariables false
set_option maxRecDepth 100000
set_option maxHeartbeats 4000000
def laws_eqMaze.f (k : Nat) (a0_0 : Int) (a0_1 : List (Int × Int × Int)) (a0_2 : List Int) (a1_0 : Int) (a1_1 : List (Int × Int × Int)) (a1_2 : List Int) : Option (Bool) := (if (a0_0 != a1_0) = true then some false else (laws_eqIntA3S.f k a0_1 a1_1).bind fun t14 => (if (!t14) = true then some false else (laws_eqIntS.f k a0_2 a1_2).bind fun t20 => (if (!t20) = true then some false else some true)))

theorem laws_eqMaze.ok {k : Nat}  {a0_0 : Int} {a0_1 : List (Int × Int × Int)} {a0_2 : List Int} {a1_0 : Int} {a1_1 : List (Int × Int × Int)} {a1_2 : List Int} {r0 : Bool} (h : laws_eqMaze.f k a0_0 a0_1 a0_2 a1_0 a1_1 a1_2 = some r0) (w : World) {va0_1 : Value} {va0_2 : Value} {va1_1 : Value} {va1_2 : Value} (hr_a0_1 : Rd w va0_1 a0_1) (hr_a0_2 : Rd w va0_2 a0_2) (hr_a1_1 : Rd w va1_1 a1_1) (hr_a1_2 : Rd w va1_2 a1_2) :
    Calls Try.prog 27 ([.agg ([.int .i64 a0_0, va0_1, va0_2].toArray), .agg ([.int .i64 a1_0, va1_1, va1_2].toArray)] : List Value).toArray w (fun e w' => e = .returned (.bool r0) ∧ Ext w w') := by
  unfold laws_eqMaze.f at h
  have hl_va0_1 := hr_a0_1.len
  have hl_va0_2 := hr_a0_2.len
  have hl_va1_1 := hr_a1_1.len
  have hl_va1_2 := hr_a1_2.len
  refine Calls.of_tri (N := 22) Try.func27 rfl rfl rfl (Sep.nil (M := noM)) ?_
  refine Tri.seq ?_
  refine Tri.reg (l := [0, 1, 2]) rfl ?_
  refine F.m rfl rfl rfl (wanted_none rfl) (m_boxG rfl rfl) ?_
  rintro _ _ ⟨b2_1, rfl, rfl⟩
  refine F.m rfl rfl rfl (wanted_none rfl) (m_boxG rfl rfl) ?_
  rintro _ _ ⟨b3_1, rfl, rfl⟩
  refine F.q rfl rfl rfl (wanted_none rfl) (r_assign rfl) ?_
  refine F.nil ?_
  refine Nrm.seq ?_
  refine Tri.seq ?_
  refine Tri.seq ?_
  refine Tri.reg (l := [0, 1, 2, 3, 4]) rfl ?_
  refine F.q rfl rfl rfl (wanted_none rfl) (r_fieldAddr tf31_0 rfl) ?_
  refine F.q rfl rfl rfl (wanted_none rfl) (r_load ta3 rfl (fun w hw => cell_1 (box_cells (i := 1) rfl w hw) rfl)) ?_
  refine F.q rfl rfl rfl (wanted_none rfl) (r_fieldAddr tf31_0 rfl) ?_
  refine F.q rfl rfl rfl (wanted_none rfl) (r_load ta3 rfl (fun w hw => cell_1 (box_cells (i := 0) rfl w hw) rfl)) ?_
  refine F.q rfl rfl rfl (wanted_none rfl) (r_neq rfl rfl) ?_
  refine F.nil ?_
  refine Nrm.seq ?_
  refine Tri.cond (b := a0_0 != a1_0) rfl (fun g_1 => ?_) (fun g_1 => ?_)
  · replace h := if_tt g_1 h
    refine Tri.seq ?_
    refine Tri.reg (l := [0]) rfl ?_
    refine F.q rfl rfl rfl (wanted_none rfl) (r_assign rfl) ?_
    refine F.nil ?_
    refine Nrm.seq ?_
    refine Tri.ret ?_
    refine Rtn.then ?_
    cases h
    exact Rtn.body (.tmp rfl .nil) (fun w hw => ⟨rfl, hw.ext⟩)
  · replace h := if_ff g_1 h
    refine Tri.skip ?_
    refine Nrm.seq ?_
    refine Tri.seq ?_
    refine Tri.seq ?_
    obtain ⟨t14, h14, h⟩ := bind_some h
    refine Tri.reg (l := [0, 1, 2, 3, 4, 5]) rfl ?_
    refine F.q rfl rfl rfl (wanted_none rfl) (r_fieldAddr tf31_1 rfl) ?_
    refine F.q rfl rfl rfl (wanted_none rfl) (r_load ta22 rfl (fun w hw => cell_1 (box_cells (i := 1) rfl w hw) rfl)) ?_
    refine F.q rfl rfl rfl (wanted_none rfl) (r_fieldAddr tf31_1 rfl) ?_
    refine F.q rfl rfl rfl (wanted_none rfl) (r_load ta22 rfl (fun w hw => cell_1 (box_cells (i := 0) rfl w hw) rfl)) ?_
    refine F.qc rfl rfl rfl (wanted_none rfl) (q_callF (xs := _) rfl ok71 rfl rfl (fun w hw => laws_eqIntA3S.ok h14 w ((fun _ hw => hr_a0_1.sep hw) w hw) ((fun _ hw => hr_a1_1.sep hw) w hw))) ?_
    refine F.q rfl rfl rfl (wanted_none rfl) (r_not rfl) ?_
    refine F.nil ?_
    refine Nrm.seq ?_
    refine Tri.cond (b := !t14) rfl (fun g_2 => ?_) (fun g_2 => ?_)
    · replace h := if_tt g_2 h
      refine Tri.seq ?_
      refine Tri.reg (l := [0]) rfl ?_
      refine F.q rfl rfl rfl (wanted_none rfl) (r_assign rfl) ?_
      refine F.nil ?_
      refine Nrm.seq ?_
      refine Tri.ret ?_
      refine Rtn.then ?_
      cases h
      exact Rtn.body (.tmp rfl .nil) (fun w hw => ⟨rfl, hw.ext⟩)
    · replace h := if_ff g_2 h
      refine Tri.skip ?_
      refine Nrm.seq ?_
      refine Tri.seq ?_
      refine Tri.seq ?_
      obtain ⟨t20, h20, h⟩ := bind_some h
      refine Tri.reg (l := [0, 1, 2, 3, 4, 5]) rfl ?_
      refine F.q rfl rfl rfl (wanted_none rfl) (r_fieldAddr tf31_2 rfl) ?_
      refine F.q rfl rfl rfl (wanted_none rfl) (r_load ta23 rfl (fun w hw => cell_1 (box_cells (i := 1) rfl w hw) rfl)) ?_
      refine F.q rfl rfl rfl (wanted_none rfl) (r_fieldAddr tf31_2 rfl) ?_
      refine F.q rfl rfl rfl (wanted_none rfl) (r_load ta23 rfl (fun w hw => cell_1 (box_cells (i := 0) rfl w hw) rfl)) ?_
      refine F.qc rfl rfl rfl (wanted_none rfl) (q_callF (xs := _) rfl ok16 rfl rfl (fun w hw => laws_eqIntS.ok h20 w ((fun _ hw => hr_a0_2.sep hw) w hw) ((fun _ hw => hr_a1_2.sep hw) w hw))) ?_
      refine F.q rfl rfl rfl (wanted_none rfl) (r_not rfl) ?_
      refine F.nil ?_
      refine Nrm.seq ?_
      refine Tri.cond (b := !t20) rfl (fun g_3 => ?_) (fun g_3 => ?_)
      · replace h := if_tt g_3 h
        refine Tri.seq ?_
        refine Tri.reg (l := [0]) rfl ?_
        refine F.q rfl rfl rfl (wanted_none rfl) (r_assign rfl) ?_
        refine F.nil ?_
        refine Nrm.seq ?_
        refine Tri.ret ?_
        refine Rtn.then ?_
        cases h
        exact Rtn.body (.tmp rfl .nil) (fun w hw => ⟨rfl, hw.ext⟩)
      · replace h := if_ff g_3 h
        refine Tri.skip ?_
        refine Nrm.seq ?_
        refine Tri.seq ?_
        refine Tri.reg (l := [0]) rfl ?_
        refine F.q rfl rfl rfl (wanted_none rfl) (r_assign rfl) ?_
        refine F.nil ?_
        refine Nrm.seq ?_
        refine Tri.ret ?_
        cases h
        exact Rtn.body (.tmp rfl .nil) (fun w hw => ⟨rfl, hw.ext⟩)

end Go.Proofs

/- loop.example/g01158/laws.eqTrap -/
namespace Go.Proofs
open Go Go.Ga
set_option linter.unusedVariables false
set_option maxRecDepth 100000
set_option maxHeartbeats 4000000
def laws_eqTrap.f (k : Nat) (a0_0 : Int) (a0_1 : List (Int × Int × Int)) (a0_2 : List Int) (a0_3 : List Int) (a1_0 : Int) (a1_1 : List (Int × Int × Int)) (a1_2 : List Int) (a1_3 : List Int) : Option (Bool) := (laws_eqMaze.f k a0_0 a0_1 a0_2 a1_0 a1_1 a1_2).bind fun t9 => (if (!t9) = true then some false else (laws_eqIntS.f k a0_3 a1_3).bind fun t15 => (if (!t15) = true then some false else some true))

theorem laws_eqTrap.ok {k : Nat}  {a0_0 : Int} {a0_1 : List (Int × Int × Int)} {a0_2 : List Int} {a0_3 : List Int} {a1_0 : Int} {a1_1 : List (Int × Int × Int)} {a1_2 : List Int} {a1_3 : List Int} {r0 : Bool} (h : laws_eqTrap.f k a0_0 a0_1 a0_2 a0_3 a1_0 a1_1 a1_2 a1_3 = some r0) (w : World) {va0_1 : Value} {va0_2 : Value} {va0_3 : Value} {va1_1 : Value} {va1_2 : Value} {va1_3 : Value} (hr_a0_1 : Rd w va0_1 a0_1) (hr_a0_2 : Rd w va0_2 a0_2) (hr_a0_3 : Rd w va0_3 a0_3) (hr_a1_1 : Rd w va1_1 a1_1) (hr_a1_2 : Rd w va1_2 a1_2) (hr_a1_3 : Rd w va1_3 a1_3) :
    Calls Try.prog 17 ([.agg ([.int .i64 a0_0, va0_1, va0_2, va0_3].toArray), .agg ([.int .i64 a1_0, va1_1, va1_2, va1_3].toArray)] : List Value).toArray w (fun e w' => e = .returned (.bool r0) ∧ Ext w w') := by
  unfold laws_eqTrap.f at h
  have hl_va0_1 := hr_a0_1.len
  have hl_va0_2 := hr_a0_2.len
  have hl_va0_3 := hr_a0_3.len
  have hl_va1_1 := hr_a1_1.len
  have hl_va1_2 := hr_a1_2.len
  have hl_va1_3 := hr_a1_3.len
  refine Calls.of_tri (N := 17) Try.func17 rfl rfl rfl (Sep.nil (M := noM)) ?_
  refine Tri.seq ?_
  refine Tri.reg (l := [0, 1, 2]) rfl ?_
  refine F.m rfl rfl rfl (wanted_none rfl) (m_boxG rfl rfl) ?_
  rintro _ _ ⟨b2_1, rfl, rfl⟩
  refine F.m rfl rfl rfl (wanted_none rfl) (m_boxG rfl rfl) ?_
  rintro _ _ ⟨b3_1, rfl, rfl⟩
  refine F.q rfl rfl rfl (wanted_none rfl) (r_assign rfl) ?_
  refine F.nil ?_
  refine Nrm.seq ?_
  refine Tri.seq ?_
  refine Tri.seq ?_
  obtain ⟨t9, h9, h⟩ := bind_some h
  refine Tri.reg (l := [0, 1, 2, 3, 4, 5]) rfl ?_
  refine F.q rfl rfl rfl (wanted_none rfl) (r_fieldAddr tf33_0 rfl) ?_
  refine F.q rfl rfl rfl (wanted_none rfl) (r_loadA ta31 ti31 rfl rfl (fun w hw => cells_1 (cs' := [.int .i64 a0_0, va0_1, va0_2]) (box_cells (i := 1) rfl w hw) rfl)) ?_
  refine F.q rfl rfl rfl (wanted_none rfl) (r_fieldAddr tf33_0 rfl) ?_
  refine F.q rfl rfl rfl (wanted_none rfl) (r_loadA ta31 ti31 rfl rfl (fun w hw => cells_1 (cs' := [.int .i64 a1_0, va1_1, va1_2]) (box_cells (i := 0) rfl w hw) rfl)) ?_
  refine F.qc rfl rfl rfl (wanted_none rfl) (q_callF (xs := _) rfl ok27 rfl rfl (fun w hw => laws_eqMaze.ok h9 w ((fun _ hw => hr_a0_1.sep hw) w hw) ((fun _ hw => hr_a0_2.sep hw) w hw) ((fun _ hw => hr_a1_1.sep hw) w hw) ((fun _ hw => hr_a1_2.sep hw) w hw))) ?_
  refine F.q rfl rfl rfl (wanted_none rfl) (r_not rfl) ?_
  refine F.nil ?_
  refine Nrm.seq ?_
  refine Tri.cond (b := !t9) rfl (fun g_1 => ?_) (fun g_1 => ?_)
  · replace h := if_tt g_1 h
    refine Tri.seq ?_
    refine Tri.reg (l := [0]) rfl ?_
    refine F.q rfl rfl rfl (wanted_none rfl) (r_assign rfl) ?_
    refine F.nil ?_
    refine Nrm.seq ?_
    refine Tri.ret ?_
    refine Rtn.then ?_
    cases h
    exact Rtn.body (.tmp rfl .nil) (fun w hw => ⟨rfl, hw.ext⟩)
  · replace h := if_ff g_1 h
    refine Tri.skip ?_
    refine Nrm.seq ?_
    refine Tri.seq ?_
    refine Tri.seq ?_
    obtain ⟨t15, h15, h⟩ := bind_some h
    refine Tri.reg (l := [0, 1, 2, 3, 4, 5]) rfl ?_
    refine F.q rfl rfl rfl (wanted_none rfl) (r_fieldAddr tf33_1 rfl) ?_
    refine F.q rfl rfl rfl (wanted_none rfl) (r_load ta23 rfl (fun w hw => cell_1 (box_cells (i := 1) rfl w hw) rfl)) ?_
    refine F.q rfl rfl rfl (wanted_none rfl) (r_fieldAddr tf33_1 rfl) ?_
    refine F.q rfl rfl rfl (wanted_none rfl) (r_load ta23 rfl (fun w hw => cell_1 (box_cells (i := 0) rfl w hw) rfl)) ?_
    refine F.qc rfl rfl rfl (wanted_none rfl) (q_callF (xs := _) rfl ok16 rfl rfl (fun w hw => laws_eqIntS.ok h15 w ((fun _ hw => hr_a0_3.sep hw) w hw) ((fun _ hw => hr_a1_3.sep hw) w hw))) ?_
    refine F.q rfl rfl rfl (wanted_none rfl) (r_not rfl) ?_
    refine F.nil ?_
    refine Nrm.seq ?_
    refine Tri.cond (b := !t15) rfl (fun g_2 => ?_) (fun g_2 => ?_)
    · replace h := if_tt g_2 h
      refine Tri.seq ?_
      refine Tri.reg (l := [0]) rfl ?_
      refine F.q rfl rfl rfl (wanted_none rfl) (r_assign rfl) ?_
      refine F.nil ?_
      refine Nrm.seq ?_
      refine Tri.ret ?_
      refine Rtn.then ?_
      cases h
      exact Rtn.body (.tmp rfl .nil) (fun w hw => ⟨rfl, hw.ext⟩)
    · replace h := if_ff g_2 h
      refine Tri.skip ?_
      refine Nrm.seq ?_
      refine Tri.seq ?_
      refine Tri.reg (l := [0]) rfl ?_
      refine F.q rfl rfl rfl (wanted_none rfl) (r_assign rfl) ?_
      refine F.nil ?_
      refine Nrm.seq ?_
      refine Tri.ret ?_
      cases h
      exact Rtn.body (.tmp rfl .nil) (fun w hw => ⟨rfl, hw.ext⟩)

end Go.Proofs

/- loop.example/g01158/laws.markIntS -/

namespace Go.Proofs
open Go Go.Ga
set_option linter.unusedVariables false
set_option maxRecDepth 100000
set_option maxHeartbeats 4000000
def laws_markIntS.l0 (k : Nat) : Nat → (List (Int)) → Int → Int → Option (Int × (List (Int)))
  | 0, _, _, _ => none
  | n + 1, x0, x1, x5 => (if (decide (x5 < (x0.length : Int))) = true then (rdl x0 x5).bind fun t15 => laws_markIntS.l0 k n (x0.set x5.toNat x1) (w64 (x1 + 1)) (w64 (x5 + 1)) else some (x1, x0))

def laws_markIntS.f (k : Nat) (a0 : List Int) (a1 : Int) : Option (Int × (List Int)) := (laws_markIntS.l0 k k a0 a1 0).bind fun (x1, x0) => some (x1, x0)

theorem laws_markIntS.ok {k : Nat}  {a0 : List Int} {a1 : Int} {r0 : Int} {r1 : List Int} (h : laws_markIntS.f k a0 a1 = some (r0, r1)) (w : World) {va0 : Value} {Sa0 : Nat → Prop} (hl_va0 : SlLen va0 a0.length) (hw0 : Sep w (footM [R.sl Sa0 va0 a0]) [R.sl Sa0 va0 a0] w) :
    Calls Try.prog 19 ([va0, .int .i64 a1] : List Value).toArray w (PostM (footM [R.sl Sa0 va0 a0]) (fun u ns => u = .int .i64 r0 ∧ SlLen va0 r1.length ∧ ns = [R.sl Sa0 va0 r1]) w) := by
  unfold laws_markIntS.f at h
  refine Calls.of_tri (N := 19) Try.func19 rfl rfl rfl hw0 ?_
  refine Tri.seq ?_
  refine Tri.reg (l := [0]) rfl ?_
  refine F.q rfl rfl rfl (wanted_none rfl) (r_assign rfl) ?_
  refine F.nil ?_
  refine Nrm.seq ?_
  refine Tri.seq ?_
  refine Tri.seq ?_
  refine Tri.reg (l := [0]) rfl ?_
  refine F.q rfl rfl rfl (wanted_none rfl) (r_assign rfl) ?_
  refine F.nil ?_
  refine Nrm.seq ?_
  obtain ⟨⟨x1, x0⟩, hE_1, h⟩ := bind_some h
  refine Tri.block ?_
  refine Tri.only [0, 1, 5] rfl ?_
  refine Tri.pick [0] rfl rfl ?_
  refine Tri.rounds (fun n e' C' => ∃ (x0' : List (Int)) (x1' : Int) (x5' : Int), laws_markIntS.l0 k n x0' x1' x5' = some (x1, x0) ∧ SlLen va0 (x0').length ∧ e' = [(0, va0), (1, .int .i64 x1'), (5, .int .i64 x5')] ∧ C' = Sep w (footM [R.sl Sa0 va0 a0]) [R.sl Sa0 va0 (x0' : List (Int))]) k ?_ ?_ ?_
  · exact ⟨a0, a1, 0, hE_1, hl_va0, rfl, rfl⟩
  · rintro _ _ ⟨_, _, _, hE_1, _⟩
    rw [laws_markIntS.l0.eq_1] at hE_1; cases hE_1
  · rintro n_1 _ _ ⟨x0, x1, x5, hE_1, hl_x0, rfl, rfl⟩ ih_1
    rw [laws_markIntS.l0.eq_2] at hE_1
    refine Tri.seq ?_
    refine Tri.seq ?_
    refine Tri.reg (l := [0, 1, 2, 3]) rfl ?_
    refine F.q rfl rfl rfl (wanted_none rfl) (r_move rfl) ?_
    refine F.q rfl rfl rfl (wanted_none rfl) (r_move rfl) ?_
    refine F.q rfl rfl rfl (wanted_none rfl) (r_len Try.underlying23 rfl hl_x0) ?_
    refine F.q rfl rfl rfl (wanted_none rfl) (r_lss rfl rfl) ?_
    refine F.nil ?_
    refine Nrm.seq ?_
    refine Tri.cond (b := decide (x5 < (x0.length : Int))) rfl (fun g_1 => ?_) (fun g_1 => ?_)
    · replace hE_1 := if_tt g_1 hE_1
      refine Tri.skip ?_
      refine Nrm.seq ?_
      refine Tri.seq ?_
      refine Tri.block ?_
      refine Tri.seq ?_
      obtain ⟨t15, h15, hE_1⟩ := bind_some hE_1
      refine Tri.reg (l := [0, 1, 2, 3, 4]) rfl ?_
      refine F.q rfl rfl rfl (wanted_none rfl) (r_move rfl) ?_
      refine F.q rfl rfl rfl (wanted_none rfl) (r_move rfl) ?_
      refine F.q rfl rfl rfl (wanted_none rfl) (r_move rfl) ?_
      refine F.q rfl rfl rfl (wanted_none rfl) (r_indexAddrS Try.underlying23 ti3 rfl hl_x0 rfl (rdl_some h15).1 (rdl_some h15).2.1) ?_
      refine F.ef0 rfl rfl (wanted_none rfl) (d_storeE (i := 0) (x1 := x1) ti3 rfl rfl rfl (rdl_some h15) rfl) ?_
      rintro _ _ ⟨rfl, rfl⟩
      refine F.nil ?_
      refine Nrm.seq ?_
      refine Tri.reg (l := [0, 1, 2]) rfl ?_
      refine F.q rfl rfl rfl (wanted_none rfl) (r_move rfl) ?_
      refine F.q rfl rfl rfl (wanted_none rfl) (r_add rfl rfl) ?_
      refine F.q rfl rfl rfl (wanted_none rfl) (r_assign rfl) ?_
      refine F.nil ?_
      refine Nrm.block ?_
      refine Nrm.seq ?_
      refine Tri.reg (l := [0, 1, 2]) rfl ?_
      refine F.q rfl rfl rfl (wanted_none rfl) (r_move rfl) ?_
      refine F.q rfl rfl rfl (wanted_none rfl) (r_add rfl rfl) ?_
      refine F.q rfl rfl rfl (wanted_none rfl) (r_assign rfl) ?_
      refine F.nil ?_
      refine Nrm.round ?_
      refine Rnd.only [0, 1, 5] rfl ?_
      refine Rnd.pick [0] rfl rfl ?_
      exact ih_1 _ _ ⟨x0.set x5.toNat x1, w64 (x1 + 1), w64 (x5 + 1), hE_1, (len_set hl_x0), rfl, rfl⟩
    · replace hE_1 := if_ff g_1 hE_1
      refine Tri.exit ?_
      refine Exi.then ?_
      refine Exi.then ?_
      refine Exi.same ?_
      cases hE_1
      refine Nrm.seq ?_
      refine Tri.seq ?_
      refine Tri.reg (l := [0, 1]) rfl ?_
      refine F.q rfl rfl rfl (wanted_none rfl) (r_move rfl) ?_
      refine F.q rfl rfl rfl (wanted_none rfl) (r_assign rfl) ?_
      refine F.nil ?_
      refine Nrm.seq ?_
      refine Tri.ret ?_
      cases h
      exact Rtn.body (.tmp rfl .nil) (fun w hw => ⟨_, _, rfl, ⟨rfl, hl_x0, rfl⟩, Sep.pick (is := [0]) rfl rfl hw⟩)

end Go.Proofs

/- loop.example/g01158/laws.markIntA3S -/

namespace Go.Proofs
open Go Go.Ga
set_option linter.unusedVariables false
set_option maxRecDepth 100000
set_option maxHeartbeats 4000000
def laws_markIntA3S.l1 (k : Nat) (x5 : Int) : Nat → (List (Int × Int × Int)) → Int → Int → Option ((List (Int × Int × Int)) × Int)
  | 0, _, _, _ => none
  | n + 1, x0r, x1r, x6 => (if (decide (x6 < 3)) = true then (rdl x0r x5).bind fun t21 => (rdl [t21.1, t21.2.1, t21.2.2] x6).bind fun t22 => laws_markIntA3S.l1 k x5 n (x0r.set x5.toNat (if x6 = 0 then x1r else t21.1, if x6 = 1 then x1r else t21.2.1, if x6 = 2 then x1r else t21.2.2)) (w64 (x1r + 1)) (w64 (x6 + 1)) else some (x0r, x1r))

def laws_markIntA3S.l0 (k : Nat) : Nat → (List (Int × Int × Int)) → Int → Int → Option (Int × (List (Int × Int × Int)))
  | 0, _, _, _ => none
  | n + 1, x0, x1, x5 => (if (decide (x5 < (x0.length : Int))) = true then (laws_markIntA3S.l1 k x5 k x0 x1 0).bind fun (x0r, x1r) => laws_markIntA3S.l0 k n x0r x1r (w64 (x5 + 1)) else some (x1, x0))

def laws_markIntA3S.f (k : Nat) (a0 : List (Int × Int × Int)) (a1 : Int) : Option (Int × (List (Int × Int × Int))) := (laws_markIntA3S.l0 k k a0 a1 0).bind fun (x1, x0) => some (x1, x0)

theorem laws_markIntA3S.ok {k : Nat}  {a0 : List (Int × Int × Int)} {a1 : Int} {r0 : Int} {r1 : List (Int × Int × Int)} (h : laws_markIntA3S.f k a0 a1 = some (r0, r1)) (w : World) {va0 : Value} {Sa0 : Nat → Prop} (hl_va0 : SlLen va0 a0.length) (hw0 : Sep w (footM [R.sl Sa0 va0 a0]) [R.sl Sa0 va0 a0] w) :
    Calls Try.prog 72 ([va0, .int .i64 a1] : List Value).toArray w (PostM (footM [R.sl Sa0 va0 a0]) (fun u ns => u = .int .i64 r0 ∧ SlLen va0 r1.length ∧ ns = [R.sl Sa0 va0 r1]) w) := by
  unfold laws_markIntA3S.f at h
  refine Calls.of_tri (N := 26) Try.func72 rfl rfl rfl hw0 ?_
  refine Tri.seq ?_
  refine Tri.reg (l := [0]) rfl ?_
  refine F.q rfl rfl rfl (wanted_none rfl) (r_assign rfl) ?_
  refine F.nil ?_
  refine Nrm.seq ?_
  refine Tri.seq ?_
  refine Tri.seq ?_
  refine Tri.reg (l := [0]) rfl ?_
  refine F.q rfl rfl rfl (wanted_none rfl) (r_assign rfl) ?_
  refine F.nil ?_
  refine Nrm.seq ?_
  obtain ⟨⟨x1, x0⟩, hE_1, h⟩ := bind_some h
  refine Tri.block ?_
  refine Tri.only [0, 1, 5] rfl ?_
  refine Tri.pick [0] rfl rfl ?_
  refine Tri.rounds (fun n e' C' => ∃ (x0' : List (Int × Int × Int)) (x1' : Int) (x5' : Int), laws_markIntA3S.l0 k n x0' x1' x5' = some (x1, x0) ∧ SlLen va0 (x0').length ∧ e' = [(0, va0), (1, .int .i64 x1'), (5, .int .i64 x5')] ∧ C' = Sep w (footM [R.sl Sa0 va0 a0]) [R.sl Sa0 va0 (x0' : List (Int × Int × Int))]) k ?_ ?_ ?_
  · exact ⟨a0, a1, 0, hE_1, hl_va0, rfl, rfl⟩
  · rintro _ _ ⟨_, _, _, hE_1, _⟩
    rw [laws_markIntA3S.l0.eq_1] at hE_1; cases hE_1
  · rintro n_1 _ _ ⟨x0, x1, x5, hE_1, hl_x0, rfl, rfl⟩ ih_1
    rw [laws_markIntA3S.l0.eq_2] at hE_1
    refine Tri.seq ?_
    refine Tri.seq ?_
    refine Tri.reg (l := [0, 1, 2, 3]) rfl ?_
    refine F.q rfl rfl rfl (wanted_none rfl) (r_move rfl) ?_
    refine F.q rfl rfl rfl (wanted_none rfl) (r_move rfl) ?_
    refine F.q rfl rfl rfl (wanted_none rfl) (r_len Try.underlying22 rfl hl_x0) ?_
    refine F.q rfl rfl rfl (wanted_none rfl) (r_lss rfl rfl) ?_
    refine F.nil ?_
    refine Nrm.seq ?_
    refine Tri.cond (b := decide (x5 < (x0.length : Int))) rfl (fun g_1 => ?_) (fun g_1 => ?_)
    · replace hE_1 := if_tt g_1 hE_1
      refine Tri.skip ?_
      refine Nrm.seq ?_
      refine Tri.seq ?_
      refine Tri.block ?_
      refine Tri.seq ?_
      refine Tri.reg (l := [0]) rfl ?_
      refine F.q rfl rfl rfl (wanted_none rfl) (r_assign rfl) ?_
      refine F.nil ?_
      refine Nrm.seq ?_
      obtain ⟨⟨x0r, x1r⟩, hE_2, hE_1⟩ := bind_some hE_1
      refine Tri.block ?_
      refine Tri.only [0, 1, 5, 6] rfl ?_
      refine Tri.pick [0] rfl rfl ?_
      refine Tri.rounds (fun n e' C' => ∃ (x0r' : List (Int × Int × Int)) (x1r' : Int) (x6' : Int), laws_markIntA3S.l1 k x5 n x0r' x1r' x6' = some (x0r, x1r) ∧ SlLen va0 (x0r').length ∧ e' = [(0, va0), (1, .int .i64 x1r'), (5, .int .i64 x5), (6, .int .i64 x6')] ∧ C' = Sep w (footM [R.sl Sa0 va0 a0]) [R.sl Sa0 va0 (x0r' : List (Int × Int × Int))]) k ?_ ?_ ?_
      · exact ⟨x0, x1, 0, hE_2, hl_x0, rfl, rfl⟩
      · rintro _ _ ⟨_, _, _, hE_2, _⟩
        rw [laws_markIntA3S.l1.eq_1] at hE_2; cases hE_2
      · rintro n_2 _ _ ⟨x0r, x1r, x6, hE_2, hl_x0r, rfl, rfl⟩ ih_2
        rw [laws_markIntA3S.l1.eq_2] at hE_2
        refine Tri.seq ?_
        refine Tri.seq ?_
        refine Tri.reg (l := [0, 1]) rfl ?_
        refine F.q rfl rfl rfl (wanted_none rfl) (r_move rfl) ?_
        refine F.q rfl rfl rfl (wanted_none rfl) (r_lss rfl rfl) ?_
        refine F.nil ?_
        refine Nrm.seq ?_
        refine Tri.cond (b := decide (x6 < 3)) rfl (fun g_2 => ?_) (fun g_2 => ?_)
        · replace hE_2 := if_tt g_2 hE_2
          refine Tri.skip ?_
          refine Nrm.seq ?_
          refine Tri.seq ?_
          refine Tri.block ?_
          refine Tri.seq ?_
          obtain ⟨t21, h21, hE_2⟩ := bind_some hE_2
          obtain ⟨t22, h22, hE_2⟩ := bind_some hE_2
          refine Tri.reg (l := [0, 1, 2, 3, 4, 5, 6]) rfl ?_
          refine F.q rfl rfl rfl (wanted_none rfl) (r_move rfl) ?_
          refine F.q rfl rfl rfl (wanted_none rfl) (r_move rfl) ?_
          refine F.q rfl rfl rfl (wanted_none rfl) (r_move rfl) ?_
          refine F.q rfl rfl rfl (wanted_none rfl) (r_move rfl) ?_
          refine F.q rfl rfl rfl (wanted_none rfl) (r_indexAddrS Try.underlying22 ti116 rfl hl_x0r rfl (rdl_some h21).1 (rdl_some h21).2.1) ?_
          refine F.q rfl rfl rfl (wanted_none rfl) (r_indexAddrA Try.underlying116 ti3 rfl rfl (rdl_some h22).1 (rdl_some h22).2.1) ?_
          refine F.ef0 rfl rfl (wanted_none rfl) (d_storeP (i := 0) (k := (x6.toNat * 1)) (x0 := t21) (x1 := (if x6 = 0 then x1r else t21.1, if x6 = 1 then x1r else t21.2.1, if x6 = 2 then x1r else t21.2.2)) ti3 rfl rfl rfl (rdl_some h21) rfl (dlt (rdl_some h22).1 (rdl_some h22).2.1) (setV3 (rdl_some h22).1 (rdl_some h22).2.1) rfl) ?_
          rintro _ _ ⟨rfl, rfl⟩
          refine F.nil ?_
          refine Nrm.seq ?_
          refine Tri.reg (l := [0, 1, 2]) rfl ?_
          refine F.q rfl rfl rfl (wanted_none rfl) (r_move rfl) ?_
          refine F.q rfl rfl rfl (wanted_none rfl) (r_add rfl rfl) ?_
          refine F.q rfl rfl rfl (wanted_none rfl) (r_assign rfl) ?_
          refine F.nil ?_
          refine Nrm.block ?_
          refine Nrm.seq ?_
          refine Tri.reg (l := [0, 1, 2]) rfl ?_
          refine F.q rfl rfl rfl (wanted_none rfl) (r_move rfl) ?_
          refine F.q rfl rfl rfl (wanted_none rfl) (r_add rfl rfl) ?_
          refine F.q rfl rfl rfl (wanted_none rfl) (r_assign rfl) ?_
          refine F.nil ?_
          refine Nrm.round ?_
          refine Rnd.only [0, 1, 5, 6] rfl ?_
          refine Rnd.pick [0] rfl rfl ?_
          exact ih_2 _ _ ⟨x0r.set x5.toNat (if x6 = 0 then x1r else t21.1, if x6 = 1 then x1r else t21.2.1, if x6 = 2 then x1r else t21.2.2), w64 (x1r + 1), w64 (x6 + 1), hE_2, (len_set hl_x0r), rfl, rfl⟩
        · replace hE_2 := if_ff g_2 hE_2
          refine Tri.exit ?_
          refine Exi.then ?_
          refine Exi.then ?_
          refine Exi.same ?_
          cases hE_2
          refine Nrm.block ?_
          refine Nrm.seq ?_
          refine Tri.reg (l := [0, 1, 2]) rfl ?_
          refine F.q rfl rfl rfl (wanted_none rfl) (r_move rfl) ?_
          refine F.q rfl rfl rfl (wanted_none rfl) (r_add rfl rfl) ?_
          refine F.q rfl rfl rfl (wanted_none rfl) (r_assign rfl) ?_
          refine F.nil ?_
          refine Nrm.round ?_
          refine Rnd.only [0, 1, 5] rfl ?_
          refine Rnd.pick [0] rfl rfl ?_
          exact ih_1 _ _ ⟨x0r, x1r, w64 (x5 + 1), hE_1, hl_x0r, rfl, rfl⟩
    · replace hE_1 := if_ff g_1 hE_1
      refine Tri.exit ?_
      refine Exi.then ?_
      refine Exi.then ?_
      refine Exi.same ?_
      cases hE_1
      refine Nrm.seq ?_
      refine Tri.seq ?_
      refine Tri.reg (l := [0, 1]) rfl ?_
      refine F.q rfl rfl rfl (wanted_none rfl) (r_move rfl) ?_
      refine F.q rfl rfl rfl (wanted_none rfl) (r_assign rfl) ?_
      refine F.nil ?_
      refine Nrm.seq ?_
      refine Tri.ret ?_
      cases h
      exact Rtn.body (.tmp rfl .nil) (fun w hw => ⟨_, _, rfl, ⟨rfl, hl_x0, rfl⟩, Sep.pick (is := [0]) rfl rfl hw⟩)

end Go.Proofs

/- loop.example/g01158/laws.markMaze -/
namespace Go.Proofs
open Go Go.Ga
set_option linter.unusedVariables false
set_option maxRecDepth 100000
set_option maxHeartbeats 4000000
def laws_markMaze.f (k : Nat) (a0_0 : Int) (a0_1 : List (Int × Int × Int)) (a0_2 : List Int) (a1 : Int) : Option (Int × (List (Int × Int × Int)) × (List Int)) := (laws_markIntA3S.f k a0_1 a1).bind fun (t8_1, t8_2) => (laws_markIntS.f k a0_2 t8_1).bind fun (t12_1, t12_2) => some (t12_1, t8_2, t12_2)

theorem laws_markMaze.ok {k : Nat}  {a0_0 : Int} {a0_1 : List (Int × Int × Int)} {a0_2 : List Int} {a1 : Int} {r0 : Int} {r1 : List (Int × Int × Int)} {r2 : List Int} (h : laws_markMaze.f k a0_0 a0_1 a0_2 a1 = some (r0, r1, r2)) (w : World) {va0_1 : Value} {Sa0_1 : Nat → Prop} (hl_va0_1 : SlLen va0_1 a0_1.length) {va0_2 : Value} {Sa0_2 : Nat → Prop} (hl_va0_2 : SlLen va0_2 a0_2.length) (hw0 : Sep w (footM [R.sl Sa0_1 va0_1 a0_1, R.sl Sa0_2 va0_2 a0_2]) [R.sl Sa0_1 va0_1 a0_1, R.sl Sa0_2 va0_2 a0_2] w) :
    Calls Try.prog 28 ([.agg ([.int .i64 a0_0, va0_1, va0_2].toArray), .int .i64 a1] : List Value).toArray w (PostM (footM [R.sl Sa0_1 va0_1 a0_1, R.sl Sa0_2 va0_2 a0_2]) (fun u ns => u = .int .i64 r0 ∧ SlLen va0_1 r1.length ∧ SlLen va0_2 r2.length ∧ ns = [R.sl Sa0_1 va0_1 r1, R.sl Sa0_2 va0_2 r2]) w) := by
  unfold laws_markMaze.f at h
  refine Calls.of_tri (N := 14) Try.func28 rfl rfl rfl hw0 ?_
  refine Tri.seq ?_
  refine Tri.reg (l := [0, 1]) rfl ?_
  refine F.m rfl rfl rfl (wanted_none rfl) (m_boxG rfl rfl) ?_
  rintro _ _ ⟨b2_1, rfl, rfl⟩
  refine F.q rfl rfl rfl (wanted_none rfl) (r_assign rfl) ?_
  refine F.nil ?_
  refine Nrm.seq ?_
  refine Tri.seq ?_
  obtain ⟨⟨t8_1, t8_2⟩, h8, h⟩ := bind_some h
  refine Tri.reg (l := [0, 1, 2, 3, 4]) rfl ?_
  refine F.q rfl rfl rfl (wanted_none rfl) (r_fieldAddr tf31_1 rfl) ?_
  refine F.q rfl rfl rfl (wanted_none rfl) (r_load ta22 rfl (fun w hw => cell_1 (box_cells (i := 0) rfl w hw) rfl)) ?_
  refine F.q rfl rfl rfl (wanted_none rfl) (r_move rfl) ?_
  refine F.ef rfl rfl rfl (wanted_none rfl) (d_callM (xs := _) (cs := [R.sl Sa0_1 va0_1 (a0_1 : List (Int × Int × Int))]) (rest := [R.box b2_1 31 [.int .i64 a0_0, va0_1, va0_2], R.sl Sa0_2 va0_2 (a0_2 : List (Int))]) [1] [0, 2] rfl ok72 rfl rfl rfl rfl (fun w hw => laws_markIntA3S.ok h8 w hl_va0_1 (Sep.sub hw))) ?_
  rintro _ _ ⟨_, ⟨rfl, hl_t8_2, rfl⟩, rfl⟩
  refine F.q rfl rfl rfl (wanted_none rfl) (r_assign rfl) ?_
  refine F.nil ?_
  refine Nrm.seq ?_
  refine Tri.seq ?_
  obtain ⟨⟨t12_1, t12_2⟩, h12, h⟩ := bind_some h
  refine Tri.reg (l := [0, 1, 2, 3, 4]) rfl ?_
  refine F.q rfl rfl rfl (wanted_none rfl) (r_fieldAddr tf31_2 rfl) ?_
  refine F.q rfl rfl rfl (wanted_none rfl) (r_load ta23 rfl (fun w hw => cell_1 (box_cells (i := 1) rfl w hw) rfl)) ?_
  refine F.q rfl rfl rfl (wanted_none rfl) (r_move rfl) ?_
  refine F.ef rfl rfl rfl (wanted_none rfl) (d_callM (xs := _) (cs := [R.sl Sa0_2 va0_2 (a0_2 : List (Int))]) (rest := [R.sl Sa0_1 va0_1 (t8_2 : List (Int × Int × Int)), R.box b2_1 31 [.int .i64 a0_0, va0_1, va0_2]]) [2] [0, 1] rfl ok19 rfl rfl rfl rfl (fun w hw => laws_markIntS.ok h12 w hl_va0_2 (Sep.sub hw))) ?_
  rintro _ _ ⟨_, ⟨rfl, hl_t12_2, rfl⟩, rfl⟩
  refine F.q rfl rfl rfl (wanted_none rfl) (r_assign rfl) ?_
  refine F.nil ?_
  refine Nrm.seq ?_
  refine Tri.seq ?_
  refine Tri.reg (l := [0, 1]) rfl ?_
  refine F.q rfl rfl rfl (wanted_none rfl) (r_move rfl) ?_
  refine F.q rfl rfl rfl (wanted_none rfl) (r_assign rfl) ?_
  refine F.nil ?_
  refine Nrm.seq ?_
  refine Tri.ret ?_
  cases h
  exact Rtn.body (.tmp rfl .nil) (fun w hw => ⟨_, _, rfl, ⟨rfl, hl_t8_2, hl_t12_2, rfl⟩, Sep.pick (is := [1, 0]) rfl rfl hw⟩)

end Go.Proofs

/- loop.example/g01158/laws.markTrap -/
namespace Go.Proofs
open Go Go.Ga
set_option linter.unusedVariables false
set_option maxRecDepth 100000
set_option maxHeartbeats 4000000
def laws_markTrap.f (k : Nat) (a0_0 : Int) (a0_1 : List (Int × Int × Int)) (a0_2 : List Int) (a0_3 : List Int) (a1 : Int) : Option (Int × (List (Int × Int × Int)) × (List Int) × (List Int)) := (laws_markMaze.f k a0_0 a0_1 a0_2 a1).bind fun (t8_1, t8_2, t8_3) => (laws_markIntS.f k a0_3 t8_1).bind fun (t12_1, t12_2) => some (t12_1, t8_2, t8_3, t12_2)

theorem laws_markTrap.ok {k : Nat}  {a0_0 : Int} {a0_1 : List (Int × Int × Int)} {a0_2 : List Int} {a0_3 : List Int} {a1 : Int} {r0 : Int} {r1 : List (Int × Int × Int)} {r2 : List Int} {r3 : List Int} (h : laws_markTrap.f k a0_0 a0_1 a0_2 a0_3 a1 = some (r0, r1, r2, r3)) (w : World) {va0_1 : Value} {Sa0_1 : Nat → Prop} (hl_va0_1 : SlLen va0_1 a0_1.length) {va0_2 : Value} {Sa0_2 : Nat → Prop} (hl_va0_2 : SlLen va0_2 a0_2.length) {va0_3 : Value} {Sa0_3 : Nat → Prop} (hl_va0_3 : SlLen va0_3 a0_3.length) (hw0 : Sep w (footM [R.sl Sa0_1 va0_1 a0_1, R.sl Sa0_2 va0_2 a0_2, R.sl Sa0_3 va0_3 a0_3]) [R.sl Sa0_1 va0_1 a0_1, R.sl Sa0_2 va0_2 a0_2, R.sl Sa0_3 va0_3 a0_3] w) :
    Calls Try.prog 18 ([.agg ([.int .i64 a0_0, va0_1, va0_2, va0_3].toArray), .int .i64 a1] : List Value).toArray w (PostM (footM [R.sl Sa0_1 va0_1 a0_1, R.sl Sa0_2 va0_2 a0_2, R.sl Sa0_3 va0_3 a0_3]) (fun u ns => u = .int .i64 r0 ∧ SlLen va0_1 r1.length ∧ SlLen va0_2 r2.length ∧ SlLen va0_3 r3.length ∧ ns = [R.sl Sa0_1 va0_1 r1, R.sl Sa0_2 va0_2 r2, R.sl Sa0_3 va0_3 r3]) w) := by
  unfold laws_markTrap.f at h
  refine Calls.of_tri (N := 14) Try.func18 rfl rfl rfl hw0 ?_
  refine Tri.seq ?_
  refine Tri.reg (l := [0, 1]) rfl ?_
  refine F.m rfl rfl rfl (wanted_none rfl) (m_boxG rfl rfl) ?_
  rintro _ _ ⟨b2_1, rfl, rfl⟩
  refine F.q rfl rfl rfl (wanted_none rfl) (r_assign rfl) ?_
  refine F.nil ?_
  refine Nrm.seq ?_
  refine Tri.seq ?_
  obtain ⟨⟨t8_1, t8_2, t8_3⟩, h8, h⟩ := bind_some h
  refine Tri.reg (l := [0, 1, 2, 3, 4]) rfl ?_
  refine F.q rfl rfl rfl (wanted_none rfl) (r_fieldAddr tf33_0 rfl) ?_
  refine F.q rfl rfl rfl (wanted_none rfl) (r_loadA ta31 ti31 rfl rfl (fun w hw => cells_1 (cs' := [.int .i64 a0_0, va0_1, va0_2]) (box_cells (i := 0) rfl w hw) rfl)) ?_
  refine F.q rfl rfl rfl (wanted_none rfl) (r_move rfl) ?_
  refine F.ef rfl rfl rfl (wanted_none rfl) (d_callM (xs := _) (cs := [R.sl Sa0_1 va0_1 (a0_1 : List (Int × Int × Int)), R.sl Sa0_2 va0_2 (a0_2 : List (Int))]) (rest := [R.box b2_1 33 [.int .i64 a0_0, va0_1, va0_2, va0_3], R.sl Sa0_3 va0_3 (a0_3 : List (Int))]) [1, 2] [0, 3] rfl ok28 rfl rfl rfl rfl (fun w hw => laws_markMaze.ok h8 w hl_va0_1 hl_va0_2 (Sep.sub hw))) ?_
  rintro _ _ ⟨_, ⟨rfl, hl_t8_2, hl_t8_3, rfl⟩, rfl⟩
  refine F.q rfl rfl rfl (wanted_none rfl) (r_assign rfl) ?_
  refine F.nil ?_
  refine Nrm.seq ?_
  refine Tri.seq ?_
  obtain ⟨⟨t12_1, t12_2⟩, h12, h⟩ := bind_some h
  refine Tri.reg (l := [0, 1, 2, 3, 4]) rfl ?_
  refine F.q rfl rfl rfl (wanted_none rfl) (r_fieldAddr tf33_1 rfl) ?_
  refine F.q rfl rfl rfl (wanted_none rfl) (r_load ta23 rfl (fun w hw => cell_1 (box_cells (i := 2) rfl w hw) rfl)) ?_
  refine F.q rfl rfl rfl (wanted_none rfl) (r_move rfl) ?_
  refine F.ef rfl rfl rfl (wanted_none rfl) (d_callM (xs := _) (cs := [R.sl Sa0_3 va0_3 (a0_3 : List (Int))]) (rest := [R.sl Sa0_1 va0_1 (t8_2 : List (Int × Int × Int)), R.sl Sa0_2 va0_2 (t8_3 : List (Int)), R.box b2_1 33 [.int .i64 a0_0, va0_1, va0_2, va0_3]]) [3] [0, 1, 2] rfl ok19 rfl rfl rfl rfl (fun w hw => laws_markIntS.ok h12 w hl_va0_3 (Sep.sub hw))) ?_
  rintro _ _ ⟨_, ⟨rfl, hl_t12_2, rfl⟩, rfl⟩
  refine F.q rfl rfl rfl (wanted_none rfl) (r_assign rfl) ?_
  refine F.nil ?_
  refine Nrm.seq ?_
  refine Tri.seq ?_
  refine Tri.reg (l := [0, 1]) rfl ?_
  refine F.q rfl rfl rfl (wanted_none rfl) (r_move rfl) ?_
  refine F.q rfl rfl rfl (wanted_none rfl) (r_assign rfl) ?_
  refine F.nil ?_
  refine Nrm.seq ?_
  refine Tri.ret ?_
  cases h
  exact Rtn.body (.tmp rfl .nil) (fun w hw => ⟨_, _, rfl, ⟨rfl, hl_t8_2, hl_t8_3, hl_t12_2, rfl⟩, Sep.pick (is := [1, 2, 0]) rfl rfl hw⟩)

end Go.Proofs

/- loop.example/g01158/laws.heldIntS -/

namespace Go.Proofs
open Go Go.Ga
set_option linter.unusedVariables false
set_option maxRecDepth 100000
set_option maxHeartbeats 4000000
def laws_heldIntS.l0 (k : Nat) (a0 : List Int) : Nat → Int → Int → Option ((Int) ⊕ (Int))
  | 0, _, _ => none
  | n + 1, x1, x5 => (if (decide (x5 < (a0.length : Int))) = true then (rdl a0 x5).bind fun t14 => (if (t14 != x1) = true then some (Sum.inr (-1)) else laws_heldIntS.l0 k a0 n (w64 (x1 + 1)) (w64 (x5 + 1))) else some (Sum.inl x1))

def laws_heldIntS.f (k : Nat) (a0 : List Int) (a1 : Int) : Option (Int) := (laws_heldIntS.l0 k a0 k a1 0).bind fun s => Lr s some fun x1 => some x1

theorem laws_heldIntS.ok {k : Nat}  {a0 : List Int} {a1 : Int} {r0 : Int} (h : laws_heldIntS.f k a0 a1 = some r0) (w : World) {va0 : Value} (hr_a0 : Rd w va0 a0) :
    Calls Try.prog 20 ([va0, .int .i64 a1] : List Value).toArray w (fun e w' => e = .returned (.int .i64 r0) ∧ Ext w w') := by
  unfold laws_heldIntS.f at h
  have hl_va0 := hr_a0.len
  refine Calls.of_tri (N := 21) Try.func20 rfl rfl rfl (Sep.nil (M := noM)) ?_
  refine Tri.seq ?_
  refine Tri.reg (l := [0]) rfl ?_
  refine F.q rfl rfl rfl (wanted_none rfl) (r_assign rfl) ?_
  refine F.nil ?_
  refine Nrm.seq ?_
  refine Tri.seq ?_
  refine Tri.seq ?_
  refine Tri.reg (l := [0]) rfl ?_
  refine F.q rfl rfl rfl (wanted_none rfl) (r_assign rfl) ?_
  refine F.nil ?_
  refine Nrm.seq ?_
  obtain ⟨s0, hE_1, h⟩ := bind_some h
  refine Tri.block ?_
  refine Tri.only [0, 1, 5] rfl ?_
  refine Tri.pick [] rfl rfl ?_
  refine Tri.rounds (fun n e' C' => ∃ (x1' : Int) (x5' : Int), laws_heldIntS.l0 k a0 n x1' x5' = some s0 ∧ e' = [(0, va0), (1, .int .i64 x1'), (5, .int .i64 x5')] ∧ C' = Sep w noM []) k ?_ ?_ ?_
  · exact ⟨a1, 0, hE_1, rfl, rfl⟩
  · rintro _ _ ⟨_, _, hE_1, _⟩
    rw [laws_heldIntS.l0.eq_1] at hE_1; cases hE_1
  · rintro n_1 _ _ ⟨x1, x5, hE_1, rfl, rfl⟩ ih_1
    rw [laws_heldIntS.l0.eq_2] at hE_1
    refine Tri.seq ?_
    refine Tri.seq ?_
    refine Tri.reg (l := [0, 1, 2, 3]) rfl ?_
    refine F.q rfl rfl rfl (wanted_none rfl) (r_move rfl) ?_
    refine F.q rfl rfl rfl (wanted_none rfl) (r_move rfl) ?_
    refine F.q rfl rfl rfl (wanted_none rfl) (r_len Try.underlying23 rfl hl_va0) ?_
    refine F.q rfl rfl rfl (wanted_none rfl) (r_lss rfl rfl) ?_
    refine F.nil ?_
    refine Nrm.seq ?_
    refine Tri.cond (b := decide (x5 < (a0.length : Int))) rfl (fun g_1 => ?_) (fun g_1 => ?_)
    · replace hE_1 := if_tt g_1 hE_1
      refine Tri.skip ?_
      refine Nrm.seq ?_
      refine Tri.seq ?_
      refine Tri.block ?_
      refine Tri.seq ?_
      refine Tri.seq ?_
      obtain ⟨t14, h14, hE_1⟩ := bind_some hE_1
      refine Tri.reg (l := [0, 1, 2, 3, 4, 5]) rfl ?_
      refine F.q rfl rfl rfl (wanted_none rfl) (r_move rfl) ?_
      refine F.q rfl rfl rfl (wanted_none rfl) (r_move rfl) ?_
      refine F.q rfl rfl rfl (wanted_none rfl) (r_indexAddrS Try.underlying23 ti3 rfl hl_va0 rfl (rdl_some h14).1 (rdl_some h14).2.1) ?_
      refine F.q rfl rfl rfl (wanted_none rfl) (r_load ta3 rfl (fun w hw => cell_0 (Rd.flat ((fun _ hw => hr_a0.sep hw) w hw) (rdl_some h14).2.2) rfl)) ?_
      refine F.q rfl rfl rfl (wanted_none rfl) (r_move rfl) ?_
      refine F.q rfl rfl rfl (wanted_none rfl) (r_neq rfl rfl) ?_
      refine F.nil ?_
      refine Nrm.seq ?_
      refine Tri.cond (b := t14 != x1) rfl (fun g_2 => ?_) (fun g_2 => ?_)
      · replace hE_1 := if_tt g_2 hE_1
        refine Tri.seq ?_
        refine Tri.reg (l := [0]) rfl ?_
        refine F.q rfl rfl rfl (wanted_none rfl) (r_assign rfl) ?_
        refine F.nil ?_
        refine Nrm.seq ?_
        refine Tri.ret ?_
        refine Rtn.then ?_
        refine Rtn.block ?_
        refine Rtn.then ?_
        refine Rtn.then ?_
        refine Rtn.block ?_
        refine Rtn.then ?_
        cases hE_1
        replace h := Lr_inr h
        cases h
        exact Rtn.body (.tmp rfl .nil) (fun w hw => ⟨rfl, hw.ext⟩)
      · replace hE_1 := if_ff g_2 hE_1
        refine Tri.skip ?_
        refine Nrm.seq ?_
        refine Tri.reg (l := [0, 1, 2]) rfl ?_
        refine F.q rfl rfl rfl (wanted_none rfl) (r_move rfl) ?_
        refine F.q rfl rfl rfl (wanted_none rfl) (r_add rfl rfl) ?_
        refine F.q rfl rfl rfl (wanted_none rfl) (r_assign rfl) ?_
        refine F.nil ?_
        refine Nrm.block ?_
        refine Nrm.seq ?_
        refine Tri.reg (l := [0, 1, 2]) rfl ?_
        refine F.q rfl rfl rfl (wanted_none rfl) (r_move rfl) ?_
        refine F.q rfl rfl rfl (wanted_none rfl) (r_add rfl rfl) ?_
        refine F.q rfl rfl rfl (wanted_none rfl) (r_assign rfl) ?_
        refine F.nil ?_
        refine Nrm.round ?_
        refine Rnd.only [0, 1, 5] rfl ?_
        refine Rnd.pick [] rfl rfl ?_
        exact ih_1 _ _ ⟨w64 (x1 + 1), w64 (x5 + 1), hE_1, rfl, rfl⟩
    · replace hE_1 := if_ff g_1 hE_1
      refine Tri.exit ?_
      refine Exi.then ?_
      refine Exi.then ?_
      refine Exi.same ?_
      cases hE_1
      replace h := Lr_inl h
      refine Nrm.seq ?_
      refine Tri.seq ?_
      refine Tri.reg (l := [0, 1]) rfl ?_
      refine F.q rfl rfl rfl (wanted_none rfl) (r_move rfl) ?_
      refine F.q rfl rfl rfl (wanted_none rfl) (r_assign rfl) ?_
      refine F.nil ?_
      refine Nrm.seq ?_
      refine Tri.ret ?_
      cases h
      exact Rtn.body (.tmp rfl .nil) (fun w hw => ⟨rfl, hw.ext⟩)

end Go.Proofs

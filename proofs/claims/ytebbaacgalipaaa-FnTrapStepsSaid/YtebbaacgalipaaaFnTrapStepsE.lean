/- A part of the proof of FnTrapSteps: what the functions of the program compute, walked on the model. No condition. -/
import Derived.Test.YtebbaacgalipaaaFnTrapStepsC
import Derived.Test.YtebbaacgalipaaaFnTrapStepsD
set_option linter.unusedSimpArgs false
/- loop.example/g01158/impl.trapTo -/
namespace Go.Proofs
open Go Go.Ga
set_option linter.unusedVariables false
set_option maxRecDepth 100000
set_option maxHeartbeats 4000000
def impl_trapTo.l1 (k : Nat) (a0_0 : Int) (a1 : (Int → Int → Option (Bool))) (x15 : Int) : Nat → Int → (Arr 768) → Option ((Arr 768))
 | 0, _, _ => none
 | n + 1, x18, xb5_1_0r => (if (decide (x18 < 64)) = true then if 0 ≤ x15 ∧ x15 < 12 then if 0 ≤ x18 ∧ x18 < 64 then ((if (decide (x15 < a0_0)) = true then (a1 x15 x18).bind fun t34 => some t34 else some false)).bind fun y35 => ((if y35 = true then if 0 ≤ x15 ∧ x15 < 12 then if 0 ≤ x18 ∧ x18 < 64 then some (Arr.put (Arr.put xb5_1_0r (x15 * 64 + x18) (-1)) (x15 * 64 + x18) 0) else none else none else some (Arr.put xb5_1_0r (x15 * 64 + x18) (-1)))).bind fun yb5_1_0 => impl_trapTo.l1 k a0_0 a1 x15 n (w64 (x18 + 1)) yb5_1_0 else none else none else some xb5_1_0r)

def impl_trapTo.l5 (k : Nat) (a0_2 : List Int) (x46 : Int) (x49 : Int) (t56 : List Int) : Nat → Bool → Int → (Arr 768) → Option ((Arr 768) × Bool)
 | 0, _, _, _ => none
 | n + 1, x8rrr, x58, xb5_1_0rrrrr => (if (decide (x58 < (t56.length : Int))) = true then (rdl t56 x58).bind fun t60 => (rdl a0_2 t60).bind fun t68 => if 0 ≤ t60 ∧ t60 < 12 then if 0 ≤ bor x49 t68 ∧ bor x49 t68 < 64 then ((if (decide ((Arr.at xb5_1_0rrrrr (t60 * 64 + (bor x49 t68))) ≥ 0)) = true then if 0 ≤ x46 ∧ x46 < 12 then if 0 ≤ x49 ∧ x49 < 64 then (impl_better.f k (w64 ((Arr.at xb5_1_0rrrrr (t60 * 64 + (bor x49 t68))) + 1)) (Arr.at xb5_1_0rrrrr (x46 * 64 + x49))).bind fun t84 => some t84 else none else none else some false)).bind fun y85 => ((if y85 = true then if 0 ≤ x46 ∧ x46 < 12 then if 0 ≤ x49 ∧ x49 < 64 then some (true, (Arr.put xb5_1_0rrrrr (x46 * 64 + x49) (w64 ((Arr.at xb5_1_0rrrrr (t60 * 64 + (bor x49 t68))) + 1)))) else none else none else some (x8rrr, xb5_1_0rrrrr))).bind fun (y8, yb5_1_0r) => impl_trapTo.l5 k a0_2 x46 x49 t56 n y8 (w64 (x58 + 1)) yb5_1_0r else none else none else some (xb5_1_0rrrrr, x8rrr))

def impl_trapTo.l4 (k : Nat) (a0_0 : Int) (a0_1 : List (Int × Int × Int)) (a0_2 : List Int) (a0_3 : List Int) (x46 : Int) : Nat → Bool → Int → (Arr 768) → Option ((Arr 768) × Bool)
 | 0, _, _, _ => none
 | n + 1, x8rr, x49, xb5_1_0rrrr => (if (decide (x49 < 64)) = true then (impl_trapSteps.f k a0_0 a0_1 a0_2 a0_3 x46 x49).bind fun t55 => (impl_members.f k t55).bind fun t56 => (impl_trapTo.l5 k a0_2 x46 x49 t56 k x8rr 0 xb5_1_0rrrr).bind fun (xb5_1_0rrrrr, x8rrr) => impl_trapTo.l4 k a0_0 a0_1 a0_2 a0_3 x46 n x8rrr (w64 (x49 + 1)) xb5_1_0rrrrr else some (xb5_1_0rrrr, x8rr))

def impl_trapTo.l3 (k : Nat) (a0_0 : Int) (a0_1 : List (Int × Int × Int)) (a0_2 : List Int) (a0_3 : List Int) : Nat → Bool → Int → (Arr 768) → Option ((Arr 768) × Bool)
 | 0, _, _, _ => none
 | n + 1, x8r, x46, xb5_1_0rrr => (if (decide (x46 < a0_0)) = true then (impl_trapTo.l4 k a0_0 a0_1 a0_2 a0_3 x46 k x8r 0 xb5_1_0rrr).bind fun (xb5_1_0rrrr, x8rr) => impl_trapTo.l3 k a0_0 a0_1 a0_2 a0_3 n x8rr (w64 (x46 + 1)) xb5_1_0rrrr else some (xb5_1_0rrr, x8r))

def impl_trapTo.l2 (k : Nat) (a0_0 : Int) (a0_1 : List (Int × Int × Int)) (a0_2 : List Int) (a0_3 : List Int) : Nat → Bool → (Arr 768) → Option ((Arr 768))
 | 0, _, _ => none
 | n + 1, x8, xb5_1_0rr => (if x8 = true then (impl_trapTo.l3 k a0_0 a0_1 a0_2 a0_3 k false 0 xb5_1_0rr).bind fun (xb5_1_0rrr, x8r) => impl_trapTo.l2 k a0_0 a0_1 a0_2 a0_3 n x8r xb5_1_0rrr else some xb5_1_0rr)

def impl_trapTo.l0 (k : Nat) (a0_0 : Int) (a1 : (Int → Int → Option (Bool))) : Nat → Int → (Arr 768) → Option ((Arr 768))
 | 0, _, _ => none
 | n + 1, x15, xb5_1_0 => (if (decide (x15 < 12)) = true then (impl_trapTo.l1 k a0_0 a1 x15 k 0 xb5_1_0).bind fun xb5_1_0r => impl_trapTo.l0 k a0_0 a1 n (w64 (x15 + 1)) xb5_1_0r else some xb5_1_0)

def impl_trapTo.f (k : Nat) (a0_0 : Int) (a0_1 : List (Int × Int × Int)) (a0_2 : List Int) (a0_3 : List Int) (a1 : (Int → Int → Option (Bool))) : Option ((Arr 768)) := (impl_trapTo.l0 k a0_0 a1 k 0 (Arr.rep 768 0)).bind fun xb5_1_0 => (impl_trapTo.l2 k a0_0 a0_1 a0_2 a0_3 k true xb5_1_0).bind fun xb5_1_0rr => some xb5_1_0rr

theorem impl_trapTo.ok {k : Nat}  {a0_0 : Int} {a0_1 : List (Int × Int × Int)} {a0_2 : List Int} {a0_3 : List Int} {a1 : (Int → Int → Option (Bool))} {r0 : Arr 768} (h : impl_trapTo.f k a0_0 a0_1 a0_2 a0_3 a1 = some r0) (w : World) {va0_1 : Value} {va0_2 : Value} {va0_3 : Value} (hr_a0_1 : Rd w va0_1 a0_1) (hr_a0_2 : Rd w va0_2 a0_2) (hr_a0_3 : Rd w va0_3 a0_3) {fi_a1 : FuncId} {ca_a1 : Array Value} (ho_a1 : CallOk Try.prog fi_a1) (hf_a1 : ∀ w2, Ext w w2 → ∀ (z0 : Int) (z1 : Int) (y : Bool), a1 z0 z1 = some y → Calls Try.prog fi_a1 (([.int .i64 z0, .int .i64 z1] : List Value) ++ ca_a1.toList).toArray w2 (fun e w3 => e = .returned (.bool y) ∧ Ext w2 w3)) :
  Calls Try.prog 186 ([.agg ([.int .i64 a0_0, va0_1, va0_2, va0_3].toArray), .func (.func fi_a1) #[] ca_a1] : List Value).toArray w (fun e w' => e = .returned (.agg (encA r0).toArray) ∧ Ext w w') := by
 unfold impl_trapTo.f at h
 have hl_va0_1 := hr_a0_1.len
 have hl_va0_2 := hr_a0_2.len
 have hl_va0_3 := hr_a0_3.len
 refine Calls.of_tri (N := 96) Try.func186 rfl rfl rfl (Sep.nil (M := noM)) ?_
 refine Tri.seq (Tri.reg (l := [0, 1]) rfl ?_)
 refine F.mn rfl rfl rfl rfl (m_boxG rfl rfl) ?_
 rintro _ _ ⟨b2_1, rfl, rfl⟩
 refine F.mn rfl rfl rfl rfl (m_alloc ti125) ?_
 rintro _ _ ⟨b4_1, rfl, rfl⟩
 refine F.nil (Nrm.seq (Tri.seq (Tri.reg (l := [0, 1, 2]) rfl ?_)))
 refine F.qn rfl rfl rfl rfl (r_buildA (qs := []) (cs := encA (Arr.rep 768 0)) Try.underlying125 ti123 ti125 rfl .nil (encA_len _) rfl) ?_
 refine F.mn rfl rfl rfl rfl (m_alloc ti125) ?_
 rintro _ _ ⟨b5_1, rfl, rfl⟩
 refine F.ef0 rfl rfl (wanted_none rfl) (d_storeArr (i := 0) (g := (Arr.rep 768 0)) (h := (Arr.rep 768 0)) ti125 rfl rfl rfl) ?_
 rintro _ _ ⟨rfl, rfl⟩
 refine F.nil (Nrm.seq (Tri.seq (Tri.seq (Tri.reg (l := [0]) rfl ?_))))
 refine F.qn rfl rfl rfl rfl (r_move rfl) ?_
 refine F.nil (Nrm.seq ?_)
 obtain ⟨xb5_1_0, hE_1, h⟩ := bind_some h
 refine Tri.block ?_
 refine Tri.only [1, 2, 4, 5, 15] rfl ?_
 refine Tri.pick [0, 1, 2] rfl rfl ?_
 refine Tri.rounds (fun n e' C' => ∃ (x15' : Int) (xb5_1_0' : Arr 768), impl_trapTo.l0 k a0_0 a1 n x15' xb5_1_0' = some xb5_1_0 ∧ e' = [(1, .func (.func fi_a1) #[] ca_a1), (2, .pointer (some ⟨b2_1, 0, none⟩)), (4, .pointer (some ⟨b4_1, 0, none⟩)), (5, .pointer (some ⟨b5_1, 0, none⟩)), (15, .int .i64 x15')] ∧ C' = Sep w noM [R.box b5_1 125 (encA xb5_1_0'), R.box b4_1 125 (encA (Arr.rep 768 0)), R.box b2_1 66 [.int .i64 a0_0, va0_1, va0_2, va0_3]]) k ?_ ?_ ?_
 ·exact ⟨0, (Arr.rep 768 0), hE_1, rfl, rfl⟩
 ·rintro _ _ ⟨_, _, hE_1, _⟩
  rw [impl_trapTo.l0.eq_1] at hE_1; cases hE_1
 ·rintro n_1 _ _ ⟨x15, xb5_1_0, hE_1, rfl, rfl⟩ ih_1
  rw [impl_trapTo.l0.eq_2] at hE_1
  refine Tri.seq (Tri.reg (l := [0]) rfl ?_)
  refine F.qn rfl rfl rfl rfl (r_lss rfl rfl) ?_
  refine F.nil (Nrm.seq (Tri.seq (Tri.cond (b := decide (x15 < 12)) rfl (fun g_1 => ?_) (fun g_1 => ?_))))
  ·replace hE_1 := if_tt g_1 hE_1
   refine Tri.skip (Nrm.seq (Tri.seq (Tri.block ?_)))
   refine Tri.seq (Tri.reg (l := [0, 1]) rfl ?_)
   refine F.qn rfl rfl rfl rfl (r_move rfl) ?_
   refine F.qn rfl rfl rfl rfl (r_assign rfl) ?_
   refine F.nil (Nrm.seq (Tri.seq (Tri.reg (l := [0]) rfl ?_)))
   refine F.qn rfl rfl rfl rfl (r_move rfl) ?_
   refine F.nil (Nrm.seq ?_)
   obtain ⟨xb5_1_0r, hE_2, hE_1⟩ := bind_some hE_1
   refine Tri.block ?_
   refine Tri.only [1, 2, 4, 5, 6, 15, 18] rfl ?_
   refine Tri.pick [0, 1, 2] rfl rfl ?_
   refine Tri.rounds (fun n e' C' => ∃ (x18' : Int) (xb5_1_0r' : Arr 768), impl_trapTo.l1 k a0_0 a1 x15 n x18' xb5_1_0r' = some xb5_1_0r ∧ e' = [(1, .func (.func fi_a1) #[] ca_a1), (2, .pointer (some ⟨b2_1, 0, none⟩)), (4, .pointer (some ⟨b4_1, 0, none⟩)), (5, .pointer (some ⟨b5_1, 0, none⟩)), (6, .int .i64 x15), (15, .int .i64 x15), (18, .int .i64 x18')] ∧ C' = Sep w noM [R.box b5_1 125 (encA xb5_1_0r'), R.box b4_1 125 (encA (Arr.rep 768 0)), R.box b2_1 66 [.int .i64 a0_0, va0_1, va0_2, va0_3]]) k ?_ ?_ ?_
   ·exact ⟨0, xb5_1_0, hE_2, rfl, rfl⟩
   ·rintro _ _ ⟨_, _, hE_2, _⟩
    rw [impl_trapTo.l1.eq_1] at hE_2; cases hE_2
   ·rintro n_2 _ _ ⟨x18, xb5_1_0r, hE_2, rfl, rfl⟩ ih_2
    rw [impl_trapTo.l1.eq_2] at hE_2
    refine Tri.seq (Tri.reg (l := [0]) rfl ?_)
    refine F.qn rfl rfl rfl rfl (r_lss rfl rfl) ?_
    refine F.nil (Nrm.seq (Tri.seq (Tri.cond (b := decide (x18 < 64)) rfl (fun g_2 => ?_) (fun g_2 => ?_))))
    ·replace hE_2 := if_tt g_2 hE_2
     refine Tri.skip (Nrm.seq (Tri.seq (Tri.block ?_)))
     refine Tri.seq (Tri.reg (l := [0, 1]) rfl ?_)
     refine F.qn rfl rfl rfl rfl (r_move rfl) ?_
     refine F.qn rfl rfl rfl rfl (r_assign rfl) ?_
     refine F.nil (Nrm.seq (Tri.seq ?_))
     obtain ⟨hb23, hE_2⟩ := ck hE_2
     obtain ⟨hb24, hE_2⟩ := ck hE_2
     refine Tri.reg (l := [0, 1, 2, 3, 4]) rfl ?_
     refine F.qn rfl rfl rfl rfl (r_move rfl) ?_
     refine F.qn rfl rfl rfl rfl (r_move rfl) ?_
     refine F.qn rfl rfl rfl rfl (r_indexAddrA Try.underlying125 ti123 rfl rfl hb23.1 hb23.2) ?_
     refine F.qn rfl rfl rfl rfl (r_indexAddrA Try.underlying123 ti3 rfl rfl hb24.1 hb24.2) ?_
     refine F.ef0 rfl rfl (wanted_none rfl) (d_storeTab (i := 0) (m := 64) (g := xb5_1_0r) (r := x15) (j := x18) (u := (-1)) ti3 rfl rfl rfl (tabB 12 64 768 hb23 rfl) hb24) ?_
     rintro _ _ ⟨rfl, rfl⟩
     refine F.nil (Nrm.seq (Tri.seq ?_))
     obtain ⟨y35, hE_3, hE_2⟩ := bind_some hE_2
     refine Tri.cut (fun e' C' => e' = [(1, .func (.func fi_a1) #[] ca_a1), (2, .pointer (some ⟨b2_1, 0, none⟩)), (4, .pointer (some ⟨b4_1, 0, none⟩)), (5, .pointer (some ⟨b5_1, 0, none⟩)), (6, .int .i64 x15), (7, .int .i64 x18), (15, .int .i64 x15), (18, .int .i64 x18), (35, .bool y35)] ∧ C' = Sep w noM [R.box b5_1 125 (encA (Arr.put xb5_1_0r (x15 * 64 + x18) (-1))), R.box b4_1 125 (encA (Arr.rep 768 0)), R.box b2_1 66 [.int .i64 a0_0, va0_1, va0_2, va0_3]]) ?_ (fun hj_1 => ?_)
     ·rintro _ _ ⟨rfl, rfl⟩
      refine Nrm.seq ?_
      obtain ⟨yb5_1_0, hE_4, hE_2⟩ := bind_some hE_2
      refine Tri.cut (fun e' C' => e' = [(1, .func (.func fi_a1) #[] ca_a1), (2, .pointer (some ⟨b2_1, 0, none⟩)), (4, .pointer (some ⟨b4_1, 0, none⟩)), (5, .pointer (some ⟨b5_1, 0, none⟩)), (6, .int .i64 x15), (15, .int .i64 x15), (18, .int .i64 x18)] ∧ C' = Sep w noM [R.box b5_1 125 (encA yb5_1_0), R.box b4_1 125 (encA (Arr.rep 768 0)), R.box b2_1 66 [.int .i64 a0_0, va0_1, va0_2, va0_3]]) ?_ (fun hj_2 => ?_)
      ·rintro _ _ ⟨rfl, rfl⟩
       refine Nrm.block ?_
       refine Nrm.seq (Tri.reg (l := [0, 1]) rfl ?_)
       refine F.qn rfl rfl rfl rfl (r_add rfl rfl) ?_
       refine F.qn rfl rfl rfl rfl (r_move rfl) ?_
       refine F.nil (Nrm.round ?_)
       refine Rnd.only [1, 2, 4, 5, 6, 15, 18] rfl ?_
       refine Rnd.pick [0, 1, 2] rfl rfl ?_
       exact ih_2 _ _ ⟨w64 (x18 + 1), yb5_1_0, hE_2, rfl, rfl⟩
      ·refine Tri.cond (b := y35) rfl (fun g_3 => ?_) (fun g_3 => ?_)
       ·replace hE_4 := if_tt g_3 hE_4
        obtain ⟨hb38, hE_4⟩ := ck hE_4
        obtain ⟨hb39, hE_4⟩ := ck hE_4
        refine Tri.reg (l := [0, 1, 2, 3, 4]) rfl ?_
        refine F.qn rfl rfl rfl rfl (r_move rfl) ?_
        refine F.qn rfl rfl rfl rfl (r_move rfl) ?_
        refine F.qn rfl rfl rfl rfl (r_indexAddrA Try.underlying125 ti123 rfl rfl hb38.1 hb38.2) ?_
        refine F.qn rfl rfl rfl rfl (r_indexAddrA Try.underlying123 ti3 rfl rfl hb39.1 hb39.2) ?_
        refine F.ef0 rfl rfl (wanted_none rfl) (d_storeTab (i := 0) (m := 64) (g := (Arr.put xb5_1_0r (x15 * 64 + x18) (-1))) (r := x15) (j := x18) (u := 0) ti3 rfl rfl rfl (tabB 12 64 768 hb38 rfl) hb39) ?_
        rintro _ _ ⟨rfl, rfl⟩
        refine F.nil ?_
        cases hE_4
        refine Nrm.only [1, 2, 4, 5, 6, 15, 18] rfl ?_
        refine Nrm.pick [0, 1, 2] rfl rfl ?_
        exact hj_2 _ _ ⟨rfl, rfl⟩
       ·replace hE_4 := if_ff g_3 hE_4
        refine Tri.skip ?_
        cases hE_4
        refine Nrm.only [1, 2, 4, 5, 6, 15, 18] rfl ?_
        refine Nrm.pick [0, 1, 2] rfl rfl ?_
        exact hj_2 _ _ ⟨rfl, rfl⟩
     ·rcases Bool.eq_false_or_eq_true (decide (x15 < a0_0)) with g30 | g30
      ·replace hE_3 := if_tt g30 hE_3
       obtain ⟨t34, h34, hE_3⟩ := bind_some hE_3
       refine Tri.reg (l := [0, 1, 2, 3, 4, 5, 6, 7, 8, 9, 10]) rfl ?_
       refine F.qn rfl rfl rfl rfl (r_move rfl) ?_
       refine F.qn rfl rfl rfl rfl (r_fieldAddr tf66_0 rfl) ?_
       refine F.qn rfl rfl rfl rfl (r_fieldAddr tf27_0 rfl) ?_
       refine F.qn rfl rfl rfl rfl (r_load ta3 rfl (fun w hw => cell_2 (box_cells (i := 2) rfl w hw) rfl)) ?_
       refine F.qn rfl rfl rfl rfl (r_lss rfl rfl) ?_
       refine F.qn rfl rfl rfl rfl (r_move rfl) ?_
       iterate 3 refine F.qg rfl rfl rfl rfl rfl rfl g30 (r_move rfl) ?_
       refine F.qc rfl rfl rfl (wg rfl rfl rfl g30) (q_callC (xs := _) rfl ho_a1 rfl rfl (fun w hw => hf_a1 w hw.ext _ _  _ h34)) ?_
       refine F.qn rfl rfl rfl rfl (r_pick rfl rfl g30) ?_
       refine F.nil ?_
       cases hE_3
       refine Nrm.only [1, 2, 4, 5, 6, 7, 15, 18, 35] rfl ?_
       refine Nrm.pick [0, 1, 2] rfl rfl ?_
       exact hj_1 _ _ ⟨rfl, rfl⟩
      ·replace hE_3 := if_ff g30 hE_3
       refine Tri.reg (l := [0, 1, 2, 3, 4, 5, 6, 7, 8, 9, 10]) rfl ?_
       refine F.qn rfl rfl rfl rfl (r_move rfl) ?_
       refine F.qn rfl rfl rfl rfl (r_fieldAddr tf66_0 rfl) ?_
       refine F.qn rfl rfl rfl rfl (r_fieldAddr tf27_0 rfl) ?_
       refine F.qn rfl rfl rfl rfl (r_load ta3 rfl (fun w hw => cell_2 (box_cells (i := 2) rfl w hw) rfl)) ?_
       refine F.qn rfl rfl rfl rfl (r_lss rfl rfl) ?_
       refine F.qn rfl rfl rfl rfl (r_move rfl) ?_
       iterate 4 refine F.sk rfl rfl rfl (wf rfl rfl rfl g30) ?_
       refine F.qn rfl rfl rfl rfl (r_pickf rfl rfl g30) ?_
       refine F.nil ?_
       cases hE_3
       refine Nrm.only [1, 2, 4, 5, 6, 7, 15, 18, 35] rfl ?_
       refine Nrm.pick [0, 1, 2] rfl rfl ?_
       exact hj_1 _ _ ⟨rfl, rfl⟩
    ·replace hE_2 := if_ff g_2 hE_2
     refine Tri.exit ?_
     refine Exi.then ?_
     refine Exi.then ?_
     refine Exi.same ?_
     cases hE_2
     refine Nrm.block ?_
     refine Nrm.seq (Tri.reg (l := [0, 1]) rfl ?_)
     refine F.qn rfl rfl rfl rfl (r_add rfl rfl) ?_
     refine F.qn rfl rfl rfl rfl (r_move rfl) ?_
     refine F.nil (Nrm.round ?_)
     refine Rnd.only [1, 2, 4, 5, 15] rfl ?_
     refine Rnd.pick [0, 1, 2] rfl rfl ?_
     exact ih_1 _ _ ⟨w64 (x15 + 1), xb5_1_0r, hE_1, rfl, rfl⟩
  ·replace hE_1 := if_ff g_1 hE_1
   refine Tri.exit ?_
   refine Exi.then ?_
   refine Exi.then ?_
   refine Exi.same ?_
   cases hE_1
   refine Nrm.seq (Tri.seq (Tri.seq (Tri.reg (l := [0]) rfl ?_)))
   refine F.qn rfl rfl rfl rfl (r_assign rfl) ?_
   refine F.nil (Nrm.seq ?_)
   obtain ⟨xb5_1_0rr, hE_5, h⟩ := bind_some h
   refine Tri.block ?_
   refine Tri.only [2, 4, 5, 8] rfl ?_
   refine Tri.pick [0, 1, 2] rfl rfl ?_
   refine Tri.rounds (fun n e' C' => ∃ (x8' : Bool) (xb5_1_0rr' : Arr 768), impl_trapTo.l2 k a0_0 a0_1 a0_2 a0_3 n x8' xb5_1_0rr' = some xb5_1_0rr ∧ e' = [(2, .pointer (some ⟨b2_1, 0, none⟩)), (4, .pointer (some ⟨b4_1, 0, none⟩)), (5, .pointer (some ⟨b5_1, 0, none⟩)), (8, .bool x8')] ∧ C' = Sep w noM [R.box b5_1 125 (encA xb5_1_0rr'), R.box b4_1 125 (encA (Arr.rep 768 0)), R.box b2_1 66 [.int .i64 a0_0, va0_1, va0_2, va0_3]]) k ?_ ?_ ?_
   ·exact ⟨true, xb5_1_0, hE_5, rfl, rfl⟩
   ·rintro _ _ ⟨_, _, hE_5, _⟩
    rw [impl_trapTo.l2.eq_1] at hE_5; cases hE_5
   ·rintro n_3 _ _ ⟨x8, xb5_1_0rr, hE_5, rfl, rfl⟩ ih_3
    rw [impl_trapTo.l2.eq_2] at hE_5
    refine Tri.seq (Tri.seq (Tri.reg (l := [0]) rfl ?_))
    refine F.qn rfl rfl rfl rfl (r_move rfl) ?_
    refine F.nil (Nrm.seq (Tri.cond (b := x8) rfl (fun g_4 => ?_) (fun g_4 => ?_)))
    ·replace hE_5 := if_tt g_4 hE_5
     refine Tri.skip (Nrm.seq (Tri.block ?_))
     refine Tri.seq (Tri.reg (l := [0]) rfl ?_)
     refine F.qn rfl rfl rfl rfl (r_assign rfl) ?_
     refine F.nil (Nrm.seq (Tri.seq (Tri.reg (l := [0, 1, 2, 3]) rfl ?_)))
     refine F.qn rfl rfl rfl rfl (r_fieldAddr tf66_0 rfl) ?_
     refine F.qn rfl rfl rfl rfl (r_fieldAddr tf27_0 rfl) ?_
     refine F.qn rfl rfl rfl rfl (r_load ta3 rfl (fun w hw => cell_2 (box_cells (i := 2) rfl w hw) rfl)) ?_
     refine F.qn rfl rfl rfl rfl (r_move rfl) ?_
     refine F.nil (Nrm.seq ?_)
     obtain ⟨⟨xb5_1_0rrr, x8r⟩, hE_6, hE_5⟩ := bind_some hE_5
     refine Tri.block ?_
     refine Tri.only [2, 4, 5, 8, 45, 46] rfl ?_
     refine Tri.pick [0, 1, 2] rfl rfl ?_
     refine Tri.rounds (fun n e' C' => ∃ (x8r' : Bool) (x46' : Int) (xb5_1_0rrr' : Arr 768), impl_trapTo.l3 k a0_0 a0_1 a0_2 a0_3 n x8r' x46' xb5_1_0rrr' = some (xb5_1_0rrr, x8r) ∧ e' = [(2, .pointer (some ⟨b2_1, 0, none⟩)), (4, .pointer (some ⟨b4_1, 0, none⟩)), (5, .pointer (some ⟨b5_1, 0, none⟩)), (8, .bool x8r'), (45, .int .i64 a0_0), (46, .int .i64 x46')] ∧ C' = Sep w noM [R.box b5_1 125 (encA xb5_1_0rrr'), R.box b4_1 125 (encA (Arr.rep 768 0)), R.box b2_1 66 [.int .i64 a0_0, va0_1, va0_2, va0_3]]) k ?_ ?_ ?_
     ·exact ⟨false, 0, xb5_1_0rr, hE_6, rfl, rfl⟩
     ·rintro _ _ ⟨_, _, _, hE_6, _⟩
      rw [impl_trapTo.l3.eq_1] at hE_6; cases hE_6
     ·rintro n_4 _ _ ⟨x8r, x46, xb5_1_0rrr, hE_6, rfl, rfl⟩ ih_4
      rw [impl_trapTo.l3.eq_2] at hE_6
      refine Tri.seq (Tri.reg (l := [0]) rfl ?_)
      refine F.qn rfl rfl rfl rfl (r_lss rfl rfl) ?_
      refine F.nil (Nrm.seq (Tri.seq (Tri.cond (b := decide (x46 < a0_0)) rfl (fun g_5 => ?_) (fun g_5 => ?_))))
      ·replace hE_6 := if_tt g_5 hE_6
       refine Tri.skip (Nrm.seq (Tri.seq (Tri.block ?_)))
       refine Tri.seq (Tri.reg (l := [0, 1]) rfl ?_)
       refine F.qn rfl rfl rfl rfl (r_move rfl) ?_
       refine F.qn rfl rfl rfl rfl (r_assign rfl) ?_
       refine F.nil (Nrm.seq (Tri.seq (Tri.reg (l := [0]) rfl ?_)))
       refine F.qn rfl rfl rfl rfl (r_move rfl) ?_
       refine F.nil (Nrm.seq ?_)
       obtain ⟨⟨xb5_1_0rrrr, x8rr⟩, hE_7, hE_6⟩ := bind_some hE_6
       refine Tri.block ?_
       refine Tri.only [2, 4, 5, 8, 9, 45, 46, 49] rfl ?_
       refine Tri.pick [0, 1, 2] rfl rfl ?_
       refine Tri.rounds (fun n e' C' => ∃ (x8rr' : Bool) (x49' : Int) (xb5_1_0rrrr' : Arr 768), impl_trapTo.l4 k a0_0 a0_1 a0_2 a0_3 x46 n x8rr' x49' xb5_1_0rrrr' = some (xb5_1_0rrrr, x8rr) ∧ e' = [(2, .pointer (some ⟨b2_1, 0, none⟩)), (4, .pointer (some ⟨b4_1, 0, none⟩)), (5, .pointer (some ⟨b5_1, 0, none⟩)), (8, .bool x8rr'), (9, .int .i64 x46), (45, .int .i64 a0_0), (46, .int .i64 x46), (49, .int .i64 x49')] ∧ C' = Sep w noM [R.box b5_1 125 (encA xb5_1_0rrrr'), R.box b4_1 125 (encA (Arr.rep 768 0)), R.box b2_1 66 [.int .i64 a0_0, va0_1, va0_2, va0_3]]) k ?_ ?_ ?_
       ·exact ⟨x8r, 0, xb5_1_0rrr, hE_7, rfl, rfl⟩
       ·rintro _ _ ⟨_, _, _, hE_7, _⟩
        rw [impl_trapTo.l4.eq_1] at hE_7; cases hE_7
       ·rintro n_5 _ _ ⟨x8rr, x49, xb5_1_0rrrr, hE_7, rfl, rfl⟩ ih_5
        rw [impl_trapTo.l4.eq_2] at hE_7
        refine Tri.seq (Tri.reg (l := [0]) rfl ?_)
        refine F.qn rfl rfl rfl rfl (r_lss rfl rfl) ?_
        refine F.nil (Nrm.seq (Tri.seq (Tri.cond (b := decide (x49 < 64)) rfl (fun g_6 => ?_) (fun g_6 => ?_))))
        ·replace hE_7 := if_tt g_6 hE_7
         refine Tri.skip (Nrm.seq (Tri.seq (Tri.block ?_)))
         refine Tri.seq (Tri.reg (l := [0, 1]) rfl ?_)
         refine F.qn rfl rfl rfl rfl (r_move rfl) ?_
         refine F.qn rfl rfl rfl rfl (r_assign rfl) ?_
         refine F.nil (Nrm.seq (Tri.seq ?_))
         obtain ⟨t55, h55, hE_7⟩ := bind_some hE_7
         obtain ⟨t56, h56, hE_7⟩ := bind_some hE_7
         refine Tri.reg (l := [0, 1, 2, 3, 4, 5, 6]) rfl ?_
         refine F.qn rfl rfl rfl rfl (r_loadA ta66 ti66 rfl rfl (fun w hw => (box_cells (i := 2) rfl w hw))) ?_
         refine F.qn rfl rfl rfl rfl (r_move rfl) ?_
         refine F.qn rfl rfl rfl rfl (r_move rfl) ?_
         refine F.qcn rfl rfl rfl rfl (q_callF (xs := _) rfl ok124 rfl rfl (fun w hw => impl_trapSteps.ok h55 w ((fun _ hw => hr_a0_1.sep hw) w hw) ((fun _ hw => hr_a0_2.sep hw) w hw) ((fun _ hw => hr_a0_3.sep hw) w hw))) ?_
         refine F.mn rfl rfl rfl rfl (m_callF (xs := _) rfl ok98 rfl rfl (fun w hw => impl_members.ok h56 w )) ?_
         rintro v56_1 _ ⟨_, ⟨S56_1, hl_v56_1, rfl⟩, rfl⟩
         refine F.qn rfl rfl rfl rfl (r_len Try.underlying25 rfl hl_v56_1) ?_
         refine F.qn rfl rfl rfl rfl (r_move rfl) ?_
         refine F.nil (Nrm.seq ?_)
         obtain ⟨⟨xb5_1_0rrrrr, x8rrr⟩, hE_8, hE_7⟩ := bind_some hE_7
         refine Tri.block ?_
         refine Tri.only [2, 4, 5, 8, 9, 10, 45, 46, 49, 56, 57, 58] rfl ?_
         refine Tri.pick [1, 2, 3, 0] rfl rfl ?_
         refine Tri.rounds (fun n e' C' => ∃ (x8rrr' : Bool) (x58' : Int) (xb5_1_0rrrrr' : Arr 768), impl_trapTo.l5 k a0_2 x46 x49 t56 n x8rrr' x58' xb5_1_0rrrrr' = some (xb5_1_0rrrrr, x8rrr) ∧ e' = [(2, .pointer (some ⟨b2_1, 0, none⟩)), (4, .pointer (some ⟨b4_1, 0, none⟩)), (5, .pointer (some ⟨b5_1, 0, none⟩)), (8, .bool x8rrr'), (9, .int .i64 x46), (10, .int .i64 x49), (45, .int .i64 a0_0), (46, .int .i64 x46), (49, .int .i64 x49), (56, v56_1), (57, .int .i64 (t56.length : Int)), (58, .int .i64 x58')] ∧ C' = Sep w noM [R.box b5_1 125 (encA xb5_1_0rrrrr'), R.box b4_1 125 (encA (Arr.rep 768 0)), R.box b2_1 66 [.int .i64 a0_0, va0_1, va0_2, va0_3], R.sl S56_1 v56_1 (t56 : List (Int))]) k ?_ ?_ ?_
         ·exact ⟨x8rr, 0, xb5_1_0rrrr, hE_8, rfl, rfl⟩
         ·rintro _ _ ⟨_, _, _, hE_8, _⟩
          rw [impl_trapTo.l5.eq_1] at hE_8; cases hE_8
         ·rintro n_6 _ _ ⟨x8rrr, x58, xb5_1_0rrrrr, hE_8, rfl, rfl⟩ ih_6
          rw [impl_trapTo.l5.eq_2] at hE_8
          refine Tri.seq (Tri.reg (l := [0]) rfl ?_)
          refine F.qn rfl rfl rfl rfl (r_lss rfl rfl) ?_
          refine F.nil (Nrm.seq (Tri.seq (Tri.cond (b := decide (x58 < (t56.length : Int))) rfl (fun g_7 => ?_) (fun g_7 => ?_))))
          ·replace hE_8 := if_tt g_7 hE_8
           refine Tri.skip (Nrm.seq (Tri.seq (Tri.block ?_)))
           refine Tri.seq ?_
           obtain ⟨t60, h60, hE_8⟩ := bind_some hE_8
           refine Tri.reg (l := [0, 1, 2]) rfl ?_
           refine F.qn rfl rfl rfl rfl (r_indexAddrS Try.underlying25 ti3 rfl hl_v56_1 rfl (rdl_some h60).1 (rdl_some h60).2.1) ?_
           refine F.qn rfl rfl rfl rfl (r_load ta3 rfl (fun w hw => cell_0 (Rd.flat ((rd_sl (i := 3) rfl) w hw) (rdl_some h60).2.2) rfl)) ?_
           refine F.qn rfl rfl rfl rfl (r_assign rfl) ?_
           refine F.nil (Nrm.seq (Tri.seq ?_))
           obtain ⟨t68, h68, hE_8⟩ := bind_some hE_8
           obtain ⟨hb71, hE_8⟩ := ck hE_8
           obtain ⟨hb72, hE_8⟩ := ck hE_8
           refine Tri.drawA mixedT Sep.up [(0, true), (1, true), (2, true), (3, true), (4, true), (5, true), (6, true), (7, true), (8, true), (9, true), (10, true), (11, true), (12, true)] [] (by kernel_rfl) ?_
           refine S.qn rfl rfl rfl rfl (r_move rfl) ?_
           refine S.qn rfl rfl rfl rfl (r_move rfl) ?_
           refine S.qn rfl rfl rfl rfl (r_fieldAddr tf66_0 rfl) ?_
           refine S.qn rfl rfl rfl rfl (r_fieldAddr tf27_2 rfl) ?_
           refine S.qn rfl rfl rfl rfl (r_load ta25 rfl (fun w hw => cell_2 (box_cells (i := 2) rfl w hw) rfl)) ?_
           refine S.qn rfl rfl rfl rfl (r_move rfl) ?_
           refine S.qn rfl rfl rfl rfl (r_indexAddrS Try.underlying25 ti3 rfl hl_va0_2 rfl (rdl_some h68).1 (rdl_some h68).2.1) ?_
           refine S.qn rfl rfl rfl rfl (r_load ta3 rfl (fun w hw => cell_0 (Rd.flat ((fun _ hw => hr_a0_2.sep hw) w hw) (rdl_some h68).2.2) rfl)) ?_
           refine S.qn rfl rfl rfl rfl (r_or rfl rfl) ?_
           refine S.qn rfl rfl rfl rfl (r_indexAddrA Try.underlying125 ti123 rfl rfl hb71.1 hb71.2) ?_
           refine S.qn rfl rfl rfl rfl (r_indexAddrA Try.underlying123 ti3 rfl rfl hb72.1 hb72.2) ?_
           refine S.qn rfl rfl rfl rfl (r_load ta3 rfl (fun w hw => cell_tab (g := xb5_1_0rrrrr) (m := 64) (box_cells (i := 0) rfl w hw) (tabB 12 64 768 hb71 rfl) hb72)) ?_
           refine S.qn rfl rfl rfl rfl (r_assign rfl) ?_
           refine S.nil (F.nil (Nrm.seq (Tri.seq ?_)))
           obtain ⟨y85, hE_9, hE_8⟩ := bind_some hE_8
           refine Tri.cut (fun e' C' => e' = [(2, .pointer (some ⟨b2_1, 0, none⟩)), (4, .pointer (some ⟨b4_1, 0, none⟩)), (5, .pointer (some ⟨b5_1, 0, none⟩)), (8, .bool x8rrr), (9, .int .i64 x46), (10, .int .i64 x49), (13, .int .i64 (Arr.at xb5_1_0rrrrr (t60 * 64 + (bor x49 t68)))), (45, .int .i64 a0_0), (46, .int .i64 x46), (49, .int .i64 x49), (56, v56_1), (57, .int .i64 (t56.length : Int)), (58, .int .i64 x58), (85, .bool y85)] ∧ C' = Sep w noM [R.box b5_1 125 (encA xb5_1_0rrrrr), R.box b4_1 125 (encA (Arr.rep 768 0)), R.box b2_1 66 [.int .i64 a0_0, va0_1, va0_2, va0_3], R.sl S56_1 v56_1 (t56 : List (Int))]) ?_ (fun hj_3 => ?_)
           ·rintro _ _ ⟨rfl, rfl⟩
            refine Nrm.seq ?_
            obtain ⟨⟨y8, yb5_1_0r⟩, hE_10, hE_8⟩ := bind_some hE_8
            refine Tri.cut (fun e' C' => e' = [(2, .pointer (some ⟨b2_1, 0, none⟩)), (4, .pointer (some ⟨b4_1, 0, none⟩)), (5, .pointer (some ⟨b5_1, 0, none⟩)), (8, .bool y8), (9, .int .i64 x46), (10, .int .i64 x49), (45, .int .i64 a0_0), (46, .int .i64 x46), (49, .int .i64 x49), (56, v56_1), (57, .int .i64 (t56.length : Int)), (58, .int .i64 x58)] ∧ C' = Sep w noM [R.box b5_1 125 (encA yb5_1_0r), R.box b4_1 125 (encA (Arr.rep 768 0)), R.box b2_1 66 [.int .i64 a0_0, va0_1, va0_2, va0_3], R.sl S56_1 v56_1 (t56 : List (Int))]) ?_ (fun hj_4 => ?_)
            ·rintro _ _ ⟨rfl, rfl⟩
             refine Nrm.block ?_
             refine Nrm.seq (Tri.reg (l := [0, 1]) rfl ?_)
             refine F.qn rfl rfl rfl rfl (r_add rfl rfl) ?_
             refine F.qn rfl rfl rfl rfl (r_move rfl) ?_
             refine F.nil (Nrm.round ?_)
             refine Rnd.only [2, 4, 5, 8, 9, 10, 45, 46, 49, 56, 57, 58] rfl ?_
             refine Rnd.pick [0, 1, 2, 3] rfl rfl ?_
             exact ih_6 _ _ ⟨y8, w64 (x58 + 1), yb5_1_0r, hE_8, rfl, rfl⟩
            ·refine Tri.cond (b := y85) rfl (fun g_8 => ?_) (fun g_8 => ?_)
             ·replace hE_10 := if_tt g_8 hE_10
              refine Tri.seq ?_
              obtain ⟨hb90, hE_10⟩ := ck hE_10
              obtain ⟨hb91, hE_10⟩ := ck hE_10
              refine Tri.reg (l := [0, 1, 2, 3, 4, 5, 6]) rfl ?_
              iterate 3 refine F.qn rfl rfl rfl rfl (r_move rfl) ?_
              refine F.qn rfl rfl rfl rfl (r_add rfl rfl) ?_
              refine F.qn rfl rfl rfl rfl (r_indexAddrA Try.underlying125 ti123 rfl rfl hb90.1 hb90.2) ?_
              refine F.qn rfl rfl rfl rfl (r_indexAddrA Try.underlying123 ti3 rfl rfl hb91.1 hb91.2) ?_
              refine F.ef0 rfl rfl (wanted_none rfl) (d_storeTab (i := 0) (m := 64) (g := xb5_1_0rrrrr) (r := x46) (j := x49) (u := w64 ((Arr.at xb5_1_0rrrrr (t60 * 64 + (bor x49 t68))) + 1)) ti3 rfl rfl rfl (tabB 12 64 768 hb90 rfl) hb91) ?_
              rintro _ _ ⟨rfl, rfl⟩
              refine F.nil (Nrm.seq (Tri.reg (l := [0]) rfl ?_))
              refine F.qn rfl rfl rfl rfl (r_assign rfl) ?_
              refine F.nil ?_
              cases hE_10
              refine Nrm.only [2, 4, 5, 8, 9, 10, 45, 46, 49, 56, 57, 58] rfl ?_
              refine Nrm.pick [0, 1, 2, 3] rfl rfl ?_
              exact hj_4 _ _ ⟨rfl, rfl⟩
             ·replace hE_10 := if_ff g_8 hE_10
              refine Tri.skip ?_
              cases hE_10
              refine Nrm.only [2, 4, 5, 8, 9, 10, 45, 46, 49, 56, 57, 58] rfl ?_
              refine Nrm.pick [0, 1, 2, 3] rfl rfl ?_
              exact hj_4 _ _ ⟨rfl, rfl⟩
           ·rcases Bool.eq_false_or_eq_true (decide ((Arr.at xb5_1_0rrrrr (t60 * 64 + (bor x49 t68))) ≥ 0)) with g76 | g76
            ·replace hE_9 := if_tt g76 hE_9
             obtain ⟨hb81, hE_9⟩ := ck hE_9
             obtain ⟨hb82, hE_9⟩ := ck hE_9
             obtain ⟨t84, h84, hE_9⟩ := bind_some hE_9
             refine Tri.reg (l := List.range 12) rfl ?_
             refine F.qn rfl rfl rfl rfl (r_move rfl) ?_
             refine F.qn rfl rfl rfl rfl (r_geq rfl rfl) ?_
             refine F.qn rfl rfl rfl rfl (r_move rfl) ?_
             refine F.qg rfl rfl rfl rfl rfl rfl g76 (r_move rfl) ?_
             refine F.qg rfl rfl rfl rfl rfl rfl g76 (r_add rfl rfl) ?_
             refine F.qg rfl rfl rfl rfl rfl rfl g76 (r_move rfl) ?_
             refine F.qg rfl rfl rfl rfl rfl rfl g76 (r_move rfl) ?_
             refine F.qg rfl rfl rfl rfl rfl rfl g76 (r_indexAddrA Try.underlying125 ti123 rfl rfl hb81.1 hb81.2) ?_
             refine F.qg rfl rfl rfl rfl rfl rfl g76 (r_indexAddrA Try.underlying123 ti3 rfl rfl hb82.1 hb82.2) ?_
             refine F.qg rfl rfl rfl rfl rfl rfl g76 (r_load ta3 rfl (fun w hw => cell_tab (g := xb5_1_0rrrrr) (m := 64) (box_cells (i := 0) rfl w hw) (tabB 12 64 768 hb81 rfl) hb82)) ?_
             refine F.qc rfl rfl rfl (wg rfl rfl rfl g76) (q_callF (xs := _) rfl ok214 rfl rfl (fun w hw => impl_better.ok h84 w )) ?_
             refine F.qn rfl rfl rfl rfl (r_pick rfl rfl g76) ?_
             refine F.nil ?_
             cases hE_9
             refine Nrm.only [2, 4, 5, 8, 9, 10, 13, 45, 46, 49, 56, 57, 58, 85] rfl ?_
             refine Nrm.pick [0, 1, 2, 3] rfl rfl ?_
             exact hj_3 _ _ ⟨rfl, rfl⟩
            ·replace hE_9 := if_ff g76 hE_9
             refine Tri.reg (l := List.range 12) rfl ?_
             refine F.qn rfl rfl rfl rfl (r_move rfl) ?_
             refine F.qn rfl rfl rfl rfl (r_geq rfl rfl) ?_
             refine F.qn rfl rfl rfl rfl (r_move rfl) ?_
             iterate 8 refine F.sk rfl rfl rfl (wf rfl rfl rfl g76) ?_
             refine F.qn rfl rfl rfl rfl (r_pickf rfl rfl g76) ?_
             refine F.nil ?_
             cases hE_9
             refine Nrm.only [2, 4, 5, 8, 9, 10, 13, 45, 46, 49, 56, 57, 58, 85] rfl ?_
             refine Nrm.pick [0, 1, 2, 3] rfl rfl ?_
             exact hj_3 _ _ ⟨rfl, rfl⟩
          ·replace hE_8 := if_ff g_7 hE_8
           refine Tri.exit ?_
           refine Exi.then ?_
           refine Exi.then ?_
           refine Exi.same ?_
           cases hE_8
           refine Nrm.block ?_
           refine Nrm.seq (Tri.reg (l := [0, 1]) rfl ?_)
           refine F.qn rfl rfl rfl rfl (r_add rfl rfl) ?_
           refine F.qn rfl rfl rfl rfl (r_move rfl) ?_
           refine F.nil (Nrm.round ?_)
           refine Rnd.only [2, 4, 5, 8, 9, 45, 46, 49] rfl ?_
           refine Rnd.pick [0, 1, 2] rfl rfl ?_
           exact ih_5 _ _ ⟨x8rrr, w64 (x49 + 1), xb5_1_0rrrrr, hE_7, rfl, rfl⟩
        ·replace hE_7 := if_ff g_6 hE_7
         refine Tri.exit ?_
         refine Exi.then ?_
         refine Exi.then ?_
         refine Exi.same ?_
         cases hE_7
         refine Nrm.block ?_
         refine Nrm.seq (Tri.reg (l := [0, 1]) rfl ?_)
         refine F.qn rfl rfl rfl rfl (r_add rfl rfl) ?_
         refine F.qn rfl rfl rfl rfl (r_move rfl) ?_
         refine F.nil (Nrm.round ?_)
         refine Rnd.only [2, 4, 5, 8, 45, 46] rfl ?_
         refine Rnd.pick [0, 1, 2] rfl rfl ?_
         exact ih_4 _ _ ⟨x8rr, w64 (x46 + 1), xb5_1_0rrrr, hE_6, rfl, rfl⟩
      ·replace hE_6 := if_ff g_5 hE_6
       refine Tri.exit ?_
       refine Exi.then ?_
       refine Exi.then ?_
       refine Exi.same ?_
       cases hE_6
       refine Nrm.block ?_
       refine Nrm.round ?_
       refine Rnd.only [2, 4, 5, 8] rfl ?_
       refine Rnd.pick [0, 1, 2] rfl rfl ?_
       exact ih_3 _ _ ⟨x8r, xb5_1_0rrr, hE_5, rfl, rfl⟩
    ·replace hE_5 := if_ff g_4 hE_5
     refine Tri.exit ?_
     refine Exi.then ?_
     refine Exi.then ?_
     refine Exi.same ?_
     cases hE_5
     refine Nrm.seq (Tri.seq (Tri.reg (l := [0, 1]) rfl ?_))
     refine F.qn rfl rfl rfl rfl (r_loadA (cs := encA xb5_1_0rr) ta125 ti125 rfl (encA_len _) (fun w hw => (box_cells (i := 0) rfl w hw))) ?_
     refine F.ef0 rfl rfl (wanted_none rfl) (d_storeArr (i := 1) (g := (Arr.rep 768 0)) (h := xb5_1_0rr) ti125 rfl rfl rfl) ?_
     rintro _ _ ⟨rfl, rfl⟩
     refine F.nil (Nrm.seq (Tri.ret ?_))
     cases h
     exact Rtn.body (.cell rfl ta125 ti125 (encA_len _) (fun _ hw => box_cells (i := 1) rfl _ hw) .nil) (fun w hw => ⟨rfl, hw.ext⟩)


def impl_toTrapGoal_1.f (k : Nat) (a0 : Int) (a1 : Int) (c0_0 : Int) (c0_1 : List (Int × Int × Int)) (c0_2 : List Int) (c0_3 : List Int) : Option (Bool) := some (a0 == (w64 (c0_0 - 1)))

theorem impl_toTrapGoal_1.ok {k : Nat} {pc0 : Addr} {a0 : Int} {a1 : Int} {c0_0 : Int} {c0_1 : List (Int × Int × Int)} {c0_2 : List Int} {c0_3 : List Int} {r0 : Bool} (h : impl_toTrapGoal_1.f k a0 a1 c0_0 c0_1 c0_2 c0_3 = some r0) (w : World) {vc0_1 : Value} {vc0_2 : Value} {vc0_3 : Value} (hb_c0 : CellsAt w pc0 [.int .i64 c0_0, vc0_1, vc0_2, vc0_3]) (hr_c0_1 : Rd w vc0_1 c0_1) (hr_c0_2 : Rd w vc0_2 c0_2) (hr_c0_3 : Rd w vc0_3 c0_3) :
  Calls Try.prog 187 ([.int .i64 a0, .int .i64 a1, .pointer (some pc0)] : List Value).toArray w (fun e w' => e = .returned (.bool r0) ∧ Ext w w') := by
 unfold impl_toTrapGoal_1.f at h
 have hl_vc0_1 := hr_c0_1.len
 have hl_vc0_2 := hr_c0_2.len
 have hl_vc0_3 := hr_c0_3.len
 refine Calls.of_tri (N := 12) Try.func187 rfl rfl rfl (Sep.nil (M := noM)) ?_
 refine Tri.seq (Tri.reg (l := [0]) rfl ?_)
 refine F.qn rfl rfl rfl rfl (r_assign rfl) ?_
 refine F.nil (Nrm.seq (Tri.seq (Tri.reg (l := [0, 1, 2, 3, 4, 5, 6]) rfl ?_)))
 refine F.qn rfl rfl rfl rfl (r_move rfl) ?_
 refine F.qn rfl rfl rfl rfl (r_fieldAddr tf66_0 rfl) ?_
 refine F.qn rfl rfl rfl rfl (r_fieldAddr tf27_0 rfl) ?_
 refine F.qn rfl rfl rfl rfl (r_load ta3 rfl (fun w hw => cell_2 (hb_c0.sep hw) rfl)) ?_
 refine F.qn rfl rfl rfl rfl (r_sub rfl rfl) ?_
 refine F.qn rfl rfl rfl rfl (r_eql rfl rfl) ?_
 refine F.qn rfl rfl rfl rfl (r_assign rfl) ?_
 refine F.nil (Nrm.seq (Tri.ret ?_))
 cases h
 exact Rtn.body (.tmp rfl .nil) (fun w hw => ⟨rfl, hw.ext⟩)


def impl_toTrapGoal.f (k : Nat) (a0_0 : Int) (a0_1 : List (Int × Int × Int)) (a0_2 : List Int) (a0_3 : List Int) : Option ((Arr 768)) := (impl_trapTo.f k a0_0 a0_1 a0_2 a0_3 (fun z0 z1 => impl_toTrapGoal_1.f k z0 z1 a0_0 a0_1 a0_2 a0_3)).bind fun t5 => some t5

theorem impl_toTrapGoal.ok {k : Nat}  {a0_0 : Int} {a0_1 : List (Int × Int × Int)} {a0_2 : List Int} {a0_3 : List Int} {r0 : Arr 768} (h : impl_toTrapGoal.f k a0_0 a0_1 a0_2 a0_3 = some r0) (w : World) {va0_1 : Value} {va0_2 : Value} {va0_3 : Value} (hr_a0_1 : Rd w va0_1 a0_1) (hr_a0_2 : Rd w va0_2 a0_2) (hr_a0_3 : Rd w va0_3 a0_3) :
  Calls Try.prog 122 ([.agg ([.int .i64 a0_0, va0_1, va0_2, va0_3].toArray)] : List Value).toArray w (fun e w' => e = .returned (.agg (encA r0).toArray) ∧ Ext w w') := by
 unfold impl_toTrapGoal.f at h
 have hl_va0_1 := hr_a0_1.len
 have hl_va0_2 := hr_a0_2.len
 have hl_va0_3 := hr_a0_3.len
 refine Calls.of_tri (N := 6) Try.func122 rfl rfl rfl (Sep.nil (M := noM)) ?_
 refine Tri.seq (Tri.reg (l := [0, 1]) rfl ?_)
 refine F.mn rfl rfl rfl rfl (m_boxG rfl rfl) ?_
 rintro _ _ ⟨b1_1, rfl, rfl⟩
 refine F.mn rfl rfl rfl rfl (m_alloc ti125) ?_
 rintro _ _ ⟨b2_1, rfl, rfl⟩
 refine F.nil (Nrm.seq (Tri.seq ?_))
 obtain ⟨t5, h5, h⟩ := bind_some h
 refine Tri.reg (l := [0, 1, 2, 3]) rfl ?_
 refine F.qn rfl rfl rfl rfl (r_loadA ta66 ti66 rfl rfl (fun w hw => (box_cells (i := 1) rfl w hw))) ?_
 refine F.qn rfl rfl rfl rfl (r_makeFunc rfl) ?_
 refine F.qcn rfl rfl rfl rfl (q_callF (xs := _) rfl ok186 rfl rfl (fun w hw => impl_trapTo.ok h5 w ((fun _ hw => hr_a0_1.sep hw) w hw) ((fun _ hw => hr_a0_2.sep hw) w hw) ((fun _ hw => hr_a0_3.sep hw) w hw) ok187 (fun w2 he2 z0 z1 y2 hy2 => impl_toTrapGoal_1.ok hy2 w2 ((box_cells (i := 1) rfl w hw).ext he2) (((fun _ hw => hr_a0_1.sep hw) w hw).ext he2) (((fun _ hw => hr_a0_2.sep hw) w hw).ext he2) (((fun _ hw => hr_a0_3.sep hw) w hw).ext he2)))) ?_
 refine F.ef0 rfl rfl (wanted_none rfl) (d_storeArr (i := 0) (g := (Arr.rep 768 0)) (h := t5) ti125 rfl rfl rfl) ?_
 rintro _ _ ⟨rfl, rfl⟩
 refine F.nil (Nrm.seq (Tri.ret ?_))
 cases h
 exact Rtn.body (.cell rfl ta125 ti125 (encA_len _) (fun _ hw => box_cells (i := 0) rfl _ hw) .nil) (fun w hw => ⟨rfl, hw.ext⟩)


def slices_DeleteFunc_int_int.l0 (k : Nat) (a1 : (Int → Option (Bool))) : Nat → (List (Int)) → Int → Int → Option ((List (Int)) × Int)
 | 0, _, _, _ => none
 | n + 1, x0, x5, x6 => (if (decide (x6 < (x0.length : Int))) = true then (rdl x0 x6).bind fun t24 => (a1 t24).bind fun t28 => ((if (!t28) = true then (rdl x0 x5).bind fun t33 => some (x0.set x5.toNat t24, w64 (x5 + 1)) else some (x0, x5))).bind fun (y0, y5) => slices_DeleteFunc_int_int.l0 k a1 n y0 y5 (w64 (x6 + 1)) else some (x0, x5))

def slices_DeleteFunc_int_int.f (k : Nat) (a0 : List Int) (a1 : (Int → Option (Bool))) : Option ((List Int)) := (slices_IndexFunc_int_int.f k a0 a1).bind fun t10 => (if (t10 == (-1)) = true then some a0 else (slices_DeleteFunc_int_int.l0 k a1 k a0 t10 (w64 (t10 + 1))).bind fun (x0, x5) => (slc x0 x5 (x0.length : Int)).bind fun t38 => (slc (x0.take (x5 : Int).toNat ++ List.replicate (((x0.length : Int) : Int).toNat - (x5 : Int).toNat) (0 : Int) ++ x0.drop ((x0.length : Int) : Int).toNat) 0 x5).bind fun t41 => some t41)

theorem slices_DeleteFunc_int_int.ok {k : Nat}  {a0 : List Int} {a1 : (Int → Option (Bool))} {r0 : List Int} (h : slices_DeleteFunc_int_int.f k a0 a1 = some r0) (w : World) {va0 : Value} {Sa0 : Nat → Prop} (hl_va0 : SlLen va0 a0.length) {fi_a1 : FuncId} {ca_a1 : Array Value} (ho_a1 : CallOk Try.prog fi_a1) (hf_a1 : ∀ w2, Kp (footM [R.sl Sa0 va0 a0]) w w2 → ∀ (z0 : Int) (y : Bool), a1 z0 = some y → Calls Try.prog fi_a1 (([.int .i64 z0] : List Value) ++ ca_a1.toList).toArray w2 (fun e w3 => e = .returned (.bool y) ∧ Ext w2 w3)) (hw0 : Sep w (footM [R.sl Sa0 va0 a0]) [R.sl Sa0 va0 a0] w) :
  Calls Try.prog 123 ([va0, .func (.func fi_a1) #[] ca_a1] : List Value).toArray w (PostM (footM [R.sl Sa0 va0 a0]) (fun u ns => ∃ (Sr0 : Nat → Prop), SlLen u r0.length ∧ ns = [R.sl Sr0 u r0]) w) := by
 unfold slices_DeleteFunc_int_int.f at h
 refine Calls.of_tri (N := 42) Try.func123 rfl rfl rfl hw0 ?_
 refine Tri.seq (Tri.reg (l := [0]) rfl ?_)
 refine F.qn rfl rfl rfl rfl (r_assign rfl) ?_
 refine F.nil (Nrm.seq (Tri.seq ?_))
 obtain ⟨t10, h10, h⟩ := bind_some h
 refine Tri.reg (l := [0, 1, 2, 3]) rfl ?_
 refine F.qn rfl rfl rfl rfl (r_move rfl) ?_
 refine F.qn rfl rfl rfl rfl (r_move rfl) ?_
 refine F.qcn rfl rfl rfl rfl (q_callF (xs := _) rfl ok188 rfl rfl (fun w hw => slices_IndexFunc_int_int.ok h10 w ((rd_sl (i := 0) rfl) w hw) ho_a1 (fun w2 he2 => hf_a1 w2 (hw.kp.trans (he2.kp _))))) ?_
 refine F.qn rfl rfl rfl rfl (r_assign rfl) ?_
 refine F.nil (Nrm.seq (Tri.seq (Tri.seq (Tri.reg (l := [0, 1]) rfl ?_))))
 refine F.qn rfl rfl rfl rfl (r_move rfl) ?_
 refine F.qn rfl rfl rfl rfl (r_eql rfl rfl) ?_
 refine F.nil (Nrm.seq (Tri.cond (b := t10 == (-1)) rfl (fun g_1 => ?_) (fun g_1 => ?_)))
 ·replace h := if_tt g_1 h
  refine Tri.seq (Tri.reg (l := [0, 1]) rfl ?_)
  refine F.qn rfl rfl rfl rfl (r_move rfl) ?_
  refine F.qn rfl rfl rfl rfl (r_assign rfl) ?_
  refine F.nil (Nrm.seq (Tri.ret ?_))
  refine Rtn.then ?_
  cases h
  exact Rtn.body (.tmp rfl .nil) (fun w hw => ⟨_, _, rfl, ⟨Sa0, hl_va0, rfl⟩, Sep.pick (is := [0]) rfl rfl hw⟩)
 ·replace h := if_ff g_1 h
  refine Tri.skip (Nrm.seq (Tri.seq (Tri.seq (Tri.reg (l := [0, 1, 2]) rfl ?_))))
  refine F.qn rfl rfl rfl rfl (r_move rfl) ?_
  refine F.qn rfl rfl rfl rfl (r_add rfl rfl) ?_
  refine F.qn rfl rfl rfl rfl (r_assign rfl) ?_
  refine F.nil (Nrm.seq ?_)
  obtain ⟨⟨x0, x5⟩, hE_1, h⟩ := bind_some h
  refine Tri.block ?_
  refine Tri.only [0, 1, 5, 6] rfl ?_
  refine Tri.pick [0] rfl rfl ?_
  refine Tri.rounds (fun n e' C' => ∃ (x0' : List (Int)) (x5' : Int) (x6' : Int) (w0 : Value) (T0 : Nat → Prop), slices_DeleteFunc_int_int.l0 k a1 n x0' x5' x6' = some (x0, x5) ∧ SlLen w0 (x0').length ∧ e' = [(0, w0), (1, .func (.func fi_a1) #[] ca_a1), (5, .int .i64 x5'), (6, .int .i64 x6')] ∧ C' = Sep w (footM [R.sl Sa0 va0 a0]) [R.sl T0 w0 (x0' : List (Int))]) k ?_ ?_ ?_
  ·exact ⟨a0, t10, w64 (t10 + 1), va0, Sa0, hE_1, hl_va0, rfl, rfl⟩
  ·rintro _ _ ⟨_, _, _, _, _, hE_1, _⟩
   rw [slices_DeleteFunc_int_int.l0.eq_1] at hE_1; cases hE_1
  ·rintro n_1 _ _ ⟨x0, x5, x6, w0, T0, hE_1, hl_w0, rfl, rfl⟩ ih_1
   rw [slices_DeleteFunc_int_int.l0.eq_2] at hE_1
   refine Tri.seq (Tri.seq (Tri.reg (l := [0, 1, 2, 3]) rfl ?_))
   refine F.qn rfl rfl rfl rfl (r_move rfl) ?_
   refine F.qn rfl rfl rfl rfl (r_move rfl) ?_
   refine F.qn rfl rfl rfl rfl (r_len Try.underlying25 rfl hl_w0) ?_
   refine F.qn rfl rfl rfl rfl (r_lss rfl rfl) ?_
   refine F.nil (Nrm.seq (Tri.cond (b := decide (x6 < (x0.length : Int))) rfl (fun g_2 => ?_) (fun g_2 => ?_)))
   ·replace hE_1 := if_tt g_2 hE_1
    refine Tri.skip (Nrm.seq (Tri.seq (Tri.block ?_)))
    refine Tri.seq ?_
    obtain ⟨t24, h24, hE_1⟩ := bind_some hE_1
    refine Tri.reg (l := [0, 1, 2, 3, 4]) rfl ?_
    refine F.qn rfl rfl rfl rfl (r_move rfl) ?_
    refine F.qn rfl rfl rfl rfl (r_move rfl) ?_
    refine F.qn rfl rfl rfl rfl (r_indexAddrS Try.underlying25 ti3 rfl hl_w0 rfl (rdl_some h24).1 (rdl_some h24).2.1) ?_
    refine F.qn rfl rfl rfl rfl (r_load ta3 rfl (fun w hw => cell_0 (Rd.flat ((rd_sl (i := 0) rfl) w hw) (rdl_some h24).2.2) rfl)) ?_
    refine F.qn rfl rfl rfl rfl (r_assign rfl) ?_
    refine F.nil (Nrm.seq (Tri.seq ?_))
    obtain ⟨t28, h28, hE_1⟩ := bind_some hE_1
    refine Tri.reg (l := [0, 1, 2, 3]) rfl ?_
    refine F.qn rfl rfl rfl rfl (r_move rfl) ?_
    refine F.qn rfl rfl rfl rfl (r_move rfl) ?_
    refine F.qcn rfl rfl rfl rfl (q_callC (xs := _) rfl ho_a1 rfl rfl (fun w hw => hf_a1 w hw.kp _  _ h28)) ?_
    refine F.qn rfl rfl rfl rfl (r_not rfl) ?_
    refine F.nil (Nrm.seq ?_)
    obtain ⟨⟨y0, y5⟩, hE_2, hE_1⟩ := bind_some hE_1
    refine Tri.cut (fun e' C' => ∃ (v0_1 : Value) (S0_1 : Nat → Prop), SlLen v0_1 (y0).length ∧ e' = [(0, v0_1), (1, .func (.func fi_a1) #[] ca_a1), (5, .int .i64 y5), (6, .int .i64 x6)] ∧ C' = Sep w (footM [R.sl Sa0 va0 a0]) [R.sl S0_1 v0_1 (y0 : List (Int))]) ?_ (fun hj_1 => ?_)
    ·rintro _ _ ⟨v0_1, S0_1, hl_v0_1, rfl, rfl⟩
     refine Nrm.block ?_
     refine Nrm.seq (Tri.reg (l := [0, 1, 2]) rfl ?_)
     refine F.qn rfl rfl rfl rfl (r_move rfl) ?_
     refine F.qn rfl rfl rfl rfl (r_add rfl rfl) ?_
     refine F.qn rfl rfl rfl rfl (r_assign rfl) ?_
     refine F.nil (Nrm.round ?_)
     refine Rnd.only [0, 1, 5, 6] rfl ?_
     refine Rnd.pick [0] rfl rfl ?_
     exact ih_1 _ _ ⟨y0, y5, w64 (x6 + 1), v0_1, S0_1, hE_1, hl_v0_1, rfl, rfl⟩
    ·refine Tri.cond (b := !t28) rfl (fun g_3 => ?_) (fun g_3 => ?_)
     ·replace hE_2 := if_tt g_3 hE_2
      refine Tri.seq ?_
      obtain ⟨t33, h33, hE_2⟩ := bind_some hE_2
      refine Tri.reg (l := [0, 1, 2, 3, 4]) rfl ?_
      iterate 3 refine F.qn rfl rfl rfl rfl (r_move rfl) ?_
      refine F.qn rfl rfl rfl rfl (r_indexAddrS Try.underlying25 ti3 rfl hl_w0 rfl (rdl_some h33).1 (rdl_some h33).2.1) ?_
      refine F.ef0 rfl rfl (wanted_none rfl) (d_storeE (i := 0) (x1 := t24) ti3 rfl rfl rfl (rdl_some h33) rfl) ?_
      rintro _ _ ⟨rfl, rfl⟩
      refine F.nil (Nrm.seq (Tri.reg (l := [0, 1, 2]) rfl ?_))
      refine F.qn rfl rfl rfl rfl (r_move rfl) ?_
      refine F.qn rfl rfl rfl rfl (r_add rfl rfl) ?_
      refine F.qn rfl rfl rfl rfl (r_assign rfl) ?_
      refine F.nil ?_
      cases hE_2
      refine Nrm.only [0, 1, 5, 6] rfl ?_
      refine Nrm.pick [0] rfl rfl ?_
      exact hj_1 _ _ ⟨w0, T0, (len_set hl_w0), rfl, rfl⟩
     ·replace hE_2 := if_ff g_3 hE_2
      refine Tri.skip ?_
      cases hE_2
      refine Nrm.only [0, 1, 5, 6] rfl ?_
      refine Nrm.pick [0] rfl rfl ?_
      exact hj_1 _ _ ⟨w0, T0, hl_w0, rfl, rfl⟩
   ·replace hE_1 := if_ff g_2 hE_1
    refine Tri.exit ?_
    refine Exi.then ?_
    refine Exi.then ?_
    refine Exi.same ?_
    cases hE_1
    refine Nrm.seq (Tri.seq ?_)
    obtain ⟨t38, h38, h⟩ := bind_some h
    refine Tri.reg (l := [0, 1, 2, 3]) rfl ?_
    refine F.qn rfl rfl rfl rfl (r_move rfl) ?_
    refine F.qn rfl rfl rfl rfl (r_move rfl) ?_
    refine F.qn rfl rfl rfl rfl (r_sliceL Try.underlying25 ti3 rfl (rd_sl (i := 0) rfl) rfl h38) ?_
    refine F.ef0 rfl rfl (wanted_none rfl) (d_clear (i := 0) (x0 := (0 : Int)) Try.underlying25 ti3 rfl rfl rfl h38) ?_
    rintro _ _ rfl
    refine F.nil (Nrm.seq (Tri.seq ?_))
    obtain ⟨t41, h41, h⟩ := bind_some h
    refine Tri.reg (l := [0, 1, 2, 3]) rfl ?_
    refine F.qn rfl rfl rfl rfl (r_move rfl) ?_
    refine F.qn rfl rfl rfl rfl (r_move rfl) ?_
    refine F.qn rfl rfl rfl rfl (r_sliceH Try.underlying25 ti3 rfl (rd_sl (i := 0) rfl) rfl h41) ?_
    refine F.qn rfl rfl rfl rfl (r_assign rfl) ?_
    refine F.nil (Nrm.imp (fun w hw => Sep.resl (i := 0) rfl h41 hw) ?_)
    refine Nrm.seq (Tri.ret ?_)
    cases h
    exact Rtn.body (.tmp rfl .nil) (fun w hw => ⟨_, _, rfl, ⟨T0, (slc_len (clr_len hl_w0 (slc_b h38).1 (slc_b h38).2) h41), rfl⟩, Sep.pick (is := [0]) rfl rfl hw⟩)


def impl_GoodSteps_1.f (k : Nat) (a0 : Int) (c0 : Arr 768) (c1 : Int) (c2_0 : Int) (c2_1 : List (Int × Int × Int)) (c2_2 : List Int) (c2_3 : List Int) : Option (Bool) := (rdl c2_2 a0).bind fun t12 => if 0 ≤ a0 ∧ a0 < 12 then if 0 ≤ bor c1 t12 ∧ bor c1 t12 < 64 then some (decide ((Arr.at c0 (a0 * 64 + (bor c1 t12))) < 0)) else none else none

theorem impl_GoodSteps_1.ok {k : Nat} {pc0 : Addr} {pc1 : Addr} {pc2 : Addr} {a0 : Int} {c0 : Arr 768} {c1 : Int} {c2_0 : Int} {c2_1 : List (Int × Int × Int)} {c2_2 : List Int} {c2_3 : List Int} {r0 : Bool} (h : impl_GoodSteps_1.f k a0 c0 c1 c2_0 c2_1 c2_2 c2_3 = some r0) (w : World) {vc2_1 : Value} {vc2_2 : Value} {vc2_3 : Value} (hb_c0 : CellsAt w pc0 (encA c0)) (hb_c1 : CellsAt w pc1 [.int .i64 c1]) (hb_c2 : CellsAt w pc2 [.int .i64 c2_0, vc2_1, vc2_2, vc2_3]) (hr_c2_1 : Rd w vc2_1 c2_1) (hr_c2_2 : Rd w vc2_2 c2_2) (hr_c2_3 : Rd w vc2_3 c2_3) :
  Calls Try.prog 125 ([.int .i64 a0, .pointer (some pc0), .pointer (some pc1), .pointer (some pc2)] : List Value).toArray w (fun e w' => e = .returned (.bool r0) ∧ Ext w w') := by
 unfold impl_GoodSteps_1.f at h
 have hl_vc2_1 := hr_c2_1.len
 have hl_vc2_2 := hr_c2_2.len
 have hl_vc2_3 := hr_c2_3.len
 refine Calls.of_tri (N := 19) Try.func125 rfl rfl rfl (Sep.nil (M := noM)) ?_
 refine Tri.seq (Tri.reg (l := [0]) rfl ?_)
 refine F.qn rfl rfl rfl rfl (r_assign rfl) ?_
 refine F.nil (Nrm.seq (Tri.seq ?_))
 obtain ⟨t12, h12, h⟩ := bind_some h
 obtain ⟨hb15, h⟩ := ck h
 obtain ⟨hb16, h⟩ := ck h
 refine Tri.drawA mixedT Sep.up [(0, true), (1, true), (2, true), (3, true), (4, true), (5, true), (6, true), (7, true), (8, true), (9, true), (10, true), (11, true), (12, true), (13, true)] [] (by kernel_rfl) ?_
 refine S.qn rfl rfl rfl rfl (r_move rfl) ?_
 refine S.qn rfl rfl rfl rfl (r_load ta3 rfl (fun w hw => cell_0 (hb_c1.sep hw) rfl)) ?_
 refine S.qn rfl rfl rfl rfl (r_fieldAddr tf66_0 rfl) ?_
 refine S.qn rfl rfl rfl rfl (r_fieldAddr tf27_2 rfl) ?_
 refine S.qn rfl rfl rfl rfl (r_load ta25 rfl (fun w hw => cell_2 (hb_c2.sep hw) rfl)) ?_
 refine S.qn rfl rfl rfl rfl (r_move rfl) ?_
 refine S.qn rfl rfl rfl rfl (r_indexAddrS Try.underlying25 ti3 rfl hl_vc2_2 rfl (rdl_some h12).1 (rdl_some h12).2.1) ?_
 refine S.qn rfl rfl rfl rfl (r_load ta3 rfl (fun w hw => cell_0 (Rd.flat ((fun _ hw => hr_c2_2.sep hw) w hw) (rdl_some h12).2.2) rfl)) ?_
 refine S.qn rfl rfl rfl rfl (r_or rfl rfl) ?_
 refine S.qn rfl rfl rfl rfl (r_indexAddrA Try.underlying125 ti123 rfl rfl hb15.1 hb15.2) ?_
 refine S.qn rfl rfl rfl rfl (r_indexAddrA Try.underlying123 ti3 rfl rfl hb16.1 hb16.2) ?_
 refine S.qn rfl rfl rfl rfl (r_load ta3 rfl (fun w hw => cell_tab (g := c0) (m := 64) (hb_c0.sep hw) (tabB 12 64 768 hb15 rfl) hb16)) ?_
 refine S.qn rfl rfl rfl rfl (r_lss rfl rfl) ?_
 refine S.qn rfl rfl rfl rfl (r_assign rfl) ?_
 refine S.nil (F.nil (Nrm.seq (Tri.ret ?_)))
 cases h
 exact Rtn.body (.tmp rfl .nil) (fun w hw => ⟨rfl, hw.ext⟩)


def impl_GoodSteps.f (k : Nat) (a0_0 : Int) (a0_1 : List (Int × Int × Int)) (a0_2 : List Int) (a0_3 : List Int) (a1 : List Int) : Option ((List Int) × Bool) := (impl_StateBehind.f k a0_0 a0_1 a0_2 a0_3 a1).bind fun (t13_1, t13_2, t13_3) => (if (!t13_3) = true then some ([], false) else (impl_toTrapGoal.f k a0_0 a0_1 a0_2 a0_3).bind fun t20 => (impl_trapSteps.f k a0_0 a0_1 a0_2 a0_3 t13_1 t13_2).bind fun t24 => (impl_members.f k t24).bind fun t25 => (slices_DeleteFunc_int_int.f k t25 (fun z0 => impl_GoodSteps_1.f k z0 t20 t13_2 a0_0 a0_1 a0_2 a0_3)).bind fun t27 => some (t27, true))

theorem impl_GoodSteps.ok {k : Nat}  {a0_0 : Int} {a0_1 : List (Int × Int × Int)} {a0_2 : List Int} {a0_3 : List Int} {a1 : List Int} {r0 : List Int} {r1 : Bool} (h : impl_GoodSteps.f k a0_0 a0_1 a0_2 a0_3 a1 = some (r0, r1)) (w : World) {va0_1 : Value} {va0_2 : Value} {va0_3 : Value} {va1 : Value} (hr_a0_1 : Rd w va0_1 a0_1) (hr_a0_2 : Rd w va0_2 a0_2) (hr_a0_3 : Rd w va0_3 a0_3) (hr_a1 : Rd w va1 a1) :
  Calls Try.prog 49 ([.agg ([.int .i64 a0_0, va0_1, va0_2, va0_3].toArray), va1] : List Value).toArray w (Post (fun u ns => ∃ (ur0 : Value) (Sr0 : Nat → Prop), u = .tuple #[ur0, .bool r1] ∧ SlLen ur0 r0.length ∧ ns = [R.sl Sr0 ur0 r0]) w) := by
 unfold impl_GoodSteps.f at h
 have hl_va0_1 := hr_a0_1.len
 have hl_va0_2 := hr_a0_2.len
 have hl_va0_3 := hr_a0_3.len
 have hl_va1 := hr_a1.len
 refine Calls.of_tri (N := 28) Try.func49 rfl rfl rfl (Sep.nil (M := noM)) ?_
 refine Tri.seq (Tri.reg (l := [0, 1, 2]) rfl ?_)
 refine F.mn rfl rfl rfl rfl (m_boxG rfl rfl) ?_
 rintro _ _ ⟨b2_1, rfl, rfl⟩
 refine F.qn rfl rfl rfl rfl (r_assign rfl) ?_
 refine F.qn rfl rfl rfl rfl (r_assign rfl) ?_
 refine F.nil (Nrm.seq (Tri.seq ?_))
 obtain ⟨⟨t13_1, t13_2, t13_3⟩, h13, h⟩ := bind_some h
 refine Tri.reg (l := [0, 1, 2, 3, 4, 5, 6, 7, 8, 9, 10]) rfl ?_
 refine F.qn rfl rfl rfl rfl (r_loadA ta66 ti66 rfl rfl (fun w hw => (box_cells (i := 0) rfl w hw))) ?_
 refine F.qn rfl rfl rfl rfl (r_move rfl) ?_
 refine F.qcn rfl rfl rfl rfl (q_callF (xs := _) rfl ok64 rfl rfl (fun w hw => impl_StateBehind.ok h13 w ((fun _ hw => hr_a0_1.sep hw) w hw) ((fun _ hw => hr_a0_2.sep hw) w hw) ((fun _ hw => hr_a0_3.sep hw) w hw) ((fun _ hw => hr_a1.sep hw) w hw))) ?_
 refine F.qn rfl rfl rfl rfl (r_move rfl) ?_
 iterate 3 refine F.qn rfl rfl rfl rfl (r_extract rfl rfl) ?_
 refine F.mn rfl rfl rfl rfl (m_alloc ti3) ?_
 rintro _ _ ⟨b7_1, rfl, rfl⟩
 refine F.qn rfl rfl rfl rfl (r_assign rfl) ?_
 refine F.ef0 rfl rfl (wanted_none rfl) (d_storeG0 (i := 0) (cs2 := [.int .i64 t13_2]) ti3 rfl rfl rfl rfl rfl (Nat.le_of_ble_eq_true rfl) (lf_cons rfl lf_nil)) ?_
 rintro _ _ ⟨rfl, rfl⟩
 refine F.qn rfl rfl rfl rfl (r_assign rfl) ?_
 refine F.nil (Nrm.seq (Tri.seq (Tri.seq (Tri.reg (l := [0, 1]) rfl ?_))))
 refine F.qn rfl rfl rfl rfl (r_move rfl) ?_
 refine F.qn rfl rfl rfl rfl (r_not rfl) ?_
 refine F.nil (Nrm.seq (Tri.cond (b := !t13_3) rfl (fun g_1 => ?_) (fun g_1 => ?_)))
 ·replace h := if_tt g_1 h
  refine Tri.seq (Tri.reg (l := [0, 1]) rfl ?_)
  refine F.qn rfl rfl rfl rfl (r_assign rfl) ?_
  refine F.qn rfl rfl rfl rfl (r_assign rfl) ?_
  refine F.nil (Nrm.seq (Tri.ret ?_))
  refine Rtn.then ?_
  cases h
  exact Rtn.body (.tmp rfl (.tmp rfl .nil)) (fun w hw => ⟨_, _, rfl, ⟨.slice none 0 0, fun _ => False, rfl, len_nil, rfl⟩, Sep.pick (is := [0]) rfl rfl hw.pushNil⟩)
 ·replace h := if_ff g_1 h
  refine Tri.skip (Nrm.seq (Tri.seq ?_))
  obtain ⟨t20, h20, h⟩ := bind_some h
  refine Tri.reg (l := [0, 1, 2, 3]) rfl ?_
  refine F.qn rfl rfl rfl rfl (r_loadA ta66 ti66 rfl rfl (fun w hw => (box_cells (i := 1) rfl w hw))) ?_
  refine F.qcn rfl rfl rfl rfl (q_callF (xs := _) rfl ok122 rfl rfl (fun w hw => impl_toTrapGoal.ok h20 w ((fun _ hw => hr_a0_1.sep hw) w hw) ((fun _ hw => hr_a0_2.sep hw) w hw) ((fun _ hw => hr_a0_3.sep hw) w hw))) ?_
  refine F.mn rfl rfl rfl rfl (m_alloc ti125) ?_
  rintro _ _ ⟨b9_1, rfl, rfl⟩
  refine F.ef0 rfl rfl (wanted_none rfl) (d_storeArr (i := 0) (g := (Arr.rep 768 0)) (h := t20) ti125 rfl rfl rfl) ?_
  rintro _ _ ⟨rfl, rfl⟩
  refine F.nil (Nrm.seq (Tri.seq ?_))
  obtain ⟨t24, h24, h⟩ := bind_some h
  obtain ⟨t25, h25, h⟩ := bind_some h
  obtain ⟨t27, h27, h⟩ := bind_some h
  refine Tri.reg (l := [0, 1, 2, 3, 4, 5, 6, 7, 8]) rfl ?_
  refine F.qn rfl rfl rfl rfl (r_loadA ta66 ti66 rfl rfl (fun w hw => (box_cells (i := 2) rfl w hw))) ?_
  refine F.qn rfl rfl rfl rfl (r_move rfl) ?_
  refine F.qn rfl rfl rfl rfl (r_load ta3 rfl (fun w hw => cell_0 (box_cells (i := 1) rfl w hw) rfl)) ?_
  refine F.qcn rfl rfl rfl rfl (q_callF (xs := _) rfl ok124 rfl rfl (fun w hw => impl_trapSteps.ok h24 w ((fun _ hw => hr_a0_1.sep hw) w hw) ((fun _ hw => hr_a0_2.sep hw) w hw) ((fun _ hw => hr_a0_3.sep hw) w hw))) ?_
  refine F.mn rfl rfl rfl rfl (m_callF (xs := _) rfl ok98 rfl rfl (fun w hw => impl_members.ok h25 w )) ?_
  rintro v25_1 _ ⟨_, ⟨S25_1, hl_v25_1, rfl⟩, rfl⟩
  refine F.qn rfl rfl rfl rfl (r_makeFunc rfl) ?_
  refine F.efn rfl rfl rfl rfl (d_callM (xs := _) (cs := [R.sl S25_1 v25_1 (t25 : List (Int))]) (rest := [R.box b9_1 125 (encA t20), R.box b7_1 3 [.int .i64 t13_2], R.box b2_1 66 [.int .i64 a0_0, va0_1, va0_2, va0_3]]) [0] [1, 2, 3] rfl ok123 rfl rfl rfl rfl (fun w hw => slices_DeleteFunc_int_int.ok h27 w hl_v25_1 ok125 (fun w2 he2 z0 y2 hy2 => impl_GoodSteps_1.ok hy2 w2 (boxM (i := 0) rfl hw he2) (boxM (i := 1) rfl hw he2) (boxM (i := 2) rfl hw he2) (((hr_a0_1.down hw)).kp he2) (((hr_a0_2.down hw)).kp he2) (((hr_a0_3.down hw)).kp he2)) (Sep.sub hw))) ?_
  rintro v27_1 _ ⟨_, ⟨S27_1, hl_v27_1, rfl⟩, rfl⟩
  refine F.qn rfl rfl rfl rfl (r_assign rfl) ?_
  refine F.qn rfl rfl rfl rfl (r_assign rfl) ?_
  refine F.nil (Nrm.seq (Tri.ret ?_))
  cases h
  exact Rtn.body (.tmp rfl (.tmp rfl .nil)) (fun w hw => ⟨_, _, rfl, ⟨v27_1, S27_1, rfl, hl_v27_1, rfl⟩, Sep.pick (is := [0]) rfl rfl hw⟩)


def spec_l11Behind.l0 (k : Nat) (a0_0 : Int) (a0_1 : List (Int × Int × Int)) (a0_2 : List Int) (a0_3 : List Int) (a1 : List Int) : Nat → Int → Int → Option ((Int) ⊕ (Int × Int × Bool))
 | 0, _, _ => none
 | n + 1, x7, x8 => (if (decide (x8 < (a1.length : Int))) = true then ((rdl a1 x8).bind fun t36 => (spec_l1In.f k t36 0 (w64 (a0_0 - 1))).bind fun t42 => (if (!t42) = true then some true else (rdl a1 (w64 (x8 - 1))).bind fun t49 => (rdl a1 x8).bind fun t53 => (spec_l11Goes.f k a0_0 a0_1 a0_2 a0_3 t49 t53 x7).bind fun t56 => some (!t56))).bind fun y58 => (if y58 = true then some (Sum.inr (0, 0, false)) else (rdl a1 x8).bind fun t65 => (rdl a0_2 t65).bind fun t67 => spec_l11Behind.l0 k a0_0 a0_1 a0_2 a0_3 a1 n (bor x7 t67) (w64 (x8 + 1))) else some (Sum.inl x7))

def spec_l11Behind.f (k : Nat) (a0_0 : Int) (a0_1 : List (Int × Int × Int)) (a0_2 : List Int) (a0_3 : List Int) (a1 : List Int) : Option (Int × Int × Bool) := ((spec_l11Trap.f k a0_0 a0_1 a0_2 a0_3).bind fun t10 => (if (!t10) = true then some true else (if ((a1.length : Int) == 0) = true then some true else (rdl a1 0).bind fun t19 => some (t19 != 0)))).bind fun y22 => (if y22 = true then some (0, 0, false) else (rdl a0_2 0).bind fun t26 => (spec_l11Behind.l0 k a0_0 a0_1 a0_2 a0_3 a1 k t26 1).bind fun s => Lr s some fun x7 => (rdl a1 (w64 ((a1.length : Int) - 1))).bind fun t74 => some (t74, x7, true))

theorem spec_l11Behind.ok {k : Nat}  {a0_0 : Int} {a0_1 : List (Int × Int × Int)} {a0_2 : List Int} {a0_3 : List Int} {a1 : List Int} {r0 : Int} {r1 : Int} {r2 : Bool} (h : spec_l11Behind.f k a0_0 a0_1 a0_2 a0_3 a1 = some (r0, r1, r2)) (w : World) {va0_1 : Value} {va0_2 : Value} {va0_3 : Value} {va1 : Value} (hr_a0_1 : Rd w va0_1 a0_1) (hr_a0_2 : Rd w va0_2 a0_2) (hr_a0_3 : Rd w va0_3 a0_3) (hr_a1 : Rd w va1 a1) :
  Calls Try.prog 126 ([.agg ([.int .i64 a0_0, va0_1, va0_2, va0_3].toArray), va1] : List Value).toArray w (fun e w' => e = .returned (.tuple #[.int .i64 r0, .int .i64 r1, .bool r2]) ∧ Ext w w') := by
 unfold spec_l11Behind.f at h
 have hl_va0_1 := hr_a0_1.len
 have hl_va0_2 := hr_a0_2.len
 have hl_va0_3 := hr_a0_3.len
 have hl_va1 := hr_a1.len
 refine Calls.of_tri (N := 77) Try.func126 rfl rfl rfl (Sep.nil (M := noM)) ?_
 refine Tri.seq (Tri.reg (l := [0, 1, 2, 3]) rfl ?_)
 refine F.mn rfl rfl rfl rfl (m_boxG rfl rfl) ?_
 rintro _ _ ⟨b2_1, rfl, rfl⟩
 iterate 3 refine F.qn rfl rfl rfl rfl (r_assign rfl) ?_
 refine F.nil (Nrm.seq (Tri.seq (Tri.seq ?_)))
 obtain ⟨y22, hE_1, h⟩ := bind_some h
 refine Tri.cut (fun e' C' => e' = [(1, va1), (2, .pointer (some ⟨b2_1, 0, none⟩)), (22, .bool y22)] ∧ C' = Sep w noM [R.box b2_1 66 [.int .i64 a0_0, va0_1, va0_2, va0_3]]) ?_ (fun hj_1 => ?_)
 ·rintro _ _ ⟨rfl, rfl⟩
  refine Nrm.seq (Tri.cond (b := y22) rfl (fun g_1 => ?_) (fun g_1 => ?_))
  ·replace h := if_tt g_1 h
   refine Tri.seq (Tri.reg (l := [0, 1, 2]) rfl ?_)
   iterate 3 refine F.qn rfl rfl rfl rfl (r_assign rfl) ?_
   refine F.nil (Nrm.seq (Tri.ret ?_))
   refine Rtn.then ?_
   cases h
   exact Rtn.body (.tmp rfl (.tmp rfl (.tmp rfl .nil))) (fun w hw => ⟨rfl, hw.ext⟩)
  ·replace h := if_ff g_1 h
   refine Tri.skip (Nrm.seq (Tri.seq ?_))
   obtain ⟨t26, h26, h⟩ := bind_some h
   refine Tri.reg (l := [0, 1, 2, 3, 4, 5]) rfl ?_
   refine F.qn rfl rfl rfl rfl (r_fieldAddr tf66_0 rfl) ?_
   refine F.qn rfl rfl rfl rfl (r_fieldAddr tf27_2 rfl) ?_
   refine F.qn rfl rfl rfl rfl (r_load ta25 rfl (fun w hw => cell_2 (box_cells (i := 0) rfl w hw) rfl)) ?_
   refine F.qn rfl rfl rfl rfl (r_indexAddrS Try.underlying25 ti3 rfl hl_va0_2 rfl (rdl_some h26).1 (rdl_some h26).2.1) ?_
   refine F.qn rfl rfl rfl rfl (r_load ta3 rfl (fun w hw => cell_0 (Rd.flat ((fun _ hw => hr_a0_2.sep hw) w hw) (rdl_some h26).2.2) rfl)) ?_
   refine F.qn rfl rfl rfl rfl (r_assign rfl) ?_
   refine F.nil (Nrm.seq (Tri.seq (Tri.seq (Tri.reg (l := [0]) rfl ?_))))
   refine F.qn rfl rfl rfl rfl (r_assign rfl) ?_
   refine F.nil (Nrm.seq ?_)
   obtain ⟨s0, hE_2, h⟩ := bind_some h
   refine Tri.block ?_
   refine Tri.only [1, 2, 7, 8] rfl ?_
   refine Tri.pick [0] rfl rfl ?_
   refine Tri.rounds (fun n e' C' => ∃ (x7' : Int) (x8' : Int), spec_l11Behind.l0 k a0_0 a0_1 a0_2 a0_3 a1 n x7' x8' = some s0 ∧ e' = [(1, va1), (2, .pointer (some ⟨b2_1, 0, none⟩)), (7, .int .i64 x7'), (8, .int .i64 x8')] ∧ C' = Sep w noM [R.box b2_1 66 [.int .i64 a0_0, va0_1, va0_2, va0_3]]) k ?_ ?_ ?_
   ·exact ⟨t26, 1, hE_2, rfl, rfl⟩
   ·rintro _ _ ⟨_, _, hE_2, _⟩
    rw [spec_l11Behind.l0.eq_1] at hE_2; cases hE_2
   ·rintro n_1 _ _ ⟨x7, x8, hE_2, rfl, rfl⟩ ih_1
    rw [spec_l11Behind.l0.eq_2] at hE_2
    refine Tri.seq (Tri.seq (Tri.reg (l := [0, 1, 2, 3]) rfl ?_))
    refine F.qn rfl rfl rfl rfl (r_move rfl) ?_
    refine F.qn rfl rfl rfl rfl (r_move rfl) ?_
    refine F.qn rfl rfl rfl rfl (r_len Try.underlying25 rfl hl_va1) ?_
    refine F.qn rfl rfl rfl rfl (r_lss rfl rfl) ?_
    refine F.nil (Nrm.seq (Tri.cond (b := decide (x8 < (a1.length : Int))) rfl (fun g_2 => ?_) (fun g_2 => ?_)))
    ·replace hE_2 := if_tt g_2 hE_2
     refine Tri.skip (Nrm.seq (Tri.seq (Tri.block ?_)))
     refine Tri.seq (Tri.seq ?_)
     obtain ⟨y58, hE_3, hE_2⟩ := bind_some hE_2
     refine Tri.cut (fun e' C' => e' = [(1, va1), (2, .pointer (some ⟨b2_1, 0, none⟩)), (7, .int .i64 x7), (8, .int .i64 x8), (58, .bool y58)] ∧ C' = Sep w noM [R.box b2_1 66 [.int .i64 a0_0, va0_1, va0_2, va0_3]]) ?_ (fun hj_2 => ?_)
     ·rintro _ _ ⟨rfl, rfl⟩
      refine Nrm.seq (Tri.cond (b := y58) rfl (fun g_3 => ?_) (fun g_3 => ?_))
      ·replace hE_2 := if_tt g_3 hE_2
       refine Tri.seq (Tri.reg (l := [0, 1, 2]) rfl ?_)
       iterate 3 refine F.qn rfl rfl rfl rfl (r_assign rfl) ?_
       refine F.nil (Nrm.seq (Tri.ret ?_))
       refine Rtn.then ?_
       refine Rtn.block ?_
       refine Rtn.then ?_
       refine Rtn.then ?_
       refine Rtn.block ?_
       refine Rtn.then ?_
       cases hE_2
       replace h := Lr_inr h
       cases h
       exact Rtn.body (.tmp rfl (.tmp rfl (.tmp rfl .nil))) (fun w hw => ⟨rfl, hw.ext⟩)
      ·replace hE_2 := if_ff g_3 hE_2
       refine Tri.skip (Nrm.seq ?_)
       obtain ⟨t65, h65, hE_2⟩ := bind_some hE_2
       obtain ⟨t67, h67, hE_2⟩ := bind_some hE_2
       refine Tri.drawA mixedT Sep.up [(0, true), (1, true), (2, true), (3, true), (4, true), (5, true), (6, true), (7, true), (8, true), (9, true), (10, true), (11, true)] [] (by kernel_rfl) ?_
       refine S.qn rfl rfl rfl rfl (r_move rfl) ?_
       refine S.qn rfl rfl rfl rfl (r_fieldAddr tf66_0 rfl) ?_
       refine S.qn rfl rfl rfl rfl (r_fieldAddr tf27_2 rfl) ?_
       refine S.qn rfl rfl rfl rfl (r_load ta25 rfl (fun w hw => cell_2 (box_cells (i := 0) rfl w hw) rfl)) ?_
       refine S.qn rfl rfl rfl rfl (r_move rfl) ?_
       refine S.qn rfl rfl rfl rfl (r_move rfl) ?_
       refine S.qn rfl rfl rfl rfl (r_indexAddrS Try.underlying25 ti3 rfl hl_va1 rfl (rdl_some h65).1 (rdl_some h65).2.1) ?_
       refine S.qn rfl rfl rfl rfl (r_load ta3 rfl (fun w hw => cell_0 (Rd.flat ((fun _ hw => hr_a1.sep hw) w hw) (rdl_some h65).2.2) rfl)) ?_
       refine S.qn rfl rfl rfl rfl (r_indexAddrS Try.underlying25 ti3 rfl hl_va0_2 rfl (rdl_some h67).1 (rdl_some h67).2.1) ?_
       refine S.qn rfl rfl rfl rfl (r_load ta3 rfl (fun w hw => cell_0 (Rd.flat ((fun _ hw => hr_a0_2.sep hw) w hw) (rdl_some h67).2.2) rfl)) ?_
       refine S.qn rfl rfl rfl rfl (r_or rfl rfl) ?_
       refine S.qn rfl rfl rfl rfl (r_assign rfl) ?_
       refine S.nil (F.nil (Nrm.block ?_))
       refine Nrm.seq (Tri.reg (l := [0, 1, 2]) rfl ?_)
       refine F.qn rfl rfl rfl rfl (r_move rfl) ?_
       refine F.qn rfl rfl rfl rfl (r_add rfl rfl) ?_
       refine F.qn rfl rfl rfl rfl (r_assign rfl) ?_
       refine F.nil (Nrm.round ?_)
       refine Rnd.only [1, 2, 7, 8] rfl ?_
       refine Rnd.pick [0] rfl rfl ?_
       exact ih_1 _ _ ⟨bor x7 t67, w64 (x8 + 1), hE_2, rfl, rfl⟩
     ·obtain ⟨t36, h36, hE_3⟩ := bind_some hE_3
      obtain ⟨t42, h42, hE_3⟩ := bind_some hE_3
      rcases Bool.eq_false_or_eq_true (!t42) with g44 | g44
      ·replace hE_3 := if_tt g44 hE_3
       refine Tri.drawA mixedT Sep.up [(0, true), (1, true), (2, true), (3, true), (4, true), (5, true), (6, true), (7, true), (8, true), (9, true), (10, true), (11, true), (12, true), (13, true), (14, true), (15, true), (16, true), (17, true), (18, true), (19, true), (20, true), (21, true), (22, true), (23, true), (24, true)] [] (by kernel_rfl) ?_
       refine S.qn rfl rfl rfl rfl (r_move rfl) ?_
       refine S.qn rfl rfl rfl rfl (r_move rfl) ?_
       refine S.qn rfl rfl rfl rfl (r_indexAddrS Try.underlying25 ti3 rfl hl_va1 rfl (rdl_some h36).1 (rdl_some h36).2.1) ?_
       refine S.qn rfl rfl rfl rfl (r_load ta3 rfl (fun w hw => cell_0 (Rd.flat ((fun _ hw => hr_a1.sep hw) w hw) (rdl_some h36).2.2) rfl)) ?_
       refine S.qn rfl rfl rfl rfl (r_fieldAddr tf66_0 rfl) ?_
       refine S.qn rfl rfl rfl rfl (r_fieldAddr tf27_0 rfl) ?_
       refine S.qn rfl rfl rfl rfl (r_load ta3 rfl (fun w hw => cell_2 (box_cells (i := 0) rfl w hw) rfl)) ?_
       refine S.qn rfl rfl rfl rfl (r_sub rfl rfl) ?_
       refine S.qcn rfl rfl rfl rfl (q_callF (xs := _) rfl ok105 rfl rfl (fun w hw => spec_l1In.ok h42 w )) ?_
       refine S.qn rfl rfl rfl rfl (r_not rfl) ?_
       refine S.qn rfl rfl rfl rfl (r_move rfl) ?_
       iterate 13 refine S.sk rfl rfl rfl (wf rfl rfl rfl g44) ?_
       refine S.qn rfl rfl rfl rfl (r_pick rfl rfl g44) ?_
       refine S.nil (F.nil ?_)
       cases hE_3
       refine Nrm.only [1, 2, 7, 8, 58] rfl ?_
       refine Nrm.pick [0] rfl rfl ?_
       exact hj_2 _ _ ⟨rfl, rfl⟩
      ·replace hE_3 := if_ff g44 hE_3
       obtain ⟨t49, h49, hE_3⟩ := bind_some hE_3
       obtain ⟨t53, h53, hE_3⟩ := bind_some hE_3
       obtain ⟨t56, h56, hE_3⟩ := bind_some hE_3
       refine Tri.drawA mixedT Sep.up [(0, true), (1, true), (2, true), (3, true), (4, true), (5, true), (6, true), (7, true), (8, true), (9, true), (10, true), (11, true), (12, true), (13, true), (14, true), (15, true), (16, true), (17, true), (18, true), (19, true), (20, true), (21, true), (22, true), (23, true), (24, true)] [] (by kernel_rfl) ?_
       refine S.qn rfl rfl rfl rfl (r_move rfl) ?_
       refine S.qn rfl rfl rfl rfl (r_move rfl) ?_
       refine S.qn rfl rfl rfl rfl (r_indexAddrS Try.underlying25 ti3 rfl hl_va1 rfl (rdl_some h36).1 (rdl_some h36).2.1) ?_
       refine S.qn rfl rfl rfl rfl (r_load ta3 rfl (fun w hw => cell_0 (Rd.flat ((fun _ hw => hr_a1.sep hw) w hw) (rdl_some h36).2.2) rfl)) ?_
       refine S.qn rfl rfl rfl rfl (r_fieldAddr tf66_0 rfl) ?_
       refine S.qn rfl rfl rfl rfl (r_fieldAddr tf27_0 rfl) ?_
       refine S.qn rfl rfl rfl rfl (r_load ta3 rfl (fun w hw => cell_2 (box_cells (i := 0) rfl w hw) rfl)) ?_
       refine S.qn rfl rfl rfl rfl (r_sub rfl rfl) ?_
       refine S.qcn rfl rfl rfl rfl (q_callF (xs := _) rfl ok105 rfl rfl (fun w hw => spec_l1In.ok h42 w )) ?_
       refine S.qn rfl rfl rfl rfl (r_not rfl) ?_
       refine S.qn rfl rfl rfl rfl (r_move rfl) ?_
       refine S.qg rfl rfl rfl rfl rfl rfl g44 (r_loadA ta66 ti66 rfl rfl (fun w hw => (box_cells (i := 0) rfl w hw))) ?_
       refine S.qg rfl rfl rfl rfl rfl rfl g44 (r_move rfl) ?_
       refine S.qg rfl rfl rfl rfl rfl rfl g44 (r_move rfl) ?_
       refine S.qg rfl rfl rfl rfl rfl rfl g44 (r_sub rfl rfl) ?_
       refine S.qg rfl rfl rfl rfl rfl rfl g44 (r_indexAddrS Try.underlying25 ti3 rfl hl_va1 rfl (rdl_some h49).1 (rdl_some h49).2.1) ?_
       refine S.qg rfl rfl rfl rfl rfl rfl g44 (r_load ta3 rfl (fun w hw => cell_0 (Rd.flat ((fun _ hw => hr_a1.sep hw) w hw) (rdl_some h49).2.2) rfl)) ?_
       refine S.qg rfl rfl rfl rfl rfl rfl g44 (r_move rfl) ?_
       refine S.qg rfl rfl rfl rfl rfl rfl g44 (r_move rfl) ?_
       refine S.qg rfl rfl rfl rfl rfl rfl g44 (r_indexAddrS Try.underlying25 ti3 rfl hl_va1 rfl (rdl_some h53).1 (rdl_some h53).2.1) ?_
       refine S.qg rfl rfl rfl rfl rfl rfl g44 (r_load ta3 rfl (fun w hw => cell_0 (Rd.flat ((fun _ hw => hr_a1.sep hw) w hw) (rdl_some h53).2.2) rfl)) ?_
       refine S.qg rfl rfl rfl rfl rfl rfl g44 (r_move rfl) ?_
       refine S.qc rfl rfl rfl (wg rfl rfl rfl g44) (q_callF (xs := _) rfl ok190 rfl rfl (fun w hw => spec_l11Goes.ok h56 w ((fun _ hw => hr_a0_1.sep hw) w hw) ((fun _ hw => hr_a0_2.sep hw) w hw) ((fun _ hw => hr_a0_3.sep hw) w hw))) ?_
       refine S.qg rfl rfl rfl rfl rfl rfl g44 (r_not rfl) ?_
       refine S.qn rfl rfl rfl rfl (r_pickf rfl rfl g44) ?_
       refine S.nil (F.nil ?_)
       cases hE_3
       refine Nrm.only [1, 2, 7, 8, 58] rfl ?_
       refine Nrm.pick [0] rfl rfl ?_
       exact hj_2 _ _ ⟨rfl, rfl⟩
    ·replace hE_2 := if_ff g_2 hE_2
     refine Tri.exit ?_
     refine Exi.then ?_
     refine Exi.then ?_
     refine Exi.same ?_
     cases hE_2
     replace h := Lr_inl h
     refine Nrm.seq (Tri.seq ?_)
     obtain ⟨t74, h74, h⟩ := bind_some h
     refine Tri.reg (l := [0, 1, 2, 3, 4, 5, 6, 7, 8, 9]) rfl ?_
     refine F.qn rfl rfl rfl rfl (r_move rfl) ?_
     refine F.qn rfl rfl rfl rfl (r_move rfl) ?_
     refine F.qn rfl rfl rfl rfl (r_len Try.underlying25 rfl hl_va1) ?_
     refine F.qn rfl rfl rfl rfl (r_sub rfl rfl) ?_
     refine F.qn rfl rfl rfl rfl (r_indexAddrS Try.underlying25 ti3 rfl hl_va1 rfl (rdl_some h74).1 (rdl_some h74).2.1) ?_
     refine F.qn rfl rfl rfl rfl (r_load ta3 rfl (fun w hw => cell_0 (Rd.flat ((fun _ hw => hr_a1.sep hw) w hw) (rdl_some h74).2.2) rfl)) ?_
     refine F.qn rfl rfl rfl rfl (r_move rfl) ?_
     iterate 3 refine F.qn rfl rfl rfl rfl (r_assign rfl) ?_
     refine F.nil (Nrm.seq (Tri.ret ?_))
     cases h
     exact Rtn.body (.tmp rfl (.tmp rfl (.tmp rfl .nil))) (fun w hw => ⟨rfl, hw.ext⟩)
 ·obtain ⟨t10, h10, hE_1⟩ := bind_some hE_1
  rcases Bool.eq_false_or_eq_true (!t10) with g12 | g12
  ·replace hE_1 := if_tt g12 hE_1
   refine Tri.reg (l := List.range 14) rfl ?_
   refine F.qn rfl rfl rfl rfl (r_loadA ta66 ti66 rfl rfl (fun w hw => (box_cells (i := 0) rfl w hw))) ?_
   refine F.qcn rfl rfl rfl rfl (q_callF (xs := _) rfl ok131 rfl rfl (fun w hw => spec_l11Trap.ok h10 w ((fun _ hw => hr_a0_1.sep hw) w hw) ((fun _ hw => hr_a0_2.sep hw) w hw) ((fun _ hw => hr_a0_3.sep hw) w hw))) ?_
   refine F.qn rfl rfl rfl rfl (r_not rfl) ?_
   refine F.qn rfl rfl rfl rfl (r_move rfl) ?_
   iterate 3 refine F.sk rfl rfl rfl (wf rfl rfl rfl g12) ?_
   refine F.qn rfl rfl rfl rfl (r_pick rfl rfl g12) ?_
   refine F.qn rfl rfl rfl rfl (r_move rfl) ?_
   iterate 4 refine F.sk rfl rfl rfl (wf rfl rfl rfl rfl) ?_
   refine F.qn rfl rfl rfl rfl (r_pick rfl rfl rfl) ?_
   refine F.nil ?_
   cases hE_1
   refine Nrm.only [1, 2, 22] rfl ?_
   refine Nrm.pick [0] rfl rfl ?_
   exact hj_1 _ _ ⟨rfl, rfl⟩
  ·replace hE_1 := if_ff g12 hE_1
   rcases Bool.eq_false_or_eq_true ((a1.length : Int) == 0) with g17 | g17
   ·replace hE_1 := if_tt g17 hE_1
    refine Tri.reg (l := List.range 14) rfl ?_
    refine F.qn rfl rfl rfl rfl (r_loadA ta66 ti66 rfl rfl (fun w hw => (box_cells (i := 0) rfl w hw))) ?_
    refine F.qcn rfl rfl rfl rfl (q_callF (xs := _) rfl ok131 rfl rfl (fun w hw => spec_l11Trap.ok h10 w ((fun _ hw => hr_a0_1.sep hw) w hw) ((fun _ hw => hr_a0_2.sep hw) w hw) ((fun _ hw => hr_a0_3.sep hw) w hw))) ?_
    refine F.qn rfl rfl rfl rfl (r_not rfl) ?_
    refine F.qn rfl rfl rfl rfl (r_move rfl) ?_
    refine F.qg rfl rfl rfl rfl rfl rfl g12 (r_move rfl) ?_
    refine F.qg rfl rfl rfl rfl rfl rfl g12 (r_len Try.underlying25 rfl hl_va1) ?_
    refine F.qg rfl rfl rfl rfl rfl rfl g12 (r_eql rfl rfl) ?_
    refine F.qn rfl rfl rfl rfl (r_pickf rfl rfl g12) ?_
    refine F.qn rfl rfl rfl rfl (r_move rfl) ?_
    iterate 4 refine F.sk rfl rfl rfl (wf rfl rfl rfl g17) ?_
    refine F.qn rfl rfl rfl rfl (r_pick rfl rfl g17) ?_
    refine F.nil ?_
    cases hE_1
    refine Nrm.only [1, 2, 22] rfl ?_
    refine Nrm.pick [0] rfl rfl ?_
    exact hj_1 _ _ ⟨rfl, rfl⟩
   ·replace hE_1 := if_ff g17 hE_1
    obtain ⟨t19, h19, hE_1⟩ := bind_some hE_1
    refine Tri.reg (l := List.range 14) rfl ?_
    refine F.qn rfl rfl rfl rfl (r_loadA ta66 ti66 rfl rfl (fun w hw => (box_cells (i := 0) rfl w hw))) ?_
    refine F.qcn rfl rfl rfl rfl (q_callF (xs := _) rfl ok131 rfl rfl (fun w hw => spec_l11Trap.ok h10 w ((fun _ hw => hr_a0_1.sep hw) w hw) ((fun _ hw => hr_a0_2.sep hw) w hw) ((fun _ hw => hr_a0_3.sep hw) w hw))) ?_
    refine F.qn rfl rfl rfl rfl (r_not rfl) ?_
    refine F.qn rfl rfl rfl rfl (r_move rfl) ?_
    refine F.qg rfl rfl rfl rfl rfl rfl g12 (r_move rfl) ?_
    refine F.qg rfl rfl rfl rfl rfl rfl g12 (r_len Try.underlying25 rfl hl_va1) ?_
    refine F.qg rfl rfl rfl rfl rfl rfl g12 (r_eql rfl rfl) ?_
    refine F.qn rfl rfl rfl rfl (r_pickf rfl rfl g12) ?_
    refine F.qn rfl rfl rfl rfl (r_move rfl) ?_
    refine F.qg rfl rfl rfl rfl rfl rfl g17 (r_move rfl) ?_
    refine F.qg rfl rfl rfl rfl rfl rfl g17 (r_indexAddrS Try.underlying25 ti3 rfl hl_va1 rfl (rdl_some h19).1 (rdl_some h19).2.1) ?_
    refine F.qg rfl rfl rfl rfl rfl rfl g17 (r_load ta3 rfl (fun w hw => cell_0 (Rd.flat ((fun _ hw => hr_a1.sep hw) w hw) (rdl_some h19).2.2) rfl)) ?_
    refine F.qg rfl rfl rfl rfl rfl rfl g17 (r_neq rfl rfl) ?_
    refine F.qn rfl rfl rfl rfl (r_pickf rfl rfl g17) ?_
    refine F.nil ?_
    cases hE_1
    refine Nrm.only [1, 2, 22] rfl ?_
    refine Nrm.pick [0] rfl rfl ?_
    exact hj_1 _ _ ⟨rfl, rfl⟩


def spec_l11Good.l2 (k : Nat) (x3r : List (Bool)) (t40 : List Int) : Nat → Bool → Int → Option (Bool)
 | 0, _, _ => none
 | n + 1, x8, x10 => (if (decide (x10 < (t40.length : Int))) = true then ((if x8 = true then some true else (rdl t40 x10).bind fun t52 => (rdl x3r t52).bind fun t54 => some t54)).bind fun y8 => spec_l11Good.l2 k x3r t40 n y8 (w64 (x10 + 1)) else some x8)

def spec_l11Good.l1 (k : Nat) (a0_0 : Int) (a0_1 : List (Int × Int × Int)) (a0_2 : List Int) (a0_3 : List Int) : Nat → (List (Bool)) → Bool → Int → Option ((List (Bool)) × Bool)
 | 0, _, _, _ => none
 | n + 1, x3r, x4r, x5 => (if (decide (x5 < (x3r.length : Int))) = true then ((rdl x3r x5).bind fun t25 => (if t25 = true then some (x3r, x4r) else (spec_l11Step.f k a0_0 a0_1 a0_2 a0_3 (quo x5 64) (rem x5 64)).bind fun t40 => (spec_l11Good.l2 k x3r t40 k ((quo x5 64) == (w64 (a0_0 - 1))) 0).bind fun x8 => ((if x8 = true then (rdl x3r x5).bind fun t60 => some (x3r.set x5.toNat true, true) else some (x3r, x4r))).bind fun (y3, y4) => some (y3, y4))).bind fun (y3, y4) => spec_l11Good.l1 k a0_0 a0_1 a0_2 a0_3 n y3 y4 (w64 (x5 + 1)) else some (x3r, x4r))

def spec_l11Good.l0 (k : Nat) (a0_0 : Int) (a0_1 : List (Int × Int × Int)) (a0_2 : List Int) (a0_3 : List Int) : Nat → (List (Bool)) → Bool → Option ((List (Bool)))
 | 0, _, _ => none
 | n + 1, x3, x4 => (if x4 = true then (spec_l11Good.l1 k a0_0 a0_1 a0_2 a0_3 k x3 false 0).bind fun (x3r, x4r) => spec_l11Good.l0 k a0_0 a0_1 a0_2 a0_3 n x3r x4r else some x3)

def spec_l11Good.f (k : Nat) (a0_0 : Int) (a0_1 : List (Int × Int × Int)) (a0_2 : List Int) (a0_3 : List Int) : Option ((List Bool)) := if 0 ≤ w64 (a0_0 * 64) ∧ w64 (a0_0 * 64) < 1099511627776 then (spec_l11Good.l0 k a0_0 a0_1 a0_2 a0_3 k (List.replicate (w64 (a0_0 * 64)).toNat (false : Bool)) true).bind fun x3 => some x3 else none

theorem spec_l11Good.ok {k : Nat}  {a0_0 : Int} {a0_1 : List (Int × Int × Int)} {a0_2 : List Int} {a0_3 : List Int} {r0 : List Bool} (h : spec_l11Good.f k a0_0 a0_1 a0_2 a0_3 = some r0) (w : World) {va0_1 : Value} {va0_2 : Value} {va0_3 : Value} (hr_a0_1 : Rd w va0_1 a0_1) (hr_a0_2 : Rd w va0_2 a0_2) (hr_a0_3 : Rd w va0_3 a0_3) :
  Calls Try.prog 127 ([.agg ([.int .i64 a0_0, va0_1, va0_2, va0_3].toArray)] : List Value).toArray w (Post (fun u ns => ∃ (Sr0 : Nat → Prop), SlLen u r0.length ∧ ns = [R.sl Sr0 u r0]) w) := by
 unfold spec_l11Good.f at h
 have hl_va0_1 := hr_a0_1.len
 have hl_va0_2 := hr_a0_2.len
 have hl_va0_3 := hr_a0_3.len
 refine Calls.of_tri (N := 62) Try.func127 rfl rfl rfl (Sep.nil (M := noM)) ?_
 refine Tri.seq (Tri.reg (l := [0, 1]) rfl ?_)
 refine F.mn rfl rfl rfl rfl (m_boxG rfl rfl) ?_
 rintro _ _ ⟨b1_1, rfl, rfl⟩
 refine F.qn rfl rfl rfl rfl (r_assign rfl) ?_
 refine F.nil (Nrm.seq (Tri.seq ?_))
 obtain ⟨hm15, h⟩ := ck h
 refine Tri.reg (l := [0, 1, 2, 3, 4, 5]) rfl ?_
 refine F.qn rfl rfl rfl rfl (r_fieldAddr tf66_0 rfl) ?_
 refine F.qn rfl rfl rfl rfl (r_fieldAddr tf27_0 rfl) ?_
 refine F.qn rfl rfl rfl rfl (r_load ta3 rfl (fun w hw => cell_2 (box_cells (i := 0) rfl w hw) rfl)) ?_
 refine F.qn rfl rfl rfl rfl (r_mul rfl rfl) ?_
 refine F.mn rfl rfl rfl rfl (m_make (x0 := (false : Bool)) Try.underlying129 ti4 rfl rfl rfl hm15.1 hm15.2 (by decide)) ?_
 rintro v15_1 _ ⟨S15_1, hl_v15_1, rfl⟩
 refine F.qn rfl rfl rfl rfl (r_assign rfl) ?_
 refine F.nil (Nrm.seq (Tri.seq (Tri.seq (Tri.reg (l := [0]) rfl ?_))))
 refine F.qn rfl rfl rfl rfl (r_assign rfl) ?_
 refine F.nil (Nrm.seq ?_)
 obtain ⟨x3, hE_1, h⟩ := bind_some h
 refine Tri.block ?_
 refine Tri.only [1, 3, 4] rfl ?_
 refine Tri.pick [1, 0] rfl rfl ?_
 refine Tri.rounds (fun n e' C' => ∃ (x3' : List (Bool)) (x4' : Bool) (w3 : Value) (T3 : Nat → Prop), spec_l11Good.l0 k a0_0 a0_1 a0_2 a0_3 n x3' x4' = some x3 ∧ SlLen w3 (x3').length ∧ e' = [(1, .pointer (some ⟨b1_1, 0, none⟩)), (3, w3), (4, .bool x4')] ∧ C' = Sep w noM [R.box b1_1 66 [.int .i64 a0_0, va0_1, va0_2, va0_3], R.sl T3 w3 (x3' : List (Bool))]) k ?_ ?_ ?_
 ·exact ⟨List.replicate (w64 (a0_0 * 64)).toNat (false : Bool), true, v15_1, S15_1, hE_1, hl_v15_1, rfl, rfl⟩
 ·rintro _ _ ⟨_, _, _, _, hE_1, _⟩
  rw [spec_l11Good.l0.eq_1] at hE_1; cases hE_1
 ·rintro n_1 _ _ ⟨x3, x4, w3, T3, hE_1, hl_w3, rfl, rfl⟩ ih_1
  rw [spec_l11Good.l0.eq_2] at hE_1
  refine Tri.seq (Tri.seq (Tri.reg (l := [0]) rfl ?_))
  refine F.qn rfl rfl rfl rfl (r_move rfl) ?_
  refine F.nil (Nrm.seq (Tri.cond (b := x4) rfl (fun g_1 => ?_) (fun g_1 => ?_)))
  ·replace hE_1 := if_tt g_1 hE_1
   refine Tri.skip (Nrm.seq (Tri.block ?_))
   refine Tri.seq (Tri.reg (l := [0]) rfl ?_)
   refine F.qn rfl rfl rfl rfl (r_assign rfl) ?_
   refine F.nil (Nrm.seq (Tri.seq (Tri.reg (l := [0]) rfl ?_)))
   refine F.qn rfl rfl rfl rfl (r_assign rfl) ?_
   refine F.nil (Nrm.seq ?_)
   obtain ⟨⟨x3r, x4r⟩, hE_2, hE_1⟩ := bind_some hE_1
   refine Tri.block ?_
   refine Tri.only [1, 3, 4, 5] rfl ?_
   refine Tri.pick [0, 1] rfl rfl ?_
   refine Tri.rounds (fun n e' C' => ∃ (x3r' : List (Bool)) (x4r' : Bool) (x5' : Int) (w3r : Value) (T3r : Nat → Prop), spec_l11Good.l1 k a0_0 a0_1 a0_2 a0_3 n x3r' x4r' x5' = some (x3r, x4r) ∧ SlLen w3r (x3r').length ∧ e' = [(1, .pointer (some ⟨b1_1, 0, none⟩)), (3, w3r), (4, .bool x4r'), (5, .int .i64 x5')] ∧ C' = Sep w noM [R.box b1_1 66 [.int .i64 a0_0, va0_1, va0_2, va0_3], R.sl T3r w3r (x3r' : List (Bool))]) k ?_ ?_ ?_
   ·exact ⟨x3, false, 0, w3, T3, hE_2, hl_w3, rfl, rfl⟩
   ·rintro _ _ ⟨_, _, _, _, _, hE_2, _⟩
    rw [spec_l11Good.l1.eq_1] at hE_2; cases hE_2
   ·rintro n_2 _ _ ⟨x3r, x4r, x5, w3r, T3r, hE_2, hl_w3r, rfl, rfl⟩ ih_2
    rw [spec_l11Good.l1.eq_2] at hE_2
    refine Tri.seq (Tri.seq (Tri.reg (l := [0, 1, 2, 3]) rfl ?_))
    refine F.qn rfl rfl rfl rfl (r_move rfl) ?_
    refine F.qn rfl rfl rfl rfl (r_move rfl) ?_
    refine F.qn rfl rfl rfl rfl (r_len Try.underlying129 rfl hl_w3r) ?_
    refine F.qn rfl rfl rfl rfl (r_lss rfl rfl) ?_
    refine F.nil (Nrm.seq (Tri.cond (b := decide (x5 < (x3r.length : Int))) rfl (fun g_2 => ?_) (fun g_2 => ?_)))
    ·replace hE_2 := if_tt g_2 hE_2
     refine Tri.skip (Nrm.seq (Tri.seq ?_))
     obtain ⟨⟨y3, y4⟩, hE_3, hE_2⟩ := bind_some hE_2
     refine Tri.cut (fun e' C' => ∃ (v3_1 : Value) (S3_1 : Nat → Prop), SlLen v3_1 (y3).length ∧ e' = [(1, .pointer (some ⟨b1_1, 0, none⟩)), (3, v3_1), (4, .bool y4), (5, .int .i64 x5)] ∧ C' = Sep w noM [R.box b1_1 66 [.int .i64 a0_0, va0_1, va0_2, va0_3], R.sl S3_1 v3_1 (y3 : List (Bool))]) ?_ (fun hj_1 => ?_)
     ·rintro _ _ ⟨v3_1, S3_1, hl_v3_1, rfl, rfl⟩
      refine Nrm.seq (Tri.reg (l := [0, 1, 2]) rfl ?_)
      refine F.qn rfl rfl rfl rfl (r_move rfl) ?_
      refine F.qn rfl rfl rfl rfl (r_add rfl rfl) ?_
      refine F.qn rfl rfl rfl rfl (r_assign rfl) ?_
      refine F.nil (Nrm.round ?_)
      refine Rnd.only [1, 3, 4, 5] rfl ?_
      refine Rnd.pick [0, 1] rfl rfl ?_
      exact ih_2 _ _ ⟨y3, y4, w64 (x5 + 1), v3_1, S3_1, hE_2, hl_v3_1, rfl, rfl⟩
     ·refine Tri.block ?_
      refine Tri.seq (Tri.seq ?_)
      obtain ⟨t25, h25, hE_3⟩ := bind_some hE_3
      refine Tri.reg (l := [0, 1, 2, 3]) rfl ?_
      refine F.qn rfl rfl rfl rfl (r_move rfl) ?_
      refine F.qn rfl rfl rfl rfl (r_move rfl) ?_
      refine F.qn rfl rfl rfl rfl (r_indexAddrS Try.underlying129 ti4 rfl hl_w3r rfl (rdl_some h25).1 (rdl_some h25).2.1) ?_
      refine F.qn rfl rfl rfl rfl (r_load ta4 rfl (fun w hw => cell_0 (Rd.flat ((rd_sl (i := 1) rfl) w hw) (rdl_some h25).2.2) rfl)) ?_
      refine F.nil (Nrm.seq (Tri.cond (b := t25) rfl (fun g_3 => ?_) (fun g_3 => ?_)))
      ·replace hE_3 := if_tt g_3 hE_3
       refine Tri.exit ?_
       refine Exi.then ?_
       refine Exi.same ?_
       cases hE_3
       refine Nrm.only [1, 3, 4, 5] rfl ?_
       refine Nrm.pick [0, 1] rfl rfl ?_
       exact hj_1 _ _ ⟨w3r, T3r, hl_w3r, rfl, rfl⟩
      ·replace hE_3 := if_ff g_3 hE_3
       refine Tri.skip (Nrm.seq (Tri.seq (Tri.reg (l := [0, 1, 2, 3, 4, 5]) rfl ?_)))
       refine F.qn rfl rfl rfl rfl (r_move rfl) ?_
       refine F.qn rfl rfl rfl rfl (r_quo rfl rfl (by decide)) ?_
       refine F.qn rfl rfl rfl rfl (r_move rfl) ?_
       refine F.qn rfl rfl rfl rfl (r_rem rfl rfl (by decide)) ?_
       refine F.qn rfl rfl rfl rfl (r_assign rfl) ?_
       refine F.qn rfl rfl rfl rfl (r_assign rfl) ?_
       refine F.nil (Nrm.seq (Tri.seq (Tri.reg (l := [0, 1, 2, 3, 4, 5, 6]) rfl ?_)))
       refine F.qn rfl rfl rfl rfl (r_move rfl) ?_
       refine F.qn rfl rfl rfl rfl (r_fieldAddr tf66_0 rfl) ?_
       refine F.qn rfl rfl rfl rfl (r_fieldAddr tf27_0 rfl) ?_
       refine F.qn rfl rfl rfl rfl (r_load ta3 rfl (fun w hw => cell_2 (box_cells (i := 0) rfl w hw) rfl)) ?_
       refine F.qn rfl rfl rfl rfl (r_sub rfl rfl) ?_
       refine F.qn rfl rfl rfl rfl (r_eql rfl rfl) ?_
       refine F.qn rfl rfl rfl rfl (r_assign rfl) ?_
       refine F.nil (Nrm.seq (Tri.seq ?_))
       obtain ⟨t40, h40, hE_3⟩ := bind_some hE_3
       refine Tri.reg (l := [0, 1, 2, 3, 4]) rfl ?_
       refine F.qn rfl rfl rfl rfl (r_loadA ta66 ti66 rfl rfl (fun w hw => (box_cells (i := 0) rfl w hw))) ?_
       refine F.qn rfl rfl rfl rfl (r_move rfl) ?_
       refine F.qn rfl rfl rfl rfl (r_move rfl) ?_
       refine F.mn rfl rfl rfl rfl (m_callF (xs := _) rfl ok128 rfl rfl (fun w hw => spec_l11Step.ok h40 w ((fun _ hw => hr_a0_1.sep hw) w hw) ((fun _ hw => hr_a0_2.sep hw) w hw) ((fun _ hw => hr_a0_3.sep hw) w hw))) ?_
       rintro v40_1 _ ⟨_, ⟨S40_1, hl_v40_1, rfl⟩, rfl⟩
       refine F.qn rfl rfl rfl rfl (r_assign rfl) ?_
       refine F.nil (Nrm.seq (Tri.seq (Tri.seq (Tri.reg (l := [0]) rfl ?_))))
       refine F.qn rfl rfl rfl rfl (r_assign rfl) ?_
       refine F.nil (Nrm.seq ?_)
       obtain ⟨x8, hE_4, hE_3⟩ := bind_some hE_3
       refine Tri.block ?_
       refine Tri.only [1, 3, 4, 5, 8, 9, 10] rfl ?_
       refine Tri.pick [1, 0, 2] rfl rfl ?_
       refine Tri.rounds (fun n e' C' => ∃ (x8' : Bool) (x10' : Int), spec_l11Good.l2 k x3r t40 n x8' x10' = some x8 ∧ e' = [(1, .pointer (some ⟨b1_1, 0, none⟩)), (3, w3r), (4, .bool x4r), (5, .int .i64 x5), (8, .bool x8'), (9, v40_1), (10, .int .i64 x10')] ∧ C' = Sep w noM [R.box b1_1 66 [.int .i64 a0_0, va0_1, va0_2, va0_3], R.sl S40_1 v40_1 (t40 : List (Int)), R.sl T3r w3r (x3r : List (Bool))]) k ?_ ?_ ?_
       ·exact ⟨(quo x5 64) == (w64 (a0_0 - 1)), 0, hE_4, rfl, rfl⟩
       ·rintro _ _ ⟨_, _, hE_4, _⟩
        rw [spec_l11Good.l2.eq_1] at hE_4; cases hE_4
       ·rintro n_3 _ _ ⟨x8, x10, hE_4, rfl, rfl⟩ ih_3
        rw [spec_l11Good.l2.eq_2] at hE_4
        refine Tri.seq (Tri.seq (Tri.reg (l := [0, 1, 2, 3]) rfl ?_))
        refine F.qn rfl rfl rfl rfl (r_move rfl) ?_
        refine F.qn rfl rfl rfl rfl (r_move rfl) ?_
        refine F.qn rfl rfl rfl rfl (r_len Try.underlying25 rfl hl_v40_1) ?_
        refine F.qn rfl rfl rfl rfl (r_lss rfl rfl) ?_
        refine F.nil (Nrm.seq (Tri.cond (b := decide (x10 < (t40.length : Int))) rfl (fun g_4 => ?_) (fun g_4 => ?_)))
        ·replace hE_4 := if_tt g_4 hE_4
         refine Tri.skip (Nrm.seq (Tri.seq (Tri.block ?_)))
         obtain ⟨y8, hE_5, hE_4⟩ := bind_some hE_4
         refine Tri.cut (fun e' C' => e' = [(1, .pointer (some ⟨b1_1, 0, none⟩)), (3, w3r), (4, .bool x4r), (5, .int .i64 x5), (8, .bool y8), (9, v40_1), (10, .int .i64 x10)] ∧ C' = Sep w noM [R.box b1_1 66 [.int .i64 a0_0, va0_1, va0_2, va0_3], R.sl S40_1 v40_1 (t40 : List (Int)), R.sl T3r w3r (x3r : List (Bool))]) ?_ (fun hj_2 => ?_)
         ·rintro _ _ ⟨rfl, rfl⟩
          refine Nrm.block ?_
          refine Nrm.seq (Tri.reg (l := [0, 1, 2]) rfl ?_)
          refine F.qn rfl rfl rfl rfl (r_move rfl) ?_
          refine F.qn rfl rfl rfl rfl (r_add rfl rfl) ?_
          refine F.qn rfl rfl rfl rfl (r_assign rfl) ?_
          refine F.nil (Nrm.round ?_)
          refine Rnd.only [1, 3, 4, 5, 8, 9, 10] rfl ?_
          refine Rnd.pick [0, 1, 2] rfl rfl ?_
          exact ih_3 _ _ ⟨y8, w64 (x10 + 1), hE_4, rfl, rfl⟩
         ·rcases Bool.eq_false_or_eq_true (x8) with g48 | g48
          ·replace hE_5 := if_tt g48 hE_5
           refine Tri.reg (l := [0, 1, 2, 3, 4, 5, 6, 7, 8, 9, 10]) rfl ?_
           refine F.qn rfl rfl rfl rfl (r_move rfl) ?_
           refine F.qn rfl rfl rfl rfl (r_move rfl) ?_
           iterate 7 refine F.sk rfl rfl rfl (wf rfl rfl rfl g48) ?_
           refine F.qn rfl rfl rfl rfl (r_pick rfl rfl g48) ?_
           refine F.qn rfl rfl rfl rfl (r_assign rfl) ?_
           refine F.nil ?_
           cases hE_5
           refine Nrm.only [1, 3, 4, 5, 8, 9, 10] rfl ?_
           refine Nrm.pick [0, 1, 2] rfl rfl ?_
           exact hj_2 _ _ ⟨rfl, rfl⟩
          ·replace hE_5 := if_ff g48 hE_5
           obtain ⟨t52, h52, hE_5⟩ := bind_some hE_5
           obtain ⟨t54, h54, hE_5⟩ := bind_some hE_5
           refine Tri.reg (l := [0, 1, 2, 3, 4, 5, 6, 7, 8, 9, 10]) rfl ?_
           refine F.qn rfl rfl rfl rfl (r_move rfl) ?_
           refine F.qn rfl rfl rfl rfl (r_move rfl) ?_
           iterate 3 refine F.qg rfl rfl rfl rfl rfl rfl g48 (r_move rfl) ?_
           refine F.qg rfl rfl rfl rfl rfl rfl g48 (r_indexAddrS Try.underlying25 ti3 rfl hl_v40_1 rfl (rdl_some h52).1 (rdl_some h52).2.1) ?_
           refine F.qg rfl rfl rfl rfl rfl rfl g48 (r_load ta3 rfl (fun w hw => cell_0 (Rd.flat ((rd_sl (i := 1) rfl) w hw) (rdl_some h52).2.2) rfl)) ?_
           refine F.qg rfl rfl rfl rfl rfl rfl g48 (r_indexAddrS Try.underlying129 ti4 rfl hl_w3r rfl (rdl_some h54).1 (rdl_some h54).2.1) ?_
           refine F.qg rfl rfl rfl rfl rfl rfl g48 (r_load ta4 rfl (fun w hw => cell_0 (Rd.flat ((rd_sl (i := 2) rfl) w hw) (rdl_some h54).2.2) rfl)) ?_
           refine F.qn rfl rfl rfl rfl (r_pickf rfl rfl g48) ?_
           refine F.qn rfl rfl rfl rfl (r_assign rfl) ?_
           refine F.nil ?_
           cases hE_5
           refine Nrm.only [1, 3, 4, 5, 8, 9, 10] rfl ?_
           refine Nrm.pick [0, 1, 2] rfl rfl ?_
           exact hj_2 _ _ ⟨rfl, rfl⟩
        ·replace hE_4 := if_ff g_4 hE_4
         refine Tri.exit ?_
         refine Exi.then ?_
         refine Exi.then ?_
         refine Exi.same ?_
         cases hE_4
         refine Nrm.seq (Tri.seq (Tri.reg (l := [0]) rfl ?_))
         refine F.qn rfl rfl rfl rfl (r_move rfl) ?_
         refine F.nil (Nrm.seq ?_)
         obtain ⟨⟨y3, y4⟩, hE_6, hE_3⟩ := bind_some hE_3
         refine Tri.cut (fun e' C' => ∃ (v3_2 : Value) (S3_2 : Nat → Prop), SlLen v3_2 (y3).length ∧ e' = [(1, .pointer (some ⟨b1_1, 0, none⟩)), (3, v3_2), (4, .bool y4), (5, .int .i64 x5)] ∧ C' = Sep w noM [R.box b1_1 66 [.int .i64 a0_0, va0_1, va0_2, va0_3], R.sl S3_2 v3_2 (y3 : List (Bool))]) ?_ (fun hj_3 => ?_)
         ·rintro _ _ ⟨v3_2, S3_2, hl_v3_2, rfl, rfl⟩
          refine Nrm.block ?_
          cases hE_3
          refine Nrm.only [1, 3, 4, 5] rfl ?_
          refine Nrm.pick [0, 1] rfl rfl ?_
          exact hj_1 _ _ ⟨v3_2, S3_2, hl_v3_2, rfl, rfl⟩
         ·refine Tri.cond (b := x8) rfl (fun g_5 => ?_) (fun g_5 => ?_)
          ·replace hE_6 := if_tt g_5 hE_6
           refine Tri.seq ?_
           obtain ⟨t60, h60, hE_6⟩ := bind_some hE_6
           refine Tri.reg (l := [0, 1, 2, 3]) rfl ?_
           refine F.qn rfl rfl rfl rfl (r_move rfl) ?_
           refine F.qn rfl rfl rfl rfl (r_move rfl) ?_
           refine F.qn rfl rfl rfl rfl (r_indexAddrS Try.underlying129 ti4 rfl hl_w3r rfl (rdl_some h60).1 (rdl_some h60).2.1) ?_
           refine F.ef0 rfl rfl (wanted_none rfl) (d_storeE (i := 2) (x1 := true) ti4 rfl rfl rfl (rdl_some h60) rfl) ?_
           rintro _ _ ⟨rfl, rfl⟩
           refine F.nil (Nrm.seq (Tri.reg (l := [0]) rfl ?_))
           refine F.qn rfl rfl rfl rfl (r_assign rfl) ?_
           refine F.nil ?_
           cases hE_6
           refine Nrm.only [1, 3, 4, 5] rfl ?_
           refine Nrm.pick [0, 2] rfl rfl ?_
           exact hj_3 _ _ ⟨w3r, T3r, (len_set hl_w3r), rfl, rfl⟩
          ·replace hE_6 := if_ff g_5 hE_6
           refine Tri.skip ?_
           cases hE_6
           refine Nrm.only [1, 3, 4, 5] rfl ?_
           refine Nrm.pick [0, 2] rfl rfl ?_
           exact hj_3 _ _ ⟨w3r, T3r, hl_w3r, rfl, rfl⟩
    ·replace hE_2 := if_ff g_2 hE_2
     refine Tri.exit ?_
     refine Exi.then ?_
     refine Exi.then ?_
     refine Exi.same ?_
     cases hE_2
     refine Nrm.block ?_
     refine Nrm.round ?_
     refine Rnd.only [1, 3, 4] rfl ?_
     refine Rnd.pick [0, 1] rfl rfl ?_
     exact ih_1 _ _ ⟨x3r, x4r, w3r, T3r, hE_1, hl_w3r, rfl, rfl⟩
  ·replace hE_1 := if_ff g_1 hE_1
   refine Tri.exit ?_
   refine Exi.then ?_
   refine Exi.then ?_
   refine Exi.same ?_
   cases hE_1
   refine Nrm.seq (Tri.seq (Tri.reg (l := [0, 1]) rfl ?_))
   refine F.qn rfl rfl rfl rfl (r_move rfl) ?_
   refine F.qn rfl rfl rfl rfl (r_assign rfl) ?_
   refine F.nil (Nrm.seq (Tri.ret ?_))
   cases h
   exact Rtn.body (.tmp rfl .nil) (fun w hw => ⟨_, _, rfl, ⟨T3, hl_w3, rfl⟩, Sep.pick (is := [1]) rfl rfl hw⟩)


def spec_GoodSteps.l0 (k : Nat) (t25 : List Bool) (t29 : List Int) : Nat → (List (Int)) → Int → Option ((List (Int)))
 | 0, _, _ => none
 | n + 1, x6, x12 => (if (decide (x12 < (t29.length : Int))) = true then (rdl t29 x12).bind fun t39 => (rdl t25 t39).bind fun t41 => ((if t41 = true then (rdl t29 x12).bind fun t46 => if (x6 ++ ([quo t46 64] : List (Int))).length < 1099511627776 then some (x6 ++ ([quo t46 64] : List (Int))) else none else some x6)).bind fun y6 => spec_GoodSteps.l0 k t25 t29 n y6 (w64 (x12 + 1)) else some x6)

def spec_GoodSteps.f (k : Nat) (a0_0 : Int) (a0_1 : List (Int × Int × Int)) (a0_2 : List Int) (a0_3 : List Int) (a1 : List Int) : Option ((List Int) × Bool) := (spec_l11Behind.f k a0_0 a0_1 a0_2 a0_3 a1).bind fun (t17_1, t17_2, t17_3) => (if (!t17_3) = true then some (([] : List (Int)), false) else (spec_l11Good.f k a0_0 a0_1 a0_2 a0_3).bind fun t25 => (spec_l11Step.f k a0_0 a0_1 a0_2 a0_3 t17_1 t17_2).bind fun t29 => (spec_GoodSteps.l0 k t25 t29 k ([] : List (Int)) 0).bind fun x6 => some (x6, true))

theorem spec_GoodSteps.ok {k : Nat}  {a0_0 : Int} {a0_1 : List (Int × Int × Int)} {a0_2 : List Int} {a0_3 : List Int} {a1 : List Int} {r0 : List Int} {r1 : Bool} (h : spec_GoodSteps.f k a0_0 a0_1 a0_2 a0_3 a1 = some (r0, r1)) (w : World) {va0_1 : Value} {va0_2 : Value} {va0_3 : Value} {va1 : Value} (hr_a0_1 : Rd w va0_1 a0_1) (hr_a0_2 : Rd w va0_2 a0_2) (hr_a0_3 : Rd w va0_3 a0_3) (hr_a1 : Rd w va1 a1) :
  Calls Try.prog 50 ([.agg ([.int .i64 a0_0, va0_1, va0_2, va0_3].toArray), va1] : List Value).toArray w (Post (fun u ns => ∃ (ur0 : Value) (Sr0 : Nat → Prop), u = .tuple #[ur0, .bool r1] ∧ SlLen ur0 r0.length ∧ ns = [R.sl Sr0 ur0 r0]) w) := by
 unfold spec_GoodSteps.f at h
 have hl_va0_1 := hr_a0_1.len
 have hl_va0_2 := hr_a0_2.len
 have hl_va0_3 := hr_a0_3.len
 have hl_va1 := hr_a1.len
 refine Calls.of_tri (N := 52) Try.func50 rfl rfl rfl (Sep.nil (M := noM)) ?_
 refine Tri.seq (Tri.reg (l := [0, 1, 2]) rfl ?_)
 refine F.mn rfl rfl rfl rfl (m_boxG rfl rfl) ?_
 rintro _ _ ⟨b2_1, rfl, rfl⟩
 refine F.qn rfl rfl rfl rfl (r_assign rfl) ?_
 refine F.qn rfl rfl rfl rfl (r_assign rfl) ?_
 refine F.nil (Nrm.seq (Tri.seq (Tri.reg (l := [0, 1]) rfl ?_)))
 refine F.mn rfl rfl rfl rfl (m_build0 (α := Int) Try.underlying25 ti3) ?_
 rintro v13_1 _ ⟨S13_1, hl_v13_1, rfl⟩
 refine F.qn rfl rfl rfl rfl (r_assign rfl) ?_
 refine F.nil (Nrm.seq (Tri.seq ?_))
 obtain ⟨⟨t17_1, t17_2, t17_3⟩, h17, h⟩ := bind_some h
 refine Tri.reg (l := [0, 1, 2, 3, 4, 5, 6, 7, 8, 9]) rfl ?_
 refine F.qn rfl rfl rfl rfl (r_loadA ta66 ti66 rfl rfl (fun w hw => (box_cells (i := 1) rfl w hw))) ?_
 refine F.qn rfl rfl rfl rfl (r_move rfl) ?_
 refine F.qcn rfl rfl rfl rfl (q_callF (xs := _) rfl ok126 rfl rfl (fun w hw => spec_l11Behind.ok h17 w ((fun _ hw => hr_a0_1.sep hw) w hw) ((fun _ hw => hr_a0_2.sep hw) w hw) ((fun _ hw => hr_a0_3.sep hw) w hw) ((fun _ hw => hr_a1.sep hw) w hw))) ?_
 refine F.qn rfl rfl rfl rfl (r_move rfl) ?_
 iterate 3 refine F.qn rfl rfl rfl rfl (r_extract rfl rfl) ?_
 iterate 3 refine F.qn rfl rfl rfl rfl (r_assign rfl) ?_
 refine F.nil (Nrm.seq (Tri.seq (Tri.seq (Tri.reg (l := [0, 1]) rfl ?_))))
 refine F.qn rfl rfl rfl rfl (r_move rfl) ?_
 refine F.qn rfl rfl rfl rfl (r_not rfl) ?_
 refine F.nil (Nrm.seq (Tri.cond (b := !t17_3) rfl (fun g_1 => ?_) (fun g_1 => ?_)))
 ·replace h := if_tt g_1 h
  refine Tri.seq (Tri.reg (l := [0, 1, 2]) rfl ?_)
  refine F.qn rfl rfl rfl rfl (r_move rfl) ?_
  refine F.qn rfl rfl rfl rfl (r_assign rfl) ?_
  refine F.qn rfl rfl rfl rfl (r_assign rfl) ?_
  refine F.nil (Nrm.seq (Tri.ret ?_))
  refine Rtn.then ?_
  cases h
  exact Rtn.body (.tmp rfl (.tmp rfl .nil)) (fun w hw => ⟨_, _, rfl, ⟨v13_1, S13_1, rfl, hl_v13_1, rfl⟩, Sep.pick (is := [0]) rfl rfl hw⟩)
 ·replace h := if_ff g_1 h
  refine Tri.skip (Nrm.seq (Tri.seq ?_))
  obtain ⟨t25, h25, h⟩ := bind_some h
  obtain ⟨t29, h29, h⟩ := bind_some h
  refine Tri.drawA mixedT Sep.up [(0, true), (2, true), (3, true), (4, true), (1, false), (5, false), (6, true), (7, true)] [] (by kernel_rfl) ?_
  refine S.qn rfl rfl rfl rfl (r_loadA ta66 ti66 rfl rfl (fun w hw => (box_cells (i := 1) rfl w hw))) ?_
  refine S.qn rfl rfl rfl rfl (r_loadA ta66 ti66 rfl rfl (fun w hw => (box_cells (i := 1) rfl w hw))) ?_
  refine S.qn rfl rfl rfl rfl (r_move rfl) ?_
  refine S.qn rfl rfl rfl rfl (r_move rfl) ?_
  refine S.m rfl rfl rfl (wanted_none rfl) (m_callF (xs := _) rfl ok127 rfl rfl (fun w hw => spec_l11Good.ok h25 w ((fun _ hw => hr_a0_1.sep hw) w hw) ((fun _ hw => hr_a0_2.sep hw) w hw) ((fun _ hw => hr_a0_3.sep hw) w hw))) ?_
  rintro v25_2 _ ⟨_, ⟨S25_2, hl_v25_2, rfl⟩, rfl⟩
  refine S.m rfl rfl rfl (wanted_none rfl) (m_callF (xs := _) rfl ok128 rfl rfl (fun w hw => spec_l11Step.ok h29 w ((fun _ hw => hr_a0_1.sep hw) w hw) ((fun _ hw => hr_a0_2.sep hw) w hw) ((fun _ hw => hr_a0_3.sep hw) w hw))) ?_
  rintro v29_2 _ ⟨_, ⟨S29_2, hl_v29_2, rfl⟩, rfl⟩
  refine S.qn rfl rfl rfl rfl (r_assign rfl) ?_
  refine S.qn rfl rfl rfl rfl (r_assign rfl) ?_
  refine S.nil (F.nil (Nrm.seq (Tri.seq (Tri.seq (Tri.reg (l := [0]) rfl ?_)))))
  refine F.qn rfl rfl rfl rfl (r_assign rfl) ?_
  refine F.nil (Nrm.seq ?_)
  obtain ⟨x6, hE_1, h⟩ := bind_some h
  refine Tri.block ?_
  refine Tri.only [6, 10, 11, 12] rfl ?_
  refine Tri.pick [0, 1, 2] rfl rfl ?_
  refine Tri.rounds (fun n e' C' => ∃ (x6' : List (Int)) (x12' : Int) (w6 : Value) (T6 : Nat → Prop), spec_GoodSteps.l0 k t25 t29 n x6' x12' = some x6 ∧ SlLen w6 (x6').length ∧ e' = [(6, w6), (10, v25_2), (11, v29_2), (12, .int .i64 x12')] ∧ C' = Sep w noM [R.sl S29_2 v29_2 (t29 : List (Int)), R.sl S25_2 v25_2 (t25 : List (Bool)), R.sl T6 w6 (x6' : List (Int))]) k ?_ ?_ ?_
  ·exact ⟨([] : List (Int)), 0, v13_1, S13_1, hE_1, hl_v13_1, rfl, rfl⟩
  ·rintro _ _ ⟨_, _, _, _, hE_1, _⟩
   rw [spec_GoodSteps.l0.eq_1] at hE_1; cases hE_1
  ·rintro n_1 _ _ ⟨x6, x12, w6, T6, hE_1, hl_w6, rfl, rfl⟩ ih_1
   rw [spec_GoodSteps.l0.eq_2] at hE_1
   refine Tri.seq (Tri.seq (Tri.reg (l := [0, 1, 2, 3]) rfl ?_))
   refine F.qn rfl rfl rfl rfl (r_move rfl) ?_
   refine F.qn rfl rfl rfl rfl (r_move rfl) ?_
   refine F.qn rfl rfl rfl rfl (r_len Try.underlying25 rfl hl_v29_2) ?_
   refine F.qn rfl rfl rfl rfl (r_lss rfl rfl) ?_
   refine F.nil (Nrm.seq (Tri.cond (b := decide (x12 < (t29.length : Int))) rfl (fun g_2 => ?_) (fun g_2 => ?_)))
   ·replace hE_1 := if_tt g_2 hE_1
    refine Tri.skip (Nrm.seq (Tri.seq (Tri.block ?_)))
    refine Tri.seq ?_
    obtain ⟨t39, h39, hE_1⟩ := bind_some hE_1
    obtain ⟨t41, h41, hE_1⟩ := bind_some hE_1
    refine Tri.reg (l := [0, 1, 2, 3, 4, 5, 6]) rfl ?_
    iterate 3 refine F.qn rfl rfl rfl rfl (r_move rfl) ?_
    refine F.qn rfl rfl rfl rfl (r_indexAddrS Try.underlying25 ti3 rfl hl_v29_2 rfl (rdl_some h39).1 (rdl_some h39).2.1) ?_
    refine F.qn rfl rfl rfl rfl (r_load ta3 rfl (fun w hw => cell_0 (Rd.flat ((rd_sl (i := 0) rfl) w hw) (rdl_some h39).2.2) rfl)) ?_
    refine F.qn rfl rfl rfl rfl (r_indexAddrS Try.underlying129 ti4 rfl hl_v25_2 rfl (rdl_some h41).1 (rdl_some h41).2.1) ?_
    refine F.qn rfl rfl rfl rfl (r_load ta4 rfl (fun w hw => cell_0 (Rd.flat ((rd_sl (i := 1) rfl) w hw) (rdl_some h41).2.2) rfl)) ?_
    refine F.nil (Nrm.seq ?_)
    obtain ⟨y6, hE_2, hE_1⟩ := bind_some hE_1
    refine Tri.cut (fun e' C' => ∃ (v6_1 : Value) (S6_1 : Nat → Prop), SlLen v6_1 (y6).length ∧ e' = [(6, v6_1), (10, v25_2), (11, v29_2), (12, .int .i64 x12)] ∧ C' = Sep w noM [R.sl S6_1 v6_1 (y6 : List (Int)), R.sl S25_2 v25_2 (t25 : List (Bool)), R.sl S29_2 v29_2 (t29 : List (Int))]) ?_ (fun hj_1 => ?_)
    ·rintro _ _ ⟨v6_1, S6_1, hl_v6_1, rfl, rfl⟩
     refine Nrm.block ?_
     refine Nrm.seq (Tri.reg (l := [0, 1, 2]) rfl ?_)
     refine F.qn rfl rfl rfl rfl (r_move rfl) ?_
     refine F.qn rfl rfl rfl rfl (r_add rfl rfl) ?_
     refine F.qn rfl rfl rfl rfl (r_assign rfl) ?_
     refine F.nil (Nrm.round ?_)
     refine Rnd.only [6, 10, 11, 12] rfl ?_
     refine Rnd.pick [2, 1, 0] rfl rfl ?_
     exact ih_1 _ _ ⟨y6, w64 (x12 + 1), v6_1, S6_1, hE_1, hl_v6_1, rfl, rfl⟩
    ·refine Tri.cond (b := t41) rfl (fun g_3 => ?_) (fun g_3 => ?_)
     ·replace hE_2 := if_tt g_3 hE_2
      obtain ⟨t46, h46, hE_2⟩ := bind_some hE_2
      obtain ⟨hs50, hE_2⟩ := ck hE_2
      refine Tri.reg (l := [0, 1, 2, 3, 4, 5, 6, 7, 8]) rfl ?_
      iterate 3 refine F.qn rfl rfl rfl rfl (r_move rfl) ?_
      refine F.qn rfl rfl rfl rfl (r_indexAddrS Try.underlying25 ti3 rfl hl_v29_2 rfl (rdl_some h46).1 (rdl_some h46).2.1) ?_
      refine F.qn rfl rfl rfl rfl (r_load ta3 rfl (fun w hw => cell_0 (Rd.flat ((rd_sl (i := 0) rfl) w hw) (rdl_some h46).2.2) rfl)) ?_
      refine F.qn rfl rfl rfl rfl (r_quo rfl rfl (by decide)) ?_
      refine F.mn rfl rfl rfl rfl (m_buildF (l := ([quo t46 64] : List (Int))) Try.underlying25 ti3 rfl rfl rfl rfl rfl) ?_
      rintro v49_1 _ ⟨S49_1, hl_v49_1, rfl⟩
      refine F.efn rfl rfl rfl rfl (d_append (i := 3) Try.underlying25 Try.underlying25 ti3 rfl (by decide) rfl rfl rfl (rd_sl (i := 0) rfl) hs50) ?_
      rintro v50_1 _ ⟨S50_1, rfl, hl_v50_1⟩
      refine F.qn rfl rfl rfl rfl (r_assign rfl) ?_
      refine F.nil ?_
      cases hE_2
      refine Nrm.only [6, 10, 11, 12] rfl ?_
      refine Nrm.pick [3, 2, 1] rfl rfl ?_
      exact hj_1 _ _ ⟨v50_1, S50_1, hl_v50_1, rfl, rfl⟩
     ·replace hE_2 := if_ff g_3 hE_2
      refine Tri.skip ?_
      cases hE_2
      refine Nrm.only [6, 10, 11, 12] rfl ?_
      refine Nrm.pick [2, 1, 0] rfl rfl ?_
      exact hj_1 _ _ ⟨w6, T6, hl_w6, rfl, rfl⟩
   ·replace hE_1 := if_ff g_2 hE_1
    refine Tri.exit ?_
    refine Exi.then ?_
    refine Exi.then ?_
    refine Exi.same ?_
    cases hE_1
    refine Nrm.seq (Tri.seq (Tri.reg (l := [0, 1, 2]) rfl ?_))
    refine F.qn rfl rfl rfl rfl (r_move rfl) ?_
    refine F.qn rfl rfl rfl rfl (r_assign rfl) ?_
    refine F.qn rfl rfl rfl rfl (r_assign rfl) ?_
    refine F.nil (Nrm.seq (Tri.ret ?_))
    cases h
    exact Rtn.body (.tmp rfl (.tmp rfl .nil)) (fun w hw => ⟨_, _, rfl, ⟨w6, T6, rfl, hl_w6, rfl⟩, Sep.pick (is := [2]) rfl rfl hw⟩)


def laws_rInts.l0 (k : Nat) (a0 : List Int) (a1 : List Int) : Nat → Int → Option ((Unit) ⊕ (Bool))
 | 0, _ => none
 | n + 1, x5 => (if (decide (x5 < (a0.length : Int))) = true then (rdl a0 x5).bind fun t19 => (rdl a1 x5).bind fun t23 => (if (t19 != t23) = true then some (Sum.inr false) else laws_rInts.l0 k a0 a1 n (w64 (x5 + 1))) else some (Sum.inl ()))

def laws_rInts.f (k : Nat) (a0 : List Int) (a1 : List Int) : Option (Bool) := (if ((a0.length : Int) != (a1.length : Int)) = true then some false else (laws_rInts.l0 k a0 a1 k 0).bind fun s => Lr s some fun _ => some true)

theorem laws_rInts.ok {k : Nat}  {a0 : List Int} {a1 : List Int} {r0 : Bool} (h : laws_rInts.f k a0 a1 = some r0) (w : World) {va0 : Value} {va1 : Value} (hr_a0 : Rd w va0 a0) (hr_a1 : Rd w va1 a1) :
  Calls Try.prog 51 ([va0, va1] : List Value).toArray w (fun e w' => e = .returned (.bool r0) ∧ Ext w w') := by
 unfold laws_rInts.f at h
 have hl_va0 := hr_a0.len
 have hl_va1 := hr_a1.len
 refine Calls.of_tri (N := 26) Try.func51 rfl rfl rfl (Sep.nil (M := noM)) ?_
 refine Tri.seq (Tri.reg (l := [0]) rfl ?_)
 refine F.qn rfl rfl rfl rfl (r_assign rfl) ?_
 refine F.nil (Nrm.seq (Tri.seq (Tri.seq (Tri.reg (l := [0, 1, 2, 3, 4]) rfl ?_))))
 refine F.qn rfl rfl rfl rfl (r_move rfl) ?_
 refine F.qn rfl rfl rfl rfl (r_len Try.underlying25 rfl hl_va0) ?_
 refine F.qn rfl rfl rfl rfl (r_move rfl) ?_
 refine F.qn rfl rfl rfl rfl (r_len Try.underlying25 rfl hl_va1) ?_
 refine F.qn rfl rfl rfl rfl (r_neq rfl rfl) ?_
 refine F.nil (Nrm.seq (Tri.cond (b := (a0.length : Int) != (a1.length : Int)) rfl (fun g_1 => ?_) (fun g_1 => ?_)))
 ·replace h := if_tt g_1 h
  refine Tri.seq (Tri.reg (l := [0]) rfl ?_)
  refine F.qn rfl rfl rfl rfl (r_assign rfl) ?_
  refine F.nil (Nrm.seq (Tri.ret ?_))
  refine Rtn.then ?_
  cases h
  exact Rtn.body (.tmp rfl .nil) (fun w hw => ⟨rfl, hw.ext⟩)
 ·replace h := if_ff g_1 h
  refine Tri.skip (Nrm.seq (Tri.seq (Tri.seq (Tri.reg (l := [0]) rfl ?_))))
  refine F.qn rfl rfl rfl rfl (r_assign rfl) ?_
  refine F.nil (Nrm.seq ?_)
  obtain ⟨s0, hE_1, h⟩ := bind_some h
  refine Tri.block ?_
  refine Tri.only [0, 1, 5] rfl ?_
  refine Tri.pick [] rfl rfl ?_
  refine Tri.rounds (fun n e' C' => ∃ (x5' : Int), laws_rInts.l0 k a0 a1 n x5' = some s0 ∧ e' = [(0, va0), (1, va1), (5, .int .i64 x5')] ∧ C' = Sep w noM []) k ?_ ?_ ?_
  ·exact ⟨0, hE_1, rfl, rfl⟩
  ·rintro _ _ ⟨_, hE_1, _⟩
   rw [laws_rInts.l0.eq_1] at hE_1; cases hE_1
  ·rintro n_1 _ _ ⟨x5, hE_1, rfl, rfl⟩ ih_1
   rw [laws_rInts.l0.eq_2] at hE_1
   refine Tri.seq (Tri.seq (Tri.reg (l := [0, 1, 2, 3]) rfl ?_))
   refine F.qn rfl rfl rfl rfl (r_move rfl) ?_
   refine F.qn rfl rfl rfl rfl (r_move rfl) ?_
   refine F.qn rfl rfl rfl rfl (r_len Try.underlying25 rfl hl_va0) ?_
   refine F.qn rfl rfl rfl rfl (r_lss rfl rfl) ?_
   refine F.nil (Nrm.seq (Tri.cond (b := decide (x5 < (a0.length : Int))) rfl (fun g_2 => ?_) (fun g_2 => ?_)))
   ·replace hE_1 := if_tt g_2 hE_1
    refine Tri.skip (Nrm.seq (Tri.seq (Tri.block ?_)))
    refine Tri.seq ?_
    obtain ⟨t19, h19, hE_1⟩ := bind_some hE_1
    obtain ⟨t23, h23, hE_1⟩ := bind_some hE_1
    refine Tri.drawA mixedT Sep.up [(0, true), (1, true), (2, true), (3, true), (4, true), (5, true), (6, true), (7, true), (8, true)] [] (by kernel_rfl) ?_
    refine S.qn rfl rfl rfl rfl (r_move rfl) ?_
    refine S.qn rfl rfl rfl rfl (r_move rfl) ?_
    refine S.qn rfl rfl rfl rfl (r_indexAddrS Try.underlying25 ti3 rfl hl_va0 rfl (rdl_some h19).1 (rdl_some h19).2.1) ?_
    refine S.qn rfl rfl rfl rfl (r_load ta3 rfl (fun w hw => cell_0 (Rd.flat ((fun _ hw => hr_a0.sep hw) w hw) (rdl_some h19).2.2) rfl)) ?_
    refine S.qn rfl rfl rfl rfl (r_move rfl) ?_
    refine S.qn rfl rfl rfl rfl (r_move rfl) ?_
    refine S.qn rfl rfl rfl rfl (r_indexAddrS Try.underlying25 ti3 rfl hl_va1 rfl (rdl_some h23).1 (rdl_some h23).2.1) ?_
    refine S.qn rfl rfl rfl rfl (r_load ta3 rfl (fun w hw => cell_0 (Rd.flat ((fun _ hw => hr_a1.sep hw) w hw) (rdl_some h23).2.2) rfl)) ?_
    refine S.qn rfl rfl rfl rfl (r_neq rfl rfl) ?_
    refine S.nil (F.nil (Nrm.seq (Tri.cond (b := t19 != t23) rfl (fun g_3 => ?_) (fun g_3 => ?_))))
    ·replace hE_1 := if_tt g_3 hE_1
     refine Tri.seq (Tri.reg (l := [0]) rfl ?_)
     refine F.qn rfl rfl rfl rfl (r_assign rfl) ?_
     refine F.nil (Nrm.seq (Tri.ret ?_))
     refine Rtn.block ?_
     refine Rtn.then ?_
     refine Rtn.then ?_
     refine Rtn.block ?_
     refine Rtn.then ?_
     cases hE_1
     replace h := Lr_inr h
     cases h
     exact Rtn.body (.tmp rfl .nil) (fun w hw => ⟨rfl, hw.ext⟩)
    ·replace hE_1 := if_ff g_3 hE_1
     refine Tri.skip (Nrm.block ?_)
     refine Nrm.seq (Tri.reg (l := [0, 1, 2]) rfl ?_)
     refine F.qn rfl rfl rfl rfl (r_move rfl) ?_
     refine F.qn rfl rfl rfl rfl (r_add rfl rfl) ?_
     refine F.qn rfl rfl rfl rfl (r_assign rfl) ?_
     refine F.nil (Nrm.round ?_)
     refine Rnd.only [0, 1, 5] rfl ?_
     refine Rnd.pick [] rfl rfl ?_
     exact ih_1 _ _ ⟨w64 (x5 + 1), hE_1, rfl, rfl⟩
   ·replace hE_1 := if_ff g_2 hE_1
    refine Tri.exit ?_
    refine Exi.then ?_
    refine Exi.then ?_
    refine Exi.same ?_
    cases hE_1
    replace h := Lr_inl h
    refine Nrm.seq (Tri.seq (Tri.reg (l := [0]) rfl ?_))
    refine F.qn rfl rfl rfl rfl (r_assign rfl) ?_
    refine F.nil (Nrm.seq (Tri.ret ?_))
    cases h
    exact Rtn.body (.tmp rfl .nil) (fun w hw => ⟨rfl, hw.ext⟩)


def impl_IsTrapWalk.f (k : Nat) (a0_0 : Int) (a0_1 : List (Int × Int × Int)) (a0_2 : List Int) (a0_3 : List Int) (a1 : List Int) : Option (Bool × Bool) := (impl_IsTrap.f k a0_0 a0_1 a0_2 a0_3).bind fun t10 => (if (!t10) = true then some (false, false) else (impl_trapWalk.f k a0_0 a0_1 a0_2 a0_3 a1).bind fun (t15_1, t15_2, t15_3) => some (t15_3, true))

theorem impl_IsTrapWalk.ok {k : Nat}  {a0_0 : Int} {a0_1 : List (Int × Int × Int)} {a0_2 : List Int} {a0_3 : List Int} {a1 : List Int} {r0 : Bool} {r1 : Bool} (h : impl_IsTrapWalk.f k a0_0 a0_1 a0_2 a0_3 a1 = some (r0, r1)) (w : World) {va0_1 : Value} {va0_2 : Value} {va0_3 : Value} {va1 : Value} (hr_a0_1 : Rd w va0_1 a0_1) (hr_a0_2 : Rd w va0_2 a0_2) (hr_a0_3 : Rd w va0_3 a0_3) (hr_a1 : Rd w va1 a1) :
  Calls Try.prog 52 ([.agg ([.int .i64 a0_0, va0_1, va0_2, va0_3].toArray), va1] : List Value).toArray w (fun e w' => e = .returned (.tuple #[.bool r0, .bool r1]) ∧ Ext w w') := by
 unfold impl_IsTrapWalk.f at h
 have hl_va0_1 := hr_a0_1.len
 have hl_va0_2 := hr_a0_2.len
 have hl_va0_3 := hr_a0_3.len
 have hl_va1 := hr_a1.len
 refine Calls.of_tri (N := 20) Try.func52 rfl rfl rfl (Sep.nil (M := noM)) ?_
 refine Tri.seq (Tri.reg (l := [0, 1, 2]) rfl ?_)
 refine F.mn rfl rfl rfl rfl (m_boxG rfl rfl) ?_
 rintro _ _ ⟨b2_1, rfl, rfl⟩
 refine F.qn rfl rfl rfl rfl (r_assign rfl) ?_
 refine F.qn rfl rfl rfl rfl (r_assign rfl) ?_
 refine F.nil (Nrm.seq (Tri.seq (Tri.seq ?_)))
 obtain ⟨t10, h10, h⟩ := bind_some h
 refine Tri.reg (l := [0, 1, 2]) rfl ?_
 refine F.qn rfl rfl rfl rfl (r_loadA ta66 ti66 rfl rfl (fun w hw => (box_cells (i := 0) rfl w hw))) ?_
 refine F.qcn rfl rfl rfl rfl (q_callF (xs := _) rfl ok129 rfl rfl (fun w hw => impl_IsTrap.ok h10 w ((fun _ hw => hr_a0_1.sep hw) w hw) ((fun _ hw => hr_a0_2.sep hw) w hw) ((fun _ hw => hr_a0_3.sep hw) w hw))) ?_
 refine F.qn rfl rfl rfl rfl (r_not rfl) ?_
 refine F.nil (Nrm.seq (Tri.cond (b := !t10) rfl (fun g_1 => ?_) (fun g_1 => ?_)))
 ·replace h := if_tt g_1 h
  refine Tri.seq (Tri.reg (l := [0, 1]) rfl ?_)
  refine F.qn rfl rfl rfl rfl (r_assign rfl) ?_
  refine F.qn rfl rfl rfl rfl (r_assign rfl) ?_
  refine F.nil (Nrm.seq (Tri.ret ?_))
  refine Rtn.then ?_
  cases h
  exact Rtn.body (.tmp rfl (.tmp rfl .nil)) (fun w hw => ⟨rfl, hw.ext⟩)
 ·replace h := if_ff g_1 h
  refine Tri.skip (Nrm.seq (Tri.seq ?_))
  obtain ⟨⟨t15_1, t15_2, t15_3⟩, h15, h⟩ := bind_some h
  refine Tri.reg (l := [0, 1, 2, 3, 4, 5, 6, 7, 8, 9]) rfl ?_
  refine F.qn rfl rfl rfl rfl (r_loadA ta66 ti66 rfl rfl (fun w hw => (box_cells (i := 0) rfl w hw))) ?_
  refine F.qn rfl rfl rfl rfl (r_move rfl) ?_
  refine F.qcn rfl rfl rfl rfl (q_callF (xs := _) rfl ok130 rfl rfl (fun w hw => impl_trapWalk.ok h15 w ((fun _ hw => hr_a0_1.sep hw) w hw) ((fun _ hw => hr_a0_2.sep hw) w hw) ((fun _ hw => hr_a0_3.sep hw) w hw) ((fun _ hw => hr_a1.sep hw) w hw))) ?_
  refine F.qn rfl rfl rfl rfl (r_move rfl) ?_
  iterate 3 refine F.qn rfl rfl rfl rfl (r_extract rfl rfl) ?_
  iterate 3 refine F.qn rfl rfl rfl rfl (r_assign rfl) ?_
  refine F.nil (Nrm.seq (Tri.seq (Tri.reg (l := [0, 1, 2]) rfl ?_)))
  refine F.qn rfl rfl rfl rfl (r_move rfl) ?_
  refine F.qn rfl rfl rfl rfl (r_assign rfl) ?_
  refine F.qn rfl rfl rfl rfl (r_assign rfl) ?_
  refine F.nil (Nrm.seq (Tri.ret ?_))
  cases h
  exact Rtn.body (.tmp rfl (.tmp rfl .nil)) (fun w hw => ⟨rfl, hw.ext⟩)


def spec_IsTrapWalk.f (k : Nat) (a0_0 : Int) (a0_1 : List (Int × Int × Int)) (a0_2 : List Int) (a0_3 : List Int) (a1 : List Int) : Option (Bool × Bool) := (spec_l11Trap.f k a0_0 a0_1 a0_2 a0_3).bind fun t10 => (if (!t10) = true then some (false, false) else (spec_l11Behind.f k a0_0 a0_1 a0_2 a0_3 a1).bind fun (t15_1, t15_2, t15_3) => some (t15_3, true))

theorem spec_IsTrapWalk.ok {k : Nat}  {a0_0 : Int} {a0_1 : List (Int × Int × Int)} {a0_2 : List Int} {a0_3 : List Int} {a1 : List Int} {r0 : Bool} {r1 : Bool} (h : spec_IsTrapWalk.f k a0_0 a0_1 a0_2 a0_3 a1 = some (r0, r1)) (w : World) {va0_1 : Value} {va0_2 : Value} {va0_3 : Value} {va1 : Value} (hr_a0_1 : Rd w va0_1 a0_1) (hr_a0_2 : Rd w va0_2 a0_2) (hr_a0_3 : Rd w va0_3 a0_3) (hr_a1 : Rd w va1 a1) :
  Calls Try.prog 53 ([.agg ([.int .i64 a0_0, va0_1, va0_2, va0_3].toArray), va1] : List Value).toArray w (fun e w' => e = .returned (.tuple #[.bool r0, .bool r1]) ∧ Ext w w') := by
 unfold spec_IsTrapWalk.f at h
 have hl_va0_1 := hr_a0_1.len
 have hl_va0_2 := hr_a0_2.len
 have hl_va0_3 := hr_a0_3.len
 have hl_va1 := hr_a1.len
 refine Calls.of_tri (N := 20) Try.func53 rfl rfl rfl (Sep.nil (M := noM)) ?_
 refine Tri.seq (Tri.reg (l := [0, 1, 2]) rfl ?_)
 refine F.mn rfl rfl rfl rfl (m_boxG rfl rfl) ?_
 rintro _ _ ⟨b2_1, rfl, rfl⟩
 refine F.qn rfl rfl rfl rfl (r_assign rfl) ?_
 refine F.qn rfl rfl rfl rfl (r_assign rfl) ?_
 refine F.nil (Nrm.seq (Tri.seq (Tri.seq ?_)))
 obtain ⟨t10, h10, h⟩ := bind_some h
 refine Tri.reg (l := [0, 1, 2]) rfl ?_
 refine F.qn rfl rfl rfl rfl (r_loadA ta66 ti66 rfl rfl (fun w hw => (box_cells (i := 0) rfl w hw))) ?_
 refine F.qcn rfl rfl rfl rfl (q_callF (xs := _) rfl ok131 rfl rfl (fun w hw => spec_l11Trap.ok h10 w ((fun _ hw => hr_a0_1.sep hw) w hw) ((fun _ hw => hr_a0_2.sep hw) w hw) ((fun _ hw => hr_a0_3.sep hw) w hw))) ?_
 refine F.qn rfl rfl rfl rfl (r_not rfl) ?_
 refine F.nil (Nrm.seq (Tri.cond (b := !t10) rfl (fun g_1 => ?_) (fun g_1 => ?_)))
 ·replace h := if_tt g_1 h
  refine Tri.seq (Tri.reg (l := [0, 1]) rfl ?_)
  refine F.qn rfl rfl rfl rfl (r_assign rfl) ?_
  refine F.qn rfl rfl rfl rfl (r_assign rfl) ?_
  refine F.nil (Nrm.seq (Tri.ret ?_))
  refine Rtn.then ?_
  cases h
  exact Rtn.body (.tmp rfl (.tmp rfl .nil)) (fun w hw => ⟨rfl, hw.ext⟩)
 ·replace h := if_ff g_1 h
  refine Tri.skip (Nrm.seq (Tri.seq ?_))
  obtain ⟨⟨t15_1, t15_2, t15_3⟩, h15, h⟩ := bind_some h
  refine Tri.reg (l := [0, 1, 2, 3, 4, 5, 6, 7, 8, 9]) rfl ?_
  refine F.qn rfl rfl rfl rfl (r_loadA ta66 ti66 rfl rfl (fun w hw => (box_cells (i := 0) rfl w hw))) ?_
  refine F.qn rfl rfl rfl rfl (r_move rfl) ?_
  refine F.qcn rfl rfl rfl rfl (q_callF (xs := _) rfl ok126 rfl rfl (fun w hw => spec_l11Behind.ok h15 w ((fun _ hw => hr_a0_1.sep hw) w hw) ((fun _ hw => hr_a0_2.sep hw) w hw) ((fun _ hw => hr_a0_3.sep hw) w hw) ((fun _ hw => hr_a1.sep hw) w hw))) ?_
  refine F.qn rfl rfl rfl rfl (r_move rfl) ?_
  iterate 3 refine F.qn rfl rfl rfl rfl (r_extract rfl rfl) ?_
  iterate 3 refine F.qn rfl rfl rfl rfl (r_assign rfl) ?_
  refine F.nil (Nrm.seq (Tri.seq (Tri.reg (l := [0, 1, 2]) rfl ?_)))
  refine F.qn rfl rfl rfl rfl (r_move rfl) ?_
  refine F.qn rfl rfl rfl rfl (r_assign rfl) ?_
  refine F.qn rfl rfl rfl rfl (r_assign rfl) ?_
  refine F.nil (Nrm.seq (Tri.ret ?_))
  cases h
  exact Rtn.body (.tmp rfl (.tmp rfl .nil)) (fun w hw => ⟨rfl, hw.ext⟩)


def spec_l1Cur_colours.l0 (k : Nat) (a0_0 : List By) : Nat → Int → Int → Int → Int → Option (Int × Int × Int)
 | 0, _, _, _, _ => none
 | n + 1, x3, x4, xpa0_1, xpa0_2 => (if (decide (x4 > 0)) = true then (spec_l1Cur_pick.f k a0_0 xpa0_1 xpa0_2 6).bind fun (t18_1, t18_2, t18_3) => if ¬ t18_1 < 0 then spec_l1Cur_colours.l0 k a0_0 n (bor x3 (shl 1 t18_1)) (w64 (x4 - 1)) t18_2 t18_3 else none else some (x3, xpa0_1, xpa0_2))

def spec_l1Cur_colours.f (k : Nat) (a0_0 : List By) (a0_1 : Int) (a0_2 : Int) : Option (Int × Int × Int) := (spec_l1Cur_one.f k a0_0 a0_1 a0_2 30).bind fun (t6_1, t6_2, t6_3) => (if t6_1 = true then (spec_l1Cur_among.f k a0_0 t6_2 t6_3 ([63, 64, (-1), 4611686018427387904] : List (Int))).bind fun (t9_1, t9_2, t9_3) => some (t9_1, t9_2, t9_3) else (spec_l1Cur_pick.f k a0_0 t6_2 t6_3 4).bind fun (t11_1, t11_2, t11_3) => (spec_l1Cur_colours.l0 k a0_0 k 0 t11_1 t11_2 t11_3).bind fun (x3, xpa0_1, xpa0_2) => some (x3, xpa0_1, xpa0_2))

theorem spec_l1Cur_colours.ok {k : Nat}  {a0_0 : List By} {a0_1 : Int} {a0_2 : Int} {r0 : Int} {r1 : Int} {r2 : Int} (h : spec_l1Cur_colours.f k a0_0 a0_1 a0_2 = some (r0, r1, r2)) (w : World) {pa0 : Nat} {va0_0 : Value} (hr_a0_0 : RdM w (footM [R.box pa0 100 [va0_0, .int .i64 a0_1, .int .u64 a0_2]]) va0_0 a0_0) (hw0 : Sep w (footM [R.box pa0 100 [va0_0, .int .i64 a0_1, .int .u64 a0_2]]) [R.box pa0 100 [va0_0, .int .i64 a0_1, .int .u64 a0_2]] w) :
  Calls Try.prog 134 ([.pointer (some ⟨pa0, 0, none⟩)] : List Value).toArray w (PostM (footM [R.box pa0 100 [va0_0, .int .i64 a0_1, .int .u64 a0_2]]) (fun u ns => u = .int .i64 r0 ∧ ns = [R.box pa0 100 [va0_0, .int .i64 r1, .int .u64 r2]]) w) := by
 unfold spec_l1Cur_colours.f at h
 have hl_va0_0 := hr_a0_0.len
 refine Calls.of_tri (N := 22) Try.func134 rfl rfl rfl hw0 ?_
 refine Tri.seq (Tri.reg (l := [0]) rfl ?_)
 refine F.qn rfl rfl rfl rfl (r_assign rfl) ?_
 refine F.nil (Nrm.seq (Tri.seq (Tri.seq ?_)))
 obtain ⟨⟨t6_1, t6_2, t6_3⟩, h6, h⟩ := bind_some h
 refine Tri.reg (l := [0, 1]) rfl ?_
 refine F.qn rfl rfl rfl rfl (r_move rfl) ?_
 refine F.efn rfl rfl rfl rfl (d_callM (xs := _) (cs := [R.box pa0 100 [va0_0, .int .i64 a0_1, .int .u64 a0_2]]) (rest := []) [0] [] rfl ok93 rfl rfl rfl rfl (fun w hw => spec_l1Cur_one.ok h6 w (hr_a0_0.down hw) (Sep.sub hw))) ?_
 rintro _ _ ⟨_, ⟨rfl, rfl⟩, rfl⟩
 refine F.nil (Nrm.seq (Tri.cond (b := t6_1) rfl (fun g_1 => ?_) (fun g_1 => ?_)))
 ·replace h := if_tt g_1 h
  refine Tri.seq ?_
  obtain ⟨⟨t9_1, t9_2, t9_3⟩, h9, h⟩ := bind_some h
  refine Tri.reg (l := [0, 1, 2, 3]) rfl ?_
  refine F.qn rfl rfl rfl rfl (r_move rfl) ?_
  refine F.mn rfl rfl rfl rfl (m_buildF (l := ([63, 64, (-1), 4611686018427387904] : List (Int))) Try.underlying25 ti3 rfl rfl rfl rfl rfl) ?_
  rintro v8_1 _ ⟨S8_1, hl_v8_1, rfl⟩
  refine F.efn rfl rfl rfl rfl (d_callM (xs := _) (cs := [R.box pa0 100 [va0_0, .int .i64 t6_2, .int .u64 t6_3]]) (rest := [R.sl S8_1 v8_1 (([63, 64, (-1), 4611686018427387904] : List (Int)) : List (Int))]) [1] [0] rfl ok96 rfl rfl rfl rfl (fun w hw => spec_l1Cur_among.ok h9 w (hr_a0_0.down hw) (rdm_sl (i := 0) rfl hw) (Sep.sub hw))) ?_
  rintro _ _ ⟨_, ⟨rfl, rfl⟩, rfl⟩
  refine F.qn rfl rfl rfl rfl (r_assign rfl) ?_
  refine F.nil (Nrm.seq (Tri.ret ?_))
  refine Rtn.then ?_
  cases h
  exact Rtn.body (.tmp rfl .nil) (fun w hw => ⟨_, _, rfl, ⟨rfl, rfl⟩, Sep.pick (is := [0]) rfl rfl hw⟩)
 ·replace h := if_ff g_1 h
  refine Tri.skip (Nrm.seq (Tri.seq (Tri.reg (l := [0]) rfl ?_)))
  refine F.qn rfl rfl rfl rfl (r_assign rfl) ?_
  refine F.nil (Nrm.seq (Tri.seq (Tri.seq ?_)))
  obtain ⟨⟨t11_1, t11_2, t11_3⟩, h11, h⟩ := bind_some h
  refine Tri.reg (l := [0, 1, 2]) rfl ?_
  refine F.qn rfl rfl rfl rfl (r_move rfl) ?_
  refine F.efn rfl rfl rfl rfl (d_callM (xs := _) (cs := [R.box pa0 100 [va0_0, .int .i64 t6_2, .int .u64 t6_3]]) (rest := []) [0] [] rfl ok95 rfl rfl rfl rfl (fun w hw => spec_l1Cur_pick.ok h11 w (hr_a0_0.down hw) (Sep.sub hw))) ?_
  rintro _ _ ⟨_, ⟨rfl, rfl⟩, rfl⟩
  refine F.qn rfl rfl rfl rfl (r_assign rfl) ?_
  refine F.nil (Nrm.seq ?_)
  obtain ⟨⟨x3, xpa0_1, xpa0_2⟩, hE_1, h⟩ := bind_some h
  refine Tri.block ?_
  refine Tri.only [0, 3, 4] rfl ?_
  refine Tri.pick [0] rfl rfl ?_
  refine Tri.rounds (fun n e' C' => ∃ (x3' : Int) (x4' : Int) (xpa0_1' : Int) (xpa0_2' : Int), spec_l1Cur_colours.l0 k a0_0 n x3' x4' xpa0_1' xpa0_2' = some (x3, xpa0_1, xpa0_2) ∧ e' = [(0, .pointer (some ⟨pa0, 0, none⟩)), (3, .int .i64 x3'), (4, .int .i64 x4')] ∧ C' = Sep w (footM [R.box pa0 100 [va0_0, .int .i64 a0_1, .int .u64 a0_2]]) [R.box pa0 100 [va0_0, .int .i64 xpa0_1', .int .u64 xpa0_2']]) k ?_ ?_ ?_
  ·exact ⟨0, t11_1, t11_2, t11_3, hE_1, rfl, rfl⟩
  ·rintro _ _ ⟨_, _, _, _, hE_1, _⟩
   rw [spec_l1Cur_colours.l0.eq_1] at hE_1; cases hE_1
  ·rintro n_1 _ _ ⟨x3, x4, xpa0_1, xpa0_2, hE_1, rfl, rfl⟩ ih_1
   rw [spec_l1Cur_colours.l0.eq_2] at hE_1
   refine Tri.seq (Tri.seq (Tri.reg (l := [0, 1]) rfl ?_))
   refine F.qn rfl rfl rfl rfl (r_move rfl) ?_
   refine F.qn rfl rfl rfl rfl (r_gtr rfl rfl) ?_
   refine F.nil (Nrm.seq (Tri.cond (b := decide (x4 > 0)) rfl (fun g_2 => ?_) (fun g_2 => ?_)))
   ·replace hE_1 := if_tt g_2 hE_1
    refine Tri.skip (Nrm.seq (Tri.seq (Tri.block ?_)))
    obtain ⟨⟨t18_1, t18_2, t18_3⟩, h18, hE_1⟩ := bind_some hE_1
    obtain ⟨hs19, hE_1⟩ := ck hE_1
    refine Tri.reg (l := [0, 1, 2, 3, 4, 5]) rfl ?_
    refine F.qn rfl rfl rfl rfl (r_move rfl) ?_
    refine F.qn rfl rfl rfl rfl (r_move rfl) ?_
    refine F.efn rfl rfl rfl rfl (d_callM (xs := _) (cs := [R.box pa0 100 [va0_0, .int .i64 xpa0_1, .int .u64 xpa0_2]]) (rest := []) [0] [] rfl ok95 rfl rfl rfl rfl (fun w hw => spec_l1Cur_pick.ok h18 w (hr_a0_0.down hw) (Sep.sub hw))) ?_
    rintro _ _ ⟨_, ⟨rfl, rfl⟩, rfl⟩
    refine F.qn rfl rfl rfl rfl (r_shl rfl rfl hs19) ?_
    refine F.qn rfl rfl rfl rfl (r_or rfl rfl) ?_
    refine F.qn rfl rfl rfl rfl (r_assign rfl) ?_
    refine F.nil (Nrm.block ?_)
    refine Nrm.seq (Tri.reg (l := [0, 1, 2]) rfl ?_)
    refine F.qn rfl rfl rfl rfl (r_move rfl) ?_
    refine F.qn rfl rfl rfl rfl (r_sub rfl rfl) ?_
    refine F.qn rfl rfl rfl rfl (r_assign rfl) ?_
    refine F.nil (Nrm.round ?_)
    refine Rnd.only [0, 3, 4] rfl ?_
    refine Rnd.pick [0] rfl rfl ?_
    exact ih_1 _ _ ⟨bor x3 (shl 1 t18_1), w64 (x4 - 1), t18_2, t18_3, hE_1, rfl, rfl⟩
   ·replace hE_1 := if_ff g_2 hE_1
    refine Tri.exit ?_
    refine Exi.then ?_
    refine Exi.then ?_
    refine Exi.same ?_
    cases hE_1
    refine Nrm.seq (Tri.seq (Tri.reg (l := [0, 1]) rfl ?_))
    refine F.qn rfl rfl rfl rfl (r_move rfl) ?_
    refine F.qn rfl rfl rfl rfl (r_assign rfl) ?_
    refine F.nil (Nrm.seq (Tri.ret ?_))
    cases h
    exact Rtn.body (.tmp rfl .nil) (fun w hw => ⟨_, _, rfl, ⟨rfl, rfl⟩, Sep.pick (is := [0]) rfl rfl hw⟩)


def spec_DrawStepsFrom.f (k : Nat) (a0 : List By) : Option (Int × (List (Int × Int × Int)) × (List Int) × (List Int) × Int × Int) := (spec_l1Cur_trap.f k a0 0 0).bind fun (t11_1, t11_2, t11_3, t11_4, t11_5, t11_6) => (spec_l1Cur_nodeOf.f k a0 t11_5 t11_6 t11_1 t11_2 t11_3).bind fun (t16_1, t16_2, t16_3) => (spec_l1Cur_colours.f k a0 t16_2 t16_3).bind fun (t18_1, t18_2, t18_3) => some (t11_1, t11_2, t11_3, t11_4, t16_1, t18_1)

theorem spec_DrawStepsFrom.ok {k : Nat}  {a0 : List By} {r0 : Int} {r1 : List (Int × Int × Int)} {r2 : List Int} {r3 : List Int} {r4 : Int} {r5 : Int} (h : spec_DrawStepsFrom.f k a0 = some (r0, r1, r2, r3, r4, r5)) (w : World) {va0 : Value} (hr_a0 : Rd w va0 a0) :
  Calls Try.prog 54 ([va0] : List Value).toArray w (Post (fun u ns => ∃ (ur1 : Value) (Sr1 : Nat → Prop) (ur2 : Value) (Sr2 : Nat → Prop) (ur3 : Value) (Sr3 : Nat → Prop), u = .tuple #[.agg [.int .i64 r0, ur1, ur2, ur3].toArray, .int .i64 r4, .int .i64 r5] ∧ SlLen ur1 r1.length ∧ SlLen ur2 r2.length ∧ SlLen ur3 r3.length ∧ ns = [R.sl Sr1 ur1 r1, R.sl Sr2 ur2 r2, R.sl Sr3 ur3 r3]) w) := by
 unfold spec_DrawStepsFrom.f at h
 have hl_va0 := hr_a0.len
 refine Calls.of_tri (N := 19) Try.func54 rfl rfl rfl (Sep.nil (M := noM)) ?_
 refine Tri.seq (Tri.reg (l := [0, 1, 2]) rfl ?_)
 refine F.mn rfl rfl rfl rfl (m_alloc ti66) ?_
 rintro _ _ ⟨b2_1, rfl, rfl⟩
 refine F.qn rfl rfl rfl rfl (r_assign rfl) ?_
 refine F.qn rfl rfl rfl rfl (r_assign rfl) ?_
 refine F.nil (Nrm.seq (Tri.seq (Tri.reg (l := [0, 1, 2, 3]) rfl ?_)))
 refine F.qn rfl rfl rfl rfl (r_move rfl) ?_
 refine F.qn rfl rfl rfl rfl (r_build (pl := [(0, 1), (1, 1), (2, 1)]) (qs := [(0, [va0])]) (cs := [va0, .int .i64 0, .int .u64 0]) (by kernel_rfl) ti100 rfl (.cons (sl_cells hl_va0) rfl (Nat.le_of_ble_eq_true rfl) .nil) rfl rfl) ?_
 refine F.mn rfl rfl rfl rfl (m_boxG rfl rfl) ?_
 rintro _ _ ⟨b9_1, rfl, rfl⟩
 refine F.qn rfl rfl rfl rfl (r_assign rfl) ?_
 refine F.nil (Nrm.seq (Tri.seq ?_))
 obtain ⟨⟨t11_1, t11_2, t11_3, t11_4, t11_5, t11_6⟩, h11, h⟩ := bind_some h
 refine Tri.reg (l := [0, 1, 2, 3]) rfl ?_
 refine F.qn rfl rfl rfl rfl (r_move rfl) ?_
 refine F.efn rfl rfl rfl rfl (d_callM (xs := _) (cs := [R.box b9_1 100 [va0, .int .i64 0, .int .u64 0]]) (rest := [R.box b2_1 66 [.int .i64 0, .slice none 0 0, .slice none 0 0, .slice none 0 0]]) [0] [1] rfl ok132 rfl rfl rfl rfl (fun w hw => spec_l1Cur_trap.ok h11 w (hr_a0.down hw) (Sep.sub hw))) ?_
 rintro _ _ ⟨_, ⟨v11_1, S11_1, v11_2, S11_2, v11_3, S11_3, rfl, hl_v11_1, hl_v11_2, hl_v11_3, rfl⟩, rfl⟩
 refine F.mn rfl rfl rfl rfl (m_alloc ti66) ?_
 rintro _ _ ⟨b6_1, rfl, rfl⟩
 refine F.ef0 rfl rfl (wanted_none rfl) (d_storeG0 (i := 0) (cs2 := [.int .i64 t11_1, v11_1, v11_2, v11_3]) ti66 rfl rfl rfl rfl rfl (Nat.le_of_ble_eq_true rfl) (lf_cons rfl (lf_cons (sl_leaf hl_v11_1) (lf_cons (sl_leaf hl_v11_2) (lf_cons (sl_leaf hl_v11_3) lf_nil))))) ?_
 rintro _ _ ⟨rfl, rfl⟩
 refine F.nil (Nrm.seq (Tri.seq ?_))
 obtain ⟨⟨t16_1, t16_2, t16_3⟩, h16, h⟩ := bind_some h
 obtain ⟨⟨t18_1, t18_2, t18_3⟩, h18, h⟩ := bind_some h
 refine Tri.drawK (B := Sep w noM [R.box b6_1 66 [.int .i64 t11_1, v11_1, v11_2, v11_3], R.sl S11_1 v11_1 (t11_2 : List (Int × Int × Int)), R.sl S11_2 v11_2 (t11_3 : List (Int)), R.sl S11_3 v11_3 (t11_4 : List (Int)), R.box b2_1 66 [.int .i64 0, .slice none 0 0, .slice none 0 0, .slice none 0 0]]) mixedT Sep.up [(0, true), (1, true), (2, true), (3, true), (5, true), (4, false), (6, false)] [7, 8, 9] (by kernel_rfl) ?_
 refine K.q [0, 1, 2, 3, 5] rfl rfl rfl rfl rfl (wanted_none rfl) (r_loadA ta66 ti66 rfl rfl (fun w hw => (box_cells (i := 0) rfl w hw))) ?_
 refine K.q [0, 1, 2, 3, 5] rfl rfl rfl rfl rfl (wanted_none rfl) (r_move rfl) ?_
 refine K.q [0, 1, 2, 3, 5] rfl rfl rfl rfl rfl (wanted_none rfl) (r_fieldAddr tf66_0 rfl) ?_
 refine K.q [0, 1, 2, 3, 5] rfl rfl rfl rfl rfl (wanted_none rfl) (r_loadA ta27 ti27 rfl rfl (fun w hw => cells_1 (cs' := [.int .i64 t11_1, v11_1, v11_2]) (box_cells (i := 0) rfl w hw) rfl)) ?_
 refine K.q [0, 1, 2, 3, 5] rfl rfl rfl rfl rfl (wanted_none rfl) (r_move rfl) ?_
 refine B.ef rfl rfl rfl (wanted_none rfl) (d_callM (xs := _) (cs := [R.box b9_1 100 [va0, .int .i64 t11_5, .int .u64 t11_6]]) (rest := [R.box b6_1 66 [.int .i64 t11_1, v11_1, v11_2, v11_3], R.sl S11_1 v11_1 (t11_2 : List (Int × Int × Int)), R.sl S11_2 v11_2 (t11_3 : List (Int)), R.sl S11_3 v11_3 (t11_4 : List (Int)), R.box b2_1 66 [.int .i64 0, .slice none 0 0, .slice none 0 0, .slice none 0 0]]) [4] [0, 1, 2, 3, 5] rfl ok133 rfl rfl rfl rfl (fun w hw => spec_l1Cur_nodeOf.ok h16 w (hr_a0.down hw) (rdm_sl (i := 1) rfl hw) (rdm_sl (i := 2) rfl hw) (Sep.sub hw))) (by rintro _ _ ⟨_, ⟨rfl, rfl⟩, rfl⟩; exact upd rfl [1, 2, 3, 4, 5] rfl rfl) ?_
 rintro _ _ ⟨_, ⟨rfl, rfl⟩, rfl⟩
 refine B.ef rfl rfl rfl (wanted_none rfl) (d_callM (xs := _) (cs := [R.box b9_1 100 [va0, .int .i64 t16_2, .int .u64 t16_3]]) (rest := [R.box b6_1 66 [.int .i64 t11_1, v11_1, v11_2, v11_3], R.sl S11_1 v11_1 (t11_2 : List (Int × Int × Int)), R.sl S11_2 v11_2 (t11_3 : List (Int)), R.sl S11_3 v11_3 (t11_4 : List (Int)), R.box b2_1 66 [.int .i64 0, .slice none 0 0, .slice none 0 0, .slice none 0 0]]) [0] [1, 2, 3, 4, 5] rfl ok134 rfl rfl rfl rfl (fun w hw => spec_l1Cur_colours.ok h18 w (hr_a0.down hw) (Sep.sub hw))) (by rintro _ _ ⟨_, ⟨rfl, rfl⟩, rfl⟩; exact upd rfl [1, 2, 3, 4, 5] rfl rfl) ?_
 rintro _ _ ⟨_, ⟨rfl, rfl⟩, rfl⟩
 refine B.nil ?_
 refine F.ef0 rfl rfl (wanted_none rfl) (d_storeG0 (i := 5) (cs2 := [.int .i64 t11_1, v11_1, v11_2, v11_3]) ti66 rfl rfl rfl rfl rfl (Nat.le_of_ble_eq_true rfl) (lf_cons rfl (lf_cons (sl_leaf hl_v11_1) (lf_cons (sl_leaf hl_v11_2) (lf_cons (sl_leaf hl_v11_3) lf_nil))))) ?_
 rintro _ _ ⟨rfl, rfl⟩
 refine F.qn rfl rfl rfl rfl (r_assign rfl) ?_
 refine F.qn rfl rfl rfl rfl (r_assign rfl) ?_
 refine F.nil (Nrm.seq (Tri.ret ?_))
 cases h
 exact Rtn.body (.cell rfl ta66 ti66 rfl (fun _ hw => box_cells (i := 5) rfl _ hw) (.tmp rfl (.tmp rfl .nil))) (fun w hw => ⟨_, _, rfl, ⟨v11_1, S11_1, v11_2, S11_2, v11_3, S11_3, rfl, hl_v11_1, hl_v11_2, hl_v11_3, rfl⟩, Sep.pick (is := [2, 3, 4]) rfl rfl hw⟩)


def impl_isNode_1.f (k : Nat) (a0 : Int) (c0_0 : Int) (c0_1 : List (Int × Int × Int)) (c0_2 : List Int) : Option (Bool) := (impl_within.f k a0 0 (w64 (c0_0 - 1))).bind fun t8 => some (!t8)

theorem impl_isNode_1.ok {k : Nat} {pc0 : Addr} {a0 : Int} {c0_0 : Int} {c0_1 : List (Int × Int × Int)} {c0_2 : List Int} {r0 : Bool} (h : impl_isNode_1.f k a0 c0_0 c0_1 c0_2 = some r0) (w : World) {vc0_1 : Value} {vc0_2 : Value} (hb_c0 : CellsAt w pc0 [.int .i64 c0_0, vc0_1, vc0_2]) (hr_c0_1 : Rd w vc0_1 c0_1) (hr_c0_2 : Rd w vc0_2 c0_2) :
  Calls Try.prog 209 ([.int .i64 a0, .pointer (some pc0)] : List Value).toArray w (fun e w' => e = .returned (.bool r0) ∧ Ext w w') := by
 unfold impl_isNode_1.f at h
 have hl_vc0_1 := hr_c0_1.len
 have hl_vc0_2 := hr_c0_2.len
 refine Calls.of_tri (N := 10) Try.func209 rfl rfl rfl (Sep.nil (M := noM)) ?_
 refine Tri.seq (Tri.reg (l := [0]) rfl ?_)
 refine F.qn rfl rfl rfl rfl (r_assign rfl) ?_
 refine F.nil (Nrm.seq (Tri.seq ?_))
 obtain ⟨t8, h8, h⟩ := bind_some h
 refine Tri.reg (l := [0, 1, 2, 3, 4, 5, 6]) rfl ?_
 refine F.qn rfl rfl rfl rfl (r_move rfl) ?_
 refine F.qn rfl rfl rfl rfl (r_fieldAddr tf27_0 rfl) ?_
 refine F.qn rfl rfl rfl rfl (r_load ta3 rfl (fun w hw => cell_1 (hb_c0.sep hw) rfl)) ?_
 refine F.qn rfl rfl rfl rfl (r_sub rfl rfl) ?_
 refine F.qcn rfl rfl rfl rfl (q_callF (xs := _) rfl ok149 rfl rfl (fun w hw => impl_within.ok h8 w )) ?_
 refine F.qn rfl rfl rfl rfl (r_not rfl) ?_
 refine F.qn rfl rfl rfl rfl (r_assign rfl) ?_
 refine F.nil (Nrm.seq (Tri.ret ?_))
 cases h
 exact Rtn.body (.tmp rfl .nil) (fun w hw => ⟨rfl, hw.ext⟩)


def impl_isNode.f (k : Nat) (a0_0 : Int) (a0_1 : List (Int × Int × Int)) (a0_2 : List Int) (a1 : List Int) : Option (Bool) := ((impl_IsMaze.f k a0_0 a0_1 a0_2).bind fun t6 => (if t6 = true then (slices_ContainsFunc_int_int.f k a1 (fun z0 => impl_isNode_1.f k z0 a0_0 a0_1 a0_2)).bind fun t10 => some (!t10) else some false)).bind fun y4 => some y4

theorem impl_isNode.ok {k : Nat}  {a0_0 : Int} {a0_1 : List (Int × Int × Int)} {a0_2 : List Int} {a1 : List Int} {r0 : Bool} (h : impl_isNode.f k a0_0 a0_1 a0_2 a1 = some r0) (w : World) {va0_1 : Value} {va0_2 : Value} {va1 : Value} (hr_a0_1 : Rd w va0_1 a0_1) (hr_a0_2 : Rd w va0_2 a0_2) (hr_a1 : Rd w va1 a1) :
  Calls Try.prog 170 ([.agg ([.int .i64 a0_0, va0_1, va0_2].toArray), va1] : List Value).toArray w (fun e w' => e = .returned (.bool r0) ∧ Ext w w') := by
 unfold impl_isNode.f at h
 have hl_va0_1 := hr_a0_1.len
 have hl_va0_2 := hr_a0_2.len
 have hl_va1 := hr_a1.len
 refine Calls.of_tri (N := 13) Try.func170 rfl rfl rfl (Sep.nil (M := noM)) ?_
 refine Tri.seq (Tri.reg (l := [0, 1]) rfl ?_)
 refine F.mn rfl rfl rfl rfl (m_boxG rfl rfl) ?_
 rintro _ _ ⟨b2_1, rfl, rfl⟩
 refine F.qn rfl rfl rfl rfl (r_assign rfl) ?_
 refine F.nil (Nrm.seq (Tri.seq ?_))
 obtain ⟨y4, hE_1, h⟩ := bind_some h
 refine Tri.cut (fun e' C' => e' = [(4, .bool y4)] ∧ C' = Sep w noM []) ?_ (fun hj_1 => ?_)
 ·rintro _ _ ⟨rfl, rfl⟩
  refine Nrm.seq (Tri.ret ?_)
  cases h
  exact Rtn.body (.tmp rfl .nil) (fun w hw => ⟨rfl, hw.ext⟩)
 ·obtain ⟨t6, h6, hE_1⟩ := bind_some hE_1
  rcases Bool.eq_false_or_eq_true (t6) with g7 | g7
  ·replace hE_1 := if_tt g7 hE_1
   obtain ⟨t10, h10, hE_1⟩ := bind_some hE_1
   refine Tri.reg (l := [0, 1, 2, 3, 4, 5, 6, 7, 8]) rfl ?_
   refine F.qn rfl rfl rfl rfl (r_loadA ta27 ti27 rfl rfl (fun w hw => (box_cells (i := 0) rfl w hw))) ?_
   refine F.qcn rfl rfl rfl rfl (q_callF (xs := _) rfl ok143 rfl rfl (fun w hw => impl_IsMaze.ok h6 w ((fun _ hw => hr_a0_1.sep hw) w hw) ((fun _ hw => hr_a0_2.sep hw) w hw))) ?_
   refine F.qn rfl rfl rfl rfl (r_move rfl) ?_
   refine F.qg rfl rfl rfl rfl rfl rfl g7 (r_move rfl) ?_
   refine F.qg rfl rfl rfl rfl rfl rfl g7 (r_makeFunc rfl) ?_
   refine F.qc rfl rfl rfl (wg rfl rfl rfl g7) (q_callF (xs := _) rfl ok150 rfl rfl (fun w hw => slices_ContainsFunc_int_int.ok h10 w ((fun _ hw => hr_a1.sep hw) w hw) ok209 (fun w2 he2 z0 y2 hy2 => impl_isNode_1.ok hy2 w2 ((box_cells (i := 0) rfl w hw).ext he2) (((fun _ hw => hr_a0_1.sep hw) w hw).ext he2) (((fun _ hw => hr_a0_2.sep hw) w hw).ext he2)))) ?_
   refine F.qg rfl rfl rfl rfl rfl rfl g7 (r_not rfl) ?_
   refine F.qn rfl rfl rfl rfl (r_pick rfl rfl g7) ?_
   refine F.qn rfl rfl rfl rfl (r_assign rfl) ?_
   refine F.nil ?_
   cases hE_1
   refine Nrm.only [4] rfl ?_
   refine Nrm.pick [] rfl rfl ?_
   exact hj_1 _ _ ⟨rfl, rfl⟩
  ·replace hE_1 := if_ff g7 hE_1
   refine Tri.reg (l := [0, 1, 2, 3, 4, 5, 6, 7, 8]) rfl ?_
   refine F.qn rfl rfl rfl rfl (r_loadA ta27 ti27 rfl rfl (fun w hw => (box_cells (i := 0) rfl w hw))) ?_
   refine F.qcn rfl rfl rfl rfl (q_callF (xs := _) rfl ok143 rfl rfl (fun w hw => impl_IsMaze.ok h6 w ((fun _ hw => hr_a0_1.sep hw) w hw) ((fun _ hw => hr_a0_2.sep hw) w hw))) ?_
   refine F.qn rfl rfl rfl rfl (r_move rfl) ?_
   iterate 4 refine F.sk rfl rfl rfl (wf rfl rfl rfl g7) ?_
   refine F.qn rfl rfl rfl rfl (r_pickf rfl rfl g7) ?_
   refine F.qn rfl rfl rfl rfl (r_assign rfl) ?_
   refine F.nil ?_
   cases hE_1
   refine Nrm.only [4] rfl ?_
   refine Nrm.pick [] rfl rfl ?_
   exact hj_1 _ _ ⟨rfl, rfl⟩


def impl_isTrapState.f (k : Nat) (a0_0 : Int) (a0_1 : List (Int × Int × Int)) (a0_2 : List Int) (a0_3 : List Int) (a1 : Int) (a2 : Int) : Option (Bool) := ((impl_IsTrap.f k a0_0 a0_1 a0_2 a0_3).bind fun t8 => (if t8 = true then (impl_isNode.f k a0_0 a0_1 a0_2 ([a1] : List (Int))).bind fun t14 => (if t14 = true then (impl_isSet.f k a2).bind fun t18 => some t18 else some false) else some false)).bind fun y6 => some y6

theorem impl_isTrapState.ok {k : Nat}  {a0_0 : Int} {a0_1 : List (Int × Int × Int)} {a0_2 : List Int} {a0_3 : List Int} {a1 : Int} {a2 : Int} {r0 : Bool} (h : impl_isTrapState.f k a0_0 a0_1 a0_2 a0_3 a1 a2 = some r0) (w : World) {va0_1 : Value} {va0_2 : Value} {va0_3 : Value} (hr_a0_1 : Rd w va0_1 a0_1) (hr_a0_2 : Rd w va0_2 a0_2) (hr_a0_3 : Rd w va0_3 a0_3) :
  Calls Try.prog 135 ([.agg ([.int .i64 a0_0, va0_1, va0_2, va0_3].toArray), .int .i64 a1, .int .i64 a2] : List Value).toArray w (fun e w' => e = .returned (.bool r0) ∧ Ext w w') := by
 unfold impl_isTrapState.f at h
 have hl_va0_1 := hr_a0_1.len
 have hl_va0_2 := hr_a0_2.len
 have hl_va0_3 := hr_a0_3.len
 refine Calls.of_tri (N := 20) Try.func135 rfl rfl rfl (Sep.nil (M := noM)) ?_
 refine Tri.seq (Tri.reg (l := [0, 1]) rfl ?_)
 refine F.mn rfl rfl rfl rfl (m_boxG rfl rfl) ?_
 rintro _ _ ⟨b3_1, rfl, rfl⟩
 refine F.qn rfl rfl rfl rfl (r_assign rfl) ?_
 refine F.nil (Nrm.seq (Tri.seq ?_))
 obtain ⟨y6, hE_1, h⟩ := bind_some h
 refine Tri.cut (fun e' C' => e' = [(6, .bool y6)] ∧ C' = Sep w noM []) ?_ (fun hj_1 => ?_)
 ·rintro _ _ ⟨rfl, rfl⟩
  refine Nrm.seq (Tri.ret ?_)
  cases h
  exact Rtn.body (.tmp rfl .nil) (fun w hw => ⟨rfl, hw.ext⟩)
 ·obtain ⟨t8, h8, hE_1⟩ := bind_some hE_1
  rcases Bool.eq_false_or_eq_true (t8) with g9 | g9
  ·replace hE_1 := if_tt g9 hE_1
   obtain ⟨t14, h14, hE_1⟩ := bind_some hE_1
   rcases Bool.eq_false_or_eq_true (t14) with g16 | g16
   ·replace hE_1 := if_tt g16 hE_1
    obtain ⟨t18, h18, hE_1⟩ := bind_some hE_1
    refine Tri.reg (l := List.range 14) rfl ?_
    refine F.qn rfl rfl rfl rfl (r_loadA ta66 ti66 rfl rfl (fun w hw => (box_cells (i := 0) rfl w hw))) ?_
    refine F.qcn rfl rfl rfl rfl (q_callF (xs := _) rfl ok129 rfl rfl (fun w hw => impl_IsTrap.ok h8 w ((fun _ hw => hr_a0_1.sep hw) w hw) ((fun _ hw => hr_a0_2.sep hw) w hw) ((fun _ hw => hr_a0_3.sep hw) w hw))) ?_
    refine F.qn rfl rfl rfl rfl (r_move rfl) ?_
    refine F.qg rfl rfl rfl rfl rfl rfl g9 (r_fieldAddr tf66_0 rfl) ?_
    refine F.qg rfl rfl rfl rfl rfl rfl g9 (r_loadA ta27 ti27 rfl rfl (fun w hw => cells_1 (cs' := [.int .i64 a0_0, va0_1, va0_2]) (box_cells (i := 0) rfl w hw) rfl)) ?_
    refine F.qg rfl rfl rfl rfl rfl rfl g9 (r_move rfl) ?_
    refine F.m rfl rfl rfl (wg rfl rfl rfl g9) (m_buildF (l := ([a1] : List (Int))) Try.underlying25 ti3 rfl rfl rfl rfl rfl) ?_
    rintro v13_2 _ ⟨S13_2, hl_v13_2, rfl⟩
    refine F.qc rfl rfl rfl (wg rfl rfl rfl g9) (q_callF (xs := _) rfl ok170 rfl rfl (fun w hw => impl_isNode.ok h14 w ((fun _ hw => hr_a0_1.sep hw) w hw) ((fun _ hw => hr_a0_2.sep hw) w hw) ((rd_sl (i := 0) rfl) w hw))) ?_
    refine F.qn rfl rfl rfl rfl (r_pick rfl rfl g9) ?_
    refine F.qn rfl rfl rfl rfl (r_move rfl) ?_
    refine F.qg rfl rfl rfl rfl rfl rfl g16 (r_move rfl) ?_
    refine F.qc rfl rfl rfl (wg rfl rfl rfl g16) (q_callF (xs := _) rfl ok101 rfl rfl (fun w hw => impl_isSet.ok h18 w )) ?_
    refine F.qn rfl rfl rfl rfl (r_pick rfl rfl g16) ?_
    refine F.qn rfl rfl rfl rfl (r_assign rfl) ?_
    refine F.nil ?_
    cases hE_1
    refine Nrm.only [6] rfl ?_
    refine Nrm.pick [] rfl rfl ?_
    exact hj_1 _ _ ⟨rfl, rfl⟩
   ·replace hE_1 := if_ff g16 hE_1
    refine Tri.reg (l := List.range 14) rfl ?_
    refine F.qn rfl rfl rfl rfl (r_loadA ta66 ti66 rfl rfl (fun w hw => (box_cells (i := 0) rfl w hw))) ?_
    refine F.qcn rfl rfl rfl rfl (q_callF (xs := _) rfl ok129 rfl rfl (fun w hw => impl_IsTrap.ok h8 w ((fun _ hw => hr_a0_1.sep hw) w hw) ((fun _ hw => hr_a0_2.sep hw) w hw) ((fun _ hw => hr_a0_3.sep hw) w hw))) ?_
    refine F.qn rfl rfl rfl rfl (r_move rfl) ?_
    refine F.qg rfl rfl rfl rfl rfl rfl g9 (r_fieldAddr tf66_0 rfl) ?_
    refine F.qg rfl rfl rfl rfl rfl rfl g9 (r_loadA ta27 ti27 rfl rfl (fun w hw => cells_1 (cs' := [.int .i64 a0_0, va0_1, va0_2]) (box_cells (i := 0) rfl w hw) rfl)) ?_
    refine F.qg rfl rfl rfl rfl rfl rfl g9 (r_move rfl) ?_
    refine F.m rfl rfl rfl (wg rfl rfl rfl g9) (m_buildF (l := ([a1] : List (Int))) Try.underlying25 ti3 rfl rfl rfl rfl rfl) ?_
    rintro v13_3 _ ⟨S13_3, hl_v13_3, rfl⟩
    refine F.qc rfl rfl rfl (wg rfl rfl rfl g9) (q_callF (xs := _) rfl ok170 rfl rfl (fun w hw => impl_isNode.ok h14 w ((fun _ hw => hr_a0_1.sep hw) w hw) ((fun _ hw => hr_a0_2.sep hw) w hw) ((rd_sl (i := 0) rfl) w hw))) ?_
    refine F.qn rfl rfl rfl rfl (r_pick rfl rfl g9) ?_
    refine F.qn rfl rfl rfl rfl (r_move rfl) ?_
    refine F.sk rfl rfl rfl (wf rfl rfl rfl g16) ?_
    refine F.sk rfl rfl rfl (wf rfl rfl rfl g16) ?_
    refine F.qn rfl rfl rfl rfl (r_pickf rfl rfl g16) ?_
    refine F.qn rfl rfl rfl rfl (r_assign rfl) ?_
    refine F.nil ?_
    cases hE_1
    refine Nrm.only [6] rfl ?_
    refine Nrm.pick [] rfl rfl ?_
    exact hj_1 _ _ ⟨rfl, rfl⟩
  ·replace hE_1 := if_ff g9 hE_1
   refine Tri.reg (l := List.range 14) rfl ?_
   refine F.qn rfl rfl rfl rfl (r_loadA ta66 ti66 rfl rfl (fun w hw => (box_cells (i := 0) rfl w hw))) ?_
   refine F.qcn rfl rfl rfl rfl (q_callF (xs := _) rfl ok129 rfl rfl (fun w hw => impl_IsTrap.ok h8 w ((fun _ hw => hr_a0_1.sep hw) w hw) ((fun _ hw => hr_a0_2.sep hw) w hw) ((fun _ hw => hr_a0_3.sep hw) w hw))) ?_
   refine F.qn rfl rfl rfl rfl (r_move rfl) ?_
   iterate 5 refine F.sk rfl rfl rfl (wf rfl rfl rfl g9) ?_
   refine F.qn rfl rfl rfl rfl (r_pickf rfl rfl g9) ?_
   refine F.qn rfl rfl rfl rfl (r_move rfl) ?_
   refine F.sk rfl rfl rfl (wf rfl rfl rfl rfl) ?_
   refine F.sk rfl rfl rfl (wf rfl rfl rfl rfl) ?_
   refine F.qn rfl rfl rfl rfl (r_pickf rfl rfl rfl) ?_
   refine F.qn rfl rfl rfl rfl (r_assign rfl) ?_
   refine F.nil ?_
   cases hE_1
   refine Nrm.only [6] rfl ?_
   refine Nrm.pick [] rfl rfl ?_
   exact hj_1 _ _ ⟨rfl, rfl⟩


def impl_StepsFrom.f (k : Nat) (a0_0 : Int) (a0_1 : List (Int × Int × Int)) (a0_2 : List Int) (a0_3 : List Int) (a1 : Int) (a2 : Int) : Option ((List Int) × Bool) := (impl_isTrapState.f k a0_0 a0_1 a0_2 a0_3 a1 a2).bind fun t11 => (if (!t11) = true then some ([], false) else (impl_trapSteps.f k a0_0 a0_1 a0_2 a0_3 a1 a2).bind fun t16 => (impl_members.f k t16).bind fun t17 => some (t17, true))

theorem impl_StepsFrom.ok {k : Nat}  {a0_0 : Int} {a0_1 : List (Int × Int × Int)} {a0_2 : List Int} {a0_3 : List Int} {a1 : Int} {a2 : Int} {r0 : List Int} {r1 : Bool} (h : impl_StepsFrom.f k a0_0 a0_1 a0_2 a0_3 a1 a2 = some (r0, r1)) (w : World) {va0_1 : Value} {va0_2 : Value} {va0_3 : Value} (hr_a0_1 : Rd w va0_1 a0_1) (hr_a0_2 : Rd w va0_2 a0_2) (hr_a0_3 : Rd w va0_3 a0_3) :
  Calls Try.prog 55 ([.agg ([.int .i64 a0_0, va0_1, va0_2, va0_3].toArray), .int .i64 a1, .int .i64 a2] : List Value).toArray w (Post (fun u ns => ∃ (ur0 : Value) (Sr0 : Nat → Prop), u = .tuple #[ur0, .bool r1] ∧ SlLen ur0 r0.length ∧ ns = [R.sl Sr0 ur0 r0]) w) := by
 unfold impl_StepsFrom.f at h
 have hl_va0_1 := hr_a0_1.len
 have hl_va0_2 := hr_a0_2.len
 have hl_va0_3 := hr_a0_3.len
 refine Calls.of_tri (N := 18) Try.func55 rfl rfl rfl (Sep.nil (M := noM)) ?_
 refine Tri.seq (Tri.reg (l := [0, 1, 2]) rfl ?_)
 refine F.mn rfl rfl rfl rfl (m_boxG rfl rfl) ?_
 rintro _ _ ⟨b3_1, rfl, rfl⟩
 refine F.qn rfl rfl rfl rfl (r_assign rfl) ?_
 refine F.qn rfl rfl rfl rfl (r_assign rfl) ?_
 refine F.nil (Nrm.seq (Tri.seq (Tri.seq ?_)))
 obtain ⟨t11, h11, h⟩ := bind_some h
 refine Tri.reg (l := [0, 1, 2, 3, 4]) rfl ?_
 refine F.qn rfl rfl rfl rfl (r_loadA ta66 ti66 rfl rfl (fun w hw => (box_cells (i := 0) rfl w hw))) ?_
 refine F.qn rfl rfl rfl rfl (r_move rfl) ?_
 refine F.qn rfl rfl rfl rfl (r_move rfl) ?_
 refine F.qcn rfl rfl rfl rfl (q_callF (xs := _) rfl ok135 rfl rfl (fun w hw => impl_isTrapState.ok h11 w ((fun _ hw => hr_a0_1.sep hw) w hw) ((fun _ hw => hr_a0_2.sep hw) w hw) ((fun _ hw => hr_a0_3.sep hw) w hw))) ?_
 refine F.qn rfl rfl rfl rfl (r_not rfl) ?_
 refine F.nil (Nrm.seq (Tri.cond (b := !t11) rfl (fun g_1 => ?_) (fun g_1 => ?_)))
 ·replace h := if_tt g_1 h
  refine Tri.seq (Tri.reg (l := [0, 1]) rfl ?_)
  refine F.qn rfl rfl rfl rfl (r_assign rfl) ?_
  refine F.qn rfl rfl rfl rfl (r_assign rfl) ?_
  refine F.nil (Nrm.seq (Tri.ret ?_))
  refine Rtn.then ?_
  cases h
  exact Rtn.body (.tmp rfl (.tmp rfl .nil)) (fun w hw => ⟨_, _, rfl, ⟨.slice none 0 0, fun _ => False, rfl, len_nil, rfl⟩, Sep.pick (is := [0]) rfl rfl hw.pushNil⟩)
 ·replace h := if_ff g_1 h
  refine Tri.skip (Nrm.seq (Tri.seq ?_))
  obtain ⟨t16, h16, h⟩ := bind_some h
  obtain ⟨t17, h17, h⟩ := bind_some h
  refine Tri.reg (l := [0, 1, 2, 3, 4, 5, 6]) rfl ?_
  refine F.qn rfl rfl rfl rfl (r_loadA ta66 ti66 rfl rfl (fun w hw => (box_cells (i := 0) rfl w hw))) ?_
  refine F.qn rfl rfl rfl rfl (r_move rfl) ?_
  refine F.qn rfl rfl rfl rfl (r_move rfl) ?_
  refine F.qcn rfl rfl rfl rfl (q_callF (xs := _) rfl ok124 rfl rfl (fun w hw => impl_trapSteps.ok h16 w ((fun _ hw => hr_a0_1.sep hw) w hw) ((fun _ hw => hr_a0_2.sep hw) w hw) ((fun _ hw => hr_a0_3.sep hw) w hw))) ?_
  refine F.mn rfl rfl rfl rfl (m_callF (xs := _) rfl ok98 rfl rfl (fun w hw => impl_members.ok h17 w )) ?_
  rintro v17_1 _ ⟨_, ⟨S17_1, hl_v17_1, rfl⟩, rfl⟩
  refine F.qn rfl rfl rfl rfl (r_assign rfl) ?_
  refine F.qn rfl rfl rfl rfl (r_assign rfl) ?_
  refine F.nil (Nrm.seq (Tri.ret ?_))
  cases h
  exact Rtn.body (.tmp rfl (.tmp rfl .nil)) (fun w hw => ⟨_, _, rfl, ⟨v17_1, S17_1, rfl, hl_v17_1, rfl⟩, Sep.pick (is := [0]) rfl rfl hw⟩)


def spec_l11State.f (k : Nat) (a0_0 : Int) (a0_1 : List (Int × Int × Int)) (a0_2 : List Int) (a0_3 : List Int) (a1 : Int) (a2 : Int) : Option (Bool) := ((spec_l11Trap.f k a0_0 a0_1 a0_2 a0_3).bind fun t8 => (if t8 = true then (spec_l1In.f k a1 0 (w64 (a0_0 - 1))).bind fun t15 => (if t15 = true then (spec_l2Set.f k a2).bind fun t19 => some t19 else some false) else some false)).bind fun y6 => some y6

theorem spec_l11State.ok {k : Nat}  {a0_0 : Int} {a0_1 : List (Int × Int × Int)} {a0_2 : List Int} {a0_3 : List Int} {a1 : Int} {a2 : Int} {r0 : Bool} (h : spec_l11State.f k a0_0 a0_1 a0_2 a0_3 a1 a2 = some r0) (w : World) {va0_1 : Value} {va0_2 : Value} {va0_3 : Value} (hr_a0_1 : Rd w va0_1 a0_1) (hr_a0_2 : Rd w va0_2 a0_2) (hr_a0_3 : Rd w va0_3 a0_3) :
  Calls Try.prog 136 ([.agg ([.int .i64 a0_0, va0_1, va0_2, va0_3].toArray), .int .i64 a1, .int .i64 a2] : List Value).toArray w (fun e w' => e = .returned (.bool r0) ∧ Ext w w') := by
 unfold spec_l11State.f at h
 have hl_va0_1 := hr_a0_1.len
 have hl_va0_2 := hr_a0_2.len
 have hl_va0_3 := hr_a0_3.len
 refine Calls.of_tri (N := 21) Try.func136 rfl rfl rfl (Sep.nil (M := noM)) ?_
 refine Tri.seq (Tri.reg (l := [0, 1]) rfl ?_)
 refine F.mn rfl rfl rfl rfl (m_boxG rfl rfl) ?_
 rintro _ _ ⟨b3_1, rfl, rfl⟩
 refine F.qn rfl rfl rfl rfl (r_assign rfl) ?_
 refine F.nil (Nrm.seq (Tri.seq ?_))
 obtain ⟨y6, hE_1, h⟩ := bind_some h
 refine Tri.cut (fun e' C' => e' = [(6, .bool y6)] ∧ C' = Sep w noM []) ?_ (fun hj_1 => ?_)
 ·rintro _ _ ⟨rfl, rfl⟩
  refine Nrm.seq (Tri.ret ?_)
  cases h
  exact Rtn.body (.tmp rfl .nil) (fun w hw => ⟨rfl, hw.ext⟩)
 ·obtain ⟨t8, h8, hE_1⟩ := bind_some hE_1
  rcases Bool.eq_false_or_eq_true (t8) with g9 | g9
  ·replace hE_1 := if_tt g9 hE_1
   obtain ⟨t15, h15, hE_1⟩ := bind_some hE_1
   rcases Bool.eq_false_or_eq_true (t15) with g17 | g17
   ·replace hE_1 := if_tt g17 hE_1
    obtain ⟨t19, h19, hE_1⟩ := bind_some hE_1
    refine Tri.reg (l := List.range 15) rfl ?_
    refine F.qn rfl rfl rfl rfl (r_loadA ta66 ti66 rfl rfl (fun w hw => (box_cells (i := 0) rfl w hw))) ?_
    refine F.qcn rfl rfl rfl rfl (q_callF (xs := _) rfl ok131 rfl rfl (fun w hw => spec_l11Trap.ok h8 w ((fun _ hw => hr_a0_1.sep hw) w hw) ((fun _ hw => hr_a0_2.sep hw) w hw) ((fun _ hw => hr_a0_3.sep hw) w hw))) ?_
    refine F.qn rfl rfl rfl rfl (r_move rfl) ?_
    refine F.qg rfl rfl rfl rfl rfl rfl g9 (r_move rfl) ?_
    refine F.qg rfl rfl rfl rfl rfl rfl g9 (r_fieldAddr tf66_0 rfl) ?_
    refine F.qg rfl rfl rfl rfl rfl rfl g9 (r_fieldAddr tf27_0 rfl) ?_
    refine F.qg rfl rfl rfl rfl rfl rfl g9 (r_load ta3 rfl (fun w hw => cell_2 (box_cells (i := 0) rfl w hw) rfl)) ?_
    refine F.qg rfl rfl rfl rfl rfl rfl g9 (r_sub rfl rfl) ?_
    refine F.qc rfl rfl rfl (wg rfl rfl rfl g9) (q_callF (xs := _) rfl ok105 rfl rfl (fun w hw => spec_l1In.ok h15 w )) ?_
    refine F.qn rfl rfl rfl rfl (r_pick rfl rfl g9) ?_
    refine F.qn rfl rfl rfl rfl (r_move rfl) ?_
    refine F.qg rfl rfl rfl rfl rfl rfl g17 (r_move rfl) ?_
    refine F.qc rfl rfl rfl (wg rfl rfl rfl g17) (q_callF (xs := _) rfl ok92 rfl rfl (fun w hw => spec_l2Set.ok h19 w )) ?_
    refine F.qn rfl rfl rfl rfl (r_pick rfl rfl g17) ?_
    refine F.qn rfl rfl rfl rfl (r_assign rfl) ?_
    refine F.nil ?_
    cases hE_1
    refine Nrm.only [6] rfl ?_
    refine Nrm.pick [] rfl rfl ?_
    exact hj_1 _ _ ⟨rfl, rfl⟩
   ·replace hE_1 := if_ff g17 hE_1
    refine Tri.reg (l := List.range 15) rfl ?_
    refine F.qn rfl rfl rfl rfl (r_loadA ta66 ti66 rfl rfl (fun w hw => (box_cells (i := 0) rfl w hw))) ?_
    refine F.qcn rfl rfl rfl rfl (q_callF (xs := _) rfl ok131 rfl rfl (fun w hw => spec_l11Trap.ok h8 w ((fun _ hw => hr_a0_1.sep hw) w hw) ((fun _ hw => hr_a0_2.sep hw) w hw) ((fun _ hw => hr_a0_3.sep hw) w hw))) ?_
    refine F.qn rfl rfl rfl rfl (r_move rfl) ?_
    refine F.qg rfl rfl rfl rfl rfl rfl g9 (r_move rfl) ?_
    refine F.qg rfl rfl rfl rfl rfl rfl g9 (r_fieldAddr tf66_0 rfl) ?_
    refine F.qg rfl rfl rfl rfl rfl rfl g9 (r_fieldAddr tf27_0 rfl) ?_
    refine F.qg rfl rfl rfl rfl rfl rfl g9 (r_load ta3 rfl (fun w hw => cell_2 (box_cells (i := 0) rfl w hw) rfl)) ?_
    refine F.qg rfl rfl rfl rfl rfl rfl g9 (r_sub rfl rfl) ?_
    refine F.qc rfl rfl rfl (wg rfl rfl rfl g9) (q_callF (xs := _) rfl ok105 rfl rfl (fun w hw => spec_l1In.ok h15 w )) ?_
    refine F.qn rfl rfl rfl rfl (r_pick rfl rfl g9) ?_
    refine F.qn rfl rfl rfl rfl (r_move rfl) ?_
    refine F.sk rfl rfl rfl (wf rfl rfl rfl g17) ?_
    refine F.sk rfl rfl rfl (wf rfl rfl rfl g17) ?_
    refine F.qn rfl rfl rfl rfl (r_pickf rfl rfl g17) ?_
    refine F.qn rfl rfl rfl rfl (r_assign rfl) ?_
    refine F.nil ?_
    cases hE_1
    refine Nrm.only [6] rfl ?_
    refine Nrm.pick [] rfl rfl ?_
    exact hj_1 _ _ ⟨rfl, rfl⟩
  ·replace hE_1 := if_ff g9 hE_1
   refine Tri.reg (l := List.range 15) rfl ?_
   refine F.qn rfl rfl rfl rfl (r_loadA ta66 ti66 rfl rfl (fun w hw => (box_cells (i := 0) rfl w hw))) ?_
   refine F.qcn rfl rfl rfl rfl (q_callF (xs := _) rfl ok131 rfl rfl (fun w hw => spec_l11Trap.ok h8 w ((fun _ hw => hr_a0_1.sep hw) w hw) ((fun _ hw => hr_a0_2.sep hw) w hw) ((fun _ hw => hr_a0_3.sep hw) w hw))) ?_
   refine F.qn rfl rfl rfl rfl (r_move rfl) ?_
   iterate 6 refine F.sk rfl rfl rfl (wf rfl rfl rfl g9) ?_
   refine F.qn rfl rfl rfl rfl (r_pickf rfl rfl g9) ?_
   refine F.qn rfl rfl rfl rfl (r_move rfl) ?_
   refine F.sk rfl rfl rfl (wf rfl rfl rfl rfl) ?_
   refine F.sk rfl rfl rfl (wf rfl rfl rfl rfl) ?_
   refine F.qn rfl rfl rfl rfl (r_pickf rfl rfl rfl) ?_
   refine F.qn rfl rfl rfl rfl (r_assign rfl) ?_
   refine F.nil ?_
   cases hE_1
   refine Nrm.only [6] rfl ?_
   refine Nrm.pick [] rfl rfl ?_
   exact hj_1 _ _ ⟨rfl, rfl⟩


def spec_StepsFrom.l0 (k : Nat) (t21 : List Int) : Nat → (List (Int)) → Int → Option ((List (Int)))
 | 0, _, _ => none
 | n + 1, x8, x10 => (if (decide (x10 < (t21.length : Int))) = true then (rdl t21 x10).bind fun t31 => if (x8 ++ ([quo t31 64] : List (Int))).length < 1099511627776 then spec_StepsFrom.l0 k t21 n (x8 ++ ([quo t31 64] : List (Int))) (w64 (x10 + 1)) else none else some x8)

def spec_StepsFrom.f (k : Nat) (a0_0 : Int) (a0_1 : List (Int × Int × Int)) (a0_2 : List Int) (a0_3 : List Int) (a1 : Int) (a2 : Int) : Option ((List Int) × Bool) := (spec_l11State.f k a0_0 a0_1 a0_2 a0_3 a1 a2).bind fun t15 => (if (!t15) = true then some (([] : List (Int)), false) else (spec_l11Step.f k a0_0 a0_1 a0_2 a0_3 a1 a2).bind fun t21 => (spec_StepsFrom.l0 k t21 k ([] : List (Int)) 0).bind fun x8 => some (x8, true))

theorem spec_StepsFrom.ok {k : Nat}  {a0_0 : Int} {a0_1 : List (Int × Int × Int)} {a0_2 : List Int} {a0_3 : List Int} {a1 : Int} {a2 : Int} {r0 : List Int} {r1 : Bool} (h : spec_StepsFrom.f k a0_0 a0_1 a0_2 a0_3 a1 a2 = some (r0, r1)) (w : World) {va0_1 : Value} {va0_2 : Value} {va0_3 : Value} (hr_a0_1 : Rd w va0_1 a0_1) (hr_a0_2 : Rd w va0_2 a0_2) (hr_a0_3 : Rd w va0_3 a0_3) :
  Calls Try.prog 56 ([.agg ([.int .i64 a0_0, va0_1, va0_2, va0_3].toArray), .int .i64 a1, .int .i64 a2] : List Value).toArray w (Post (fun u ns => ∃ (ur0 : Value) (Sr0 : Nat → Prop), u = .tuple #[ur0, .bool r1] ∧ SlLen ur0 r0.length ∧ ns = [R.sl Sr0 ur0 r0]) w) := by
 unfold spec_StepsFrom.f at h
 have hl_va0_1 := hr_a0_1.len
 have hl_va0_2 := hr_a0_2.len
 have hl_va0_3 := hr_a0_3.len
 refine Calls.of_tri (N := 37) Try.func56 rfl rfl rfl (Sep.nil (M := noM)) ?_
 refine Tri.seq (Tri.reg (l := [0, 1, 2]) rfl ?_)
 refine F.mn rfl rfl rfl rfl (m_boxG rfl rfl) ?_
 rintro _ _ ⟨b3_1, rfl, rfl⟩
 refine F.qn rfl rfl rfl rfl (r_assign rfl) ?_
 refine F.qn rfl rfl rfl rfl (r_assign rfl) ?_
 refine F.nil (Nrm.seq (Tri.seq (Tri.reg (l := [0, 1]) rfl ?_)))
 refine F.mn rfl rfl rfl rfl (m_build0 (α := Int) Try.underlying25 ti3) ?_
 rintro v11_1 _ ⟨S11_1, hl_v11_1, rfl⟩
 refine F.qn rfl rfl rfl rfl (r_assign rfl) ?_
 refine F.nil (Nrm.seq (Tri.seq (Tri.seq ?_)))
 obtain ⟨t15, h15, h⟩ := bind_some h
 refine Tri.reg (l := [0, 1, 2, 3, 4]) rfl ?_
 refine F.qn rfl rfl rfl rfl (r_loadA ta66 ti66 rfl rfl (fun w hw => (box_cells (i := 1) rfl w hw))) ?_
 refine F.qn rfl rfl rfl rfl (r_move rfl) ?_
 refine F.qn rfl rfl rfl rfl (r_move rfl) ?_
 refine F.qcn rfl rfl rfl rfl (q_callF (xs := _) rfl ok136 rfl rfl (fun w hw => spec_l11State.ok h15 w ((fun _ hw => hr_a0_1.sep hw) w hw) ((fun _ hw => hr_a0_2.sep hw) w hw) ((fun _ hw => hr_a0_3.sep hw) w hw))) ?_
 refine F.qn rfl rfl rfl rfl (r_not rfl) ?_
 refine F.nil (Nrm.seq (Tri.cond (b := !t15) rfl (fun g_1 => ?_) (fun g_1 => ?_)))
 ·replace h := if_tt g_1 h
  refine Tri.seq (Tri.reg (l := [0, 1, 2]) rfl ?_)
  refine F.qn rfl rfl rfl rfl (r_move rfl) ?_
  refine F.qn rfl rfl rfl rfl (r_assign rfl) ?_
  refine F.qn rfl rfl rfl rfl (r_assign rfl) ?_
  refine F.nil (Nrm.seq (Tri.ret ?_))
  refine Rtn.then ?_
  cases h
  exact Rtn.body (.tmp rfl (.tmp rfl .nil)) (fun w hw => ⟨_, _, rfl, ⟨v11_1, S11_1, rfl, hl_v11_1, rfl⟩, Sep.pick (is := [0]) rfl rfl hw⟩)
 ·replace h := if_ff g_1 h
  refine Tri.skip (Nrm.seq (Tri.seq ?_))
  obtain ⟨t21, h21, h⟩ := bind_some h
  refine Tri.reg (l := [0, 1, 2, 3, 4]) rfl ?_
  refine F.qn rfl rfl rfl rfl (r_loadA ta66 ti66 rfl rfl (fun w hw => (box_cells (i := 1) rfl w hw))) ?_
  refine F.qn rfl rfl rfl rfl (r_move rfl) ?_
  refine F.qn rfl rfl rfl rfl (r_move rfl) ?_
  refine F.mn rfl rfl rfl rfl (m_callF (xs := _) rfl ok128 rfl rfl (fun w hw => spec_l11Step.ok h21 w ((fun _ hw => hr_a0_1.sep hw) w hw) ((fun _ hw => hr_a0_2.sep hw) w hw) ((fun _ hw => hr_a0_3.sep hw) w hw))) ?_
  rintro v21_1 _ ⟨_, ⟨S21_1, hl_v21_1, rfl⟩, rfl⟩
  refine F.qn rfl rfl rfl rfl (r_assign rfl) ?_
  refine F.nil (Nrm.seq (Tri.seq (Tri.seq (Tri.reg (l := [0]) rfl ?_))))
  refine F.qn rfl rfl rfl rfl (r_assign rfl) ?_
  refine F.nil (Nrm.seq ?_)
  obtain ⟨x8, hE_1, h⟩ := bind_some h
  refine Tri.block ?_
  refine Tri.only [8, 9, 10] rfl ?_
  refine Tri.pick [0, 1] rfl rfl ?_
  refine Tri.rounds (fun n e' C' => ∃ (x8' : List (Int)) (x10' : Int) (w8 : Value) (T8 : Nat → Prop), spec_StepsFrom.l0 k t21 n x8' x10' = some x8 ∧ SlLen w8 (x8').length ∧ e' = [(8, w8), (9, v21_1), (10, .int .i64 x10')] ∧ C' = Sep w noM [R.sl S21_1 v21_1 (t21 : List (Int)), R.sl T8 w8 (x8' : List (Int))]) k ?_ ?_ ?_
  ·exact ⟨([] : List (Int)), 0, v11_1, S11_1, hE_1, hl_v11_1, rfl, rfl⟩
  ·rintro _ _ ⟨_, _, _, _, hE_1, _⟩
   rw [spec_StepsFrom.l0.eq_1] at hE_1; cases hE_1
  ·rintro n_1 _ _ ⟨x8, x10, w8, T8, hE_1, hl_w8, rfl, rfl⟩ ih_1
   rw [spec_StepsFrom.l0.eq_2] at hE_1
   refine Tri.seq (Tri.seq (Tri.reg (l := [0, 1, 2, 3]) rfl ?_))
   refine F.qn rfl rfl rfl rfl (r_move rfl) ?_
   refine F.qn rfl rfl rfl rfl (r_move rfl) ?_
   refine F.qn rfl rfl rfl rfl (r_len Try.underlying25 rfl hl_v21_1) ?_
   refine F.qn rfl rfl rfl rfl (r_lss rfl rfl) ?_
   refine F.nil (Nrm.seq (Tri.cond (b := decide (x10 < (t21.length : Int))) rfl (fun g_2 => ?_) (fun g_2 => ?_)))
   ·replace hE_1 := if_tt g_2 hE_1
    refine Tri.skip (Nrm.seq (Tri.seq (Tri.block ?_)))
    obtain ⟨t31, h31, hE_1⟩ := bind_some hE_1
    obtain ⟨hs35, hE_1⟩ := ck hE_1
    refine Tri.reg (l := [0, 1, 2, 3, 4, 5, 6, 7, 8]) rfl ?_
    iterate 3 refine F.qn rfl rfl rfl rfl (r_move rfl) ?_
    refine F.qn rfl rfl rfl rfl (r_indexAddrS Try.underlying25 ti3 rfl hl_v21_1 rfl (rdl_some h31).1 (rdl_some h31).2.1) ?_
    refine F.qn rfl rfl rfl rfl (r_load ta3 rfl (fun w hw => cell_0 (Rd.flat ((rd_sl (i := 0) rfl) w hw) (rdl_some h31).2.2) rfl)) ?_
    refine F.qn rfl rfl rfl rfl (r_quo rfl rfl (by decide)) ?_
    refine F.mn rfl rfl rfl rfl (m_buildF (l := ([quo t31 64] : List (Int))) Try.underlying25 ti3 rfl rfl rfl rfl rfl) ?_
    rintro v34_1 _ ⟨S34_1, hl_v34_1, rfl⟩
    refine F.efn rfl rfl rfl rfl (d_append (i := 2) Try.underlying25 Try.underlying25 ti3 rfl (by decide) rfl rfl rfl (rd_sl (i := 0) rfl) hs35) ?_
    rintro v35_1 _ ⟨S35_1, rfl, hl_v35_1⟩
    refine F.qn rfl rfl rfl rfl (r_assign rfl) ?_
    refine F.nil (Nrm.block ?_)
    refine Nrm.seq (Tri.reg (l := [0, 1, 2]) rfl ?_)
    refine F.qn rfl rfl rfl rfl (r_move rfl) ?_
    refine F.qn rfl rfl rfl rfl (r_add rfl rfl) ?_
    refine F.qn rfl rfl rfl rfl (r_assign rfl) ?_
    refine F.nil (Nrm.round ?_)
    refine Rnd.only [8, 9, 10] rfl ?_
    refine Rnd.pick [1, 2] rfl rfl ?_
    exact ih_1 _ _ ⟨x8 ++ ([quo t31 64] : List (Int)), w64 (x10 + 1), v35_1, S35_1, hE_1, hl_v35_1, rfl, rfl⟩
   ·replace hE_1 := if_ff g_2 hE_1
    refine Tri.exit ?_
    refine Exi.then ?_
    refine Exi.then ?_
    refine Exi.same ?_
    cases hE_1
    refine Nrm.seq (Tri.seq (Tri.reg (l := [0, 1, 2]) rfl ?_))
    refine F.qn rfl rfl rfl rfl (r_move rfl) ?_
    refine F.qn rfl rfl rfl rfl (r_assign rfl) ?_
    refine F.qn rfl rfl rfl rfl (r_assign rfl) ?_
    refine F.nil (Nrm.seq (Tri.ret ?_))
    cases h
    exact Rtn.body (.tmp rfl (.tmp rfl .nil)) (fun w hw => ⟨_, _, rfl, ⟨w8, T8, rfl, hl_w8, rfl⟩, Sep.pick (is := [1]) rfl rfl hw⟩)


def impl_IsGood.f (k : Nat) (a0_0 : Int) (a0_1 : List (Int × Int × Int)) (a0_2 : List Int) (a0_3 : List Int) (a1 : Int) (a2 : Int) : Option (Bool × Bool) := (impl_isTrapState.f k a0_0 a0_1 a0_2 a0_3 a1 a2).bind fun t11 => (if (!t11) = true then some (false, false) else (impl_toTrapGoal.f k a0_0 a0_1 a0_2 a0_3).bind fun t14 => if 0 ≤ a1 ∧ a1 < 12 then if 0 ≤ a2 ∧ a2 < 64 then some (decide ((Arr.at t14 (a1 * 64 + a2)) ≥ 0), true) else none else none)

theorem impl_IsGood.ok {k : Nat}  {a0_0 : Int} {a0_1 : List (Int × Int × Int)} {a0_2 : List Int} {a0_3 : List Int} {a1 : Int} {a2 : Int} {r0 : Bool} {r1 : Bool} (h : impl_IsGood.f k a0_0 a0_1 a0_2 a0_3 a1 a2 = some (r0, r1)) (w : World) {va0_1 : Value} {va0_2 : Value} {va0_3 : Value} (hr_a0_1 : Rd w va0_1 a0_1) (hr_a0_2 : Rd w va0_2 a0_2) (hr_a0_3 : Rd w va0_3 a0_3) :
  Calls Try.prog 57 ([.agg ([.int .i64 a0_0, va0_1, va0_2, va0_3].toArray), .int .i64 a1, .int .i64 a2] : List Value).toArray w (fun e w' => e = .returned (.tuple #[.bool r0, .bool r1]) ∧ Ext w w') := by
 unfold impl_IsGood.f at h
 have hl_va0_1 := hr_a0_1.len
 have hl_va0_2 := hr_a0_2.len
 have hl_va0_3 := hr_a0_3.len
 refine Calls.of_tri (N := 20) Try.func57 rfl rfl rfl (Sep.nil (M := noM)) ?_
 refine Tri.seq (Tri.reg (l := [0, 1, 2]) rfl ?_)
 refine F.mn rfl rfl rfl rfl (m_boxG rfl rfl) ?_
 rintro _ _ ⟨b3_1, rfl, rfl⟩
 refine F.qn rfl rfl rfl rfl (r_assign rfl) ?_
 refine F.qn rfl rfl rfl rfl (r_assign rfl) ?_
 refine F.nil (Nrm.seq (Tri.seq (Tri.seq ?_)))
 obtain ⟨t11, h11, h⟩ := bind_some h
 refine Tri.reg (l := [0, 1, 2, 3, 4]) rfl ?_
 refine F.qn rfl rfl rfl rfl (r_loadA ta66 ti66 rfl rfl (fun w hw => (box_cells (i := 0) rfl w hw))) ?_
 refine F.qn rfl rfl rfl rfl (r_move rfl) ?_
 refine F.qn rfl rfl rfl rfl (r_move rfl) ?_
 refine F.qcn rfl rfl rfl rfl (q_callF (xs := _) rfl ok135 rfl rfl (fun w hw => impl_isTrapState.ok h11 w ((fun _ hw => hr_a0_1.sep hw) w hw) ((fun _ hw => hr_a0_2.sep hw) w hw) ((fun _ hw => hr_a0_3.sep hw) w hw))) ?_
 refine F.qn rfl rfl rfl rfl (r_not rfl) ?_
 refine F.nil (Nrm.seq (Tri.cond (b := !t11) rfl (fun g_1 => ?_) (fun g_1 => ?_)))
 ·replace h := if_tt g_1 h
  refine Tri.seq (Tri.reg (l := [0, 1]) rfl ?_)
  refine F.qn rfl rfl rfl rfl (r_assign rfl) ?_
  refine F.qn rfl rfl rfl rfl (r_assign rfl) ?_
  refine F.nil (Nrm.seq (Tri.ret ?_))
  refine Rtn.then ?_
  cases h
  exact Rtn.body (.tmp rfl (.tmp rfl .nil)) (fun w hw => ⟨rfl, hw.ext⟩)
 ·replace h := if_ff g_1 h
  refine Tri.skip (Nrm.seq (Tri.seq ?_))
  obtain ⟨t14, h14, h⟩ := bind_some h
  obtain ⟨hb16, h⟩ := ck h
  obtain ⟨hb18, h⟩ := ck h
  refine Tri.reg (l := [0, 1, 2, 3, 4, 5, 6, 7, 8]) rfl ?_
  refine F.qn rfl rfl rfl rfl (r_loadA ta66 ti66 rfl rfl (fun w hw => (box_cells (i := 0) rfl w hw))) ?_
  refine F.qcn rfl rfl rfl rfl (q_callF (xs := _) rfl ok122 rfl rfl (fun w hw => impl_toTrapGoal.ok h14 w ((fun _ hw => hr_a0_1.sep hw) w hw) ((fun _ hw => hr_a0_2.sep hw) w hw) ((fun _ hw => hr_a0_3.sep hw) w hw))) ?_
  refine F.qn rfl rfl rfl rfl (r_move rfl) ?_
  refine F.qn rfl rfl rfl rfl (r_indexT (g := t14) Try.underlying125 ti123 ta123 rfl rfl hb16) ?_
  refine F.qn rfl rfl rfl rfl (r_move rfl) ?_
  refine F.qn rfl rfl rfl rfl (r_indexR (g := t14) (i := a1) (m := 64) Try.underlying123 ti3 ta3 rfl rfl (tabB 12 64 768 hb16 rfl) hb18) ?_
  refine F.qn rfl rfl rfl rfl (r_geq rfl rfl) ?_
  refine F.qn rfl rfl rfl rfl (r_assign rfl) ?_
  refine F.qn rfl rfl rfl rfl (r_assign rfl) ?_
  refine F.nil (Nrm.seq (Tri.ret ?_))
  cases h
  exact Rtn.body (.tmp rfl (.tmp rfl .nil)) (fun w hw => ⟨rfl, hw.ext⟩)


def spec_IsGood.f (k : Nat) (a0_0 : Int) (a0_1 : List (Int × Int × Int)) (a0_2 : List Int) (a0_3 : List Int) (a1 : Int) (a2 : Int) : Option (Bool × Bool) := (spec_l11State.f k a0_0 a0_1 a0_2 a0_3 a1 a2).bind fun t11 => (if (!t11) = true then some (false, false) else (spec_l11Good.f k a0_0 a0_1 a0_2 a0_3).bind fun t14 => (spec_l4Id.f k a1 a2).bind fun t17 => (rdl t14 t17).bind fun t18 => some (t18, true))

theorem spec_IsGood.ok {k : Nat}  {a0_0 : Int} {a0_1 : List (Int × Int × Int)} {a0_2 : List Int} {a0_3 : List Int} {a1 : Int} {a2 : Int} {r0 : Bool} {r1 : Bool} (h : spec_IsGood.f k a0_0 a0_1 a0_2 a0_3 a1 a2 = some (r0, r1)) (w : World) {va0_1 : Value} {va0_2 : Value} {va0_3 : Value} (hr_a0_1 : Rd w va0_1 a0_1) (hr_a0_2 : Rd w va0_2 a0_2) (hr_a0_3 : Rd w va0_3 a0_3) :
  Calls Try.prog 58 ([.agg ([.int .i64 a0_0, va0_1, va0_2, va0_3].toArray), .int .i64 a1, .int .i64 a2] : List Value).toArray w (fun e w' => e = .returned (.tuple #[.bool r0, .bool r1]) ∧ Ext w w') := by
 unfold spec_IsGood.f at h
 have hl_va0_1 := hr_a0_1.len
 have hl_va0_2 := hr_a0_2.len
 have hl_va0_3 := hr_a0_3.len
 refine Calls.of_tri (N := 20) Try.func58 rfl rfl rfl (Sep.nil (M := noM)) ?_
 refine Tri.seq (Tri.reg (l := [0, 1, 2]) rfl ?_)
 refine F.mn rfl rfl rfl rfl (m_boxG rfl rfl) ?_
 rintro _ _ ⟨b3_1, rfl, rfl⟩
 refine F.qn rfl rfl rfl rfl (r_assign rfl) ?_
 refine F.qn rfl rfl rfl rfl (r_assign rfl) ?_
 refine F.nil (Nrm.seq (Tri.seq (Tri.seq ?_)))
 obtain ⟨t11, h11, h⟩ := bind_some h
 refine Tri.reg (l := [0, 1, 2, 3, 4]) rfl ?_
 refine F.qn rfl rfl rfl rfl (r_loadA ta66 ti66 rfl rfl (fun w hw => (box_cells (i := 0) rfl w hw))) ?_
 refine F.qn rfl rfl rfl rfl (r_move rfl) ?_
 refine F.qn rfl rfl rfl rfl (r_move rfl) ?_
 refine F.qcn rfl rfl rfl rfl (q_callF (xs := _) rfl ok136 rfl rfl (fun w hw => spec_l11State.ok h11 w ((fun _ hw => hr_a0_1.sep hw) w hw) ((fun _ hw => hr_a0_2.sep hw) w hw) ((fun _ hw => hr_a0_3.sep hw) w hw))) ?_
 refine F.qn rfl rfl rfl rfl (r_not rfl) ?_
 refine F.nil (Nrm.seq (Tri.cond (b := !t11) rfl (fun g_1 => ?_) (fun g_1 => ?_)))
 ·replace h := if_tt g_1 h
  refine Tri.seq (Tri.reg (l := [0, 1]) rfl ?_)
  refine F.qn rfl rfl rfl rfl (r_assign rfl) ?_
  refine F.qn rfl rfl rfl rfl (r_assign rfl) ?_
  refine F.nil (Nrm.seq (Tri.ret ?_))
  refine Rtn.then ?_
  cases h
  exact Rtn.body (.tmp rfl (.tmp rfl .nil)) (fun w hw => ⟨rfl, hw.ext⟩)
 ·replace h := if_ff g_1 h
  refine Tri.skip (Nrm.seq (Tri.seq ?_))
  obtain ⟨t14, h14, h⟩ := bind_some h
  obtain ⟨t17, h17, h⟩ := bind_some h
  obtain ⟨t18, h18, h⟩ := bind_some h
  refine Tri.reg (l := [0, 1, 2, 3, 4, 5, 6, 7, 8]) rfl ?_
  refine F.qn rfl rfl rfl rfl (r_loadA ta66 ti66 rfl rfl (fun w hw => (box_cells (i := 0) rfl w hw))) ?_
  refine F.mn rfl rfl rfl rfl (m_callF (xs := _) rfl ok127 rfl rfl (fun w hw => spec_l11Good.ok h14 w ((fun _ hw => hr_a0_1.sep hw) w hw) ((fun _ hw => hr_a0_2.sep hw) w hw) ((fun _ hw => hr_a0_3.sep hw) w hw))) ?_
  rintro v14_1 _ ⟨_, ⟨S14_1, hl_v14_1, rfl⟩, rfl⟩
  refine F.qn rfl rfl rfl rfl (r_move rfl) ?_
  refine F.qn rfl rfl rfl rfl (r_move rfl) ?_
  refine F.qcn rfl rfl rfl rfl (q_callF (xs := _) rfl ok137 rfl rfl (fun w hw => spec_l4Id.ok h17 w )) ?_
  refine F.qn rfl rfl rfl rfl (r_indexAddrS Try.underlying129 ti4 rfl hl_v14_1 rfl (rdl_some h18).1 (rdl_some h18).2.1) ?_
  refine F.qn rfl rfl rfl rfl (r_load ta4 rfl (fun w hw => cell_0 (Rd.flat ((rd_sl (i := 0) rfl) w hw) (rdl_some h18).2.2) rfl)) ?_
  refine F.qn rfl rfl rfl rfl (r_assign rfl) ?_
  refine F.qn rfl rfl rfl rfl (r_assign rfl) ?_
  refine F.nil (Nrm.seq (Tri.ret ?_))
  cases h
  exact Rtn.body (.tmp rfl (.tmp rfl .nil)) (fun w hw => ⟨rfl, hw.ext⟩)


def spec_DrawIsTrap.f (k : Nat) (a0 : List By) : Option (Int × (List (Int × Int × Int)) × (List Int) × (List Int)) := (spec_l1Cur_trap.f k a0 0 0).bind fun (t8_1, t8_2, t8_3, t8_4, t8_5, t8_6) => some (t8_1, t8_2, t8_3, t8_4)

theorem spec_DrawIsTrap.ok {k : Nat}  {a0 : List By} {r0 : Int} {r1 : List (Int × Int × Int)} {r2 : List Int} {r3 : List Int} (h : spec_DrawIsTrap.f k a0 = some (r0, r1, r2, r3)) (w : World) {va0 : Value} (hr_a0 : Rd w va0 a0) :
  Calls Try.prog 138 ([va0] : List Value).toArray w (Post (fun u ns => ∃ (ur1 : Value) (Sr1 : Nat → Prop) (ur2 : Value) (Sr2 : Nat → Prop) (ur3 : Value) (Sr3 : Nat → Prop), u = .agg [.int .i64 r0, ur1, ur2, ur3].toArray ∧ SlLen ur1 r1.length ∧ SlLen ur2 r2.length ∧ SlLen ur3 r3.length ∧ ns = [R.sl Sr1 ur1 r1, R.sl Sr2 ur2 r2, R.sl Sr3 ur3 r3]) w) := by
 unfold spec_DrawIsTrap.f at h
 have hl_va0 := hr_a0.len
 refine Calls.of_tri (N := 9) Try.func138 rfl rfl rfl (Sep.nil (M := noM)) ?_
 refine Tri.seq (Tri.reg (l := [0]) rfl ?_)
 refine F.mn rfl rfl rfl rfl (m_alloc ti66) ?_
 rintro _ _ ⟨b2_1, rfl, rfl⟩
 refine F.nil (Nrm.seq (Tri.seq (Tri.reg (l := [0, 1, 2, 3]) rfl ?_)))
 refine F.qn rfl rfl rfl rfl (r_move rfl) ?_
 refine F.qn rfl rfl rfl rfl (r_build (pl := [(0, 1), (1, 1), (2, 1)]) (qs := [(0, [va0])]) (cs := [va0, .int .i64 0, .int .u64 0]) (by kernel_rfl) ti100 rfl (.cons (sl_cells hl_va0) rfl (Nat.le_of_ble_eq_true rfl) .nil) rfl rfl) ?_
 refine F.mn rfl rfl rfl rfl (m_boxG rfl rfl) ?_
 rintro _ _ ⟨b6_1, rfl, rfl⟩
 refine F.qn rfl rfl rfl rfl (r_assign rfl) ?_
 refine F.nil (Nrm.seq (Tri.seq ?_))
 obtain ⟨⟨t8_1, t8_2, t8_3, t8_4, t8_5, t8_6⟩, h8, h⟩ := bind_some h
 refine Tri.reg (l := [0, 1, 2]) rfl ?_
 refine F.qn rfl rfl rfl rfl (r_move rfl) ?_
 refine F.efn rfl rfl rfl rfl (d_callM (xs := _) (cs := [R.box b6_1 100 [va0, .int .i64 0, .int .u64 0]]) (rest := [R.box b2_1 66 [.int .i64 0, .slice none 0 0, .slice none 0 0, .slice none 0 0]]) [0] [1] rfl ok132 rfl rfl rfl rfl (fun w hw => spec_l1Cur_trap.ok h8 w (hr_a0.down hw) (Sep.sub hw))) ?_
 rintro _ _ ⟨_, ⟨v8_1, S8_1, v8_2, S8_2, v8_3, S8_3, rfl, hl_v8_1, hl_v8_2, hl_v8_3, rfl⟩, rfl⟩
 refine F.ef0 rfl rfl (wanted_none rfl) (d_storeG0 (i := 4) (cs2 := [.int .i64 t8_1, v8_1, v8_2, v8_3]) ti66 rfl rfl rfl rfl rfl (Nat.le_of_ble_eq_true rfl) (lf_cons rfl (lf_cons (sl_leaf hl_v8_1) (lf_cons (sl_leaf hl_v8_2) (lf_cons (sl_leaf hl_v8_3) lf_nil))))) ?_
 rintro _ _ ⟨rfl, rfl⟩
 refine F.nil (Nrm.seq (Tri.ret ?_))
 cases h
 exact Rtn.body (.cell rfl ta66 ti66 rfl (fun _ hw => box_cells (i := 4) rfl _ hw) .nil) (fun w hw => ⟨_, _, rfl, ⟨v8_1, S8_1, v8_2, S8_2, v8_3, S8_3, rfl, hl_v8_1, hl_v8_2, hl_v8_3, rfl⟩, Sep.pick (is := [0, 1, 2]) rfl rfl hw⟩)


def spec_DrawTrapFreeSets.f (k : Nat) (a0 : List By) : Option (Int × (List (Int × Int × Int)) × (List Int) × (List Int)) := (spec_DrawIsTrap.f k a0).bind fun (t4_1, t4_2, t4_3, t4_4) => some (t4_1, t4_2, t4_3, t4_4)

theorem spec_DrawTrapFreeSets.ok {k : Nat}  {a0 : List By} {r0 : Int} {r1 : List (Int × Int × Int)} {r2 : List Int} {r3 : List Int} (h : spec_DrawTrapFreeSets.f k a0 = some (r0, r1, r2, r3)) (w : World) {va0 : Value} (hr_a0 : Rd w va0 a0) :
  Calls Try.prog 59 ([va0] : List Value).toArray w (Post (fun u ns => ∃ (ur1 : Value) (Sr1 : Nat → Prop) (ur2 : Value) (Sr2 : Nat → Prop) (ur3 : Value) (Sr3 : Nat → Prop), u = .agg [.int .i64 r0, ur1, ur2, ur3].toArray ∧ SlLen ur1 r1.length ∧ SlLen ur2 r2.length ∧ SlLen ur3 r3.length ∧ ns = [R.sl Sr1 ur1 r1, R.sl Sr2 ur2 r2, R.sl Sr3 ur3 r3]) w) := by
 unfold spec_DrawTrapFreeSets.f at h
 have hl_va0 := hr_a0.len
 refine Calls.of_tri (N := 5) Try.func59 rfl rfl rfl (Sep.nil (M := noM)) ?_
 refine Tri.seq (Tri.reg (l := [0]) rfl ?_)
 refine F.mn rfl rfl rfl rfl (m_alloc ti66) ?_
 rintro _ _ ⟨b2_1, rfl, rfl⟩
 refine F.nil (Nrm.seq (Tri.seq ?_))
 obtain ⟨⟨t4_1, t4_2, t4_3, t4_4⟩, h4, h⟩ := bind_some h
 refine Tri.reg (l := [0, 1, 2]) rfl ?_
 refine F.qn rfl rfl rfl rfl (r_move rfl) ?_
 refine F.mn rfl rfl rfl rfl (m_callF (xs := _) rfl ok138 rfl rfl (fun w hw => spec_DrawIsTrap.ok h4 w ((fun _ hw => hr_a0.sep hw) w hw))) ?_
 rintro _ _ ⟨_, ⟨v4_1, S4_1, v4_2, S4_2, v4_3, S4_3, rfl, hl_v4_1, hl_v4_2, hl_v4_3, rfl⟩, rfl⟩
 refine F.ef0 rfl rfl (wanted_none rfl) (d_storeG0 (i := 3) (cs2 := [.int .i64 t4_1, v4_1, v4_2, v4_3]) ti66 rfl rfl rfl rfl rfl (Nat.le_of_ble_eq_true rfl) (lf_cons rfl (lf_cons (sl_leaf hl_v4_1) (lf_cons (sl_leaf hl_v4_2) (lf_cons (sl_leaf hl_v4_3) lf_nil))))) ?_
 rintro _ _ ⟨rfl, rfl⟩
 refine F.nil (Nrm.seq (Tri.ret ?_))
 cases h
 exact Rtn.body (.cell rfl ta66 ti66 rfl (fun _ hw => box_cells (i := 3) rfl _ hw) .nil) (fun w hw => ⟨_, _, rfl, ⟨v4_1, S4_1, v4_2, S4_2, v4_3, S4_3, rfl, hl_v4_1, hl_v4_2, hl_v4_3, rfl⟩, Sep.pick (is := [0, 1, 2]) rfl rfl hw⟩)


def impl_those.l0 (k : Nat) (a0 : (Int → Option (Bool))) : Nat → (List (Int)) → Int → Option ((List (Int)))
 | 0, _, _ => none
 | n + 1, x3, x6 => (if (decide (x6 < 64)) = true then (a0 x6).bind fun t11 => ((if t11 = true then if (x3 ++ ([x6] : List (Int))).length < 1099511627776 then some (x3 ++ ([x6] : List (Int))) else none else some x3)).bind fun y3 => impl_those.l0 k a0 n y3 (w64 (x6 + 1)) else some x3)

def impl_those.f (k : Nat) (a0 : (Int → Option (Bool))) : Option ((List Int)) := (impl_those.l0 k a0 k ([] : List (Int)) 0).bind fun x3 => some x3

theorem impl_those.ok {k : Nat}  {a0 : (Int → Option (Bool))} {r0 : List Int} (h : impl_those.f k a0 = some r0) (w : World) {fi_a0 : FuncId} {ca_a0 : Array Value} (ho_a0 : CallOk Try.prog fi_a0) (hf_a0 : ∀ w2, Ext w w2 → ∀ (z0 : Int) (y : Bool), a0 z0 = some y → Calls Try.prog fi_a0 (([.int .i64 z0] : List Value) ++ ca_a0.toList).toArray w2 (fun e w3 => e = .returned (.bool y) ∧ Ext w2 w3)) :
  Calls Try.prog 139 ([.func (.func fi_a0) #[] ca_a0] : List Value).toArray w (Post (fun u ns => ∃ (Sr0 : Nat → Prop), SlLen u r0.length ∧ ns = [R.sl Sr0 u r0]) w) := by
 unfold impl_those.f at h
 refine Calls.of_tri (N := 18) Try.func139 rfl rfl rfl (Sep.nil (M := noM)) ?_
 refine Tri.seq (Tri.reg (l := [0]) rfl ?_)
 refine F.qn rfl rfl rfl rfl (r_assign rfl) ?_
 refine F.nil (Nrm.seq (Tri.seq (Tri.reg (l := [0, 1]) rfl ?_)))
 refine F.mn rfl rfl rfl rfl (m_build0 (α := Int) Try.underlying25 ti3) ?_
 rintro v5_1 _ ⟨S5_1, hl_v5_1, rfl⟩
 refine F.qn rfl rfl rfl rfl (r_assign rfl) ?_
 refine F.nil (Nrm.seq (Tri.seq (Tri.seq (Tri.reg (l := [0]) rfl ?_))))
 refine F.qn rfl rfl rfl rfl (r_move rfl) ?_
 refine F.nil (Nrm.seq ?_)
 obtain ⟨x3, hE_1, h⟩ := bind_some h
 refine Tri.block ?_
 refine Tri.only [0, 3, 6] rfl ?_
 refine Tri.pick [0] rfl rfl ?_
 refine Tri.rounds (fun n e' C' => ∃ (x3' : List (Int)) (x6' : Int) (w3 : Value) (T3 : Nat → Prop), impl_those.l0 k a0 n x3' x6' = some x3 ∧ SlLen w3 (x3').length ∧ e' = [(0, .func (.func fi_a0) #[] ca_a0), (3, w3), (6, .int .i64 x6')] ∧ C' = Sep w noM [R.sl T3 w3 (x3' : List (Int))]) k ?_ ?_ ?_
 ·exact ⟨([] : List (Int)), 0, v5_1, S5_1, hE_1, hl_v5_1, rfl, rfl⟩
 ·rintro _ _ ⟨_, _, _, _, hE_1, _⟩
  rw [impl_those.l0.eq_1] at hE_1; cases hE_1
 ·rintro n_1 _ _ ⟨x3, x6, w3, T3, hE_1, hl_w3, rfl, rfl⟩ ih_1
  rw [impl_those.l0.eq_2] at hE_1
  refine Tri.seq (Tri.reg (l := [0]) rfl ?_)
  refine F.qn rfl rfl rfl rfl (r_lss rfl rfl) ?_
  refine F.nil (Nrm.seq (Tri.seq (Tri.cond (b := decide (x6 < 64)) rfl (fun g_1 => ?_) (fun g_1 => ?_))))
  ·replace hE_1 := if_tt g_1 hE_1
   refine Tri.skip (Nrm.seq (Tri.seq (Tri.block ?_)))
   refine Tri.seq (Tri.reg (l := [0, 1]) rfl ?_)
   refine F.qn rfl rfl rfl rfl (r_move rfl) ?_
   refine F.qn rfl rfl rfl rfl (r_assign rfl) ?_
   refine F.nil (Nrm.seq (Tri.seq ?_))
   obtain ⟨t11, h11, hE_1⟩ := bind_some hE_1
   refine Tri.reg (l := [0, 1, 2]) rfl ?_
   refine F.qn rfl rfl rfl rfl (r_move rfl) ?_
   refine F.qn rfl rfl rfl rfl (r_move rfl) ?_
   refine F.qcn rfl rfl rfl rfl (q_callC (xs := _) rfl ho_a0 rfl rfl (fun w hw => hf_a0 w hw.ext _  _ h11)) ?_
   refine F.nil (Nrm.seq ?_)
   obtain ⟨y3, hE_2, hE_1⟩ := bind_some hE_1
   refine Tri.cut (fun e' C' => ∃ (v3_1 : Value) (S3_1 : Nat → Prop), SlLen v3_1 (y3).length ∧ e' = [(0, .func (.func fi_a0) #[] ca_a0), (3, v3_1), (6, .int .i64 x6)] ∧ C' = Sep w noM [R.sl S3_1 v3_1 (y3 : List (Int))]) ?_ (fun hj_1 => ?_)
   ·rintro _ _ ⟨v3_1, S3_1, hl_v3_1, rfl, rfl⟩
    refine Nrm.block ?_
    refine Nrm.seq (Tri.reg (l := [0, 1]) rfl ?_)
    refine F.qn rfl rfl rfl rfl (r_add rfl rfl) ?_
    refine F.qn rfl rfl rfl rfl (r_move rfl) ?_
    refine F.nil (Nrm.round ?_)
    refine Rnd.only [0, 3, 6] rfl ?_
    refine Rnd.pick [0] rfl rfl ?_
    exact ih_1 _ _ ⟨y3, w64 (x6 + 1), v3_1, S3_1, hE_1, hl_v3_1, rfl, rfl⟩
   ·refine Tri.cond (b := t11) rfl (fun g_2 => ?_) (fun g_2 => ?_)
    ·replace hE_2 := if_tt g_2 hE_2
     obtain ⟨hs15, hE_2⟩ := ck hE_2
     refine Tri.reg (l := [0, 1, 2, 3, 4]) rfl ?_
     refine F.qn rfl rfl rfl rfl (r_move rfl) ?_
     refine F.qn rfl rfl rfl rfl (r_move rfl) ?_
     refine F.mn rfl rfl rfl rfl (m_buildF (l := ([x6] : List (Int))) Try.underlying25 ti3 rfl rfl rfl rfl rfl) ?_
     rintro v14_1 _ ⟨S14_1, hl_v14_1, rfl⟩
     refine F.efn rfl rfl rfl rfl (d_append (i := 1) Try.underlying25 Try.underlying25 ti3 rfl (by decide) rfl rfl rfl (rd_sl (i := 0) rfl) hs15) ?_
     rintro v15_1 _ ⟨S15_1, rfl, hl_v15_1⟩
     refine F.qn rfl rfl rfl rfl (r_assign rfl) ?_
     refine F.nil ?_
     cases hE_2
     refine Nrm.only [0, 3, 6] rfl ?_
     refine Nrm.pick [1] rfl rfl ?_
     exact hj_1 _ _ ⟨v15_1, S15_1, hl_v15_1, rfl, rfl⟩
    ·replace hE_2 := if_ff g_2 hE_2
     refine Tri.skip ?_
     cases hE_2
     refine Nrm.only [0, 3, 6] rfl ?_
     refine Nrm.pick [0] rfl rfl ?_
     exact hj_1 _ _ ⟨w3, T3, hl_w3, rfl, rfl⟩
  ·replace hE_1 := if_ff g_1 hE_1
   refine Tri.exit ?_
   refine Exi.then ?_
   refine Exi.then ?_
   refine Exi.same ?_
   cases hE_1
   refine Nrm.seq (Tri.seq (Tri.reg (l := [0, 1]) rfl ?_))
   refine F.qn rfl rfl rfl rfl (r_move rfl) ?_
   refine F.qn rfl rfl rfl rfl (r_assign rfl) ?_
   refine F.nil (Nrm.seq (Tri.ret ?_))
   cases h
   exact Rtn.body (.tmp rfl .nil) (fun w hw => ⟨_, _, rfl, ⟨T3, hl_w3, rfl⟩, Sep.pick (is := [0]) rfl rfl hw⟩)

end Go.Proofs

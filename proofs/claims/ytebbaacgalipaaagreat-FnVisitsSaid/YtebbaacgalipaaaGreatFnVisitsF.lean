/- A part of the proof of FnVisits: what the functions of the program compute, walked on the model. No condition. -/
import Derived.Test.YtebbaacgalipaaaGreatFnVisitsC
import Derived.Test.YtebbaacgalipaaaGreatFnVisitsD
import Derived.Test.YtebbaacgalipaaaGreatFnVisitsE
set_option linter.unusedSimpArgs false
/- slices.Compact[[][3]int,[3]int] -/

namespace Go.Proofs
open Go Go.Ga
set_option linter.unusedVariables false
set_option maxRecDepth 100000
set_option maxHeartbeats 4000000
def slices_Compact__3int__3int.l1 (k : Nat) (t28 : List (Int × Int × Int)) : Nat → (List (Int × Int × Int)) → Int → Int → Option ((List (Int × Int × Int)) × Int)
 | 0, _, _, _ => none
 | n + 1, x0, x3r, x5 => (if (decide (x5 < (t28.length : Int))) = true then none else some (x0, x3r))

def slices_Compact__3int__3int.l0 (k : Nat) (a0 : List (Int × Int × Int)) : Nat → Int → Option ((Unit) ⊕ ((List (Int × Int × Int))))
 | 0, _ => none
 | n + 1, x3 => (if (decide (x3 < (a0.length : Int))) = true then (rdl a0 x3).bind fun t18 => (rdl a0 (w64 (x3 - 1))).bind fun t23 => (if (decide ((t18.1, t18.2.1, t18.2.2) = (t23.1, t23.2.1, t23.2.2))) = true then (slc a0 x3 (a0.length : Int)).bind fun t28 => (slices_Compact__3int__3int.l1 k t28 k a0 x3 1).bind fun (x0, x3r) => (slc x0 x3r (x0.length : Int)).bind fun t56 => (slc (x0.take (x3r : Int).toNat ++ List.replicate (((x0.length : Int) : Int).toNat - (x3r : Int).toNat) ((0, 0, 0) : Int × Int × Int) ++ x0.drop ((x0.length : Int) : Int).toNat) 0 x3r).bind fun t59 => some (Sum.inr t59) else slices_Compact__3int__3int.l0 k a0 n (w64 (x3 + 1))) else some (Sum.inl ()))

def slices_Compact__3int__3int.f (k : Nat) (a0 : List (Int × Int × Int)) : Option ((List (Int × Int × Int))) := (if (decide ((a0.length : Int) < 2)) = true then some a0 else (slices_Compact__3int__3int.l0 k a0 k 1).bind fun s => Lr s some fun _ => some a0)

theorem slices_Compact__3int__3int.ok {k : Nat}  {a0 : List (Int × Int × Int)} {r0 : List (Int × Int × Int)} (h : slices_Compact__3int__3int.f k a0 = some r0) (w : World) {va0 : Value} {Sa0 : Nat → Prop} (hl_va0 : SlLen va0 a0.length) (hw0 : Sep w (footM [R.sl Sa0 va0 a0]) [R.sl Sa0 va0 a0] w) :
  Calls Tryz.prog 264 ([va0] : List Value).toArray w (PostM (footM [R.sl Sa0 va0 a0]) (fun u ns => ∃ (Sr0 : Nat → Prop), SlLen u r0.length ∧ ns = [R.sl Sr0 u r0]) w) := by
 unfold slices_Compact__3int__3int.f at h
 refine Calls.of_tri (N := 61) Tryz.func264 rfl rfl rfl hw0 ?_
 refine Tri.seq (Tri.reg (l := [0]) rfl ?_)
 refine F.qn rfl (r_assign rfl) (F.nil (Nrm.seq (Tri.seq (Tri.seq (Tri.reg (l := [0, 1, 2]) rfl ?_)))))
 refine F.qn rfl (r_move rfl) (F.qn rfl (r_len Tryz.underlying24 rfl hl_va0) (F.qn rfl (r_lss rfl rfl) (F.nil (Nrm.seq (Tri.cond (b := decide ((a0.length : Int) < 2)) rfl (fun g_1 => ?_) (fun g_1 => ?_))))))
 ·replace h := if_tt g_1 h
  refine Tri.seq (Tri.reg (l := [0, 1]) rfl ?_)
  refine F.qn rfl (r_move rfl) (F.qn rfl (r_assign rfl) (F.nil (Nrm.seq (Tri.ret ?_))))
  refine Rtn.then ?_
  cases h
  exact Rtn.body (.tmp rfl .nil) (fun w hw => ⟨_, _, rfl, ⟨Sa0, hl_va0, rfl⟩, Sep.pick (is := [0]) rfl rfl hw⟩)
 ·replace h := if_ff g_1 h
  refine Tri.skip (Nrm.seq (Tri.seq (Tri.seq (Tri.reg (l := [0]) rfl ?_))))
  refine F.qn rfl (r_assign rfl) (F.nil (Nrm.seq ?_))
  obtain ⟨s0, hE_1, h⟩ := bind_some h
  refine Tri.block ?_
  refine Tri.only [0, 3] rfl ?_
  refine Tri.pick [0] rfl rfl ?_
  refine Tri.rounds (fun n e' C' => ∃ (x3' : Int), slices_Compact__3int__3int.l0 k a0 n x3' = some s0 ∧ e' = [(0, va0), (3, .int .i64 x3')] ∧ C' = Sep w (footM [R.sl Sa0 va0 a0]) [R.sl Sa0 va0 (a0 : List (Int × Int × Int))]) k ?_ ?_ ?_
  ·exact ⟨1, hE_1, rfl, rfl⟩
  ·rintro _ _ ⟨_, hE_1, _⟩
   rw [slices_Compact__3int__3int.l0.eq_1] at hE_1; cases hE_1
  ·rintro n_1 _ _ ⟨x3, hE_1, rfl, rfl⟩ ih_1
   rw [slices_Compact__3int__3int.l0.eq_2] at hE_1
   refine Tri.seq (Tri.seq (Tri.reg (l := [0, 1, 2, 3]) rfl ?_))
   refine F.qn rfl (r_move rfl) (F.qn rfl (r_move rfl) (F.qn rfl (r_len Tryz.underlying24 rfl hl_va0) (F.qn rfl (r_lss rfl rfl) (F.nil (Nrm.seq (Tri.cond (b := decide (x3 < (a0.length : Int))) rfl (fun g_2 => ?_) (fun g_2 => ?_)))))))
   ·replace hE_1 := if_tt g_2 hE_1
    refine Tri.skip (Nrm.seq (Tri.seq (Tri.block ?_)))
    refine Tri.seq ?_
    obtain ⟨t18, h18, hE_1⟩ := bind_some hE_1
    obtain ⟨t23, h23, hE_1⟩ := bind_some hE_1
    refine Tri.drawA mixedT Sep.up [(0, true), (1, true), (2, true), (3, true), (4, true), (5, true), (6, true), (7, true), (8, true), (9, true)] [] (by kernel_rfl) ?_
    refine S.qn rfl (r_move rfl) (S.qn rfl (r_move rfl) (S.qn rfl (r_indexAddrS Tryz.underlying24 ti168 rfl hl_va0 rfl (rdl_some h18).1 (rdl_some h18).2.1) (S.qn rfl (r_loadA ta168 ti168 rfl rfl (fun w hw => (Rd.flat ((rd_sl (i := 0) rfl) w hw) (rdl_some h18).2.2))) ?_)))
    refine S.qn rfl (r_move rfl) (S.qn rfl (r_move rfl) (S.qn rfl (r_sub rfl rfl) (S.qn rfl (r_indexAddrS Tryz.underlying24 ti168 rfl hl_va0 rfl (rdl_some h23).1 (rdl_some h23).2.1) (S.qn rfl (r_loadA ta168 ti168 rfl rfl (fun w hw => (Rd.flat ((rd_sl (i := 0) rfl) w hw) (rdl_some h23).2.2))) (S.qn rfl (r_eqlA3 Tryz.underlying168 Tryz.underlying3 ti3 ta3 rfl rfl eg168) (S.nil (F.nil (Nrm.seq (Tri.cond (b := decide ((t18.1, t18.2.1, t18.2.2) = (t23.1, t23.2.1, t23.2.2))) rfl (fun g_3 => ?_) (fun g_3 => ?_))))))))))
    ·replace hE_1 := if_tt g_3 hE_1
     refine Tri.seq ?_
     obtain ⟨t28, h28, hE_1⟩ := bind_some hE_1
     refine Tri.reg (l := [0, 1, 2, 3]) rfl ?_
     refine F.qn rfl (r_move rfl) (F.qn rfl (r_move rfl) (F.qn rfl (r_sliceL Tryz.underlying24 ti168 rfl (rd_sl (i := 0) rfl) rfl h28) (F.qn rfl (r_assign rfl) (F.nil (Nrm.seq (Tri.seq (Tri.seq (Tri.reg (l := [0]) rfl ?_))))))))
     refine F.qn rfl (r_assign rfl) (F.nil (Nrm.seq ?_))
     obtain ⟨⟨x0, x3r⟩, hE_2, hE_1⟩ := bind_some hE_1
     refine Tri.block ?_
     refine Tri.only [0, 3, 4, 5] rfl ?_
     refine Tri.pick [0] rfl rfl ?_
     refine Tri.rounds (fun n e' C' => ∃ (x0' : List (Int × Int × Int)) (x3r' : Int) (x5' : Int) (w0 : Value) (T0 : Nat → Prop), slices_Compact__3int__3int.l1 k t28 n x0' x3r' x5' = some (x0, x3r) ∧ SlLen w0 (x0').length ∧ e' = [(0, w0), (3, .int .i64 x3r'), (4, (slSub va0 3 (x3 : Int).toNat (a0.length : Int).toNat)), (5, .int .i64 x5')] ∧ C' = Sep w (footM [R.sl Sa0 va0 a0]) [R.sl T0 w0 (x0' : List (Int × Int × Int))]) k ?_ ?_ ?_
     ·exact ⟨a0, x3, 1, va0, Sa0, hE_2, hl_va0, rfl, rfl⟩
     ·rintro _ _ ⟨_, _, _, _, _, hE_2, _⟩
      rw [slices_Compact__3int__3int.l1.eq_1] at hE_2; cases hE_2
     ·rintro n_2 _ _ ⟨x0, x3r, x5, w0, T0, hE_2, hl_w0, rfl, rfl⟩ ih_2
      rw [slices_Compact__3int__3int.l1.eq_2] at hE_2
      refine Tri.seq (Tri.seq (Tri.reg (l := [0, 1, 2, 3]) rfl ?_))
      refine F.qn rfl (r_move rfl) (F.qn rfl (r_move rfl) (F.qn rfl (r_len Tryz.underlying24 rfl (slc_len hl_va0 h28)) (F.qn rfl (r_lss rfl rfl) (F.nil (Nrm.seq (Tri.cond (b := decide (x5 < (t28.length : Int))) rfl (fun g_4 => ?_) (fun g_4 => ?_)))))))
      ·replace hE_2 := if_tt g_4 hE_2
       cases hE_2
      ·replace hE_2 := if_ff g_4 hE_2
       refine Tri.exit ?_
       refine Exi.then ?_
       refine Exi.then ?_
       refine Exi.same ?_
       cases hE_2
       refine Nrm.seq (Tri.seq ?_)
       obtain ⟨t56, h56, hE_1⟩ := bind_some hE_1
       refine Tri.reg (l := [0, 1, 2, 3]) rfl ?_
       refine F.qn rfl (r_move rfl) (F.qn rfl (r_move rfl) (F.qn rfl (r_sliceL Tryz.underlying24 ti168 rfl (rd_sl (i := 0) rfl) rfl h56) ?_))
       refine F.ef0 rfl rfl (wanted_none rfl) (d_clear (i := 0) (x0 := ((0, 0, 0) : Int × Int × Int)) Tryz.underlying24 ti168 rfl rfl rfl h56) ?_
       rintro _ _ rfl
       refine F.nil (Nrm.seq (Tri.seq ?_))
       obtain ⟨t59, h59, hE_1⟩ := bind_some hE_1
       refine Tri.reg (l := [0, 1, 2, 3]) rfl ?_
       refine F.qn rfl (r_move rfl) (F.qn rfl (r_move rfl) (F.qn rfl (r_sliceH Tryz.underlying24 ti168 rfl (rd_sl (i := 0) rfl) rfl h59) (F.qn rfl (r_assign rfl) (F.nil (Nrm.imp (fun w hw => Sep.resl (i := 0) rfl h59 hw) ?_)))))
       refine Nrm.seq (Tri.ret ?_)
       refine Rtn.block ?_
       refine Rtn.then ?_
       refine Rtn.then ?_
       refine Rtn.block ?_
       refine Rtn.then ?_
       cases hE_1
       replace h := Lr_inr h
       cases h
       exact Rtn.body (.tmp rfl .nil) (fun w hw => ⟨_, _, rfl, ⟨T0, (slc_len (clr_len hl_w0 (slc_b h56).1 (slc_b h56).2) h59), rfl⟩, Sep.pick (is := [0]) rfl rfl hw⟩)
    ·replace hE_1 := if_ff g_3 hE_1
     refine Tri.skip (Nrm.block ?_)
     refine Nrm.seq (Tri.reg (l := [0, 1, 2]) rfl ?_)
     refine F.qn rfl (r_move rfl) (F.qn rfl (r_add rfl rfl) (F.qn rfl (r_assign rfl) (F.nil (Nrm.round ?_))))
     refine Rnd.only [0, 3] rfl ?_
     refine Rnd.pick [0] rfl rfl ?_
     exact ih_1 _ _ ⟨w64 (x3 + 1), hE_1, rfl, rfl⟩
   ·replace hE_1 := if_ff g_2 hE_1
    refine Tri.exit ?_
    refine Exi.then ?_
    refine Exi.then ?_
    refine Exi.same ?_
    cases hE_1
    replace h := Lr_inl h
    refine Nrm.seq (Tri.seq (Tri.reg (l := [0, 1]) rfl ?_))
    refine F.qn rfl (r_move rfl) (F.qn rfl (r_assign rfl) (F.nil (Nrm.seq (Tri.ret ?_))))
    cases h
    exact Rtn.body (.tmp rfl .nil) (fun w hw => ⟨_, _, rfl, ⟨Sa0, hl_va0, rfl⟩, Sep.pick (is := [0]) rfl rfl hw⟩)


noncomputable def impl_tidy.l0 (k : Nat) (a0_1 : List (Int × Int × Int)) : Nat → (List (Int × Int × Int)) → Int → Option ((List (Int × Int × Int)))
 | 0, _, _ => none
 | n + 1, x6, x8 => (if (decide (x8 < (a0_1.length : Int))) = true then (rdl x6 x8).bind fun t11 => (rdl x6 x8).bind fun t29 => impl_tidy.l0 k a0_1 n (x6.set x8.toNat (imin t11.1 t11.2.1, imax t11.1 t11.2.1, t11.2.2)) (w64 (x8 + 1)) else some x6)

noncomputable def impl_tidy.f (k : Nat) (a0_0 : Int) (a0_1 : List (Int × Int × Int)) (a0_2 : List Int) : Option (Int × (List (Int × Int × Int)) × (List Int)) := (impl_tidy.l0 k a0_1 k a0_1 0).bind fun x6 => (slices_SortFunc__3int__3int.f k x6 (fun z0 z1 z2 z3 z4 z5 => impl_compareDoors.f k z0 z1 z2 z3 z4 z5)).bind fun t33 => (slices_Compact__3int__3int.f k t33).bind fun t36 => some (a0_0, t36, a0_2)

theorem impl_tidy.ok {k : Nat}  {a0_0 : Int} {a0_1 : List (Int × Int × Int)} {a0_2 : List Int} {r0 : Int} {r1 : List (Int × Int × Int)} {r2 : List Int} (h : impl_tidy.f k a0_0 a0_1 a0_2 = some (r0, r1, r2)) (w : World) {va0_1 : Value} {Sa0_1 : Nat → Prop} (hl_va0_1 : SlLen va0_1 a0_1.length) {va0_2 : Value} {Sa0_2 : Nat → Prop} (hl_va0_2 : SlLen va0_2 a0_2.length) (hw0 : Sep w (footM [R.sl Sa0_1 va0_1 a0_1, R.sl Sa0_2 va0_2 a0_2]) [R.sl Sa0_1 va0_1 a0_1, R.sl Sa0_2 va0_2 a0_2] w) :
  Calls Tryz.prog 240 ([.agg ([.int .i64 a0_0, va0_1, va0_2].toArray)] : List Value).toArray w (PostM (footM [R.sl Sa0_1 va0_1 a0_1, R.sl Sa0_2 va0_2 a0_2]) (fun u ns => ∃ (ur1 : Value) (Sr1 : Nat → Prop) (ur2 : Value) (Sr2 : Nat → Prop), u = .agg [.int .i64 r0, ur1, ur2].toArray ∧ SlLen ur1 r1.length ∧ SlLen ur2 r2.length ∧ ns = [R.sl Sr1 ur1 r1, R.sl Sr2 ur2 r2]) w) := by
 unfold impl_tidy.f at h
 refine Calls.of_tri (N := 39) Tryz.func240 rfl rfl rfl hw0 ?_
 refine Tri.seq (Tri.reg (l := [0, 1]) rfl ?_)
 refine F.mn rfl (m_boxG rfl rfl) ?_
 rintro _ _ ⟨b1_1, rfl, rfl⟩
 refine F.mn rfl (m_alloc ti27) ?_
 rintro _ _ ⟨b2_1, rfl, rfl⟩
 refine F.nil (Nrm.seq (Tri.seq (Tri.seq (Tri.reg (l := [0, 1, 2, 3]) rfl ?_))))
 refine F.qn rfl (r_fieldAddr tf27_1 rfl) (F.qn rfl (r_load ta24 rfl (fun w hw => cell_1 (box_cells (i := 1) rfl w hw) rfl)) (F.qn rfl (r_len Tryz.underlying24 rfl hl_va0_1) (F.qn rfl (r_move rfl) (F.nil (Nrm.seq ?_)))))
 obtain ⟨x6, hE_1, h⟩ := bind_some h
 refine Tri.block ?_
 refine Tri.only [1, 2, 6, 7, 8] rfl ?_
 refine Tri.pick [0, 1, 2, 3] rfl rfl ?_
 refine Tri.rounds (fun n e' C' => ∃ (x6' : List (Int × Int × Int)) (x8' : Int), impl_tidy.l0 k a0_1 n x6' x8' = some x6 ∧ SlLen va0_1 (x6').length ∧ e' = [(1, .pointer (some ⟨b1_1, 0, none⟩)), (2, .pointer (some ⟨b2_1, 0, none⟩)), (6, va0_1), (7, .int .i64 (a0_1.length : Int)), (8, .int .i64 x8')] ∧ C' = Sep w (footM [R.sl Sa0_1 va0_1 a0_1, R.sl Sa0_2 va0_2 a0_2]) [R.box b2_1 27 [.int .i64 0, .slice none 0 0, .slice none 0 0], R.box b1_1 27 [.int .i64 a0_0, va0_1, va0_2], R.sl Sa0_1 va0_1 (x6' : List (Int × Int × Int)), R.sl Sa0_2 va0_2 (a0_2 : List (Int))]) k ?_ ?_ ?_
 ·exact ⟨a0_1, 0, hE_1, hl_va0_1, rfl, rfl⟩
 ·rintro _ _ ⟨_, _, hE_1, _⟩
  rw [impl_tidy.l0.eq_1] at hE_1; cases hE_1
 ·rintro n_1 _ _ ⟨x6, x8, hE_1, hl_x6, rfl, rfl⟩ ih_1
  rw [impl_tidy.l0.eq_2] at hE_1
  refine Tri.seq (Tri.reg (l := [0]) rfl ?_)
  refine F.qn rfl (r_lss rfl rfl) (F.nil (Nrm.seq (Tri.seq (Tri.cond (b := decide (x8 < (a0_1.length : Int))) rfl (fun g_1 => ?_) (fun g_1 => ?_)))))
  ·replace hE_1 := if_tt g_1 hE_1
   refine Tri.skip (Nrm.seq (Tri.seq (Tri.block ?_)))
   refine Tri.seq ?_
   obtain ⟨t11, h11, hE_1⟩ := bind_some hE_1
   refine Tri.reg (l := [0, 1, 2, 3, 4, 5]) rfl ?_
   refine F.qn rfl (r_move rfl) (F.qn rfl (r_indexAddrS Tryz.underlying24 ti168 rfl hl_x6 rfl (rdl_some h11).1 (rdl_some h11).2.1) (F.qn rfl (r_loadA ta168 ti168 rfl rfl (fun w hw => (Rd.flat ((rd_sl (i := 2) rfl) w hw) (rdl_some h11).2.2))) ?_))
   refine F.mn rfl (m_alloc ti168) ?_
   rintro _ _ ⟨b4_1, rfl, rfl⟩
   refine F.qn rfl (r_assign rfl) ?_
   refine F.ef0 rfl rfl (wanted_none rfl) (d_storeG0 (i := 0) (cs2 := [.int .i64 t11.1, .int .i64 t11.2.1, .int .i64 t11.2.2]) ti168 rfl rfl rfl rfl rfl (Nat.le_of_ble_eq_true rfl) (lf_cons rfl (lf_cons rfl (lf_cons rfl lf_nil)))) ?_
   rintro _ _ ⟨rfl, rfl⟩
   refine F.nil (Nrm.seq ?_)
   obtain ⟨t29, h29, hE_1⟩ := bind_some hE_1
   refine Tri.reg (l := List.range 18) rfl ?_
   refine F.qn rfl (r_fieldAddr tf27_1 rfl) ?_
   refine F.qn rfl (r_load ta24 rfl (fun w hw => cell_1 (box_cells (i := 2) rfl w hw) rfl)) (F.qn rfl (r_move rfl) (F.qn rfl (r_indexAddrA Tryz.underlying168 ti3 rfl rfl (by decide) (by decide)) (F.qn rfl (r_load ta3 rfl (fun w hw => cell_1 (box_cells (i := 0) rfl w hw) rfl)) (F.qn rfl (r_indexAddrA Tryz.underlying168 ti3 rfl rfl (by decide) (by decide)) (F.qn rfl (r_load ta3 rfl (fun w hw => cell_1 (box_cells (i := 0) rfl w hw) rfl)) ?_)))))
   refine F.qn rfl (r_min rfl rfl) (F.qn rfl (r_indexAddrA Tryz.underlying168 ti3 rfl rfl (by decide) (by decide)) (F.qn rfl (r_load ta3 rfl (fun w hw => cell_1 (box_cells (i := 0) rfl w hw) rfl)) (F.qn rfl (r_indexAddrA Tryz.underlying168 ti3 rfl rfl (by decide) (by decide)) (F.qn rfl (r_load ta3 rfl (fun w hw => cell_1 (box_cells (i := 0) rfl w hw) rfl)) (F.qn rfl (r_max rfl rfl) ?_)))))
   refine F.qn rfl (r_indexAddrA Tryz.underlying168 ti3 rfl rfl (by decide) (by decide)) (F.qn rfl (r_load ta3 rfl (fun w hw => cell_1 (box_cells (i := 0) rfl w hw) rfl)) (F.qn rfl (r_buildA (qs := [(0, [.int .i64 (imin t11.1 t11.2.1)]), (1, [.int .i64 (imax t11.1 t11.2.1)]), (2, [.int .i64 t11.2.2])]) (cs := [.int .i64 (imin t11.1 t11.2.1), .int .i64 (imax t11.1 t11.2.1), .int .i64 t11.2.2]) Tryz.underlying168 ti3 ti168 rfl (.cons rfl rfl (Nat.le_of_ble_eq_true rfl) (.cons rfl rfl (Nat.le_of_ble_eq_true rfl) (.cons rfl rfl (Nat.le_of_ble_eq_true rfl) .nil))) rfl rfl) (F.qn rfl (r_indexAddrS Tryz.underlying24 ti168 rfl hl_x6 rfl (rdl_some h29).1 (rdl_some h29).2.1) ?_)))
   refine F.ef0 rfl rfl (wanted_none rfl) (d_storeE (i := 3) (x1 := (imin t11.1 t11.2.1, imax t11.1 t11.2.1, t11.2.2)) ti168 rfl rfl rfl (rdl_some h29) rfl) ?_
   rintro _ _ ⟨rfl, rfl⟩
   refine F.nil (Nrm.block ?_)
   refine Nrm.seq (Tri.reg (l := [0, 1]) rfl ?_)
   refine F.qn rfl (r_add rfl rfl) (F.qn rfl (r_move rfl) (F.nil (Nrm.round ?_)))
   refine Rnd.only [1, 2, 6, 7, 8] rfl ?_
   refine Rnd.pick [1, 2, 3, 4] rfl rfl ?_
   exact ih_1 _ _ ⟨x6.set x8.toNat (imin t11.1 t11.2.1, imax t11.1 t11.2.1, t11.2.2), w64 (x8 + 1), hE_1, (len_set hl_x6), rfl, rfl⟩
  ·replace hE_1 := if_ff g_1 hE_1
   refine Tri.exit ?_
   refine Exi.then ?_
   refine Exi.then ?_
   refine Exi.same ?_
   cases hE_1
   refine Nrm.seq (Tri.seq ?_)
   obtain ⟨t33, h33, h⟩ := bind_some h
   refine Tri.reg (l := [0, 1, 2]) rfl ?_
   refine F.qn rfl (r_fieldAddr tf27_1 rfl) (F.qn rfl (r_load ta24 rfl (fun w hw => cell_1 (box_cells (i := 1) rfl w hw) rfl)) ?_)
   refine F.efn rfl (d_callM (xs := _) (cs := [R.sl Sa0_1 va0_1 (x6 : List (Int × Int × Int))]) (rest := [R.box b2_1 27 [.int .i64 0, .slice none 0 0, .slice none 0 0], R.box b1_1 27 [.int .i64 a0_0, va0_1, va0_2], R.sl Sa0_2 va0_2 (a0_2 : List (Int))]) [2] [0, 1, 3] rfl ok263 rfl rfl rfl rfl (fun w hw => slices_SortFunc__3int__3int.ok h33 w hl_x6 ok184 (fun w2 he2 z0 z1 z2 z3 z4 z5 y2 hy2 => impl_compareDoors.ok hy2 w2 ) (Sep.sub hw))) ?_
   rintro _ _ ⟨_, ⟨rfl, hl_t33, rfl⟩, rfl⟩
   refine F.nil (Nrm.seq (Tri.seq ?_))
   obtain ⟨t36, h36, h⟩ := bind_some h
   refine Tri.reg (l := [0, 1, 2, 3, 4]) rfl ?_
   refine F.qn rfl (r_fieldAddr tf27_1 rfl) (F.qn rfl (r_load ta24 rfl (fun w hw => cell_1 (box_cells (i := 2) rfl w hw) rfl)) ?_)
   refine F.efn rfl (d_callM (xs := _) (cs := [R.sl Sa0_1 va0_1 (t33 : List (Int × Int × Int))]) (rest := [R.box b2_1 27 [.int .i64 0, .slice none 0 0, .slice none 0 0], R.box b1_1 27 [.int .i64 a0_0, va0_1, va0_2], R.sl Sa0_2 va0_2 (a0_2 : List (Int))]) [0] [1, 2, 3] rfl ok264 rfl rfl rfl rfl (fun w hw => slices_Compact__3int__3int.ok h36 w hl_t33 (Sep.sub hw))) ?_
   rintro v36_1 _ ⟨_, ⟨S36_1, hl_v36_1, rfl⟩, rfl⟩
   refine F.qn rfl (r_fieldAddr tf27_1 rfl) ?_
   refine F.ef0 rfl rfl (wanted_none rfl) (d_storeG1 (i := 2) (cs2 := [v36_1]) ti24 rfl rfl rfl (sl_cells hl_v36_1) rfl (Nat.le_of_ble_eq_true rfl) (lf_cons (sl_leaf hl_v36_1) lf_nil)) ?_
   rintro _ _ ⟨rfl, rfl⟩
   refine F.nil (Nrm.seq (Tri.seq (Tri.reg (l := [0, 1]) rfl ?_)))
   refine F.qn rfl (r_loadA ta27 ti27 rfl rfl (fun w hw => (box_cells (i := 2) rfl w hw))) ?_
   refine F.ef0 rfl rfl (wanted_none rfl) (d_storeG0 (i := 1) (cs2 := [.int .i64 a0_0, v36_1, va0_2]) ti27 rfl rfl rfl rfl rfl (Nat.le_of_ble_eq_true rfl) (lf_cons rfl (lf_cons (sl_leaf hl_v36_1) (lf_cons (sl_leaf hl_va0_2) lf_nil)))) ?_
   rintro _ _ ⟨rfl, rfl⟩
   refine F.nil (Nrm.seq (Tri.ret ?_))
   cases h
   exact Rtn.body (.cell rfl ta27 ti27 rfl (fun _ hw => box_cells (i := 1) rfl _ hw) .nil) (fun w hw => ⟨_, _, rfl, ⟨v36_1, S36_1, va0_2, Sa0_2, rfl, hl_v36_1, hl_va0_2, rfl⟩, Sep.pick (is := [0, 3]) rfl rfl hw⟩)


noncomputable def impl_AddDoor.f (k : Nat) (a0_0 : Int) (a0_1 : List (Int × Int × Int)) (a0_2 : List Int) (a1 : Int) (a2 : Int) (a3 : Int) : Option (Int × (List (Int × Int × Int)) × (List Int) × Bool) := ((impl_isNode.f k a0_0 a0_1 a0_2 ([a1, a2] : List (Int))).bind fun t24 => (if (!t24) = true then some true else (if (a1 == a2) = true then some true else (impl_isSet.f k a3).bind fun t33 => (if (!t33) = true then some true else (slices_Contains__3int__3int.f k a0_1 (imin a1 a2) (imax a1 a2) a3).bind fun t40 => (if t40 = true then some true else some ((a0_1.length : Int) == 30)))))).bind fun y47 => (if y47 = true then some (0, [], [], false) else (impl_own.f k a0_0 a0_1 a0_2).bind fun (t50_1, t50_2, t50_3) => if (t50_2 ++ ([(imin a1 a2, imax a1 a2, a3)] : List (Int × Int × Int))).length < 1099511627776 then (impl_tidy.f k t50_1 (t50_2 ++ ([(imin a1 a2, imax a1 a2, a3)] : List (Int × Int × Int))) t50_3).bind fun (t58_1, t58_2, t58_3) => some (t58_1, t58_2, t58_3, true) else none)

theorem impl_AddDoor.ok {k : Nat}  {a0_0 : Int} {a0_1 : List (Int × Int × Int)} {a0_2 : List Int} {a1 : Int} {a2 : Int} {a3 : Int} {r0 : Int} {r1 : List (Int × Int × Int)} {r2 : List Int} {r3 : Bool} (h : impl_AddDoor.f k a0_0 a0_1 a0_2 a1 a2 a3 = some (r0, r1, r2, r3)) (w : World) {va0_1 : Value} {va0_2 : Value} (hr_a0_1 : Rd w va0_1 a0_1) (hr_a0_2 : Rd w va0_2 a0_2) :
  Calls Tryz.prog 203 ([.agg ([.int .i64 a0_0, va0_1, va0_2].toArray), .int .i64 a1, .int .i64 a2, .int .i64 a3] : List Value).toArray w (Post (fun u ns => ∃ (ur1 : Value) (Sr1 : Nat → Prop) (ur2 : Value) (Sr2 : Nat → Prop), u = .tuple #[.agg [.int .i64 r0, ur1, ur2].toArray, .bool r3] ∧ SlLen ur1 r1.length ∧ SlLen ur2 r2.length ∧ ns = [R.sl Sr1 ur1 r1, R.sl Sr2 ur2 r2]) w) := by
 unfold impl_AddDoor.f at h
 have hl_va0_1 := hr_a0_1.len
 have hl_va0_2 := hr_a0_2.len
 refine Calls.of_tri (N := 59) Tryz.func203 rfl rfl rfl (Sep.nil (M := noM)) ?_
 refine Tri.seq (Tri.reg (l := [0, 1, 2]) rfl ?_)
 refine F.mn rfl (m_boxG rfl rfl) ?_
 rintro _ _ ⟨b4_1, rfl, rfl⟩
 refine F.mn rfl (m_alloc ti27) ?_
 rintro _ _ ⟨b8_1, rfl, rfl⟩
 refine F.qn rfl (r_assign rfl) (F.nil (Nrm.seq (Tri.seq (Tri.reg (l := [0, 1, 2, 3, 4, 5, 6, 7, 8, 9]) rfl ?_))))
 refine F.qn rfl (r_move rfl) (F.qn rfl (r_move rfl) ?_)
 refine F.qn rfl (r_min rfl rfl) (F.qn rfl (r_move rfl) (F.qn rfl (r_move rfl) (F.qn rfl (r_max rfl rfl) (F.qn rfl (r_move rfl) (F.qn rfl (r_buildA (qs := [(0, [.int .i64 (imin a1 a2)]), (1, [.int .i64 (imax a1 a2)]), (2, [.int .i64 a3])]) (cs := [.int .i64 (imin a1 a2), .int .i64 (imax a1 a2), .int .i64 a3]) Tryz.underlying168 ti3 ti168 rfl (.cons rfl rfl (Nat.le_of_ble_eq_true rfl) (.cons rfl rfl (Nat.le_of_ble_eq_true rfl) (.cons rfl rfl (Nat.le_of_ble_eq_true rfl) .nil))) rfl rfl) ?_)))))
 refine F.mn rfl (m_alloc ti168) ?_
 rintro _ _ ⟨b10_1, rfl, rfl⟩
 refine F.ef0 rfl rfl (wanted_none rfl) (d_storeG0 (i := 0) (cs2 := [.int .i64 (imin a1 a2), .int .i64 (imax a1 a2), .int .i64 a3]) ti168 rfl rfl rfl rfl rfl (Nat.le_of_ble_eq_true rfl) (lf_cons rfl (lf_cons rfl (lf_cons rfl lf_nil)))) ?_
 rintro _ _ ⟨rfl, rfl⟩
 refine F.nil (Nrm.seq (Tri.seq (Tri.seq ?_)))
 obtain ⟨y47, hE_1, h⟩ := bind_some h
 refine Tri.cut (fun e' C' => e' = [(4, .pointer (some ⟨b4_1, 0, none⟩)), (8, .pointer (some ⟨b8_1, 0, none⟩)), (10, .pointer (some ⟨b10_1, 0, none⟩)), (47, .bool y47)] ∧ C' = Sep w noM [R.box b10_1 168 [.int .i64 (imin a1 a2), .int .i64 (imax a1 a2), .int .i64 a3], R.box b8_1 27 [.int .i64 0, .slice none 0 0, .slice none 0 0], R.box b4_1 27 [.int .i64 a0_0, va0_1, va0_2]]) ?_ (fun hj_1 => ?_)
 ·rintro _ _ ⟨rfl, rfl⟩
  refine Nrm.seq (Tri.cond (b := y47) rfl (fun g_1 => ?_) (fun g_1 => ?_))
  ·replace h := if_tt g_1 h
   refine Tri.seq (Tri.reg (l := [0, 1, 2]) rfl ?_)
   refine F.qn rfl (r_build (pl := [(0, 1), (1, 1), (2, 1)]) (qs := []) (cs := [.int .i64 0, .slice none 0 0, .slice none 0 0]) (by kernel_rfl) ti27 rfl .nil rfl rfl) ?_
   refine F.ef0 rfl rfl (wanted_none rfl) (d_storeG0 (i := 1) (cs2 := [.int .i64 0, .slice none 0 0, .slice none 0 0]) ti27 rfl rfl rfl rfl rfl (Nat.le_of_ble_eq_true rfl) (lf_cons rfl (lf_cons rfl (lf_cons rfl lf_nil)))) ?_
   rintro _ _ ⟨rfl, rfl⟩
   refine F.qn rfl (r_assign rfl) (F.nil (Nrm.seq (Tri.ret ?_)))
   refine Rtn.then ?_
   cases h
   exact Rtn.body (.cell rfl ta27 ti27 rfl (fun _ hw => box_cells (i := 1) rfl _ hw) (.tmp rfl .nil)) (fun w hw => ⟨_, _, rfl, ⟨.slice none 0 0, fun _ => False, .slice none 0 0, fun _ => False, rfl, len_nil, len_nil, rfl⟩, Sep.pick (is := [0, 1]) rfl rfl hw.pushNil.pushNil⟩)
  ·replace h := if_ff g_1 h
   refine Tri.skip (Nrm.seq (Tri.seq ?_))
   obtain ⟨⟨t50_1, t50_2, t50_3⟩, h50, h⟩ := bind_some h
   refine Tri.reg (l := [0, 1, 2, 3]) rfl ?_
   refine F.qn rfl (r_loadA ta27 ti27 rfl rfl (fun w hw => (box_cells (i := 2) rfl w hw))) ?_
   refine F.mn rfl (m_callF (xs := _) rfl ok107 rfl rfl (fun w hw => impl_own.ok h50 w ((fun _ hw => hr_a0_1.sep hw) w hw) ((fun _ hw => hr_a0_2.sep hw) w hw))) ?_
   rintro _ _ ⟨_, ⟨v50_1, S50_1, v50_2, S50_2, rfl, hl_v50_1, hl_v50_2, rfl⟩, rfl⟩
   refine F.mn rfl (m_alloc ti27) ?_
   rintro _ _ ⟨b11_1, rfl, rfl⟩
   refine F.ef0 rfl rfl (wanted_none rfl) (d_storeG0 (i := 0) (cs2 := [.int .i64 t50_1, v50_1, v50_2]) ti27 rfl rfl rfl rfl rfl (Nat.le_of_ble_eq_true rfl) (lf_cons rfl (lf_cons (sl_leaf hl_v50_1) (lf_cons (sl_leaf hl_v50_2) lf_nil)))) ?_
   rintro _ _ ⟨rfl, rfl⟩
   refine F.nil (Nrm.seq (Tri.seq ?_))
   obtain ⟨hs55, h⟩ := ck h
   refine Tri.reg (l := [0, 1, 2, 3, 4, 5, 6]) rfl ?_
   refine F.qn rfl (r_fieldAddr tf27_1 rfl) (F.qn rfl (r_load ta24 rfl (fun w hw => cell_1 (box_cells (i := 0) rfl w hw) rfl)) (F.qn rfl (r_loadA ta168 ti168 rfl rfl (fun w hw => (box_cells (i := 3) rfl w hw))) ?_))
   refine F.mn rfl (m_buildF (l := ([(imin a1 a2, imax a1 a2, a3)] : List (Int × Int × Int))) Tryz.underlying24 ti168 rfl rfl rfl rfl rfl) ?_
   rintro v54_1 _ ⟨S54_1, hl_v54_1, rfl⟩
   refine F.efn rfl (d_append (i := 2) Tryz.underlying24 Tryz.underlying24 ti168 rfl (by decide) rfl rfl rfl (rd_sl (i := 0) rfl) hs55) ?_
   rintro v55_1 _ ⟨S55_1, rfl, hl_v55_1⟩
   refine F.qn rfl (r_fieldAddr tf27_1 rfl) ?_
   refine F.ef0 rfl rfl (wanted_none rfl) (d_storeG1 (i := 1) (cs2 := [v55_1]) ti24 rfl rfl rfl (sl_cells hl_v55_1) rfl (Nat.le_of_ble_eq_true rfl) (lf_cons (sl_leaf hl_v55_1) lf_nil)) ?_
   rintro _ _ ⟨rfl, rfl⟩
   refine F.nil (Nrm.seq (Tri.seq ?_))
   obtain ⟨⟨t58_1, t58_2, t58_3⟩, h58, h⟩ := bind_some h
   refine Tri.reg (l := [0, 1, 2, 3]) rfl ?_
   refine F.qn rfl (r_loadA ta27 ti27 rfl rfl (fun w hw => (box_cells (i := 1) rfl w hw))) ?_
   refine F.efn rfl (d_callM (xs := _) (cs := [R.sl S55_1 v55_1 (t50_2 ++ ([(imin a1 a2, imax a1 a2, a3)] : List (Int × Int × Int)) : List (Int × Int × Int)), R.sl S50_2 v50_2 (t50_3 : List (Int))]) (rest := [R.sl S54_1 v54_1 (([(imin a1 a2, imax a1 a2, a3)] : List (Int × Int × Int)) : List (Int × Int × Int)), R.box b11_1 27 [.int .i64 t50_1, v55_1, v50_2], R.box b10_1 168 [.int .i64 (imin a1 a2), .int .i64 (imax a1 a2), .int .i64 a3], R.box b8_1 27 [.int .i64 0, .slice none 0 0, .slice none 0 0], R.box b4_1 27 [.int .i64 a0_0, va0_1, va0_2]]) [2, 3] [0, 1, 4, 5, 6] rfl ok240 rfl rfl rfl rfl (fun w hw => impl_tidy.ok h58 w hl_v55_1 hl_v50_2 (Sep.sub hw))) ?_
   rintro _ _ ⟨_, ⟨v58_1, S58_1, v58_2, S58_2, rfl, hl_v58_1, hl_v58_2, rfl⟩, rfl⟩
   refine F.ef0 rfl rfl (wanted_none rfl) (d_storeG0 (i := 5) (cs2 := [.int .i64 t58_1, v58_1, v58_2]) ti27 rfl rfl rfl rfl rfl (Nat.le_of_ble_eq_true rfl) (lf_cons rfl (lf_cons (sl_leaf hl_v58_1) (lf_cons (sl_leaf hl_v58_2) lf_nil)))) ?_
   rintro _ _ ⟨rfl, rfl⟩
   refine F.qn rfl (r_assign rfl) (F.nil (Nrm.seq (Tri.ret ?_)))
   cases h
   exact Rtn.body (.cell rfl ta27 ti27 rfl (fun _ hw => box_cells (i := 5) rfl _ hw) (.tmp rfl .nil)) (fun w hw => ⟨_, _, rfl, ⟨v58_1, S58_1, v58_2, S58_2, rfl, hl_v58_1, hl_v58_2, rfl⟩, Sep.pick (is := [0, 1]) rfl rfl hw⟩)
 ·obtain ⟨t24, h24, hE_1⟩ := bind_some hE_1
  rcases Bool.eq_false_or_eq_true (!t24) with g26 | g26
  ·replace hE_1 := if_tt g26 hE_1
   refine Tri.reg (l := List.range 28) rfl ?_
   refine F.qn rfl (r_loadA ta27 ti27 rfl rfl (fun w hw => (box_cells (i := 2) rfl w hw))) (F.qn rfl (r_move rfl) (F.qn rfl (r_move rfl) ?_))
   refine F.mn rfl (m_buildF (l := ([a1, a2] : List (Int))) Tryz.underlying25 ti3 rfl rfl rfl rfl rfl) ?_
   rintro v23_2 _ ⟨S23_2, hl_v23_2, rfl⟩
   refine F.qcn rfl (q_callF (xs := _) rfl ok98 rfl rfl (fun w hw => impl_isNode.ok h24 w ((fun _ hw => hr_a0_1.sep hw) w hw) ((fun _ hw => hr_a0_2.sep hw) w hw) ((rd_sl (i := 0) rfl) w hw))) ?_
   refine F.qn rfl (r_not rfl) (F.qn rfl (r_move rfl) ?_)
   iterate 3 refine F.skf rfl g26 ?_
   refine F.qn rfl (r_pick rfl rfl g26) (F.qn rfl (r_move rfl) ?_)
   iterate 3 refine F.skf rfl rfl ?_
   refine F.qn rfl (r_pick rfl rfl rfl) (F.qn rfl (r_move rfl) ?_)
   iterate 4 refine F.skf rfl rfl ?_
   refine F.qn rfl (r_pick rfl rfl rfl) (F.qn rfl (r_move rfl) ?_)
   iterate 4 refine F.skf rfl rfl ?_
   refine F.qn rfl (r_pick rfl rfl rfl) (F.nil ?_)
   cases hE_1
   refine Nrm.only [4, 8, 10, 47] rfl ?_
   refine Nrm.pick [1, 2, 3] rfl rfl ?_
   exact hj_1 _ _ ⟨rfl, rfl⟩
  ·replace hE_1 := if_ff g26 hE_1
   rcases Bool.eq_false_or_eq_true (a1 == a2) with g31 | g31
   ·replace hE_1 := if_tt g31 hE_1
    refine Tri.reg (l := List.range 28) rfl ?_
    refine F.qn rfl (r_loadA ta27 ti27 rfl rfl (fun w hw => (box_cells (i := 2) rfl w hw))) (F.qn rfl (r_move rfl) (F.qn rfl (r_move rfl) ?_))
    refine F.mn rfl (m_buildF (l := ([a1, a2] : List (Int))) Tryz.underlying25 ti3 rfl rfl rfl rfl rfl) ?_
    rintro v23_4 _ ⟨S23_4, hl_v23_4, rfl⟩
    refine F.qcn rfl (q_callF (xs := _) rfl ok98 rfl rfl (fun w hw => impl_isNode.ok h24 w ((fun _ hw => hr_a0_1.sep hw) w hw) ((fun _ hw => hr_a0_2.sep hw) w hw) ((rd_sl (i := 0) rfl) w hw))) ?_
    refine F.qn rfl (r_not rfl) ?_
    refine F.qn rfl (r_move rfl) (F.qg rfl g26 (r_move rfl) (F.qg rfl g26 (r_move rfl) (F.qg rfl g26 (r_eql rfl rfl) (F.qn rfl (r_pickf rfl rfl g26) (F.qn rfl (r_move rfl) ?_)))))
    iterate 3 refine F.skf rfl g31 ?_
    refine F.qn rfl (r_pick rfl rfl g31) (F.qn rfl (r_move rfl) ?_)
    iterate 4 refine F.skf rfl rfl ?_
    refine F.qn rfl (r_pick rfl rfl rfl) (F.qn rfl (r_move rfl) ?_)
    iterate 4 refine F.skf rfl rfl ?_
    refine F.qn rfl (r_pick rfl rfl rfl) (F.nil ?_)
    cases hE_1
    refine Nrm.only [4, 8, 10, 47] rfl ?_
    refine Nrm.pick [1, 2, 3] rfl rfl ?_
    exact hj_1 _ _ ⟨rfl, rfl⟩
   ·replace hE_1 := if_ff g31 hE_1
    obtain ⟨t33, h33, hE_1⟩ := bind_some hE_1
    rcases Bool.eq_false_or_eq_true (!t33) with g36 | g36
    ·replace hE_1 := if_tt g36 hE_1
     refine Tri.reg (l := List.range 28) rfl ?_
     refine F.qn rfl (r_loadA ta27 ti27 rfl rfl (fun w hw => (box_cells (i := 2) rfl w hw))) (F.qn rfl (r_move rfl) (F.qn rfl (r_move rfl) ?_))
     refine F.mn rfl (m_buildF (l := ([a1, a2] : List (Int))) Tryz.underlying25 ti3 rfl rfl rfl rfl rfl) ?_
     rintro v23_6 _ ⟨S23_6, hl_v23_6, rfl⟩
     refine F.qcn rfl (q_callF (xs := _) rfl ok98 rfl rfl (fun w hw => impl_isNode.ok h24 w ((fun _ hw => hr_a0_1.sep hw) w hw) ((fun _ hw => hr_a0_2.sep hw) w hw) ((rd_sl (i := 0) rfl) w hw))) ?_
     refine F.qn rfl (r_not rfl) (F.qn rfl (r_move rfl) ?_)
     refine F.qg rfl g26 (r_move rfl) (F.qg rfl g26 (r_move rfl) (F.qg rfl g26 (r_eql rfl rfl) (F.qn rfl (r_pickf rfl rfl g26) (F.qn rfl (r_move rfl) (F.qg rfl g31 (r_move rfl) ?_)))))
     refine F.qc rfl rfl rfl (wg rfl rfl rfl g31) (q_callF (xs := _) rfl ok177 rfl rfl (fun w hw => impl_isSet.ok h33 w )) ?_
     refine F.qg rfl g31 (r_not rfl) (F.qn rfl (r_pickf rfl rfl g31) (F.qn rfl (r_move rfl) ?_))
     iterate 4 refine F.skf rfl g36 ?_
     refine F.qn rfl (r_pick rfl rfl g36) (F.qn rfl (r_move rfl) ?_)
     iterate 4 refine F.skf rfl rfl ?_
     refine F.qn rfl (r_pick rfl rfl rfl) (F.nil ?_)
     cases hE_1
     refine Nrm.only [4, 8, 10, 47] rfl ?_
     refine Nrm.pick [1, 2, 3] rfl rfl ?_
     exact hj_1 _ _ ⟨rfl, rfl⟩
    ·replace hE_1 := if_ff g36 hE_1
     obtain ⟨t40, h40, hE_1⟩ := bind_some hE_1
     rcases Bool.eq_false_or_eq_true (t40) with g42 | g42
     ·replace hE_1 := if_tt g42 hE_1
      refine Tri.reg (l := List.range 28) rfl ?_
      refine F.qn rfl (r_loadA ta27 ti27 rfl rfl (fun w hw => (box_cells (i := 2) rfl w hw))) (F.qn rfl (r_move rfl) (F.qn rfl (r_move rfl) ?_))
      refine F.mn rfl (m_buildF (l := ([a1, a2] : List (Int))) Tryz.underlying25 ti3 rfl rfl rfl rfl rfl) ?_
      rintro v23_8 _ ⟨S23_8, hl_v23_8, rfl⟩
      refine F.qcn rfl (q_callF (xs := _) rfl ok98 rfl rfl (fun w hw => impl_isNode.ok h24 w ((fun _ hw => hr_a0_1.sep hw) w hw) ((fun _ hw => hr_a0_2.sep hw) w hw) ((rd_sl (i := 0) rfl) w hw))) ?_
      refine F.qn rfl (r_not rfl) (F.qn rfl (r_move rfl) ?_)
      refine F.qg rfl g26 (r_move rfl) (F.qg rfl g26 (r_move rfl) (F.qg rfl g26 (r_eql rfl rfl) (F.qn rfl (r_pickf rfl rfl g26) (F.qn rfl (r_move rfl) (F.qg rfl g31 (r_move rfl) ?_)))))
      refine F.qc rfl rfl rfl (wg rfl rfl rfl g31) (q_callF (xs := _) rfl ok177 rfl rfl (fun w hw => impl_isSet.ok h33 w )) ?_
      refine F.qg rfl g31 (r_not rfl) (F.qn rfl (r_pickf rfl rfl g31) (F.qn rfl (r_move rfl) (F.qg rfl g36 (r_fieldAddr tf27_1 rfl) (F.qg rfl g36 (r_load ta24 rfl (fun w hw => cell_1 (box_cells (i := 3) rfl w hw) rfl)) (F.qg rfl g36 (r_loadA ta168 ti168 rfl rfl (fun w hw => (box_cells (i := 1) rfl w hw))) ?_)))))
      refine F.qc rfl rfl rfl (wg rfl rfl rfl g36) (q_callF (xs := _) rfl ok239 rfl rfl (fun w hw => slices_Contains__3int__3int.ok h40 w ((fun _ hw => hr_a0_1.sep hw) w hw))) ?_
      refine F.qn rfl (r_pickf rfl rfl g36) (F.qn rfl (r_move rfl) ?_)
      iterate 4 refine F.skf rfl g42 ?_
      refine F.qn rfl (r_pick rfl rfl g42) (F.nil ?_)
      cases hE_1
      refine Nrm.only [4, 8, 10, 47] rfl ?_
      refine Nrm.pick [1, 2, 3] rfl rfl ?_
      exact hj_1 _ _ ⟨rfl, rfl⟩
     ·replace hE_1 := if_ff g42 hE_1
      refine Tri.reg (l := List.range 28) rfl ?_
      refine F.qn rfl (r_loadA ta27 ti27 rfl rfl (fun w hw => (box_cells (i := 2) rfl w hw))) (F.qn rfl (r_move rfl) (F.qn rfl (r_move rfl) ?_))
      refine F.mn rfl (m_buildF (l := ([a1, a2] : List (Int))) Tryz.underlying25 ti3 rfl rfl rfl rfl rfl) ?_
      rintro v23_9 _ ⟨S23_9, hl_v23_9, rfl⟩
      refine F.qcn rfl (q_callF (xs := _) rfl ok98 rfl rfl (fun w hw => impl_isNode.ok h24 w ((fun _ hw => hr_a0_1.sep hw) w hw) ((fun _ hw => hr_a0_2.sep hw) w hw) ((rd_sl (i := 0) rfl) w hw))) ?_
      refine F.qn rfl (r_not rfl) (F.qn rfl (r_move rfl) ?_)
      refine F.qg rfl g26 (r_move rfl) (F.qg rfl g26 (r_move rfl) (F.qg rfl g26 (r_eql rfl rfl) (F.qn rfl (r_pickf rfl rfl g26) (F.qn rfl (r_move rfl) (F.qg rfl g31 (r_move rfl) ?_)))))
      refine F.qc rfl rfl rfl (wg rfl rfl rfl g31) (q_callF (xs := _) rfl ok177 rfl rfl (fun w hw => impl_isSet.ok h33 w )) ?_
      refine F.qg rfl g31 (r_not rfl) (F.qn rfl (r_pickf rfl rfl g31) (F.qn rfl (r_move rfl) (F.qg rfl g36 (r_fieldAddr tf27_1 rfl) (F.qg rfl g36 (r_load ta24 rfl (fun w hw => cell_1 (box_cells (i := 3) rfl w hw) rfl)) (F.qg rfl g36 (r_loadA ta168 ti168 rfl rfl (fun w hw => (box_cells (i := 1) rfl w hw))) ?_)))))
      refine F.qc rfl rfl rfl (wg rfl rfl rfl g36) (q_callF (xs := _) rfl ok239 rfl rfl (fun w hw => slices_Contains__3int__3int.ok h40 w ((fun _ hw => hr_a0_1.sep hw) w hw))) ?_
      refine F.qn rfl (r_pickf rfl rfl g36) ?_
      refine F.qn rfl (r_move rfl) (F.qg rfl g42 (r_fieldAddr tf27_1 rfl) (F.qg rfl g42 (r_load ta24 rfl (fun w hw => cell_1 (box_cells (i := 3) rfl w hw) rfl)) (F.qg rfl g42 (r_len Tryz.underlying24 rfl hl_va0_1) (F.qg rfl g42 (r_eql rfl rfl) (F.qn rfl (r_pickf rfl rfl g42) (F.nil ?_))))))
      cases hE_1
      refine Nrm.only [4, 8, 10, 47] rfl ?_
      refine Nrm.pick [1, 2, 3] rfl rfl ?_
      exact hj_1 _ _ ⟨rfl, rfl⟩


noncomputable def impl_done.f (k : Nat) (a0_0 : Int) (a0_1 : List (Int × Int × Int)) (a0_2 : List Int) (a0_3 : List Int) (a0_4 : Int) (a1_0 : Int) (a1_1 : Int) (a1_2 : Int) (a1_3 : Int) : Option (Int × (List (Int × Int × Int)) × (List Int) × (List Int) × Int × Bool) := (impl_ownVisit.f k a0_0 a0_1 a0_2 a0_3 a0_4).bind fun (t9_1, t9_2, t9_3, t9_4, t9_5) => ((if (a1_0 == 1 && (a1_1 == a1_1 && (a1_2 == 0 && (a1_3 == 0 && true)))) = true then if (t9_4 ++ ([a1_1] : List (Int))).length < 1099511627776 then some (true, t9_1, t9_2, t9_3, t9_4 ++ ([a1_1] : List (Int))) else none else ((if (a1_0 == 2 && (a1_1 == 0 && (a1_2 == 0 && (a1_3 == 0 && true)))) = true then (slc t9_4 0 (w64 ((t9_4.length : Int) - 1))).bind fun t36 => some (true, t9_1, t9_2, t9_3, t36) else ((if (a1_0 == 3 && (a1_1 == a1_1 && (a1_2 == a1_2 && (a1_3 == 0 && true)))) = true then (impl_PutKeys.f k a0_0 a0_1 a0_2 a1_1 a1_2).bind fun (t52_1, t52_2, t52_3, t52_4) => some (t52_4, t52_1, t52_2, t52_3) else ((if (a1_0 == 4 && (a1_1 == a1_1 && (a1_2 == a1_2 && (a1_3 == a1_3 && true)))) = true then (impl_AddDoor.f k a0_0 a0_1 a0_2 a1_1 a1_2 a1_3).bind fun (t74_1, t74_2, t74_3, t74_4) => some (t74_4, t74_1, t74_2, t74_3) else ((if (a1_0 == 5 && (a1_1 == a1_1 && (a1_2 == 0 && (a1_3 == 0 && true)))) = true then (impl_DropDoor.f k a0_0 a0_1 a0_2 a1_1).bind fun (t88_1, t88_2, t88_3, t88_4) => some (t88_4, t88_1, t88_2, t88_3) else some (false, t9_1, t9_2, t9_3))).bind fun (y7, yb6_1_0, yb6_1_1, yb6_1_2) => some (y7, yb6_1_0, yb6_1_1, yb6_1_2))).bind fun (y7, yb6_1_0, yb6_1_1, yb6_1_2) => some (y7, yb6_1_0, yb6_1_1, yb6_1_2))).bind fun (y7, yb6_1_0, yb6_1_1, yb6_1_2) => some (y7, yb6_1_0, yb6_1_1, yb6_1_2, t9_4))).bind fun (y7, yb6_1_0, yb6_1_1, yb6_1_2, yb6_1_3) => some (y7, yb6_1_0, yb6_1_1, yb6_1_2, yb6_1_3))).bind fun (y7, yb6_1_0, yb6_1_1, yb6_1_2, yb6_1_3) => ((if (!y7) = true then some true else (impl_IsVisit.f k yb6_1_0 yb6_1_1 yb6_1_2 yb6_1_3 (w64 (t9_5 + 1))).bind fun t96 => some (!t96))).bind fun y98 => (if y98 = true then some (0, [], [], [], 0, false) else some (yb6_1_0, yb6_1_1, yb6_1_2, yb6_1_3, w64 (t9_5 + 1), true))

theorem impl_done.ok {k : Nat}  {a0_0 : Int} {a0_1 : List (Int × Int × Int)} {a0_2 : List Int} {a0_3 : List Int} {a0_4 : Int} {a1_0 : Int} {a1_1 : Int} {a1_2 : Int} {a1_3 : Int} {r0 : Int} {r1 : List (Int × Int × Int)} {r2 : List Int} {r3 : List Int} {r4 : Int} {r5 : Bool} (h : impl_done.f k a0_0 a0_1 a0_2 a0_3 a0_4 a1_0 a1_1 a1_2 a1_3 = some (r0, r1, r2, r3, r4, r5)) (w : World) {va0_1 : Value} {va0_2 : Value} {va0_3 : Value} (hr_a0_1 : Rd w va0_1 a0_1) (hr_a0_2 : Rd w va0_2 a0_2) (hr_a0_3 : Rd w va0_3 a0_3) :
  Calls Tryz.prog 112 ([.agg ([.int .i64 a0_0, va0_1, va0_2, va0_3, .int .i64 a0_4].toArray), .agg ([.int .i64 a1_0, .int .i64 a1_1, .int .i64 a1_2, .int .i64 a1_3].toArray)] : List Value).toArray w (Post (fun u ns => ∃ (ur1 : Value) (Sr1 : Nat → Prop) (ur2 : Value) (Sr2 : Nat → Prop) (ur3 : Value) (Sr3 : Nat → Prop), u = .tuple #[.agg [.int .i64 r0, ur1, ur2, ur3, .int .i64 r4].toArray, .bool r5] ∧ SlLen ur1 r1.length ∧ SlLen ur2 r2.length ∧ SlLen ur3 r3.length ∧ ns = [R.sl Sr1 ur1 r1, R.sl Sr2 ur2 r2, R.sl Sr3 ur3 r3]) w) := by
 unfold impl_done.f at h
 have hl_va0_1 := hr_a0_1.len
 have hl_va0_2 := hr_a0_2.len
 have hl_va0_3 := hr_a0_3.len
 refine Calls.of_tri (N := 101) Tryz.func112 rfl rfl rfl (Sep.nil (M := noM)) ?_
 refine Tri.seq (Tri.reg (l := [0, 1, 2, 3]) rfl ?_)
 refine F.mn rfl (m_boxG rfl rfl) ?_
 rintro _ _ ⟨b2_1, rfl, rfl⟩
 refine F.mn rfl (m_boxG rfl rfl) ?_
 rintro _ _ ⟨b3_1, rfl, rfl⟩
 refine F.mn rfl (m_alloc ti44) ?_
 rintro _ _ ⟨b4_1, rfl, rfl⟩
 refine F.qn rfl (r_assign rfl) (F.nil (Nrm.seq (Tri.seq ?_)))
 obtain ⟨⟨t9_1, t9_2, t9_3, t9_4, t9_5⟩, h9, h⟩ := bind_some h
 refine Tri.reg (l := [0, 1, 2, 3, 4]) rfl ?_
 refine F.qn rfl (r_loadA ta44 ti44 rfl rfl (fun w hw => (box_cells (i := 2) rfl w hw))) ?_
 refine F.mn rfl (m_callF (xs := _) rfl ok116 rfl rfl (fun w hw => impl_ownVisit.ok h9 w ((fun _ hw => hr_a0_1.sep hw) w hw) ((fun _ hw => hr_a0_2.sep hw) w hw) ((fun _ hw => hr_a0_3.sep hw) w hw))) ?_
 rintro _ _ ⟨_, ⟨v9_1, S9_1, v9_2, S9_2, v9_3, S9_3, rfl, hl_v9_1, hl_v9_2, hl_v9_3, rfl⟩, rfl⟩
 refine F.mn rfl (m_alloc ti44) ?_
 rintro _ _ ⟨b6_1, rfl, rfl⟩
 refine F.ef0 rfl rfl (wanted_none rfl) (d_storeG0 (i := 0) (cs2 := [.int .i64 t9_1, v9_1, v9_2, v9_3, .int .i64 t9_5]) ti44 rfl rfl rfl rfl rfl (Nat.le_of_ble_eq_true rfl) (lf_cons rfl (lf_cons (sl_leaf hl_v9_1) (lf_cons (sl_leaf hl_v9_2) (lf_cons (sl_leaf hl_v9_3) (lf_cons rfl lf_nil)))))) ?_
 rintro _ _ ⟨rfl, rfl⟩
 refine F.qn rfl (r_assign rfl) (F.nil (Nrm.seq (Tri.seq (Tri.reg (l := [0, 1, 2, 3, 4]) rfl ?_))))
 refine F.qn rfl (r_fieldAddr tf44_2 rfl) (F.qn rfl (r_load ta3 rfl (fun w hw => cell_1 (box_cells (i := 0) rfl w hw) rfl)) (F.qn rfl (r_add rfl rfl) (F.qn rfl (r_fieldAddr tf44_2 rfl) ?_)))
 refine F.ef0 rfl rfl (wanted_none rfl) (d_storeG1 (i := 0) (cs2 := [.int .i64 (w64 (t9_5 + 1))]) ti3 rfl rfl rfl rfl rfl (Nat.le_of_ble_eq_true rfl) (lf_cons rfl lf_nil)) ?_
 rintro _ _ ⟨rfl, rfl⟩
 refine F.nil (Nrm.seq (Tri.seq (Tri.seq (Tri.reg (l := [0]) rfl ?_))))
 refine F.qn rfl (r_loadA ta48 ti48 rfl rfl (fun w hw => (box_cells (i := 5) rfl w hw))) (F.nil (Nrm.seq (Tri.block ?_)))
 refine Tri.seq (Tri.reg (l := [0, 1, 2, 3, 4]) rfl ?_)
 refine F.qn rfl (r_fieldAddr tf48_1 rfl) (F.qn rfl (r_load ta3 rfl (fun w hw => cell_1 (box_cells (i := 5) rfl w hw) rfl)) (F.qn rfl (r_build (pl := [(0, 1), (1, 1), (2, 1), (3, 1)]) (qs := [(0, [.int .i64 1]), (1, [.int .i64 a1_1])]) (cs := [.int .i64 1, .int .i64 a1_1, .int .i64 0, .int .i64 0]) (by kernel_rfl) ti48 rfl (.cons rfl rfl (Nat.le_of_ble_eq_true rfl) (.cons rfl rfl (Nat.le_of_ble_eq_true rfl) .nil)) rfl rfl) (F.qn rfl (r_eqlSt (by kernel_rfl) (by kernel_rfl) (by kernel_rfl) rfl rfl sq48) (F.qn rfl (r_assign rfl) (F.nil (Nrm.seq ?_))))))
 obtain ⟨⟨y7, yb6_1_0, yb6_1_1, yb6_1_2, yb6_1_3⟩, hE_1, h⟩ := bind_some h
 refine Tri.cut (fun e' C' => ∃ (vb6_1_1_1 : Value) (Sb6_1_1_1 : Nat → Prop) (vb6_1_2_1 : Value) (Sb6_1_2_1 : Nat → Prop) (vb6_1_3_1 : Value) (Sb6_1_3_1 : Nat → Prop), SlLen vb6_1_1_1 (yb6_1_1).length ∧ SlLen vb6_1_2_1 (yb6_1_2).length ∧ SlLen vb6_1_3_1 (yb6_1_3).length ∧ e' = [(4, .pointer (some ⟨b4_1, 0, none⟩)), (6, .pointer (some ⟨b6_1, 0, none⟩)), (7, .bool y7)] ∧ C' = Sep w noM [R.box b6_1 44 [.int .i64 yb6_1_0, vb6_1_1_1, vb6_1_2_1, vb6_1_3_1, .int .i64 (w64 (t9_5 + 1))], R.box b4_1 44 [.int .i64 0, .slice none 0 0, .slice none 0 0, .slice none 0 0, .int .i64 0], R.sl Sb6_1_1_1 vb6_1_1_1 (yb6_1_1 : List (Int × Int × Int)), R.sl Sb6_1_2_1 vb6_1_2_1 (yb6_1_2 : List (Int)), R.sl Sb6_1_3_1 vb6_1_3_1 (yb6_1_3 : List (Int))]) ?_ (fun hj_1 => ?_)
 ·rintro _ _ ⟨vb6_1_1_1, Sb6_1_1_1, vb6_1_2_1, Sb6_1_2_1, vb6_1_3_1, Sb6_1_3_1, hl_vb6_1_1_1, hl_vb6_1_2_1, hl_vb6_1_3_1, rfl, rfl⟩
  refine Nrm.block ?_
  refine Nrm.seq (Tri.seq (Tri.seq ?_))
  obtain ⟨y98, hE_6, h⟩ := bind_some h
  refine Tri.cut (fun e' C' => e' = [(4, .pointer (some ⟨b4_1, 0, none⟩)), (6, .pointer (some ⟨b6_1, 0, none⟩)), (98, .bool y98)] ∧ C' = Sep w noM [R.box b6_1 44 [.int .i64 yb6_1_0, vb6_1_1_1, vb6_1_2_1, vb6_1_3_1, .int .i64 (w64 (t9_5 + 1))], R.box b4_1 44 [.int .i64 0, .slice none 0 0, .slice none 0 0, .slice none 0 0, .int .i64 0], R.sl Sb6_1_1_1 vb6_1_1_1 (yb6_1_1 : List (Int × Int × Int)), R.sl Sb6_1_2_1 vb6_1_2_1 (yb6_1_2 : List (Int)), R.sl Sb6_1_3_1 vb6_1_3_1 (yb6_1_3 : List (Int))]) ?_ (fun hj_6 => ?_)
  ·rintro _ _ ⟨rfl, rfl⟩
   refine Nrm.seq (Tri.cond (b := y98) rfl (fun g_6 => ?_) (fun g_6 => ?_))
   ·replace h := if_tt g_6 h
    refine Tri.seq (Tri.reg (l := [0, 1, 2]) rfl ?_)
    refine F.qn rfl (r_build (pl := [(0, 3), (3, 1), (4, 1)]) (qs := []) (cs := [.int .i64 0, .slice none 0 0, .slice none 0 0, .slice none 0 0, .int .i64 0]) (by kernel_rfl) ti44 rfl .nil rfl rfl) ?_
    refine F.ef0 rfl rfl (wanted_none rfl) (d_storeG0 (i := 1) (cs2 := [.int .i64 0, .slice none 0 0, .slice none 0 0, .slice none 0 0, .int .i64 0]) ti44 rfl rfl rfl rfl rfl (Nat.le_of_ble_eq_true rfl) (lf_cons rfl (lf_cons rfl (lf_cons rfl (lf_cons rfl (lf_cons rfl lf_nil)))))) ?_
    rintro _ _ ⟨rfl, rfl⟩
    refine F.qn rfl (r_assign rfl) (F.nil (Nrm.seq (Tri.ret ?_)))
    refine Rtn.then ?_
    cases h
    exact Rtn.body (.cell rfl ta44 ti44 rfl (fun _ hw => box_cells (i := 1) rfl _ hw) (.tmp rfl .nil)) (fun w hw => ⟨_, _, rfl, ⟨.slice none 0 0, fun _ => False, .slice none 0 0, fun _ => False, .slice none 0 0, fun _ => False, rfl, len_nil, len_nil, len_nil, rfl⟩, Sep.pick (is := [0, 1, 2]) rfl rfl hw.pushNil.pushNil.pushNil⟩)
   ·replace h := if_ff g_6 h
    refine Tri.skip (Nrm.seq (Tri.seq (Tri.reg (l := [0, 1, 2]) rfl ?_)))
    refine F.qn rfl (r_loadA ta44 ti44 rfl rfl (fun w hw => (box_cells (i := 0) rfl w hw))) ?_
    refine F.ef0 rfl rfl (wanted_none rfl) (d_storeG0 (i := 1) (cs2 := [.int .i64 yb6_1_0, vb6_1_1_1, vb6_1_2_1, vb6_1_3_1, .int .i64 (w64 (t9_5 + 1))]) ti44 rfl rfl rfl rfl rfl (Nat.le_of_ble_eq_true rfl) (lf_cons rfl (lf_cons (sl_leaf hl_vb6_1_1_1) (lf_cons (sl_leaf hl_vb6_1_2_1) (lf_cons (sl_leaf hl_vb6_1_3_1) (lf_cons rfl lf_nil)))))) ?_
    rintro _ _ ⟨rfl, rfl⟩
    refine F.qn rfl (r_assign rfl) (F.nil (Nrm.seq (Tri.ret ?_)))
    cases h
    exact Rtn.body (.cell rfl ta44 ti44 rfl (fun _ hw => box_cells (i := 1) rfl _ hw) (.tmp rfl .nil)) (fun w hw => ⟨_, _, rfl, ⟨vb6_1_1_1, Sb6_1_1_1, vb6_1_2_1, Sb6_1_2_1, vb6_1_3_1, Sb6_1_3_1, rfl, hl_vb6_1_1_1, hl_vb6_1_2_1, hl_vb6_1_3_1, rfl⟩, Sep.pick (is := [2, 3, 4]) rfl rfl hw⟩)
  ·rcases Bool.eq_false_or_eq_true (!y7) with g94 | g94
   ·replace hE_6 := if_tt g94 hE_6
    refine Tri.reg (l := [0, 1, 2, 3, 4, 5, 6]) rfl ?_
    refine F.qn rfl (r_move rfl) (F.qn rfl (r_not rfl) (F.qn rfl (r_move rfl) ?_))
    iterate 3 refine F.skf rfl g94 ?_
    refine F.qn rfl (r_pick rfl rfl g94) (F.nil ?_)
    cases hE_6
    refine Nrm.only [4, 6, 98] rfl ?_
    refine Nrm.pick [0, 1, 2, 3, 4] rfl rfl ?_
    exact hj_6 _ _ ⟨rfl, rfl⟩
   ·replace hE_6 := if_ff g94 hE_6
    obtain ⟨t96, h96, hE_6⟩ := bind_some hE_6
    refine Tri.reg (l := [0, 1, 2, 3, 4, 5, 6]) rfl ?_
    refine F.qn rfl (r_move rfl) (F.qn rfl (r_not rfl) (F.qn rfl (r_move rfl) (F.qg rfl g94 (r_loadA ta44 ti44 rfl rfl (fun w hw => (box_cells (i := 0) rfl w hw))) ?_)))
    refine F.qc rfl rfl rfl (wg rfl rfl rfl g94) (q_callF (xs := _) rfl ok43 rfl rfl (fun w hw => impl_IsVisit.ok h96 w ((rd_sl (i := 2) rfl) w hw) ((rd_sl (i := 3) rfl) w hw) ((rd_sl (i := 4) rfl) w hw))) ?_
    refine F.qg rfl g94 (r_not rfl) (F.qn rfl (r_pickf rfl rfl g94) (F.nil ?_))
    cases hE_6
    refine Nrm.only [4, 6, 98] rfl ?_
    refine Nrm.pick [0, 1, 2, 3, 4] rfl rfl ?_
    exact hj_6 _ _ ⟨rfl, rfl⟩
 ·refine Tri.cond (b := (a1_0 == 1 && (a1_1 == a1_1 && (a1_2 == 0 && (a1_3 == 0 && true))))) rfl (fun g_1 => ?_) (fun g_1 => ?_)
  ·replace hE_1 := if_tt g_1 hE_1
   obtain ⟨hs25, hE_1⟩ := ck hE_1
   refine Tri.reg (l := [0, 1, 2, 3, 4, 5, 6, 7]) rfl ?_
   refine F.qn rfl (r_fieldAddr tf44_1 rfl) (F.qn rfl (r_load ta25 rfl (fun w hw => cell_1 (box_cells (i := 0) rfl w hw) rfl)) (F.qn rfl (r_fieldAddr tf48_1 rfl) (F.qn rfl (r_load ta3 rfl (fun w hw => cell_1 (box_cells (i := 5) rfl w hw) rfl)) ?_)))
   refine F.mn rfl (m_buildF (l := ([a1_1] : List (Int))) Tryz.underlying25 ti3 rfl rfl rfl rfl rfl) ?_
   rintro v24_1 _ ⟨S24_1, hl_v24_1, rfl⟩
   refine F.efn rfl (d_append (i := 4) Tryz.underlying25 Tryz.underlying25 ti3 rfl (by decide) rfl rfl rfl (rd_sl (i := 0) rfl) hs25) ?_
   rintro v25_1 _ ⟨S25_1, rfl, hl_v25_1⟩
   refine F.qn rfl (r_fieldAddr tf44_1 rfl) ?_
   refine F.ef0 rfl rfl (wanted_none rfl) (d_storeG1 (i := 1) (cs2 := [v25_1]) ti25 rfl rfl rfl (sl_cells hl_v25_1) rfl (Nat.le_of_ble_eq_true rfl) (lf_cons (sl_leaf hl_v25_1) lf_nil)) ?_
   rintro _ _ ⟨rfl, rfl⟩
   refine F.nil ?_
   cases hE_1
   refine Nrm.only [4, 6, 7] rfl ?_
   refine Nrm.pick [1, 5, 2, 3, 4] rfl rfl ?_
   exact hj_1 _ _ ⟨v9_1, S9_1, v9_2, S9_2, v25_1, S25_1, hl_v9_1, hl_v9_2, hl_v25_1, rfl, rfl⟩
  ·replace hE_1 := if_ff g_1 hE_1
   refine Tri.seq (Tri.reg (l := [0, 1, 2]) rfl ?_)
   refine F.qn rfl (r_build (pl := [(0, 1), (1, 1), (2, 1), (3, 1)]) (qs := [(0, [.int .i64 2])]) (cs := [.int .i64 2, .int .i64 0, .int .i64 0, .int .i64 0]) (by kernel_rfl) ti48 rfl (.cons rfl rfl (Nat.le_of_ble_eq_true rfl) .nil) rfl rfl) (F.qn rfl (r_eqlSt (by kernel_rfl) (by kernel_rfl) (by kernel_rfl) rfl rfl sq48) (F.qn rfl (r_assign rfl) (F.nil (Nrm.seq ?_))))
   obtain ⟨⟨y7, yb6_1_0, yb6_1_1, yb6_1_2, yb6_1_3⟩, hE_2, hE_1⟩ := bind_some hE_1
   refine Tri.cut (fun e' C' => ∃ (vb6_1_1_2 : Value) (Sb6_1_1_2 : Nat → Prop) (vb6_1_2_2 : Value) (Sb6_1_2_2 : Nat → Prop) (vb6_1_3_2 : Value) (Sb6_1_3_2 : Nat → Prop), SlLen vb6_1_1_2 (yb6_1_1).length ∧ SlLen vb6_1_2_2 (yb6_1_2).length ∧ SlLen vb6_1_3_2 (yb6_1_3).length ∧ e' = [(4, .pointer (some ⟨b4_1, 0, none⟩)), (6, .pointer (some ⟨b6_1, 0, none⟩)), (7, .bool y7)] ∧ C' = Sep w noM [R.box b6_1 44 [.int .i64 yb6_1_0, vb6_1_1_2, vb6_1_2_2, vb6_1_3_2, .int .i64 (w64 (t9_5 + 1))], R.box b4_1 44 [.int .i64 0, .slice none 0 0, .slice none 0 0, .slice none 0 0, .int .i64 0], R.sl Sb6_1_1_2 vb6_1_1_2 (yb6_1_1 : List (Int × Int × Int)), R.sl Sb6_1_2_2 vb6_1_2_2 (yb6_1_2 : List (Int)), R.sl Sb6_1_3_2 vb6_1_3_2 (yb6_1_3 : List (Int))]) ?_ (fun hj_2 => ?_)
   ·rintro _ _ ⟨vb6_1_1_2, Sb6_1_1_2, vb6_1_2_2, Sb6_1_2_2, vb6_1_3_2, Sb6_1_3_2, hl_vb6_1_1_2, hl_vb6_1_2_2, hl_vb6_1_3_2, rfl, rfl⟩
    cases hE_1
    refine Nrm.only [4, 6, 7] rfl ?_
    refine Nrm.pick [0, 1, 2, 3, 4] rfl rfl ?_
    exact hj_1 _ _ ⟨vb6_1_1_2, Sb6_1_1_2, vb6_1_2_2, Sb6_1_2_2, vb6_1_3_2, Sb6_1_3_2, hl_vb6_1_1_2, hl_vb6_1_2_2, hl_vb6_1_3_2, rfl, rfl⟩
   ·refine Tri.cond (b := (a1_0 == 2 && (a1_1 == 0 && (a1_2 == 0 && (a1_3 == 0 && true))))) rfl (fun g_2 => ?_) (fun g_2 => ?_)
    ·replace hE_2 := if_tt g_2 hE_2
     obtain ⟨t36, h36, hE_2⟩ := bind_some hE_2
     refine Tri.reg (l := [0, 1, 2, 3, 4, 5, 6, 7, 8]) rfl ?_
     refine F.qn rfl (r_fieldAddr tf44_1 rfl) (F.qn rfl (r_load ta25 rfl (fun w hw => cell_1 (box_cells (i := 0) rfl w hw) rfl)) ?_)
     refine F.qn rfl (r_fieldAddr tf44_1 rfl) (F.qn rfl (r_load ta25 rfl (fun w hw => cell_1 (box_cells (i := 0) rfl w hw) rfl)) (F.qn rfl (r_len Tryz.underlying25 rfl hl_v9_3) (F.qn rfl (r_sub rfl rfl) (F.qn rfl (r_sliceH Tryz.underlying25 ti3 rfl (rd_sl (i := 3) rfl) rfl h36) (F.qn rfl (r_fieldAddr tf44_1 rfl) ?_)))))
     refine F.ef0 rfl rfl (wanted_none rfl) (d_storeG1 (i := 0) (cs2 := [(slSub v9_3 1 (0 : Int).toNat (w64 ((t9_4.length : Int) - 1) : Int).toNat)]) ti25 rfl rfl rfl (sl_cells (slc_len hl_v9_3 h36)) rfl (Nat.le_of_ble_eq_true rfl) (lf_cons (sl_leaf (slc_len hl_v9_3 h36)) lf_nil)) ?_
     rintro _ _ ⟨rfl, rfl⟩
     refine F.nil (Nrm.imp (fun w hw => Sep.resl (i := 3) rfl h36 hw) ?_)
     cases hE_2
     refine Nrm.only [4, 6, 7] rfl ?_
     refine Nrm.pick [0, 4, 1, 2, 3] rfl rfl ?_
     exact hj_2 _ _ ⟨v9_1, S9_1, v9_2, S9_2, (slSub v9_3 1 (0 : Int).toNat (w64 ((t9_4.length : Int) - 1) : Int).toNat), S9_3, hl_v9_1, hl_v9_2, (slc_len hl_v9_3 h36), rfl, rfl⟩
    ·replace hE_2 := if_ff g_2 hE_2
     refine Tri.seq (Tri.reg (l := [0, 1, 2, 3, 4, 5, 6]) rfl ?_)
     refine F.qn rfl (r_fieldAddr tf48_1 rfl) (F.qn rfl (r_load ta3 rfl (fun w hw => cell_1 (box_cells (i := 5) rfl w hw) rfl)) ?_)
     refine F.qn rfl (r_fieldAddr tf48_2 rfl) (F.qn rfl (r_load ta3 rfl (fun w hw => cell_1 (box_cells (i := 5) rfl w hw) rfl)) (F.qn rfl (r_build (pl := [(0, 1), (1, 1), (2, 1), (3, 1)]) (qs := [(0, [.int .i64 3]), (1, [.int .i64 a1_1]), (2, [.int .i64 a1_2])]) (cs := [.int .i64 3, .int .i64 a1_1, .int .i64 a1_2, .int .i64 0]) (by kernel_rfl) ti48 rfl (.cons rfl rfl (Nat.le_of_ble_eq_true rfl) (.cons rfl rfl (Nat.le_of_ble_eq_true rfl) (.cons rfl rfl (Nat.le_of_ble_eq_true rfl) .nil))) rfl rfl) (F.qn rfl (r_eqlSt (by kernel_rfl) (by kernel_rfl) (by kernel_rfl) rfl rfl sq48) (F.qn rfl (r_assign rfl) (F.nil (Nrm.seq ?_))))))
     obtain ⟨⟨y7, yb6_1_0, yb6_1_1, yb6_1_2⟩, hE_3, hE_2⟩ := bind_some hE_2
     refine Tri.cut (fun e' C' => ∃ (vb6_1_1_3 : Value) (Sb6_1_1_3 : Nat → Prop) (vb6_1_2_3 : Value) (Sb6_1_2_3 : Nat → Prop), SlLen vb6_1_1_3 (yb6_1_1).length ∧ SlLen vb6_1_2_3 (yb6_1_2).length ∧ e' = [(4, .pointer (some ⟨b4_1, 0, none⟩)), (6, .pointer (some ⟨b6_1, 0, none⟩)), (7, .bool y7)] ∧ C' = Sep w noM [R.box b6_1 44 [.int .i64 yb6_1_0, vb6_1_1_3, vb6_1_2_3, v9_3, .int .i64 (w64 (t9_5 + 1))], R.box b4_1 44 [.int .i64 0, .slice none 0 0, .slice none 0 0, .slice none 0 0, .int .i64 0], R.sl Sb6_1_1_3 vb6_1_1_3 (yb6_1_1 : List (Int × Int × Int)), R.sl Sb6_1_2_3 vb6_1_2_3 (yb6_1_2 : List (Int)), R.sl S9_3 v9_3 (t9_4 : List (Int))]) ?_ (fun hj_3 => ?_)
     ·rintro _ _ ⟨vb6_1_1_3, Sb6_1_1_3, vb6_1_2_3, Sb6_1_2_3, hl_vb6_1_1_3, hl_vb6_1_2_3, rfl, rfl⟩
      cases hE_2
      refine Nrm.only [4, 6, 7] rfl ?_
      refine Nrm.pick [0, 1, 2, 3, 4] rfl rfl ?_
      exact hj_2 _ _ ⟨vb6_1_1_3, Sb6_1_1_3, vb6_1_2_3, Sb6_1_2_3, v9_3, S9_3, hl_vb6_1_1_3, hl_vb6_1_2_3, hl_v9_3, rfl, rfl⟩
     ·refine Tri.cond (b := (a1_0 == 3 && (a1_1 == a1_1 && (a1_2 == a1_2 && (a1_3 == 0 && true))))) rfl (fun g_3 => ?_) (fun g_3 => ?_)
      ·replace hE_3 := if_tt g_3 hE_3
       obtain ⟨⟨t52_1, t52_2, t52_3, t52_4⟩, h52, hE_3⟩ := bind_some hE_3
       refine Tri.reg (l := List.range 13) rfl ?_
       refine F.qn rfl (r_fieldAddr tf44_0 rfl) (F.qn rfl (r_loadA ta27 ti27 rfl rfl (fun w hw => cells_1 (cs' := [.int .i64 a0_0, va0_1, va0_2]) (box_cells (i := 6) rfl w hw) rfl)) (F.qn rfl (r_fieldAddr tf48_1 rfl) (F.qn rfl (r_load ta3 rfl (fun w hw => cell_1 (box_cells (i := 5) rfl w hw) rfl)) (F.qn rfl (r_fieldAddr tf48_2 rfl) (F.qn rfl (r_load ta3 rfl (fun w hw => cell_1 (box_cells (i := 5) rfl w hw) rfl)) ?_)))))
       refine F.mn rfl (m_callF (xs := _) rfl ok101 rfl rfl (fun w hw => impl_PutKeys.ok h52 w ((fun _ hw => hr_a0_1.sep hw) w hw) ((fun _ hw => hr_a0_2.sep hw) w hw))) ?_
       rintro _ _ ⟨_, ⟨v52_1, S52_1, v52_2, S52_2, rfl, hl_v52_1, hl_v52_2, rfl⟩, rfl⟩
       refine F.qn rfl (r_move rfl) (F.qn rfl (r_extract rfl rfl) (F.qn rfl (r_extract rfl rfl) (F.qn rfl (r_fieldAddr tf44_0 rfl) ?_)))
       refine F.ef0 rfl rfl (wanted_none rfl) (d_storeG1 (i := 2) (cs2 := [.int .i64 t52_1, v52_1, v52_2]) ti27 rfl rfl rfl rfl rfl (Nat.le_of_ble_eq_true rfl) (lf_cons rfl (lf_cons (sl_leaf hl_v52_1) (lf_cons (sl_leaf hl_v52_2) lf_nil)))) ?_
       rintro _ _ ⟨rfl, rfl⟩
       refine F.qn rfl (r_assign rfl) (F.nil ?_)
       cases hE_3
       refine Nrm.only [4, 6, 7] rfl ?_
       refine Nrm.pick [2, 6, 0, 1, 5] rfl rfl ?_
       exact hj_3 _ _ ⟨v52_1, S52_1, v52_2, S52_2, hl_v52_1, hl_v52_2, rfl, rfl⟩
      ·replace hE_3 := if_ff g_3 hE_3
       refine Tri.seq (Tri.reg (l := [0, 1, 2, 3, 4, 5, 6, 7, 8]) rfl ?_)
       refine F.qn rfl (r_fieldAddr tf48_1 rfl) (F.qn rfl (r_load ta3 rfl (fun w hw => cell_1 (box_cells (i := 5) rfl w hw) rfl)) (F.qn rfl (r_fieldAddr tf48_2 rfl) (F.qn rfl (r_load ta3 rfl (fun w hw => cell_1 (box_cells (i := 5) rfl w hw) rfl)) (F.qn rfl (r_fieldAddr tf48_3 rfl) ?_))))
       refine F.qn rfl (r_load ta3 rfl (fun w hw => cell_1 (box_cells (i := 5) rfl w hw) rfl)) (F.qn rfl (r_build (pl := [(0, 1), (1, 1), (2, 1), (3, 1)]) (qs := [(0, [.int .i64 4]), (1, [.int .i64 a1_1]), (2, [.int .i64 a1_2]), (3, [.int .i64 a1_3])]) (cs := [.int .i64 4, .int .i64 a1_1, .int .i64 a1_2, .int .i64 a1_3]) (by kernel_rfl) ti48 rfl (.cons rfl rfl (Nat.le_of_ble_eq_true rfl) (.cons rfl rfl (Nat.le_of_ble_eq_true rfl) (.cons rfl rfl (Nat.le_of_ble_eq_true rfl) (.cons rfl rfl (Nat.le_of_ble_eq_true rfl) .nil)))) rfl rfl) (F.qn rfl (r_eqlSt (by kernel_rfl) (by kernel_rfl) (by kernel_rfl) rfl rfl sq48) (F.qn rfl (r_assign rfl) (F.nil (Nrm.seq ?_)))))
       obtain ⟨⟨y7, yb6_1_0, yb6_1_1, yb6_1_2⟩, hE_4, hE_3⟩ := bind_some hE_3
       refine Tri.cut (fun e' C' => ∃ (vb6_1_1_4 : Value) (Sb6_1_1_4 : Nat → Prop) (vb6_1_2_4 : Value) (Sb6_1_2_4 : Nat → Prop), SlLen vb6_1_1_4 (yb6_1_1).length ∧ SlLen vb6_1_2_4 (yb6_1_2).length ∧ e' = [(4, .pointer (some ⟨b4_1, 0, none⟩)), (6, .pointer (some ⟨b6_1, 0, none⟩)), (7, .bool y7)] ∧ C' = Sep w noM [R.box b6_1 44 [.int .i64 yb6_1_0, vb6_1_1_4, vb6_1_2_4, v9_3, .int .i64 (w64 (t9_5 + 1))], R.box b4_1 44 [.int .i64 0, .slice none 0 0, .slice none 0 0, .slice none 0 0, .int .i64 0], R.sl Sb6_1_1_4 vb6_1_1_4 (yb6_1_1 : List (Int × Int × Int)), R.sl Sb6_1_2_4 vb6_1_2_4 (yb6_1_2 : List (Int)), R.sl S9_3 v9_3 (t9_4 : List (Int))]) ?_ (fun hj_4 => ?_)
       ·rintro _ _ ⟨vb6_1_1_4, Sb6_1_1_4, vb6_1_2_4, Sb6_1_2_4, hl_vb6_1_1_4, hl_vb6_1_2_4, rfl, rfl⟩
        cases hE_3
        refine Nrm.only [4, 6, 7] rfl ?_
        refine Nrm.pick [0, 1, 2, 3, 4] rfl rfl ?_
        exact hj_3 _ _ ⟨vb6_1_1_4, Sb6_1_1_4, vb6_1_2_4, Sb6_1_2_4, hl_vb6_1_1_4, hl_vb6_1_2_4, rfl, rfl⟩
       ·refine Tri.cond (b := (a1_0 == 4 && (a1_1 == a1_1 && (a1_2 == a1_2 && (a1_3 == a1_3 && true))))) rfl (fun g_4 => ?_) (fun g_4 => ?_)
        ·replace hE_4 := if_tt g_4 hE_4
         obtain ⟨⟨t74_1, t74_2, t74_3, t74_4⟩, h74, hE_4⟩ := bind_some hE_4
         refine Tri.reg (l := List.range 15) rfl ?_
         refine F.qn rfl (r_fieldAddr tf44_0 rfl) (F.qn rfl (r_loadA ta27 ti27 rfl rfl (fun w hw => cells_1 (cs' := [.int .i64 a0_0, va0_1, va0_2]) (box_cells (i := 6) rfl w hw) rfl)) ?_)
         refine F.qn rfl (r_fieldAddr tf48_1 rfl) (F.qn rfl (r_load ta3 rfl (fun w hw => cell_1 (box_cells (i := 5) rfl w hw) rfl)) (F.qn rfl (r_fieldAddr tf48_2 rfl) (F.qn rfl (r_load ta3 rfl (fun w hw => cell_1 (box_cells (i := 5) rfl w hw) rfl)) (F.qn rfl (r_fieldAddr tf48_3 rfl) (F.qn rfl (r_load ta3 rfl (fun w hw => cell_1 (box_cells (i := 5) rfl w hw) rfl)) ?_)))))
         refine F.mn rfl (m_callF (xs := _) rfl ok203 rfl rfl (fun w hw => impl_AddDoor.ok h74 w ((fun _ hw => hr_a0_1.sep hw) w hw) ((fun _ hw => hr_a0_2.sep hw) w hw))) ?_
         rintro _ _ ⟨_, ⟨v74_1, S74_1, v74_2, S74_2, rfl, hl_v74_1, hl_v74_2, rfl⟩, rfl⟩
         refine F.qn rfl (r_move rfl) (F.qn rfl (r_extract rfl rfl) (F.qn rfl (r_extract rfl rfl) (F.qn rfl (r_fieldAddr tf44_0 rfl) ?_)))
         refine F.ef0 rfl rfl (wanted_none rfl) (d_storeG1 (i := 2) (cs2 := [.int .i64 t74_1, v74_1, v74_2]) ti27 rfl rfl rfl rfl rfl (Nat.le_of_ble_eq_true rfl) (lf_cons rfl (lf_cons (sl_leaf hl_v74_1) (lf_cons (sl_leaf hl_v74_2) lf_nil)))) ?_
         rintro _ _ ⟨rfl, rfl⟩
         refine F.qn rfl (r_assign rfl) (F.nil ?_)
         cases hE_4
         refine Nrm.only [4, 6, 7] rfl ?_
         refine Nrm.pick [2, 6, 0, 1, 5] rfl rfl ?_
         exact hj_4 _ _ ⟨v74_1, S74_1, v74_2, S74_2, hl_v74_1, hl_v74_2, rfl, rfl⟩
        ·replace hE_4 := if_ff g_4 hE_4
         refine Tri.seq (Tri.reg (l := [0, 1, 2, 3, 4]) rfl ?_)
         refine F.qn rfl (r_fieldAddr tf48_1 rfl) (F.qn rfl (r_load ta3 rfl (fun w hw => cell_1 (box_cells (i := 5) rfl w hw) rfl)) (F.qn rfl (r_build (pl := [(0, 1), (1, 1), (2, 1), (3, 1)]) (qs := [(0, [.int .i64 5]), (1, [.int .i64 a1_1])]) (cs := [.int .i64 5, .int .i64 a1_1, .int .i64 0, .int .i64 0]) (by kernel_rfl) ti48 rfl (.cons rfl rfl (Nat.le_of_ble_eq_true rfl) (.cons rfl rfl (Nat.le_of_ble_eq_true rfl) .nil)) rfl rfl) (F.qn rfl (r_eqlSt (by kernel_rfl) (by kernel_rfl) (by kernel_rfl) rfl rfl sq48) (F.qn rfl (r_assign rfl) (F.nil (Nrm.seq ?_))))))
         obtain ⟨⟨y7, yb6_1_0, yb6_1_1, yb6_1_2⟩, hE_5, hE_4⟩ := bind_some hE_4
         refine Tri.cut (fun e' C' => ∃ (vb6_1_1_5 : Value) (Sb6_1_1_5 : Nat → Prop) (vb6_1_2_5 : Value) (Sb6_1_2_5 : Nat → Prop), SlLen vb6_1_1_5 (yb6_1_1).length ∧ SlLen vb6_1_2_5 (yb6_1_2).length ∧ e' = [(4, .pointer (some ⟨b4_1, 0, none⟩)), (6, .pointer (some ⟨b6_1, 0, none⟩)), (7, .bool y7)] ∧ C' = Sep w noM [R.box b6_1 44 [.int .i64 yb6_1_0, vb6_1_1_5, vb6_1_2_5, v9_3, .int .i64 (w64 (t9_5 + 1))], R.box b4_1 44 [.int .i64 0, .slice none 0 0, .slice none 0 0, .slice none 0 0, .int .i64 0], R.sl Sb6_1_1_5 vb6_1_1_5 (yb6_1_1 : List (Int × Int × Int)), R.sl Sb6_1_2_5 vb6_1_2_5 (yb6_1_2 : List (Int)), R.sl S9_3 v9_3 (t9_4 : List (Int))]) ?_ (fun hj_5 => ?_)
         ·rintro _ _ ⟨vb6_1_1_5, Sb6_1_1_5, vb6_1_2_5, Sb6_1_2_5, hl_vb6_1_1_5, hl_vb6_1_2_5, rfl, rfl⟩
          cases hE_4
          refine Nrm.only [4, 6, 7] rfl ?_
          refine Nrm.pick [0, 1, 2, 3, 4] rfl rfl ?_
          exact hj_4 _ _ ⟨vb6_1_1_5, Sb6_1_1_5, vb6_1_2_5, Sb6_1_2_5, hl_vb6_1_1_5, hl_vb6_1_2_5, rfl, rfl⟩
         ·refine Tri.cond (b := (a1_0 == 5 && (a1_1 == a1_1 && (a1_2 == 0 && (a1_3 == 0 && true))))) rfl (fun g_5 => ?_) (fun g_5 => ?_)
          ·replace hE_5 := if_tt g_5 hE_5
           obtain ⟨⟨t88_1, t88_2, t88_3, t88_4⟩, h88, hE_5⟩ := bind_some hE_5
           refine Tri.reg (l := [0, 1, 2, 3, 4, 5, 6, 7, 8, 9, 10]) rfl ?_
           refine F.qn rfl (r_fieldAddr tf44_0 rfl) (F.qn rfl (r_loadA ta27 ti27 rfl rfl (fun w hw => cells_1 (cs' := [.int .i64 a0_0, va0_1, va0_2]) (box_cells (i := 6) rfl w hw) rfl)) (F.qn rfl (r_fieldAddr tf48_1 rfl) (F.qn rfl (r_load ta3 rfl (fun w hw => cell_1 (box_cells (i := 5) rfl w hw) rfl)) ?_)))
           refine F.mn rfl (m_callF (xs := _) rfl ok25 rfl rfl (fun w hw => impl_DropDoor.ok h88 w ((fun _ hw => hr_a0_1.sep hw) w hw) ((fun _ hw => hr_a0_2.sep hw) w hw))) ?_
           rintro _ _ ⟨_, ⟨v88_1, S88_1, v88_2, S88_2, rfl, hl_v88_1, hl_v88_2, rfl⟩, rfl⟩
           refine F.qn rfl (r_move rfl) (F.qn rfl (r_extract rfl rfl) (F.qn rfl (r_extract rfl rfl) (F.qn rfl (r_fieldAddr tf44_0 rfl) ?_)))
           refine F.ef0 rfl rfl (wanted_none rfl) (d_storeG1 (i := 2) (cs2 := [.int .i64 t88_1, v88_1, v88_2]) ti27 rfl rfl rfl rfl rfl (Nat.le_of_ble_eq_true rfl) (lf_cons rfl (lf_cons (sl_leaf hl_v88_1) (lf_cons (sl_leaf hl_v88_2) lf_nil)))) ?_
           rintro _ _ ⟨rfl, rfl⟩
           refine F.qn rfl (r_assign rfl) (F.nil ?_)
           cases hE_5
           refine Nrm.only [4, 6, 7] rfl ?_
           refine Nrm.pick [2, 6, 0, 1, 5] rfl rfl ?_
           exact hj_5 _ _ ⟨v88_1, S88_1, v88_2, S88_2, hl_v88_1, hl_v88_2, rfl, rfl⟩
          ·replace hE_5 := if_ff g_5 hE_5
           refine Tri.reg (l := [0]) rfl ?_
           refine F.qn rfl (r_assign rfl) (F.nil ?_)
           cases hE_5
           refine Nrm.only [4, 6, 7] rfl ?_
           refine Nrm.pick [0, 4, 1, 2, 3] rfl rfl ?_
           exact hj_5 _ _ ⟨v9_1, S9_1, v9_2, S9_2, hl_v9_1, hl_v9_2, rfl, rfl⟩


noncomputable def impl_DoDeed.f (k : Nat) (a0_0 : Int) (a0_1 : List (Int × Int × Int)) (a0_2 : List Int) (a0_3 : List Int) (a0_4 : Int) (a1_0 : Int) (a1_1 : Int) (a1_2 : Int) (a1_3 : Int) : Option (Int × (List (Int × Int × Int)) × (List Int) × (List Int) × Int × Bool) := (impl_IsVisit.f k a0_0 a0_1 a0_2 a0_3 a0_4).bind fun t7 => (if (!t7) = true then some (0, [], [], [], 0, false) else (impl_done.f k a0_0 a0_1 a0_2 a0_3 a0_4 a1_0 a1_1 a1_2 a1_3).bind fun (t12_1, t12_2, t12_3, t12_4, t12_5, t12_6) => some (t12_1, t12_2, t12_3, t12_4, t12_5, t12_6))

theorem impl_DoDeed.ok {k : Nat}  {a0_0 : Int} {a0_1 : List (Int × Int × Int)} {a0_2 : List Int} {a0_3 : List Int} {a0_4 : Int} {a1_0 : Int} {a1_1 : Int} {a1_2 : Int} {a1_3 : Int} {r0 : Int} {r1 : List (Int × Int × Int)} {r2 : List Int} {r3 : List Int} {r4 : Int} {r5 : Bool} (h : impl_DoDeed.f k a0_0 a0_1 a0_2 a0_3 a0_4 a1_0 a1_1 a1_2 a1_3 = some (r0, r1, r2, r3, r4, r5)) (w : World) {va0_1 : Value} {va0_2 : Value} {va0_3 : Value} (hr_a0_1 : Rd w va0_1 a0_1) (hr_a0_2 : Rd w va0_2 a0_2) (hr_a0_3 : Rd w va0_3 a0_3) :
  Calls Tryz.prog 33 ([.agg ([.int .i64 a0_0, va0_1, va0_2, va0_3, .int .i64 a0_4].toArray), .agg ([.int .i64 a1_0, .int .i64 a1_1, .int .i64 a1_2, .int .i64 a1_3].toArray)] : List Value).toArray w (Post (fun u ns => ∃ (ur1 : Value) (Sr1 : Nat → Prop) (ur2 : Value) (Sr2 : Nat → Prop) (ur3 : Value) (Sr3 : Nat → Prop), u = .tuple #[.agg [.int .i64 r0, ur1, ur2, ur3, .int .i64 r4].toArray, .bool r5] ∧ SlLen ur1 r1.length ∧ SlLen ur2 r2.length ∧ SlLen ur3 r3.length ∧ ns = [R.sl Sr1 ur1 r1, R.sl Sr2 ur2 r2, R.sl Sr3 ur3 r3]) w) := by
 unfold impl_DoDeed.f at h
 have hl_va0_1 := hr_a0_1.len
 have hl_va0_2 := hr_a0_2.len
 have hl_va0_3 := hr_a0_3.len
 refine Calls.of_tri (N := 15) Tryz.func33 rfl rfl rfl (Sep.nil (M := noM)) ?_
 refine Tri.seq (Tri.reg (l := [0, 1, 2, 3]) rfl ?_)
 refine F.mn rfl (m_boxG rfl rfl) ?_
 rintro _ _ ⟨b2_1, rfl, rfl⟩
 refine F.mn rfl (m_boxG rfl rfl) ?_
 rintro _ _ ⟨b3_1, rfl, rfl⟩
 refine F.mn rfl (m_alloc ti44) ?_
 rintro _ _ ⟨b4_1, rfl, rfl⟩
 refine F.qn rfl (r_assign rfl) (F.nil (Nrm.seq (Tri.seq (Tri.seq ?_))))
 obtain ⟨t7, h7, h⟩ := bind_some h
 refine Tri.reg (l := [0, 1, 2]) rfl ?_
 refine F.qn rfl (r_loadA ta44 ti44 rfl rfl (fun w hw => (box_cells (i := 2) rfl w hw))) ?_
 refine F.qcn rfl (q_callF (xs := _) rfl ok43 rfl rfl (fun w hw => impl_IsVisit.ok h7 w ((fun _ hw => hr_a0_1.sep hw) w hw) ((fun _ hw => hr_a0_2.sep hw) w hw) ((fun _ hw => hr_a0_3.sep hw) w hw))) ?_
 refine F.qn rfl (r_not rfl) (F.nil (Nrm.seq (Tri.cond (b := !t7) rfl (fun g_1 => ?_) (fun g_1 => ?_))))
 ·replace h := if_tt g_1 h
  refine Tri.seq (Tri.reg (l := [0, 1, 2]) rfl ?_)
  refine F.qn rfl (r_build (pl := [(0, 3), (3, 1), (4, 1)]) (qs := []) (cs := [.int .i64 0, .slice none 0 0, .slice none 0 0, .slice none 0 0, .int .i64 0]) (by kernel_rfl) ti44 rfl .nil rfl rfl) ?_
  refine F.ef0 rfl rfl (wanted_none rfl) (d_storeG0 (i := 0) (cs2 := [.int .i64 0, .slice none 0 0, .slice none 0 0, .slice none 0 0, .int .i64 0]) ti44 rfl rfl rfl rfl rfl (Nat.le_of_ble_eq_true rfl) (lf_cons rfl (lf_cons rfl (lf_cons rfl (lf_cons rfl (lf_cons rfl lf_nil)))))) ?_
  rintro _ _ ⟨rfl, rfl⟩
  refine F.qn rfl (r_assign rfl) (F.nil (Nrm.seq (Tri.ret ?_)))
  refine Rtn.then ?_
  cases h
  exact Rtn.body (.cell rfl ta44 ti44 rfl (fun _ hw => box_cells (i := 0) rfl _ hw) (.tmp rfl .nil)) (fun w hw => ⟨_, _, rfl, ⟨.slice none 0 0, fun _ => False, .slice none 0 0, fun _ => False, .slice none 0 0, fun _ => False, rfl, len_nil, len_nil, len_nil, rfl⟩, Sep.pick (is := [0, 1, 2]) rfl rfl hw.pushNil.pushNil.pushNil⟩)
 ·replace h := if_ff g_1 h
  refine Tri.skip (Nrm.seq (Tri.seq ?_))
  obtain ⟨⟨t12_1, t12_2, t12_3, t12_4, t12_5, t12_6⟩, h12, h⟩ := bind_some h
  refine Tri.reg (l := [0, 1, 2, 3, 4, 5, 6]) rfl ?_
  refine F.qn rfl (r_loadA ta44 ti44 rfl rfl (fun w hw => (box_cells (i := 2) rfl w hw))) (F.qn rfl (r_loadA ta48 ti48 rfl rfl (fun w hw => (box_cells (i := 1) rfl w hw))) ?_)
  refine F.mn rfl (m_callF (xs := _) rfl ok112 rfl rfl (fun w hw => impl_done.ok h12 w ((fun _ hw => hr_a0_1.sep hw) w hw) ((fun _ hw => hr_a0_2.sep hw) w hw) ((fun _ hw => hr_a0_3.sep hw) w hw))) ?_
  rintro _ _ ⟨_, ⟨v12_1, S12_1, v12_2, S12_2, v12_3, S12_3, rfl, hl_v12_1, hl_v12_2, hl_v12_3, rfl⟩, rfl⟩
  refine F.qn rfl (r_extract rfl rfl) (F.qn rfl (r_extract rfl rfl) ?_)
  refine F.ef0 rfl rfl (wanted_none rfl) (d_storeG0 (i := 3) (cs2 := [.int .i64 t12_1, v12_1, v12_2, v12_3, .int .i64 t12_5]) ti44 rfl rfl rfl rfl rfl (Nat.le_of_ble_eq_true rfl) (lf_cons rfl (lf_cons (sl_leaf hl_v12_1) (lf_cons (sl_leaf hl_v12_2) (lf_cons (sl_leaf hl_v12_3) (lf_cons rfl lf_nil)))))) ?_
  rintro _ _ ⟨rfl, rfl⟩
  refine F.qn rfl (r_assign rfl) (F.nil (Nrm.seq (Tri.ret ?_)))
  cases h
  exact Rtn.body (.cell rfl ta44 ti44 rfl (fun _ hw => box_cells (i := 3) rfl _ hw) (.tmp rfl .nil)) (fun w hw => ⟨_, _, rfl, ⟨v12_1, S12_1, v12_2, S12_2, v12_3, S12_3, rfl, hl_v12_1, hl_v12_2, hl_v12_3, rfl⟩, Sep.pick (is := [0, 1, 2]) rfl rfl hw⟩)


def spec_DoDeed.f (k : Nat) (a0_0 : Int) (a0_1 : List (Int × Int × Int)) (a0_2 : List Int) (a0_3 : List Int) (a0_4 : Int) (a1_0 : Int) (a1_1 : Int) (a1_2 : Int) (a1_3 : Int) : Option (Int × (List (Int × Int × Int)) × (List Int) × (List Int) × Int × Bool) := (spec_l12Good.f k a0_0 a0_1 a0_2 a0_3 a0_4).bind fun t7 => (if (!t7) = true then some (0, [], [], [], 0, false) else (spec_l12Do.f k a0_0 a0_1 a0_2 a0_3 a0_4 a1_0 a1_1 a1_2 a1_3).bind fun (t12_1, t12_2, t12_3, t12_4, t12_5, t12_6) => some (t12_1, t12_2, t12_3, t12_4, t12_5, t12_6))

theorem spec_DoDeed.ok {k : Nat}  {a0_0 : Int} {a0_1 : List (Int × Int × Int)} {a0_2 : List Int} {a0_3 : List Int} {a0_4 : Int} {a1_0 : Int} {a1_1 : Int} {a1_2 : Int} {a1_3 : Int} {r0 : Int} {r1 : List (Int × Int × Int)} {r2 : List Int} {r3 : List Int} {r4 : Int} {r5 : Bool} (h : spec_DoDeed.f k a0_0 a0_1 a0_2 a0_3 a0_4 a1_0 a1_1 a1_2 a1_3 = some (r0, r1, r2, r3, r4, r5)) (w : World) {va0_1 : Value} {va0_2 : Value} {va0_3 : Value} (hr_a0_1 : Rd w va0_1 a0_1) (hr_a0_2 : Rd w va0_2 a0_2) (hr_a0_3 : Rd w va0_3 a0_3) :
  Calls Tryz.prog 34 ([.agg ([.int .i64 a0_0, va0_1, va0_2, va0_3, .int .i64 a0_4].toArray), .agg ([.int .i64 a1_0, .int .i64 a1_1, .int .i64 a1_2, .int .i64 a1_3].toArray)] : List Value).toArray w (Post (fun u ns => ∃ (ur1 : Value) (Sr1 : Nat → Prop) (ur2 : Value) (Sr2 : Nat → Prop) (ur3 : Value) (Sr3 : Nat → Prop), u = .tuple #[.agg [.int .i64 r0, ur1, ur2, ur3, .int .i64 r4].toArray, .bool r5] ∧ SlLen ur1 r1.length ∧ SlLen ur2 r2.length ∧ SlLen ur3 r3.length ∧ ns = [R.sl Sr1 ur1 r1, R.sl Sr2 ur2 r2, R.sl Sr3 ur3 r3]) w) := by
 unfold spec_DoDeed.f at h
 have hl_va0_1 := hr_a0_1.len
 have hl_va0_2 := hr_a0_2.len
 have hl_va0_3 := hr_a0_3.len
 refine Calls.of_tri (N := 15) Tryz.func34 rfl rfl rfl (Sep.nil (M := noM)) ?_
 refine Tri.seq (Tri.reg (l := [0, 1, 2, 3]) rfl ?_)
 refine F.mn rfl (m_boxG rfl rfl) ?_
 rintro _ _ ⟨b2_1, rfl, rfl⟩
 refine F.mn rfl (m_boxG rfl rfl) ?_
 rintro _ _ ⟨b3_1, rfl, rfl⟩
 refine F.mn rfl (m_alloc ti44) ?_
 rintro _ _ ⟨b4_1, rfl, rfl⟩
 refine F.qn rfl (r_assign rfl) (F.nil (Nrm.seq (Tri.seq (Tri.seq ?_))))
 obtain ⟨t7, h7, h⟩ := bind_some h
 refine Tri.reg (l := [0, 1, 2]) rfl ?_
 refine F.qn rfl (r_loadA ta44 ti44 rfl rfl (fun w hw => (box_cells (i := 2) rfl w hw))) ?_
 refine F.qcn rfl (q_callF (xs := _) rfl ok113 rfl rfl (fun w hw => spec_l12Good.ok h7 w ((fun _ hw => hr_a0_1.sep hw) w hw) ((fun _ hw => hr_a0_2.sep hw) w hw) ((fun _ hw => hr_a0_3.sep hw) w hw))) ?_
 refine F.qn rfl (r_not rfl) (F.nil (Nrm.seq (Tri.cond (b := !t7) rfl (fun g_1 => ?_) (fun g_1 => ?_))))
 ·replace h := if_tt g_1 h
  refine Tri.seq (Tri.reg (l := [0, 1, 2]) rfl ?_)
  refine F.qn rfl (r_build (pl := [(0, 3), (3, 1), (4, 1)]) (qs := []) (cs := [.int .i64 0, .slice none 0 0, .slice none 0 0, .slice none 0 0, .int .i64 0]) (by kernel_rfl) ti44 rfl .nil rfl rfl) ?_
  refine F.ef0 rfl rfl (wanted_none rfl) (d_storeG0 (i := 0) (cs2 := [.int .i64 0, .slice none 0 0, .slice none 0 0, .slice none 0 0, .int .i64 0]) ti44 rfl rfl rfl rfl rfl (Nat.le_of_ble_eq_true rfl) (lf_cons rfl (lf_cons rfl (lf_cons rfl (lf_cons rfl (lf_cons rfl lf_nil)))))) ?_
  rintro _ _ ⟨rfl, rfl⟩
  refine F.qn rfl (r_assign rfl) (F.nil (Nrm.seq (Tri.ret ?_)))
  refine Rtn.then ?_
  cases h
  exact Rtn.body (.cell rfl ta44 ti44 rfl (fun _ hw => box_cells (i := 0) rfl _ hw) (.tmp rfl .nil)) (fun w hw => ⟨_, _, rfl, ⟨.slice none 0 0, fun _ => False, .slice none 0 0, fun _ => False, .slice none 0 0, fun _ => False, rfl, len_nil, len_nil, len_nil, rfl⟩, Sep.pick (is := [0, 1, 2]) rfl rfl hw.pushNil.pushNil.pushNil⟩)
 ·replace h := if_ff g_1 h
  refine Tri.skip (Nrm.seq (Tri.seq ?_))
  obtain ⟨⟨t12_1, t12_2, t12_3, t12_4, t12_5, t12_6⟩, h12, h⟩ := bind_some h
  refine Tri.reg (l := [0, 1, 2, 3, 4, 5, 6]) rfl ?_
  refine F.qn rfl (r_loadA ta44 ti44 rfl rfl (fun w hw => (box_cells (i := 2) rfl w hw))) (F.qn rfl (r_loadA ta48 ti48 rfl rfl (fun w hw => (box_cells (i := 1) rfl w hw))) ?_)
  refine F.mn rfl (m_callF (xs := _) rfl ok114 rfl rfl (fun w hw => spec_l12Do.ok h12 w ((fun _ hw => hr_a0_1.sep hw) w hw) ((fun _ hw => hr_a0_2.sep hw) w hw) ((fun _ hw => hr_a0_3.sep hw) w hw))) ?_
  rintro _ _ ⟨_, ⟨v12_1, S12_1, v12_2, S12_2, v12_3, S12_3, rfl, hl_v12_1, hl_v12_2, hl_v12_3, rfl⟩, rfl⟩
  refine F.qn rfl (r_extract rfl rfl) (F.qn rfl (r_extract rfl rfl) ?_)
  refine F.ef0 rfl rfl (wanted_none rfl) (d_storeG0 (i := 3) (cs2 := [.int .i64 t12_1, v12_1, v12_2, v12_3, .int .i64 t12_5]) ti44 rfl rfl rfl rfl rfl (Nat.le_of_ble_eq_true rfl) (lf_cons rfl (lf_cons (sl_leaf hl_v12_1) (lf_cons (sl_leaf hl_v12_2) (lf_cons (sl_leaf hl_v12_3) (lf_cons rfl lf_nil)))))) ?_
  rintro _ _ ⟨rfl, rfl⟩
  refine F.qn rfl (r_assign rfl) (F.nil (Nrm.seq (Tri.ret ?_)))
  cases h
  exact Rtn.body (.cell rfl ta44 ti44 rfl (fun _ hw => box_cells (i := 3) rfl _ hw) (.tmp rfl .nil)) (fun w hw => ⟨_, _, rfl, ⟨v12_1, S12_1, v12_2, S12_2, v12_3, S12_3, rfl, hl_v12_1, hl_v12_2, hl_v12_3, rfl⟩, Sep.pick (is := [0, 1, 2]) rfl rfl hw⟩)


def spec_DrawDoDeeds.l0 (k : Nat) (a0 : List By) : Nat → (List (Int × Int × Int × Int)) → Int → Int → Int → Int → (List (Int × Int × Int)) → (List (Int)) → (List (Int)) → Int → Option (List (Int × Int × Int × Int))
 | 0, _, _, _, _, _, _, _, _, _ => none
 | n + 1, x6, x8, xb14_1_1, xb14_1_2, xb7_1_0, xq7_1_1, xq7_1_2, xq7_1_3, xb7_1_4 => ((if (decide (x8 > 0)) = true then (spec_l12Good.f k xb7_1_0 xq7_1_1 xq7_1_2 xq7_1_3 xb7_1_4).bind fun t25 => some t25 else some false)).bind fun y26 => (if y26 = true then (spec_l1Cur_deed12.f k a0 xb14_1_1 xb14_1_2 xb7_1_0 xq7_1_1 xq7_1_2 xq7_1_3 xb7_1_4).bind fun (t31_1, t31_2, t31_3, t31_4, t31_5, t31_6) => if (x6 ++ ([(t31_1, t31_2, t31_3, t31_4)] : List (Int × Int × Int × Int))).length < 1099511627776 then (spec_l12Do.f k xb7_1_0 xq7_1_1 xq7_1_2 xq7_1_3 xb7_1_4 t31_1 t31_2 t31_3 t31_4).bind fun (t39_1, t39_2, t39_3, t39_4, t39_5, t39_6) => ((if t39_6 = true then some (t39_1, t39_2, t39_3, t39_4, t39_5) else some (xb7_1_0, xq7_1_1, xq7_1_2, xq7_1_3, xb7_1_4))).bind fun (yb7_1_0, yb7_1_1, yb7_1_2, yb7_1_3, yb7_1_4) => spec_DrawDoDeeds.l0 k a0 n (x6 ++ ([(t31_1, t31_2, t31_3, t31_4)] : List (Int × Int × Int × Int))) (w64 (x8 - 1)) t31_5 t31_6 yb7_1_0 yb7_1_1 yb7_1_2 yb7_1_3 yb7_1_4 else none else some x6)

def spec_DrawDoDeeds.f (k : Nat) (a0 : List By) : Option (Int × (List (Int × Int × Int)) × (List Int) × (List Int) × Int × (List (Int × Int × Int × Int))) := (spec_l1Cur_visit.f k a0 0 0).bind fun (t16_1, t16_2, t16_3, t16_4, t16_5, t16_6, t16_7) => (spec_l1Cur_pick.f k a0 t16_6 t16_7 6).bind fun (t20_1, t20_2, t20_3) => (spec_DrawDoDeeds.l0 k a0 k ([] : List (Int × Int × Int × Int)) t20_1 t20_2 t20_3 t16_1 t16_2 t16_3 t16_4 t16_5).bind fun x6 => some (t16_1, t16_2, t16_3, t16_4, t16_5, x6)

theorem spec_DrawDoDeeds.ok {k : Nat}  {a0 : List By} {r0 : Int} {r1 : List (Int × Int × Int)} {r2 : List Int} {r3 : List Int} {r4 : Int} {r5 : List (Int × Int × Int × Int)} (h : spec_DrawDoDeeds.f k a0 = some (r0, r1, r2, r3, r4, r5)) (w : World) {va0 : Value} (hr_a0 : Rd w va0 a0) :
  Calls Tryz.prog 35 ([va0] : List Value).toArray w (Post (fun u ns => ∃ (ur1 : Value) (Sr1 : Nat → Prop) (ur2 : Value) (Sr2 : Nat → Prop) (ur3 : Value) (Sr3 : Nat → Prop) (ur5 : Value) (Sr5 : Nat → Prop), u = .tuple #[.agg [.int .i64 r0, ur1, ur2, ur3, .int .i64 r4].toArray, ur5] ∧ SlLen ur1 r1.length ∧ SlLen ur2 r2.length ∧ SlLen ur3 r3.length ∧ SlLen ur5 r5.length ∧ ns = [R.sl Sr1 ur1 r1, R.sl Sr2 ur2 r2, R.sl Sr3 ur3 r3, R.sl Sr5 ur5 r5]) w) := by
 unfold spec_DrawDoDeeds.f at h
 have hl_va0 := hr_a0.len
 refine Calls.of_tri (N := 46) Tryz.func35 rfl rfl rfl (Sep.nil (M := noM)) ?_
 refine Tri.seq (Tri.reg (l := [0, 1]) rfl ?_)
 refine F.mn rfl (m_alloc ti44) ?_
 rintro _ _ ⟨b2_1, rfl, rfl⟩
 refine F.qn rfl (r_assign rfl) (F.nil (Nrm.seq (Tri.seq (Tri.reg (l := [0, 1, 2, 3]) rfl ?_))))
 refine F.qn rfl (r_move rfl) (F.qn rfl (r_build (pl := [(0, 1), (1, 1), (2, 1)]) (qs := [(0, [va0])]) (cs := [va0, .int .i64 0, .int .u64 0]) (by kernel_rfl) ti114 rfl (.cons (sl_cells hl_va0) rfl (Nat.le_of_ble_eq_true rfl) .nil) rfl rfl) ?_)
 refine F.mn rfl (m_boxG rfl rfl) ?_
 rintro _ _ ⟨b14_1, rfl, rfl⟩
 refine F.qn rfl (r_assign rfl) (F.nil (Nrm.seq (Tri.seq ?_)))
 obtain ⟨⟨t16_1, t16_2, t16_3, t16_4, t16_5, t16_6, t16_7⟩, h16, h⟩ := bind_some h
 refine Tri.reg (l := [0, 1, 2, 3]) rfl ?_
 refine F.qn rfl (r_move rfl) ?_
 refine F.efn rfl (d_callM (xs := _) (cs := [R.box b14_1 114 [va0, .int .i64 0, .int .u64 0]]) (rest := [R.box b2_1 44 [.int .i64 0, .slice none 0 0, .slice none 0 0, .slice none 0 0, .int .i64 0]]) [0] [1] rfl ok110 rfl rfl rfl rfl (fun w hw => spec_l1Cur_visit.ok h16 w (hr_a0.down hw) (Sep.sub hw))) ?_
 rintro _ _ ⟨_, ⟨v16_1, S16_1, v16_2, S16_2, v16_3, S16_3, rfl, hl_v16_1, hl_v16_2, hl_v16_3, rfl⟩, rfl⟩
 refine F.mn rfl (m_alloc ti44) ?_
 rintro _ _ ⟨b5_1, rfl, rfl⟩
 refine F.ef0 rfl rfl (wanted_none rfl) (d_storeG0 (i := 0) (cs2 := [.int .i64 t16_1, v16_1, v16_2, v16_3, .int .i64 t16_5]) ti44 rfl rfl rfl rfl rfl (Nat.le_of_ble_eq_true rfl) (lf_cons rfl (lf_cons (sl_leaf hl_v16_1) (lf_cons (sl_leaf hl_v16_2) (lf_cons (sl_leaf hl_v16_3) (lf_cons rfl lf_nil)))))) ?_
 rintro _ _ ⟨rfl, rfl⟩
 refine F.nil (Nrm.seq (Tri.seq (Tri.reg (l := [0, 1]) rfl ?_)))
 refine F.mn rfl (m_build0 (α := Int × Int × Int × Int) Tryz.underlying53 ti48) ?_
 rintro v17_1 _ ⟨S17_1, hl_v17_1, rfl⟩
 refine F.qn rfl (r_assign rfl) (F.nil (Nrm.seq (Tri.seq (Tri.reg (l := [0, 1, 2]) rfl ?_))))
 refine F.qn rfl (r_loadA ta44 ti44 rfl rfl (fun w hw => (box_cells (i := 1) rfl w hw))) ?_
 refine F.mn rfl (m_alloc ti44) ?_
 rintro _ _ ⟨b7_1, rfl, rfl⟩
 refine F.ef0 rfl rfl (wanted_none rfl) (d_storeG0 (i := 0) (cs2 := [.int .i64 t16_1, v16_1, v16_2, v16_3, .int .i64 t16_5]) ti44 rfl rfl rfl rfl rfl (Nat.le_of_ble_eq_true rfl) (lf_cons rfl (lf_cons (sl_leaf hl_v16_1) (lf_cons (sl_leaf hl_v16_2) (lf_cons (sl_leaf hl_v16_3) (lf_cons rfl lf_nil)))))) ?_
 rintro _ _ ⟨rfl, rfl⟩
 refine F.nil (Nrm.seq (Tri.seq (Tri.seq ?_)))
 obtain ⟨⟨t20_1, t20_2, t20_3⟩, h20, h⟩ := bind_some h
 refine Tri.reg (l := [0, 1, 2]) rfl ?_
 refine F.qn rfl (r_move rfl) ?_
 refine F.efn rfl (d_callM (xs := _) (cs := [R.box b14_1 114 [va0, .int .i64 t16_6, .int .u64 t16_7]]) (rest := [R.box b7_1 44 [.int .i64 t16_1, v16_1, v16_2, v16_3, .int .i64 t16_5], R.sl S17_1 v17_1 (([] : List (Int × Int × Int × Int)) : List (Int × Int × Int × Int)), R.box b5_1 44 [.int .i64 t16_1, v16_1, v16_2, v16_3, .int .i64 t16_5], R.sl S16_1 v16_1 (t16_2 : List (Int × Int × Int)), R.sl S16_2 v16_2 (t16_3 : List (Int)), R.sl S16_3 v16_3 (t16_4 : List (Int)), R.box b2_1 44 [.int .i64 0, .slice none 0 0, .slice none 0 0, .slice none 0 0, .int .i64 0]]) [6] [0, 1, 2, 3, 4, 5, 7] rfl ok115 rfl rfl rfl rfl (fun w hw => spec_l1Cur_pick.ok h20 w (hr_a0.down hw) (Sep.sub hw))) ?_
 rintro _ _ ⟨_, ⟨rfl, rfl⟩, rfl⟩
 refine F.qn rfl (r_assign rfl) (F.nil (Nrm.seq ?_))
 obtain ⟨x6, hE_1, h⟩ := bind_some h
 refine Tri.block ?_
 refine Tri.only [2, 4, 5, 6, 7, 8] rfl ?_
 refine Tri.pick [0, 1, 3, 7, 2, 4, 5, 6] rfl rfl ?_
 refine Tri.rounds (fun n e' C' => (∃ (x6' : List (Int × Int × Int × Int)) (x8' : Int) (xb14_1_1' : Int) (xb14_1_2' : Int) (xb7_1_0' : Int) (xb7_1_4' : Int) (w6 : Value) (T6 : Nat → Prop), spec_DrawDoDeeds.l0 k a0 n x6' x8' xb14_1_1' xb14_1_2' xb7_1_0' t16_2 t16_3 t16_4 xb7_1_4' = some x6 ∧ SlLen w6 (x6').length ∧ e' = [(2, .pointer (some ⟨b2_1, 0, none⟩)), (4, .pointer (some ⟨b14_1, 0, none⟩)), (5, .pointer (some ⟨b5_1, 0, none⟩)), (6, w6), (7, .pointer (some ⟨b7_1, 0, none⟩)), (8, .int .i64 x8')] ∧ C' = Sep w noM [R.box b14_1 114 [va0, .int .i64 xb14_1_1', .int .u64 xb14_1_2'], R.box b7_1 44 [.int .i64 xb7_1_0', v16_1, v16_2, v16_3, .int .i64 xb7_1_4'], R.box b5_1 44 [.int .i64 t16_1, v16_1, v16_2, v16_3, .int .i64 t16_5], R.box b2_1 44 [.int .i64 0, .slice none 0 0, .slice none 0 0, .slice none 0 0, .int .i64 0], R.sl T6 w6 (x6' : List (Int × Int × Int × Int)), R.sl S16_1 v16_1 (t16_2 : List (Int × Int × Int)), R.sl S16_2 v16_2 (t16_3 : List (Int)), R.sl S16_3 v16_3 (t16_4 : List (Int))]) ∨ (∃ (x6' : List (Int × Int × Int × Int)) (x8' : Int) (xb14_1_1' : Int) (xb14_1_2' : Int) (xb7_1_0' : Int) (xq7_1_1' : List (Int × Int × Int)) (xq7_1_2' : List (Int)) (xq7_1_3' : List (Int)) (xb7_1_4' : Int) (w6 : Value) (T6 : Nat → Prop) (wq7_1_1 : Value) (Tq7_1_1 : Nat → Prop) (wq7_1_2 : Value) (Tq7_1_2 : Nat → Prop) (wq7_1_3 : Value) (Tq7_1_3 : Nat → Prop), spec_DrawDoDeeds.l0 k a0 n x6' x8' xb14_1_1' xb14_1_2' xb7_1_0' xq7_1_1' xq7_1_2' xq7_1_3' xb7_1_4' = some x6 ∧ SlLen w6 (x6').length ∧ SlLen wq7_1_1 (xq7_1_1').length ∧ SlLen wq7_1_2 (xq7_1_2').length ∧ SlLen wq7_1_3 (xq7_1_3').length ∧ e' = [(2, .pointer (some ⟨b2_1, 0, none⟩)), (4, .pointer (some ⟨b14_1, 0, none⟩)), (5, .pointer (some ⟨b5_1, 0, none⟩)), (6, w6), (7, .pointer (some ⟨b7_1, 0, none⟩)), (8, .int .i64 x8')] ∧ C' = Sep w noM [R.box b14_1 114 [va0, .int .i64 xb14_1_1', .int .u64 xb14_1_2'], R.box b7_1 44 [.int .i64 xb7_1_0', wq7_1_1, wq7_1_2, wq7_1_3, .int .i64 xb7_1_4'], R.box b5_1 44 [.int .i64 t16_1, v16_1, v16_2, v16_3, .int .i64 t16_5], R.box b2_1 44 [.int .i64 0, .slice none 0 0, .slice none 0 0, .slice none 0 0, .int .i64 0], R.sl T6 w6 (x6' : List (Int × Int × Int × Int)), R.sl Tq7_1_1 wq7_1_1 (xq7_1_1' : List (Int × Int × Int)), R.sl Tq7_1_2 wq7_1_2 (xq7_1_2' : List (Int)), R.sl Tq7_1_3 wq7_1_3 (xq7_1_3' : List (Int)), R.sl S16_1 v16_1 (t16_2 : List (Int × Int × Int)), R.sl S16_2 v16_2 (t16_3 : List (Int)), R.sl S16_3 v16_3 (t16_4 : List (Int))])) k ?_ ?_ ?_
 ·exact .inl ⟨([] : List (Int × Int × Int × Int)), t20_1, t20_2, t20_3, t16_1, t16_5, v17_1, S17_1, hE_1, hl_v17_1, rfl, rfl⟩
 ·rintro _ _ (⟨_, _, _, _, _, _, _, _, hE_1, _⟩ | ⟨_, _, _, _, _, _, _, _, _, _, _, _, _, _, _, _, _, hE_1, _⟩) <;> (rw [spec_DrawDoDeeds.l0.eq_1] at hE_1; cases hE_1)
 ·rintro n_1 _ _ (⟨x6, x8, xb14_1_1, xb14_1_2, xb7_1_0, xb7_1_4, w6, T6, hE_1, hl_w6, rfl, rfl⟩ | ⟨x6, x8, xb14_1_1, xb14_1_2, xb7_1_0, xq7_1_1, xq7_1_2, xq7_1_3, xb7_1_4, w6, T6, wq7_1_1, Tq7_1_1, wq7_1_2, Tq7_1_2, wq7_1_3, Tq7_1_3, hE_1, hl_w6, hl_wq7_1_1, hl_wq7_1_2, hl_wq7_1_3, rfl, rfl⟩) ih_1
  ·rw [spec_DrawDoDeeds.l0.eq_2] at hE_1
   refine Tri.seq (Tri.seq ?_)
   obtain ⟨y26, hE_2, hE_1⟩ := bind_some hE_1
   refine Tri.cut (fun e' C' => e' = [(2, .pointer (some ⟨b2_1, 0, none⟩)), (4, .pointer (some ⟨b14_1, 0, none⟩)), (5, .pointer (some ⟨b5_1, 0, none⟩)), (6, w6), (7, .pointer (some ⟨b7_1, 0, none⟩)), (8, .int .i64 x8), (26, .bool y26)] ∧ C' = Sep w noM [R.box b14_1 114 [va0, .int .i64 xb14_1_1, .int .u64 xb14_1_2], R.box b7_1 44 [.int .i64 xb7_1_0, v16_1, v16_2, v16_3, .int .i64 xb7_1_4], R.box b5_1 44 [.int .i64 t16_1, v16_1, v16_2, v16_3, .int .i64 t16_5], R.box b2_1 44 [.int .i64 0, .slice none 0 0, .slice none 0 0, .slice none 0 0, .int .i64 0], R.sl T6 w6 (x6 : List (Int × Int × Int × Int)), R.sl S16_1 v16_1 (t16_2 : List (Int × Int × Int)), R.sl S16_2 v16_2 (t16_3 : List (Int)), R.sl S16_3 v16_3 (t16_4 : List (Int))]) ?_ (fun hj_1 => ?_)
   ·rintro _ _ ⟨rfl, rfl⟩
    refine Nrm.seq (Tri.cond (b := y26) rfl (fun g_1 => ?_) (fun g_1 => ?_))
    ·replace hE_1 := if_tt g_1 hE_1
     refine Tri.skip (Nrm.seq (Tri.seq (Tri.block ?_)))
     refine Tri.seq ?_
     obtain ⟨⟨t31_1, t31_2, t31_3, t31_4, t31_5, t31_6⟩, h31, hE_1⟩ := bind_some hE_1
     refine Tri.reg (l := [0, 1, 2, 3, 4]) rfl ?_
     refine F.qn rfl (r_move rfl) (F.qn rfl (r_loadA ta44 ti44 rfl rfl (fun w hw => (box_cells (i := 1) rfl w hw))) ?_)
     refine F.efn rfl (d_callM (xs := _) (cs := [R.box b14_1 114 [va0, .int .i64 xb14_1_1, .int .u64 xb14_1_2]]) (rest := [R.box b7_1 44 [.int .i64 xb7_1_0, v16_1, v16_2, v16_3, .int .i64 xb7_1_4], R.box b5_1 44 [.int .i64 t16_1, v16_1, v16_2, v16_3, .int .i64 t16_5], R.box b2_1 44 [.int .i64 0, .slice none 0 0, .slice none 0 0, .slice none 0 0, .int .i64 0], R.sl T6 w6 (x6 : List (Int × Int × Int × Int)), R.sl S16_1 v16_1 (t16_2 : List (Int × Int × Int)), R.sl S16_2 v16_2 (t16_3 : List (Int)), R.sl S16_3 v16_3 (t16_4 : List (Int))]) [0] [1, 2, 3, 4, 5, 6, 7] rfl ok111 rfl rfl rfl rfl (fun w hw => spec_l1Cur_deed12.ok h31 w (hr_a0.down hw) (rdm_sl (i := 4) rfl hw) (rdm_sl (i := 5) rfl hw) (rdm_sl (i := 6) rfl hw) (Sep.sub hw))) ?_
     rintro _ _ ⟨_, ⟨rfl, rfl⟩, rfl⟩
     refine F.mn rfl (m_alloc ti48) ?_
     rintro _ _ ⟨b9_1, rfl, rfl⟩
     refine F.ef0 rfl rfl (wanted_none rfl) (d_storeG0 (i := 0) (cs2 := [.int .i64 t31_1, .int .i64 t31_2, .int .i64 t31_3, .int .i64 t31_4]) ti48 rfl rfl rfl rfl rfl (Nat.le_of_ble_eq_true rfl) (lf_cons rfl (lf_cons rfl (lf_cons rfl (lf_cons rfl lf_nil))))) ?_
     rintro _ _ ⟨rfl, rfl⟩
     refine F.nil (Nrm.seq (Tri.seq ?_))
     obtain ⟨hs35, hE_1⟩ := ck hE_1
     refine Tri.reg (l := [0, 1, 2, 3, 4]) rfl ?_
     refine F.qn rfl (r_move rfl) (F.qn rfl (r_loadA ta48 ti48 rfl rfl (fun w hw => (box_cells (i := 0) rfl w hw))) ?_)
     refine F.mn rfl (m_buildF (l := ([(t31_1, t31_2, t31_3, t31_4)] : List (Int × Int × Int × Int))) Tryz.underlying53 ti48 rfl rfl rfl rfl rfl) ?_
     rintro v34_1 _ ⟨S34_1, hl_v34_1, rfl⟩
     refine F.efn rfl (d_append (i := 6) Tryz.underlying53 Tryz.underlying53 ti48 rfl (by decide) rfl rfl rfl (rd_sl (i := 0) rfl) hs35) ?_
     rintro v35_1 _ ⟨S35_1, rfl, hl_v35_1⟩
     refine F.qn rfl (r_assign rfl) (F.nil (Nrm.seq (Tri.seq ?_)))
     obtain ⟨⟨t39_1, t39_2, t39_3, t39_4, t39_5, t39_6⟩, h39, hE_1⟩ := bind_some hE_1
     refine Tri.reg (l := [0, 1, 2, 3, 4, 5, 6, 7, 8]) rfl ?_
     refine F.qn rfl (r_loadA ta44 ti44 rfl rfl (fun w hw => (box_cells (i := 3) rfl w hw))) (F.qn rfl (r_loadA ta48 ti48 rfl rfl (fun w hw => (box_cells (i := 1) rfl w hw))) ?_)
     refine F.mn rfl (m_callF (xs := _) rfl ok114 rfl rfl (fun w hw => spec_l12Do.ok h39 w ((rd_sl (i := 7) rfl) w hw) ((rd_sl (i := 8) rfl) w hw) ((rd_sl (i := 9) rfl) w hw))) ?_
     rintro _ _ ⟨_, ⟨v39_1, S39_1, v39_2, S39_2, v39_3, S39_3, rfl, hl_v39_1, hl_v39_2, hl_v39_3, rfl⟩, rfl⟩
     refine F.qn rfl (r_move rfl) (F.qn rfl (r_extract rfl rfl) (F.qn rfl (r_extract rfl rfl) ?_))
     refine F.mn rfl (m_alloc ti44) ?_
     rintro _ _ ⟨b10_1, rfl, rfl⟩
     refine F.ef0 rfl rfl (wanted_none rfl) (d_storeG0 (i := 0) (cs2 := [.int .i64 t39_1, v39_1, v39_2, v39_3, .int .i64 t39_5]) ti44 rfl rfl rfl rfl rfl (Nat.le_of_ble_eq_true rfl) (lf_cons rfl (lf_cons (sl_leaf hl_v39_1) (lf_cons (sl_leaf hl_v39_2) (lf_cons (sl_leaf hl_v39_3) (lf_cons rfl lf_nil)))))) ?_
     rintro _ _ ⟨rfl, rfl⟩
     refine F.qn rfl (r_assign rfl) (F.nil (Nrm.seq (Tri.seq (Tri.reg (l := [0]) rfl ?_))))
     refine F.qn rfl (r_move rfl) (F.nil (Nrm.seq ?_))
     obtain ⟨⟨yb7_1_0, yb7_1_1, yb7_1_2, yb7_1_3, yb7_1_4⟩, hE_3, hE_1⟩ := bind_some hE_1
     refine Tri.cut (fun e' C' => ((yb7_1_1 = t16_2 ∧ yb7_1_2 = t16_3 ∧ yb7_1_3 = t16_4) ∧ e' = [(2, .pointer (some ⟨b2_1, 0, none⟩)), (4, .pointer (some ⟨b14_1, 0, none⟩)), (5, .pointer (some ⟨b5_1, 0, none⟩)), (6, v35_1), (7, .pointer (some ⟨b7_1, 0, none⟩)), (8, .int .i64 x8)] ∧ C' = Sep w noM [R.box b14_1 114 [va0, .int .i64 t31_5, .int .u64 t31_6], R.box b7_1 44 [.int .i64 yb7_1_0, v16_1, v16_2, v16_3, .int .i64 yb7_1_4], R.box b5_1 44 [.int .i64 t16_1, v16_1, v16_2, v16_3, .int .i64 t16_5], R.box b2_1 44 [.int .i64 0, .slice none 0 0, .slice none 0 0, .slice none 0 0, .int .i64 0], R.sl S35_1 v35_1 (x6 ++ ([(t31_1, t31_2, t31_3, t31_4)] : List (Int × Int × Int × Int)) : List (Int × Int × Int × Int)), R.sl S16_1 v16_1 (t16_2 : List (Int × Int × Int)), R.sl S16_2 v16_2 (t16_3 : List (Int)), R.sl S16_3 v16_3 (t16_4 : List (Int))]) ∨ (∃ (vb7_1_1_1 : Value) (Sb7_1_1_1 : Nat → Prop) (vb7_1_2_1 : Value) (Sb7_1_2_1 : Nat → Prop) (vb7_1_3_1 : Value) (Sb7_1_3_1 : Nat → Prop), SlLen vb7_1_1_1 (yb7_1_1).length ∧ SlLen vb7_1_2_1 (yb7_1_2).length ∧ SlLen vb7_1_3_1 (yb7_1_3).length ∧ e' = [(2, .pointer (some ⟨b2_1, 0, none⟩)), (4, .pointer (some ⟨b14_1, 0, none⟩)), (5, .pointer (some ⟨b5_1, 0, none⟩)), (6, v35_1), (7, .pointer (some ⟨b7_1, 0, none⟩)), (8, .int .i64 x8)] ∧ C' = Sep w noM [R.box b14_1 114 [va0, .int .i64 t31_5, .int .u64 t31_6], R.box b7_1 44 [.int .i64 yb7_1_0, vb7_1_1_1, vb7_1_2_1, vb7_1_3_1, .int .i64 yb7_1_4], R.box b5_1 44 [.int .i64 t16_1, v16_1, v16_2, v16_3, .int .i64 t16_5], R.box b2_1 44 [.int .i64 0, .slice none 0 0, .slice none 0 0, .slice none 0 0, .int .i64 0], R.sl Sb7_1_1_1 vb7_1_1_1 (yb7_1_1 : List (Int × Int × Int)), R.sl Sb7_1_2_1 vb7_1_2_1 (yb7_1_2 : List (Int)), R.sl Sb7_1_3_1 vb7_1_3_1 (yb7_1_3 : List (Int)), R.sl S35_1 v35_1 (x6 ++ ([(t31_1, t31_2, t31_3, t31_4)] : List (Int × Int × Int × Int)) : List (Int × Int × Int × Int)), R.sl S16_1 v16_1 (t16_2 : List (Int × Int × Int)), R.sl S16_2 v16_2 (t16_3 : List (Int)), R.sl S16_3 v16_3 (t16_4 : List (Int))])) ?_ (fun hj_2 => ?_)
     ·rintro _ _ (⟨⟨e1, e2, e3⟩, rfl, rfl⟩ | ⟨vb7_1_1_1, Sb7_1_1_1, vb7_1_2_1, Sb7_1_2_1, vb7_1_3_1, Sb7_1_3_1, hl_vb7_1_1_1, hl_vb7_1_2_1, hl_vb7_1_3_1, rfl, rfl⟩)
      ·rw [e1, e2, e3] at hE_1
       refine Nrm.block ?_
       refine Nrm.seq (Tri.reg (l := [0, 1, 2]) rfl ?_)
       refine F.qn rfl (r_move rfl) (F.qn rfl (r_sub rfl rfl) (F.qn rfl (r_assign rfl) (F.nil (Nrm.round ?_))))
       refine Rnd.only [2, 4, 5, 6, 7, 8] rfl ?_
       refine Rnd.pick [0, 1, 2, 3, 4, 5, 6, 7] rfl rfl ?_
       exact ih_1 _ _ (.inl ⟨x6 ++ ([(t31_1, t31_2, t31_3, t31_4)] : List (Int × Int × Int × Int)), w64 (x8 - 1), t31_5, t31_6, yb7_1_0, yb7_1_4, v35_1, S35_1, hE_1, hl_v35_1, rfl, rfl⟩)
      ·skip
       refine Nrm.block ?_
       refine Nrm.seq (Tri.reg (l := [0, 1, 2]) rfl ?_)
       refine F.qn rfl (r_move rfl) (F.qn rfl (r_sub rfl rfl) (F.qn rfl (r_assign rfl) (F.nil (Nrm.round ?_))))
       refine Rnd.only [2, 4, 5, 6, 7, 8] rfl ?_
       refine Rnd.pick [0, 1, 2, 3, 7, 4, 5, 6, 8, 9, 10] rfl rfl ?_
       exact ih_1 _ _ (.inr ⟨x6 ++ ([(t31_1, t31_2, t31_3, t31_4)] : List (Int × Int × Int × Int)), w64 (x8 - 1), t31_5, t31_6, yb7_1_0, yb7_1_1, yb7_1_2, yb7_1_3, yb7_1_4, v35_1, S35_1, vb7_1_1_1, Sb7_1_1_1, vb7_1_2_1, Sb7_1_2_1, vb7_1_3_1, Sb7_1_3_1, hE_1, hl_v35_1, hl_vb7_1_1_1, hl_vb7_1_2_1, hl_vb7_1_3_1, rfl, rfl⟩)
     ·refine Tri.cond (b := t39_6) rfl (fun g_2 => ?_) (fun g_2 => ?_)
      ·replace hE_3 := if_tt g_2 hE_3
       refine Tri.reg (l := [0, 1]) rfl ?_
       refine F.qn rfl (r_loadA ta44 ti44 rfl rfl (fun w hw => (box_cells (i := 0) rfl w hw))) ?_
       refine F.ef0 rfl rfl (wanted_none rfl) (d_storeG0 (i := 7) (cs2 := [.int .i64 t39_1, v39_1, v39_2, v39_3, .int .i64 t39_5]) ti44 rfl rfl rfl rfl rfl (Nat.le_of_ble_eq_true rfl) (lf_cons rfl (lf_cons (sl_leaf hl_v39_1) (lf_cons (sl_leaf hl_v39_2) (lf_cons (sl_leaf hl_v39_3) (lf_cons rfl lf_nil)))))) ?_
       rintro _ _ ⟨rfl, rfl⟩
       refine F.nil ?_
       cases hE_3
       refine Nrm.only [2, 4, 5, 6, 7, 8] rfl ?_
       refine Nrm.pick [6, 7, 8, 9, 1, 2, 3, 10, 11, 12, 13] rfl rfl ?_
       exact hj_2 _ _ (.inr ⟨v39_1, S39_1, v39_2, S39_2, v39_3, S39_3, hl_v39_1, hl_v39_2, hl_v39_3, rfl, rfl⟩)
      ·replace hE_3 := if_ff g_2 hE_3
       refine Tri.skip ?_
       cases hE_3
       refine Nrm.only [2, 4, 5, 6, 7, 8] rfl ?_
       refine Nrm.pick [6, 7, 8, 9, 10, 11, 12, 13] rfl rfl ?_
       exact hj_2 _ _ (.inl ⟨⟨rfl, rfl, rfl⟩, rfl, rfl⟩)
    ·replace hE_1 := if_ff g_1 hE_1
     refine Tri.exit ?_
     refine Exi.then ?_
     refine Exi.then ?_
     refine Exi.same ?_
     cases hE_1
     refine Nrm.seq (Tri.seq (Tri.reg (l := [0, 1, 2, 3]) rfl ?_))
     refine F.qn rfl (r_loadA ta44 ti44 rfl rfl (fun w hw => (box_cells (i := 2) rfl w hw))) (F.qn rfl (r_move rfl) ?_)
     refine F.ef0 rfl rfl (wanted_none rfl) (d_storeG0 (i := 3) (cs2 := [.int .i64 t16_1, v16_1, v16_2, v16_3, .int .i64 t16_5]) ti44 rfl rfl rfl rfl rfl (Nat.le_of_ble_eq_true rfl) (lf_cons rfl (lf_cons (sl_leaf hl_v16_1) (lf_cons (sl_leaf hl_v16_2) (lf_cons (sl_leaf hl_v16_3) (lf_cons rfl lf_nil)))))) ?_
     rintro _ _ ⟨rfl, rfl⟩
     refine F.qn rfl (r_assign rfl) (F.nil (Nrm.seq (Tri.ret ?_)))
     cases h
     exact Rtn.body (.cell rfl ta44 ti44 rfl (fun _ hw => box_cells (i := 3) rfl _ hw) (.tmp rfl .nil)) (fun w hw => ⟨_, _, rfl, ⟨v16_1, S16_1, v16_2, S16_2, v16_3, S16_3, w6, T6, rfl, hl_v16_1, hl_v16_2, hl_v16_3, hl_w6, rfl⟩, Sep.pick (is := [5, 6, 7, 4]) rfl rfl hw⟩)
   ·rcases Bool.eq_false_or_eq_true (decide (x8 > 0)) with g23 | g23
    ·replace hE_2 := if_tt g23 hE_2
     obtain ⟨t25, h25, hE_2⟩ := bind_some hE_2
     refine Tri.reg (l := [0, 1, 2, 3, 4, 5]) rfl ?_
     refine F.qn rfl (r_move rfl) (F.qn rfl (r_gtr rfl rfl) (F.qn rfl (r_move rfl) (F.qg rfl g23 (r_loadA ta44 ti44 rfl rfl (fun w hw => (box_cells (i := 1) rfl w hw))) ?_)))
     refine F.qc rfl rfl rfl (wg rfl rfl rfl g23) (q_callF (xs := _) rfl ok113 rfl rfl (fun w hw => spec_l12Good.ok h25 w ((rd_sl (i := 5) rfl) w hw) ((rd_sl (i := 6) rfl) w hw) ((rd_sl (i := 7) rfl) w hw))) ?_
     refine F.qn rfl (r_pick rfl rfl g23) (F.nil ?_)
     cases hE_2
     refine Nrm.only [2, 4, 5, 6, 7, 8, 26] rfl ?_
     refine Nrm.pick [0, 1, 2, 3, 4, 5, 6, 7] rfl rfl ?_
     exact hj_1 _ _ ⟨rfl, rfl⟩
    ·replace hE_2 := if_ff g23 hE_2
     refine Tri.reg (l := [0, 1, 2, 3, 4, 5]) rfl ?_
     refine F.qn rfl (r_move rfl) (F.qn rfl (r_gtr rfl rfl) (F.qn rfl (r_move rfl) (F.skf rfl g23 (F.skf rfl g23 (F.qn rfl (r_pickf rfl rfl g23) (F.nil ?_))))))
     cases hE_2
     refine Nrm.only [2, 4, 5, 6, 7, 8, 26] rfl ?_
     refine Nrm.pick [0, 1, 2, 3, 4, 5, 6, 7] rfl rfl ?_
     exact hj_1 _ _ ⟨rfl, rfl⟩
  ·rw [spec_DrawDoDeeds.l0.eq_2] at hE_1
   refine Tri.seq (Tri.seq ?_)
   obtain ⟨y26, hE_2, hE_1⟩ := bind_some hE_1
   refine Tri.cut (fun e' C' => e' = [(2, .pointer (some ⟨b2_1, 0, none⟩)), (4, .pointer (some ⟨b14_1, 0, none⟩)), (5, .pointer (some ⟨b5_1, 0, none⟩)), (6, w6), (7, .pointer (some ⟨b7_1, 0, none⟩)), (8, .int .i64 x8), (26, .bool y26)] ∧ C' = Sep w noM [R.box b14_1 114 [va0, .int .i64 xb14_1_1, .int .u64 xb14_1_2], R.box b7_1 44 [.int .i64 xb7_1_0, wq7_1_1, wq7_1_2, wq7_1_3, .int .i64 xb7_1_4], R.box b5_1 44 [.int .i64 t16_1, v16_1, v16_2, v16_3, .int .i64 t16_5], R.box b2_1 44 [.int .i64 0, .slice none 0 0, .slice none 0 0, .slice none 0 0, .int .i64 0], R.sl T6 w6 (x6 : List (Int × Int × Int × Int)), R.sl Tq7_1_1 wq7_1_1 (xq7_1_1 : List (Int × Int × Int)), R.sl Tq7_1_2 wq7_1_2 (xq7_1_2 : List (Int)), R.sl Tq7_1_3 wq7_1_3 (xq7_1_3 : List (Int)), R.sl S16_1 v16_1 (t16_2 : List (Int × Int × Int)), R.sl S16_2 v16_2 (t16_3 : List (Int)), R.sl S16_3 v16_3 (t16_4 : List (Int))]) ?_ (fun hj_1 => ?_)
   ·rintro _ _ ⟨rfl, rfl⟩
    refine Nrm.seq (Tri.cond (b := y26) rfl (fun g_1 => ?_) (fun g_1 => ?_))
    ·replace hE_1 := if_tt g_1 hE_1
     refine Tri.skip (Nrm.seq (Tri.seq (Tri.block ?_)))
     refine Tri.seq ?_
     obtain ⟨⟨t31_1, t31_2, t31_3, t31_4, t31_5, t31_6⟩, h31, hE_1⟩ := bind_some hE_1
     refine Tri.reg (l := [0, 1, 2, 3, 4]) rfl ?_
     refine F.qn rfl (r_move rfl) (F.qn rfl (r_loadA ta44 ti44 rfl rfl (fun w hw => (box_cells (i := 1) rfl w hw))) ?_)
     refine F.efn rfl (d_callM (xs := _) (cs := [R.box b14_1 114 [va0, .int .i64 xb14_1_1, .int .u64 xb14_1_2]]) (rest := [R.box b7_1 44 [.int .i64 xb7_1_0, wq7_1_1, wq7_1_2, wq7_1_3, .int .i64 xb7_1_4], R.box b5_1 44 [.int .i64 t16_1, v16_1, v16_2, v16_3, .int .i64 t16_5], R.box b2_1 44 [.int .i64 0, .slice none 0 0, .slice none 0 0, .slice none 0 0, .int .i64 0], R.sl T6 w6 (x6 : List (Int × Int × Int × Int)), R.sl Tq7_1_1 wq7_1_1 (xq7_1_1 : List (Int × Int × Int)), R.sl Tq7_1_2 wq7_1_2 (xq7_1_2 : List (Int)), R.sl Tq7_1_3 wq7_1_3 (xq7_1_3 : List (Int)), R.sl S16_1 v16_1 (t16_2 : List (Int × Int × Int)), R.sl S16_2 v16_2 (t16_3 : List (Int)), R.sl S16_3 v16_3 (t16_4 : List (Int))]) [0] [1, 2, 3, 4, 5, 6, 7, 8, 9, 10] rfl ok111 rfl rfl rfl rfl (fun w hw => spec_l1Cur_deed12.ok h31 w (hr_a0.down hw) (rdm_sl (i := 4) rfl hw) (rdm_sl (i := 5) rfl hw) (rdm_sl (i := 6) rfl hw) (Sep.sub hw))) ?_
     rintro _ _ ⟨_, ⟨rfl, rfl⟩, rfl⟩
     refine F.mn rfl (m_alloc ti48) ?_
     rintro _ _ ⟨b9_1, rfl, rfl⟩
     refine F.ef0 rfl rfl (wanted_none rfl) (d_storeG0 (i := 0) (cs2 := [.int .i64 t31_1, .int .i64 t31_2, .int .i64 t31_3, .int .i64 t31_4]) ti48 rfl rfl rfl rfl rfl (Nat.le_of_ble_eq_true rfl) (lf_cons rfl (lf_cons rfl (lf_cons rfl (lf_cons rfl lf_nil))))) ?_
     rintro _ _ ⟨rfl, rfl⟩
     refine F.nil (Nrm.seq (Tri.seq ?_))
     obtain ⟨hs35, hE_1⟩ := ck hE_1
     refine Tri.reg (l := [0, 1, 2, 3, 4]) rfl ?_
     refine F.qn rfl (r_move rfl) (F.qn rfl (r_loadA ta48 ti48 rfl rfl (fun w hw => (box_cells (i := 0) rfl w hw))) ?_)
     refine F.mn rfl (m_buildF (l := ([(t31_1, t31_2, t31_3, t31_4)] : List (Int × Int × Int × Int))) Tryz.underlying53 ti48 rfl rfl rfl rfl rfl) ?_
     rintro v34_1 _ ⟨S34_1, hl_v34_1, rfl⟩
     refine F.efn rfl (d_append (i := 6) Tryz.underlying53 Tryz.underlying53 ti48 rfl (by decide) rfl rfl rfl (rd_sl (i := 0) rfl) hs35) ?_
     rintro v35_1 _ ⟨S35_1, rfl, hl_v35_1⟩
     refine F.qn rfl (r_assign rfl) (F.nil (Nrm.seq (Tri.seq ?_)))
     obtain ⟨⟨t39_1, t39_2, t39_3, t39_4, t39_5, t39_6⟩, h39, hE_1⟩ := bind_some hE_1
     refine Tri.reg (l := [0, 1, 2, 3, 4, 5, 6, 7, 8]) rfl ?_
     refine F.qn rfl (r_loadA ta44 ti44 rfl rfl (fun w hw => (box_cells (i := 3) rfl w hw))) (F.qn rfl (r_loadA ta48 ti48 rfl rfl (fun w hw => (box_cells (i := 1) rfl w hw))) ?_)
     refine F.mn rfl (m_callF (xs := _) rfl ok114 rfl rfl (fun w hw => spec_l12Do.ok h39 w ((rd_sl (i := 7) rfl) w hw) ((rd_sl (i := 8) rfl) w hw) ((rd_sl (i := 9) rfl) w hw))) ?_
     rintro _ _ ⟨_, ⟨v39_1, S39_1, v39_2, S39_2, v39_3, S39_3, rfl, hl_v39_1, hl_v39_2, hl_v39_3, rfl⟩, rfl⟩
     refine F.qn rfl (r_move rfl) (F.qn rfl (r_extract rfl rfl) (F.qn rfl (r_extract rfl rfl) ?_))
     refine F.mn rfl (m_alloc ti44) ?_
     rintro _ _ ⟨b10_1, rfl, rfl⟩
     refine F.ef0 rfl rfl (wanted_none rfl) (d_storeG0 (i := 0) (cs2 := [.int .i64 t39_1, v39_1, v39_2, v39_3, .int .i64 t39_5]) ti44 rfl rfl rfl rfl rfl (Nat.le_of_ble_eq_true rfl) (lf_cons rfl (lf_cons (sl_leaf hl_v39_1) (lf_cons (sl_leaf hl_v39_2) (lf_cons (sl_leaf hl_v39_3) (lf_cons rfl lf_nil)))))) ?_
     rintro _ _ ⟨rfl, rfl⟩
     refine F.qn rfl (r_assign rfl) (F.nil (Nrm.seq (Tri.seq (Tri.reg (l := [0]) rfl ?_))))
     refine F.qn rfl (r_move rfl) (F.nil (Nrm.seq ?_))
     obtain ⟨⟨yb7_1_0, yb7_1_1, yb7_1_2, yb7_1_3, yb7_1_4⟩, hE_3, hE_1⟩ := bind_some hE_1
     refine Tri.cut (fun e' C' => (∃ (vb7_1_1_1 : Value) (Sb7_1_1_1 : Nat → Prop) (vb7_1_2_1 : Value) (Sb7_1_2_1 : Nat → Prop) (vb7_1_3_1 : Value) (Sb7_1_3_1 : Nat → Prop), SlLen vb7_1_1_1 (yb7_1_1).length ∧ SlLen vb7_1_2_1 (yb7_1_2).length ∧ SlLen vb7_1_3_1 (yb7_1_3).length ∧ e' = [(2, .pointer (some ⟨b2_1, 0, none⟩)), (4, .pointer (some ⟨b14_1, 0, none⟩)), (5, .pointer (some ⟨b5_1, 0, none⟩)), (6, v35_1), (7, .pointer (some ⟨b7_1, 0, none⟩)), (8, .int .i64 x8)] ∧ C' = Sep w noM [R.box b14_1 114 [va0, .int .i64 t31_5, .int .u64 t31_6], R.box b7_1 44 [.int .i64 yb7_1_0, vb7_1_1_1, vb7_1_2_1, vb7_1_3_1, .int .i64 yb7_1_4], R.box b5_1 44 [.int .i64 t16_1, v16_1, v16_2, v16_3, .int .i64 t16_5], R.box b2_1 44 [.int .i64 0, .slice none 0 0, .slice none 0 0, .slice none 0 0, .int .i64 0], R.sl Sb7_1_1_1 vb7_1_1_1 (yb7_1_1 : List (Int × Int × Int)), R.sl Sb7_1_2_1 vb7_1_2_1 (yb7_1_2 : List (Int)), R.sl Sb7_1_3_1 vb7_1_3_1 (yb7_1_3 : List (Int)), R.sl S35_1 v35_1 (x6 ++ ([(t31_1, t31_2, t31_3, t31_4)] : List (Int × Int × Int × Int)) : List (Int × Int × Int × Int)), R.sl S16_1 v16_1 (t16_2 : List (Int × Int × Int)), R.sl S16_2 v16_2 (t16_3 : List (Int)), R.sl S16_3 v16_3 (t16_4 : List (Int))])) ?_ (fun hj_2 => ?_)
     ·rintro _ _ ⟨vb7_1_1_1, Sb7_1_1_1, vb7_1_2_1, Sb7_1_2_1, vb7_1_3_1, Sb7_1_3_1, hl_vb7_1_1_1, hl_vb7_1_2_1, hl_vb7_1_3_1, rfl, rfl⟩
      refine Nrm.block ?_
      refine Nrm.seq (Tri.reg (l := [0, 1, 2]) rfl ?_)
      refine F.qn rfl (r_move rfl) (F.qn rfl (r_sub rfl rfl) (F.qn rfl (r_assign rfl) (F.nil (Nrm.round ?_))))
      refine Rnd.only [2, 4, 5, 6, 7, 8] rfl ?_
      refine Rnd.pick [0, 1, 2, 3, 7, 4, 5, 6, 8, 9, 10] rfl rfl ?_
      exact ih_1 _ _ (.inr ⟨x6 ++ ([(t31_1, t31_2, t31_3, t31_4)] : List (Int × Int × Int × Int)), w64 (x8 - 1), t31_5, t31_6, yb7_1_0, yb7_1_1, yb7_1_2, yb7_1_3, yb7_1_4, v35_1, S35_1, vb7_1_1_1, Sb7_1_1_1, vb7_1_2_1, Sb7_1_2_1, vb7_1_3_1, Sb7_1_3_1, hE_1, hl_v35_1, hl_vb7_1_1_1, hl_vb7_1_2_1, hl_vb7_1_3_1, rfl, rfl⟩)
     ·refine Tri.cond (b := t39_6) rfl (fun g_2 => ?_) (fun g_2 => ?_)
      ·replace hE_3 := if_tt g_2 hE_3
       refine Tri.reg (l := [0, 1]) rfl ?_
       refine F.qn rfl (r_loadA ta44 ti44 rfl rfl (fun w hw => (box_cells (i := 0) rfl w hw))) ?_
       refine F.ef0 rfl rfl (wanted_none rfl) (d_storeG0 (i := 7) (cs2 := [.int .i64 t39_1, v39_1, v39_2, v39_3, .int .i64 t39_5]) ti44 rfl rfl rfl rfl rfl (Nat.le_of_ble_eq_true rfl) (lf_cons rfl (lf_cons (sl_leaf hl_v39_1) (lf_cons (sl_leaf hl_v39_2) (lf_cons (sl_leaf hl_v39_3) (lf_cons rfl lf_nil)))))) ?_
       rintro _ _ ⟨rfl, rfl⟩
       refine F.nil ?_
       cases hE_3
       refine Nrm.only [2, 4, 5, 6, 7, 8] rfl ?_
       refine Nrm.pick [6, 7, 8, 9, 1, 2, 3, 10, 14, 15, 16] rfl rfl ?_
       exact hj_2 _ _ ⟨v39_1, S39_1, v39_2, S39_2, v39_3, S39_3, hl_v39_1, hl_v39_2, hl_v39_3, rfl, rfl⟩
      ·replace hE_3 := if_ff g_2 hE_3
       refine Tri.skip ?_
       cases hE_3
       refine Nrm.only [2, 4, 5, 6, 7, 8] rfl ?_
       refine Nrm.pick [6, 7, 8, 9, 11, 12, 13, 10, 14, 15, 16] rfl rfl ?_
       exact hj_2 _ _ ⟨wq7_1_1, Tq7_1_1, wq7_1_2, Tq7_1_2, wq7_1_3, Tq7_1_3, hl_wq7_1_1, hl_wq7_1_2, hl_wq7_1_3, rfl, rfl⟩
    ·replace hE_1 := if_ff g_1 hE_1
     refine Tri.exit ?_
     refine Exi.then ?_
     refine Exi.then ?_
     refine Exi.same ?_
     cases hE_1
     refine Nrm.seq (Tri.seq (Tri.reg (l := [0, 1, 2, 3]) rfl ?_))
     refine F.qn rfl (r_loadA ta44 ti44 rfl rfl (fun w hw => (box_cells (i := 2) rfl w hw))) (F.qn rfl (r_move rfl) ?_)
     refine F.ef0 rfl rfl (wanted_none rfl) (d_storeG0 (i := 3) (cs2 := [.int .i64 t16_1, v16_1, v16_2, v16_3, .int .i64 t16_5]) ti44 rfl rfl rfl rfl rfl (Nat.le_of_ble_eq_true rfl) (lf_cons rfl (lf_cons (sl_leaf hl_v16_1) (lf_cons (sl_leaf hl_v16_2) (lf_cons (sl_leaf hl_v16_3) (lf_cons rfl lf_nil)))))) ?_
     rintro _ _ ⟨rfl, rfl⟩
     refine F.qn rfl (r_assign rfl) (F.nil (Nrm.seq (Tri.ret ?_)))
     cases h
     exact Rtn.body (.cell rfl ta44 ti44 rfl (fun _ hw => box_cells (i := 3) rfl _ hw) (.tmp rfl .nil)) (fun w hw => ⟨_, _, rfl, ⟨v16_1, S16_1, v16_2, S16_2, v16_3, S16_3, w6, T6, rfl, hl_v16_1, hl_v16_2, hl_v16_3, hl_w6, rfl⟩, Sep.pick (is := [8, 9, 10, 4]) rfl rfl hw⟩)
   ·rcases Bool.eq_false_or_eq_true (decide (x8 > 0)) with g23 | g23
    ·replace hE_2 := if_tt g23 hE_2
     obtain ⟨t25, h25, hE_2⟩ := bind_some hE_2
     refine Tri.reg (l := [0, 1, 2, 3, 4, 5]) rfl ?_
     refine F.qn rfl (r_move rfl) (F.qn rfl (r_gtr rfl rfl) (F.qn rfl (r_move rfl) (F.qg rfl g23 (r_loadA ta44 ti44 rfl rfl (fun w hw => (box_cells (i := 1) rfl w hw))) ?_)))
     refine F.qc rfl rfl rfl (wg rfl rfl rfl g23) (q_callF (xs := _) rfl ok113 rfl rfl (fun w hw => spec_l12Good.ok h25 w ((rd_sl (i := 5) rfl) w hw) ((rd_sl (i := 6) rfl) w hw) ((rd_sl (i := 7) rfl) w hw))) ?_
     refine F.qn rfl (r_pick rfl rfl g23) (F.nil ?_)
     cases hE_2
     refine Nrm.only [2, 4, 5, 6, 7, 8, 26] rfl ?_
     refine Nrm.pick [0, 1, 2, 3, 4, 5, 6, 7, 8, 9, 10] rfl rfl ?_
     exact hj_1 _ _ ⟨rfl, rfl⟩
    ·replace hE_2 := if_ff g23 hE_2
     refine Tri.reg (l := [0, 1, 2, 3, 4, 5]) rfl ?_
     refine F.qn rfl (r_move rfl) (F.qn rfl (r_gtr rfl rfl) (F.qn rfl (r_move rfl) (F.skf rfl g23 (F.skf rfl g23 (F.qn rfl (r_pickf rfl rfl g23) (F.nil ?_))))))
     cases hE_2
     refine Nrm.only [2, 4, 5, 6, 7, 8, 26] rfl ?_
     refine Nrm.pick [0, 1, 2, 3, 4, 5, 6, 7, 8, 9, 10] rfl rfl ?_
     exact hj_1 _ _ ⟨rfl, rfl⟩


noncomputable def impl_DoDeeds.l0 (k : Nat) (a1 : List (Int × Int × Int × Int)) : Nat → Int → Int → (List (Int × Int × Int)) → (List (Int)) → (List (Int)) → Int → Option ((Int × (List (Int × Int × Int)) × (List (Int)) × (List (Int)) × Int) ⊕ (Int × (List (Int × Int × Int)) × (List Int) × (List Int) × Int × Int × Bool))
 | 0, _, _, _, _, _, _ => none
 | n + 1, x20, xb7_1_0, xq7_1_1, xq7_1_2, xq7_1_3, xb7_1_4 => (if (decide (x20 < (a1.length : Int))) = true then (rdl a1 x20).bind fun t23 => (impl_done.f k xb7_1_0 xq7_1_1 xq7_1_2 xq7_1_3 xb7_1_4 t23.1 t23.2.1 t23.2.2.1 t23.2.2.2).bind fun (t28_1, t28_2, t28_3, t28_4, t28_5, t28_6) => (if (!t28_6) = true then some (Sum.inr (xb7_1_0, xq7_1_1, xq7_1_2, xq7_1_3, xb7_1_4, x20, true)) else impl_DoDeeds.l0 k a1 n (w64 (x20 + 1)) t28_1 t28_2 t28_3 t28_4 t28_5) else some (Sum.inl (xb7_1_0, xq7_1_1, xq7_1_2, xq7_1_3, xb7_1_4)))

noncomputable def impl_DoDeeds.f (k : Nat) (a0_0 : Int) (a0_1 : List (Int × Int × Int)) (a0_2 : List Int) (a0_3 : List Int) (a0_4 : Int) (a1 : List (Int × Int × Int × Int)) : Option (Int × (List (Int × Int × Int)) × (List Int) × (List Int) × Int × Int × Bool) := (impl_IsVisit.f k a0_0 a0_1 a0_2 a0_3 a0_4).bind fun t13 => (if (!t13) = true then some (0, [], [], [], 0, 0, false) else (impl_ownVisit.f k a0_0 a0_1 a0_2 a0_3 a0_4).bind fun (t17_1, t17_2, t17_3, t17_4, t17_5) => (impl_DoDeeds.l0 k a1 k 0 t17_1 t17_2 t17_3 t17_4 t17_5).bind fun s => Lr s some fun (xb7_1_0, xq7_1_1, xq7_1_2, xq7_1_3, xb7_1_4) => some (xb7_1_0, xq7_1_1, xq7_1_2, xq7_1_3, xb7_1_4, (a1.length : Int), true))

theorem impl_DoDeeds.ok {k : Nat}  {a0_0 : Int} {a0_1 : List (Int × Int × Int)} {a0_2 : List Int} {a0_3 : List Int} {a0_4 : Int} {a1 : List (Int × Int × Int × Int)} {r0 : Int} {r1 : List (Int × Int × Int)} {r2 : List Int} {r3 : List Int} {r4 : Int} {r5 : Int} {r6 : Bool} (h : impl_DoDeeds.f k a0_0 a0_1 a0_2 a0_3 a0_4 a1 = some (r0, r1, r2, r3, r4, r5, r6)) (w : World) {va0_1 : Value} {va0_2 : Value} {va0_3 : Value} {va1 : Value} (hr_a0_1 : Rd w va0_1 a0_1) (hr_a0_2 : Rd w va0_2 a0_2) (hr_a0_3 : Rd w va0_3 a0_3) (hr_a1 : Rd w va1 a1) :
  Calls Tryz.prog 36 ([.agg ([.int .i64 a0_0, va0_1, va0_2, va0_3, .int .i64 a0_4].toArray), va1] : List Value).toArray w (Post (fun u ns => ∃ (ur1 : Value) (Sr1 : Nat → Prop) (ur2 : Value) (Sr2 : Nat → Prop) (ur3 : Value) (Sr3 : Nat → Prop), u = .tuple #[.agg [.int .i64 r0, ur1, ur2, ur3, .int .i64 r4].toArray, .int .i64 r5, .bool r6] ∧ SlLen ur1 r1.length ∧ SlLen ur2 r2.length ∧ SlLen ur3 r3.length ∧ ns = [R.sl Sr1 ur1 r1, R.sl Sr2 ur2 r2, R.sl Sr3 ur3 r3]) w) := by
 unfold impl_DoDeeds.f at h
 have hl_va0_1 := hr_a0_1.len
 have hl_va0_2 := hr_a0_2.len
 have hl_va0_3 := hr_a0_3.len
 have hl_va1 := hr_a1.len
 refine Calls.of_tri (N := 40) Tryz.func36 rfl rfl rfl (Sep.nil (M := noM)) ?_
 refine Tri.seq (Tri.reg (l := [0, 1, 2, 3]) rfl ?_)
 refine F.mn rfl (m_boxG rfl rfl) ?_
 rintro _ _ ⟨b2_1, rfl, rfl⟩
 refine F.mn rfl (m_alloc ti44) ?_
 rintro _ _ ⟨b4_1, rfl, rfl⟩
 refine F.qn rfl (r_assign rfl) (F.qn rfl (r_assign rfl) (F.nil (Nrm.seq (Tri.seq (Tri.seq ?_)))))
 obtain ⟨t13, h13, h⟩ := bind_some h
 refine Tri.reg (l := [0, 1, 2]) rfl ?_
 refine F.qn rfl (r_loadA ta44 ti44 rfl rfl (fun w hw => (box_cells (i := 1) rfl w hw))) ?_
 refine F.qcn rfl (q_callF (xs := _) rfl ok43 rfl rfl (fun w hw => impl_IsVisit.ok h13 w ((fun _ hw => hr_a0_1.sep hw) w hw) ((fun _ hw => hr_a0_2.sep hw) w hw) ((fun _ hw => hr_a0_3.sep hw) w hw))) ?_
 refine F.qn rfl (r_not rfl) (F.nil (Nrm.seq (Tri.cond (b := !t13) rfl (fun g_1 => ?_) (fun g_1 => ?_))))
 ·replace h := if_tt g_1 h
  refine Tri.seq (Tri.reg (l := [0, 1, 2, 3]) rfl ?_)
  refine F.qn rfl (r_build (pl := [(0, 3), (3, 1), (4, 1)]) (qs := []) (cs := [.int .i64 0, .slice none 0 0, .slice none 0 0, .slice none 0 0, .int .i64 0]) (by kernel_rfl) ti44 rfl .nil rfl rfl) ?_
  refine F.ef0 rfl rfl (wanted_none rfl) (d_storeG0 (i := 0) (cs2 := [.int .i64 0, .slice none 0 0, .slice none 0 0, .slice none 0 0, .int .i64 0]) ti44 rfl rfl rfl rfl rfl (Nat.le_of_ble_eq_true rfl) (lf_cons rfl (lf_cons rfl (lf_cons rfl (lf_cons rfl (lf_cons rfl lf_nil)))))) ?_
  rintro _ _ ⟨rfl, rfl⟩
  refine F.qn rfl (r_assign rfl) (F.qn rfl (r_assign rfl) (F.nil (Nrm.seq (Tri.ret ?_))))
  refine Rtn.then ?_
  cases h
  exact Rtn.body (.cell rfl ta44 ti44 rfl (fun _ hw => box_cells (i := 0) rfl _ hw) (.tmp rfl (.tmp rfl .nil))) (fun w hw => ⟨_, _, rfl, ⟨.slice none 0 0, fun _ => False, .slice none 0 0, fun _ => False, .slice none 0 0, fun _ => False, rfl, len_nil, len_nil, len_nil, rfl⟩, Sep.pick (is := [0, 1, 2]) rfl rfl hw.pushNil.pushNil.pushNil⟩)
 ·replace h := if_ff g_1 h
  refine Tri.skip (Nrm.seq (Tri.seq ?_))
  obtain ⟨⟨t17_1, t17_2, t17_3, t17_4, t17_5⟩, h17, h⟩ := bind_some h
  refine Tri.reg (l := [0, 1, 2, 3]) rfl ?_
  refine F.qn rfl (r_loadA ta44 ti44 rfl rfl (fun w hw => (box_cells (i := 1) rfl w hw))) ?_
  refine F.mn rfl (m_callF (xs := _) rfl ok116 rfl rfl (fun w hw => impl_ownVisit.ok h17 w ((fun _ hw => hr_a0_1.sep hw) w hw) ((fun _ hw => hr_a0_2.sep hw) w hw) ((fun _ hw => hr_a0_3.sep hw) w hw))) ?_
  rintro _ _ ⟨_, ⟨v17_1, S17_1, v17_2, S17_2, v17_3, S17_3, rfl, hl_v17_1, hl_v17_2, hl_v17_3, rfl⟩, rfl⟩
  refine F.mn rfl (m_alloc ti44) ?_
  rintro _ _ ⟨b7_1, rfl, rfl⟩
  refine F.ef0 rfl rfl (wanted_none rfl) (d_storeG0 (i := 0) (cs2 := [.int .i64 t17_1, v17_1, v17_2, v17_3, .int .i64 t17_5]) ti44 rfl rfl rfl rfl rfl (Nat.le_of_ble_eq_true rfl) (lf_cons rfl (lf_cons (sl_leaf hl_v17_1) (lf_cons (sl_leaf hl_v17_2) (lf_cons (sl_leaf hl_v17_3) (lf_cons rfl lf_nil)))))) ?_
  rintro _ _ ⟨rfl, rfl⟩
  refine F.nil (Nrm.seq (Tri.seq (Tri.seq (Tri.reg (l := [0, 1, 2]) rfl ?_))))
  refine F.qn rfl (r_move rfl) (F.qn rfl (r_len Tryz.underlying53 rfl hl_va1) (F.qn rfl (r_move rfl) (F.nil (Nrm.seq ?_))))
  obtain ⟨s0, hE_1, h⟩ := bind_some h
  refine Tri.block ?_
  refine Tri.only [1, 4, 7, 18, 19, 20] rfl ?_
  refine Tri.pick [0, 4, 1, 2, 3] rfl rfl ?_
  refine Tri.rounds (fun n e' C' => ∃ (x20' : Int) (xb7_1_0' : Int) (xq7_1_1' : List (Int × Int × Int)) (xq7_1_2' : List (Int)) (xq7_1_3' : List (Int)) (xb7_1_4' : Int) (wq7_1_1 : Value) (Tq7_1_1 : Nat → Prop) (wq7_1_2 : Value) (Tq7_1_2 : Nat → Prop) (wq7_1_3 : Value) (Tq7_1_3 : Nat → Prop), impl_DoDeeds.l0 k a1 n x20' xb7_1_0' xq7_1_1' xq7_1_2' xq7_1_3' xb7_1_4' = some s0 ∧ SlLen wq7_1_1 (xq7_1_1').length ∧ SlLen wq7_1_2 (xq7_1_2').length ∧ SlLen wq7_1_3 (xq7_1_3').length ∧ e' = [(1, va1), (4, .pointer (some ⟨b4_1, 0, none⟩)), (7, .pointer (some ⟨b7_1, 0, none⟩)), (18, va1), (19, .int .i64 (a1.length : Int)), (20, .int .i64 x20')] ∧ C' = Sep w noM [R.box b7_1 44 [.int .i64 xb7_1_0', wq7_1_1, wq7_1_2, wq7_1_3, .int .i64 xb7_1_4'], R.box b4_1 44 [.int .i64 0, .slice none 0 0, .slice none 0 0, .slice none 0 0, .int .i64 0], R.sl Tq7_1_1 wq7_1_1 (xq7_1_1' : List (Int × Int × Int)), R.sl Tq7_1_2 wq7_1_2 (xq7_1_2' : List (Int)), R.sl Tq7_1_3 wq7_1_3 (xq7_1_3' : List (Int))]) k ?_ ?_ ?_
  ·exact ⟨0, t17_1, t17_2, t17_3, t17_4, t17_5, v17_1, S17_1, v17_2, S17_2, v17_3, S17_3, hE_1, hl_v17_1, hl_v17_2, hl_v17_3, rfl, rfl⟩
  ·rintro _ _ ⟨_, _, _, _, _, _, _, _, _, _, _, _, hE_1, _⟩
   rw [impl_DoDeeds.l0.eq_1] at hE_1; cases hE_1
  ·rintro n_1 _ _ ⟨x20, xb7_1_0, xq7_1_1, xq7_1_2, xq7_1_3, xb7_1_4, wq7_1_1, Tq7_1_1, wq7_1_2, Tq7_1_2, wq7_1_3, Tq7_1_3, hE_1, hl_wq7_1_1, hl_wq7_1_2, hl_wq7_1_3, rfl, rfl⟩ ih_1
   rw [impl_DoDeeds.l0.eq_2] at hE_1
   refine Tri.seq (Tri.reg (l := [0]) rfl ?_)
   refine F.qn rfl (r_lss rfl rfl) (F.nil (Nrm.seq (Tri.seq (Tri.cond (b := decide (x20 < (a1.length : Int))) rfl (fun g_2 => ?_) (fun g_2 => ?_)))))
   ·replace hE_1 := if_tt g_2 hE_1
    refine Tri.skip (Nrm.seq (Tri.seq (Tri.block ?_)))
    refine Tri.seq ?_
    obtain ⟨t23, h23, hE_1⟩ := bind_some hE_1
    refine Tri.reg (l := [0, 1, 2, 3, 4, 5]) rfl ?_
    refine F.qn rfl (r_move rfl) (F.qn rfl (r_indexAddrS Tryz.underlying53 ti48 rfl hl_va1 rfl (rdl_some h23).1 (rdl_some h23).2.1) (F.qn rfl (r_loadA ta48 ti48 rfl rfl (fun w hw => (Rd.flat ((fun _ hw => hr_a1.sep hw) w hw) (rdl_some h23).2.2))) ?_))
    refine F.mn rfl (m_alloc ti48) ?_
    rintro _ _ ⟨b9_1, rfl, rfl⟩
    refine F.qn rfl (r_assign rfl) ?_
    refine F.ef0 rfl rfl (wanted_none rfl) (d_storeG0 (i := 0) (cs2 := [.int .i64 t23.1, .int .i64 t23.2.1, .int .i64 t23.2.2.1, .int .i64 t23.2.2.2]) ti48 rfl rfl rfl rfl rfl (Nat.le_of_ble_eq_true rfl) (lf_cons rfl (lf_cons rfl (lf_cons rfl (lf_cons rfl lf_nil))))) ?_
    rintro _ _ ⟨rfl, rfl⟩
    refine F.nil (Nrm.seq (Tri.seq ?_))
    obtain ⟨⟨t28_1, t28_2, t28_3, t28_4, t28_5, t28_6⟩, h28, hE_1⟩ := bind_some hE_1
    refine Tri.reg (l := [0, 1, 2, 3, 4, 5, 6, 7, 8]) rfl ?_
    refine F.qn rfl (r_loadA ta44 ti44 rfl rfl (fun w hw => (box_cells (i := 1) rfl w hw))) (F.qn rfl (r_loadA ta48 ti48 rfl rfl (fun w hw => (box_cells (i := 0) rfl w hw))) ?_)
    refine F.mn rfl (m_callF (xs := _) rfl ok112 rfl rfl (fun w hw => impl_done.ok h28 w ((rd_sl (i := 3) rfl) w hw) ((rd_sl (i := 4) rfl) w hw) ((rd_sl (i := 5) rfl) w hw))) ?_
    rintro _ _ ⟨_, ⟨v28_1, S28_1, v28_2, S28_2, v28_3, S28_3, rfl, hl_v28_1, hl_v28_2, hl_v28_3, rfl⟩, rfl⟩
    refine F.qn rfl (r_move rfl) (F.qn rfl (r_extract rfl rfl) (F.qn rfl (r_extract rfl rfl) ?_))
    refine F.mn rfl (m_alloc ti44) ?_
    rintro _ _ ⟨b10_1, rfl, rfl⟩
    refine F.ef0 rfl rfl (wanted_none rfl) (d_storeG0 (i := 0) (cs2 := [.int .i64 t28_1, v28_1, v28_2, v28_3, .int .i64 t28_5]) ti44 rfl rfl rfl rfl rfl (Nat.le_of_ble_eq_true rfl) (lf_cons rfl (lf_cons (sl_leaf hl_v28_1) (lf_cons (sl_leaf hl_v28_2) (lf_cons (sl_leaf hl_v28_3) (lf_cons rfl lf_nil)))))) ?_
    rintro _ _ ⟨rfl, rfl⟩
    refine F.qn rfl (r_assign rfl) (F.nil (Nrm.seq (Tri.seq (Tri.seq (Tri.reg (l := [0, 1]) rfl ?_)))))
    refine F.qn rfl (r_move rfl) (F.qn rfl (r_not rfl) (F.nil (Nrm.seq (Tri.cond (b := !t28_6) rfl (fun g_3 => ?_) (fun g_3 => ?_)))))
    ·replace hE_1 := if_tt g_3 hE_1
     refine Tri.seq (Tri.reg (l := [0, 1, 2, 3, 4]) rfl ?_)
     refine F.qn rfl (r_loadA ta44 ti44 rfl rfl (fun w hw => (box_cells (i := 5) rfl w hw))) (F.qn rfl (r_move rfl) ?_)
     refine F.ef0 rfl rfl (wanted_none rfl) (d_storeG0 (i := 6) (cs2 := [.int .i64 xb7_1_0, wq7_1_1, wq7_1_2, wq7_1_3, .int .i64 xb7_1_4]) ti44 rfl rfl rfl rfl rfl (Nat.le_of_ble_eq_true rfl) (lf_cons rfl (lf_cons (sl_leaf hl_wq7_1_1) (lf_cons (sl_leaf hl_wq7_1_2) (lf_cons (sl_leaf hl_wq7_1_3) (lf_cons rfl lf_nil)))))) ?_
     rintro _ _ ⟨rfl, rfl⟩
     refine F.qn rfl (r_assign rfl) (F.qn rfl (r_assign rfl) (F.nil (Nrm.seq (Tri.ret ?_))))
     refine Rtn.then ?_
     refine Rtn.block ?_
     refine Rtn.then ?_
     refine Rtn.then ?_
     refine Rtn.block ?_
     refine Rtn.then ?_
     cases hE_1
     replace h := Lr_inr h
     cases h
     exact Rtn.body (.cell rfl ta44 ti44 rfl (fun _ hw => box_cells (i := 6) rfl _ hw) (.tmp rfl (.tmp rfl .nil))) (fun w hw => ⟨_, _, rfl, ⟨wq7_1_1, Tq7_1_1, wq7_1_2, Tq7_1_2, wq7_1_3, Tq7_1_3, rfl, hl_wq7_1_1, hl_wq7_1_2, hl_wq7_1_3, rfl⟩, Sep.pick (is := [7, 8, 9]) rfl rfl hw⟩)
    ·replace hE_1 := if_ff g_3 hE_1
     refine Tri.skip (Nrm.seq (Tri.reg (l := [0, 1]) rfl ?_))
     refine F.qn rfl (r_loadA ta44 ti44 rfl rfl (fun w hw => (box_cells (i := 0) rfl w hw))) ?_
     refine F.ef0 rfl rfl (wanted_none rfl) (d_storeG0 (i := 5) (cs2 := [.int .i64 t28_1, v28_1, v28_2, v28_3, .int .i64 t28_5]) ti44 rfl rfl rfl rfl rfl (Nat.le_of_ble_eq_true rfl) (lf_cons rfl (lf_cons (sl_leaf hl_v28_1) (lf_cons (sl_leaf hl_v28_2) (lf_cons (sl_leaf hl_v28_3) (lf_cons rfl lf_nil)))))) ?_
     rintro _ _ ⟨rfl, rfl⟩
     refine F.nil (Nrm.block ?_)
     refine Nrm.seq (Tri.reg (l := [0, 1]) rfl ?_)
     refine F.qn rfl (r_add rfl rfl) (F.qn rfl (r_move rfl) (F.nil (Nrm.round ?_)))
     refine Rnd.only [1, 4, 7, 18, 19, 20] rfl ?_
     refine Rnd.pick [5, 6, 1, 2, 3] rfl rfl ?_
     exact ih_1 _ _ ⟨w64 (x20 + 1), t28_1, t28_2, t28_3, t28_4, t28_5, v28_1, S28_1, v28_2, S28_2, v28_3, S28_3, hE_1, hl_v28_1, hl_v28_2, hl_v28_3, rfl, rfl⟩
   ·replace hE_1 := if_ff g_2 hE_1
    refine Tri.exit ?_
    refine Exi.then ?_
    refine Exi.then ?_
    refine Exi.same ?_
    cases hE_1
    replace h := Lr_inl h
    refine Nrm.seq (Tri.seq (Tri.reg (l := [0, 1, 2, 3, 4, 5]) rfl ?_))
    refine F.qn rfl (r_loadA ta44 ti44 rfl rfl (fun w hw => (box_cells (i := 0) rfl w hw))) (F.qn rfl (r_move rfl) (F.qn rfl (r_len Tryz.underlying53 rfl hl_va1) ?_))
    refine F.ef0 rfl rfl (wanted_none rfl) (d_storeG0 (i := 1) (cs2 := [.int .i64 xb7_1_0, wq7_1_1, wq7_1_2, wq7_1_3, .int .i64 xb7_1_4]) ti44 rfl rfl rfl rfl rfl (Nat.le_of_ble_eq_true rfl) (lf_cons rfl (lf_cons (sl_leaf hl_wq7_1_1) (lf_cons (sl_leaf hl_wq7_1_2) (lf_cons (sl_leaf hl_wq7_1_3) (lf_cons rfl lf_nil)))))) ?_
    rintro _ _ ⟨rfl, rfl⟩
    refine F.qn rfl (r_assign rfl) (F.qn rfl (r_assign rfl) (F.nil (Nrm.seq (Tri.ret ?_))))
    cases h
    exact Rtn.body (.cell rfl ta44 ti44 rfl (fun _ hw => box_cells (i := 1) rfl _ hw) (.tmp rfl (.tmp rfl .nil))) (fun w hw => ⟨_, _, rfl, ⟨wq7_1_1, Tq7_1_1, wq7_1_2, Tq7_1_2, wq7_1_3, Tq7_1_3, rfl, hl_wq7_1_1, hl_wq7_1_2, hl_wq7_1_3, rfl⟩, Sep.pick (is := [2, 3, 4]) rfl rfl hw⟩)


def spec_DoDeeds.l0 (k : Nat) (a1 : List (Int × Int × Int × Int)) : Nat → Int → Int → (List (Int × Int × Int)) → (List (Int)) → (List (Int)) → Int → Option ((Int × (List (Int × Int × Int)) × (List (Int)) × (List (Int)) × Int) ⊕ (Int × (List (Int × Int × Int)) × (List Int) × (List Int) × Int × Int × Bool))
 | 0, _, _, _, _, _, _ => none
 | n + 1, x8, xb7_1_0, xq7_1_1, xq7_1_2, xq7_1_3, xb7_1_4 => (if (decide (x8 < (a1.length : Int))) = true then ((rdl a1 x8).bind fun t27 => (spec_l12Do.f k xb7_1_0 xq7_1_1 xq7_1_2 xq7_1_3 xb7_1_4 t27.1 t27.2.1 t27.2.2.1 t27.2.2.2).bind fun (t29_1, t29_2, t29_3, t29_4, t29_5, t29_6) => some (t29_6, t29_1, t29_2, t29_3, t29_4, t29_5)).bind fun (y10, yb9_2_0, yb9_2_1, yb9_2_2, yb9_2_3, yb9_2_4) => (if (!y10) = true then some (Sum.inr (xb7_1_0, xq7_1_1, xq7_1_2, xq7_1_3, xb7_1_4, x8, true)) else spec_DoDeeds.l0 k a1 n (w64 (x8 + 1)) yb9_2_0 yb9_2_1 yb9_2_2 yb9_2_3 yb9_2_4) else some (Sum.inl (xb7_1_0, xq7_1_1, xq7_1_2, xq7_1_3, xb7_1_4)))

def spec_DoDeeds.f (k : Nat) (a0_0 : Int) (a0_1 : List (Int × Int × Int)) (a0_2 : List Int) (a0_3 : List Int) (a0_4 : Int) (a1 : List (Int × Int × Int × Int)) : Option (Int × (List (Int × Int × Int)) × (List Int) × (List Int) × Int × Int × Bool) := (spec_l12Good.f k a0_0 a0_1 a0_2 a0_3 a0_4).bind fun t12 => (if (!t12) = true then some (0, [], [], [], 0, 0, false) else (spec_l12Own.f k a0_0 a0_1 a0_2 a0_3 a0_4).bind fun (t16_1, t16_2, t16_3, t16_4, t16_5) => (spec_DoDeeds.l0 k a1 k 0 t16_1 t16_2 t16_3 t16_4 t16_5).bind fun s => Lr s some fun (xb7_1_0, xq7_1_1, xq7_1_2, xq7_1_3, xb7_1_4) => some (xb7_1_0, xq7_1_1, xq7_1_2, xq7_1_3, xb7_1_4, (a1.length : Int), true))

theorem spec_DoDeeds.ok {k : Nat}  {a0_0 : Int} {a0_1 : List (Int × Int × Int)} {a0_2 : List Int} {a0_3 : List Int} {a0_4 : Int} {a1 : List (Int × Int × Int × Int)} {r0 : Int} {r1 : List (Int × Int × Int)} {r2 : List Int} {r3 : List Int} {r4 : Int} {r5 : Int} {r6 : Bool} (h : spec_DoDeeds.f k a0_0 a0_1 a0_2 a0_3 a0_4 a1 = some (r0, r1, r2, r3, r4, r5, r6)) (w : World) {va0_1 : Value} {va0_2 : Value} {va0_3 : Value} {va1 : Value} (hr_a0_1 : Rd w va0_1 a0_1) (hr_a0_2 : Rd w va0_2 a0_2) (hr_a0_3 : Rd w va0_3 a0_3) (hr_a1 : Rd w va1 a1) :
  Calls Tryz.prog 37 ([.agg ([.int .i64 a0_0, va0_1, va0_2, va0_3, .int .i64 a0_4].toArray), va1] : List Value).toArray w (Post (fun u ns => ∃ (ur1 : Value) (Sr1 : Nat → Prop) (ur2 : Value) (Sr2 : Nat → Prop) (ur3 : Value) (Sr3 : Nat → Prop), u = .tuple #[.agg [.int .i64 r0, ur1, ur2, ur3, .int .i64 r4].toArray, .int .i64 r5, .bool r6] ∧ SlLen ur1 r1.length ∧ SlLen ur2 r2.length ∧ SlLen ur3 r3.length ∧ ns = [R.sl Sr1 ur1 r1, R.sl Sr2 ur2 r2, R.sl Sr3 ur3 r3]) w) := by
 unfold spec_DoDeeds.f at h
 have hl_va0_1 := hr_a0_1.len
 have hl_va0_2 := hr_a0_2.len
 have hl_va0_3 := hr_a0_3.len
 have hl_va1 := hr_a1.len
 refine Calls.of_tri (N := 40) Tryz.func37 rfl rfl rfl (Sep.nil (M := noM)) ?_
 refine Tri.seq (Tri.reg (l := [0, 1, 2, 3]) rfl ?_)
 refine F.mn rfl (m_boxG rfl rfl) ?_
 rintro _ _ ⟨b2_1, rfl, rfl⟩
 refine F.mn rfl (m_alloc ti44) ?_
 rintro _ _ ⟨b4_1, rfl, rfl⟩
 refine F.qn rfl (r_assign rfl) (F.qn rfl (r_assign rfl) (F.nil (Nrm.seq (Tri.seq (Tri.seq ?_)))))
 obtain ⟨t12, h12, h⟩ := bind_some h
 refine Tri.reg (l := [0, 1, 2]) rfl ?_
 refine F.qn rfl (r_loadA ta44 ti44 rfl rfl (fun w hw => (box_cells (i := 1) rfl w hw))) ?_
 refine F.qcn rfl (q_callF (xs := _) rfl ok113 rfl rfl (fun w hw => spec_l12Good.ok h12 w ((fun _ hw => hr_a0_1.sep hw) w hw) ((fun _ hw => hr_a0_2.sep hw) w hw) ((fun _ hw => hr_a0_3.sep hw) w hw))) ?_
 refine F.qn rfl (r_not rfl) (F.nil (Nrm.seq (Tri.cond (b := !t12) rfl (fun g_1 => ?_) (fun g_1 => ?_))))
 ·replace h := if_tt g_1 h
  refine Tri.seq (Tri.reg (l := [0, 1, 2, 3]) rfl ?_)
  refine F.qn rfl (r_build (pl := [(0, 3), (3, 1), (4, 1)]) (qs := []) (cs := [.int .i64 0, .slice none 0 0, .slice none 0 0, .slice none 0 0, .int .i64 0]) (by kernel_rfl) ti44 rfl .nil rfl rfl) ?_
  refine F.ef0 rfl rfl (wanted_none rfl) (d_storeG0 (i := 0) (cs2 := [.int .i64 0, .slice none 0 0, .slice none 0 0, .slice none 0 0, .int .i64 0]) ti44 rfl rfl rfl rfl rfl (Nat.le_of_ble_eq_true rfl) (lf_cons rfl (lf_cons rfl (lf_cons rfl (lf_cons rfl (lf_cons rfl lf_nil)))))) ?_
  rintro _ _ ⟨rfl, rfl⟩
  refine F.qn rfl (r_assign rfl) (F.qn rfl (r_assign rfl) (F.nil (Nrm.seq (Tri.ret ?_))))
  refine Rtn.then ?_
  cases h
  exact Rtn.body (.cell rfl ta44 ti44 rfl (fun _ hw => box_cells (i := 0) rfl _ hw) (.tmp rfl (.tmp rfl .nil))) (fun w hw => ⟨_, _, rfl, ⟨.slice none 0 0, fun _ => False, .slice none 0 0, fun _ => False, .slice none 0 0, fun _ => False, rfl, len_nil, len_nil, len_nil, rfl⟩, Sep.pick (is := [0, 1, 2]) rfl rfl hw.pushNil.pushNil.pushNil⟩)
 ·replace h := if_ff g_1 h
  refine Tri.skip (Nrm.seq (Tri.seq ?_))
  obtain ⟨⟨t16_1, t16_2, t16_3, t16_4, t16_5⟩, h16, h⟩ := bind_some h
  refine Tri.reg (l := [0, 1, 2, 3]) rfl ?_
  refine F.qn rfl (r_loadA ta44 ti44 rfl rfl (fun w hw => (box_cells (i := 1) rfl w hw))) ?_
  refine F.mn rfl (m_callF (xs := _) rfl ok109 rfl rfl (fun w hw => spec_l12Own.ok h16 w ((fun _ hw => hr_a0_1.sep hw) w hw) ((fun _ hw => hr_a0_2.sep hw) w hw) ((fun _ hw => hr_a0_3.sep hw) w hw))) ?_
  rintro _ _ ⟨_, ⟨v16_1, S16_1, v16_2, S16_2, v16_3, S16_3, rfl, hl_v16_1, hl_v16_2, hl_v16_3, rfl⟩, rfl⟩
  refine F.mn rfl (m_alloc ti44) ?_
  rintro _ _ ⟨b7_1, rfl, rfl⟩
  refine F.ef0 rfl rfl (wanted_none rfl) (d_storeG0 (i := 0) (cs2 := [.int .i64 t16_1, v16_1, v16_2, v16_3, .int .i64 t16_5]) ti44 rfl rfl rfl rfl rfl (Nat.le_of_ble_eq_true rfl) (lf_cons rfl (lf_cons (sl_leaf hl_v16_1) (lf_cons (sl_leaf hl_v16_2) (lf_cons (sl_leaf hl_v16_3) (lf_cons rfl lf_nil)))))) ?_
  rintro _ _ ⟨rfl, rfl⟩
  refine F.nil (Nrm.seq (Tri.seq (Tri.seq (Tri.reg (l := [0]) rfl ?_))))
  refine F.qn rfl (r_assign rfl) (F.nil (Nrm.seq ?_))
  obtain ⟨s0, hE_1, h⟩ := bind_some h
  refine Tri.block ?_
  refine Tri.only [1, 4, 7, 8] rfl ?_
  refine Tri.pick [0, 4, 1, 2, 3] rfl rfl ?_
  refine Tri.rounds (fun n e' C' => ∃ (x8' : Int) (xb7_1_0' : Int) (xq7_1_1' : List (Int × Int × Int)) (xq7_1_2' : List (Int)) (xq7_1_3' : List (Int)) (xb7_1_4' : Int) (wq7_1_1 : Value) (Tq7_1_1 : Nat → Prop) (wq7_1_2 : Value) (Tq7_1_2 : Nat → Prop) (wq7_1_3 : Value) (Tq7_1_3 : Nat → Prop), spec_DoDeeds.l0 k a1 n x8' xb7_1_0' xq7_1_1' xq7_1_2' xq7_1_3' xb7_1_4' = some s0 ∧ SlLen wq7_1_1 (xq7_1_1').length ∧ SlLen wq7_1_2 (xq7_1_2').length ∧ SlLen wq7_1_3 (xq7_1_3').length ∧ e' = [(1, va1), (4, .pointer (some ⟨b4_1, 0, none⟩)), (7, .pointer (some ⟨b7_1, 0, none⟩)), (8, .int .i64 x8')] ∧ C' = Sep w noM [R.box b7_1 44 [.int .i64 xb7_1_0', wq7_1_1, wq7_1_2, wq7_1_3, .int .i64 xb7_1_4'], R.box b4_1 44 [.int .i64 0, .slice none 0 0, .slice none 0 0, .slice none 0 0, .int .i64 0], R.sl Tq7_1_1 wq7_1_1 (xq7_1_1' : List (Int × Int × Int)), R.sl Tq7_1_2 wq7_1_2 (xq7_1_2' : List (Int)), R.sl Tq7_1_3 wq7_1_3 (xq7_1_3' : List (Int))]) k ?_ ?_ ?_
  ·exact ⟨0, t16_1, t16_2, t16_3, t16_4, t16_5, v16_1, S16_1, v16_2, S16_2, v16_3, S16_3, hE_1, hl_v16_1, hl_v16_2, hl_v16_3, rfl, rfl⟩
  ·rintro _ _ ⟨_, _, _, _, _, _, _, _, _, _, _, _, hE_1, _⟩
   rw [spec_DoDeeds.l0.eq_1] at hE_1; cases hE_1
  ·rintro n_1 _ _ ⟨x8, xb7_1_0, xq7_1_1, xq7_1_2, xq7_1_3, xb7_1_4, wq7_1_1, Tq7_1_1, wq7_1_2, Tq7_1_2, wq7_1_3, Tq7_1_3, hE_1, hl_wq7_1_1, hl_wq7_1_2, hl_wq7_1_3, rfl, rfl⟩ ih_1
   rw [spec_DoDeeds.l0.eq_2] at hE_1
   refine Tri.seq (Tri.seq (Tri.reg (l := [0, 1, 2, 3]) rfl ?_))
   refine F.qn rfl (r_move rfl) (F.qn rfl (r_move rfl) (F.qn rfl (r_len Tryz.underlying53 rfl hl_va1) (F.qn rfl (r_lss rfl rfl) (F.nil (Nrm.seq (Tri.cond (b := decide (x8 < (a1.length : Int))) rfl (fun g_2 => ?_) (fun g_2 => ?_)))))))
   ·replace hE_1 := if_tt g_2 hE_1
    refine Tri.skip (Nrm.seq (Tri.seq (Tri.block ?_)))
    refine Tri.seq ?_
    obtain ⟨⟨y10, yb9_2_0, yb9_2_1, yb9_2_2, yb9_2_3, yb9_2_4⟩, hE_2, hE_1⟩ := bind_some hE_1
    refine Tri.cut (fun e' C' => ∃ (vb9_2_1_1 : Value) (Sb9_2_1_1 : Nat → Prop) (vb9_2_2_1 : Value) (Sb9_2_2_1 : Nat → Prop) (vb9_2_3_1 : Value) (Sb9_2_3_1 : Nat → Prop) (b9_2 : Nat), SlLen vb9_2_1_1 (yb9_2_1).length ∧ SlLen vb9_2_2_1 (yb9_2_2).length ∧ SlLen vb9_2_3_1 (yb9_2_3).length ∧ e' = [(1, va1), (4, .pointer (some ⟨b4_1, 0, none⟩)), (7, .pointer (some ⟨b7_1, 0, none⟩)), (8, .int .i64 x8), (9, .pointer (some ⟨b9_2, 0, none⟩)), (10, .bool y10)] ∧ C' = Sep w noM [R.box b7_1 44 [.int .i64 xb7_1_0, wq7_1_1, wq7_1_2, wq7_1_3, .int .i64 xb7_1_4], R.box b4_1 44 [.int .i64 0, .slice none 0 0, .slice none 0 0, .slice none 0 0, .int .i64 0], R.box b9_2 44 [.int .i64 yb9_2_0, vb9_2_1_1, vb9_2_2_1, vb9_2_3_1, .int .i64 yb9_2_4], R.sl Sb9_2_1_1 vb9_2_1_1 (yb9_2_1 : List (Int × Int × Int)), R.sl Sb9_2_2_1 vb9_2_2_1 (yb9_2_2 : List (Int)), R.sl Sb9_2_3_1 vb9_2_3_1 (yb9_2_3 : List (Int)), R.sl Tq7_1_1 wq7_1_1 (xq7_1_1 : List (Int × Int × Int)), R.sl Tq7_1_2 wq7_1_2 (xq7_1_2 : List (Int)), R.sl Tq7_1_3 wq7_1_3 (xq7_1_3 : List (Int))]) ?_ (fun hj_1 => ?_)
    ·rintro _ _ ⟨vb9_2_1_1, Sb9_2_1_1, vb9_2_2_1, Sb9_2_2_1, vb9_2_3_1, Sb9_2_3_1, b9_2, hl_vb9_2_1_1, hl_vb9_2_2_1, hl_vb9_2_3_1, rfl, rfl⟩
     refine Nrm.seq (Tri.seq (Tri.seq (Tri.reg (l := [0, 1]) rfl ?_)))
     refine F.qn rfl (r_move rfl) (F.qn rfl (r_not rfl) (F.nil (Nrm.seq (Tri.cond (b := !y10) rfl (fun g_3 => ?_) (fun g_3 => ?_)))))
     ·replace hE_1 := if_tt g_3 hE_1
      refine Tri.seq (Tri.reg (l := [0, 1, 2, 3, 4]) rfl ?_)
      refine F.qn rfl (r_loadA ta44 ti44 rfl rfl (fun w hw => (box_cells (i := 0) rfl w hw))) (F.qn rfl (r_move rfl) ?_)
      refine F.ef0 rfl rfl (wanted_none rfl) (d_storeG0 (i := 1) (cs2 := [.int .i64 xb7_1_0, wq7_1_1, wq7_1_2, wq7_1_3, .int .i64 xb7_1_4]) ti44 rfl rfl rfl rfl rfl (Nat.le_of_ble_eq_true rfl) (lf_cons rfl (lf_cons (sl_leaf hl_wq7_1_1) (lf_cons (sl_leaf hl_wq7_1_2) (lf_cons (sl_leaf hl_wq7_1_3) (lf_cons rfl lf_nil)))))) ?_
      rintro _ _ ⟨rfl, rfl⟩
      refine F.qn rfl (r_assign rfl) (F.qn rfl (r_assign rfl) (F.nil (Nrm.seq (Tri.ret ?_))))
      refine Rtn.then ?_
      refine Rtn.block ?_
      refine Rtn.then ?_
      refine Rtn.then ?_
      refine Rtn.block ?_
      refine Rtn.then ?_
      cases hE_1
      replace h := Lr_inr h
      cases h
      exact Rtn.body (.cell rfl ta44 ti44 rfl (fun _ hw => box_cells (i := 1) rfl _ hw) (.tmp rfl (.tmp rfl .nil))) (fun w hw => ⟨_, _, rfl, ⟨wq7_1_1, Tq7_1_1, wq7_1_2, Tq7_1_2, wq7_1_3, Tq7_1_3, rfl, hl_wq7_1_1, hl_wq7_1_2, hl_wq7_1_3, rfl⟩, Sep.pick (is := [6, 7, 8]) rfl rfl hw⟩)
     ·replace hE_1 := if_ff g_3 hE_1
      refine Tri.skip (Nrm.seq (Tri.reg (l := [0, 1]) rfl ?_))
      refine F.qn rfl (r_loadA ta44 ti44 rfl rfl (fun w hw => (box_cells (i := 2) rfl w hw))) ?_
      refine F.ef0 rfl rfl (wanted_none rfl) (d_storeG0 (i := 0) (cs2 := [.int .i64 yb9_2_0, vb9_2_1_1, vb9_2_2_1, vb9_2_3_1, .int .i64 yb9_2_4]) ti44 rfl rfl rfl rfl rfl (Nat.le_of_ble_eq_true rfl) (lf_cons rfl (lf_cons (sl_leaf hl_vb9_2_1_1) (lf_cons (sl_leaf hl_vb9_2_2_1) (lf_cons (sl_leaf hl_vb9_2_3_1) (lf_cons rfl lf_nil)))))) ?_
      rintro _ _ ⟨rfl, rfl⟩
      refine F.nil (Nrm.block ?_)
      refine Nrm.seq (Tri.reg (l := [0, 1, 2]) rfl ?_)
      refine F.qn rfl (r_move rfl) (F.qn rfl (r_add rfl rfl) (F.qn rfl (r_assign rfl) (F.nil (Nrm.round ?_))))
      refine Rnd.only [1, 4, 7, 8] rfl ?_
      refine Rnd.pick [0, 1, 3, 4, 5] rfl rfl ?_
      exact ih_1 _ _ ⟨w64 (x8 + 1), yb9_2_0, yb9_2_1, yb9_2_2, yb9_2_3, yb9_2_4, vb9_2_1_1, Sb9_2_1_1, vb9_2_2_1, Sb9_2_2_1, vb9_2_3_1, Sb9_2_3_1, hE_1, hl_vb9_2_1_1, hl_vb9_2_2_1, hl_vb9_2_3_1, rfl, rfl⟩
    ·obtain ⟨t27, h27, hE_2⟩ := bind_some hE_2
     obtain ⟨⟨t29_1, t29_2, t29_3, t29_4, t29_5, t29_6⟩, h29, hE_2⟩ := bind_some hE_2
     refine Tri.drawT mixedT Sep.up [0, 1, 2, 3, 4, 5, 6, 7, 8, 9, 10] [11] (.q 0 (.q 1 (.q 2 (.q 3 (.q 4 (.alt 5 (.alt 6 (.alt 7 (.alt 8 (.alt 9 (.alt 10 .nil .stop) .stop) (.alt 9 (.alt 8 (.alt 10 .nil .stop) (.alt 10 (.alt 8 .nil .stop) .stop)) .stop)) (.alt 8 (.alt 7 (.alt 9 (.alt 10 .nil .stop) .stop) (.alt 9 (.alt 7 (.alt 10 .nil .stop) .stop) .stop)) (.alt 9 (.alt 7 (.alt 8 (.alt 10 .nil .stop) (.alt 10 (.alt 8 .nil .stop) .stop)) (.alt 8 (.alt 7 (.alt 10 .nil .stop) .stop) .stop)) .stop))) (.alt 9 (.alt 6 (.alt 7 (.alt 8 (.alt 10 .nil .stop) (.alt 10 (.alt 8 .nil .stop) .stop)) (.alt 8 (.alt 7 (.alt 10 .nil .stop) .stop) .stop)) .stop) .stop)) (.alt 9 (.alt 5 (.alt 6 (.alt 7 (.alt 8 (.alt 10 .nil .stop) (.alt 10 (.alt 8 .nil .stop) .stop)) (.alt 8 (.alt 7 (.alt 10 .nil .stop) .stop) .stop)) .stop) .stop) .stop))))))) (by kernel_rfl) ?_
     refine T.q rfl rfl rfl (wanted_none rfl) (r_loadA ta44 ti44 rfl rfl (fun w hw => (box_cells (i := 0) rfl w hw))) ?_
     refine T.q rfl rfl rfl (wanted_none rfl) (r_move rfl) ?_
     refine T.q rfl rfl rfl (wanted_none rfl) (r_move rfl) ?_
     refine T.q rfl rfl rfl (wanted_none rfl) (r_indexAddrS Tryz.underlying53 ti48 rfl hl_va1 rfl (rdl_some h27).1 (rdl_some h27).2.1) ?_
     refine T.q rfl rfl rfl (wanted_none rfl) (r_loadA ta48 ti48 rfl rfl (fun w hw => (Rd.flat ((fun _ hw => hr_a1.sep hw) w hw) (rdl_some h27).2.2))) ?_
     refine T.ef rfl rfl rfl (wanted_none rfl) (Makes.does (m_callF (xs := _) rfl ok114 rfl rfl (fun w hw => spec_l12Do.ok h29 w ((rd_sl (i := 2) rfl) w hw) ((rd_sl (i := 3) rfl) w hw) ((rd_sl (i := 4) rfl) w hw)))) (by rintro _ _ ⟨_, ⟨v29_4, S29_4, v29_5, S29_5, v29_6, S29_6, rfl, hl_v29_4, hl_v29_5, hl_v29_6, rfl⟩, rfl⟩; exact upd rfl [3, 4, 5, 6, 7] rfl rfl) ?_ ?_
     ·rintro _ _ ⟨_, ⟨v29_4, S29_4, v29_5, S29_5, v29_6, S29_6, rfl, hl_v29_4, hl_v29_5, hl_v29_6, rfl⟩, rfl⟩
      refine T.ef rfl rfl rfl (wanted_none rfl) (Runs.does (r_move rfl)) (by rintro _ _ ⟨rfl, rfl⟩; exact upd rfl [3, 4, 5, 6, 7] rfl rfl) ?_ ?_
      ·rintro _ _ ⟨rfl, rfl⟩
       refine T.ef rfl rfl rfl (wanted_none rfl) (Runs.does (r_extract rfl rfl)) (by rintro _ _ ⟨rfl, rfl⟩; exact upd rfl [3, 4, 5, 6, 7] rfl rfl) ?_ ?_
       ·rintro _ _ ⟨rfl, rfl⟩
        refine T.ef rfl rfl rfl (wanted_none rfl) (Runs.does (r_extract rfl rfl)) (by rintro _ _ ⟨rfl, rfl⟩; exact upd rfl [3, 4, 5, 6, 7] rfl rfl) ?_ ?_
        ·rintro _ _ ⟨rfl, rfl⟩
         refine T.ef rfl rfl rfl (wanted_none rfl) (Makes.does (m_alloc ti44)) (by rintro _ _ ⟨b9_3, rfl, rfl⟩; exact upd rfl [4, 5, 6, 7, 8] rfl rfl) ?_ ?_
         ·rintro _ _ ⟨b9_3, rfl, rfl⟩
          refine T.ef0 rfl rfl (wanted_none rfl) (d_storeG0 (i := 0) (cs2 := [.int .i64 t29_1, v29_4, v29_5, v29_6, .int .i64 t29_5]) ti44 rfl rfl rfl rfl rfl (Nat.le_of_ble_eq_true rfl) (lf_cons rfl (lf_cons (sl_leaf hl_v29_4) (lf_cons (sl_leaf hl_v29_5) (lf_cons (sl_leaf hl_v29_6) (lf_cons rfl lf_nil)))))) (by rintro _ _ ⟨rfl, rfl⟩; exact upd rfl [4, 5, 6, 7, 8] rfl rfl) ?_ ?_
          ·rintro _ _ ⟨rfl, rfl⟩
           refine T.nil ?_
           refine F.qn rfl (r_assign rfl) (F.nil ?_)
           cases hE_2
           refine Nrm.only [1, 4, 7, 8, 9, 10] rfl ?_
           refine Nrm.pick [4, 5, 0, 1, 2, 3, 6, 7, 8] rfl rfl ?_
           exact hj_1 _ _ ⟨v29_4, S29_4, v29_5, S29_5, v29_6, S29_6, b9_3, hl_v29_4, hl_v29_5, hl_v29_6, rfl, rfl⟩
          exact T.stop
         exact T.stop
        ·refine T.ef rfl rfl rfl (wanted_none rfl) (Makes.does (m_alloc ti44)) (by rintro _ _ ⟨b9_4, rfl, rfl⟩; exact upd rfl [4, 5, 6, 7, 8] rfl rfl) ?_ ?_
         ·rintro _ _ ⟨b9_4, rfl, rfl⟩
          refine T.ef rfl rfl rfl (wanted_none rfl) (Runs.does (r_extract rfl rfl)) (by rintro _ _ ⟨rfl, rfl⟩; exact upd rfl [4, 5, 6, 7, 8] rfl rfl) ?_ ?_
          ·rintro _ _ ⟨rfl, rfl⟩
           refine T.ef0 rfl rfl (wanted_none rfl) (d_storeG0 (i := 0) (cs2 := [.int .i64 t29_1, v29_4, v29_5, v29_6, .int .i64 t29_5]) ti44 rfl rfl rfl rfl rfl (Nat.le_of_ble_eq_true rfl) (lf_cons rfl (lf_cons (sl_leaf hl_v29_4) (lf_cons (sl_leaf hl_v29_5) (lf_cons (sl_leaf hl_v29_6) (lf_cons rfl lf_nil)))))) (by rintro _ _ ⟨rfl, rfl⟩; exact upd rfl [4, 5, 6, 7, 8] rfl rfl) ?_ ?_
           ·rintro _ _ ⟨rfl, rfl⟩
            refine T.nil ?_
            refine F.qn rfl (r_assign rfl) (F.nil ?_)
            cases hE_2
            refine Nrm.only [1, 4, 7, 8, 9, 10] rfl ?_
            refine Nrm.pick [4, 5, 0, 1, 2, 3, 6, 7, 8] rfl rfl ?_
            exact hj_1 _ _ ⟨v29_4, S29_4, v29_5, S29_5, v29_6, S29_6, b9_4, hl_v29_4, hl_v29_5, hl_v29_6, rfl, rfl⟩
           exact T.stop
          ·refine T.ef0 rfl rfl (wanted_none rfl) (d_storeG0 (i := 0) (cs2 := [.int .i64 t29_1, v29_4, v29_5, v29_6, .int .i64 t29_5]) ti44 rfl rfl rfl rfl rfl (Nat.le_of_ble_eq_true rfl) (lf_cons rfl (lf_cons (sl_leaf hl_v29_4) (lf_cons (sl_leaf hl_v29_5) (lf_cons (sl_leaf hl_v29_6) (lf_cons rfl lf_nil)))))) (by rintro _ _ ⟨rfl, rfl⟩; exact upd rfl [4, 5, 6, 7, 8] rfl rfl) ?_ ?_
           ·rintro _ _ ⟨rfl, rfl⟩
            refine T.ef rfl rfl rfl (wanted_none rfl) (Runs.does (r_extract rfl rfl)) (by rintro _ _ ⟨rfl, rfl⟩; exact upd rfl [4, 5, 6, 7, 8] rfl rfl) ?_ ?_
            ·rintro _ _ ⟨rfl, rfl⟩
             refine T.nil ?_
             refine F.qn rfl (r_assign rfl) (F.nil ?_)
             cases hE_2
             refine Nrm.only [1, 4, 7, 8, 9, 10] rfl ?_
             refine Nrm.pick [4, 5, 0, 1, 2, 3, 6, 7, 8] rfl rfl ?_
             exact hj_1 _ _ ⟨v29_4, S29_4, v29_5, S29_5, v29_6, S29_6, b9_4, hl_v29_4, hl_v29_5, hl_v29_6, rfl, rfl⟩
            exact T.stop
           exact T.stop
         exact T.stop
       ·refine T.ef rfl rfl rfl (wanted_none rfl) (Runs.does (r_extract rfl rfl)) (by rintro _ _ ⟨rfl, rfl⟩; exact upd rfl [3, 4, 5, 6, 7] rfl rfl) ?_ ?_
        ·rintro _ _ ⟨rfl, rfl⟩
         refine T.ef rfl rfl rfl (wanted_none rfl) (Runs.does (r_extract rfl rfl)) (by rintro _ _ ⟨rfl, rfl⟩; exact upd rfl [3, 4, 5, 6, 7] rfl rfl) ?_ ?_
         ·rintro _ _ ⟨rfl, rfl⟩
          refine T.ef rfl rfl rfl (wanted_none rfl) (Makes.does (m_alloc ti44)) (by rintro _ _ ⟨b9_5, rfl, rfl⟩; exact upd rfl [4, 5, 6, 7, 8] rfl rfl) ?_ ?_
          ·rintro _ _ ⟨b9_5, rfl, rfl⟩
           refine T.ef0 rfl rfl (wanted_none rfl) (d_storeG0 (i := 0) (cs2 := [.int .i64 t29_1, v29_4, v29_5, v29_6, .int .i64 t29_5]) ti44 rfl rfl rfl rfl rfl (Nat.le_of_ble_eq_true rfl) (lf_cons rfl (lf_cons (sl_leaf hl_v29_4) (lf_cons (sl_leaf hl_v29_5) (lf_cons (sl_leaf hl_v29_6) (lf_cons rfl lf_nil)))))) (by rintro _ _ ⟨rfl, rfl⟩; exact upd rfl [4, 5, 6, 7, 8] rfl rfl) ?_ ?_
           ·rintro _ _ ⟨rfl, rfl⟩
            refine T.nil ?_
            refine F.qn rfl (r_assign rfl) (F.nil ?_)
            cases hE_2
            refine Nrm.only [1, 4, 7, 8, 9, 10] rfl ?_
            refine Nrm.pick [4, 5, 0, 1, 2, 3, 6, 7, 8] rfl rfl ?_
            exact hj_1 _ _ ⟨v29_4, S29_4, v29_5, S29_5, v29_6, S29_6, b9_5, hl_v29_4, hl_v29_5, hl_v29_6, rfl, rfl⟩
           exact T.stop
          exact T.stop
         ·refine T.ef rfl rfl rfl (wanted_none rfl) (Makes.does (m_alloc ti44)) (by rintro _ _ ⟨b9_6, rfl, rfl⟩; exact upd rfl [4, 5, 6, 7, 8] rfl rfl) ?_ ?_
          ·rintro _ _ ⟨b9_6, rfl, rfl⟩
           refine T.ef rfl rfl rfl (wanted_none rfl) (Runs.does (r_extract rfl rfl)) (by rintro _ _ ⟨rfl, rfl⟩; exact upd rfl [4, 5, 6, 7, 8] rfl rfl) ?_ ?_
           ·rintro _ _ ⟨rfl, rfl⟩
            refine T.ef0 rfl rfl (wanted_none rfl) (d_storeG0 (i := 0) (cs2 := [.int .i64 t29_1, v29_4, v29_5, v29_6, .int .i64 t29_5]) ti44 rfl rfl rfl rfl rfl (Nat.le_of_ble_eq_true rfl) (lf_cons rfl (lf_cons (sl_leaf hl_v29_4) (lf_cons (sl_leaf hl_v29_5) (lf_cons (sl_leaf hl_v29_6) (lf_cons rfl lf_nil)))))) (by rintro _ _ ⟨rfl, rfl⟩; exact upd rfl [4, 5, 6, 7, 8] rfl rfl) ?_ ?_
            ·rintro _ _ ⟨rfl, rfl⟩
             refine T.nil ?_
             refine F.qn rfl (r_assign rfl) (F.nil ?_)
             cases hE_2
             refine Nrm.only [1, 4, 7, 8, 9, 10] rfl ?_
             refine Nrm.pick [4, 5, 0, 1, 2, 3, 6, 7, 8] rfl rfl ?_
             exact hj_1 _ _ ⟨v29_4, S29_4, v29_5, S29_5, v29_6, S29_6, b9_6, hl_v29_4, hl_v29_5, hl_v29_6, rfl, rfl⟩
            exact T.stop
           exact T.stop
          exact T.stop
        ·refine T.ef rfl rfl rfl (wanted_none rfl) (Makes.does (m_alloc ti44)) (by rintro _ _ ⟨b9_7, rfl, rfl⟩; exact upd rfl [4, 5, 6, 7, 8] rfl rfl) ?_ ?_
         ·rintro _ _ ⟨b9_7, rfl, rfl⟩
          refine T.ef rfl rfl rfl (wanted_none rfl) (Runs.does (r_extract rfl rfl)) (by rintro _ _ ⟨rfl, rfl⟩; exact upd rfl [4, 5, 6, 7, 8] rfl rfl) ?_ ?_
          ·rintro _ _ ⟨rfl, rfl⟩
           refine T.ef rfl rfl rfl (wanted_none rfl) (Runs.does (r_extract rfl rfl)) (by rintro _ _ ⟨rfl, rfl⟩; exact upd rfl [4, 5, 6, 7, 8] rfl rfl) ?_ ?_
           ·rintro _ _ ⟨rfl, rfl⟩
            refine T.ef0 rfl rfl (wanted_none rfl) (d_storeG0 (i := 0) (cs2 := [.int .i64 t29_1, v29_4, v29_5, v29_6, .int .i64 t29_5]) ti44 rfl rfl rfl rfl rfl (Nat.le_of_ble_eq_true rfl) (lf_cons rfl (lf_cons (sl_leaf hl_v29_4) (lf_cons (sl_leaf hl_v29_5) (lf_cons (sl_leaf hl_v29_6) (lf_cons rfl lf_nil)))))) (by rintro _ _ ⟨rfl, rfl⟩; exact upd rfl [4, 5, 6, 7, 8] rfl rfl) ?_ ?_
            ·rintro _ _ ⟨rfl, rfl⟩
             refine T.nil ?_
             refine F.qn rfl (r_assign rfl) (F.nil ?_)
             cases hE_2
             refine Nrm.only [1, 4, 7, 8, 9, 10] rfl ?_
             refine Nrm.pick [4, 5, 0, 1, 2, 3, 6, 7, 8] rfl rfl ?_
             exact hj_1 _ _ ⟨v29_4, S29_4, v29_5, S29_5, v29_6, S29_6, b9_7, hl_v29_4, hl_v29_5, hl_v29_6, rfl, rfl⟩
            exact T.stop
           ·refine T.ef0 rfl rfl (wanted_none rfl) (d_storeG0 (i := 0) (cs2 := [.int .i64 t29_1, v29_4, v29_5, v29_6, .int .i64 t29_5]) ti44 rfl rfl rfl rfl rfl (Nat.le_of_ble_eq_true rfl) (lf_cons rfl (lf_cons (sl_leaf hl_v29_4) (lf_cons (sl_leaf hl_v29_5) (lf_cons (sl_leaf hl_v29_6) (lf_cons rfl lf_nil)))))) (by rintro _ _ ⟨rfl, rfl⟩; exact upd rfl [4, 5, 6, 7, 8] rfl rfl) ?_ ?_
            ·rintro _ _ ⟨rfl, rfl⟩
             refine T.ef rfl rfl rfl (wanted_none rfl) (Runs.does (r_extract rfl rfl)) (by rintro _ _ ⟨rfl, rfl⟩; exact upd rfl [4, 5, 6, 7, 8] rfl rfl) ?_ ?_
             ·rintro _ _ ⟨rfl, rfl⟩
              refine T.nil ?_
              refine F.qn rfl (r_assign rfl) (F.nil ?_)
              cases hE_2
              refine Nrm.only [1, 4, 7, 8, 9, 10] rfl ?_
              refine Nrm.pick [4, 5, 0, 1, 2, 3, 6, 7, 8] rfl rfl ?_
              exact hj_1 _ _ ⟨v29_4, S29_4, v29_5, S29_5, v29_6, S29_6, b9_7, hl_v29_4, hl_v29_5, hl_v29_6, rfl, rfl⟩
             exact T.stop
            exact T.stop
          ·refine T.ef rfl rfl rfl (wanted_none rfl) (Runs.does (r_extract rfl rfl)) (by rintro _ _ ⟨rfl, rfl⟩; exact upd rfl [4, 5, 6, 7, 8] rfl rfl) ?_ ?_
           ·rintro _ _ ⟨rfl, rfl⟩
            refine T.ef rfl rfl rfl (wanted_none rfl) (Runs.does (r_extract rfl rfl)) (by rintro _ _ ⟨rfl, rfl⟩; exact upd rfl [4, 5, 6, 7, 8] rfl rfl) ?_ ?_
            ·rintro _ _ ⟨rfl, rfl⟩
             refine T.ef0 rfl rfl (wanted_none rfl) (d_storeG0 (i := 0) (cs2 := [.int .i64 t29_1, v29_4, v29_5, v29_6, .int .i64 t29_5]) ti44 rfl rfl rfl rfl rfl (Nat.le_of_ble_eq_true rfl) (lf_cons rfl (lf_cons (sl_leaf hl_v29_4) (lf_cons (sl_leaf hl_v29_5) (lf_cons (sl_leaf hl_v29_6) (lf_cons rfl lf_nil)))))) (by rintro _ _ ⟨rfl, rfl⟩; exact upd rfl [4, 5, 6, 7, 8] rfl rfl) ?_ ?_
             ·rintro _ _ ⟨rfl, rfl⟩
              refine T.nil ?_
              refine F.qn rfl (r_assign rfl) (F.nil ?_)
              cases hE_2
              refine Nrm.only [1, 4, 7, 8, 9, 10] rfl ?_
              refine Nrm.pick [4, 5, 0, 1, 2, 3, 6, 7, 8] rfl rfl ?_
              exact hj_1 _ _ ⟨v29_4, S29_4, v29_5, S29_5, v29_6, S29_6, b9_7, hl_v29_4, hl_v29_5, hl_v29_6, rfl, rfl⟩
             exact T.stop
            exact T.stop
           exact T.stop
         exact T.stop
      ·refine T.ef rfl rfl rfl (wanted_none rfl) (Makes.does (m_alloc ti44)) (by rintro _ _ ⟨b9_8, rfl, rfl⟩; exact upd rfl [4, 5, 6, 7, 8] rfl rfl) ?_ ?_
       ·rintro _ _ ⟨b9_8, rfl, rfl⟩
        refine T.ef rfl rfl rfl (wanted_none rfl) (Runs.does (r_move rfl)) (by rintro _ _ ⟨rfl, rfl⟩; exact upd rfl [4, 5, 6, 7, 8] rfl rfl) ?_ ?_
        ·rintro _ _ ⟨rfl, rfl⟩
         refine T.ef rfl rfl rfl (wanted_none rfl) (Runs.does (r_extract rfl rfl)) (by rintro _ _ ⟨rfl, rfl⟩; exact upd rfl [4, 5, 6, 7, 8] rfl rfl) ?_ ?_
         ·rintro _ _ ⟨rfl, rfl⟩
          refine T.ef rfl rfl rfl (wanted_none rfl) (Runs.does (r_extract rfl rfl)) (by rintro _ _ ⟨rfl, rfl⟩; exact upd rfl [4, 5, 6, 7, 8] rfl rfl) ?_ ?_
          ·rintro _ _ ⟨rfl, rfl⟩
           refine T.ef0 rfl rfl (wanted_none rfl) (d_storeG0 (i := 0) (cs2 := [.int .i64 t29_1, v29_4, v29_5, v29_6, .int .i64 t29_5]) ti44 rfl rfl rfl rfl rfl (Nat.le_of_ble_eq_true rfl) (lf_cons rfl (lf_cons (sl_leaf hl_v29_4) (lf_cons (sl_leaf hl_v29_5) (lf_cons (sl_leaf hl_v29_6) (lf_cons rfl lf_nil)))))) (by rintro _ _ ⟨rfl, rfl⟩; exact upd rfl [4, 5, 6, 7, 8] rfl rfl) ?_ ?_
           ·rintro _ _ ⟨rfl, rfl⟩
            refine T.nil ?_
            refine F.qn rfl (r_assign rfl) (F.nil ?_)
            cases hE_2
            refine Nrm.only [1, 4, 7, 8, 9, 10] rfl ?_
            refine Nrm.pick [4, 5, 0, 1, 2, 3, 6, 7, 8] rfl rfl ?_
            exact hj_1 _ _ ⟨v29_4, S29_4, v29_5, S29_5, v29_6, S29_6, b9_8, hl_v29_4, hl_v29_5, hl_v29_6, rfl, rfl⟩
           exact T.stop
          ·refine T.ef0 rfl rfl (wanted_none rfl) (d_storeG0 (i := 0) (cs2 := [.int .i64 t29_1, v29_4, v29_5, v29_6, .int .i64 t29_5]) ti44 rfl rfl rfl rfl rfl (Nat.le_of_ble_eq_true rfl) (lf_cons rfl (lf_cons (sl_leaf hl_v29_4) (lf_cons (sl_leaf hl_v29_5) (lf_cons (sl_leaf hl_v29_6) (lf_cons rfl lf_nil)))))) (by rintro _ _ ⟨rfl, rfl⟩; exact upd rfl [4, 5, 6, 7, 8] rfl rfl) ?_ ?_
           ·rintro _ _ ⟨rfl, rfl⟩
            refine T.ef rfl rfl rfl (wanted_none rfl) (Runs.does (r_extract rfl rfl)) (by rintro _ _ ⟨rfl, rfl⟩; exact upd rfl [4, 5, 6, 7, 8] rfl rfl) ?_ ?_
            ·rintro _ _ ⟨rfl, rfl⟩
             refine T.nil ?_
             refine F.qn rfl (r_assign rfl) (F.nil ?_)
             cases hE_2
             refine Nrm.only [1, 4, 7, 8, 9, 10] rfl ?_
             refine Nrm.pick [4, 5, 0, 1, 2, 3, 6, 7, 8] rfl rfl ?_
             exact hj_1 _ _ ⟨v29_4, S29_4, v29_5, S29_5, v29_6, S29_6, b9_8, hl_v29_4, hl_v29_5, hl_v29_6, rfl, rfl⟩
            exact T.stop
           exact T.stop
         ·refine T.ef rfl rfl rfl (wanted_none rfl) (Runs.does (r_extract rfl rfl)) (by rintro _ _ ⟨rfl, rfl⟩; exact upd rfl [4, 5, 6, 7, 8] rfl rfl) ?_ ?_
          ·rintro _ _ ⟨rfl, rfl⟩
           refine T.ef rfl rfl rfl (wanted_none rfl) (Runs.does (r_extract rfl rfl)) (by rintro _ _ ⟨rfl, rfl⟩; exact upd rfl [4, 5, 6, 7, 8] rfl rfl) ?_ ?_
           ·rintro _ _ ⟨rfl, rfl⟩
            refine T.ef0 rfl rfl (wanted_none rfl) (d_storeG0 (i := 0) (cs2 := [.int .i64 t29_1, v29_4, v29_5, v29_6, .int .i64 t29_5]) ti44 rfl rfl rfl rfl rfl (Nat.le_of_ble_eq_true rfl) (lf_cons rfl (lf_cons (sl_leaf hl_v29_4) (lf_cons (sl_leaf hl_v29_5) (lf_cons (sl_leaf hl_v29_6) (lf_cons rfl lf_nil)))))) (by rintro _ _ ⟨rfl, rfl⟩; exact upd rfl [4, 5, 6, 7, 8] rfl rfl) ?_ ?_
            ·rintro _ _ ⟨rfl, rfl⟩
             refine T.nil ?_
             refine F.qn rfl (r_assign rfl) (F.nil ?_)
             cases hE_2
             refine Nrm.only [1, 4, 7, 8, 9, 10] rfl ?_
             refine Nrm.pick [4, 5, 0, 1, 2, 3, 6, 7, 8] rfl rfl ?_
             exact hj_1 _ _ ⟨v29_4, S29_4, v29_5, S29_5, v29_6, S29_6, b9_8, hl_v29_4, hl_v29_5, hl_v29_6, rfl, rfl⟩
            exact T.stop
           exact T.stop
          exact T.stop
        exact T.stop
       exact T.stop
     ·refine T.ef rfl rfl rfl (wanted_none rfl) (Makes.does (m_alloc ti44)) (by rintro _ _ ⟨b9_9, rfl, rfl⟩; exact upd rfl [1, 2, 3, 4, 5] rfl rfl) ?_ ?_
      ·rintro _ _ ⟨b9_9, rfl, rfl⟩
       refine T.ef rfl rfl rfl (wanted_none rfl) (Makes.does (m_callF (xs := _) rfl ok114 rfl rfl (fun w hw => spec_l12Do.ok h29 w ((rd_sl (i := 3) rfl) w hw) ((rd_sl (i := 4) rfl) w hw) ((rd_sl (i := 5) rfl) w hw)))) (by rintro _ _ ⟨_, ⟨v29_7, S29_7, v29_8, S29_8, v29_9, S29_9, rfl, hl_v29_7, hl_v29_8, hl_v29_9, rfl⟩, rfl⟩; exact upd rfl [4, 5, 6, 7, 8] rfl rfl) ?_ ?_
       ·rintro _ _ ⟨_, ⟨v29_7, S29_7, v29_8, S29_8, v29_9, S29_9, rfl, hl_v29_7, hl_v29_8, hl_v29_9, rfl⟩, rfl⟩
        refine T.ef rfl rfl rfl (wanted_none rfl) (Runs.does (r_move rfl)) (by rintro _ _ ⟨rfl, rfl⟩; exact upd rfl [4, 5, 6, 7, 8] rfl rfl) ?_ ?_
        ·rintro _ _ ⟨rfl, rfl⟩
         refine T.ef rfl rfl rfl (wanted_none rfl) (Runs.does (r_extract rfl rfl)) (by rintro _ _ ⟨rfl, rfl⟩; exact upd rfl [4, 5, 6, 7, 8] rfl rfl) ?_ ?_
         ·rintro _ _ ⟨rfl, rfl⟩
          refine T.ef rfl rfl rfl (wanted_none rfl) (Runs.does (r_extract rfl rfl)) (by rintro _ _ ⟨rfl, rfl⟩; exact upd rfl [4, 5, 6, 7, 8] rfl rfl) ?_ ?_
          ·rintro _ _ ⟨rfl, rfl⟩
           refine T.ef0 rfl rfl (wanted_none rfl) (d_storeG0 (i := 3) (cs2 := [.int .i64 t29_1, v29_7, v29_8, v29_9, .int .i64 t29_5]) ti44 rfl rfl rfl rfl rfl (Nat.le_of_ble_eq_true rfl) (lf_cons rfl (lf_cons (sl_leaf hl_v29_7) (lf_cons (sl_leaf hl_v29_8) (lf_cons (sl_leaf hl_v29_9) (lf_cons rfl lf_nil)))))) (by rintro _ _ ⟨rfl, rfl⟩; exact upd rfl [4, 5, 6, 7, 8] rfl rfl) ?_ ?_
           ·rintro _ _ ⟨rfl, rfl⟩
            refine T.nil ?_
            refine F.qn rfl (r_assign rfl) (F.nil ?_)
            cases hE_2
            refine Nrm.only [1, 4, 7, 8, 9, 10] rfl ?_
            refine Nrm.pick [4, 5, 3, 0, 1, 2, 6, 7, 8] rfl rfl ?_
            exact hj_1 _ _ ⟨v29_7, S29_7, v29_8, S29_8, v29_9, S29_9, b9_9, hl_v29_7, hl_v29_8, hl_v29_9, rfl, rfl⟩
           exact T.stop
          ·refine T.ef0 rfl rfl (wanted_none rfl) (d_storeG0 (i := 3) (cs2 := [.int .i64 t29_1, v29_7, v29_8, v29_9, .int .i64 t29_5]) ti44 rfl rfl rfl rfl rfl (Nat.le_of_ble_eq_true rfl) (lf_cons rfl (lf_cons (sl_leaf hl_v29_7) (lf_cons (sl_leaf hl_v29_8) (lf_cons (sl_leaf hl_v29_9) (lf_cons rfl lf_nil)))))) (by rintro _ _ ⟨rfl, rfl⟩; exact upd rfl [4, 5, 6, 7, 8] rfl rfl) ?_ ?_
           ·rintro _ _ ⟨rfl, rfl⟩
            refine T.ef rfl rfl rfl (wanted_none rfl) (Runs.does (r_extract rfl rfl)) (by rintro _ _ ⟨rfl, rfl⟩; exact upd rfl [4, 5, 6, 7, 8] rfl rfl) ?_ ?_
            ·rintro _ _ ⟨rfl, rfl⟩
             refine T.nil ?_
             refine F.qn rfl (r_assign rfl) (F.nil ?_)
             cases hE_2
             refine Nrm.only [1, 4, 7, 8, 9, 10] rfl ?_
             refine Nrm.pick [4, 5, 3, 0, 1, 2, 6, 7, 8] rfl rfl ?_
             exact hj_1 _ _ ⟨v29_7, S29_7, v29_8, S29_8, v29_9, S29_9, b9_9, hl_v29_7, hl_v29_8, hl_v29_9, rfl, rfl⟩
            exact T.stop
           exact T.stop
         ·refine T.ef rfl rfl rfl (wanted_none rfl) (Runs.does (r_extract rfl rfl)) (by rintro _ _ ⟨rfl, rfl⟩; exact upd rfl [4, 5, 6, 7, 8] rfl rfl) ?_ ?_
          ·rintro _ _ ⟨rfl, rfl⟩
           refine T.ef rfl rfl rfl (wanted_none rfl) (Runs.does (r_extract rfl rfl)) (by rintro _ _ ⟨rfl, rfl⟩; exact upd rfl [4, 5, 6, 7, 8] rfl rfl) ?_ ?_
           ·rintro _ _ ⟨rfl, rfl⟩
            refine T.ef0 rfl rfl (wanted_none rfl) (d_storeG0 (i := 3) (cs2 := [.int .i64 t29_1, v29_7, v29_8, v29_9, .int .i64 t29_5]) ti44 rfl rfl rfl rfl rfl (Nat.le_of_ble_eq_true rfl) (lf_cons rfl (lf_cons (sl_leaf hl_v29_7) (lf_cons (sl_leaf hl_v29_8) (lf_cons (sl_leaf hl_v29_9) (lf_cons rfl lf_nil)))))) (by rintro _ _ ⟨rfl, rfl⟩; exact upd rfl [4, 5, 6, 7, 8] rfl rfl) ?_ ?_
            ·rintro _ _ ⟨rfl, rfl⟩
             refine T.nil ?_
             refine F.qn rfl (r_assign rfl) (F.nil ?_)
             cases hE_2
             refine Nrm.only [1, 4, 7, 8, 9, 10] rfl ?_
             refine Nrm.pick [4, 5, 3, 0, 1, 2, 6, 7, 8] rfl rfl ?_
             exact hj_1 _ _ ⟨v29_7, S29_7, v29_8, S29_8, v29_9, S29_9, b9_9, hl_v29_7, hl_v29_8, hl_v29_9, rfl, rfl⟩
            exact T.stop
           exact T.stop
          exact T.stop
        exact T.stop
       exact T.stop
      exact T.stop
   ·replace hE_1 := if_ff g_2 hE_1
    refine Tri.exit ?_
    refine Exi.then ?_
    refine Exi.then ?_
    refine Exi.same ?_
    cases hE_1
    replace h := Lr_inl h
    refine Nrm.seq (Tri.seq (Tri.reg (l := [0, 1, 2, 3, 4, 5]) rfl ?_))
    refine F.qn rfl (r_loadA ta44 ti44 rfl rfl (fun w hw => (box_cells (i := 0) rfl w hw))) (F.qn rfl (r_move rfl) (F.qn rfl (r_len Tryz.underlying53 rfl hl_va1) ?_))
    refine F.ef0 rfl rfl (wanted_none rfl) (d_storeG0 (i := 1) (cs2 := [.int .i64 xb7_1_0, wq7_1_1, wq7_1_2, wq7_1_3, .int .i64 xb7_1_4]) ti44 rfl rfl rfl rfl rfl (Nat.le_of_ble_eq_true rfl) (lf_cons rfl (lf_cons (sl_leaf hl_wq7_1_1) (lf_cons (sl_leaf hl_wq7_1_2) (lf_cons (sl_leaf hl_wq7_1_3) (lf_cons rfl lf_nil)))))) ?_
    rintro _ _ ⟨rfl, rfl⟩
    refine F.qn rfl (r_assign rfl) (F.qn rfl (r_assign rfl) (F.nil (Nrm.seq (Tri.ret ?_))))
    cases h
    exact Rtn.body (.cell rfl ta44 ti44 rfl (fun _ hw => box_cells (i := 1) rfl _ hw) (.tmp rfl (.tmp rfl .nil))) (fun w hw => ⟨_, _, rfl, ⟨wq7_1_1, Tq7_1_1, wq7_1_2, Tq7_1_2, wq7_1_3, Tq7_1_3, rfl, hl_wq7_1_1, hl_wq7_1_2, hl_wq7_1_3, rfl⟩, Sep.pick (is := [2, 3, 4]) rfl rfl hw⟩)


def impl_hasNow.f (k : Nat) (a0_0 : Int) (a0_1 : List (Int × Int × Int)) (a0_2 : List Int) (a0_3 : List Int) (a0_4 : Int) : Option (Int) := (impl_taken.f k a0_0 a0_1 a0_2 a0_3).bind fun (t10_1, t10_2) => (rdl t10_1 (w64 ((t10_1.length : Int) - 1))).bind fun t17 => some t17

theorem impl_hasNow.ok {k : Nat}  {a0_0 : Int} {a0_1 : List (Int × Int × Int)} {a0_2 : List Int} {a0_3 : List Int} {a0_4 : Int} {r0 : Int} (h : impl_hasNow.f k a0_0 a0_1 a0_2 a0_3 a0_4 = some r0) (w : World) {va0_1 : Value} {va0_2 : Value} {va0_3 : Value} (hr_a0_1 : Rd w va0_1 a0_1) (hr_a0_2 : Rd w va0_2 a0_2) (hr_a0_3 : Rd w va0_3 a0_3) :
  Calls Tryz.prog 117 ([.agg ([.int .i64 a0_0, va0_1, va0_2, va0_3, .int .i64 a0_4].toArray)] : List Value).toArray w (fun e w' => e = .returned (.int .i64 r0) ∧ Ext w w') := by
 unfold impl_hasNow.f at h
 have hl_va0_1 := hr_a0_1.len
 have hl_va0_2 := hr_a0_2.len
 have hl_va0_3 := hr_a0_3.len
 refine Calls.of_tri (N := 19) Tryz.func117 rfl rfl rfl (Sep.nil (M := noM)) ?_
 refine Tri.seq (Tri.reg (l := [0, 1]) rfl ?_)
 refine F.mn rfl (m_boxG rfl rfl) ?_
 rintro _ _ ⟨b1_1, rfl, rfl⟩
 refine F.qn rfl (r_assign rfl) (F.nil (Nrm.seq (Tri.seq ?_)))
 obtain ⟨⟨t10_1, t10_2⟩, h10, h⟩ := bind_some h
 refine Tri.reg (l := [0, 1, 2, 3, 4, 5, 6, 7, 8, 9]) rfl ?_
 refine F.qn rfl (r_fieldAddr tf44_0 rfl) (F.qn rfl (r_loadA ta27 ti27 rfl rfl (fun w hw => cells_1 (cs' := [.int .i64 a0_0, va0_1, va0_2]) (box_cells (i := 0) rfl w hw) rfl)) (F.qn rfl (r_fieldAddr tf44_1 rfl) (F.qn rfl (r_load ta25 rfl (fun w hw => cell_1 (box_cells (i := 0) rfl w hw) rfl)) ?_)))
 refine F.mn rfl (m_callF (xs := _) rfl ok123 rfl rfl (fun w hw => impl_taken.ok h10 w ((fun _ hw => hr_a0_1.sep hw) w hw) ((fun _ hw => hr_a0_2.sep hw) w hw) ((fun _ hw => hr_a0_3.sep hw) w hw))) ?_
 rintro _ _ ⟨_, ⟨v10_1, S10_1, rfl, hl_v10_1, rfl⟩, rfl⟩
 refine F.qn rfl (r_move rfl) (F.qn rfl (r_extract rfl rfl) (F.qn rfl (r_extract rfl rfl) (F.qn rfl (r_assign rfl) (F.qn rfl (r_assign rfl) (F.nil (Nrm.seq (Tri.seq ?_)))))))
 obtain ⟨t17, h17, h⟩ := bind_some h
 refine Tri.reg (l := [0, 1, 2, 3, 4, 5, 6]) rfl ?_
 refine F.qn rfl (r_move rfl) ?_
 refine F.qn rfl (r_move rfl) (F.qn rfl (r_len Tryz.underlying25 rfl hl_v10_1) (F.qn rfl (r_sub rfl rfl) (F.qn rfl (r_indexAddrS Tryz.underlying25 ti3 rfl hl_v10_1 rfl (rdl_some h17).1 (rdl_some h17).2.1) (F.qn rfl (r_load ta3 rfl (fun w hw => cell_0 (Rd.flat ((rd_sl (i := 0) rfl) w hw) (rdl_some h17).2.2) rfl)) (F.qn rfl (r_assign rfl) (F.nil (Nrm.seq (Tri.ret ?_))))))))
 cases h
 exact Rtn.body (.tmp rfl .nil) (fun w hw => ⟨rfl, hw.ext⟩)


def impl_HasNow.f (k : Nat) (a0_0 : Int) (a0_1 : List (Int × Int × Int)) (a0_2 : List Int) (a0_3 : List Int) (a0_4 : Int) : Option (Int × Bool) := (impl_IsVisit.f k a0_0 a0_1 a0_2 a0_3 a0_4).bind fun t5 => (if (!t5) = true then some (0, false) else (impl_hasNow.f k a0_0 a0_1 a0_2 a0_3 a0_4).bind fun t8 => some (t8, true))

theorem impl_HasNow.ok {k : Nat}  {a0_0 : Int} {a0_1 : List (Int × Int × Int)} {a0_2 : List Int} {a0_3 : List Int} {a0_4 : Int} {r0 : Int} {r1 : Bool} (h : impl_HasNow.f k a0_0 a0_1 a0_2 a0_3 a0_4 = some (r0, r1)) (w : World) {va0_1 : Value} {va0_2 : Value} {va0_3 : Value} (hr_a0_1 : Rd w va0_1 a0_1) (hr_a0_2 : Rd w va0_2 a0_2) (hr_a0_3 : Rd w va0_3 a0_3) :
  Calls Tryz.prog 38 ([.agg ([.int .i64 a0_0, va0_1, va0_2, va0_3, .int .i64 a0_4].toArray)] : List Value).toArray w (fun e w' => e = .returned (.tuple #[.int .i64 r0, .bool r1]) ∧ Ext w w') := by
 unfold impl_HasNow.f at h
 have hl_va0_1 := hr_a0_1.len
 have hl_va0_2 := hr_a0_2.len
 have hl_va0_3 := hr_a0_3.len
 refine Calls.of_tri (N := 9) Tryz.func38 rfl rfl rfl (Sep.nil (M := noM)) ?_
 refine Tri.seq (Tri.reg (l := [0, 1, 2]) rfl ?_)
 refine F.mn rfl (m_boxG rfl rfl) ?_
 rintro _ _ ⟨b1_1, rfl, rfl⟩
 refine F.qn rfl (r_assign rfl) (F.qn rfl (r_assign rfl) (F.nil (Nrm.seq (Tri.seq (Tri.seq ?_)))))
 obtain ⟨t5, h5, h⟩ := bind_some h
 refine Tri.reg (l := [0, 1, 2]) rfl ?_
 refine F.qn rfl (r_loadA ta44 ti44 rfl rfl (fun w hw => (box_cells (i := 0) rfl w hw))) ?_
 refine F.qcn rfl (q_callF (xs := _) rfl ok43 rfl rfl (fun w hw => impl_IsVisit.ok h5 w ((fun _ hw => hr_a0_1.sep hw) w hw) ((fun _ hw => hr_a0_2.sep hw) w hw) ((fun _ hw => hr_a0_3.sep hw) w hw))) ?_
 refine F.qn rfl (r_not rfl) (F.nil (Nrm.seq (Tri.cond (b := !t5) rfl (fun g_1 => ?_) (fun g_1 => ?_))))
 ·replace h := if_tt g_1 h
  refine Tri.seq (Tri.reg (l := [0, 1]) rfl ?_)
  refine F.qn rfl (r_assign rfl) (F.qn rfl (r_assign rfl) (F.nil (Nrm.seq (Tri.ret ?_))))
  refine Rtn.then ?_
  cases h
  exact Rtn.body (.tmp rfl (.tmp rfl .nil)) (fun w hw => ⟨rfl, hw.ext⟩)
 ·replace h := if_ff g_1 h
  refine Tri.skip (Nrm.seq (Tri.seq ?_))
  obtain ⟨t8, h8, h⟩ := bind_some h
  refine Tri.reg (l := [0, 1, 2, 3]) rfl ?_
  refine F.qn rfl (r_loadA ta44 ti44 rfl rfl (fun w hw => (box_cells (i := 0) rfl w hw))) ?_
  refine F.qcn rfl (q_callF (xs := _) rfl ok117 rfl rfl (fun w hw => impl_hasNow.ok h8 w ((fun _ hw => hr_a0_1.sep hw) w hw) ((fun _ hw => hr_a0_2.sep hw) w hw) ((fun _ hw => hr_a0_3.sep hw) w hw))) ?_
  refine F.qn rfl (r_assign rfl) (F.qn rfl (r_assign rfl) (F.nil (Nrm.seq (Tri.ret ?_))))
  cases h
  exact Rtn.body (.tmp rfl (.tmp rfl .nil)) (fun w hw => ⟨rfl, hw.ext⟩)


def spec_HasNow.f (k : Nat) (a0_0 : Int) (a0_1 : List (Int × Int × Int)) (a0_2 : List Int) (a0_3 : List Int) (a0_4 : Int) : Option (Int × Bool) := (spec_l12Good.f k a0_0 a0_1 a0_2 a0_3 a0_4).bind fun t5 => (if (!t5) = true then some (0, false) else (spec_l12Has.f k a0_0 a0_1 a0_2 a0_3 a0_4).bind fun t8 => some (t8, true))

theorem spec_HasNow.ok {k : Nat}  {a0_0 : Int} {a0_1 : List (Int × Int × Int)} {a0_2 : List Int} {a0_3 : List Int} {a0_4 : Int} {r0 : Int} {r1 : Bool} (h : spec_HasNow.f k a0_0 a0_1 a0_2 a0_3 a0_4 = some (r0, r1)) (w : World) {va0_1 : Value} {va0_2 : Value} {va0_3 : Value} (hr_a0_1 : Rd w va0_1 a0_1) (hr_a0_2 : Rd w va0_2 a0_2) (hr_a0_3 : Rd w va0_3 a0_3) :
  Calls Tryz.prog 39 ([.agg ([.int .i64 a0_0, va0_1, va0_2, va0_3, .int .i64 a0_4].toArray)] : List Value).toArray w (fun e w' => e = .returned (.tuple #[.int .i64 r0, .bool r1]) ∧ Ext w w') := by
 unfold spec_HasNow.f at h
 have hl_va0_1 := hr_a0_1.len
 have hl_va0_2 := hr_a0_2.len
 have hl_va0_3 := hr_a0_3.len
 refine Calls.of_tri (N := 9) Tryz.func39 rfl rfl rfl (Sep.nil (M := noM)) ?_
 refine Tri.seq (Tri.reg (l := [0, 1, 2]) rfl ?_)
 refine F.mn rfl (m_boxG rfl rfl) ?_
 rintro _ _ ⟨b1_1, rfl, rfl⟩
 refine F.qn rfl (r_assign rfl) (F.qn rfl (r_assign rfl) (F.nil (Nrm.seq (Tri.seq (Tri.seq ?_)))))
 obtain ⟨t5, h5, h⟩ := bind_some h
 refine Tri.reg (l := [0, 1, 2]) rfl ?_
 refine F.qn rfl (r_loadA ta44 ti44 rfl rfl (fun w hw => (box_cells (i := 0) rfl w hw))) ?_
 refine F.qcn rfl (q_callF (xs := _) rfl ok113 rfl rfl (fun w hw => spec_l12Good.ok h5 w ((fun _ hw => hr_a0_1.sep hw) w hw) ((fun _ hw => hr_a0_2.sep hw) w hw) ((fun _ hw => hr_a0_3.sep hw) w hw))) ?_
 refine F.qn rfl (r_not rfl) (F.nil (Nrm.seq (Tri.cond (b := !t5) rfl (fun g_1 => ?_) (fun g_1 => ?_))))
 ·replace h := if_tt g_1 h
  refine Tri.seq (Tri.reg (l := [0, 1]) rfl ?_)
  refine F.qn rfl (r_assign rfl) (F.qn rfl (r_assign rfl) (F.nil (Nrm.seq (Tri.ret ?_))))
  refine Rtn.then ?_
  cases h
  exact Rtn.body (.tmp rfl (.tmp rfl .nil)) (fun w hw => ⟨rfl, hw.ext⟩)
 ·replace h := if_ff g_1 h
  refine Tri.skip (Nrm.seq (Tri.seq ?_))
  obtain ⟨t8, h8, h⟩ := bind_some h
  refine Tri.reg (l := [0, 1, 2, 3]) rfl ?_
  refine F.qn rfl (r_loadA ta44 ti44 rfl rfl (fun w hw => (box_cells (i := 0) rfl w hw))) ?_
  refine F.qcn rfl (q_callF (xs := _) rfl ok118 rfl rfl (fun w hw => spec_l12Has.ok h8 w ((fun _ hw => hr_a0_1.sep hw) w hw) ((fun _ hw => hr_a0_2.sep hw) w hw) ((fun _ hw => hr_a0_3.sep hw) w hw))) ?_
  refine F.qn rfl (r_assign rfl) (F.qn rfl (r_assign rfl) (F.nil (Nrm.seq (Tri.ret ?_))))
  cases h
  exact Rtn.body (.tmp rfl (.tmp rfl .nil)) (fun w hw => ⟨rfl, hw.ext⟩)


def impl_members.l0 (k : Nat) (a0 : Int) : Nat → (List (Int)) → Int → Option ((List (Int)))
 | 0, _, _ => none
 | n + 1, x3, x4 => if ¬ x4 < 0 then (if (decide ((shr a0 x4) > 0)) = true then if ¬ x4 < 0 then ((if ((band (shr a0 x4) 1) == 1) = true then if (x3 ++ ([x4] : List (Int))).length < 1099511627776 then some (x3 ++ ([x4] : List (Int))) else none else some x3)).bind fun y3 => impl_members.l0 k a0 n y3 (w64 (x4 + 1)) else none else some x3) else none

def impl_members.f (k : Nat) (a0 : Int) : Option ((List Int)) := (impl_members.l0 k a0 k ([] : List (Int)) 0).bind fun x3 => some x3

theorem impl_members.ok {k : Nat}  {a0 : Int} {r0 : List Int} (h : impl_members.f k a0 = some r0) (w : World) :
  Calls Tryz.prog 119 ([.int .i64 a0] : List Value).toArray w (Post (fun u ns => ∃ (Sr0 : Nat → Prop), SlLen u r0.length ∧ ns = [R.sl Sr0 u r0]) w) := by
 unfold impl_members.f at h
 refine Calls.of_tri (N := 22) Tryz.func119 rfl rfl rfl (Sep.nil (M := noM)) ?_
 refine Tri.seq (Tri.reg (l := [0]) rfl ?_)
 refine F.qn rfl (r_assign rfl) (F.nil (Nrm.seq (Tri.seq (Tri.reg (l := [0, 1]) rfl ?_))))
 refine F.mn rfl (m_build0 (α := Int) Tryz.underlying25 ti3) ?_
 rintro v5_1 _ ⟨S5_1, hl_v5_1, rfl⟩
 refine F.qn rfl (r_assign rfl) (F.nil (Nrm.seq (Tri.seq (Tri.seq (Tri.reg (l := [0]) rfl ?_)))))
 refine F.qn rfl (r_assign rfl) (F.nil (Nrm.seq ?_))
 obtain ⟨x3, hE_1, h⟩ := bind_some h
 refine Tri.block ?_
 refine Tri.only [0, 3, 4] rfl ?_
 refine Tri.pick [0] rfl rfl ?_
 refine Tri.rounds (fun n e' C' => ∃ (x3' : List (Int)) (x4' : Int) (w3 : Value) (T3 : Nat → Prop), impl_members.l0 k a0 n x3' x4' = some x3 ∧ SlLen w3 (x3').length ∧ e' = [(0, .int .i64 a0), (3, w3), (4, .int .i64 x4')] ∧ C' = Sep w noM [R.sl T3 w3 (x3' : List (Int))]) k ?_ ?_ ?_
 ·exact ⟨([] : List (Int)), 0, v5_1, S5_1, hE_1, hl_v5_1, rfl, rfl⟩
 ·rintro _ _ ⟨_, _, _, _, hE_1, _⟩
  rw [impl_members.l0.eq_1] at hE_1; cases hE_1
 ·rintro n_1 _ _ ⟨x3, x4, w3, T3, hE_1, hl_w3, rfl, rfl⟩ ih_1
  rw [impl_members.l0.eq_2] at hE_1
  refine Tri.seq (Tri.seq ?_)
  obtain ⟨hs8, hE_1⟩ := ck hE_1
  refine Tri.reg (l := [0, 1, 2, 3]) rfl ?_
  refine F.qn rfl (r_move rfl) (F.qn rfl (r_move rfl) (F.qn rfl (r_shr rfl rfl hs8) (F.qn rfl (r_gtr rfl rfl) (F.nil (Nrm.seq (Tri.cond (b := decide ((shr a0 x4) > 0)) rfl (fun g_1 => ?_) (fun g_1 => ?_)))))))
  ·replace hE_1 := if_tt g_1 hE_1
   refine Tri.skip (Nrm.seq (Tri.seq (Tri.block ?_)))
   refine Tri.seq ?_
   obtain ⟨hs14, hE_1⟩ := ck hE_1
   refine Tri.reg (l := [0, 1, 2, 3, 4]) rfl ?_
   refine F.qn rfl (r_move rfl) (F.qn rfl (r_move rfl) (F.qn rfl (r_shr rfl rfl hs14) (F.qn rfl (r_and rfl rfl) (F.qn rfl (r_eql rfl rfl) (F.nil (Nrm.seq ?_))))))
   obtain ⟨y3, hE_2, hE_1⟩ := bind_some hE_1
   refine Tri.cut (fun e' C' => ∃ (v3_1 : Value) (S3_1 : Nat → Prop), SlLen v3_1 (y3).length ∧ e' = [(0, .int .i64 a0), (3, v3_1), (4, .int .i64 x4)] ∧ C' = Sep w noM [R.sl S3_1 v3_1 (y3 : List (Int))]) ?_ (fun hj_1 => ?_)
   ·rintro _ _ ⟨v3_1, S3_1, hl_v3_1, rfl, rfl⟩
    refine Nrm.block ?_
    refine Nrm.seq (Tri.reg (l := [0, 1, 2]) rfl ?_)
    refine F.qn rfl (r_move rfl) (F.qn rfl (r_add rfl rfl) (F.qn rfl (r_assign rfl) (F.nil (Nrm.round ?_))))
    refine Rnd.only [0, 3, 4] rfl ?_
    refine Rnd.pick [0] rfl rfl ?_
    exact ih_1 _ _ ⟨y3, w64 (x4 + 1), v3_1, S3_1, hE_1, hl_v3_1, rfl, rfl⟩
   ·refine Tri.cond (b := (band (shr a0 x4) 1) == 1) rfl (fun g_2 => ?_) (fun g_2 => ?_)
    ·replace hE_2 := if_tt g_2 hE_2
     obtain ⟨hs20, hE_2⟩ := ck hE_2
     refine Tri.reg (l := [0, 1, 2, 3, 4]) rfl ?_
     refine F.qn rfl (r_move rfl) (F.qn rfl (r_move rfl) ?_)
     refine F.mn rfl (m_buildF (l := ([x4] : List (Int))) Tryz.underlying25 ti3 rfl rfl rfl rfl rfl) ?_
     rintro v19_1 _ ⟨S19_1, hl_v19_1, rfl⟩
     refine F.efn rfl (d_append (i := 1) Tryz.underlying25 Tryz.underlying25 ti3 rfl (by decide) rfl rfl rfl (rd_sl (i := 0) rfl) hs20) ?_
     rintro v20_1 _ ⟨S20_1, rfl, hl_v20_1⟩
     refine F.qn rfl (r_assign rfl) (F.nil ?_)
     cases hE_2
     refine Nrm.only [0, 3, 4] rfl ?_
     refine Nrm.pick [1] rfl rfl ?_
     exact hj_1 _ _ ⟨v20_1, S20_1, hl_v20_1, rfl, rfl⟩
    ·replace hE_2 := if_ff g_2 hE_2
     refine Tri.skip ?_
     cases hE_2
     refine Nrm.only [0, 3, 4] rfl ?_
     refine Nrm.pick [0] rfl rfl ?_
     exact hj_1 _ _ ⟨w3, T3, hl_w3, rfl, rfl⟩
  ·replace hE_1 := if_ff g_1 hE_1
   refine Tri.exit ?_
   refine Exi.then ?_
   refine Exi.then ?_
   refine Exi.same ?_
   cases hE_1
   refine Nrm.seq (Tri.seq (Tri.reg (l := [0, 1]) rfl ?_))
   refine F.qn rfl (r_move rfl) (F.qn rfl (r_assign rfl) (F.nil (Nrm.seq (Tri.ret ?_))))
   cases h
   exact Rtn.body (.tmp rfl .nil) (fun w hw => ⟨_, _, rfl, ⟨T3, hl_w3, rfl⟩, Sep.pick (is := [0]) rfl rfl hw⟩)


def impl_reach.l0 (k : Nat) (a0_0 : Int) (a0_1 : List (Int × Int × Int)) (a0_2 : List Int) (a2 : Int) : Nat → Int → (List (Int)) → Option (Int)
 | 0, _, _ => none
 | n + 1, x7, x8 => (if (decide ((x8.length : Int) > 0)) = true then (rdl x8 0).bind fun t19 => (impl_steps.f k a0_0 a0_1 a0_2 t19 a2).bind fun t22 => (slc x8 1 (x8.length : Int)).bind fun t29 => (impl_members.f k (bclr t22 x7)).bind fun t31 => if (t29 ++ t31).length < 1099511627776 then impl_reach.l0 k a0_0 a0_1 a0_2 a2 n (bor x7 (bclr t22 x7)) (t29 ++ t31) else none else some x7)

def impl_reach.f (k : Nat) (a0_0 : Int) (a0_1 : List (Int × Int × Int)) (a0_2 : List Int) (a1 : Int) (a2 : Int) : Option (Int) := if ¬ a1 < 0 then (impl_reach.l0 k a0_0 a0_1 a0_2 a2 k (shl 1 a1) ([a1] : List (Int))).bind fun x7 => some x7 else none

theorem impl_reach.ok {k : Nat}  {a0_0 : Int} {a0_1 : List (Int × Int × Int)} {a0_2 : List Int} {a1 : Int} {a2 : Int} {r0 : Int} (h : impl_reach.f k a0_0 a0_1 a0_2 a1 a2 = some r0) (w : World) {va0_1 : Value} {va0_2 : Value} (hr_a0_1 : Rd w va0_1 a0_1) (hr_a0_2 : Rd w va0_2 a0_2) :
  Calls Tryz.prog 120 ([.agg ([.int .i64 a0_0, va0_1, va0_2].toArray), .int .i64 a1, .int .i64 a2] : List Value).toArray w (fun e w' => e = .returned (.int .i64 r0) ∧ Ext w w') := by
 unfold impl_reach.f at h
 have hl_va0_1 := hr_a0_1.len
 have hl_va0_2 := hr_a0_2.len
 refine Calls.of_tri (N := 34) Tryz.func120 rfl rfl rfl (Sep.nil (M := noM)) ?_
 refine Tri.seq (Tri.reg (l := [0, 1]) rfl ?_)
 refine F.mn rfl (m_boxG rfl rfl) ?_
 rintro _ _ ⟨b3_1, rfl, rfl⟩
 refine F.qn rfl (r_assign rfl) (F.nil (Nrm.seq (Tri.seq ?_)))
 obtain ⟨hs11, h⟩ := ck h
 refine Tri.reg (l := [0, 1, 2, 3, 4, 5]) rfl ?_
 refine F.qn rfl (r_move rfl) (F.qn rfl (r_shl rfl rfl hs11) (F.qn rfl (r_move rfl) ?_))
 refine F.mn rfl (m_buildF (l := ([a1] : List (Int))) Tryz.underlying25 ti3 rfl rfl rfl rfl rfl) ?_
 rintro v13_1 _ ⟨S13_1, hl_v13_1, rfl⟩
 refine F.qn rfl (r_assign rfl) (F.qn rfl (r_assign rfl) (F.nil (Nrm.seq (Tri.seq ?_))))
 obtain ⟨x7, hE_1, h⟩ := bind_some h
 refine Tri.block ?_
 refine Tri.only [2, 3, 7, 8] rfl ?_
 refine Tri.pick [1, 0] rfl rfl ?_
 refine Tri.rounds (fun n e' C' => ∃ (x7' : Int) (x8' : List (Int)) (w8 : Value) (T8 : Nat → Prop), impl_reach.l0 k a0_0 a0_1 a0_2 a2 n x7' x8' = some x7 ∧ SlLen w8 (x8').length ∧ e' = [(2, .int .i64 a2), (3, .pointer (some ⟨b3_1, 0, none⟩)), (7, .int .i64 x7'), (8, w8)] ∧ C' = Sep w noM [R.box b3_1 27 [.int .i64 a0_0, va0_1, va0_2], R.sl T8 w8 (x8' : List (Int))]) k ?_ ?_ ?_
 ·exact ⟨shl 1 a1, ([a1] : List (Int)), v13_1, S13_1, hE_1, hl_v13_1, rfl, rfl⟩
 ·rintro _ _ ⟨_, _, _, _, hE_1, _⟩
  rw [impl_reach.l0.eq_1] at hE_1; cases hE_1
 ·rintro n_1 _ _ ⟨x7, x8, w8, T8, hE_1, hl_w8, rfl, rfl⟩ ih_1
  rw [impl_reach.l0.eq_2] at hE_1
  refine Tri.seq (Tri.seq (Tri.reg (l := [0, 1, 2]) rfl ?_))
  refine F.qn rfl (r_move rfl) (F.qn rfl (r_len Tryz.underlying25 rfl hl_w8) (F.qn rfl (r_gtr rfl rfl) (F.nil (Nrm.seq (Tri.cond (b := decide ((x8.length : Int) > 0)) rfl (fun g_1 => ?_) (fun g_1 => ?_))))))
  ·replace hE_1 := if_tt g_1 hE_1
   refine Tri.skip (Nrm.seq (Tri.block ?_))
   refine Tri.seq ?_
   obtain ⟨t19, h19, hE_1⟩ := bind_some hE_1
   obtain ⟨t22, h22, hE_1⟩ := bind_some hE_1
   refine Tri.drawA mixedT Sep.up [(0, true), (1, true), (2, true), (3, true), (4, true), (5, true), (6, true), (7, true), (8, true)] [] (by kernel_rfl) ?_
   refine S.qn rfl (r_loadA ta27 ti27 rfl rfl (fun w hw => (box_cells (i := 0) rfl w hw))) (S.qn rfl (r_move rfl) (S.qn rfl (r_indexAddrS Tryz.underlying25 ti3 rfl hl_w8 rfl (rdl_some h19).1 (rdl_some h19).2.1) (S.qn rfl (r_load ta3 rfl (fun w hw => cell_0 (Rd.flat ((rd_sl (i := 1) rfl) w hw) (rdl_some h19).2.2) rfl)) (S.qn rfl (r_move rfl) ?_))))
   refine S.qcn rfl (q_callF (xs := _) rfl ok207 rfl rfl (fun w hw => impl_steps.ok h22 w ((fun _ hw => hr_a0_1.sep hw) w hw) ((fun _ hw => hr_a0_2.sep hw) w hw))) ?_
   refine S.qn rfl (r_move rfl) (S.qn rfl (r_andNot rfl rfl) (S.qn rfl (r_assign rfl) (S.nil (F.nil (Nrm.seq (Tri.seq (Tri.reg (l := [0, 1, 2, 3]) rfl ?_)))))))
   refine F.qn rfl (r_move rfl) (F.qn rfl (r_move rfl) (F.qn rfl (r_or rfl rfl) (F.qn rfl (r_assign rfl) (F.nil (Nrm.seq ?_)))))
   obtain ⟨t29, h29, hE_1⟩ := bind_some hE_1
   obtain ⟨t31, h31, hE_1⟩ := bind_some hE_1
   obtain ⟨hs32, hE_1⟩ := ck hE_1
   refine Tri.drawA mixedT Sep.up [(0, true), (1, true), (2, true), (3, false)] [4, 5] (by kernel_rfl) ?_
   refine S.qn rfl (r_move rfl) (S.qn rfl (r_sliceL Tryz.underlying25 ti3 rfl (rd_sl (i := 1) rfl) rfl h29) (S.qn rfl (r_move rfl) ?_))
   refine S.m rfl rfl rfl (wanted_none rfl) (m_callF (xs := _) rfl ok119 rfl rfl (fun w hw => impl_members.ok h31 w )) ?_
   rintro v31_2 _ ⟨_, ⟨S31_2, hl_v31_2, rfl⟩, rfl⟩
   refine S.nil (F.efn rfl (Does.pre (fun w hw => Sep.resl (i := 2) rfl h29 hw) <| d_append (i := 2) Tryz.underlying25 Tryz.underlying25 ti3 rfl (by decide) rfl rfl rfl (rd_sl (i := 0) rfl) hs32) ?_)
   rintro v32_2 _ ⟨S32_2, rfl, hl_v32_2⟩
   refine F.qn rfl (r_assign rfl) (F.nil (Nrm.block ?_))
   refine Nrm.round ?_
   refine Rnd.only [2, 3, 7, 8] rfl ?_
   refine Rnd.pick [1, 2] rfl rfl ?_
   exact ih_1 _ _ ⟨bor x7 (bclr t22 x7), t29 ++ t31, v32_2, S32_2, hE_1, hl_v32_2, rfl, rfl⟩
  ·replace hE_1 := if_ff g_1 hE_1
   refine Tri.exit ?_
   refine Exi.then ?_
   refine Exi.then ?_
   refine Exi.same ?_
   cases hE_1
   refine Nrm.seq (Tri.seq (Tri.reg (l := [0, 1]) rfl ?_))
   refine F.qn rfl (r_move rfl) (F.qn rfl (r_assign rfl) (F.nil (Nrm.seq (Tri.ret ?_))))
   cases h
   exact Rtn.body (.tmp rfl .nil) (fun w hw => ⟨rfl, hw.ext⟩)


def impl_NodesAhead.f (k : Nat) (a0_0 : Int) (a0_1 : List (Int × Int × Int)) (a0_2 : List Int) (a0_3 : List Int) (a0_4 : Int) : Option ((List Int) × Bool) := (impl_IsVisit.f k a0_0 a0_1 a0_2 a0_3 a0_4).bind fun t5 => (if (!t5) = true then some ([], false) else (rdl a0_3 (w64 ((a0_3.length : Int) - 1))).bind fun t15 => (impl_hasNow.f k a0_0 a0_1 a0_2 a0_3 a0_4).bind fun t18 => (impl_reach.f k a0_0 a0_1 a0_2 t15 t18).bind fun t19 => (impl_members.f k t19).bind fun t20 => some (t20, true))

theorem impl_NodesAhead.ok {k : Nat}  {a0_0 : Int} {a0_1 : List (Int × Int × Int)} {a0_2 : List Int} {a0_3 : List Int} {a0_4 : Int} {r0 : List Int} {r1 : Bool} (h : impl_NodesAhead.f k a0_0 a0_1 a0_2 a0_3 a0_4 = some (r0, r1)) (w : World) {va0_1 : Value} {va0_2 : Value} {va0_3 : Value} (hr_a0_1 : Rd w va0_1 a0_1) (hr_a0_2 : Rd w va0_2 a0_2) (hr_a0_3 : Rd w va0_3 a0_3) :
  Calls Tryz.prog 40 ([.agg ([.int .i64 a0_0, va0_1, va0_2, va0_3, .int .i64 a0_4].toArray)] : List Value).toArray w (Post (fun u ns => ∃ (ur0 : Value) (Sr0 : Nat → Prop), u = .tuple #[ur0, .bool r1] ∧ SlLen ur0 r0.length ∧ ns = [R.sl Sr0 ur0 r0]) w) := by
 unfold impl_NodesAhead.f at h
 have hl_va0_1 := hr_a0_1.len
 have hl_va0_2 := hr_a0_2.len
 have hl_va0_3 := hr_a0_3.len
 refine Calls.of_tri (N := 21) Tryz.func40 rfl rfl rfl (Sep.nil (M := noM)) ?_
 refine Tri.seq (Tri.reg (l := [0, 1, 2]) rfl ?_)
 refine F.mn rfl (m_boxG rfl rfl) ?_
 rintro _ _ ⟨b1_1, rfl, rfl⟩
 refine F.qn rfl (r_assign rfl) (F.qn rfl (r_assign rfl) (F.nil (Nrm.seq (Tri.seq (Tri.seq ?_)))))
 obtain ⟨t5, h5, h⟩ := bind_some h
 refine Tri.reg (l := [0, 1, 2]) rfl ?_
 refine F.qn rfl (r_loadA ta44 ti44 rfl rfl (fun w hw => (box_cells (i := 0) rfl w hw))) ?_
 refine F.qcn rfl (q_callF (xs := _) rfl ok43 rfl rfl (fun w hw => impl_IsVisit.ok h5 w ((fun _ hw => hr_a0_1.sep hw) w hw) ((fun _ hw => hr_a0_2.sep hw) w hw) ((fun _ hw => hr_a0_3.sep hw) w hw))) ?_
 refine F.qn rfl (r_not rfl) (F.nil (Nrm.seq (Tri.cond (b := !t5) rfl (fun g_1 => ?_) (fun g_1 => ?_))))
 ·replace h := if_tt g_1 h
  refine Tri.seq (Tri.reg (l := [0, 1]) rfl ?_)
  refine F.qn rfl (r_assign rfl) (F.qn rfl (r_assign rfl) (F.nil (Nrm.seq (Tri.ret ?_))))
  refine Rtn.then ?_
  cases h
  exact Rtn.body (.tmp rfl (.tmp rfl .nil)) (fun w hw => ⟨_, _, rfl, ⟨.slice none 0 0, fun _ => False, rfl, len_nil, rfl⟩, Sep.pick (is := [0]) rfl rfl hw.pushNil⟩)
 ·replace h := if_ff g_1 h
  refine Tri.skip (Nrm.seq (Tri.seq ?_))
  obtain ⟨t15, h15, h⟩ := bind_some h
  obtain ⟨t18, h18, h⟩ := bind_some h
  obtain ⟨t19, h19, h⟩ := bind_some h
  obtain ⟨t20, h20, h⟩ := bind_some h
  refine Tri.drawA mixedT Sep.up [(0, true), (1, true), (2, true), (3, true), (4, true), (5, true), (6, true), (7, true), (8, true), (9, true), (10, true), (11, true), (12, true), (13, false), (14, true), (15, true)] [] (by kernel_rfl) ?_
  refine S.qn rfl (r_fieldAddr tf44_0 rfl) (S.qn rfl (r_loadA ta27 ti27 rfl rfl (fun w hw => cells_1 (cs' := [.int .i64 a0_0, va0_1, va0_2]) (box_cells (i := 0) rfl w hw) rfl)) (S.qn rfl (r_fieldAddr tf44_1 rfl) (S.qn rfl (r_load ta25 rfl (fun w hw => cell_1 (box_cells (i := 0) rfl w hw) rfl)) (S.qn rfl (r_fieldAddr tf44_1 rfl) ?_))))
  refine S.qn rfl (r_load ta25 rfl (fun w hw => cell_1 (box_cells (i := 0) rfl w hw) rfl)) (S.qn rfl (r_len Tryz.underlying25 rfl hl_va0_3) (S.qn rfl (r_sub rfl rfl) (S.qn rfl (r_indexAddrS Tryz.underlying25 ti3 rfl hl_va0_3 rfl (rdl_some h15).1 (rdl_some h15).2.1) (S.qn rfl (r_load ta3 rfl (fun w hw => cell_0 (Rd.flat ((fun _ hw => hr_a0_3.sep hw) w hw) (rdl_some h15).2.2) rfl)) (S.qn rfl (r_loadA ta44 ti44 rfl rfl (fun w hw => (box_cells (i := 0) rfl w hw))) ?_)))))
  refine S.qcn rfl (q_callF (xs := _) rfl ok117 rfl rfl (fun w hw => impl_hasNow.ok h18 w ((fun _ hw => hr_a0_1.sep hw) w hw) ((fun _ hw => hr_a0_2.sep hw) w hw) ((fun _ hw => hr_a0_3.sep hw) w hw))) ?_
  refine S.qcn rfl (q_callF (xs := _) rfl ok120 rfl rfl (fun w hw => impl_reach.ok h19 w ((fun _ hw => hr_a0_1.sep hw) w hw) ((fun _ hw => hr_a0_2.sep hw) w hw))) ?_
  refine S.m rfl rfl rfl (wanted_none rfl) (m_callF (xs := _) rfl ok119 rfl rfl (fun w hw => impl_members.ok h20 w )) ?_
  rintro v20_2 _ ⟨_, ⟨S20_2, hl_v20_2, rfl⟩, rfl⟩
  refine S.qn rfl (r_assign rfl) (S.qn rfl (r_assign rfl) (S.nil (F.nil (Nrm.seq (Tri.ret ?_)))))
  cases h
  exact Rtn.body (.tmp rfl (.tmp rfl .nil)) (fun w hw => ⟨_, _, rfl, ⟨v20_2, S20_2, rfl, hl_v20_2, rfl⟩, Sep.pick (is := [0]) rfl rfl hw⟩)


def spec_NodesAhead.f (k : Nat) (a0_0 : Int) (a0_1 : List (Int × Int × Int)) (a0_2 : List Int) (a0_3 : List Int) (a0_4 : Int) : Option ((List Int) × Bool) := (spec_l12Good.f k a0_0 a0_1 a0_2 a0_3 a0_4).bind fun t5 => (if (!t5) = true then some (([] : List (Int)), false) else (spec_l12Ahead.f k a0_0 a0_1 a0_2 a0_3 a0_4).bind fun t9 => some (t9, true))

theorem spec_NodesAhead.ok {k : Nat}  {a0_0 : Int} {a0_1 : List (Int × Int × Int)} {a0_2 : List Int} {a0_3 : List Int} {a0_4 : Int} {r0 : List Int} {r1 : Bool} (h : spec_NodesAhead.f k a0_0 a0_1 a0_2 a0_3 a0_4 = some (r0, r1)) (w : World) {va0_1 : Value} {va0_2 : Value} {va0_3 : Value} (hr_a0_1 : Rd w va0_1 a0_1) (hr_a0_2 : Rd w va0_2 a0_2) (hr_a0_3 : Rd w va0_3 a0_3) :
  Calls Tryz.prog 41 ([.agg ([.int .i64 a0_0, va0_1, va0_2, va0_3, .int .i64 a0_4].toArray)] : List Value).toArray w (Post (fun u ns => ∃ (ur0 : Value) (Sr0 : Nat → Prop), u = .tuple #[ur0, .bool r1] ∧ SlLen ur0 r0.length ∧ ns = [R.sl Sr0 ur0 r0]) w) := by
 unfold spec_NodesAhead.f at h
 have hl_va0_1 := hr_a0_1.len
 have hl_va0_2 := hr_a0_2.len
 have hl_va0_3 := hr_a0_3.len
 refine Calls.of_tri (N := 10) Tryz.func41 rfl rfl rfl (Sep.nil (M := noM)) ?_
 refine Tri.seq (Tri.reg (l := [0, 1, 2]) rfl ?_)
 refine F.mn rfl (m_boxG rfl rfl) ?_
 rintro _ _ ⟨b1_1, rfl, rfl⟩
 refine F.qn rfl (r_assign rfl) (F.qn rfl (r_assign rfl) (F.nil (Nrm.seq (Tri.seq (Tri.seq ?_)))))
 obtain ⟨t5, h5, h⟩ := bind_some h
 refine Tri.reg (l := [0, 1, 2]) rfl ?_
 refine F.qn rfl (r_loadA ta44 ti44 rfl rfl (fun w hw => (box_cells (i := 0) rfl w hw))) ?_
 refine F.qcn rfl (q_callF (xs := _) rfl ok113 rfl rfl (fun w hw => spec_l12Good.ok h5 w ((fun _ hw => hr_a0_1.sep hw) w hw) ((fun _ hw => hr_a0_2.sep hw) w hw) ((fun _ hw => hr_a0_3.sep hw) w hw))) ?_
 refine F.qn rfl (r_not rfl) (F.nil (Nrm.seq (Tri.cond (b := !t5) rfl (fun g_1 => ?_) (fun g_1 => ?_))))
 ·replace h := if_tt g_1 h
  refine Tri.seq (Tri.reg (l := [0, 1, 2]) rfl ?_)
  refine F.mn rfl (m_build0 (α := Int) Tryz.underlying25 ti3) ?_
  rintro v7_1 _ ⟨S7_1, hl_v7_1, rfl⟩
  refine F.qn rfl (r_assign rfl) (F.qn rfl (r_assign rfl) (F.nil (Nrm.seq (Tri.ret ?_))))
  refine Rtn.then ?_
  cases h
  exact Rtn.body (.tmp rfl (.tmp rfl .nil)) (fun w hw => ⟨_, _, rfl, ⟨v7_1, S7_1, rfl, hl_v7_1, rfl⟩, Sep.pick (is := [0]) rfl rfl hw⟩)
 ·replace h := if_ff g_1 h
  refine Tri.skip (Nrm.seq (Tri.seq ?_))
  obtain ⟨t9, h9, h⟩ := bind_some h
  refine Tri.reg (l := [0, 1, 2, 3]) rfl ?_
  refine F.qn rfl (r_loadA ta44 ti44 rfl rfl (fun w hw => (box_cells (i := 0) rfl w hw))) ?_
  refine F.mn rfl (m_callF (xs := _) rfl ok121 rfl rfl (fun w hw => spec_l12Ahead.ok h9 w ((fun _ hw => hr_a0_1.sep hw) w hw) ((fun _ hw => hr_a0_2.sep hw) w hw) ((fun _ hw => hr_a0_3.sep hw) w hw))) ?_
  rintro v9_1 _ ⟨_, ⟨S9_1, hl_v9_1, rfl⟩, rfl⟩
  refine F.qn rfl (r_assign rfl) (F.qn rfl (r_assign rfl) (F.nil (Nrm.seq (Tri.ret ?_))))
  cases h
  exact Rtn.body (.tmp rfl (.tmp rfl .nil)) (fun w hw => ⟨_, _, rfl, ⟨v9_1, S9_1, rfl, hl_v9_1, rfl⟩, Sep.pick (is := [0]) rfl rfl hw⟩)


def laws_vMaze.l0 (k : Nat) (a0_1 : List (Int × Int × Int)) (a1_1 : List (Int × Int × Int)) : Nat → Int → Option ((Unit) ⊕ (Bool))
 | 0, _ => none
 | n + 1, x5 => (if (decide (x5 < (a0_1.length : Int))) = true then (rdl a0_1 x5).bind fun t38 => (rdl a1_1 x5).bind fun t43 => (if (!decide ((t38.1, t38.2.1, t38.2.2) = (t43.1, t43.2.1, t43.2.2))) = true then some (Sum.inr false) else laws_vMaze.l0 k a0_1 a1_1 n (w64 (x5 + 1))) else some (Sum.inl ()))

def laws_vMaze.f (k : Nat) (a0_0 : Int) (a0_1 : List (Int × Int × Int)) (a0_2 : List Int) (a1_0 : Int) (a1_1 : List (Int × Int × Int)) (a1_2 : List Int) : Option (Bool) := ((if (a0_0 != a1_0) = true then some true else (if ((a0_1.length : Int) != (a1_1.length : Int)) = true then some true else (laws_vInts.f k a0_2 a1_2).bind fun t25 => some (!t25)))).bind fun y27 => (if y27 = true then some false else (laws_vMaze.l0 k a0_1 a1_1 k 0).bind fun s => Lr s some fun _ => some true)

theorem laws_vMaze.ok {k : Nat}  {a0_0 : Int} {a0_1 : List (Int × Int × Int)} {a0_2 : List Int} {a1_0 : Int} {a1_1 : List (Int × Int × Int)} {a1_2 : List Int} {r0 : Bool} (h : laws_vMaze.f k a0_0 a0_1 a0_2 a1_0 a1_1 a1_2 = some r0) (w : World) {va0_1 : Value} {va0_2 : Value} {va1_1 : Value} {va1_2 : Value} (hr_a0_1 : Rd w va0_1 a0_1) (hr_a0_2 : Rd w va0_2 a0_2) (hr_a1_1 : Rd w va1_1 a1_1) (hr_a1_2 : Rd w va1_2 a1_2) :
  Calls Tryz.prog 122 ([.agg ([.int .i64 a0_0, va0_1, va0_2].toArray), .agg ([.int .i64 a1_0, va1_1, va1_2].toArray)] : List Value).toArray w (fun e w' => e = .returned (.bool r0) ∧ Ext w w') := by
 unfold laws_vMaze.f at h
 have hl_va0_1 := hr_a0_1.len
 have hl_va0_2 := hr_a0_2.len
 have hl_va1_1 := hr_a1_1.len
 have hl_va1_2 := hr_a1_2.len
 refine Calls.of_tri (N := 46) Tryz.func122 rfl rfl rfl (Sep.nil (M := noM)) ?_
 refine Tri.seq (Tri.reg (l := [0, 1, 2]) rfl ?_)
 refine F.mn rfl (m_boxG rfl rfl) ?_
 rintro _ _ ⟨b2_1, rfl, rfl⟩
 refine F.mn rfl (m_boxG rfl rfl) ?_
 rintro _ _ ⟨b3_1, rfl, rfl⟩
 refine F.qn rfl (r_assign rfl) (F.nil (Nrm.seq (Tri.seq (Tri.seq ?_))))
 obtain ⟨y27, hE_1, h⟩ := bind_some h
 refine Tri.cut (fun e' C' => e' = [(2, .pointer (some ⟨b2_1, 0, none⟩)), (3, .pointer (some ⟨b3_1, 0, none⟩)), (27, .bool y27)] ∧ C' = Sep w noM [R.box b3_1 27 [.int .i64 a1_0, va1_1, va1_2], R.box b2_1 27 [.int .i64 a0_0, va0_1, va0_2]]) ?_ (fun hj_1 => ?_)
 ·rintro _ _ ⟨rfl, rfl⟩
  refine Nrm.seq (Tri.cond (b := y27) rfl (fun g_1 => ?_) (fun g_1 => ?_))
  ·replace h := if_tt g_1 h
   refine Tri.seq (Tri.reg (l := [0]) rfl ?_)
   refine F.qn rfl (r_assign rfl) (F.nil (Nrm.seq (Tri.ret ?_)))
   refine Rtn.then ?_
   cases h
   exact Rtn.body (.tmp rfl .nil) (fun w hw => ⟨rfl, hw.ext⟩)
  ·replace h := if_ff g_1 h
   refine Tri.skip (Nrm.seq (Tri.seq (Tri.seq (Tri.reg (l := [0]) rfl ?_))))
   refine F.qn rfl (r_assign rfl) (F.nil (Nrm.seq ?_))
   obtain ⟨s0, hE_2, h⟩ := bind_some h
   refine Tri.block ?_
   refine Tri.only [2, 3, 5] rfl ?_
   refine Tri.pick [0, 1] rfl rfl ?_
   refine Tri.rounds (fun n e' C' => ∃ (x5' : Int), laws_vMaze.l0 k a0_1 a1_1 n x5' = some s0 ∧ e' = [(2, .pointer (some ⟨b2_1, 0, none⟩)), (3, .pointer (some ⟨b3_1, 0, none⟩)), (5, .int .i64 x5')] ∧ C' = Sep w noM [R.box b3_1 27 [.int .i64 a1_0, va1_1, va1_2], R.box b2_1 27 [.int .i64 a0_0, va0_1, va0_2]]) k ?_ ?_ ?_
   ·exact ⟨0, hE_2, rfl, rfl⟩
   ·rintro _ _ ⟨_, hE_2, _⟩
    rw [laws_vMaze.l0.eq_1] at hE_2; cases hE_2
   ·rintro n_1 _ _ ⟨x5, hE_2, rfl, rfl⟩ ih_1
    rw [laws_vMaze.l0.eq_2] at hE_2
    refine Tri.seq (Tri.seq (Tri.reg (l := [0, 1, 2, 3, 4]) rfl ?_))
    refine F.qn rfl (r_move rfl) (F.qn rfl (r_fieldAddr tf27_1 rfl) (F.qn rfl (r_load ta24 rfl (fun w hw => cell_1 (box_cells (i := 1) rfl w hw) rfl)) (F.qn rfl (r_len Tryz.underlying24 rfl hl_va0_1) (F.qn rfl (r_lss rfl rfl) (F.nil (Nrm.seq (Tri.cond (b := decide (x5 < (a0_1.length : Int))) rfl (fun g_2 => ?_) (fun g_2 => ?_))))))))
    ·replace hE_2 := if_tt g_2 hE_2
     refine Tri.skip (Nrm.seq (Tri.seq (Tri.block ?_)))
     refine Tri.seq ?_
     obtain ⟨t38, h38, hE_2⟩ := bind_some hE_2
     obtain ⟨t43, h43, hE_2⟩ := bind_some hE_2
     refine Tri.drawA mixedT Sep.up [(0, true), (1, true), (2, true), (3, true), (4, true), (5, true), (6, true), (7, true), (8, true), (9, true), (10, true)] [] (by kernel_rfl) ?_
     refine S.qn rfl (r_fieldAddr tf27_1 rfl) (S.qn rfl (r_load ta24 rfl (fun w hw => cell_1 (box_cells (i := 1) rfl w hw) rfl)) (S.qn rfl (r_move rfl) (S.qn rfl (r_indexAddrS Tryz.underlying24 ti168 rfl hl_va0_1 rfl (rdl_some h38).1 (rdl_some h38).2.1) (S.qn rfl (r_loadA ta168 ti168 rfl rfl (fun w hw => (Rd.flat ((fun _ hw => hr_a0_1.sep hw) w hw) (rdl_some h38).2.2))) ?_))))
     refine S.qn rfl (r_fieldAddr tf27_1 rfl) (S.qn rfl (r_load ta24 rfl (fun w hw => cell_1 (box_cells (i := 0) rfl w hw) rfl)) (S.qn rfl (r_move rfl) (S.qn rfl (r_indexAddrS Tryz.underlying24 ti168 rfl hl_va1_1 rfl (rdl_some h43).1 (rdl_some h43).2.1) (S.qn rfl (r_loadA ta168 ti168 rfl rfl (fun w hw => (Rd.flat ((fun _ hw => hr_a1_1.sep hw) w hw) (rdl_some h43).2.2))) (S.qn rfl (r_neqA3 Tryz.underlying168 Tryz.underlying3 ti3 ta3 rfl rfl eg168) (S.nil (F.nil (Nrm.seq (Tri.cond (b := !decide ((t38.1, t38.2.1, t38.2.2) = (t43.1, t43.2.1, t43.2.2))) rfl (fun g_3 => ?_) (fun g_3 => ?_))))))))))
     ·replace hE_2 := if_tt g_3 hE_2
      refine Tri.seq (Tri.reg (l := [0]) rfl ?_)
      refine F.qn rfl (r_assign rfl) (F.nil (Nrm.seq (Tri.ret ?_)))
      refine Rtn.block ?_
      refine Rtn.then ?_
      refine Rtn.then ?_
      refine Rtn.block ?_
      refine Rtn.then ?_
      cases hE_2
      replace h := Lr_inr h
      cases h
      exact Rtn.body (.tmp rfl .nil) (fun w hw => ⟨rfl, hw.ext⟩)
     ·replace hE_2 := if_ff g_3 hE_2
      refine Tri.skip (Nrm.block ?_)
      refine Nrm.seq (Tri.reg (l := [0, 1, 2]) rfl ?_)
      refine F.qn rfl (r_move rfl) (F.qn rfl (r_add rfl rfl) (F.qn rfl (r_assign rfl) (F.nil (Nrm.round ?_))))
      refine Rnd.only [2, 3, 5] rfl ?_
      refine Rnd.pick [0, 1] rfl rfl ?_
      exact ih_1 _ _ ⟨w64 (x5 + 1), hE_2, rfl, rfl⟩
    ·replace hE_2 := if_ff g_2 hE_2
     refine Tri.exit ?_
     refine Exi.then ?_
     refine Exi.then ?_
     refine Exi.same ?_
     cases hE_2
     replace h := Lr_inl h
     refine Nrm.seq (Tri.seq (Tri.reg (l := [0]) rfl ?_))
     refine F.qn rfl (r_assign rfl) (F.nil (Nrm.seq (Tri.ret ?_)))
     cases h
     exact Rtn.body (.tmp rfl .nil) (fun w hw => ⟨rfl, hw.ext⟩)
 ·rcases Bool.eq_false_or_eq_true (a0_0 != a1_0) with g11 | g11
  ·replace hE_1 := if_tt g11 hE_1
   refine Tri.reg (l := List.range 22) rfl ?_
   refine F.qn rfl (r_fieldAddr tf27_0 rfl) (F.qn rfl (r_load ta3 rfl (fun w hw => cell_1 (box_cells (i := 1) rfl w hw) rfl)) (F.qn rfl (r_fieldAddr tf27_0 rfl) (F.qn rfl (r_load ta3 rfl (fun w hw => cell_1 (box_cells (i := 0) rfl w hw) rfl)) (F.qn rfl (r_neq rfl rfl) (F.qn rfl (r_move rfl) ?_)))))
   iterate 7 refine F.skf rfl g11 ?_
   refine F.qn rfl (r_pick rfl rfl g11) (F.qn rfl (r_move rfl) ?_)
   iterate 6 refine F.skf rfl rfl ?_
   refine F.qn rfl (r_pick rfl rfl rfl) (F.nil ?_)
   cases hE_1
   refine Nrm.only [2, 3, 27] rfl ?_
   refine Nrm.pick [0, 1] rfl rfl ?_
   exact hj_1 _ _ ⟨rfl, rfl⟩
  ·replace hE_1 := if_ff g11 hE_1
   rcases Bool.eq_false_or_eq_true ((a0_1.length : Int) != (a1_1.length : Int)) with g20 | g20
   ·replace hE_1 := if_tt g20 hE_1
    refine Tri.reg (l := List.range 22) rfl ?_
    refine F.qn rfl (r_fieldAddr tf27_0 rfl) (F.qn rfl (r_load ta3 rfl (fun w hw => cell_1 (box_cells (i := 1) rfl w hw) rfl)) (F.qn rfl (r_fieldAddr tf27_0 rfl) ?_))
    refine F.qn rfl (r_load ta3 rfl (fun w hw => cell_1 (box_cells (i := 0) rfl w hw) rfl)) (F.qn rfl (r_neq rfl rfl) (F.qn rfl (r_move rfl) (F.qg rfl g11 (r_fieldAddr tf27_1 rfl) (F.qg rfl g11 (r_load ta24 rfl (fun w hw => cell_1 (box_cells (i := 1) rfl w hw) rfl)) (F.qg rfl g11 (r_len Tryz.underlying24 rfl hl_va0_1) ?_)))))
    refine F.qg rfl g11 (r_fieldAddr tf27_1 rfl) (F.qg rfl g11 (r_load ta24 rfl (fun w hw => cell_1 (box_cells (i := 0) rfl w hw) rfl)) (F.qg rfl g11 (r_len Tryz.underlying24 rfl hl_va1_1) (F.qg rfl g11 (r_neq rfl rfl) (F.qn rfl (r_pickf rfl rfl g11) (F.qn rfl (r_move rfl) ?_)))))
    iterate 6 refine F.skf rfl g20 ?_
    refine F.qn rfl (r_pick rfl rfl g20) (F.nil ?_)
    cases hE_1
    refine Nrm.only [2, 3, 27] rfl ?_
    refine Nrm.pick [0, 1] rfl rfl ?_
    exact hj_1 _ _ ⟨rfl, rfl⟩
   ·replace hE_1 := if_ff g20 hE_1
    obtain ⟨t25, h25, hE_1⟩ := bind_some hE_1
    refine Tri.reg (l := List.range 22) rfl ?_
    refine F.qn rfl (r_fieldAddr tf27_0 rfl) ?_
    refine F.qn rfl (r_load ta3 rfl (fun w hw => cell_1 (box_cells (i := 1) rfl w hw) rfl)) (F.qn rfl (r_fieldAddr tf27_0 rfl) (F.qn rfl (r_load ta3 rfl (fun w hw => cell_1 (box_cells (i := 0) rfl w hw) rfl)) (F.qn rfl (r_neq rfl rfl) (F.qn rfl (r_move rfl) (F.qg rfl g11 (r_fieldAddr tf27_1 rfl) ?_)))))
    refine F.qg rfl g11 (r_load ta24 rfl (fun w hw => cell_1 (box_cells (i := 1) rfl w hw) rfl)) (F.qg rfl g11 (r_len Tryz.underlying24 rfl hl_va0_1) (F.qg rfl g11 (r_fieldAddr tf27_1 rfl) (F.qg rfl g11 (r_load ta24 rfl (fun w hw => cell_1 (box_cells (i := 0) rfl w hw) rfl)) (F.qg rfl g11 (r_len Tryz.underlying24 rfl hl_va1_1) (F.qg rfl g11 (r_neq rfl rfl) ?_)))))
    refine F.qn rfl (r_pickf rfl rfl g11) (F.qn rfl (r_move rfl) (F.qg rfl g20 (r_fieldAddr tf27_2 rfl) (F.qg rfl g20 (r_load ta25 rfl (fun w hw => cell_1 (box_cells (i := 1) rfl w hw) rfl)) (F.qg rfl g20 (r_fieldAddr tf27_2 rfl) (F.qg rfl g20 (r_load ta25 rfl (fun w hw => cell_1 (box_cells (i := 0) rfl w hw) rfl)) ?_)))))
    refine F.qc rfl rfl rfl (wg rfl rfl rfl g20) (q_callF (xs := _) rfl ok19 rfl rfl (fun w hw => laws_vInts.ok h25 w ((fun _ hw => hr_a0_2.sep hw) w hw) ((fun _ hw => hr_a1_2.sep hw) w hw))) ?_
    refine F.qg rfl g20 (r_not rfl) (F.qn rfl (r_pickf rfl rfl g20) (F.nil ?_))
    cases hE_1
    refine Nrm.only [2, 3, 27] rfl ?_
    refine Nrm.pick [0, 1] rfl rfl ?_
    exact hj_1 _ _ ⟨rfl, rfl⟩


def laws_vVisit.f (k : Nat) (a0_0 : Int) (a0_1 : List (Int × Int × Int)) (a0_2 : List Int) (a0_3 : List Int) (a0_4 : Int) (a1_0 : Int) (a1_1 : List (Int × Int × Int)) (a1_2 : List Int) (a1_3 : List Int) (a1_4 : Int) : Option (Bool) := ((laws_vMaze.f k a0_0 a0_1 a0_2 a1_0 a1_1 a1_2).bind fun t9 => (if t9 = true then (laws_vInts.f k a0_3 a1_3).bind fun t15 => (if t15 = true then some (a0_4 == a1_4) else some false) else some false)).bind fun y4 => some y4

theorem laws_vVisit.ok {k : Nat}  {a0_0 : Int} {a0_1 : List (Int × Int × Int)} {a0_2 : List Int} {a0_3 : List Int} {a0_4 : Int} {a1_0 : Int} {a1_1 : List (Int × Int × Int)} {a1_2 : List Int} {a1_3 : List Int} {a1_4 : Int} {r0 : Bool} (h : laws_vVisit.f k a0_0 a0_1 a0_2 a0_3 a0_4 a1_0 a1_1 a1_2 a1_3 a1_4 = some r0) (w : World) {va0_1 : Value} {va0_2 : Value} {va0_3 : Value} {va1_1 : Value} {va1_2 : Value} {va1_3 : Value} (hr_a0_1 : Rd w va0_1 a0_1) (hr_a0_2 : Rd w va0_2 a0_2) (hr_a0_3 : Rd w va0_3 a0_3) (hr_a1_1 : Rd w va1_1 a1_1) (hr_a1_2 : Rd w va1_2 a1_2) (hr_a1_3 : Rd w va1_3 a1_3) :
  Calls Tryz.prog 42 ([.agg ([.int .i64 a0_0, va0_1, va0_2, va0_3, .int .i64 a0_4].toArray), .agg ([.int .i64 a1_0, va1_1, va1_2, va1_3, .int .i64 a1_4].toArray)] : List Value).toArray w (fun e w' => e = .returned (.bool r0) ∧ Ext w w') := by
 unfold laws_vVisit.f at h
 have hl_va0_1 := hr_a0_1.len
 have hl_va0_2 := hr_a0_2.len
 have hl_va0_3 := hr_a0_3.len
 have hl_va1_1 := hr_a1_1.len
 have hl_va1_2 := hr_a1_2.len
 have hl_va1_3 := hr_a1_3.len
 refine Calls.of_tri (N := 24) Tryz.func42 rfl rfl rfl (Sep.nil (M := noM)) ?_
 refine Tri.seq (Tri.reg (l := [0, 1, 2]) rfl ?_)
 refine F.mn rfl (m_boxG rfl rfl) ?_
 rintro _ _ ⟨b2_1, rfl, rfl⟩
 refine F.mn rfl (m_boxG rfl rfl) ?_
 rintro _ _ ⟨b3_1, rfl, rfl⟩
 refine F.qn rfl (r_assign rfl) (F.nil (Nrm.seq (Tri.seq ?_)))
 obtain ⟨y4, hE_1, h⟩ := bind_some h
 refine Tri.cut (fun e' C' => e' = [(4, .bool y4)] ∧ C' = Sep w noM []) ?_ (fun hj_1 => ?_)
 ·rintro _ _ ⟨rfl, rfl⟩
  refine Nrm.seq (Tri.ret ?_)
  cases h
  exact Rtn.body (.tmp rfl .nil) (fun w hw => ⟨rfl, hw.ext⟩)
 ·obtain ⟨t9, h9, hE_1⟩ := bind_some hE_1
  rcases Bool.eq_false_or_eq_true (t9) with g10 | g10
  ·replace hE_1 := if_tt g10 hE_1
   obtain ⟨t15, h15, hE_1⟩ := bind_some hE_1
   rcases Bool.eq_false_or_eq_true (t15) with g17 | g17
   ·replace hE_1 := if_tt g17 hE_1
    refine Tri.reg (l := List.range 20) rfl ?_
    refine F.qn rfl (r_fieldAddr tf44_0 rfl) (F.qn rfl (r_loadA ta27 ti27 rfl rfl (fun w hw => cells_1 (cs' := [.int .i64 a0_0, va0_1, va0_2]) (box_cells (i := 1) rfl w hw) rfl)) (F.qn rfl (r_fieldAddr tf44_0 rfl) (F.qn rfl (r_loadA ta27 ti27 rfl rfl (fun w hw => cells_1 (cs' := [.int .i64 a1_0, va1_1, va1_2]) (box_cells (i := 0) rfl w hw) rfl)) ?_)))
    refine F.qcn rfl (q_callF (xs := _) rfl ok122 rfl rfl (fun w hw => laws_vMaze.ok h9 w ((fun _ hw => hr_a0_1.sep hw) w hw) ((fun _ hw => hr_a0_2.sep hw) w hw) ((fun _ hw => hr_a1_1.sep hw) w hw) ((fun _ hw => hr_a1_2.sep hw) w hw))) ?_
    refine F.qn rfl (r_move rfl) (F.qg rfl g10 (r_fieldAddr tf44_1 rfl) (F.qg rfl g10 (r_load ta25 rfl (fun w hw => cell_1 (box_cells (i := 1) rfl w hw) rfl)) (F.qg rfl g10 (r_fieldAddr tf44_1 rfl) (F.qg rfl g10 (r_load ta25 rfl (fun w hw => cell_1 (box_cells (i := 0) rfl w hw) rfl)) ?_))))
    refine F.qc rfl rfl rfl (wg rfl rfl rfl g10) (q_callF (xs := _) rfl ok19 rfl rfl (fun w hw => laws_vInts.ok h15 w ((fun _ hw => hr_a0_3.sep hw) w hw) ((fun _ hw => hr_a1_3.sep hw) w hw))) ?_
    refine F.qn rfl (r_pick rfl rfl g10) (F.qn rfl (r_move rfl) (F.qg rfl g17 (r_fieldAddr tf44_2 rfl) ?_))
    refine F.qg rfl g17 (r_load ta3 rfl (fun w hw => cell_1 (box_cells (i := 1) rfl w hw) rfl)) (F.qg rfl g17 (r_fieldAddr tf44_2 rfl) (F.qg rfl g17 (r_load ta3 rfl (fun w hw => cell_1 (box_cells (i := 0) rfl w hw) rfl)) (F.qg rfl g17 (r_eql rfl rfl) (F.qn rfl (r_pick rfl rfl g17) (F.qn rfl (r_assign rfl) (F.nil ?_))))))
    cases hE_1
    refine Nrm.only [4] rfl ?_
    refine Nrm.pick [] rfl rfl ?_
    exact hj_1 _ _ ⟨rfl, rfl⟩
   ·replace hE_1 := if_ff g17 hE_1
    refine Tri.reg (l := List.range 20) rfl ?_
    refine F.qn rfl (r_fieldAddr tf44_0 rfl) (F.qn rfl (r_loadA ta27 ti27 rfl rfl (fun w hw => cells_1 (cs' := [.int .i64 a0_0, va0_1, va0_2]) (box_cells (i := 1) rfl w hw) rfl)) (F.qn rfl (r_fieldAddr tf44_0 rfl) (F.qn rfl (r_loadA ta27 ti27 rfl rfl (fun w hw => cells_1 (cs' := [.int .i64 a1_0, va1_1, va1_2]) (box_cells (i := 0) rfl w hw) rfl)) ?_)))
    refine F.qcn rfl (q_callF (xs := _) rfl ok122 rfl rfl (fun w hw => laws_vMaze.ok h9 w ((fun _ hw => hr_a0_1.sep hw) w hw) ((fun _ hw => hr_a0_2.sep hw) w hw) ((fun _ hw => hr_a1_1.sep hw) w hw) ((fun _ hw => hr_a1_2.sep hw) w hw))) ?_
    refine F.qn rfl (r_move rfl) (F.qg rfl g10 (r_fieldAddr tf44_1 rfl) (F.qg rfl g10 (r_load ta25 rfl (fun w hw => cell_1 (box_cells (i := 1) rfl w hw) rfl)) (F.qg rfl g10 (r_fieldAddr tf44_1 rfl) (F.qg rfl g10 (r_load ta25 rfl (fun w hw => cell_1 (box_cells (i := 0) rfl w hw) rfl)) ?_))))
    refine F.qc rfl rfl rfl (wg rfl rfl rfl g10) (q_callF (xs := _) rfl ok19 rfl rfl (fun w hw => laws_vInts.ok h15 w ((fun _ hw => hr_a0_3.sep hw) w hw) ((fun _ hw => hr_a1_3.sep hw) w hw))) ?_
    refine F.qn rfl (r_pick rfl rfl g10) (F.qn rfl (r_move rfl) ?_)
    iterate 5 refine F.skf rfl g17 ?_
    refine F.qn rfl (r_pickf rfl rfl g17) (F.qn rfl (r_assign rfl) (F.nil ?_))
    cases hE_1
    refine Nrm.only [4] rfl ?_
    refine Nrm.pick [] rfl rfl ?_
    exact hj_1 _ _ ⟨rfl, rfl⟩
  ·replace hE_1 := if_ff g10 hE_1
   refine Tri.reg (l := List.range 20) rfl ?_
   refine F.qn rfl (r_fieldAddr tf44_0 rfl) (F.qn rfl (r_loadA ta27 ti27 rfl rfl (fun w hw => cells_1 (cs' := [.int .i64 a0_0, va0_1, va0_2]) (box_cells (i := 1) rfl w hw) rfl)) (F.qn rfl (r_fieldAddr tf44_0 rfl) (F.qn rfl (r_loadA ta27 ti27 rfl rfl (fun w hw => cells_1 (cs' := [.int .i64 a1_0, va1_1, va1_2]) (box_cells (i := 0) rfl w hw) rfl)) ?_)))
   refine F.qcn rfl (q_callF (xs := _) rfl ok122 rfl rfl (fun w hw => laws_vMaze.ok h9 w ((fun _ hw => hr_a0_1.sep hw) w hw) ((fun _ hw => hr_a0_2.sep hw) w hw) ((fun _ hw => hr_a1_1.sep hw) w hw) ((fun _ hw => hr_a1_2.sep hw) w hw))) ?_
   refine F.qn rfl (r_move rfl) ?_
   iterate 5 refine F.skf rfl g10 ?_
   refine F.qn rfl (r_pickf rfl rfl g10) (F.qn rfl (r_move rfl) ?_)
   iterate 5 refine F.skf rfl rfl ?_
   refine F.qn rfl (r_pickf rfl rfl rfl) (F.qn rfl (r_assign rfl) (F.nil ?_))
   cases hE_1
   refine Nrm.only [4] rfl ?_
   refine Nrm.pick [] rfl rfl ?_
   exact hj_1 _ _ ⟨rfl, rfl⟩


def spec_IsVisit.f (k : Nat) (a0_0 : Int) (a0_1 : List (Int × Int × Int)) (a0_2 : List Int) (a0_3 : List Int) (a0_4 : Int) : Option (Bool) := (spec_l12Good.f k a0_0 a0_1 a0_2 a0_3 a0_4).bind fun t4 => some t4

theorem spec_IsVisit.ok {k : Nat}  {a0_0 : Int} {a0_1 : List (Int × Int × Int)} {a0_2 : List Int} {a0_3 : List Int} {a0_4 : Int} {r0 : Bool} (h : spec_IsVisit.f k a0_0 a0_1 a0_2 a0_3 a0_4 = some r0) (w : World) {va0_1 : Value} {va0_2 : Value} {va0_3 : Value} (hr_a0_1 : Rd w va0_1 a0_1) (hr_a0_2 : Rd w va0_2 a0_2) (hr_a0_3 : Rd w va0_3 a0_3) :
  Calls Tryz.prog 44 ([.agg ([.int .i64 a0_0, va0_1, va0_2, va0_3, .int .i64 a0_4].toArray)] : List Value).toArray w (fun e w' => e = .returned (.bool r0) ∧ Ext w w') := by
 unfold spec_IsVisit.f at h
 have hl_va0_1 := hr_a0_1.len
 have hl_va0_2 := hr_a0_2.len
 have hl_va0_3 := hr_a0_3.len
 refine Calls.of_tri (N := 5) Tryz.func44 rfl rfl rfl (Sep.nil (M := noM)) ?_
 refine Tri.seq (Tri.reg (l := [0, 1]) rfl ?_)
 refine F.mn rfl (m_boxG rfl rfl) ?_
 rintro _ _ ⟨b1_1, rfl, rfl⟩
 refine F.qn rfl (r_assign rfl) (F.nil (Nrm.seq (Tri.seq ?_)))
 obtain ⟨t4, h4, h⟩ := bind_some h
 refine Tri.reg (l := [0, 1, 2]) rfl ?_
 refine F.qn rfl (r_loadA ta44 ti44 rfl rfl (fun w hw => (box_cells (i := 0) rfl w hw))) ?_
 refine F.qcn rfl (q_callF (xs := _) rfl ok113 rfl rfl (fun w hw => spec_l12Good.ok h4 w ((fun _ hw => hr_a0_1.sep hw) w hw) ((fun _ hw => hr_a0_2.sep hw) w hw) ((fun _ hw => hr_a0_3.sep hw) w hw))) ?_
 refine F.qn rfl (r_assign rfl) (F.nil (Nrm.seq (Tri.ret ?_)))
 cases h
 exact Rtn.body (.tmp rfl .nil) (fun w hw => ⟨rfl, hw.ext⟩)

end Go.Proofs

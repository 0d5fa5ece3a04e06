/- A part of the proof of FnWorldForms: what the functions of the program compute, walked on the model. No condition. -/
import Derived.Test.YtebbaacgalipaaaGreatFnWorldFormsB
import Derived.Test.YtebbaacgalipaaaGreatFnWorldFormsC
import Derived.Test.YtebbaacgalipaaaGreatFnWorldFormsD
import Derived.Test.YtebbaacgalipaaaGreatFnWorldFormsE
set_option linter.unusedSimpArgs false
/- loop.example/g01158/spec.l10World -/
namespace Go.Proofs
open Go Go.Ga
set_option linter.unusedVariables false
set_option maxRecDepth 100000
set_option maxHeartbeats 4000000
def spec_l10World.f (k : Nat) (a0_0 : List (Int × List (Int × Int × Int) × List Int)) (a0_1 : List (List Int)) (a1 : Int) : Option (Bool) := ((spec_l10Worlds.f k a0_0 a0_1).bind fun t6 => (if t6 = true then (spec_l1In.f k a1 0 (w64 ((a0_0.length : Int) - 1))).bind fun t13 => some t13 else some false)).bind fun y4 => some y4

theorem spec_l10World.ok {k : Nat}  {a0_0 : List (Int × List (Int × Int × Int) × List Int)} {a0_1 : List (List Int)} {a1 : Int} {r0 : Bool} (h : spec_l10World.f k a0_0 a0_1 a1 = some r0) (w : World) {va0_0 : Value} {va0_1 : Value} (hr_a0_0 : Rd w va0_0 a0_0) (hr_a0_1 : Rd w va0_1 a0_1) :
  Calls Tryz.prog 165 ([.agg ([va0_0,va0_1].toArray),.int .i64 a1] : List Value).toArray w (fun e w'=>e = .returned (.bool r0)∧Ext w w'):=by
 unfold spec_l10World.f at h
 have hl_va0_0:=hr_a0_0.len
 have hl_va0_1:=hr_a0_1.len
 refine Calls.of_tri (N:=15) Tryz.func165 rfl rfl rfl (Sep.nil (M:=noM)) ?_
 refine Tri.seq (Tri.reg (l:=[0,1]) rfl ?_)
 refine F.mn rfl (m_boxG rfl rfl) ?_
 rintro _ _ ⟨b2_1,rfl,rfl⟩
 refine F.qn rfl (r_assign rfl) (F.nil (Nrm.seq (Tri.seq ?_)))
 obtain ⟨y4,hE_1,h⟩:=bind_some h
 refine Tri.cut (fun e' C'=>e' = [(4,.bool y4)]∧C' = Sep w noM []) ?_ (fun hj_1=>?_)
 ·rintro _ _ ⟨rfl,rfl⟩
  refine Nrm.seq (Tri.ret ?_)
  cases h
  exact Rtn.body (.tmp rfl .nil) (fun w hw=>⟨rfl,hw.ext⟩)
 ·obtain ⟨t6,h6,hE_1⟩:=bind_some hE_1
  rcases Bool.eq_false_or_eq_true (t6) with g7 | g7
  ·replace hE_1:=if_tt g7 hE_1
   obtain ⟨t13,h13,hE_1⟩:=bind_some hE_1
   refine Tri.reg (l:=[0,1,2,3,4,5,6,7,8,9,10]) rfl ?_
   refine F.qn rfl (r_loadA ta88 ti88 rfl rfl (fun w hw=>(box_cells (i:=0) rfl w hw))) ?_
   refine F.qcn rfl (q_callF (xs:=_) rfl ok159 rfl rfl (fun w hw=>spec_l10Worlds.ok h6 w ((fun _ hw=>hr_a0_0.sep hw) w hw) ((fun _ hw=>hr_a0_1.sep hw) w hw))) ?_
   refine F.qn rfl (r_move rfl) (F.qg rfl g7 (r_move rfl) (F.qg rfl g7 (r_fieldAddr tf88_0 rfl) (F.qg rfl g7 (r_load ta85 rfl (fun w hw=>cell_1 (box_cells (i:=0) rfl w hw) rfl)) (F.qg rfl g7 (r_len Tryz.underlying85 rfl hl_va0_0) (F.qg rfl g7 (r_sub rfl rfl) ?_)))))
   refine F.qc rfl rfl rfl (wg rfl rfl rfl g7) (q_callF (xs:=_) rfl ok148 rfl rfl (fun w hw=>spec_l1In.ok h13 w)) ?_
   refine F.qn rfl (r_pick rfl rfl g7) (F.qn rfl (r_assign rfl) (F.nil ?_))
   cases hE_1
   refine Nrm.only [4] rfl ?_
   refine Nrm.pick [] rfl rfl ?_
   exact hj_1 _ _ ⟨rfl,rfl⟩
  ·replace hE_1:=if_ff g7 hE_1
   refine Tri.reg (l:=[0,1,2,3,4,5,6,7,8,9,10]) rfl ?_
   refine F.qn rfl (r_loadA ta88 ti88 rfl rfl (fun w hw=>(box_cells (i:=0) rfl w hw))) ?_
   refine F.qcn rfl (q_callF (xs:=_) rfl ok159 rfl rfl (fun w hw=>spec_l10Worlds.ok h6 w ((fun _ hw=>hr_a0_0.sep hw) w hw) ((fun _ hw=>hr_a0_1.sep hw) w hw))) ?_
   refine F.qn rfl (r_move rfl) ?_
   iterate 6 refine F.skf rfl g7 ?_
   refine F.qn rfl (r_pickf rfl rfl g7) (F.qn rfl (r_assign rfl) (F.nil ?_))
   cases hE_1
   refine Nrm.only [4] rfl ?_
   refine Nrm.pick [] rfl rfl ?_
   exact hj_1 _ _ ⟨rfl,rfl⟩


def spec_l10Own.l0 (k : Nat) (a0_0 : List (Int × List (Int × Int × Int) × List Int)) (a0_1 : List (List Int)) : Nat → Int → (List (Int × List (Int × Int × Int) × List Int)) → (List (List Int)) → Option ((List (Int × List (Int × Int × Int) × List Int)) × (List (List Int)))
 | 0,_,_,_=>none
 | n + 1,x4,xq3_1_0,xq3_1_1=>(if (decide (x4 < (a0_0.length : Int))) = true then (rdl a0_0 x4).bind fun t20=>(spec_l2Own.f k t20.1 t20.2.1 t20.2.2).bind fun (t22_1,t22_2,t22_3)=>if ((xq3_1_0 : List (Int × List (Int × Int × Int) × List Int)) ++ ([(t22_1,t22_2,t22_3)] : List (Int × List (Int × Int × Int) × List Int))).length < 1099511627776 then (rdl a0_1 x4).bind fun t31=>(spec_l1Own.f k t31).bind fun t33=>if ((xq3_1_1 : List (List Int)) ++ ([t33] : List (List Int))).length < 1099511627776 then spec_l10Own.l0 k a0_0 a0_1 n (w64 (x4 + 1)) ((xq3_1_0 : List (Int × List (Int × Int × Int) × List Int)) ++ ([(t22_1,t22_2,t22_3)] : List (Int × List (Int × Int × Int) × List Int))) ((xq3_1_1 : List (List Int)) ++ ([t33] : List (List Int))) else none else none else some (xq3_1_0,xq3_1_1))

def spec_l10Own.f (k : Nat) (a0_0 : List (Int × List (Int × Int × Int) × List Int)) (a0_1 : List (List Int)) : Option ((List (Int × List (Int × Int × Int) × List Int)) × (List (List Int))) := (spec_l10Own.l0 k a0_0 a0_1 k 0 ([] : List (Int × List (Int × Int × Int) × List Int)) ([] : List (List Int))).bind fun (xq3_1_0, xq3_1_1) => some (xq3_1_0, xq3_1_1)

theorem spec_l10Own.ok {k : Nat}  {a0_0 : List (Int × List (Int × Int × Int) × List Int)} {a0_1 : List (List Int)} {r0 : List (Int × List (Int × Int × Int) × List Int)} {r1 : List (List Int)} (h : spec_l10Own.f k a0_0 a0_1 = some (r0, r1)) (w : World) {va0_0 : Value} {va0_1 : Value} (hr_a0_0 : Rd w va0_0 a0_0) (hr_a0_1 : Rd w va0_1 a0_1) :
  Calls Tryz.prog 166 ([.agg ([va0_0,va0_1].toArray)] : List Value).toArray w (Post (fun u ns=>∃ (ur0 : Value) (Sr0 : Nat → Prop) (ur1 : Value) (Sr1 : Nat → Prop),u = .agg [ur0,ur1].toArray∧SlLen ur0 r0.length∧SlLen ur1 r1.length∧ns = [R.sl Sr0 ur0 r0,R.sl Sr1 ur1 r1]) w):=by
 unfold spec_l10Own.f at h
 have hl_va0_0:=hr_a0_0.len
 have hl_va0_1:=hr_a0_1.len
 refine Calls.of_tri (N:=38) Tryz.func166 rfl rfl rfl (Sep.nil (M:=noM)) ?_
 refine Tri.seq (Tri.reg (l:=[0,1]) rfl ?_)
 refine F.mn rfl (m_boxG rfl rfl) ?_
 rintro _ _ ⟨b1_1,rfl,rfl⟩
 refine F.mn rfl (m_alloc ti88) ?_
 rintro _ _ ⟨b2_1,rfl,rfl⟩
 refine F.nil (Nrm.seq (Tri.seq (Tri.reg (l:=[0,1,2,3,4]) rfl ?_)))
 refine F.mn rfl (m_build0 (α:=Int × List (Int × Int × Int) × List Int) Tryz.underlying85 ti27) ?_
 rintro v5_1 _ ⟨S5_1,hl_v5_1,rfl⟩
 refine F.mn rfl (m_build0 (α:=List Int) Tryz.underlying86 ti25) ?_
 rintro v6_1 _ ⟨S6_1,hl_v6_1,rfl⟩
 refine F.qn rfl (r_build (pl:=[(0,1),(1,1)]) (qs:=[(0,[v5_1]),(1,[v6_1])]) (cs:=[v5_1,v6_1]) (by kernel_rfl) ti88 rfl (.cons (sl_cells hl_v5_1) rfl (Nat.le_of_ble_eq_true rfl) (.cons (sl_cells hl_v6_1) rfl (Nat.le_of_ble_eq_true rfl) .nil)) rfl rfl) ?_
 refine F.mn rfl (m_alloc ti88) ?_
 rintro _ _ ⟨b3_1,rfl,rfl⟩
 refine F.ef0 rfl rfl (wanted_none rfl) (d_storeG0 (i:=0) (cs2:=[v5_1,v6_1]) ti88 rfl rfl rfl rfl rfl (Nat.le_of_ble_eq_true rfl) (lf_cons (sl_leaf hl_v5_1) (lf_cons (sl_leaf hl_v6_1) lf_nil))) ?_
 rintro _ _ ⟨rfl,rfl⟩
 refine F.nil (Nrm.seq (Tri.seq (Tri.seq (Tri.reg (l:=[0]) rfl ?_))))
 refine F.qn rfl (r_assign rfl) (F.nil (Nrm.seq ?_))
 obtain ⟨⟨xq3_1_0,xq3_1_1⟩,hE_1,h⟩:=bind_some h
 refine Tri.block ?_
 refine Tri.only [1,2,3,4] rfl ?_
 refine Tri.pick [0,3,4,1,2] rfl rfl ?_
 refine Tri.rounds (fun n e' C'=>∃ (x4' : Int) (xq3_1_0' : List (Int × List (Int × Int × Int) × List Int)) (xq3_1_1' : List (List Int)) (wq3_1_0 : Value) (Tq3_1_0 : Nat → Prop) (wq3_1_1 : Value) (Tq3_1_1 : Nat → Prop),spec_l10Own.l0 k a0_0 a0_1 n x4' xq3_1_0' xq3_1_1' = some (xq3_1_0,xq3_1_1)∧SlLen wq3_1_0 (xq3_1_0').length∧SlLen wq3_1_1 (xq3_1_1').length∧e' = [(1,.pointer (some ⟨b1_1,0,none⟩)),(2,.pointer (some ⟨b2_1,0,none⟩)),(3,.pointer (some ⟨b3_1,0,none⟩)),(4,.int .i64 x4')]∧C' = Sep w noM [R.box b3_1 88 [wq3_1_0,wq3_1_1],R.box b2_1 88 [.slice none 0 0,.slice none 0 0],R.box b1_1 88 [va0_0,va0_1],R.sl Tq3_1_1 wq3_1_1 (xq3_1_1' : List (List Int)),R.sl Tq3_1_0 wq3_1_0 (xq3_1_0' : List (Int × List (Int × Int × Int) × List Int))]) k ?_ ?_ ?_
 ·exact ⟨0,([] : List (Int × List (Int × Int × Int) × List Int)),([] : List (List Int)),v5_1,S5_1,v6_1,S6_1,hE_1,hl_v5_1,hl_v6_1,rfl,rfl⟩
 ·rintro _ _ ⟨_,_,_,_,_,_,_,hE_1,_⟩
  rw [spec_l10Own.l0.eq_1] at hE_1; cases hE_1
 ·rintro n_1 _ _ ⟨x4,xq3_1_0,xq3_1_1,wq3_1_0,Tq3_1_0,wq3_1_1,Tq3_1_1,hE_1,hl_wq3_1_0,hl_wq3_1_1,rfl,rfl⟩ ih_1
  rw [spec_l10Own.l0.eq_2] at hE_1
  refine Tri.seq (Tri.seq (Tri.reg (l:=[0,1,2,3,4]) rfl ?_))
  refine F.qn rfl (r_move rfl) (F.qn rfl (r_fieldAddr tf88_0 rfl) (F.qn rfl (r_load ta85 rfl (fun w hw=>cell_1 (box_cells (i:=2) rfl w hw) rfl)) (F.qn rfl (r_len Tryz.underlying85 rfl hl_va0_0) (F.qn rfl (r_lss rfl rfl) (F.nil (Nrm.seq (Tri.cond (b:=decide (x4 < (a0_0.length : Int))) rfl (fun g_1=>?_) (fun g_1=>?_))))))))
  ·replace hE_1:=if_tt g_1 hE_1
   refine Tri.skip (Nrm.seq (Tri.seq (Tri.block ?_)))
   refine Tri.seq ?_
   obtain ⟨t20,h20,hE_1⟩:=bind_some hE_1
   obtain ⟨_,hc20,hp20⟩:=Rd.elem hr_a0_0 (rdl_some h20).2.2
   obtain ⟨v20_1,v20_2,rfl,hr_v20_1,hr_v20_2⟩:=op27 hp20
   have hl_v20_1:=hr_v20_1.len
   have hl_v20_2:=hr_v20_2.len
   obtain ⟨⟨t22_1,t22_2,t22_3⟩,h22,hE_1⟩:=bind_some hE_1
   obtain ⟨hs24,hE_1⟩:=ck hE_1
   refine Tri.drawB mixedT Sep.up [(0,true),(1,true),(2,true),(3,true),(4,true),(5,true),(6,true),(7,false),(8,false)] [9,10,11] (by kernel_rfl) ?_
   refine B.q rfl rfl rfl (wanted_none rfl) (r_fieldAddr tf88_0 rfl) ?_
   refine B.q rfl rfl rfl (wanted_none rfl) (r_load ta85 rfl (fun w hw=>cell_1 (box_cells (i:=0) rfl w hw) rfl)) ?_
   refine B.q rfl rfl rfl (wanted_none rfl) (r_fieldAddr tf88_0 rfl) ?_
   refine B.q rfl rfl rfl (wanted_none rfl) (r_load ta85 rfl (fun w hw=>cell_1 (box_cells (i:=2) rfl w hw) rfl)) ?_
   refine B.q rfl rfl rfl (wanted_none rfl) (r_move rfl) ?_
   refine B.q rfl rfl rfl (wanted_none rfl) (r_indexAddrS Tryz.underlying85 ti27 rfl hl_va0_0 rfl (rdl_some h20).1 (rdl_some h20).2.1) ?_
   refine B.q rfl rfl rfl (wanted_none rfl) (r_loadA ta27 ti27 rfl rfl (fun w hw=>(hc20.sep hw))) ?_
   refine B.ef rfl rfl rfl (wanted_none rfl) (Makes.does (m_callF (xs:=_) rfl ok141 rfl rfl (fun w hw=>spec_l2Own.ok h22 w ((fun _ hw=>hr_v20_1.sep hw) w hw) ((fun _ hw=>hr_v20_2.sep hw) w hw)))) (by rintro _ _ ⟨_,⟨v22_3,S22_3,v22_4,S22_4,rfl,hl_v22_3,hl_v22_4,rfl⟩,rfl⟩; exact upd rfl [2,3,4,5,6] rfl rfl) ?_
   rintro _ _ ⟨_,⟨v22_3,S22_3,v22_4,S22_4,rfl,hl_v22_3,hl_v22_4,rfl⟩,rfl⟩
   refine B.ef rfl rfl rfl (wanted_none rfl) (d_build1 (cells:=[.int .i64 t22_1,v22_3,v22_4]) (x0:=((t22_1,t22_2,t22_3) : Int × List (Int × Int × Int) × List Int)) (cs:=[R.sl S22_3 v22_3 (t22_2 : List (Int × Int × Int)),R.sl S22_4 v22_4 (t22_3 : List (Int))]) (rest:=[R.box b3_1 88 [wq3_1_0,wq3_1_1],R.box b2_1 88 [.slice none 0 0,.slice none 0 0],R.box b1_1 88 [va0_0,va0_1],R.sl Tq3_1_1 wq3_1_1 (xq3_1_1 : List (List Int)),R.sl Tq3_1_0 wq3_1_0 (xq3_1_0 : List (Int × List (Int × Int × Int) × List Int))]) [0,1] [2,3,4,5,6] Tryz.underlying85 ti27 rfl rfl rfl (lf_cons rfl (lf_cons (sl_leaf hl_v22_3) (lf_cons (sl_leaf hl_v22_4) lf_nil))) rfl rfl (jn_pair (jn_int (n:=t22_1)) (jn_pair (jn_sl (S:=S22_3) (v:=v22_3) (l:=(t22_2 : List (Int × Int × Int)))) (jn_sl (S:=S22_4) (v:=v22_4) (l:=(t22_3 : List (Int))))))) (by rintro v23_2 _ ⟨S23_2,hl_v23_2,rfl⟩; exact upd rfl [1,2,3,4,5] rfl rfl) ?_
   rintro v23_2 _ ⟨S23_2,hl_v23_2,rfl⟩
   refine B.nil ?_
   refine F.efn rfl (d_appendN (rest:=[R.box b3_1 88 [wq3_1_0,wq3_1_1],R.box b2_1 88 [.slice none 0 0,.slice none 0 0],R.box b1_1 88 [va0_0,va0_1],R.sl Tq3_1_1 wq3_1_1 (xq3_1_1 : List (List Int))]) 5 0 [1,2,3,4] Tryz.underlying85 Tryz.underlying85 ti27 rfl (by decide) rfl rfl rfl rfl hs24) ?_
   rintro v24_2 _ ⟨S24_2,hl_v24_2,rfl⟩
   refine F.qn rfl (r_fieldAddr tf88_0 rfl) ?_
   refine F.ef0 rfl rfl (wanted_none rfl) (d_storeG1 (i:=1) (cs2:=[v24_2]) ti85 rfl rfl rfl (sl_cells hl_v24_2) rfl (Nat.le_of_ble_eq_true rfl) (lf_cons (sl_leaf hl_v24_2) lf_nil)) ?_
   rintro _ _ ⟨rfl,rfl⟩
   refine F.nil (Nrm.seq ?_)
   obtain ⟨t31,h31,hE_1⟩:=bind_some hE_1
   obtain ⟨_,hc31,hp31⟩:=Rd.elem hr_a0_1 (rdl_some h31).2.2
   obtain ⟨v31_0,rfl,hr_v31_0⟩:=op25 hp31
   have hl_v31_0:=hr_v31_0.len
   obtain ⟨t33,h33,hE_1⟩:=bind_some hE_1
   obtain ⟨hs35,hE_1⟩:=ck hE_1
   refine Tri.drawB mixedT Sep.up [(0,true),(1,true),(2,true),(3,true),(4,true),(5,true),(6,true),(7,false),(8,false)] [9,10,11] (by kernel_rfl) ?_
   refine B.q rfl rfl rfl (wanted_none rfl) (r_fieldAddr tf88_1 rfl) ?_
   refine B.q rfl rfl rfl (wanted_none rfl) (r_load ta86 rfl (fun w hw=>cell_1 (box_cells (i:=1) rfl w hw) rfl)) ?_
   refine B.q rfl rfl rfl (wanted_none rfl) (r_fieldAddr tf88_1 rfl) ?_
   refine B.q rfl rfl rfl (wanted_none rfl) (r_load ta86 rfl (fun w hw=>cell_1 (box_cells (i:=3) rfl w hw) rfl)) ?_
   refine B.q rfl rfl rfl (wanted_none rfl) (r_move rfl) ?_
   refine B.q rfl rfl rfl (wanted_none rfl) (r_indexAddrS Tryz.underlying86 ti25 rfl hl_va0_1 rfl (rdl_some h31).1 (rdl_some h31).2.1) ?_
   refine B.q rfl rfl rfl (wanted_none rfl) (r_load ta25 rfl (fun w hw=>cell_0 (hc31.sep hw) rfl)) ?_
   refine B.ef rfl rfl rfl (wanted_none rfl) (Makes.does (m_callF (xs:=_) rfl ok197 rfl rfl (fun w hw=>spec_l1Own.ok h33 w ((fun _ hw=>hr_v31_0.sep hw) w hw)))) (by rintro v33_2 _ ⟨_,⟨S33_2,hl_v33_2,rfl⟩,rfl⟩; exact upd rfl [1,2,3,4,5] rfl rfl) ?_
   rintro v33_2 _ ⟨_,⟨S33_2,hl_v33_2,rfl⟩,rfl⟩
   refine B.ef rfl rfl rfl (wanted_none rfl) (d_build1 (cells:=[v33_2]) (x0:=(t33 : List Int)) (cs:=[R.sl S33_2 v33_2 (t33 : List (Int))]) (rest:=[R.sl S24_2 v24_2 ((xq3_1_0 : List (Int × List (Int × Int × Int) × List Int)) ++ ([(t22_1,t22_2,t22_3)] : List (Int × List (Int × Int × Int) × List Int)) : List (Int × List (Int × Int × Int) × List Int)),R.box b3_1 88 [v24_2,wq3_1_1],R.box b2_1 88 [.slice none 0 0,.slice none 0 0],R.box b1_1 88 [va0_0,va0_1],R.sl Tq3_1_1 wq3_1_1 (xq3_1_1 : List (List Int))]) [0] [1,2,3,4,5] Tryz.underlying86 ti25 rfl (sl_cells hl_v33_2) rfl (lf_cons (sl_leaf hl_v33_2) lf_nil) rfl rfl (jn_sl (S:=S33_2) (v:=v33_2) (l:=(t33 : List (Int))))) (by rintro v34_2 _ ⟨S34_2,hl_v34_2,rfl⟩; exact upd rfl [1,2,3,4,5] rfl rfl) ?_
   rintro v34_2 _ ⟨S34_2,hl_v34_2,rfl⟩
   refine B.nil ?_
   refine F.efn rfl (d_appendN (rest:=[R.sl S24_2 v24_2 ((xq3_1_0 : List (Int × List (Int × Int × Int) × List Int)) ++ ([(t22_1,t22_2,t22_3)] : List (Int × List (Int × Int × Int) × List Int)) : List (Int × List (Int × Int × Int) × List Int)),R.box b3_1 88 [v24_2,wq3_1_1],R.box b2_1 88 [.slice none 0 0,.slice none 0 0],R.box b1_1 88 [va0_0,va0_1]]) 5 0 [1,2,3,4] Tryz.underlying86 Tryz.underlying86 ti25 rfl (by decide) rfl rfl rfl rfl hs35) ?_
   rintro v35_2 _ ⟨S35_2,hl_v35_2,rfl⟩
   refine F.qn rfl (r_fieldAddr tf88_1 rfl) ?_
   refine F.ef0 rfl rfl (wanted_none rfl) (d_storeG1 (i:=2) (cs2:=[v35_2]) ti86 rfl rfl rfl (sl_cells hl_v35_2) rfl (Nat.le_of_ble_eq_true rfl) (lf_cons (sl_leaf hl_v35_2) lf_nil)) ?_
   rintro _ _ ⟨rfl,rfl⟩
   refine F.nil (Nrm.block ?_)
   refine Nrm.seq (Tri.reg (l:=[0,1,2]) rfl ?_)
   refine F.qn rfl (r_move rfl) (F.qn rfl (r_add rfl rfl) (F.qn rfl (r_assign rfl) (F.nil (Nrm.round ?_))))
   refine Rnd.only [1,2,3,4] rfl ?_
   refine Rnd.pick [2,3,4,0,1] rfl rfl ?_
   exact ih_1 _ _ ⟨w64 (x4 + 1),(xq3_1_0 : List (Int × List (Int × Int × Int) × List Int)) ++ ([(t22_1,t22_2,t22_3)] : List (Int × List (Int × Int × Int) × List Int)),(xq3_1_1 : List (List Int)) ++ ([t33] : List (List Int)),v24_2,S24_2,v35_2,S35_2,hE_1,hl_v24_2,hl_v35_2,rfl,rfl⟩
  ·replace hE_1:=if_ff g_1 hE_1
   refine Tri.exit ?_
   refine Exi.then ?_
   refine Exi.then ?_
   refine Exi.same ?_
   cases hE_1
   refine Nrm.seq (Tri.seq (Tri.reg (l:=[0,1]) rfl ?_))
   refine F.qn rfl (r_loadA ta88 ti88 rfl rfl (fun w hw=>(box_cells (i:=0) rfl w hw))) ?_
   refine F.ef0 rfl rfl (wanted_none rfl) (d_storeG0 (i:=1) (cs2:=[wq3_1_0,wq3_1_1]) ti88 rfl rfl rfl rfl rfl (Nat.le_of_ble_eq_true rfl) (lf_cons (sl_leaf hl_wq3_1_0) (lf_cons (sl_leaf hl_wq3_1_1) lf_nil))) ?_
   rintro _ _ ⟨rfl,rfl⟩
   refine F.nil (Nrm.seq (Tri.ret ?_))
   cases h
   exact Rtn.body (.cell rfl ta88 ti88 rfl (fun _ hw=>box_cells (i:=1) rfl _ hw) .nil) (fun w hw=>⟨_,_,rfl,⟨wq3_1_0,Tq3_1_0,wq3_1_1,Tq3_1_1,rfl,hl_wq3_1_0,hl_wq3_1_1,rfl⟩,Sep.pick (is:=[4,3]) rfl rfl hw⟩)


def spec_GiveKeys.f (k : Nat) (a0_0 : List (Int × List (Int × Int × Int) × List Int)) (a0_1 : List (List Int)) (a1 : Int) (a2 : Int) (a3 : Int) : Option ((List (Int × List (Int × Int × Int) × List Int)) × (List (List Int)) × Bool) := ((spec_l10World.f k a0_0 a0_1 a1).bind fun t13 => (if (!t13) = true then some true else (rdl a0_0 a1).bind fun t20 => (spec_l1In.f k a2 0 (w64 (t20.1 - 1))).bind fun t24 => (if (!t24) = true then some true else (spec_l1In.f k a3 0 (w64 ((a0_0.length : Int) - 1))).bind fun t33 => some (!t33)))).bind fun y35 => (if y35 = true then some ([], [], false) else (spec_l10Own.f k a0_0 a0_1).bind fun (t38_1, t38_2) => (rdl (t38_2 : List (List Int)) a1).bind fun t42 => (rdl t42 a2).bind fun t46 => some (t38_1, (t38_2 : List (List Int)).set (a1 : Int).toNat (t42.set a2.toNat a3), true))

theorem spec_GiveKeys.ok {k : Nat}  {a0_0 : List (Int × List (Int × Int × Int) × List Int)} {a0_1 : List (List Int)} {a1 : Int} {a2 : Int} {a3 : Int} {r0 : List (Int × List (Int × Int × Int) × List Int)} {r1 : List (List Int)} {r2 : Bool} (h : spec_GiveKeys.f k a0_0 a0_1 a1 a2 a3 = some (r0, r1, r2)) (w : World) {va0_0 : Value} {va0_1 : Value} (hr_a0_0 : Rd w va0_0 a0_0) (hr_a0_1 : Rd w va0_1 a0_1) :
  Calls Tryz.prog 79 ([.agg ([va0_0,va0_1].toArray),.int .i64 a1,.int .i64 a2,.int .i64 a3] : List Value).toArray w (Post (fun u ns=>∃ (ur0 : Value) (Sr0 : Nat → Prop) (ur1 : Value) (Sr1 : Nat → Prop),u = .tuple #[.agg [ur0,ur1].toArray,.bool r2]∧SlLen ur0 r0.length∧SlLen ur1 r1.length∧ns = [R.sl Sr0 ur0 r0,R.sl Sr1 ur1 r1]) w):=by
 unfold spec_GiveKeys.f at h
 have hl_va0_0:=hr_a0_0.len
 have hl_va0_1:=hr_a0_1.len
 refine Calls.of_tri (N:=48) Tryz.func79 rfl rfl rfl (Sep.nil (M:=noM)) ?_
 refine Tri.seq (Tri.reg (l:=[0,1,2]) rfl ?_)
 refine F.mn rfl (m_boxG rfl rfl) ?_
 rintro _ _ ⟨b4_1,rfl,rfl⟩
 refine F.mn rfl (m_alloc ti88) ?_
 rintro _ _ ⟨b8_1,rfl,rfl⟩
 refine F.qn rfl (r_assign rfl) (F.nil (Nrm.seq (Tri.seq (Tri.seq ?_))))
 obtain ⟨y35,hE_1,h⟩:=bind_some h
 refine Tri.cut (fun e' C'=>e' = [(1,.int .i64 a1),(2,.int .i64 a2),(3,.int .i64 a3),(4,.pointer (some ⟨b4_1,0,none⟩)),(8,.pointer (some ⟨b8_1,0,none⟩)),(35,.bool y35)]∧C' = Sep w noM [R.box b8_1 88 [.slice none 0 0,.slice none 0 0],R.box b4_1 88 [va0_0,va0_1]]) ?_ (fun hj_1=>?_)
 ·rintro _ _ ⟨rfl,rfl⟩
  refine Nrm.seq (Tri.cond (b:=y35) rfl (fun g_1=>?_) (fun g_1=>?_))
  ·replace h:=if_tt g_1 h
   refine Tri.seq (Tri.reg (l:=[0,1,2]) rfl ?_)
   refine F.qn rfl (r_build (pl:=[(0,1),(1,1)]) (qs:=[]) (cs:=[.slice none 0 0,.slice none 0 0]) (by kernel_rfl) ti88 rfl .nil rfl rfl) ?_
   refine F.ef0 rfl rfl (wanted_none rfl) (d_storeG0 (i:=0) (cs2:=[.slice none 0 0,.slice none 0 0]) ti88 rfl rfl rfl rfl rfl (Nat.le_of_ble_eq_true rfl) (lf_cons rfl (lf_cons rfl lf_nil))) ?_
   rintro _ _ ⟨rfl,rfl⟩
   refine F.qn rfl (r_assign rfl) (F.nil (Nrm.seq (Tri.ret ?_)))
   refine Rtn.then ?_
   cases h
   exact Rtn.body (.cell rfl ta88 ti88 rfl (fun _ hw=>box_cells (i:=0) rfl _ hw) (.tmp rfl .nil)) (fun w hw=>⟨_,_,rfl,⟨.slice none 0 0,fun _=>False,.slice none 0 0,fun _=>False,rfl,len_nil,len_nil,rfl⟩,Sep.pick (is:=[0,1]) rfl rfl hw.pushNil.pushNil⟩)
  ·replace h:=if_ff g_1 h
   refine Tri.skip (Nrm.seq (Tri.seq ?_))
   obtain ⟨⟨t38_1,t38_2⟩,h38,h⟩:=bind_some h
   refine Tri.reg (l:=[0,1,2,3]) rfl ?_
   refine F.qn rfl (r_loadA ta88 ti88 rfl rfl (fun w hw=>(box_cells (i:=1) rfl w hw))) ?_
   refine F.mn rfl (m_callF (xs:=_) rfl ok166 rfl rfl (fun w hw=>spec_l10Own.ok h38 w ((fun _ hw=>hr_a0_0.sep hw) w hw) ((fun _ hw=>hr_a0_1.sep hw) w hw))) ?_
   rintro _ _ ⟨_,⟨v38_1,S38_1,v38_2,S38_2,rfl,hl_v38_1,hl_v38_2,rfl⟩,rfl⟩
   refine F.mn rfl (m_alloc ti88) ?_
   rintro _ _ ⟨b10_1,rfl,rfl⟩
   refine F.ef0 rfl rfl (wanted_none rfl) (d_storeG0 (i:=0) (cs2:=[v38_1,v38_2]) ti88 rfl rfl rfl rfl rfl (Nat.le_of_ble_eq_true rfl) (lf_cons (sl_leaf hl_v38_1) (lf_cons (sl_leaf hl_v38_2) lf_nil))) ?_
   rintro _ _ ⟨rfl,rfl⟩
   refine F.nil (Nrm.seq (Tri.seq ?_))
   obtain ⟨t42,h42,h⟩:=bind_some h
   obtain ⟨t46,h46,h⟩:=bind_some h
   refine Tri.ex (on25 [2] [0,1,3,4] rfl rfl (rdl_some h42).2.2) ?_
   rintro _ ⟨v42_0_1,S42_0_1,Sr42_1,hl_v42_0_1,hS42_1,rfl⟩
   refine Tri.reg (l:=[0,1,2,3,4,5,6,7,8]) rfl ?_
   refine F.qn rfl (r_fieldAddr tf88_1 rfl) (F.qn rfl (r_load ta86 rfl (fun w hw=>cell_1 (box_cells (i:=2) rfl w hw) rfl)) ?_)
   refine F.qn rfl (r_move rfl) (F.qn rfl (r_indexAddrS Tryz.underlying86 ti25 rfl hl_v38_2 rfl (rdl_some h42).1 (rdl_some h42).2.1) (F.qn rfl (r_load ta25 rfl (fun w hw=>cell_0 (hole_cells (p:=1) rfl w hw) rfl)) (F.qn rfl (r_move rfl) (F.qn rfl (r_move rfl) (F.qn rfl (r_indexAddrS Tryz.underlying25 ti3 rfl hl_v42_0_1 rfl (rdl_some h46).1 (rdl_some h46).2.1) ?_)))))
   refine F.ef0 rfl rfl (wanted_none rfl) (d_storeE (i:=0) (x1:=a3) ti3 rfl rfl rfl (rdl_some h46) rfl) ?_
   rintro _ _ ⟨rfl,rfl⟩
   refine F.nil (Nrm.imp (cloS1 (cs:=[R.sl S42_0_1 v42_0_1 (t42.set a2.toNat a3 : List (Int))]) (rest:=[R.box b10_1 88 [v38_1,v38_2],R.sl S38_1 v38_1 (t38_1 : List (Int × List (Int × Int × Int) × List Int)),R.box b8_1 88 [.slice none 0 0,.slice none 0 0],R.box b4_1 88 [va0_0,va0_1]]) [0,1] [2,3,4,5] rfl rfl (jn_sl (S:=S42_0_1) (v:=v42_0_1) (l:=(t42.set a2.toNat a3 : List (Int)))) hS42_1) ?_)
   refine Nrm.seq (Tri.seq (Tri.reg (l:=[0,1,2]) rfl ?_))
   refine F.qn rfl (r_loadA ta88 ti88 rfl rfl (fun w hw=>(box_cells (i:=1) rfl w hw))) ?_
   refine F.ef0 rfl rfl (wanted_none rfl) (d_storeG0 (i:=3) (cs2:=[v38_1,v38_2]) ti88 rfl rfl rfl rfl rfl (Nat.le_of_ble_eq_true rfl) (lf_cons (sl_leaf hl_v38_1) (lf_cons (sl_leaf hl_v38_2) lf_nil))) ?_
   rintro _ _ ⟨rfl,rfl⟩
   refine F.qn rfl (r_assign rfl) (F.nil (Nrm.seq (Tri.ret ?_)))
   cases h
   exact Rtn.body (.cell rfl ta88 ti88 rfl (fun _ hw=>box_cells (i:=3) rfl _ hw) (.tmp rfl .nil)) (fun w hw=>⟨_,_,rfl,⟨v38_1,S38_1,v38_2,S38_2,rfl,hl_v38_1,(len_set hl_v38_2),rfl⟩,Sep.pick (is:=[2,0]) rfl rfl hw⟩)
 ·obtain ⟨t13,h13,hE_1⟩:=bind_some hE_1
  rcases Bool.eq_false_or_eq_true (!t13) with g15 | g15
  ·replace hE_1:=if_tt g15 hE_1
   refine Tri.reg (l:=List.range 25) rfl ?_
   refine F.qn rfl (r_loadA ta88 ti88 rfl rfl (fun w hw=>(box_cells (i:=1) rfl w hw))) (F.qn rfl (r_move rfl) ?_)
   refine F.qcn rfl (q_callF (xs:=_) rfl ok165 rfl rfl (fun w hw=>spec_l10World.ok h13 w ((fun _ hw=>hr_a0_0.sep hw) w hw) ((fun _ hw=>hr_a0_1.sep hw) w hw))) ?_
   refine F.qn rfl (r_not rfl) (F.qn rfl (r_move rfl) ?_)
   iterate 10 refine F.skf rfl g15 ?_
   refine F.qn rfl (r_pick rfl rfl g15) (F.qn rfl (r_move rfl) ?_)
   iterate 7 refine F.skf rfl rfl ?_
   refine F.qn rfl (r_pick rfl rfl rfl) (F.nil ?_)
   cases hE_1
   refine Nrm.only [1,2,3,4,8,35] rfl ?_
   refine Nrm.pick [0,1] rfl rfl ?_
   exact hj_1 _ _ ⟨rfl,rfl⟩
  ·replace hE_1:=if_ff g15 hE_1
   obtain ⟨t20,h20,hE_1⟩:=bind_some hE_1
   obtain ⟨_,hc20,hp20⟩:=Rd.elem hr_a0_0 (rdl_some h20).2.2
   obtain ⟨v20_1,v20_2,rfl,hr_v20_1,hr_v20_2⟩:=op27 hp20
   have hl_v20_1:=hr_v20_1.len
   have hl_v20_2:=hr_v20_2.len
   obtain ⟨t24,h24,hE_1⟩:=bind_some hE_1
   rcases Bool.eq_false_or_eq_true (!t24) with g27 | g27
   ·replace hE_1:=if_tt g27 hE_1
    refine Tri.reg (l:=List.range 25) rfl ?_
    refine F.qn rfl (r_loadA ta88 ti88 rfl rfl (fun w hw=>(box_cells (i:=1) rfl w hw))) (F.qn rfl (r_move rfl) ?_)
    refine F.qcn rfl (q_callF (xs:=_) rfl ok165 rfl rfl (fun w hw=>spec_l10World.ok h13 w ((fun _ hw=>hr_a0_0.sep hw) w hw) ((fun _ hw=>hr_a0_1.sep hw) w hw))) ?_
    refine F.qn rfl (r_not rfl) (F.qn rfl (r_move rfl) (F.qg rfl g15 (r_move rfl) (F.qg rfl g15 (r_fieldAddr tf88_0 rfl) ?_)))
    refine F.qg rfl g15 (r_load ta85 rfl (fun w hw=>cell_1 (box_cells (i:=1) rfl w hw) rfl)) (F.qg rfl g15 (r_move rfl) (F.qg rfl g15 (r_indexAddrS Tryz.underlying85 ti27 rfl hl_va0_0 rfl (rdl_some h20).1 (rdl_some h20).2.1) (F.qg rfl g15 (r_fieldAddr tf27_0 rfl) (F.qg rfl g15 (r_load ta3 rfl (fun w hw=>cell_1 (hc20.sep hw) rfl)) (F.qg rfl g15 (r_sub rfl rfl) ?_)))))
    refine F.qc rfl rfl rfl (wg rfl rfl rfl g15) (q_callF (xs:=_) rfl ok148 rfl rfl (fun w hw=>spec_l1In.ok h24 w)) ?_
    refine F.qg rfl g15 (r_not rfl) (F.qn rfl (r_pickf rfl rfl g15) (F.qn rfl (r_move rfl) ?_))
    iterate 7 refine F.skf rfl g27 ?_
    refine F.qn rfl (r_pick rfl rfl g27) (F.nil ?_)
    cases hE_1
    refine Nrm.only [1,2,3,4,8,35] rfl ?_
    refine Nrm.pick [0,1] rfl rfl ?_
    exact hj_1 _ _ ⟨rfl,rfl⟩
   ·replace hE_1:=if_ff g27 hE_1
    obtain ⟨t33,h33,hE_1⟩:=bind_some hE_1
    refine Tri.reg (l:=List.range 25) rfl ?_
    refine F.qn rfl (r_loadA ta88 ti88 rfl rfl (fun w hw=>(box_cells (i:=1) rfl w hw))) (F.qn rfl (r_move rfl) ?_)
    refine F.qcn rfl (q_callF (xs:=_) rfl ok165 rfl rfl (fun w hw=>spec_l10World.ok h13 w ((fun _ hw=>hr_a0_0.sep hw) w hw) ((fun _ hw=>hr_a0_1.sep hw) w hw))) ?_
    refine F.qn rfl (r_not rfl) (F.qn rfl (r_move rfl) (F.qg rfl g15 (r_move rfl) (F.qg rfl g15 (r_fieldAddr tf88_0 rfl) ?_)))
    refine F.qg rfl g15 (r_load ta85 rfl (fun w hw=>cell_1 (box_cells (i:=1) rfl w hw) rfl)) (F.qg rfl g15 (r_move rfl) (F.qg rfl g15 (r_indexAddrS Tryz.underlying85 ti27 rfl hl_va0_0 rfl (rdl_some h20).1 (rdl_some h20).2.1) (F.qg rfl g15 (r_fieldAddr tf27_0 rfl) (F.qg rfl g15 (r_load ta3 rfl (fun w hw=>cell_1 (hc20.sep hw) rfl)) (F.qg rfl g15 (r_sub rfl rfl) ?_)))))
    refine F.qc rfl rfl rfl (wg rfl rfl rfl g15) (q_callF (xs:=_) rfl ok148 rfl rfl (fun w hw=>spec_l1In.ok h24 w)) ?_
    refine F.qg rfl g15 (r_not rfl) (F.qn rfl (r_pickf rfl rfl g15) ?_)
    refine F.qn rfl (r_move rfl) (F.qg rfl g27 (r_move rfl) (F.qg rfl g27 (r_fieldAddr tf88_0 rfl) (F.qg rfl g27 (r_load ta85 rfl (fun w hw=>cell_1 (box_cells (i:=1) rfl w hw) rfl)) (F.qg rfl g27 (r_len Tryz.underlying85 rfl hl_va0_0) (F.qg rfl g27 (r_sub rfl rfl) ?_)))))
    refine F.qc rfl rfl rfl (wg rfl rfl rfl g27) (q_callF (xs:=_) rfl ok148 rfl rfl (fun w hw=>spec_l1In.ok h33 w)) ?_
    refine F.qg rfl g27 (r_not rfl) (F.qn rfl (r_pickf rfl rfl g27) (F.nil ?_))
    cases hE_1
    refine Nrm.only [1,2,3,4,8,35] rfl ?_
    refine Nrm.pick [0,1] rfl rfl ?_
    exact hj_1 _ _ ⟨rfl,rfl⟩


def slices_Contains_int_int.f (k : Nat) (a0 : List Int) (a1 : Int) : Option (Bool) := (slices_Index_int_int.f k a0 a1).bind fun t7 => some (decide (t7 ≥ 0))

theorem slices_Contains_int_int.ok {k : Nat}  {a0 : List Int} {a1 : Int} {r0 : Bool} (h : slices_Contains_int_int.f k a0 a1 = some r0) (w : World) {va0 : Value} (hr_a0 : Rd w va0 a0) :
  Calls Tryz.prog 167 ([va0,.int .i64 a1] : List Value).toArray w (fun e w'=>e = .returned (.bool r0)∧Ext w w'):=by
 unfold slices_Contains_int_int.f at h
 have hl_va0:=hr_a0.len
 refine Calls.of_tri (N:=9) Tryz.func167 rfl rfl rfl (Sep.nil (M:=noM)) ?_
 refine Tri.seq (Tri.reg (l:=[0]) rfl ?_)
 refine F.qn rfl (r_assign rfl) (F.nil (Nrm.seq (Tri.seq ?_)))
 obtain ⟨t7,h7,h⟩:=bind_some h
 refine Tri.reg (l:=[0,1,2,3,4]) rfl ?_
 refine F.qn rfl (r_move rfl) (F.qn rfl (r_move rfl) ?_)
 refine F.qcn rfl (q_callF (xs:=_) rfl ok158 rfl rfl (fun w hw=>slices_Index_int_int.ok h7 w ((fun _ hw=>hr_a0.sep hw) w hw))) ?_
 refine F.qn rfl (r_geq rfl rfl) (F.qn rfl (r_assign rfl) (F.nil (Nrm.seq (Tri.ret ?_))))
 cases h
 exact Rtn.body (.tmp rfl .nil) (fun w hw=>⟨rfl,hw.ext⟩)


def impl_reach.l0 (k : Nat) (a0_0 : Int) (a0_1 : List (Int × Int × Int)) (a0_2 : List Int) (a2 : Int) : Nat → Int → (List (Int)) → Option (Int)
 | 0,_,_=>none
 | n + 1,x7,x8=>(if (decide ((x8.length : Int) > 0)) = true then (rdl x8 0).bind fun t19=>(impl_steps.f k a0_0 a0_1 a0_2 t19 a2).bind fun t22=>(slc x8 1 (x8.length : Int)).bind fun t29=>(impl_members.f k (bclr t22 x7)).bind fun t31=>if (t29 ++ t31).length < 1099511627776 then impl_reach.l0 k a0_0 a0_1 a0_2 a2 n (bor x7 (bclr t22 x7)) (t29 ++ t31) else none else some x7)

def impl_reach.f (k : Nat) (a0_0 : Int) (a0_1 : List (Int × Int × Int)) (a0_2 : List Int) (a1 : Int) (a2 : Int) : Option (Int) := if ¬ a1 < 0 then (impl_reach.l0 k a0_0 a0_1 a0_2 a2 k (shl 1 a1) ([a1] : List (Int))).bind fun x7 => some x7 else none

theorem impl_reach.ok {k : Nat}  {a0_0 : Int} {a0_1 : List (Int × Int × Int)} {a0_2 : List Int} {a1 : Int} {a2 : Int} {r0 : Int} (h : impl_reach.f k a0_0 a0_1 a0_2 a1 a2 = some r0) (w : World) {va0_1 : Value} {va0_2 : Value} (hr_a0_1 : Rd w va0_1 a0_1) (hr_a0_2 : Rd w va0_2 a0_2) :
  Calls Tryz.prog 120 ([.agg ([.int .i64 a0_0,va0_1,va0_2].toArray),.int .i64 a1,.int .i64 a2] : List Value).toArray w (fun e w'=>e = .returned (.int .i64 r0)∧Ext w w'):=by
 unfold impl_reach.f at h
 have hl_va0_1:=hr_a0_1.len
 have hl_va0_2:=hr_a0_2.len
 refine Calls.of_tri (N:=34) Tryz.func120 rfl rfl rfl (Sep.nil (M:=noM)) ?_
 refine Tri.seq (Tri.reg (l:=[0,1]) rfl ?_)
 refine F.mn rfl (m_boxG rfl rfl) ?_
 rintro _ _ ⟨b3_1,rfl,rfl⟩
 refine F.qn rfl (r_assign rfl) (F.nil (Nrm.seq (Tri.seq ?_)))
 obtain ⟨hs11,h⟩:=ck h
 refine Tri.reg (l:=[0,1,2,3,4,5]) rfl ?_
 refine F.qn rfl (r_move rfl) (F.qn rfl (r_shl rfl rfl hs11) (F.qn rfl (r_move rfl) ?_))
 refine F.mn rfl (m_buildF (l:=([a1] : List (Int))) Tryz.underlying25 ti3 rfl rfl rfl rfl rfl) ?_
 rintro v13_1 _ ⟨S13_1,hl_v13_1,rfl⟩
 refine F.qn rfl (r_assign rfl) (F.qn rfl (r_assign rfl) (F.nil (Nrm.seq (Tri.seq ?_))))
 obtain ⟨x7,hE_1,h⟩:=bind_some h
 refine Tri.block ?_
 refine Tri.only [2,3,7,8] rfl ?_
 refine Tri.pick [1,0] rfl rfl ?_
 refine Tri.rounds (fun n e' C'=>∃ (x7' : Int) (x8' : List (Int)) (w8 : Value) (T8 : Nat → Prop),impl_reach.l0 k a0_0 a0_1 a0_2 a2 n x7' x8' = some x7∧SlLen w8 (x8').length∧e' = [(2,.int .i64 a2),(3,.pointer (some ⟨b3_1,0,none⟩)),(7,.int .i64 x7'),(8,w8)]∧C' = Sep w noM [R.box b3_1 27 [.int .i64 a0_0,va0_1,va0_2],R.sl T8 w8 (x8' : List (Int))]) k ?_ ?_ ?_
 ·exact ⟨shl 1 a1,([a1] : List (Int)),v13_1,S13_1,hE_1,hl_v13_1,rfl,rfl⟩
 ·rintro _ _ ⟨_,_,_,_,hE_1,_⟩
  rw [impl_reach.l0.eq_1] at hE_1; cases hE_1
 ·rintro n_1 _ _ ⟨x7,x8,w8,T8,hE_1,hl_w8,rfl,rfl⟩ ih_1
  rw [impl_reach.l0.eq_2] at hE_1
  refine Tri.seq (Tri.seq (Tri.reg (l:=[0,1,2]) rfl ?_))
  refine F.qn rfl (r_move rfl) (F.qn rfl (r_len Tryz.underlying25 rfl hl_w8) (F.qn rfl (r_gtr rfl rfl) (F.nil (Nrm.seq (Tri.cond (b:=decide ((x8.length : Int) > 0)) rfl (fun g_1=>?_) (fun g_1=>?_))))))
  ·replace hE_1:=if_tt g_1 hE_1
   refine Tri.skip (Nrm.seq (Tri.block ?_))
   refine Tri.seq ?_
   obtain ⟨t19,h19,hE_1⟩:=bind_some hE_1
   obtain ⟨t22,h22,hE_1⟩:=bind_some hE_1
   refine Tri.drawA mixedT Sep.up [(0,true),(1,true),(2,true),(3,true),(4,true),(5,true),(6,true),(7,true),(8,true)] [] (by kernel_rfl) ?_
   refine S.qn rfl (r_loadA ta27 ti27 rfl rfl (fun w hw=>(box_cells (i:=0) rfl w hw))) (S.qn rfl (r_move rfl) (S.qn rfl (r_indexAddrS Tryz.underlying25 ti3 rfl hl_w8 rfl (rdl_some h19).1 (rdl_some h19).2.1) (S.qn rfl (r_load ta3 rfl (fun w hw=>cell_0 (Rd.flat ((rd_sl (i:=1) rfl) w hw) (rdl_some h19).2.2) rfl)) (S.qn rfl (r_move rfl) ?_))))
   refine S.qcn rfl (q_callF (xs:=_) rfl ok207 rfl rfl (fun w hw=>impl_steps.ok h22 w ((fun _ hw=>hr_a0_1.sep hw) w hw) ((fun _ hw=>hr_a0_2.sep hw) w hw))) ?_
   refine S.qn rfl (r_move rfl) (S.qn rfl (r_andNot rfl rfl) (S.qn rfl (r_assign rfl) (S.nil (F.nil (Nrm.seq (Tri.seq (Tri.reg (l:=[0,1,2,3]) rfl ?_)))))))
   refine F.qn rfl (r_move rfl) (F.qn rfl (r_move rfl) (F.qn rfl (r_or rfl rfl) (F.qn rfl (r_assign rfl) (F.nil (Nrm.seq ?_)))))
   obtain ⟨t29,h29,hE_1⟩:=bind_some hE_1
   obtain ⟨t31,h31,hE_1⟩:=bind_some hE_1
   obtain ⟨hs32,hE_1⟩:=ck hE_1
   refine Tri.drawA mixedT Sep.up [(0,true),(1,true),(2,true),(3,false)] [4,5] (by kernel_rfl) ?_
   refine S.qn rfl (r_move rfl) (S.qn rfl (r_sliceL Tryz.underlying25 ti3 rfl (rd_sl (i:=1) rfl) rfl h29) (S.qn rfl (r_move rfl) ?_))
   refine S.m rfl rfl rfl (wanted_none rfl) (m_callF (xs:=_) rfl ok119 rfl rfl (fun w hw=>impl_members.ok h31 w)) ?_
   rintro v31_2 _ ⟨_,⟨S31_2,hl_v31_2,rfl⟩,rfl⟩
   refine S.nil (F.efn rfl (Does.pre (fun w hw=>Sep.resl (i:=2) rfl h29 hw) <| d_append (i:=2) Tryz.underlying25 Tryz.underlying25 ti3 rfl (by decide) rfl rfl rfl (rd_sl (i:=0) rfl) hs32) ?_)
   rintro v32_2 _ ⟨S32_2,rfl,hl_v32_2⟩
   refine F.qn rfl (r_assign rfl) (F.nil (Nrm.block ?_))
   refine Nrm.round ?_
   refine Rnd.only [2,3,7,8] rfl ?_
   refine Rnd.pick [1,2] rfl rfl ?_
   exact ih_1 _ _ ⟨bor x7 (bclr t22 x7),t29 ++ t31,v32_2,S32_2,hE_1,hl_v32_2,rfl,rfl⟩
  ·replace hE_1:=if_ff g_1 hE_1
   refine Tri.exit ?_
   refine Exi.then ?_
   refine Exi.then ?_
   refine Exi.same ?_
   cases hE_1
   refine Nrm.seq (Tri.seq (Tri.reg (l:=[0,1]) rfl ?_))
   refine F.qn rfl (r_move rfl) (F.qn rfl (r_assign rfl) (F.nil (Nrm.seq (Tri.ret ?_))))
   cases h
   exact Rtn.body (.tmp rfl .nil) (fun w hw=>⟨rfl,hw.ext⟩)


def impl_allNodes.f (k : Nat) (a0_0 : Int) (a0_1 : List (Int × Int × Int)) (a0_2 : List Int) : Option (Int) := if ¬ a0_0 < 0 then some (w64 ((shl 1 a0_0) - 1)) else none

theorem impl_allNodes.ok {k : Nat}  {a0_0 : Int} {a0_1 : List (Int × Int × Int)} {a0_2 : List Int} {r0 : Int} (h : impl_allNodes.f k a0_0 a0_1 a0_2 = some r0) (w : World) {va0_1 : Value} {va0_2 : Value} (hr_a0_1 : Rd w va0_1 a0_1) (hr_a0_2 : Rd w va0_2 a0_2) :
  Calls Tryz.prog 183 ([.agg ([.int .i64 a0_0,va0_1,va0_2].toArray)] : List Value).toArray w (fun e w'=>e = .returned (.int .i64 r0)∧Ext w w'):=by
 unfold impl_allNodes.f at h
 have hl_va0_1:=hr_a0_1.len
 have hl_va0_2:=hr_a0_2.len
 refine Calls.of_tri (N:=7) Tryz.func183 rfl rfl rfl (Sep.nil (M:=noM)) ?_
 refine Tri.seq (Tri.reg (l:=[0,1]) rfl ?_)
 refine F.mn rfl (m_boxG rfl rfl) ?_
 rintro _ _ ⟨b1_1,rfl,rfl⟩
 refine F.qn rfl (r_assign rfl) (F.nil (Nrm.seq (Tri.seq ?_)))
 obtain ⟨hs5,h⟩:=ck h
 refine Tri.reg (l:=[0,1,2,3,4]) rfl ?_
 refine F.qn rfl (r_fieldAddr tf27_0 rfl) (F.qn rfl (r_load ta3 rfl (fun w hw=>cell_1 (box_cells (i:=0) rfl w hw) rfl)) (F.qn rfl (r_shl rfl rfl hs5) (F.qn rfl (r_sub rfl rfl) (F.qn rfl (r_assign rfl) (F.nil (Nrm.seq (Tri.ret ?_)))))))
 cases h
 exact Rtn.body (.tmp rfl .nil) (fun w hw=>⟨rfl,hw.ext⟩)


def bits_Mul64.f (k : Nat) (a0 : Int) (a1 : Int) : Option (Int × Int) := some (wU ((wU ((wU ((shr a0 32) * (shr a1 32))) + (shr (wU ((wU ((shr a0 32) * (uand a1 4294967295))) + (shr (wU ((uand a0 4294967295) * (uand a1 4294967295))) 32))) 32))) + (shr (wU ((uand (wU ((wU ((shr a0 32) * (uand a1 4294967295))) + (shr (wU ((uand a0 4294967295) * (uand a1 4294967295))) 32))) 4294967295) + (wU ((uand a0 4294967295) * (shr a1 32))))) 32)), wU (a0 * a1))

theorem bits_Mul64.ok {k : Nat}  {a0 : Int} {a1 : Int} {r0 : Int} {r1 : Int} (h : bits_Mul64.f k a0 a1 = some (r0, r1)) (w : World) :
  Calls Tryz.prog 278 ([.int .u64 a0,.int .u64 a1] : List Value).toArray w (fun e w'=>e = .returned (.tuple #[.int .u64 r0,.int .u64 r1])∧Ext w w'):=by
 unfold bits_Mul64.f at h
 refine Calls.of_tri (N:=51) Tryz.func278 rfl rfl rfl (Sep.nil (M:=noM)) ?_
 refine Tri.seq (Tri.reg (l:=[0,1]) rfl ?_)
 refine F.qn rfl (r_assign rfl) (F.qn rfl (r_assign rfl) (F.nil (Nrm.seq (Tri.seq (Tri.reg (l:=[0,1,2]) rfl ?_)))))
 refine F.qn rfl (r_move rfl) (F.qn rfl (r_andU rfl rfl) (F.qn rfl (r_assign rfl) (F.nil (Nrm.seq (Tri.seq (Tri.reg (l:=[0,1,2]) rfl ?_))))))
 refine F.qn rfl (r_move rfl) (F.qn rfl (r_shrU rfl rfl (by decide)) (F.qn rfl (r_assign rfl) (F.nil (Nrm.seq (Tri.seq (Tri.reg (l:=[0,1,2]) rfl ?_))))))
 refine F.qn rfl (r_move rfl) (F.qn rfl (r_andU rfl rfl) (F.qn rfl (r_assign rfl) (F.nil (Nrm.seq (Tri.seq (Tri.reg (l:=[0,1,2]) rfl ?_))))))
 refine F.qn rfl (r_move rfl) (F.qn rfl (r_shrU rfl rfl (by decide)) (F.qn rfl (r_assign rfl) (F.nil (Nrm.seq (Tri.seq (Tri.reg (l:=[0,1,2,3]) rfl ?_))))))
 refine F.qn rfl (r_move rfl) (F.qn rfl (r_move rfl) (F.qn rfl (r_mulU rfl rfl) (F.qn rfl (r_assign rfl) (F.nil (Nrm.seq (Tri.seq (Tri.reg (l:=[0,1,2,3,4,5,6]) rfl ?_)))))))
 refine F.qn rfl (r_move rfl) ?_
 refine F.qn rfl (r_move rfl) (F.qn rfl (r_mulU rfl rfl) (F.qn rfl (r_move rfl) (F.qn rfl (r_shrU rfl rfl (by decide)) (F.qn rfl (r_addU rfl rfl) (F.qn rfl (r_assign rfl) (F.nil (Nrm.seq (Tri.seq (Tri.reg (l:=[0,1,2]) rfl ?_)))))))))
 refine F.qn rfl (r_move rfl) (F.qn rfl (r_andU rfl rfl) (F.qn rfl (r_assign rfl) (F.nil (Nrm.seq (Tri.seq (Tri.reg (l:=[0,1,2]) rfl ?_))))))
 refine F.qn rfl (r_move rfl) (F.qn rfl (r_shrU rfl rfl (by decide)) (F.qn rfl (r_assign rfl) (F.nil (Nrm.seq (Tri.seq (Tri.reg (l:=[0,1,2,3,4,5]) rfl ?_))))))
 iterate 3 refine F.qn rfl (r_move rfl) ?_
 refine F.qn rfl (r_mulU rfl rfl) (F.qn rfl (r_addU rfl rfl) (F.qn rfl (r_assign rfl) (F.nil (Nrm.seq (Tri.seq (Tri.reg (l:=[0,1,2,3,4,5,6,7,8]) rfl ?_))))))
 refine F.qn rfl (r_move rfl) (F.qn rfl (r_move rfl) (F.qn rfl (r_mulU rfl rfl) ?_))
 refine F.qn rfl (r_move rfl) (F.qn rfl (r_addU rfl rfl) (F.qn rfl (r_move rfl) (F.qn rfl (r_shrU rfl rfl (by decide)) (F.qn rfl (r_addU rfl rfl) (F.qn rfl (r_assign rfl) (F.nil (Nrm.seq (Tri.seq (Tri.reg (l:=[0,1,2,3]) rfl ?_)))))))))
 refine F.qn rfl (r_move rfl) (F.qn rfl (r_move rfl) (F.qn rfl (r_mulU rfl rfl) (F.qn rfl (r_assign rfl) (F.nil (Nrm.seq (Tri.ret ?_))))))
 cases h
 exact Rtn.body (.tmp rfl (.tmp rfl .nil)) (fun w hw=>⟨rfl,hw.ext⟩)


def bits_Mul.f (k : Nat) (a0 : Int) (a1 : Int) : Option (Int × Int) := (bits_Mul64.f k a0 a1).bind fun (t25_1, t25_2) => some (t25_1, t25_2)

theorem bits_Mul.ok {k : Nat}  {a0 : Int} {a1 : Int} {r0 : Int} {r1 : Int} (h : bits_Mul.f k a0 a1 = some (r0, r1)) (w : World) :
  Calls Tryz.prog 248 ([.int .u64 a0,.int .u64 a1] : List Value).toArray w (fun e w'=>e = .returned (.tuple #[.int .u64 r0,.int .u64 r1])∧Ext w w'):=by
 unfold bits_Mul.f at h
 refine Calls.of_tri (N:=30) Tryz.func248 rfl rfl rfl (Sep.nil (M:=noM)) ?_
 refine Tri.seq (Tri.reg (l:=[0,1]) rfl ?_)
 refine F.qn rfl (r_assign rfl) (F.qn rfl (r_assign rfl) (F.nil (Nrm.seq (Tri.seq (Tri.condF rfl rfl ?_)))))
 refine Tri.skip (Nrm.seq (Tri.seq ?_))
 obtain ⟨⟨t25_1,t25_2⟩,h25,h⟩:=bind_some h
 refine Tri.reg (l:=[0,1,2,3,4,5,6,7]) rfl ?_
 refine F.qn rfl (r_move rfl) (F.qn rfl (r_move rfl) ?_)
 refine F.qcn rfl (q_callF (xs:=_) rfl ok278 rfl rfl (fun w hw=>bits_Mul64.ok h25 w)) ?_
 refine F.qn rfl (r_move rfl) (F.qn rfl (r_extract rfl rfl) (F.qn rfl (r_extract rfl rfl) (F.qn rfl (r_assign rfl) (F.qn rfl (r_assign rfl) (F.nil (Nrm.seq (Tri.seq (Tri.reg (l:=[0,1,2,3]) rfl ?_))))))))
 refine F.qn rfl (r_move rfl) (F.qn rfl (r_move rfl) (F.qn rfl (r_assign rfl) (F.qn rfl (r_assign rfl) (F.nil (Nrm.seq (Tri.ret ?_))))))
 cases h
 exact Rtn.body (.tmp rfl (.tmp rfl .nil)) (fun w hw=>⟨rfl,hw.ext⟩)


def slices_Repeat_int_int.l0 (k : Nat) : Nat → (List (Int)) → Int → Option ((List (Int)))
 | 0,_,_=>none
 | n + 1,x7,x8=>(if (decide (x8 < (x7.length : Int))) = true then (slc x7 x8 (x7.length : Int)).bind fun t41=>(slc x7 0 x8).bind fun t44=>slices_Repeat_int_int.l0 k n (cpl x7 t44 (x8 : Int).toNat ((x7.length : Int) : Int).toNat) (w64 (x8 + ((min t44.length (((x7.length : Int) : Int).toNat - (x8 : Int).toNat) : Nat) : Int))) else some x7)

def slices_Repeat_int_int.f (k : Nat) (a0 : List Int) (a1 : Int) : Option ((List Int)) := (if (decide (a1 < 0)) = true then none else (bits_Mul.f k (IntKind.u64.wrap (a0.length : Int)) (IntKind.u64.wrap a1)).bind fun (t18_1, t18_2) => ((if (decide (t18_1 > 0)) = true then some true else some (decide (t18_2 > 9223372036854775807)))).bind fun y26 => (if y26 = true then none else if 0 ≤ IntKind.i64.wrap t18_2 ∧ IntKind.i64.wrap t18_2 < 1099511627776 then (slices_Repeat_int_int.l0 k k (cpl (List.replicate (IntKind.i64.wrap t18_2).toNat (0 : Int)) a0 0 (List.replicate (IntKind.i64.wrap t18_2).toNat (0 : Int)).length) ((min a0.length ((List.replicate (IntKind.i64.wrap t18_2).toNat (0 : Int)).length - 0) : Nat) : Int)).bind fun x7 => some x7 else none))

theorem slices_Repeat_int_int.ok {k : Nat}  {a0 : List Int} {a1 : Int} {r0 : List Int} (h : slices_Repeat_int_int.f k a0 a1 = some r0) (w : World) {va0 : Value} (hr_a0 : Rd w va0 a0) :
  Calls Tryz.prog 228 ([va0,.int .i64 a1] : List Value).toArray w (Post (fun u ns=>∃ (Sr0 : Nat → Prop),SlLen u r0.length∧ns = [R.sl Sr0 u r0]) w):=by
 unfold slices_Repeat_int_int.f at h
 have hl_va0:=hr_a0.len
 refine Calls.of_tri (N:=48) Tryz.func228 rfl rfl rfl (Sep.nil (M:=noM)) ?_
 refine Tri.seq (Tri.reg (l:=[0]) rfl ?_)
 refine F.qn rfl (r_assign rfl) (F.nil (Nrm.seq (Tri.seq (Tri.seq (Tri.reg (l:=[0,1]) rfl ?_)))))
 refine F.qn rfl (r_move rfl) (F.qn rfl (r_lss rfl rfl) (F.nil (Nrm.seq (Tri.cond (b:=decide (a1 < 0)) rfl (fun g_1=>?_) (fun g_1=>?_)))))
 ·replace h:=if_tt g_1 h
  cases h
 ·replace h:=if_ff g_1 h
  refine Tri.skip (Nrm.seq (Tri.seq ?_))
  obtain ⟨⟨t18_1,t18_2⟩,h18,h⟩:=bind_some h
  refine Tri.reg (l:=[0,1,2,3,4,5,6,7,8,9,10]) rfl ?_
  refine F.qn rfl (r_move rfl) (F.qn rfl (r_len Tryz.underlying25 rfl hl_va0) (F.qn rfl (r_conv Tryz.underlying3 Tryz.underlying192 rfl) (F.qn rfl (r_move rfl) (F.qn rfl (r_conv Tryz.underlying3 Tryz.underlying192 rfl) ?_))))
  refine F.qcn rfl (q_callF (xs:=_) rfl ok248 rfl rfl (fun w hw=>bits_Mul.ok h18 w)) ?_
  refine F.qn rfl (r_move rfl) (F.qn rfl (r_extract rfl rfl) (F.qn rfl (r_extract rfl rfl) (F.qn rfl (r_assign rfl) (F.qn rfl (r_assign rfl) (F.nil (Nrm.seq (Tri.seq (Tri.seq ?_))))))))
  obtain ⟨y26,hE_1,h⟩:=bind_some h
  refine Tri.cut (fun e' C'=>e' = [(0,va0),(6,.int .u64 t18_2),(26,.bool y26)]∧C' = Sep w noM []) ?_ (fun hj_1=>?_)
  ·rintro _ _ ⟨rfl,rfl⟩
   refine Nrm.seq (Tri.cond (b:=y26) rfl (fun g_2=>?_) (fun g_2=>?_))
   ·replace h:=if_tt g_2 h
    cases h
   ·replace h:=if_ff g_2 h
    refine Tri.skip (Nrm.seq (Tri.seq ?_))
    obtain ⟨hm30,h⟩:=ck h
    refine Tri.reg (l:=[0,1,2,3]) rfl ?_
    refine F.qn rfl (r_move rfl) (F.qn rfl (r_conv Tryz.underlying192 Tryz.underlying3 rfl) ?_)
    refine F.mn rfl (m_make (x0:=(0 : Int)) Tryz.underlying25 ti3 rfl rfl rfl hm30.1 hm30.2 (by decide)) ?_
    rintro v30_1 _ ⟨S30_1,hl_v30_1,rfl⟩
    refine F.qn rfl (r_assign rfl) (F.nil (Nrm.seq (Tri.seq (Tri.reg (l:=[0,1,2,3]) rfl ?_))))
    refine F.qn rfl (r_move rfl) (F.qn rfl (r_move rfl) ?_)
    refine F.efn rfl (d_copy0 (i:=0) (m:=a0) Tryz.underlying25 ti3 rfl rfl rfl (fun _ hw=>hr_a0.sep hw)) ?_
    rintro _ _ ⟨rfl,rfl⟩
    refine F.qn rfl (r_assign rfl) (F.nil (Nrm.seq (Tri.seq ?_)))
    obtain ⟨x7,hE_2,h⟩:=bind_some h
    refine Tri.block ?_
    refine Tri.only [7,8] rfl ?_
    refine Tri.pick [0] rfl rfl ?_
    refine Tri.rounds (fun n e' C'=>∃ (x7' : List (Int)) (x8' : Int),slices_Repeat_int_int.l0 k n x7' x8' = some x7∧SlLen v30_1 (x7').length∧e' = [(7,v30_1),(8,.int .i64 x8')]∧C' = Sep w noM [R.sl S30_1 v30_1 (x7' : List (Int))]) k ?_ ?_ ?_
    ·exact ⟨cpl (List.replicate (IntKind.i64.wrap t18_2).toNat (0 : Int)) a0 0 (List.replicate (IntKind.i64.wrap t18_2).toNat (0 : Int)).length,((min a0.length ((List.replicate (IntKind.i64.wrap t18_2).toNat (0 : Int)).length - 0) : Nat) : Int),hE_2,(cpl_len hl_v30_1 (Nat.zero_le _) (Nat.le_refl _)),rfl,rfl⟩
    ·rintro _ _ ⟨_,_,hE_2,_⟩
     rw [slices_Repeat_int_int.l0.eq_1] at hE_2; cases hE_2
    ·rintro n_1 _ _ ⟨x7,x8,hE_2,hl_x7,rfl,rfl⟩ ih_1
     rw [slices_Repeat_int_int.l0.eq_2] at hE_2
     refine Tri.seq (Tri.seq (Tri.reg (l:=[0,1,2,3]) rfl ?_))
     refine F.qn rfl (r_move rfl) (F.qn rfl (r_move rfl) (F.qn rfl (r_len Tryz.underlying25 rfl hl_x7) (F.qn rfl (r_lss rfl rfl) (F.nil (Nrm.seq (Tri.cond (b:=decide (x8 < (x7.length : Int))) rfl (fun g_3=>?_) (fun g_3=>?_)))))))
     ·replace hE_2:=if_tt g_3 hE_2
      refine Tri.skip (Nrm.seq (Tri.block ?_))
      obtain ⟨t41,h41,hE_2⟩:=bind_some hE_2
      obtain ⟨t44,h44,hE_2⟩:=bind_some hE_2
      refine Tri.fact (fun w hw=>Rd.shape ((rd_sl (i:=0) rfl) w hw)) (fun hz41_L=>?_)
      refine Tri.drawZ mixedT Sep.up [(0,true),(1,true),(2,true),(3,true),(4,true),(5,true),(6,true),(7,false)] [8,9] (by kernel_rfl) ?_
      iterate 3 refine Z.q rfl rfl rfl (wanted_none rfl) (r_move rfl) ?_
      refine Z.q rfl rfl rfl (wanted_none rfl) (r_sliceLZ Tryz.underlying25 ti3 rfl hz41_L rfl h41) ?_
      refine Z.q rfl rfl rfl (wanted_none rfl) (r_move rfl) ?_
      refine Z.q rfl rfl rfl (wanted_none rfl) (r_move rfl) ?_
      refine Z.q rfl rfl rfl (wanted_none rfl) (r_sliceHZ Tryz.underlying25 ti3 rfl hz41_L rfl h44) ?_
      refine Z.ef rfl rfl rfl (wanted_none rfl) (d_copy (i:=0) (m:=t44) Tryz.underlying25 ti3 rfl rfl rfl h41 (fun w hw=>rd_slc ((rd_sl (i:=0) rfl) w hw) h44)) (by rintro _ _ ⟨rfl,rfl⟩; exact Sep.up) ?_
      rintro _ _ ⟨rfl,rfl⟩
      refine Z.nil ?_
      refine F.qn rfl (r_add rfl rfl) (F.qn rfl (r_assign rfl) (F.nil (Nrm.block ?_)))
      refine Nrm.round ?_
      refine Rnd.only [7,8] rfl ?_
      refine Rnd.pick [0] rfl rfl ?_
      exact ih_1 _ _ ⟨cpl x7 t44 (x8 : Int).toNat ((x7.length : Int) : Int).toNat,w64 (x8 + ((min t44.length (((x7.length : Int) : Int).toNat - (x8 : Int).toNat) : Nat) : Int)),hE_2,(cpl_len hl_x7 (slc_b h41).1 (slc_b h41).2),rfl,rfl⟩
     ·replace hE_2:=if_ff g_3 hE_2
      refine Tri.exit ?_
      refine Exi.then ?_
      refine Exi.then ?_
      refine Exi.same ?_
      cases hE_2
      refine Nrm.seq (Tri.seq (Tri.reg (l:=[0,1]) rfl ?_))
      refine F.qn rfl (r_move rfl) (F.qn rfl (r_assign rfl) (F.nil (Nrm.seq (Tri.ret ?_))))
      cases h
      exact Rtn.body (.tmp rfl .nil) (fun w hw=>⟨_,_,rfl,⟨S30_1,hl_x7,rfl⟩,Sep.pick (is:=[0]) rfl rfl hw⟩)
  ·rcases Bool.eq_false_or_eq_true (decide (t18_1 > 0)) with g23 | g23
   ·replace hE_1:=if_tt g23 hE_1
    refine Tri.reg (l:=[0,1,2,3,4,5]) rfl ?_
    refine F.qn rfl (r_move rfl) (F.qn rfl (r_gtr rfl rfl) (F.qn rfl (r_move rfl) (F.skf rfl g23 (F.skf rfl g23 (F.qn rfl (r_pick rfl rfl g23) (F.nil ?_))))))
    cases hE_1
    refine Nrm.only [0,6,26] rfl ?_
    refine Nrm.pick [] rfl rfl ?_
    exact hj_1 _ _ ⟨rfl,rfl⟩
   ·replace hE_1:=if_ff g23 hE_1
    refine Tri.reg (l:=[0,1,2,3,4,5]) rfl ?_
    refine F.qn rfl (r_move rfl) (F.qn rfl (r_gtr rfl rfl) (F.qn rfl (r_move rfl) (F.qg rfl g23 (r_move rfl) (F.qg rfl g23 (r_gtr rfl rfl) (F.qn rfl (r_pickf rfl rfl g23) (F.nil ?_))))))
    cases hE_1
    refine Nrm.only [0,6,26] rfl ?_
    refine Nrm.pick [] rfl rfl ?_
    exact hj_1 _ _ ⟨rfl,rfl⟩


def impl_play.l4 (k : Nat) (a0_1 : List (List Int)) (x47 : Int) (t50 : Int × List (Int × Int × Int) × List Int) (t96 : List Int) : Nat → (List (Int)) → Int → Option ((List (Int)))
 | 0,_,_=>none
 | n + 1,x10r,x98=>(if (decide (x98 < (t96.length : Int))) = true then (rdl t96 x98).bind fun t100=>(rdl a0_1 x47).bind fun t106=>(rdl t106 t100).bind fun t109=>(rdl x10r t109).bind fun t111=>(rdl t50.2.2 t100).bind fun t116=>(rdl x10r t109).bind fun t119=>impl_play.l4 k a0_1 x47 t50 t96 n (x10r.set t109.toNat (bor t111 t116)) (w64 (x98 + 1)) else some x10r)

def impl_play.l3 (k : Nat) (x9 : Int) (x47 : Int) (t59 : List Int) : Nat → Int → (List (List Int)) → Option ((List (List Int)))
 | 0,_,_=>none
 | n + 1,x61,xq5_2_1rrr=>(if (decide (x61 < (t59.length : Int))) = true then (rdl t59 x61).bind fun t63=>(rdl (xq5_2_1rrr : List (List Int)) x47).bind fun t68=>(rdl t68 t63).bind fun t71=>((if (decide (t71 < 0)) = true then (rdl ((xq5_2_1rrr : List (List Int)).set (x47 : Int).toNat t68 : List (List Int)) x47).bind fun t77=>(rdl t77 t63).bind fun t81=>some (((xq5_2_1rrr : List (List Int)).set (x47 : Int).toNat t68 : List (List Int)).set (x47 : Int).toNat (t77.set t63.toNat x9)) else some ((xq5_2_1rrr : List (List Int)).set (x47 : Int).toNat t68))).bind fun yb5_2_1=>impl_play.l3 k x9 x47 t59 n (w64 (x61 + 1)) yb5_2_1 else some xq5_2_1rrr)

def impl_play.l2 (k : Nat) (a0_0 : List (Int × List (Int × Int × Int) × List Int)) (a0_1 : List (List Int)) (a1 : Bool) (x6 : List (Int)) (x9 : Int) : Nat → (List (Int)) → Int → (List (List Int)) → Option ((List (List Int)) × (List (Int)))
 | 0,_,_,_=>none
 | n + 1,x10,x47,xq5_2_1rr=>(if (decide (x47 < (a0_0.length : Int))) = true then (rdl a0_0 x47).bind fun t50=>(rdl x6 x47).bind fun t55=>(impl_reach.f k t50.1 t50.2.1 t50.2.2 0 t55).bind fun t57=>(impl_members.f k t57).bind fun t59=>(impl_play.l3 k x9 x47 t59 k 0 xq5_2_1rr).bind fun xq5_2_1rrr=>((if a1 = true then if ¬ (w64 (t50.1 - 1)) < 0 then some ((band (shr t57 (w64 (t50.1 - 1))) 1) == 1) else none else some false)).bind fun y92=>((if y92 = true then (impl_allNodes.f k t50.1 t50.2.1 t50.2.2).bind fun t94=>some t94 else some t57)).bind fun y13=>(impl_members.f k y13).bind fun t96=>(impl_play.l4 k a0_1 x47 t50 t96 k x10 0).bind fun x10r=>impl_play.l2 k a0_0 a0_1 a1 x6 x9 n x10r (w64 (x47 + 1)) xq5_2_1rrr else some (xq5_2_1rr,x10))

def impl_play.l1 (k : Nat) (a0_0 : List (Int × List (Int × Int × Int) × List Int)) (a0_1 : List (List Int)) (a1 : Bool) : Nat → (List (Int)) → Int → (List (List Int)) → (List (List Int)) → Option ((Unit) ⊕ ((List (List Int)) × (List (List Int))))
 | 0,_,_,_,_=>none
 | n + 1,x6,x9,xq5_2_0,xq5_2_1r=>(slices_Clone_int_int.f k x6).bind fun t43=>(impl_play.l2 k a0_0 a0_1 a1 x6 x9 k t43 0 xq5_2_1r).bind fun (xq5_2_1rr,x10)=>(slices_Clone_int_int.f k x6).bind fun t125=>if ((xq5_2_0 : List (List Int)) ++ ([t125] : List (List Int))).length < 1099511627776 then (slices_Equal_int_int.f k x10 x6).bind fun t131=>(if t131 = true then some (Sum.inr ((xq5_2_0 : List (List Int)) ++ ([t125] : List (List Int)),xq5_2_1rr)) else impl_play.l1 k a0_0 a0_1 a1 n x10 (w64 (x9 + 1)) ((xq5_2_0 : List (List Int)) ++ ([t125] : List (List Int))) xq5_2_1rr) else none

def impl_play.l0 (k : Nat) (a0_0 : List (Int × List (Int × Int × Int) × List Int)) : Nat → Int → (List (List Int)) → Option ((List (List Int)))
 | 0,_,_=>none
 | n + 1,x26,xq5_2_1=>(if (decide (x26 < (a0_0.length : Int))) = true then (rdl a0_0 x26).bind fun t28=>(slices_Repeat_int_int.f k ([(-1)] : List (Int)) t28.1).bind fun t35=>if ((xq5_2_1 : List (List Int)) ++ ([t35] : List (List Int))).length < 1099511627776 then impl_play.l0 k a0_0 n (w64 (x26 + 1)) ((xq5_2_1 : List (List Int)) ++ ([t35] : List (List Int))) else none else some xq5_2_1)

def impl_play.f (k : Nat) (a0_0 : List (Int × List (Int × Int × Int) × List Int)) (a0_1 : List (List Int)) (a1 : Bool) : Option ((List (List Int)) × (List (List Int))) := (if 0 ≤ (a0_0.length : Int) ∧ (a0_0.length : Int) < 1099511627776 then some (List.replicate ((a0_0.length : Int)).toNat (0 : Int)) else none).bind fun y6 => (impl_play.l0 k a0_0 k 0 ([] : List (List Int))).bind fun xq5_2_1 => (impl_play.l1 k a0_0 a0_1 a1 k y6 0 ([] : List (List Int)) xq5_2_1).bind fun s => Lr s some fun _ => none

theorem impl_play.ok {k : Nat}  {a0_0 : List (Int × List (Int × Int × Int) × List Int)} {a0_1 : List (List Int)} {a1 : Bool} {r0 : List (List Int)} {r1 : List (List Int)} (h : impl_play.f k a0_0 a0_1 a1 = some (r0, r1)) (w : World) {va0_0 : Value} {va0_1 : Value} (hr_a0_0 : Rd w va0_0 a0_0) (hr_a0_1 : Rd w va0_1 a0_1) :
  Calls Tryz.prog 168 ([.agg ([va0_0,va0_1].toArray),.bool a1] : List Value).toArray w (Post (fun u ns=>∃ (ur0 : Value) (Sr0 : Nat → Prop) (ur1 : Value) (Sr1 : Nat → Prop),u = .agg [ur0,ur1].toArray∧SlLen ur0 r0.length∧SlLen ur1 r1.length∧ns = [R.sl Sr0 ur0 r0,R.sl Sr1 ur1 r1]) w):=by
 unfold impl_play.f at h
 have hl_va0_0:=hr_a0_0.len
 have hl_va0_1:=hr_a0_1.len
 refine Calls.of_tri (N:=134) Tryz.func168 rfl rfl rfl (Sep.nil (M:=noM)) ?_
 refine Tri.seq (Tri.reg (l:=[0,1]) rfl ?_)
 refine F.mn rfl (m_boxG rfl rfl) ?_
 rintro _ _ ⟨b2_1,rfl,rfl⟩
 refine F.mn rfl (m_alloc ti161) ?_
 rintro _ _ ⟨b4_1,rfl,rfl⟩
 refine F.nil (Nrm.seq (Tri.seq ?_))
 obtain ⟨y6,hE_1,h⟩:=bind_some h
 refine Tri.cut (fun e' C'=>∃ (v6_1 : Value) (S6_1 : Nat → Prop) (b5_2 : Nat),SlLen v6_1 (y6).length∧e' = [(1,.bool a1),(2,.pointer (some ⟨b2_1,0,none⟩)),(4,.pointer (some ⟨b4_1,0,none⟩)),(5,.pointer (some ⟨b5_2,0,none⟩)),(6,v6_1)]∧C' = Sep w noM [R.box b4_1 161 [.slice none 0 0,.slice none 0 0],R.box b2_1 88 [va0_0,va0_1],R.box b5_2 161 [.slice none 0 0,.slice none 0 0],R.sl S6_1 v6_1 (y6 : List (Int))]) ?_ (fun hj_1=>?_)
 ·rintro _ _ ⟨v6_1,S6_1,b5_2,hl_v6_1,rfl,rfl⟩
  refine Nrm.seq (Tri.seq (Tri.seq (Tri.reg (l:=[0,1,2,3]) rfl ?_)))
  refine F.qn rfl (r_fieldAddr tf88_0 rfl) (F.qn rfl (r_load ta85 rfl (fun w hw=>cell_1 (box_cells (i:=1) rfl w hw) rfl)) (F.qn rfl (r_len Tryz.underlying85 rfl hl_va0_0) (F.qn rfl (r_move rfl) (F.nil (Nrm.seq ?_)))))
  obtain ⟨xq5_2_1,hE_2,h⟩:=bind_some h
  refine Tri.imp (fun w hw=>hw.pushNil (α:=List Int)) ?_
  refine Tri.block ?_
  refine Tri.only [1,2,4,5,6,24,25,26] rfl ?_
  refine Tri.pick [1,2,3,0,4] rfl rfl ?_
  refine Tri.rounds (fun n e' C'=>∃ (x26' : Int) (xq5_2_1' : List (List Int)) (wq5_2_1 : Value) (Tq5_2_1 : Nat → Prop),impl_play.l0 k a0_0 n x26' xq5_2_1' = some xq5_2_1∧SlLen wq5_2_1 (xq5_2_1').length∧e' = [(1,.bool a1),(2,.pointer (some ⟨b2_1,0,none⟩)),(4,.pointer (some ⟨b4_1,0,none⟩)),(5,.pointer (some ⟨b5_2,0,none⟩)),(6,v6_1),(24,va0_0),(25,.int .i64 (a0_0.length : Int)),(26,.int .i64 x26')]∧C' = Sep w noM [R.box b4_1 161 [.slice none 0 0,.slice none 0 0],R.box b2_1 88 [va0_0,va0_1],R.box b5_2 161 [.slice none 0 0,wq5_2_1],R.sl Tq5_2_1 wq5_2_1 (xq5_2_1' : List (List Int)),R.sl S6_1 v6_1 (y6 : List (Int))]) k ?_ ?_ ?_
  ·exact ⟨0,([] : List (List Int)),(nilv 0),(fun _=>False),hE_2,len_nil,rfl,rfl⟩
  ·rintro _ _ ⟨_,_,_,_,hE_2,_⟩
   rw [impl_play.l0.eq_1] at hE_2; cases hE_2
  ·rintro n_1 _ _ ⟨x26,xq5_2_1,wq5_2_1,Tq5_2_1,hE_2,hl_wq5_2_1,rfl,rfl⟩ ih_1
   rw [impl_play.l0.eq_2] at hE_2
   refine Tri.seq (Tri.reg (l:=[0]) rfl ?_)
   refine F.qn rfl (r_lss rfl rfl) (F.nil (Nrm.seq (Tri.seq (Tri.cond (b:=decide (x26 < (a0_0.length : Int))) rfl (fun g_1=>?_) (fun g_1=>?_)))))
   ·replace hE_2:=if_tt g_1 hE_2
    refine Tri.skip (Nrm.seq (Tri.seq (Tri.block ?_)))
    refine Tri.seq ?_
    obtain ⟨t28,h28,hE_2⟩:=bind_some hE_2
    obtain ⟨_,hc28,hp28⟩:=Rd.elem hr_a0_0 (rdl_some h28).2.2
    obtain ⟨v28_1,v28_2,rfl,hr_v28_1,hr_v28_2⟩:=op27 hp28
    have hl_v28_1:=hr_v28_1.len
    have hl_v28_2:=hr_v28_2.len
    refine Tri.reg (l:=[0,1,2,3]) rfl ?_
    refine F.qn rfl (r_indexAddrS Tryz.underlying85 ti27 rfl hl_va0_0 rfl (rdl_some h28).1 (rdl_some h28).2.1) (F.qn rfl (r_loadA ta27 ti27 rfl rfl (fun w hw=>(hc28.sep hw))) ?_)
    refine F.mn rfl (m_alloc ti27) ?_
    rintro _ _ ⟨b8_1,rfl,rfl⟩
    refine F.ef0 rfl rfl (wanted_none rfl) (d_storeG0 (i:=0) (cs2:=[.int .i64 t28.1,v28_1,v28_2]) ti27 rfl rfl rfl rfl rfl (Nat.le_of_ble_eq_true rfl) (lf_cons rfl (lf_cons (sl_leaf hl_v28_1) (lf_cons (sl_leaf hl_v28_2) lf_nil)))) ?_
    rintro _ _ ⟨rfl,rfl⟩
    refine F.nil (Nrm.seq ?_)
    obtain ⟨t35,h35,hE_2⟩:=bind_some hE_2
    obtain ⟨hs37,hE_2⟩:=ck hE_2
    refine Tri.drawB mixedT Sep.up [(0,true),(1,true),(3,true),(4,true),(2,false),(5,false),(6,false)] [7,8,9] (by kernel_rfl) ?_
    refine B.q rfl rfl rfl (wanted_none rfl) (r_fieldAddr tf161_1 rfl) ?_
    refine B.q rfl rfl rfl (wanted_none rfl) (r_load ta86 rfl (fun w hw=>cell_1 (box_cells (i:=3) rfl w hw) rfl)) ?_
    refine B.q rfl rfl rfl (wanted_none rfl) (r_fieldAddr tf27_0 rfl) ?_
    refine B.q rfl rfl rfl (wanted_none rfl) (r_load ta3 rfl (fun w hw=>cell_1 (box_cells (i:=0) rfl w hw) rfl)) ?_
    refine B.ef rfl rfl rfl (wanted_none rfl) (Makes.does (m_buildF (l:=([(-1)] : List (Int))) Tryz.underlying25 ti3 rfl rfl rfl rfl rfl)) (by rintro v32_2 _ ⟨S32_2,hl_v32_2,rfl⟩; exact upd rfl [1,2,3,4,5,6] rfl rfl) ?_
    rintro v32_2 _ ⟨S32_2,hl_v32_2,rfl⟩
    refine B.ef rfl rfl rfl (wanted_none rfl) (Makes.does (m_callF (xs:=_) rfl ok228 rfl rfl (fun w hw=>slices_Repeat_int_int.ok h35 w ((rd_sl (i:=0) rfl) w hw)))) (by rintro v35_2 _ ⟨_,⟨S35_2,hl_v35_2,rfl⟩,rfl⟩; exact upd rfl [2,3,4,5,6,7] rfl rfl) ?_
    rintro v35_2 _ ⟨_,⟨S35_2,hl_v35_2,rfl⟩,rfl⟩
    refine B.ef rfl rfl rfl (wanted_none rfl) (d_build1 (cells:=[v35_2]) (x0:=(t35 : List Int)) (cs:=[R.sl S35_2 v35_2 (t35 : List (Int))]) (rest:=[R.sl S32_2 v32_2 (([(-1)] : List (Int)) : List (Int)),R.box b8_1 27 [.int .i64 t28.1,v28_1,v28_2],R.box b4_1 161 [.slice none 0 0,.slice none 0 0],R.box b2_1 88 [va0_0,va0_1],R.box b5_2 161 [.slice none 0 0,wq5_2_1],R.sl Tq5_2_1 wq5_2_1 (xq5_2_1 : List (List Int)),R.sl S6_1 v6_1 (y6 : List (Int))]) [0] [1,2,3,4,5,6,7] Tryz.underlying86 ti25 rfl (sl_cells hl_v35_2) rfl (lf_cons (sl_leaf hl_v35_2) lf_nil) rfl rfl (jn_sl (S:=S35_2) (v:=v35_2) (l:=(t35 : List (Int))))) (by rintro v36_2 _ ⟨S36_2,hl_v36_2,rfl⟩; exact upd rfl [2,3,4,5,6,7] rfl rfl) ?_
    rintro v36_2 _ ⟨S36_2,hl_v36_2,rfl⟩
    refine B.nil ?_
    refine F.efn rfl (d_appendN (rest:=[R.sl S32_2 v32_2 (([(-1)] : List (Int)) : List (Int)),R.box b8_1 27 [.int .i64 t28.1,v28_1,v28_2],R.box b4_1 161 [.slice none 0 0,.slice none 0 0],R.box b2_1 88 [va0_0,va0_1],R.box b5_2 161 [.slice none 0 0,wq5_2_1],R.sl S6_1 v6_1 (y6 : List (Int))]) 6 0 [1,2,3,4,5,7] Tryz.underlying86 Tryz.underlying86 ti25 rfl (by decide) rfl rfl rfl rfl hs37) ?_
    rintro v37_2 _ ⟨S37_2,hl_v37_2,rfl⟩
    refine F.qn rfl (r_fieldAddr tf161_1 rfl) ?_
    refine F.ef0 rfl rfl (wanted_none rfl) (d_storeG1 (i:=5) (cs2:=[v37_2]) ti86 rfl rfl rfl (sl_cells hl_v37_2) rfl (Nat.le_of_ble_eq_true rfl) (lf_cons (sl_leaf hl_v37_2) lf_nil)) ?_
    rintro _ _ ⟨rfl,rfl⟩
    refine F.nil (Nrm.block ?_)
    refine Nrm.seq (Tri.reg (l:=[0,1]) rfl ?_)
    refine F.qn rfl (r_add rfl rfl) (F.qn rfl (r_move rfl) (F.nil (Nrm.round ?_)))
    refine Rnd.only [1,2,4,5,6,24,25,26] rfl ?_
    refine Rnd.pick [3,4,5,0,6] rfl rfl ?_
    exact ih_1 _ _ ⟨w64 (x26 + 1),(xq5_2_1 : List (List Int)) ++ ([t35] : List (List Int)),v37_2,S37_2,hE_2,hl_v37_2,rfl,rfl⟩
   ·replace hE_2:=if_ff g_1 hE_2
    refine Tri.exit ?_
    refine Exi.then ?_
    refine Exi.then ?_
    refine Exi.same ?_
    cases hE_2
    refine Nrm.seq (Tri.seq (Tri.reg (l:=[0]) rfl ?_))
    refine F.qn rfl (r_assign rfl) (F.nil (Nrm.seq ?_))
    obtain ⟨s1,hE_3,h⟩:=bind_some h
    refine Tri.imp (fun w hw=>hw.pushNil (α:=List Int)) ?_
    refine Tri.block ?_
    refine Tri.only [1,2,4,5,6,9] rfl ?_
    refine Tri.pick [1,2,3,0,4,5] rfl rfl ?_
    refine Tri.rounds (fun n e' C'=>∃ (x6' : List (Int)) (x9' : Int) (xq5_2_0' : List (List Int)) (xq5_2_1r' : List (List Int)) (w6 : Value) (T6 : Nat → Prop) (wq5_2_0 : Value) (Tq5_2_0 : Nat → Prop) (wq5_2_1r : Value) (Tq5_2_1r : Nat → Prop),impl_play.l1 k a0_0 a0_1 a1 n x6' x9' xq5_2_0' xq5_2_1r' = some s1∧SlLen w6 (x6').length∧SlLen wq5_2_0 (xq5_2_0').length∧SlLen wq5_2_1r (xq5_2_1r').length∧e' = [(1,.bool a1),(2,.pointer (some ⟨b2_1,0,none⟩)),(4,.pointer (some ⟨b4_1,0,none⟩)),(5,.pointer (some ⟨b5_2,0,none⟩)),(6,w6),(9,.int .i64 x9')]∧C' = Sep w noM [R.box b4_1 161 [.slice none 0 0,.slice none 0 0],R.box b2_1 88 [va0_0,va0_1],R.box b5_2 161 [wq5_2_0,wq5_2_1r],R.sl Tq5_2_0 wq5_2_0 (xq5_2_0' : List (List Int)),R.sl Tq5_2_1r wq5_2_1r (xq5_2_1r' : List (List Int)),R.sl T6 w6 (x6' : List (Int))]) k ?_ ?_ ?_
    ·exact ⟨y6,0,([] : List (List Int)),xq5_2_1,v6_1,S6_1,(nilv 1),(fun _=>False),wq5_2_1,Tq5_2_1,hE_3,hl_v6_1,len_nil,hl_wq5_2_1,rfl,rfl⟩
    ·rintro _ _ ⟨_,_,_,_,_,_,_,_,_,_,hE_3,_⟩
     rw [impl_play.l1.eq_1] at hE_3; cases hE_3
    ·rintro n_2 _ _ ⟨x6,x9,xq5_2_0,xq5_2_1r,w6,T6,wq5_2_0,Tq5_2_0,wq5_2_1r,Tq5_2_1r,hE_3,hl_w6,hl_wq5_2_0,hl_wq5_2_1r,rfl,rfl⟩ ih_2
     rw [impl_play.l1.eq_2] at hE_3
     refine Tri.seq (Tri.block ?_)
     refine Tri.seq ?_
     obtain ⟨t43,h43,hE_3⟩:=bind_some hE_3
     refine Tri.reg (l:=[0,1,2]) rfl ?_
     refine F.qn rfl (r_move rfl) ?_
     refine F.mn rfl (m_callF (xs:=_) rfl ok144 rfl rfl (fun w hw=>slices_Clone_int_int.ok h43 w ((rd_sl (i:=5) rfl) w hw))) ?_
     rintro v43_1 _ ⟨_,⟨S43_1,hl_v43_1,rfl⟩,rfl⟩
     refine F.qn rfl (r_assign rfl) (F.nil (Nrm.seq (Tri.seq (Tri.seq (Tri.reg (l:=[0,1,2,3]) rfl ?_)))))
     refine F.qn rfl (r_fieldAddr tf88_0 rfl) (F.qn rfl (r_load ta85 rfl (fun w hw=>cell_1 (box_cells (i:=2) rfl w hw) rfl)) (F.qn rfl (r_len Tryz.underlying85 rfl hl_va0_0) (F.qn rfl (r_move rfl) (F.nil (Nrm.seq ?_)))))
     obtain ⟨⟨xq5_2_1rr,x10⟩,hE_4,hE_3⟩:=bind_some hE_3
     refine Tri.block ?_
     refine Tri.only [1,2,4,5,6,9,10,45,46,47] rfl ?_
     refine Tri.pick [1,2,3,0,4,5,6] rfl rfl ?_
     refine Tri.rounds (fun n e' C'=>∃ (x10' : List (Int)) (x47' : Int) (xq5_2_1rr' : List (List Int)) (wq5_2_1rr : Value) (Tq5_2_1rr : Nat → Prop),impl_play.l2 k a0_0 a0_1 a1 x6 x9 n x10' x47' xq5_2_1rr' = some (xq5_2_1rr,x10)∧SlLen v43_1 (x10').length∧SlLen wq5_2_1rr (xq5_2_1rr').length∧e' = [(1,.bool a1),(2,.pointer (some ⟨b2_1,0,none⟩)),(4,.pointer (some ⟨b4_1,0,none⟩)),(5,.pointer (some ⟨b5_2,0,none⟩)),(6,w6),(9,.int .i64 x9),(10,v43_1),(45,va0_0),(46,.int .i64 (a0_0.length : Int)),(47,.int .i64 x47')]∧C' = Sep w noM [R.box b4_1 161 [.slice none 0 0,.slice none 0 0],R.box b2_1 88 [va0_0,va0_1],R.box b5_2 161 [wq5_2_0,wq5_2_1rr],R.sl S43_1 v43_1 (x10' : List (Int)),R.sl Tq5_2_0 wq5_2_0 (xq5_2_0 : List (List Int)),R.sl Tq5_2_1rr wq5_2_1rr (xq5_2_1rr' : List (List Int)),R.sl T6 w6 (x6 : List (Int))]) k ?_ ?_ ?_
     ·exact ⟨t43,0,xq5_2_1r,wq5_2_1r,Tq5_2_1r,hE_4,hl_v43_1,hl_wq5_2_1r,rfl,rfl⟩
     ·rintro _ _ ⟨_,_,_,_,_,hE_4,_⟩
      rw [impl_play.l2.eq_1] at hE_4; cases hE_4
     ·rintro n_3 _ _ ⟨x10,x47,xq5_2_1rr,wq5_2_1rr,Tq5_2_1rr,hE_4,hl_x10,hl_wq5_2_1rr,rfl,rfl⟩ ih_3
      rw [impl_play.l2.eq_2] at hE_4
      refine Tri.seq (Tri.reg (l:=[0]) rfl ?_)
      refine F.qn rfl (r_lss rfl rfl) (F.nil (Nrm.seq (Tri.seq (Tri.cond (b:=decide (x47 < (a0_0.length : Int))) rfl (fun g_2=>?_) (fun g_2=>?_)))))
      ·replace hE_4:=if_tt g_2 hE_4
       refine Tri.skip (Nrm.seq (Tri.seq (Tri.block ?_)))
       refine Tri.seq ?_
       obtain ⟨t50,h50,hE_4⟩:=bind_some hE_4
       obtain ⟨_,hc50,hp50⟩:=Rd.elem hr_a0_0 (rdl_some h50).2.2
       obtain ⟨v50_1,v50_2,rfl,hr_v50_1,hr_v50_2⟩:=op27 hp50
       have hl_v50_1:=hr_v50_1.len
       have hl_v50_2:=hr_v50_2.len
       refine Tri.reg (l:=[0,1,2,3,4,5]) rfl ?_
       refine F.qn rfl (r_move rfl) (F.qn rfl (r_indexAddrS Tryz.underlying85 ti27 rfl hl_va0_0 rfl (rdl_some h50).1 (rdl_some h50).2.1) (F.qn rfl (r_loadA ta27 ti27 rfl rfl (fun w hw=>(hc50.sep hw))) ?_))
       refine F.mn rfl (m_alloc ti27) ?_
       rintro _ _ ⟨b12_1,rfl,rfl⟩
       refine F.qn rfl (r_assign rfl) ?_
       refine F.ef0 rfl rfl (wanted_none rfl) (d_storeG0 (i:=0) (cs2:=[.int .i64 t50.1,v50_1,v50_2]) ti27 rfl rfl rfl rfl rfl (Nat.le_of_ble_eq_true rfl) (lf_cons rfl (lf_cons (sl_leaf hl_v50_1) (lf_cons (sl_leaf hl_v50_2) lf_nil)))) ?_
       rintro _ _ ⟨rfl,rfl⟩
       refine F.nil (Nrm.seq (Tri.seq ?_))
       obtain ⟨t55,h55,hE_4⟩:=bind_some hE_4
       obtain ⟨t57,h57,hE_4⟩:=bind_some hE_4
       refine Tri.drawA mixedT Sep.up [(0,true),(1,true),(2,true),(3,true),(4,true),(5,true),(6,true)] [] (by kernel_rfl) ?_
       refine S.qn rfl (r_loadA ta27 ti27 rfl rfl (fun w hw=>(box_cells (i:=0) rfl w hw))) (S.qn rfl (r_move rfl) (S.qn rfl (r_move rfl) (S.qn rfl (r_indexAddrS Tryz.underlying25 ti3 rfl hl_w6 rfl (rdl_some h55).1 (rdl_some h55).2.1) (S.qn rfl (r_load ta3 rfl (fun w hw=>cell_0 (Rd.flat ((rd_sl (i:=7) rfl) w hw) (rdl_some h55).2.2) rfl)) ?_))))
       refine S.qcn rfl (q_callF (xs:=_) rfl ok120 rfl rfl (fun w hw=>impl_reach.ok h57 w ((fun _ hw=>hr_v50_1.sep hw) w hw) ((fun _ hw=>hr_v50_2.sep hw) w hw))) ?_
       refine S.qn rfl (r_assign rfl) (S.nil (F.nil (Nrm.seq (Tri.seq (Tri.seq ?_)))))
       obtain ⟨t59,h59,hE_4⟩:=bind_some hE_4
       refine Tri.reg (l:=[0,1,2,3]) rfl ?_
       refine F.qn rfl (r_move rfl) ?_
       refine F.mn rfl (m_callF (xs:=_) rfl ok119 rfl rfl (fun w hw=>impl_members.ok h59 w)) ?_
       rintro v59_1 _ ⟨_,⟨S59_1,hl_v59_1,rfl⟩,rfl⟩
       refine F.qn rfl (r_len Tryz.underlying25 rfl hl_v59_1) (F.qn rfl (r_move rfl) (F.nil (Nrm.seq ?_)))
       obtain ⟨xq5_2_1rrr,hE_5,hE_4⟩:=bind_some hE_4
       refine Tri.block ?_
       refine Tri.only [1,2,4,5,6,9,10,11,12,13,45,46,47,59,60,61] rfl ?_
       refine Tri.pick [1,2,3,4,0,5,6,7,8] rfl rfl ?_
       refine Tri.rounds (fun n e' C'=>∃ (x61' : Int) (xq5_2_1rrr' : List (List Int)) (wq5_2_1rrr : Value) (Tq5_2_1rrr : Nat → Prop),impl_play.l3 k x9 x47 t59 n x61' xq5_2_1rrr' = some xq5_2_1rrr∧SlLen wq5_2_1rrr (xq5_2_1rrr').length∧e' = [(1,.bool a1),(2,.pointer (some ⟨b2_1,0,none⟩)),(4,.pointer (some ⟨b4_1,0,none⟩)),(5,.pointer (some ⟨b5_2,0,none⟩)),(6,w6),(9,.int .i64 x9),(10,v43_1),(11,.int .i64 x47),(12,.pointer (some ⟨b12_1,0,none⟩)),(13,.int .i64 t57),(45,va0_0),(46,.int .i64 (a0_0.length : Int)),(47,.int .i64 x47),(59,v59_1),(60,.int .i64 (t59.length : Int)),(61,.int .i64 x61')]∧C' = Sep w noM [R.box b12_1 27 [.int .i64 t50.1,v50_1,v50_2],R.box b4_1 161 [.slice none 0 0,.slice none 0 0],R.box b2_1 88 [va0_0,va0_1],R.box b5_2 161 [wq5_2_0,wq5_2_1rrr],R.sl S59_1 v59_1 (t59 : List (Int)),R.sl S43_1 v43_1 (x10 : List (Int)),R.sl Tq5_2_0 wq5_2_0 (xq5_2_0 : List (List Int)),R.sl Tq5_2_1rrr wq5_2_1rrr (xq5_2_1rrr' : List (List Int)),R.sl T6 w6 (x6 : List (Int))]) k ?_ ?_ ?_
       ·exact ⟨0,xq5_2_1rr,wq5_2_1rr,Tq5_2_1rr,hE_5,hl_wq5_2_1rr,rfl,rfl⟩
       ·rintro _ _ ⟨_,_,_,_,hE_5,_⟩
        rw [impl_play.l3.eq_1] at hE_5; cases hE_5
       ·rintro n_4 _ _ ⟨x61,xq5_2_1rrr,wq5_2_1rrr,Tq5_2_1rrr,hE_5,hl_wq5_2_1rrr,rfl,rfl⟩ ih_4
        rw [impl_play.l3.eq_2] at hE_5
        refine Tri.seq (Tri.reg (l:=[0]) rfl ?_)
        refine F.qn rfl (r_lss rfl rfl) (F.nil (Nrm.seq (Tri.seq (Tri.cond (b:=decide (x61 < (t59.length : Int))) rfl (fun g_3=>?_) (fun g_3=>?_)))))
        ·replace hE_5:=if_tt g_3 hE_5
         refine Tri.skip (Nrm.seq (Tri.seq (Tri.block ?_)))
         refine Tri.seq ?_
         obtain ⟨t63,h63,hE_5⟩:=bind_some hE_5
         refine Tri.reg (l:=[0,1,2]) rfl ?_
         refine F.qn rfl (r_indexAddrS Tryz.underlying25 ti3 rfl hl_v59_1 rfl (rdl_some h63).1 (rdl_some h63).2.1) (F.qn rfl (r_load ta3 rfl (fun w hw=>cell_0 (Rd.flat ((rd_sl (i:=4) rfl) w hw) (rdl_some h63).2.2) rfl)) (F.qn rfl (r_assign rfl) (F.nil (Nrm.seq (Tri.seq ?_)))))
         obtain ⟨t68,h68,hE_5⟩:=bind_some hE_5
         obtain ⟨t71,h71,hE_5⟩:=bind_some hE_5
         refine Tri.ex (on25 [7] [0,1,2,3,4,5,6,8] rfl rfl (rdl_some h68).2.2) ?_
         rintro _ ⟨v68_0_1,S68_0_1,Sr68_1,hl_v68_0_1,hS68_1,rfl⟩
         refine Tri.reg (l:=[0,1,2,3,4,5,6,7,8]) rfl ?_
         refine F.qn rfl (r_fieldAddr tf161_1 rfl) ?_
         refine F.qn rfl (r_load ta86 rfl (fun w hw=>cell_1 (box_cells (i:=5) rfl w hw) rfl)) (F.qn rfl (r_move rfl) (F.qn rfl (r_indexAddrS Tryz.underlying86 ti25 rfl hl_wq5_2_1rrr rfl (rdl_some h68).1 (rdl_some h68).2.1) (F.qn rfl (r_load ta25 rfl (fun w hw=>cell_0 (hole_cells (p:=1) rfl w hw) rfl)) (F.qn rfl (r_move rfl) (F.qn rfl (r_indexAddrS Tryz.underlying25 ti3 rfl hl_v68_0_1 rfl (rdl_some h71).1 (rdl_some h71).2.1) ?_)))))
         refine F.qn rfl (r_load ta3 rfl (fun w hw=>cell_0 (Rd.flat ((rd_sl (i:=0) rfl) w hw) (rdl_some h71).2.2) rfl)) (F.qn rfl (r_lss rfl rfl) (F.nil (Nrm.imp (cloS1 (cs:=[R.sl S68_0_1 v68_0_1 (t68 : List (Int))]) (rest:=[R.box b12_1 27 [.int .i64 t50.1,v50_1,v50_2],R.box b4_1 161 [.slice none 0 0,.slice none 0 0],R.box b2_1 88 [va0_0,va0_1],R.box b5_2 161 [wq5_2_0,wq5_2_1rrr],R.sl S59_1 v59_1 (t59 : List (Int)),R.sl S43_1 v43_1 (x10 : List (Int)),R.sl Tq5_2_0 wq5_2_0 (xq5_2_0 : List (List Int)),R.sl T6 w6 (x6 : List (Int))]) [0,1] [2,3,4,5,6,7,8,9] rfl rfl (jn_sl (S:=S68_0_1) (v:=v68_0_1) (l:=(t68 : List (Int)))) hS68_1) ?_)))
         refine Nrm.seq ?_
         obtain ⟨yb5_2_1,hE_6,hE_5⟩:=bind_some hE_5
         refine Tri.cut (fun e' C'=>∃ (vb5_2_1_1 : Value) (Sb5_2_1_1 : Nat → Prop),SlLen vb5_2_1_1 (yb5_2_1).length∧e' = [(1,.bool a1),(2,.pointer (some ⟨b2_1,0,none⟩)),(4,.pointer (some ⟨b4_1,0,none⟩)),(5,.pointer (some ⟨b5_2,0,none⟩)),(6,w6),(9,.int .i64 x9),(10,v43_1),(11,.int .i64 x47),(12,.pointer (some ⟨b12_1,0,none⟩)),(13,.int .i64 t57),(45,va0_0),(46,.int .i64 (a0_0.length : Int)),(47,.int .i64 x47),(59,v59_1),(60,.int .i64 (t59.length : Int)),(61,.int .i64 x61)]∧C' = Sep w noM [R.box b12_1 27 [.int .i64 t50.1,v50_1,v50_2],R.box b4_1 161 [.slice none 0 0,.slice none 0 0],R.box b2_1 88 [va0_0,va0_1],R.box b5_2 161 [wq5_2_0,vb5_2_1_1],R.sl Sb5_2_1_1 vb5_2_1_1 (yb5_2_1 : List (List Int)),R.sl S43_1 v43_1 (x10 : List (Int)),R.sl S59_1 v59_1 (t59 : List (Int)),R.sl T6 w6 (x6 : List (Int)),R.sl Tq5_2_0 wq5_2_0 (xq5_2_0 : List (List Int))]) ?_ (fun hj_2=>?_)
         ·rintro _ _ ⟨vb5_2_1_1,Sb5_2_1_1,hl_vb5_2_1_1,rfl,rfl⟩
          refine Nrm.block ?_
          refine Nrm.seq (Tri.reg (l:=[0,1]) rfl ?_)
          refine F.qn rfl (r_add rfl rfl) (F.qn rfl (r_move rfl) (F.nil (Nrm.round ?_)))
          refine Rnd.only [1,2,4,5,6,9,10,11,12,13,45,46,47,59,60,61] rfl ?_
          refine Rnd.pick [0,1,2,3,6,5,8,4,7] rfl rfl ?_
          exact ih_4 _ _ ⟨w64 (x61 + 1),yb5_2_1,vb5_2_1_1,Sb5_2_1_1,hE_5,hl_vb5_2_1_1,rfl,rfl⟩
         ·refine Tri.cond (b:=decide (t71 < 0)) rfl (fun g_4=>?_) (fun g_4=>?_)
          ·replace hE_6:=if_tt g_4 hE_6
           obtain ⟨t77,h77,hE_6⟩:=bind_some hE_6
           obtain ⟨t81,h81,hE_6⟩:=bind_some hE_6
           refine Tri.ex (on25 [0] [1,2,3,4,5,6,7,8] rfl rfl (rdl_some h77).2.2) ?_
           rintro _ ⟨v77_0_1,S77_0_1,Sr77_1,hl_v77_0_1,hS77_1,rfl⟩
           refine Tri.reg (l:=[0,1,2,3,4,5,6,7,8]) rfl ?_
           refine F.qn rfl (r_fieldAddr tf161_1 rfl) (F.qn rfl (r_load ta86 rfl (fun w hw=>cell_1 (box_cells (i:=5) rfl w hw) rfl)) ?_)
           refine F.qn rfl (r_move rfl) (F.qn rfl (r_indexAddrS Tryz.underlying86 ti25 rfl (len_set hl_wq5_2_1rrr) rfl (rdl_some h77).1 (rdl_some h77).2.1) (F.qn rfl (r_load ta25 rfl (fun w hw=>cell_0 (hole_cells (p:=1) rfl w hw) rfl)) (F.qn rfl (r_move rfl) (F.qn rfl (r_move rfl) (F.qn rfl (r_indexAddrS Tryz.underlying25 ti3 rfl hl_v77_0_1 rfl (rdl_some h81).1 (rdl_some h81).2.1) ?_)))))
           refine F.ef0 rfl rfl (wanted_none rfl) (d_storeE (i:=0) (x1:=x9) ti3 rfl rfl rfl (rdl_some h81) rfl) ?_
           rintro _ _ ⟨rfl,rfl⟩
           refine F.nil (Nrm.imp (cloS1 (cs:=[R.sl S77_0_1 v77_0_1 (t77.set t63.toNat x9 : List (Int))]) (rest:=[R.box b12_1 27 [.int .i64 t50.1,v50_1,v50_2],R.box b4_1 161 [.slice none 0 0,.slice none 0 0],R.box b2_1 88 [va0_0,va0_1],R.box b5_2 161 [wq5_2_0,wq5_2_1rrr],R.sl S59_1 v59_1 (t59 : List (Int)),R.sl S43_1 v43_1 (x10 : List (Int)),R.sl Tq5_2_0 wq5_2_0 (xq5_2_0 : List (List Int)),R.sl T6 w6 (x6 : List (Int))]) [0,1] [2,3,4,5,6,7,8,9] rfl rfl (jn_sl (S:=S77_0_1) (v:=v77_0_1) (l:=(t77.set t63.toNat x9 : List (Int)))) hS77_1) ?_)
           cases hE_6
           refine Nrm.only [1,2,4,5,6,9,10,11,12,13,45,46,47,59,60,61] rfl ?_
           refine Nrm.pick [1,2,3,4,0,6,5,8,7] rfl rfl ?_
           exact hj_2 _ _ ⟨wq5_2_1rrr,Tq5_2_1rrr,(len_set (len_set hl_wq5_2_1rrr)),rfl,rfl⟩
          ·replace hE_6:=if_ff g_4 hE_6
           refine Tri.skip ?_
           cases hE_6
           refine Nrm.only [1,2,4,5,6,9,10,11,12,13,45,46,47,59,60,61] rfl ?_
           refine Nrm.pick [1,2,3,4,0,6,5,8,7] rfl rfl ?_
           exact hj_2 _ _ ⟨wq5_2_1rrr,Tq5_2_1rrr,(len_set hl_wq5_2_1rrr),rfl,rfl⟩
        ·replace hE_5:=if_ff g_3 hE_5
         refine Tri.exit ?_
         refine Exi.then ?_
         refine Exi.then ?_
         refine Exi.same ?_
         cases hE_5
         refine Nrm.seq (Tri.seq (Tri.seq ?_))
         obtain ⟨y92,hE_7,hE_4⟩:=bind_some hE_4
         refine Tri.cut (fun e' C'=>e' = [(1,.bool a1),(2,.pointer (some ⟨b2_1,0,none⟩)),(4,.pointer (some ⟨b4_1,0,none⟩)),(5,.pointer (some ⟨b5_2,0,none⟩)),(6,w6),(9,.int .i64 x9),(10,v43_1),(11,.int .i64 x47),(12,.pointer (some ⟨b12_1,0,none⟩)),(13,.int .i64 t57),(45,va0_0),(46,.int .i64 (a0_0.length : Int)),(47,.int .i64 x47),(92,.bool y92)]∧C' = Sep w noM [R.box b12_1 27 [.int .i64 t50.1,v50_1,v50_2],R.box b4_1 161 [.slice none 0 0,.slice none 0 0],R.box b2_1 88 [va0_0,va0_1],R.box b5_2 161 [wq5_2_0,wq5_2_1rrr],R.sl S43_1 v43_1 (x10 : List (Int)),R.sl T6 w6 (x6 : List (Int)),R.sl Tq5_2_0 wq5_2_0 (xq5_2_0 : List (List Int)),R.sl Tq5_2_1rrr wq5_2_1rrr (xq5_2_1rrr : List (List Int))]) ?_ (fun hj_3=>?_)
         ·rintro _ _ ⟨rfl,rfl⟩
          refine Nrm.seq ?_
          obtain ⟨y13,hE_8,hE_4⟩:=bind_some hE_4
          refine Tri.cut (fun e' C'=>e' = [(1,.bool a1),(2,.pointer (some ⟨b2_1,0,none⟩)),(4,.pointer (some ⟨b4_1,0,none⟩)),(5,.pointer (some ⟨b5_2,0,none⟩)),(6,w6),(9,.int .i64 x9),(10,v43_1),(11,.int .i64 x47),(12,.pointer (some ⟨b12_1,0,none⟩)),(13,.int .i64 y13),(45,va0_0),(46,.int .i64 (a0_0.length : Int)),(47,.int .i64 x47)]∧C' = Sep w noM [R.box b12_1 27 [.int .i64 t50.1,v50_1,v50_2],R.box b4_1 161 [.slice none 0 0,.slice none 0 0],R.box b2_1 88 [va0_0,va0_1],R.box b5_2 161 [wq5_2_0,wq5_2_1rrr],R.sl S43_1 v43_1 (x10 : List (Int)),R.sl T6 w6 (x6 : List (Int)),R.sl Tq5_2_0 wq5_2_0 (xq5_2_0 : List (List Int)),R.sl Tq5_2_1rrr wq5_2_1rrr (xq5_2_1rrr : List (List Int))]) ?_ (fun hj_4=>?_)
          ·rintro _ _ ⟨rfl,rfl⟩
           refine Nrm.seq (Tri.seq ?_)
           obtain ⟨t96,h96,hE_4⟩:=bind_some hE_4
           refine Tri.reg (l:=[0,1,2,3]) rfl ?_
           refine F.qn rfl (r_move rfl) ?_
           refine F.mn rfl (m_callF (xs:=_) rfl ok119 rfl rfl (fun w hw=>impl_members.ok h96 w)) ?_
           rintro v96_1 _ ⟨_,⟨S96_1,hl_v96_1,rfl⟩,rfl⟩
           refine F.qn rfl (r_len Tryz.underlying25 rfl hl_v96_1) (F.qn rfl (r_move rfl) (F.nil (Nrm.seq ?_)))
           obtain ⟨x10r,hE_9,hE_4⟩:=bind_some hE_4
           refine Tri.block ?_
           refine Tri.only [1,2,4,5,6,9,10,11,12,45,46,47,96,97,98] rfl ?_
           refine Tri.pick [1,2,3,4,0,5,6,7,8] rfl rfl ?_
           refine Tri.rounds (fun n e' C'=>∃ (x10r' : List (Int)) (x98' : Int),impl_play.l4 k a0_1 x47 t50 t96 n x10r' x98' = some x10r∧SlLen v43_1 (x10r').length∧e' = [(1,.bool a1),(2,.pointer (some ⟨b2_1,0,none⟩)),(4,.pointer (some ⟨b4_1,0,none⟩)),(5,.pointer (some ⟨b5_2,0,none⟩)),(6,w6),(9,.int .i64 x9),(10,v43_1),(11,.int .i64 x47),(12,.pointer (some ⟨b12_1,0,none⟩)),(45,va0_0),(46,.int .i64 (a0_0.length : Int)),(47,.int .i64 x47),(96,v96_1),(97,.int .i64 (t96.length : Int)),(98,.int .i64 x98')]∧C' = Sep w noM [R.box b12_1 27 [.int .i64 t50.1,v50_1,v50_2],R.box b4_1 161 [.slice none 0 0,.slice none 0 0],R.box b2_1 88 [va0_0,va0_1],R.box b5_2 161 [wq5_2_0,wq5_2_1rrr],R.sl S96_1 v96_1 (t96 : List (Int)),R.sl S43_1 v43_1 (x10r' : List (Int)),R.sl T6 w6 (x6 : List (Int)),R.sl Tq5_2_0 wq5_2_0 (xq5_2_0 : List (List Int)),R.sl Tq5_2_1rrr wq5_2_1rrr (xq5_2_1rrr : List (List Int))]) k ?_ ?_ ?_
           ·exact ⟨x10,0,hE_9,hl_x10,rfl,rfl⟩
           ·rintro _ _ ⟨_,_,hE_9,_⟩
            rw [impl_play.l4.eq_1] at hE_9; cases hE_9
           ·rintro n_5 _ _ ⟨x10r,x98,hE_9,hl_x10r,rfl,rfl⟩ ih_5
            rw [impl_play.l4.eq_2] at hE_9
            refine Tri.seq (Tri.reg (l:=[0]) rfl ?_)
            refine F.qn rfl (r_lss rfl rfl) (F.nil (Nrm.seq (Tri.seq (Tri.cond (b:=decide (x98 < (t96.length : Int))) rfl (fun g_6=>?_) (fun g_6=>?_)))))
            ·replace hE_9:=if_tt g_6 hE_9
             refine Tri.skip (Nrm.seq (Tri.seq (Tri.block ?_)))
             refine Tri.seq ?_
             obtain ⟨t100,h100,hE_9⟩:=bind_some hE_9
             refine Tri.reg (l:=[0,1,2]) rfl ?_
             refine F.qn rfl (r_indexAddrS Tryz.underlying25 ti3 rfl hl_v96_1 rfl (rdl_some h100).1 (rdl_some h100).2.1) (F.qn rfl (r_load ta3 rfl (fun w hw=>cell_0 (Rd.flat ((rd_sl (i:=4) rfl) w hw) (rdl_some h100).2.2) rfl)) (F.qn rfl (r_assign rfl) (F.nil (Nrm.seq ?_))))
             obtain ⟨t106,h106,hE_9⟩:=bind_some hE_9
             obtain ⟨_,hc106,hp106⟩:=Rd.elem hr_a0_1 (rdl_some h106).2.2
             obtain ⟨v106_0,rfl,hr_v106_0⟩:=op25 hp106
             have hl_v106_0:=hr_v106_0.len
             obtain ⟨t109,h109,hE_9⟩:=bind_some hE_9
             obtain ⟨t111,h111,hE_9⟩:=bind_some hE_9
             obtain ⟨t116,h116,hE_9⟩:=bind_some hE_9
             obtain ⟨t119,h119,hE_9⟩:=bind_some hE_9
             refine Tri.drawA mixedT Sep.up [(0,true),(1,true),(2,true),(3,true),(4,true),(5,true),(6,true),(7,true),(8,true),(9,true),(10,true),(11,true),(12,true),(13,true),(14,true),(15,true),(16,true),(17,true)] [18] (by kernel_rfl) ?_
             refine S.qn rfl (r_move rfl) (S.qn rfl (r_fieldAddr tf88_1 rfl) (S.qn rfl (r_load ta86 rfl (fun w hw=>cell_1 (box_cells (i:=2) rfl w hw) rfl)) (S.qn rfl (r_move rfl) (S.qn rfl (r_indexAddrS Tryz.underlying86 ti25 rfl hl_va0_1 rfl (rdl_some h106).1 (rdl_some h106).2.1) (S.qn rfl (r_load ta25 rfl (fun w hw=>cell_0 (hc106.sep hw) rfl)) ?_)))))
             refine S.qn rfl (r_move rfl) (S.qn rfl (r_indexAddrS Tryz.underlying25 ti3 rfl hl_v106_0 rfl (rdl_some h109).1 (rdl_some h109).2.1) (S.qn rfl (r_load ta3 rfl (fun w hw=>cell_0 (Rd.flat ((fun _ hw=>hr_v106_0.sep hw) w hw) (rdl_some h109).2.2) rfl)) (S.qn rfl (r_indexAddrS Tryz.underlying25 ti3 rfl hl_x10r rfl (rdl_some h111).1 (rdl_some h111).2.1) (S.qn rfl (r_load ta3 rfl (fun w hw=>cell_0 (Rd.flat ((rd_sl (i:=5) rfl) w hw) (rdl_some h111).2.2) rfl)) (S.qn rfl (r_fieldAddr tf27_2 rfl) ?_)))))
             refine S.qn rfl (r_load ta25 rfl (fun w hw=>cell_1 (box_cells (i:=0) rfl w hw) rfl)) (S.qn rfl (r_move rfl) (S.qn rfl (r_indexAddrS Tryz.underlying25 ti3 rfl hl_v50_2 rfl (rdl_some h116).1 (rdl_some h116).2.1) (S.qn rfl (r_load ta3 rfl (fun w hw=>cell_0 (Rd.flat ((fun _ hw=>hr_v50_2.sep hw) w hw) (rdl_some h116).2.2) rfl)) (S.qn rfl (r_or rfl rfl) (S.qn rfl (r_indexAddrS Tryz.underlying25 ti3 rfl hl_x10r rfl (rdl_some h119).1 (rdl_some h119).2.1) (S.nil (F.ef0 rfl rfl (wanted_none rfl) (d_storeE (i:=5) (x1:=bor t111 t116) ti3 rfl rfl rfl (rdl_some h119) rfl) ?_)))))))
             rintro _ _ ⟨rfl,rfl⟩
             refine F.nil (Nrm.block ?_)
             refine Nrm.seq (Tri.reg (l:=[0,1]) rfl ?_)
             refine F.qn rfl (r_add rfl rfl) (F.qn rfl (r_move rfl) (F.nil (Nrm.round ?_)))
             refine Rnd.only [1,2,4,5,6,9,10,11,12,45,46,47,96,97,98] rfl ?_
             refine Rnd.pick [0,1,2,3,4,5,6,7,8] rfl rfl ?_
             exact ih_5 _ _ ⟨x10r.set t109.toNat (bor t111 t116),w64 (x98 + 1),hE_9,(len_set hl_x10r),rfl,rfl⟩
            ·replace hE_9:=if_ff g_6 hE_9
             refine Tri.exit ?_
             refine Exi.then ?_
             refine Exi.then ?_
             refine Exi.same ?_
             cases hE_9
             refine Nrm.block ?_
             refine Nrm.seq (Tri.reg (l:=[0,1]) rfl ?_)
             refine F.qn rfl (r_add rfl rfl) (F.qn rfl (r_move rfl) (F.nil (Nrm.round ?_)))
             refine Rnd.only [1,2,4,5,6,9,10,45,46,47] rfl ?_
             refine Rnd.pick [1,2,3,5,7,8,6] rfl rfl ?_
             exact ih_3 _ _ ⟨x10r,w64 (x47 + 1),xq5_2_1rrr,wq5_2_1rrr,Tq5_2_1rrr,hE_4,hl_x10r,hl_wq5_2_1rrr,rfl,rfl⟩
          ·refine Tri.cond (b:=y92) rfl (fun g_5=>?_) (fun g_5=>?_)
           ·replace hE_8:=if_tt g_5 hE_8
            obtain ⟨t94,h94,hE_8⟩:=bind_some hE_8
            refine Tri.reg (l:=[0,1,2]) rfl ?_
            refine F.qn rfl (r_loadA ta27 ti27 rfl rfl (fun w hw=>(box_cells (i:=0) rfl w hw))) ?_
            refine F.qcn rfl (q_callF (xs:=_) rfl ok183 rfl rfl (fun w hw=>impl_allNodes.ok h94 w ((fun _ hw=>hr_v50_1.sep hw) w hw) ((fun _ hw=>hr_v50_2.sep hw) w hw))) ?_
            refine F.qn rfl (r_assign rfl) (F.nil ?_)
            cases hE_8
            refine Nrm.only [1,2,4,5,6,9,10,11,12,13,45,46,47] rfl ?_
            refine Nrm.pick [0,1,2,3,4,5,6,7] rfl rfl ?_
            exact hj_4 _ _ ⟨rfl,rfl⟩
           ·replace hE_8:=if_ff g_5 hE_8
            refine Tri.skip ?_
            cases hE_8
            refine Nrm.only [1,2,4,5,6,9,10,11,12,13,45,46,47] rfl ?_
            refine Nrm.pick [0,1,2,3,4,5,6,7] rfl rfl ?_
            exact hj_4 _ _ ⟨rfl,rfl⟩
         ·rcases Bool.eq_false_or_eq_true (a1) with g84 | g84
          ·replace hE_7:=if_tt g84 hE_7
           obtain ⟨hs89,hE_7⟩:=ck hE_7
           refine Tri.reg (l:=[0,1,2,3,4,5,6,7,8,9]) rfl ?_
           refine F.qn rfl (r_move rfl) (F.qn rfl (r_move rfl) (F.qg rfl g84 (r_move rfl) (F.qg rfl g84 (r_fieldAddr tf27_0 rfl) ?_)))
           refine F.qg rfl g84 (r_load ta3 rfl (fun w hw=>cell_1 (box_cells (i:=0) rfl w hw) rfl)) (F.qg rfl g84 (r_sub rfl rfl) (F.qg rfl g84 (r_shr rfl rfl hs89) (F.qg rfl g84 (r_and rfl rfl) (F.qg rfl g84 (r_eql rfl rfl) (F.qn rfl (r_pick rfl rfl g84) (F.nil ?_))))))
           cases hE_7
           refine Nrm.only [1,2,4,5,6,9,10,11,12,13,45,46,47,92] rfl ?_
           refine Nrm.pick [0,1,2,3,5,8,6,7] rfl rfl ?_
           exact hj_3 _ _ ⟨rfl,rfl⟩
          ·replace hE_7:=if_ff g84 hE_7
           refine Tri.reg (l:=[0,1,2,3,4,5,6,7,8,9]) rfl ?_
           refine F.qn rfl (r_move rfl) (F.qn rfl (r_move rfl) ?_)
           iterate 7 refine F.skf rfl g84 ?_
           refine F.qn rfl (r_pickf rfl rfl g84) (F.nil ?_)
           cases hE_7
           refine Nrm.only [1,2,4,5,6,9,10,11,12,13,45,46,47,92] rfl ?_
           refine Nrm.pick [0,1,2,3,5,8,6,7] rfl rfl ?_
           exact hj_3 _ _ ⟨rfl,rfl⟩
      ·replace hE_4:=if_ff g_2 hE_4
       refine Tri.exit ?_
       refine Exi.then ?_
       refine Exi.then ?_
       refine Exi.same ?_
       cases hE_4
       refine Nrm.seq (Tri.seq ?_)
       obtain ⟨t125,h125,hE_3⟩:=bind_some hE_3
       obtain ⟨hs127,hE_3⟩:=ck hE_3
       refine Tri.drawB mixedT Sep.up [(0,true),(1,true),(2,true),(3,false),(4,false)] [5,6,7] (by kernel_rfl) ?_
       refine B.q rfl rfl rfl (wanted_none rfl) (r_fieldAddr tf161_0 rfl) ?_
       refine B.q rfl rfl rfl (wanted_none rfl) (r_load ta86 rfl (fun w hw=>cell_1 (box_cells (i:=2) rfl w hw) rfl)) ?_
       refine B.q rfl rfl rfl (wanted_none rfl) (r_move rfl) ?_
       refine B.ef rfl rfl rfl (wanted_none rfl) (Makes.does (m_callF (xs:=_) rfl ok144 rfl rfl (fun w hw=>slices_Clone_int_int.ok h125 w ((rd_sl (i:=6) rfl) w hw)))) (by rintro v125_2 _ ⟨_,⟨S125_2,hl_v125_2,rfl⟩,rfl⟩; exact upd rfl [1,2,3,4,5,6,7] rfl rfl) ?_
       rintro v125_2 _ ⟨_,⟨S125_2,hl_v125_2,rfl⟩,rfl⟩
       refine B.ef rfl rfl rfl (wanted_none rfl) (d_build1 (cells:=[v125_2]) (x0:=(t125 : List Int)) (cs:=[R.sl S125_2 v125_2 (t125 : List (Int))]) (rest:=[R.box b4_1 161 [.slice none 0 0,.slice none 0 0],R.box b2_1 88 [va0_0,va0_1],R.box b5_2 161 [wq5_2_0,wq5_2_1rr],R.sl S43_1 v43_1 (x10 : List (Int)),R.sl Tq5_2_0 wq5_2_0 (xq5_2_0 : List (List Int)),R.sl Tq5_2_1rr wq5_2_1rr (xq5_2_1rr : List (List Int)),R.sl T6 w6 (x6 : List (Int))]) [0] [1,2,3,4,5,6,7] Tryz.underlying86 ti25 rfl (sl_cells hl_v125_2) rfl (lf_cons (sl_leaf hl_v125_2) lf_nil) rfl rfl (jn_sl (S:=S125_2) (v:=v125_2) (l:=(t125 : List (Int))))) (by rintro v126_2 _ ⟨S126_2,hl_v126_2,rfl⟩; exact upd rfl [1,2,3,4,5,6,7] rfl rfl) ?_
       rintro v126_2 _ ⟨S126_2,hl_v126_2,rfl⟩
       refine B.nil ?_
       refine F.efn rfl (d_appendN (rest:=[R.box b4_1 161 [.slice none 0 0,.slice none 0 0],R.box b2_1 88 [va0_0,va0_1],R.box b5_2 161 [wq5_2_0,wq5_2_1rr],R.sl S43_1 v43_1 (x10 : List (Int)),R.sl Tq5_2_1rr wq5_2_1rr (xq5_2_1rr : List (List Int)),R.sl T6 w6 (x6 : List (Int))]) 5 0 [1,2,3,4,6,7] Tryz.underlying86 Tryz.underlying86 ti25 rfl (by decide) rfl rfl rfl rfl hs127) ?_
       rintro v127_2 _ ⟨S127_2,hl_v127_2,rfl⟩
       refine F.qn rfl (r_fieldAddr tf161_0 rfl) ?_
       refine F.ef0 rfl rfl (wanted_none rfl) (d_storeG1 (i:=3) (cs2:=[v127_2]) ti86 rfl rfl rfl (sl_cells hl_v127_2) rfl (Nat.le_of_ble_eq_true rfl) (lf_cons (sl_leaf hl_v127_2) lf_nil)) ?_
       rintro _ _ ⟨rfl,rfl⟩
       refine F.nil (Nrm.seq (Tri.seq (Tri.seq ?_)))
       obtain ⟨t131,h131,hE_3⟩:=bind_some hE_3
       refine Tri.reg (l:=[0,1,2]) rfl ?_
       refine F.qn rfl (r_move rfl) (F.qn rfl (r_move rfl) ?_)
       refine F.qcn rfl (q_callF (xs:=_) rfl ok226 rfl rfl (fun w hw=>slices_Equal_int_int.ok h131 w ((rd_sl (i:=4) rfl) w hw) ((rd_sl (i:=6) rfl) w hw))) ?_
       refine F.nil (Nrm.seq (Tri.cond (b:=t131) rfl (fun g_7=>?_) (fun g_7=>?_)))
       ·replace hE_3:=if_tt g_7 hE_3
        refine Tri.seq (Tri.reg (l:=[0,1]) rfl ?_)
        refine F.qn rfl (r_loadA ta161 ti161 rfl rfl (fun w hw=>(box_cells (i:=3) rfl w hw))) ?_
        refine F.ef0 rfl rfl (wanted_none rfl) (d_storeG0 (i:=1) (cs2:=[v127_2,wq5_2_1rr]) ti161 rfl rfl rfl rfl rfl (Nat.le_of_ble_eq_true rfl) (lf_cons (sl_leaf hl_v127_2) (lf_cons (sl_leaf hl_wq5_2_1rr) lf_nil))) ?_
        rintro _ _ ⟨rfl,rfl⟩
        refine F.nil (Nrm.seq (Tri.ret ?_))
        refine Rtn.then ?_
        refine Rtn.block ?_
        refine Rtn.then ?_
        refine Rtn.then ?_
        refine Rtn.block ?_
        cases hE_3
        replace h:=Lr_inr h
        cases h
        exact Rtn.body (.cell rfl ta161 ti161 rfl (fun _ hw=>box_cells (i:=1) rfl _ hw) .nil) (fun w hw=>⟨_,_,rfl,⟨v127_2,S127_2,wq5_2_1rr,Tq5_2_1rr,rfl,hl_v127_2,hl_wq5_2_1rr,rfl⟩,Sep.pick (is:=[0,5]) rfl rfl hw⟩)
       ·replace hE_3:=if_ff g_7 hE_3
        refine Tri.skip (Nrm.seq (Tri.reg (l:=[0,1]) rfl ?_))
        refine F.qn rfl (r_move rfl) (F.qn rfl (r_assign rfl) (F.nil (Nrm.block ?_)))
        refine Nrm.seq (Tri.reg (l:=[0,1,2]) rfl ?_)
        refine F.qn rfl (r_move rfl) (F.qn rfl (r_add rfl rfl) (F.qn rfl (r_assign rfl) (F.nil (Nrm.round ?_))))
        refine Rnd.only [1,2,4,5,6,9] rfl ?_
        refine Rnd.pick [1,2,3,0,5,4] rfl rfl ?_
        exact ih_2 _ _ ⟨x10,w64 (x9 + 1),(xq5_2_0 : List (List Int)) ++ ([t125] : List (List Int)),xq5_2_1rr,v43_1,S43_1,v127_2,S127_2,wq5_2_1rr,Tq5_2_1rr,hE_3,hl_x10,hl_v127_2,hl_wq5_2_1rr,rfl,rfl⟩
 ·obtain ⟨hm22,hE_1⟩:=ck hE_1
  refine Tri.drawT mixedT Sep.up [0,1,2,3,4,5,6] [7] (.q 0 (.q 1 (.q 2 (.q 3 (.alt 4 (.alt 5 (.alt 6 .nil .stop) .stop) (.alt 5 (.alt 4 (.alt 6 .nil .stop) (.alt 6 (.alt 4 .nil .stop) .stop)) .stop)))))) (by kernel_rfl) ?_
  refine T.q rfl rfl rfl (wanted_none rfl) (r_build (pl:=[(0,1),(1,1)]) (qs:=[]) (cs:=[.slice none 0 0,.slice none 0 0]) (by kernel_rfl) ti161 rfl .nil rfl rfl) ?_
  refine T.q rfl rfl rfl (wanted_none rfl) (r_fieldAddr tf88_0 rfl) ?_
  refine T.q rfl rfl rfl (wanted_none rfl) (r_load ta85 rfl (fun w hw=>cell_1 (box_cells (i:=1) rfl w hw) rfl)) ?_
  refine T.q rfl rfl rfl (wanted_none rfl) (r_len Tryz.underlying85 rfl hl_va0_0) ?_
  refine T.ef rfl rfl rfl (wanted_none rfl) (Makes.does (m_make (x0:=(0 : Int)) Tryz.underlying25 ti3 rfl rfl rfl hm22.1 hm22.2 (by decide))) (by rintro v22_2 _ ⟨S22_2,hl_v22_2,rfl⟩; exact upd rfl [1,2] rfl rfl) ?_ ?_
  ·rintro v22_2 _ ⟨S22_2,hl_v22_2,rfl⟩
   refine T.ef rfl rfl rfl (wanted_none rfl) (Makes.does (m_alloc ti161)) (by rintro _ _ ⟨b5_3,rfl,rfl⟩; exact upd rfl [2,3] rfl rfl) ?_ ?_
   ·rintro _ _ ⟨b5_3,rfl,rfl⟩
    refine T.ef0 rfl rfl (wanted_none rfl) (d_storeG0 (i:=0) (cs2:=[.slice none 0 0,.slice none 0 0]) ti161 rfl rfl rfl rfl rfl (Nat.le_of_ble_eq_true rfl) (lf_cons rfl (lf_cons rfl lf_nil))) (by rintro _ _ ⟨rfl,rfl⟩; exact upd rfl [2,3] rfl rfl) ?_ ?_
    ·rintro _ _ ⟨rfl,rfl⟩
     refine T.nil ?_
     refine F.qn rfl (r_assign rfl) (F.nil ?_)
     cases hE_1
     refine Nrm.only [1,2,4,5,6] rfl ?_
     refine Nrm.pick [2,3,0,1] rfl rfl ?_
     exact hj_1 _ _ ⟨v22_2,S22_2,b5_3,hl_v22_2,rfl,rfl⟩
    exact T.stop
   exact T.stop
  ·refine T.ef rfl rfl rfl (wanted_none rfl) (Makes.does (m_alloc ti161)) (by rintro _ _ ⟨b5_4,rfl,rfl⟩; exact upd rfl [1,2] rfl rfl) ?_ ?_
   ·rintro _ _ ⟨b5_4,rfl,rfl⟩
    refine T.ef rfl rfl rfl (wanted_none rfl) (Makes.does (m_make (x0:=(0 : Int)) Tryz.underlying25 ti3 rfl rfl rfl hm22.1 hm22.2 (by decide))) (by rintro v22_3 _ ⟨S22_3,hl_v22_3,rfl⟩; exact upd rfl [2,3] rfl rfl) ?_ ?_
    ·rintro v22_3 _ ⟨S22_3,hl_v22_3,rfl⟩
     refine T.ef0 rfl rfl (wanted_none rfl) (d_storeG0 (i:=1) (cs2:=[.slice none 0 0,.slice none 0 0]) ti161 rfl rfl rfl rfl rfl (Nat.le_of_ble_eq_true rfl) (lf_cons rfl (lf_cons rfl lf_nil))) (by rintro _ _ ⟨rfl,rfl⟩; exact upd rfl [2,3] rfl rfl) ?_ ?_
     ·rintro _ _ ⟨rfl,rfl⟩
      refine T.nil ?_
      refine F.qn rfl (r_assign rfl) (F.nil ?_)
      cases hE_1
      refine Nrm.only [1,2,4,5,6] rfl ?_
      refine Nrm.pick [2,3,1,0] rfl rfl ?_
      exact hj_1 _ _ ⟨v22_3,S22_3,b5_4,hl_v22_3,rfl,rfl⟩
     exact T.stop
    ·refine T.ef0 rfl rfl (wanted_none rfl) (d_storeG0 (i:=0) (cs2:=[.slice none 0 0,.slice none 0 0]) ti161 rfl rfl rfl rfl rfl (Nat.le_of_ble_eq_true rfl) (lf_cons rfl (lf_cons rfl lf_nil))) (by rintro _ _ ⟨rfl,rfl⟩; exact upd rfl [1,2] rfl rfl) ?_ ?_
     ·rintro _ _ ⟨rfl,rfl⟩
      refine T.ef rfl rfl rfl (wanted_none rfl) (Makes.does (m_make (x0:=(0 : Int)) Tryz.underlying25 ti3 rfl rfl rfl hm22.1 hm22.2 (by decide))) (by rintro v22_4 _ ⟨S22_4,hl_v22_4,rfl⟩; exact upd rfl [2,3] rfl rfl) ?_ ?_
      ·rintro v22_4 _ ⟨S22_4,hl_v22_4,rfl⟩
       refine T.nil ?_
       refine F.qn rfl (r_assign rfl) (F.nil ?_)
       cases hE_1
       refine Nrm.only [1,2,4,5,6] rfl ?_
       refine Nrm.pick [2,3,1,0] rfl rfl ?_
       exact hj_1 _ _ ⟨v22_4,S22_4,b5_4,hl_v22_4,rfl,rfl⟩
      exact T.stop
     exact T.stop
   exact T.stop


def impl_played_won.l0 (k : Nat) (a0_1 : List (List Int)) : Nat → (List (Int)) → Int → Option ((List (Int)))
 | 0,_,_=>none
 | n + 1,x3,x10=>(if (decide (x10 < (a0_1.length : Int))) = true then (rdl a0_1 x10).bind fun t12=>(rdl t12 (w64 ((t12.length : Int) - 1))).bind fun t19=>if (x3 ++ ([t19] : List (Int))).length < 1099511627776 then impl_played_won.l0 k a0_1 n (x3 ++ ([t19] : List (Int))) (w64 (x10 + 1)) else none else some x3)

def impl_played_won.f (k : Nat) (a0_0 : List (List Int)) (a0_1 : List (List Int)) : Option ((List Int)) := (impl_played_won.l0 k a0_1 k ([] : List (Int)) 0).bind fun x3 => some x3

theorem impl_played_won.ok {k : Nat}  {a0_0 : List (List Int)} {a0_1 : List (List Int)} {r0 : List Int} (h : impl_played_won.f k a0_0 a0_1 = some r0) (w : World) {va0_0 : Value} {va0_1 : Value} (hr_a0_0 : Rd w va0_0 a0_0) (hr_a0_1 : Rd w va0_1 a0_1) :
  Calls Tryz.prog 169 ([.agg ([va0_0,va0_1].toArray)] : List Value).toArray w (Post (fun u ns=>∃ (Sr0 : Nat → Prop),SlLen u r0.length∧ns = [R.sl Sr0 u r0]) w):=by
 unfold impl_played_won.f at h
 have hl_va0_0:=hr_a0_0.len
 have hl_va0_1:=hr_a0_1.len
 refine Calls.of_tri (N:=25) Tryz.func169 rfl rfl rfl (Sep.nil (M:=noM)) ?_
 refine Tri.seq (Tri.reg (l:=[0,1]) rfl ?_)
 refine F.mn rfl (m_boxG rfl rfl) ?_
 rintro _ _ ⟨b1_1,rfl,rfl⟩
 refine F.qn rfl (r_assign rfl) (F.nil (Nrm.seq (Tri.seq (Tri.reg (l:=[0,1]) rfl ?_))))
 refine F.mn rfl (m_build0 (α:=Int) Tryz.underlying25 ti3) ?_
 rintro v6_1 _ ⟨S6_1,hl_v6_1,rfl⟩
 refine F.qn rfl (r_assign rfl) (F.nil (Nrm.seq (Tri.seq (Tri.seq (Tri.reg (l:=[0,1,2,3]) rfl ?_)))))
 refine F.qn rfl (r_fieldAddr tf161_1 rfl) (F.qn rfl (r_load ta86 rfl (fun w hw=>cell_1 (box_cells (i:=1) rfl w hw) rfl)) (F.qn rfl (r_len Tryz.underlying86 rfl hl_va0_1) (F.qn rfl (r_move rfl) (F.nil (Nrm.seq ?_)))))
 obtain ⟨x3,hE_1,h⟩:=bind_some h
 refine Tri.block ?_
 refine Tri.only [3,8,9,10] rfl ?_
 refine Tri.pick [0] rfl rfl ?_
 refine Tri.rounds (fun n e' C'=>∃ (x3' : List (Int)) (x10' : Int) (w3 : Value) (T3 : Nat → Prop),impl_played_won.l0 k a0_1 n x3' x10' = some x3∧SlLen w3 (x3').length∧e' = [(3,w3),(8,va0_1),(9,.int .i64 (a0_1.length : Int)),(10,.int .i64 x10')]∧C' = Sep w noM [R.sl T3 w3 (x3' : List (Int))]) k ?_ ?_ ?_
 ·exact ⟨([] : List (Int)),0,v6_1,S6_1,hE_1,hl_v6_1,rfl,rfl⟩
 ·rintro _ _ ⟨_,_,_,_,hE_1,_⟩
  rw [impl_played_won.l0.eq_1] at hE_1; cases hE_1
 ·rintro n_1 _ _ ⟨x3,x10,w3,T3,hE_1,hl_w3,rfl,rfl⟩ ih_1
  rw [impl_played_won.l0.eq_2] at hE_1
  refine Tri.seq (Tri.reg (l:=[0]) rfl ?_)
  refine F.qn rfl (r_lss rfl rfl) (F.nil (Nrm.seq (Tri.seq (Tri.cond (b:=decide (x10 < (a0_1.length : Int))) rfl (fun g_1=>?_) (fun g_1=>?_)))))
  ·replace hE_1:=if_tt g_1 hE_1
   refine Tri.skip (Nrm.seq (Tri.seq (Tri.block ?_)))
   refine Tri.seq ?_
   obtain ⟨t12,h12,hE_1⟩:=bind_some hE_1
   obtain ⟨_,hc12,hp12⟩:=Rd.elem hr_a0_1 (rdl_some h12).2.2
   obtain ⟨v12_0,rfl,hr_v12_0⟩:=op25 hp12
   have hl_v12_0:=hr_v12_0.len
   refine Tri.reg (l:=[0,1,2]) rfl ?_
   refine F.qn rfl (r_indexAddrS Tryz.underlying86 ti25 rfl hl_va0_1 rfl (rdl_some h12).1 (rdl_some h12).2.1) (F.qn rfl (r_load ta25 rfl (fun w hw=>cell_0 (hc12.sep hw) rfl)) (F.qn rfl (r_assign rfl) (F.nil (Nrm.seq ?_))))
   obtain ⟨t19,h19,hE_1⟩:=bind_some hE_1
   obtain ⟨hs22,hE_1⟩:=ck hE_1
   refine Tri.reg (l:=[0,1,2,3,4,5,6,7,8,9]) rfl ?_
   iterate 3 refine F.qn rfl (r_move rfl) ?_
   refine F.qn rfl (r_len Tryz.underlying25 rfl hl_v12_0) (F.qn rfl (r_sub rfl rfl) (F.qn rfl (r_indexAddrS Tryz.underlying25 ti3 rfl hl_v12_0 rfl (rdl_some h19).1 (rdl_some h19).2.1) (F.qn rfl (r_load ta3 rfl (fun w hw=>cell_0 (Rd.flat ((fun _ hw=>hr_v12_0.sep hw) w hw) (rdl_some h19).2.2) rfl)) ?_)))
   refine F.mn rfl (m_buildF (l:=([t19] : List (Int))) Tryz.underlying25 ti3 rfl rfl rfl rfl rfl) ?_
   rintro v21_1 _ ⟨S21_1,hl_v21_1,rfl⟩
   refine F.efn rfl (d_append (i:=1) Tryz.underlying25 Tryz.underlying25 ti3 rfl (by decide) rfl rfl rfl (rd_sl (i:=0) rfl) hs22) ?_
   rintro v22_1 _ ⟨S22_1,rfl,hl_v22_1⟩
   refine F.qn rfl (r_assign rfl) (F.nil (Nrm.block ?_))
   refine Nrm.seq (Tri.reg (l:=[0,1]) rfl ?_)
   refine F.qn rfl (r_add rfl rfl) (F.qn rfl (r_move rfl) (F.nil (Nrm.round ?_)))
   refine Rnd.only [3,8,9,10] rfl ?_
   refine Rnd.pick [1] rfl rfl ?_
   exact ih_1 _ _ ⟨x3 ++ ([t19] : List (Int)),w64 (x10 + 1),v22_1,S22_1,hE_1,hl_v22_1,rfl,rfl⟩
  ·replace hE_1:=if_ff g_1 hE_1
   refine Tri.exit ?_
   refine Exi.then ?_
   refine Exi.then ?_
   refine Exi.same ?_
   cases hE_1
   refine Nrm.seq (Tri.seq (Tri.reg (l:=[0,1]) rfl ?_))
   refine F.qn rfl (r_move rfl) (F.qn rfl (r_assign rfl) (F.nil (Nrm.seq (Tri.ret ?_))))
   cases h
   exact Rtn.body (.tmp rfl .nil) (fun w hw=>⟨_,_,rfl,⟨T3,hl_w3,rfl⟩,Sep.pick (is:=[0]) rfl rfl hw⟩)


def impl_AllWon.f (k : Nat) (a0_0 : List (Int × List (Int × Int × Int) × List Int)) (a0_1 : List (List Int)) : Option (Bool × Bool) := (impl_IsWorlds.f k a0_0 a0_1).bind fun t5 => (if (!t5) = true then some (false, false) else (impl_play.f k a0_0 a0_1 false).bind fun (t8_1, t8_2) => (impl_played_won.f k t8_1 t8_2).bind fun t9 => (slices_Contains_int_int.f k t9 (-1)).bind fun t10 => some (!t10, true))

theorem impl_AllWon.ok {k : Nat}  {a0_0 : List (Int × List (Int × Int × Int) × List Int)} {a0_1 : List (List Int)} {r0 : Bool} {r1 : Bool} (h : impl_AllWon.f k a0_0 a0_1 = some (r0, r1)) (w : World) {va0_0 : Value} {va0_1 : Value} (hr_a0_0 : Rd w va0_0 a0_0) (hr_a0_1 : Rd w va0_1 a0_1) :
  Calls Tryz.prog 80 ([.agg ([va0_0,va0_1].toArray)] : List Value).toArray w (fun e w'=>e = .returned (.tuple #[.bool r0,.bool r1])∧Ext w w'):=by
 unfold impl_AllWon.f at h
 have hl_va0_0:=hr_a0_0.len
 have hl_va0_1:=hr_a0_1.len
 refine Calls.of_tri (N:=12) Tryz.func80 rfl rfl rfl (Sep.nil (M:=noM)) ?_
 refine Tri.seq (Tri.reg (l:=[0,1,2]) rfl ?_)
 refine F.mn rfl (m_boxG rfl rfl) ?_
 rintro _ _ ⟨b1_1,rfl,rfl⟩
 refine F.qn rfl (r_assign rfl) (F.qn rfl (r_assign rfl) (F.nil (Nrm.seq (Tri.seq (Tri.seq ?_)))))
 obtain ⟨t5,h5,h⟩:=bind_some h
 refine Tri.reg (l:=[0,1,2]) rfl ?_
 refine F.qn rfl (r_loadA ta88 ti88 rfl rfl (fun w hw=>(box_cells (i:=0) rfl w hw))) ?_
 refine F.qcn rfl (q_callF (xs:=_) rfl ok156 rfl rfl (fun w hw=>impl_IsWorlds.ok h5 w ((fun _ hw=>hr_a0_0.sep hw) w hw) ((fun _ hw=>hr_a0_1.sep hw) w hw))) ?_
 refine F.qn rfl (r_not rfl) (F.nil (Nrm.seq (Tri.cond (b:=!t5) rfl (fun g_1=>?_) (fun g_1=>?_))))
 ·replace h:=if_tt g_1 h
  refine Tri.seq (Tri.reg (l:=[0,1]) rfl ?_)
  refine F.qn rfl (r_assign rfl) (F.qn rfl (r_assign rfl) (F.nil (Nrm.seq (Tri.ret ?_))))
  refine Rtn.then ?_
  cases h
  exact Rtn.body (.tmp rfl (.tmp rfl .nil)) (fun w hw=>⟨rfl,hw.ext⟩)
 ·replace h:=if_ff g_1 h
  refine Tri.skip (Nrm.seq (Tri.seq ?_))
  obtain ⟨⟨t8_1,t8_2⟩,h8,h⟩:=bind_some h
  obtain ⟨t9,h9,h⟩:=bind_some h
  obtain ⟨t10,h10,h⟩:=bind_some h
  refine Tri.reg (l:=[0,1,2,3,4,5,6]) rfl ?_
  refine F.qn rfl (r_loadA ta88 ti88 rfl rfl (fun w hw=>(box_cells (i:=0) rfl w hw))) ?_
  refine F.mn rfl (m_callF (xs:=_) rfl ok168 rfl rfl (fun w hw=>impl_play.ok h8 w ((fun _ hw=>hr_a0_0.sep hw) w hw) ((fun _ hw=>hr_a0_1.sep hw) w hw))) ?_
  rintro _ _ ⟨_,⟨v8_1,S8_1,v8_2,S8_2,rfl,hl_v8_1,hl_v8_2,rfl⟩,rfl⟩
  refine F.mn rfl (m_callF (xs:=_) rfl ok169 rfl rfl (fun w hw=>impl_played_won.ok h9 w ((rd_sl (i:=0) rfl) w hw) ((rd_sl (i:=1) rfl) w hw))) ?_
  rintro v9_1 _ ⟨_,⟨S9_1,hl_v9_1,rfl⟩,rfl⟩
  refine F.qcn rfl (q_callF (xs:=_) rfl ok167 rfl rfl (fun w hw=>slices_Contains_int_int.ok h10 w ((rd_sl (i:=0) rfl) w hw))) ?_
  refine F.qn rfl (r_not rfl) (F.qn rfl (r_assign rfl) (F.qn rfl (r_assign rfl) (F.nil (Nrm.seq (Tri.ret ?_)))))
  cases h
  exact Rtn.body (.tmp rfl (.tmp rfl .nil)) (fun w hw=>⟨rfl,hw.ext⟩)


def slices_Clone_impl_Maze_impl_Maze_sh.f (k : Nat) (a0 : List (Int × (Sh (Int × Int × Int)) × (Sh (Int)))) : Option ((List (Int × (Sh (Int × Int × Int)) × (Sh (Int))))) := if (([] : List (Int × (Sh (Int × Int × Int)) × (Sh (Int)))) ++ a0).length < 1099511627776 then some (([] : List (Int × (Sh (Int × Int × Int)) × (Sh (Int)))) ++ a0) else none

theorem slices_Clone_impl_Maze_impl_Maze_sh.ok {k : Nat}  {a0 : List (Int × (Sh (Int × Int × Int)) × (Sh (Int)))} {r0 : List (Int × (Sh (Int × Int × Int)) × (Sh (Int)))} (h : slices_Clone_impl_Maze_impl_Maze_sh.f k a0 = some r0) (w : World) {va0 : Value} (hr_a0 : Rd w va0 a0) :
  Calls Tryz.prog 229 ([va0] : List Value).toArray w (Post (fun u ns=>∃ (Sr0 : Nat → Prop),SlLen u r0.length∧ns = [R.sl Sr0 u r0]) w):=by
 unfold slices_Clone_impl_Maze_impl_Maze_sh.f at h
 have hl_va0:=hr_a0.len
 rcases Rd.cases hr_a0 with ⟨rfl,rfl⟩ | ⟨pa0,ca0,rfl⟩
 ·replace h : some [] = some r0:=by simpa using h
  refine Calls.of_tri (N:=8) Tryz.func229 rfl rfl rfl (Sep.nil (M:=noM)) ?_
  refine Tri.seq (Tri.reg (l:=[0]) rfl ?_)
  refine F.qn rfl (r_assign rfl) (F.nil (Nrm.seq (Tri.seq (Tri.seq (Tri.reg (l:=[0,1]) rfl ?_)))))
  refine F.qn rfl (r_move rfl) (F.qn rfl (r_eqlNN Tryz.underlying85 rfl rfl) (F.nil (Nrm.seq (Tri.condT rfl rfl ?_))))
  refine Tri.seq (Tri.reg (l:=[0]) rfl ?_)
  refine F.qn rfl (r_assign rfl) (F.nil (Nrm.seq (Tri.ret ?_)))
  refine Rtn.then ?_
  cases h
  exact Rtn.body (.tmp rfl .nil) (fun w hw=>⟨_,_,rfl,⟨fun _=>False,len_nil,rfl⟩,Sep.pick (is:=[0]) rfl rfl hw.pushNil⟩)
 ·refine Calls.of_tri (N:=8) Tryz.func229 rfl rfl rfl (Sep.nil (M:=noM)) ?_
  refine Tri.seq (Tri.reg (l:=[0]) rfl ?_)
  refine F.qn rfl (r_assign rfl) (F.nil (Nrm.seq (Tri.seq (Tri.seq (Tri.reg (l:=[0,1]) rfl ?_)))))
  refine F.qn rfl (r_move rfl) (F.qn rfl (r_eqlN Tryz.underlying85 rfl rfl ⟨_,_,rfl⟩) (F.nil (Nrm.seq (Tri.condF rfl rfl ?_))))
  refine Tri.skip (Nrm.seq (Tri.seq ?_))
  obtain ⟨hs7,h⟩:=ck h
  refine Tri.reg (l:=[0,1,2,3]) rfl ?_
  refine F.mn rfl (m_build0 (α:=Int × (Sh (Int × Int × Int)) × (Sh (Int))) Tryz.underlying85 ti27) ?_
  rintro v5_1 _ ⟨S5_1,hl_v5_1,rfl⟩
  refine F.qn rfl (r_move rfl) ?_
  refine F.efn rfl (d_append (i:=0) Tryz.underlying85 Tryz.underlying85 ti27 rfl (by decide) rfl rfl rfl (fun _ hw=>hr_a0.sep hw) hs7) ?_
  rintro v7_1 _ ⟨S7_1,rfl,hl_v7_1⟩
  refine F.qn rfl (r_assign rfl) (F.nil (Nrm.seq (Tri.ret ?_)))
  cases h
  exact Rtn.body (.tmp rfl .nil) (fun w hw=>⟨_,_,rfl,⟨S7_1,hl_v7_1,rfl⟩,Sep.pick (is:=[0]) rfl rfl hw⟩)


def impl_withMaze_sh.f (k : Nat) (a0_0 : List (Int × (Sh (Int × Int × Int)) × (Sh (Int)))) (a0_1 : List (Sh (Int))) (a1 : Int) (a2_0 : Int) (a2_1 : Sh (Int × Int × Int)) (a2_2 : Sh (Int)) : Option ((List (Int × (Sh (Int × Int × Int)) × (Sh (Int))))) := ((slices_Clone_impl_Maze_impl_Maze_sh.f k a0_0).bind fun t10 => some t10).bind fun yb7_2_0 => (rdl yb7_2_0 a1).bind fun t18 => some (yb7_2_0.set a1.toNat (a2_0, a2_1, a2_2))

theorem impl_withMaze_sh.ok {k : Nat}  {a0_0 : List (Int × (Sh (Int × Int × Int)) × (Sh (Int)))} {a0_1 : List (Sh (Int))} {a1 : Int} {a2_0 : Int} {a2_1 : Sh (Int × Int × Int)} {a2_2 : Sh (Int)} {r0 : List (Int × (Sh (Int × Int × Int)) × (Sh (Int)))} (h : impl_withMaze_sh.f k a0_0 a0_1 a1 a2_0 a2_1 a2_2 = some r0) (w : World) {va0_0 : Value} {va0_1 : Value} (hr_a0_0 : Rd w va0_0 a0_0) (hr_a0_1 : Rd w va0_1 a0_1) :
  Calls Tryz.prog 170 ([.agg ([va0_0,va0_1].toArray),.int .i64 a1,.agg ([.int .i64 a2_0,a2_1.v,a2_2.v].toArray)] : List Value).toArray w (Post (fun u ns=>∃ (ur0 : Value) (Sr0 : Nat → Prop),u = .agg [ur0,va0_1].toArray∧SlLen ur0 r0.length∧ns = [R.sl Sr0 ur0 r0]) w):=by
 unfold impl_withMaze_sh.f at h
 have hl_va0_0:=hr_a0_0.len
 have hl_va0_1:=hr_a0_1.len
 refine Calls.of_tri (N:=20) Tryz.func170 rfl rfl rfl (Sep.nil (M:=noM)) ?_
 refine Tri.seq (Tri.reg (l:=[0,1,2]) rfl ?_)
 refine F.mn rfl (m_boxG rfl rfl) ?_
 rintro _ _ ⟨b3_1,rfl,rfl⟩
 refine F.mn rfl (m_boxG rfl rfl) ?_
 rintro _ _ ⟨b5_1,rfl,rfl⟩
 refine F.mn rfl (m_alloc ti88) ?_
 rintro _ _ ⟨b6_1,rfl,rfl⟩
 refine F.nil (Nrm.seq (Tri.seq ?_))
 obtain ⟨yb7_2_0,hE_1,h⟩:=bind_some h
 refine Tri.cut (fun e' C'=>∃ (vb7_2_0_1 : Value) (Sb7_2_0_1 : Nat → Prop) (b7_2 : Nat),SlLen vb7_2_0_1 (yb7_2_0).length∧e' = [(1,.int .i64 a1),(5,.pointer (some ⟨b5_1,0,none⟩)),(6,.pointer (some ⟨b6_1,0,none⟩)),(7,.pointer (some ⟨b7_2,0,none⟩))]∧C' = Sep w noM [R.box b6_1 88 [.slice none 0 0,.slice none 0 0],R.box b5_1 27 [.int .i64 a2_0,a2_1.v,a2_2.v],R.box b7_2 88 [vb7_2_0_1,va0_1],R.sl Sb7_2_0_1 vb7_2_0_1 (yb7_2_0 : List (Int × (Sh (Int × Int × Int)) × (Sh (Int))))]) ?_ (fun hj_1=>?_)
 ·rintro _ _ ⟨vb7_2_0_1,Sb7_2_0_1,b7_2,hl_vb7_2_0_1,rfl,rfl⟩
  refine Nrm.seq (Tri.seq ?_)
  obtain ⟨t18,h18,h⟩:=bind_some h
  refine Tri.reg (l:=[0,1,2,3,4,5]) rfl ?_
  refine F.qn rfl (r_fieldAddr tf88_0 rfl) (F.qn rfl (r_load ta85 rfl (fun w hw=>cell_1 (box_cells (i:=2) rfl w hw) rfl)) (F.qn rfl (r_move rfl) (F.qn rfl (r_loadA ta27 ti27 rfl rfl (fun w hw=>(box_cells (i:=1) rfl w hw))) (F.qn rfl (r_indexAddrS Tryz.underlying85 ti27 rfl hl_vb7_2_0_1 rfl (rdl_some h18).1 (rdl_some h18).2.1) ?_))))
  refine F.ef0 rfl rfl (wanted_none rfl) (d_storeE (i:=3) (x1:=(a2_0,a2_1,a2_2)) ti27 rfl rfl rfl (rdl_some h18) rfl) ?_
  rintro _ _ ⟨rfl,rfl⟩
  refine F.nil (Nrm.seq (Tri.seq (Tri.reg (l:=[0,1]) rfl ?_)))
  refine F.qn rfl (r_loadA ta88 ti88 rfl rfl (fun w hw=>(box_cells (i:=2) rfl w hw))) ?_
  refine F.ef0 rfl rfl (wanted_none rfl) (d_storeG0 (i:=0) (cs2:=[vb7_2_0_1,va0_1]) ti88 rfl rfl rfl rfl rfl (Nat.le_of_ble_eq_true rfl) (lf_cons (sl_leaf hl_vb7_2_0_1) (lf_cons (sl_leaf hl_va0_1) lf_nil))) ?_
  rintro _ _ ⟨rfl,rfl⟩
  refine F.nil (Nrm.seq (Tri.ret ?_))
  cases h
  exact Rtn.body (.cell rfl ta88 ti88 rfl (fun _ hw=>box_cells (i:=0) rfl _ hw) .nil) (fun w hw=>⟨_,_,rfl,⟨vb7_2_0_1,Sb7_2_0_1,rfl,(len_set hl_vb7_2_0_1),rfl⟩,Sep.pick (is:=[3]) rfl rfl hw⟩)
 ·obtain ⟨t10,h10,hE_1⟩:=bind_some hE_1
  refine Tri.drawT mixedT Sep.up [0,1,3,4,2,5,6] [7] (.q 0 (.q 1 (.q 3 (.q 4 (.alt 2 (.alt 5 (.alt 6 .nil .stop) (.alt 6 (.alt 5 .nil .stop) .stop)) (.alt 6 (.alt 2 (.alt 5 .nil .stop) .stop) .stop)))))) (by kernel_rfl) ?_
  refine T.q rfl rfl rfl (wanted_none rfl) (r_fieldAddr tf88_0 rfl) ?_
  refine T.q rfl rfl rfl (wanted_none rfl) (r_load ta85 rfl (fun w hw=>cell_1 (box_cells (i:=2) rfl w hw) rfl)) ?_
  refine T.q rfl rfl rfl (wanted_none rfl) (r_fieldAddr tf88_1 rfl) ?_
  refine T.q rfl rfl rfl (wanted_none rfl) (r_load ta86 rfl (fun w hw=>cell_1 (box_cells (i:=2) rfl w hw) rfl)) ?_
  refine T.ef rfl rfl rfl (wanted_none rfl) (Makes.does (m_callF (xs:=_) rfl ok229 rfl rfl (fun w hw=>slices_Clone_impl_Maze_impl_Maze_sh.ok h10 w ((fun _ hw=>hr_a0_0.sep hw) w hw)))) (by rintro v10_2 _ ⟨_,⟨S10_2,hl_v10_2,rfl⟩,rfl⟩; exact upd rfl [1,2,3] rfl rfl) ?_ ?_
  ·rintro v10_2 _ ⟨_,⟨S10_2,hl_v10_2,rfl⟩,rfl⟩
   refine T.ef rfl rfl rfl (wanted_none rfl) (Runs.does (r_build (pl:=[(0,1),(1,1)]) (qs:=[(0,[v10_2]),(1,[va0_1])]) (cs:=[v10_2,va0_1]) (by kernel_rfl) ti88 rfl (.cons (sl_cells hl_v10_2) rfl (Nat.le_of_ble_eq_true rfl) (.cons (sl_cells hl_va0_1) rfl (Nat.le_of_ble_eq_true rfl) .nil)) rfl rfl)) (by rintro _ _ ⟨rfl,rfl⟩; exact upd rfl [1,2,3] rfl rfl) ?_ ?_
   ·rintro _ _ ⟨rfl,rfl⟩
    refine T.ef rfl rfl rfl (wanted_none rfl) (Makes.does (m_alloc ti88)) (by rintro _ _ ⟨b7_3,rfl,rfl⟩; exact upd rfl [2,3,4] rfl rfl) ?_ ?_
    ·rintro _ _ ⟨b7_3,rfl,rfl⟩
     refine T.nil ?_
     refine F.ef0 rfl rfl (wanted_none rfl) (d_storeG0 (i:=0) (cs2:=[v10_2,va0_1]) ti88 rfl rfl rfl rfl rfl (Nat.le_of_ble_eq_true rfl) (lf_cons (sl_leaf hl_v10_2) (lf_cons (sl_leaf hl_va0_1) lf_nil))) ?_
     rintro _ _ ⟨rfl,rfl⟩
     refine F.nil ?_
     cases hE_1
     refine Nrm.only [1,5,6,7] rfl ?_
     refine Nrm.pick [2,3,0,1] rfl rfl ?_
     exact hj_1 _ _ ⟨v10_2,S10_2,b7_3,hl_v10_2,rfl,rfl⟩
    exact T.stop
   ·refine T.ef rfl rfl rfl (wanted_none rfl) (Makes.does (m_alloc ti88)) (by rintro _ _ ⟨b7_4,rfl,rfl⟩; exact upd rfl [2,3,4] rfl rfl) ?_ ?_
    ·rintro _ _ ⟨b7_4,rfl,rfl⟩
     refine T.ef rfl rfl rfl (wanted_none rfl) (Runs.does (r_build (pl:=[(0,1),(1,1)]) (qs:=[(0,[v10_2]),(1,[va0_1])]) (cs:=[v10_2,va0_1]) (by kernel_rfl) ti88 rfl (.cons (sl_cells hl_v10_2) rfl (Nat.le_of_ble_eq_true rfl) (.cons (sl_cells hl_va0_1) rfl (Nat.le_of_ble_eq_true rfl) .nil)) rfl rfl)) (by rintro _ _ ⟨rfl,rfl⟩; exact upd rfl [2,3,4] rfl rfl) ?_ ?_
     ·rintro _ _ ⟨rfl,rfl⟩
      refine T.nil ?_
      refine F.ef0 rfl rfl (wanted_none rfl) (d_storeG0 (i:=0) (cs2:=[v10_2,va0_1]) ti88 rfl rfl rfl rfl rfl (Nat.le_of_ble_eq_true rfl) (lf_cons (sl_leaf hl_v10_2) (lf_cons (sl_leaf hl_va0_1) lf_nil))) ?_
      rintro _ _ ⟨rfl,rfl⟩
      refine F.nil ?_
      cases hE_1
      refine Nrm.only [1,5,6,7] rfl ?_
      refine Nrm.pick [2,3,0,1] rfl rfl ?_
      exact hj_1 _ _ ⟨v10_2,S10_2,b7_4,hl_v10_2,rfl,rfl⟩
     exact T.stop
    exact T.stop
  ·refine T.ef rfl rfl rfl (wanted_none rfl) (Makes.does (m_alloc ti88)) (by rintro _ _ ⟨b7_5,rfl,rfl⟩; exact upd rfl [1,2,3] rfl rfl) ?_ ?_
   ·rintro _ _ ⟨b7_5,rfl,rfl⟩
    refine T.ef rfl rfl rfl (wanted_none rfl) (Makes.does (m_callF (xs:=_) rfl ok229 rfl rfl (fun w hw=>slices_Clone_impl_Maze_impl_Maze_sh.ok h10 w ((fun _ hw=>hr_a0_0.sep hw) w hw)))) (by rintro v10_3 _ ⟨_,⟨S10_3,hl_v10_3,rfl⟩,rfl⟩; exact upd rfl [2,3,4] rfl rfl) ?_ ?_
    ·rintro v10_3 _ ⟨_,⟨S10_3,hl_v10_3,rfl⟩,rfl⟩
     refine T.ef rfl rfl rfl (wanted_none rfl) (Runs.does (r_build (pl:=[(0,1),(1,1)]) (qs:=[(0,[v10_3]),(1,[va0_1])]) (cs:=[v10_3,va0_1]) (by kernel_rfl) ti88 rfl (.cons (sl_cells hl_v10_3) rfl (Nat.le_of_ble_eq_true rfl) (.cons (sl_cells hl_va0_1) rfl (Nat.le_of_ble_eq_true rfl) .nil)) rfl rfl)) (by rintro _ _ ⟨rfl,rfl⟩; exact upd rfl [2,3,4] rfl rfl) ?_ ?_
     ·rintro _ _ ⟨rfl,rfl⟩
      refine T.nil ?_
      refine F.ef0 rfl rfl (wanted_none rfl) (d_storeG0 (i:=1) (cs2:=[v10_3,va0_1]) ti88 rfl rfl rfl rfl rfl (Nat.le_of_ble_eq_true rfl) (lf_cons (sl_leaf hl_v10_3) (lf_cons (sl_leaf hl_va0_1) lf_nil))) ?_
      rintro _ _ ⟨rfl,rfl⟩
      refine F.nil ?_
      cases hE_1
      refine Nrm.only [1,5,6,7] rfl ?_
      refine Nrm.pick [2,3,1,0] rfl rfl ?_
      exact hj_1 _ _ ⟨v10_3,S10_3,b7_5,hl_v10_3,rfl,rfl⟩
     exact T.stop
    exact T.stop
   exact T.stop


theorem impl_withMaze.okx {mz : List MzT} {ls : List SMz} {os : List (List Int)} {j n : Int} {d : List (Int × Int × Int)} {ks : List Int} (hj : 0 ≤ j ∧ j < mz.length) (hz : mz.length < 1099511627776) (w : World) {vM vO vd vk : Value} (hab : ls.map SMz.abs = mz) (hM : Rd w vM ls) (hO : Rd w vO os) (hd0 : isLeaf vd = true) (hk0 : isLeaf vk = true) :
  Calls Tryz.prog 170 ([.agg [vM,vO].toArray,.int .i64 j,.agg [.int .i64 n,vd,vk].toArray] : List Value).toArray w (Post (fun u ns=>∃ (u0 : Value) (S0 : Nat → Prop),u = .agg [u0,vO].toArray∧SlLen u0 mz.length∧ns = [R.sl S0 u0 (ls.set j.toNat (n,⟨vd,d,hd0⟩,⟨vk,ks,hk0⟩))]) w):=by
 obtain ⟨lo,_,hO'⟩:=sh_open hO
 have hll : ls.length = mz.length:=by rw [← hab,List.length_map]
 have hlt : j.toNat < ls.length:=by omega
 have hr : rdl ls j = some ls[j.toNat]:=by
  obtain ⟨i,rfl⟩:=Int.eq_ofNat_of_zero_le hj.1
  exact rdl_lt hlt
 have e : impl_withMaze_sh.f 1 ls lo j n (⟨vd,d,hd0⟩ : Sh (Int × Int × Int)) (⟨vk,ks,hk0⟩ : Sh Int) = some (ls.set j.toNat (n,⟨vd,d,hd0⟩,⟨vk,ks,hk0⟩)):=by
  unfold impl_withMaze_sh.f slices_Clone_impl_Maze_impl_Maze_sh.f
  rw [if_pos (by simpa [hll] using hz)]
  simp only [Option.bind_some,List.nil_append,hr]
 refine (impl_withMaze_sh.ok e w hM hO').mono fun e' w' ⟨u,ns,h1,h2,h3⟩=>?_
 obtain ⟨u0,S0,rfl,h4,rfl⟩:=h2
 exact ⟨_,_,h1,⟨u0,S0,rfl,by rw [← hll]; simpa using h4,rfl⟩,h3⟩


def impl_laid.l0 (k : Nat) (a1 : List Int) (a2 : List Int) : Nat → Int → (List (Int)) → Option ((List (Int)))
 | 0,_,_=>none
 | n + 1,x16,xq7_1_2=>(if (decide (x16 < (a2.length : Int))) = true then (rdl a2 x16).bind fun t19=>(rdl xq7_1_2 t19).bind fun t24=>(rdl a1 x16).bind fun t28=>if ¬ t28 < 0 then (rdl xq7_1_2 t19).bind fun t32=>impl_laid.l0 k a1 a2 n (w64 (x16 + 1)) (xq7_1_2.set t19.toNat (bor t24 (shl 1 t28))) else none else some xq7_1_2)

def impl_laid.f (k : Nat) (a0_0 : Int) (a0_1 : List (Int × Int × Int)) (a0_2 : List Int) (a1 : List Int) (a2 : List Int) : Option (Int × (List (Int × Int × Int)) × (List Int)) := (impl_own.f k a0_0 a0_1 a0_2).bind fun (t11_1, t11_2, t11_3) => (impl_laid.l0 k a1 a2 k 0 (List.replicate t11_3.length (0 : Int))).bind fun xq7_1_2 => some (t11_1, t11_2, xq7_1_2)

theorem impl_laid.ok {k : Nat}  {a0_0 : Int} {a0_1 : List (Int × Int × Int)} {a0_2 : List Int} {a1 : List Int} {a2 : List Int} {r0 : Int} {r1 : List (Int × Int × Int)} {r2 : List Int} (h : impl_laid.f k a0_0 a0_1 a0_2 a1 a2 = some (r0, r1, r2)) (w : World) {va0_1 : Value} {va0_2 : Value} {va1 : Value} {va2 : Value} (hr_a0_1 : Rd w va0_1 a0_1) (hr_a0_2 : Rd w va0_2 a0_2) (hr_a1 : Rd w va1 a1) (hr_a2 : Rd w va2 a2) :
  Calls Tryz.prog 171 ([.agg ([.int .i64 a0_0,va0_1,va0_2].toArray),va1,va2] : List Value).toArray w (Post (fun u ns=>∃ (ur1 : Value) (Sr1 : Nat → Prop) (ur2 : Value) (Sr2 : Nat → Prop),u = .agg [.int .i64 r0,ur1,ur2].toArray∧SlLen ur1 r1.length∧SlLen ur2 r2.length∧ns = [R.sl Sr1 ur1 r1,R.sl Sr2 ur2 r2]) w):=by
 unfold impl_laid.f at h
 have hl_va0_1:=hr_a0_1.len
 have hl_va0_2:=hr_a0_2.len
 have hl_va1:=hr_a1.len
 have hl_va2:=hr_a2.len
 refine Calls.of_tri (N:=35) Tryz.func171 rfl rfl rfl (Sep.nil (M:=noM)) ?_
 refine Tri.seq (Tri.reg (l:=[0,1]) rfl ?_)
 refine F.mn rfl (m_boxG rfl rfl) ?_
 rintro _ _ ⟨b3_1,rfl,rfl⟩
 refine F.mn rfl (m_alloc ti27) ?_
 rintro _ _ ⟨b6_1,rfl,rfl⟩
 refine F.nil (Nrm.seq (Tri.seq ?_))
 obtain ⟨⟨t11_1,t11_2,t11_3⟩,h11,h⟩:=bind_some h
 refine Tri.reg (l:=[0,1,2,3]) rfl ?_
 refine F.qn rfl (r_loadA ta27 ti27 rfl rfl (fun w hw=>(box_cells (i:=1) rfl w hw))) ?_
 refine F.mn rfl (m_callF (xs:=_) rfl ok107 rfl rfl (fun w hw=>impl_own.ok h11 w ((fun _ hw=>hr_a0_1.sep hw) w hw) ((fun _ hw=>hr_a0_2.sep hw) w hw))) ?_
 rintro _ _ ⟨_,⟨v11_1,S11_1,v11_2,S11_2,rfl,hl_v11_1,hl_v11_2,rfl⟩,rfl⟩
 refine F.mn rfl (m_alloc ti27) ?_
 rintro _ _ ⟨b7_1,rfl,rfl⟩
 refine F.ef0 rfl rfl (wanted_none rfl) (d_storeG0 (i:=0) (cs2:=[.int .i64 t11_1,v11_1,v11_2]) ti27 rfl rfl rfl rfl rfl (Nat.le_of_ble_eq_true rfl) (lf_cons rfl (lf_cons (sl_leaf hl_v11_1) (lf_cons (sl_leaf hl_v11_2) lf_nil)))) ?_
 rintro _ _ ⟨rfl,rfl⟩
 refine F.nil (Nrm.seq (Tri.seq (Tri.reg (l:=[0,1,2]) rfl ?_)))
 refine F.qn rfl (r_fieldAddr tf27_2 rfl) (F.qn rfl (r_load ta25 rfl (fun w hw=>cell_1 (box_cells (i:=0) rfl w hw) rfl)) ?_)
 refine F.ef0 rfl rfl (wanted_none rfl) (d_clear0 (i:=2) (x0:=(0 : Int)) Tryz.underlying25 ti3 rfl rfl rfl) ?_
 rintro _ _ rfl
 refine F.nil (Nrm.seq (Tri.seq (Tri.seq (Tri.reg (l:=[0,1,2]) rfl ?_))))
 refine F.qn rfl (r_move rfl) (F.qn rfl (r_len Tryz.underlying25 rfl hl_va2) (F.qn rfl (r_move rfl) (F.nil (Nrm.seq ?_))))
 obtain ⟨xq7_1_2,hE_1,h⟩:=bind_some h
 refine Tri.block ?_
 refine Tri.only [1,6,7,14,15,16] rfl ?_
 refine Tri.pick [0,3,1,2] rfl rfl ?_
 refine Tri.rounds (fun n e' C'=>∃ (x16' : Int) (xq7_1_2' : List (Int)),impl_laid.l0 k a1 a2 n x16' xq7_1_2' = some xq7_1_2∧SlLen v11_2 (xq7_1_2').length∧e' = [(1,va1),(6,.pointer (some ⟨b6_1,0,none⟩)),(7,.pointer (some ⟨b7_1,0,none⟩)),(14,va2),(15,.int .i64 (a2.length : Int)),(16,.int .i64 x16')]∧C' = Sep w noM [R.box b7_1 27 [.int .i64 t11_1,v11_1,v11_2],R.box b6_1 27 [.int .i64 0,.slice none 0 0,.slice none 0 0],R.sl S11_1 v11_1 (t11_2 : List (Int × Int × Int)),R.sl S11_2 v11_2 (xq7_1_2' : List (Int))]) k ?_ ?_ ?_
 ·exact ⟨0,List.replicate t11_3.length (0 : Int),hE_1,(clr0_len hl_v11_2),rfl,rfl⟩
 ·rintro _ _ ⟨_,_,hE_1,_⟩
  rw [impl_laid.l0.eq_1] at hE_1; cases hE_1
 ·rintro n_1 _ _ ⟨x16,xq7_1_2,hE_1,hl_xq7_1_2,rfl,rfl⟩ ih_1
  rw [impl_laid.l0.eq_2] at hE_1
  refine Tri.seq (Tri.reg (l:=[0]) rfl ?_)
  refine F.qn rfl (r_lss rfl rfl) (F.nil (Nrm.seq (Tri.seq (Tri.cond (b:=decide (x16 < (a2.length : Int))) rfl (fun g_1=>?_) (fun g_1=>?_)))))
  ·replace hE_1:=if_tt g_1 hE_1
   refine Tri.skip (Nrm.seq (Tri.seq (Tri.block ?_)))
   refine Tri.seq ?_
   obtain ⟨t19,h19,hE_1⟩:=bind_some hE_1
   refine Tri.reg (l:=[0,1,2,3,4]) rfl ?_
   refine F.qn rfl (r_move rfl) (F.qn rfl (r_indexAddrS Tryz.underlying25 ti3 rfl hl_va2 rfl (rdl_some h19).1 (rdl_some h19).2.1) (F.qn rfl (r_load ta3 rfl (fun w hw=>cell_0 (Rd.flat ((fun _ hw=>hr_a2.sep hw) w hw) (rdl_some h19).2.2) rfl)) (F.qn rfl (r_assign rfl) (F.qn rfl (r_assign rfl) (F.nil (Nrm.seq ?_))))))
   obtain ⟨t24,h24,hE_1⟩:=bind_some hE_1
   obtain ⟨t28,h28,hE_1⟩:=bind_some hE_1
   obtain ⟨hs30,hE_1⟩:=ck hE_1
   obtain ⟨t32,h32,hE_1⟩:=bind_some hE_1
   refine Tri.drawA mixedT Sep.up [(0,true),(1,true),(2,true),(3,true),(4,true),(5,true),(6,true),(7,true),(8,true),(9,true),(10,true),(11,true)] [12] (by kernel_rfl) ?_
   refine S.qn rfl (r_fieldAddr tf27_2 rfl) (S.qn rfl (r_load ta25 rfl (fun w hw=>cell_1 (box_cells (i:=0) rfl w hw) rfl)) (S.qn rfl (r_move rfl) (S.qn rfl (r_indexAddrS Tryz.underlying25 ti3 rfl hl_xq7_1_2 rfl (rdl_some h24).1 (rdl_some h24).2.1) (S.qn rfl (r_load ta3 rfl (fun w hw=>cell_0 (Rd.flat ((rd_sl (i:=3) rfl) w hw) (rdl_some h24).2.2) rfl)) (S.qn rfl (r_move rfl) ?_)))))
   refine S.qn rfl (r_move rfl) (S.qn rfl (r_indexAddrS Tryz.underlying25 ti3 rfl hl_va1 rfl (rdl_some h28).1 (rdl_some h28).2.1) (S.qn rfl (r_load ta3 rfl (fun w hw=>cell_0 (Rd.flat ((fun _ hw=>hr_a1.sep hw) w hw) (rdl_some h28).2.2) rfl)) (S.qn rfl (r_shl rfl rfl hs30) (S.qn rfl (r_or rfl rfl) (S.qn rfl (r_indexAddrS Tryz.underlying25 ti3 rfl hl_xq7_1_2 rfl (rdl_some h32).1 (rdl_some h32).2.1) (S.nil (F.ef0 rfl rfl (wanted_none rfl) (d_storeE (i:=3) (x1:=bor t24 (shl 1 t28)) ti3 rfl rfl rfl (rdl_some h32) rfl) ?_)))))))
   rintro _ _ ⟨rfl,rfl⟩
   refine F.nil (Nrm.block ?_)
   refine Nrm.seq (Tri.reg (l:=[0,1]) rfl ?_)
   refine F.qn rfl (r_add rfl rfl) (F.qn rfl (r_move rfl) (F.nil (Nrm.round ?_)))
   refine Rnd.only [1,6,7,14,15,16] rfl ?_
   refine Rnd.pick [0,1,2,3] rfl rfl ?_
   exact ih_1 _ _ ⟨w64 (x16 + 1),xq7_1_2.set t19.toNat (bor t24 (shl 1 t28)),hE_1,(len_set hl_xq7_1_2),rfl,rfl⟩
  ·replace hE_1:=if_ff g_1 hE_1
   refine Tri.exit ?_
   refine Exi.then ?_
   refine Exi.then ?_
   refine Exi.same ?_
   cases hE_1
   refine Nrm.seq (Tri.seq (Tri.reg (l:=[0,1]) rfl ?_))
   refine F.qn rfl (r_loadA ta27 ti27 rfl rfl (fun w hw=>(box_cells (i:=0) rfl w hw))) ?_
   refine F.ef0 rfl rfl (wanted_none rfl) (d_storeG0 (i:=1) (cs2:=[.int .i64 t11_1,v11_1,v11_2]) ti27 rfl rfl rfl rfl rfl (Nat.le_of_ble_eq_true rfl) (lf_cons rfl (lf_cons (sl_leaf hl_v11_1) (lf_cons (sl_leaf hl_xq7_1_2) lf_nil)))) ?_
   rintro _ _ ⟨rfl,rfl⟩
   refine F.nil (Nrm.seq (Tri.ret ?_))
   cases h
   exact Rtn.body (.cell rfl ta27 ti27 rfl (fun _ hw=>box_cells (i:=1) rfl _ hw) .nil) (fun w hw=>⟨_,_,rfl,⟨v11_1,S11_1,v11_2,S11_2,rfl,hl_v11_1,hl_xq7_1_2,rfl⟩,Sep.pick (is:=[2,3]) rfl rfl hw⟩)


def impl_LeansOn.l0 (k : Nat) (a0_0 : List (Int × List (Int × Int × Int) × List Int)) (a0_1 : List (List Int)) (a1 : Int) : Nat → (List (Int)) → Int → Option ((List (Int)))
 | 0,_,_=>none
 | n + 1,x6,x25=>(if (decide (x25 < (a0_0.length : Int))) = true then (rdl a0_0 x25).bind fun t28=>((if (x25 != a1) = true then (impl_laid.f k t28.1 t28.2.1 t28.2.2 [] []).bind fun (t37_1,t37_2,t37_3)=>if 0 ≤ x25∧x25 < (a0_0.length : Int)∧a0_0.length < 1099511627776 then (impl_play.f k (a0_0.set (x25).toNat (t37_1,t37_2,t37_3)) a0_1 false).bind fun (t39_1,t39_2)=>(impl_played_won.f k t39_1 t39_2).bind fun t40=>(rdl t40 a1).bind fun t42=>some (decide (t42 < 0)) else none else some false)).bind fun y45=>((if y45 = true then if (x6 ++ ([x25] : List (Int))).length < 1099511627776 then some (x6 ++ ([x25] : List (Int))) else none else some x6)).bind fun y6=>impl_LeansOn.l0 k a0_0 a0_1 a1 n y6 (w64 (x25 + 1)) else some x6)

def impl_LeansOn.f (k : Nat) (a0_0 : List (Int × List (Int × Int × Int) × List Int)) (a0_1 : List (List Int)) (a1 : Int) : Option ((List Int) × Bool) := (impl_isWorld.f k a0_0 a0_1 a1).bind fun t11 => (if (!t11) = true then some ([], false) else (impl_play.f k a0_0 a0_1 false).bind fun (t15_1, t15_2) => (impl_played_won.f k t15_1 t15_2).bind fun t16 => (rdl t16 a1).bind fun t18 => (if (decide (t18 < 0)) = true then some (([] : List (Int)), true) else (impl_LeansOn.l0 k a0_0 a0_1 a1 k ([] : List (Int)) 0).bind fun x6 => some (x6, true)))

theorem impl_LeansOn.ok {k : Nat}  {a0_0 : List (Int × List (Int × Int × Int) × List Int)} {a0_1 : List (List Int)} {a1 : Int} {r0 : List Int} {r1 : Bool} (h : impl_LeansOn.f k a0_0 a0_1 a1 = some (r0, r1)) (w : World) {va0_0 : Value} {va0_1 : Value} (hr_a0_0 : Rd w va0_0 a0_0) (hr_a0_1 : Rd w va0_1 a0_1) :
  Calls Tryz.prog 81 ([.agg ([va0_0,va0_1].toArray),.int .i64 a1] : List Value).toArray w (Post (fun u ns=>∃ (ur0 : Value) (Sr0 : Nat → Prop),u = .tuple #[ur0,.bool r1]∧SlLen ur0 r0.length∧ns = [R.sl Sr0 ur0 r0]) w):=by
 unfold impl_LeansOn.f at h
 have hl_va0_0:=hr_a0_0.len
 have hl_va0_1:=hr_a0_1.len
 obtain ⟨ls_va0_0,hab_va0_0,hfl_va0_0,hrd_va0_0⟩:=shM_open hr_a0_0
 refine Calls.of_tri (N:=52) Tryz.func81 rfl rfl rfl (Sep.nil (M:=noM)) ?_
 refine Tri.seq (Tri.reg (l:=[0,1,2]) rfl ?_)
 refine F.mn rfl (m_boxG rfl rfl) ?_
 rintro _ _ ⟨b2_1,rfl,rfl⟩
 refine F.qn rfl (r_assign rfl) (F.qn rfl (r_assign rfl) (F.nil (Nrm.seq (Tri.seq (Tri.seq ?_)))))
 obtain ⟨t11,h11,h⟩:=bind_some h
 refine Tri.reg (l:=[0,1,2,3]) rfl ?_
 refine F.qn rfl (r_loadA ta88 ti88 rfl rfl (fun w hw=>(box_cells (i:=0) rfl w hw))) (F.qn rfl (r_move rfl) ?_)
 refine F.qcn rfl (q_callF (xs:=_) rfl ok164 rfl rfl (fun w hw=>impl_isWorld.ok h11 w ((fun _ hw=>hr_a0_0.sep hw) w hw) ((fun _ hw=>hr_a0_1.sep hw) w hw))) ?_
 refine F.qn rfl (r_not rfl) (F.nil (Nrm.seq (Tri.cond (b:=!t11) rfl (fun g_1=>?_) (fun g_1=>?_))))
 ·replace h:=if_tt g_1 h
  refine Tri.seq (Tri.reg (l:=[0,1]) rfl ?_)
  refine F.qn rfl (r_assign rfl) (F.qn rfl (r_assign rfl) (F.nil (Nrm.seq (Tri.ret ?_))))
  refine Rtn.then ?_
  cases h
  exact Rtn.body (.tmp rfl (.tmp rfl .nil)) (fun w hw=>⟨_,_,rfl,⟨.slice none 0 0,fun _=>False,rfl,len_nil,rfl⟩,Sep.pick (is:=[0]) rfl rfl hw.pushNil⟩)
 ·replace h:=if_ff g_1 h
  refine Tri.skip (Nrm.seq (Tri.seq (Tri.reg (l:=[0,1]) rfl ?_)))
  refine F.mn rfl (m_build0 (α:=Int) Tryz.underlying25 ti3) ?_
  rintro v13_1 _ ⟨S13_1,hl_v13_1,rfl⟩
  refine F.qn rfl (r_assign rfl) (F.nil (Nrm.seq (Tri.seq (Tri.seq ?_))))
  obtain ⟨⟨t15_1,t15_2⟩,h15,h⟩:=bind_some h
  obtain ⟨t16,h16,h⟩:=bind_some h
  obtain ⟨t18,h18,h⟩:=bind_some h
  refine Tri.reg (l:=[0,1,2,3,4,5,6]) rfl ?_
  refine F.qn rfl (r_loadA ta88 ti88 rfl rfl (fun w hw=>(box_cells (i:=1) rfl w hw))) ?_
  refine F.mn rfl (m_callF (xs:=_) rfl ok168 rfl rfl (fun w hw=>impl_play.ok h15 w ((fun _ hw=>hr_a0_0.sep hw) w hw) ((fun _ hw=>hr_a0_1.sep hw) w hw))) ?_
  rintro _ _ ⟨_,⟨v15_1,S15_1,v15_2,S15_2,rfl,hl_v15_1,hl_v15_2,rfl⟩,rfl⟩
  refine F.mn rfl (m_callF (xs:=_) rfl ok169 rfl rfl (fun w hw=>impl_played_won.ok h16 w ((rd_sl (i:=0) rfl) w hw) ((rd_sl (i:=1) rfl) w hw))) ?_
  rintro v16_1 _ ⟨_,⟨S16_1,hl_v16_1,rfl⟩,rfl⟩
  refine F.qn rfl (r_move rfl) (F.qn rfl (r_indexAddrS Tryz.underlying25 ti3 rfl hl_v16_1 rfl (rdl_some h18).1 (rdl_some h18).2.1) (F.qn rfl (r_load ta3 rfl (fun w hw=>cell_0 (Rd.flat ((rd_sl (i:=0) rfl) w hw) (rdl_some h18).2.2) rfl)) (F.qn rfl (r_lss rfl rfl) (F.nil (Nrm.seq (Tri.cond (b:=decide (t18 < 0)) rfl (fun g_2=>?_) (fun g_2=>?_)))))))
  ·replace h:=if_tt g_2 h
   refine Tri.seq (Tri.reg (l:=[0,1,2]) rfl ?_)
   refine F.qn rfl (r_move rfl) (F.qn rfl (r_assign rfl) (F.qn rfl (r_assign rfl) (F.nil (Nrm.seq (Tri.ret ?_)))))
   refine Rtn.then ?_
   cases h
   exact Rtn.body (.tmp rfl (.tmp rfl .nil)) (fun w hw=>⟨_,_,rfl,⟨v13_1,S13_1,rfl,hl_v13_1,rfl⟩,Sep.pick (is:=[3]) rfl rfl hw⟩)
  ·replace h:=if_ff g_2 h
   refine Tri.skip (Nrm.seq (Tri.seq (Tri.seq (Tri.reg (l:=[0,1,2,3]) rfl ?_))))
   refine F.qn rfl (r_fieldAddr tf88_0 rfl) (F.qn rfl (r_load ta85 rfl (fun w hw=>cell_1 (box_cells (i:=4) rfl w hw) rfl)) (F.qn rfl (r_len Tryz.underlying85 rfl hl_va0_0) (F.qn rfl (r_move rfl) (F.nil (Nrm.seq ?_)))))
   obtain ⟨x6,hE_1,h⟩:=bind_some h
   refine Tri.block ?_
   refine Tri.only [1,2,6,23,24,25] rfl ?_
   refine Tri.pick [4,3] rfl rfl ?_
   refine Tri.rounds (fun n e' C'=>∃ (x6' : List (Int)) (x25' : Int) (w6 : Value) (T6 : Nat → Prop),impl_LeansOn.l0 k a0_0 a0_1 a1 n x6' x25' = some x6∧SlLen w6 (x6').length∧e' = [(1,.int .i64 a1),(2,.pointer (some ⟨b2_1,0,none⟩)),(6,w6),(23,va0_0),(24,.int .i64 (a0_0.length : Int)),(25,.int .i64 x25')]∧C' = Sep w noM [R.box b2_1 88 [va0_0,va0_1],R.sl T6 w6 (x6' : List (Int))]) k ?_ ?_ ?_
   ·exact ⟨([] : List (Int)),0,v13_1,S13_1,hE_1,hl_v13_1,rfl,rfl⟩
   ·rintro _ _ ⟨_,_,_,_,hE_1,_⟩
    rw [impl_LeansOn.l0.eq_1] at hE_1; cases hE_1
   ·rintro n_1 _ _ ⟨x6,x25,w6,T6,hE_1,hl_w6,rfl,rfl⟩ ih_1
    rw [impl_LeansOn.l0.eq_2] at hE_1
    refine Tri.seq (Tri.reg (l:=[0]) rfl ?_)
    refine F.qn rfl (r_lss rfl rfl) (F.nil (Nrm.seq (Tri.seq (Tri.cond (b:=decide (x25 < (a0_0.length : Int))) rfl (fun g_3=>?_) (fun g_3=>?_)))))
    ·replace hE_1:=if_tt g_3 hE_1
     refine Tri.skip (Nrm.seq (Tri.seq (Tri.block ?_)))
     refine Tri.seq ?_
     obtain ⟨t28,h28,hE_1⟩:=bind_some hE_1
     obtain ⟨_,hc28,hp28⟩:=Rd.elem hr_a0_0 (rdl_some h28).2.2
     obtain ⟨v28_1,v28_2,rfl,hr_v28_1,hr_v28_2⟩:=op27 hp28
     have hl_v28_1:=hr_v28_1.len
     have hl_v28_2:=hr_v28_2.len
     refine Tri.reg (l:=[0,1,2,3,4,5]) rfl ?_
     refine F.qn rfl (r_move rfl) (F.qn rfl (r_indexAddrS Tryz.underlying85 ti27 rfl hl_va0_0 rfl (rdl_some h28).1 (rdl_some h28).2.1) (F.qn rfl (r_loadA ta27 ti27 rfl rfl (fun w hw=>(hc28.sep hw))) ?_))
     refine F.mn rfl (m_alloc ti27) ?_
     rintro _ _ ⟨b8_1,rfl,rfl⟩
     refine F.qn rfl (r_assign rfl) ?_
     refine F.ef0 rfl rfl (wanted_none rfl) (d_storeG0 (i:=0) (cs2:=[.int .i64 t28.1,v28_1,v28_2]) ti27 rfl rfl rfl rfl rfl (Nat.le_of_ble_eq_true rfl) (lf_cons rfl (lf_cons (sl_leaf hl_v28_1) (lf_cons (sl_leaf hl_v28_2) lf_nil)))) ?_
     rintro _ _ ⟨rfl,rfl⟩
     refine F.nil (Nrm.seq (Tri.seq ?_))
     obtain ⟨y45,hE_2,hE_1⟩:=bind_some hE_1
     refine Tri.cut (fun e' C'=>e' = [(1,.int .i64 a1),(2,.pointer (some ⟨b2_1,0,none⟩)),(6,w6),(7,.int .i64 x25),(23,va0_0),(24,.int .i64 (a0_0.length : Int)),(25,.int .i64 x25),(45,.bool y45)]∧C' = Sep w noM [R.box b2_1 88 [va0_0,va0_1],R.sl T6 w6 (x6 : List (Int))]) ?_ (fun hj_1=>?_)
     ·rintro _ _ ⟨rfl,rfl⟩
      refine Nrm.seq ?_
      obtain ⟨y6,hE_3,hE_1⟩:=bind_some hE_1
      refine Tri.cut (fun e' C'=>∃ (v6_1 : Value) (S6_1 : Nat → Prop),SlLen v6_1 (y6).length∧e' = [(1,.int .i64 a1),(2,.pointer (some ⟨b2_1,0,none⟩)),(6,v6_1),(23,va0_0),(24,.int .i64 (a0_0.length : Int)),(25,.int .i64 x25)]∧C' = Sep w noM [R.box b2_1 88 [va0_0,va0_1],R.sl S6_1 v6_1 (y6 : List (Int))]) ?_ (fun hj_2=>?_)
      ·rintro _ _ ⟨v6_1,S6_1,hl_v6_1,rfl,rfl⟩
       refine Nrm.block ?_
       refine Nrm.seq (Tri.reg (l:=[0,1]) rfl ?_)
       refine F.qn rfl (r_add rfl rfl) (F.qn rfl (r_move rfl) (F.nil (Nrm.round ?_)))
       refine Rnd.only [1,2,6,23,24,25] rfl ?_
       refine Rnd.pick [0,1] rfl rfl ?_
       exact ih_1 _ _ ⟨y6,w64 (x25 + 1),v6_1,S6_1,hE_1,hl_v6_1,rfl,rfl⟩
      ·refine Tri.cond (b:=y45) rfl (fun g_4=>?_) (fun g_4=>?_)
       ·replace hE_3:=if_tt g_4 hE_3
        obtain ⟨hs49,hE_3⟩:=ck hE_3
        refine Tri.reg (l:=[0,1,2,3,4]) rfl ?_
        refine F.qn rfl (r_move rfl) (F.qn rfl (r_move rfl) ?_)
        refine F.mn rfl (m_buildF (l:=([x25] : List (Int))) Tryz.underlying25 ti3 rfl rfl rfl rfl rfl) ?_
        rintro v48_1 _ ⟨S48_1,hl_v48_1,rfl⟩
        refine F.efn rfl (d_append (i:=2) Tryz.underlying25 Tryz.underlying25 ti3 rfl (by decide) rfl rfl rfl (rd_sl (i:=0) rfl) hs49) ?_
        rintro v49_1 _ ⟨S49_1,rfl,hl_v49_1⟩
        refine F.qn rfl (r_assign rfl) (F.nil ?_)
        cases hE_3
        refine Nrm.only [1,2,6,23,24,25] rfl ?_
        refine Nrm.pick [1,2] rfl rfl ?_
        exact hj_2 _ _ ⟨v49_1,S49_1,hl_v49_1,rfl,rfl⟩
       ·replace hE_3:=if_ff g_4 hE_3
        refine Tri.skip ?_
        cases hE_3
        refine Nrm.only [1,2,6,23,24,25] rfl ?_
        refine Nrm.pick [0,1] rfl rfl ?_
        exact hj_2 _ _ ⟨w6,T6,hl_w6,rfl,rfl⟩
     ·rcases Bool.eq_false_or_eq_true (x25 != a1) with g33 | g33
      ·replace hE_2:=if_tt g33 hE_2
       obtain ⟨⟨t37_1,t37_2,t37_3⟩,h37,hE_2⟩:=bind_some hE_2
       obtain ⟨hx38,hE_2⟩:=ck hE_2
       obtain ⟨⟨t39_1,t39_2⟩,h39,hE_2⟩:=bind_some hE_2
       obtain ⟨t40,h40,hE_2⟩:=bind_some hE_2
       obtain ⟨t42,h42,hE_2⟩:=bind_some hE_2
       refine Tri.drawA mixedT Sep.up [(0,true),(1,true),(2,true),(3,true),(4,true),(5,true),(6,true),(11,true),(7,false),(8,false),(9,false),(10,false),(12,true),(13,true),(14,true),(15,true)] [] (by kernel_rfl) ?_
       refine S.qn rfl (r_move rfl) (S.qn rfl (r_move rfl) ?_)
       refine S.qn rfl (r_neq rfl rfl) (S.qn rfl (r_move rfl) (S.qg rfl g33 (r_loadA ta88 ti88 rfl rfl (fun w hw=>(box_cells (i:=1) rfl w hw))) (S.qg rfl g33 (r_move rfl) (S.qg rfl g33 (r_loadA ta27 ti27 rfl rfl (fun w hw=>(box_cells (i:=0) rfl w hw))) (S.qg rfl g33 (r_move rfl) ?_)))))
       refine S.m rfl rfl rfl (wg rfl rfl rfl g33) (m_callF (xs:=_) rfl ok171 rfl rfl (fun w hw=>impl_laid.ok h37 w ((fun _ hw=>hr_v28_1.sep hw) w hw) ((fun _ hw=>hr_v28_2.sep hw) w hw) ((fun _ _=>rd_nil) w hw) ((fun _ _=>rd_nil) w hw))) ?_
       rintro _ _ ⟨_,⟨v37_5,S37_5,v37_6,S37_6,rfl,hl_v37_5,hl_v37_6,rfl⟩,rfl⟩
       refine S.m rfl rfl rfl (wg rfl rfl rfl g33) (m_callF (xs:=_) rfl ok170 rfl rfl (fun w hw=>impl_withMaze.okx (d:=t37_2) (ks:=t37_3) ⟨hx38.1,hx38.2.1⟩ hx38.2.2 w hab_va0_0 (Rd.sep hfl_va0_0 hw) ((fun _ hw=>hr_a0_1.sep hw) w hw) (SlLen.leaf hl_v37_5) (SlLen.leaf hl_v37_6))) ?_
       rintro _ _ ⟨_,⟨v38_3,S38_3,rfl,hl_v38_3,rfl⟩,rfl⟩
       refine S.m rfl rfl rfl (wg rfl rfl rfl g33) (m_callF (xs:=_) rfl ok168 rfl rfl (fun w hw=>impl_play.ok h39 w ((rd_withM (i:=0) rfl hab_va0_0 hrd_va0_0 (rd_sl (i:=1) rfl) (rd_sl (i:=2) rfl)) w hw) ((fun _ hw=>hr_a0_1.sep hw) w hw))) ?_
       rintro _ _ ⟨_,⟨v39_5,S39_5,v39_6,S39_6,rfl,hl_v39_5,hl_v39_6,rfl⟩,rfl⟩
       refine S.m rfl rfl rfl (wg rfl rfl rfl g33) (m_callF (xs:=_) rfl ok169 rfl rfl (fun w hw=>impl_played_won.ok h40 w ((rd_sl (i:=0) rfl) w hw) ((rd_sl (i:=1) rfl) w hw))) ?_
       rintro v40_3 _ ⟨_,⟨S40_3,hl_v40_3,rfl⟩,rfl⟩
       refine S.qg rfl g33 (r_indexAddrS Tryz.underlying25 ti3 rfl hl_v40_3 rfl (rdl_some h42).1 (rdl_some h42).2.1) (S.qg rfl g33 (r_load ta3 rfl (fun w hw=>cell_0 (Rd.flat ((rd_sl (i:=0) rfl) w hw) (rdl_some h42).2.2) rfl)) (S.qg rfl g33 (r_lss rfl rfl) (S.qn rfl (r_pick rfl rfl g33) (S.nil (F.nil ?_)))))
       cases hE_2
       refine Nrm.only [1,2,6,7,23,24,25,45] rfl ?_
       refine Nrm.pick [7,8] rfl rfl ?_
       exact hj_1 _ _ ⟨rfl,rfl⟩
      ·replace hE_2:=if_ff g33 hE_2
       refine Tri.drawA mixedT Sep.up [(0,true),(1,true),(2,true),(3,true),(4,true),(5,true),(6,true),(7,true),(8,true),(9,true),(10,true),(11,true),(12,true),(13,true),(14,true),(15,true)] [] (by kernel_rfl) ?_
       refine S.qn rfl (r_move rfl) (S.qn rfl (r_move rfl) (S.qn rfl (r_neq rfl rfl) (S.qn rfl (r_move rfl) ?_)))
       iterate 11 refine S.skf rfl g33 ?_
       refine S.qn rfl (r_pickf rfl rfl g33) (S.nil (F.nil ?_))
       cases hE_2
       refine Nrm.only [1,2,6,7,23,24,25,45] rfl ?_
       refine Nrm.pick [1,2] rfl rfl ?_
       exact hj_1 _ _ ⟨rfl,rfl⟩
    ·replace hE_1:=if_ff g_3 hE_1
     refine Tri.exit ?_
     refine Exi.then ?_
     refine Exi.then ?_
     refine Exi.same ?_
     cases hE_1
     refine Nrm.seq (Tri.seq (Tri.reg (l:=[0,1,2]) rfl ?_))
     refine F.qn rfl (r_move rfl) (F.qn rfl (r_assign rfl) (F.qn rfl (r_assign rfl) (F.nil (Nrm.seq (Tri.ret ?_)))))
     cases h
     exact Rtn.body (.tmp rfl (.tmp rfl .nil)) (fun w hw=>⟨_,_,rfl,⟨w6,T6,rfl,hl_w6,rfl⟩,Sep.pick (is:=[1]) rfl rfl hw⟩)


def impl_WonRounds.f (k : Nat) (a0_0 : List (Int × List (Int × Int × Int) × List Int)) (a0_1 : List (List Int)) : Option ((List Int) × Bool) := (impl_IsWorlds.f k a0_0 a0_1).bind fun t5 => (if (!t5) = true then some ([], false) else (impl_play.f k a0_0 a0_1 false).bind fun (t8_1, t8_2) => (impl_played_won.f k t8_1 t8_2).bind fun t9 => some (t9, true))

theorem impl_WonRounds.ok {k : Nat}  {a0_0 : List (Int × List (Int × Int × Int) × List Int)} {a0_1 : List (List Int)} {r0 : List Int} {r1 : Bool} (h : impl_WonRounds.f k a0_0 a0_1 = some (r0, r1)) (w : World) {va0_0 : Value} {va0_1 : Value} (hr_a0_0 : Rd w va0_0 a0_0) (hr_a0_1 : Rd w va0_1 a0_1) :
  Calls Tryz.prog 82 ([.agg ([va0_0,va0_1].toArray)] : List Value).toArray w (Post (fun u ns=>∃ (ur0 : Value) (Sr0 : Nat → Prop),u = .tuple #[ur0,.bool r1]∧SlLen ur0 r0.length∧ns = [R.sl Sr0 ur0 r0]) w):=by
 unfold impl_WonRounds.f at h
 have hl_va0_0:=hr_a0_0.len
 have hl_va0_1:=hr_a0_1.len
 refine Calls.of_tri (N:=10) Tryz.func82 rfl rfl rfl (Sep.nil (M:=noM)) ?_
 refine Tri.seq (Tri.reg (l:=[0,1,2]) rfl ?_)
 refine F.mn rfl (m_boxG rfl rfl) ?_
 rintro _ _ ⟨b1_1,rfl,rfl⟩
 refine F.qn rfl (r_assign rfl) (F.qn rfl (r_assign rfl) (F.nil (Nrm.seq (Tri.seq (Tri.seq ?_)))))
 obtain ⟨t5,h5,h⟩:=bind_some h
 refine Tri.reg (l:=[0,1,2]) rfl ?_
 refine F.qn rfl (r_loadA ta88 ti88 rfl rfl (fun w hw=>(box_cells (i:=0) rfl w hw))) ?_
 refine F.qcn rfl (q_callF (xs:=_) rfl ok156 rfl rfl (fun w hw=>impl_IsWorlds.ok h5 w ((fun _ hw=>hr_a0_0.sep hw) w hw) ((fun _ hw=>hr_a0_1.sep hw) w hw))) ?_
 refine F.qn rfl (r_not rfl) (F.nil (Nrm.seq (Tri.cond (b:=!t5) rfl (fun g_1=>?_) (fun g_1=>?_))))
 ·replace h:=if_tt g_1 h
  refine Tri.seq (Tri.reg (l:=[0,1]) rfl ?_)
  refine F.qn rfl (r_assign rfl) (F.qn rfl (r_assign rfl) (F.nil (Nrm.seq (Tri.ret ?_))))
  refine Rtn.then ?_
  cases h
  exact Rtn.body (.tmp rfl (.tmp rfl .nil)) (fun w hw=>⟨_,_,rfl,⟨.slice none 0 0,fun _=>False,rfl,len_nil,rfl⟩,Sep.pick (is:=[0]) rfl rfl hw.pushNil⟩)
 ·replace h:=if_ff g_1 h
  refine Tri.skip (Nrm.seq (Tri.seq ?_))
  obtain ⟨⟨t8_1,t8_2⟩,h8,h⟩:=bind_some h
  obtain ⟨t9,h9,h⟩:=bind_some h
  refine Tri.reg (l:=[0,1,2,3,4]) rfl ?_
  refine F.qn rfl (r_loadA ta88 ti88 rfl rfl (fun w hw=>(box_cells (i:=0) rfl w hw))) ?_
  refine F.mn rfl (m_callF (xs:=_) rfl ok168 rfl rfl (fun w hw=>impl_play.ok h8 w ((fun _ hw=>hr_a0_0.sep hw) w hw) ((fun _ hw=>hr_a0_1.sep hw) w hw))) ?_
  rintro _ _ ⟨_,⟨v8_1,S8_1,v8_2,S8_2,rfl,hl_v8_1,hl_v8_2,rfl⟩,rfl⟩
  refine F.mn rfl (m_callF (xs:=_) rfl ok169 rfl rfl (fun w hw=>impl_played_won.ok h9 w ((rd_sl (i:=0) rfl) w hw) ((rd_sl (i:=1) rfl) w hw))) ?_
  rintro v9_1 _ ⟨_,⟨S9_1,hl_v9_1,rfl⟩,rfl⟩
  refine F.qn rfl (r_assign rfl) (F.qn rfl (r_assign rfl) (F.nil (Nrm.seq (Tri.ret ?_))))
  cases h
  exact Rtn.body (.tmp rfl (.tmp rfl .nil)) (fun w hw=>⟨_,_,rfl,⟨v9_1,S9_1,rfl,hl_v9_1,rfl⟩,Sep.pick (is:=[0]) rfl rfl hw⟩)

end Go.Proofs

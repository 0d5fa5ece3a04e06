/- A part of the proof of FnWorldForms: what the functions of the program compute, walked on the model. No condition. -/
import Derived.Shelf.SlGeneric
import Derived.Shelf.SortM.Plain
import Derived.Shelf.SortM.SortNone
import Derived.Test.YtebbaacgalipaaaGreatChecked
import Derived.Test.YtebbaacgalipaaaGreatFnWorldFormsB
import Derived.Test.YtebbaacgalipaaaGreatFnWorldFormsC
set_option linter.unusedSimpArgs false
/- (*loop.example/g01158/spec.l1Cur).someMaze -/
namespace Go.Proofs
open Go Go.Ga
set_option linter.unusedVariables false
set_option maxRecDepth 100000
set_option maxHeartbeats 4000000
def spec_l1Cur_someMaze.l1 (k : Nat) (a0_0 : List By) (a1 : Int) (t20_1 : Int) : Nat → Int → Int → Int → (List (Int × Int × Int)) → Option (Int × Int × (List (Int × Int × Int)))
 | 0,_,_,_,_=>none
 | n + 1,x11,xpa0_1r,xpa0_2r,xq5_1_1r=>((if (decide (x11 > 0)) = true then (if (decide (a1 > 1)) = true then some (decide (a1 < 13)) else some false) else some false)).bind fun y77=>(if y77 = true then (spec_l1Cur_pick.f k a0_0 xpa0_1r xpa0_2r a1).bind fun (t82_1,t82_2,t82_3)=>(spec_l1Cur_pick.f k a0_0 t82_2 t82_3 a1).bind fun (t85_1,t85_2,t85_3)=>((if (t82_1 != t85_1) = true then (spec_l1Cur_few.f k a0_0 t85_2 t85_3 (w64 (1 + t20_1))).bind fun (t95_1,t95_2,t95_3)=>(spec_l2Put.f k xq5_1_1r t82_1 t85_1 t95_1).bind fun t96=>some (t95_2,t95_3,t96) else some (t85_2,t85_3,xq5_1_1r))).bind fun (ypa0_1rr,ypa0_2rr,yb5_1_1r)=>spec_l1Cur_someMaze.l1 k a0_0 a1 t20_1 n (w64 (x11 - 1)) ypa0_1rr ypa0_2rr yb5_1_1r else some (xpa0_1r,xpa0_2r,xq5_1_1r))

def spec_l1Cur_someMaze.l0 (k : Nat) (a0_0 : List By) (a1 : Int) (t20_1 : Int) : Nat → Int → Int → (List (Int × Int × Int)) → (List (Int)) → Int → Int → Option (Int × Int × (List (Int × Int × Int)) × (List (Int)))
 | 0,_,_,_,_,_,_=>none
 | n + 1,x7,x8,xq5_1_1,xq5_1_2,xpa0_1,xpa0_2=>((if (decide (x8 < a1)) = true then some (decide (x8 < 13)) else some false)).bind fun y28=>(if y28 = true then (spec_l1Cur_one.f k a0_0 xpa0_1 xpa0_2 2).bind fun (t32_1,t32_2,t32_3)=>((if t32_1 = true then (spec_l1Cur_pick.f k a0_0 t32_2 t32_3 (w64 (1 + t20_1))).bind fun (t35_1,t35_2,t35_3)=>if ¬ t35_1 < 0 then some (shl 1 t35_1,t35_2,t35_3) else none else some ((0 : Int),t32_2,t32_3))).bind fun (y9,ypa0_1,ypa0_2)=>if (xq5_1_2 ++ ([y9] : List (Int))).length < 1099511627776 then ((if (decide (x8 > 0)) = true then (spec_l1Cur_few.f k a0_0 ypa0_1 ypa0_2 (w64 (1 + t20_1))).bind fun (t47_1,t47_2,t47_3)=>(spec_l1Cur_one.f k a0_0 t47_2 t47_3 3).bind fun (t49_1,t49_2,t49_3)=>((if (!t49_1) = true then some (band t47_1 x7) else some t47_1)).bind fun y10=>(spec_l1Cur_pick.f k a0_0 t49_2 t49_3 x8).bind fun (t58_1,t58_2,t58_3)=>(spec_l2Put.f k xq5_1_1 t58_1 x8 y10).bind fun t61=>some (t58_2,t58_3,t61) else some (ypa0_1,ypa0_2,xq5_1_1))).bind fun (ypa0_1r,ypa0_2r,yb5_1_1)=>spec_l1Cur_someMaze.l0 k a0_0 a1 t20_1 n (bor x7 y9) (w64 (x8 + 1)) yb5_1_1 (xq5_1_2 ++ ([y9] : List (Int))) ypa0_1r ypa0_2r else none else some (xpa0_1,xpa0_2,xq5_1_1,xq5_1_2))

def spec_l1Cur_someMaze.f (k : Nat) (a0_0 : List By) (a0_1 : Int) (a0_2 : Int) (a1 : Int) : Option (Int × (List (Int × Int × Int)) × (List Int) × Int × Int) := (spec_l1Cur_pick.f k a0_0 a0_1 a0_2 6).bind fun (t20_1, t20_2, t20_3) => (spec_l1Cur_someMaze.l0 k a0_0 a1 t20_1 k 0 0 ([] : List (Int × Int × Int)) ([] : List (Int)) t20_2 t20_3).bind fun (xpa0_1, xpa0_2, xq5_1_1, xq5_1_2) => (spec_l1Cur_pick.f k a0_0 xpa0_1 xpa0_2 6).bind fun (t67_1, t67_2, t67_3) => (spec_l1Cur_someMaze.l1 k a0_0 a1 t20_1 k t67_1 t67_2 t67_3 xq5_1_1).bind fun (xpa0_1r, xpa0_2r, xq5_1_1r) => (spec_l1Cur_pick.f k a0_0 xpa0_1r xpa0_2r 60).bind fun (t99_1, t99_2, t99_3) => (if (t99_1 == 0) = true then (spec_l1Cur_among.f k a0_0 t99_2 t99_3 ([0, 13, w64 (a1 + 1)] : List (Int))).bind fun (t107_1, t107_2, t107_3) => some (t107_1, xq5_1_1r, xq5_1_2, t107_2, t107_3) else (if (t99_1 == 1) = true then ((if (decide ((xq5_1_1r.length : Int) > 0)) = true then (spec_l1Cur_pick.f k a0_0 t99_2 t99_3 (xq5_1_1r.length : Int)).bind fun (t119_1, t119_2, t119_3) => (rdl xq5_1_1r t119_1).bind fun t126 => (rdl xq5_1_1r t119_1).bind fun t132 => (rdl xq5_1_1r t119_1).bind fun t136 => some (t119_2, t119_3, xq5_1_1r.set t119_1.toNat (t126.2.1, t132.1, 0)) else some (t99_2, t99_3, xq5_1_1r))).bind fun (ypa0_1rrr, ypa0_2rrr, yb5_1_1rr) => some (a1, yb5_1_1rr, xq5_1_2, ypa0_1rrr, ypa0_2rrr) else (if (t99_1 == 2) = true then ((if (decide ((xq5_1_2.length : Int) > 0)) = true then ((spec_l1Cur_pick.f k a0_0 t99_2 t99_3 (xq5_1_2.length : Int)).bind fun (t149_1, t149_2, t149_3) => (spec_l1Cur_among.f k a0_0 t149_2 t149_3 ([64, (-1), 63] : List (Int))).bind fun (t152_1, t152_2, t152_3) => (rdl xq5_1_2 t149_1).bind fun t153 => some (t152_2, t152_3, xq5_1_2.set t149_1.toNat t152_1)).bind fun (ypa0_1rrrr, ypa0_2rrrr, yb5_1_2) => some (ypa0_1rrrr, ypa0_2rrrr, yb5_1_2) else some (t99_2, t99_3, xq5_1_2))).bind fun (ypa0_1rrrr, ypa0_2rrrr, yb5_1_2) => some (a1, xq5_1_1r, yb5_1_2, ypa0_1rrrr, ypa0_2rrrr) else (if (t99_1 == 3) = true then ((if (decide ((xq5_1_1r.length : Int) > 0)) = true then (rdl xq5_1_1r 0).bind fun t164 => if (xq5_1_1r ++ ([t164] : List (Int × Int × Int))).length < 1099511627776 then some (xq5_1_1r ++ ([t164] : List (Int × Int × Int))) else none else some xq5_1_1r)).bind fun yb5_1_1rrr => some (a1, yb5_1_1rrr, xq5_1_2, t99_2, t99_3) else (if (t99_1 == 4) = true then some (0, [], [], t99_2, t99_3) else some (a1, xq5_1_1r, xq5_1_2, t99_2, t99_3))))))

theorem spec_l1Cur_someMaze.ok {k : Nat}  {a0_0 : List By} {a0_1 : Int} {a0_2 : Int} {a1 : Int} {r0 : Int} {r1 : List (Int × Int × Int)} {r2 : List Int} {r3 : Int} {r4 : Int} (h : spec_l1Cur_someMaze.f k a0_0 a0_1 a0_2 a1 = some (r0, r1, r2, r3, r4)) (w : World) {pa0 : Nat} {va0_0 : Value} (hr_a0_0 : RdM w (footM [R.box pa0 114 [va0_0, .int .i64 a0_1, .int .u64 a0_2]]) va0_0 a0_0) (hw0 : Sep w (footM [R.box pa0 114 [va0_0, .int .i64 a0_1, .int .u64 a0_2]]) [R.box pa0 114 [va0_0, .int .i64 a0_1, .int .u64 a0_2]] w) :
  Calls Tryz.prog 193 ([.pointer (some ⟨pa0,0,none⟩),.int .i64 a1] : List Value).toArray w (PostM (footM [R.box pa0 114 [va0_0,.int .i64 a0_1,.int .u64 a0_2]]) (fun u ns=>∃ (ur1 : Value) (Sr1 : Nat → Prop) (ur2 : Value) (Sr2 : Nat → Prop),u = .agg [.int .i64 r0,ur1,ur2].toArray∧SlLen ur1 r1.length∧SlLen ur2 r2.length∧ns = [R.sl Sr1 ur1 r1,R.sl Sr2 ur2 r2,R.box pa0 114 [va0_0,.int .i64 r3,.int .u64 r4]]) w):=by
 unfold spec_l1Cur_someMaze.f at h
 have hl_va0_0:=hr_a0_0.len
 refine Calls.of_tri (N:=173) Tryz.func193 rfl rfl rfl hw0 ?_
 refine Tri.seq (Tri.reg (l:=[0]) rfl ?_)
 refine F.mn rfl (m_alloc ti27) ?_
 rintro _ _ ⟨b4_1,rfl,rfl⟩
 refine F.nil (Nrm.seq (Tri.seq ?_))
 obtain ⟨⟨t20_1,t20_2,t20_3⟩,h20,h⟩:=bind_some h
 refine Tri.reg (l:=[0,1,2,3,4,5,6,7,8,9]) rfl ?_
 refine F.qn rfl (r_move rfl) ?_
 refine F.mn rfl (m_build0 (α:=Int × Int × Int) Tryz.underlying24 ti168) ?_
 rintro v16_1 _ ⟨S16_1,hl_v16_1,rfl⟩
 refine F.mn rfl (m_build0 (α:=Int) Tryz.underlying25 ti3) ?_
 rintro v17_1 _ ⟨S17_1,hl_v17_1,rfl⟩
 refine F.qn rfl (r_build (pl:=[(0,1),(1,1),(2,1)]) (qs:=[(0,[.int .i64 a1]),(1,[v16_1]),(2,[v17_1])]) (cs:=[.int .i64 a1,v16_1,v17_1]) (by kernel_rfl) ti27 rfl (.cons rfl rfl (Nat.le_of_ble_eq_true rfl) (.cons (sl_cells hl_v16_1) rfl (Nat.le_of_ble_eq_true rfl) (.cons (sl_cells hl_v17_1) rfl (Nat.le_of_ble_eq_true rfl) .nil))) rfl rfl) (F.qn rfl (r_move rfl) ?_)
 refine F.efn rfl (d_callM (xs:=_) (cs:=[R.box pa0 114 [va0_0,.int .i64 a0_1,.int .u64 a0_2]]) (rest:=[R.sl S17_1 v17_1 (([] : List (Int)) : List (Int)),R.sl S16_1 v16_1 (([] : List (Int × Int × Int)) : List (Int × Int × Int)),R.box b4_1 27 [.int .i64 0,.slice none 0 0,.slice none 0 0]]) [3] [0,1,2] rfl ok115 rfl rfl rfl rfl (fun w hw=>spec_l1Cur_pick.ok h20 w (hr_a0_0.down hw) (Sep.sub hw))) ?_
 rintro _ _ ⟨_,⟨rfl,rfl⟩,rfl⟩
 refine F.qn rfl (r_add rfl rfl) ?_
 refine F.mn rfl (m_alloc ti27) ?_
 rintro _ _ ⟨b5_1,rfl,rfl⟩
 refine F.ef0 rfl rfl (wanted_none rfl) (d_storeG0 (i:=0) (cs2:=[.int .i64 a1,v16_1,v17_1]) ti27 rfl rfl rfl rfl rfl (Nat.le_of_ble_eq_true rfl) (lf_cons rfl (lf_cons (sl_leaf hl_v16_1) (lf_cons (sl_leaf hl_v17_1) lf_nil)))) ?_
 rintro _ _ ⟨rfl,rfl⟩
 refine F.qn rfl (r_assign rfl) (F.nil (Nrm.seq (Tri.seq (Tri.reg (l:=[0]) rfl ?_))))
 refine F.qn rfl (r_assign rfl) (F.nil (Nrm.seq (Tri.seq (Tri.seq (Tri.reg (l:=[0]) rfl ?_)))))
 refine F.qn rfl (r_assign rfl) (F.nil (Nrm.seq ?_))
 obtain ⟨⟨xpa0_1,xpa0_2,xq5_1_1,xq5_1_2⟩,hE_1,h⟩:=bind_some h
 refine Tri.block ?_
 refine Tri.only [0,1,4,5,6,7,8] rfl ?_
 refine Tri.pick [0,1,4,2,3] rfl rfl ?_
 refine Tri.rounds (fun n e' C'=>∃ (x7' : Int) (x8' : Int) (xq5_1_1' : List (Int × Int × Int)) (xq5_1_2' : List (Int)) (xpa0_1' : Int) (xpa0_2' : Int) (wq5_1_1 : Value) (Tq5_1_1 : Nat → Prop) (wq5_1_2 : Value) (Tq5_1_2 : Nat → Prop),spec_l1Cur_someMaze.l0 k a0_0 a1 t20_1 n x7' x8' xq5_1_1' xq5_1_2' xpa0_1' xpa0_2' = some (xpa0_1,xpa0_2,xq5_1_1,xq5_1_2)∧SlLen wq5_1_1 (xq5_1_1').length∧SlLen wq5_1_2 (xq5_1_2').length∧e' = [(0,.pointer (some ⟨pa0,0,none⟩)),(1,.int .i64 a1),(4,.pointer (some ⟨b4_1,0,none⟩)),(5,.pointer (some ⟨b5_1,0,none⟩)),(6,.int .i64 (w64 (1 + t20_1))),(7,.int .i64 x7'),(8,.int .i64 x8')]∧C' = Sep w (footM [R.box pa0 114 [va0_0,.int .i64 a0_1,.int .u64 a0_2]]) [R.box b5_1 27 [.int .i64 a1,wq5_1_1,wq5_1_2],R.box pa0 114 [va0_0,.int .i64 xpa0_1',.int .u64 xpa0_2'],R.box b4_1 27 [.int .i64 0,.slice none 0 0,.slice none 0 0],R.sl Tq5_1_2 wq5_1_2 (xq5_1_2' : List (Int)),R.sl Tq5_1_1 wq5_1_1 (xq5_1_1' : List (Int × Int × Int))]) k ?_ ?_ ?_
 ·exact ⟨0,0,([] : List (Int × Int × Int)),([] : List (Int)),t20_2,t20_3,v16_1,S16_1,v17_1,S17_1,hE_1,hl_v16_1,hl_v17_1,rfl,rfl⟩
 ·rintro _ _ ⟨_,_,_,_,_,_,_,_,_,_,hE_1,_⟩
  rw [spec_l1Cur_someMaze.l0.eq_1] at hE_1; cases hE_1
 ·rintro n_1 _ _ ⟨x7,x8,xq5_1_1,xq5_1_2,xpa0_1,xpa0_2,wq5_1_1,Tq5_1_1,wq5_1_2,Tq5_1_2,hE_1,hl_wq5_1_1,hl_wq5_1_2,rfl,rfl⟩ ih_1
  rw [spec_l1Cur_someMaze.l0.eq_2] at hE_1
  refine Tri.seq (Tri.seq ?_)
  obtain ⟨y28,hE_2,hE_1⟩:=bind_some hE_1
  refine Tri.cut (fun e' C'=>e' = [(0,.pointer (some ⟨pa0,0,none⟩)),(1,.int .i64 a1),(4,.pointer (some ⟨b4_1,0,none⟩)),(5,.pointer (some ⟨b5_1,0,none⟩)),(6,.int .i64 (w64 (1 + t20_1))),(7,.int .i64 x7),(8,.int .i64 x8),(28,.bool y28)]∧C' = Sep w (footM [R.box pa0 114 [va0_0,.int .i64 a0_1,.int .u64 a0_2]]) [R.box b5_1 27 [.int .i64 a1,wq5_1_1,wq5_1_2],R.box pa0 114 [va0_0,.int .i64 xpa0_1,.int .u64 xpa0_2],R.box b4_1 27 [.int .i64 0,.slice none 0 0,.slice none 0 0],R.sl Tq5_1_1 wq5_1_1 (xq5_1_1 : List (Int × Int × Int)),R.sl Tq5_1_2 wq5_1_2 (xq5_1_2 : List (Int))]) ?_ (fun hj_1=>?_)
  ·rintro _ _ ⟨rfl,rfl⟩
   refine Nrm.seq (Tri.cond (b:=y28) rfl (fun g_1=>?_) (fun g_1=>?_))
   ·replace hE_1:=if_tt g_1 hE_1
    refine Tri.skip (Nrm.seq (Tri.seq (Tri.block ?_)))
    refine Tri.seq (Tri.reg (l:=[0]) rfl ?_)
    refine F.qn rfl (r_assign rfl) (F.nil (Nrm.seq (Tri.seq (Tri.seq ?_))))
    obtain ⟨⟨t32_1,t32_2,t32_3⟩,h32,hE_1⟩:=bind_some hE_1
    refine Tri.reg (l:=[0,1]) rfl ?_
    refine F.qn rfl (r_move rfl) ?_
    refine F.efn rfl (d_callM (xs:=_) (cs:=[R.box pa0 114 [va0_0,.int .i64 xpa0_1,.int .u64 xpa0_2]]) (rest:=[R.box b5_1 27 [.int .i64 a1,wq5_1_1,wq5_1_2],R.box b4_1 27 [.int .i64 0,.slice none 0 0,.slice none 0 0],R.sl Tq5_1_1 wq5_1_1 (xq5_1_1 : List (Int × Int × Int)),R.sl Tq5_1_2 wq5_1_2 (xq5_1_2 : List (Int))]) [1] [0,2,3,4] rfl ok200 rfl rfl rfl rfl (fun w hw=>spec_l1Cur_one.ok h32 w (hr_a0_0.down hw) (Sep.sub hw))) ?_
    rintro _ _ ⟨_,⟨rfl,rfl⟩,rfl⟩
    refine F.nil (Nrm.seq ?_)
    obtain ⟨⟨y9,ypa0_1,ypa0_2⟩,hE_3,hE_1⟩:=bind_some hE_1
    refine Tri.cut (fun e' C'=>e' = [(0,.pointer (some ⟨pa0,0,none⟩)),(1,.int .i64 a1),(4,.pointer (some ⟨b4_1,0,none⟩)),(5,.pointer (some ⟨b5_1,0,none⟩)),(6,.int .i64 (w64 (1 + t20_1))),(7,.int .i64 x7),(8,.int .i64 x8),(9,.int .i64 y9)]∧C' = Sep w (footM [R.box pa0 114 [va0_0,.int .i64 a0_1,.int .u64 a0_2]]) [R.box pa0 114 [va0_0,.int .i64 ypa0_1,.int .u64 ypa0_2],R.box b5_1 27 [.int .i64 a1,wq5_1_1,wq5_1_2],R.box b4_1 27 [.int .i64 0,.slice none 0 0,.slice none 0 0],R.sl Tq5_1_1 wq5_1_1 (xq5_1_1 : List (Int × Int × Int)),R.sl Tq5_1_2 wq5_1_2 (xq5_1_2 : List (Int))]) ?_ (fun hj_2=>?_)
    ·rintro _ _ ⟨rfl,rfl⟩
     refine Nrm.seq (Tri.seq ?_)
     obtain ⟨hs41,hE_1⟩:=ck hE_1
     refine Tri.reg (l:=[0,1,2,3,4,5,6]) rfl ?_
     refine F.qn rfl (r_fieldAddr tf27_2 rfl) (F.qn rfl (r_load ta25 rfl (fun w hw=>cell_1 (box_cells (i:=1) rfl w hw) rfl)) (F.qn rfl (r_move rfl) ?_))
     refine F.mn rfl (m_buildF (l:=([y9] : List (Int))) Tryz.underlying25 ti3 rfl rfl rfl rfl rfl) ?_
     rintro v40_1 _ ⟨S40_1,hl_v40_1,rfl⟩
     refine F.efn rfl (d_append (i:=5) Tryz.underlying25 Tryz.underlying25 ti3 rfl (by decide) rfl rfl rfl (rd_sl (i:=0) rfl) hs41) ?_
     rintro v41_1 _ ⟨S41_1,rfl,hl_v41_1⟩
     refine F.qn rfl (r_fieldAddr tf27_2 rfl) ?_
     refine F.ef0 rfl rfl (wanted_none rfl) (d_storeG1 (i:=2) (cs2:=[v41_1]) ti25 rfl rfl rfl (sl_cells hl_v41_1) rfl (Nat.le_of_ble_eq_true rfl) (lf_cons (sl_leaf hl_v41_1) lf_nil)) ?_
     rintro _ _ ⟨rfl,rfl⟩
     refine F.nil (Nrm.seq (Tri.seq (Tri.seq (Tri.reg (l:=[0,1]) rfl ?_))))
     refine F.qn rfl (r_move rfl) (F.qn rfl (r_gtr rfl rfl) (F.nil (Nrm.seq ?_)))
     obtain ⟨⟨ypa0_1r,ypa0_2r,yb5_1_1⟩,hE_4,hE_1⟩:=bind_some hE_1
     refine Tri.cut (fun e' C'=>∃ (vb5_1_1_1 : Value) (Sb5_1_1_1 : Nat → Prop),SlLen vb5_1_1_1 (yb5_1_1).length∧e' = [(0,.pointer (some ⟨pa0,0,none⟩)),(1,.int .i64 a1),(4,.pointer (some ⟨b4_1,0,none⟩)),(5,.pointer (some ⟨b5_1,0,none⟩)),(6,.int .i64 (w64 (1 + t20_1))),(7,.int .i64 x7),(8,.int .i64 x8),(9,.int .i64 y9)]∧C' = Sep w (footM [R.box pa0 114 [va0_0,.int .i64 a0_1,.int .u64 a0_2]]) [R.box pa0 114 [va0_0,.int .i64 ypa0_1r,.int .u64 ypa0_2r],R.box b5_1 27 [.int .i64 a1,vb5_1_1_1,v41_1],R.box b4_1 27 [.int .i64 0,.slice none 0 0,.slice none 0 0],R.sl Sb5_1_1_1 vb5_1_1_1 (yb5_1_1 : List (Int × Int × Int)),R.sl S41_1 v41_1 (xq5_1_2 ++ ([y9] : List (Int)) : List (Int))]) ?_ (fun hj_3=>?_)
     ·rintro _ _ ⟨vb5_1_1_1,Sb5_1_1_1,hl_vb5_1_1_1,rfl,rfl⟩
      refine Nrm.seq (Tri.reg (l:=[0,1,2,3]) rfl ?_)
      refine F.qn rfl (r_move rfl) (F.qn rfl (r_move rfl) (F.qn rfl (r_or rfl rfl) (F.qn rfl (r_assign rfl) (F.nil (Nrm.block ?_)))))
      refine Nrm.seq (Tri.reg (l:=[0,1,2]) rfl ?_)
      refine F.qn rfl (r_move rfl) (F.qn rfl (r_add rfl rfl) (F.qn rfl (r_assign rfl) (F.nil (Nrm.round ?_))))
      refine Rnd.only [0,1,4,5,6,7,8] rfl ?_
      refine Rnd.pick [1,0,2,4,3] rfl rfl ?_
      exact ih_1 _ _ ⟨bor x7 y9,w64 (x8 + 1),yb5_1_1,xq5_1_2 ++ ([y9] : List (Int)),ypa0_1r,ypa0_2r,vb5_1_1_1,Sb5_1_1_1,v41_1,S41_1,hE_1,hl_vb5_1_1_1,hl_v41_1,rfl,rfl⟩
     ·refine Tri.cond (b:=decide (x8 > 0)) rfl (fun g_3=>?_) (fun g_3=>?_)
      ·replace hE_4:=if_tt g_3 hE_4
       refine Tri.seq ?_
       obtain ⟨⟨t47_1,t47_2,t47_3⟩,h47,hE_4⟩:=bind_some hE_4
       refine Tri.reg (l:=[0,1,2,3]) rfl ?_
       refine F.qn rfl (r_move rfl) (F.qn rfl (r_move rfl) ?_)
       refine F.efn rfl (d_callM (xs:=_) (cs:=[R.box pa0 114 [va0_0,.int .i64 ypa0_1,.int .u64 ypa0_2]]) (rest:=[R.sl S40_1 v40_1 (([y9] : List (Int)) : List (Int)),R.box b5_1 27 [.int .i64 a1,wq5_1_1,v41_1],R.box b4_1 27 [.int .i64 0,.slice none 0 0,.slice none 0 0],R.sl Tq5_1_1 wq5_1_1 (xq5_1_1 : List (Int × Int × Int)),R.sl S41_1 v41_1 (xq5_1_2 ++ ([y9] : List (Int)) : List (Int))]) [1] [0,2,3,4,5] rfl ok202 rfl rfl rfl rfl (fun w hw=>spec_l1Cur_few.ok h47 w (hr_a0_0.down hw) (Sep.sub hw))) ?_
       rintro _ _ ⟨_,⟨rfl,rfl⟩,rfl⟩
       refine F.qn rfl (r_assign rfl) (F.nil (Nrm.seq (Tri.seq (Tri.seq ?_))))
       obtain ⟨⟨t49_1,t49_2,t49_3⟩,h49,hE_4⟩:=bind_some hE_4
       refine Tri.reg (l:=[0,1,2]) rfl ?_
       refine F.qn rfl (r_move rfl) ?_
       refine F.efn rfl (d_callM (xs:=_) (cs:=[R.box pa0 114 [va0_0,.int .i64 t47_2,.int .u64 t47_3]]) (rest:=[R.sl S40_1 v40_1 (([y9] : List (Int)) : List (Int)),R.box b5_1 27 [.int .i64 a1,wq5_1_1,v41_1],R.box b4_1 27 [.int .i64 0,.slice none 0 0,.slice none 0 0],R.sl Tq5_1_1 wq5_1_1 (xq5_1_1 : List (Int × Int × Int)),R.sl S41_1 v41_1 (xq5_1_2 ++ ([y9] : List (Int)) : List (Int))]) [0] [1,2,3,4,5] rfl ok200 rfl rfl rfl rfl (fun w hw=>spec_l1Cur_one.ok h49 w (hr_a0_0.down hw) (Sep.sub hw))) ?_
       rintro _ _ ⟨_,⟨rfl,rfl⟩,rfl⟩
       refine F.qn rfl (r_not rfl) (F.nil (Nrm.seq ?_))
       obtain ⟨y10,hE_5,hE_4⟩:=bind_some hE_4
       refine Tri.cut (fun e' C'=>e' = [(0,.pointer (some ⟨pa0,0,none⟩)),(1,.int .i64 a1),(4,.pointer (some ⟨b4_1,0,none⟩)),(5,.pointer (some ⟨b5_1,0,none⟩)),(6,.int .i64 (w64 (1 + t20_1))),(7,.int .i64 x7),(8,.int .i64 x8),(9,.int .i64 y9),(10,.int .i64 y10)]∧C' = Sep w (footM [R.box pa0 114 [va0_0,.int .i64 a0_1,.int .u64 a0_2]]) [R.box pa0 114 [va0_0,.int .i64 t49_2,.int .u64 t49_3],R.box b5_1 27 [.int .i64 a1,wq5_1_1,v41_1],R.box b4_1 27 [.int .i64 0,.slice none 0 0,.slice none 0 0],R.sl S41_1 v41_1 (xq5_1_2 ++ ([y9] : List (Int)) : List (Int)),R.sl Tq5_1_1 wq5_1_1 (xq5_1_1 : List (Int × Int × Int))]) ?_ (fun hj_4=>?_)
       ·rintro _ _ ⟨rfl,rfl⟩
        refine Nrm.seq ?_
        obtain ⟨⟨t58_1,t58_2,t58_3⟩,h58,hE_4⟩:=bind_some hE_4
        obtain ⟨t61,h61,hE_4⟩:=bind_some hE_4
        refine Tri.drawK (B:=Sep w (footM [R.box pa0 114 [va0_0,.int .i64 a0_1,.int .u64 a0_2]]) [R.box b5_1 27 [.int .i64 a1,wq5_1_1,v41_1],R.box b4_1 27 [.int .i64 0,.slice none 0 0,.slice none 0 0],R.sl S41_1 v41_1 (xq5_1_2 ++ ([y9] : List (Int)) : List (Int)),R.sl Tq5_1_1 wq5_1_1 (xq5_1_1 : List (Int × Int × Int))]) mixedT Sep.up [(0,true),(1,true),(2,true),(3,true),(5,true),(6,true),(4,false)] [7,8,9] (by kernel_rfl) ?_
        refine K.q [1,2,3,4] rfl rfl rfl rfl rfl (wanted_none rfl) (r_fieldAddr tf27_1 rfl) ?_
        refine K.q [1,2,3,4] rfl rfl rfl rfl rfl (wanted_none rfl) (r_load ta24 rfl (fun w hw=>cell_1 (box_cells (i:=0) rfl w hw) rfl)) ?_
        iterate 4 refine K.q [1,2,3,4] rfl rfl rfl rfl rfl (wanted_none rfl) (r_move rfl) ?_
        refine B.ef rfl rfl rfl (wanted_none rfl) (d_callM (xs:=_) (cs:=[R.box pa0 114 [va0_0,.int .i64 t49_2,.int .u64 t49_3]]) (rest:=[R.box b5_1 27 [.int .i64 a1,wq5_1_1,v41_1],R.box b4_1 27 [.int .i64 0,.slice none 0 0,.slice none 0 0],R.sl S41_1 v41_1 (xq5_1_2 ++ ([y9] : List (Int)) : List (Int)),R.sl Tq5_1_1 wq5_1_1 (xq5_1_1 : List (Int × Int × Int))]) [0] [1,2,3,4] rfl ok115 rfl rfl rfl rfl (fun w hw=>spec_l1Cur_pick.ok h58 w (hr_a0_0.down hw) (Sep.sub hw))) (by rintro _ _ ⟨_,⟨rfl,rfl⟩,rfl⟩; exact upd rfl [1,2,3,4] rfl rfl) ?_
        rintro _ _ ⟨_,⟨rfl,rfl⟩,rfl⟩
        refine B.nil ?_
        refine F.efn rfl (d_callM (xs:=_) (cs:=[R.sl Tq5_1_1 wq5_1_1 (xq5_1_1 : List (Int × Int × Int))]) (rest:=[R.box pa0 114 [va0_0,.int .i64 t58_2,.int .u64 t58_3],R.box b5_1 27 [.int .i64 a1,wq5_1_1,v41_1],R.box b4_1 27 [.int .i64 0,.slice none 0 0,.slice none 0 0],R.sl S41_1 v41_1 (xq5_1_2 ++ ([y9] : List (Int)) : List (Int))]) [4] [0,1,2,3] rfl ok238 rfl rfl rfl rfl (fun w hw=>spec_l2Put.ok h61 w hl_wq5_1_1 (Sep.sub hw))) ?_
        rintro v61_2 _ ⟨_,⟨S61_2,hl_v61_2,rfl⟩,rfl⟩
        refine F.qn rfl (r_fieldAddr tf27_1 rfl) ?_
        refine F.ef0 rfl rfl (wanted_none rfl) (d_storeG1 (i:=2) (cs2:=[v61_2]) ti24 rfl rfl rfl (sl_cells hl_v61_2) rfl (Nat.le_of_ble_eq_true rfl) (lf_cons (sl_leaf hl_v61_2) lf_nil)) ?_
        rintro _ _ ⟨rfl,rfl⟩
        refine F.nil ?_
        cases hE_4
        refine Nrm.only [0,1,4,5,6,7,8,9] rfl ?_
        refine Nrm.pick [1,2,3,0,4] rfl rfl ?_
        exact hj_3 _ _ ⟨v61_2,S61_2,hl_v61_2,rfl,rfl⟩
       ·refine Tri.cond (b:=!t49_1) rfl (fun g_4=>?_) (fun g_4=>?_)
        ·replace hE_5:=if_tt g_4 hE_5
         refine Tri.reg (l:=[0,1,2,3]) rfl ?_
         refine F.qn rfl (r_move rfl) (F.qn rfl (r_move rfl) (F.qn rfl (r_and rfl rfl) (F.qn rfl (r_assign rfl) (F.nil ?_))))
         cases hE_5
         refine Nrm.only [0,1,4,5,6,7,8,9,10] rfl ?_
         refine Nrm.pick [0,2,3,5,4] rfl rfl ?_
         exact hj_4 _ _ ⟨rfl,rfl⟩
        ·replace hE_5:=if_ff g_4 hE_5
         refine Tri.skip ?_
         cases hE_5
         refine Nrm.only [0,1,4,5,6,7,8,9,10] rfl ?_
         refine Nrm.pick [0,2,3,5,4] rfl rfl ?_
         exact hj_4 _ _ ⟨rfl,rfl⟩
      ·replace hE_4:=if_ff g_3 hE_4
       refine Tri.skip ?_
       cases hE_4
       refine Nrm.only [0,1,4,5,6,7,8,9] rfl ?_
       refine Nrm.pick [1,2,3,4,5] rfl rfl ?_
       exact hj_3 _ _ ⟨wq5_1_1,Tq5_1_1,hl_wq5_1_1,rfl,rfl⟩
    ·refine Tri.cond (b:=t32_1) rfl (fun g_2=>?_) (fun g_2=>?_)
     ·replace hE_3:=if_tt g_2 hE_3
      obtain ⟨⟨t35_1,t35_2,t35_3⟩,h35,hE_3⟩:=bind_some hE_3
      obtain ⟨hs36,hE_3⟩:=ck hE_3
      refine Tri.reg (l:=[0,1,2,3,4]) rfl ?_
      refine F.qn rfl (r_move rfl) (F.qn rfl (r_move rfl) ?_)
      refine F.efn rfl (d_callM (xs:=_) (cs:=[R.box pa0 114 [va0_0,.int .i64 t32_2,.int .u64 t32_3]]) (rest:=[R.box b5_1 27 [.int .i64 a1,wq5_1_1,wq5_1_2],R.box b4_1 27 [.int .i64 0,.slice none 0 0,.slice none 0 0],R.sl Tq5_1_1 wq5_1_1 (xq5_1_1 : List (Int × Int × Int)),R.sl Tq5_1_2 wq5_1_2 (xq5_1_2 : List (Int))]) [0] [1,2,3,4] rfl ok115 rfl rfl rfl rfl (fun w hw=>spec_l1Cur_pick.ok h35 w (hr_a0_0.down hw) (Sep.sub hw))) ?_
      rintro _ _ ⟨_,⟨rfl,rfl⟩,rfl⟩
      refine F.qn rfl (r_shl rfl rfl hs36) (F.qn rfl (r_assign rfl) (F.nil ?_))
      cases hE_3
      refine Nrm.only [0,1,4,5,6,7,8,9] rfl ?_
      refine Nrm.pick [0,1,2,3,4] rfl rfl ?_
      exact hj_2 _ _ ⟨rfl,rfl⟩
     ·replace hE_3:=if_ff g_2 hE_3
      refine Tri.skip ?_
      cases hE_3
      refine Nrm.only [0,1,4,5,6,7,8,9] rfl ?_
      refine Nrm.pick [0,1,2,3,4] rfl rfl ?_
      exact hj_2 _ _ ⟨rfl,rfl⟩
   ·replace hE_1:=if_ff g_1 hE_1
    refine Tri.exit ?_
    refine Exi.then ?_
    refine Exi.then ?_
    refine Exi.same ?_
    cases hE_1
    refine Nrm.seq (Tri.seq (Tri.seq ?_))
    obtain ⟨⟨t67_1,t67_2,t67_3⟩,h67,h⟩:=bind_some h
    refine Tri.reg (l:=[0,1,2]) rfl ?_
    refine F.qn rfl (r_move rfl) ?_
    refine F.efn rfl (d_callM (xs:=_) (cs:=[R.box pa0 114 [va0_0,.int .i64 xpa0_1,.int .u64 xpa0_2]]) (rest:=[R.box b5_1 27 [.int .i64 a1,wq5_1_1,wq5_1_2],R.box b4_1 27 [.int .i64 0,.slice none 0 0,.slice none 0 0],R.sl Tq5_1_1 wq5_1_1 (xq5_1_1 : List (Int × Int × Int)),R.sl Tq5_1_2 wq5_1_2 (xq5_1_2 : List (Int))]) [1] [0,2,3,4] rfl ok115 rfl rfl rfl rfl (fun w hw=>spec_l1Cur_pick.ok h67 w (hr_a0_0.down hw) (Sep.sub hw))) ?_
    rintro _ _ ⟨_,⟨rfl,rfl⟩,rfl⟩
    refine F.qn rfl (r_assign rfl) (F.nil (Nrm.seq ?_))
    obtain ⟨⟨xpa0_1r,xpa0_2r,xq5_1_1r⟩,hE_6,h⟩:=bind_some h
    refine Tri.block ?_
    refine Tri.only [0,1,4,5,6,11] rfl ?_
    refine Tri.pick [0,1,2,3,4] rfl rfl ?_
    refine Tri.rounds (fun n e' C'=>∃ (x11' : Int) (xpa0_1r' : Int) (xpa0_2r' : Int) (xq5_1_1r' : List (Int × Int × Int)) (wq5_1_1r : Value) (Tq5_1_1r : Nat → Prop),spec_l1Cur_someMaze.l1 k a0_0 a1 t20_1 n x11' xpa0_1r' xpa0_2r' xq5_1_1r' = some (xpa0_1r,xpa0_2r,xq5_1_1r)∧SlLen wq5_1_1r (xq5_1_1r').length∧e' = [(0,.pointer (some ⟨pa0,0,none⟩)),(1,.int .i64 a1),(4,.pointer (some ⟨b4_1,0,none⟩)),(5,.pointer (some ⟨b5_1,0,none⟩)),(6,.int .i64 (w64 (1 + t20_1))),(11,.int .i64 x11')]∧C' = Sep w (footM [R.box pa0 114 [va0_0,.int .i64 a0_1,.int .u64 a0_2]]) [R.box pa0 114 [va0_0,.int .i64 xpa0_1r',.int .u64 xpa0_2r'],R.box b5_1 27 [.int .i64 a1,wq5_1_1r,wq5_1_2],R.box b4_1 27 [.int .i64 0,.slice none 0 0,.slice none 0 0],R.sl Tq5_1_1r wq5_1_1r (xq5_1_1r' : List (Int × Int × Int)),R.sl Tq5_1_2 wq5_1_2 (xq5_1_2 : List (Int))]) k ?_ ?_ ?_
    ·exact ⟨t67_1,t67_2,t67_3,xq5_1_1,wq5_1_1,Tq5_1_1,hE_6,hl_wq5_1_1,rfl,rfl⟩
    ·rintro _ _ ⟨_,_,_,_,_,_,hE_6,_⟩
     rw [spec_l1Cur_someMaze.l1.eq_1] at hE_6; cases hE_6
    ·rintro n_2 _ _ ⟨x11,xpa0_1r,xpa0_2r,xq5_1_1r,wq5_1_1r,Tq5_1_1r,hE_6,hl_wq5_1_1r,rfl,rfl⟩ ih_2
     rw [spec_l1Cur_someMaze.l1.eq_2] at hE_6
     refine Tri.seq (Tri.seq ?_)
     obtain ⟨y77,hE_7,hE_6⟩:=bind_some hE_6
     refine Tri.cut (fun e' C'=>e' = [(0,.pointer (some ⟨pa0,0,none⟩)),(1,.int .i64 a1),(4,.pointer (some ⟨b4_1,0,none⟩)),(5,.pointer (some ⟨b5_1,0,none⟩)),(6,.int .i64 (w64 (1 + t20_1))),(11,.int .i64 x11),(77,.bool y77)]∧C' = Sep w (footM [R.box pa0 114 [va0_0,.int .i64 a0_1,.int .u64 a0_2]]) [R.box pa0 114 [va0_0,.int .i64 xpa0_1r,.int .u64 xpa0_2r],R.box b5_1 27 [.int .i64 a1,wq5_1_1r,wq5_1_2],R.box b4_1 27 [.int .i64 0,.slice none 0 0,.slice none 0 0],R.sl Tq5_1_1r wq5_1_1r (xq5_1_1r : List (Int × Int × Int)),R.sl Tq5_1_2 wq5_1_2 (xq5_1_2 : List (Int))]) ?_ (fun hj_5=>?_)
     ·rintro _ _ ⟨rfl,rfl⟩
      refine Nrm.seq (Tri.cond (b:=y77) rfl (fun g_5=>?_) (fun g_5=>?_))
      ·replace hE_6:=if_tt g_5 hE_6
       refine Tri.skip (Nrm.seq (Tri.seq (Tri.block ?_)))
       refine Tri.seq ?_
       obtain ⟨⟨t82_1,t82_2,t82_3⟩,h82,hE_6⟩:=bind_some hE_6
       obtain ⟨⟨t85_1,t85_2,t85_3⟩,h85,hE_6⟩:=bind_some hE_6
       refine Tri.reg (l:=[0,1,2,3,4,5,6,7]) rfl ?_
       refine F.qn rfl (r_move rfl) (F.qn rfl (r_move rfl) ?_)
       refine F.efn rfl (d_callM (xs:=_) (cs:=[R.box pa0 114 [va0_0,.int .i64 xpa0_1r,.int .u64 xpa0_2r]]) (rest:=[R.box b5_1 27 [.int .i64 a1,wq5_1_1r,wq5_1_2],R.box b4_1 27 [.int .i64 0,.slice none 0 0,.slice none 0 0],R.sl Tq5_1_1r wq5_1_1r (xq5_1_1r : List (Int × Int × Int)),R.sl Tq5_1_2 wq5_1_2 (xq5_1_2 : List (Int))]) [0] [1,2,3,4] rfl ok115 rfl rfl rfl rfl (fun w hw=>spec_l1Cur_pick.ok h82 w (hr_a0_0.down hw) (Sep.sub hw))) ?_
       rintro _ _ ⟨_,⟨rfl,rfl⟩,rfl⟩
       refine F.qn rfl (r_move rfl) (F.qn rfl (r_move rfl) ?_)
       refine F.efn rfl (d_callM (xs:=_) (cs:=[R.box pa0 114 [va0_0,.int .i64 t82_2,.int .u64 t82_3]]) (rest:=[R.box b5_1 27 [.int .i64 a1,wq5_1_1r,wq5_1_2],R.box b4_1 27 [.int .i64 0,.slice none 0 0,.slice none 0 0],R.sl Tq5_1_1r wq5_1_1r (xq5_1_1r : List (Int × Int × Int)),R.sl Tq5_1_2 wq5_1_2 (xq5_1_2 : List (Int))]) [0] [1,2,3,4] rfl ok115 rfl rfl rfl rfl (fun w hw=>spec_l1Cur_pick.ok h85 w (hr_a0_0.down hw) (Sep.sub hw))) ?_
       rintro _ _ ⟨_,⟨rfl,rfl⟩,rfl⟩
       refine F.qn rfl (r_assign rfl) (F.qn rfl (r_assign rfl) (F.nil (Nrm.seq (Tri.seq (Tri.reg (l:=[0,1,2]) rfl ?_)))))
       refine F.qn rfl (r_move rfl) (F.qn rfl (r_move rfl) (F.qn rfl (r_neq rfl rfl) (F.nil (Nrm.seq ?_))))
       obtain ⟨⟨ypa0_1rr,ypa0_2rr,yb5_1_1r⟩,hE_8,hE_6⟩:=bind_some hE_6
       refine Tri.cut (fun e' C'=>∃ (vb5_1_1_2 : Value) (Sb5_1_1_2 : Nat → Prop),SlLen vb5_1_1_2 (yb5_1_1r).length∧e' = [(0,.pointer (some ⟨pa0,0,none⟩)),(1,.int .i64 a1),(4,.pointer (some ⟨b4_1,0,none⟩)),(5,.pointer (some ⟨b5_1,0,none⟩)),(6,.int .i64 (w64 (1 + t20_1))),(11,.int .i64 x11)]∧C' = Sep w (footM [R.box pa0 114 [va0_0,.int .i64 a0_1,.int .u64 a0_2]]) [R.box pa0 114 [va0_0,.int .i64 ypa0_1rr,.int .u64 ypa0_2rr],R.box b5_1 27 [.int .i64 a1,vb5_1_1_2,wq5_1_2],R.box b4_1 27 [.int .i64 0,.slice none 0 0,.slice none 0 0],R.sl Sb5_1_1_2 vb5_1_1_2 (yb5_1_1r : List (Int × Int × Int)),R.sl Tq5_1_2 wq5_1_2 (xq5_1_2 : List (Int))]) ?_ (fun hj_6=>?_)
       ·rintro _ _ ⟨vb5_1_1_2,Sb5_1_1_2,hl_vb5_1_1_2,rfl,rfl⟩
        refine Nrm.block ?_
        refine Nrm.seq (Tri.reg (l:=[0,1,2]) rfl ?_)
        refine F.qn rfl (r_move rfl) (F.qn rfl (r_sub rfl rfl) (F.qn rfl (r_assign rfl) (F.nil (Nrm.round ?_))))
        refine Rnd.only [0,1,4,5,6,11] rfl ?_
        refine Rnd.pick [0,1,2,3,4] rfl rfl ?_
        exact ih_2 _ _ ⟨w64 (x11 - 1),ypa0_1rr,ypa0_2rr,yb5_1_1r,vb5_1_1_2,Sb5_1_1_2,hE_6,hl_vb5_1_1_2,rfl,rfl⟩
       ·refine Tri.cond (b:=t82_1 != t85_1) rfl (fun g_6=>?_) (fun g_6=>?_)
        ·replace hE_8:=if_tt g_6 hE_8
         obtain ⟨⟨t95_1,t95_2,t95_3⟩,h95,hE_8⟩:=bind_some hE_8
         obtain ⟨t96,h96,hE_8⟩:=bind_some hE_8
         refine Tri.drawK (B:=Sep w (footM [R.box pa0 114 [va0_0,.int .i64 a0_1,.int .u64 a0_2]]) [R.box b5_1 27 [.int .i64 a1,wq5_1_1r,wq5_1_2],R.box b4_1 27 [.int .i64 0,.slice none 0 0,.slice none 0 0],R.sl Tq5_1_1r wq5_1_1r (xq5_1_1r : List (Int × Int × Int)),R.sl Tq5_1_2 wq5_1_2 (xq5_1_2 : List (Int))]) mixedT Sep.up [(0,true),(1,true),(2,true),(3,true),(4,true),(5,true),(6,false)] [7,8,9] (by kernel_rfl) ?_
         refine K.q [1,2,3,4] rfl rfl rfl rfl rfl (wanted_none rfl) (r_fieldAddr tf27_1 rfl) ?_
         refine K.q [1,2,3,4] rfl rfl rfl rfl rfl (wanted_none rfl) (r_load ta24 rfl (fun w hw=>cell_1 (box_cells (i:=0) rfl w hw) rfl)) ?_
         iterate 4 refine K.q [1,2,3,4] rfl rfl rfl rfl rfl (wanted_none rfl) (r_move rfl) ?_
         refine B.ef rfl rfl rfl (wanted_none rfl) (d_callM (xs:=_) (cs:=[R.box pa0 114 [va0_0,.int .i64 t85_2,.int .u64 t85_3]]) (rest:=[R.box b5_1 27 [.int .i64 a1,wq5_1_1r,wq5_1_2],R.box b4_1 27 [.int .i64 0,.slice none 0 0,.slice none 0 0],R.sl Tq5_1_1r wq5_1_1r (xq5_1_1r : List (Int × Int × Int)),R.sl Tq5_1_2 wq5_1_2 (xq5_1_2 : List (Int))]) [0] [1,2,3,4] rfl ok202 rfl rfl rfl rfl (fun w hw=>spec_l1Cur_few.ok h95 w (hr_a0_0.down hw) (Sep.sub hw))) (by rintro _ _ ⟨_,⟨rfl,rfl⟩,rfl⟩; exact upd rfl [1,2,3,4] rfl rfl) ?_
         rintro _ _ ⟨_,⟨rfl,rfl⟩,rfl⟩
         refine B.nil ?_
         refine F.efn rfl (d_callM (xs:=_) (cs:=[R.sl Tq5_1_1r wq5_1_1r (xq5_1_1r : List (Int × Int × Int))]) (rest:=[R.box pa0 114 [va0_0,.int .i64 t95_2,.int .u64 t95_3],R.box b5_1 27 [.int .i64 a1,wq5_1_1r,wq5_1_2],R.box b4_1 27 [.int .i64 0,.slice none 0 0,.slice none 0 0],R.sl Tq5_1_2 wq5_1_2 (xq5_1_2 : List (Int))]) [3] [0,1,2,4] rfl ok238 rfl rfl rfl rfl (fun w hw=>spec_l2Put.ok h96 w hl_wq5_1_1r (Sep.sub hw))) ?_
         rintro v96_2 _ ⟨_,⟨S96_2,hl_v96_2,rfl⟩,rfl⟩
         refine F.qn rfl (r_fieldAddr tf27_1 rfl) ?_
         refine F.ef0 rfl rfl (wanted_none rfl) (d_storeG1 (i:=2) (cs2:=[v96_2]) ti24 rfl rfl rfl (sl_cells hl_v96_2) rfl (Nat.le_of_ble_eq_true rfl) (lf_cons (sl_leaf hl_v96_2) lf_nil)) ?_
         rintro _ _ ⟨rfl,rfl⟩
         refine F.nil ?_
         cases hE_8
         refine Nrm.only [0,1,4,5,6,11] rfl ?_
         refine Nrm.pick [1,2,3,0,4] rfl rfl ?_
         exact hj_6 _ _ ⟨v96_2,S96_2,hl_v96_2,rfl,rfl⟩
        ·replace hE_8:=if_ff g_6 hE_8
         refine Tri.skip ?_
         cases hE_8
         refine Nrm.only [0,1,4,5,6,11] rfl ?_
         refine Nrm.pick [0,1,2,3,4] rfl rfl ?_
         exact hj_6 _ _ ⟨wq5_1_1r,Tq5_1_1r,hl_wq5_1_1r,rfl,rfl⟩
      ·replace hE_6:=if_ff g_5 hE_6
       refine Tri.exit ?_
       refine Exi.then ?_
       refine Exi.then ?_
       refine Exi.same ?_
       cases hE_6
       refine Nrm.seq (Tri.seq (Tri.seq ?_))
       obtain ⟨⟨t99_1,t99_2,t99_3⟩,h99,h⟩:=bind_some h
       refine Tri.reg (l:=[0,1]) rfl ?_
       refine F.qn rfl (r_move rfl) ?_
       refine F.efn rfl (d_callM (xs:=_) (cs:=[R.box pa0 114 [va0_0,.int .i64 xpa0_1r,.int .u64 xpa0_2r]]) (rest:=[R.box b5_1 27 [.int .i64 a1,wq5_1_1r,wq5_1_2],R.box b4_1 27 [.int .i64 0,.slice none 0 0,.slice none 0 0],R.sl Tq5_1_1r wq5_1_1r (xq5_1_1r : List (Int × Int × Int)),R.sl Tq5_1_2 wq5_1_2 (xq5_1_2 : List (Int))]) [0] [1,2,3,4] rfl ok115 rfl rfl rfl rfl (fun w hw=>spec_l1Cur_pick.ok h99 w (hr_a0_0.down hw) (Sep.sub hw))) ?_
       rintro _ _ ⟨_,⟨rfl,rfl⟩,rfl⟩
       refine F.nil (Nrm.seq (Tri.block ?_))
       refine Tri.seq (Tri.reg (l:=[0,1]) rfl ?_)
       refine F.qn rfl (r_eql rfl rfl) (F.qn rfl (r_assign rfl) (F.nil (Nrm.seq (Tri.cond (b:=t99_1 == 0) rfl (fun g_7=>?_) (fun g_7=>?_)))))
       ·replace h:=if_tt g_7 h
        obtain ⟨⟨t107_1,t107_2,t107_3⟩,h107,h⟩:=bind_some h
        refine Tri.reg (l:=[0,1,2,3,4,5,6,7]) rfl ?_
        refine F.qn rfl (r_move rfl) (F.qn rfl (r_fieldAddr tf27_0 rfl) (F.qn rfl (r_load ta3 rfl (fun w hw=>cell_1 (box_cells (i:=1) rfl w hw) rfl)) (F.qn rfl (r_add rfl rfl) ?_)))
        refine F.mn rfl (m_buildF (l:=([0,13,w64 (a1 + 1)] : List (Int))) Tryz.underlying25 ti3 rfl rfl rfl rfl rfl) ?_
        rintro v106_1 _ ⟨S106_1,hl_v106_1,rfl⟩
        refine F.efn rfl (d_callM (xs:=_) (cs:=[R.box pa0 114 [va0_0,.int .i64 t99_2,.int .u64 t99_3]]) (rest:=[R.sl S106_1 v106_1 (([0,13,w64 (a1 + 1)] : List (Int)) : List (Int)),R.box b5_1 27 [.int .i64 a1,wq5_1_1r,wq5_1_2],R.box b4_1 27 [.int .i64 0,.slice none 0 0,.slice none 0 0],R.sl Tq5_1_1r wq5_1_1r (xq5_1_1r : List (Int × Int × Int)),R.sl Tq5_1_2 wq5_1_2 (xq5_1_2 : List (Int))]) [1] [0,2,3,4,5] rfl ok194 rfl rfl rfl rfl (fun w hw=>spec_l1Cur_among.ok h107 w (hr_a0_0.down hw) (rdm_sl (i:=0) rfl hw) (Sep.sub hw))) ?_
        rintro _ _ ⟨_,⟨rfl,rfl⟩,rfl⟩
        refine F.qn rfl (r_fieldAddr tf27_0 rfl) ?_
        refine F.ef0 rfl rfl (wanted_none rfl) (d_storeG1 (i:=2) (cs2:=[.int .i64 t107_1]) ti3 rfl rfl rfl rfl rfl (Nat.le_of_ble_eq_true rfl) (lf_cons rfl lf_nil)) ?_
        rintro _ _ ⟨rfl,rfl⟩
        refine F.nil (Nrm.block ?_)
        refine Nrm.seq (Tri.seq (Tri.reg (l:=[0,1]) rfl ?_))
        refine F.qn rfl (r_loadA ta27 ti27 rfl rfl (fun w hw=>(box_cells (i:=2) rfl w hw))) ?_
        refine F.ef0 rfl rfl (wanted_none rfl) (d_storeG0 (i:=3) (cs2:=[.int .i64 t107_1,wq5_1_1r,wq5_1_2]) ti27 rfl rfl rfl rfl rfl (Nat.le_of_ble_eq_true rfl) (lf_cons rfl (lf_cons (sl_leaf hl_wq5_1_1r) (lf_cons (sl_leaf hl_wq5_1_2) lf_nil)))) ?_
        rintro _ _ ⟨rfl,rfl⟩
        refine F.nil (Nrm.seq (Tri.ret ?_))
        cases h
        exact Rtn.body (.cell rfl ta27 ti27 rfl (fun _ hw=>box_cells (i:=3) rfl _ hw) .nil) (fun w hw=>⟨_,_,rfl,⟨wq5_1_1r,Tq5_1_1r,wq5_1_2,Tq5_1_2,rfl,hl_wq5_1_1r,hl_wq5_1_2,rfl⟩,Sep.pick (is:=[4,5,0]) rfl rfl hw⟩)
       ·replace h:=if_ff g_7 h
        refine Tri.seq (Tri.reg (l:=[0,1]) rfl ?_)
        refine F.qn rfl (r_eql rfl rfl) (F.qn rfl (r_assign rfl) (F.nil (Nrm.seq (Tri.cond (b:=t99_1 == 1) rfl (fun g_8=>?_) (fun g_8=>?_)))))
        ·replace h:=if_tt g_8 h
         refine Tri.seq (Tri.reg (l:=[0,1,2,3]) rfl ?_)
         refine F.qn rfl (r_fieldAddr tf27_1 rfl) (F.qn rfl (r_load ta24 rfl (fun w hw=>cell_1 (box_cells (i:=1) rfl w hw) rfl)) (F.qn rfl (r_len Tryz.underlying24 rfl hl_wq5_1_1r) (F.qn rfl (r_gtr rfl rfl) (F.nil (Nrm.seq ?_)))))
         obtain ⟨⟨ypa0_1rrr,ypa0_2rrr,yb5_1_1rr⟩,hE_9,h⟩:=bind_some h
         refine Tri.cut (fun e' C'=>∃ (vb5_1_1_3 : Value) (Sb5_1_1_3 : Nat → Prop),SlLen vb5_1_1_3 (yb5_1_1rr).length∧e' = [(4,.pointer (some ⟨b4_1,0,none⟩)),(5,.pointer (some ⟨b5_1,0,none⟩))]∧C' = Sep w (footM [R.box pa0 114 [va0_0,.int .i64 a0_1,.int .u64 a0_2]]) [R.box pa0 114 [va0_0,.int .i64 ypa0_1rrr,.int .u64 ypa0_2rrr],R.box b5_1 27 [.int .i64 a1,vb5_1_1_3,wq5_1_2],R.box b4_1 27 [.int .i64 0,.slice none 0 0,.slice none 0 0],R.sl Sb5_1_1_3 vb5_1_1_3 (yb5_1_1rr : List (Int × Int × Int)),R.sl Tq5_1_2 wq5_1_2 (xq5_1_2 : List (Int))]) ?_ (fun hj_7=>?_)
         ·rintro _ _ ⟨vb5_1_1_3,Sb5_1_1_3,hl_vb5_1_1_3,rfl,rfl⟩
          refine Nrm.block ?_
          refine Nrm.seq (Tri.seq (Tri.reg (l:=[0,1]) rfl ?_))
          refine F.qn rfl (r_loadA ta27 ti27 rfl rfl (fun w hw=>(box_cells (i:=1) rfl w hw))) ?_
          refine F.ef0 rfl rfl (wanted_none rfl) (d_storeG0 (i:=2) (cs2:=[.int .i64 a1,vb5_1_1_3,wq5_1_2]) ti27 rfl rfl rfl rfl rfl (Nat.le_of_ble_eq_true rfl) (lf_cons rfl (lf_cons (sl_leaf hl_vb5_1_1_3) (lf_cons (sl_leaf hl_wq5_1_2) lf_nil)))) ?_
          rintro _ _ ⟨rfl,rfl⟩
          refine F.nil (Nrm.seq (Tri.ret ?_))
          cases h
          exact Rtn.body (.cell rfl ta27 ti27 rfl (fun _ hw=>box_cells (i:=2) rfl _ hw) .nil) (fun w hw=>⟨_,_,rfl,⟨vb5_1_1_3,Sb5_1_1_3,wq5_1_2,Tq5_1_2,rfl,hl_vb5_1_1_3,hl_wq5_1_2,rfl⟩,Sep.pick (is:=[3,4,0]) rfl rfl hw⟩)
         ·refine Tri.cond (b:=decide ((xq5_1_1r.length : Int) > 0)) rfl (fun g_9=>?_) (fun g_9=>?_)
          ·replace hE_9:=if_tt g_9 hE_9
           refine Tri.seq ?_
           obtain ⟨⟨t119_1,t119_2,t119_3⟩,h119,hE_9⟩:=bind_some hE_9
           refine Tri.reg (l:=[0,1,2,3,4,5]) rfl ?_
           refine F.qn rfl (r_move rfl) (F.qn rfl (r_fieldAddr tf27_1 rfl) (F.qn rfl (r_load ta24 rfl (fun w hw=>cell_1 (box_cells (i:=1) rfl w hw) rfl)) (F.qn rfl (r_len Tryz.underlying24 rfl hl_wq5_1_1r) ?_)))
           refine F.efn rfl (d_callM (xs:=_) (cs:=[R.box pa0 114 [va0_0,.int .i64 t99_2,.int .u64 t99_3]]) (rest:=[R.box b5_1 27 [.int .i64 a1,wq5_1_1r,wq5_1_2],R.box b4_1 27 [.int .i64 0,.slice none 0 0,.slice none 0 0],R.sl Tq5_1_1r wq5_1_1r (xq5_1_1r : List (Int × Int × Int)),R.sl Tq5_1_2 wq5_1_2 (xq5_1_2 : List (Int))]) [0] [1,2,3,4] rfl ok115 rfl rfl rfl rfl (fun w hw=>spec_l1Cur_pick.ok h119 w (hr_a0_0.down hw) (Sep.sub hw))) ?_
           rintro _ _ ⟨_,⟨rfl,rfl⟩,rfl⟩
           refine F.qn rfl (r_assign rfl) (F.nil (Nrm.seq ?_))
           obtain ⟨t126,h126,hE_9⟩:=bind_some hE_9
           obtain ⟨t132,h132,hE_9⟩:=bind_some hE_9
           obtain ⟨t136,h136,hE_9⟩:=bind_some hE_9
           refine Tri.drawA mixedT Sep.up [(0,true),(1,true),(2,true),(3,true),(4,true),(5,true),(6,true),(7,true),(8,true),(9,true),(10,true),(11,true),(12,true),(13,true),(14,true),(15,true),(16,true)] [17] (by kernel_rfl) ?_
           refine S.qn rfl (r_fieldAddr tf27_1 rfl) (S.qn rfl (r_load ta24 rfl (fun w hw=>cell_1 (box_cells (i:=1) rfl w hw) rfl)) ?_)
           refine S.qn rfl (r_move rfl) (S.qn rfl (r_fieldAddr tf27_1 rfl) (S.qn rfl (r_load ta24 rfl (fun w hw=>cell_1 (box_cells (i:=1) rfl w hw) rfl)) (S.qn rfl (r_move rfl) (S.qn rfl (r_indexAddrS Tryz.underlying24 ti168 rfl hl_wq5_1_1r rfl (rdl_some h126).1 (rdl_some h126).2.1) (S.qn rfl (r_indexAddrA Tryz.underlying168 ti3 rfl rfl (by decide) (by decide)) ?_)))))
           refine S.qn rfl (r_load ta3 rfl (fun w hw=>cell_1 (Rd.flat ((rd_sl (i:=3) rfl) w hw) (rdl_some h126).2.2) rfl)) (S.qn rfl (r_fieldAddr tf27_1 rfl) (S.qn rfl (r_load ta24 rfl (fun w hw=>cell_1 (box_cells (i:=1) rfl w hw) rfl)) (S.qn rfl (r_move rfl) (S.qn rfl (r_indexAddrS Tryz.underlying24 ti168 rfl hl_wq5_1_1r rfl (rdl_some h132).1 (rdl_some h132).2.1) (S.qn rfl (r_indexAddrA Tryz.underlying168 ti3 rfl rfl (by decide) (by decide)) ?_)))))
           refine S.qn rfl (r_load ta3 rfl (fun w hw=>cell_1 (Rd.flat ((rd_sl (i:=3) rfl) w hw) (rdl_some h132).2.2) rfl)) (S.qn rfl (r_buildA (qs:=[(0,[.int .i64 t126.2.1]),(1,[.int .i64 t132.1]),(2,[.int .i64 0])]) (cs:=[.int .i64 t126.2.1,.int .i64 t132.1,.int .i64 0]) Tryz.underlying168 ti3 ti168 rfl (.cons rfl rfl (Nat.le_of_ble_eq_true rfl) (.cons rfl rfl (Nat.le_of_ble_eq_true rfl) (.cons rfl rfl (Nat.le_of_ble_eq_true rfl) .nil))) rfl rfl) (S.qn rfl (r_indexAddrS Tryz.underlying24 ti168 rfl hl_wq5_1_1r rfl (rdl_some h136).1 (rdl_some h136).2.1) (S.nil (F.ef0 rfl rfl (wanted_none rfl) (d_storeE (i:=3) (x1:=(t126.2.1,t132.1,0)) ti168 rfl rfl rfl (rdl_some h136) rfl) ?_))))
           rintro _ _ ⟨rfl,rfl⟩
           refine F.nil ?_
           cases hE_9
           refine Nrm.only [4,5] rfl ?_
           refine Nrm.pick [0,1,2,3,4] rfl rfl ?_
           exact hj_7 _ _ ⟨wq5_1_1r,Tq5_1_1r,(len_set hl_wq5_1_1r),rfl,rfl⟩
          ·replace hE_9:=if_ff g_9 hE_9
           refine Tri.skip ?_
           cases hE_9
           refine Nrm.only [4,5] rfl ?_
           refine Nrm.pick [0,1,2,3,4] rfl rfl ?_
           exact hj_7 _ _ ⟨wq5_1_1r,Tq5_1_1r,hl_wq5_1_1r,rfl,rfl⟩
        ·replace h:=if_ff g_8 h
         refine Tri.seq (Tri.reg (l:=[0,1]) rfl ?_)
         refine F.qn rfl (r_eql rfl rfl) (F.qn rfl (r_assign rfl) (F.nil (Nrm.seq (Tri.cond (b:=t99_1 == 2) rfl (fun g_10=>?_) (fun g_10=>?_)))))
         ·replace h:=if_tt g_10 h
          refine Tri.seq (Tri.reg (l:=[0,1,2,3]) rfl ?_)
          refine F.qn rfl (r_fieldAddr tf27_2 rfl) (F.qn rfl (r_load ta25 rfl (fun w hw=>cell_1 (box_cells (i:=1) rfl w hw) rfl)) (F.qn rfl (r_len Tryz.underlying25 rfl hl_wq5_1_2) (F.qn rfl (r_gtr rfl rfl) (F.nil (Nrm.seq ?_)))))
          obtain ⟨⟨ypa0_1rrrr,ypa0_2rrrr,yb5_1_2⟩,hE_10,h⟩:=bind_some h
          refine Tri.cut (fun e' C'=>∃ (vb5_1_2_1 : Value) (Sb5_1_2_1 : Nat → Prop),SlLen vb5_1_2_1 (yb5_1_2).length∧e' = [(4,.pointer (some ⟨b4_1,0,none⟩)),(5,.pointer (some ⟨b5_1,0,none⟩))]∧C' = Sep w (footM [R.box pa0 114 [va0_0,.int .i64 a0_1,.int .u64 a0_2]]) [R.box pa0 114 [va0_0,.int .i64 ypa0_1rrrr,.int .u64 ypa0_2rrrr],R.box b5_1 27 [.int .i64 a1,wq5_1_1r,vb5_1_2_1],R.box b4_1 27 [.int .i64 0,.slice none 0 0,.slice none 0 0],R.sl Sb5_1_2_1 vb5_1_2_1 (yb5_1_2 : List (Int)),R.sl Tq5_1_1r wq5_1_1r (xq5_1_1r : List (Int × Int × Int))]) ?_ (fun hj_8=>?_)
          ·rintro _ _ ⟨vb5_1_2_1,Sb5_1_2_1,hl_vb5_1_2_1,rfl,rfl⟩
           refine Nrm.block ?_
           refine Nrm.seq (Tri.seq (Tri.reg (l:=[0,1]) rfl ?_))
           refine F.qn rfl (r_loadA ta27 ti27 rfl rfl (fun w hw=>(box_cells (i:=1) rfl w hw))) ?_
           refine F.ef0 rfl rfl (wanted_none rfl) (d_storeG0 (i:=2) (cs2:=[.int .i64 a1,wq5_1_1r,vb5_1_2_1]) ti27 rfl rfl rfl rfl rfl (Nat.le_of_ble_eq_true rfl) (lf_cons rfl (lf_cons (sl_leaf hl_wq5_1_1r) (lf_cons (sl_leaf hl_vb5_1_2_1) lf_nil)))) ?_
           rintro _ _ ⟨rfl,rfl⟩
           refine F.nil (Nrm.seq (Tri.ret ?_))
           cases h
           exact Rtn.body (.cell rfl ta27 ti27 rfl (fun _ hw=>box_cells (i:=2) rfl _ hw) .nil) (fun w hw=>⟨_,_,rfl,⟨wq5_1_1r,Tq5_1_1r,vb5_1_2_1,Sb5_1_2_1,rfl,hl_wq5_1_1r,hl_vb5_1_2_1,rfl⟩,Sep.pick (is:=[4,3,0]) rfl rfl hw⟩)
          ·refine Tri.cond (b:=decide ((xq5_1_2.length : Int) > 0)) rfl (fun g_11=>?_) (fun g_11=>?_)
           ·replace hE_10:=if_tt g_11 hE_10
            obtain ⟨⟨ypa0_1rrrr,ypa0_2rrrr,yb5_1_2⟩,hE_11,hE_10⟩:=bind_some hE_10
            refine Tri.cut (fun e' C'=>∃ (vb5_1_2_2 : Value) (Sb5_1_2_2 : Nat → Prop),SlLen vb5_1_2_2 (yb5_1_2).length∧e' = [(4,.pointer (some ⟨b4_1,0,none⟩)),(5,.pointer (some ⟨b5_1,0,none⟩))]∧C' = Sep w (footM [R.box pa0 114 [va0_0,.int .i64 a0_1,.int .u64 a0_2]]) [R.box pa0 114 [va0_0,.int .i64 ypa0_1rrrr,.int .u64 ypa0_2rrrr],R.box b5_1 27 [.int .i64 a1,wq5_1_1r,vb5_1_2_2],R.box b4_1 27 [.int .i64 0,.slice none 0 0,.slice none 0 0],R.sl Sb5_1_2_2 vb5_1_2_2 (yb5_1_2 : List (Int)),R.sl Tq5_1_1r wq5_1_1r (xq5_1_1r : List (Int × Int × Int))]) ?_ (fun hj_9=>?_)
            ·rintro _ _ ⟨vb5_1_2_2,Sb5_1_2_2,hl_vb5_1_2_2,rfl,rfl⟩
             cases hE_10
             refine Nrm.only [4,5] rfl ?_
             refine Nrm.pick [0,1,2,3,4] rfl rfl ?_
             exact hj_8 _ _ ⟨vb5_1_2_2,Sb5_1_2_2,hl_vb5_1_2_2,rfl,rfl⟩
            ·obtain ⟨⟨t149_1,t149_2,t149_3⟩,h149,hE_11⟩:=bind_some hE_11
             obtain ⟨⟨t152_1,t152_2,t152_3⟩,h152,hE_11⟩:=bind_some hE_11
             obtain ⟨t153,h153,hE_11⟩:=bind_some hE_11
             refine Tri.drawTK (B:=Sep w (footM [R.box pa0 114 [va0_0,.int .i64 a0_1,.int .u64 a0_2]]) [R.box b5_1 27 [.int .i64 a1,wq5_1_1r,wq5_1_2],R.box b4_1 27 [.int .i64 0,.slice none 0 0,.slice none 0 0],R.sl Tq5_1_1r wq5_1_1r (xq5_1_1r : List (Int × Int × Int)),R.sl Tq5_1_2 wq5_1_2 (xq5_1_2 : List (Int))]) mixedT Sep.up [0,1,2,3,4,5,7,6,8,9] [10,11] (.q 0 (.q 1 (.q 2 (.q 3 (.q 4 (.q 5 (.q 7 (.alt 6 (.alt 8 (.alt 9 .nil .stop) .stop) (.alt 8 (.alt 6 (.alt 9 .nil .stop) .stop) .stop))))))))) (by kernel_rfl) ?_
             refine TK.q [1,2,3,4] rfl rfl rfl rfl rfl (wanted_none rfl) (r_fieldAddr tf27_2 rfl) ?_
             refine TK.q [1,2,3,4] rfl rfl rfl rfl rfl (wanted_none rfl) (r_load ta25 rfl (fun w hw=>cell_1 (box_cells (i:=0) rfl w hw) rfl)) ?_
             refine TK.q [1,2,3,4] rfl rfl rfl rfl rfl (wanted_none rfl) (r_move rfl) ?_
             refine TK.q [1,2,3,4] rfl rfl rfl rfl rfl (wanted_none rfl) (r_fieldAddr tf27_2 rfl) ?_
             refine TK.q [1,2,3,4] rfl rfl rfl rfl rfl (wanted_none rfl) (r_load ta25 rfl (fun w hw=>cell_1 (box_cells (i:=0) rfl w hw) rfl)) ?_
             refine TK.q [1,2,3,4] rfl rfl rfl rfl rfl (wanted_none rfl) (r_len Tryz.underlying25 rfl hl_wq5_1_2) ?_
             refine TK.q [1,2,3,4] rfl rfl rfl rfl rfl (wanted_none rfl) (r_move rfl) ?_
             refine T.ef rfl rfl rfl (wanted_none rfl) (d_callM (xs:=_) (cs:=[R.box pa0 114 [va0_0,.int .i64 t99_2,.int .u64 t99_3]]) (rest:=[R.box b5_1 27 [.int .i64 a1,wq5_1_1r,wq5_1_2],R.box b4_1 27 [.int .i64 0,.slice none 0 0,.slice none 0 0],R.sl Tq5_1_1r wq5_1_1r (xq5_1_1r : List (Int × Int × Int)),R.sl Tq5_1_2 wq5_1_2 (xq5_1_2 : List (Int))]) [0] [1,2,3,4] rfl ok115 rfl rfl rfl rfl (fun w hw=>spec_l1Cur_pick.ok h149 w (hr_a0_0.down hw) (Sep.sub hw))) (by rintro _ _ ⟨_,⟨rfl,rfl⟩,rfl⟩; exact upd rfl [1,2,3,4] rfl rfl) ?_ ?_
             ·rintro _ _ ⟨_,⟨rfl,rfl⟩,rfl⟩
              refine T.ef rfl rfl rfl (wanted_none rfl) (Makes.does (m_buildF (l:=([64,(-1),63] : List (Int))) Tryz.underlying25 ti3 rfl rfl rfl rfl rfl)) (by rintro v151_2 _ ⟨S151_2,hl_v151_2,rfl⟩; exact upd rfl [2,3,4,5] rfl rfl) ?_ ?_
              ·rintro v151_2 _ ⟨S151_2,hl_v151_2,rfl⟩
               refine T.ef rfl rfl rfl (wanted_none rfl) (d_callM (xs:=_) (cs:=[R.box pa0 114 [va0_0,.int .i64 t149_2,.int .u64 t149_3]]) (rest:=[R.sl S151_2 v151_2 (([64,(-1),63] : List (Int)) : List (Int)),R.box b5_1 27 [.int .i64 a1,wq5_1_1r,wq5_1_2],R.box b4_1 27 [.int .i64 0,.slice none 0 0,.slice none 0 0],R.sl Tq5_1_1r wq5_1_1r (xq5_1_1r : List (Int × Int × Int)),R.sl Tq5_1_2 wq5_1_2 (xq5_1_2 : List (Int))]) [1] [0,2,3,4,5] rfl ok194 rfl rfl rfl rfl (fun w hw=>spec_l1Cur_among.ok h152 w (hr_a0_0.down hw) (rdm_sl (i:=0) rfl hw) (Sep.sub hw))) (by rintro _ _ ⟨_,⟨rfl,rfl⟩,rfl⟩; exact upd rfl [2,3,4,5] rfl rfl) ?_ ?_
               ·rintro _ _ ⟨_,⟨rfl,rfl⟩,rfl⟩
                refine T.nil ?_
                refine F.qn rfl (r_indexAddrS Tryz.underlying25 ti3 rfl hl_wq5_1_2 rfl (rdl_some h153).1 (rdl_some h153).2.1) ?_
                refine F.ef0 rfl rfl (wanted_none rfl) (d_storeE (i:=5) (x1:=t152_1) ti3 rfl rfl rfl (rdl_some h153) rfl) ?_
                rintro _ _ ⟨rfl,rfl⟩
                refine F.nil ?_
                cases hE_11
                refine Nrm.only [4,5] rfl ?_
                refine Nrm.pick [0,2,3,5,4] rfl rfl ?_
                exact hj_9 _ _ ⟨wq5_1_2,Tq5_1_2,(len_set hl_wq5_1_2),rfl,rfl⟩
               exact T.stop
              exact T.stop
             ·refine T.ef rfl rfl rfl (wanted_none rfl) (Makes.does (m_buildF (l:=([64,(-1),63] : List (Int))) Tryz.underlying25 ti3 rfl rfl rfl rfl rfl)) (by rintro v151_3 _ ⟨S151_3,hl_v151_3,rfl⟩; exact upd rfl [2,3,4,5] rfl rfl) ?_ ?_
              ·rintro v151_3 _ ⟨S151_3,hl_v151_3,rfl⟩
               refine T.ef rfl rfl rfl (wanted_none rfl) (d_callM (xs:=_) (cs:=[R.box pa0 114 [va0_0,.int .i64 t99_2,.int .u64 t99_3]]) (rest:=[R.sl S151_3 v151_3 (([64,(-1),63] : List (Int)) : List (Int)),R.box b5_1 27 [.int .i64 a1,wq5_1_1r,wq5_1_2],R.box b4_1 27 [.int .i64 0,.slice none 0 0,.slice none 0 0],R.sl Tq5_1_1r wq5_1_1r (xq5_1_1r : List (Int × Int × Int)),R.sl Tq5_1_2 wq5_1_2 (xq5_1_2 : List (Int))]) [1] [0,2,3,4,5] rfl ok115 rfl rfl rfl rfl (fun w hw=>spec_l1Cur_pick.ok h149 w (hr_a0_0.down hw) (Sep.sub hw))) (by rintro _ _ ⟨_,⟨rfl,rfl⟩,rfl⟩; exact upd rfl [2,3,4,5] rfl rfl) ?_ ?_
               ·rintro _ _ ⟨_,⟨rfl,rfl⟩,rfl⟩
                refine T.ef rfl rfl rfl (wanted_none rfl) (d_callM (xs:=_) (cs:=[R.box pa0 114 [va0_0,.int .i64 t149_2,.int .u64 t149_3]]) (rest:=[R.sl S151_3 v151_3 (([64,(-1),63] : List (Int)) : List (Int)),R.box b5_1 27 [.int .i64 a1,wq5_1_1r,wq5_1_2],R.box b4_1 27 [.int .i64 0,.slice none 0 0,.slice none 0 0],R.sl Tq5_1_1r wq5_1_1r (xq5_1_1r : List (Int × Int × Int)),R.sl Tq5_1_2 wq5_1_2 (xq5_1_2 : List (Int))]) [0] [1,2,3,4,5] rfl ok194 rfl rfl rfl rfl (fun w hw=>spec_l1Cur_among.ok h152 w (hr_a0_0.down hw) (rdm_sl (i:=0) rfl hw) (Sep.sub hw))) (by rintro _ _ ⟨_,⟨rfl,rfl⟩,rfl⟩; exact upd rfl [2,3,4,5] rfl rfl) ?_ ?_
                ·rintro _ _ ⟨_,⟨rfl,rfl⟩,rfl⟩
                 refine T.nil ?_
                 refine F.qn rfl (r_indexAddrS Tryz.underlying25 ti3 rfl hl_wq5_1_2 rfl (rdl_some h153).1 (rdl_some h153).2.1) ?_
                 refine F.ef0 rfl rfl (wanted_none rfl) (d_storeE (i:=5) (x1:=t152_1) ti3 rfl rfl rfl (rdl_some h153) rfl) ?_
                 rintro _ _ ⟨rfl,rfl⟩
                 refine F.nil ?_
                 cases hE_11
                 refine Nrm.only [4,5] rfl ?_
                 refine Nrm.pick [0,2,3,5,4] rfl rfl ?_
                 exact hj_9 _ _ ⟨wq5_1_2,Tq5_1_2,(len_set hl_wq5_1_2),rfl,rfl⟩
                exact T.stop
               exact T.stop
              exact T.stop
           ·replace hE_10:=if_ff g_11 hE_10
            refine Tri.skip ?_
            cases hE_10
            refine Nrm.only [4,5] rfl ?_
            refine Nrm.pick [0,1,2,4,3] rfl rfl ?_
            exact hj_8 _ _ ⟨wq5_1_2,Tq5_1_2,hl_wq5_1_2,rfl,rfl⟩
         ·replace h:=if_ff g_10 h
          refine Tri.seq (Tri.reg (l:=[0,1]) rfl ?_)
          refine F.qn rfl (r_eql rfl rfl) (F.qn rfl (r_assign rfl) (F.nil (Nrm.seq (Tri.cond (b:=t99_1 == 3) rfl (fun g_12=>?_) (fun g_12=>?_)))))
          ·replace h:=if_tt g_12 h
           refine Tri.seq (Tri.reg (l:=[0,1,2,3]) rfl ?_)
           refine F.qn rfl (r_fieldAddr tf27_1 rfl) (F.qn rfl (r_load ta24 rfl (fun w hw=>cell_1 (box_cells (i:=1) rfl w hw) rfl)) (F.qn rfl (r_len Tryz.underlying24 rfl hl_wq5_1_1r) (F.qn rfl (r_gtr rfl rfl) (F.nil (Nrm.seq ?_)))))
           obtain ⟨yb5_1_1rrr,hE_12,h⟩:=bind_some h
           refine Tri.cut (fun e' C'=>∃ (vb5_1_1_4 : Value) (Sb5_1_1_4 : Nat → Prop),SlLen vb5_1_1_4 (yb5_1_1rrr).length∧e' = [(4,.pointer (some ⟨b4_1,0,none⟩)),(5,.pointer (some ⟨b5_1,0,none⟩))]∧C' = Sep w (footM [R.box pa0 114 [va0_0,.int .i64 a0_1,.int .u64 a0_2]]) [R.box pa0 114 [va0_0,.int .i64 t99_2,.int .u64 t99_3],R.box b5_1 27 [.int .i64 a1,vb5_1_1_4,wq5_1_2],R.box b4_1 27 [.int .i64 0,.slice none 0 0,.slice none 0 0],R.sl Sb5_1_1_4 vb5_1_1_4 (yb5_1_1rrr : List (Int × Int × Int)),R.sl Tq5_1_2 wq5_1_2 (xq5_1_2 : List (Int))]) ?_ (fun hj_10=>?_)
           ·rintro _ _ ⟨vb5_1_1_4,Sb5_1_1_4,hl_vb5_1_1_4,rfl,rfl⟩
            refine Nrm.block ?_
            refine Nrm.seq (Tri.seq (Tri.reg (l:=[0,1]) rfl ?_))
            refine F.qn rfl (r_loadA ta27 ti27 rfl rfl (fun w hw=>(box_cells (i:=1) rfl w hw))) ?_
            refine F.ef0 rfl rfl (wanted_none rfl) (d_storeG0 (i:=2) (cs2:=[.int .i64 a1,vb5_1_1_4,wq5_1_2]) ti27 rfl rfl rfl rfl rfl (Nat.le_of_ble_eq_true rfl) (lf_cons rfl (lf_cons (sl_leaf hl_vb5_1_1_4) (lf_cons (sl_leaf hl_wq5_1_2) lf_nil)))) ?_
            rintro _ _ ⟨rfl,rfl⟩
            refine F.nil (Nrm.seq (Tri.ret ?_))
            cases h
            exact Rtn.body (.cell rfl ta27 ti27 rfl (fun _ hw=>box_cells (i:=2) rfl _ hw) .nil) (fun w hw=>⟨_,_,rfl,⟨vb5_1_1_4,Sb5_1_1_4,wq5_1_2,Tq5_1_2,rfl,hl_vb5_1_1_4,hl_wq5_1_2,rfl⟩,Sep.pick (is:=[3,4,0]) rfl rfl hw⟩)
           ·refine Tri.cond (b:=decide ((xq5_1_1r.length : Int) > 0)) rfl (fun g_13=>?_) (fun g_13=>?_)
            ·replace hE_12:=if_tt g_13 hE_12
             obtain ⟨t164,h164,hE_12⟩:=bind_some hE_12
             obtain ⟨hs167,hE_12⟩:=ck hE_12
             refine Tri.drawA mixedT Sep.up [(0,true),(1,true),(2,true),(3,true),(4,true),(5,true),(6,false)] [7,8,9] (by kernel_rfl) ?_
             refine S.qn rfl (r_fieldAddr tf27_1 rfl) (S.qn rfl (r_load ta24 rfl (fun w hw=>cell_1 (box_cells (i:=1) rfl w hw) rfl)) (S.qn rfl (r_fieldAddr tf27_1 rfl) (S.qn rfl (r_load ta24 rfl (fun w hw=>cell_1 (box_cells (i:=1) rfl w hw) rfl)) (S.qn rfl (r_indexAddrS Tryz.underlying24 ti168 rfl hl_wq5_1_1r rfl (rdl_some h164).1 (rdl_some h164).2.1) (S.qn rfl (r_loadA ta168 ti168 rfl rfl (fun w hw=>(Rd.flat ((rd_sl (i:=3) rfl) w hw) (rdl_some h164).2.2))) ?_)))))
             refine S.m rfl rfl rfl (wanted_none rfl) (m_buildF (l:=([t164] : List (Int × Int × Int))) Tryz.underlying24 ti168 rfl rfl rfl rfl rfl) ?_
             rintro v166_2 _ ⟨S166_2,hl_v166_2,rfl⟩
             refine S.nil (F.efn rfl (d_append (i:=4) Tryz.underlying24 Tryz.underlying24 ti168 rfl (by decide) rfl rfl rfl (rd_sl (i:=0) rfl) hs167) ?_)
             rintro v167_2 _ ⟨S167_2,rfl,hl_v167_2⟩
             refine F.qn rfl (r_fieldAddr tf27_1 rfl) ?_
             refine F.ef0 rfl rfl (wanted_none rfl) (d_storeG1 (i:=2) (cs2:=[v167_2]) ti24 rfl rfl rfl (sl_cells hl_v167_2) rfl (Nat.le_of_ble_eq_true rfl) (lf_cons (sl_leaf hl_v167_2) lf_nil)) ?_
             rintro _ _ ⟨rfl,rfl⟩
             refine F.nil ?_
             cases hE_12
             refine Nrm.only [4,5] rfl ?_
             refine Nrm.pick [1,2,3,4,5] rfl rfl ?_
             exact hj_10 _ _ ⟨v167_2,S167_2,hl_v167_2,rfl,rfl⟩
            ·replace hE_12:=if_ff g_13 hE_12
             refine Tri.skip ?_
             cases hE_12
             refine Nrm.only [4,5] rfl ?_
             refine Nrm.pick [0,1,2,3,4] rfl rfl ?_
             exact hj_10 _ _ ⟨wq5_1_1r,Tq5_1_1r,hl_wq5_1_1r,rfl,rfl⟩
          ·replace h:=if_ff g_12 h
           refine Tri.seq (Tri.reg (l:=[0,1]) rfl ?_)
           refine F.qn rfl (r_eql rfl rfl) (F.qn rfl (r_assign rfl) (F.nil (Nrm.seq (Tri.cond (b:=t99_1 == 4) rfl (fun g_14=>?_) (fun g_14=>?_)))))
           ·replace h:=if_tt g_14 h
            refine Tri.seq (Tri.reg (l:=[0,1]) rfl ?_)
            refine F.qn rfl (r_build (pl:=[(0,1),(1,1),(2,1)]) (qs:=[]) (cs:=[.int .i64 0,.slice none 0 0,.slice none 0 0]) (by kernel_rfl) ti27 rfl .nil rfl rfl) ?_
            refine F.ef0 rfl rfl (wanted_none rfl) (d_storeG0 (i:=2) (cs2:=[.int .i64 0,.slice none 0 0,.slice none 0 0]) ti27 rfl rfl rfl rfl rfl (Nat.le_of_ble_eq_true rfl) (lf_cons rfl (lf_cons rfl (lf_cons rfl lf_nil)))) ?_
            rintro _ _ ⟨rfl,rfl⟩
            refine F.nil (Nrm.seq (Tri.ret ?_))
            refine Rtn.block ?_
            refine Rtn.then ?_
            cases h
            exact Rtn.body (.cell rfl ta27 ti27 rfl (fun _ hw=>box_cells (i:=2) rfl _ hw) .nil) (fun w hw=>⟨_,_,rfl,⟨.slice none 0 0,fun _=>False,.slice none 0 0,fun _=>False,rfl,len_nil,len_nil,rfl⟩,Sep.pick (is:=[0,1,2]) rfl rfl hw.pushNil.pushNil⟩)
           ·replace h:=if_ff g_14 h
            refine Tri.skip (Nrm.block ?_)
            refine Nrm.seq (Tri.seq (Tri.reg (l:=[0,1]) rfl ?_))
            refine F.qn rfl (r_loadA ta27 ti27 rfl rfl (fun w hw=>(box_cells (i:=1) rfl w hw))) ?_
            refine F.ef0 rfl rfl (wanted_none rfl) (d_storeG0 (i:=2) (cs2:=[.int .i64 a1,wq5_1_1r,wq5_1_2]) ti27 rfl rfl rfl rfl rfl (Nat.le_of_ble_eq_true rfl) (lf_cons rfl (lf_cons (sl_leaf hl_wq5_1_1r) (lf_cons (sl_leaf hl_wq5_1_2) lf_nil)))) ?_
            rintro _ _ ⟨rfl,rfl⟩
            refine F.nil (Nrm.seq (Tri.ret ?_))
            cases h
            exact Rtn.body (.cell rfl ta27 ti27 rfl (fun _ hw=>box_cells (i:=2) rfl _ hw) .nil) (fun w hw=>⟨_,_,rfl,⟨wq5_1_1r,Tq5_1_1r,wq5_1_2,Tq5_1_2,rfl,hl_wq5_1_1r,hl_wq5_1_2,rfl⟩,Sep.pick (is:=[3,4,0]) rfl rfl hw⟩)
     ·rcases Bool.eq_false_or_eq_true (decide (x11 > 0)) with g70 | g70
      ·replace hE_7:=if_tt g70 hE_7
       rcases Bool.eq_false_or_eq_true (decide (a1 > 1)) with g74 | g74
       ·replace hE_7:=if_tt g74 hE_7
        refine Tri.reg (l:=[0,1,2,3,4,5,6,7,8,9]) rfl ?_
        refine F.qn rfl (r_move rfl) (F.qn rfl (r_gtr rfl rfl) (F.qn rfl (r_move rfl) (F.qg rfl g70 (r_move rfl) ?_)))
        refine F.qg rfl g70 (r_gtr rfl rfl) (F.qn rfl (r_pick rfl rfl g70) (F.qn rfl (r_move rfl) (F.qg rfl g74 (r_move rfl) (F.qg rfl g74 (r_lss rfl rfl) (F.qn rfl (r_pick rfl rfl g74) (F.nil ?_))))))
        cases hE_7
        refine Nrm.only [0,1,4,5,6,11,77] rfl ?_
        refine Nrm.pick [0,1,2,3,4] rfl rfl ?_
        exact hj_5 _ _ ⟨rfl,rfl⟩
       ·replace hE_7:=if_ff g74 hE_7
        refine Tri.reg (l:=[0,1,2,3,4,5,6,7,8,9]) rfl ?_
        refine F.qn rfl (r_move rfl) (F.qn rfl (r_gtr rfl rfl) (F.qn rfl (r_move rfl) (F.qg rfl g70 (r_move rfl) ?_)))
        refine F.qg rfl g70 (r_gtr rfl rfl) (F.qn rfl (r_pick rfl rfl g70) (F.qn rfl (r_move rfl) (F.skf rfl g74 (F.skf rfl g74 (F.qn rfl (r_pickf rfl rfl g74) (F.nil ?_))))))
        cases hE_7
        refine Nrm.only [0,1,4,5,6,11,77] rfl ?_
        refine Nrm.pick [0,1,2,3,4] rfl rfl ?_
        exact hj_5 _ _ ⟨rfl,rfl⟩
      ·replace hE_7:=if_ff g70 hE_7
       refine Tri.reg (l:=[0,1,2,3,4,5,6,7,8,9]) rfl ?_
       refine F.qn rfl (r_move rfl) (F.qn rfl (r_gtr rfl rfl) (F.qn rfl (r_move rfl) (F.skf rfl g70 ?_)))
       refine F.skf rfl g70 (F.qn rfl (r_pickf rfl rfl g70) (F.qn rfl (r_move rfl) (F.skf rfl rfl (F.skf rfl rfl (F.qn rfl (r_pickf rfl rfl rfl) (F.nil ?_))))))
       cases hE_7
       refine Nrm.only [0,1,4,5,6,11,77] rfl ?_
       refine Nrm.pick [0,1,2,3,4] rfl rfl ?_
       exact hj_5 _ _ ⟨rfl,rfl⟩
  ·rcases Bool.eq_false_or_eq_true (decide (x8 < a1)) with g25 | g25
   ·replace hE_2:=if_tt g25 hE_2
    refine Tri.reg (l:=[0,1,2,3,4,5,6]) rfl ?_
    refine F.qn rfl (r_move rfl) ?_
    refine F.qn rfl (r_move rfl) (F.qn rfl (r_lss rfl rfl) (F.qn rfl (r_move rfl) (F.qg rfl g25 (r_move rfl) (F.qg rfl g25 (r_lss rfl rfl) (F.qn rfl (r_pick rfl rfl g25) (F.nil ?_))))))
    cases hE_2
    refine Nrm.only [0,1,4,5,6,7,8,28] rfl ?_
    refine Nrm.pick [0,1,2,4,3] rfl rfl ?_
    exact hj_1 _ _ ⟨rfl,rfl⟩
   ·replace hE_2:=if_ff g25 hE_2
    refine Tri.reg (l:=[0,1,2,3,4,5,6]) rfl ?_
    refine F.qn rfl (r_move rfl) ?_
    refine F.qn rfl (r_move rfl) (F.qn rfl (r_lss rfl rfl) (F.qn rfl (r_move rfl) (F.skf rfl g25 (F.skf rfl g25 (F.qn rfl (r_pickf rfl rfl g25) (F.nil ?_))))))
    cases hE_2
    refine Nrm.only [0,1,4,5,6,7,8,28] rfl ?_
    refine Nrm.pick [0,1,2,4,3] rfl rfl ?_
    exact hj_1 _ _ ⟨rfl,rfl⟩


def spec_l1Cur_worlds.l1 (k : Nat) (a0_0 : List By) (t14_1 : Int) (t24_1 : Int) : Nat → (List (Int)) → Int → Int → Int → Option (Int × Int × (List (Int)))
 | 0,_,_,_,_=>none
 | n + 1,x7,x8,xpa0_1r,xpa0_2r=>((if (decide (x8 < t24_1)) = true then some (decide (x8 < 13)) else some false)).bind fun y33=>(if y33 = true then (spec_l1Cur_pick.f k a0_0 xpa0_1r xpa0_2r t14_1).bind fun (t39_1,t39_2,t39_3)=>if (x7 ++ ([t39_1] : List (Int))).length < 1099511627776 then spec_l1Cur_worlds.l1 k a0_0 t14_1 t24_1 n (x7 ++ ([t39_1] : List (Int))) (w64 (x8 + 1)) t39_2 t39_3 else none else some (xpa0_1r,xpa0_2r,x7))

def spec_l1Cur_worlds.l2 (k : Nat) : Nat → (List (Int × List (Int × Int × Int) × List Int)) → (List (List Int)) → Option ((List (Int × List (Int × Int × Int) × List Int)) × (List (List Int)))
 | 0,_,_=>none
 | n + 1,xq3_1_0r,xq3_1_1r=>(if (decide ((xq3_1_0r.length : Int) < 4)) = true then if ((xq3_1_0r : List (Int × List (Int × Int × Int) × List Int)) ++ ([(1,[],([0] : List (Int)))] : List (Int × List (Int × Int × Int) × List Int))).length < 1099511627776 then if ((xq3_1_1r : List (List Int)) ++ ([([0] : List (Int))] : List (List Int))).length < 1099511627776 then spec_l1Cur_worlds.l2 k n ((xq3_1_0r : List (Int × List (Int × Int × Int) × List Int)) ++ ([(1,[],([0] : List (Int)))] : List (Int × List (Int × Int × Int) × List Int))) ((xq3_1_1r : List (List Int)) ++ ([([0] : List (Int))] : List (List Int))) else none else none else some (xq3_1_0r,xq3_1_1r))

def spec_l1Cur_worlds.l0 (k : Nat) (a0_0 : List By) (t14_1 : Int) : Nat → Int → (List (Int × List (Int × Int × Int) × List Int)) → (List (List Int)) → Int → Int → Option (Int × Int × (List (Int × List (Int × Int × Int) × List Int)) × (List (List Int)))
 | 0,_,_,_,_,_=>none
 | n + 1,x5,xq3_1_0,xq3_1_1,xpa0_1,xpa0_2=>(if (decide (x5 < t14_1)) = true then (spec_l1Cur_among.f k a0_0 xpa0_1 xpa0_2 ([4,5,3,6,2,1] : List (Int))).bind fun (t23_1,t23_2,t23_3)=>(spec_l1Cur_someMaze.f k a0_0 t23_2 t23_3 t23_1).bind fun (t24_1,t24_2,t24_3,t24_4,t24_5)=>(spec_l1Cur_worlds.l1 k a0_0 t14_1 t24_1 k ([] : List (Int)) 0 t24_4 t24_5).bind fun (xpa0_1r,xpa0_2r,x7)=>if ((xq3_1_0 : List (Int × List (Int × Int × Int) × List Int)) ++ ([(t24_1,t24_2,t24_3)] : List (Int × List (Int × Int × Int) × List Int))).length < 1099511627776 then if ((xq3_1_1 : List (List Int)) ++ ([x7] : List (List Int))).length < 1099511627776 then spec_l1Cur_worlds.l0 k a0_0 t14_1 n (w64 (x5 + 1)) ((xq3_1_0 : List (Int × List (Int × Int × Int) × List Int)) ++ ([(t24_1,t24_2,t24_3)] : List (Int × List (Int × Int × Int) × List Int))) ((xq3_1_1 : List (List Int)) ++ ([x7] : List (List Int))) xpa0_1r xpa0_2r else none else none else some (xpa0_1,xpa0_2,xq3_1_0,xq3_1_1))

def spec_l1Cur_worlds.f (k : Nat) (a0_0 : List By) (a0_1 : Int) (a0_2 : Int) : Option ((List (Int × List (Int × Int × Int) × List Int)) × (List (List Int)) × Int × Int) := (spec_l1Cur_among.f k a0_0 a0_1 a0_2 ([2, 3, 2, 1, 3] : List (Int))).bind fun (t14_1, t14_2, t14_3) => (spec_l1Cur_worlds.l0 k a0_0 t14_1 k 0 ([] : List (Int × List (Int × Int × Int) × List Int)) ([] : List (List Int)) t14_2 t14_3).bind fun (xpa0_1, xpa0_2, xq3_1_0, xq3_1_1) => (spec_l1Cur_pick.f k a0_0 xpa0_1 xpa0_2 50).bind fun (t55_1, t55_2, t55_3) => (if (t55_1 == 0) = true then (slc xq3_1_1 1 (xq3_1_1.length : Int)).bind fun t60 => some (xq3_1_0, t60, t55_2, t55_3) else (if (t55_1 == 1) = true then (rdl (xq3_1_1 : List (List Int)) 0).bind fun t66 => ((if (decide ((t66.length : Int) > 0)) = true then (rdl ((xq3_1_1 : List (List Int)).set (0 : Int).toNat t66 : List (List Int)) 0).bind fun t72 => (spec_l1Cur_among.f k a0_0 t55_2 t55_3 ([(-1), t14_1, 0] : List (Int))).bind fun (t77_1, t77_2, t77_3) => (rdl t72 0).bind fun t78 => some (t77_2, t77_3, ((xq3_1_1 : List (List Int)).set (0 : Int).toNat t66 : List (List Int)).set (0 : Int).toNat (t72.set (0 : Int).toNat t77_1)) else some (t55_2, t55_3, (xq3_1_1 : List (List Int)).set (0 : Int).toNat t66))).bind fun (ypa0_1, ypa0_2, yb3_1_1) => some (xq3_1_0, yb3_1_1, ypa0_1, ypa0_2) else (if (t55_1 == 2) = true then (rdl (xq3_1_1 : List (List Int)) 0).bind fun t85 => if (t85 ++ ([0] : List (Int))).length < 1099511627776 then some (xq3_1_0, (xq3_1_1 : List (List Int)).set (0 : Int).toNat (t85 ++ ([0] : List (Int))), t55_2, t55_3) else none else (if (t55_1 == 3) = true then (spec_l1Cur_worlds.l2 k k xq3_1_0 xq3_1_1).bind fun (xq3_1_0r, xq3_1_1r) => some (xq3_1_0r, xq3_1_1r, t55_2, t55_3) else (if (t55_1 == 4) = true then some ([], [], t55_2, t55_3) else some (xq3_1_0, xq3_1_1, t55_2, t55_3))))))

theorem spec_l1Cur_worlds.ok {k : Nat}  {a0_0 : List By} {a0_1 : Int} {a0_2 : Int} {r0 : List (Int × List (Int × Int × Int) × List Int)} {r1 : List (List Int)} {r2 : Int} {r3 : Int} (h : spec_l1Cur_worlds.f k a0_0 a0_1 a0_2 = some (r0, r1, r2, r3)) (w : World) {pa0 : Nat} {va0_0 : Value} (hr_a0_0 : RdM w (footM [R.box pa0 114 [va0_0, .int .i64 a0_1, .int .u64 a0_2]]) va0_0 a0_0) (hw0 : Sep w (footM [R.box pa0 114 [va0_0, .int .i64 a0_1, .int .u64 a0_2]]) [R.box pa0 114 [va0_0, .int .i64 a0_1, .int .u64 a0_2]] w) :
  Calls Tryz.prog 154 ([.pointer (some ⟨pa0,0,none⟩)] : List Value).toArray w (PostM (footM [R.box pa0 114 [va0_0,.int .i64 a0_1,.int .u64 a0_2]]) (fun u ns=>∃ (ur0 : Value) (Sr0 : Nat → Prop) (ur1 : Value) (Sr1 : Nat → Prop),u = .agg [ur0,ur1].toArray∧SlLen ur0 r0.length∧SlLen ur1 r1.length∧ns = [R.sl Sr0 ur0 r0,R.sl Sr1 ur1 r1,R.box pa0 114 [va0_0,.int .i64 r2,.int .u64 r3]]) w):=by
 unfold spec_l1Cur_worlds.f at h
 have hl_va0_0:=hr_a0_0.len
 refine Calls.of_tri (N:=113) Tryz.func154 rfl rfl rfl hw0 ?_
 refine Tri.seq (Tri.reg (l:=[0]) rfl ?_)
 refine F.mn rfl (m_alloc ti88) ?_
 rintro _ _ ⟨b2_1,rfl,rfl⟩
 refine F.nil (Nrm.seq (Tri.seq ?_))
 obtain ⟨⟨t14_1,t14_2,t14_3⟩,h14,h⟩:=bind_some h
 refine Tri.reg (l:=[0,1,2,3,4,5,6,7,8]) rfl ?_
 refine F.mn rfl (m_build0 (α:=Int × List (Int × Int × Int) × List Int) Tryz.underlying85 ti27) ?_
 rintro v9_1 _ ⟨S9_1,hl_v9_1,rfl⟩
 refine F.mn rfl (m_build0 (α:=List Int) Tryz.underlying86 ti25) ?_
 rintro v10_1 _ ⟨S10_1,hl_v10_1,rfl⟩
 refine F.qn rfl (r_build (pl:=[(0,1),(1,1)]) (qs:=[(0,[v9_1]),(1,[v10_1])]) (cs:=[v9_1,v10_1]) (by kernel_rfl) ti88 rfl (.cons (sl_cells hl_v9_1) rfl (Nat.le_of_ble_eq_true rfl) (.cons (sl_cells hl_v10_1) rfl (Nat.le_of_ble_eq_true rfl) .nil)) rfl rfl) (F.qn rfl (r_move rfl) ?_)
 refine F.mn rfl (m_buildF (l:=([2,3,2,1,3] : List (Int))) Tryz.underlying25 ti3 rfl rfl rfl rfl rfl) ?_
 rintro v13_1 _ ⟨S13_1,hl_v13_1,rfl⟩
 refine F.efn rfl (d_callM (xs:=_) (cs:=[R.box pa0 114 [va0_0,.int .i64 a0_1,.int .u64 a0_2]]) (rest:=[R.sl S13_1 v13_1 (([2,3,2,1,3] : List (Int)) : List (Int)),R.sl S10_1 v10_1 (([] : List (List Int)) : List (List Int)),R.sl S9_1 v9_1 (([] : List (Int × List (Int × Int × Int) × List Int)) : List (Int × List (Int × Int × Int) × List Int)),R.box b2_1 88 [.slice none 0 0,.slice none 0 0]]) [4] [0,1,2,3] rfl ok194 rfl rfl rfl rfl (fun w hw=>spec_l1Cur_among.ok h14 w (hr_a0_0.down hw) (rdm_sl (i:=0) rfl hw) (Sep.sub hw))) ?_
 rintro _ _ ⟨_,⟨rfl,rfl⟩,rfl⟩
 refine F.mn rfl (m_alloc ti88) ?_
 rintro _ _ ⟨b3_1,rfl,rfl⟩
 refine F.ef0 rfl rfl (wanted_none rfl) (d_storeG0 (i:=0) (cs2:=[v9_1,v10_1]) ti88 rfl rfl rfl rfl rfl (Nat.le_of_ble_eq_true rfl) (lf_cons (sl_leaf hl_v9_1) (lf_cons (sl_leaf hl_v10_1) lf_nil))) ?_
 rintro _ _ ⟨rfl,rfl⟩
 refine F.qn rfl (r_assign rfl) (F.nil (Nrm.seq (Tri.seq (Tri.seq (Tri.reg (l:=[0]) rfl ?_)))))
 refine F.qn rfl (r_assign rfl) (F.nil (Nrm.seq ?_))
 obtain ⟨⟨xpa0_1,xpa0_2,xq3_1_0,xq3_1_1⟩,hE_1,h⟩:=bind_some h
 refine Tri.block ?_
 refine Tri.only [0,2,3,4,5] rfl ?_
 refine Tri.pick [0,1,5,3,4] rfl rfl ?_
 refine Tri.rounds (fun n e' C'=>∃ (x5' : Int) (xq3_1_0' : List (Int × List (Int × Int × Int) × List Int)) (xq3_1_1' : List (List Int)) (xpa0_1' : Int) (xpa0_2' : Int) (wq3_1_0 : Value) (Tq3_1_0 : Nat → Prop) (wq3_1_1 : Value) (Tq3_1_1 : Nat → Prop),spec_l1Cur_worlds.l0 k a0_0 t14_1 n x5' xq3_1_0' xq3_1_1' xpa0_1' xpa0_2' = some (xpa0_1,xpa0_2,xq3_1_0,xq3_1_1)∧SlLen wq3_1_0 (xq3_1_0').length∧SlLen wq3_1_1 (xq3_1_1').length∧e' = [(0,.pointer (some ⟨pa0,0,none⟩)),(2,.pointer (some ⟨b2_1,0,none⟩)),(3,.pointer (some ⟨b3_1,0,none⟩)),(4,.int .i64 t14_1),(5,.int .i64 x5')]∧C' = Sep w (footM [R.box pa0 114 [va0_0,.int .i64 a0_1,.int .u64 a0_2]]) [R.box b3_1 88 [wq3_1_0,wq3_1_1],R.box pa0 114 [va0_0,.int .i64 xpa0_1',.int .u64 xpa0_2'],R.box b2_1 88 [.slice none 0 0,.slice none 0 0],R.sl Tq3_1_1 wq3_1_1 (xq3_1_1' : List (List Int)),R.sl Tq3_1_0 wq3_1_0 (xq3_1_0' : List (Int × List (Int × Int × Int) × List Int))]) k ?_ ?_ ?_
 ·exact ⟨0,([] : List (Int × List (Int × Int × Int) × List Int)),([] : List (List Int)),t14_2,t14_3,v9_1,S9_1,v10_1,S10_1,hE_1,hl_v9_1,hl_v10_1,rfl,rfl⟩
 ·rintro _ _ ⟨_,_,_,_,_,_,_,_,_,hE_1,_⟩
  rw [spec_l1Cur_worlds.l0.eq_1] at hE_1; cases hE_1
 ·rintro n_1 _ _ ⟨x5,xq3_1_0,xq3_1_1,xpa0_1,xpa0_2,wq3_1_0,Tq3_1_0,wq3_1_1,Tq3_1_1,hE_1,hl_wq3_1_0,hl_wq3_1_1,rfl,rfl⟩ ih_1
  rw [spec_l1Cur_worlds.l0.eq_2] at hE_1
  refine Tri.seq (Tri.seq (Tri.reg (l:=[0,1,2]) rfl ?_))
  refine F.qn rfl (r_move rfl) (F.qn rfl (r_move rfl) (F.qn rfl (r_lss rfl rfl) (F.nil (Nrm.seq (Tri.cond (b:=decide (x5 < t14_1)) rfl (fun g_1=>?_) (fun g_1=>?_))))))
  ·replace hE_1:=if_tt g_1 hE_1
   refine Tri.skip (Nrm.seq (Tri.seq (Tri.block ?_)))
   refine Tri.seq ?_
   obtain ⟨⟨t23_1,t23_2,t23_3⟩,h23,hE_1⟩:=bind_some hE_1
   obtain ⟨⟨t24_1,t24_2,t24_3,t24_4,t24_5⟩,h24,hE_1⟩:=bind_some hE_1
   refine Tri.reg (l:=[0,1,2,3,4,5,6]) rfl ?_
   refine F.qn rfl (r_move rfl) (F.qn rfl (r_move rfl) ?_)
   refine F.mn rfl (m_buildF (l:=([4,5,3,6,2,1] : List (Int))) Tryz.underlying25 ti3 rfl rfl rfl rfl rfl) ?_
   rintro v22_1 _ ⟨S22_1,hl_v22_1,rfl⟩
   refine F.efn rfl (d_callM (xs:=_) (cs:=[R.box pa0 114 [va0_0,.int .i64 xpa0_1,.int .u64 xpa0_2]]) (rest:=[R.sl S22_1 v22_1 (([4,5,3,6,2,1] : List (Int)) : List (Int)),R.box b3_1 88 [wq3_1_0,wq3_1_1],R.box b2_1 88 [.slice none 0 0,.slice none 0 0],R.sl Tq3_1_1 wq3_1_1 (xq3_1_1 : List (List Int)),R.sl Tq3_1_0 wq3_1_0 (xq3_1_0 : List (Int × List (Int × Int × Int) × List Int))]) [2] [0,1,3,4,5] rfl ok194 rfl rfl rfl rfl (fun w hw=>spec_l1Cur_among.ok h23 w (hr_a0_0.down hw) (rdm_sl (i:=0) rfl hw) (Sep.sub hw))) ?_
   rintro _ _ ⟨_,⟨rfl,rfl⟩,rfl⟩
   refine F.efn rfl (d_callM (xs:=_) (cs:=[R.box pa0 114 [va0_0,.int .i64 t23_2,.int .u64 t23_3]]) (rest:=[R.sl S22_1 v22_1 (([4,5,3,6,2,1] : List (Int)) : List (Int)),R.box b3_1 88 [wq3_1_0,wq3_1_1],R.box b2_1 88 [.slice none 0 0,.slice none 0 0],R.sl Tq3_1_1 wq3_1_1 (xq3_1_1 : List (List Int)),R.sl Tq3_1_0 wq3_1_0 (xq3_1_0 : List (Int × List (Int × Int × Int) × List Int))]) [0] [1,2,3,4,5] rfl ok193 rfl rfl rfl rfl (fun w hw=>spec_l1Cur_someMaze.ok h24 w (hr_a0_0.down hw) (Sep.sub hw))) ?_
   rintro _ _ ⟨_,⟨v24_1,S24_1,v24_2,S24_2,rfl,hl_v24_1,hl_v24_2,rfl⟩,rfl⟩
   refine F.mn rfl (m_alloc ti27) ?_
   rintro _ _ ⟨b6_1,rfl,rfl⟩
   refine F.ef0 rfl rfl (wanted_none rfl) (d_storeG0 (i:=0) (cs2:=[.int .i64 t24_1,v24_1,v24_2]) ti27 rfl rfl rfl rfl rfl (Nat.le_of_ble_eq_true rfl) (lf_cons rfl (lf_cons (sl_leaf hl_v24_1) (lf_cons (sl_leaf hl_v24_2) lf_nil)))) ?_
   rintro _ _ ⟨rfl,rfl⟩
   refine F.nil (Nrm.seq (Tri.seq (Tri.reg (l:=[0,1]) rfl ?_)))
   refine F.mn rfl (m_build0 (α:=Int) Tryz.underlying25 ti3) ?_
   rintro v25_1 _ ⟨S25_1,hl_v25_1,rfl⟩
   refine F.qn rfl (r_assign rfl) (F.nil (Nrm.seq (Tri.seq (Tri.seq (Tri.reg (l:=[0]) rfl ?_)))))
   refine F.qn rfl (r_assign rfl) (F.nil (Nrm.seq ?_))
   obtain ⟨⟨xpa0_1r,xpa0_2r,x7⟩,hE_2,hE_1⟩:=bind_some hE_1
   refine Tri.block ?_
   refine Tri.only [0,2,3,4,5,6,7,8] rfl ?_
   refine Tri.pick [1,4,6,7,0,2,3,8,9] rfl rfl ?_
   refine Tri.rounds (fun n e' C'=>∃ (x7' : List (Int)) (x8' : Int) (xpa0_1r' : Int) (xpa0_2r' : Int) (w7 : Value) (T7 : Nat → Prop),spec_l1Cur_worlds.l1 k a0_0 t14_1 t24_1 n x7' x8' xpa0_1r' xpa0_2r' = some (xpa0_1r,xpa0_2r,x7)∧SlLen w7 (x7').length∧e' = [(0,.pointer (some ⟨pa0,0,none⟩)),(2,.pointer (some ⟨b2_1,0,none⟩)),(3,.pointer (some ⟨b3_1,0,none⟩)),(4,.int .i64 t14_1),(5,.int .i64 x5),(6,.pointer (some ⟨b6_1,0,none⟩)),(7,w7),(8,.int .i64 x8')]∧C' = Sep w (footM [R.box pa0 114 [va0_0,.int .i64 a0_1,.int .u64 a0_2]]) [R.box b6_1 27 [.int .i64 t24_1,v24_1,v24_2],R.box pa0 114 [va0_0,.int .i64 xpa0_1r',.int .u64 xpa0_2r'],R.box b3_1 88 [wq3_1_0,wq3_1_1],R.box b2_1 88 [.slice none 0 0,.slice none 0 0],R.sl T7 w7 (x7' : List (Int)),R.sl S24_1 v24_1 (t24_2 : List (Int × Int × Int)),R.sl S24_2 v24_2 (t24_3 : List (Int)),R.sl Tq3_1_1 wq3_1_1 (xq3_1_1 : List (List Int)),R.sl Tq3_1_0 wq3_1_0 (xq3_1_0 : List (Int × List (Int × Int × Int) × List Int))]) k ?_ ?_ ?_
   ·exact ⟨([] : List (Int)),0,t24_4,t24_5,v25_1,S25_1,hE_2,hl_v25_1,rfl,rfl⟩
   ·rintro _ _ ⟨_,_,_,_,_,_,hE_2,_⟩
    rw [spec_l1Cur_worlds.l1.eq_1] at hE_2; cases hE_2
   ·rintro n_2 _ _ ⟨x7,x8,xpa0_1r,xpa0_2r,w7,T7,hE_2,hl_w7,rfl,rfl⟩ ih_2
    rw [spec_l1Cur_worlds.l1.eq_2] at hE_2
    refine Tri.seq (Tri.seq ?_)
    obtain ⟨y33,hE_3,hE_2⟩:=bind_some hE_2
    refine Tri.cut (fun e' C'=>e' = [(0,.pointer (some ⟨pa0,0,none⟩)),(2,.pointer (some ⟨b2_1,0,none⟩)),(3,.pointer (some ⟨b3_1,0,none⟩)),(4,.int .i64 t14_1),(5,.int .i64 x5),(6,.pointer (some ⟨b6_1,0,none⟩)),(7,w7),(8,.int .i64 x8),(33,.bool y33)]∧C' = Sep w (footM [R.box pa0 114 [va0_0,.int .i64 a0_1,.int .u64 a0_2]]) [R.box b6_1 27 [.int .i64 t24_1,v24_1,v24_2],R.box pa0 114 [va0_0,.int .i64 xpa0_1r,.int .u64 xpa0_2r],R.box b3_1 88 [wq3_1_0,wq3_1_1],R.box b2_1 88 [.slice none 0 0,.slice none 0 0],R.sl S24_1 v24_1 (t24_2 : List (Int × Int × Int)),R.sl S24_2 v24_2 (t24_3 : List (Int)),R.sl T7 w7 (x7 : List (Int)),R.sl Tq3_1_0 wq3_1_0 (xq3_1_0 : List (Int × List (Int × Int × Int) × List Int)),R.sl Tq3_1_1 wq3_1_1 (xq3_1_1 : List (List Int))]) ?_ (fun hj_1=>?_)
    ·rintro _ _ ⟨rfl,rfl⟩
     refine Nrm.seq (Tri.cond (b:=y33) rfl (fun g_2=>?_) (fun g_2=>?_))
     ·replace hE_2:=if_tt g_2 hE_2
      refine Tri.skip (Nrm.seq (Tri.seq (Tri.block ?_)))
      obtain ⟨⟨t39_1,t39_2,t39_3⟩,h39,hE_2⟩:=bind_some hE_2
      obtain ⟨hs41,hE_2⟩:=ck hE_2
      refine Tri.reg (l:=[0,1,2,3,4,5,6]) rfl ?_
      iterate 3 refine F.qn rfl (r_move rfl) ?_
      refine F.efn rfl (d_callM (xs:=_) (cs:=[R.box pa0 114 [va0_0,.int .i64 xpa0_1r,.int .u64 xpa0_2r]]) (rest:=[R.box b6_1 27 [.int .i64 t24_1,v24_1,v24_2],R.box b3_1 88 [wq3_1_0,wq3_1_1],R.box b2_1 88 [.slice none 0 0,.slice none 0 0],R.sl S24_1 v24_1 (t24_2 : List (Int × Int × Int)),R.sl S24_2 v24_2 (t24_3 : List (Int)),R.sl T7 w7 (x7 : List (Int)),R.sl Tq3_1_0 wq3_1_0 (xq3_1_0 : List (Int × List (Int × Int × Int) × List Int)),R.sl Tq3_1_1 wq3_1_1 (xq3_1_1 : List (List Int))]) [1] [0,2,3,4,5,6,7,8] rfl ok115 rfl rfl rfl rfl (fun w hw=>spec_l1Cur_pick.ok h39 w (hr_a0_0.down hw) (Sep.sub hw))) ?_
      rintro _ _ ⟨_,⟨rfl,rfl⟩,rfl⟩
      refine F.mn rfl (m_buildF (l:=([t39_1] : List (Int))) Tryz.underlying25 ti3 rfl rfl rfl rfl rfl) ?_
      rintro v40_1 _ ⟨S40_1,hl_v40_1,rfl⟩
      refine F.efn rfl (d_append (i:=7) Tryz.underlying25 Tryz.underlying25 ti3 rfl (by decide) rfl rfl rfl (rd_sl (i:=0) rfl) hs41) ?_
      rintro v41_1 _ ⟨S41_1,rfl,hl_v41_1⟩
      refine F.qn rfl (r_assign rfl) (F.nil (Nrm.block ?_))
      refine Nrm.seq (Tri.reg (l:=[0,1,2]) rfl ?_)
      refine F.qn rfl (r_move rfl) (F.qn rfl (r_add rfl rfl) (F.qn rfl (r_assign rfl) (F.nil (Nrm.round ?_))))
      refine Rnd.only [0,2,3,4,5,6,7,8] rfl ?_
      refine Rnd.pick [2,1,3,4,7,5,6,9,8] rfl rfl ?_
      exact ih_2 _ _ ⟨x7 ++ ([t39_1] : List (Int)),w64 (x8 + 1),t39_2,t39_3,v41_1,S41_1,hE_2,hl_v41_1,rfl,rfl⟩
     ·replace hE_2:=if_ff g_2 hE_2
      refine Tri.exit ?_
      refine Exi.then ?_
      refine Exi.then ?_
      refine Exi.same ?_
      cases hE_2
      refine Nrm.seq (Tri.seq ?_)
      obtain ⟨hs46,hE_1⟩:=ck hE_1
      refine Tri.reg (l:=[0,1,2,3,4,5,6]) rfl ?_
      refine F.qn rfl (r_fieldAddr tf88_0 rfl) (F.qn rfl (r_load ta85 rfl (fun w hw=>cell_1 (box_cells (i:=2) rfl w hw) rfl)) (F.qn rfl (r_loadA ta27 ti27 rfl rfl (fun w hw=>(box_cells (i:=0) rfl w hw))) ?_))
      refine F.efn rfl (d_build1 (cells:=[.int .i64 t24_1,v24_1,v24_2]) (x0:=((t24_1,t24_2,t24_3) : Int × List (Int × Int × Int) × List Int)) (cs:=[R.sl S24_1 v24_1 (t24_2 : List (Int × Int × Int)),R.sl S24_2 v24_2 (t24_3 : List (Int))]) (rest:=[R.box b6_1 27 [.int .i64 t24_1,v24_1,v24_2],R.box pa0 114 [va0_0,.int .i64 xpa0_1r,.int .u64 xpa0_2r],R.box b3_1 88 [wq3_1_0,wq3_1_1],R.box b2_1 88 [.slice none 0 0,.slice none 0 0],R.sl T7 w7 (x7 : List (Int)),R.sl Tq3_1_0 wq3_1_0 (xq3_1_0 : List (Int × List (Int × Int × Int) × List Int)),R.sl Tq3_1_1 wq3_1_1 (xq3_1_1 : List (List Int))]) [4,5] [0,1,2,3,6,7,8] Tryz.underlying85 ti27 rfl rfl rfl (lf_cons rfl (lf_cons (sl_leaf hl_v24_1) (lf_cons (sl_leaf hl_v24_2) lf_nil))) rfl rfl (jn_pair (jn_int (n:=t24_1)) (jn_pair (jn_sl (S:=S24_1) (v:=v24_1) (l:=(t24_2 : List (Int × Int × Int)))) (jn_sl (S:=S24_2) (v:=v24_2) (l:=(t24_3 : List (Int))))))) ?_
      rintro v45_1 _ ⟨S45_1,hl_v45_1,rfl⟩
      refine F.efn rfl (d_appendN (rest:=[R.box b6_1 27 [.int .i64 t24_1,v24_1,v24_2],R.box pa0 114 [va0_0,.int .i64 xpa0_1r,.int .u64 xpa0_2r],R.box b3_1 88 [wq3_1_0,wq3_1_1],R.box b2_1 88 [.slice none 0 0,.slice none 0 0],R.sl T7 w7 (x7 : List (Int)),R.sl Tq3_1_1 wq3_1_1 (xq3_1_1 : List (List Int))]) 6 0 [1,2,3,4,5,7] Tryz.underlying85 Tryz.underlying85 ti27 rfl (by decide) rfl rfl rfl rfl hs46) ?_
      rintro v46_1 _ ⟨S46_1,hl_v46_1,rfl⟩
      refine F.qn rfl (r_fieldAddr tf88_0 rfl) ?_
      refine F.ef0 rfl rfl (wanted_none rfl) (d_storeG1 (i:=3) (cs2:=[v46_1]) ti85 rfl rfl rfl (sl_cells hl_v46_1) rfl (Nat.le_of_ble_eq_true rfl) (lf_cons (sl_leaf hl_v46_1) lf_nil)) ?_
      rintro _ _ ⟨rfl,rfl⟩
      refine F.nil (Nrm.seq ?_)
      obtain ⟨hs52,hE_1⟩:=ck hE_1
      refine Tri.reg (l:=[0,1,2,3,4,5,6]) rfl ?_
      refine F.qn rfl (r_fieldAddr tf88_1 rfl) (F.qn rfl (r_load ta86 rfl (fun w hw=>cell_1 (box_cells (i:=3) rfl w hw) rfl)) (F.qn rfl (r_move rfl) ?_))
      refine F.efn rfl (d_build1 (cells:=[w7]) (x0:=(x7 : List Int)) (cs:=[R.sl T7 w7 (x7 : List (Int))]) (rest:=[R.sl S46_1 v46_1 ((xq3_1_0 : List (Int × List (Int × Int × Int) × List Int)) ++ ([(t24_1,t24_2,t24_3)] : List (Int × List (Int × Int × Int) × List Int)) : List (Int × List (Int × Int × Int) × List Int)),R.box b6_1 27 [.int .i64 t24_1,v24_1,v24_2],R.box pa0 114 [va0_0,.int .i64 xpa0_1r,.int .u64 xpa0_2r],R.box b3_1 88 [v46_1,wq3_1_1],R.box b2_1 88 [.slice none 0 0,.slice none 0 0],R.sl Tq3_1_1 wq3_1_1 (xq3_1_1 : List (List Int))]) [5] [0,1,2,3,4,6] Tryz.underlying86 ti25 rfl (sl_cells hl_w7) rfl (lf_cons (sl_leaf hl_w7) lf_nil) rfl rfl (jn_sl (S:=T7) (v:=w7) (l:=(x7 : List (Int))))) ?_
      rintro v51_1 _ ⟨S51_1,hl_v51_1,rfl⟩
      refine F.efn rfl (d_appendN (rest:=[R.sl S46_1 v46_1 ((xq3_1_0 : List (Int × List (Int × Int × Int) × List Int)) ++ ([(t24_1,t24_2,t24_3)] : List (Int × List (Int × Int × Int) × List Int)) : List (Int × List (Int × Int × Int) × List Int)),R.box b6_1 27 [.int .i64 t24_1,v24_1,v24_2],R.box pa0 114 [va0_0,.int .i64 xpa0_1r,.int .u64 xpa0_2r],R.box b3_1 88 [v46_1,wq3_1_1],R.box b2_1 88 [.slice none 0 0,.slice none 0 0]]) 6 0 [1,2,3,4,5] Tryz.underlying86 Tryz.underlying86 ti25 rfl (by decide) rfl rfl rfl rfl hs52) ?_
      rintro v52_1 _ ⟨S52_1,hl_v52_1,rfl⟩
      refine F.qn rfl (r_fieldAddr tf88_1 rfl) ?_
      refine F.ef0 rfl rfl (wanted_none rfl) (d_storeG1 (i:=4) (cs2:=[v52_1]) ti86 rfl rfl rfl (sl_cells hl_v52_1) rfl (Nat.le_of_ble_eq_true rfl) (lf_cons (sl_leaf hl_v52_1) lf_nil)) ?_
      rintro _ _ ⟨rfl,rfl⟩
      refine F.nil (Nrm.block ?_)
      refine Nrm.seq (Tri.reg (l:=[0,1,2]) rfl ?_)
      refine F.qn rfl (r_move rfl) (F.qn rfl (r_add rfl rfl) (F.qn rfl (r_assign rfl) (F.nil (Nrm.round ?_))))
      refine Rnd.only [0,2,3,4,5] rfl ?_
      refine Rnd.pick [4,3,5,0,1] rfl rfl ?_
      exact ih_1 _ _ ⟨w64 (x5 + 1),(xq3_1_0 : List (Int × List (Int × Int × Int) × List Int)) ++ ([(t24_1,t24_2,t24_3)] : List (Int × List (Int × Int × Int) × List Int)),(xq3_1_1 : List (List Int)) ++ ([x7] : List (List Int)),xpa0_1r,xpa0_2r,v46_1,S46_1,v52_1,S52_1,hE_1,hl_v46_1,hl_v52_1,rfl,rfl⟩
    ·rcases Bool.eq_false_or_eq_true (decide (x8 < t24_1)) with g30 | g30
     ·replace hE_3:=if_tt g30 hE_3
      refine Tri.reg (l:=[0,1,2,3,4,5,6,7]) rfl ?_
      refine F.qn rfl (r_move rfl) (F.qn rfl (r_fieldAddr tf27_0 rfl) ?_)
      refine F.qn rfl (r_load ta3 rfl (fun w hw=>cell_1 (box_cells (i:=0) rfl w hw) rfl)) (F.qn rfl (r_lss rfl rfl) (F.qn rfl (r_move rfl) (F.qg rfl g30 (r_move rfl) (F.qg rfl g30 (r_lss rfl rfl) (F.qn rfl (r_pick rfl rfl g30) (F.nil ?_))))))
      cases hE_3
      refine Nrm.only [0,2,3,4,5,6,7,8,33] rfl ?_
      refine Nrm.pick [0,1,2,3,5,6,4,8,7] rfl rfl ?_
      exact hj_1 _ _ ⟨rfl,rfl⟩
     ·replace hE_3:=if_ff g30 hE_3
      refine Tri.reg (l:=[0,1,2,3,4,5,6,7]) rfl ?_
      refine F.qn rfl (r_move rfl) (F.qn rfl (r_fieldAddr tf27_0 rfl) ?_)
      refine F.qn rfl (r_load ta3 rfl (fun w hw=>cell_1 (box_cells (i:=0) rfl w hw) rfl)) (F.qn rfl (r_lss rfl rfl) (F.qn rfl (r_move rfl) (F.skf rfl g30 (F.skf rfl g30 (F.qn rfl (r_pickf rfl rfl g30) (F.nil ?_))))))
      cases hE_3
      refine Nrm.only [0,2,3,4,5,6,7,8,33] rfl ?_
      refine Nrm.pick [0,1,2,3,5,6,4,8,7] rfl rfl ?_
      exact hj_1 _ _ ⟨rfl,rfl⟩
  ·replace hE_1:=if_ff g_1 hE_1
   refine Tri.exit ?_
   refine Exi.then ?_
   refine Exi.then ?_
   refine Exi.same ?_
   cases hE_1
   refine Nrm.seq (Tri.seq (Tri.seq ?_))
   obtain ⟨⟨t55_1,t55_2,t55_3⟩,h55,h⟩:=bind_some h
   refine Tri.reg (l:=[0,1]) rfl ?_
   refine F.qn rfl (r_move rfl) ?_
   refine F.efn rfl (d_callM (xs:=_) (cs:=[R.box pa0 114 [va0_0,.int .i64 xpa0_1,.int .u64 xpa0_2]]) (rest:=[R.box b3_1 88 [wq3_1_0,wq3_1_1],R.box b2_1 88 [.slice none 0 0,.slice none 0 0],R.sl Tq3_1_1 wq3_1_1 (xq3_1_1 : List (List Int)),R.sl Tq3_1_0 wq3_1_0 (xq3_1_0 : List (Int × List (Int × Int × Int) × List Int))]) [1] [0,2,3,4] rfl ok115 rfl rfl rfl rfl (fun w hw=>spec_l1Cur_pick.ok h55 w (hr_a0_0.down hw) (Sep.sub hw))) ?_
   rintro _ _ ⟨_,⟨rfl,rfl⟩,rfl⟩
   refine F.nil (Nrm.seq (Tri.block ?_))
   refine Tri.seq (Tri.reg (l:=[0,1]) rfl ?_)
   refine F.qn rfl (r_eql rfl rfl) (F.qn rfl (r_assign rfl) (F.nil (Nrm.seq (Tri.cond (b:=t55_1 == 0) rfl (fun g_3=>?_) (fun g_3=>?_)))))
   ·replace h:=if_tt g_3 h
    obtain ⟨t60,h60,h⟩:=bind_some h
    refine Tri.reg (l:=[0,1,2,3,4]) rfl ?_
    refine F.qn rfl (r_fieldAddr tf88_1 rfl) (F.qn rfl (r_load ta86 rfl (fun w hw=>cell_1 (box_cells (i:=1) rfl w hw) rfl)) (F.qn rfl (r_sliceL Tryz.underlying86 ti25 rfl (rd_sl (i:=3) rfl) rfl h60) (F.qn rfl (r_fieldAddr tf88_1 rfl) ?_)))
    refine F.ef0 rfl rfl (wanted_none rfl) (d_storeG1 (i:=1) (cs2:=[(slSub wq3_1_1 1 (1 : Int).toNat (xq3_1_1.length : Int).toNat)]) ti86 rfl rfl rfl (sl_cells (slc_len hl_wq3_1_1 h60)) rfl (Nat.le_of_ble_eq_true rfl) (lf_cons (sl_leaf (slc_len hl_wq3_1_1 h60)) lf_nil)) ?_
    rintro _ _ ⟨rfl,rfl⟩
    refine F.nil (Nrm.imp (fun w hw=>Sep.resl (i:=3) rfl h60 hw) ?_)
    refine Nrm.block ?_
    refine Nrm.seq (Tri.seq (Tri.reg (l:=[0,1]) rfl ?_))
    refine F.qn rfl (r_loadA ta88 ti88 rfl rfl (fun w hw=>(box_cells (i:=1) rfl w hw))) ?_
    refine F.ef0 rfl rfl (wanted_none rfl) (d_storeG0 (i:=2) (cs2:=[wq3_1_0,(slSub wq3_1_1 1 (1 : Int).toNat (xq3_1_1.length : Int).toNat)]) ti88 rfl rfl rfl rfl rfl (Nat.le_of_ble_eq_true rfl) (lf_cons (sl_leaf hl_wq3_1_0) (lf_cons (sl_leaf (slc_len hl_wq3_1_1 h60)) lf_nil))) ?_
    rintro _ _ ⟨rfl,rfl⟩
    refine F.nil (Nrm.seq (Tri.ret ?_))
    cases h
    exact Rtn.body (.cell rfl ta88 ti88 rfl (fun _ hw=>box_cells (i:=2) rfl _ hw) .nil) (fun w hw=>⟨_,_,rfl,⟨wq3_1_0,Tq3_1_0,(slSub wq3_1_1 1 (1 : Int).toNat (xq3_1_1.length : Int).toNat),Tq3_1_1,rfl,hl_wq3_1_0,(slc_len hl_wq3_1_1 h60),rfl⟩,Sep.pick (is:=[4,3,0]) rfl rfl hw⟩)
   ·replace h:=if_ff g_3 h
    refine Tri.seq (Tri.reg (l:=[0,1]) rfl ?_)
    refine F.qn rfl (r_eql rfl rfl) (F.qn rfl (r_assign rfl) (F.nil (Nrm.seq (Tri.cond (b:=t55_1 == 1) rfl (fun g_4=>?_) (fun g_4=>?_)))))
    ·replace h:=if_tt g_4 h
     refine Tri.seq ?_
     obtain ⟨t66,h66,h⟩:=bind_some h
     refine Tri.ex (on25 [3] [0,1,2,4] rfl rfl (rdl_some h66).2.2) ?_
     rintro _ ⟨v66_0_1,S66_0_1,Sr66_1,hl_v66_0_1,hS66_1,rfl⟩
     refine Tri.reg (l:=[0,1,2,3,4,5]) rfl ?_
     refine F.qn rfl (r_fieldAddr tf88_1 rfl) (F.qn rfl (r_load ta86 rfl (fun w hw=>cell_1 (box_cells (i:=3) rfl w hw) rfl)) ?_)
     refine F.qn rfl (r_indexAddrS Tryz.underlying86 ti25 rfl hl_wq3_1_1 rfl (rdl_some h66).1 (rdl_some h66).2.1) (F.qn rfl (r_load ta25 rfl (fun w hw=>cell_0 (hole_cells (p:=1) rfl w hw) rfl)) (F.qn rfl (r_len Tryz.underlying25 rfl hl_v66_0_1) (F.qn rfl (r_gtr rfl rfl) (F.nil (Nrm.imp (cloS1 (cs:=[R.sl S66_0_1 v66_0_1 (t66 : List (Int))]) (rest:=[R.box pa0 114 [va0_0,.int .i64 t55_2,.int .u64 t55_3],R.box b3_1 88 [wq3_1_0,wq3_1_1],R.box b2_1 88 [.slice none 0 0,.slice none 0 0],R.sl Tq3_1_0 wq3_1_0 (xq3_1_0 : List (Int × List (Int × Int × Int) × List Int))]) [0,1] [2,3,4,5] rfl rfl (jn_sl (S:=S66_0_1) (v:=v66_0_1) (l:=(t66 : List (Int)))) hS66_1) ?_)))))
     refine Nrm.seq ?_
     obtain ⟨⟨ypa0_1,ypa0_2,yb3_1_1⟩,hE_4,h⟩:=bind_some h
     refine Tri.cut (fun e' C'=>∃ (vb3_1_1_1 : Value) (Sb3_1_1_1 : Nat → Prop),SlLen vb3_1_1_1 (yb3_1_1).length∧e' = [(2,.pointer (some ⟨b2_1,0,none⟩)),(3,.pointer (some ⟨b3_1,0,none⟩))]∧C' = Sep w (footM [R.box pa0 114 [va0_0,.int .i64 a0_1,.int .u64 a0_2]]) [R.box pa0 114 [va0_0,.int .i64 ypa0_1,.int .u64 ypa0_2],R.box b3_1 88 [wq3_1_0,vb3_1_1_1],R.box b2_1 88 [.slice none 0 0,.slice none 0 0],R.sl Sb3_1_1_1 vb3_1_1_1 (yb3_1_1 : List (List Int)),R.sl Tq3_1_0 wq3_1_0 (xq3_1_0 : List (Int × List (Int × Int × Int) × List Int))]) ?_ (fun hj_2=>?_)
     ·rintro _ _ ⟨vb3_1_1_1,Sb3_1_1_1,hl_vb3_1_1_1,rfl,rfl⟩
      refine Nrm.block ?_
      refine Nrm.seq (Tri.seq (Tri.reg (l:=[0,1]) rfl ?_))
      refine F.qn rfl (r_loadA ta88 ti88 rfl rfl (fun w hw=>(box_cells (i:=1) rfl w hw))) ?_
      refine F.ef0 rfl rfl (wanted_none rfl) (d_storeG0 (i:=2) (cs2:=[wq3_1_0,vb3_1_1_1]) ti88 rfl rfl rfl rfl rfl (Nat.le_of_ble_eq_true rfl) (lf_cons (sl_leaf hl_wq3_1_0) (lf_cons (sl_leaf hl_vb3_1_1_1) lf_nil))) ?_
      rintro _ _ ⟨rfl,rfl⟩
      refine F.nil (Nrm.seq (Tri.ret ?_))
      cases h
      exact Rtn.body (.cell rfl ta88 ti88 rfl (fun _ hw=>box_cells (i:=2) rfl _ hw) .nil) (fun w hw=>⟨_,_,rfl,⟨wq3_1_0,Tq3_1_0,vb3_1_1_1,Sb3_1_1_1,rfl,hl_wq3_1_0,hl_vb3_1_1_1,rfl⟩,Sep.pick (is:=[4,3,0]) rfl rfl hw⟩)
     ·refine Tri.cond (b:=decide ((t66.length : Int) > 0)) rfl (fun g_5=>?_) (fun g_5=>?_)
      ·replace hE_4:=if_tt g_5 hE_4
       obtain ⟨t72,h72,hE_4⟩:=bind_some hE_4
       obtain ⟨⟨t77_1,t77_2,t77_3⟩,h77,hE_4⟩:=bind_some hE_4
       obtain ⟨t78,h78,hE_4⟩:=bind_some hE_4
       refine Tri.ex (on25 [0] [1,2,3,4] rfl rfl (rdl_some h72).2.2) ?_
       rintro _ ⟨v72_0_1,S72_0_1,Sr72_1,hl_v72_0_1,hS72_1,rfl⟩
       refine Tri.drawK (B:=Sep w (footM [R.box pa0 114 [va0_0,.int .i64 a0_1,.int .u64 a0_2]]) [R.sl S72_0_1 v72_0_1 (t72 : List (Int)),R.hole Sr72_1 wq3_1_1 ((xq3_1_1 : List (List Int)).set (0 : Int).toNat t66 : List (List Int)) (0 : Int).toNat [v72_0_1],R.box b3_1 88 [wq3_1_0,wq3_1_1],R.box b2_1 88 [.slice none 0 0,.slice none 0 0],R.sl Tq3_1_0 wq3_1_0 (xq3_1_0 : List (Int × List (Int × Int × Int) × List Int))]) mixedT Sep.up [(0,true),(1,true),(2,true),(3,true),(4,true),(5,true),(6,false),(7,false)] [8,9] (by kernel_rfl) ?_
       refine K.q [0,1,3,4,5] rfl rfl rfl rfl rfl (wanted_none rfl) (r_fieldAddr tf88_1 rfl) ?_
       refine K.q [0,1,3,4,5] rfl rfl rfl rfl rfl (wanted_none rfl) (r_load ta86 rfl (fun w hw=>cell_1 (box_cells (i:=2) rfl w hw) rfl)) ?_
       refine K.q [0,1,3,4,5] rfl rfl rfl rfl rfl (wanted_none rfl) (r_indexAddrS Tryz.underlying86 ti25 rfl (len_set hl_wq3_1_1) rfl (rdl_some h72).1 (rdl_some h72).2.1) ?_
       refine K.q [0,1,3,4,5] rfl rfl rfl rfl rfl (wanted_none rfl) (r_load ta25 rfl (fun w hw=>cell_0 (hole_cells (p:=1) rfl w hw) rfl)) ?_
       refine K.q [0,1,3,4,5] rfl rfl rfl rfl rfl (wanted_none rfl) (r_move rfl) ?_
       refine K.q [0,1,3,4,5] rfl rfl rfl rfl rfl (wanted_none rfl) (r_move rfl) ?_
       refine B.ef rfl rfl rfl (wanted_none rfl) (Makes.does (m_buildF (l:=([(-1),t14_1,0] : List (Int))) Tryz.underlying25 ti3 rfl rfl rfl rfl rfl)) (by rintro v76_2 _ ⟨S76_2,hl_v76_2,rfl⟩; exact upd rfl [1,2,4,5,6] rfl rfl) ?_
       rintro v76_2 _ ⟨S76_2,hl_v76_2,rfl⟩
       refine B.ef rfl rfl rfl (wanted_none rfl) (d_callM (xs:=_) (cs:=[R.box pa0 114 [va0_0,.int .i64 t55_2,.int .u64 t55_3]]) (rest:=[R.sl S76_2 v76_2 (([(-1),t14_1,0] : List (Int)) : List (Int)),R.sl S72_0_1 v72_0_1 (t72 : List (Int)),R.hole Sr72_1 wq3_1_1 ((xq3_1_1 : List (List Int)).set (0 : Int).toNat t66 : List (List Int)) (0 : Int).toNat [v72_0_1],R.box b3_1 88 [wq3_1_0,wq3_1_1],R.box b2_1 88 [.slice none 0 0,.slice none 0 0],R.sl Tq3_1_0 wq3_1_0 (xq3_1_0 : List (Int × List (Int × Int × Int) × List Int))]) [3] [0,1,2,4,5,6] rfl ok194 rfl rfl rfl rfl (fun w hw=>spec_l1Cur_among.ok h77 w (hr_a0_0.down hw) (rdm_sl (i:=0) rfl hw) (Sep.sub hw))) (by rintro _ _ ⟨_,⟨rfl,rfl⟩,rfl⟩; exact upd rfl [2,3,4,5,6] rfl rfl) ?_
       rintro _ _ ⟨_,⟨rfl,rfl⟩,rfl⟩
       refine B.nil ?_
       refine F.qn rfl (r_indexAddrS Tryz.underlying25 ti3 rfl hl_v72_0_1 rfl (rdl_some h78).1 (rdl_some h78).2.1) ?_
       refine F.ef0 rfl rfl (wanted_none rfl) (d_storeE (i:=2) (x1:=t77_1) ti3 rfl rfl rfl (rdl_some h78) rfl) ?_
       rintro _ _ ⟨rfl,rfl⟩
       refine F.nil (Nrm.imp (cloS1 (cs:=[R.sl S72_0_1 v72_0_1 (t72.set (0 : Int).toNat t77_1 : List (Int))]) (rest:=[R.box pa0 114 [va0_0,.int .i64 t77_2,.int .u64 t77_3],R.sl S76_2 v76_2 (([(-1),t14_1,0] : List (Int)) : List (Int)),R.box b3_1 88 [wq3_1_0,wq3_1_1],R.box b2_1 88 [.slice none 0 0,.slice none 0 0],R.sl Tq3_1_0 wq3_1_0 (xq3_1_0 : List (Int × List (Int × Int × Int) × List Int))]) [2,3] [0,1,4,5,6] rfl rfl (jn_sl (S:=S72_0_1) (v:=v72_0_1) (l:=(t72.set (0 : Int).toNat t77_1 : List (Int)))) hS72_1) ?_)
       cases hE_4
       refine Nrm.only [2,3] rfl ?_
       refine Nrm.pick [1,3,4,0,5] rfl rfl ?_
       exact hj_2 _ _ ⟨wq3_1_1,Tq3_1_1,(len_set (len_set hl_wq3_1_1)),rfl,rfl⟩
      ·replace hE_4:=if_ff g_5 hE_4
       refine Tri.skip ?_
       cases hE_4
       refine Nrm.only [2,3] rfl ?_
       refine Nrm.pick [1,2,3,0,4] rfl rfl ?_
       exact hj_2 _ _ ⟨wq3_1_1,Tq3_1_1,(len_set hl_wq3_1_1),rfl,rfl⟩
    ·replace h:=if_ff g_4 h
     refine Tri.seq (Tri.reg (l:=[0,1]) rfl ?_)
     refine F.qn rfl (r_eql rfl rfl) (F.qn rfl (r_assign rfl) (F.nil (Nrm.seq (Tri.cond (b:=t55_1 == 2) rfl (fun g_6=>?_) (fun g_6=>?_)))))
     ·replace h:=if_tt g_6 h
      obtain ⟨t85,h85,h⟩:=bind_some h
      obtain ⟨hs88,h⟩:=ck h
      refine Tri.ex (on25 [3] [0,1,2,4] rfl rfl (rdl_some h85).2.2) ?_
      rintro _ ⟨v85_0_1,S85_0_1,Sr85_1,hl_v85_0_1,hS85_1,rfl⟩
      refine Tri.drawK (B:=Sep w (footM [R.box pa0 114 [va0_0,.int .i64 a0_1,.int .u64 a0_2]]) [R.hole Sr85_1 wq3_1_1 (xq3_1_1 : List (List Int)) (0 : Int).toNat [v85_0_1],R.box pa0 114 [va0_0,.int .i64 t55_2,.int .u64 t55_3],R.box b3_1 88 [wq3_1_0,wq3_1_1],R.box b2_1 88 [.slice none 0 0,.slice none 0 0],R.sl Tq3_1_0 wq3_1_0 (xq3_1_0 : List (Int × List (Int × Int × Int) × List Int))]) mixedT Sep.up [(0,true),(1,true),(2,true),(3,true),(4,true),(5,true),(6,false),(7,false)] [8,9] (by kernel_rfl) ?_
      refine K.q [1,2,3,4,5] rfl rfl rfl rfl rfl (wanted_none rfl) (r_fieldAddr tf88_1 rfl) ?_
      refine K.q [1,2,3,4,5] rfl rfl rfl rfl rfl (wanted_none rfl) (r_load ta86 rfl (fun w hw=>cell_1 (box_cells (i:=2) rfl w hw) rfl)) ?_
      refine K.q [1,2,3,4,5] rfl rfl rfl rfl rfl (wanted_none rfl) (r_fieldAddr tf88_1 rfl) ?_
      refine K.q [1,2,3,4,5] rfl rfl rfl rfl rfl (wanted_none rfl) (r_load ta86 rfl (fun w hw=>cell_1 (box_cells (i:=2) rfl w hw) rfl)) ?_
      refine K.q [1,2,3,4,5] rfl rfl rfl rfl rfl (wanted_none rfl) (r_indexAddrS Tryz.underlying86 ti25 rfl hl_wq3_1_1 rfl (rdl_some h85).1 (rdl_some h85).2.1) ?_
      refine K.q [1,2,3,4,5] rfl rfl rfl rfl rfl (wanted_none rfl) (r_load ta25 rfl (fun w hw=>cell_0 (hole_cells (p:=0) rfl w hw) rfl)) ?_
      refine B.ef rfl rfl rfl (wanted_none rfl) (Makes.does (m_buildF (l:=([0] : List (Int))) Tryz.underlying25 ti3 rfl rfl rfl rfl rfl)) (by rintro v87_2 _ ⟨S87_2,hl_v87_2,rfl⟩; exact upd rfl [2,3,4,5,6] rfl rfl) ?_
      rintro v87_2 _ ⟨S87_2,hl_v87_2,rfl⟩
      refine B.ef rfl rfl rfl (wanted_none rfl) (d_append (i:=1) Tryz.underlying25 Tryz.underlying25 ti3 rfl (by decide) rfl rfl rfl (rd_sl (i:=0) rfl) hs88) (by rintro v88_2 _ ⟨S88_2,rfl,hl_v88_2⟩; exact upd rfl [2,3,4,5,6] rfl rfl) ?_
      rintro v88_2 _ ⟨S88_2,rfl,hl_v88_2⟩
      refine B.nil ?_
      refine F.qn rfl (r_indexAddrS Tryz.underlying86 ti25 rfl hl_wq3_1_1 rfl (rdl_some h85).1 (rdl_some h85).2.1) ?_
      refine F.ef0 rfl rfl (wanted_none rfl) (d_storeH0 (α:=List Int) (p:=2) (k:=0) (cs2:=[v88_2]) ti25 rfl rfl rfl (sl_cells hl_v88_2) rfl (Nat.le_of_ble_eq_true rfl) (lf_cons (sl_leaf hl_v88_2) lf_nil)) ?_
      rintro _ _ ⟨rfl,rfl⟩
      refine F.nil (Nrm.ex (clo (cs:=[R.sl S88_2 v88_2 (t85 ++ ([0] : List (Int)) : List (Int))]) (rest:=[R.sl S87_2 v87_2 (([0] : List (Int)) : List (Int)),R.box pa0 114 [va0_0,.int .i64 t55_2,.int .u64 t55_3],R.box b3_1 88 [wq3_1_0,wq3_1_1],R.box b2_1 88 [.slice none 0 0,.slice none 0 0],R.sl Tq3_1_0 wq3_1_0 (xq3_1_0 : List (Int × List (Int × Int × Int) × List Int))]) [1,2] [0,3,4,5,6] rfl rfl (jn_sl (S:=S88_2) (v:=v88_2) (l:=(t85 ++ ([0] : List (Int)) : List (Int))))) ?_)
      rintro _ ⟨Sc_1,rfl⟩
      refine Nrm.block ?_
      refine Nrm.seq (Tri.seq (Tri.reg (l:=[0,1]) rfl ?_))
      refine F.qn rfl (r_loadA ta88 ti88 rfl rfl (fun w hw=>(box_cells (i:=3) rfl w hw))) ?_
      refine F.ef0 rfl rfl (wanted_none rfl) (d_storeG0 (i:=4) (cs2:=[wq3_1_0,wq3_1_1]) ti88 rfl rfl rfl rfl rfl (Nat.le_of_ble_eq_true rfl) (lf_cons (sl_leaf hl_wq3_1_0) (lf_cons (sl_leaf hl_wq3_1_1) lf_nil))) ?_
      rintro _ _ ⟨rfl,rfl⟩
      refine F.nil (Nrm.seq (Tri.ret ?_))
      cases h
      exact Rtn.body (.cell rfl ta88 ti88 rfl (fun _ hw=>box_cells (i:=4) rfl _ hw) .nil) (fun w hw=>⟨_,_,rfl,⟨wq3_1_0,Tq3_1_0,wq3_1_1,Sc_1,rfl,hl_wq3_1_0,(len_set hl_wq3_1_1),rfl⟩,Sep.pick (is:=[5,0,2]) rfl rfl hw⟩)
     ·replace h:=if_ff g_6 h
      refine Tri.seq (Tri.reg (l:=[0,1]) rfl ?_)
      refine F.qn rfl (r_eql rfl rfl) (F.qn rfl (r_assign rfl) (F.nil (Nrm.seq (Tri.cond (b:=t55_1 == 3) rfl (fun g_7=>?_) (fun g_7=>?_)))))
      ·replace h:=if_tt g_7 h
       obtain ⟨⟨xq3_1_0r,xq3_1_1r⟩,hE_5,h⟩:=bind_some h
       refine Tri.block ?_
       refine Tri.only [2,3] rfl ?_
       refine Tri.pick [0,1,2,3,4] rfl rfl ?_
       refine Tri.rounds (fun n e' C'=>∃ (xq3_1_0r' : List (Int × List (Int × Int × Int) × List Int)) (xq3_1_1r' : List (List Int)) (wq3_1_0r : Value) (Tq3_1_0r : Nat → Prop) (wq3_1_1r : Value) (Tq3_1_1r : Nat → Prop),spec_l1Cur_worlds.l2 k n xq3_1_0r' xq3_1_1r' = some (xq3_1_0r,xq3_1_1r)∧SlLen wq3_1_0r (xq3_1_0r').length∧SlLen wq3_1_1r (xq3_1_1r').length∧e' = [(2,.pointer (some ⟨b2_1,0,none⟩)),(3,.pointer (some ⟨b3_1,0,none⟩))]∧C' = Sep w (footM [R.box pa0 114 [va0_0,.int .i64 a0_1,.int .u64 a0_2]]) [R.box pa0 114 [va0_0,.int .i64 t55_2,.int .u64 t55_3],R.box b3_1 88 [wq3_1_0r,wq3_1_1r],R.box b2_1 88 [.slice none 0 0,.slice none 0 0],R.sl Tq3_1_1r wq3_1_1r (xq3_1_1r' : List (List Int)),R.sl Tq3_1_0r wq3_1_0r (xq3_1_0r' : List (Int × List (Int × Int × Int) × List Int))]) k ?_ ?_ ?_
       ·exact ⟨xq3_1_0,xq3_1_1,wq3_1_0,Tq3_1_0,wq3_1_1,Tq3_1_1,hE_5,hl_wq3_1_0,hl_wq3_1_1,rfl,rfl⟩
       ·rintro _ _ ⟨_,_,_,_,_,_,hE_5,_⟩
        rw [spec_l1Cur_worlds.l2.eq_1] at hE_5; cases hE_5
       ·rintro n_3 _ _ ⟨xq3_1_0r,xq3_1_1r,wq3_1_0r,Tq3_1_0r,wq3_1_1r,Tq3_1_1r,hE_5,hl_wq3_1_0r,hl_wq3_1_1r,rfl,rfl⟩ ih_3
        rw [spec_l1Cur_worlds.l2.eq_2] at hE_5
        refine Tri.seq (Tri.seq (Tri.reg (l:=[0,1,2,3]) rfl ?_))
        refine F.qn rfl (r_fieldAddr tf88_0 rfl) (F.qn rfl (r_load ta85 rfl (fun w hw=>cell_1 (box_cells (i:=1) rfl w hw) rfl)) (F.qn rfl (r_len Tryz.underlying85 rfl hl_wq3_1_0r) (F.qn rfl (r_lss rfl rfl) (F.nil (Nrm.seq (Tri.cond (b:=decide ((xq3_1_0r.length : Int) < 4)) rfl (fun g_8=>?_) (fun g_8=>?_)))))))
        ·replace hE_5:=if_tt g_8 hE_5
         refine Tri.skip (Nrm.seq (Tri.block ?_))
         refine Tri.seq ?_
         obtain ⟨hs101,hE_5⟩:=ck hE_5
         refine Tri.reg (l:=[0,1,2,3,4,5,6,7]) rfl ?_
         refine F.qn rfl (r_fieldAddr tf88_0 rfl) (F.qn rfl (r_load ta85 rfl (fun w hw=>cell_1 (box_cells (i:=1) rfl w hw) rfl)) ?_)
         refine F.mn rfl (m_buildF (l:=([0] : List (Int))) Tryz.underlying25 ti3 rfl rfl rfl rfl rfl) ?_
         rintro v98_1 _ ⟨S98_1,hl_v98_1,rfl⟩
         refine F.qn rfl (r_build (pl:=[(0,1),(1,1),(2,1)]) (qs:=[(0,[.int .i64 1]),(2,[v98_1])]) (cs:=[.int .i64 1,.slice none 0 0,v98_1]) (by kernel_rfl) ti27 rfl (.cons rfl rfl (Nat.le_of_ble_eq_true rfl) (.cons (sl_cells hl_v98_1) rfl (Nat.le_of_ble_eq_true rfl) .nil)) rfl rfl) ?_
         refine F.efn rfl (d_build1 (cells:=[.int .i64 1,.slice none 0 0,v98_1]) (x0:=((1,[],([0] : List (Int))) : Int × List (Int × Int × Int) × List Int)) (cs:=[R.sl S98_1 v98_1 (([0] : List (Int)) : List (Int))]) (rest:=[R.box pa0 114 [va0_0,.int .i64 t55_2,.int .u64 t55_3],R.box b3_1 88 [wq3_1_0r,wq3_1_1r],R.box b2_1 88 [.slice none 0 0,.slice none 0 0],R.sl Tq3_1_1r wq3_1_1r (xq3_1_1r : List (List Int)),R.sl Tq3_1_0r wq3_1_0r (xq3_1_0r : List (Int × List (Int × Int × Int) × List Int))]) [0] [1,2,3,4,5] Tryz.underlying85 ti27 rfl rfl rfl (lf_cons rfl (lf_cons rfl (lf_cons (sl_leaf hl_v98_1) lf_nil))) rfl rfl (jn_pair (jn_int (n:=1)) (jn_pair jn_nil (jn_sl (S:=S98_1) (v:=v98_1) (l:=(([0] : List (Int)) : List (Int))))))) ?_
         rintro v100_1 _ ⟨S100_1,hl_v100_1,rfl⟩
         refine F.efn rfl (d_appendN (rest:=[R.box pa0 114 [va0_0,.int .i64 t55_2,.int .u64 t55_3],R.box b3_1 88 [wq3_1_0r,wq3_1_1r],R.box b2_1 88 [.slice none 0 0,.slice none 0 0],R.sl Tq3_1_1r wq3_1_1r (xq3_1_1r : List (List Int))]) 5 0 [1,2,3,4] Tryz.underlying85 Tryz.underlying85 ti27 rfl (by decide) rfl rfl rfl rfl hs101) ?_
         rintro v101_1 _ ⟨S101_1,hl_v101_1,rfl⟩
         refine F.qn rfl (r_fieldAddr tf88_0 rfl) ?_
         refine F.ef0 rfl rfl (wanted_none rfl) (d_storeG1 (i:=2) (cs2:=[v101_1]) ti85 rfl rfl rfl (sl_cells hl_v101_1) rfl (Nat.le_of_ble_eq_true rfl) (lf_cons (sl_leaf hl_v101_1) lf_nil)) ?_
         rintro _ _ ⟨rfl,rfl⟩
         refine F.nil (Nrm.seq ?_)
         obtain ⟨hs107,hE_5⟩:=ck hE_5
         refine Tri.reg (l:=[0,1,2,3,4,5,6]) rfl ?_
         refine F.qn rfl (r_fieldAddr tf88_1 rfl) (F.qn rfl (r_load ta86 rfl (fun w hw=>cell_1 (box_cells (i:=2) rfl w hw) rfl)) ?_)
         refine F.mn rfl (m_buildF (l:=([0] : List (Int))) Tryz.underlying25 ti3 rfl rfl rfl rfl rfl) ?_
         rintro v105_1 _ ⟨S105_1,hl_v105_1,rfl⟩
         refine F.efn rfl (d_build1 (cells:=[v105_1]) (x0:=(([0] : List (Int)) : List Int)) (cs:=[R.sl S105_1 v105_1 (([0] : List (Int)) : List (Int))]) (rest:=[R.sl S101_1 v101_1 ((xq3_1_0r : List (Int × List (Int × Int × Int) × List Int)) ++ ([(1,[],([0] : List (Int)))] : List (Int × List (Int × Int × Int) × List Int)) : List (Int × List (Int × Int × Int) × List Int)),R.box pa0 114 [va0_0,.int .i64 t55_2,.int .u64 t55_3],R.box b3_1 88 [v101_1,wq3_1_1r],R.box b2_1 88 [.slice none 0 0,.slice none 0 0],R.sl Tq3_1_1r wq3_1_1r (xq3_1_1r : List (List Int))]) [0] [1,2,3,4,5] Tryz.underlying86 ti25 rfl (sl_cells hl_v105_1) rfl (lf_cons (sl_leaf hl_v105_1) lf_nil) rfl rfl (jn_sl (S:=S105_1) (v:=v105_1) (l:=(([0] : List (Int)) : List (Int))))) ?_
         rintro v106_1 _ ⟨S106_1,hl_v106_1,rfl⟩
         refine F.efn rfl (d_appendN (rest:=[R.sl S101_1 v101_1 ((xq3_1_0r : List (Int × List (Int × Int × Int) × List Int)) ++ ([(1,[],([0] : List (Int)))] : List (Int × List (Int × Int × Int) × List Int)) : List (Int × List (Int × Int × Int) × List Int)),R.box pa0 114 [va0_0,.int .i64 t55_2,.int .u64 t55_3],R.box b3_1 88 [v101_1,wq3_1_1r],R.box b2_1 88 [.slice none 0 0,.slice none 0 0]]) 5 0 [1,2,3,4] Tryz.underlying86 Tryz.underlying86 ti25 rfl (by decide) rfl rfl rfl rfl hs107) ?_
         rintro v107_1 _ ⟨S107_1,hl_v107_1,rfl⟩
         refine F.qn rfl (r_fieldAddr tf88_1 rfl) ?_
         refine F.ef0 rfl rfl (wanted_none rfl) (d_storeG1 (i:=3) (cs2:=[v107_1]) ti86 rfl rfl rfl (sl_cells hl_v107_1) rfl (Nat.le_of_ble_eq_true rfl) (lf_cons (sl_leaf hl_v107_1) lf_nil)) ?_
         rintro _ _ ⟨rfl,rfl⟩
         refine F.nil (Nrm.block ?_)
         refine Nrm.round ?_
         refine Rnd.only [2,3] rfl ?_
         refine Rnd.pick [2,3,4,0,1] rfl rfl ?_
         exact ih_3 _ _ ⟨(xq3_1_0r : List (Int × List (Int × Int × Int) × List Int)) ++ ([(1,[],([0] : List (Int)))] : List (Int × List (Int × Int × Int) × List Int)),(xq3_1_1r : List (List Int)) ++ ([([0] : List (Int))] : List (List Int)),v101_1,S101_1,v107_1,S107_1,hE_5,hl_v101_1,hl_v107_1,rfl,rfl⟩
        ·replace hE_5:=if_ff g_8 hE_5
         refine Tri.exit ?_
         refine Exi.then ?_
         refine Exi.then ?_
         refine Exi.same ?_
         cases hE_5
         refine Nrm.block ?_
         refine Nrm.seq (Tri.seq (Tri.reg (l:=[0,1]) rfl ?_))
         refine F.qn rfl (r_loadA ta88 ti88 rfl rfl (fun w hw=>(box_cells (i:=1) rfl w hw))) ?_
         refine F.ef0 rfl rfl (wanted_none rfl) (d_storeG0 (i:=2) (cs2:=[wq3_1_0r,wq3_1_1r]) ti88 rfl rfl rfl rfl rfl (Nat.le_of_ble_eq_true rfl) (lf_cons (sl_leaf hl_wq3_1_0r) (lf_cons (sl_leaf hl_wq3_1_1r) lf_nil))) ?_
         rintro _ _ ⟨rfl,rfl⟩
         refine F.nil (Nrm.seq (Tri.ret ?_))
         cases h
         exact Rtn.body (.cell rfl ta88 ti88 rfl (fun _ hw=>box_cells (i:=2) rfl _ hw) .nil) (fun w hw=>⟨_,_,rfl,⟨wq3_1_0r,Tq3_1_0r,wq3_1_1r,Tq3_1_1r,rfl,hl_wq3_1_0r,hl_wq3_1_1r,rfl⟩,Sep.pick (is:=[4,3,0]) rfl rfl hw⟩)
      ·replace h:=if_ff g_7 h
       refine Tri.seq (Tri.reg (l:=[0,1]) rfl ?_)
       refine F.qn rfl (r_eql rfl rfl) (F.qn rfl (r_assign rfl) (F.nil (Nrm.seq (Tri.cond (b:=t55_1 == 4) rfl (fun g_9=>?_) (fun g_9=>?_)))))
       ·replace h:=if_tt g_9 h
        refine Tri.seq (Tri.reg (l:=[0,1]) rfl ?_)
        refine F.qn rfl (r_build (pl:=[(0,1),(1,1)]) (qs:=[]) (cs:=[.slice none 0 0,.slice none 0 0]) (by kernel_rfl) ti88 rfl .nil rfl rfl) ?_
        refine F.ef0 rfl rfl (wanted_none rfl) (d_storeG0 (i:=2) (cs2:=[.slice none 0 0,.slice none 0 0]) ti88 rfl rfl rfl rfl rfl (Nat.le_of_ble_eq_true rfl) (lf_cons rfl (lf_cons rfl lf_nil))) ?_
        rintro _ _ ⟨rfl,rfl⟩
        refine F.nil (Nrm.seq (Tri.ret ?_))
        refine Rtn.block ?_
        refine Rtn.then ?_
        cases h
        exact Rtn.body (.cell rfl ta88 ti88 rfl (fun _ hw=>box_cells (i:=2) rfl _ hw) .nil) (fun w hw=>⟨_,_,rfl,⟨.slice none 0 0,fun _=>False,.slice none 0 0,fun _=>False,rfl,len_nil,len_nil,rfl⟩,Sep.pick (is:=[0,1,2]) rfl rfl hw.pushNil.pushNil⟩)
       ·replace h:=if_ff g_9 h
        refine Tri.skip (Nrm.block ?_)
        refine Nrm.seq (Tri.seq (Tri.reg (l:=[0,1]) rfl ?_))
        refine F.qn rfl (r_loadA ta88 ti88 rfl rfl (fun w hw=>(box_cells (i:=1) rfl w hw))) ?_
        refine F.ef0 rfl rfl (wanted_none rfl) (d_storeG0 (i:=2) (cs2:=[wq3_1_0,wq3_1_1]) ti88 rfl rfl rfl rfl rfl (Nat.le_of_ble_eq_true rfl) (lf_cons (sl_leaf hl_wq3_1_0) (lf_cons (sl_leaf hl_wq3_1_1) lf_nil))) ?_
        rintro _ _ ⟨rfl,rfl⟩
        refine F.nil (Nrm.seq (Tri.ret ?_))
        cases h
        exact Rtn.body (.cell rfl ta88 ti88 rfl (fun _ hw=>box_cells (i:=2) rfl _ hw) .nil) (fun w hw=>⟨_,_,rfl,⟨wq3_1_0,Tq3_1_0,wq3_1_1,Tq3_1_1,rfl,hl_wq3_1_0,hl_wq3_1_1,rfl⟩,Sep.pick (is:=[4,3,0]) rfl rfl hw⟩)


def spec_l1Cur_orderOf.l0 (k : Nat) (a0_0 : List By) (a1 : Int) : Nat → (List (Int)) → Int → Int → Int → Option (Int × Int × (List (Int)))
 | 0,_,_,_,_=>none
 | n + 1,x5,x6,xpa0_1,xpa0_2=>((if (decide (x6 < a1)) = true then some (decide (x6 < 13)) else some false)).bind fun y15=>(if y15 = true then (spec_l1Cur_pick.f k a0_0 xpa0_1 xpa0_2 (w64 ((x5.length : Int) + 1))).bind fun (t22_1,t22_2,t22_3)=>((slc x5 0 t22_1).bind fun t26=>(slc x5 t22_1 (x5.length : Int)).bind fun t33=>if (([] : List (Int)) ++ t26).length < 1099511627776 then if ((([] : List (Int)) ++ t26) ++ ([x6] : List (Int))).length < 1099511627776 then if (((([] : List (Int)) ++ t26) ++ ([x6] : List (Int))) ++ t33).length < 1099511627776 then some (((([] : List (Int)) ++ t26) ++ ([x6] : List (Int))) ++ t33) else none else none else none).bind fun y5=>spec_l1Cur_orderOf.l0 k a0_0 a1 n y5 (w64 (x6 + 1)) t22_2 t22_3 else some (xpa0_1,xpa0_2,x5))

def spec_l1Cur_orderOf.f (k : Nat) (a0_0 : List By) (a0_1 : Int) (a0_2 : Int) (a1 : Int) : Option ((List Int) × Int × Int) := (spec_l1Cur_orderOf.l0 k a0_0 a1 k ([] : List (Int)) 0 a0_1 a0_2).bind fun (xpa0_1, xpa0_2, x5) => ((if (decide ((x5.length : Int) > 0)) = true then (spec_l1Cur_one.f k a0_0 xpa0_1 xpa0_2 20).bind fun (t40_1, t40_2, t40_3) => some (t40_1, t40_2, t40_3) else some (false, xpa0_1, xpa0_2))).bind fun (y41, ypa0_1, ypa0_2) => ((if y41 = true then (spec_l1Cur_among.f k a0_0 ypa0_1 ypa0_2 ([0, 1, (-1), a1] : List (Int))).bind fun (t46_1, t46_2, t46_3) => (rdl x5 0).bind fun t47 => some (x5.set (0 : Int).toNat t46_1, t46_2, t46_3) else some (x5, ypa0_1, ypa0_2))).bind fun (y5r, ypa0_1r, ypa0_2r) => some (y5r, ypa0_1r, ypa0_2r)

theorem spec_l1Cur_orderOf.ok {k : Nat}  {a0_0 : List By} {a0_1 : Int} {a0_2 : Int} {a1 : Int} {r0 : List Int} {r1 : Int} {r2 : Int} (h : spec_l1Cur_orderOf.f k a0_0 a0_1 a0_2 a1 = some (r0, r1, r2)) (w : World) {pa0 : Nat} {va0_0 : Value} (hr_a0_0 : RdM w (footM [R.box pa0 114 [va0_0, .int .i64 a0_1, .int .u64 a0_2]]) va0_0 a0_0) (hw0 : Sep w (footM [R.box pa0 114 [va0_0, .int .i64 a0_1, .int .u64 a0_2]]) [R.box pa0 114 [va0_0, .int .i64 a0_1, .int .u64 a0_2]] w) :
  Calls Tryz.prog 155 ([.pointer (some ⟨pa0,0,none⟩),.int .i64 a1] : List Value).toArray w (PostM (footM [R.box pa0 114 [va0_0,.int .i64 a0_1,.int .u64 a0_2]]) (fun u ns=>∃ (Sr0 : Nat → Prop),SlLen u r0.length∧ns = [R.sl Sr0 u r0,R.box pa0 114 [va0_0,.int .i64 r1,.int .u64 r2]]) w):=by
 unfold spec_l1Cur_orderOf.f at h
 have hl_va0_0:=hr_a0_0.len
 refine Calls.of_tri (N:=49) Tryz.func155 rfl rfl rfl hw0 ?_
 refine Tri.seq (Tri.reg (l:=[0]) rfl ?_)
 refine F.qn rfl (r_assign rfl) (F.nil (Nrm.seq (Tri.seq (Tri.reg (l:=[0,1]) rfl ?_))))
 refine F.mn rfl (m_build0 (α:=Int) Tryz.underlying25 ti3) ?_
 rintro v8_1 _ ⟨S8_1,hl_v8_1,rfl⟩
 refine F.qn rfl (r_assign rfl) (F.nil (Nrm.seq (Tri.seq (Tri.seq (Tri.reg (l:=[0]) rfl ?_)))))
 refine F.qn rfl (r_assign rfl) (F.nil (Nrm.seq ?_))
 obtain ⟨⟨xpa0_1,xpa0_2,x5⟩,hE_1,h⟩:=bind_some h
 refine Tri.block ?_
 refine Tri.only [0,1,5,6] rfl ?_
 refine Tri.pick [1,0] rfl rfl ?_
 refine Tri.rounds (fun n e' C'=>∃ (x5' : List (Int)) (x6' : Int) (xpa0_1' : Int) (xpa0_2' : Int) (w5 : Value) (T5 : Nat → Prop),spec_l1Cur_orderOf.l0 k a0_0 a1 n x5' x6' xpa0_1' xpa0_2' = some (xpa0_1,xpa0_2,x5)∧SlLen w5 (x5').length∧e' = [(0,.pointer (some ⟨pa0,0,none⟩)),(1,.int .i64 a1),(5,w5),(6,.int .i64 x6')]∧C' = Sep w (footM [R.box pa0 114 [va0_0,.int .i64 a0_1,.int .u64 a0_2]]) [R.box pa0 114 [va0_0,.int .i64 xpa0_1',.int .u64 xpa0_2'],R.sl T5 w5 (x5' : List (Int))]) k ?_ ?_ ?_
 ·exact ⟨([] : List (Int)),0,a0_1,a0_2,v8_1,S8_1,hE_1,hl_v8_1,rfl,rfl⟩
 ·rintro _ _ ⟨_,_,_,_,_,_,hE_1,_⟩
  rw [spec_l1Cur_orderOf.l0.eq_1] at hE_1; cases hE_1
 ·rintro n_1 _ _ ⟨x5,x6,xpa0_1,xpa0_2,w5,T5,hE_1,hl_w5,rfl,rfl⟩ ih_1
  rw [spec_l1Cur_orderOf.l0.eq_2] at hE_1
  refine Tri.seq (Tri.seq ?_)
  obtain ⟨y15,hE_2,hE_1⟩:=bind_some hE_1
  refine Tri.cut (fun e' C'=>e' = [(0,.pointer (some ⟨pa0,0,none⟩)),(1,.int .i64 a1),(5,w5),(6,.int .i64 x6),(15,.bool y15)]∧C' = Sep w (footM [R.box pa0 114 [va0_0,.int .i64 a0_1,.int .u64 a0_2]]) [R.box pa0 114 [va0_0,.int .i64 xpa0_1,.int .u64 xpa0_2],R.sl T5 w5 (x5 : List (Int))]) ?_ (fun hj_1=>?_)
  ·rintro _ _ ⟨rfl,rfl⟩
   refine Nrm.seq (Tri.cond (b:=y15) rfl (fun g_1=>?_) (fun g_1=>?_))
   ·replace hE_1:=if_tt g_1 hE_1
    refine Tri.skip (Nrm.seq (Tri.seq (Tri.block ?_)))
    refine Tri.seq ?_
    obtain ⟨⟨t22_1,t22_2,t22_3⟩,h22,hE_1⟩:=bind_some hE_1
    refine Tri.reg (l:=[0,1,2,3,4,5]) rfl ?_
    refine F.qn rfl (r_move rfl) (F.qn rfl (r_move rfl) (F.qn rfl (r_len Tryz.underlying25 rfl hl_w5) (F.qn rfl (r_add rfl rfl) ?_)))
    refine F.efn rfl (d_callM (xs:=_) (cs:=[R.box pa0 114 [va0_0,.int .i64 xpa0_1,.int .u64 xpa0_2]]) (rest:=[R.sl T5 w5 (x5 : List (Int))]) [0] [1] rfl ok115 rfl rfl rfl rfl (fun w hw=>spec_l1Cur_pick.ok h22 w (hr_a0_0.down hw) (Sep.sub hw))) ?_
    rintro _ _ ⟨_,⟨rfl,rfl⟩,rfl⟩
    refine F.qn rfl (r_assign rfl) (F.nil (Nrm.seq ?_))
    obtain ⟨y5,hE_3,hE_1⟩:=bind_some hE_1
    refine Tri.cut (fun e' C'=>∃ (v5_1 : Value) (S5_1 : Nat → Prop),SlLen v5_1 (y5).length∧e' = [(0,.pointer (some ⟨pa0,0,none⟩)),(1,.int .i64 a1),(5,v5_1),(6,.int .i64 x6)]∧C' = Sep w (footM [R.box pa0 114 [va0_0,.int .i64 a0_1,.int .u64 a0_2]]) [R.box pa0 114 [va0_0,.int .i64 t22_2,.int .u64 t22_3],R.sl S5_1 v5_1 (y5 : List (Int))]) ?_ (fun hj_2=>?_)
    ·rintro _ _ ⟨v5_1,S5_1,hl_v5_1,rfl,rfl⟩
     refine Nrm.block ?_
     refine Nrm.seq (Tri.reg (l:=[0,1,2]) rfl ?_)
     refine F.qn rfl (r_move rfl) (F.qn rfl (r_add rfl rfl) (F.qn rfl (r_assign rfl) (F.nil (Nrm.round ?_))))
     refine Rnd.only [0,1,5,6] rfl ?_
     refine Rnd.pick [0,1] rfl rfl ?_
     exact ih_1 _ _ ⟨y5,w64 (x6 + 1),t22_2,t22_3,v5_1,S5_1,hE_1,hl_v5_1,rfl,rfl⟩
    ·obtain ⟨t26,h26,hE_3⟩:=bind_some hE_3
     obtain ⟨t33,h33,hE_3⟩:=bind_some hE_3
     obtain ⟨hs27,hE_3⟩:=ck hE_3
     obtain ⟨hs30,hE_3⟩:=ck hE_3
     obtain ⟨hs34,hE_3⟩:=ck hE_3
     refine Tri.drawT mixedT Sep.up [1,2,3,5,8,9,10,0,4,6,7] [11,12] (.q 1 (.q 2 (.q 3 (.q 5 (.q 8 (.q 9 (.q 10 (.alt 0 (.alt 4 (.alt 6 (.alt 7 .nil .stop) .stop) (.alt 6 (.alt 4 (.alt 7 .nil .stop) .stop) .stop)) (.alt 6 (.alt 0 (.alt 4 (.alt 7 .nil .stop) .stop) .stop) .stop))))))))) (by kernel_rfl) ?_
     refine T.q rfl rfl rfl (wanted_none rfl) (r_move rfl) ?_
     refine T.q rfl rfl rfl (wanted_none rfl) (r_move rfl) ?_
     refine T.q rfl rfl rfl (wanted_none rfl) (r_sliceH Tryz.underlying25 ti3 rfl (rd_sl (i:=1) rfl) rfl h26) ?_
     iterate 3 refine T.q rfl rfl rfl (wanted_none rfl) (r_move rfl) ?_
     refine T.q rfl rfl rfl (wanted_none rfl) (r_sliceL Tryz.underlying25 ti3 rfl (rd_sl (i:=1) rfl) rfl h33) ?_
     refine T.ef rfl rfl rfl (wanted_none rfl) (Makes.does (m_build0 (α:=Int) Tryz.underlying25 ti3)) (by rintro v23_2 _ ⟨S23_2,hl_v23_2,rfl⟩; exact upd rfl [1,2] rfl rfl) ?_ ?_
     ·rintro v23_2 _ ⟨S23_2,hl_v23_2,rfl⟩
      refine T.ef rfl rfl rfl (wanted_none rfl) (d_append (i:=0) Tryz.underlying25 Tryz.underlying25 ti3 rfl (by decide) rfl rfl rfl (fun w hw=>rd_slc ((rd_sl (i:=2) rfl) w hw) h26) hs27) (by rintro v27_2 _ ⟨S27_2,rfl,hl_v27_2⟩; exact upd rfl [1,2] rfl rfl) ?_ ?_
      ·rintro v27_2 _ ⟨S27_2,rfl,hl_v27_2⟩
       refine T.ef rfl rfl rfl (wanted_none rfl) (Makes.does (m_buildF (l:=([x6] : List (Int))) Tryz.underlying25 ti3 rfl rfl rfl rfl rfl)) (by rintro v29_2 _ ⟨S29_2,hl_v29_2,rfl⟩; exact upd rfl [2,3] rfl rfl) ?_ ?_
       ·rintro v29_2 _ ⟨S29_2,hl_v29_2,rfl⟩
        refine T.ef rfl rfl rfl (wanted_none rfl) (d_append (i:=1) Tryz.underlying25 Tryz.underlying25 ti3 rfl (by decide) rfl rfl rfl (rd_sl (i:=0) rfl) hs30) (by rintro v30_2 _ ⟨S30_2,rfl,hl_v30_2⟩; exact upd rfl [2,3] rfl rfl) ?_ ?_
        ·rintro v30_2 _ ⟨S30_2,rfl,hl_v30_2⟩
         refine T.nil ?_
         refine F.efn rfl (d_append (i:=1) Tryz.underlying25 Tryz.underlying25 ti3 rfl (by decide) rfl rfl rfl (fun w hw=>rd_slc ((rd_sl (i:=3) rfl) w hw) h33) hs34) ?_
         rintro v34_2 _ ⟨S34_2,rfl,hl_v34_2⟩
         refine F.qn rfl (r_assign rfl) (F.nil ?_)
         cases hE_3
         refine Nrm.only [0,1,5,6] rfl ?_
         refine Nrm.pick [2,1] rfl rfl ?_
         exact hj_2 _ _ ⟨v34_2,S34_2,hl_v34_2,rfl,rfl⟩
        exact T.stop
       exact T.stop
      ·refine T.ef rfl rfl rfl (wanted_none rfl) (Makes.does (m_buildF (l:=([x6] : List (Int))) Tryz.underlying25 ti3 rfl rfl rfl rfl rfl)) (by rintro v29_3 _ ⟨S29_3,hl_v29_3,rfl⟩; exact upd rfl [2,3] rfl rfl) ?_ ?_
       ·rintro v29_3 _ ⟨S29_3,hl_v29_3,rfl⟩
        refine T.ef rfl rfl rfl (wanted_none rfl) (d_append (i:=1) Tryz.underlying25 Tryz.underlying25 ti3 rfl (by decide) rfl rfl rfl (fun w hw=>rd_slc ((rd_sl (i:=3) rfl) w hw) h26) hs27) (by rintro v27_3 _ ⟨S27_3,rfl,hl_v27_3⟩; exact upd rfl [2,3] rfl rfl) ?_ ?_
        ·rintro v27_3 _ ⟨S27_3,rfl,hl_v27_3⟩
         refine T.ef rfl rfl rfl (wanted_none rfl) (d_append (i:=1) Tryz.underlying25 Tryz.underlying25 ti3 rfl (by decide) rfl rfl rfl (rd_sl (i:=0) rfl) hs30) (by rintro v30_3 _ ⟨S30_3,rfl,hl_v30_3⟩; exact upd rfl [2,3] rfl rfl) ?_ ?_
         ·rintro v30_3 _ ⟨S30_3,rfl,hl_v30_3⟩
          refine T.nil ?_
          refine F.efn rfl (d_append (i:=1) Tryz.underlying25 Tryz.underlying25 ti3 rfl (by decide) rfl rfl rfl (fun w hw=>rd_slc ((rd_sl (i:=3) rfl) w hw) h33) hs34) ?_
          rintro v34_3 _ ⟨S34_3,rfl,hl_v34_3⟩
          refine F.qn rfl (r_assign rfl) (F.nil ?_)
          cases hE_3
          refine Nrm.only [0,1,5,6] rfl ?_
          refine Nrm.pick [2,1] rfl rfl ?_
          exact hj_2 _ _ ⟨v34_3,S34_3,hl_v34_3,rfl,rfl⟩
         exact T.stop
        exact T.stop
       exact T.stop
     ·refine T.ef rfl rfl rfl (wanted_none rfl) (Makes.does (m_buildF (l:=([x6] : List (Int))) Tryz.underlying25 ti3 rfl rfl rfl rfl rfl)) (by rintro v29_4 _ ⟨S29_4,hl_v29_4,rfl⟩; exact upd rfl [1,2] rfl rfl) ?_ ?_
      ·rintro v29_4 _ ⟨S29_4,hl_v29_4,rfl⟩
       refine T.ef rfl rfl rfl (wanted_none rfl) (Makes.does (m_build0 (α:=Int) Tryz.underlying25 ti3)) (by rintro v23_3 _ ⟨S23_3,hl_v23_3,rfl⟩; exact upd rfl [2,3] rfl rfl) ?_ ?_
       ·rintro v23_3 _ ⟨S23_3,hl_v23_3,rfl⟩
        refine T.ef rfl rfl rfl (wanted_none rfl) (d_append (i:=0) Tryz.underlying25 Tryz.underlying25 ti3 rfl (by decide) rfl rfl rfl (fun w hw=>rd_slc ((rd_sl (i:=3) rfl) w hw) h26) hs27) (by rintro v27_4 _ ⟨S27_4,rfl,hl_v27_4⟩; exact upd rfl [2,3] rfl rfl) ?_ ?_
        ·rintro v27_4 _ ⟨S27_4,rfl,hl_v27_4⟩
         refine T.ef rfl rfl rfl (wanted_none rfl) (d_append (i:=0) Tryz.underlying25 Tryz.underlying25 ti3 rfl (by decide) rfl rfl rfl (rd_sl (i:=1) rfl) hs30) (by rintro v30_4 _ ⟨S30_4,rfl,hl_v30_4⟩; exact upd rfl [2,3] rfl rfl) ?_ ?_
         ·rintro v30_4 _ ⟨S30_4,rfl,hl_v30_4⟩
          refine T.nil ?_
          refine F.efn rfl (d_append (i:=0) Tryz.underlying25 Tryz.underlying25 ti3 rfl (by decide) rfl rfl rfl (fun w hw=>rd_slc ((rd_sl (i:=3) rfl) w hw) h33) hs34) ?_
          rintro v34_4 _ ⟨S34_4,rfl,hl_v34_4⟩
          refine F.qn rfl (r_assign rfl) (F.nil ?_)
          cases hE_3
          refine Nrm.only [0,1,5,6] rfl ?_
          refine Nrm.pick [2,0] rfl rfl ?_
          exact hj_2 _ _ ⟨v34_4,S34_4,hl_v34_4,rfl,rfl⟩
         exact T.stop
        exact T.stop
       exact T.stop
      exact T.stop
   ·replace hE_1:=if_ff g_1 hE_1
    refine Tri.exit ?_
    refine Exi.then ?_
    refine Exi.then ?_
    refine Exi.same ?_
    cases hE_1
    refine Nrm.seq (Tri.seq (Tri.seq ?_))
    obtain ⟨⟨y41,ypa0_1,ypa0_2⟩,hE_4,h⟩:=bind_some h
    refine Tri.cut (fun e' C'=>e' = [(0,.pointer (some ⟨pa0,0,none⟩)),(1,.int .i64 a1),(5,w5),(41,.bool y41)]∧C' = Sep w (footM [R.box pa0 114 [va0_0,.int .i64 a0_1,.int .u64 a0_2]]) [R.box pa0 114 [va0_0,.int .i64 ypa0_1,.int .u64 ypa0_2],R.sl T5 w5 (x5 : List (Int))]) ?_ (fun hj_3=>?_)
    ·rintro _ _ ⟨rfl,rfl⟩
     refine Nrm.seq ?_
     obtain ⟨⟨y5r,ypa0_1r,ypa0_2r⟩,hE_5,h⟩:=bind_some h
     refine Tri.cut (fun e' C'=>∃ (v5_2 : Value) (S5_2 : Nat → Prop),SlLen v5_2 (y5r).length∧e' = [(5,v5_2)]∧C' = Sep w (footM [R.box pa0 114 [va0_0,.int .i64 a0_1,.int .u64 a0_2]]) [R.box pa0 114 [va0_0,.int .i64 ypa0_1r,.int .u64 ypa0_2r],R.sl S5_2 v5_2 (y5r : List (Int))]) ?_ (fun hj_4=>?_)
     ·rintro _ _ ⟨v5_2,S5_2,hl_v5_2,rfl,rfl⟩
      refine Nrm.seq (Tri.seq (Tri.reg (l:=[0,1]) rfl ?_))
      refine F.qn rfl (r_move rfl) (F.qn rfl (r_assign rfl) (F.nil (Nrm.seq (Tri.ret ?_))))
      cases h
      exact Rtn.body (.tmp rfl .nil) (fun w hw=>⟨_,_,rfl,⟨S5_2,hl_v5_2,rfl⟩,Sep.pick (is:=[1,0]) rfl rfl hw⟩)
     ·refine Tri.cond (b:=y41) rfl (fun g_2=>?_) (fun g_2=>?_)
      ·replace hE_5:=if_tt g_2 hE_5
       obtain ⟨⟨t46_1,t46_2,t46_3⟩,h46,hE_5⟩:=bind_some hE_5
       obtain ⟨t47,h47,hE_5⟩:=bind_some hE_5
       refine Tri.reg (l:=[0,1,2,3,4,5,6]) rfl ?_
       iterate 3 refine F.qn rfl (r_move rfl) ?_
       refine F.mn rfl (m_buildF (l:=([0,1,(-1),a1] : List (Int))) Tryz.underlying25 ti3 rfl rfl rfl rfl rfl) ?_
       rintro v45_1 _ ⟨S45_1,hl_v45_1,rfl⟩
       refine F.efn rfl (d_callM (xs:=_) (cs:=[R.box pa0 114 [va0_0,.int .i64 ypa0_1,.int .u64 ypa0_2]]) (rest:=[R.sl S45_1 v45_1 (([0,1,(-1),a1] : List (Int)) : List (Int)),R.sl T5 w5 (x5 : List (Int))]) [1] [0,2] rfl ok194 rfl rfl rfl rfl (fun w hw=>spec_l1Cur_among.ok h46 w (hr_a0_0.down hw) (rdm_sl (i:=0) rfl hw) (Sep.sub hw))) ?_
       rintro _ _ ⟨_,⟨rfl,rfl⟩,rfl⟩
       refine F.qn rfl (r_indexAddrS Tryz.underlying25 ti3 rfl hl_w5 rfl (rdl_some h47).1 (rdl_some h47).2.1) ?_
       refine F.ef0 rfl rfl (wanted_none rfl) (d_storeE (i:=2) (x1:=t46_1) ti3 rfl rfl rfl (rdl_some h47) rfl) ?_
       rintro _ _ ⟨rfl,rfl⟩
       refine F.nil ?_
       cases hE_5
       refine Nrm.only [5] rfl ?_
       refine Nrm.pick [0,2] rfl rfl ?_
       exact hj_4 _ _ ⟨w5,T5,(len_set hl_w5),rfl,rfl⟩
      ·replace hE_5:=if_ff g_2 hE_5
       refine Tri.skip ?_
       cases hE_5
       refine Nrm.only [5] rfl ?_
       refine Nrm.pick [0,1] rfl rfl ?_
       exact hj_4 _ _ ⟨w5,T5,hl_w5,rfl,rfl⟩
    ·rcases Bool.eq_false_or_eq_true (decide ((x5.length : Int) > 0)) with g38 | g38
     ·replace hE_4:=if_tt g38 hE_4
      obtain ⟨⟨t40_1,t40_2,t40_3⟩,h40,hE_4⟩:=bind_some hE_4
      refine Tri.reg (l:=[0,1,2,3,4,5,6]) rfl ?_
      refine F.qn rfl (r_move rfl) (F.qn rfl (r_len Tryz.underlying25 rfl hl_w5) (F.qn rfl (r_gtr rfl rfl) (F.qn rfl (r_move rfl) (F.qg rfl g38 (r_move rfl) ?_))))
      refine F.ef rfl rfl rfl (wg rfl rfl rfl g38) (d_callM (xs:=_) (cs:=[R.box pa0 114 [va0_0,.int .i64 xpa0_1,.int .u64 xpa0_2]]) (rest:=[R.sl T5 w5 (x5 : List (Int))]) [0] [1] rfl ok200 rfl rfl rfl rfl (fun w hw=>spec_l1Cur_one.ok h40 w (hr_a0_0.down hw) (Sep.sub hw))) ?_
      rintro _ _ ⟨_,⟨rfl,rfl⟩,rfl⟩
      refine F.qn rfl (r_pick rfl rfl g38) (F.nil ?_)
      cases hE_4
      refine Nrm.only [0,1,5,41] rfl ?_
      refine Nrm.pick [0,1] rfl rfl ?_
      exact hj_3 _ _ ⟨rfl,rfl⟩
     ·replace hE_4:=if_ff g38 hE_4
      refine Tri.reg (l:=[0,1,2,3,4,5,6]) rfl ?_
      refine F.qn rfl (r_move rfl) ?_
      refine F.qn rfl (r_len Tryz.underlying25 rfl hl_w5) (F.qn rfl (r_gtr rfl rfl) (F.qn rfl (r_move rfl) (F.skf rfl g38 (F.skf rfl g38 (F.qn rfl (r_pickf rfl rfl g38) (F.nil ?_))))))
      cases hE_4
      refine Nrm.only [0,1,5,41] rfl ?_
      refine Nrm.pick [0,1] rfl rfl ?_
      exact hj_3 _ _ ⟨rfl,rfl⟩
  ·rcases Bool.eq_false_or_eq_true (decide (x6 < a1)) with g12 | g12
   ·replace hE_2:=if_tt g12 hE_2
    refine Tri.reg (l:=[0,1,2,3,4,5,6]) rfl ?_
    refine F.qn rfl (r_move rfl) ?_
    refine F.qn rfl (r_move rfl) (F.qn rfl (r_lss rfl rfl) (F.qn rfl (r_move rfl) (F.qg rfl g12 (r_move rfl) (F.qg rfl g12 (r_lss rfl rfl) (F.qn rfl (r_pick rfl rfl g12) (F.nil ?_))))))
    cases hE_2
    refine Nrm.only [0,1,5,6,15] rfl ?_
    refine Nrm.pick [0,1] rfl rfl ?_
    exact hj_1 _ _ ⟨rfl,rfl⟩
   ·replace hE_2:=if_ff g12 hE_2
    refine Tri.reg (l:=[0,1,2,3,4,5,6]) rfl ?_
    refine F.qn rfl (r_move rfl) ?_
    refine F.qn rfl (r_move rfl) (F.qn rfl (r_lss rfl rfl) (F.qn rfl (r_move rfl) (F.skf rfl g12 (F.skf rfl g12 (F.qn rfl (r_pickf rfl rfl g12) (F.nil ?_))))))
    cases hE_2
    refine Nrm.only [0,1,5,6,15] rfl ?_
    refine Nrm.pick [0,1] rfl rfl ?_
    exact hj_1 _ _ ⟨rfl,rfl⟩


def spec_DrawOrderWorlds.f (k : Nat) (a0 : List By) : Option ((List (Int × List (Int × Int × Int) × List Int)) × (List (List Int)) × (List Int)) := (spec_l1Cur_worlds.f k a0 0 0).bind fun (t10_1, t10_2, t10_3, t10_4) => (spec_l1Cur_orderOf.f k a0 t10_3 t10_4 (t10_1.length : Int)).bind fun (t16_1, t16_2, t16_3) => some (t10_1, t10_2, t16_1)

theorem spec_DrawOrderWorlds.ok {k : Nat}  {a0 : List By} {r0 : List (Int × List (Int × Int × Int) × List Int)} {r1 : List (List Int)} {r2 : List Int} (h : spec_DrawOrderWorlds.f k a0 = some (r0, r1, r2)) (w : World) {va0 : Value} (hr_a0 : Rd w va0 a0) :
  Calls Tryz.prog 70 ([va0] : List Value).toArray w (Post (fun u ns=>∃ (ur0 : Value) (Sr0 : Nat → Prop) (ur1 : Value) (Sr1 : Nat → Prop) (ur2 : Value) (Sr2 : Nat → Prop),u = .tuple #[.agg [ur0,ur1].toArray,ur2]∧SlLen ur0 r0.length∧SlLen ur1 r1.length∧SlLen ur2 r2.length∧ns = [R.sl Sr0 ur0 r0,R.sl Sr1 ur1 r1,R.sl Sr2 ur2 r2]) w):=by
 unfold spec_DrawOrderWorlds.f at h
 have hl_va0:=hr_a0.len
 refine Calls.of_tri (N:=17) Tryz.func70 rfl rfl rfl (Sep.nil (M:=noM)) ?_
 refine Tri.seq (Tri.reg (l:=[0,1]) rfl ?_)
 refine F.mn rfl (m_alloc ti88) ?_
 rintro _ _ ⟨b2_1,rfl,rfl⟩
 refine F.qn rfl (r_assign rfl) (F.nil (Nrm.seq (Tri.seq (Tri.reg (l:=[0,1,2,3]) rfl ?_))))
 refine F.qn rfl (r_move rfl) (F.qn rfl (r_build (pl:=[(0,1),(1,1),(2,1)]) (qs:=[(0,[va0])]) (cs:=[va0,.int .i64 0,.int .u64 0]) (by kernel_rfl) ti114 rfl (.cons (sl_cells hl_va0) rfl (Nat.le_of_ble_eq_true rfl) .nil) rfl rfl) ?_)
 refine F.mn rfl (m_boxG rfl rfl) ?_
 rintro _ _ ⟨b8_1,rfl,rfl⟩
 refine F.qn rfl (r_assign rfl) (F.nil (Nrm.seq (Tri.seq ?_)))
 obtain ⟨⟨t10_1,t10_2,t10_3,t10_4⟩,h10,h⟩:=bind_some h
 refine Tri.reg (l:=[0,1,2,3]) rfl ?_
 refine F.qn rfl (r_move rfl) ?_
 refine F.efn rfl (d_callM (xs:=_) (cs:=[R.box b8_1 114 [va0,.int .i64 0,.int .u64 0]]) (rest:=[R.box b2_1 88 [.slice none 0 0,.slice none 0 0]]) [0] [1] rfl ok154 rfl rfl rfl rfl (fun w hw=>spec_l1Cur_worlds.ok h10 w (hr_a0.down hw) (Sep.sub hw))) ?_
 rintro _ _ ⟨_,⟨v10_1,S10_1,v10_2,S10_2,rfl,hl_v10_1,hl_v10_2,rfl⟩,rfl⟩
 refine F.mn rfl (m_alloc ti88) ?_
 rintro _ _ ⟨b5_1,rfl,rfl⟩
 refine F.ef0 rfl rfl (wanted_none rfl) (d_storeG0 (i:=0) (cs2:=[v10_1,v10_2]) ti88 rfl rfl rfl rfl rfl (Nat.le_of_ble_eq_true rfl) (lf_cons (sl_leaf hl_v10_1) (lf_cons (sl_leaf hl_v10_2) lf_nil))) ?_
 rintro _ _ ⟨rfl,rfl⟩
 refine F.nil (Nrm.seq (Tri.seq ?_))
 obtain ⟨⟨t16_1,t16_2,t16_3⟩,h16,h⟩:=bind_some h
 refine Tri.drawK (B:=Sep w noM [R.box b5_1 88 [v10_1,v10_2],R.sl S10_1 v10_1 (t10_1 : List (Int × List (Int × Int × Int) × List Int)),R.sl S10_2 v10_2 (t10_2 : List (List Int)),R.box b2_1 88 [.slice none 0 0,.slice none 0 0]]) mixedT Sep.up [(0,true),(1,true),(2,true),(3,true),(4,true),(5,false)] [6,7] (by kernel_rfl) ?_
 refine K.q [0,1,2,4] rfl rfl rfl rfl rfl (wanted_none rfl) (r_loadA ta88 ti88 rfl rfl (fun w hw=>(box_cells (i:=0) rfl w hw))) ?_
 refine K.q [0,1,2,4] rfl rfl rfl rfl rfl (wanted_none rfl) (r_move rfl) ?_
 refine K.q [0,1,2,4] rfl rfl rfl rfl rfl (wanted_none rfl) (r_fieldAddr tf88_0 rfl) ?_
 refine K.q [0,1,2,4] rfl rfl rfl rfl rfl (wanted_none rfl) (r_load ta85 rfl (fun w hw=>cell_1 (box_cells (i:=0) rfl w hw) rfl)) ?_
 refine K.q [0,1,2,4] rfl rfl rfl rfl rfl (wanted_none rfl) (r_len Tryz.underlying85 rfl hl_v10_1) ?_
 refine B.ef rfl rfl rfl (wanted_none rfl) (d_callM (xs:=_) (cs:=[R.box b8_1 114 [va0,.int .i64 t10_3,.int .u64 t10_4]]) (rest:=[R.box b5_1 88 [v10_1,v10_2],R.sl S10_1 v10_1 (t10_1 : List (Int × List (Int × Int × Int) × List Int)),R.sl S10_2 v10_2 (t10_2 : List (List Int)),R.box b2_1 88 [.slice none 0 0,.slice none 0 0]]) [3] [0,1,2,4] rfl ok155 rfl rfl rfl rfl (fun w hw=>spec_l1Cur_orderOf.ok h16 w (hr_a0.down hw) (Sep.sub hw))) (by rintro v16_2 _ ⟨_,⟨S16_2,hl_v16_2,rfl⟩,rfl⟩; exact upd rfl [2,3,4,5] rfl rfl) ?_
 rintro v16_2 _ ⟨_,⟨S16_2,hl_v16_2,rfl⟩,rfl⟩
 refine B.nil ?_
 refine F.ef0 rfl rfl (wanted_none rfl) (d_storeG0 (i:=5) (cs2:=[v10_1,v10_2]) ti88 rfl rfl rfl rfl rfl (Nat.le_of_ble_eq_true rfl) (lf_cons (sl_leaf hl_v10_1) (lf_cons (sl_leaf hl_v10_2) lf_nil))) ?_
 rintro _ _ ⟨rfl,rfl⟩
 refine F.qn rfl (r_assign rfl) (F.nil (Nrm.seq (Tri.ret ?_)))
 cases h
 exact Rtn.body (.cell rfl ta88 ti88 rfl (fun _ hw=>box_cells (i:=5) rfl _ hw) (.tmp rfl .nil)) (fun w hw=>⟨_,_,rfl,⟨v10_1,S10_1,v10_2,S10_2,v16_2,S16_2,rfl,hl_v10_1,hl_v10_2,hl_v16_2,rfl⟩,Sep.pick (is:=[3,4,0]) rfl rfl hw⟩)


def slices_Clone_int_int.f (k : Nat) (a0 : List Int) : Option ((List Int)) := if (([] : List (Int)) ++ a0).length < 1099511627776 then some (([] : List (Int)) ++ a0) else none

theorem slices_Clone_int_int.ok {k : Nat}  {a0 : List Int} {r0 : List Int} (h : slices_Clone_int_int.f k a0 = some r0) (w : World) {va0 : Value} (hr_a0 : Rd w va0 a0) :
  Calls Tryz.prog 144 ([va0] : List Value).toArray w (Post (fun u ns=>∃ (Sr0 : Nat → Prop),SlLen u r0.length∧ns = [R.sl Sr0 u r0]) w):=by
 unfold slices_Clone_int_int.f at h
 have hl_va0:=hr_a0.len
 rcases Rd.cases hr_a0 with ⟨rfl,rfl⟩ | ⟨pa0,ca0,rfl⟩
 ·replace h : some [] = some r0:=by simpa using h
  refine Calls.of_tri (N:=8) Tryz.func144 rfl rfl rfl (Sep.nil (M:=noM)) ?_
  refine Tri.seq (Tri.reg (l:=[0]) rfl ?_)
  refine F.qn rfl (r_assign rfl) (F.nil (Nrm.seq (Tri.seq (Tri.seq (Tri.reg (l:=[0,1]) rfl ?_)))))
  refine F.qn rfl (r_move rfl) (F.qn rfl (r_eqlNN Tryz.underlying25 rfl rfl) (F.nil (Nrm.seq (Tri.condT rfl rfl ?_))))
  refine Tri.seq (Tri.reg (l:=[0]) rfl ?_)
  refine F.qn rfl (r_assign rfl) (F.nil (Nrm.seq (Tri.ret ?_)))
  refine Rtn.then ?_
  cases h
  exact Rtn.body (.tmp rfl .nil) (fun w hw=>⟨_,_,rfl,⟨fun _=>False,len_nil,rfl⟩,Sep.pick (is:=[0]) rfl rfl hw.pushNil⟩)
 ·refine Calls.of_tri (N:=8) Tryz.func144 rfl rfl rfl (Sep.nil (M:=noM)) ?_
  refine Tri.seq (Tri.reg (l:=[0]) rfl ?_)
  refine F.qn rfl (r_assign rfl) (F.nil (Nrm.seq (Tri.seq (Tri.seq (Tri.reg (l:=[0,1]) rfl ?_)))))
  refine F.qn rfl (r_move rfl) (F.qn rfl (r_eqlN Tryz.underlying25 rfl rfl ⟨_,_,rfl⟩) (F.nil (Nrm.seq (Tri.condF rfl rfl ?_))))
  refine Tri.skip (Nrm.seq (Tri.seq ?_))
  obtain ⟨hs7,h⟩:=ck h
  refine Tri.reg (l:=[0,1,2,3]) rfl ?_
  refine F.mn rfl (m_build0 (α:=Int) Tryz.underlying25 ti3) ?_
  rintro v5_1 _ ⟨S5_1,hl_v5_1,rfl⟩
  refine F.qn rfl (r_move rfl) ?_
  refine F.efn rfl (d_append (i:=0) Tryz.underlying25 Tryz.underlying25 ti3 rfl (by decide) rfl rfl rfl (fun _ hw=>hr_a0.sep hw) hs7) ?_
  rintro v7_1 _ ⟨S7_1,rfl,hl_v7_1⟩
  refine F.qn rfl (r_assign rfl) (F.nil (Nrm.seq (Tri.ret ?_)))
  cases h
  exact Rtn.body (.tmp rfl .nil) (fun w hw=>⟨_,_,rfl,⟨S7_1,hl_v7_1,rfl⟩,Sep.pick (is:=[0]) rfl rfl hw⟩)


def slices_Clone__3int__3int.f (k : Nat) (a0 : List (Int × Int × Int)) : Option ((List (Int × Int × Int))) := if (([] : List (Int × Int × Int)) ++ a0).length < 1099511627776 then some (([] : List (Int × Int × Int)) ++ a0) else none

theorem slices_Clone__3int__3int.ok {k : Nat}  {a0 : List (Int × Int × Int)} {r0 : List (Int × Int × Int)} (h : slices_Clone__3int__3int.f k a0 = some r0) (w : World) {va0 : Value} (hr_a0 : Rd w va0 a0) :
  Calls Tryz.prog 195 ([va0] : List Value).toArray w (Post (fun u ns=>∃ (Sr0 : Nat → Prop),SlLen u r0.length∧ns = [R.sl Sr0 u r0]) w):=by
 unfold slices_Clone__3int__3int.f at h
 have hl_va0:=hr_a0.len
 rcases Rd.cases hr_a0 with ⟨rfl,rfl⟩ | ⟨pa0,ca0,rfl⟩
 ·replace h : some [] = some r0:=by simpa using h
  refine Calls.of_tri (N:=8) Tryz.func195 rfl rfl rfl (Sep.nil (M:=noM)) ?_
  refine Tri.seq (Tri.reg (l:=[0]) rfl ?_)
  refine F.qn rfl (r_assign rfl) (F.nil (Nrm.seq (Tri.seq (Tri.seq (Tri.reg (l:=[0,1]) rfl ?_)))))
  refine F.qn rfl (r_move rfl) (F.qn rfl (r_eqlNN Tryz.underlying24 rfl rfl) (F.nil (Nrm.seq (Tri.condT rfl rfl ?_))))
  refine Tri.seq (Tri.reg (l:=[0]) rfl ?_)
  refine F.qn rfl (r_assign rfl) (F.nil (Nrm.seq (Tri.ret ?_)))
  refine Rtn.then ?_
  cases h
  exact Rtn.body (.tmp rfl .nil) (fun w hw=>⟨_,_,rfl,⟨fun _=>False,len_nil,rfl⟩,Sep.pick (is:=[0]) rfl rfl hw.pushNil⟩)
 ·refine Calls.of_tri (N:=8) Tryz.func195 rfl rfl rfl (Sep.nil (M:=noM)) ?_
  refine Tri.seq (Tri.reg (l:=[0]) rfl ?_)
  refine F.qn rfl (r_assign rfl) (F.nil (Nrm.seq (Tri.seq (Tri.seq (Tri.reg (l:=[0,1]) rfl ?_)))))
  refine F.qn rfl (r_move rfl) (F.qn rfl (r_eqlN Tryz.underlying24 rfl rfl ⟨_,_,rfl⟩) (F.nil (Nrm.seq (Tri.condF rfl rfl ?_))))
  refine Tri.skip (Nrm.seq (Tri.seq ?_))
  obtain ⟨hs7,h⟩:=ck h
  refine Tri.reg (l:=[0,1,2,3]) rfl ?_
  refine F.mn rfl (m_build0 (α:=Int × Int × Int) Tryz.underlying24 ti168) ?_
  rintro v5_1 _ ⟨S5_1,hl_v5_1,rfl⟩
  refine F.qn rfl (r_move rfl) ?_
  refine F.efn rfl (d_append (i:=0) Tryz.underlying24 Tryz.underlying24 ti168 rfl (by decide) rfl rfl rfl (fun _ hw=>hr_a0.sep hw) hs7) ?_
  rintro v7_1 _ ⟨S7_1,rfl,hl_v7_1⟩
  refine F.qn rfl (r_assign rfl) (F.nil (Nrm.seq (Tri.ret ?_)))
  cases h
  exact Rtn.body (.tmp rfl .nil) (fun w hw=>⟨_,_,rfl,⟨S7_1,hl_v7_1,rfl⟩,Sep.pick (is:=[0]) rfl rfl hw⟩)


def impl_own.f (k : Nat) (a0_0 : Int) (a0_1 : List (Int × Int × Int)) (a0_2 : List Int) : Option (Int × (List (Int × Int × Int)) × (List Int)) := (slices_Clone__3int__3int.f k a0_1).bind fun t7 => (slices_Clone_int_int.f k a0_2).bind fun t10 => some (a0_0, t7, t10)

theorem impl_own.ok {k : Nat}  {a0_0 : Int} {a0_1 : List (Int × Int × Int)} {a0_2 : List Int} {r0 : Int} {r1 : List (Int × Int × Int)} {r2 : List Int} (h : impl_own.f k a0_0 a0_1 a0_2 = some (r0, r1, r2)) (w : World) {va0_1 : Value} {va0_2 : Value} (hr_a0_1 : Rd w va0_1 a0_1) (hr_a0_2 : Rd w va0_2 a0_2) :
  Calls Tryz.prog 107 ([.agg ([.int .i64 a0_0,va0_1,va0_2].toArray)] : List Value).toArray w (Post (fun u ns=>∃ (ur1 : Value) (Sr1 : Nat → Prop) (ur2 : Value) (Sr2 : Nat → Prop),u = .agg [.int .i64 r0,ur1,ur2].toArray∧SlLen ur1 r1.length∧SlLen ur2 r2.length∧ns = [R.sl Sr1 ur1 r1,R.sl Sr2 ur2 r2]) w):=by
 unfold impl_own.f at h
 have hl_va0_1:=hr_a0_1.len
 have hl_va0_2:=hr_a0_2.len
 refine Calls.of_tri (N:=12) Tryz.func107 rfl rfl rfl (Sep.nil (M:=noM)) ?_
 refine Tri.seq (Tri.reg (l:=[0,1]) rfl ?_)
 refine F.mn rfl (m_boxG rfl rfl) ?_
 rintro _ _ ⟨b1_1,rfl,rfl⟩
 refine F.mn rfl (m_alloc ti27) ?_
 rintro _ _ ⟨b2_1,rfl,rfl⟩
 refine F.nil (Nrm.seq (Tri.seq ?_))
 obtain ⟨t7,h7,h⟩:=bind_some h
 obtain ⟨t10,h10,h⟩:=bind_some h
 refine Tri.drawA mixedT Sep.up [(0,true),(1,true),(2,true),(3,true),(5,true),(6,true),(4,false),(7,false),(8,true)] [9] (by kernel_rfl) ?_
 refine S.qn rfl (r_fieldAddr tf27_0 rfl) (S.qn rfl (r_load ta3 rfl (fun w hw=>cell_1 (box_cells (i:=1) rfl w hw) rfl)) (S.qn rfl (r_fieldAddr tf27_1 rfl) (S.qn rfl (r_load ta24 rfl (fun w hw=>cell_1 (box_cells (i:=1) rfl w hw) rfl)) (S.qn rfl (r_fieldAddr tf27_2 rfl) (S.qn rfl (r_load ta25 rfl (fun w hw=>cell_1 (box_cells (i:=1) rfl w hw) rfl)) ?_)))))
 refine S.m rfl rfl rfl (wanted_none rfl) (m_callF (xs:=_) rfl ok195 rfl rfl (fun w hw=>slices_Clone__3int__3int.ok h7 w ((fun _ hw=>hr_a0_1.sep hw) w hw))) ?_
 rintro v7_2 _ ⟨_,⟨S7_2,hl_v7_2,rfl⟩,rfl⟩
 refine S.m rfl rfl rfl (wanted_none rfl) (m_callF (xs:=_) rfl ok144 rfl rfl (fun w hw=>slices_Clone_int_int.ok h10 w ((fun _ hw=>hr_a0_2.sep hw) w hw))) ?_
 rintro v10_2 _ ⟨_,⟨S10_2,hl_v10_2,rfl⟩,rfl⟩
 refine S.qn rfl (r_build (pl:=[(0,1),(1,1),(2,1)]) (qs:=[(0,[.int .i64 a0_0]),(1,[v7_2]),(2,[v10_2])]) (cs:=[.int .i64 a0_0,v7_2,v10_2]) (by kernel_rfl) ti27 rfl (.cons rfl rfl (Nat.le_of_ble_eq_true rfl) (.cons (sl_cells hl_v7_2) rfl (Nat.le_of_ble_eq_true rfl) (.cons (sl_cells hl_v10_2) rfl (Nat.le_of_ble_eq_true rfl) .nil))) rfl rfl) (S.nil (F.ef0 rfl rfl (wanted_none rfl) (d_storeG0 (i:=2) (cs2:=[.int .i64 a0_0,v7_2,v10_2]) ti27 rfl rfl rfl rfl rfl (Nat.le_of_ble_eq_true rfl) (lf_cons rfl (lf_cons (sl_leaf hl_v7_2) (lf_cons (sl_leaf hl_v10_2) lf_nil)))) ?_))
 rintro _ _ ⟨rfl,rfl⟩
 refine F.nil (Nrm.seq (Tri.ret ?_))
 cases h
 exact Rtn.body (.cell rfl ta27 ti27 rfl (fun _ hw=>box_cells (i:=2) rfl _ hw) .nil) (fun w hw=>⟨_,_,rfl,⟨v7_2,S7_2,v10_2,S10_2,rfl,hl_v7_2,hl_v10_2,rfl⟩,Sep.pick (is:=[1,0]) rfl rfl hw⟩)


def impl_IsWorlds_1.f (k : Nat) (a0 : Int) (c0_0 : List (Int × List (Int × Int × Int) × List Int)) (c0_1 : List (List Int)) : Option (Bool) := (impl_within.f k a0 0 (w64 ((c0_0.length : Int) - 1))).bind fun t9 => some (!t9)

theorem impl_IsWorlds_1.ok {k : Nat} {pc0 : Addr} {a0 : Int} {c0_0 : List (Int × List (Int × Int × Int) × List Int)} {c0_1 : List (List Int)} {r0 : Bool} (h : impl_IsWorlds_1.f k a0 c0_0 c0_1 = some r0) (w : World) {vc0_0 : Value} {vc0_1 : Value} (hb_c0 : CellsAt w pc0 [vc0_0, vc0_1]) (hr_c0_0 : Rd w vc0_0 c0_0) (hr_c0_1 : Rd w vc0_1 c0_1) :
  Calls Tryz.prog 224 ([.int .i64 a0,.pointer (some pc0)] : List Value).toArray w (fun e w'=>e = .returned (.bool r0)∧Ext w w'):=by
 unfold impl_IsWorlds_1.f at h
 have hl_vc0_0:=hr_c0_0.len
 have hl_vc0_1:=hr_c0_1.len
 refine Calls.of_tri (N:=11) Tryz.func224 rfl rfl rfl (Sep.nil (M:=noM)) ?_
 refine Tri.seq (Tri.reg (l:=[0]) rfl ?_)
 refine F.qn rfl (r_assign rfl) (F.nil (Nrm.seq (Tri.seq ?_)))
 obtain ⟨t9,h9,h⟩:=bind_some h
 refine Tri.reg (l:=[0,1,2,3,4,5,6,7]) rfl ?_
 refine F.qn rfl (r_move rfl) (F.qn rfl (r_fieldAddr tf88_0 rfl) (F.qn rfl (r_load ta85 rfl (fun w hw=>cell_1 (hb_c0.sep hw) rfl)) (F.qn rfl (r_len Tryz.underlying85 rfl hl_vc0_0) (F.qn rfl (r_sub rfl rfl) ?_))))
 refine F.qcn rfl (q_callF (xs:=_) rfl ok103 rfl rfl (fun w hw=>impl_within.ok h9 w)) ?_
 refine F.qn rfl (r_not rfl) (F.qn rfl (r_assign rfl) (F.nil (Nrm.seq (Tri.ret ?_))))
 cases h
 exact Rtn.body (.tmp rfl .nil) (fun w hw=>⟨rfl,hw.ext⟩)


def impl_IsWorlds.l0 (k : Nat) (a0_0 : List (Int × List (Int × Int × Int) × List Int)) (a0_1 : List (List Int)) : Nat → Int → Option ((Unit) ⊕ (Bool))
 | 0,_=>none
 | n + 1,x22=>(if (decide (x22 < (a0_0.length : Int))) = true then (rdl a0_0 x22).bind fun t25=>((impl_IsMaze.f k t25.1 t25.2.1 t25.2.2).bind fun t28=>(if (!t28) = true then some true else (rdl a0_1 x22).bind fun t34=>some ((t34.length : Int) != t25.1))).bind fun y40=>(if y40 = true then some (Sum.inr false) else (rdl a0_1 x22).bind fun t44=>(slices_ContainsFunc_int_int.f k t44 (fun z0=>impl_IsWorlds_1.f k z0 a0_0 a0_1)).bind fun t47=>(if t47 = true then some (Sum.inr false) else impl_IsWorlds.l0 k a0_0 a0_1 n (w64 (x22 + 1)))) else some (Sum.inl ()))

def impl_IsWorlds.f (k : Nat) (a0_0 : List (Int × List (Int × Int × Int) × List Int)) (a0_1 : List (List Int)) : Option (Bool) := ((impl_within.f k (a0_0.length : Int) 1 3).bind fun t8 => (if (!t8) = true then some true else some ((a0_1.length : Int) != (a0_0.length : Int)))).bind fun y18 => (if y18 = true then some false else (impl_IsWorlds.l0 k a0_0 a0_1 k 0).bind fun s => Lr s some fun _ => some true)

theorem impl_IsWorlds.ok {k : Nat}  {a0_0 : List (Int × List (Int × Int × Int) × List Int)} {a0_1 : List (List Int)} {r0 : Bool} (h : impl_IsWorlds.f k a0_0 a0_1 = some r0) (w : World) {va0_0 : Value} {va0_1 : Value} (hr_a0_0 : Rd w va0_0 a0_0) (hr_a0_1 : Rd w va0_1 a0_1) :
  Calls Tryz.prog 156 ([.agg ([va0_0,va0_1].toArray)] : List Value).toArray w (fun e w'=>e = .returned (.bool r0)∧Ext w w'):=by
 unfold impl_IsWorlds.f at h
 have hl_va0_0:=hr_a0_0.len
 have hl_va0_1:=hr_a0_1.len
 refine Calls.of_tri (N:=49) Tryz.func156 rfl rfl rfl (Sep.nil (M:=noM)) ?_
 refine Tri.seq (Tri.reg (l:=[0,1]) rfl ?_)
 refine F.mn rfl (m_boxG rfl rfl) ?_
 rintro _ _ ⟨b1_1,rfl,rfl⟩
 refine F.qn rfl (r_assign rfl) (F.nil (Nrm.seq (Tri.seq (Tri.seq ?_))))
 obtain ⟨y18,hE_1,h⟩:=bind_some h
 refine Tri.cut (fun e' C'=>e' = [(1,.pointer (some ⟨b1_1,0,none⟩)),(18,.bool y18)]∧C' = Sep w noM [R.box b1_1 88 [va0_0,va0_1]]) ?_ (fun hj_1=>?_)
 ·rintro _ _ ⟨rfl,rfl⟩
  refine Nrm.seq (Tri.cond (b:=y18) rfl (fun g_1=>?_) (fun g_1=>?_))
  ·replace h:=if_tt g_1 h
   refine Tri.seq (Tri.reg (l:=[0]) rfl ?_)
   refine F.qn rfl (r_assign rfl) (F.nil (Nrm.seq (Tri.ret ?_)))
   refine Rtn.then ?_
   cases h
   exact Rtn.body (.tmp rfl .nil) (fun w hw=>⟨rfl,hw.ext⟩)
  ·replace h:=if_ff g_1 h
   refine Tri.skip (Nrm.seq (Tri.seq (Tri.seq (Tri.reg (l:=[0,1,2,3]) rfl ?_))))
   refine F.qn rfl (r_fieldAddr tf88_0 rfl) (F.qn rfl (r_load ta85 rfl (fun w hw=>cell_1 (box_cells (i:=0) rfl w hw) rfl)) (F.qn rfl (r_len Tryz.underlying85 rfl hl_va0_0) (F.qn rfl (r_move rfl) (F.nil (Nrm.seq ?_)))))
   obtain ⟨s0,hE_2,h⟩:=bind_some h
   refine Tri.block ?_
   refine Tri.only [1,20,21,22] rfl ?_
   refine Tri.pick [0] rfl rfl ?_
   refine Tri.rounds (fun n e' C'=>∃ (x22' : Int),impl_IsWorlds.l0 k a0_0 a0_1 n x22' = some s0∧e' = [(1,.pointer (some ⟨b1_1,0,none⟩)),(20,va0_0),(21,.int .i64 (a0_0.length : Int)),(22,.int .i64 x22')]∧C' = Sep w noM [R.box b1_1 88 [va0_0,va0_1]]) k ?_ ?_ ?_
   ·exact ⟨0,hE_2,rfl,rfl⟩
   ·rintro _ _ ⟨_,hE_2,_⟩
    rw [impl_IsWorlds.l0.eq_1] at hE_2; cases hE_2
   ·rintro n_1 _ _ ⟨x22,hE_2,rfl,rfl⟩ ih_1
    rw [impl_IsWorlds.l0.eq_2] at hE_2
    refine Tri.seq (Tri.reg (l:=[0]) rfl ?_)
    refine F.qn rfl (r_lss rfl rfl) (F.nil (Nrm.seq (Tri.seq (Tri.cond (b:=decide (x22 < (a0_0.length : Int))) rfl (fun g_2=>?_) (fun g_2=>?_)))))
    ·replace hE_2:=if_tt g_2 hE_2
     refine Tri.skip (Nrm.seq (Tri.seq (Tri.block ?_)))
     refine Tri.seq ?_
     obtain ⟨t25,h25,hE_2⟩:=bind_some hE_2
     obtain ⟨_,hc25,hp25⟩:=Rd.elem hr_a0_0 (rdl_some h25).2.2
     obtain ⟨v25_1,v25_2,rfl,hr_v25_1,hr_v25_2⟩:=op27 hp25
     have hl_v25_1:=hr_v25_1.len
     have hl_v25_2:=hr_v25_2.len
     refine Tri.reg (l:=[0,1,2,3,4,5]) rfl ?_
     refine F.qn rfl (r_move rfl) (F.qn rfl (r_indexAddrS Tryz.underlying85 ti27 rfl hl_va0_0 rfl (rdl_some h25).1 (rdl_some h25).2.1) (F.qn rfl (r_loadA ta27 ti27 rfl rfl (fun w hw=>(hc25.sep hw))) ?_))
     refine F.mn rfl (m_alloc ti27) ?_
     rintro _ _ ⟨b4_1,rfl,rfl⟩
     refine F.qn rfl (r_assign rfl) ?_
     refine F.ef0 rfl rfl (wanted_none rfl) (d_storeG0 (i:=0) (cs2:=[.int .i64 t25.1,v25_1,v25_2]) ti27 rfl rfl rfl rfl rfl (Nat.le_of_ble_eq_true rfl) (lf_cons rfl (lf_cons (sl_leaf hl_v25_1) (lf_cons (sl_leaf hl_v25_2) lf_nil)))) ?_
     rintro _ _ ⟨rfl,rfl⟩
     refine F.nil (Nrm.seq (Tri.seq (Tri.seq ?_)))
     obtain ⟨y40,hE_3,hE_2⟩:=bind_some hE_2
     refine Tri.cut (fun e' C'=>e' = [(1,.pointer (some ⟨b1_1,0,none⟩)),(3,.int .i64 x22),(20,va0_0),(21,.int .i64 (a0_0.length : Int)),(22,.int .i64 x22),(40,.bool y40)]∧C' = Sep w noM [R.box b1_1 88 [va0_0,va0_1]]) ?_ (fun hj_2=>?_)
     ·rintro _ _ ⟨rfl,rfl⟩
      refine Nrm.seq (Tri.cond (b:=y40) rfl (fun g_3=>?_) (fun g_3=>?_))
      ·replace hE_2:=if_tt g_3 hE_2
       refine Tri.seq (Tri.reg (l:=[0]) rfl ?_)
       refine F.qn rfl (r_assign rfl) (F.nil (Nrm.seq (Tri.ret ?_)))
       refine Rtn.then ?_
       refine Rtn.block ?_
       refine Rtn.then ?_
       refine Rtn.then ?_
       refine Rtn.block ?_
       refine Rtn.then ?_
       cases hE_2
       replace h:=Lr_inr h
       cases h
       exact Rtn.body (.tmp rfl .nil) (fun w hw=>⟨rfl,hw.ext⟩)
      ·replace hE_2:=if_ff g_3 hE_2
       refine Tri.skip (Nrm.seq (Tri.seq ?_))
       obtain ⟨t44,h44,hE_2⟩:=bind_some hE_2
       obtain ⟨_,hc44,hp44⟩:=Rd.elem hr_a0_1 (rdl_some h44).2.2
       obtain ⟨v44_0,rfl,hr_v44_0⟩:=op25 hp44
       have hl_v44_0:=hr_v44_0.len
       obtain ⟨t47,h47,hE_2⟩:=bind_some hE_2
       refine Tri.reg (l:=[0,1,2,3,4,5,6]) rfl ?_
       refine F.qn rfl (r_fieldAddr tf88_1 rfl) (F.qn rfl (r_load ta86 rfl (fun w hw=>cell_1 (box_cells (i:=0) rfl w hw) rfl)) (F.qn rfl (r_move rfl) (F.qn rfl (r_indexAddrS Tryz.underlying86 ti25 rfl hl_va0_1 rfl (rdl_some h44).1 (rdl_some h44).2.1) (F.qn rfl (r_load ta25 rfl (fun w hw=>cell_0 (hc44.sep hw) rfl)) (F.qn rfl (r_makeFunc rfl) ?_)))))
       refine F.qcn rfl (q_callF (xs:=_) rfl ok179 rfl rfl (fun w hw=>slices_ContainsFunc_int_int.ok h47 w ((fun _ hw=>hr_v44_0.sep hw) w hw) ok224 (fun w2 he2 z0 y2 hy2=>impl_IsWorlds_1.ok hy2 w2 ((box_cells (i:=0) rfl w hw).ext he2) (((fun _ hw=>hr_a0_0.sep hw) w hw).ext he2) (((fun _ hw=>hr_a0_1.sep hw) w hw).ext he2)))) ?_
       refine F.nil (Nrm.seq (Tri.cond (b:=t47) rfl (fun g_4=>?_) (fun g_4=>?_)))
       ·replace hE_2:=if_tt g_4 hE_2
        refine Tri.seq (Tri.reg (l:=[0]) rfl ?_)
        refine F.qn rfl (r_assign rfl) (F.nil (Nrm.seq (Tri.ret ?_)))
        refine Rtn.block ?_
        refine Rtn.then ?_
        refine Rtn.then ?_
        refine Rtn.block ?_
        refine Rtn.then ?_
        cases hE_2
        replace h:=Lr_inr h
        cases h
        exact Rtn.body (.tmp rfl .nil) (fun w hw=>⟨rfl,hw.ext⟩)
       ·replace hE_2:=if_ff g_4 hE_2
        refine Tri.skip (Nrm.block ?_)
        refine Nrm.seq (Tri.reg (l:=[0,1]) rfl ?_)
        refine F.qn rfl (r_add rfl rfl) (F.qn rfl (r_move rfl) (F.nil (Nrm.round ?_)))
        refine Rnd.only [1,20,21,22] rfl ?_
        refine Rnd.pick [0] rfl rfl ?_
        exact ih_1 _ _ ⟨w64 (x22 + 1),hE_2,rfl,rfl⟩
     ·obtain ⟨t28,h28,hE_3⟩:=bind_some hE_3
      rcases Bool.eq_false_or_eq_true (!t28) with g30 | g30
      ·replace hE_3:=if_tt g30 hE_3
       refine Tri.drawA mixedT Sep.up [(0,true),(1,true),(2,true),(3,true),(4,true),(5,true),(6,true),(7,true),(8,true),(9,true),(10,true),(11,true),(12,true),(13,true)] [] (by kernel_rfl) ?_
       refine S.qn rfl (r_loadA ta27 ti27 rfl rfl (fun w hw=>(box_cells (i:=0) rfl w hw))) ?_
       refine S.qcn rfl (q_callF (xs:=_) rfl ok102 rfl rfl (fun w hw=>impl_IsMaze.ok h28 w ((fun _ hw=>hr_v25_1.sep hw) w hw) ((fun _ hw=>hr_v25_2.sep hw) w hw))) ?_
       refine S.qn rfl (r_not rfl) (S.qn rfl (r_move rfl) ?_)
       iterate 9 refine S.skf rfl g30 ?_
       refine S.qn rfl (r_pick rfl rfl g30) (S.nil (F.nil ?_))
       cases hE_3
       refine Nrm.only [1,3,20,21,22,40] rfl ?_
       refine Nrm.pick [1] rfl rfl ?_
       exact hj_2 _ _ ⟨rfl,rfl⟩
      ·replace hE_3:=if_ff g30 hE_3
       obtain ⟨t34,h34,hE_3⟩:=bind_some hE_3
       obtain ⟨_,hc34,hp34⟩:=Rd.elem hr_a0_1 (rdl_some h34).2.2
       obtain ⟨v34_0,rfl,hr_v34_0⟩:=op25 hp34
       have hl_v34_0:=hr_v34_0.len
       refine Tri.drawA mixedT Sep.up [(0,true),(1,true),(2,true),(3,true),(4,true),(5,true),(6,true),(7,true),(8,true),(9,true),(10,true),(11,true),(12,true),(13,true)] [] (by kernel_rfl) ?_
       refine S.qn rfl (r_loadA ta27 ti27 rfl rfl (fun w hw=>(box_cells (i:=0) rfl w hw))) ?_
       refine S.qcn rfl (q_callF (xs:=_) rfl ok102 rfl rfl (fun w hw=>impl_IsMaze.ok h28 w ((fun _ hw=>hr_v25_1.sep hw) w hw) ((fun _ hw=>hr_v25_2.sep hw) w hw))) ?_
       refine S.qn rfl (r_not rfl) (S.qn rfl (r_move rfl) (S.qg rfl g30 (r_fieldAddr tf88_1 rfl) (S.qg rfl g30 (r_load ta86 rfl (fun w hw=>cell_1 (box_cells (i:=1) rfl w hw) rfl)) (S.qg rfl g30 (r_move rfl) (S.qg rfl g30 (r_indexAddrS Tryz.underlying86 ti25 rfl hl_va0_1 rfl (rdl_some h34).1 (rdl_some h34).2.1) ?_)))))
       refine S.qg rfl g30 (r_load ta25 rfl (fun w hw=>cell_0 (hc34.sep hw) rfl)) (S.qg rfl g30 (r_len Tryz.underlying25 rfl hl_v34_0) (S.qg rfl g30 (r_fieldAddr tf27_0 rfl) (S.qg rfl g30 (r_load ta3 rfl (fun w hw=>cell_1 (box_cells (i:=0) rfl w hw) rfl)) (S.qg rfl g30 (r_neq rfl rfl) (S.qn rfl (r_pickf rfl rfl g30) (S.nil (F.nil ?_)))))))
       cases hE_3
       refine Nrm.only [1,3,20,21,22,40] rfl ?_
       refine Nrm.pick [1] rfl rfl ?_
       exact hj_2 _ _ ⟨rfl,rfl⟩
    ·replace hE_2:=if_ff g_2 hE_2
     refine Tri.exit ?_
     refine Exi.then ?_
     refine Exi.then ?_
     refine Exi.same ?_
     cases hE_2
     replace h:=Lr_inl h
     refine Nrm.seq (Tri.seq (Tri.reg (l:=[0]) rfl ?_))
     refine F.qn rfl (r_assign rfl) (F.nil (Nrm.seq (Tri.ret ?_)))
     cases h
     exact Rtn.body (.tmp rfl .nil) (fun w hw=>⟨rfl,hw.ext⟩)
 ·obtain ⟨t8,h8,hE_1⟩:=bind_some hE_1
  rcases Bool.eq_false_or_eq_true (!t8) with g10 | g10
  ·replace hE_1:=if_tt g10 hE_1
   refine Tri.reg (l:=List.range 14) rfl ?_
   refine F.qn rfl (r_fieldAddr tf88_0 rfl) (F.qn rfl (r_load ta85 rfl (fun w hw=>cell_1 (box_cells (i:=0) rfl w hw) rfl)) (F.qn rfl (r_len Tryz.underlying85 rfl hl_va0_0) ?_))
   refine F.qcn rfl (q_callF (xs:=_) rfl ok103 rfl rfl (fun w hw=>impl_within.ok h8 w)) ?_
   refine F.qn rfl (r_not rfl) (F.qn rfl (r_move rfl) ?_)
   iterate 7 refine F.skf rfl g10 ?_
   refine F.qn rfl (r_pick rfl rfl g10) (F.nil ?_)
   cases hE_1
   refine Nrm.only [1,18] rfl ?_
   refine Nrm.pick [0] rfl rfl ?_
   exact hj_1 _ _ ⟨rfl,rfl⟩
  ·replace hE_1:=if_ff g10 hE_1
   refine Tri.reg (l:=List.range 14) rfl ?_
   refine F.qn rfl (r_fieldAddr tf88_0 rfl) (F.qn rfl (r_load ta85 rfl (fun w hw=>cell_1 (box_cells (i:=0) rfl w hw) rfl)) (F.qn rfl (r_len Tryz.underlying85 rfl hl_va0_0) ?_))
   refine F.qcn rfl (q_callF (xs:=_) rfl ok103 rfl rfl (fun w hw=>impl_within.ok h8 w)) ?_
   refine F.qn rfl (r_not rfl) (F.qn rfl (r_move rfl) (F.qg rfl g10 (r_fieldAddr tf88_1 rfl) (F.qg rfl g10 (r_load ta86 rfl (fun w hw=>cell_1 (box_cells (i:=0) rfl w hw) rfl)) ?_)))
   refine F.qg rfl g10 (r_len Tryz.underlying86 rfl hl_va0_1) (F.qg rfl g10 (r_fieldAddr tf88_0 rfl) (F.qg rfl g10 (r_load ta85 rfl (fun w hw=>cell_1 (box_cells (i:=0) rfl w hw) rfl)) (F.qg rfl g10 (r_len Tryz.underlying85 rfl hl_va0_0) (F.qg rfl g10 (r_neq rfl rfl) (F.qn rfl (r_pickf rfl rfl g10) (F.nil ?_))))))
   cases hE_1
   refine Nrm.only [1,18] rfl ?_
   refine Nrm.pick [0] rfl rfl ?_
   exact hj_1 _ _ ⟨rfl,rfl⟩

end Go.Proofs

/- Contracts of the library, laid at this seat. 1b1ef0016f2c464e -/
namespace Go.Proofs
open Go.Shelf
def Tryz.sortInt_ren : Go.Shelf.Ren := ⟨fun | 5 => 225 | 8 => 236 | 7 => 247 | 19 => 258 | 20 => 259 | 10 => 269 | 11 => 270 | 12 => 271 | 13 => 272 | 14 => 273 | 15 => 274 | 16 => 218 | 17 => 275 | 18 => 276 | 30 => 285 | 31 => 280 | 32 => 281 | 33 => 286 | 34 => 287 | 35 => 245 | 40 => 297 | n => n, fun | 23 => 25 | 25 => 3 | 3 => 3 | 32 => 192 | 22 => 25 | 0 => 0 | 44 => 217 | 46 => 112 | 4 => 4 | 36 => 211 | 35 => 210 | 41 => 32 | 5 => 5 | 9 => 9 | 53 => 230 | 57 => 234 | 63 => 239 | 64 => 240 | n => n, fun | n => n⟩
theorem Tryz.sortInt : Go.Proofs.SlLaysM.n5 Tryz.prog Tryz.sortInt_ren := {
 mixed:=by kernel_rfl
 f5:=⟨Tryz.f225.name,by decide,Tryz.func225.trans (congrArg some (by kernel_rfl))⟩
 f7:=⟨Tryz.f247.name,by decide,Tryz.func247.trans (congrArg some (by kernel_rfl))⟩
 f8:=Tryz.func236.trans (congrArg some (by kernel_rfl))
 f10:=⟨Tryz.f269.name,by decide,Tryz.func269.trans (congrArg some (by kernel_rfl))⟩
 f11:=⟨Tryz.f270.name,by decide,Tryz.func270.trans (congrArg some (by kernel_rfl))⟩
 f12:=⟨Tryz.f271.name,by decide,Tryz.func271.trans (congrArg some (by kernel_rfl))⟩
 f13:=⟨Tryz.f272.name,by decide,Tryz.func272.trans (congrArg some (by kernel_rfl))⟩
 f14:=⟨Tryz.f273.name,by decide,Tryz.func273.trans (congrArg some (by kernel_rfl))⟩
 f15:=⟨Tryz.f274.name,by decide,Tryz.func274.trans (congrArg some (by kernel_rfl))⟩
 f16:=⟨Tryz.f218.name,by decide,Tryz.func218.trans (congrArg some (by kernel_rfl))⟩
 f17:=⟨Tryz.f275.name,by decide,Tryz.func275.trans (congrArg some (by kernel_rfl))⟩
 f18:=⟨Tryz.f276.name,by decide,Tryz.func276.trans (congrArg some (by kernel_rfl))⟩
 f19:=Tryz.func258.trans (congrArg some (by kernel_rfl))
 f20:=Tryz.func259.trans (congrArg some (by kernel_rfl))
 f30:=⟨Tryz.f285.name,by decide,Tryz.func285.trans (congrArg some (by kernel_rfl))⟩
 f31:=Tryz.func280.trans (congrArg some (by kernel_rfl))
 f32:=Tryz.func281.trans (congrArg some (by kernel_rfl))
 f33:=⟨Tryz.f286.name,by decide,Tryz.func286.trans (congrArg some (by kernel_rfl))⟩
 f34:=⟨Tryz.f287.name,by decide,Tryz.func287.trans (congrArg some (by kernel_rfl))⟩
 f35:=⟨Tryz.f245.name,by decide,Tryz.func245.trans (congrArg some (by kernel_rfl))⟩
 f40:=⟨Tryz.f297.name,by decide,Tryz.func297.trans (congrArg some (by kernel_rfl))⟩
 t0:=Tryz.underlying0
 a0:=Tryz.isAgg0
 z0:=Tryz.sizeOf0
 v0:=Tryz.zeroValue0
 t3:=Tryz.underlying3
 a3:=Tryz.isAgg3
 z3:=Tryz.sizeOf3
 v3:=Tryz.zeroValue3
 t4:=Tryz.underlying4
 a4:=Tryz.isAgg4
 z4:=Tryz.sizeOf4
 v4:=Tryz.zeroValue4
 t5:=Tryz.underlying5
 a5:=Tryz.isAgg5
 z5:=Tryz.sizeOf5
 v5:=Tryz.zeroValue5
 t9:=Tryz.underlying9
 a9:=Tryz.isAgg9
 z9:=Tryz.sizeOf9
 v9:=Tryz.zeroValue9
 t22:=Tryz.underlying25
 a22:=Tryz.isAgg25
 z22:=Tryz.sizeOf25
 v22:=Tryz.zeroValue25
 t23:=Tryz.underlying25
 a23:=Tryz.isAgg25
 z23:=Tryz.sizeOf25
 v23:=Tryz.zeroValue25
 t25:=Tryz.underlying3
 a25:=Tryz.isAgg3
 z25:=Tryz.sizeOf3
 v25:=Tryz.zeroValue3
 t32:=Tryz.underlying192
 a32:=Tryz.isAgg192
 z32:=Tryz.sizeOf192
 v32:=Tryz.zeroValue192
 t35:=Tryz.underlying210
 a35:=Tryz.isAgg210
 z35:=Tryz.sizeOf210
 v35:=Tryz.zeroValue210
 t36:=Tryz.underlying211
 a36:=Tryz.isAgg211
 z36:=Tryz.sizeOf211
 v36:=Tryz.zeroValue211
 t41:=Tryz.underlying32
 a41:=Tryz.isAgg32
 z41:=Tryz.sizeOf32
 v41:=Tryz.zeroValue32
 t44:=Tryz.underlying217
 a44:=Tryz.isAgg217
 z44:=Tryz.sizeOf217
 v44:=Tryz.zeroValue217
 t46:=Tryz.underlying112
 a46:=Tryz.isAgg112
 z46:=Tryz.sizeOf112
 v46:=Tryz.zeroValue112
 t53:=Tryz.underlying230
 a53:=Tryz.isAgg230
 z53:=Tryz.sizeOf230
 v53:=Tryz.zeroValue230
 t57:=Tryz.underlying234
 a57:=Tryz.isAgg234
 z57:=Tryz.sizeOf234
 v57:=Tryz.zeroValue234
 t63:=Tryz.underlying239
 a63:=Tryz.isAgg239
 z63:=Tryz.sizeOf239
 v63:=Tryz.zeroValue239
 t64:=Tryz.underlying240
 a64:=Tryz.isAgg240
 z64:=Tryz.sizeOf240
 v64:=Tryz.zeroValue240 }
end Go.Proofs

/- slices.Sort[[]int,int] -/

namespace Go.Proofs
open Go Go.Ga
set_option linter.unusedVariables false
set_option maxRecDepth 100000
set_option maxHeartbeats 4000000
def slices_Sort_int_int.f (k : Nat) (a0 : List Int) : Option (List Int) := if a0.length < 4611686018427387904 then some (a0.mergeSort fun x y => decide (x ≤ y)) else none

theorem slices_Sort_int_int.ok {k : Nat} {a0 : List Int} {r0 : List Int} (h : slices_Sort_int_int.f k a0 = some r0) (w : World) {va0 : Value} {Sa0 : Nat → Prop} (hl_va0 : SlLen va0 a0.length) (hw0 : Sep w (footM [R.sl Sa0 va0 a0]) [R.sl Sa0 va0 a0] w) :
  Calls Tryz.prog 225 ([va0] : List Value).toArray w (PostM (footM [R.sl Sa0 va0 a0]) (fun u ns=>u = .tuple #[]∧SlLen va0 r0.length∧ns = [R.sl Sa0 va0 r0]) w) :=
 sortInt_ok (fun w=>AnyM.slices_Sort_int_none Tryz.sortInt none 0 w) (fun blk off cap zs w h1 h2 h3=>AnyM.slices_Sort_int Tryz.sortInt blk off cap zs w h1 h2 h3) h w hl_va0 hw0


def slices_Equal_int_int.l0 (k : Nat) (a0 : List Int) (a1 : List Int) : Nat → Int → Option ((Unit) ⊕ (Bool))
 | 0,_=>none
 | n + 1,x13=>(if (decide (x13 < (a0.length : Int))) = true then (rdl a0 x13).bind fun t18=>(rdl a1 x13).bind fun t22=>(if (t18 != t22) = true then some (Sum.inr false) else slices_Equal_int_int.l0 k a0 a1 n (w64 (x13 + 1))) else some (Sum.inl ()))

def slices_Equal_int_int.f (k : Nat) (a0 : List Int) (a1 : List Int) : Option (Bool) := (if ((a0.length : Int) != (a1.length : Int)) = true then some false else (slices_Equal_int_int.l0 k a0 a1 k 0).bind fun s => Lr s some fun _ => some true)

theorem slices_Equal_int_int.ok {k : Nat}  {a0 : List Int} {a1 : List Int} {r0 : Bool} (h : slices_Equal_int_int.f k a0 a1 = some r0) (w : World) {va0 : Value} {va1 : Value} (hr_a0 : Rd w va0 a0) (hr_a1 : Rd w va1 a1) :
  Calls Tryz.prog 226 ([va0,va1] : List Value).toArray w (fun e w'=>e = .returned (.bool r0)∧Ext w w'):=by
 unfold slices_Equal_int_int.f at h
 have hl_va0:=hr_a0.len
 have hl_va1:=hr_a1.len
 refine Calls.of_tri (N:=26) Tryz.func226 rfl rfl rfl (Sep.nil (M:=noM)) ?_
 refine Tri.seq (Tri.reg (l:=[0]) rfl ?_)
 refine F.qn rfl (r_assign rfl) (F.nil (Nrm.seq (Tri.seq (Tri.seq (Tri.reg (l:=[0,1,2,3,4]) rfl ?_)))))
 refine F.qn rfl (r_move rfl) (F.qn rfl (r_len Tryz.underlying25 rfl hl_va0) (F.qn rfl (r_move rfl) (F.qn rfl (r_len Tryz.underlying25 rfl hl_va1) (F.qn rfl (r_neq rfl rfl) (F.nil (Nrm.seq (Tri.cond (b:=(a0.length : Int) != (a1.length : Int)) rfl (fun g_1=>?_) (fun g_1=>?_))))))))
 ·replace h:=if_tt g_1 h
  refine Tri.seq (Tri.reg (l:=[0]) rfl ?_)
  refine F.qn rfl (r_assign rfl) (F.nil (Nrm.seq (Tri.ret ?_)))
  refine Rtn.then ?_
  cases h
  exact Rtn.body (.tmp rfl .nil) (fun w hw=>⟨rfl,hw.ext⟩)
 ·replace h:=if_ff g_1 h
  refine Tri.skip (Nrm.seq (Tri.seq (Tri.seq (Tri.reg (l:=[0,1,2]) rfl ?_))))
  refine F.qn rfl (r_move rfl) (F.qn rfl (r_len Tryz.underlying25 rfl hl_va0) (F.qn rfl (r_move rfl) (F.nil (Nrm.seq ?_))))
  obtain ⟨s0,hE_1,h⟩:=bind_some h
  refine Tri.block ?_
  refine Tri.only [0,1,12,13] rfl ?_
  refine Tri.pick [] rfl rfl ?_
  refine Tri.rounds (fun n e' C'=>∃ (x13' : Int),slices_Equal_int_int.l0 k a0 a1 n x13' = some s0∧e' = [(0,va0),(1,va1),(12,.int .i64 (a0.length : Int)),(13,.int .i64 x13')]∧C' = Sep w noM []) k ?_ ?_ ?_
  ·exact ⟨0,hE_1,rfl,rfl⟩
  ·rintro _ _ ⟨_,hE_1,_⟩
   rw [slices_Equal_int_int.l0.eq_1] at hE_1; cases hE_1
  ·rintro n_1 _ _ ⟨x13,hE_1,rfl,rfl⟩ ih_1
   rw [slices_Equal_int_int.l0.eq_2] at hE_1
   refine Tri.seq (Tri.reg (l:=[0]) rfl ?_)
   refine F.qn rfl (r_lss rfl rfl) (F.nil (Nrm.seq (Tri.seq (Tri.cond (b:=decide (x13 < (a0.length : Int))) rfl (fun g_2=>?_) (fun g_2=>?_)))))
   ·replace hE_1:=if_tt g_2 hE_1
    refine Tri.skip (Nrm.seq (Tri.seq (Tri.block ?_)))
    refine Tri.seq (Tri.reg (l:=[0,1]) rfl ?_)
    refine F.qn rfl (r_move rfl) (F.qn rfl (r_assign rfl) (F.nil (Nrm.seq (Tri.seq ?_))))
    obtain ⟨t18,h18,hE_1⟩:=bind_some hE_1
    obtain ⟨t22,h22,hE_1⟩:=bind_some hE_1
    refine Tri.drawA mixedT Sep.up [(0,true),(1,true),(2,true),(3,true),(4,true),(5,true),(6,true),(7,true),(8,true)] [] (by kernel_rfl) ?_
    refine S.qn rfl (r_move rfl) (S.qn rfl (r_move rfl) (S.qn rfl (r_indexAddrS Tryz.underlying25 ti3 rfl hl_va0 rfl (rdl_some h18).1 (rdl_some h18).2.1) ?_))
    refine S.qn rfl (r_load ta3 rfl (fun w hw=>cell_0 (Rd.flat ((fun _ hw=>hr_a0.sep hw) w hw) (rdl_some h18).2.2) rfl)) (S.qn rfl (r_move rfl) (S.qn rfl (r_move rfl) (S.qn rfl (r_indexAddrS Tryz.underlying25 ti3 rfl hl_va1 rfl (rdl_some h22).1 (rdl_some h22).2.1) (S.qn rfl (r_load ta3 rfl (fun w hw=>cell_0 (Rd.flat ((fun _ hw=>hr_a1.sep hw) w hw) (rdl_some h22).2.2) rfl)) (S.qn rfl (r_neq rfl rfl) (S.nil (F.nil (Nrm.seq (Tri.cond (b:=t18 != t22) rfl (fun g_3=>?_) (fun g_3=>?_))))))))))
    ·replace hE_1:=if_tt g_3 hE_1
     refine Tri.seq (Tri.reg (l:=[0]) rfl ?_)
     refine F.qn rfl (r_assign rfl) (F.nil (Nrm.seq (Tri.ret ?_)))
     refine Rtn.block ?_
     refine Rtn.then ?_
     refine Rtn.then ?_
     refine Rtn.block ?_
     refine Rtn.then ?_
     cases hE_1
     replace h:=Lr_inr h
     cases h
     exact Rtn.body (.tmp rfl .nil) (fun w hw=>⟨rfl,hw.ext⟩)
    ·replace hE_1:=if_ff g_3 hE_1
     refine Tri.skip (Nrm.block ?_)
     refine Nrm.seq (Tri.reg (l:=[0,1]) rfl ?_)
     refine F.qn rfl (r_add rfl rfl) (F.qn rfl (r_move rfl) (F.nil (Nrm.round ?_)))
     refine Rnd.only [0,1,12,13] rfl ?_
     refine Rnd.pick [] rfl rfl ?_
     exact ih_1 _ _ ⟨w64 (x13 + 1),hE_1,rfl,rfl⟩
   ·replace hE_1:=if_ff g_2 hE_1
    refine Tri.exit ?_
    refine Exi.then ?_
    refine Exi.then ?_
    refine Exi.same ?_
    cases hE_1
    replace h:=Lr_inl h
    refine Nrm.seq (Tri.seq (Tri.reg (l:=[0]) rfl ?_))
    refine F.qn rfl (r_assign rfl) (F.nil (Nrm.seq (Tri.ret ?_)))
    cases h
    exact Rtn.body (.tmp rfl .nil) (fun w hw=>⟨rfl,hw.ext⟩)


def impl_counting.l0 (k : Nat) (a0 : Int) : Nat → (List (Int)) → Int → Option ((List (Int)))
 | 0,_,_=>none
 | n + 1,x3,x7=>(if (decide (x7 < a0)) = true then if (x3 ++ ([x7] : List (Int))).length < 1099511627776 then impl_counting.l0 k a0 n (x3 ++ ([x7] : List (Int))) (w64 (x7 + 1)) else none else some x3)

def impl_counting.f (k : Nat) (a0 : Int) : Option ((List Int)) := (impl_counting.l0 k a0 k ([] : List (Int)) 0).bind fun x3 => some x3

theorem impl_counting.ok {k : Nat}  {a0 : Int} {r0 : List Int} (h : impl_counting.f k a0 = some r0) (w : World) :
  Calls Tryz.prog 227 ([.int .i64 a0] : List Value).toArray w (Post (fun u ns=>∃ (Sr0 : Nat → Prop),SlLen u r0.length∧ns = [R.sl Sr0 u r0]) w):=by
 unfold impl_counting.f at h
 refine Calls.of_tri (N:=16) Tryz.func227 rfl rfl rfl (Sep.nil (M:=noM)) ?_
 refine Tri.seq (Tri.reg (l:=[0]) rfl ?_)
 refine F.qn rfl (r_assign rfl) (F.nil (Nrm.seq (Tri.seq (Tri.reg (l:=[0,1]) rfl ?_))))
 refine F.mn rfl (m_build0 (α:=Int) Tryz.underlying25 ti3) ?_
 rintro v5_1 _ ⟨S5_1,hl_v5_1,rfl⟩
 refine F.qn rfl (r_assign rfl) (F.nil (Nrm.seq (Tri.seq (Tri.seq (Tri.reg (l:=[0,1]) rfl ?_)))))
 refine F.qn rfl (r_move rfl) (F.qn rfl (r_move rfl) (F.nil (Nrm.seq ?_)))
 obtain ⟨x3,hE_1,h⟩:=bind_some h
 refine Tri.block ?_
 refine Tri.only [3,6,7] rfl ?_
 refine Tri.pick [0] rfl rfl ?_
 refine Tri.rounds (fun n e' C'=>∃ (x3' : List (Int)) (x7' : Int) (w3 : Value) (T3 : Nat → Prop),impl_counting.l0 k a0 n x3' x7' = some x3∧SlLen w3 (x3').length∧e' = [(3,w3),(6,.int .i64 a0),(7,.int .i64 x7')]∧C' = Sep w noM [R.sl T3 w3 (x3' : List (Int))]) k ?_ ?_ ?_
 ·exact ⟨([] : List (Int)),0,v5_1,S5_1,hE_1,hl_v5_1,rfl,rfl⟩
 ·rintro _ _ ⟨_,_,_,_,hE_1,_⟩
  rw [impl_counting.l0.eq_1] at hE_1; cases hE_1
 ·rintro n_1 _ _ ⟨x3,x7,w3,T3,hE_1,hl_w3,rfl,rfl⟩ ih_1
  rw [impl_counting.l0.eq_2] at hE_1
  refine Tri.seq (Tri.reg (l:=[0]) rfl ?_)
  refine F.qn rfl (r_lss rfl rfl) (F.nil (Nrm.seq (Tri.seq (Tri.cond (b:=decide (x7 < a0)) rfl (fun g_1=>?_) (fun g_1=>?_)))))
  ·replace hE_1:=if_tt g_1 hE_1
   refine Tri.skip (Nrm.seq (Tri.seq (Tri.block ?_)))
   refine Tri.seq (Tri.reg (l:=[0,1]) rfl ?_)
   refine F.qn rfl (r_move rfl) (F.qn rfl (r_assign rfl) (F.nil (Nrm.seq ?_)))
   obtain ⟨hs13,hE_1⟩:=ck hE_1
   refine Tri.reg (l:=[0,1,2,3,4]) rfl ?_
   refine F.qn rfl (r_move rfl) (F.qn rfl (r_move rfl) ?_)
   refine F.mn rfl (m_buildF (l:=([x7] : List (Int))) Tryz.underlying25 ti3 rfl rfl rfl rfl rfl) ?_
   rintro v12_1 _ ⟨S12_1,hl_v12_1,rfl⟩
   refine F.efn rfl (d_append (i:=1) Tryz.underlying25 Tryz.underlying25 ti3 rfl (by decide) rfl rfl rfl (rd_sl (i:=0) rfl) hs13) ?_
   rintro v13_1 _ ⟨S13_1,rfl,hl_v13_1⟩
   refine F.qn rfl (r_assign rfl) (F.nil (Nrm.block ?_))
   refine Nrm.seq (Tri.reg (l:=[0,1]) rfl ?_)
   refine F.qn rfl (r_add rfl rfl) (F.qn rfl (r_move rfl) (F.nil (Nrm.round ?_)))
   refine Rnd.only [3,6,7] rfl ?_
   refine Rnd.pick [1] rfl rfl ?_
   exact ih_1 _ _ ⟨x3 ++ ([x7] : List (Int)),w64 (x7 + 1),v13_1,S13_1,hE_1,hl_v13_1,rfl,rfl⟩
  ·replace hE_1:=if_ff g_1 hE_1
   refine Tri.exit ?_
   refine Exi.then ?_
   refine Exi.then ?_
   refine Exi.same ?_
   cases hE_1
   refine Nrm.seq (Tri.seq (Tri.reg (l:=[0,1]) rfl ?_))
   refine F.qn rfl (r_move rfl) (F.qn rfl (r_assign rfl) (F.nil (Nrm.seq (Tri.ret ?_))))
   cases h
   exact Rtn.body (.tmp rfl .nil) (fun w hw=>⟨_,_,rfl,⟨T3,hl_w3,rfl⟩,Sep.pick (is:=[0]) rfl rfl hw⟩)


def impl_isOrder.f (k : Nat) (a0 : List Int) (a1 : Int) : Option (Bool) := (slices_Clone_int_int.f k a0).bind fun t7 => (slices_Sort_int_int.f k t7).bind fun t9 => (impl_counting.f k a1).bind fun t12 => (slices_Equal_int_int.f k t9 t12).bind fun t13 => some t13

theorem impl_isOrder.ok {k : Nat}  {a0 : List Int} {a1 : Int} {r0 : Bool} (h : impl_isOrder.f k a0 a1 = some r0) (w : World) {va0 : Value} (hr_a0 : Rd w va0 a0) :
  Calls Tryz.prog 157 ([va0,.int .i64 a1] : List Value).toArray w (fun e w'=>e = .returned (.bool r0)∧Ext w w'):=by
 unfold impl_isOrder.f at h
 have hl_va0:=hr_a0.len
 refine Calls.of_tri (N:=14) Tryz.func157 rfl rfl rfl (Sep.nil (M:=noM)) ?_
 refine Tri.seq (Tri.reg (l:=[0]) rfl ?_)
 refine F.qn rfl (r_assign rfl) (F.nil (Nrm.seq (Tri.seq ?_)))
 obtain ⟨t7,h7,h⟩:=bind_some h
 refine Tri.reg (l:=[0,1,2]) rfl ?_
 refine F.qn rfl (r_move rfl) ?_
 refine F.mn rfl (m_callF (xs:=_) rfl ok144 rfl rfl (fun w hw=>slices_Clone_int_int.ok h7 w ((fun _ hw=>hr_a0.sep hw) w hw))) ?_
 rintro v7_1 _ ⟨_,⟨S7_1,hl_v7_1,rfl⟩,rfl⟩
 refine F.qn rfl (r_assign rfl) (F.nil (Nrm.seq (Tri.seq ?_)))
 obtain ⟨t9,h9,h⟩:=bind_some h
 refine Tri.reg (l:=[0,1]) rfl ?_
 refine F.qn rfl (r_move rfl) ?_
 refine F.efn rfl (d_callM (xs:=_) (cs:=[R.sl S7_1 v7_1 (t7 : List (Int))]) (rest:=[]) [0] [] rfl ok225 rfl rfl rfl rfl (fun w hw=>slices_Sort_int_int.ok h9 w hl_v7_1 (Sep.sub hw))) ?_
 rintro _ _ ⟨_,⟨rfl,hl_t9,rfl⟩,rfl⟩
 refine F.nil (Nrm.seq (Tri.seq ?_))
 obtain ⟨t12,h12,h⟩:=bind_some h
 obtain ⟨t13,h13,h⟩:=bind_some h
 refine Tri.reg (l:=[0,1,2,3,4]) rfl ?_
 refine F.qn rfl (r_move rfl) (F.qn rfl (r_move rfl) ?_)
 refine F.mn rfl (m_callF (xs:=_) rfl ok227 rfl rfl (fun w hw=>impl_counting.ok h12 w)) ?_
 rintro v12_1 _ ⟨_,⟨S12_1,hl_v12_1,rfl⟩,rfl⟩
 refine F.qcn rfl (q_callF (xs:=_) rfl ok226 rfl rfl (fun w hw=>slices_Equal_int_int.ok h13 w ((rd_sl (i:=1) rfl) w hw) ((rd_sl (i:=0) rfl) w hw))) ?_
 refine F.qn rfl (r_assign rfl) (F.nil (Nrm.seq (Tri.ret ?_)))
 cases h
 exact Rtn.body (.tmp rfl .nil) (fun w hw=>⟨rfl,hw.ext⟩)


def slices_Index_int_int.l0 (k : Nat) (a0 : List Int) (a1 : Int) : Nat → Int → Option ((Unit) ⊕ (Int))
 | 0,_=>none
 | n + 1,x8=>(if (decide (x8 < (a0.length : Int))) = true then (rdl a0 x8).bind fun t14=>(if (a1 == t14) = true then some (Sum.inr x8) else slices_Index_int_int.l0 k a0 a1 n (w64 (x8 + 1))) else some (Sum.inl ()))

def slices_Index_int_int.f (k : Nat) (a0 : List Int) (a1 : Int) : Option (Int) := (slices_Index_int_int.l0 k a0 a1 k 0).bind fun s => Lr s some fun _ => some (-1)

theorem slices_Index_int_int.ok {k : Nat}  {a0 : List Int} {a1 : Int} {r0 : Int} (h : slices_Index_int_int.f k a0 a1 = some r0) (w : World) {va0 : Value} (hr_a0 : Rd w va0 a0) :
  Calls Tryz.prog 158 ([va0,.int .i64 a1] : List Value).toArray w (fun e w'=>e = .returned (.int .i64 r0)∧Ext w w'):=by
 unfold slices_Index_int_int.f at h
 have hl_va0:=hr_a0.len
 refine Calls.of_tri (N:=19) Tryz.func158 rfl rfl rfl (Sep.nil (M:=noM)) ?_
 refine Tri.seq (Tri.reg (l:=[0]) rfl ?_)
 refine F.qn rfl (r_assign rfl) (F.nil (Nrm.seq (Tri.seq (Tri.seq (Tri.reg (l:=[0,1,2]) rfl ?_)))))
 refine F.qn rfl (r_move rfl) (F.qn rfl (r_len Tryz.underlying25 rfl hl_va0) (F.qn rfl (r_move rfl) (F.nil (Nrm.seq ?_))))
 obtain ⟨s0,hE_1,h⟩:=bind_some h
 refine Tri.block ?_
 refine Tri.only [0,1,7,8] rfl ?_
 refine Tri.pick [] rfl rfl ?_
 refine Tri.rounds (fun n e' C'=>∃ (x8' : Int),slices_Index_int_int.l0 k a0 a1 n x8' = some s0∧e' = [(0,va0),(1,.int .i64 a1),(7,.int .i64 (a0.length : Int)),(8,.int .i64 x8')]∧C' = Sep w noM []) k ?_ ?_ ?_
 ·exact ⟨0,hE_1,rfl,rfl⟩
 ·rintro _ _ ⟨_,hE_1,_⟩
  rw [slices_Index_int_int.l0.eq_1] at hE_1; cases hE_1
 ·rintro n_1 _ _ ⟨x8,hE_1,rfl,rfl⟩ ih_1
  rw [slices_Index_int_int.l0.eq_2] at hE_1
  refine Tri.seq (Tri.reg (l:=[0]) rfl ?_)
  refine F.qn rfl (r_lss rfl rfl) (F.nil (Nrm.seq (Tri.seq (Tri.cond (b:=decide (x8 < (a0.length : Int))) rfl (fun g_1=>?_) (fun g_1=>?_)))))
  ·replace hE_1:=if_tt g_1 hE_1
   refine Tri.skip (Nrm.seq (Tri.seq (Tri.block ?_)))
   refine Tri.seq (Tri.reg (l:=[0,1]) rfl ?_)
   refine F.qn rfl (r_move rfl) (F.qn rfl (r_assign rfl) (F.nil (Nrm.seq (Tri.seq ?_))))
   obtain ⟨t14,h14,hE_1⟩:=bind_some hE_1
   refine Tri.reg (l:=[0,1,2,3,4,5]) rfl ?_
   iterate 3 refine F.qn rfl (r_move rfl) ?_
   refine F.qn rfl (r_indexAddrS Tryz.underlying25 ti3 rfl hl_va0 rfl (rdl_some h14).1 (rdl_some h14).2.1) (F.qn rfl (r_load ta3 rfl (fun w hw=>cell_0 (Rd.flat ((fun _ hw=>hr_a0.sep hw) w hw) (rdl_some h14).2.2) rfl)) (F.qn rfl (r_eql rfl rfl) (F.nil (Nrm.seq (Tri.cond (b:=a1 == t14) rfl (fun g_2=>?_) (fun g_2=>?_))))))
   ·replace hE_1:=if_tt g_2 hE_1
    refine Tri.seq (Tri.reg (l:=[0,1]) rfl ?_)
    refine F.qn rfl (r_move rfl) (F.qn rfl (r_assign rfl) (F.nil (Nrm.seq (Tri.ret ?_))))
    refine Rtn.block ?_
    refine Rtn.then ?_
    refine Rtn.then ?_
    refine Rtn.block ?_
    refine Rtn.then ?_
    cases hE_1
    replace h:=Lr_inr h
    cases h
    exact Rtn.body (.tmp rfl .nil) (fun w hw=>⟨rfl,hw.ext⟩)
   ·replace hE_1:=if_ff g_2 hE_1
    refine Tri.skip (Nrm.block ?_)
    refine Nrm.seq (Tri.reg (l:=[0,1]) rfl ?_)
    refine F.qn rfl (r_add rfl rfl) (F.qn rfl (r_move rfl) (F.nil (Nrm.round ?_)))
    refine Rnd.only [0,1,7,8] rfl ?_
    refine Rnd.pick [] rfl rfl ?_
    exact ih_1 _ _ ⟨w64 (x8 + 1),hE_1,rfl,rfl⟩
  ·replace hE_1:=if_ff g_1 hE_1
   refine Tri.exit ?_
   refine Exi.then ?_
   refine Exi.then ?_
   refine Exi.same ?_
   cases hE_1
   replace h:=Lr_inl h
   refine Nrm.seq (Tri.seq (Tri.reg (l:=[0]) rfl ?_))
   refine F.qn rfl (r_assign rfl) (F.nil (Nrm.seq (Tri.ret ?_)))
   cases h
   exact Rtn.body (.tmp rfl .nil) (fun w hw=>⟨rfl,hw.ext⟩)


def impl_OrderWorlds.l1 (k : Nat) (a1 : List Int) (t35 : List Int) : Nat → (List (Int)) → Int → Option ((List (Int)))
 | 0,_,_=>none
 | n + 1,x9,x38=>(if (decide (x38 < (t35.length : Int))) = true then (rdl t35 x38).bind fun t40=>(slices_Index_int_int.f k a1 t40).bind fun t45=>if (x9 ++ ([t45] : List (Int))).length < 1099511627776 then impl_OrderWorlds.l1 k a1 t35 n (x9 ++ ([t45] : List (Int))) (w64 (x38 + 1)) else none else some x9)

def impl_OrderWorlds.l0 (k : Nat) (a0_0 : List (Int × List (Int × Int × Int) × List Int)) (a0_1 : List (List Int)) (a1 : List Int) : Nat → Int → (List (Int × List (Int × Int × Int) × List Int)) → (List (List Int)) → Option ((List (Int × List (Int × Int × Int) × List Int)) × (List (List Int)))
 | 0,_,_,_=>none
 | n + 1,x27,xq6_1_0,xq6_1_1=>(if (decide (x27 < (a1.length : Int))) = true then (rdl a1 x27).bind fun t29=>(rdl a0_1 t29).bind fun t35=>(impl_OrderWorlds.l1 k a1 t35 k ([] : List (Int)) 0).bind fun x9=>(rdl a0_0 t29).bind fun t54=>(impl_own.f k t54.1 t54.2.1 t54.2.2).bind fun (t56_1,t56_2,t56_3)=>if ((xq6_1_0 : List (Int × List (Int × Int × Int) × List Int)) ++ ([(t56_1,t56_2,t56_3)] : List (Int × List (Int × Int × Int) × List Int))).length < 1099511627776 then if ((xq6_1_1 : List (List Int)) ++ ([x9] : List (List Int))).length < 1099511627776 then impl_OrderWorlds.l0 k a0_0 a0_1 a1 n (w64 (x27 + 1)) ((xq6_1_0 : List (Int × List (Int × Int × Int) × List Int)) ++ ([(t56_1,t56_2,t56_3)] : List (Int × List (Int × Int × Int) × List Int))) ((xq6_1_1 : List (List Int)) ++ ([x9] : List (List Int))) else none else none else some (xq6_1_0,xq6_1_1))

def impl_OrderWorlds.f (k : Nat) (a0_0 : List (Int × List (Int × Int × Int) × List Int)) (a0_1 : List (List Int)) (a1 : List Int) : Option ((List (Int × List (Int × Int × Int) × List Int)) × (List (List Int)) × Bool) := ((impl_IsWorlds.f k a0_0 a0_1).bind fun t13 => (if (!t13) = true then some true else (impl_isOrder.f k a1 (a0_0.length : Int)).bind fun t20 => some (!t20))).bind fun y22 => (if y22 = true then some ([], [], false) else (impl_OrderWorlds.l0 k a0_0 a0_1 a1 k 0 ([] : List (Int × List (Int × Int × Int) × List Int)) ([] : List (List Int))).bind fun (xq6_1_0, xq6_1_1) => some (xq6_1_0, xq6_1_1, true))

theorem impl_OrderWorlds.ok {k : Nat}  {a0_0 : List (Int × List (Int × Int × Int) × List Int)} {a0_1 : List (List Int)} {a1 : List Int} {r0 : List (Int × List (Int × Int × Int) × List Int)} {r1 : List (List Int)} {r2 : Bool} (h : impl_OrderWorlds.f k a0_0 a0_1 a1 = some (r0, r1, r2)) (w : World) {va0_0 : Value} {va0_1 : Value} {va1 : Value} (hr_a0_0 : Rd w va0_0 a0_0) (hr_a0_1 : Rd w va0_1 a0_1) (hr_a1 : Rd w va1 a1) :
  Calls Tryz.prog 71 ([.agg ([va0_0,va0_1].toArray),va1] : List Value).toArray w (Post (fun u ns=>∃ (ur0 : Value) (Sr0 : Nat → Prop) (ur1 : Value) (Sr1 : Nat → Prop),u = .tuple #[.agg [ur0,ur1].toArray,.bool r2]∧SlLen ur0 r0.length∧SlLen ur1 r1.length∧ns = [R.sl Sr0 ur0 r0,R.sl Sr1 ur1 r1]) w):=by
 unfold impl_OrderWorlds.f at h
 have hl_va0_0:=hr_a0_0.len
 have hl_va0_1:=hr_a0_1.len
 have hl_va1:=hr_a1.len
 refine Calls.of_tri (N:=68) Tryz.func71 rfl rfl rfl (Sep.nil (M:=noM)) ?_
 refine Tri.seq (Tri.reg (l:=[0,1,2]) rfl ?_)
 refine F.mn rfl (m_boxG rfl rfl) ?_
 rintro _ _ ⟨b2_1,rfl,rfl⟩
 refine F.mn rfl (m_alloc ti88) ?_
 rintro _ _ ⟨b4_1,rfl,rfl⟩
 refine F.qn rfl (r_assign rfl) (F.nil (Nrm.seq (Tri.seq (Tri.seq ?_))))
 obtain ⟨y22,hE_1,h⟩:=bind_some h
 refine Tri.cut (fun e' C'=>e' = [(1,va1),(2,.pointer (some ⟨b2_1,0,none⟩)),(4,.pointer (some ⟨b4_1,0,none⟩)),(22,.bool y22)]∧C' = Sep w noM [R.box b4_1 88 [.slice none 0 0,.slice none 0 0],R.box b2_1 88 [va0_0,va0_1]]) ?_ (fun hj_1=>?_)
 ·rintro _ _ ⟨rfl,rfl⟩
  refine Nrm.seq (Tri.cond (b:=y22) rfl (fun g_1=>?_) (fun g_1=>?_))
  ·replace h:=if_tt g_1 h
   refine Tri.seq (Tri.reg (l:=[0,1,2]) rfl ?_)
   refine F.qn rfl (r_build (pl:=[(0,1),(1,1)]) (qs:=[]) (cs:=[.slice none 0 0,.slice none 0 0]) (by kernel_rfl) ti88 rfl .nil rfl rfl) ?_
   refine F.ef0 rfl rfl (wanted_none rfl) (d_storeG0 (i:=0) (cs2:=[.slice none 0 0,.slice none 0 0]) ti88 rfl rfl rfl rfl rfl (Nat.le_of_ble_eq_true rfl) (lf_cons rfl (lf_cons rfl lf_nil))) ?_
   rintro _ _ ⟨rfl,rfl⟩
   refine F.qn rfl (r_assign rfl) (F.nil (Nrm.seq (Tri.ret ?_)))
   refine Rtn.then ?_
   cases h
   exact Rtn.body (.cell rfl ta88 ti88 rfl (fun _ hw=>box_cells (i:=0) rfl _ hw) (.tmp rfl .nil)) (fun w hw=>⟨_,_,rfl,⟨.slice none 0 0,fun _=>False,.slice none 0 0,fun _=>False,rfl,len_nil,len_nil,rfl⟩,Sep.pick (is:=[0,1]) rfl rfl hw.pushNil.pushNil⟩)
  ·replace h:=if_ff g_1 h
   refine Tri.skip (Nrm.seq (Tri.seq (Tri.reg (l:=[0,1,2]) rfl ?_)))
   refine F.qn rfl (r_build (pl:=[(0,1),(1,1)]) (qs:=[]) (cs:=[.slice none 0 0,.slice none 0 0]) (by kernel_rfl) ti88 rfl .nil rfl rfl) ?_
   refine F.mn rfl (m_alloc ti88) ?_
   rintro _ _ ⟨b6_1,rfl,rfl⟩
   refine F.ef0 rfl rfl (wanted_none rfl) (d_storeG0 (i:=0) (cs2:=[.slice none 0 0,.slice none 0 0]) ti88 rfl rfl rfl rfl rfl (Nat.le_of_ble_eq_true rfl) (lf_cons rfl (lf_cons rfl lf_nil))) ?_
   rintro _ _ ⟨rfl,rfl⟩
   refine F.nil (Nrm.seq (Tri.seq (Tri.seq (Tri.reg (l:=[0,1,2]) rfl ?_))))
   refine F.qn rfl (r_move rfl) (F.qn rfl (r_len Tryz.underlying25 rfl hl_va1) (F.qn rfl (r_move rfl) (F.nil (Nrm.seq ?_))))
   obtain ⟨⟨xq6_1_0,xq6_1_1⟩,hE_2,h⟩:=bind_some h
   refine Tri.imp (fun w hw=>hw.pushNil (α:=Int × List (Int × Int × Int) × List Int)) ?_
   refine Tri.imp (fun w hw=>hw.pushNil (α:=List Int)) ?_
   refine Tri.block ?_
   refine Tri.only [1,2,4,6,25,26,27] rfl ?_
   refine Tri.pick [2,3,4,0,1] rfl rfl ?_
   refine Tri.rounds (fun n e' C'=>∃ (x27' : Int) (xq6_1_0' : List (Int × List (Int × Int × Int) × List Int)) (xq6_1_1' : List (List Int)) (wq6_1_0 : Value) (Tq6_1_0 : Nat → Prop) (wq6_1_1 : Value) (Tq6_1_1 : Nat → Prop),impl_OrderWorlds.l0 k a0_0 a0_1 a1 n x27' xq6_1_0' xq6_1_1' = some (xq6_1_0,xq6_1_1)∧SlLen wq6_1_0 (xq6_1_0').length∧SlLen wq6_1_1 (xq6_1_1').length∧e' = [(1,va1),(2,.pointer (some ⟨b2_1,0,none⟩)),(4,.pointer (some ⟨b4_1,0,none⟩)),(6,.pointer (some ⟨b6_1,0,none⟩)),(25,va1),(26,.int .i64 (a1.length : Int)),(27,.int .i64 x27')]∧C' = Sep w noM [R.box b6_1 88 [wq6_1_0,wq6_1_1],R.box b4_1 88 [.slice none 0 0,.slice none 0 0],R.box b2_1 88 [va0_0,va0_1],R.sl Tq6_1_1 wq6_1_1 (xq6_1_1' : List (List Int)),R.sl Tq6_1_0 wq6_1_0 (xq6_1_0' : List (Int × List (Int × Int × Int) × List Int))]) k ?_ ?_ ?_
   ·exact ⟨0,([] : List (Int × List (Int × Int × Int) × List Int)),([] : List (List Int)),(nilv 0),(fun _=>False),(nilv 1),(fun _=>False),hE_2,len_nil,len_nil,rfl,rfl⟩
   ·rintro _ _ ⟨_,_,_,_,_,_,_,hE_2,_⟩
    rw [impl_OrderWorlds.l0.eq_1] at hE_2; cases hE_2
   ·rintro n_1 _ _ ⟨x27,xq6_1_0,xq6_1_1,wq6_1_0,Tq6_1_0,wq6_1_1,Tq6_1_1,hE_2,hl_wq6_1_0,hl_wq6_1_1,rfl,rfl⟩ ih_1
    rw [impl_OrderWorlds.l0.eq_2] at hE_2
    refine Tri.seq (Tri.reg (l:=[0]) rfl ?_)
    refine F.qn rfl (r_lss rfl rfl) (F.nil (Nrm.seq (Tri.seq (Tri.cond (b:=decide (x27 < (a1.length : Int))) rfl (fun g_2=>?_) (fun g_2=>?_)))))
    ·replace hE_2:=if_tt g_2 hE_2
     refine Tri.skip (Nrm.seq (Tri.seq (Tri.block ?_)))
     refine Tri.seq ?_
     obtain ⟨t29,h29,hE_2⟩:=bind_some hE_2
     refine Tri.reg (l:=[0,1,2]) rfl ?_
     refine F.qn rfl (r_indexAddrS Tryz.underlying25 ti3 rfl hl_va1 rfl (rdl_some h29).1 (rdl_some h29).2.1) (F.qn rfl (r_load ta3 rfl (fun w hw=>cell_0 (Rd.flat ((fun _ hw=>hr_a1.sep hw) w hw) (rdl_some h29).2.2) rfl)) (F.qn rfl (r_assign rfl) (F.nil (Nrm.seq (Tri.seq (Tri.reg (l:=[0,1]) rfl ?_))))))
     refine F.mn rfl (m_build0 (α:=Int) Tryz.underlying25 ti3) ?_
     rintro v31_1 _ ⟨S31_1,hl_v31_1,rfl⟩
     refine F.qn rfl (r_assign rfl) (F.nil (Nrm.seq (Tri.seq (Tri.seq ?_))))
     obtain ⟨t35,h35,hE_2⟩:=bind_some hE_2
     obtain ⟨_,hc35,hp35⟩:=Rd.elem hr_a0_1 (rdl_some h35).2.2
     obtain ⟨v35_0,rfl,hr_v35_0⟩:=op25 hp35
     have hl_v35_0:=hr_v35_0.len
     refine Tri.reg (l:=[0,1,2,3,4,5,6]) rfl ?_
     refine F.qn rfl (r_fieldAddr tf88_1 rfl) ?_
     refine F.qn rfl (r_load ta86 rfl (fun w hw=>cell_1 (box_cells (i:=3) rfl w hw) rfl)) (F.qn rfl (r_move rfl) (F.qn rfl (r_indexAddrS Tryz.underlying86 ti25 rfl hl_va0_1 rfl (rdl_some h35).1 (rdl_some h35).2.1) (F.qn rfl (r_load ta25 rfl (fun w hw=>cell_0 (hc35.sep hw) rfl)) (F.qn rfl (r_len Tryz.underlying25 rfl hl_v35_0) (F.qn rfl (r_move rfl) (F.nil (Nrm.seq ?_)))))))
     obtain ⟨x9,hE_3,hE_2⟩:=bind_some hE_2
     refine Tri.block ?_
     refine Tri.only [1,2,4,6,8,9,25,26,27,36,37,38] rfl ?_
     refine Tri.pick [1,2,3,0,4,5] rfl rfl ?_
     refine Tri.rounds (fun n e' C'=>∃ (x9' : List (Int)) (x38' : Int) (w9 : Value) (T9 : Nat → Prop),impl_OrderWorlds.l1 k a1 t35 n x9' x38' = some x9∧SlLen w9 (x9').length∧e' = [(1,va1),(2,.pointer (some ⟨b2_1,0,none⟩)),(4,.pointer (some ⟨b4_1,0,none⟩)),(6,.pointer (some ⟨b6_1,0,none⟩)),(8,.int .i64 t29),(9,w9),(25,va1),(26,.int .i64 (a1.length : Int)),(27,.int .i64 x27),(36,v35_0),(37,.int .i64 (t35.length : Int)),(38,.int .i64 x38')]∧C' = Sep w noM [R.box b6_1 88 [wq6_1_0,wq6_1_1],R.box b4_1 88 [.slice none 0 0,.slice none 0 0],R.box b2_1 88 [va0_0,va0_1],R.sl T9 w9 (x9' : List (Int)),R.sl Tq6_1_1 wq6_1_1 (xq6_1_1 : List (List Int)),R.sl Tq6_1_0 wq6_1_0 (xq6_1_0 : List (Int × List (Int × Int × Int) × List Int))]) k ?_ ?_ ?_
     ·exact ⟨([] : List (Int)),0,v31_1,S31_1,hE_3,hl_v31_1,rfl,rfl⟩
     ·rintro _ _ ⟨_,_,_,_,hE_3,_⟩
      rw [impl_OrderWorlds.l1.eq_1] at hE_3; cases hE_3
     ·rintro n_2 _ _ ⟨x9,x38,w9,T9,hE_3,hl_w9,rfl,rfl⟩ ih_2
      rw [impl_OrderWorlds.l1.eq_2] at hE_3
      refine Tri.seq (Tri.reg (l:=[0]) rfl ?_)
      refine F.qn rfl (r_lss rfl rfl) (F.nil (Nrm.seq (Tri.seq (Tri.cond (b:=decide (x38 < (t35.length : Int))) rfl (fun g_3=>?_) (fun g_3=>?_)))))
      ·replace hE_3:=if_tt g_3 hE_3
       refine Tri.skip (Nrm.seq (Tri.seq (Tri.block ?_)))
       refine Tri.seq ?_
       obtain ⟨t40,h40,hE_3⟩:=bind_some hE_3
       refine Tri.reg (l:=[0,1,2]) rfl ?_
       refine F.qn rfl (r_indexAddrS Tryz.underlying25 ti3 rfl hl_v35_0 rfl (rdl_some h40).1 (rdl_some h40).2.1) (F.qn rfl (r_load ta3 rfl (fun w hw=>cell_0 (Rd.flat ((fun _ hw=>hr_v35_0.sep hw) w hw) (rdl_some h40).2.2) rfl)) (F.qn rfl (r_assign rfl) (F.nil (Nrm.seq ?_))))
       obtain ⟨t45,h45,hE_3⟩:=bind_some hE_3
       obtain ⟨hs47,hE_3⟩:=ck hE_3
       refine Tri.reg (l:=[0,1,2,3,4,5,6]) rfl ?_
       iterate 3 refine F.qn rfl (r_move rfl) ?_
       refine F.qcn rfl (q_callF (xs:=_) rfl ok158 rfl rfl (fun w hw=>slices_Index_int_int.ok h45 w ((fun _ hw=>hr_a1.sep hw) w hw))) ?_
       refine F.mn rfl (m_buildF (l:=([t45] : List (Int))) Tryz.underlying25 ti3 rfl rfl rfl rfl rfl) ?_
       rintro v46_1 _ ⟨S46_1,hl_v46_1,rfl⟩
       refine F.efn rfl (d_append (i:=4) Tryz.underlying25 Tryz.underlying25 ti3 rfl (by decide) rfl rfl rfl (rd_sl (i:=0) rfl) hs47) ?_
       rintro v47_1 _ ⟨S47_1,rfl,hl_v47_1⟩
       refine F.qn rfl (r_assign rfl) (F.nil (Nrm.block ?_))
       refine Nrm.seq (Tri.reg (l:=[0,1]) rfl ?_)
       refine F.qn rfl (r_add rfl rfl) (F.qn rfl (r_move rfl) (F.nil (Nrm.round ?_)))
       refine Rnd.only [1,2,4,6,8,9,25,26,27,36,37,38] rfl ?_
       refine Rnd.pick [1,2,3,4,5,6] rfl rfl ?_
       exact ih_2 _ _ ⟨x9 ++ ([t45] : List (Int)),w64 (x38 + 1),v47_1,S47_1,hE_3,hl_v47_1,rfl,rfl⟩
      ·replace hE_3:=if_ff g_3 hE_3
       refine Tri.exit ?_
       refine Exi.then ?_
       refine Exi.then ?_
       refine Exi.same ?_
       cases hE_3
       refine Nrm.seq (Tri.seq ?_)
       obtain ⟨t54,h54,hE_2⟩:=bind_some hE_2
       obtain ⟨_,hc54,hp54⟩:=Rd.elem hr_a0_0 (rdl_some h54).2.2
       obtain ⟨v54_1,v54_2,rfl,hr_v54_1,hr_v54_2⟩:=op27 hp54
       have hl_v54_1:=hr_v54_1.len
       have hl_v54_2:=hr_v54_2.len
       obtain ⟨⟨t56_1,t56_2,t56_3⟩,h56,hE_2⟩:=bind_some hE_2
       obtain ⟨hs58,hE_2⟩:=ck hE_2
       refine Tri.drawB mixedT Sep.up [(0,true),(1,true),(2,true),(3,true),(4,true),(5,true),(6,true),(7,false),(8,false)] [9,10,11] (by kernel_rfl) ?_
       refine B.q rfl rfl rfl (wanted_none rfl) (r_fieldAddr tf88_0 rfl) ?_
       refine B.q rfl rfl rfl (wanted_none rfl) (r_load ta85 rfl (fun w hw=>cell_1 (box_cells (i:=0) rfl w hw) rfl)) ?_
       refine B.q rfl rfl rfl (wanted_none rfl) (r_fieldAddr tf88_0 rfl) ?_
       refine B.q rfl rfl rfl (wanted_none rfl) (r_load ta85 rfl (fun w hw=>cell_1 (box_cells (i:=2) rfl w hw) rfl)) ?_
       refine B.q rfl rfl rfl (wanted_none rfl) (r_move rfl) ?_
       refine B.q rfl rfl rfl (wanted_none rfl) (r_indexAddrS Tryz.underlying85 ti27 rfl hl_va0_0 rfl (rdl_some h54).1 (rdl_some h54).2.1) ?_
       refine B.q rfl rfl rfl (wanted_none rfl) (r_loadA ta27 ti27 rfl rfl (fun w hw=>(hc54.sep hw))) ?_
       refine B.ef rfl rfl rfl (wanted_none rfl) (Makes.does (m_callF (xs:=_) rfl ok107 rfl rfl (fun w hw=>impl_own.ok h56 w ((fun _ hw=>hr_v54_1.sep hw) w hw) ((fun _ hw=>hr_v54_2.sep hw) w hw)))) (by rintro _ _ ⟨_,⟨v56_3,S56_3,v56_4,S56_4,rfl,hl_v56_3,hl_v56_4,rfl⟩,rfl⟩; exact upd rfl [2,3,4,5,6,7] rfl rfl) ?_
       rintro _ _ ⟨_,⟨v56_3,S56_3,v56_4,S56_4,rfl,hl_v56_3,hl_v56_4,rfl⟩,rfl⟩
       refine B.ef rfl rfl rfl (wanted_none rfl) (d_build1 (cells:=[.int .i64 t56_1,v56_3,v56_4]) (x0:=((t56_1,t56_2,t56_3) : Int × List (Int × Int × Int) × List Int)) (cs:=[R.sl S56_3 v56_3 (t56_2 : List (Int × Int × Int)),R.sl S56_4 v56_4 (t56_3 : List (Int))]) (rest:=[R.box b6_1 88 [wq6_1_0,wq6_1_1],R.box b4_1 88 [.slice none 0 0,.slice none 0 0],R.box b2_1 88 [va0_0,va0_1],R.sl T9 w9 (x9 : List (Int)),R.sl Tq6_1_1 wq6_1_1 (xq6_1_1 : List (List Int)),R.sl Tq6_1_0 wq6_1_0 (xq6_1_0 : List (Int × List (Int × Int × Int) × List Int))]) [0,1] [2,3,4,5,6,7] Tryz.underlying85 ti27 rfl rfl rfl (lf_cons rfl (lf_cons (sl_leaf hl_v56_3) (lf_cons (sl_leaf hl_v56_4) lf_nil))) rfl rfl (jn_pair (jn_int (n:=t56_1)) (jn_pair (jn_sl (S:=S56_3) (v:=v56_3) (l:=(t56_2 : List (Int × Int × Int)))) (jn_sl (S:=S56_4) (v:=v56_4) (l:=(t56_3 : List (Int))))))) (by rintro v57_2 _ ⟨S57_2,hl_v57_2,rfl⟩; exact upd rfl [1,2,3,4,5,6] rfl rfl) ?_
       rintro v57_2 _ ⟨S57_2,hl_v57_2,rfl⟩
       refine B.nil ?_
       refine F.efn rfl (d_appendN (rest:=[R.box b6_1 88 [wq6_1_0,wq6_1_1],R.box b4_1 88 [.slice none 0 0,.slice none 0 0],R.box b2_1 88 [va0_0,va0_1],R.sl T9 w9 (x9 : List (Int)),R.sl Tq6_1_1 wq6_1_1 (xq6_1_1 : List (List Int))]) 6 0 [1,2,3,4,5] Tryz.underlying85 Tryz.underlying85 ti27 rfl (by decide) rfl rfl rfl rfl hs58) ?_
       rintro v58_2 _ ⟨S58_2,hl_v58_2,rfl⟩
       refine F.qn rfl (r_fieldAddr tf88_0 rfl) ?_
       refine F.ef0 rfl rfl (wanted_none rfl) (d_storeG1 (i:=1) (cs2:=[v58_2]) ti85 rfl rfl rfl (sl_cells hl_v58_2) rfl (Nat.le_of_ble_eq_true rfl) (lf_cons (sl_leaf hl_v58_2) lf_nil)) ?_
       rintro _ _ ⟨rfl,rfl⟩
       refine F.nil (Nrm.seq ?_)
       obtain ⟨hs64,hE_2⟩:=ck hE_2
       refine Tri.reg (l:=[0,1,2,3,4,5,6]) rfl ?_
       refine F.qn rfl (r_fieldAddr tf88_1 rfl) (F.qn rfl (r_load ta86 rfl (fun w hw=>cell_1 (box_cells (i:=1) rfl w hw) rfl)) (F.qn rfl (r_move rfl) ?_))
       refine F.efn rfl (d_build1 (cells:=[w9]) (x0:=(x9 : List Int)) (cs:=[R.sl T9 w9 (x9 : List (Int))]) (rest:=[R.sl S58_2 v58_2 ((xq6_1_0 : List (Int × List (Int × Int × Int) × List Int)) ++ ([(t56_1,t56_2,t56_3)] : List (Int × List (Int × Int × Int) × List Int)) : List (Int × List (Int × Int × Int) × List Int)),R.box b6_1 88 [v58_2,wq6_1_1],R.box b4_1 88 [.slice none 0 0,.slice none 0 0],R.box b2_1 88 [va0_0,va0_1],R.sl Tq6_1_1 wq6_1_1 (xq6_1_1 : List (List Int))]) [4] [0,1,2,3,5] Tryz.underlying86 ti25 rfl (sl_cells hl_w9) rfl (lf_cons (sl_leaf hl_w9) lf_nil) rfl rfl (jn_sl (S:=T9) (v:=w9) (l:=(x9 : List (Int))))) ?_
       rintro v63_1 _ ⟨S63_1,hl_v63_1,rfl⟩
       refine F.efn rfl (d_appendN (rest:=[R.sl S58_2 v58_2 ((xq6_1_0 : List (Int × List (Int × Int × Int) × List Int)) ++ ([(t56_1,t56_2,t56_3)] : List (Int × List (Int × Int × Int) × List Int)) : List (Int × List (Int × Int × Int) × List Int)),R.box b6_1 88 [v58_2,wq6_1_1],R.box b4_1 88 [.slice none 0 0,.slice none 0 0],R.box b2_1 88 [va0_0,va0_1]]) 5 0 [1,2,3,4] Tryz.underlying86 Tryz.underlying86 ti25 rfl (by decide) rfl rfl rfl rfl hs64) ?_
       rintro v64_1 _ ⟨S64_1,hl_v64_1,rfl⟩
       refine F.qn rfl (r_fieldAddr tf88_1 rfl) ?_
       refine F.ef0 rfl rfl (wanted_none rfl) (d_storeG1 (i:=2) (cs2:=[v64_1]) ti86 rfl rfl rfl (sl_cells hl_v64_1) rfl (Nat.le_of_ble_eq_true rfl) (lf_cons (sl_leaf hl_v64_1) lf_nil)) ?_
       rintro _ _ ⟨rfl,rfl⟩
       refine F.nil (Nrm.block ?_)
       refine Nrm.seq (Tri.reg (l:=[0,1]) rfl ?_)
       refine F.qn rfl (r_add rfl rfl) (F.qn rfl (r_move rfl) (F.nil (Nrm.round ?_)))
       refine Rnd.only [1,2,4,6,25,26,27] rfl ?_
       refine Rnd.pick [2,3,4,0,1] rfl rfl ?_
       exact ih_1 _ _ ⟨w64 (x27 + 1),(xq6_1_0 : List (Int × List (Int × Int × Int) × List Int)) ++ ([(t56_1,t56_2,t56_3)] : List (Int × List (Int × Int × Int) × List Int)),(xq6_1_1 : List (List Int)) ++ ([x9] : List (List Int)),v58_2,S58_2,v64_1,S64_1,hE_2,hl_v58_2,hl_v64_1,rfl,rfl⟩
    ·replace hE_2:=if_ff g_2 hE_2
     refine Tri.exit ?_
     refine Exi.then ?_
     refine Exi.then ?_
     refine Exi.same ?_
     cases hE_2
     refine Nrm.seq (Tri.seq (Tri.reg (l:=[0,1,2]) rfl ?_))
     refine F.qn rfl (r_loadA ta88 ti88 rfl rfl (fun w hw=>(box_cells (i:=0) rfl w hw))) ?_
     refine F.ef0 rfl rfl (wanted_none rfl) (d_storeG0 (i:=1) (cs2:=[wq6_1_0,wq6_1_1]) ti88 rfl rfl rfl rfl rfl (Nat.le_of_ble_eq_true rfl) (lf_cons (sl_leaf hl_wq6_1_0) (lf_cons (sl_leaf hl_wq6_1_1) lf_nil))) ?_
     rintro _ _ ⟨rfl,rfl⟩
     refine F.qn rfl (r_assign rfl) (F.nil (Nrm.seq (Tri.ret ?_)))
     cases h
     exact Rtn.body (.cell rfl ta88 ti88 rfl (fun _ hw=>box_cells (i:=1) rfl _ hw) (.tmp rfl .nil)) (fun w hw=>⟨_,_,rfl,⟨wq6_1_0,Tq6_1_0,wq6_1_1,Tq6_1_1,rfl,hl_wq6_1_0,hl_wq6_1_1,rfl⟩,Sep.pick (is:=[4,3]) rfl rfl hw⟩)
 ·obtain ⟨t13,h13,hE_1⟩:=bind_some hE_1
  rcases Bool.eq_false_or_eq_true (!t13) with g15 | g15
  ·replace hE_1:=if_tt g15 hE_1
   refine Tri.reg (l:=[0,1,2,3,4,5,6,7,8,9,10]) rfl ?_
   refine F.qn rfl (r_loadA ta88 ti88 rfl rfl (fun w hw=>(box_cells (i:=1) rfl w hw))) ?_
   refine F.qcn rfl (q_callF (xs:=_) rfl ok156 rfl rfl (fun w hw=>impl_IsWorlds.ok h13 w ((fun _ hw=>hr_a0_0.sep hw) w hw) ((fun _ hw=>hr_a0_1.sep hw) w hw))) ?_
   refine F.qn rfl (r_not rfl) (F.qn rfl (r_move rfl) ?_)
   iterate 6 refine F.skf rfl g15 ?_
   refine F.qn rfl (r_pick rfl rfl g15) (F.nil ?_)
   cases hE_1
   refine Nrm.only [1,2,4,22] rfl ?_
   refine Nrm.pick [0,1] rfl rfl ?_
   exact hj_1 _ _ ⟨rfl,rfl⟩
  ·replace hE_1:=if_ff g15 hE_1
   obtain ⟨t20,h20,hE_1⟩:=bind_some hE_1
   refine Tri.reg (l:=[0,1,2,3,4,5,6,7,8,9,10]) rfl ?_
   refine F.qn rfl (r_loadA ta88 ti88 rfl rfl (fun w hw=>(box_cells (i:=1) rfl w hw))) ?_
   refine F.qcn rfl (q_callF (xs:=_) rfl ok156 rfl rfl (fun w hw=>impl_IsWorlds.ok h13 w ((fun _ hw=>hr_a0_0.sep hw) w hw) ((fun _ hw=>hr_a0_1.sep hw) w hw))) ?_
   refine F.qn rfl (r_not rfl) (F.qn rfl (r_move rfl) (F.qg rfl g15 (r_move rfl) (F.qg rfl g15 (r_fieldAddr tf88_0 rfl) (F.qg rfl g15 (r_load ta85 rfl (fun w hw=>cell_1 (box_cells (i:=1) rfl w hw) rfl)) (F.qg rfl g15 (r_len Tryz.underlying85 rfl hl_va0_0) ?_)))))
   refine F.qc rfl rfl rfl (wg rfl rfl rfl g15) (q_callF (xs:=_) rfl ok157 rfl rfl (fun w hw=>impl_isOrder.ok h20 w ((fun _ hw=>hr_a1.sep hw) w hw))) ?_
   refine F.qg rfl g15 (r_not rfl) (F.qn rfl (r_pickf rfl rfl g15) (F.nil ?_))
   cases hE_1
   refine Nrm.only [1,2,4,22] rfl ?_
   refine Nrm.pick [0,1] rfl rfl ?_
   exact hj_1 _ _ ⟨rfl,rfl⟩


def spec_l1Own.f (k : Nat) (a0 : List Int) : Option ((List Int)) := if (([] : List (Int)) ++ a0).length < 1099511627776 then some (([] : List (Int)) ++ a0) else none

theorem spec_l1Own.ok {k : Nat}  {a0 : List Int} {r0 : List Int} (h : spec_l1Own.f k a0 = some r0) (w : World) {va0 : Value} (hr_a0 : Rd w va0 a0) :
  Calls Tryz.prog 197 ([va0] : List Value).toArray w (Post (fun u ns=>∃ (Sr0 : Nat → Prop),SlLen u r0.length∧ns = [R.sl Sr0 u r0]) w):=by
 unfold spec_l1Own.f at h
 have hl_va0:=hr_a0.len
 refine Calls.of_tri (N:=6) Tryz.func197 rfl rfl rfl (Sep.nil (M:=noM)) ?_
 refine Tri.seq (Tri.reg (l:=[0]) rfl ?_)
 refine F.qn rfl (r_assign rfl) (F.nil (Nrm.seq (Tri.seq ?_)))
 obtain ⟨hs5,h⟩:=ck h
 refine Tri.reg (l:=[0,1,2,3]) rfl ?_
 refine F.mn rfl (m_build0 (α:=Int) Tryz.underlying25 ti3) ?_
 rintro v3_1 _ ⟨S3_1,hl_v3_1,rfl⟩
 refine F.qn rfl (r_move rfl) ?_
 refine F.efn rfl (d_append (i:=0) Tryz.underlying25 Tryz.underlying25 ti3 rfl (by decide) rfl rfl rfl (fun _ hw=>hr_a0.sep hw) hs5) ?_
 rintro v5_1 _ ⟨S5_1,rfl,hl_v5_1⟩
 refine F.qn rfl (r_assign rfl) (F.nil (Nrm.seq (Tri.ret ?_)))
 cases h
 exact Rtn.body (.tmp rfl .nil) (fun w hw=>⟨_,_,rfl,⟨S5_1,hl_v5_1,rfl⟩,Sep.pick (is:=[0]) rfl rfl hw⟩)


def spec_l2Own.f (k : Nat) (a0_0 : Int) (a0_1 : List (Int × Int × Int)) (a0_2 : List Int) : Option (Int × (List (Int × Int × Int)) × (List Int)) := if (([] : List (Int × Int × Int)) ++ a0_1).length < 1099511627776 then (spec_l1Own.f k a0_2).bind fun t11 => some (a0_0, ([] : List (Int × Int × Int)) ++ a0_1, t11) else none

theorem spec_l2Own.ok {k : Nat}  {a0_0 : Int} {a0_1 : List (Int × Int × Int)} {a0_2 : List Int} {r0 : Int} {r1 : List (Int × Int × Int)} {r2 : List Int} (h : spec_l2Own.f k a0_0 a0_1 a0_2 = some (r0, r1, r2)) (w : World) {va0_1 : Value} {va0_2 : Value} (hr_a0_1 : Rd w va0_1 a0_1) (hr_a0_2 : Rd w va0_2 a0_2) :
  Calls Tryz.prog 141 ([.agg ([.int .i64 a0_0,va0_1,va0_2].toArray)] : List Value).toArray w (Post (fun u ns=>∃ (ur1 : Value) (Sr1 : Nat → Prop) (ur2 : Value) (Sr2 : Nat → Prop),u = .agg [.int .i64 r0,ur1,ur2].toArray∧SlLen ur1 r1.length∧SlLen ur2 r2.length∧ns = [R.sl Sr1 ur1 r1,R.sl Sr2 ur2 r2]) w):=by
 unfold spec_l2Own.f at h
 have hl_va0_1:=hr_a0_1.len
 have hl_va0_2:=hr_a0_2.len
 refine Calls.of_tri (N:=13) Tryz.func141 rfl rfl rfl (Sep.nil (M:=noM)) ?_
 refine Tri.seq (Tri.reg (l:=[0,1]) rfl ?_)
 refine F.mn rfl (m_boxG rfl rfl) ?_
 rintro _ _ ⟨b1_1,rfl,rfl⟩
 refine F.mn rfl (m_alloc ti27) ?_
 rintro _ _ ⟨b2_1,rfl,rfl⟩
 refine F.nil (Nrm.seq (Tri.seq ?_))
 obtain ⟨hs8,h⟩:=ck h
 obtain ⟨t11,h11,h⟩:=bind_some h
 refine Tri.drawB mixedT Sep.up [(0,true),(1,true),(3,true),(4,true),(6,true),(7,true),(2,false),(5,false),(8,false)] [9,10] (by kernel_rfl) ?_
 refine B.q rfl rfl rfl (wanted_none rfl) (r_fieldAddr tf27_0 rfl) ?_
 refine B.q rfl rfl rfl (wanted_none rfl) (r_load ta3 rfl (fun w hw=>cell_1 (box_cells (i:=1) rfl w hw) rfl)) ?_
 refine B.q rfl rfl rfl (wanted_none rfl) (r_fieldAddr tf27_1 rfl) ?_
 refine B.q rfl rfl rfl (wanted_none rfl) (r_load ta24 rfl (fun w hw=>cell_1 (box_cells (i:=1) rfl w hw) rfl)) ?_
 refine B.q rfl rfl rfl (wanted_none rfl) (r_fieldAddr tf27_2 rfl) ?_
 refine B.q rfl rfl rfl (wanted_none rfl) (r_load ta25 rfl (fun w hw=>cell_1 (box_cells (i:=1) rfl w hw) rfl)) ?_
 refine B.ef rfl rfl rfl (wanted_none rfl) (Makes.does (m_build0 (α:=Int × Int × Int) Tryz.underlying24 ti168)) (by rintro v5_2 _ ⟨S5_2,hl_v5_2,rfl⟩; exact upd rfl [1,2] rfl rfl) ?_
 rintro v5_2 _ ⟨S5_2,hl_v5_2,rfl⟩
 refine B.ef rfl rfl rfl (wanted_none rfl) (d_append (i:=0) Tryz.underlying24 Tryz.underlying24 ti168 rfl (by decide) rfl rfl rfl (fun _ hw=>hr_a0_1.sep hw) hs8) (by rintro v8_2 _ ⟨S8_2,rfl,hl_v8_2⟩; exact upd rfl [1,2] rfl rfl) ?_
 rintro v8_2 _ ⟨S8_2,rfl,hl_v8_2⟩
 refine B.ef rfl rfl rfl (wanted_none rfl) (Makes.does (m_callF (xs:=_) rfl ok197 rfl rfl (fun w hw=>spec_l1Own.ok h11 w ((fun _ hw=>hr_a0_2.sep hw) w hw)))) (by rintro v11_2 _ ⟨_,⟨S11_2,hl_v11_2,rfl⟩,rfl⟩; exact upd rfl [2,3] rfl rfl) ?_
 rintro v11_2 _ ⟨_,⟨S11_2,hl_v11_2,rfl⟩,rfl⟩
 refine B.nil ?_
 refine F.qn rfl (r_build (pl:=[(0,1),(1,1),(2,1)]) (qs:=[(0,[.int .i64 a0_0]),(1,[v8_2]),(2,[v11_2])]) (cs:=[.int .i64 a0_0,v8_2,v11_2]) (by kernel_rfl) ti27 rfl (.cons rfl rfl (Nat.le_of_ble_eq_true rfl) (.cons (sl_cells hl_v8_2) rfl (Nat.le_of_ble_eq_true rfl) (.cons (sl_cells hl_v11_2) rfl (Nat.le_of_ble_eq_true rfl) .nil))) rfl rfl) ?_
 refine F.ef0 rfl rfl (wanted_none rfl) (d_storeG0 (i:=2) (cs2:=[.int .i64 a0_0,v8_2,v11_2]) ti27 rfl rfl rfl rfl rfl (Nat.le_of_ble_eq_true rfl) (lf_cons rfl (lf_cons (sl_leaf hl_v8_2) (lf_cons (sl_leaf hl_v11_2) lf_nil)))) ?_
 rintro _ _ ⟨rfl,rfl⟩
 refine F.nil (Nrm.seq (Tri.ret ?_))
 cases h
 exact Rtn.body (.cell rfl ta27 ti27 rfl (fun _ hw=>box_cells (i:=2) rfl _ hw) .nil) (fun w hw=>⟨_,_,rfl,⟨v8_2,S8_2,v11_2,S11_2,rfl,hl_v8_2,hl_v11_2,rfl⟩,Sep.pick (is:=[1,0]) rfl rfl hw⟩)


def spec_l1In.f (k : Nat) (a0 : Int) (a1 : Int) (a2 : Int) : Option (Bool) := ((if (decide (a0 ≥ a1)) = true then some (decide (a0 ≤ a2)) else some false)).bind fun y6 => some y6

theorem spec_l1In.ok {k : Nat}  {a0 : Int} {a1 : Int} {a2 : Int} {r0 : Bool} (h : spec_l1In.f k a0 a1 a2 = some r0) (w : World) :
  Calls Tryz.prog 148 ([.int .i64 a0,.int .i64 a1,.int .i64 a2] : List Value).toArray w (fun e w'=>e = .returned (.bool r0)∧Ext w w'):=by
 unfold spec_l1In.f at h
 refine Calls.of_tri (N:=15) Tryz.func148 rfl rfl rfl (Sep.nil (M:=noM)) ?_
 refine Tri.seq (Tri.reg (l:=[0]) rfl ?_)
 refine F.qn rfl (r_assign rfl) (F.nil (Nrm.seq (Tri.seq ?_)))
 obtain ⟨y6,hE_1,h⟩:=bind_some h
 refine Tri.cut (fun e' C'=>e' = [(6,.bool y6)]∧C' = Sep w noM []) ?_ (fun hj_1=>?_)
 ·rintro _ _ ⟨rfl,rfl⟩
  refine Nrm.seq (Tri.ret ?_)
  cases h
  exact Rtn.body (.tmp rfl .nil) (fun w hw=>⟨rfl,hw.ext⟩)
 ·rcases Bool.eq_false_or_eq_true (decide (a0 ≥ a1)) with g10 | g10
  ·replace hE_1:=if_tt g10 hE_1
   refine Tri.reg (l:=[0,1,2,3,4,5,6,7,8]) rfl ?_
   refine F.qn rfl (r_move rfl) (F.qn rfl (r_move rfl) (F.qn rfl (r_geq rfl rfl) ?_))
   refine F.qn rfl (r_move rfl) (F.qg rfl g10 (r_move rfl) (F.qg rfl g10 (r_move rfl) (F.qg rfl g10 (r_leq rfl rfl) (F.qn rfl (r_pick rfl rfl g10) (F.qn rfl (r_assign rfl) (F.nil ?_))))))
   cases hE_1
   refine Nrm.only [6] rfl ?_
   refine Nrm.pick [] rfl rfl ?_
   exact hj_1 _ _ ⟨rfl,rfl⟩
  ·replace hE_1:=if_ff g10 hE_1
   refine Tri.reg (l:=[0,1,2,3,4,5,6,7,8]) rfl ?_
   refine F.qn rfl (r_move rfl) (F.qn rfl (r_move rfl) (F.qn rfl (r_geq rfl rfl) (F.qn rfl (r_move rfl) ?_)))
   iterate 3 refine F.skf rfl g10 ?_
   refine F.qn rfl (r_pickf rfl rfl g10) (F.qn rfl (r_assign rfl) (F.nil ?_))
   cases hE_1
   refine Nrm.only [6] rfl ?_
   refine Nrm.pick [] rfl rfl ?_
   exact hj_1 _ _ ⟨rfl,rfl⟩


def spec_l2Set.f (k : Nat) (a0 : Int) : Option (Bool) := (spec_l1In.f k a0 0 63).bind fun t4 => some t4

theorem spec_l2Set.ok {k : Nat}  {a0 : Int} {r0 : Bool} (h : spec_l2Set.f k a0 = some r0) (w : World) :
  Calls Tryz.prog 178 ([.int .i64 a0] : List Value).toArray w (fun e w'=>e = .returned (.bool r0)∧Ext w w'):=by
 unfold spec_l2Set.f at h
 refine Calls.of_tri (N:=5) Tryz.func178 rfl rfl rfl (Sep.nil (M:=noM)) ?_
 refine Tri.seq (Tri.reg (l:=[0]) rfl ?_)
 refine F.qn rfl (r_assign rfl) (F.nil (Nrm.seq (Tri.seq ?_)))
 obtain ⟨t4,h4,h⟩:=bind_some h
 refine Tri.reg (l:=[0,1,2]) rfl ?_
 refine F.qn rfl (r_move rfl) ?_
 refine F.qcn rfl (q_callF (xs:=_) rfl ok148 rfl rfl (fun w hw=>spec_l1In.ok h4 w)) ?_
 refine F.qn rfl (r_assign rfl) (F.nil (Nrm.seq (Tri.ret ?_)))
 cases h
 exact Rtn.body (.tmp rfl .nil) (fun w hw=>⟨rfl,hw.ext⟩)

end Go.Proofs

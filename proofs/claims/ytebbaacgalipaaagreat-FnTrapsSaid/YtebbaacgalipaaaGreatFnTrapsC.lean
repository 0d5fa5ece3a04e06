/- A part of the proof of FnTraps: what the functions of the program compute, walked on the model. No condition. -/
import Derived.Test.YtebbaacgalipaaaGreatChecked
import Derived.Test.YtebbaacgalipaaaGreatFnTrapsB
set_option linter.unusedSimpArgs false
namespace Go.Proofs
open Go Go.Ga Go.Ga.Rp Go.Ga.Flat
theorem mixedT : Tryz.prog.follows .mixedOrders = true := by kernel_rfl
theorem eg168 : Tryz.prog.eqGuardType Tryz.prog.depth 168 = false := by kernel_rfl
theorem eg75 : Tryz.prog.eqGuardType Tryz.prog.depth 75 = false := by kernel_rfl
theorem ok102 : CallOk Tryz.prog 102 := .of Tryz.func102 rfl (by decide)
theorem ok103 : CallOk Tryz.prog 103 := .of Tryz.func103 rfl (by decide)
theorem ok106 : CallOk Tryz.prog 106 := .of Tryz.func106 rfl (by decide)
theorem ok107 : CallOk Tryz.prog 107 := .of Tryz.func107 rfl (by decide)
theorem ok108 : CallOk Tryz.prog 108 := .of Tryz.func108 rfl (by decide)
theorem ok115 : CallOk Tryz.prog 115 := .of Tryz.func115 rfl (by decide)
theorem ok119 : CallOk Tryz.prog 119 := .of Tryz.func119 rfl (by decide)
theorem ok125 : CallOk Tryz.prog 125 := .of Tryz.func125 rfl (by decide)
theorem ok126 : CallOk Tryz.prog 126 := .of Tryz.func126 rfl (by decide)
theorem ok127 : CallOk Tryz.prog 127 := .of Tryz.func127 rfl (by decide)
theorem ok128 : CallOk Tryz.prog 128 := .of Tryz.func128 rfl (by decide)
theorem ok129 : CallOk Tryz.prog 129 := .of Tryz.func129 rfl (by decide)
theorem ok130 : CallOk Tryz.prog 130 := .of Tryz.func130 rfl (by decide)
theorem ok131 : CallOk Tryz.prog 131 := .of Tryz.func131 rfl (by decide)
theorem ok132 : CallOk Tryz.prog 132 := .of Tryz.func132 rfl (by decide)
theorem ok133 : CallOk Tryz.prog 133 := .of Tryz.func133 rfl (by decide)
theorem ok134 : CallOk Tryz.prog 134 := .of Tryz.func134 rfl (by decide)
theorem ok135 : CallOk Tryz.prog 135 := .of Tryz.func135 rfl (by decide)
theorem ok136 : CallOk Tryz.prog 136 := .of Tryz.func136 rfl (by decide)
theorem ok137 : CallOk Tryz.prog 137 := .of Tryz.func137 rfl (by decide)
theorem ok138 : CallOk Tryz.prog 138 := .of Tryz.func138 rfl (by decide)
theorem ok139 : CallOk Tryz.prog 139 := .of Tryz.func139 rfl (by decide)
theorem ok140 : CallOk Tryz.prog 140 := .of Tryz.func140 rfl (by decide)
theorem ok141 : CallOk Tryz.prog 141 := .of Tryz.func141 rfl (by decide)
theorem ok142 : CallOk Tryz.prog 142 := .of Tryz.func142 rfl (by decide)
theorem ok143 : CallOk Tryz.prog 143 := .of Tryz.func143 rfl (by decide)
theorem ok144 : CallOk Tryz.prog 144 := .of Tryz.func144 rfl (by decide)
theorem ok145 : CallOk Tryz.prog 145 := .of Tryz.func145 rfl (by decide)
theorem ok146 : CallOk Tryz.prog 146 := .of Tryz.func146 rfl (by decide)
theorem ok147 : CallOk Tryz.prog 147 := .of Tryz.func147 rfl (by decide)
theorem ok148 : CallOk Tryz.prog 148 := .of Tryz.func148 rfl (by decide)
theorem ok149 : CallOk Tryz.prog 149 := .of Tryz.func149 rfl (by decide)
theorem ok150 : CallOk Tryz.prog 150 := .of Tryz.func150 rfl (by decide)
theorem ok151 : CallOk Tryz.prog 151 := .of Tryz.func151 rfl (by decide)
theorem ok152 : CallOk Tryz.prog 152 := .of Tryz.func152 rfl (by decide)
theorem ok153 : CallOk Tryz.prog 153 := .of Tryz.func153 rfl (by decide)
theorem ok158 : CallOk Tryz.prog 158 := .of Tryz.func158 rfl (by decide)
theorem ok167 : CallOk Tryz.prog 167 := .of Tryz.func167 rfl (by decide)
theorem ok177 : CallOk Tryz.prog 177 := .of Tryz.func177 rfl (by decide)
theorem ok178 : CallOk Tryz.prog 178 := .of Tryz.func178 rfl (by decide)
theorem ok179 : CallOk Tryz.prog 179 := .of Tryz.func179 rfl (by decide)
theorem ok180 : CallOk Tryz.prog 180 := .of Tryz.func180 rfl (by decide)
theorem ok184 : CallOk Tryz.prog 184 := .of Tryz.func184 rfl (by decide)
theorem ok185 : CallOk Tryz.prog 185 := .of Tryz.func185 rfl (by decide)
theorem ok189 : CallOk Tryz.prog 189 := .of Tryz.func189 rfl (by decide)
theorem ok193 : CallOk Tryz.prog 193 := .of Tryz.func193 rfl (by decide)
theorem ok194 : CallOk Tryz.prog 194 := .of Tryz.func194 rfl (by decide)
theorem ok195 : CallOk Tryz.prog 195 := .of Tryz.func195 rfl (by decide)
theorem ok196 : CallOk Tryz.prog 196 := .of Tryz.func196 rfl (by decide)
theorem ok197 : CallOk Tryz.prog 197 := .of Tryz.func197 rfl (by decide)
theorem ok198 : CallOk Tryz.prog 198 := .of Tryz.func198 rfl (by decide)
theorem ok199 : CallOk Tryz.prog 199 := .of Tryz.func199 rfl (by decide)
theorem ok200 : CallOk Tryz.prog 200 := .of Tryz.func200 rfl (by decide)
theorem ok202 : CallOk Tryz.prog 202 := .of Tryz.func202 rfl (by decide)
theorem ok206 : CallOk Tryz.prog 206 := .of Tryz.func206 rfl (by decide)
theorem ok207 : CallOk Tryz.prog 207 := .of Tryz.func207 rfl (by decide)
theorem ok210 : CallOk Tryz.prog 210 := .of Tryz.func210 rfl (by decide)
theorem ok211 : CallOk Tryz.prog 211 := .of Tryz.func211 rfl (by decide)
theorem ok212 : CallOk Tryz.prog 212 := .of Tryz.func212 rfl (by decide)
theorem ok213 : CallOk Tryz.prog 213 := .of Tryz.func213 rfl (by decide)
theorem ok214 : CallOk Tryz.prog 214 := .of Tryz.func214 rfl (by decide)
theorem ok215 : CallOk Tryz.prog 215 := .of Tryz.func215 rfl (by decide)
theorem ok216 : CallOk Tryz.prog 216 := .of Tryz.func216 rfl (by decide)
theorem ok217 : CallOk Tryz.prog 217 := .of Tryz.func217 rfl (by decide)
theorem ok222 : CallOk Tryz.prog 222 := .of Tryz.func222 rfl (by decide)
theorem ok223 : CallOk Tryz.prog 223 := .of Tryz.func223 rfl (by decide)
theorem ok231 : CallOk Tryz.prog 231 := .of Tryz.func231 rfl (by decide)
theorem ok233 : CallOk Tryz.prog 233 := .of Tryz.func233 rfl (by decide)
theorem ok234 : CallOk Tryz.prog 234 := .of Tryz.func234 rfl (by decide)
theorem ok238 : CallOk Tryz.prog 238 := .of Tryz.func238 rfl (by decide)
theorem ok245 : CallOk Tryz.prog 245 := .of Tryz.func245 rfl (by decide)
theorem ok47 : CallOk Tryz.prog 47 := .of Tryz.func47 rfl (by decide)
theorem ok48 : CallOk Tryz.prog 48 := .of Tryz.func48 rfl (by decide)
theorem ok49 : CallOk Tryz.prog 49 := .of Tryz.func49 rfl (by decide)
theorem ok50 : CallOk Tryz.prog 50 := .of Tryz.func50 rfl (by decide)
theorem ok51 : CallOk Tryz.prog 51 := .of Tryz.func51 rfl (by decide)
theorem ok52 : CallOk Tryz.prog 52 := .of Tryz.func52 rfl (by decide)
theorem ok53 : CallOk Tryz.prog 53 := .of Tryz.func53 rfl (by decide)
theorem ok54 : CallOk Tryz.prog 54 := .of Tryz.func54 rfl (by decide)
theorem ok55 : CallOk Tryz.prog 55 := .of Tryz.func55 rfl (by decide)
theorem ok56 : CallOk Tryz.prog 56 := .of Tryz.func56 rfl (by decide)
theorem ok57 : CallOk Tryz.prog 57 := .of Tryz.func57 rfl (by decide)
theorem ok58 : CallOk Tryz.prog 58 := .of Tryz.func58 rfl (by decide)
theorem ok59 : CallOk Tryz.prog 59 := .of Tryz.func59 rfl (by decide)
theorem ok60 : CallOk Tryz.prog 60 := .of Tryz.func60 rfl (by decide)
theorem ok61 : CallOk Tryz.prog 61 := .of Tryz.func61 rfl (by decide)
theorem ok62 : CallOk Tryz.prog 62 := .of Tryz.func62 rfl (by decide)
theorem ok63 : CallOk Tryz.prog 63 := .of Tryz.func63 rfl (by decide)
theorem ok64 : CallOk Tryz.prog 64 := .of Tryz.func64 rfl (by decide)
theorem ok65 : CallOk Tryz.prog 65 := .of Tryz.func65 rfl (by decide)
theorem ok66 : CallOk Tryz.prog 66 := .of Tryz.func66 rfl (by decide)
theorem ok67 : CallOk Tryz.prog 67 := .of Tryz.func67 rfl (by decide)
theorem ok68 : CallOk Tryz.prog 68 := .of Tryz.func68 rfl (by decide)
theorem ok69 : CallOk Tryz.prog 69 := .of Tryz.func69 rfl (by decide)
theorem ok98 : CallOk Tryz.prog 98 := .of Tryz.func98 rfl (by decide)
theorem ta112 : TAgg Tryz.prog 112 false := .of (by kernel_rfl)
theorem ta130 : TAgg Tryz.prog 130 true := .of (by kernel_rfl)
theorem ta132 : TAgg Tryz.prog 132 true := .of (by kernel_rfl)
theorem ta168 : TAgg Tryz.prog 168 true := .of (by kernel_rfl)
theorem ta22 : TAgg Tryz.prog 22 false := .of (by kernel_rfl)
theorem ta24 : TAgg Tryz.prog 24 false := .of (by kernel_rfl)
theorem ta25 : TAgg Tryz.prog 25 false := .of (by kernel_rfl)
theorem ta27 : TAgg Tryz.prog 27 true := .of (by kernel_rfl)
theorem ta3 : TAgg Tryz.prog 3 false := .of (by kernel_rfl)
theorem ta4 : TAgg Tryz.prog 4 false := .of (by kernel_rfl)
theorem ta5 : TAgg Tryz.prog 5 false := .of (by kernel_rfl)
theorem ta65 : TAgg Tryz.prog 65 true := .of (by kernel_rfl)
theorem ta75 : TAgg Tryz.prog 75 true := .of (by kernel_rfl)
theorem tf114_0 : TField Tryz.prog 114 0 0 := .of (k := 0) (by kernel_rfl)
theorem tf114_1 : TField Tryz.prog 114 1 1 := .of (k := 0) (by kernel_rfl)
theorem tf114_2 : TField Tryz.prog 114 2 2 := .of (k := 0) (by kernel_rfl)
theorem tf27_0 : TField Tryz.prog 27 0 0 := .of (k := 0) (by kernel_rfl)
theorem tf27_1 : TField Tryz.prog 27 1 1 := .of (k := 0) (by kernel_rfl)
theorem tf27_2 : TField Tryz.prog 27 2 2 := .of (k := 0) (by kernel_rfl)
theorem tf65_0 : TField Tryz.prog 65 0 0 := .of (k := 2) (by kernel_rfl)
theorem tf65_1 : TField Tryz.prog 65 1 3 := .of (k := 0) (by kernel_rfl)
theorem ti112 : TInfo Tryz.prog 112 1 8 (.int .u64 0) := .of (by kernel_rfl)
theorem ti114 : TInfo Tryz.prog 114 3 40 (.agg #[.slice none 0 0, .int .i64 0, .int .u64 0]) := .of (by kernel_rfl)
theorem ti130 : TInfo Tryz.prog 130 64 512 (.agg (encA (Arr.rep 64 0)).toArray) := .of (by kernel_rfl)
theorem ti132 : TInfo Tryz.prog 132 768 6144 (.agg (encA (Arr.rep 768 0)).toArray) := .of (by kernel_rfl)
theorem ti168 : TInfo Tryz.prog 168 3 24 (.agg #[.int .i64 0, .int .i64 0, .int .i64 0]) := .of (by kernel_rfl)
theorem ti24 : TInfo Tryz.prog 24 1 24 (.slice none 0 0) := .of (by kernel_rfl)
theorem ti25 : TInfo Tryz.prog 25 1 24 (.slice none 0 0) := .of (by kernel_rfl)
theorem ti27 : TInfo Tryz.prog 27 3 56 (.agg #[.int .i64 0, .slice none 0 0, .slice none 0 0]) := .of (by kernel_rfl)
theorem ti3 : TInfo Tryz.prog 3 1 8 (.int .i64 0) := .of (by kernel_rfl)
theorem ti4 : TInfo Tryz.prog 4 1 1 (.bool false) := .of (by kernel_rfl)
theorem ti5 : TInfo Tryz.prog 5 1 1 (.int .u8 0) := .of (by kernel_rfl)
theorem ti65 : TInfo Tryz.prog 65 4 80 (.agg #[.int .i64 0, .slice none 0 0, .slice none 0 0, .slice none 0 0]) := .of (by kernel_rfl)
theorem ti75 : TInfo Tryz.prog 75 2 16 (.agg #[.int .i64 0, .int .i64 0]) := .of (by kernel_rfl)
end Go.Proofs

/- loop.example/g01158/laws.rBig -/

namespace Go.Proofs
open Go Go.Ga
set_option linter.unusedVariables false
set_option maxRecDepth 100000
set_option maxHeartbeats 4000000
def laws_rBig.f (k : Nat) (a0 : List By) : Option (Bool) := some (decide ((a0.length : Int) > 65536))

theorem laws_rBig.ok {k : Nat}  {a0 : List By} {r0 : Bool} (h : laws_rBig.f k a0 = some r0) (w : World) {va0 : Value} (hr_a0 : Rd w va0 a0) :
  Calls Tryz.prog 47 ([va0] : List Value).toArray w (fun e w'=>e = .returned (.bool r0)∧Ext w w'):=by
 unfold laws_rBig.f at h
 have hl_va0:=hr_a0.len
 refine Calls.of_tri (N:=6) Tryz.func47 rfl rfl rfl (Sep.nil (M:=noM)) ?_
 refine Tri.seq (Tri.reg (l:=[0]) rfl ?_)
 refine F.qn rfl (r_assign rfl) (F.nil (Nrm.seq (Tri.seq (Tri.reg (l:=[0,1,2,3]) rfl ?_))))
 refine F.qn rfl (r_move rfl) (F.qn rfl (r_len Tryz.underlying22 rfl hl_va0) (F.qn rfl (r_gtr rfl rfl) (F.qn rfl (r_assign rfl) (F.nil (Nrm.seq (Tri.ret ?_))))))
 cases h
 exact Rtn.body (.tmp rfl .nil) (fun w hw=>⟨rfl,hw.ext⟩)


def spec_l1Cur_next.f (k : Nat) (a0_0 : List By) (a0_1 : Int) (a0_2 : Int) : Option (Int × Int × Int) := ((if (decide (a0_1 < (a0_0.length : Int))) = true then (rdl a0_0 a0_1).bind fun t22 => some (IntKind.i64.wrap t22.v) else some (0 : Int))).bind fun y3 => (if (decide ((w64 (a0_1 + 1)) ≤ (a0_0.length : Int))) = true then some (y3, w64 (a0_1 + 1), wU ((wU ((wU (a0_2 * 6364136223846793005)) + (IntKind.u64.wrap y3))) + 462197)) else some (IntKind.i64.wrap (uand (shr (wU ((wU ((wU (a0_2 * 6364136223846793005)) + (IntKind.u64.wrap y3))) + 462197)) 40) 255), w64 (a0_1 + 1), wU ((wU ((wU (a0_2 * 6364136223846793005)) + (IntKind.u64.wrap y3))) + 462197)))

theorem spec_l1Cur_next.ok {k : Nat}  {a0_0 : List By} {a0_1 : Int} {a0_2 : Int} {r0 : Int} {r1 : Int} {r2 : Int} (h : spec_l1Cur_next.f k a0_0 a0_1 a0_2 = some (r0, r1, r2)) (w : World) {pa0 : Nat} {va0_0 : Value} (hr_a0_0 : RdM w (footM [R.box pa0 114 [va0_0, .int .i64 a0_1, .int .u64 a0_2]]) va0_0 a0_0) (hw0 : Sep w (footM [R.box pa0 114 [va0_0, .int .i64 a0_1, .int .u64 a0_2]]) [R.box pa0 114 [va0_0, .int .i64 a0_1, .int .u64 a0_2]] w) :
  Calls Tryz.prog 206 ([.pointer (some ⟨pa0,0,none⟩)] : List Value).toArray w (PostM (footM [R.box pa0 114 [va0_0,.int .i64 a0_1,.int .u64 a0_2]]) (fun u ns=>u = .int .i64 r0∧ns = [R.box pa0 114 [va0_0,.int .i64 r1,.int .u64 r2]]) w):=by
 unfold spec_l1Cur_next.f at h
 have hl_va0_0:=hr_a0_0.len
 refine Calls.of_tri (N:=62) Tryz.func206 rfl rfl rfl hw0 ?_
 refine Tri.seq (Tri.reg (l:=[0]) rfl ?_)
 refine F.qn rfl (r_assign rfl) (F.nil (Nrm.seq (Tri.seq (Tri.reg (l:=[0]) rfl ?_))))
 refine F.qn rfl (r_assign rfl) (F.nil (Nrm.seq (Tri.seq (Tri.seq (Tri.drawA mixedT Sep.up [(0,true),(1,true),(2,true),(3,true),(4,true),(5,true),(6,true),(7,true),(8,true),(9,true)] [] (by kernel_rfl) ?_)))))
 refine S.qn rfl (r_move rfl) (S.qn rfl (r_nilC rfl) (S.qn rfl (r_fieldAddr tf114_1 rfl) (S.qn rfl (r_load ta3 rfl (fun w hw=>cell_1 (box_cells (i:=0) rfl w hw) rfl)) ?_)))
 refine S.qn rfl (r_move rfl) (S.qn rfl (r_nilC rfl) (S.qn rfl (r_fieldAddr tf114_0 rfl) (S.qn rfl (r_load ta22 rfl (fun w hw=>cell_1 (box_cells (i:=0) rfl w hw) rfl)) (S.qn rfl (r_len Tryz.underlying22 rfl hl_va0_0) (S.qn rfl (r_lss rfl rfl) (S.nil (F.nil (Nrm.seq ?_))))))))
 obtain ⟨y3,hE_1,h⟩:=bind_some h
 refine Tri.cut (fun e' C'=>e' = [(0,.pointer (some ⟨pa0,0,none⟩)),(3,.int .i64 y3)]∧C' = Sep w (footM [R.box pa0 114 [va0_0,.int .i64 a0_1,.int .u64 a0_2]]) [R.box pa0 114 [va0_0,.int .i64 a0_1,.int .u64 a0_2]]) ?_ (fun hj_1=>?_)
 ·rintro _ _ ⟨rfl,rfl⟩
  refine Nrm.seq (Tri.seq (Tri.reg (l:=[0,1,2,3,4,5,6,7]) rfl ?_))
  refine F.qn rfl (r_move rfl) ?_
  refine F.qn rfl (r_nilC rfl) (F.qn rfl (r_fieldAddr tf114_1 rfl) (F.qn rfl (r_load ta3 rfl (fun w hw=>cell_1 (box_cells (i:=0) rfl w hw) rfl)) (F.qn rfl (r_add rfl rfl) (F.qn rfl (r_nilC rfl) (F.qn rfl (r_fieldAddr tf114_1 rfl) ?_)))))
  refine F.ef0 rfl rfl (wanted_none rfl) (d_storeG1 (i:=0) (cs2:=[.int .i64 (w64 (a0_1 + 1))]) ti3 rfl rfl rfl rfl rfl (Nat.le_of_ble_eq_true rfl) (lf_cons rfl lf_nil)) ?_
  rintro _ _ ⟨rfl,rfl⟩
  refine F.nil (Nrm.seq (Tri.seq (Tri.reg (l:=List.range 13) rfl ?_)))
  refine F.qn rfl (r_move rfl) (F.qn rfl (r_move rfl) (F.qn rfl (r_nilC rfl) (F.qn rfl (r_fieldAddr tf114_2 rfl) (F.qn rfl (r_load ta112 rfl (fun w hw=>cell_1 (box_cells (i:=0) rfl w hw) rfl)) (F.qn rfl (r_mulU rfl rfl) ?_)))))
  refine F.qn rfl (r_move rfl) (F.qn rfl (r_conv Tryz.underlying3 Tryz.underlying112 rfl) (F.qn rfl (r_addU rfl rfl) (F.qn rfl (r_addU rfl rfl) (F.qn rfl (r_nilC rfl) (F.qn rfl (r_fieldAddr tf114_2 rfl) ?_)))))
  refine F.ef0 rfl rfl (wanted_none rfl) (d_storeG1 (i:=0) (cs2:=[.int .u64 (wU ((wU ((wU (a0_2 * 6364136223846793005)) + (IntKind.u64.wrap y3))) + 462197))]) ti112 rfl rfl rfl rfl rfl (Nat.le_of_ble_eq_true rfl) (lf_cons rfl lf_nil)) ?_
  rintro _ _ ⟨rfl,rfl⟩
  refine F.nil (Nrm.seq (Tri.seq (Tri.seq (Tri.drawA mixedT Sep.up [(0,true),(1,true),(2,true),(3,true),(4,true),(5,true),(6,true),(7,true),(8,true),(9,true)] [] (by kernel_rfl) ?_))))
  refine S.qn rfl (r_move rfl) (S.qn rfl (r_nilC rfl) (S.qn rfl (r_fieldAddr tf114_1 rfl) (S.qn rfl (r_load ta3 rfl (fun w hw=>cell_1 (box_cells (i:=0) rfl w hw) rfl)) ?_)))
  refine S.qn rfl (r_move rfl) (S.qn rfl (r_nilC rfl) (S.qn rfl (r_fieldAddr tf114_0 rfl) (S.qn rfl (r_load ta22 rfl (fun w hw=>cell_1 (box_cells (i:=0) rfl w hw) rfl)) (S.qn rfl (r_len Tryz.underlying22 rfl hl_va0_0) (S.qn rfl (r_leq rfl rfl) (S.nil (F.nil (Nrm.seq (Tri.cond (b:=decide ((w64 (a0_1 + 1)) ≤ (a0_0.length : Int))) rfl (fun g_2=>?_) (fun g_2=>?_))))))))))
  ·replace h:=if_tt g_2 h
   refine Tri.seq (Tri.reg (l:=[0,1]) rfl ?_)
   refine F.qn rfl (r_move rfl) (F.qn rfl (r_assign rfl) (F.nil (Nrm.seq (Tri.ret ?_))))
   refine Rtn.then ?_
   cases h
   exact Rtn.body (.tmp rfl .nil) (fun w hw=>⟨_,_,rfl,⟨rfl,rfl⟩,Sep.pick (is:=[0]) rfl rfl hw⟩)
  ·replace h:=if_ff g_2 h
   refine Tri.skip (Nrm.seq (Tri.seq (Tri.reg (l:=[0,1,2,3,4,5,6,7]) rfl ?_)))
   refine F.qn rfl (r_move rfl) (F.qn rfl (r_nilC rfl) ?_)
   refine F.qn rfl (r_fieldAddr tf114_2 rfl) (F.qn rfl (r_load ta112 rfl (fun w hw=>cell_1 (box_cells (i:=0) rfl w hw) rfl)) (F.qn rfl (r_shrU rfl rfl (by decide)) (F.qn rfl (r_andU rfl rfl) (F.qn rfl (r_conv Tryz.underlying112 Tryz.underlying3 rfl) (F.qn rfl (r_assign rfl) (F.nil (Nrm.seq (Tri.ret ?_))))))))
   cases h
   exact Rtn.body (.tmp rfl .nil) (fun w hw=>⟨_,_,rfl,⟨rfl,rfl⟩,Sep.pick (is:=[0]) rfl rfl hw⟩)
 ·refine Tri.cond (b:=decide (a0_1 < (a0_0.length : Int))) rfl (fun g_1=>?_) (fun g_1=>?_)
  ·replace hE_1:=if_tt g_1 hE_1
   obtain ⟨t22,h22,hE_1⟩:=bind_some hE_1
   refine Tri.drawA mixedT Sep.up [(0,true),(1,true),(2,true),(3,true),(4,true),(5,true),(6,true),(7,true),(8,true),(9,true),(10,true),(11,true)] [] (by kernel_rfl) ?_
   refine S.qn rfl (r_move rfl) (S.qn rfl (r_nilC rfl) (S.qn rfl (r_fieldAddr tf114_0 rfl) (S.qn rfl (r_load ta22 rfl (fun w hw=>cell_1 (box_cells (i:=0) rfl w hw) rfl)) (S.qn rfl (r_move rfl) (S.qn rfl (r_nilC rfl) ?_)))))
   refine S.qn rfl (r_fieldAddr tf114_1 rfl) (S.qn rfl (r_load ta3 rfl (fun w hw=>cell_1 (box_cells (i:=0) rfl w hw) rfl)) (S.qn rfl (r_indexAddrS Tryz.underlying22 ti5 rfl hl_va0_0 rfl (rdl_some h22).1 (rdl_some h22).2.1) (S.qn rfl (r_load ta5 rfl (fun w hw=>cell_0 (Rd.flat ((fun _ hw=>hr_a0_0.sep hw) w hw) (rdl_some h22).2.2) rfl)) (S.qn rfl (r_conv Tryz.underlying5 Tryz.underlying3 rfl) (S.qn rfl (r_assign rfl) (S.nil (F.nil ?_)))))))
   cases hE_1
   refine Nrm.only [0,3] rfl ?_
   refine Nrm.pick [0] rfl rfl ?_
   exact hj_1 _ _ ⟨rfl,rfl⟩
  ·replace hE_1:=if_ff g_1 hE_1
   refine Tri.skip ?_
   cases hE_1
   refine Nrm.only [0,3] rfl ?_
   refine Nrm.pick [0] rfl rfl ?_
   exact hj_1 _ _ ⟨rfl,rfl⟩


def spec_l1Cur_pick.f (k : Nat) (a0_0 : List By) (a0_1 : Int) (a0_2 : Int) (a1 : Int) : Option (Int × Int × Int) := (if (decide (a1 ≤ 1)) = true then some (0, a0_1, a0_2) else (spec_l1Cur_next.f k a0_0 a0_1 a0_2).bind fun (t9_1, t9_2, t9_3) => ((if (decide (a1 > 200)) = true then (spec_l1Cur_next.f k a0_0 t9_2 t9_3).bind fun (t15_1, t15_2, t15_3) => some (w64 ((w64 (t9_1 * 256)) + t15_1), t15_2, t15_3) else some (t9_1, t9_2, t9_3))).bind fun (y5, ypa0_1, ypa0_2) => if ¬ a1 = 0 then some (rem y5 a1, ypa0_1, ypa0_2) else none)

theorem spec_l1Cur_pick.ok {k : Nat}  {a0_0 : List By} {a0_1 : Int} {a0_2 : Int} {a1 : Int} {r0 : Int} {r1 : Int} {r2 : Int} (h : spec_l1Cur_pick.f k a0_0 a0_1 a0_2 a1 = some (r0, r1, r2)) (w : World) {pa0 : Nat} {va0_0 : Value} (hr_a0_0 : RdM w (footM [R.box pa0 114 [va0_0, .int .i64 a0_1, .int .u64 a0_2]]) va0_0 a0_0) (hw0 : Sep w (footM [R.box pa0 114 [va0_0, .int .i64 a0_1, .int .u64 a0_2]]) [R.box pa0 114 [va0_0, .int .i64 a0_1, .int .u64 a0_2]] w) :
  Calls Tryz.prog 115 ([.pointer (some ⟨pa0,0,none⟩),.int .i64 a1] : List Value).toArray w (PostM (footM [R.box pa0 114 [va0_0,.int .i64 a0_1,.int .u64 a0_2]]) (fun u ns=>u = .int .i64 r0∧ns = [R.box pa0 114 [va0_0,.int .i64 r1,.int .u64 r2]]) w):=by
 unfold spec_l1Cur_pick.f at h
 have hl_va0_0:=hr_a0_0.len
 refine Calls.of_tri (N:=20) Tryz.func115 rfl rfl rfl hw0 ?_
 refine Tri.seq (Tri.reg (l:=[0]) rfl ?_)
 refine F.qn rfl (r_assign rfl) (F.nil (Nrm.seq (Tri.seq (Tri.seq (Tri.reg (l:=[0,1]) rfl ?_)))))
 refine F.qn rfl (r_move rfl) (F.qn rfl (r_leq rfl rfl) (F.nil (Nrm.seq (Tri.cond (b:=decide (a1 ≤ 1)) rfl (fun g_1=>?_) (fun g_1=>?_)))))
 ·replace h:=if_tt g_1 h
  refine Tri.seq (Tri.reg (l:=[0]) rfl ?_)
  refine F.qn rfl (r_assign rfl) (F.nil (Nrm.seq (Tri.ret ?_)))
  refine Rtn.then ?_
  cases h
  exact Rtn.body (.tmp rfl .nil) (fun w hw=>⟨_,_,rfl,⟨rfl,rfl⟩,Sep.pick (is:=[0]) rfl rfl hw⟩)
 ·replace h:=if_ff g_1 h
  refine Tri.skip (Nrm.seq (Tri.seq ?_))
  obtain ⟨⟨t9_1,t9_2,t9_3⟩,h9,h⟩:=bind_some h
  refine Tri.reg (l:=[0,1,2]) rfl ?_
  refine F.qn rfl (r_move rfl) ?_
  refine F.efn rfl (d_callM (xs:=_) (cs:=[R.box pa0 114 [va0_0,.int .i64 a0_1,.int .u64 a0_2]]) (rest:=[]) [0] [] rfl ok206 rfl rfl rfl rfl (fun w hw=>spec_l1Cur_next.ok h9 w (hr_a0_0.down hw) (Sep.sub hw))) ?_
  rintro _ _ ⟨_,⟨rfl,rfl⟩,rfl⟩
  refine F.qn rfl (r_assign rfl) (F.nil (Nrm.seq (Tri.seq (Tri.seq (Tri.reg (l:=[0,1]) rfl ?_)))))
  refine F.qn rfl (r_move rfl) (F.qn rfl (r_gtr rfl rfl) (F.nil (Nrm.seq ?_)))
  obtain ⟨⟨y5,ypa0_1,ypa0_2⟩,hE_1,h⟩:=bind_some h
  refine Tri.cut (fun e' C'=>e' = [(1,.int .i64 a1),(5,.int .i64 y5)]∧C' = Sep w (footM [R.box pa0 114 [va0_0,.int .i64 a0_1,.int .u64 a0_2]]) [R.box pa0 114 [va0_0,.int .i64 ypa0_1,.int .u64 ypa0_2]]) ?_ (fun hj_1=>?_)
  ·rintro _ _ ⟨rfl,rfl⟩
   refine Nrm.seq (Tri.seq ?_)
   obtain ⟨hs19,h⟩:=ck h
   refine Tri.reg (l:=[0,1,2,3]) rfl ?_
   refine F.qn rfl (r_move rfl) (F.qn rfl (r_move rfl) (F.qn rfl (r_rem rfl rfl hs19) (F.qn rfl (r_assign rfl) (F.nil (Nrm.seq (Tri.ret ?_))))))
   cases h
   exact Rtn.body (.tmp rfl .nil) (fun w hw=>⟨_,_,rfl,⟨rfl,rfl⟩,Sep.pick (is:=[0]) rfl rfl hw⟩)
  ·refine Tri.cond (b:=decide (a1 > 200)) rfl (fun g_2=>?_) (fun g_2=>?_)
   ·replace hE_1:=if_tt g_2 hE_1
    obtain ⟨⟨t15_1,t15_2,t15_3⟩,h15,hE_1⟩:=bind_some hE_1
    refine Tri.reg (l:=[0,1,2,3,4,5]) rfl ?_
    refine F.qn rfl (r_move rfl) (F.qn rfl (r_mul rfl rfl) (F.qn rfl (r_move rfl) ?_))
    refine F.efn rfl (d_callM (xs:=_) (cs:=[R.box pa0 114 [va0_0,.int .i64 t9_2,.int .u64 t9_3]]) (rest:=[]) [0] [] rfl ok206 rfl rfl rfl rfl (fun w hw=>spec_l1Cur_next.ok h15 w (hr_a0_0.down hw) (Sep.sub hw))) ?_
    rintro _ _ ⟨_,⟨rfl,rfl⟩,rfl⟩
    refine F.qn rfl (r_add rfl rfl) (F.qn rfl (r_assign rfl) (F.nil ?_))
    cases hE_1
    refine Nrm.only [1,5] rfl ?_
    refine Nrm.pick [0] rfl rfl ?_
    exact hj_1 _ _ ⟨rfl,rfl⟩
   ·replace hE_1:=if_ff g_2 hE_1
    refine Tri.skip ?_
    cases hE_1
    refine Nrm.only [1,5] rfl ?_
    refine Nrm.pick [0] rfl rfl ?_
    exact hj_1 _ _ ⟨rfl,rfl⟩


def spec_l1Cur_among.f (k : Nat) (a0_0 : List By) (a0_1 : Int) (a0_2 : Int) (a1 : List Int) : Option (Int × Int × Int) := (spec_l1Cur_pick.f k a0_0 a0_1 a0_2 (a1.length : Int)).bind fun (t9_1, t9_2, t9_3) => (rdl a1 t9_1).bind fun t10 => some (t10, t9_2, t9_3)

theorem spec_l1Cur_among.ok {k : Nat}  {a0_0 : List By} {a0_1 : Int} {a0_2 : Int} {a1 : List Int} {r0 : Int} {r1 : Int} {r2 : Int} (h : spec_l1Cur_among.f k a0_0 a0_1 a0_2 a1 = some (r0, r1, r2)) (w : World) {pa0 : Nat} {va0_0 : Value} (hr_a0_0 : RdM w (footM [R.box pa0 114 [va0_0, .int .i64 a0_1, .int .u64 a0_2]]) va0_0 a0_0) {va1 : Value} (hr_a1 : RdM w (footM [R.box pa0 114 [va0_0, .int .i64 a0_1, .int .u64 a0_2]]) va1 a1) (hw0 : Sep w (footM [R.box pa0 114 [va0_0, .int .i64 a0_1, .int .u64 a0_2]]) [R.box pa0 114 [va0_0, .int .i64 a0_1, .int .u64 a0_2]] w) :
  Calls Tryz.prog 194 ([.pointer (some ⟨pa0,0,none⟩),va1] : List Value).toArray w (PostM (footM [R.box pa0 114 [va0_0,.int .i64 a0_1,.int .u64 a0_2]]) (fun u ns=>u = .int .i64 r0∧ns = [R.box pa0 114 [va0_0,.int .i64 r1,.int .u64 r2]]) w):=by
 unfold spec_l1Cur_among.f at h
 have hl_va0_0:=hr_a0_0.len
 have hl_va1:=hr_a1.len
 refine Calls.of_tri (N:=12) Tryz.func194 rfl rfl rfl hw0 ?_
 refine Tri.seq (Tri.reg (l:=[0]) rfl ?_)
 refine F.qn rfl (r_assign rfl) (F.nil (Nrm.seq (Tri.seq ?_)))
 obtain ⟨⟨t9_1,t9_2,t9_3⟩,h9,h⟩:=bind_some h
 obtain ⟨t10,h10,h⟩:=bind_some h
 refine Tri.reg (l:=[0,1,2,3,4,5,6,7]) rfl ?_
 iterate 3 refine F.qn rfl (r_move rfl) ?_
 refine F.qn rfl (r_len Tryz.underlying25 rfl hl_va1) ?_
 refine F.efn rfl (d_callM (xs:=_) (cs:=[R.box pa0 114 [va0_0,.int .i64 a0_1,.int .u64 a0_2]]) (rest:=[]) [0] [] rfl ok115 rfl rfl rfl rfl (fun w hw=>spec_l1Cur_pick.ok h9 w (hr_a0_0.down hw) (Sep.sub hw))) ?_
 rintro _ _ ⟨_,⟨rfl,rfl⟩,rfl⟩
 refine F.qn rfl (r_indexAddrS Tryz.underlying25 ti3 rfl hl_va1 rfl (rdl_some h10).1 (rdl_some h10).2.1) (F.qn rfl (r_load ta3 rfl (fun w hw=>cell_0 (Rd.flat ((fun _ hw=>hr_a1.sep hw) w hw) (rdl_some h10).2.2) rfl)) (F.qn rfl (r_assign rfl) (F.nil (Nrm.seq (Tri.ret ?_)))))
 cases h
 exact Rtn.body (.tmp rfl .nil) (fun w hw=>⟨_,_,rfl,⟨rfl,rfl⟩,Sep.pick (is:=[0]) rfl rfl hw⟩)


def spec_l1Cur_one.f (k : Nat) (a0_0 : List By) (a0_1 : Int) (a0_2 : Int) (a1 : Int) : Option (Bool × Int × Int) := (spec_l1Cur_pick.f k a0_0 a0_1 a0_2 a1).bind fun (t7_1, t7_2, t7_3) => some (t7_1 == 0, t7_2, t7_3)

theorem spec_l1Cur_one.ok {k : Nat}  {a0_0 : List By} {a0_1 : Int} {a0_2 : Int} {a1 : Int} {r0 : Bool} {r1 : Int} {r2 : Int} (h : spec_l1Cur_one.f k a0_0 a0_1 a0_2 a1 = some (r0, r1, r2)) (w : World) {pa0 : Nat} {va0_0 : Value} (hr_a0_0 : RdM w (footM [R.box pa0 114 [va0_0, .int .i64 a0_1, .int .u64 a0_2]]) va0_0 a0_0) (hw0 : Sep w (footM [R.box pa0 114 [va0_0, .int .i64 a0_1, .int .u64 a0_2]]) [R.box pa0 114 [va0_0, .int .i64 a0_1, .int .u64 a0_2]] w) :
  Calls Tryz.prog 200 ([.pointer (some ⟨pa0,0,none⟩),.int .i64 a1] : List Value).toArray w (PostM (footM [R.box pa0 114 [va0_0,.int .i64 a0_1,.int .u64 a0_2]]) (fun u ns=>u = .bool r0∧ns = [R.box pa0 114 [va0_0,.int .i64 r1,.int .u64 r2]]) w):=by
 unfold spec_l1Cur_one.f at h
 have hl_va0_0:=hr_a0_0.len
 refine Calls.of_tri (N:=9) Tryz.func200 rfl rfl rfl hw0 ?_
 refine Tri.seq (Tri.reg (l:=[0]) rfl ?_)
 refine F.qn rfl (r_assign rfl) (F.nil (Nrm.seq (Tri.seq ?_)))
 obtain ⟨⟨t7_1,t7_2,t7_3⟩,h7,h⟩:=bind_some h
 refine Tri.reg (l:=[0,1,2,3,4]) rfl ?_
 refine F.qn rfl (r_move rfl) (F.qn rfl (r_move rfl) ?_)
 refine F.efn rfl (d_callM (xs:=_) (cs:=[R.box pa0 114 [va0_0,.int .i64 a0_1,.int .u64 a0_2]]) (rest:=[]) [0] [] rfl ok115 rfl rfl rfl rfl (fun w hw=>spec_l1Cur_pick.ok h7 w (hr_a0_0.down hw) (Sep.sub hw))) ?_
 rintro _ _ ⟨_,⟨rfl,rfl⟩,rfl⟩
 refine F.qn rfl (r_eql rfl rfl) (F.qn rfl (r_assign rfl) (F.nil (Nrm.seq (Tri.ret ?_))))
 cases h
 exact Rtn.body (.tmp rfl .nil) (fun w hw=>⟨_,_,rfl,⟨rfl,rfl⟩,Sep.pick (is:=[0]) rfl rfl hw⟩)


def spec_l1Cur_few.l0 (k : Nat) (a0_0 : List By) (a1 : Int) : Nat → Int → Int → Int → Int → Option (Int × Int × Int)
 | 0,_,_,_,_=>none
 | n + 1,x5,x6,xpa0_1,xpa0_2=>(if (decide (x6 > 0)) = true then (spec_l1Cur_pick.f k a0_0 xpa0_1 xpa0_2 a1).bind fun (t17_1,t17_2,t17_3)=>if ¬ t17_1 < 0 then spec_l1Cur_few.l0 k a0_0 a1 n (bor x5 (shl 1 t17_1)) (w64 (x6 - 1)) t17_2 t17_3 else none else some (x5,xpa0_1,xpa0_2))

def spec_l1Cur_few.f (k : Nat) (a0_0 : List By) (a0_1 : Int) (a0_2 : Int) (a1 : Int) : Option (Int × Int × Int) := (spec_l1Cur_among.f k a0_0 a0_1 a0_2 ([0, 1, 1, 1, 2] : List (Int))).bind fun (t9_1, t9_2, t9_3) => (spec_l1Cur_few.l0 k a0_0 a1 k 0 t9_1 t9_2 t9_3).bind fun (x5, xpa0_1, xpa0_2) => some (x5, xpa0_1, xpa0_2)

theorem spec_l1Cur_few.ok {k : Nat}  {a0_0 : List By} {a0_1 : Int} {a0_2 : Int} {a1 : Int} {r0 : Int} {r1 : Int} {r2 : Int} (h : spec_l1Cur_few.f k a0_0 a0_1 a0_2 a1 = some (r0, r1, r2)) (w : World) {pa0 : Nat} {va0_0 : Value} (hr_a0_0 : RdM w (footM [R.box pa0 114 [va0_0, .int .i64 a0_1, .int .u64 a0_2]]) va0_0 a0_0) (hw0 : Sep w (footM [R.box pa0 114 [va0_0, .int .i64 a0_1, .int .u64 a0_2]]) [R.box pa0 114 [va0_0, .int .i64 a0_1, .int .u64 a0_2]] w) :
  Calls Tryz.prog 202 ([.pointer (some ⟨pa0,0,none⟩),.int .i64 a1] : List Value).toArray w (PostM (footM [R.box pa0 114 [va0_0,.int .i64 a0_1,.int .u64 a0_2]]) (fun u ns=>u = .int .i64 r0∧ns = [R.box pa0 114 [va0_0,.int .i64 r1,.int .u64 r2]]) w):=by
 unfold spec_l1Cur_few.f at h
 have hl_va0_0:=hr_a0_0.len
 refine Calls.of_tri (N:=21) Tryz.func202 rfl rfl rfl hw0 ?_
 refine Tri.seq (Tri.reg (l:=[0]) rfl ?_)
 refine F.qn rfl (r_assign rfl) (F.nil (Nrm.seq (Tri.seq (Tri.reg (l:=[0]) rfl ?_))))
 refine F.qn rfl (r_assign rfl) (F.nil (Nrm.seq (Tri.seq (Tri.seq ?_))))
 obtain ⟨⟨t9_1,t9_2,t9_3⟩,h9,h⟩:=bind_some h
 refine Tri.reg (l:=[0,1,2,3]) rfl ?_
 refine F.qn rfl (r_move rfl) ?_
 refine F.mn rfl (m_buildF (l:=([0,1,1,1,2] : List (Int))) Tryz.underlying25 ti3 rfl rfl rfl rfl rfl) ?_
 rintro v8_1 _ ⟨S8_1,hl_v8_1,rfl⟩
 refine F.efn rfl (d_callM (xs:=_) (cs:=[R.box pa0 114 [va0_0,.int .i64 a0_1,.int .u64 a0_2]]) (rest:=[R.sl S8_1 v8_1 (([0,1,1,1,2] : List (Int)) : List (Int))]) [1] [0] rfl ok194 rfl rfl rfl rfl (fun w hw=>spec_l1Cur_among.ok h9 w (hr_a0_0.down hw) (rdm_sl (i:=0) rfl hw) (Sep.sub hw))) ?_
 rintro _ _ ⟨_,⟨rfl,rfl⟩,rfl⟩
 refine F.qn rfl (r_assign rfl) (F.nil (Nrm.seq ?_))
 obtain ⟨⟨x5,xpa0_1,xpa0_2⟩,hE_1,h⟩:=bind_some h
 refine Tri.block ?_
 refine Tri.only [0,1,5,6] rfl ?_
 refine Tri.pick [0] rfl rfl ?_
 refine Tri.rounds (fun n e' C'=>∃ (x5' : Int) (x6' : Int) (xpa0_1' : Int) (xpa0_2' : Int),spec_l1Cur_few.l0 k a0_0 a1 n x5' x6' xpa0_1' xpa0_2' = some (x5,xpa0_1,xpa0_2)∧e' = [(0,.pointer (some ⟨pa0,0,none⟩)),(1,.int .i64 a1),(5,.int .i64 x5'),(6,.int .i64 x6')]∧C' = Sep w (footM [R.box pa0 114 [va0_0,.int .i64 a0_1,.int .u64 a0_2]]) [R.box pa0 114 [va0_0,.int .i64 xpa0_1',.int .u64 xpa0_2']]) k ?_ ?_ ?_
 ·exact ⟨0,t9_1,t9_2,t9_3,hE_1,rfl,rfl⟩
 ·rintro _ _ ⟨_,_,_,_,hE_1,_⟩
  rw [spec_l1Cur_few.l0.eq_1] at hE_1; cases hE_1
 ·rintro n_1 _ _ ⟨x5,x6,xpa0_1,xpa0_2,hE_1,rfl,rfl⟩ ih_1
  rw [spec_l1Cur_few.l0.eq_2] at hE_1
  refine Tri.seq (Tri.seq (Tri.reg (l:=[0,1]) rfl ?_))
  refine F.qn rfl (r_move rfl) (F.qn rfl (r_gtr rfl rfl) (F.nil (Nrm.seq (Tri.cond (b:=decide (x6 > 0)) rfl (fun g_1=>?_) (fun g_1=>?_)))))
  ·replace hE_1:=if_tt g_1 hE_1
   refine Tri.skip (Nrm.seq (Tri.seq (Tri.block ?_)))
   obtain ⟨⟨t17_1,t17_2,t17_3⟩,h17,hE_1⟩:=bind_some hE_1
   obtain ⟨hs18,hE_1⟩:=ck hE_1
   refine Tri.reg (l:=[0,1,2,3,4,5,6]) rfl ?_
   iterate 3 refine F.qn rfl (r_move rfl) ?_
   refine F.efn rfl (d_callM (xs:=_) (cs:=[R.box pa0 114 [va0_0,.int .i64 xpa0_1,.int .u64 xpa0_2]]) (rest:=[]) [0] [] rfl ok115 rfl rfl rfl rfl (fun w hw=>spec_l1Cur_pick.ok h17 w (hr_a0_0.down hw) (Sep.sub hw))) ?_
   rintro _ _ ⟨_,⟨rfl,rfl⟩,rfl⟩
   refine F.qn rfl (r_shl rfl rfl hs18) (F.qn rfl (r_or rfl rfl) (F.qn rfl (r_assign rfl) (F.nil (Nrm.block ?_))))
   refine Nrm.seq (Tri.reg (l:=[0,1,2]) rfl ?_)
   refine F.qn rfl (r_move rfl) (F.qn rfl (r_sub rfl rfl) (F.qn rfl (r_assign rfl) (F.nil (Nrm.round ?_))))
   refine Rnd.only [0,1,5,6] rfl ?_
   refine Rnd.pick [0] rfl rfl ?_
   exact ih_1 _ _ ⟨bor x5 (shl 1 t17_1),w64 (x6 - 1),t17_2,t17_3,hE_1,rfl,rfl⟩
  ·replace hE_1:=if_ff g_1 hE_1
   refine Tri.exit ?_
   refine Exi.then ?_
   refine Exi.then ?_
   refine Exi.same ?_
   cases hE_1
   refine Nrm.seq (Tri.seq (Tri.reg (l:=[0,1]) rfl ?_))
   refine F.qn rfl (r_move rfl) (F.qn rfl (r_assign rfl) (F.nil (Nrm.seq (Tri.ret ?_))))
   cases h
   exact Rtn.body (.tmp rfl .nil) (fun w hw=>⟨_,_,rfl,⟨rfl,rfl⟩,Sep.pick (is:=[0]) rfl rfl hw⟩)


def spec_l2Before.l0 (k : Nat) (a0_0 : Int) (a0_1 : Int) (a0_2 : Int) (a1_0 : Int) (a1_1 : Int) (a1_2 : Int) : Nat → Int → Option ((Unit) ⊕ (Bool))
 | 0,_=>none
 | n + 1,x5=>(if (decide (x5 < 3)) = true then (rdl [a0_0,a0_1,a0_2] x5).bind fun t11=>(rdl [a1_0,a1_1,a1_2] x5).bind fun t14=>(if (t11 != t14) = true then (rdl [a0_0,a0_1,a0_2] x5).bind fun t18=>(rdl [a1_0,a1_1,a1_2] x5).bind fun t21=>some (Sum.inr (decide (t18 < t21))) else spec_l2Before.l0 k a0_0 a0_1 a0_2 a1_0 a1_1 a1_2 n (w64 (x5 + 1))) else some (Sum.inl ()))

def spec_l2Before.f (k : Nat) (a0_0 : Int) (a0_1 : Int) (a0_2 : Int) (a1_0 : Int) (a1_1 : Int) (a1_2 : Int) : Option (Bool) := (spec_l2Before.l0 k a0_0 a0_1 a0_2 a1_0 a1_1 a1_2 k 0).bind fun s => Lr s some fun _ => some false

theorem spec_l2Before.ok {k : Nat}  {a0_0 : Int} {a0_1 : Int} {a0_2 : Int} {a1_0 : Int} {a1_1 : Int} {a1_2 : Int} {r0 : Bool} (h : spec_l2Before.f k a0_0 a0_1 a0_2 a1_0 a1_1 a1_2 = some r0) (w : World) :
  Calls Tryz.prog 196 ([.agg ([.int .i64 a0_0,.int .i64 a0_1,.int .i64 a0_2].toArray),.agg ([.int .i64 a1_0,.int .i64 a1_1,.int .i64 a1_2].toArray)] : List Value).toArray w (fun e w'=>e = .returned (.bool r0)∧Ext w w'):=by
 unfold spec_l2Before.f at h
 refine Calls.of_tri (N:=24) Tryz.func196 rfl rfl rfl (Sep.nil (M:=noM)) ?_
 refine Tri.seq (Tri.reg (l:=[0,1,2]) rfl ?_)
 refine F.mn rfl (m_boxG rfl rfl) ?_
 rintro _ _ ⟨b2_1,rfl,rfl⟩
 refine F.mn rfl (m_boxG rfl rfl) ?_
 rintro _ _ ⟨b3_1,rfl,rfl⟩
 refine F.qn rfl (r_assign rfl) (F.nil (Nrm.seq (Tri.seq (Tri.seq (Tri.reg (l:=[0]) rfl ?_)))))
 refine F.qn rfl (r_assign rfl) (F.nil (Nrm.seq ?_))
 obtain ⟨s0,hE_1,h⟩:=bind_some h
 refine Tri.block ?_
 refine Tri.only [2,3,5] rfl ?_
 refine Tri.pick [0,1] rfl rfl ?_
 refine Tri.rounds (fun n e' C'=>∃ (x5' : Int),spec_l2Before.l0 k a0_0 a0_1 a0_2 a1_0 a1_1 a1_2 n x5' = some s0∧e' = [(2,.pointer (some ⟨b2_1,0,none⟩)),(3,.pointer (some ⟨b3_1,0,none⟩)),(5,.int .i64 x5')]∧C' = Sep w noM [R.box b3_1 168 [.int .i64 a1_0,.int .i64 a1_1,.int .i64 a1_2],R.box b2_1 168 [.int .i64 a0_0,.int .i64 a0_1,.int .i64 a0_2]]) k ?_ ?_ ?_
 ·exact ⟨0,hE_1,rfl,rfl⟩
 ·rintro _ _ ⟨_,hE_1,_⟩
  rw [spec_l2Before.l0.eq_1] at hE_1; cases hE_1
 ·rintro n_1 _ _ ⟨x5,hE_1,rfl,rfl⟩ ih_1
  rw [spec_l2Before.l0.eq_2] at hE_1
  refine Tri.seq (Tri.seq (Tri.reg (l:=[0,1]) rfl ?_))
  refine F.qn rfl (r_move rfl) (F.qn rfl (r_lss rfl rfl) (F.nil (Nrm.seq (Tri.cond (b:=decide (x5 < 3)) rfl (fun g_1=>?_) (fun g_1=>?_)))))
  ·replace hE_1:=if_tt g_1 hE_1
   refine Tri.skip (Nrm.seq (Tri.seq (Tri.block ?_)))
   refine Tri.seq ?_
   obtain ⟨t11,h11,hE_1⟩:=bind_some hE_1
   obtain ⟨t14,h14,hE_1⟩:=bind_some hE_1
   refine Tri.drawA mixedT Sep.up [(0,true),(1,true),(2,true),(3,true),(4,true),(5,true),(6,true)] [] (by kernel_rfl) ?_
   refine S.qn rfl (r_move rfl) ?_
   refine S.qn rfl (r_indexAddrA Tryz.underlying168 ti3 rfl rfl (rdl_some h11).1 (rdl_some h11).2.1) (S.qn rfl (r_load ta3 rfl (fun w hw=>cell_dynB (box_cells (i:=1) rfl w hw) rfl h11)) (S.qn rfl (r_move rfl) (S.qn rfl (r_indexAddrA Tryz.underlying168 ti3 rfl rfl (rdl_some h14).1 (rdl_some h14).2.1) (S.qn rfl (r_load ta3 rfl (fun w hw=>cell_dynB (box_cells (i:=0) rfl w hw) rfl h14)) (S.qn rfl (r_neq rfl rfl) (S.nil (F.nil (Nrm.seq (Tri.cond (b:=t11 != t14) rfl (fun g_2=>?_) (fun g_2=>?_))))))))))
   ·replace hE_1:=if_tt g_2 hE_1
    refine Tri.seq ?_
    obtain ⟨t18,h18,hE_1⟩:=bind_some hE_1
    obtain ⟨t21,h21,hE_1⟩:=bind_some hE_1
    refine Tri.drawA mixedT Sep.up [(0,true),(1,true),(2,true),(3,true),(4,true),(5,true),(6,true),(7,true)] [] (by kernel_rfl) ?_
    refine S.qn rfl (r_move rfl) (S.qn rfl (r_indexAddrA Tryz.underlying168 ti3 rfl rfl (rdl_some h18).1 (rdl_some h18).2.1) ?_)
    refine S.qn rfl (r_load ta3 rfl (fun w hw=>cell_dynB (box_cells (i:=1) rfl w hw) rfl h18)) (S.qn rfl (r_move rfl) (S.qn rfl (r_indexAddrA Tryz.underlying168 ti3 rfl rfl (rdl_some h21).1 (rdl_some h21).2.1) (S.qn rfl (r_load ta3 rfl (fun w hw=>cell_dynB (box_cells (i:=0) rfl w hw) rfl h21)) (S.qn rfl (r_lss rfl rfl) (S.qn rfl (r_assign rfl) (S.nil (F.nil (Nrm.seq (Tri.ret ?_)))))))))
    refine Rtn.block ?_
    refine Rtn.then ?_
    refine Rtn.then ?_
    refine Rtn.block ?_
    refine Rtn.then ?_
    cases hE_1
    replace h:=Lr_inr h
    cases h
    exact Rtn.body (.tmp rfl .nil) (fun w hw=>⟨rfl,hw.ext⟩)
   ·replace hE_1:=if_ff g_2 hE_1
    refine Tri.skip (Nrm.block ?_)
    refine Nrm.seq (Tri.reg (l:=[0,1,2]) rfl ?_)
    refine F.qn rfl (r_move rfl) (F.qn rfl (r_add rfl rfl) (F.qn rfl (r_assign rfl) (F.nil (Nrm.round ?_))))
    refine Rnd.only [2,3,5] rfl ?_
    refine Rnd.pick [0,1] rfl rfl ?_
    exact ih_1 _ _ ⟨w64 (x5 + 1),hE_1,rfl,rfl⟩
  ·replace hE_1:=if_ff g_1 hE_1
   refine Tri.exit ?_
   refine Exi.then ?_
   refine Exi.then ?_
   refine Exi.same ?_
   cases hE_1
   replace h:=Lr_inl h
   refine Nrm.seq (Tri.seq (Tri.reg (l:=[0]) rfl ?_))
   refine F.qn rfl (r_assign rfl) (F.nil (Nrm.seq (Tri.ret ?_)))
   cases h
   exact Rtn.body (.tmp rfl .nil) (fun w hw=>⟨rfl,hw.ext⟩)


def spec_l1Most.f (k : Nat) (a0 : Int) (a1 : Int) : Option (Int) := (if (decide (a0 > a1)) = true then some a0 else some a1)

theorem spec_l1Most.ok {k : Nat}  {a0 : Int} {a1 : Int} {r0 : Int} (h : spec_l1Most.f k a0 a1 = some r0) (w : World) :
  Calls Tryz.prog 198 ([.int .i64 a0,.int .i64 a1] : List Value).toArray w (fun e w'=>e = .returned (.int .i64 r0)∧Ext w w'):=by
 unfold spec_l1Most.f at h
 refine Calls.of_tri (N:=10) Tryz.func198 rfl rfl rfl (Sep.nil (M:=noM)) ?_
 refine Tri.seq (Tri.reg (l:=[0]) rfl ?_)
 refine F.qn rfl (r_assign rfl) (F.nil (Nrm.seq (Tri.seq (Tri.seq (Tri.reg (l:=[0,1,2]) rfl ?_)))))
 refine F.qn rfl (r_move rfl) (F.qn rfl (r_move rfl) (F.qn rfl (r_gtr rfl rfl) (F.nil (Nrm.seq (Tri.cond (b:=decide (a0 > a1)) rfl (fun g_1=>?_) (fun g_1=>?_))))))
 ·replace h:=if_tt g_1 h
  refine Tri.seq (Tri.reg (l:=[0,1]) rfl ?_)
  refine F.qn rfl (r_move rfl) (F.qn rfl (r_assign rfl) (F.nil (Nrm.seq (Tri.ret ?_))))
  refine Rtn.then ?_
  cases h
  exact Rtn.body (.tmp rfl .nil) (fun w hw=>⟨rfl,hw.ext⟩)
 ·replace h:=if_ff g_1 h
  refine Tri.skip (Nrm.seq (Tri.seq (Tri.reg (l:=[0,1]) rfl ?_)))
  refine F.qn rfl (r_move rfl) (F.qn rfl (r_assign rfl) (F.nil (Nrm.seq (Tri.ret ?_))))
  cases h
  exact Rtn.body (.tmp rfl .nil) (fun w hw=>⟨rfl,hw.ext⟩)


def spec_l1Least.f (k : Nat) (a0 : Int) (a1 : Int) : Option (Int) := (if (decide (a0 < a1)) = true then some a0 else some a1)

theorem spec_l1Least.ok {k : Nat}  {a0 : Int} {a1 : Int} {r0 : Int} (h : spec_l1Least.f k a0 a1 = some r0) (w : World) :
  Calls Tryz.prog 199 ([.int .i64 a0,.int .i64 a1] : List Value).toArray w (fun e w'=>e = .returned (.int .i64 r0)∧Ext w w'):=by
 unfold spec_l1Least.f at h
 refine Calls.of_tri (N:=10) Tryz.func199 rfl rfl rfl (Sep.nil (M:=noM)) ?_
 refine Tri.seq (Tri.reg (l:=[0]) rfl ?_)
 refine F.qn rfl (r_assign rfl) (F.nil (Nrm.seq (Tri.seq (Tri.seq (Tri.reg (l:=[0,1,2]) rfl ?_)))))
 refine F.qn rfl (r_move rfl) (F.qn rfl (r_move rfl) (F.qn rfl (r_lss rfl rfl) (F.nil (Nrm.seq (Tri.cond (b:=decide (a0 < a1)) rfl (fun g_1=>?_) (fun g_1=>?_))))))
 ·replace h:=if_tt g_1 h
  refine Tri.seq (Tri.reg (l:=[0,1]) rfl ?_)
  refine F.qn rfl (r_move rfl) (F.qn rfl (r_assign rfl) (F.nil (Nrm.seq (Tri.ret ?_))))
  refine Rtn.then ?_
  cases h
  exact Rtn.body (.tmp rfl .nil) (fun w hw=>⟨rfl,hw.ext⟩)
 ·replace h:=if_ff g_1 h
  refine Tri.skip (Nrm.seq (Tri.seq (Tri.reg (l:=[0,1]) rfl ?_)))
  refine F.qn rfl (r_move rfl) (F.qn rfl (r_assign rfl) (F.nil (Nrm.seq (Tri.ret ?_))))
  cases h
  exact Rtn.body (.tmp rfl .nil) (fun w hw=>⟨rfl,hw.ext⟩)


def spec_l2Put.l0 (k : Nat) (a0 : List (Int × Int × Int)) (a3 : Int) (t13 : Int) (t16 : Int) : Nat → Int → Option (Int)
 | 0,_=>none
 | n + 1,x10=>((if (decide (x10 < (a0.length : Int))) = true then (rdl a0 x10).bind fun t26=>(spec_l2Before.f k t26.1 t26.2.1 t26.2.2 t13 t16 a3).bind fun t29=>some t29 else some false)).bind fun y30=>(if y30 = true then spec_l2Put.l0 k a0 a3 t13 t16 n (w64 (x10 + 1)) else some x10)

def spec_l2Put.f (k : Nat) (a0 : List (Int × Int × Int)) (a1 : Int) (a2 : Int) (a3 : Int) : Option ((List (Int × Int × Int))) := (spec_l1Least.f k a1 a2).bind fun t13 => (spec_l1Most.f k a1 a2).bind fun t16 => (spec_l2Put.l0 k a0 a3 t13 t16 k 0).bind fun x10 => ((if (decide (x10 < (a0.length : Int))) = true then (rdl a0 x10).bind fun t40 => some (decide ((t40.1, t40.2.1, t40.2.2) = (t13, t16, a3))) else some false)).bind fun y44 => (if y44 = true then some a0 else ((slc a0 0 x10).bind fun t49 => (slc a0 x10 (a0.length : Int)).bind fun t56 => if (([] : List (Int × Int × Int)) ++ t49).length < 1099511627776 then if ((([] : List (Int × Int × Int)) ++ t49) ++ ([(t13, t16, a3)] : List (Int × Int × Int))).length < 1099511627776 then if (((([] : List (Int × Int × Int)) ++ t49) ++ ([(t13, t16, a3)] : List (Int × Int × Int))) ++ t56).length < 1099511627776 then some (((([] : List (Int × Int × Int)) ++ t49) ++ ([(t13, t16, a3)] : List (Int × Int × Int))) ++ t56) else none else none else none).bind fun y8 => some y8)

theorem spec_l2Put.ok {k : Nat}  {a0 : List (Int × Int × Int)} {a1 : Int} {a2 : Int} {a3 : Int} {r0 : List (Int × Int × Int)} (h : spec_l2Put.f k a0 a1 a2 a3 = some r0) (w : World) {va0 : Value} {Sa0 : Nat → Prop} (hl_va0 : SlLen va0 a0.length) (hw0 : Sep w (footM [R.sl Sa0 va0 a0]) [R.sl Sa0 va0 a0] w) :
  Calls Tryz.prog 238 ([va0,.int .i64 a1,.int .i64 a2,.int .i64 a3] : List Value).toArray w (PostM (footM [R.sl Sa0 va0 a0]) (fun u ns=>∃ (Sr0 : Nat → Prop),SlLen u r0.length∧ns = [R.sl Sr0 u r0]) w):=by
 unfold spec_l2Put.f at h
 refine Calls.of_tri (N:=58) Tryz.func238 rfl rfl rfl hw0 ?_
 refine Tri.seq (Tri.reg (l:=[0]) rfl ?_)
 refine F.qn rfl (r_assign rfl) (F.nil (Nrm.seq (Tri.seq ?_)))
 obtain ⟨t13,h13,h⟩:=bind_some h
 obtain ⟨t16,h16,h⟩:=bind_some h
 refine Tri.reg (l:=[0,1,2,3,4,5,6,7,8,9]) rfl ?_
 refine F.qn rfl (r_move rfl) (F.qn rfl (r_move rfl) ?_)
 refine F.qcn rfl (q_callF (xs:=_) rfl ok199 rfl rfl (fun w hw=>spec_l1Least.ok h13 w)) ?_
 refine F.qn rfl (r_move rfl) (F.qn rfl (r_move rfl) ?_)
 refine F.qcn rfl (q_callF (xs:=_) rfl ok198 rfl rfl (fun w hw=>spec_l1Most.ok h16 w)) ?_
 refine F.qn rfl (r_move rfl) (F.qn rfl (r_buildA (qs:=[(0,[.int .i64 t13]),(1,[.int .i64 t16]),(2,[.int .i64 a3])]) (cs:=[.int .i64 t13,.int .i64 t16,.int .i64 a3]) Tryz.underlying168 ti3 ti168 rfl (.cons rfl rfl (Nat.le_of_ble_eq_true rfl) (.cons rfl rfl (Nat.le_of_ble_eq_true rfl) (.cons rfl rfl (Nat.le_of_ble_eq_true rfl) .nil))) rfl rfl) ?_)
 refine F.mn rfl (m_alloc ti168) ?_
 rintro _ _ ⟨b9_1,rfl,rfl⟩
 refine F.ef0 rfl rfl (wanted_none rfl) (d_storeG0 (i:=0) (cs2:=[.int .i64 t13,.int .i64 t16,.int .i64 a3]) ti168 rfl rfl rfl rfl rfl (Nat.le_of_ble_eq_true rfl) (lf_cons rfl (lf_cons rfl (lf_cons rfl lf_nil)))) ?_
 rintro _ _ ⟨rfl,rfl⟩
 refine F.nil (Nrm.seq (Tri.seq (Tri.reg (l:=[0]) rfl ?_)))
 refine F.qn rfl (r_assign rfl) (F.nil (Nrm.seq (Tri.seq ?_)))
 obtain ⟨x10,hE_1,h⟩:=bind_some h
 refine Tri.block ?_
 refine Tri.only [0,9,10] rfl ?_
 refine Tri.pick [0,1] rfl rfl ?_
 refine Tri.rounds (fun n e' C'=>∃ (x10' : Int),spec_l2Put.l0 k a0 a3 t13 t16 n x10' = some x10∧e' = [(0,va0),(9,.pointer (some ⟨b9_1,0,none⟩)),(10,.int .i64 x10')]∧C' = Sep w (footM [R.sl Sa0 va0 a0]) [R.box b9_1 168 [.int .i64 t13,.int .i64 t16,.int .i64 a3],R.sl Sa0 va0 (a0 : List (Int × Int × Int))]) k ?_ ?_ ?_
 ·exact ⟨0,hE_1,rfl,rfl⟩
 ·rintro _ _ ⟨_,hE_1,_⟩
  rw [spec_l2Put.l0.eq_1] at hE_1; cases hE_1
 ·rintro n_1 _ _ ⟨x10,hE_1,rfl,rfl⟩ ih_1
  rw [spec_l2Put.l0.eq_2] at hE_1
  refine Tri.seq (Tri.seq ?_)
  obtain ⟨y30,hE_2,hE_1⟩:=bind_some hE_1
  refine Tri.cut (fun e' C'=>e' = [(0,va0),(9,.pointer (some ⟨b9_1,0,none⟩)),(10,.int .i64 x10),(30,.bool y30)]∧C' = Sep w (footM [R.sl Sa0 va0 a0]) [R.box b9_1 168 [.int .i64 t13,.int .i64 t16,.int .i64 a3],R.sl Sa0 va0 (a0 : List (Int × Int × Int))]) ?_ (fun hj_1=>?_)
  ·rintro _ _ ⟨rfl,rfl⟩
   refine Nrm.seq (Tri.cond (b:=y30) rfl (fun g_1=>?_) (fun g_1=>?_))
   ·replace hE_1:=if_tt g_1 hE_1
    refine Tri.skip (Nrm.seq (Tri.block ?_))
    refine Tri.reg (l:=[0,1,2]) rfl ?_
    refine F.qn rfl (r_move rfl) (F.qn rfl (r_add rfl rfl) (F.qn rfl (r_assign rfl) (F.nil (Nrm.block ?_))))
    refine Nrm.round ?_
    refine Rnd.only [0,9,10] rfl ?_
    refine Rnd.pick [0,1] rfl rfl ?_
    exact ih_1 _ _ ⟨w64 (x10 + 1),hE_1,rfl,rfl⟩
   ·replace hE_1:=if_ff g_1 hE_1
    refine Tri.exit ?_
    refine Exi.then ?_
    refine Exi.then ?_
    refine Exi.same ?_
    cases hE_1
    refine Nrm.seq (Tri.seq (Tri.seq ?_))
    obtain ⟨y44,hE_3,h⟩:=bind_some h
    refine Tri.cut (fun e' C'=>e' = [(0,va0),(9,.pointer (some ⟨b9_1,0,none⟩)),(10,.int .i64 x10),(44,.bool y44)]∧C' = Sep w (footM [R.sl Sa0 va0 a0]) [R.box b9_1 168 [.int .i64 t13,.int .i64 t16,.int .i64 a3],R.sl Sa0 va0 (a0 : List (Int × Int × Int))]) ?_ (fun hj_2=>?_)
    ·rintro _ _ ⟨rfl,rfl⟩
     refine Nrm.seq (Tri.cond (b:=y44) rfl (fun g_2=>?_) (fun g_2=>?_))
     ·replace h:=if_tt g_2 h
      refine Tri.seq (Tri.reg (l:=[0,1]) rfl ?_)
      refine F.qn rfl (r_move rfl) (F.qn rfl (r_assign rfl) (F.nil (Nrm.seq (Tri.ret ?_))))
      refine Rtn.then ?_
      cases h
      exact Rtn.body (.tmp rfl .nil) (fun w hw=>⟨_,_,rfl,⟨Sa0,hl_va0,rfl⟩,Sep.pick (is:=[1]) rfl rfl hw⟩)
     ·replace h:=if_ff g_2 h
      refine Tri.skip (Nrm.seq (Tri.seq ?_))
      obtain ⟨y8,hE_4,h⟩:=bind_some h
      refine Tri.cut (fun e' C'=>∃ (v8_1 : Value) (S8_1 : Nat → Prop),SlLen v8_1 (y8).length∧e' = [(8,v8_1)]∧C' = Sep w (footM [R.sl Sa0 va0 a0]) [R.sl S8_1 v8_1 (y8 : List (Int × Int × Int))]) ?_ (fun hj_3=>?_)
      ·rintro _ _ ⟨v8_1,S8_1,hl_v8_1,rfl,rfl⟩
       refine Nrm.seq (Tri.ret ?_)
       cases h
       exact Rtn.body (.tmp rfl .nil) (fun w hw=>⟨_,_,rfl,⟨S8_1,hl_v8_1,rfl⟩,Sep.pick (is:=[0]) rfl rfl hw⟩)
      ·obtain ⟨t49,h49,hE_4⟩:=bind_some hE_4
       obtain ⟨t56,h56,hE_4⟩:=bind_some hE_4
       obtain ⟨hs50,hE_4⟩:=ck hE_4
       obtain ⟨hs53,hE_4⟩:=ck hE_4
       obtain ⟨hs57,hE_4⟩:=ck hE_4
       refine Tri.drawT mixedT Sep.up [1,2,3,5,8,9,10,0,4,6,7] [11,12] (.q 1 (.q 2 (.q 3 (.q 5 (.q 8 (.q 9 (.q 10 (.alt 0 (.alt 4 (.alt 6 (.alt 7 .nil .stop) .stop) (.alt 6 (.alt 4 (.alt 7 .nil .stop) .stop) .stop)) (.alt 6 (.alt 0 (.alt 4 (.alt 7 .nil .stop) .stop) .stop) .stop))))))))) (by kernel_rfl) ?_
       refine T.q rfl rfl rfl (wanted_none rfl) (r_move rfl) ?_
       refine T.q rfl rfl rfl (wanted_none rfl) (r_move rfl) ?_
       refine T.q rfl rfl rfl (wanted_none rfl) (r_sliceH Tryz.underlying24 ti168 rfl (rd_sl (i:=1) rfl) rfl h49) ?_
       refine T.q rfl rfl rfl (wanted_none rfl) (r_loadA ta168 ti168 rfl rfl (fun w hw=>(box_cells (i:=0) rfl w hw))) ?_
       refine T.q rfl rfl rfl (wanted_none rfl) (r_move rfl) ?_
       refine T.q rfl rfl rfl (wanted_none rfl) (r_move rfl) ?_
       refine T.q rfl rfl rfl (wanted_none rfl) (r_sliceL Tryz.underlying24 ti168 rfl (rd_sl (i:=1) rfl) rfl h56) ?_
       refine T.ef rfl rfl rfl (wanted_none rfl) (Makes.does (m_build0 (α:=Int × Int × Int) Tryz.underlying24 ti168)) (by rintro v46_2 _ ⟨S46_2,hl_v46_2,rfl⟩; exact upd rfl [1,2] rfl rfl) ?_ ?_
       ·rintro v46_2 _ ⟨S46_2,hl_v46_2,rfl⟩
        refine T.ef rfl rfl rfl (wanted_none rfl) (d_append (i:=0) Tryz.underlying24 Tryz.underlying24 ti168 rfl (by decide) rfl rfl rfl (fun w hw=>rd_slc ((rd_sl (i:=2) rfl) w hw) h49) hs50) (by rintro v50_2 _ ⟨S50_2,rfl,hl_v50_2⟩; exact upd rfl [1,2] rfl rfl) ?_ ?_
        ·rintro v50_2 _ ⟨S50_2,rfl,hl_v50_2⟩
         refine T.ef rfl rfl rfl (wanted_none rfl) (Makes.does (m_buildF (l:=([(t13,t16,a3)] : List (Int × Int × Int))) Tryz.underlying24 ti168 rfl rfl rfl rfl rfl)) (by rintro v52_2 _ ⟨S52_2,hl_v52_2,rfl⟩; exact upd rfl [2,3] rfl rfl) ?_ ?_
         ·rintro v52_2 _ ⟨S52_2,hl_v52_2,rfl⟩
          refine T.ef rfl rfl rfl (wanted_none rfl) (d_append (i:=1) Tryz.underlying24 Tryz.underlying24 ti168 rfl (by decide) rfl rfl rfl (rd_sl (i:=0) rfl) hs53) (by rintro v53_2 _ ⟨S53_2,rfl,hl_v53_2⟩; exact upd rfl [2,3] rfl rfl) ?_ ?_
          ·rintro v53_2 _ ⟨S53_2,rfl,hl_v53_2⟩
           refine T.nil ?_
           refine F.efn rfl (d_append (i:=1) Tryz.underlying24 Tryz.underlying24 ti168 rfl (by decide) rfl rfl rfl (fun w hw=>rd_slc ((rd_sl (i:=3) rfl) w hw) h56) hs57) ?_
           rintro v57_2 _ ⟨S57_2,rfl,hl_v57_2⟩
           refine F.qn rfl (r_assign rfl) (F.nil ?_)
           cases hE_4
           refine Nrm.only [8] rfl ?_
           refine Nrm.pick [1] rfl rfl ?_
           exact hj_3 _ _ ⟨v57_2,S57_2,hl_v57_2,rfl,rfl⟩
          exact T.stop
         exact T.stop
        ·refine T.ef rfl rfl rfl (wanted_none rfl) (Makes.does (m_buildF (l:=([(t13,t16,a3)] : List (Int × Int × Int))) Tryz.underlying24 ti168 rfl rfl rfl rfl rfl)) (by rintro v52_3 _ ⟨S52_3,hl_v52_3,rfl⟩; exact upd rfl [2,3] rfl rfl) ?_ ?_
         ·rintro v52_3 _ ⟨S52_3,hl_v52_3,rfl⟩
          refine T.ef rfl rfl rfl (wanted_none rfl) (d_append (i:=1) Tryz.underlying24 Tryz.underlying24 ti168 rfl (by decide) rfl rfl rfl (fun w hw=>rd_slc ((rd_sl (i:=3) rfl) w hw) h49) hs50) (by rintro v50_3 _ ⟨S50_3,rfl,hl_v50_3⟩; exact upd rfl [2,3] rfl rfl) ?_ ?_
          ·rintro v50_3 _ ⟨S50_3,rfl,hl_v50_3⟩
           refine T.ef rfl rfl rfl (wanted_none rfl) (d_append (i:=1) Tryz.underlying24 Tryz.underlying24 ti168 rfl (by decide) rfl rfl rfl (rd_sl (i:=0) rfl) hs53) (by rintro v53_3 _ ⟨S53_3,rfl,hl_v53_3⟩; exact upd rfl [2,3] rfl rfl) ?_ ?_
           ·rintro v53_3 _ ⟨S53_3,rfl,hl_v53_3⟩
            refine T.nil ?_
            refine F.efn rfl (d_append (i:=1) Tryz.underlying24 Tryz.underlying24 ti168 rfl (by decide) rfl rfl rfl (fun w hw=>rd_slc ((rd_sl (i:=3) rfl) w hw) h56) hs57) ?_
            rintro v57_3 _ ⟨S57_3,rfl,hl_v57_3⟩
            refine F.qn rfl (r_assign rfl) (F.nil ?_)
            cases hE_4
            refine Nrm.only [8] rfl ?_
            refine Nrm.pick [1] rfl rfl ?_
            exact hj_3 _ _ ⟨v57_3,S57_3,hl_v57_3,rfl,rfl⟩
           exact T.stop
          exact T.stop
         exact T.stop
       ·refine T.ef rfl rfl rfl (wanted_none rfl) (Makes.does (m_buildF (l:=([(t13,t16,a3)] : List (Int × Int × Int))) Tryz.underlying24 ti168 rfl rfl rfl rfl rfl)) (by rintro v52_4 _ ⟨S52_4,hl_v52_4,rfl⟩; exact upd rfl [1,2] rfl rfl) ?_ ?_
        ·rintro v52_4 _ ⟨S52_4,hl_v52_4,rfl⟩
         refine T.ef rfl rfl rfl (wanted_none rfl) (Makes.does (m_build0 (α:=Int × Int × Int) Tryz.underlying24 ti168)) (by rintro v46_3 _ ⟨S46_3,hl_v46_3,rfl⟩; exact upd rfl [2,3] rfl rfl) ?_ ?_
         ·rintro v46_3 _ ⟨S46_3,hl_v46_3,rfl⟩
          refine T.ef rfl rfl rfl (wanted_none rfl) (d_append (i:=0) Tryz.underlying24 Tryz.underlying24 ti168 rfl (by decide) rfl rfl rfl (fun w hw=>rd_slc ((rd_sl (i:=3) rfl) w hw) h49) hs50) (by rintro v50_4 _ ⟨S50_4,rfl,hl_v50_4⟩; exact upd rfl [2,3] rfl rfl) ?_ ?_
          ·rintro v50_4 _ ⟨S50_4,rfl,hl_v50_4⟩
           refine T.ef rfl rfl rfl (wanted_none rfl) (d_append (i:=0) Tryz.underlying24 Tryz.underlying24 ti168 rfl (by decide) rfl rfl rfl (rd_sl (i:=1) rfl) hs53) (by rintro v53_4 _ ⟨S53_4,rfl,hl_v53_4⟩; exact upd rfl [2,3] rfl rfl) ?_ ?_
           ·rintro v53_4 _ ⟨S53_4,rfl,hl_v53_4⟩
            refine T.nil ?_
            refine F.efn rfl (d_append (i:=0) Tryz.underlying24 Tryz.underlying24 ti168 rfl (by decide) rfl rfl rfl (fun w hw=>rd_slc ((rd_sl (i:=3) rfl) w hw) h56) hs57) ?_
            rintro v57_4 _ ⟨S57_4,rfl,hl_v57_4⟩
            refine F.qn rfl (r_assign rfl) (F.nil ?_)
            cases hE_4
            refine Nrm.only [8] rfl ?_
            refine Nrm.pick [0] rfl rfl ?_
            exact hj_3 _ _ ⟨v57_4,S57_4,hl_v57_4,rfl,rfl⟩
           exact T.stop
          exact T.stop
         exact T.stop
        exact T.stop
    ·rcases Bool.eq_false_or_eq_true (decide (x10 < (a0.length : Int))) with g37 | g37
     ·replace hE_3:=if_tt g37 hE_3
      obtain ⟨t40,h40,hE_3⟩:=bind_some hE_3
      refine Tri.drawA mixedT Sep.up [(0,true),(1,true),(2,true),(3,true),(4,true),(5,true),(6,true),(7,true),(8,true),(9,true),(10,true),(11,true)] [] (by kernel_rfl) ?_
      refine S.qn rfl (r_move rfl) (S.qn rfl (r_move rfl) (S.qn rfl (r_len Tryz.underlying24 rfl hl_va0) (S.qn rfl (r_lss rfl rfl) (S.qn rfl (r_move rfl) (S.qg rfl g37 (r_move rfl) ?_)))))
      refine S.qg rfl g37 (r_move rfl) (S.qg rfl g37 (r_indexAddrS Tryz.underlying24 ti168 rfl hl_va0 rfl (rdl_some h40).1 (rdl_some h40).2.1) (S.qg rfl g37 (r_loadA ta168 ti168 rfl rfl (fun w hw=>(Rd.flat ((rd_sl (i:=1) rfl) w hw) (rdl_some h40).2.2))) (S.qg rfl g37 (r_loadA ta168 ti168 rfl rfl (fun w hw=>(box_cells (i:=0) rfl w hw))) (S.qg rfl g37 (r_eqlA3 Tryz.underlying168 Tryz.underlying3 ti3 ta3 rfl rfl eg168) (S.qn rfl (r_pick rfl rfl g37) (S.nil (F.nil ?_)))))))
      cases hE_3
      refine Nrm.only [0,9,10,44] rfl ?_
      refine Nrm.pick [0,1] rfl rfl ?_
      exact hj_2 _ _ ⟨rfl,rfl⟩
     ·replace hE_3:=if_ff g37 hE_3
      refine Tri.drawA mixedT Sep.up [(0,true),(1,true),(2,true),(3,true),(4,true),(5,true),(6,true),(7,true),(8,true),(9,true),(10,true),(11,true)] [] (by kernel_rfl) ?_
      refine S.qn rfl (r_move rfl) (S.qn rfl (r_move rfl) (S.qn rfl (r_len Tryz.underlying24 rfl hl_va0) (S.qn rfl (r_lss rfl rfl) (S.qn rfl (r_move rfl) ?_))))
      iterate 6 refine S.skf rfl g37 ?_
      refine S.qn rfl (r_pickf rfl rfl g37) (S.nil (F.nil ?_))
      cases hE_3
      refine Nrm.only [0,9,10,44] rfl ?_
      refine Nrm.pick [0,1] rfl rfl ?_
      exact hj_2 _ _ ⟨rfl,rfl⟩
  ·rcases Bool.eq_false_or_eq_true (decide (x10 < (a0.length : Int))) with g23 | g23
   ·replace hE_2:=if_tt g23 hE_2
    obtain ⟨t26,h26,hE_2⟩:=bind_some hE_2
    obtain ⟨t29,h29,hE_2⟩:=bind_some hE_2
    refine Tri.drawA mixedT Sep.up [(0,true),(1,true),(2,true),(3,true),(4,true),(5,true),(6,true),(7,true),(8,true),(9,true),(10,true),(11,true)] [] (by kernel_rfl) ?_
    refine S.qn rfl (r_move rfl) (S.qn rfl (r_move rfl) (S.qn rfl (r_len Tryz.underlying24 rfl hl_va0) (S.qn rfl (r_lss rfl rfl) ?_)))
    refine S.qn rfl (r_move rfl) (S.qg rfl g23 (r_move rfl) (S.qg rfl g23 (r_move rfl) (S.qg rfl g23 (r_indexAddrS Tryz.underlying24 ti168 rfl hl_va0 rfl (rdl_some h26).1 (rdl_some h26).2.1) (S.qg rfl g23 (r_loadA ta168 ti168 rfl rfl (fun w hw=>(Rd.flat ((rd_sl (i:=1) rfl) w hw) (rdl_some h26).2.2))) (S.qg rfl g23 (r_loadA ta168 ti168 rfl rfl (fun w hw=>(box_cells (i:=0) rfl w hw))) ?_)))))
    refine S.qc rfl rfl rfl (wg rfl rfl rfl g23) (q_callF (xs:=_) rfl ok196 rfl rfl (fun w hw=>spec_l2Before.ok h29 w)) ?_
    refine S.qn rfl (r_pick rfl rfl g23) (S.nil (F.nil ?_))
    cases hE_2
    refine Nrm.only [0,9,10,30] rfl ?_
    refine Nrm.pick [0,1] rfl rfl ?_
    exact hj_1 _ _ ⟨rfl,rfl⟩
   ·replace hE_2:=if_ff g23 hE_2
    refine Tri.drawA mixedT Sep.up [(0,true),(1,true),(2,true),(3,true),(4,true),(5,true),(6,true),(7,true),(8,true),(9,true),(10,true),(11,true)] [] (by kernel_rfl) ?_
    refine S.qn rfl (r_move rfl) (S.qn rfl (r_move rfl) (S.qn rfl (r_len Tryz.underlying24 rfl hl_va0) (S.qn rfl (r_lss rfl rfl) (S.qn rfl (r_move rfl) ?_))))
    iterate 6 refine S.skf rfl g23 ?_
    refine S.qn rfl (r_pickf rfl rfl g23) (S.nil (F.nil ?_))
    cases hE_2
    refine Nrm.only [0,9,10,30] rfl ?_
    refine Nrm.pick [0,1] rfl rfl ?_
    exact hj_1 _ _ ⟨rfl,rfl⟩


def spec_l1Cur_someMaze.l1 (k : Nat) (a0_0 : List By) (a1 : Int) (t20_1 : Int) : Nat → Int → Int → Int → (List (Int × Int × Int)) → Option (Int × Int × (List (Int × Int × Int)))
 | 0,_,_,_,_=>none
 | n + 1,x11,xpa0_1r,xpa0_2r,xq5_1_1r=>((if (decide (x11 > 0)) = true then (if (decide (a1 > 1)) = true then some (decide (a1 < 13)) else some false) else some false)).bind fun y77=>(if y77 = true then (spec_l1Cur_pick.f k a0_0 xpa0_1r xpa0_2r a1).bind fun (t82_1,t82_2,t82_3)=>(spec_l1Cur_pick.f k a0_0 t82_2 t82_3 a1).bind fun (t85_1,t85_2,t85_3)=>((if (t82_1 != t85_1) = true then (spec_l1Cur_few.f k a0_0 t85_2 t85_3 (w64 (1 + t20_1))).bind fun (t95_1,t95_2,t95_3)=>(spec_l2Put.f k xq5_1_1r t82_1 t85_1 t95_1).bind fun t96=>some (t95_2,t95_3,t96) else some (t85_2,t85_3,xq5_1_1r))).bind fun (ypa0_1rr,ypa0_2rr,yb5_1_1r)=>spec_l1Cur_someMaze.l1 k a0_0 a1 t20_1 n (w64 (x11 - 1)) ypa0_1rr ypa0_2rr yb5_1_1r else some (xpa0_1r,xpa0_2r,xq5_1_1r))

def spec_l1Cur_someMaze.l0 (k : Nat) (a0_0 : List By) (a1 : Int) (t20_1 : Int) : Nat → Int → Int → (List (Int × Int × Int)) → (List (Int)) → Int → Int → Option (Int × Int × (List (Int × Int × Int)) × (List (Int)))
 | 0,_,_,_,_,_,_=>none
 | n + 1,x7,x8,xq5_1_1,xq5_1_2,xpa0_1,xpa0_2=>((if (decide (x8 < a1)) = true then some (decide (x8 < 13)) else some false)).bind fun y28=>(if y28 = true then (spec_l1Cur_one.f k a0_0 xpa0_1 xpa0_2 2).bind fun (t32_1,t32_2,t32_3)=>((if t32_1 = true then (spec_l1Cur_pick.f k a0_0 t32_2 t32_3 (w64 (1 + t20_1))).bind fun (t35_1,t35_2,t35_3)=>if ¬ t35_1 < 0 then some (shl 1 t35_1,t35_2,t35_3) else none else some ((0 : Int),t32_2,t32_3))).bind fun (y9,ypa0_1,ypa0_2)=>if (xq5_1_2 ++ ([y9] : List (Int))).length < 1099511627776 then ((if (decide (x8 > 0)) = true then (spec_l1Cur_few.f k a0_0 ypa0_1 ypa0_2 (w64 (1 + t20_1))).bind fun (t47_1,t47_2,t47_3)=>(spec_l1Cur_one.f k a0_0 t47_2 t47_3 3).bind fun (t49_1,t49_2,t49_3)=>((if (!t49_1) = true then some (band t47_1 x7) else some t47_1)).bind fun y10=>(spec_l1Cur_pick.f k a0_0 t49_2 t49_3 x8).bind fun (t58_1,t58_2,t58_3)=>(spec_l2Put.f k xq5_1_1 t58_1 x8 y10).bind fun t61=>some (t58_2,t58_3,t61) else some (ypa0_1,ypa0_2,xq5_1_1))).bind fun (ypa0_1r,ypa0_2r,yb5_1_1)=>spec_l1Cur_someMaze.l0 k a0_0 a1 t20_1 n (bor x7 y9) (w64 (x8 + 1)) yb5_1_1 (xq5_1_2 ++ ([y9] : List (Int))) ypa0_1r ypa0_2r else none else some (xpa0_1,xpa0_2,xq5_1_1,xq5_1_2))

def spec_l1Cur_someMaze.f (k : Nat) (a0_0 : List By) (a0_1 : Int) (a0_2 : Int) (a1 : Int) : Option (Int × (List (Int × Int × Int)) × (List Int) × Int × Int) := (spec_l1Cur_pick.f k a0_0 a0_1 a0_2 6).bind fun (t20_1, t20_2, t20_3) => (spec_l1Cur_someMaze.l0 k a0_0 a1 t20_1 k 0 0 ([] : List (Int × Int × Int)) ([] : List (Int)) t20_2 t20_3).bind fun (xpa0_1, xpa0_2, xq5_1_1, xq5_1_2) => (spec_l1Cur_pick.f k a0_0 xpa0_1 xpa0_2 6).bind fun (t67_1, t67_2, t67_3) => (spec_l1Cur_someMaze.l1 k a0_0 a1 t20_1 k t67_1 t67_2 t67_3 xq5_1_1).bind fun (xpa0_1r, xpa0_2r, xq5_1_1r) => (spec_l1Cur_pick.f k a0_0 xpa0_1r xpa0_2r 60).bind fun (t99_1, t99_2, t99_3) => (if (t99_1 == 0) = true then (spec_l1Cur_among.f k a0_0 t99_2 t99_3 ([0, 13, w64 (a1 + 1)] : List (Int))).bind fun (t107_1, t107_2, t107_3) => some (t107_1, xq5_1_1r, xq5_1_2, t107_2, t107_3) else (if (t99_1 == 1) = true then ((if (decide ((xq5_1_1r.length : Int) > 0)) = true then (spec_l1Cur_pick.f k a0_0 t99_2 t99_3 (xq5_1_1r.length : Int)).bind fun (t119_1, t119_2, t119_3) => (rdl xq5_1_1r t119_1).bind fun t126 => (rdl xq5_1_1r t119_1).bind fun t132 => (rdl xq5_1_1r t119_1).bind fun t136 => some (t119_2, t119_3, xq5_1_1r.set t119_1.toNat (t126.2.1, t132.1, 0)) else some (t99_2, t99_3, xq5_1_1r))).bind fun (ypa0_1rrr, ypa0_2rrr, yb5_1_1rr) => some (a1, yb5_1_1rr, xq5_1_2, ypa0_1rrr, ypa0_2rrr) else (if (t99_1 == 2) = true then ((if (decide ((xq5_1_2.length : Int) > 0)) = true then ((spec_l1Cur_pick.f k a0_0 t99_2 t99_3 (xq5_1_2.length : Int)).bind fun (t149_1, t149_2, t149_3) => (spec_l1Cur_among.f k a0_0 t149_2 t149_3 ([64, (-1), 63] : List (Int))).bind fun (t152_1, t152_2, t152_3) => (rdl xq5_1_2 t149_1).bind fun t153 => some (t152_2, t152_3, xq5_1_2.set t149_1.toNat t152_1)).bind fun (ypa0_1rrrr, ypa0_2rrrr, yb5_1_2) => some (ypa0_1rrrr, ypa0_2rrrr, yb5_1_2) else some (t99_2, t99_3, xq5_1_2))).bind fun (ypa0_1rrrr, ypa0_2rrrr, yb5_1_2) => some (a1, xq5_1_1r, yb5_1_2, ypa0_1rrrr, ypa0_2rrrr) else (if (t99_1 == 3) = true then ((if (decide ((xq5_1_1r.length : Int) > 0)) = true then (rdl xq5_1_1r 0).bind fun t164 => if (xq5_1_1r ++ ([t164] : List (Int × Int × Int))).length < 1099511627776 then some (xq5_1_1r ++ ([t164] : List (Int × Int × Int))) else none else some xq5_1_1r)).bind fun yb5_1_1rrr => some (a1, yb5_1_1rrr, xq5_1_2, t99_2, t99_3) else (if (t99_1 == 4) = true then some (0, [], [], t99_2, t99_3) else some (a1, xq5_1_1r, xq5_1_2, t99_2, t99_3))))))

theorem spec_l1Cur_someMaze.ok {k : Nat}  {a0_0 : List By} {a0_1 : Int} {a0_2 : Int} {a1 : Int} {r0 : Int} {r1 : List (Int × Int × Int)} {r2 : List Int} {r3 : Int} {r4 : Int} (h : spec_l1Cur_someMaze.f k a0_0 a0_1 a0_2 a1 = some (r0, r1, r2, r3, r4)) (w : World) {pa0 : Nat} {va0_0 : Value} (hr_a0_0 : RdM w (footM [R.box pa0 114 [va0_0, .int .i64 a0_1, .int .u64 a0_2]]) va0_0 a0_0) (hw0 : Sep w (footM [R.box pa0 114 [va0_0, .int .i64 a0_1, .int .u64 a0_2]]) [R.box pa0 114 [va0_0, .int .i64 a0_1, .int .u64 a0_2]] w) :
  Calls Tryz.prog 193 ([.pointer (some ⟨pa0,0,none⟩),.int .i64 a1] : List Value).toArray w (PostM (footM [R.box pa0 114 [va0_0,.int .i64 a0_1,.int .u64 a0_2]]) (fun u ns=>∃ (ur1 : Value) (Sr1 : Nat → Prop) (ur2 : Value) (Sr2 : Nat → Prop),u = .agg [.int .i64 r0,ur1,ur2].toArray∧SlLen ur1 r1.length∧SlLen ur2 r2.length∧ns = [R.sl Sr1 ur1 r1,R.sl Sr2 ur2 r2,R.box pa0 114 [va0_0,.int .i64 r3,.int .u64 r4]]) w):=by
 unfold spec_l1Cur_someMaze.f at h
 have hl_va0_0:=hr_a0_0.len
 refine Calls.of_tri (N:=173) Tryz.func193 rfl rfl rfl hw0 ?_
 refine Tri.seq (Tri.reg (l:=[0]) rfl ?_)
 refine F.mn rfl (m_alloc ti27) ?_
 rintro _ _ ⟨b4_1,rfl,rfl⟩
 refine F.nil (Nrm.seq (Tri.seq ?_))
 obtain ⟨⟨t20_1,t20_2,t20_3⟩,h20,h⟩:=bind_some h
 refine Tri.reg (l:=[0,1,2,3,4,5,6,7,8,9]) rfl ?_
 refine F.qn rfl (r_move rfl) ?_
 refine F.mn rfl (m_build0 (α:=Int × Int × Int) Tryz.underlying24 ti168) ?_
 rintro v16_1 _ ⟨S16_1,hl_v16_1,rfl⟩
 refine F.mn rfl (m_build0 (α:=Int) Tryz.underlying25 ti3) ?_
 rintro v17_1 _ ⟨S17_1,hl_v17_1,rfl⟩
 refine F.qn rfl (r_build (pl:=[(0,1),(1,1),(2,1)]) (qs:=[(0,[.int .i64 a1]),(1,[v16_1]),(2,[v17_1])]) (cs:=[.int .i64 a1,v16_1,v17_1]) (by kernel_rfl) ti27 rfl (.cons rfl rfl (Nat.le_of_ble_eq_true rfl) (.cons (sl_cells hl_v16_1) rfl (Nat.le_of_ble_eq_true rfl) (.cons (sl_cells hl_v17_1) rfl (Nat.le_of_ble_eq_true rfl) .nil))) rfl rfl) (F.qn rfl (r_move rfl) ?_)
 refine F.efn rfl (d_callM (xs:=_) (cs:=[R.box pa0 114 [va0_0,.int .i64 a0_1,.int .u64 a0_2]]) (rest:=[R.sl S17_1 v17_1 (([] : List (Int)) : List (Int)),R.sl S16_1 v16_1 (([] : List (Int × Int × Int)) : List (Int × Int × Int)),R.box b4_1 27 [.int .i64 0,.slice none 0 0,.slice none 0 0]]) [3] [0,1,2] rfl ok115 rfl rfl rfl rfl (fun w hw=>spec_l1Cur_pick.ok h20 w (hr_a0_0.down hw) (Sep.sub hw))) ?_
 rintro _ _ ⟨_,⟨rfl,rfl⟩,rfl⟩
 refine F.qn rfl (r_add rfl rfl) ?_
 refine F.mn rfl (m_alloc ti27) ?_
 rintro _ _ ⟨b5_1,rfl,rfl⟩
 refine F.ef0 rfl rfl (wanted_none rfl) (d_storeG0 (i:=0) (cs2:=[.int .i64 a1,v16_1,v17_1]) ti27 rfl rfl rfl rfl rfl (Nat.le_of_ble_eq_true rfl) (lf_cons rfl (lf_cons (sl_leaf hl_v16_1) (lf_cons (sl_leaf hl_v17_1) lf_nil)))) ?_
 rintro _ _ ⟨rfl,rfl⟩
 refine F.qn rfl (r_assign rfl) (F.nil (Nrm.seq (Tri.seq (Tri.reg (l:=[0]) rfl ?_))))
 refine F.qn rfl (r_assign rfl) (F.nil (Nrm.seq (Tri.seq (Tri.seq (Tri.reg (l:=[0]) rfl ?_)))))
 refine F.qn rfl (r_assign rfl) (F.nil (Nrm.seq ?_))
 obtain ⟨⟨xpa0_1,xpa0_2,xq5_1_1,xq5_1_2⟩,hE_1,h⟩:=bind_some h
 refine Tri.block ?_
 refine Tri.only [0,1,4,5,6,7,8] rfl ?_
 refine Tri.pick [0,1,4,2,3] rfl rfl ?_
 refine Tri.rounds (fun n e' C'=>∃ (x7' : Int) (x8' : Int) (xq5_1_1' : List (Int × Int × Int)) (xq5_1_2' : List (Int)) (xpa0_1' : Int) (xpa0_2' : Int) (wq5_1_1 : Value) (Tq5_1_1 : Nat → Prop) (wq5_1_2 : Value) (Tq5_1_2 : Nat → Prop),spec_l1Cur_someMaze.l0 k a0_0 a1 t20_1 n x7' x8' xq5_1_1' xq5_1_2' xpa0_1' xpa0_2' = some (xpa0_1,xpa0_2,xq5_1_1,xq5_1_2)∧SlLen wq5_1_1 (xq5_1_1').length∧SlLen wq5_1_2 (xq5_1_2').length∧e' = [(0,.pointer (some ⟨pa0,0,none⟩)),(1,.int .i64 a1),(4,.pointer (some ⟨b4_1,0,none⟩)),(5,.pointer (some ⟨b5_1,0,none⟩)),(6,.int .i64 (w64 (1 + t20_1))),(7,.int .i64 x7'),(8,.int .i64 x8')]∧C' = Sep w (footM [R.box pa0 114 [va0_0,.int .i64 a0_1,.int .u64 a0_2]]) [R.box b5_1 27 [.int .i64 a1,wq5_1_1,wq5_1_2],R.box pa0 114 [va0_0,.int .i64 xpa0_1',.int .u64 xpa0_2'],R.box b4_1 27 [.int .i64 0,.slice none 0 0,.slice none 0 0],R.sl Tq5_1_2 wq5_1_2 (xq5_1_2' : List (Int)),R.sl Tq5_1_1 wq5_1_1 (xq5_1_1' : List (Int × Int × Int))]) k ?_ ?_ ?_
 ·exact ⟨0,0,([] : List (Int × Int × Int)),([] : List (Int)),t20_2,t20_3,v16_1,S16_1,v17_1,S17_1,hE_1,hl_v16_1,hl_v17_1,rfl,rfl⟩
 ·rintro _ _ ⟨_,_,_,_,_,_,_,_,_,_,hE_1,_⟩
  rw [spec_l1Cur_someMaze.l0.eq_1] at hE_1; cases hE_1
 ·rintro n_1 _ _ ⟨x7,x8,xq5_1_1,xq5_1_2,xpa0_1,xpa0_2,wq5_1_1,Tq5_1_1,wq5_1_2,Tq5_1_2,hE_1,hl_wq5_1_1,hl_wq5_1_2,rfl,rfl⟩ ih_1
  rw [spec_l1Cur_someMaze.l0.eq_2] at hE_1
  refine Tri.seq (Tri.seq ?_)
  obtain ⟨y28,hE_2,hE_1⟩:=bind_some hE_1
  refine Tri.cut (fun e' C'=>e' = [(0,.pointer (some ⟨pa0,0,none⟩)),(1,.int .i64 a1),(4,.pointer (some ⟨b4_1,0,none⟩)),(5,.pointer (some ⟨b5_1,0,none⟩)),(6,.int .i64 (w64 (1 + t20_1))),(7,.int .i64 x7),(8,.int .i64 x8),(28,.bool y28)]∧C' = Sep w (footM [R.box pa0 114 [va0_0,.int .i64 a0_1,.int .u64 a0_2]]) [R.box b5_1 27 [.int .i64 a1,wq5_1_1,wq5_1_2],R.box pa0 114 [va0_0,.int .i64 xpa0_1,.int .u64 xpa0_2],R.box b4_1 27 [.int .i64 0,.slice none 0 0,.slice none 0 0],R.sl Tq5_1_1 wq5_1_1 (xq5_1_1 : List (Int × Int × Int)),R.sl Tq5_1_2 wq5_1_2 (xq5_1_2 : List (Int))]) ?_ (fun hj_1=>?_)
  ·rintro _ _ ⟨rfl,rfl⟩
   refine Nrm.seq (Tri.cond (b:=y28) rfl (fun g_1=>?_) (fun g_1=>?_))
   ·replace hE_1:=if_tt g_1 hE_1
    refine Tri.skip (Nrm.seq (Tri.seq (Tri.block ?_)))
    refine Tri.seq (Tri.reg (l:=[0]) rfl ?_)
    refine F.qn rfl (r_assign rfl) (F.nil (Nrm.seq (Tri.seq (Tri.seq ?_))))
    obtain ⟨⟨t32_1,t32_2,t32_3⟩,h32,hE_1⟩:=bind_some hE_1
    refine Tri.reg (l:=[0,1]) rfl ?_
    refine F.qn rfl (r_move rfl) ?_
    refine F.efn rfl (d_callM (xs:=_) (cs:=[R.box pa0 114 [va0_0,.int .i64 xpa0_1,.int .u64 xpa0_2]]) (rest:=[R.box b5_1 27 [.int .i64 a1,wq5_1_1,wq5_1_2],R.box b4_1 27 [.int .i64 0,.slice none 0 0,.slice none 0 0],R.sl Tq5_1_1 wq5_1_1 (xq5_1_1 : List (Int × Int × Int)),R.sl Tq5_1_2 wq5_1_2 (xq5_1_2 : List (Int))]) [1] [0,2,3,4] rfl ok200 rfl rfl rfl rfl (fun w hw=>spec_l1Cur_one.ok h32 w (hr_a0_0.down hw) (Sep.sub hw))) ?_
    rintro _ _ ⟨_,⟨rfl,rfl⟩,rfl⟩
    refine F.nil (Nrm.seq ?_)
    obtain ⟨⟨y9,ypa0_1,ypa0_2⟩,hE_3,hE_1⟩:=bind_some hE_1
    refine Tri.cut (fun e' C'=>e' = [(0,.pointer (some ⟨pa0,0,none⟩)),(1,.int .i64 a1),(4,.pointer (some ⟨b4_1,0,none⟩)),(5,.pointer (some ⟨b5_1,0,none⟩)),(6,.int .i64 (w64 (1 + t20_1))),(7,.int .i64 x7),(8,.int .i64 x8),(9,.int .i64 y9)]∧C' = Sep w (footM [R.box pa0 114 [va0_0,.int .i64 a0_1,.int .u64 a0_2]]) [R.box pa0 114 [va0_0,.int .i64 ypa0_1,.int .u64 ypa0_2],R.box b5_1 27 [.int .i64 a1,wq5_1_1,wq5_1_2],R.box b4_1 27 [.int .i64 0,.slice none 0 0,.slice none 0 0],R.sl Tq5_1_1 wq5_1_1 (xq5_1_1 : List (Int × Int × Int)),R.sl Tq5_1_2 wq5_1_2 (xq5_1_2 : List (Int))]) ?_ (fun hj_2=>?_)
    ·rintro _ _ ⟨rfl,rfl⟩
     refine Nrm.seq (Tri.seq ?_)
     obtain ⟨hs41,hE_1⟩:=ck hE_1
     refine Tri.reg (l:=[0,1,2,3,4,5,6]) rfl ?_
     refine F.qn rfl (r_fieldAddr tf27_2 rfl) (F.qn rfl (r_load ta25 rfl (fun w hw=>cell_1 (box_cells (i:=1) rfl w hw) rfl)) (F.qn rfl (r_move rfl) ?_))
     refine F.mn rfl (m_buildF (l:=([y9] : List (Int))) Tryz.underlying25 ti3 rfl rfl rfl rfl rfl) ?_
     rintro v40_1 _ ⟨S40_1,hl_v40_1,rfl⟩
     refine F.efn rfl (d_append (i:=5) Tryz.underlying25 Tryz.underlying25 ti3 rfl (by decide) rfl rfl rfl (rd_sl (i:=0) rfl) hs41) ?_
     rintro v41_1 _ ⟨S41_1,rfl,hl_v41_1⟩
     refine F.qn rfl (r_fieldAddr tf27_2 rfl) ?_
     refine F.ef0 rfl rfl (wanted_none rfl) (d_storeG1 (i:=2) (cs2:=[v41_1]) ti25 rfl rfl rfl (sl_cells hl_v41_1) rfl (Nat.le_of_ble_eq_true rfl) (lf_cons (sl_leaf hl_v41_1) lf_nil)) ?_
     rintro _ _ ⟨rfl,rfl⟩
     refine F.nil (Nrm.seq (Tri.seq (Tri.seq (Tri.reg (l:=[0,1]) rfl ?_))))
     refine F.qn rfl (r_move rfl) (F.qn rfl (r_gtr rfl rfl) (F.nil (Nrm.seq ?_)))
     obtain ⟨⟨ypa0_1r,ypa0_2r,yb5_1_1⟩,hE_4,hE_1⟩:=bind_some hE_1
     refine Tri.cut (fun e' C'=>∃ (vb5_1_1_1 : Value) (Sb5_1_1_1 : Nat → Prop),SlLen vb5_1_1_1 (yb5_1_1).length∧e' = [(0,.pointer (some ⟨pa0,0,none⟩)),(1,.int .i64 a1),(4,.pointer (some ⟨b4_1,0,none⟩)),(5,.pointer (some ⟨b5_1,0,none⟩)),(6,.int .i64 (w64 (1 + t20_1))),(7,.int .i64 x7),(8,.int .i64 x8),(9,.int .i64 y9)]∧C' = Sep w (footM [R.box pa0 114 [va0_0,.int .i64 a0_1,.int .u64 a0_2]]) [R.box pa0 114 [va0_0,.int .i64 ypa0_1r,.int .u64 ypa0_2r],R.box b5_1 27 [.int .i64 a1,vb5_1_1_1,v41_1],R.box b4_1 27 [.int .i64 0,.slice none 0 0,.slice none 0 0],R.sl Sb5_1_1_1 vb5_1_1_1 (yb5_1_1 : List (Int × Int × Int)),R.sl S41_1 v41_1 (xq5_1_2 ++ ([y9] : List (Int)) : List (Int))]) ?_ (fun hj_3=>?_)
     ·rintro _ _ ⟨vb5_1_1_1,Sb5_1_1_1,hl_vb5_1_1_1,rfl,rfl⟩
      refine Nrm.seq (Tri.reg (l:=[0,1,2,3]) rfl ?_)
      refine F.qn rfl (r_move rfl) (F.qn rfl (r_move rfl) (F.qn rfl (r_or rfl rfl) (F.qn rfl (r_assign rfl) (F.nil (Nrm.block ?_)))))
      refine Nrm.seq (Tri.reg (l:=[0,1,2]) rfl ?_)
      refine F.qn rfl (r_move rfl) (F.qn rfl (r_add rfl rfl) (F.qn rfl (r_assign rfl) (F.nil (Nrm.round ?_))))
      refine Rnd.only [0,1,4,5,6,7,8] rfl ?_
      refine Rnd.pick [1,0,2,4,3] rfl rfl ?_
      exact ih_1 _ _ ⟨bor x7 y9,w64 (x8 + 1),yb5_1_1,xq5_1_2 ++ ([y9] : List (Int)),ypa0_1r,ypa0_2r,vb5_1_1_1,Sb5_1_1_1,v41_1,S41_1,hE_1,hl_vb5_1_1_1,hl_v41_1,rfl,rfl⟩
     ·refine Tri.cond (b:=decide (x8 > 0)) rfl (fun g_3=>?_) (fun g_3=>?_)
      ·replace hE_4:=if_tt g_3 hE_4
       refine Tri.seq ?_
       obtain ⟨⟨t47_1,t47_2,t47_3⟩,h47,hE_4⟩:=bind_some hE_4
       refine Tri.reg (l:=[0,1,2,3]) rfl ?_
       refine F.qn rfl (r_move rfl) (F.qn rfl (r_move rfl) ?_)
       refine F.efn rfl (d_callM (xs:=_) (cs:=[R.box pa0 114 [va0_0,.int .i64 ypa0_1,.int .u64 ypa0_2]]) (rest:=[R.sl S40_1 v40_1 (([y9] : List (Int)) : List (Int)),R.box b5_1 27 [.int .i64 a1,wq5_1_1,v41_1],R.box b4_1 27 [.int .i64 0,.slice none 0 0,.slice none 0 0],R.sl Tq5_1_1 wq5_1_1 (xq5_1_1 : List (Int × Int × Int)),R.sl S41_1 v41_1 (xq5_1_2 ++ ([y9] : List (Int)) : List (Int))]) [1] [0,2,3,4,5] rfl ok202 rfl rfl rfl rfl (fun w hw=>spec_l1Cur_few.ok h47 w (hr_a0_0.down hw) (Sep.sub hw))) ?_
       rintro _ _ ⟨_,⟨rfl,rfl⟩,rfl⟩
       refine F.qn rfl (r_assign rfl) (F.nil (Nrm.seq (Tri.seq (Tri.seq ?_))))
       obtain ⟨⟨t49_1,t49_2,t49_3⟩,h49,hE_4⟩:=bind_some hE_4
       refine Tri.reg (l:=[0,1,2]) rfl ?_
       refine F.qn rfl (r_move rfl) ?_
       refine F.efn rfl (d_callM (xs:=_) (cs:=[R.box pa0 114 [va0_0,.int .i64 t47_2,.int .u64 t47_3]]) (rest:=[R.sl S40_1 v40_1 (([y9] : List (Int)) : List (Int)),R.box b5_1 27 [.int .i64 a1,wq5_1_1,v41_1],R.box b4_1 27 [.int .i64 0,.slice none 0 0,.slice none 0 0],R.sl Tq5_1_1 wq5_1_1 (xq5_1_1 : List (Int × Int × Int)),R.sl S41_1 v41_1 (xq5_1_2 ++ ([y9] : List (Int)) : List (Int))]) [0] [1,2,3,4,5] rfl ok200 rfl rfl rfl rfl (fun w hw=>spec_l1Cur_one.ok h49 w (hr_a0_0.down hw) (Sep.sub hw))) ?_
       rintro _ _ ⟨_,⟨rfl,rfl⟩,rfl⟩
       refine F.qn rfl (r_not rfl) (F.nil (Nrm.seq ?_))
       obtain ⟨y10,hE_5,hE_4⟩:=bind_some hE_4
       refine Tri.cut (fun e' C'=>e' = [(0,.pointer (some ⟨pa0,0,none⟩)),(1,.int .i64 a1),(4,.pointer (some ⟨b4_1,0,none⟩)),(5,.pointer (some ⟨b5_1,0,none⟩)),(6,.int .i64 (w64 (1 + t20_1))),(7,.int .i64 x7),(8,.int .i64 x8),(9,.int .i64 y9),(10,.int .i64 y10)]∧C' = Sep w (footM [R.box pa0 114 [va0_0,.int .i64 a0_1,.int .u64 a0_2]]) [R.box pa0 114 [va0_0,.int .i64 t49_2,.int .u64 t49_3],R.box b5_1 27 [.int .i64 a1,wq5_1_1,v41_1],R.box b4_1 27 [.int .i64 0,.slice none 0 0,.slice none 0 0],R.sl S41_1 v41_1 (xq5_1_2 ++ ([y9] : List (Int)) : List (Int)),R.sl Tq5_1_1 wq5_1_1 (xq5_1_1 : List (Int × Int × Int))]) ?_ (fun hj_4=>?_)
       ·rintro _ _ ⟨rfl,rfl⟩
        refine Nrm.seq ?_
        obtain ⟨⟨t58_1,t58_2,t58_3⟩,h58,hE_4⟩:=bind_some hE_4
        obtain ⟨t61,h61,hE_4⟩:=bind_some hE_4
        refine Tri.drawK (B:=Sep w (footM [R.box pa0 114 [va0_0,.int .i64 a0_1,.int .u64 a0_2]]) [R.box b5_1 27 [.int .i64 a1,wq5_1_1,v41_1],R.box b4_1 27 [.int .i64 0,.slice none 0 0,.slice none 0 0],R.sl S41_1 v41_1 (xq5_1_2 ++ ([y9] : List (Int)) : List (Int)),R.sl Tq5_1_1 wq5_1_1 (xq5_1_1 : List (Int × Int × Int))]) mixedT Sep.up [(0,true),(1,true),(2,true),(3,true),(5,true),(6,true),(4,false)] [7,8,9] (by kernel_rfl) ?_
        refine K.q [1,2,3,4] rfl rfl rfl rfl rfl (wanted_none rfl) (r_fieldAddr tf27_1 rfl) ?_
        refine K.q [1,2,3,4] rfl rfl rfl rfl rfl (wanted_none rfl) (r_load ta24 rfl (fun w hw=>cell_1 (box_cells (i:=0) rfl w hw) rfl)) ?_
        iterate 4 refine K.q [1,2,3,4] rfl rfl rfl rfl rfl (wanted_none rfl) (r_move rfl) ?_
        refine B.ef rfl rfl rfl (wanted_none rfl) (d_callM (xs:=_) (cs:=[R.box pa0 114 [va0_0,.int .i64 t49_2,.int .u64 t49_3]]) (rest:=[R.box b5_1 27 [.int .i64 a1,wq5_1_1,v41_1],R.box b4_1 27 [.int .i64 0,.slice none 0 0,.slice none 0 0],R.sl S41_1 v41_1 (xq5_1_2 ++ ([y9] : List (Int)) : List (Int)),R.sl Tq5_1_1 wq5_1_1 (xq5_1_1 : List (Int × Int × Int))]) [0] [1,2,3,4] rfl ok115 rfl rfl rfl rfl (fun w hw=>spec_l1Cur_pick.ok h58 w (hr_a0_0.down hw) (Sep.sub hw))) (by rintro _ _ ⟨_,⟨rfl,rfl⟩,rfl⟩; exact upd rfl [1,2,3,4] rfl rfl) ?_
        rintro _ _ ⟨_,⟨rfl,rfl⟩,rfl⟩
        refine B.nil ?_
        refine F.efn rfl (d_callM (xs:=_) (cs:=[R.sl Tq5_1_1 wq5_1_1 (xq5_1_1 : List (Int × Int × Int))]) (rest:=[R.box pa0 114 [va0_0,.int .i64 t58_2,.int .u64 t58_3],R.box b5_1 27 [.int .i64 a1,wq5_1_1,v41_1],R.box b4_1 27 [.int .i64 0,.slice none 0 0,.slice none 0 0],R.sl S41_1 v41_1 (xq5_1_2 ++ ([y9] : List (Int)) : List (Int))]) [4] [0,1,2,3] rfl ok238 rfl rfl rfl rfl (fun w hw=>spec_l2Put.ok h61 w hl_wq5_1_1 (Sep.sub hw))) ?_
        rintro v61_2 _ ⟨_,⟨S61_2,hl_v61_2,rfl⟩,rfl⟩
        refine F.qn rfl (r_fieldAddr tf27_1 rfl) ?_
        refine F.ef0 rfl rfl (wanted_none rfl) (d_storeG1 (i:=2) (cs2:=[v61_2]) ti24 rfl rfl rfl (sl_cells hl_v61_2) rfl (Nat.le_of_ble_eq_true rfl) (lf_cons (sl_leaf hl_v61_2) lf_nil)) ?_
        rintro _ _ ⟨rfl,rfl⟩
        refine F.nil ?_
        cases hE_4
        refine Nrm.only [0,1,4,5,6,7,8,9] rfl ?_
        refine Nrm.pick [1,2,3,0,4] rfl rfl ?_
        exact hj_3 _ _ ⟨v61_2,S61_2,hl_v61_2,rfl,rfl⟩
       ·refine Tri.cond (b:=!t49_1) rfl (fun g_4=>?_) (fun g_4=>?_)
        ·replace hE_5:=if_tt g_4 hE_5
         refine Tri.reg (l:=[0,1,2,3]) rfl ?_
         refine F.qn rfl (r_move rfl) (F.qn rfl (r_move rfl) (F.qn rfl (r_and rfl rfl) (F.qn rfl (r_assign rfl) (F.nil ?_))))
         cases hE_5
         refine Nrm.only [0,1,4,5,6,7,8,9,10] rfl ?_
         refine Nrm.pick [0,2,3,5,4] rfl rfl ?_
         exact hj_4 _ _ ⟨rfl,rfl⟩
        ·replace hE_5:=if_ff g_4 hE_5
         refine Tri.skip ?_
         cases hE_5
         refine Nrm.only [0,1,4,5,6,7,8,9,10] rfl ?_
         refine Nrm.pick [0,2,3,5,4] rfl rfl ?_
         exact hj_4 _ _ ⟨rfl,rfl⟩
      ·replace hE_4:=if_ff g_3 hE_4
       refine Tri.skip ?_
       cases hE_4
       refine Nrm.only [0,1,4,5,6,7,8,9] rfl ?_
       refine Nrm.pick [1,2,3,4,5] rfl rfl ?_
       exact hj_3 _ _ ⟨wq5_1_1,Tq5_1_1,hl_wq5_1_1,rfl,rfl⟩
    ·refine Tri.cond (b:=t32_1) rfl (fun g_2=>?_) (fun g_2=>?_)
     ·replace hE_3:=if_tt g_2 hE_3
      obtain ⟨⟨t35_1,t35_2,t35_3⟩,h35,hE_3⟩:=bind_some hE_3
      obtain ⟨hs36,hE_3⟩:=ck hE_3
      refine Tri.reg (l:=[0,1,2,3,4]) rfl ?_
      refine F.qn rfl (r_move rfl) (F.qn rfl (r_move rfl) ?_)
      refine F.efn rfl (d_callM (xs:=_) (cs:=[R.box pa0 114 [va0_0,.int .i64 t32_2,.int .u64 t32_3]]) (rest:=[R.box b5_1 27 [.int .i64 a1,wq5_1_1,wq5_1_2],R.box b4_1 27 [.int .i64 0,.slice none 0 0,.slice none 0 0],R.sl Tq5_1_1 wq5_1_1 (xq5_1_1 : List (Int × Int × Int)),R.sl Tq5_1_2 wq5_1_2 (xq5_1_2 : List (Int))]) [0] [1,2,3,4] rfl ok115 rfl rfl rfl rfl (fun w hw=>spec_l1Cur_pick.ok h35 w (hr_a0_0.down hw) (Sep.sub hw))) ?_
      rintro _ _ ⟨_,⟨rfl,rfl⟩,rfl⟩
      refine F.qn rfl (r_shl rfl rfl hs36) (F.qn rfl (r_assign rfl) (F.nil ?_))
      cases hE_3
      refine Nrm.only [0,1,4,5,6,7,8,9] rfl ?_
      refine Nrm.pick [0,1,2,3,4] rfl rfl ?_
      exact hj_2 _ _ ⟨rfl,rfl⟩
     ·replace hE_3:=if_ff g_2 hE_3
      refine Tri.skip ?_
      cases hE_3
      refine Nrm.only [0,1,4,5,6,7,8,9] rfl ?_
      refine Nrm.pick [0,1,2,3,4] rfl rfl ?_
      exact hj_2 _ _ ⟨rfl,rfl⟩
   ·replace hE_1:=if_ff g_1 hE_1
    refine Tri.exit ?_
    refine Exi.then ?_
    refine Exi.then ?_
    refine Exi.same ?_
    cases hE_1
    refine Nrm.seq (Tri.seq (Tri.seq ?_))
    obtain ⟨⟨t67_1,t67_2,t67_3⟩,h67,h⟩:=bind_some h
    refine Tri.reg (l:=[0,1,2]) rfl ?_
    refine F.qn rfl (r_move rfl) ?_
    refine F.efn rfl (d_callM (xs:=_) (cs:=[R.box pa0 114 [va0_0,.int .i64 xpa0_1,.int .u64 xpa0_2]]) (rest:=[R.box b5_1 27 [.int .i64 a1,wq5_1_1,wq5_1_2],R.box b4_1 27 [.int .i64 0,.slice none 0 0,.slice none 0 0],R.sl Tq5_1_1 wq5_1_1 (xq5_1_1 : List (Int × Int × Int)),R.sl Tq5_1_2 wq5_1_2 (xq5_1_2 : List (Int))]) [1] [0,2,3,4] rfl ok115 rfl rfl rfl rfl (fun w hw=>spec_l1Cur_pick.ok h67 w (hr_a0_0.down hw) (Sep.sub hw))) ?_
    rintro _ _ ⟨_,⟨rfl,rfl⟩,rfl⟩
    refine F.qn rfl (r_assign rfl) (F.nil (Nrm.seq ?_))
    obtain ⟨⟨xpa0_1r,xpa0_2r,xq5_1_1r⟩,hE_6,h⟩:=bind_some h
    refine Tri.block ?_
    refine Tri.only [0,1,4,5,6,11] rfl ?_
    refine Tri.pick [0,1,2,3,4] rfl rfl ?_
    refine Tri.rounds (fun n e' C'=>∃ (x11' : Int) (xpa0_1r' : Int) (xpa0_2r' : Int) (xq5_1_1r' : List (Int × Int × Int)) (wq5_1_1r : Value) (Tq5_1_1r : Nat → Prop),spec_l1Cur_someMaze.l1 k a0_0 a1 t20_1 n x11' xpa0_1r' xpa0_2r' xq5_1_1r' = some (xpa0_1r,xpa0_2r,xq5_1_1r)∧SlLen wq5_1_1r (xq5_1_1r').length∧e' = [(0,.pointer (some ⟨pa0,0,none⟩)),(1,.int .i64 a1),(4,.pointer (some ⟨b4_1,0,none⟩)),(5,.pointer (some ⟨b5_1,0,none⟩)),(6,.int .i64 (w64 (1 + t20_1))),(11,.int .i64 x11')]∧C' = Sep w (footM [R.box pa0 114 [va0_0,.int .i64 a0_1,.int .u64 a0_2]]) [R.box pa0 114 [va0_0,.int .i64 xpa0_1r',.int .u64 xpa0_2r'],R.box b5_1 27 [.int .i64 a1,wq5_1_1r,wq5_1_2],R.box b4_1 27 [.int .i64 0,.slice none 0 0,.slice none 0 0],R.sl Tq5_1_1r wq5_1_1r (xq5_1_1r' : List (Int × Int × Int)),R.sl Tq5_1_2 wq5_1_2 (xq5_1_2 : List (Int))]) k ?_ ?_ ?_
    ·exact ⟨t67_1,t67_2,t67_3,xq5_1_1,wq5_1_1,Tq5_1_1,hE_6,hl_wq5_1_1,rfl,rfl⟩
    ·rintro _ _ ⟨_,_,_,_,_,_,hE_6,_⟩
     rw [spec_l1Cur_someMaze.l1.eq_1] at hE_6; cases hE_6
    ·rintro n_2 _ _ ⟨x11,xpa0_1r,xpa0_2r,xq5_1_1r,wq5_1_1r,Tq5_1_1r,hE_6,hl_wq5_1_1r,rfl,rfl⟩ ih_2
     rw [spec_l1Cur_someMaze.l1.eq_2] at hE_6
     refine Tri.seq (Tri.seq ?_)
     obtain ⟨y77,hE_7,hE_6⟩:=bind_some hE_6
     refine Tri.cut (fun e' C'=>e' = [(0,.pointer (some ⟨pa0,0,none⟩)),(1,.int .i64 a1),(4,.pointer (some ⟨b4_1,0,none⟩)),(5,.pointer (some ⟨b5_1,0,none⟩)),(6,.int .i64 (w64 (1 + t20_1))),(11,.int .i64 x11),(77,.bool y77)]∧C' = Sep w (footM [R.box pa0 114 [va0_0,.int .i64 a0_1,.int .u64 a0_2]]) [R.box pa0 114 [va0_0,.int .i64 xpa0_1r,.int .u64 xpa0_2r],R.box b5_1 27 [.int .i64 a1,wq5_1_1r,wq5_1_2],R.box b4_1 27 [.int .i64 0,.slice none 0 0,.slice none 0 0],R.sl Tq5_1_1r wq5_1_1r (xq5_1_1r : List (Int × Int × Int)),R.sl Tq5_1_2 wq5_1_2 (xq5_1_2 : List (Int))]) ?_ (fun hj_5=>?_)
     ·rintro _ _ ⟨rfl,rfl⟩
      refine Nrm.seq (Tri.cond (b:=y77) rfl (fun g_5=>?_) (fun g_5=>?_))
      ·replace hE_6:=if_tt g_5 hE_6
       refine Tri.skip (Nrm.seq (Tri.seq (Tri.block ?_)))
       refine Tri.seq ?_
       obtain ⟨⟨t82_1,t82_2,t82_3⟩,h82,hE_6⟩:=bind_some hE_6
       obtain ⟨⟨t85_1,t85_2,t85_3⟩,h85,hE_6⟩:=bind_some hE_6
       refine Tri.reg (l:=[0,1,2,3,4,5,6,7]) rfl ?_
       refine F.qn rfl (r_move rfl) (F.qn rfl (r_move rfl) ?_)
       refine F.efn rfl (d_callM (xs:=_) (cs:=[R.box pa0 114 [va0_0,.int .i64 xpa0_1r,.int .u64 xpa0_2r]]) (rest:=[R.box b5_1 27 [.int .i64 a1,wq5_1_1r,wq5_1_2],R.box b4_1 27 [.int .i64 0,.slice none 0 0,.slice none 0 0],R.sl Tq5_1_1r wq5_1_1r (xq5_1_1r : List (Int × Int × Int)),R.sl Tq5_1_2 wq5_1_2 (xq5_1_2 : List (Int))]) [0] [1,2,3,4] rfl ok115 rfl rfl rfl rfl (fun w hw=>spec_l1Cur_pick.ok h82 w (hr_a0_0.down hw) (Sep.sub hw))) ?_
       rintro _ _ ⟨_,⟨rfl,rfl⟩,rfl⟩
       refine F.qn rfl (r_move rfl) (F.qn rfl (r_move rfl) ?_)
       refine F.efn rfl (d_callM (xs:=_) (cs:=[R.box pa0 114 [va0_0,.int .i64 t82_2,.int .u64 t82_3]]) (rest:=[R.box b5_1 27 [.int .i64 a1,wq5_1_1r,wq5_1_2],R.box b4_1 27 [.int .i64 0,.slice none 0 0,.slice none 0 0],R.sl Tq5_1_1r wq5_1_1r (xq5_1_1r : List (Int × Int × Int)),R.sl Tq5_1_2 wq5_1_2 (xq5_1_2 : List (Int))]) [0] [1,2,3,4] rfl ok115 rfl rfl rfl rfl (fun w hw=>spec_l1Cur_pick.ok h85 w (hr_a0_0.down hw) (Sep.sub hw))) ?_
       rintro _ _ ⟨_,⟨rfl,rfl⟩,rfl⟩
       refine F.qn rfl (r_assign rfl) (F.qn rfl (r_assign rfl) (F.nil (Nrm.seq (Tri.seq (Tri.reg (l:=[0,1,2]) rfl ?_)))))
       refine F.qn rfl (r_move rfl) (F.qn rfl (r_move rfl) (F.qn rfl (r_neq rfl rfl) (F.nil (Nrm.seq ?_))))
       obtain ⟨⟨ypa0_1rr,ypa0_2rr,yb5_1_1r⟩,hE_8,hE_6⟩:=bind_some hE_6
       refine Tri.cut (fun e' C'=>∃ (vb5_1_1_2 : Value) (Sb5_1_1_2 : Nat → Prop),SlLen vb5_1_1_2 (yb5_1_1r).length∧e' = [(0,.pointer (some ⟨pa0,0,none⟩)),(1,.int .i64 a1),(4,.pointer (some ⟨b4_1,0,none⟩)),(5,.pointer (some ⟨b5_1,0,none⟩)),(6,.int .i64 (w64 (1 + t20_1))),(11,.int .i64 x11)]∧C' = Sep w (footM [R.box pa0 114 [va0_0,.int .i64 a0_1,.int .u64 a0_2]]) [R.box pa0 114 [va0_0,.int .i64 ypa0_1rr,.int .u64 ypa0_2rr],R.box b5_1 27 [.int .i64 a1,vb5_1_1_2,wq5_1_2],R.box b4_1 27 [.int .i64 0,.slice none 0 0,.slice none 0 0],R.sl Sb5_1_1_2 vb5_1_1_2 (yb5_1_1r : List (Int × Int × Int)),R.sl Tq5_1_2 wq5_1_2 (xq5_1_2 : List (Int))]) ?_ (fun hj_6=>?_)
       ·rintro _ _ ⟨vb5_1_1_2,Sb5_1_1_2,hl_vb5_1_1_2,rfl,rfl⟩
        refine Nrm.block ?_
        refine Nrm.seq (Tri.reg (l:=[0,1,2]) rfl ?_)
        refine F.qn rfl (r_move rfl) (F.qn rfl (r_sub rfl rfl) (F.qn rfl (r_assign rfl) (F.nil (Nrm.round ?_))))
        refine Rnd.only [0,1,4,5,6,11] rfl ?_
        refine Rnd.pick [0,1,2,3,4] rfl rfl ?_
        exact ih_2 _ _ ⟨w64 (x11 - 1),ypa0_1rr,ypa0_2rr,yb5_1_1r,vb5_1_1_2,Sb5_1_1_2,hE_6,hl_vb5_1_1_2,rfl,rfl⟩
       ·refine Tri.cond (b:=t82_1 != t85_1) rfl (fun g_6=>?_) (fun g_6=>?_)
        ·replace hE_8:=if_tt g_6 hE_8
         obtain ⟨⟨t95_1,t95_2,t95_3⟩,h95,hE_8⟩:=bind_some hE_8
         obtain ⟨t96,h96,hE_8⟩:=bind_some hE_8
         refine Tri.drawK (B:=Sep w (footM [R.box pa0 114 [va0_0,.int .i64 a0_1,.int .u64 a0_2]]) [R.box b5_1 27 [.int .i64 a1,wq5_1_1r,wq5_1_2],R.box b4_1 27 [.int .i64 0,.slice none 0 0,.slice none 0 0],R.sl Tq5_1_1r wq5_1_1r (xq5_1_1r : List (Int × Int × Int)),R.sl Tq5_1_2 wq5_1_2 (xq5_1_2 : List (Int))]) mixedT Sep.up [(0,true),(1,true),(2,true),(3,true),(4,true),(5,true),(6,false)] [7,8,9] (by kernel_rfl) ?_
         refine K.q [1,2,3,4] rfl rfl rfl rfl rfl (wanted_none rfl) (r_fieldAddr tf27_1 rfl) ?_
         refine K.q [1,2,3,4] rfl rfl rfl rfl rfl (wanted_none rfl) (r_load ta24 rfl (fun w hw=>cell_1 (box_cells (i:=0) rfl w hw) rfl)) ?_
         iterate 4 refine K.q [1,2,3,4] rfl rfl rfl rfl rfl (wanted_none rfl) (r_move rfl) ?_
         refine B.ef rfl rfl rfl (wanted_none rfl) (d_callM (xs:=_) (cs:=[R.box pa0 114 [va0_0,.int .i64 t85_2,.int .u64 t85_3]]) (rest:=[R.box b5_1 27 [.int .i64 a1,wq5_1_1r,wq5_1_2],R.box b4_1 27 [.int .i64 0,.slice none 0 0,.slice none 0 0],R.sl Tq5_1_1r wq5_1_1r (xq5_1_1r : List (Int × Int × Int)),R.sl Tq5_1_2 wq5_1_2 (xq5_1_2 : List (Int))]) [0] [1,2,3,4] rfl ok202 rfl rfl rfl rfl (fun w hw=>spec_l1Cur_few.ok h95 w (hr_a0_0.down hw) (Sep.sub hw))) (by rintro _ _ ⟨_,⟨rfl,rfl⟩,rfl⟩; exact upd rfl [1,2,3,4] rfl rfl) ?_
         rintro _ _ ⟨_,⟨rfl,rfl⟩,rfl⟩
         refine B.nil ?_
         refine F.efn rfl (d_callM (xs:=_) (cs:=[R.sl Tq5_1_1r wq5_1_1r (xq5_1_1r : List (Int × Int × Int))]) (rest:=[R.box pa0 114 [va0_0,.int .i64 t95_2,.int .u64 t95_3],R.box b5_1 27 [.int .i64 a1,wq5_1_1r,wq5_1_2],R.box b4_1 27 [.int .i64 0,.slice none 0 0,.slice none 0 0],R.sl Tq5_1_2 wq5_1_2 (xq5_1_2 : List (Int))]) [3] [0,1,2,4] rfl ok238 rfl rfl rfl rfl (fun w hw=>spec_l2Put.ok h96 w hl_wq5_1_1r (Sep.sub hw))) ?_
         rintro v96_2 _ ⟨_,⟨S96_2,hl_v96_2,rfl⟩,rfl⟩
         refine F.qn rfl (r_fieldAddr tf27_1 rfl) ?_
         refine F.ef0 rfl rfl (wanted_none rfl) (d_storeG1 (i:=2) (cs2:=[v96_2]) ti24 rfl rfl rfl (sl_cells hl_v96_2) rfl (Nat.le_of_ble_eq_true rfl) (lf_cons (sl_leaf hl_v96_2) lf_nil)) ?_
         rintro _ _ ⟨rfl,rfl⟩
         refine F.nil ?_
         cases hE_8
         refine Nrm.only [0,1,4,5,6,11] rfl ?_
         refine Nrm.pick [1,2,3,0,4] rfl rfl ?_
         exact hj_6 _ _ ⟨v96_2,S96_2,hl_v96_2,rfl,rfl⟩
        ·replace hE_8:=if_ff g_6 hE_8
         refine Tri.skip ?_
         cases hE_8
         refine Nrm.only [0,1,4,5,6,11] rfl ?_
         refine Nrm.pick [0,1,2,3,4] rfl rfl ?_
         exact hj_6 _ _ ⟨wq5_1_1r,Tq5_1_1r,hl_wq5_1_1r,rfl,rfl⟩
      ·replace hE_6:=if_ff g_5 hE_6
       refine Tri.exit ?_
       refine Exi.then ?_
       refine Exi.then ?_
       refine Exi.same ?_
       cases hE_6
       refine Nrm.seq (Tri.seq (Tri.seq ?_))
       obtain ⟨⟨t99_1,t99_2,t99_3⟩,h99,h⟩:=bind_some h
       refine Tri.reg (l:=[0,1]) rfl ?_
       refine F.qn rfl (r_move rfl) ?_
       refine F.efn rfl (d_callM (xs:=_) (cs:=[R.box pa0 114 [va0_0,.int .i64 xpa0_1r,.int .u64 xpa0_2r]]) (rest:=[R.box b5_1 27 [.int .i64 a1,wq5_1_1r,wq5_1_2],R.box b4_1 27 [.int .i64 0,.slice none 0 0,.slice none 0 0],R.sl Tq5_1_1r wq5_1_1r (xq5_1_1r : List (Int × Int × Int)),R.sl Tq5_1_2 wq5_1_2 (xq5_1_2 : List (Int))]) [0] [1,2,3,4] rfl ok115 rfl rfl rfl rfl (fun w hw=>spec_l1Cur_pick.ok h99 w (hr_a0_0.down hw) (Sep.sub hw))) ?_
       rintro _ _ ⟨_,⟨rfl,rfl⟩,rfl⟩
       refine F.nil (Nrm.seq (Tri.block ?_))
       refine Tri.seq (Tri.reg (l:=[0,1]) rfl ?_)
       refine F.qn rfl (r_eql rfl rfl) (F.qn rfl (r_assign rfl) (F.nil (Nrm.seq (Tri.cond (b:=t99_1 == 0) rfl (fun g_7=>?_) (fun g_7=>?_)))))
       ·replace h:=if_tt g_7 h
        obtain ⟨⟨t107_1,t107_2,t107_3⟩,h107,h⟩:=bind_some h
        refine Tri.reg (l:=[0,1,2,3,4,5,6,7]) rfl ?_
        refine F.qn rfl (r_move rfl) (F.qn rfl (r_fieldAddr tf27_0 rfl) (F.qn rfl (r_load ta3 rfl (fun w hw=>cell_1 (box_cells (i:=1) rfl w hw) rfl)) (F.qn rfl (r_add rfl rfl) ?_)))
        refine F.mn rfl (m_buildF (l:=([0,13,w64 (a1 + 1)] : List (Int))) Tryz.underlying25 ti3 rfl rfl rfl rfl rfl) ?_
        rintro v106_1 _ ⟨S106_1,hl_v106_1,rfl⟩
        refine F.efn rfl (d_callM (xs:=_) (cs:=[R.box pa0 114 [va0_0,.int .i64 t99_2,.int .u64 t99_3]]) (rest:=[R.sl S106_1 v106_1 (([0,13,w64 (a1 + 1)] : List (Int)) : List (Int)),R.box b5_1 27 [.int .i64 a1,wq5_1_1r,wq5_1_2],R.box b4_1 27 [.int .i64 0,.slice none 0 0,.slice none 0 0],R.sl Tq5_1_1r wq5_1_1r (xq5_1_1r : List (Int × Int × Int)),R.sl Tq5_1_2 wq5_1_2 (xq5_1_2 : List (Int))]) [1] [0,2,3,4,5] rfl ok194 rfl rfl rfl rfl (fun w hw=>spec_l1Cur_among.ok h107 w (hr_a0_0.down hw) (rdm_sl (i:=0) rfl hw) (Sep.sub hw))) ?_
        rintro _ _ ⟨_,⟨rfl,rfl⟩,rfl⟩
        refine F.qn rfl (r_fieldAddr tf27_0 rfl) ?_
        refine F.ef0 rfl rfl (wanted_none rfl) (d_storeG1 (i:=2) (cs2:=[.int .i64 t107_1]) ti3 rfl rfl rfl rfl rfl (Nat.le_of_ble_eq_true rfl) (lf_cons rfl lf_nil)) ?_
        rintro _ _ ⟨rfl,rfl⟩
        refine F.nil (Nrm.block ?_)
        refine Nrm.seq (Tri.seq (Tri.reg (l:=[0,1]) rfl ?_))
        refine F.qn rfl (r_loadA ta27 ti27 rfl rfl (fun w hw=>(box_cells (i:=2) rfl w hw))) ?_
        refine F.ef0 rfl rfl (wanted_none rfl) (d_storeG0 (i:=3) (cs2:=[.int .i64 t107_1,wq5_1_1r,wq5_1_2]) ti27 rfl rfl rfl rfl rfl (Nat.le_of_ble_eq_true rfl) (lf_cons rfl (lf_cons (sl_leaf hl_wq5_1_1r) (lf_cons (sl_leaf hl_wq5_1_2) lf_nil)))) ?_
        rintro _ _ ⟨rfl,rfl⟩
        refine F.nil (Nrm.seq (Tri.ret ?_))
        cases h
        exact Rtn.body (.cell rfl ta27 ti27 rfl (fun _ hw=>box_cells (i:=3) rfl _ hw) .nil) (fun w hw=>⟨_,_,rfl,⟨wq5_1_1r,Tq5_1_1r,wq5_1_2,Tq5_1_2,rfl,hl_wq5_1_1r,hl_wq5_1_2,rfl⟩,Sep.pick (is:=[4,5,0]) rfl rfl hw⟩)
       ·replace h:=if_ff g_7 h
        refine Tri.seq (Tri.reg (l:=[0,1]) rfl ?_)
        refine F.qn rfl (r_eql rfl rfl) (F.qn rfl (r_assign rfl) (F.nil (Nrm.seq (Tri.cond (b:=t99_1 == 1) rfl (fun g_8=>?_) (fun g_8=>?_)))))
        ·replace h:=if_tt g_8 h
         refine Tri.seq (Tri.reg (l:=[0,1,2,3]) rfl ?_)
         refine F.qn rfl (r_fieldAddr tf27_1 rfl) (F.qn rfl (r_load ta24 rfl (fun w hw=>cell_1 (box_cells (i:=1) rfl w hw) rfl)) (F.qn rfl (r_len Tryz.underlying24 rfl hl_wq5_1_1r) (F.qn rfl (r_gtr rfl rfl) (F.nil (Nrm.seq ?_)))))
         obtain ⟨⟨ypa0_1rrr,ypa0_2rrr,yb5_1_1rr⟩,hE_9,h⟩:=bind_some h
         refine Tri.cut (fun e' C'=>∃ (vb5_1_1_3 : Value) (Sb5_1_1_3 : Nat → Prop),SlLen vb5_1_1_3 (yb5_1_1rr).length∧e' = [(4,.pointer (some ⟨b4_1,0,none⟩)),(5,.pointer (some ⟨b5_1,0,none⟩))]∧C' = Sep w (footM [R.box pa0 114 [va0_0,.int .i64 a0_1,.int .u64 a0_2]]) [R.box pa0 114 [va0_0,.int .i64 ypa0_1rrr,.int .u64 ypa0_2rrr],R.box b5_1 27 [.int .i64 a1,vb5_1_1_3,wq5_1_2],R.box b4_1 27 [.int .i64 0,.slice none 0 0,.slice none 0 0],R.sl Sb5_1_1_3 vb5_1_1_3 (yb5_1_1rr : List (Int × Int × Int)),R.sl Tq5_1_2 wq5_1_2 (xq5_1_2 : List (Int))]) ?_ (fun hj_7=>?_)
         ·rintro _ _ ⟨vb5_1_1_3,Sb5_1_1_3,hl_vb5_1_1_3,rfl,rfl⟩
          refine Nrm.block ?_
          refine Nrm.seq (Tri.seq (Tri.reg (l:=[0,1]) rfl ?_))
          refine F.qn rfl (r_loadA ta27 ti27 rfl rfl (fun w hw=>(box_cells (i:=1) rfl w hw))) ?_
          refine F.ef0 rfl rfl (wanted_none rfl) (d_storeG0 (i:=2) (cs2:=[.int .i64 a1,vb5_1_1_3,wq5_1_2]) ti27 rfl rfl rfl rfl rfl (Nat.le_of_ble_eq_true rfl) (lf_cons rfl (lf_cons (sl_leaf hl_vb5_1_1_3) (lf_cons (sl_leaf hl_wq5_1_2) lf_nil)))) ?_
          rintro _ _ ⟨rfl,rfl⟩
          refine F.nil (Nrm.seq (Tri.ret ?_))
          cases h
          exact Rtn.body (.cell rfl ta27 ti27 rfl (fun _ hw=>box_cells (i:=2) rfl _ hw) .nil) (fun w hw=>⟨_,_,rfl,⟨vb5_1_1_3,Sb5_1_1_3,wq5_1_2,Tq5_1_2,rfl,hl_vb5_1_1_3,hl_wq5_1_2,rfl⟩,Sep.pick (is:=[3,4,0]) rfl rfl hw⟩)
         ·refine Tri.cond (b:=decide ((xq5_1_1r.length : Int) > 0)) rfl (fun g_9=>?_) (fun g_9=>?_)
          ·replace hE_9:=if_tt g_9 hE_9
           refine Tri.seq ?_
           obtain ⟨⟨t119_1,t119_2,t119_3⟩,h119,hE_9⟩:=bind_some hE_9
           refine Tri.reg (l:=[0,1,2,3,4,5]) rfl ?_
           refine F.qn rfl (r_move rfl) (F.qn rfl (r_fieldAddr tf27_1 rfl) (F.qn rfl (r_load ta24 rfl (fun w hw=>cell_1 (box_cells (i:=1) rfl w hw) rfl)) (F.qn rfl (r_len Tryz.underlying24 rfl hl_wq5_1_1r) ?_)))
           refine F.efn rfl (d_callM (xs:=_) (cs:=[R.box pa0 114 [va0_0,.int .i64 t99_2,.int .u64 t99_3]]) (rest:=[R.box b5_1 27 [.int .i64 a1,wq5_1_1r,wq5_1_2],R.box b4_1 27 [.int .i64 0,.slice none 0 0,.slice none 0 0],R.sl Tq5_1_1r wq5_1_1r (xq5_1_1r : List (Int × Int × Int)),R.sl Tq5_1_2 wq5_1_2 (xq5_1_2 : List (Int))]) [0] [1,2,3,4] rfl ok115 rfl rfl rfl rfl (fun w hw=>spec_l1Cur_pick.ok h119 w (hr_a0_0.down hw) (Sep.sub hw))) ?_
           rintro _ _ ⟨_,⟨rfl,rfl⟩,rfl⟩
           refine F.qn rfl (r_assign rfl) (F.nil (Nrm.seq ?_))
           obtain ⟨t126,h126,hE_9⟩:=bind_some hE_9
           obtain ⟨t132,h132,hE_9⟩:=bind_some hE_9
           obtain ⟨t136,h136,hE_9⟩:=bind_some hE_9
           refine Tri.drawA mixedT Sep.up [(0,true),(1,true),(2,true),(3,true),(4,true),(5,true),(6,true),(7,true),(8,true),(9,true),(10,true),(11,true),(12,true),(13,true),(14,true),(15,true),(16,true)] [17] (by kernel_rfl) ?_
           refine S.qn rfl (r_fieldAddr tf27_1 rfl) (S.qn rfl (r_load ta24 rfl (fun w hw=>cell_1 (box_cells (i:=1) rfl w hw) rfl)) ?_)
           refine S.qn rfl (r_move rfl) (S.qn rfl (r_fieldAddr tf27_1 rfl) (S.qn rfl (r_load ta24 rfl (fun w hw=>cell_1 (box_cells (i:=1) rfl w hw) rfl)) (S.qn rfl (r_move rfl) (S.qn rfl (r_indexAddrS Tryz.underlying24 ti168 rfl hl_wq5_1_1r rfl (rdl_some h126).1 (rdl_some h126).2.1) (S.qn rfl (r_indexAddrA Tryz.underlying168 ti3 rfl rfl (by decide) (by decide)) ?_)))))
           refine S.qn rfl (r_load ta3 rfl (fun w hw=>cell_1 (Rd.flat ((rd_sl (i:=3) rfl) w hw) (rdl_some h126).2.2) rfl)) (S.qn rfl (r_fieldAddr tf27_1 rfl) (S.qn rfl (r_load ta24 rfl (fun w hw=>cell_1 (box_cells (i:=1) rfl w hw) rfl)) (S.qn rfl (r_move rfl) (S.qn rfl (r_indexAddrS Tryz.underlying24 ti168 rfl hl_wq5_1_1r rfl (rdl_some h132).1 (rdl_some h132).2.1) (S.qn rfl (r_indexAddrA Tryz.underlying168 ti3 rfl rfl (by decide) (by decide)) ?_)))))
           refine S.qn rfl (r_load ta3 rfl (fun w hw=>cell_1 (Rd.flat ((rd_sl (i:=3) rfl) w hw) (rdl_some h132).2.2) rfl)) (S.qn rfl (r_buildA (qs:=[(0,[.int .i64 t126.2.1]),(1,[.int .i64 t132.1]),(2,[.int .i64 0])]) (cs:=[.int .i64 t126.2.1,.int .i64 t132.1,.int .i64 0]) Tryz.underlying168 ti3 ti168 rfl (.cons rfl rfl (Nat.le_of_ble_eq_true rfl) (.cons rfl rfl (Nat.le_of_ble_eq_true rfl) (.cons rfl rfl (Nat.le_of_ble_eq_true rfl) .nil))) rfl rfl) (S.qn rfl (r_indexAddrS Tryz.underlying24 ti168 rfl hl_wq5_1_1r rfl (rdl_some h136).1 (rdl_some h136).2.1) (S.nil (F.ef0 rfl rfl (wanted_none rfl) (d_storeE (i:=3) (x1:=(t126.2.1,t132.1,0)) ti168 rfl rfl rfl (rdl_some h136) rfl) ?_))))
           rintro _ _ ⟨rfl,rfl⟩
           refine F.nil ?_
           cases hE_9
           refine Nrm.only [4,5] rfl ?_
           refine Nrm.pick [0,1,2,3,4] rfl rfl ?_
           exact hj_7 _ _ ⟨wq5_1_1r,Tq5_1_1r,(len_set hl_wq5_1_1r),rfl,rfl⟩
          ·replace hE_9:=if_ff g_9 hE_9
           refine Tri.skip ?_
           cases hE_9
           refine Nrm.only [4,5] rfl ?_
           refine Nrm.pick [0,1,2,3,4] rfl rfl ?_
           exact hj_7 _ _ ⟨wq5_1_1r,Tq5_1_1r,hl_wq5_1_1r,rfl,rfl⟩
        ·replace h:=if_ff g_8 h
         refine Tri.seq (Tri.reg (l:=[0,1]) rfl ?_)
         refine F.qn rfl (r_eql rfl rfl) (F.qn rfl (r_assign rfl) (F.nil (Nrm.seq (Tri.cond (b:=t99_1 == 2) rfl (fun g_10=>?_) (fun g_10=>?_)))))
         ·replace h:=if_tt g_10 h
          refine Tri.seq (Tri.reg (l:=[0,1,2,3]) rfl ?_)
          refine F.qn rfl (r_fieldAddr tf27_2 rfl) (F.qn rfl (r_load ta25 rfl (fun w hw=>cell_1 (box_cells (i:=1) rfl w hw) rfl)) (F.qn rfl (r_len Tryz.underlying25 rfl hl_wq5_1_2) (F.qn rfl (r_gtr rfl rfl) (F.nil (Nrm.seq ?_)))))
          obtain ⟨⟨ypa0_1rrrr,ypa0_2rrrr,yb5_1_2⟩,hE_10,h⟩:=bind_some h
          refine Tri.cut (fun e' C'=>∃ (vb5_1_2_1 : Value) (Sb5_1_2_1 : Nat → Prop),SlLen vb5_1_2_1 (yb5_1_2).length∧e' = [(4,.pointer (some ⟨b4_1,0,none⟩)),(5,.pointer (some ⟨b5_1,0,none⟩))]∧C' = Sep w (footM [R.box pa0 114 [va0_0,.int .i64 a0_1,.int .u64 a0_2]]) [R.box pa0 114 [va0_0,.int .i64 ypa0_1rrrr,.int .u64 ypa0_2rrrr],R.box b5_1 27 [.int .i64 a1,wq5_1_1r,vb5_1_2_1],R.box b4_1 27 [.int .i64 0,.slice none 0 0,.slice none 0 0],R.sl Sb5_1_2_1 vb5_1_2_1 (yb5_1_2 : List (Int)),R.sl Tq5_1_1r wq5_1_1r (xq5_1_1r : List (Int × Int × Int))]) ?_ (fun hj_8=>?_)
          ·rintro _ _ ⟨vb5_1_2_1,Sb5_1_2_1,hl_vb5_1_2_1,rfl,rfl⟩
           refine Nrm.block ?_
           refine Nrm.seq (Tri.seq (Tri.reg (l:=[0,1]) rfl ?_))
           refine F.qn rfl (r_loadA ta27 ti27 rfl rfl (fun w hw=>(box_cells (i:=1) rfl w hw))) ?_
           refine F.ef0 rfl rfl (wanted_none rfl) (d_storeG0 (i:=2) (cs2:=[.int .i64 a1,wq5_1_1r,vb5_1_2_1]) ti27 rfl rfl rfl rfl rfl (Nat.le_of_ble_eq_true rfl) (lf_cons rfl (lf_cons (sl_leaf hl_wq5_1_1r) (lf_cons (sl_leaf hl_vb5_1_2_1) lf_nil)))) ?_
           rintro _ _ ⟨rfl,rfl⟩
           refine F.nil (Nrm.seq (Tri.ret ?_))
           cases h
           exact Rtn.body (.cell rfl ta27 ti27 rfl (fun _ hw=>box_cells (i:=2) rfl _ hw) .nil) (fun w hw=>⟨_,_,rfl,⟨wq5_1_1r,Tq5_1_1r,vb5_1_2_1,Sb5_1_2_1,rfl,hl_wq5_1_1r,hl_vb5_1_2_1,rfl⟩,Sep.pick (is:=[4,3,0]) rfl rfl hw⟩)
          ·refine Tri.cond (b:=decide ((xq5_1_2.length : Int) > 0)) rfl (fun g_11=>?_) (fun g_11=>?_)
           ·replace hE_10:=if_tt g_11 hE_10
            obtain ⟨⟨ypa0_1rrrr,ypa0_2rrrr,yb5_1_2⟩,hE_11,hE_10⟩:=bind_some hE_10
            refine Tri.cut (fun e' C'=>∃ (vb5_1_2_2 : Value) (Sb5_1_2_2 : Nat → Prop),SlLen vb5_1_2_2 (yb5_1_2).length∧e' = [(4,.pointer (some ⟨b4_1,0,none⟩)),(5,.pointer (some ⟨b5_1,0,none⟩))]∧C' = Sep w (footM [R.box pa0 114 [va0_0,.int .i64 a0_1,.int .u64 a0_2]]) [R.box pa0 114 [va0_0,.int .i64 ypa0_1rrrr,.int .u64 ypa0_2rrrr],R.box b5_1 27 [.int .i64 a1,wq5_1_1r,vb5_1_2_2],R.box b4_1 27 [.int .i64 0,.slice none 0 0,.slice none 0 0],R.sl Sb5_1_2_2 vb5_1_2_2 (yb5_1_2 : List (Int)),R.sl Tq5_1_1r wq5_1_1r (xq5_1_1r : List (Int × Int × Int))]) ?_ (fun hj_9=>?_)
            ·rintro _ _ ⟨vb5_1_2_2,Sb5_1_2_2,hl_vb5_1_2_2,rfl,rfl⟩
             cases hE_10
             refine Nrm.only [4,5] rfl ?_
             refine Nrm.pick [0,1,2,3,4] rfl rfl ?_
             exact hj_8 _ _ ⟨vb5_1_2_2,Sb5_1_2_2,hl_vb5_1_2_2,rfl,rfl⟩
            ·obtain ⟨⟨t149_1,t149_2,t149_3⟩,h149,hE_11⟩:=bind_some hE_11
             obtain ⟨⟨t152_1,t152_2,t152_3⟩,h152,hE_11⟩:=bind_some hE_11
             obtain ⟨t153,h153,hE_11⟩:=bind_some hE_11
             refine Tri.drawTK (B:=Sep w (footM [R.box pa0 114 [va0_0,.int .i64 a0_1,.int .u64 a0_2]]) [R.box b5_1 27 [.int .i64 a1,wq5_1_1r,wq5_1_2],R.box b4_1 27 [.int .i64 0,.slice none 0 0,.slice none 0 0],R.sl Tq5_1_1r wq5_1_1r (xq5_1_1r : List (Int × Int × Int)),R.sl Tq5_1_2 wq5_1_2 (xq5_1_2 : List (Int))]) mixedT Sep.up [0,1,2,3,4,5,7,6,8,9] [10,11] (.q 0 (.q 1 (.q 2 (.q 3 (.q 4 (.q 5 (.q 7 (.alt 6 (.alt 8 (.alt 9 .nil .stop) .stop) (.alt 8 (.alt 6 (.alt 9 .nil .stop) .stop) .stop))))))))) (by kernel_rfl) ?_
             refine TK.q [1,2,3,4] rfl rfl rfl rfl rfl (wanted_none rfl) (r_fieldAddr tf27_2 rfl) ?_
             refine TK.q [1,2,3,4] rfl rfl rfl rfl rfl (wanted_none rfl) (r_load ta25 rfl (fun w hw=>cell_1 (box_cells (i:=0) rfl w hw) rfl)) ?_
             refine TK.q [1,2,3,4] rfl rfl rfl rfl rfl (wanted_none rfl) (r_move rfl) ?_
             refine TK.q [1,2,3,4] rfl rfl rfl rfl rfl (wanted_none rfl) (r_fieldAddr tf27_2 rfl) ?_
             refine TK.q [1,2,3,4] rfl rfl rfl rfl rfl (wanted_none rfl) (r_load ta25 rfl (fun w hw=>cell_1 (box_cells (i:=0) rfl w hw) rfl)) ?_
             refine TK.q [1,2,3,4] rfl rfl rfl rfl rfl (wanted_none rfl) (r_len Tryz.underlying25 rfl hl_wq5_1_2) ?_
             refine TK.q [1,2,3,4] rfl rfl rfl rfl rfl (wanted_none rfl) (r_move rfl) ?_
             refine T.ef rfl rfl rfl (wanted_none rfl) (d_callM (xs:=_) (cs:=[R.box pa0 114 [va0_0,.int .i64 t99_2,.int .u64 t99_3]]) (rest:=[R.box b5_1 27 [.int .i64 a1,wq5_1_1r,wq5_1_2],R.box b4_1 27 [.int .i64 0,.slice none 0 0,.slice none 0 0],R.sl Tq5_1_1r wq5_1_1r (xq5_1_1r : List (Int × Int × Int)),R.sl Tq5_1_2 wq5_1_2 (xq5_1_2 : List (Int))]) [0] [1,2,3,4] rfl ok115 rfl rfl rfl rfl (fun w hw=>spec_l1Cur_pick.ok h149 w (hr_a0_0.down hw) (Sep.sub hw))) (by rintro _ _ ⟨_,⟨rfl,rfl⟩,rfl⟩; exact upd rfl [1,2,3,4] rfl rfl) ?_ ?_
             ·rintro _ _ ⟨_,⟨rfl,rfl⟩,rfl⟩
              refine T.ef rfl rfl rfl (wanted_none rfl) (Makes.does (m_buildF (l:=([64,(-1),63] : List (Int))) Tryz.underlying25 ti3 rfl rfl rfl rfl rfl)) (by rintro v151_2 _ ⟨S151_2,hl_v151_2,rfl⟩; exact upd rfl [2,3,4,5] rfl rfl) ?_ ?_
              ·rintro v151_2 _ ⟨S151_2,hl_v151_2,rfl⟩
               refine T.ef rfl rfl rfl (wanted_none rfl) (d_callM (xs:=_) (cs:=[R.box pa0 114 [va0_0,.int .i64 t149_2,.int .u64 t149_3]]) (rest:=[R.sl S151_2 v151_2 (([64,(-1),63] : List (Int)) : List (Int)),R.box b5_1 27 [.int .i64 a1,wq5_1_1r,wq5_1_2],R.box b4_1 27 [.int .i64 0,.slice none 0 0,.slice none 0 0],R.sl Tq5_1_1r wq5_1_1r (xq5_1_1r : List (Int × Int × Int)),R.sl Tq5_1_2 wq5_1_2 (xq5_1_2 : List (Int))]) [1] [0,2,3,4,5] rfl ok194 rfl rfl rfl rfl (fun w hw=>spec_l1Cur_among.ok h152 w (hr_a0_0.down hw) (rdm_sl (i:=0) rfl hw) (Sep.sub hw))) (by rintro _ _ ⟨_,⟨rfl,rfl⟩,rfl⟩; exact upd rfl [2,3,4,5] rfl rfl) ?_ ?_
               ·rintro _ _ ⟨_,⟨rfl,rfl⟩,rfl⟩
                refine T.nil ?_
                refine F.qn rfl (r_indexAddrS Tryz.underlying25 ti3 rfl hl_wq5_1_2 rfl (rdl_some h153).1 (rdl_some h153).2.1) ?_
                refine F.ef0 rfl rfl (wanted_none rfl) (d_storeE (i:=5) (x1:=t152_1) ti3 rfl rfl rfl (rdl_some h153) rfl) ?_
                rintro _ _ ⟨rfl,rfl⟩
                refine F.nil ?_
                cases hE_11
                refine Nrm.only [4,5] rfl ?_
                refine Nrm.pick [0,2,3,5,4] rfl rfl ?_
                exact hj_9 _ _ ⟨wq5_1_2,Tq5_1_2,(len_set hl_wq5_1_2),rfl,rfl⟩
               exact T.stop
              exact T.stop
             ·refine T.ef rfl rfl rfl (wanted_none rfl) (Makes.does (m_buildF (l:=([64,(-1),63] : List (Int))) Tryz.underlying25 ti3 rfl rfl rfl rfl rfl)) (by rintro v151_3 _ ⟨S151_3,hl_v151_3,rfl⟩; exact upd rfl [2,3,4,5] rfl rfl) ?_ ?_
              ·rintro v151_3 _ ⟨S151_3,hl_v151_3,rfl⟩
               refine T.ef rfl rfl rfl (wanted_none rfl) (d_callM (xs:=_) (cs:=[R.box pa0 114 [va0_0,.int .i64 t99_2,.int .u64 t99_3]]) (rest:=[R.sl S151_3 v151_3 (([64,(-1),63] : List (Int)) : List (Int)),R.box b5_1 27 [.int .i64 a1,wq5_1_1r,wq5_1_2],R.box b4_1 27 [.int .i64 0,.slice none 0 0,.slice none 0 0],R.sl Tq5_1_1r wq5_1_1r (xq5_1_1r : List (Int × Int × Int)),R.sl Tq5_1_2 wq5_1_2 (xq5_1_2 : List (Int))]) [1] [0,2,3,4,5] rfl ok115 rfl rfl rfl rfl (fun w hw=>spec_l1Cur_pick.ok h149 w (hr_a0_0.down hw) (Sep.sub hw))) (by rintro _ _ ⟨_,⟨rfl,rfl⟩,rfl⟩; exact upd rfl [2,3,4,5] rfl rfl) ?_ ?_
               ·rintro _ _ ⟨_,⟨rfl,rfl⟩,rfl⟩
                refine T.ef rfl rfl rfl (wanted_none rfl) (d_callM (xs:=_) (cs:=[R.box pa0 114 [va0_0,.int .i64 t149_2,.int .u64 t149_3]]) (rest:=[R.sl S151_3 v151_3 (([64,(-1),63] : List (Int)) : List (Int)),R.box b5_1 27 [.int .i64 a1,wq5_1_1r,wq5_1_2],R.box b4_1 27 [.int .i64 0,.slice none 0 0,.slice none 0 0],R.sl Tq5_1_1r wq5_1_1r (xq5_1_1r : List (Int × Int × Int)),R.sl Tq5_1_2 wq5_1_2 (xq5_1_2 : List (Int))]) [0] [1,2,3,4,5] rfl ok194 rfl rfl rfl rfl (fun w hw=>spec_l1Cur_among.ok h152 w (hr_a0_0.down hw) (rdm_sl (i:=0) rfl hw) (Sep.sub hw))) (by rintro _ _ ⟨_,⟨rfl,rfl⟩,rfl⟩; exact upd rfl [2,3,4,5] rfl rfl) ?_ ?_
                ·rintro _ _ ⟨_,⟨rfl,rfl⟩,rfl⟩
                 refine T.nil ?_
                 refine F.qn rfl (r_indexAddrS Tryz.underlying25 ti3 rfl hl_wq5_1_2 rfl (rdl_some h153).1 (rdl_some h153).2.1) ?_
                 refine F.ef0 rfl rfl (wanted_none rfl) (d_storeE (i:=5) (x1:=t152_1) ti3 rfl rfl rfl (rdl_some h153) rfl) ?_
                 rintro _ _ ⟨rfl,rfl⟩
                 refine F.nil ?_
                 cases hE_11
                 refine Nrm.only [4,5] rfl ?_
                 refine Nrm.pick [0,2,3,5,4] rfl rfl ?_
                 exact hj_9 _ _ ⟨wq5_1_2,Tq5_1_2,(len_set hl_wq5_1_2),rfl,rfl⟩
                exact T.stop
               exact T.stop
              exact T.stop
           ·replace hE_10:=if_ff g_11 hE_10
            refine Tri.skip ?_
            cases hE_10
            refine Nrm.only [4,5] rfl ?_
            refine Nrm.pick [0,1,2,4,3] rfl rfl ?_
            exact hj_8 _ _ ⟨wq5_1_2,Tq5_1_2,hl_wq5_1_2,rfl,rfl⟩
         ·replace h:=if_ff g_10 h
          refine Tri.seq (Tri.reg (l:=[0,1]) rfl ?_)
          refine F.qn rfl (r_eql rfl rfl) (F.qn rfl (r_assign rfl) (F.nil (Nrm.seq (Tri.cond (b:=t99_1 == 3) rfl (fun g_12=>?_) (fun g_12=>?_)))))
          ·replace h:=if_tt g_12 h
           refine Tri.seq (Tri.reg (l:=[0,1,2,3]) rfl ?_)
           refine F.qn rfl (r_fieldAddr tf27_1 rfl) (F.qn rfl (r_load ta24 rfl (fun w hw=>cell_1 (box_cells (i:=1) rfl w hw) rfl)) (F.qn rfl (r_len Tryz.underlying24 rfl hl_wq5_1_1r) (F.qn rfl (r_gtr rfl rfl) (F.nil (Nrm.seq ?_)))))
           obtain ⟨yb5_1_1rrr,hE_12,h⟩:=bind_some h
           refine Tri.cut (fun e' C'=>∃ (vb5_1_1_4 : Value) (Sb5_1_1_4 : Nat → Prop),SlLen vb5_1_1_4 (yb5_1_1rrr).length∧e' = [(4,.pointer (some ⟨b4_1,0,none⟩)),(5,.pointer (some ⟨b5_1,0,none⟩))]∧C' = Sep w (footM [R.box pa0 114 [va0_0,.int .i64 a0_1,.int .u64 a0_2]]) [R.box pa0 114 [va0_0,.int .i64 t99_2,.int .u64 t99_3],R.box b5_1 27 [.int .i64 a1,vb5_1_1_4,wq5_1_2],R.box b4_1 27 [.int .i64 0,.slice none 0 0,.slice none 0 0],R.sl Sb5_1_1_4 vb5_1_1_4 (yb5_1_1rrr : List (Int × Int × Int)),R.sl Tq5_1_2 wq5_1_2 (xq5_1_2 : List (Int))]) ?_ (fun hj_10=>?_)
           ·rintro _ _ ⟨vb5_1_1_4,Sb5_1_1_4,hl_vb5_1_1_4,rfl,rfl⟩
            refine Nrm.block ?_
            refine Nrm.seq (Tri.seq (Tri.reg (l:=[0,1]) rfl ?_))
            refine F.qn rfl (r_loadA ta27 ti27 rfl rfl (fun w hw=>(box_cells (i:=1) rfl w hw))) ?_
            refine F.ef0 rfl rfl (wanted_none rfl) (d_storeG0 (i:=2) (cs2:=[.int .i64 a1,vb5_1_1_4,wq5_1_2]) ti27 rfl rfl rfl rfl rfl (Nat.le_of_ble_eq_true rfl) (lf_cons rfl (lf_cons (sl_leaf hl_vb5_1_1_4) (lf_cons (sl_leaf hl_wq5_1_2) lf_nil)))) ?_
            rintro _ _ ⟨rfl,rfl⟩
            refine F.nil (Nrm.seq (Tri.ret ?_))
            cases h
            exact Rtn.body (.cell rfl ta27 ti27 rfl (fun _ hw=>box_cells (i:=2) rfl _ hw) .nil) (fun w hw=>⟨_,_,rfl,⟨vb5_1_1_4,Sb5_1_1_4,wq5_1_2,Tq5_1_2,rfl,hl_vb5_1_1_4,hl_wq5_1_2,rfl⟩,Sep.pick (is:=[3,4,0]) rfl rfl hw⟩)
           ·refine Tri.cond (b:=decide ((xq5_1_1r.length : Int) > 0)) rfl (fun g_13=>?_) (fun g_13=>?_)
            ·replace hE_12:=if_tt g_13 hE_12
             obtain ⟨t164,h164,hE_12⟩:=bind_some hE_12
             obtain ⟨hs167,hE_12⟩:=ck hE_12
             refine Tri.drawA mixedT Sep.up [(0,true),(1,true),(2,true),(3,true),(4,true),(5,true),(6,false)] [7,8,9] (by kernel_rfl) ?_
             refine S.qn rfl (r_fieldAddr tf27_1 rfl) (S.qn rfl (r_load ta24 rfl (fun w hw=>cell_1 (box_cells (i:=1) rfl w hw) rfl)) (S.qn rfl (r_fieldAddr tf27_1 rfl) (S.qn rfl (r_load ta24 rfl (fun w hw=>cell_1 (box_cells (i:=1) rfl w hw) rfl)) (S.qn rfl (r_indexAddrS Tryz.underlying24 ti168 rfl hl_wq5_1_1r rfl (rdl_some h164).1 (rdl_some h164).2.1) (S.qn rfl (r_loadA ta168 ti168 rfl rfl (fun w hw=>(Rd.flat ((rd_sl (i:=3) rfl) w hw) (rdl_some h164).2.2))) ?_)))))
             refine S.m rfl rfl rfl (wanted_none rfl) (m_buildF (l:=([t164] : List (Int × Int × Int))) Tryz.underlying24 ti168 rfl rfl rfl rfl rfl) ?_
             rintro v166_2 _ ⟨S166_2,hl_v166_2,rfl⟩
             refine S.nil (F.efn rfl (d_append (i:=4) Tryz.underlying24 Tryz.underlying24 ti168 rfl (by decide) rfl rfl rfl (rd_sl (i:=0) rfl) hs167) ?_)
             rintro v167_2 _ ⟨S167_2,rfl,hl_v167_2⟩
             refine F.qn rfl (r_fieldAddr tf27_1 rfl) ?_
             refine F.ef0 rfl rfl (wanted_none rfl) (d_storeG1 (i:=2) (cs2:=[v167_2]) ti24 rfl rfl rfl (sl_cells hl_v167_2) rfl (Nat.le_of_ble_eq_true rfl) (lf_cons (sl_leaf hl_v167_2) lf_nil)) ?_
             rintro _ _ ⟨rfl,rfl⟩
             refine F.nil ?_
             cases hE_12
             refine Nrm.only [4,5] rfl ?_
             refine Nrm.pick [1,2,3,4,5] rfl rfl ?_
             exact hj_10 _ _ ⟨v167_2,S167_2,hl_v167_2,rfl,rfl⟩
            ·replace hE_12:=if_ff g_13 hE_12
             refine Tri.skip ?_
             cases hE_12
             refine Nrm.only [4,5] rfl ?_
             refine Nrm.pick [0,1,2,3,4] rfl rfl ?_
             exact hj_10 _ _ ⟨wq5_1_1r,Tq5_1_1r,hl_wq5_1_1r,rfl,rfl⟩
          ·replace h:=if_ff g_12 h
           refine Tri.seq (Tri.reg (l:=[0,1]) rfl ?_)
           refine F.qn rfl (r_eql rfl rfl) (F.qn rfl (r_assign rfl) (F.nil (Nrm.seq (Tri.cond (b:=t99_1 == 4) rfl (fun g_14=>?_) (fun g_14=>?_)))))
           ·replace h:=if_tt g_14 h
            refine Tri.seq (Tri.reg (l:=[0,1]) rfl ?_)
            refine F.qn rfl (r_build (pl:=[(0,1),(1,1),(2,1)]) (qs:=[]) (cs:=[.int .i64 0,.slice none 0 0,.slice none 0 0]) (by kernel_rfl) ti27 rfl .nil rfl rfl) ?_
            refine F.ef0 rfl rfl (wanted_none rfl) (d_storeG0 (i:=2) (cs2:=[.int .i64 0,.slice none 0 0,.slice none 0 0]) ti27 rfl rfl rfl rfl rfl (Nat.le_of_ble_eq_true rfl) (lf_cons rfl (lf_cons rfl (lf_cons rfl lf_nil)))) ?_
            rintro _ _ ⟨rfl,rfl⟩
            refine F.nil (Nrm.seq (Tri.ret ?_))
            refine Rtn.block ?_
            refine Rtn.then ?_
            cases h
            exact Rtn.body (.cell rfl ta27 ti27 rfl (fun _ hw=>box_cells (i:=2) rfl _ hw) .nil) (fun w hw=>⟨_,_,rfl,⟨.slice none 0 0,fun _=>False,.slice none 0 0,fun _=>False,rfl,len_nil,len_nil,rfl⟩,Sep.pick (is:=[0,1,2]) rfl rfl hw.pushNil.pushNil⟩)
           ·replace h:=if_ff g_14 h
            refine Tri.skip (Nrm.block ?_)
            refine Nrm.seq (Tri.seq (Tri.reg (l:=[0,1]) rfl ?_))
            refine F.qn rfl (r_loadA ta27 ti27 rfl rfl (fun w hw=>(box_cells (i:=1) rfl w hw))) ?_
            refine F.ef0 rfl rfl (wanted_none rfl) (d_storeG0 (i:=2) (cs2:=[.int .i64 a1,wq5_1_1r,wq5_1_2]) ti27 rfl rfl rfl rfl rfl (Nat.le_of_ble_eq_true rfl) (lf_cons rfl (lf_cons (sl_leaf hl_wq5_1_1r) (lf_cons (sl_leaf hl_wq5_1_2) lf_nil)))) ?_
            rintro _ _ ⟨rfl,rfl⟩
            refine F.nil (Nrm.seq (Tri.ret ?_))
            cases h
            exact Rtn.body (.cell rfl ta27 ti27 rfl (fun _ hw=>box_cells (i:=2) rfl _ hw) .nil) (fun w hw=>⟨_,_,rfl,⟨wq5_1_1r,Tq5_1_1r,wq5_1_2,Tq5_1_2,rfl,hl_wq5_1_1r,hl_wq5_1_2,rfl⟩,Sep.pick (is:=[3,4,0]) rfl rfl hw⟩)
     ·rcases Bool.eq_false_or_eq_true (decide (x11 > 0)) with g70 | g70
      ·replace hE_7:=if_tt g70 hE_7
       rcases Bool.eq_false_or_eq_true (decide (a1 > 1)) with g74 | g74
       ·replace hE_7:=if_tt g74 hE_7
        refine Tri.reg (l:=[0,1,2,3,4,5,6,7,8,9]) rfl ?_
        refine F.qn rfl (r_move rfl) (F.qn rfl (r_gtr rfl rfl) (F.qn rfl (r_move rfl) (F.qg rfl g70 (r_move rfl) ?_)))
        refine F.qg rfl g70 (r_gtr rfl rfl) (F.qn rfl (r_pick rfl rfl g70) (F.qn rfl (r_move rfl) (F.qg rfl g74 (r_move rfl) (F.qg rfl g74 (r_lss rfl rfl) (F.qn rfl (r_pick rfl rfl g74) (F.nil ?_))))))
        cases hE_7
        refine Nrm.only [0,1,4,5,6,11,77] rfl ?_
        refine Nrm.pick [0,1,2,3,4] rfl rfl ?_
        exact hj_5 _ _ ⟨rfl,rfl⟩
       ·replace hE_7:=if_ff g74 hE_7
        refine Tri.reg (l:=[0,1,2,3,4,5,6,7,8,9]) rfl ?_
        refine F.qn rfl (r_move rfl) (F.qn rfl (r_gtr rfl rfl) (F.qn rfl (r_move rfl) (F.qg rfl g70 (r_move rfl) ?_)))
        refine F.qg rfl g70 (r_gtr rfl rfl) (F.qn rfl (r_pick rfl rfl g70) (F.qn rfl (r_move rfl) (F.skf rfl g74 (F.skf rfl g74 (F.qn rfl (r_pickf rfl rfl g74) (F.nil ?_))))))
        cases hE_7
        refine Nrm.only [0,1,4,5,6,11,77] rfl ?_
        refine Nrm.pick [0,1,2,3,4] rfl rfl ?_
        exact hj_5 _ _ ⟨rfl,rfl⟩
      ·replace hE_7:=if_ff g70 hE_7
       refine Tri.reg (l:=[0,1,2,3,4,5,6,7,8,9]) rfl ?_
       refine F.qn rfl (r_move rfl) (F.qn rfl (r_gtr rfl rfl) (F.qn rfl (r_move rfl) (F.skf rfl g70 ?_)))
       refine F.skf rfl g70 (F.qn rfl (r_pickf rfl rfl g70) (F.qn rfl (r_move rfl) (F.skf rfl rfl (F.skf rfl rfl (F.qn rfl (r_pickf rfl rfl rfl) (F.nil ?_))))))
       cases hE_7
       refine Nrm.only [0,1,4,5,6,11,77] rfl ?_
       refine Nrm.pick [0,1,2,3,4] rfl rfl ?_
       exact hj_5 _ _ ⟨rfl,rfl⟩
  ·rcases Bool.eq_false_or_eq_true (decide (x8 < a1)) with g25 | g25
   ·replace hE_2:=if_tt g25 hE_2
    refine Tri.reg (l:=[0,1,2,3,4,5,6]) rfl ?_
    refine F.qn rfl (r_move rfl) ?_
    refine F.qn rfl (r_move rfl) (F.qn rfl (r_lss rfl rfl) (F.qn rfl (r_move rfl) (F.qg rfl g25 (r_move rfl) (F.qg rfl g25 (r_lss rfl rfl) (F.qn rfl (r_pick rfl rfl g25) (F.nil ?_))))))
    cases hE_2
    refine Nrm.only [0,1,4,5,6,7,8,28] rfl ?_
    refine Nrm.pick [0,1,2,4,3] rfl rfl ?_
    exact hj_1 _ _ ⟨rfl,rfl⟩
   ·replace hE_2:=if_ff g25 hE_2
    refine Tri.reg (l:=[0,1,2,3,4,5,6]) rfl ?_
    refine F.qn rfl (r_move rfl) ?_
    refine F.qn rfl (r_move rfl) (F.qn rfl (r_lss rfl rfl) (F.qn rfl (r_move rfl) (F.skf rfl g25 (F.skf rfl g25 (F.qn rfl (r_pickf rfl rfl g25) (F.nil ?_))))))
    cases hE_2
    refine Nrm.only [0,1,4,5,6,7,8,28] rfl ?_
    refine Nrm.pick [0,1,2,4,3] rfl rfl ?_
    exact hj_1 _ _ ⟨rfl,rfl⟩


def spec_l1Cur_maze.f (k : Nat) (a0_0 : List By) (a0_1 : Int) (a0_2 : Int) : Option (Int × (List (Int × Int × Int)) × (List Int) × Int × Int) := (spec_l1Cur_among.f k a0_0 a0_1 a0_2 ([5, 6, 4, 7, 3, 8, 2, 10, 1, 12] : List (Int))).bind fun (t6_1, t6_2, t6_3) => (spec_l1Cur_someMaze.f k a0_0 t6_2 t6_3 t6_1).bind fun (t7_1, t7_2, t7_3, t7_4, t7_5) => some (t7_1, t7_2, t7_3, t7_4, t7_5)

theorem spec_l1Cur_maze.ok {k : Nat}  {a0_0 : List By} {a0_1 : Int} {a0_2 : Int} {r0 : Int} {r1 : List (Int × Int × Int)} {r2 : List Int} {r3 : Int} {r4 : Int} (h : spec_l1Cur_maze.f k a0_0 a0_1 a0_2 = some (r0, r1, r2, r3, r4)) (w : World) {pa0 : Nat} {va0_0 : Value} (hr_a0_0 : RdM w (footM [R.box pa0 114 [va0_0, .int .i64 a0_1, .int .u64 a0_2]]) va0_0 a0_0) (hw0 : Sep w (footM [R.box pa0 114 [va0_0, .int .i64 a0_1, .int .u64 a0_2]]) [R.box pa0 114 [va0_0, .int .i64 a0_1, .int .u64 a0_2]] w) :
  Calls Tryz.prog 106 ([.pointer (some ⟨pa0,0,none⟩)] : List Value).toArray w (PostM (footM [R.box pa0 114 [va0_0,.int .i64 a0_1,.int .u64 a0_2]]) (fun u ns=>∃ (ur1 : Value) (Sr1 : Nat → Prop) (ur2 : Value) (Sr2 : Nat → Prop),u = .agg [.int .i64 r0,ur1,ur2].toArray∧SlLen ur1 r1.length∧SlLen ur2 r2.length∧ns = [R.sl Sr1 ur1 r1,R.sl Sr2 ur2 r2,R.box pa0 114 [va0_0,.int .i64 r3,.int .u64 r4]]) w):=by
 unfold spec_l1Cur_maze.f at h
 have hl_va0_0:=hr_a0_0.len
 refine Calls.of_tri (N:=8) Tryz.func106 rfl rfl rfl hw0 ?_
 refine Tri.seq (Tri.reg (l:=[0]) rfl ?_)
 refine F.mn rfl (m_alloc ti27) ?_
 rintro _ _ ⟨b2_1,rfl,rfl⟩
 refine F.nil (Nrm.seq (Tri.seq ?_))
 obtain ⟨⟨t6_1,t6_2,t6_3⟩,h6,h⟩:=bind_some h
 obtain ⟨⟨t7_1,t7_2,t7_3,t7_4,t7_5⟩,h7,h⟩:=bind_some h
 refine Tri.reg (l:=[0,1,2,3,4,5]) rfl ?_
 refine F.qn rfl (r_move rfl) (F.qn rfl (r_move rfl) ?_)
 refine F.mn rfl (m_buildF (l:=([5,6,4,7,3,8,2,10,1,12] : List (Int))) Tryz.underlying25 ti3 rfl rfl rfl rfl rfl) ?_
 rintro v5_1 _ ⟨S5_1,hl_v5_1,rfl⟩
 refine F.efn rfl (d_callM (xs:=_) (cs:=[R.box pa0 114 [va0_0,.int .i64 a0_1,.int .u64 a0_2]]) (rest:=[R.sl S5_1 v5_1 (([5,6,4,7,3,8,2,10,1,12] : List (Int)) : List (Int)),R.box b2_1 27 [.int .i64 0,.slice none 0 0,.slice none 0 0]]) [2] [0,1] rfl ok194 rfl rfl rfl rfl (fun w hw=>spec_l1Cur_among.ok h6 w (hr_a0_0.down hw) (rdm_sl (i:=0) rfl hw) (Sep.sub hw))) ?_
 rintro _ _ ⟨_,⟨rfl,rfl⟩,rfl⟩
 refine F.efn rfl (d_callM (xs:=_) (cs:=[R.box pa0 114 [va0_0,.int .i64 t6_2,.int .u64 t6_3]]) (rest:=[R.sl S5_1 v5_1 (([5,6,4,7,3,8,2,10,1,12] : List (Int)) : List (Int)),R.box b2_1 27 [.int .i64 0,.slice none 0 0,.slice none 0 0]]) [0] [1,2] rfl ok193 rfl rfl rfl rfl (fun w hw=>spec_l1Cur_someMaze.ok h7 w (hr_a0_0.down hw) (Sep.sub hw))) ?_
 rintro _ _ ⟨_,⟨v7_1,S7_1,v7_2,S7_2,rfl,hl_v7_1,hl_v7_2,rfl⟩,rfl⟩
 refine F.ef0 rfl rfl (wanted_none rfl) (d_storeG0 (i:=4) (cs2:=[.int .i64 t7_1,v7_1,v7_2]) ti27 rfl rfl rfl rfl rfl (Nat.le_of_ble_eq_true rfl) (lf_cons rfl (lf_cons (sl_leaf hl_v7_1) (lf_cons (sl_leaf hl_v7_2) lf_nil)))) ?_
 rintro _ _ ⟨rfl,rfl⟩
 refine F.nil (Nrm.seq (Tri.ret ?_))
 cases h
 exact Rtn.body (.cell rfl ta27 ti27 rfl (fun _ hw=>box_cells (i:=4) rfl _ hw) .nil) (fun w hw=>⟨_,_,rfl,⟨v7_1,S7_1,v7_2,S7_2,rfl,hl_v7_1,hl_v7_2,rfl⟩,Sep.pick (is:=[0,1,2]) rfl rfl hw⟩)


def spec_l1Cur_trap.l0 (k : Nat) (a0_0 : List By) (t6_2 : List (Int × Int × Int)) : Nat → Int → (List (Int)) → Int → Int → Option (Int × Int × (List (Int)))
 | 0,_,_,_,_=>none
 | n + 1,x4,xq3_1_3,xpa0_1,xpa0_2=>((if (decide (x4 < (t6_2.length : Int))) = true then some (decide (x4 < 31)) else some false)).bind fun y18=>(if y18 = true then (spec_l1Cur_one.f k a0_0 xpa0_1 xpa0_2 3).bind fun (t22_1,t22_2,t22_3)=>((if t22_1 = true then if (xq3_1_3 ++ ([x4] : List (Int))).length < 1099511627776 then some (xq3_1_3 ++ ([x4] : List (Int))) else none else some xq3_1_3)).bind fun yb3_1_3=>spec_l1Cur_trap.l0 k a0_0 t6_2 n (w64 (x4 + 1)) yb3_1_3 t22_2 t22_3 else some (xpa0_1,xpa0_2,xq3_1_3))

def spec_l1Cur_trap.f (k : Nat) (a0_0 : List By) (a0_1 : Int) (a0_2 : Int) : Option (Int × (List (Int × Int × Int)) × (List Int) × (List Int) × Int × Int) := (spec_l1Cur_maze.f k a0_0 a0_1 a0_2).bind fun (t6_1, t6_2, t6_3, t6_4, t6_5) => (spec_l1Cur_trap.l0 k a0_0 t6_2 k 0 ([] : List (Int)) t6_4 t6_5).bind fun (xpa0_1, xpa0_2, xq3_1_3) => (spec_l1Cur_one.f k a0_0 xpa0_1 xpa0_2 40).bind fun (t30_1, t30_2, t30_3) => ((if t30_1 = true then (spec_l1Cur_among.f k a0_0 t30_2 t30_3 ([(-1), 0, (t6_2.length : Int)] : List (Int))).bind fun (t39_1, t39_2, t39_3) => if (xq3_1_3 ++ ([t39_1] : List (Int))).length < 1099511627776 then some (t39_2, t39_3, xq3_1_3 ++ ([t39_1] : List (Int))) else none else some (t30_2, t30_3, xq3_1_3))).bind fun (ypa0_1, ypa0_2, yb3_1_3r) => some (t6_1, t6_2, t6_3, yb3_1_3r, ypa0_1, ypa0_2)

theorem spec_l1Cur_trap.ok {k : Nat}  {a0_0 : List By} {a0_1 : Int} {a0_2 : Int} {r0 : Int} {r1 : List (Int × Int × Int)} {r2 : List Int} {r3 : List Int} {r4 : Int} {r5 : Int} (h : spec_l1Cur_trap.f k a0_0 a0_1 a0_2 = some (r0, r1, r2, r3, r4, r5)) (w : World) {pa0 : Nat} {va0_0 : Value} (hr_a0_0 : RdM w (footM [R.box pa0 114 [va0_0, .int .i64 a0_1, .int .u64 a0_2]]) va0_0 a0_0) (hw0 : Sep w (footM [R.box pa0 114 [va0_0, .int .i64 a0_1, .int .u64 a0_2]]) [R.box pa0 114 [va0_0, .int .i64 a0_1, .int .u64 a0_2]] w) :
  Calls Tryz.prog 143 ([.pointer (some ⟨pa0,0,none⟩)] : List Value).toArray w (PostM (footM [R.box pa0 114 [va0_0,.int .i64 a0_1,.int .u64 a0_2]]) (fun u ns=>∃ (ur1 : Value) (Sr1 : Nat → Prop) (ur2 : Value) (Sr2 : Nat → Prop) (ur3 : Value) (Sr3 : Nat → Prop),u = .agg [.int .i64 r0,ur1,ur2,ur3].toArray∧SlLen ur1 r1.length∧SlLen ur2 r2.length∧SlLen ur3 r3.length∧ns = [R.sl Sr1 ur1 r1,R.sl Sr2 ur2 r2,R.sl Sr3 ur3 r3,R.box pa0 114 [va0_0,.int .i64 r4,.int .u64 r5]]) w):=by
 unfold spec_l1Cur_trap.f at h
 have hl_va0_0:=hr_a0_0.len
 refine Calls.of_tri (N:=44) Tryz.func143 rfl rfl rfl hw0 ?_
 refine Tri.seq (Tri.reg (l:=[0]) rfl ?_)
 refine F.mn rfl (m_alloc ti65) ?_
 rintro _ _ ⟨b2_1,rfl,rfl⟩
 refine F.nil (Nrm.seq (Tri.seq ?_))
 obtain ⟨⟨t6_1,t6_2,t6_3,t6_4,t6_5⟩,h6,h⟩:=bind_some h
 refine Tri.reg (l:=[0,1,2,3,4,5]) rfl ?_
 refine F.qn rfl (r_move rfl) ?_
 refine F.efn rfl (d_callM (xs:=_) (cs:=[R.box pa0 114 [va0_0,.int .i64 a0_1,.int .u64 a0_2]]) (rest:=[R.box b2_1 65 [.int .i64 0,.slice none 0 0,.slice none 0 0,.slice none 0 0]]) [1] [0] rfl ok106 rfl rfl rfl rfl (fun w hw=>spec_l1Cur_maze.ok h6 w (hr_a0_0.down hw) (Sep.sub hw))) ?_
 rintro _ _ ⟨_,⟨v6_1,S6_1,v6_2,S6_2,rfl,hl_v6_1,hl_v6_2,rfl⟩,rfl⟩
 refine F.mn rfl (m_build0 (α:=Int) Tryz.underlying25 ti3) ?_
 rintro v7_1 _ ⟨S7_1,hl_v7_1,rfl⟩
 refine F.qn rfl (r_build (pl:=[(0,3),(3,1)]) (qs:=[(0,[.int .i64 t6_1,v6_1,v6_2]),(3,[v7_1])]) (cs:=[.int .i64 t6_1,v6_1,v6_2,v7_1]) (by kernel_rfl) ti65 rfl (.cons rfl rfl (Nat.le_of_ble_eq_true rfl) (.cons (sl_cells hl_v7_1) rfl (Nat.le_of_ble_eq_true rfl) .nil)) rfl rfl) ?_
 refine F.mn rfl (m_alloc ti65) ?_
 rintro _ _ ⟨b3_1,rfl,rfl⟩
 refine F.ef0 rfl rfl (wanted_none rfl) (d_storeG0 (i:=0) (cs2:=[.int .i64 t6_1,v6_1,v6_2,v7_1]) ti65 rfl rfl rfl rfl rfl (Nat.le_of_ble_eq_true rfl) (lf_cons rfl (lf_cons (sl_leaf hl_v6_1) (lf_cons (sl_leaf hl_v6_2) (lf_cons (sl_leaf hl_v7_1) lf_nil))))) ?_
 rintro _ _ ⟨rfl,rfl⟩
 refine F.nil (Nrm.seq (Tri.seq (Tri.seq (Tri.reg (l:=[0]) rfl ?_))))
 refine F.qn rfl (r_assign rfl) (F.nil (Nrm.seq ?_))
 obtain ⟨⟨xpa0_1,xpa0_2,xq3_1_3⟩,hE_1,h⟩:=bind_some h
 refine Tri.block ?_
 refine Tri.only [0,2,3,4] rfl ?_
 refine Tri.pick [0,4,5,1,2,3] rfl rfl ?_
 refine Tri.rounds (fun n e' C'=>∃ (x4' : Int) (xq3_1_3' : List (Int)) (xpa0_1' : Int) (xpa0_2' : Int) (wq3_1_3 : Value) (Tq3_1_3 : Nat → Prop),spec_l1Cur_trap.l0 k a0_0 t6_2 n x4' xq3_1_3' xpa0_1' xpa0_2' = some (xpa0_1,xpa0_2,xq3_1_3)∧SlLen wq3_1_3 (xq3_1_3').length∧e' = [(0,.pointer (some ⟨pa0,0,none⟩)),(2,.pointer (some ⟨b2_1,0,none⟩)),(3,.pointer (some ⟨b3_1,0,none⟩)),(4,.int .i64 x4')]∧C' = Sep w (footM [R.box pa0 114 [va0_0,.int .i64 a0_1,.int .u64 a0_2]]) [R.box b3_1 65 [.int .i64 t6_1,v6_1,v6_2,wq3_1_3],R.box pa0 114 [va0_0,.int .i64 xpa0_1',.int .u64 xpa0_2'],R.box b2_1 65 [.int .i64 0,.slice none 0 0,.slice none 0 0,.slice none 0 0],R.sl Tq3_1_3 wq3_1_3 (xq3_1_3' : List (Int)),R.sl S6_1 v6_1 (t6_2 : List (Int × Int × Int)),R.sl S6_2 v6_2 (t6_3 : List (Int))]) k ?_ ?_ ?_
 ·exact ⟨0,([] : List (Int)),t6_4,t6_5,v7_1,S7_1,hE_1,hl_v7_1,rfl,rfl⟩
 ·rintro _ _ ⟨_,_,_,_,_,_,hE_1,_⟩
  rw [spec_l1Cur_trap.l0.eq_1] at hE_1; cases hE_1
 ·rintro n_1 _ _ ⟨x4,xq3_1_3,xpa0_1,xpa0_2,wq3_1_3,Tq3_1_3,hE_1,hl_wq3_1_3,rfl,rfl⟩ ih_1
  rw [spec_l1Cur_trap.l0.eq_2] at hE_1
  refine Tri.seq (Tri.seq ?_)
  obtain ⟨y18,hE_2,hE_1⟩:=bind_some hE_1
  refine Tri.cut (fun e' C'=>e' = [(0,.pointer (some ⟨pa0,0,none⟩)),(2,.pointer (some ⟨b2_1,0,none⟩)),(3,.pointer (some ⟨b3_1,0,none⟩)),(4,.int .i64 x4),(18,.bool y18)]∧C' = Sep w (footM [R.box pa0 114 [va0_0,.int .i64 a0_1,.int .u64 a0_2]]) [R.box b3_1 65 [.int .i64 t6_1,v6_1,v6_2,wq3_1_3],R.box pa0 114 [va0_0,.int .i64 xpa0_1,.int .u64 xpa0_2],R.box b2_1 65 [.int .i64 0,.slice none 0 0,.slice none 0 0,.slice none 0 0],R.sl S6_1 v6_1 (t6_2 : List (Int × Int × Int)),R.sl S6_2 v6_2 (t6_3 : List (Int)),R.sl Tq3_1_3 wq3_1_3 (xq3_1_3 : List (Int))]) ?_ (fun hj_1=>?_)
  ·rintro _ _ ⟨rfl,rfl⟩
   refine Nrm.seq (Tri.cond (b:=y18) rfl (fun g_1=>?_) (fun g_1=>?_))
   ·replace hE_1:=if_tt g_1 hE_1
    refine Tri.skip (Nrm.seq (Tri.seq (Tri.block ?_)))
    refine Tri.seq ?_
    obtain ⟨⟨t22_1,t22_2,t22_3⟩,h22,hE_1⟩:=bind_some hE_1
    refine Tri.reg (l:=[0,1]) rfl ?_
    refine F.qn rfl (r_move rfl) ?_
    refine F.efn rfl (d_callM (xs:=_) (cs:=[R.box pa0 114 [va0_0,.int .i64 xpa0_1,.int .u64 xpa0_2]]) (rest:=[R.box b3_1 65 [.int .i64 t6_1,v6_1,v6_2,wq3_1_3],R.box b2_1 65 [.int .i64 0,.slice none 0 0,.slice none 0 0,.slice none 0 0],R.sl S6_1 v6_1 (t6_2 : List (Int × Int × Int)),R.sl S6_2 v6_2 (t6_3 : List (Int)),R.sl Tq3_1_3 wq3_1_3 (xq3_1_3 : List (Int))]) [1] [0,2,3,4,5] rfl ok200 rfl rfl rfl rfl (fun w hw=>spec_l1Cur_one.ok h22 w (hr_a0_0.down hw) (Sep.sub hw))) ?_
    rintro _ _ ⟨_,⟨rfl,rfl⟩,rfl⟩
    refine F.nil (Nrm.seq ?_)
    obtain ⟨yb3_1_3,hE_3,hE_1⟩:=bind_some hE_1
    refine Tri.cut (fun e' C'=>∃ (vb3_1_3_1 : Value) (Sb3_1_3_1 : Nat → Prop),SlLen vb3_1_3_1 (yb3_1_3).length∧e' = [(0,.pointer (some ⟨pa0,0,none⟩)),(2,.pointer (some ⟨b2_1,0,none⟩)),(3,.pointer (some ⟨b3_1,0,none⟩)),(4,.int .i64 x4)]∧C' = Sep w (footM [R.box pa0 114 [va0_0,.int .i64 a0_1,.int .u64 a0_2]]) [R.box pa0 114 [va0_0,.int .i64 t22_2,.int .u64 t22_3],R.box b3_1 65 [.int .i64 t6_1,v6_1,v6_2,vb3_1_3_1],R.box b2_1 65 [.int .i64 0,.slice none 0 0,.slice none 0 0,.slice none 0 0],R.sl Sb3_1_3_1 vb3_1_3_1 (yb3_1_3 : List (Int)),R.sl S6_1 v6_1 (t6_2 : List (Int × Int × Int)),R.sl S6_2 v6_2 (t6_3 : List (Int))]) ?_ (fun hj_2=>?_)
    ·rintro _ _ ⟨vb3_1_3_1,Sb3_1_3_1,hl_vb3_1_3_1,rfl,rfl⟩
     refine Nrm.block ?_
     refine Nrm.seq (Tri.reg (l:=[0,1,2]) rfl ?_)
     refine F.qn rfl (r_move rfl) (F.qn rfl (r_add rfl rfl) (F.qn rfl (r_assign rfl) (F.nil (Nrm.round ?_))))
     refine Rnd.only [0,2,3,4] rfl ?_
     refine Rnd.pick [1,0,2,3,4,5] rfl rfl ?_
     exact ih_1 _ _ ⟨w64 (x4 + 1),yb3_1_3,t22_2,t22_3,vb3_1_3_1,Sb3_1_3_1,hE_1,hl_vb3_1_3_1,rfl,rfl⟩
    ·refine Tri.cond (b:=t22_1) rfl (fun g_2=>?_) (fun g_2=>?_)
     ·replace hE_3:=if_tt g_2 hE_3
      obtain ⟨hs27,hE_3⟩:=ck hE_3
      refine Tri.reg (l:=[0,1,2,3,4,5,6]) rfl ?_
      refine F.qn rfl (r_fieldAddr tf65_1 rfl) (F.qn rfl (r_load ta25 rfl (fun w hw=>cell_1 (box_cells (i:=1) rfl w hw) rfl)) (F.qn rfl (r_move rfl) ?_))
      refine F.mn rfl (m_buildF (l:=([x4] : List (Int))) Tryz.underlying25 ti3 rfl rfl rfl rfl rfl) ?_
      rintro v26_1 _ ⟨S26_1,hl_v26_1,rfl⟩
      refine F.efn rfl (d_append (i:=6) Tryz.underlying25 Tryz.underlying25 ti3 rfl (by decide) rfl rfl rfl (rd_sl (i:=0) rfl) hs27) ?_
      rintro v27_1 _ ⟨S27_1,rfl,hl_v27_1⟩
      refine F.qn rfl (r_fieldAddr tf65_1 rfl) ?_
      refine F.ef0 rfl rfl (wanted_none rfl) (d_storeG1 (i:=2) (cs2:=[v27_1]) ti25 rfl rfl rfl (sl_cells hl_v27_1) rfl (Nat.le_of_ble_eq_true rfl) (lf_cons (sl_leaf hl_v27_1) lf_nil)) ?_
      rintro _ _ ⟨rfl,rfl⟩
      refine F.nil ?_
      cases hE_3
      refine Nrm.only [0,2,3,4] rfl ?_
      refine Nrm.pick [1,2,3,6,4,5] rfl rfl ?_
      exact hj_2 _ _ ⟨v27_1,S27_1,hl_v27_1,rfl,rfl⟩
     ·replace hE_3:=if_ff g_2 hE_3
      refine Tri.skip ?_
      cases hE_3
      refine Nrm.only [0,2,3,4] rfl ?_
      refine Nrm.pick [0,1,2,5,3,4] rfl rfl ?_
      exact hj_2 _ _ ⟨wq3_1_3,Tq3_1_3,hl_wq3_1_3,rfl,rfl⟩
   ·replace hE_1:=if_ff g_1 hE_1
    refine Tri.exit ?_
    refine Exi.then ?_
    refine Exi.then ?_
    refine Exi.same ?_
    cases hE_1
    refine Nrm.seq (Tri.seq (Tri.seq ?_))
    obtain ⟨⟨t30_1,t30_2,t30_3⟩,h30,h⟩:=bind_some h
    refine Tri.reg (l:=[0,1]) rfl ?_
    refine F.qn rfl (r_move rfl) ?_
    refine F.efn rfl (d_callM (xs:=_) (cs:=[R.box pa0 114 [va0_0,.int .i64 xpa0_1,.int .u64 xpa0_2]]) (rest:=[R.box b3_1 65 [.int .i64 t6_1,v6_1,v6_2,wq3_1_3],R.box b2_1 65 [.int .i64 0,.slice none 0 0,.slice none 0 0,.slice none 0 0],R.sl S6_1 v6_1 (t6_2 : List (Int × Int × Int)),R.sl S6_2 v6_2 (t6_3 : List (Int)),R.sl Tq3_1_3 wq3_1_3 (xq3_1_3 : List (Int))]) [1] [0,2,3,4,5] rfl ok200 rfl rfl rfl rfl (fun w hw=>spec_l1Cur_one.ok h30 w (hr_a0_0.down hw) (Sep.sub hw))) ?_
    rintro _ _ ⟨_,⟨rfl,rfl⟩,rfl⟩
    refine F.nil (Nrm.seq ?_)
    obtain ⟨⟨ypa0_1,ypa0_2,yb3_1_3r⟩,hE_4,h⟩:=bind_some h
    refine Tri.cut (fun e' C'=>∃ (vb3_1_3_2 : Value) (Sb3_1_3_2 : Nat → Prop),SlLen vb3_1_3_2 (yb3_1_3r).length∧e' = [(2,.pointer (some ⟨b2_1,0,none⟩)),(3,.pointer (some ⟨b3_1,0,none⟩))]∧C' = Sep w (footM [R.box pa0 114 [va0_0,.int .i64 a0_1,.int .u64 a0_2]]) [R.box pa0 114 [va0_0,.int .i64 ypa0_1,.int .u64 ypa0_2],R.box b3_1 65 [.int .i64 t6_1,v6_1,v6_2,vb3_1_3_2],R.box b2_1 65 [.int .i64 0,.slice none 0 0,.slice none 0 0,.slice none 0 0],R.sl Sb3_1_3_2 vb3_1_3_2 (yb3_1_3r : List (Int)),R.sl S6_1 v6_1 (t6_2 : List (Int × Int × Int)),R.sl S6_2 v6_2 (t6_3 : List (Int))]) ?_ (fun hj_3=>?_)
    ·rintro _ _ ⟨vb3_1_3_2,Sb3_1_3_2,hl_vb3_1_3_2,rfl,rfl⟩
     refine Nrm.seq (Tri.seq (Tri.reg (l:=[0,1]) rfl ?_))
     refine F.qn rfl (r_loadA ta65 ti65 rfl rfl (fun w hw=>(box_cells (i:=1) rfl w hw))) ?_
     refine F.ef0 rfl rfl (wanted_none rfl) (d_storeG0 (i:=2) (cs2:=[.int .i64 t6_1,v6_1,v6_2,vb3_1_3_2]) ti65 rfl rfl rfl rfl rfl (Nat.le_of_ble_eq_true rfl) (lf_cons rfl (lf_cons (sl_leaf hl_v6_1) (lf_cons (sl_leaf hl_v6_2) (lf_cons (sl_leaf hl_vb3_1_3_2) lf_nil))))) ?_
     rintro _ _ ⟨rfl,rfl⟩
     refine F.nil (Nrm.seq (Tri.ret ?_))
     cases h
     exact Rtn.body (.cell rfl ta65 ti65 rfl (fun _ hw=>box_cells (i:=2) rfl _ hw) .nil) (fun w hw=>⟨_,_,rfl,⟨v6_1,S6_1,v6_2,S6_2,vb3_1_3_2,Sb3_1_3_2,rfl,hl_v6_1,hl_v6_2,hl_vb3_1_3_2,rfl⟩,Sep.pick (is:=[4,5,3,0]) rfl rfl hw⟩)
    ·refine Tri.cond (b:=t30_1) rfl (fun g_3=>?_) (fun g_3=>?_)
     ·replace hE_4:=if_tt g_3 hE_4
      obtain ⟨⟨t39_1,t39_2,t39_3⟩,h39,hE_4⟩:=bind_some hE_4
      obtain ⟨hs41,hE_4⟩:=ck hE_4
      refine Tri.drawK (B:=Sep w (footM [R.box pa0 114 [va0_0,.int .i64 a0_1,.int .u64 a0_2]]) [R.box b3_1 65 [.int .i64 t6_1,v6_1,v6_2,wq3_1_3],R.box b2_1 65 [.int .i64 0,.slice none 0 0,.slice none 0 0,.slice none 0 0],R.sl S6_1 v6_1 (t6_2 : List (Int × Int × Int)),R.sl S6_2 v6_2 (t6_3 : List (Int)),R.sl Tq3_1_3 wq3_1_3 (xq3_1_3 : List (Int))]) mixedT Sep.up [(0,true),(1,true),(2,true),(3,true),(4,true),(5,true),(6,true),(7,false),(8,false),(9,false)] [10,11,12] (by kernel_rfl) ?_
      refine K.q [1,2,3,4,5] rfl rfl rfl rfl rfl (wanted_none rfl) (r_fieldAddr tf65_1 rfl) ?_
      refine K.q [1,2,3,4,5] rfl rfl rfl rfl rfl (wanted_none rfl) (r_load ta25 rfl (fun w hw=>cell_1 (box_cells (i:=0) rfl w hw) rfl)) ?_
      refine K.q [1,2,3,4,5] rfl rfl rfl rfl rfl (wanted_none rfl) (r_move rfl) ?_
      refine K.q [1,2,3,4,5] rfl rfl rfl rfl rfl (wanted_none rfl) (r_fieldAddr tf65_0 rfl) ?_
      refine K.q [1,2,3,4,5] rfl rfl rfl rfl rfl (wanted_none rfl) (r_fieldAddr tf27_1 rfl) ?_
      refine K.q [1,2,3,4,5] rfl rfl rfl rfl rfl (wanted_none rfl) (r_load ta24 rfl (fun w hw=>cell_2 (box_cells (i:=0) rfl w hw) rfl)) ?_
      refine K.q [1,2,3,4,5] rfl rfl rfl rfl rfl (wanted_none rfl) (r_len Tryz.underlying24 rfl hl_v6_1) ?_
      refine B.ef rfl rfl rfl (wanted_none rfl) (Makes.does (m_buildF (l:=([(-1),0,(t6_2.length : Int)] : List (Int))) Tryz.underlying25 ti3 rfl rfl rfl rfl rfl)) (by rintro v38_2 _ ⟨S38_2,hl_v38_2,rfl⟩; exact upd rfl [2,3,4,5,6] rfl rfl) ?_
      rintro v38_2 _ ⟨S38_2,hl_v38_2,rfl⟩
      refine B.ef rfl rfl rfl (wanted_none rfl) (d_callM (xs:=_) (cs:=[R.box pa0 114 [va0_0,.int .i64 t30_2,.int .u64 t30_3]]) (rest:=[R.sl S38_2 v38_2 (([(-1),0,(t6_2.length : Int)] : List (Int)) : List (Int)),R.box b3_1 65 [.int .i64 t6_1,v6_1,v6_2,wq3_1_3],R.box b2_1 65 [.int .i64 0,.slice none 0 0,.slice none 0 0,.slice none 0 0],R.sl S6_1 v6_1 (t6_2 : List (Int × Int × Int)),R.sl S6_2 v6_2 (t6_3 : List (Int)),R.sl Tq3_1_3 wq3_1_3 (xq3_1_3 : List (Int))]) [1] [0,2,3,4,5,6] rfl ok194 rfl rfl rfl rfl (fun w hw=>spec_l1Cur_among.ok h39 w (hr_a0_0.down hw) (rdm_sl (i:=0) rfl hw) (Sep.sub hw))) (by rintro _ _ ⟨_,⟨rfl,rfl⟩,rfl⟩; exact upd rfl [2,3,4,5,6] rfl rfl) ?_
      rintro _ _ ⟨_,⟨rfl,rfl⟩,rfl⟩
      refine B.ef rfl rfl rfl (wanted_none rfl) (Makes.does (m_buildF (l:=([t39_1] : List (Int))) Tryz.underlying25 ti3 rfl rfl rfl rfl rfl)) (by rintro v40_2 _ ⟨S40_2,hl_v40_2,rfl⟩; exact upd rfl [3,4,5,6,7] rfl rfl) ?_
      rintro v40_2 _ ⟨S40_2,hl_v40_2,rfl⟩
      refine B.nil ?_
      refine F.efn rfl (d_append (i:=7) Tryz.underlying25 Tryz.underlying25 ti3 rfl (by decide) rfl rfl rfl (rd_sl (i:=0) rfl) hs41) ?_
      rintro v41_2 _ ⟨S41_2,rfl,hl_v41_2⟩
      refine F.qn rfl (r_fieldAddr tf65_1 rfl) ?_
      refine F.ef0 rfl rfl (wanted_none rfl) (d_storeG1 (i:=3) (cs2:=[v41_2]) ti25 rfl rfl rfl (sl_cells hl_v41_2) rfl (Nat.le_of_ble_eq_true rfl) (lf_cons (sl_leaf hl_v41_2) lf_nil)) ?_
      rintro _ _ ⟨rfl,rfl⟩
      refine F.nil ?_
      cases hE_4
      refine Nrm.only [2,3] rfl ?_
      refine Nrm.pick [1,3,4,7,5,6] rfl rfl ?_
      exact hj_3 _ _ ⟨v41_2,S41_2,hl_v41_2,rfl,rfl⟩
     ·replace hE_4:=if_ff g_3 hE_4
      refine Tri.skip ?_
      cases hE_4
      refine Nrm.only [2,3] rfl ?_
      refine Nrm.pick [0,1,2,5,3,4] rfl rfl ?_
      exact hj_3 _ _ ⟨wq3_1_3,Tq3_1_3,hl_wq3_1_3,rfl,rfl⟩
  ·rcases Bool.eq_false_or_eq_true (decide (x4 < (t6_2.length : Int))) with g15 | g15
   ·replace hE_2:=if_tt g15 hE_2
    refine Tri.reg (l:=[0,1,2,3,4,5,6,7,8,9]) rfl ?_
    refine F.qn rfl (r_move rfl) (F.qn rfl (r_fieldAddr tf65_0 rfl) (F.qn rfl (r_fieldAddr tf27_1 rfl) (F.qn rfl (r_load ta24 rfl (fun w hw=>cell_2 (box_cells (i:=0) rfl w hw) rfl)) ?_)))
    refine F.qn rfl (r_len Tryz.underlying24 rfl hl_v6_1) (F.qn rfl (r_lss rfl rfl) (F.qn rfl (r_move rfl) (F.qg rfl g15 (r_move rfl) (F.qg rfl g15 (r_lss rfl rfl) (F.qn rfl (r_pick rfl rfl g15) (F.nil ?_))))))
    cases hE_2
    refine Nrm.only [0,2,3,4,18] rfl ?_
    refine Nrm.pick [0,1,2,4,5,3] rfl rfl ?_
    exact hj_1 _ _ ⟨rfl,rfl⟩
   ·replace hE_2:=if_ff g15 hE_2
    refine Tri.reg (l:=[0,1,2,3,4,5,6,7,8,9]) rfl ?_
    refine F.qn rfl (r_move rfl) (F.qn rfl (r_fieldAddr tf65_0 rfl) (F.qn rfl (r_fieldAddr tf27_1 rfl) (F.qn rfl (r_load ta24 rfl (fun w hw=>cell_2 (box_cells (i:=0) rfl w hw) rfl)) ?_)))
    refine F.qn rfl (r_len Tryz.underlying24 rfl hl_v6_1) (F.qn rfl (r_lss rfl rfl) (F.qn rfl (r_move rfl) (F.skf rfl g15 (F.skf rfl g15 (F.qn rfl (r_pickf rfl rfl g15) (F.nil ?_))))))
    cases hE_2
    refine Nrm.only [0,2,3,4,18] rfl ?_
    refine Nrm.pick [0,1,2,4,5,3] rfl rfl ?_
    exact hj_1 _ _ ⟨rfl,rfl⟩


def spec_DrawIsTrap.f (k : Nat) (a0 : List By) : Option (Int × (List (Int × Int × Int)) × (List Int) × (List Int)) := (spec_l1Cur_trap.f k a0 0 0).bind fun (t8_1, t8_2, t8_3, t8_4, t8_5, t8_6) => some (t8_1, t8_2, t8_3, t8_4)

theorem spec_DrawIsTrap.ok {k : Nat}  {a0 : List By} {r0 : Int} {r1 : List (Int × Int × Int)} {r2 : List Int} {r3 : List Int} (h : spec_DrawIsTrap.f k a0 = some (r0, r1, r2, r3)) (w : World) {va0 : Value} (hr_a0 : Rd w va0 a0) :
  Calls Tryz.prog 125 ([va0] : List Value).toArray w (Post (fun u ns=>∃ (ur1 : Value) (Sr1 : Nat → Prop) (ur2 : Value) (Sr2 : Nat → Prop) (ur3 : Value) (Sr3 : Nat → Prop),u = .agg [.int .i64 r0,ur1,ur2,ur3].toArray∧SlLen ur1 r1.length∧SlLen ur2 r2.length∧SlLen ur3 r3.length∧ns = [R.sl Sr1 ur1 r1,R.sl Sr2 ur2 r2,R.sl Sr3 ur3 r3]) w):=by
 unfold spec_DrawIsTrap.f at h
 have hl_va0:=hr_a0.len
 refine Calls.of_tri (N:=9) Tryz.func125 rfl rfl rfl (Sep.nil (M:=noM)) ?_
 refine Tri.seq (Tri.reg (l:=[0]) rfl ?_)
 refine F.mn rfl (m_alloc ti65) ?_
 rintro _ _ ⟨b2_1,rfl,rfl⟩
 refine F.nil (Nrm.seq (Tri.seq (Tri.reg (l:=[0,1,2,3]) rfl ?_)))
 refine F.qn rfl (r_move rfl) (F.qn rfl (r_build (pl:=[(0,1),(1,1),(2,1)]) (qs:=[(0,[va0])]) (cs:=[va0,.int .i64 0,.int .u64 0]) (by kernel_rfl) ti114 rfl (.cons (sl_cells hl_va0) rfl (Nat.le_of_ble_eq_true rfl) .nil) rfl rfl) ?_)
 refine F.mn rfl (m_boxG rfl rfl) ?_
 rintro _ _ ⟨b6_1,rfl,rfl⟩
 refine F.qn rfl (r_assign rfl) (F.nil (Nrm.seq (Tri.seq ?_)))
 obtain ⟨⟨t8_1,t8_2,t8_3,t8_4,t8_5,t8_6⟩,h8,h⟩:=bind_some h
 refine Tri.reg (l:=[0,1,2]) rfl ?_
 refine F.qn rfl (r_move rfl) ?_
 refine F.efn rfl (d_callM (xs:=_) (cs:=[R.box b6_1 114 [va0,.int .i64 0,.int .u64 0]]) (rest:=[R.box b2_1 65 [.int .i64 0,.slice none 0 0,.slice none 0 0,.slice none 0 0]]) [0] [1] rfl ok143 rfl rfl rfl rfl (fun w hw=>spec_l1Cur_trap.ok h8 w (hr_a0.down hw) (Sep.sub hw))) ?_
 rintro _ _ ⟨_,⟨v8_1,S8_1,v8_2,S8_2,v8_3,S8_3,rfl,hl_v8_1,hl_v8_2,hl_v8_3,rfl⟩,rfl⟩
 refine F.ef0 rfl rfl (wanted_none rfl) (d_storeG0 (i:=4) (cs2:=[.int .i64 t8_1,v8_1,v8_2,v8_3]) ti65 rfl rfl rfl rfl rfl (Nat.le_of_ble_eq_true rfl) (lf_cons rfl (lf_cons (sl_leaf hl_v8_1) (lf_cons (sl_leaf hl_v8_2) (lf_cons (sl_leaf hl_v8_3) lf_nil))))) ?_
 rintro _ _ ⟨rfl,rfl⟩
 refine F.nil (Nrm.seq (Tri.ret ?_))
 cases h
 exact Rtn.body (.cell rfl ta65 ti65 rfl (fun _ hw=>box_cells (i:=4) rfl _ hw) .nil) (fun w hw=>⟨_,_,rfl,⟨v8_1,S8_1,v8_2,S8_2,v8_3,S8_3,rfl,hl_v8_1,hl_v8_2,hl_v8_3,rfl⟩,Sep.pick (is:=[0,1,2]) rfl rfl hw⟩)


def spec_DrawFirstToLose.f (k : Nat) (a0 : List By) : Option (Int × (List (Int × Int × Int)) × (List Int) × (List Int)) := (spec_DrawIsTrap.f k a0).bind fun (t4_1, t4_2, t4_3, t4_4) => some (t4_1, t4_2, t4_3, t4_4)

theorem spec_DrawFirstToLose.ok {k : Nat}  {a0 : List By} {r0 : Int} {r1 : List (Int × Int × Int)} {r2 : List Int} {r3 : List Int} (h : spec_DrawFirstToLose.f k a0 = some (r0, r1, r2, r3)) (w : World) {va0 : Value} (hr_a0 : Rd w va0 a0) :
  Calls Tryz.prog 48 ([va0] : List Value).toArray w (Post (fun u ns=>∃ (ur1 : Value) (Sr1 : Nat → Prop) (ur2 : Value) (Sr2 : Nat → Prop) (ur3 : Value) (Sr3 : Nat → Prop),u = .agg [.int .i64 r0,ur1,ur2,ur3].toArray∧SlLen ur1 r1.length∧SlLen ur2 r2.length∧SlLen ur3 r3.length∧ns = [R.sl Sr1 ur1 r1,R.sl Sr2 ur2 r2,R.sl Sr3 ur3 r3]) w):=by
 unfold spec_DrawFirstToLose.f at h
 have hl_va0:=hr_a0.len
 refine Calls.of_tri (N:=5) Tryz.func48 rfl rfl rfl (Sep.nil (M:=noM)) ?_
 refine Tri.seq (Tri.reg (l:=[0]) rfl ?_)
 refine F.mn rfl (m_alloc ti65) ?_
 rintro _ _ ⟨b2_1,rfl,rfl⟩
 refine F.nil (Nrm.seq (Tri.seq ?_))
 obtain ⟨⟨t4_1,t4_2,t4_3,t4_4⟩,h4,h⟩:=bind_some h
 refine Tri.reg (l:=[0,1,2]) rfl ?_
 refine F.qn rfl (r_move rfl) ?_
 refine F.mn rfl (m_callF (xs:=_) rfl ok125 rfl rfl (fun w hw=>spec_DrawIsTrap.ok h4 w ((fun _ hw=>hr_a0.sep hw) w hw))) ?_
 rintro _ _ ⟨_,⟨v4_1,S4_1,v4_2,S4_2,v4_3,S4_3,rfl,hl_v4_1,hl_v4_2,hl_v4_3,rfl⟩,rfl⟩
 refine F.ef0 rfl rfl (wanted_none rfl) (d_storeG0 (i:=3) (cs2:=[.int .i64 t4_1,v4_1,v4_2,v4_3]) ti65 rfl rfl rfl rfl rfl (Nat.le_of_ble_eq_true rfl) (lf_cons rfl (lf_cons (sl_leaf hl_v4_1) (lf_cons (sl_leaf hl_v4_2) (lf_cons (sl_leaf hl_v4_3) lf_nil))))) ?_
 rintro _ _ ⟨rfl,rfl⟩
 refine F.nil (Nrm.seq (Tri.ret ?_))
 cases h
 exact Rtn.body (.cell rfl ta65 ti65 rfl (fun _ hw=>box_cells (i:=3) rfl _ hw) .nil) (fun w hw=>⟨_,_,rfl,⟨v4_1,S4_1,v4_2,S4_2,v4_3,S4_3,rfl,hl_v4_1,hl_v4_2,hl_v4_3,rfl⟩,Sep.pick (is:=[0,1,2]) rfl rfl hw⟩)


def impl_within.f (k : Nat) (a0 : Int) (a1 : Int) (a2 : Int) : Option (Bool) := ((if (decide (a1 ≤ a0)) = true then some (decide (a0 ≤ a2)) else some false)).bind fun y6 => some y6

theorem impl_within.ok {k : Nat}  {a0 : Int} {a1 : Int} {a2 : Int} {r0 : Bool} (h : impl_within.f k a0 a1 a2 = some r0) (w : World) :
  Calls Tryz.prog 103 ([.int .i64 a0,.int .i64 a1,.int .i64 a2] : List Value).toArray w (fun e w'=>e = .returned (.bool r0)∧Ext w w'):=by
 unfold impl_within.f at h
 refine Calls.of_tri (N:=15) Tryz.func103 rfl rfl rfl (Sep.nil (M:=noM)) ?_
 refine Tri.seq (Tri.reg (l:=[0]) rfl ?_)
 refine F.qn rfl (r_assign rfl) (F.nil (Nrm.seq (Tri.seq ?_)))
 obtain ⟨y6,hE_1,h⟩:=bind_some h
 refine Tri.cut (fun e' C'=>e' = [(6,.bool y6)]∧C' = Sep w noM []) ?_ (fun hj_1=>?_)
 ·rintro _ _ ⟨rfl,rfl⟩
  refine Nrm.seq (Tri.ret ?_)
  cases h
  exact Rtn.body (.tmp rfl .nil) (fun w hw=>⟨rfl,hw.ext⟩)
 ·rcases Bool.eq_false_or_eq_true (decide (a1 ≤ a0)) with g10 | g10
  ·replace hE_1:=if_tt g10 hE_1
   refine Tri.reg (l:=[0,1,2,3,4,5,6,7,8]) rfl ?_
   refine F.qn rfl (r_move rfl) (F.qn rfl (r_move rfl) (F.qn rfl (r_leq rfl rfl) ?_))
   refine F.qn rfl (r_move rfl) (F.qg rfl g10 (r_move rfl) (F.qg rfl g10 (r_move rfl) (F.qg rfl g10 (r_leq rfl rfl) (F.qn rfl (r_pick rfl rfl g10) (F.qn rfl (r_assign rfl) (F.nil ?_))))))
   cases hE_1
   refine Nrm.only [6] rfl ?_
   refine Nrm.pick [] rfl rfl ?_
   exact hj_1 _ _ ⟨rfl,rfl⟩
  ·replace hE_1:=if_ff g10 hE_1
   refine Tri.reg (l:=[0,1,2,3,4,5,6,7,8]) rfl ?_
   refine F.qn rfl (r_move rfl) (F.qn rfl (r_move rfl) (F.qn rfl (r_leq rfl rfl) (F.qn rfl (r_move rfl) ?_)))
   iterate 3 refine F.skf rfl g10 ?_
   refine F.qn rfl (r_pickf rfl rfl g10) (F.qn rfl (r_assign rfl) (F.nil ?_))
   cases hE_1
   refine Nrm.only [6] rfl ?_
   refine Nrm.pick [] rfl rfl ?_
   exact hj_1 _ _ ⟨rfl,rfl⟩


def impl_isSet.f (k : Nat) (a0 : Int) : Option (Bool) := (impl_within.f k a0 0 63).bind fun t4 => some t4

theorem impl_isSet.ok {k : Nat}  {a0 : Int} {r0 : Bool} (h : impl_isSet.f k a0 = some r0) (w : World) :
  Calls Tryz.prog 177 ([.int .i64 a0] : List Value).toArray w (fun e w'=>e = .returned (.bool r0)∧Ext w w'):=by
 unfold impl_isSet.f at h
 refine Calls.of_tri (N:=5) Tryz.func177 rfl rfl rfl (Sep.nil (M:=noM)) ?_
 refine Tri.seq (Tri.reg (l:=[0]) rfl ?_)
 refine F.qn rfl (r_assign rfl) (F.nil (Nrm.seq (Tri.seq ?_)))
 obtain ⟨t4,h4,h⟩:=bind_some h
 refine Tri.reg (l:=[0,1,2]) rfl ?_
 refine F.qn rfl (r_move rfl) ?_
 refine F.qcn rfl (q_callF (xs:=_) rfl ok103 rfl rfl (fun w hw=>impl_within.ok h4 w)) ?_
 refine F.qn rfl (r_assign rfl) (F.nil (Nrm.seq (Tri.ret ?_)))
 cases h
 exact Rtn.body (.tmp rfl .nil) (fun w hw=>⟨rfl,hw.ext⟩)


def slices_IndexFunc_int_int.l0 (k : Nat) (a0 : List Int) (a1 : (Int → Option (Bool))) : Nat → Int → Option ((Unit) ⊕ (Int))
 | 0,_=>none
 | n + 1,x8=>(if (decide (x8 < (a0.length : Int))) = true then (rdl a0 x8).bind fun t14=>(a1 t14).bind fun t16=>(if t16 = true then some (Sum.inr x8) else slices_IndexFunc_int_int.l0 k a0 a1 n (w64 (x8 + 1))) else some (Sum.inl ()))

def slices_IndexFunc_int_int.f (k : Nat) (a0 : List Int) (a1 : (Int → Option (Bool))) : Option (Int) := (slices_IndexFunc_int_int.l0 k a0 a1 k 0).bind fun s => Lr s some fun _ => some (-1)

theorem slices_IndexFunc_int_int.ok {k : Nat}  {a0 : List Int} {a1 : (Int → Option (Bool))} {r0 : Int} (h : slices_IndexFunc_int_int.f k a0 a1 = some r0) (w : World) {va0 : Value} (hr_a0 : Rd w va0 a0) {fi_a1 : FuncId} {ca_a1 : Array Value} (ho_a1 : CallOk Tryz.prog fi_a1) (hf_a1 : ∀ w2, Ext w w2 → ∀ (z0 : Int) (y : Bool), a1 z0 = some y → Calls Tryz.prog fi_a1 (([.int .i64 z0] : List Value) ++ ca_a1.toList).toArray w2 (fun e w3 => e = .returned (.bool y) ∧ Ext w2 w3)) :
  Calls Tryz.prog 231 ([va0,.func (.func fi_a1) #[] ca_a1] : List Value).toArray w (fun e w'=>e = .returned (.int .i64 r0)∧Ext w w'):=by
 unfold slices_IndexFunc_int_int.f at h
 have hl_va0:=hr_a0.len
 refine Calls.of_tri (N:=19) Tryz.func231 rfl rfl rfl (Sep.nil (M:=noM)) ?_
 refine Tri.seq (Tri.reg (l:=[0]) rfl ?_)
 refine F.qn rfl (r_assign rfl) (F.nil (Nrm.seq (Tri.seq (Tri.seq (Tri.reg (l:=[0,1,2]) rfl ?_)))))
 refine F.qn rfl (r_move rfl) (F.qn rfl (r_len Tryz.underlying25 rfl hl_va0) (F.qn rfl (r_move rfl) (F.nil (Nrm.seq ?_))))
 obtain ⟨s0,hE_1,h⟩:=bind_some h
 refine Tri.block ?_
 refine Tri.only [0,1,7,8] rfl ?_
 refine Tri.pick [] rfl rfl ?_
 refine Tri.rounds (fun n e' C'=>∃ (x8' : Int),slices_IndexFunc_int_int.l0 k a0 a1 n x8' = some s0∧e' = [(0,va0),(1,.func (.func fi_a1) #[] ca_a1),(7,.int .i64 (a0.length : Int)),(8,.int .i64 x8')]∧C' = Sep w noM []) k ?_ ?_ ?_
 ·exact ⟨0,hE_1,rfl,rfl⟩
 ·rintro _ _ ⟨_,hE_1,_⟩
  rw [slices_IndexFunc_int_int.l0.eq_1] at hE_1; cases hE_1
 ·rintro n_1 _ _ ⟨x8,hE_1,rfl,rfl⟩ ih_1
  rw [slices_IndexFunc_int_int.l0.eq_2] at hE_1
  refine Tri.seq (Tri.reg (l:=[0]) rfl ?_)
  refine F.qn rfl (r_lss rfl rfl) (F.nil (Nrm.seq (Tri.seq (Tri.cond (b:=decide (x8 < (a0.length : Int))) rfl (fun g_1=>?_) (fun g_1=>?_)))))
  ·replace hE_1:=if_tt g_1 hE_1
   refine Tri.skip (Nrm.seq (Tri.seq (Tri.block ?_)))
   refine Tri.seq (Tri.reg (l:=[0,1]) rfl ?_)
   refine F.qn rfl (r_move rfl) (F.qn rfl (r_assign rfl) (F.nil (Nrm.seq (Tri.seq ?_))))
   obtain ⟨t14,h14,hE_1⟩:=bind_some hE_1
   obtain ⟨t16,h16,hE_1⟩:=bind_some hE_1
   refine Tri.reg (l:=[0,1,2,3,4,5]) rfl ?_
   iterate 3 refine F.qn rfl (r_move rfl) ?_
   refine F.qn rfl (r_indexAddrS Tryz.underlying25 ti3 rfl hl_va0 rfl (rdl_some h14).1 (rdl_some h14).2.1) (F.qn rfl (r_load ta3 rfl (fun w hw=>cell_0 (Rd.flat ((fun _ hw=>hr_a0.sep hw) w hw) (rdl_some h14).2.2) rfl)) ?_)
   refine F.qcn rfl (q_callC (xs:=_) rfl ho_a1 rfl rfl (fun w hw=>hf_a1 w hw.ext _  _ h16)) ?_
   refine F.nil (Nrm.seq (Tri.cond (b:=t16) rfl (fun g_2=>?_) (fun g_2=>?_)))
   ·replace hE_1:=if_tt g_2 hE_1
    refine Tri.seq (Tri.reg (l:=[0,1]) rfl ?_)
    refine F.qn rfl (r_move rfl) (F.qn rfl (r_assign rfl) (F.nil (Nrm.seq (Tri.ret ?_))))
    refine Rtn.block ?_
    refine Rtn.then ?_
    refine Rtn.then ?_
    refine Rtn.block ?_
    refine Rtn.then ?_
    cases hE_1
    replace h:=Lr_inr h
    cases h
    exact Rtn.body (.tmp rfl .nil) (fun w hw=>⟨rfl,hw.ext⟩)
   ·replace hE_1:=if_ff g_2 hE_1
    refine Tri.skip (Nrm.block ?_)
    refine Nrm.seq (Tri.reg (l:=[0,1]) rfl ?_)
    refine F.qn rfl (r_add rfl rfl) (F.qn rfl (r_move rfl) (F.nil (Nrm.round ?_)))
    refine Rnd.only [0,1,7,8] rfl ?_
    refine Rnd.pick [] rfl rfl ?_
    exact ih_1 _ _ ⟨w64 (x8 + 1),hE_1,rfl,rfl⟩
  ·replace hE_1:=if_ff g_1 hE_1
   refine Tri.exit ?_
   refine Exi.then ?_
   refine Exi.then ?_
   refine Exi.same ?_
   cases hE_1
   replace h:=Lr_inl h
   refine Nrm.seq (Tri.seq (Tri.reg (l:=[0]) rfl ?_))
   refine F.qn rfl (r_assign rfl) (F.nil (Nrm.seq (Tri.ret ?_)))
   cases h
   exact Rtn.body (.tmp rfl .nil) (fun w hw=>⟨rfl,hw.ext⟩)


def slices_ContainsFunc_int_int.f (k : Nat) (a0 : List Int) (a1 : (Int → Option (Bool))) : Option (Bool) := (slices_IndexFunc_int_int.f k a0 a1).bind fun t7 => some (decide (t7 ≥ 0))

theorem slices_ContainsFunc_int_int.ok {k : Nat}  {a0 : List Int} {a1 : (Int → Option (Bool))} {r0 : Bool} (h : slices_ContainsFunc_int_int.f k a0 a1 = some r0) (w : World) {va0 : Value} (hr_a0 : Rd w va0 a0) {fi_a1 : FuncId} {ca_a1 : Array Value} (ho_a1 : CallOk Tryz.prog fi_a1) (hf_a1 : ∀ w2, Ext w w2 → ∀ (z0 : Int) (y : Bool), a1 z0 = some y → Calls Tryz.prog fi_a1 (([.int .i64 z0] : List Value) ++ ca_a1.toList).toArray w2 (fun e w3 => e = .returned (.bool y) ∧ Ext w2 w3)) :
  Calls Tryz.prog 179 ([va0,.func (.func fi_a1) #[] ca_a1] : List Value).toArray w (fun e w'=>e = .returned (.bool r0)∧Ext w w'):=by
 unfold slices_ContainsFunc_int_int.f at h
 have hl_va0:=hr_a0.len
 refine Calls.of_tri (N:=9) Tryz.func179 rfl rfl rfl (Sep.nil (M:=noM)) ?_
 refine Tri.seq (Tri.reg (l:=[0]) rfl ?_)
 refine F.qn rfl (r_assign rfl) (F.nil (Nrm.seq (Tri.seq ?_)))
 obtain ⟨t7,h7,h⟩:=bind_some h
 refine Tri.reg (l:=[0,1,2,3,4]) rfl ?_
 refine F.qn rfl (r_move rfl) (F.qn rfl (r_move rfl) ?_)
 refine F.qcn rfl (q_callF (xs:=_) rfl ok231 rfl rfl (fun w hw=>slices_IndexFunc_int_int.ok h7 w ((fun _ hw=>hr_a0.sep hw) w hw) ho_a1 (fun w2 he2=>hf_a1 w2 (hw.ext.trans he2)))) ?_
 refine F.qn rfl (r_geq rfl rfl) (F.qn rfl (r_assign rfl) (F.nil (Nrm.seq (Tri.ret ?_))))
 cases h
 exact Rtn.body (.tmp rfl .nil) (fun w hw=>⟨rfl,hw.ext⟩)


def cmp_Or_int.l0 (k : Nat) (a0 : List Int) : Nat → Int → Option ((Unit) ⊕ (Int))
 | 0,_=>none
 | n + 1,x8=>(if (decide (x8 < (a0.length : Int))) = true then (rdl a0 x8).bind fun t10=>(if (t10 != 0) = true then some (Sum.inr t10) else cmp_Or_int.l0 k a0 n (w64 (x8 + 1))) else some (Sum.inl ()))

def cmp_Or_int.f (k : Nat) (a0 : List Int) : Option (Int) := (cmp_Or_int.l0 k a0 k 0).bind fun s => Lr s some fun _ => some 0

theorem cmp_Or_int.ok {k : Nat}  {a0 : List Int} {r0 : Int} (h : cmp_Or_int.f k a0 = some r0) (w : World) {va0 : Value} (hr_a0 : Rd w va0 a0) :
  Calls Tryz.prog 233 ([va0] : List Value).toArray w (fun e w'=>e = .returned (.int .i64 r0)∧Ext w w'):=by
 unfold cmp_Or_int.f at h
 have hl_va0:=hr_a0.len
 refine Calls.of_tri (N:=18) Tryz.func233 rfl rfl rfl (Sep.nil (M:=noM)) ?_
 refine Tri.seq (Tri.reg (l:=[0]) rfl ?_)
 refine F.qn rfl (r_assign rfl) (F.nil (Nrm.seq (Tri.seq (Tri.reg (l:=[0]) rfl ?_))))
 refine F.qn rfl (r_assign rfl) (F.nil (Nrm.seq (Tri.seq (Tri.seq (Tri.reg (l:=[0,1,2]) rfl ?_)))))
 refine F.qn rfl (r_move rfl) (F.qn rfl (r_len Tryz.underlying25 rfl hl_va0) (F.qn rfl (r_move rfl) (F.nil (Nrm.seq ?_))))
 obtain ⟨s0,hE_1,h⟩:=bind_some h
 refine Tri.block ?_
 refine Tri.only [3,6,7,8] rfl ?_
 refine Tri.pick [] rfl rfl ?_
 refine Tri.rounds (fun n e' C'=>∃ (x8' : Int),cmp_Or_int.l0 k a0 n x8' = some s0∧e' = [(3,.int .i64 0),(6,va0),(7,.int .i64 (a0.length : Int)),(8,.int .i64 x8')]∧C' = Sep w noM []) k ?_ ?_ ?_
 ·exact ⟨0,hE_1,rfl,rfl⟩
 ·rintro _ _ ⟨_,hE_1,_⟩
  rw [cmp_Or_int.l0.eq_1] at hE_1; cases hE_1
 ·rintro n_1 _ _ ⟨x8,hE_1,rfl,rfl⟩ ih_1
  rw [cmp_Or_int.l0.eq_2] at hE_1
  refine Tri.seq (Tri.reg (l:=[0]) rfl ?_)
  refine F.qn rfl (r_lss rfl rfl) (F.nil (Nrm.seq (Tri.seq (Tri.cond (b:=decide (x8 < (a0.length : Int))) rfl (fun g_1=>?_) (fun g_1=>?_)))))
  ·replace hE_1:=if_tt g_1 hE_1
   refine Tri.skip (Nrm.seq (Tri.seq (Tri.block ?_)))
   refine Tri.seq ?_
   obtain ⟨t10,h10,hE_1⟩:=bind_some hE_1
   refine Tri.reg (l:=[0,1,2]) rfl ?_
   refine F.qn rfl (r_indexAddrS Tryz.underlying25 ti3 rfl hl_va0 rfl (rdl_some h10).1 (rdl_some h10).2.1) (F.qn rfl (r_load ta3 rfl (fun w hw=>cell_0 (Rd.flat ((fun _ hw=>hr_a0.sep hw) w hw) (rdl_some h10).2.2) rfl)) (F.qn rfl (r_assign rfl) (F.nil (Nrm.seq (Tri.seq (Tri.reg (l:=[0,1,2]) rfl ?_))))))
   refine F.qn rfl (r_move rfl) (F.qn rfl (r_move rfl) (F.qn rfl (r_neq rfl rfl) (F.nil (Nrm.seq (Tri.cond (b:=t10 != 0) rfl (fun g_2=>?_) (fun g_2=>?_))))))
   ·replace hE_1:=if_tt g_2 hE_1
    refine Tri.seq (Tri.reg (l:=[0,1]) rfl ?_)
    refine F.qn rfl (r_move rfl) (F.qn rfl (r_assign rfl) (F.nil (Nrm.seq (Tri.ret ?_))))
    refine Rtn.block ?_
    refine Rtn.then ?_
    refine Rtn.then ?_
    refine Rtn.block ?_
    refine Rtn.then ?_
    cases hE_1
    replace h:=Lr_inr h
    cases h
    exact Rtn.body (.tmp rfl .nil) (fun w hw=>⟨rfl,hw.ext⟩)
   ·replace hE_1:=if_ff g_2 hE_1
    refine Tri.skip (Nrm.block ?_)
    refine Nrm.seq (Tri.reg (l:=[0,1]) rfl ?_)
    refine F.qn rfl (r_add rfl rfl) (F.qn rfl (r_move rfl) (F.nil (Nrm.round ?_)))
    refine Rnd.only [3,6,7,8] rfl ?_
    refine Rnd.pick [] rfl rfl ?_
    exact ih_1 _ _ ⟨w64 (x8 + 1),hE_1,rfl,rfl⟩
  ·replace hE_1:=if_ff g_1 hE_1
   refine Tri.exit ?_
   refine Exi.then ?_
   refine Exi.then ?_
   refine Exi.same ?_
   cases hE_1
   replace h:=Lr_inl h
   refine Nrm.seq (Tri.seq (Tri.reg (l:=[0,1]) rfl ?_))
   refine F.qn rfl (r_move rfl) (F.qn rfl (r_assign rfl) (F.nil (Nrm.seq (Tri.ret ?_))))
   cases h
   exact Rtn.body (.tmp rfl .nil) (fun w hw=>⟨rfl,hw.ext⟩)


def cmp_isNaN_int.f (k : Nat) (a0 : Int) : Option (Bool) := some (a0 != a0)

theorem cmp_isNaN_int.ok {k : Nat}  {a0 : Int} {r0 : Bool} (h : cmp_isNaN_int.f k a0 = some r0) (w : World) :
  Calls Tryz.prog 245 ([.int .i64 a0] : List Value).toArray w (fun e w'=>e = .returned (.bool r0)∧Ext w w'):=by
 unfold cmp_isNaN_int.f at h
 refine Calls.of_tri (N:=6) Tryz.func245 rfl rfl rfl (Sep.nil (M:=noM)) ?_
 refine Tri.seq (Tri.reg (l:=[0]) rfl ?_)
 refine F.qn rfl (r_assign rfl) (F.nil (Nrm.seq (Tri.seq (Tri.reg (l:=[0,1,2,3]) rfl ?_))))
 refine F.qn rfl (r_move rfl) (F.qn rfl (r_move rfl) (F.qn rfl (r_neq rfl rfl) (F.qn rfl (r_assign rfl) (F.nil (Nrm.seq (Tri.ret ?_))))))
 cases h
 exact Rtn.body (.tmp rfl .nil) (fun w hw=>⟨rfl,hw.ext⟩)


def cmp_Compare_int.f (k : Nat) (a0 : Int) (a1 : Int) : Option (Int) := (cmp_isNaN_int.f k a0).bind fun t8 => (cmp_isNaN_int.f k a1).bind fun t10 => (if t8 = true then (if t10 = true then some 0 else some (-1)) else (if t10 = true then some 1 else (if (decide (a0 < a1)) = true then some (-1) else (if (decide (a0 > a1)) = true then some 1 else some 0))))

theorem cmp_Compare_int.ok {k : Nat}  {a0 : Int} {a1 : Int} {r0 : Int} (h : cmp_Compare_int.f k a0 a1 = some r0) (w : World) :
  Calls Tryz.prog 234 ([.int .i64 a0,.int .i64 a1] : List Value).toArray w (fun e w'=>e = .returned (.int .i64 r0)∧Ext w w'):=by
 unfold cmp_Compare_int.f at h
 refine Calls.of_tri (N:=20) Tryz.func234 rfl rfl rfl (Sep.nil (M:=noM)) ?_
 refine Tri.seq (Tri.reg (l:=[0]) rfl ?_)
 refine F.qn rfl (r_assign rfl) (F.nil (Nrm.seq (Tri.seq ?_)))
 obtain ⟨t8,h8,h⟩:=bind_some h
 refine Tri.reg (l:=[0,1,2]) rfl ?_
 refine F.qn rfl (r_move rfl) ?_
 refine F.qcn rfl (q_callF (xs:=_) rfl ok245 rfl rfl (fun w hw=>cmp_isNaN_int.ok h8 w)) ?_
 refine F.qn rfl (r_assign rfl) (F.nil (Nrm.seq (Tri.seq ?_)))
 obtain ⟨t10,h10,h⟩:=bind_some h
 refine Tri.reg (l:=[0,1,2]) rfl ?_
 refine F.qn rfl (r_move rfl) ?_
 refine F.qcn rfl (q_callF (xs:=_) rfl ok245 rfl rfl (fun w hw=>cmp_isNaN_int.ok h10 w)) ?_
 refine F.qn rfl (r_assign rfl) (F.nil (Nrm.seq (Tri.seq (Tri.seq (Tri.reg (l:=[0]) rfl ?_)))))
 refine F.qn rfl (r_move rfl) (F.nil (Nrm.seq (Tri.cond (b:=t8) rfl (fun g_1=>?_) (fun g_1=>?_))))
 ·replace h:=if_tt g_1 h
  refine Tri.seq (Tri.seq (Tri.reg (l:=[0]) rfl ?_))
  refine F.qn rfl (r_move rfl) (F.nil (Nrm.seq (Tri.cond (b:=t10) rfl (fun g_2=>?_) (fun g_2=>?_))))
  ·replace h:=if_tt g_2 h
   refine Tri.seq (Tri.reg (l:=[0]) rfl ?_)
   refine F.qn rfl (r_assign rfl) (F.nil (Nrm.seq (Tri.ret ?_)))
   refine Rtn.then ?_
   refine Rtn.then ?_
   cases h
   exact Rtn.body (.tmp rfl .nil) (fun w hw=>⟨rfl,hw.ext⟩)
  ·replace h:=if_ff g_2 h
   refine Tri.skip (Nrm.seq (Tri.seq (Tri.reg (l:=[0]) rfl ?_)))
   refine F.qn rfl (r_assign rfl) (F.nil (Nrm.seq (Tri.ret ?_)))
   refine Rtn.then ?_
   cases h
   exact Rtn.body (.tmp rfl .nil) (fun w hw=>⟨rfl,hw.ext⟩)
 ·replace h:=if_ff g_1 h
  refine Tri.skip (Nrm.seq (Tri.seq (Tri.seq (Tri.reg (l:=[0]) rfl ?_))))
  refine F.qn rfl (r_move rfl) (F.nil (Nrm.seq (Tri.cond (b:=t10) rfl (fun g_3=>?_) (fun g_3=>?_))))
  ·replace h:=if_tt g_3 h
   refine Tri.seq (Tri.reg (l:=[0]) rfl ?_)
   refine F.qn rfl (r_assign rfl) (F.nil (Nrm.seq (Tri.ret ?_)))
   refine Rtn.then ?_
   cases h
   exact Rtn.body (.tmp rfl .nil) (fun w hw=>⟨rfl,hw.ext⟩)
  ·replace h:=if_ff g_3 h
   refine Tri.skip (Nrm.seq (Tri.seq (Tri.seq (Tri.reg (l:=[0,1,2]) rfl ?_))))
   refine F.qn rfl (r_move rfl) (F.qn rfl (r_move rfl) (F.qn rfl (r_lss rfl rfl) (F.nil (Nrm.seq (Tri.cond (b:=decide (a0 < a1)) rfl (fun g_4=>?_) (fun g_4=>?_))))))
   ·replace h:=if_tt g_4 h
    refine Tri.seq (Tri.reg (l:=[0]) rfl ?_)
    refine F.qn rfl (r_assign rfl) (F.nil (Nrm.seq (Tri.ret ?_)))
    refine Rtn.then ?_
    cases h
    exact Rtn.body (.tmp rfl .nil) (fun w hw=>⟨rfl,hw.ext⟩)
   ·replace h:=if_ff g_4 h
    refine Tri.skip (Nrm.seq (Tri.seq (Tri.seq (Tri.reg (l:=[0,1,2]) rfl ?_))))
    refine F.qn rfl (r_move rfl) (F.qn rfl (r_move rfl) (F.qn rfl (r_gtr rfl rfl) (F.nil (Nrm.seq (Tri.cond (b:=decide (a0 > a1)) rfl (fun g_5=>?_) (fun g_5=>?_))))))
    ·replace h:=if_tt g_5 h
     refine Tri.seq (Tri.reg (l:=[0]) rfl ?_)
     refine F.qn rfl (r_assign rfl) (F.nil (Nrm.seq (Tri.ret ?_)))
     refine Rtn.then ?_
     cases h
     exact Rtn.body (.tmp rfl .nil) (fun w hw=>⟨rfl,hw.ext⟩)
    ·replace h:=if_ff g_5 h
     refine Tri.skip (Nrm.seq (Tri.seq (Tri.reg (l:=[0]) rfl ?_)))
     refine F.qn rfl (r_assign rfl) (F.nil (Nrm.seq (Tri.ret ?_)))
     cases h
     exact Rtn.body (.tmp rfl .nil) (fun w hw=>⟨rfl,hw.ext⟩)


def impl_compareDoors.f (k : Nat) (a0_0 : Int) (a0_1 : Int) (a0_2 : Int) (a1_0 : Int) (a1_1 : Int) (a1_2 : Int) : Option (Int) := (cmp_Compare_int.f k a0_0 a1_0).bind fun t9 => (cmp_Compare_int.f k a0_1 a1_1).bind fun t14 => (cmp_Compare_int.f k a0_2 a1_2).bind fun t19 => (cmp_Or_int.f k ([t9, t14, t19] : List (Int))).bind fun t21 => some t21

theorem impl_compareDoors.ok {k : Nat}  {a0_0 : Int} {a0_1 : Int} {a0_2 : Int} {a1_0 : Int} {a1_1 : Int} {a1_2 : Int} {r0 : Int} (h : impl_compareDoors.f k a0_0 a0_1 a0_2 a1_0 a1_1 a1_2 = some r0) (w : World) :
  Calls Tryz.prog 184 ([.agg ([.int .i64 a0_0,.int .i64 a0_1,.int .i64 a0_2].toArray),.agg ([.int .i64 a1_0,.int .i64 a1_1,.int .i64 a1_2].toArray)] : List Value).toArray w (fun e w'=>e = .returned (.int .i64 r0)∧Ext w w'):=by
 unfold impl_compareDoors.f at h
 refine Calls.of_tri (N:=22) Tryz.func184 rfl rfl rfl (Sep.nil (M:=noM)) ?_
 refine Tri.seq (Tri.reg (l:=[0,1,2]) rfl ?_)
 refine F.mn rfl (m_boxG rfl rfl) ?_
 rintro _ _ ⟨b2_1,rfl,rfl⟩
 refine F.mn rfl (m_boxG rfl rfl) ?_
 rintro _ _ ⟨b3_1,rfl,rfl⟩
 refine F.qn rfl (r_assign rfl) (F.nil (Nrm.seq (Tri.seq ?_)))
 obtain ⟨t9,h9,h⟩:=bind_some h
 obtain ⟨t14,h14,h⟩:=bind_some h
 obtain ⟨t19,h19,h⟩:=bind_some h
 obtain ⟨t21,h21,h⟩:=bind_some h
 refine Tri.drawA mixedT Sep.up [(0,true),(1,true),(2,true),(3,true),(4,true),(5,true),(6,true),(7,true),(8,true),(9,true),(10,true),(11,true),(12,true),(13,true),(14,true),(15,false),(16,true),(17,true)] [] (by kernel_rfl) ?_
 refine S.qn rfl (r_indexAddrA Tryz.underlying168 ti3 rfl rfl (by decide) (by decide)) (S.qn rfl (r_load ta3 rfl (fun w hw=>cell_1 (box_cells (i:=1) rfl w hw) rfl)) (S.qn rfl (r_indexAddrA Tryz.underlying168 ti3 rfl rfl (by decide) (by decide)) (S.qn rfl (r_load ta3 rfl (fun w hw=>cell_1 (box_cells (i:=0) rfl w hw) rfl)) ?_)))
 refine S.qcn rfl (q_callF (xs:=_) rfl ok234 rfl rfl (fun w hw=>cmp_Compare_int.ok h9 w)) ?_
 refine S.qn rfl (r_indexAddrA Tryz.underlying168 ti3 rfl rfl (by decide) (by decide)) (S.qn rfl (r_load ta3 rfl (fun w hw=>cell_1 (box_cells (i:=1) rfl w hw) rfl)) (S.qn rfl (r_indexAddrA Tryz.underlying168 ti3 rfl rfl (by decide) (by decide)) (S.qn rfl (r_load ta3 rfl (fun w hw=>cell_1 (box_cells (i:=0) rfl w hw) rfl)) ?_)))
 refine S.qcn rfl (q_callF (xs:=_) rfl ok234 rfl rfl (fun w hw=>cmp_Compare_int.ok h14 w)) ?_
 refine S.qn rfl (r_indexAddrA Tryz.underlying168 ti3 rfl rfl (by decide) (by decide)) (S.qn rfl (r_load ta3 rfl (fun w hw=>cell_1 (box_cells (i:=1) rfl w hw) rfl)) (S.qn rfl (r_indexAddrA Tryz.underlying168 ti3 rfl rfl (by decide) (by decide)) (S.qn rfl (r_load ta3 rfl (fun w hw=>cell_1 (box_cells (i:=0) rfl w hw) rfl)) ?_)))
 refine S.qcn rfl (q_callF (xs:=_) rfl ok234 rfl rfl (fun w hw=>cmp_Compare_int.ok h19 w)) ?_
 refine S.m rfl rfl rfl (wanted_none rfl) (m_buildF (l:=([t9,t14,t19] : List (Int))) Tryz.underlying25 ti3 rfl rfl rfl rfl rfl) ?_
 rintro v20_2 _ ⟨S20_2,hl_v20_2,rfl⟩
 refine S.qcn rfl (q_callF (xs:=_) rfl ok233 rfl rfl (fun w hw=>cmp_Or_int.ok h21 w ((rd_sl (i:=0) rfl) w hw))) ?_
 refine S.qn rfl (r_assign rfl) (S.nil (F.nil (Nrm.seq (Tri.ret ?_))))
 cases h
 exact Rtn.body (.tmp rfl .nil) (fun w hw=>⟨rfl,hw.ext⟩)


def impl_IsMaze_1.f (k : Nat) (a0 : Int) : Option (Bool) := (impl_isSet.f k a0).bind fun t4 => some (!t4)

theorem impl_IsMaze_1.ok {k : Nat}  {a0 : Int} {r0 : Bool} (h : impl_IsMaze_1.f k a0 = some r0) (w : World) :
  Calls Tryz.prog 185 ([.int .i64 a0] : List Value).toArray w (fun e w'=>e = .returned (.bool r0)∧Ext w w'):=by
 unfold impl_IsMaze_1.f at h
 refine Calls.of_tri (N:=6) Tryz.func185 rfl rfl rfl (Sep.nil (M:=noM)) ?_
 refine Tri.seq (Tri.reg (l:=[0]) rfl ?_)
 refine F.qn rfl (r_assign rfl) (F.nil (Nrm.seq (Tri.seq ?_)))
 obtain ⟨t4,h4,h⟩:=bind_some h
 refine Tri.reg (l:=[0,1,2,3]) rfl ?_
 refine F.qn rfl (r_move rfl) ?_
 refine F.qcn rfl (q_callF (xs:=_) rfl ok177 rfl rfl (fun w hw=>impl_isSet.ok h4 w)) ?_
 refine F.qn rfl (r_not rfl) (F.qn rfl (r_assign rfl) (F.nil (Nrm.seq (Tri.ret ?_))))
 cases h
 exact Rtn.body (.tmp rfl .nil) (fun w hw=>⟨rfl,hw.ext⟩)


def impl_IsMaze.l0 (k : Nat) (a0_0 : Int) (a0_1 : List (Int × Int × Int)) : Nat → Int → Option ((Unit) ⊕ (Bool))
 | 0,_=>none
 | n + 1,x26=>(if (decide (x26 < (a0_1.length : Int))) = true then (rdl a0_1 x26).bind fun t29=>((if (decide (t29.1 < 0)) = true then some true else (if (decide (t29.1 ≥ t29.2.1)) = true then some true else (if (decide (t29.2.1 ≥ a0_0)) = true then some true else (impl_isSet.f k t29.2.2).bind fun t51=>(if (!t51) = true then some true else (if (decide (x26 > 0)) = true then (rdl a0_1 (w64 (x26 - 1))).bind fun t62=>(impl_compareDoors.f k t62.1 t62.2.1 t62.2.2 t29.1 t29.2.1 t29.2.2).bind fun t65=>some (decide (t65 ≥ 0)) else some false)))))).bind fun y68=>(if y68 = true then some (Sum.inr false) else impl_IsMaze.l0 k a0_0 a0_1 n (w64 (x26 + 1))) else some (Sum.inl ()))

def impl_IsMaze.f (k : Nat) (a0_0 : Int) (a0_1 : List (Int × Int × Int)) (a0_2 : List Int) : Option (Bool) := ((impl_within.f k a0_0 1 12).bind fun t7 => (if (!t7) = true then some true else (if (decide ((a0_1.length : Int) > 30)) = true then some true else some ((a0_2.length : Int) != a0_0)))).bind fun y22 => (if y22 = true then some false else (impl_IsMaze.l0 k a0_0 a0_1 k 0).bind fun s => Lr s some fun _ => (slices_ContainsFunc_int_int.f k a0_2 (fun z0 => impl_IsMaze_1.f k z0)).bind fun t72 => some (!t72))

theorem impl_IsMaze.ok {k : Nat}  {a0_0 : Int} {a0_1 : List (Int × Int × Int)} {a0_2 : List Int} {r0 : Bool} (h : impl_IsMaze.f k a0_0 a0_1 a0_2 = some r0) (w : World) {va0_1 : Value} {va0_2 : Value} (hr_a0_1 : Rd w va0_1 a0_1) (hr_a0_2 : Rd w va0_2 a0_2) :
  Calls Tryz.prog 102 ([.agg ([.int .i64 a0_0,va0_1,va0_2].toArray)] : List Value).toArray w (fun e w'=>e = .returned (.bool r0)∧Ext w w'):=by
 unfold impl_IsMaze.f at h
 have hl_va0_1:=hr_a0_1.len
 have hl_va0_2:=hr_a0_2.len
 refine Calls.of_tri (N:=74) Tryz.func102 rfl rfl rfl (Sep.nil (M:=noM)) ?_
 refine Tri.seq (Tri.reg (l:=[0,1]) rfl ?_)
 refine F.mn rfl (m_boxG rfl rfl) ?_
 rintro _ _ ⟨b1_1,rfl,rfl⟩
 refine F.qn rfl (r_assign rfl) (F.nil (Nrm.seq (Tri.seq (Tri.seq ?_))))
 obtain ⟨y22,hE_1,h⟩:=bind_some h
 refine Tri.cut (fun e' C'=>e' = [(1,.pointer (some ⟨b1_1,0,none⟩)),(22,.bool y22)]∧C' = Sep w noM [R.box b1_1 27 [.int .i64 a0_0,va0_1,va0_2]]) ?_ (fun hj_1=>?_)
 ·rintro _ _ ⟨rfl,rfl⟩
  refine Nrm.seq (Tri.cond (b:=y22) rfl (fun g_1=>?_) (fun g_1=>?_))
  ·replace h:=if_tt g_1 h
   refine Tri.seq (Tri.reg (l:=[0]) rfl ?_)
   refine F.qn rfl (r_assign rfl) (F.nil (Nrm.seq (Tri.ret ?_)))
   refine Rtn.then ?_
   cases h
   exact Rtn.body (.tmp rfl .nil) (fun w hw=>⟨rfl,hw.ext⟩)
  ·replace h:=if_ff g_1 h
   refine Tri.skip (Nrm.seq (Tri.seq (Tri.seq (Tri.reg (l:=[0,1,2,3]) rfl ?_))))
   refine F.qn rfl (r_fieldAddr tf27_1 rfl) (F.qn rfl (r_load ta24 rfl (fun w hw=>cell_1 (box_cells (i:=0) rfl w hw) rfl)) (F.qn rfl (r_len Tryz.underlying24 rfl hl_va0_1) (F.qn rfl (r_move rfl) (F.nil (Nrm.seq ?_)))))
   obtain ⟨s0,hE_2,h⟩:=bind_some h
   refine Tri.block ?_
   refine Tri.only [1,24,25,26] rfl ?_
   refine Tri.pick [0] rfl rfl ?_
   refine Tri.rounds (fun n e' C'=>∃ (x26' : Int),impl_IsMaze.l0 k a0_0 a0_1 n x26' = some s0∧e' = [(1,.pointer (some ⟨b1_1,0,none⟩)),(24,va0_1),(25,.int .i64 (a0_1.length : Int)),(26,.int .i64 x26')]∧C' = Sep w noM [R.box b1_1 27 [.int .i64 a0_0,va0_1,va0_2]]) k ?_ ?_ ?_
   ·exact ⟨0,hE_2,rfl,rfl⟩
   ·rintro _ _ ⟨_,hE_2,_⟩
    rw [impl_IsMaze.l0.eq_1] at hE_2; cases hE_2
   ·rintro n_1 _ _ ⟨x26,hE_2,rfl,rfl⟩ ih_1
    rw [impl_IsMaze.l0.eq_2] at hE_2
    refine Tri.seq (Tri.reg (l:=[0]) rfl ?_)
    refine F.qn rfl (r_lss rfl rfl) (F.nil (Nrm.seq (Tri.seq (Tri.cond (b:=decide (x26 < (a0_1.length : Int))) rfl (fun g_2=>?_) (fun g_2=>?_)))))
    ·replace hE_2:=if_tt g_2 hE_2
     refine Tri.skip (Nrm.seq (Tri.seq (Tri.block ?_)))
     refine Tri.seq ?_
     obtain ⟨t29,h29,hE_2⟩:=bind_some hE_2
     refine Tri.reg (l:=[0,1,2,3,4,5]) rfl ?_
     refine F.qn rfl (r_move rfl) (F.qn rfl (r_indexAddrS Tryz.underlying24 ti168 rfl hl_va0_1 rfl (rdl_some h29).1 (rdl_some h29).2.1) (F.qn rfl (r_loadA ta168 ti168 rfl rfl (fun w hw=>(Rd.flat ((fun _ hw=>hr_a0_1.sep hw) w hw) (rdl_some h29).2.2))) ?_))
     refine F.mn rfl (m_alloc ti168) ?_
     rintro _ _ ⟨b4_1,rfl,rfl⟩
     refine F.qn rfl (r_assign rfl) ?_
     refine F.ef0 rfl rfl (wanted_none rfl) (d_storeG0 (i:=0) (cs2:=[.int .i64 t29.1,.int .i64 t29.2.1,.int .i64 t29.2.2]) ti168 rfl rfl rfl rfl rfl (Nat.le_of_ble_eq_true rfl) (lf_cons rfl (lf_cons rfl (lf_cons rfl lf_nil)))) ?_
     rintro _ _ ⟨rfl,rfl⟩
     refine F.nil (Nrm.seq (Tri.seq ?_))
     obtain ⟨y68,hE_3,hE_2⟩:=bind_some hE_2
     refine Tri.cut (fun e' C'=>e' = [(1,.pointer (some ⟨b1_1,0,none⟩)),(24,va0_1),(25,.int .i64 (a0_1.length : Int)),(26,.int .i64 x26),(68,.bool y68)]∧C' = Sep w noM [R.box b1_1 27 [.int .i64 a0_0,va0_1,va0_2]]) ?_ (fun hj_2=>?_)
     ·rintro _ _ ⟨rfl,rfl⟩
      refine Nrm.seq (Tri.cond (b:=y68) rfl (fun g_3=>?_) (fun g_3=>?_))
      ·replace hE_2:=if_tt g_3 hE_2
       refine Tri.seq (Tri.reg (l:=[0]) rfl ?_)
       refine F.qn rfl (r_assign rfl) (F.nil (Nrm.seq (Tri.ret ?_)))
       refine Rtn.block ?_
       refine Rtn.then ?_
       refine Rtn.then ?_
       refine Rtn.block ?_
       refine Rtn.then ?_
       cases hE_2
       replace h:=Lr_inr h
       cases h
       exact Rtn.body (.tmp rfl .nil) (fun w hw=>⟨rfl,hw.ext⟩)
      ·replace hE_2:=if_ff g_3 hE_2
       refine Tri.skip (Nrm.block ?_)
       refine Nrm.seq (Tri.reg (l:=[0,1]) rfl ?_)
       refine F.qn rfl (r_add rfl rfl) (F.qn rfl (r_move rfl) (F.nil (Nrm.round ?_)))
       refine Rnd.only [1,24,25,26] rfl ?_
       refine Rnd.pick [0] rfl rfl ?_
       exact ih_1 _ _ ⟨w64 (x26 + 1),hE_2,rfl,rfl⟩
     ·rcases Bool.eq_false_or_eq_true (decide (t29.1 < 0)) with g34 | g34
      ·replace hE_3:=if_tt g34 hE_3
       refine Tri.drawA mixedT Sep.up [(0,true),(1,true),(2,true),(3,true),(4,true),(5,true),(6,true),(7,true),(8,true),(9,true),(10,true),(11,true),(12,true),(13,true),(14,true),(15,true),(16,true),(17,true),(18,true),(19,true),(20,true),(21,true),(22,true),(23,true),(24,true),(25,true),(26,true),(27,true),(28,true),(29,true),(30,true),(31,true),(32,true),(33,true),(34,true),(35,true),(36,true),(37,true)] [] (by kernel_rfl) ?_
       refine S.qn rfl (r_indexAddrA Tryz.underlying168 ti3 rfl rfl (by decide) (by decide)) (S.qn rfl (r_load ta3 rfl (fun w hw=>cell_1 (box_cells (i:=0) rfl w hw) rfl)) (S.qn rfl (r_lss rfl rfl) (S.qn rfl (r_move rfl) ?_)))
       iterate 5 refine S.skf rfl g34 ?_
       refine S.qn rfl (r_pick rfl rfl g34) (S.qn rfl (r_move rfl) ?_)
       iterate 5 refine S.skf rfl rfl ?_
       refine S.qn rfl (r_pick rfl rfl rfl) (S.qn rfl (r_move rfl) ?_)
       iterate 4 refine S.skf rfl rfl ?_
       refine S.qn rfl (r_pick rfl rfl rfl) (S.qn rfl (r_move rfl) ?_)
       iterate 3 refine S.skf rfl rfl ?_
       iterate 9 refine S.sk rfl rfl rfl (wanted_undef rfl rfl rfl) ?_
       refine S.skf rfl rfl (S.qn rfl (r_pick rfl rfl rfl) (S.nil (F.nil ?_)))
       cases hE_3
       refine Nrm.only [1,24,25,26,68] rfl ?_
       refine Nrm.pick [1] rfl rfl ?_
       exact hj_2 _ _ ⟨rfl,rfl⟩
      ·replace hE_3:=if_ff g34 hE_3
       rcases Bool.eq_false_or_eq_true (decide (t29.1 ≥ t29.2.1)) with g41 | g41
       ·replace hE_3:=if_tt g41 hE_3
        refine Tri.drawA mixedT Sep.up [(0,true),(1,true),(2,true),(3,true),(4,true),(5,true),(6,true),(7,true),(8,true),(9,true),(10,true),(11,true),(12,true),(13,true),(14,true),(15,true),(16,true),(17,true),(18,true),(19,true),(20,true),(21,true),(22,true),(23,true),(24,true),(25,true),(26,true),(27,true),(28,true),(29,true),(30,true),(31,true),(32,true),(33,true),(34,true),(35,true),(36,true),(37,true)] [] (by kernel_rfl) ?_
        refine S.qn rfl (r_indexAddrA Tryz.underlying168 ti3 rfl rfl (by decide) (by decide)) (S.qn rfl (r_load ta3 rfl (fun w hw=>cell_1 (box_cells (i:=0) rfl w hw) rfl)) (S.qn rfl (r_lss rfl rfl) (S.qn rfl (r_move rfl) (S.qg rfl g34 (r_indexAddrA Tryz.underlying168 ti3 rfl rfl (by decide) (by decide)) ?_))))
        refine S.qg rfl g34 (r_load ta3 rfl (fun w hw=>cell_1 (box_cells (i:=0) rfl w hw) rfl)) (S.qg rfl g34 (r_indexAddrA Tryz.underlying168 ti3 rfl rfl (by decide) (by decide)) (S.qg rfl g34 (r_load ta3 rfl (fun w hw=>cell_1 (box_cells (i:=0) rfl w hw) rfl)) (S.qg rfl g34 (r_geq rfl rfl) (S.qn rfl (r_pickf rfl rfl g34) (S.qn rfl (r_move rfl) ?_)))))
        iterate 5 refine S.skf rfl g41 ?_
        refine S.qn rfl (r_pick rfl rfl g41) (S.qn rfl (r_move rfl) ?_)
        iterate 4 refine S.skf rfl rfl ?_
        refine S.qn rfl (r_pick rfl rfl rfl) (S.qn rfl (r_move rfl) ?_)
        iterate 3 refine S.skf rfl rfl ?_
        iterate 9 refine S.sk rfl rfl rfl (wanted_undef rfl rfl rfl) ?_
        refine S.skf rfl rfl (S.qn rfl (r_pick rfl rfl rfl) (S.nil (F.nil ?_)))
        cases hE_3
        refine Nrm.only [1,24,25,26,68] rfl ?_
        refine Nrm.pick [1] rfl rfl ?_
        exact hj_2 _ _ ⟨rfl,rfl⟩
       ·replace hE_3:=if_ff g41 hE_3
        rcases Bool.eq_false_or_eq_true (decide (t29.2.1 ≥ a0_0)) with g48 | g48
        ·replace hE_3:=if_tt g48 hE_3
         refine Tri.drawA mixedT Sep.up [(0,true),(1,true),(2,true),(3,true),(4,true),(5,true),(6,true),(7,true),(8,true),(9,true),(10,true),(11,true),(12,true),(13,true),(14,true),(15,true),(16,true),(17,true),(18,true),(19,true),(20,true),(21,true),(22,true),(23,true),(24,true),(25,true),(26,true),(27,true),(28,true),(29,true),(30,true),(31,true),(32,true),(33,true),(34,true),(35,true),(36,true),(37,true)] [] (by kernel_rfl) ?_
         refine S.qn rfl (r_indexAddrA Tryz.underlying168 ti3 rfl rfl (by decide) (by decide)) (S.qn rfl (r_load ta3 rfl (fun w hw=>cell_1 (box_cells (i:=0) rfl w hw) rfl)) (S.qn rfl (r_lss rfl rfl) (S.qn rfl (r_move rfl) (S.qg rfl g34 (r_indexAddrA Tryz.underlying168 ti3 rfl rfl (by decide) (by decide)) (S.qg rfl g34 (r_load ta3 rfl (fun w hw=>cell_1 (box_cells (i:=0) rfl w hw) rfl)) ?_)))))
         refine S.qg rfl g34 (r_indexAddrA Tryz.underlying168 ti3 rfl rfl (by decide) (by decide)) (S.qg rfl g34 (r_load ta3 rfl (fun w hw=>cell_1 (box_cells (i:=0) rfl w hw) rfl)) (S.qg rfl g34 (r_geq rfl rfl) (S.qn rfl (r_pickf rfl rfl g34) (S.qn rfl (r_move rfl) (S.qg rfl g41 (r_indexAddrA Tryz.underlying168 ti3 rfl rfl (by decide) (by decide)) ?_)))))
         refine S.qg rfl g41 (r_load ta3 rfl (fun w hw=>cell_1 (box_cells (i:=0) rfl w hw) rfl)) (S.qg rfl g41 (r_fieldAddr tf27_0 rfl) (S.qg rfl g41 (r_load ta3 rfl (fun w hw=>cell_1 (box_cells (i:=1) rfl w hw) rfl)) (S.qg rfl g41 (r_geq rfl rfl) (S.qn rfl (r_pickf rfl rfl g41) (S.qn rfl (r_move rfl) ?_)))))
         iterate 4 refine S.skf rfl g48 ?_
         refine S.qn rfl (r_pick rfl rfl g48) (S.qn rfl (r_move rfl) ?_)
         iterate 3 refine S.skf rfl rfl ?_
         iterate 9 refine S.sk rfl rfl rfl (wanted_undef rfl rfl rfl) ?_
         refine S.skf rfl rfl (S.qn rfl (r_pick rfl rfl rfl) (S.nil (F.nil ?_)))
         cases hE_3
         refine Nrm.only [1,24,25,26,68] rfl ?_
         refine Nrm.pick [1] rfl rfl ?_
         exact hj_2 _ _ ⟨rfl,rfl⟩
        ·replace hE_3:=if_ff g48 hE_3
         obtain ⟨t51,h51,hE_3⟩:=bind_some hE_3
         rcases Bool.eq_false_or_eq_true (!t51) with g54 | g54
         ·replace hE_3:=if_tt g54 hE_3
          refine Tri.drawA mixedT Sep.up [(0,true),(1,true),(2,true),(3,true),(4,true),(5,true),(6,true),(7,true),(8,true),(9,true),(10,true),(11,true),(12,true),(13,true),(14,true),(15,true),(16,true),(17,true),(18,true),(19,true),(20,true),(21,true),(22,true),(23,true),(24,true),(25,true),(26,true),(27,true),(28,true),(29,true),(30,true),(31,true),(32,true),(33,true),(34,true),(35,true),(36,true),(37,true)] [] (by kernel_rfl) ?_
          refine S.qn rfl (r_indexAddrA Tryz.underlying168 ti3 rfl rfl (by decide) (by decide)) (S.qn rfl (r_load ta3 rfl (fun w hw=>cell_1 (box_cells (i:=0) rfl w hw) rfl)) ?_)
          refine S.qn rfl (r_lss rfl rfl) (S.qn rfl (r_move rfl) (S.qg rfl g34 (r_indexAddrA Tryz.underlying168 ti3 rfl rfl (by decide) (by decide)) (S.qg rfl g34 (r_load ta3 rfl (fun w hw=>cell_1 (box_cells (i:=0) rfl w hw) rfl)) (S.qg rfl g34 (r_indexAddrA Tryz.underlying168 ti3 rfl rfl (by decide) (by decide)) (S.qg rfl g34 (r_load ta3 rfl (fun w hw=>cell_1 (box_cells (i:=0) rfl w hw) rfl)) ?_)))))
          refine S.qg rfl g34 (r_geq rfl rfl) (S.qn rfl (r_pickf rfl rfl g34) (S.qn rfl (r_move rfl) (S.qg rfl g41 (r_indexAddrA Tryz.underlying168 ti3 rfl rfl (by decide) (by decide)) (S.qg rfl g41 (r_load ta3 rfl (fun w hw=>cell_1 (box_cells (i:=0) rfl w hw) rfl)) (S.qg rfl g41 (r_fieldAddr tf27_0 rfl) ?_)))))
          refine S.qg rfl g41 (r_load ta3 rfl (fun w hw=>cell_1 (box_cells (i:=1) rfl w hw) rfl)) (S.qg rfl g41 (r_geq rfl rfl) (S.qn rfl (r_pickf rfl rfl g41) (S.qn rfl (r_move rfl) (S.qg rfl g48 (r_indexAddrA Tryz.underlying168 ti3 rfl rfl (by decide) (by decide)) (S.qg rfl g48 (r_load ta3 rfl (fun w hw=>cell_1 (box_cells (i:=0) rfl w hw) rfl)) ?_)))))
          refine S.qc rfl rfl rfl (wg rfl rfl rfl g48) (q_callF (xs:=_) rfl ok177 rfl rfl (fun w hw=>impl_isSet.ok h51 w)) ?_
          refine S.qg rfl g48 (r_not rfl) (S.qn rfl (r_pickf rfl rfl g48) (S.qn rfl (r_move rfl) ?_))
          iterate 3 refine S.skf rfl g54 ?_
          iterate 9 refine S.sk rfl rfl rfl (wanted_undef rfl rfl rfl) ?_
          refine S.skf rfl g54 (S.qn rfl (r_pick rfl rfl g54) (S.nil (F.nil ?_)))
          cases hE_3
          refine Nrm.only [1,24,25,26,68] rfl ?_
          refine Nrm.pick [1] rfl rfl ?_
          exact hj_2 _ _ ⟨rfl,rfl⟩
         ·replace hE_3:=if_ff g54 hE_3
          rcases Bool.eq_false_or_eq_true (decide (x26 > 0)) with g57 | g57
          ·replace hE_3:=if_tt g57 hE_3
           obtain ⟨t62,h62,hE_3⟩:=bind_some hE_3
           obtain ⟨t65,h65,hE_3⟩:=bind_some hE_3
           refine Tri.drawA mixedT Sep.up [(0,true),(1,true),(2,true),(3,true),(4,true),(5,true),(6,true),(7,true),(8,true),(9,true),(10,true),(11,true),(12,true),(13,true),(14,true),(15,true),(16,true),(17,true),(18,true),(19,true),(20,true),(21,true),(22,true),(23,true),(24,true),(25,true),(26,true),(27,true),(28,true),(29,true),(30,true),(31,true),(32,true),(33,true),(34,true),(35,true),(36,true),(37,true)] [] (by kernel_rfl) ?_
           refine S.qn rfl (r_indexAddrA Tryz.underlying168 ti3 rfl rfl (by decide) (by decide)) (S.qn rfl (r_load ta3 rfl (fun w hw=>cell_1 (box_cells (i:=0) rfl w hw) rfl)) ?_)
           refine S.qn rfl (r_lss rfl rfl) (S.qn rfl (r_move rfl) (S.qg rfl g34 (r_indexAddrA Tryz.underlying168 ti3 rfl rfl (by decide) (by decide)) (S.qg rfl g34 (r_load ta3 rfl (fun w hw=>cell_1 (box_cells (i:=0) rfl w hw) rfl)) (S.qg rfl g34 (r_indexAddrA Tryz.underlying168 ti3 rfl rfl (by decide) (by decide)) (S.qg rfl g34 (r_load ta3 rfl (fun w hw=>cell_1 (box_cells (i:=0) rfl w hw) rfl)) ?_)))))
           refine S.qg rfl g34 (r_geq rfl rfl) (S.qn rfl (r_pickf rfl rfl g34) (S.qn rfl (r_move rfl) (S.qg rfl g41 (r_indexAddrA Tryz.underlying168 ti3 rfl rfl (by decide) (by decide)) (S.qg rfl g41 (r_load ta3 rfl (fun w hw=>cell_1 (box_cells (i:=0) rfl w hw) rfl)) (S.qg rfl g41 (r_fieldAddr tf27_0 rfl) ?_)))))
           refine S.qg rfl g41 (r_load ta3 rfl (fun w hw=>cell_1 (box_cells (i:=1) rfl w hw) rfl)) (S.qg rfl g41 (r_geq rfl rfl) (S.qn rfl (r_pickf rfl rfl g41) (S.qn rfl (r_move rfl) (S.qg rfl g48 (r_indexAddrA Tryz.underlying168 ti3 rfl rfl (by decide) (by decide)) (S.qg rfl g48 (r_load ta3 rfl (fun w hw=>cell_1 (box_cells (i:=0) rfl w hw) rfl)) ?_)))))
           refine S.qc rfl rfl rfl (wg rfl rfl rfl g48) (q_callF (xs:=_) rfl ok177 rfl rfl (fun w hw=>impl_isSet.ok h51 w)) ?_
           refine S.qg rfl g48 (r_not rfl) ?_
           refine S.qn rfl (r_pickf rfl rfl g48) (S.qn rfl (r_move rfl) (S.qg rfl g54 (r_move rfl) (S.qg rfl g54 (r_gtr rfl rfl) (S.qg rfl g54 (r_move rfl) (S.qg rfl g57 (r_fieldAddr tf27_1 rfl) ?_)))))
           refine S.qg rfl g57 (r_load ta24 rfl (fun w hw=>cell_1 (box_cells (i:=1) rfl w hw) rfl)) (S.qg rfl g57 (r_move rfl) (S.qg rfl g57 (r_sub rfl rfl) (S.qg rfl g57 (r_indexAddrS Tryz.underlying24 ti168 rfl hl_va0_1 rfl (rdl_some h62).1 (rdl_some h62).2.1) (S.qg rfl g57 (r_loadA ta168 ti168 rfl rfl (fun w hw=>(Rd.flat ((fun _ hw=>hr_a0_1.sep hw) w hw) (rdl_some h62).2.2))) (S.qg rfl g57 (r_loadA ta168 ti168 rfl rfl (fun w hw=>(box_cells (i:=0) rfl w hw))) ?_)))))
           refine S.qc rfl rfl rfl (wg rfl rfl rfl g57) (q_callF (xs:=_) rfl ok184 rfl rfl (fun w hw=>impl_compareDoors.ok h65 w)) ?_
           refine S.qg rfl g57 (r_geq rfl rfl) (S.qg rfl g54 (r_pick rfl rfl g57) (S.qn rfl (r_pickf rfl rfl g54) (S.nil (F.nil ?_))))
           cases hE_3
           refine Nrm.only [1,24,25,26,68] rfl ?_
           refine Nrm.pick [1] rfl rfl ?_
           exact hj_2 _ _ ⟨rfl,rfl⟩
          ·replace hE_3:=if_ff g57 hE_3
           refine Tri.drawA mixedT Sep.up [(0,true),(1,true),(2,true),(3,true),(4,true),(5,true),(6,true),(7,true),(8,true),(9,true),(10,true),(11,true),(12,true),(13,true),(14,true),(15,true),(16,true),(17,true),(18,true),(19,true),(20,true),(21,true),(22,true),(23,true),(24,true),(25,true),(26,true),(27,true),(28,true),(29,true),(30,true),(31,true),(32,true),(33,true),(34,true),(35,true),(36,true),(37,true)] [] (by kernel_rfl) ?_
           refine S.qn rfl (r_indexAddrA Tryz.underlying168 ti3 rfl rfl (by decide) (by decide)) (S.qn rfl (r_load ta3 rfl (fun w hw=>cell_1 (box_cells (i:=0) rfl w hw) rfl)) ?_)
           refine S.qn rfl (r_lss rfl rfl) (S.qn rfl (r_move rfl) (S.qg rfl g34 (r_indexAddrA Tryz.underlying168 ti3 rfl rfl (by decide) (by decide)) (S.qg rfl g34 (r_load ta3 rfl (fun w hw=>cell_1 (box_cells (i:=0) rfl w hw) rfl)) (S.qg rfl g34 (r_indexAddrA Tryz.underlying168 ti3 rfl rfl (by decide) (by decide)) (S.qg rfl g34 (r_load ta3 rfl (fun w hw=>cell_1 (box_cells (i:=0) rfl w hw) rfl)) ?_)))))
           refine S.qg rfl g34 (r_geq rfl rfl) (S.qn rfl (r_pickf rfl rfl g34) (S.qn rfl (r_move rfl) (S.qg rfl g41 (r_indexAddrA Tryz.underlying168 ti3 rfl rfl (by decide) (by decide)) (S.qg rfl g41 (r_load ta3 rfl (fun w hw=>cell_1 (box_cells (i:=0) rfl w hw) rfl)) (S.qg rfl g41 (r_fieldAddr tf27_0 rfl) ?_)))))
           refine S.qg rfl g41 (r_load ta3 rfl (fun w hw=>cell_1 (box_cells (i:=1) rfl w hw) rfl)) (S.qg rfl g41 (r_geq rfl rfl) (S.qn rfl (r_pickf rfl rfl g41) (S.qn rfl (r_move rfl) (S.qg rfl g48 (r_indexAddrA Tryz.underlying168 ti3 rfl rfl (by decide) (by decide)) (S.qg rfl g48 (r_load ta3 rfl (fun w hw=>cell_1 (box_cells (i:=0) rfl w hw) rfl)) ?_)))))
           refine S.qc rfl rfl rfl (wg rfl rfl rfl g48) (q_callF (xs:=_) rfl ok177 rfl rfl (fun w hw=>impl_isSet.ok h51 w)) ?_
           refine S.qg rfl g48 (r_not rfl) (S.qn rfl (r_pickf rfl rfl g48) (S.qn rfl (r_move rfl) (S.qg rfl g54 (r_move rfl) (S.qg rfl g54 (r_gtr rfl rfl) (S.qg rfl g54 (r_move rfl) ?_)))))
           iterate 9 refine S.skf rfl g57 ?_
           refine S.qg rfl g54 (r_pickf rfl rfl g57) (S.qn rfl (r_pickf rfl rfl g54) (S.nil (F.nil ?_)))
           cases hE_3
           refine Nrm.only [1,24,25,26,68] rfl ?_
           refine Nrm.pick [1] rfl rfl ?_
           exact hj_2 _ _ ⟨rfl,rfl⟩
    ·replace hE_2:=if_ff g_2 hE_2
     refine Tri.exit ?_
     refine Exi.then ?_
     refine Exi.then ?_
     refine Exi.same ?_
     cases hE_2
     replace h:=Lr_inl h
     refine Nrm.seq (Tri.seq ?_)
     obtain ⟨t72,h72,h⟩:=bind_some h
     refine Tri.reg (l:=[0,1,2,3,4]) rfl ?_
     refine F.qn rfl (r_fieldAddr tf27_2 rfl) (F.qn rfl (r_load ta25 rfl (fun w hw=>cell_1 (box_cells (i:=0) rfl w hw) rfl)) ?_)
     refine F.qcn rfl (q_callF (xs:=_) rfl ok179 rfl rfl (fun w hw=>slices_ContainsFunc_int_int.ok h72 w ((fun _ hw=>hr_a0_2.sep hw) w hw) ok185 (fun w2 he2 z0 y2 hy2=>impl_IsMaze_1.ok hy2 w2))) ?_
     refine F.qn rfl (r_not rfl) (F.qn rfl (r_assign rfl) (F.nil (Nrm.seq (Tri.ret ?_))))
     cases h
     exact Rtn.body (.tmp rfl .nil) (fun w hw=>⟨rfl,hw.ext⟩)
 ·obtain ⟨t7,h7,hE_1⟩:=bind_some hE_1
  rcases Bool.eq_false_or_eq_true (!t7) with g9 | g9
  ·replace hE_1:=if_tt g9 hE_1
   refine Tri.reg (l:=List.range 18) rfl ?_
   refine F.qn rfl (r_fieldAddr tf27_0 rfl) (F.qn rfl (r_load ta3 rfl (fun w hw=>cell_1 (box_cells (i:=0) rfl w hw) rfl)) ?_)
   refine F.qcn rfl (q_callF (xs:=_) rfl ok103 rfl rfl (fun w hw=>impl_within.ok h7 w)) ?_
   refine F.qn rfl (r_not rfl) (F.qn rfl (r_move rfl) ?_)
   iterate 4 refine F.skf rfl g9 ?_
   refine F.qn rfl (r_pick rfl rfl g9) (F.qn rfl (r_move rfl) ?_)
   iterate 6 refine F.skf rfl rfl ?_
   refine F.qn rfl (r_pick rfl rfl rfl) (F.nil ?_)
   cases hE_1
   refine Nrm.only [1,22] rfl ?_
   refine Nrm.pick [0] rfl rfl ?_
   exact hj_1 _ _ ⟨rfl,rfl⟩
  ·replace hE_1:=if_ff g9 hE_1
   rcases Bool.eq_false_or_eq_true (decide ((a0_1.length : Int) > 30)) with g15 | g15
   ·replace hE_1:=if_tt g15 hE_1
    refine Tri.reg (l:=List.range 18) rfl ?_
    refine F.qn rfl (r_fieldAddr tf27_0 rfl) (F.qn rfl (r_load ta3 rfl (fun w hw=>cell_1 (box_cells (i:=0) rfl w hw) rfl)) ?_)
    refine F.qcn rfl (q_callF (xs:=_) rfl ok103 rfl rfl (fun w hw=>impl_within.ok h7 w)) ?_
    refine F.qn rfl (r_not rfl) (F.qn rfl (r_move rfl) ?_)
    refine F.qg rfl g9 (r_fieldAddr tf27_1 rfl) (F.qg rfl g9 (r_load ta24 rfl (fun w hw=>cell_1 (box_cells (i:=0) rfl w hw) rfl)) (F.qg rfl g9 (r_len Tryz.underlying24 rfl hl_va0_1) (F.qg rfl g9 (r_gtr rfl rfl) (F.qn rfl (r_pickf rfl rfl g9) (F.qn rfl (r_move rfl) ?_)))))
    iterate 6 refine F.skf rfl g15 ?_
    refine F.qn rfl (r_pick rfl rfl g15) (F.nil ?_)
    cases hE_1
    refine Nrm.only [1,22] rfl ?_
    refine Nrm.pick [0] rfl rfl ?_
    exact hj_1 _ _ ⟨rfl,rfl⟩
   ·replace hE_1:=if_ff g15 hE_1
    refine Tri.reg (l:=List.range 18) rfl ?_
    refine F.qn rfl (r_fieldAddr tf27_0 rfl) (F.qn rfl (r_load ta3 rfl (fun w hw=>cell_1 (box_cells (i:=0) rfl w hw) rfl)) ?_)
    refine F.qcn rfl (q_callF (xs:=_) rfl ok103 rfl rfl (fun w hw=>impl_within.ok h7 w)) ?_
    refine F.qn rfl (r_not rfl) (F.qn rfl (r_move rfl) (F.qg rfl g9 (r_fieldAddr tf27_1 rfl) ?_))
    refine F.qg rfl g9 (r_load ta24 rfl (fun w hw=>cell_1 (box_cells (i:=0) rfl w hw) rfl)) (F.qg rfl g9 (r_len Tryz.underlying24 rfl hl_va0_1) (F.qg rfl g9 (r_gtr rfl rfl) (F.qn rfl (r_pickf rfl rfl g9) (F.qn rfl (r_move rfl) (F.qg rfl g15 (r_fieldAddr tf27_2 rfl) ?_)))))
    refine F.qg rfl g15 (r_load ta25 rfl (fun w hw=>cell_1 (box_cells (i:=0) rfl w hw) rfl)) (F.qg rfl g15 (r_len Tryz.underlying25 rfl hl_va0_2) (F.qg rfl g15 (r_fieldAddr tf27_0 rfl) (F.qg rfl g15 (r_load ta3 rfl (fun w hw=>cell_1 (box_cells (i:=0) rfl w hw) rfl)) (F.qg rfl g15 (r_neq rfl rfl) (F.qn rfl (r_pickf rfl rfl g15) (F.nil ?_))))))
    cases hE_1
    refine Nrm.only [1,22] rfl ?_
    refine Nrm.pick [0] rfl rfl ?_
    exact hj_1 _ _ ⟨rfl,rfl⟩


def impl_IsTrap.l0 (k : Nat) (a0_1 : List (Int × Int × Int)) (a0_3 : List Int) : Nat → Int → Option ((Unit) ⊕ (Bool))
 | 0,_=>none
 | n + 1,x12=>(if (decide (x12 < (a0_3.length : Int))) = true then (rdl a0_3 x12).bind fun t15=>((impl_within.f k t15 0 (w64 ((a0_1.length : Int) - 1))).bind fun t23=>(if (!t23) = true then some true else (if (decide (x12 > 0)) = true then (rdl a0_3 (w64 (x12 - 1))).bind fun t34=>some (decide (t15 ≤ t34)) else some false))).bind fun y38=>(if y38 = true then some (Sum.inr false) else impl_IsTrap.l0 k a0_1 a0_3 n (w64 (x12 + 1))) else some (Sum.inl ()))

def impl_IsTrap.f (k : Nat) (a0_0 : Int) (a0_1 : List (Int × Int × Int)) (a0_2 : List Int) (a0_3 : List Int) : Option (Bool) := (impl_IsMaze.f k a0_0 a0_1 a0_2).bind fun t7 => (if (!t7) = true then some false else (impl_IsTrap.l0 k a0_1 a0_3 k 0).bind fun s => Lr s some fun _ => some true)

theorem impl_IsTrap.ok {k : Nat}  {a0_0 : Int} {a0_1 : List (Int × Int × Int)} {a0_2 : List Int} {a0_3 : List Int} {r0 : Bool} (h : impl_IsTrap.f k a0_0 a0_1 a0_2 a0_3 = some r0) (w : World) {va0_1 : Value} {va0_2 : Value} {va0_3 : Value} (hr_a0_1 : Rd w va0_1 a0_1) (hr_a0_2 : Rd w va0_2 a0_2) (hr_a0_3 : Rd w va0_3 a0_3) :
  Calls Tryz.prog 56 ([.agg ([.int .i64 a0_0,va0_1,va0_2,va0_3].toArray)] : List Value).toArray w (fun e w'=>e = .returned (.bool r0)∧Ext w w'):=by
 unfold impl_IsTrap.f at h
 have hl_va0_1:=hr_a0_1.len
 have hl_va0_2:=hr_a0_2.len
 have hl_va0_3:=hr_a0_3.len
 refine Calls.of_tri (N:=40) Tryz.func56 rfl rfl rfl (Sep.nil (M:=noM)) ?_
 refine Tri.seq (Tri.reg (l:=[0,1]) rfl ?_)
 refine F.mn rfl (m_boxG rfl rfl) ?_
 rintro _ _ ⟨b1_1,rfl,rfl⟩
 refine F.qn rfl (r_assign rfl) (F.nil (Nrm.seq (Tri.seq (Tri.seq ?_))))
 obtain ⟨t7,h7,h⟩:=bind_some h
 refine Tri.reg (l:=[0,1,2,3]) rfl ?_
 refine F.qn rfl (r_fieldAddr tf65_0 rfl) (F.qn rfl (r_loadA ta27 ti27 rfl rfl (fun w hw=>cells_1 (cs':=[.int .i64 a0_0,va0_1,va0_2]) (box_cells (i:=0) rfl w hw) rfl)) ?_)
 refine F.qcn rfl (q_callF (xs:=_) rfl ok102 rfl rfl (fun w hw=>impl_IsMaze.ok h7 w ((fun _ hw=>hr_a0_1.sep hw) w hw) ((fun _ hw=>hr_a0_2.sep hw) w hw))) ?_
 refine F.qn rfl (r_not rfl) (F.nil (Nrm.seq (Tri.cond (b:=!t7) rfl (fun g_1=>?_) (fun g_1=>?_))))
 ·replace h:=if_tt g_1 h
  refine Tri.seq (Tri.reg (l:=[0]) rfl ?_)
  refine F.qn rfl (r_assign rfl) (F.nil (Nrm.seq (Tri.ret ?_)))
  refine Rtn.then ?_
  cases h
  exact Rtn.body (.tmp rfl .nil) (fun w hw=>⟨rfl,hw.ext⟩)
 ·replace h:=if_ff g_1 h
  refine Tri.skip (Nrm.seq (Tri.seq (Tri.seq (Tri.reg (l:=[0,1,2,3]) rfl ?_))))
  refine F.qn rfl (r_fieldAddr tf65_1 rfl) (F.qn rfl (r_load ta25 rfl (fun w hw=>cell_1 (box_cells (i:=0) rfl w hw) rfl)) (F.qn rfl (r_len Tryz.underlying25 rfl hl_va0_3) (F.qn rfl (r_move rfl) (F.nil (Nrm.seq ?_)))))
  obtain ⟨s0,hE_1,h⟩:=bind_some h
  refine Tri.block ?_
  refine Tri.only [1,10,11,12] rfl ?_
  refine Tri.pick [0] rfl rfl ?_
  refine Tri.rounds (fun n e' C'=>∃ (x12' : Int),impl_IsTrap.l0 k a0_1 a0_3 n x12' = some s0∧e' = [(1,.pointer (some ⟨b1_1,0,none⟩)),(10,va0_3),(11,.int .i64 (a0_3.length : Int)),(12,.int .i64 x12')]∧C' = Sep w noM [R.box b1_1 65 [.int .i64 a0_0,va0_1,va0_2,va0_3]]) k ?_ ?_ ?_
  ·exact ⟨0,hE_1,rfl,rfl⟩
  ·rintro _ _ ⟨_,hE_1,_⟩
   rw [impl_IsTrap.l0.eq_1] at hE_1; cases hE_1
  ·rintro n_1 _ _ ⟨x12,hE_1,rfl,rfl⟩ ih_1
   rw [impl_IsTrap.l0.eq_2] at hE_1
   refine Tri.seq (Tri.reg (l:=[0]) rfl ?_)
   refine F.qn rfl (r_lss rfl rfl) (F.nil (Nrm.seq (Tri.seq (Tri.cond (b:=decide (x12 < (a0_3.length : Int))) rfl (fun g_2=>?_) (fun g_2=>?_)))))
   ·replace hE_1:=if_tt g_2 hE_1
    refine Tri.skip (Nrm.seq (Tri.seq (Tri.block ?_)))
    refine Tri.seq ?_
    obtain ⟨t15,h15,hE_1⟩:=bind_some hE_1
    refine Tri.reg (l:=[0,1,2,3,4]) rfl ?_
    refine F.qn rfl (r_move rfl) (F.qn rfl (r_indexAddrS Tryz.underlying25 ti3 rfl hl_va0_3 rfl (rdl_some h15).1 (rdl_some h15).2.1) (F.qn rfl (r_load ta3 rfl (fun w hw=>cell_0 (Rd.flat ((fun _ hw=>hr_a0_3.sep hw) w hw) (rdl_some h15).2.2) rfl)) (F.qn rfl (r_assign rfl) (F.qn rfl (r_assign rfl) (F.nil (Nrm.seq (Tri.seq ?_)))))))
    obtain ⟨y38,hE_2,hE_1⟩:=bind_some hE_1
    refine Tri.cut (fun e' C'=>e' = [(1,.pointer (some ⟨b1_1,0,none⟩)),(10,va0_3),(11,.int .i64 (a0_3.length : Int)),(12,.int .i64 x12),(38,.bool y38)]∧C' = Sep w noM [R.box b1_1 65 [.int .i64 a0_0,va0_1,va0_2,va0_3]]) ?_ (fun hj_1=>?_)
    ·rintro _ _ ⟨rfl,rfl⟩
     refine Nrm.seq (Tri.cond (b:=y38) rfl (fun g_3=>?_) (fun g_3=>?_))
     ·replace hE_1:=if_tt g_3 hE_1
      refine Tri.seq (Tri.reg (l:=[0]) rfl ?_)
      refine F.qn rfl (r_assign rfl) (F.nil (Nrm.seq (Tri.ret ?_)))
      refine Rtn.block ?_
      refine Rtn.then ?_
      refine Rtn.then ?_
      refine Rtn.block ?_
      refine Rtn.then ?_
      cases hE_1
      replace h:=Lr_inr h
      cases h
      exact Rtn.body (.tmp rfl .nil) (fun w hw=>⟨rfl,hw.ext⟩)
     ·replace hE_1:=if_ff g_3 hE_1
      refine Tri.skip (Nrm.block ?_)
      refine Nrm.seq (Tri.reg (l:=[0,1]) rfl ?_)
      refine F.qn rfl (r_add rfl rfl) (F.qn rfl (r_move rfl) (F.nil (Nrm.round ?_)))
      refine Rnd.only [1,10,11,12] rfl ?_
      refine Rnd.pick [0] rfl rfl ?_
      exact ih_1 _ _ ⟨w64 (x12 + 1),hE_1,rfl,rfl⟩
    ·obtain ⟨t23,h23,hE_2⟩:=bind_some hE_2
     rcases Bool.eq_false_or_eq_true (!t23) with g25 | g25
     ·replace hE_2:=if_tt g25 hE_2
      refine Tri.reg (l:=List.range 22) rfl ?_
      refine F.qn rfl (r_move rfl) (F.qn rfl (r_fieldAddr tf65_0 rfl) (F.qn rfl (r_fieldAddr tf27_1 rfl) (F.qn rfl (r_load ta24 rfl (fun w hw=>cell_2 (box_cells (i:=0) rfl w hw) rfl)) (F.qn rfl (r_len Tryz.underlying24 rfl hl_va0_1) (F.qn rfl (r_sub rfl rfl) ?_)))))
      refine F.qcn rfl (q_callF (xs:=_) rfl ok103 rfl rfl (fun w hw=>impl_within.ok h23 w)) ?_
      refine F.qn rfl (r_not rfl) (F.qn rfl (r_move rfl) ?_)
      iterate 3 refine F.skf rfl g25 ?_
      iterate 8 refine F.sk rfl rfl rfl (wanted_undef rfl rfl rfl) ?_
      refine F.skf rfl g25 (F.qn rfl (r_pick rfl rfl g25) (F.nil ?_))
      cases hE_2
      refine Nrm.only [1,10,11,12,38] rfl ?_
      refine Nrm.pick [0] rfl rfl ?_
      exact hj_1 _ _ ⟨rfl,rfl⟩
     ·replace hE_2:=if_ff g25 hE_2
      rcases Bool.eq_false_or_eq_true (decide (x12 > 0)) with g28 | g28
      ·replace hE_2:=if_tt g28 hE_2
       obtain ⟨t34,h34,hE_2⟩:=bind_some hE_2
       refine Tri.reg (l:=List.range 22) rfl ?_
       refine F.qn rfl (r_move rfl) (F.qn rfl (r_fieldAddr tf65_0 rfl) (F.qn rfl (r_fieldAddr tf27_1 rfl) (F.qn rfl (r_load ta24 rfl (fun w hw=>cell_2 (box_cells (i:=0) rfl w hw) rfl)) (F.qn rfl (r_len Tryz.underlying24 rfl hl_va0_1) (F.qn rfl (r_sub rfl rfl) ?_)))))
       refine F.qcn rfl (q_callF (xs:=_) rfl ok103 rfl rfl (fun w hw=>impl_within.ok h23 w)) ?_
       refine F.qn rfl (r_not rfl) (F.qn rfl (r_move rfl) (F.qg rfl g25 (r_move rfl) ?_))
       refine F.qg rfl g25 (r_gtr rfl rfl) (F.qg rfl g25 (r_move rfl) (F.qg rfl g28 (r_move rfl) (F.qg rfl g28 (r_fieldAddr tf65_1 rfl) (F.qg rfl g28 (r_load ta25 rfl (fun w hw=>cell_1 (box_cells (i:=0) rfl w hw) rfl)) (F.qg rfl g28 (r_move rfl) ?_)))))
       refine F.qg rfl g28 (r_sub rfl rfl) (F.qg rfl g28 (r_indexAddrS Tryz.underlying25 ti3 rfl hl_va0_3 rfl (rdl_some h34).1 (rdl_some h34).2.1) (F.qg rfl g28 (r_load ta3 rfl (fun w hw=>cell_0 (Rd.flat ((fun _ hw=>hr_a0_3.sep hw) w hw) (rdl_some h34).2.2) rfl)) (F.qg rfl g28 (r_leq rfl rfl) (F.qg rfl g25 (r_pick rfl rfl g28) (F.qn rfl (r_pickf rfl rfl g25) (F.nil ?_))))))
       cases hE_2
       refine Nrm.only [1,10,11,12,38] rfl ?_
       refine Nrm.pick [0] rfl rfl ?_
       exact hj_1 _ _ ⟨rfl,rfl⟩
      ·replace hE_2:=if_ff g28 hE_2
       refine Tri.reg (l:=List.range 22) rfl ?_
       refine F.qn rfl (r_move rfl) (F.qn rfl (r_fieldAddr tf65_0 rfl) (F.qn rfl (r_fieldAddr tf27_1 rfl) (F.qn rfl (r_load ta24 rfl (fun w hw=>cell_2 (box_cells (i:=0) rfl w hw) rfl)) (F.qn rfl (r_len Tryz.underlying24 rfl hl_va0_1) (F.qn rfl (r_sub rfl rfl) ?_)))))
       refine F.qcn rfl (q_callF (xs:=_) rfl ok103 rfl rfl (fun w hw=>impl_within.ok h23 w)) ?_
       refine F.qn rfl (r_not rfl) (F.qn rfl (r_move rfl) (F.qg rfl g25 (r_move rfl) (F.qg rfl g25 (r_gtr rfl rfl) (F.qg rfl g25 (r_move rfl) ?_))))
       iterate 8 refine F.skf rfl g28 ?_
       refine F.qg rfl g25 (r_pickf rfl rfl g28) (F.qn rfl (r_pickf rfl rfl g25) (F.nil ?_))
       cases hE_2
       refine Nrm.only [1,10,11,12,38] rfl ?_
       refine Nrm.pick [0] rfl rfl ?_
       exact hj_1 _ _ ⟨rfl,rfl⟩
   ·replace hE_1:=if_ff g_2 hE_1
    refine Tri.exit ?_
    refine Exi.then ?_
    refine Exi.then ?_
    refine Exi.same ?_
    cases hE_1
    replace h:=Lr_inl h
    refine Nrm.seq (Tri.seq (Tri.reg (l:=[0]) rfl ?_))
    refine F.qn rfl (r_assign rfl) (F.nil (Nrm.seq (Tri.ret ?_)))
    cases h
    exact Rtn.body (.tmp rfl .nil) (fun w hw=>⟨rfl,hw.ext⟩)


def impl_members.l0 (k : Nat) (a0 : Int) : Nat → (List (Int)) → Int → Option ((List (Int)))
 | 0,_,_=>none
 | n + 1,x3,x4=>if ¬ x4 < 0 then (if (decide ((shr a0 x4) > 0)) = true then if ¬ x4 < 0 then ((if ((band (shr a0 x4) 1) == 1) = true then if (x3 ++ ([x4] : List (Int))).length < 1099511627776 then some (x3 ++ ([x4] : List (Int))) else none else some x3)).bind fun y3=>impl_members.l0 k a0 n y3 (w64 (x4 + 1)) else none else some x3) else none

def impl_members.f (k : Nat) (a0 : Int) : Option ((List Int)) := (impl_members.l0 k a0 k ([] : List (Int)) 0).bind fun x3 => some x3

theorem impl_members.ok {k : Nat}  {a0 : Int} {r0 : List Int} (h : impl_members.f k a0 = some r0) (w : World) :
  Calls Tryz.prog 119 ([.int .i64 a0] : List Value).toArray w (Post (fun u ns=>∃ (Sr0 : Nat → Prop),SlLen u r0.length∧ns = [R.sl Sr0 u r0]) w):=by
 unfold impl_members.f at h
 refine Calls.of_tri (N:=22) Tryz.func119 rfl rfl rfl (Sep.nil (M:=noM)) ?_
 refine Tri.seq (Tri.reg (l:=[0]) rfl ?_)
 refine F.qn rfl (r_assign rfl) (F.nil (Nrm.seq (Tri.seq (Tri.reg (l:=[0,1]) rfl ?_))))
 refine F.mn rfl (m_build0 (α:=Int) Tryz.underlying25 ti3) ?_
 rintro v5_1 _ ⟨S5_1,hl_v5_1,rfl⟩
 refine F.qn rfl (r_assign rfl) (F.nil (Nrm.seq (Tri.seq (Tri.seq (Tri.reg (l:=[0]) rfl ?_)))))
 refine F.qn rfl (r_assign rfl) (F.nil (Nrm.seq ?_))
 obtain ⟨x3,hE_1,h⟩:=bind_some h
 refine Tri.block ?_
 refine Tri.only [0,3,4] rfl ?_
 refine Tri.pick [0] rfl rfl ?_
 refine Tri.rounds (fun n e' C'=>∃ (x3' : List (Int)) (x4' : Int) (w3 : Value) (T3 : Nat → Prop),impl_members.l0 k a0 n x3' x4' = some x3∧SlLen w3 (x3').length∧e' = [(0,.int .i64 a0),(3,w3),(4,.int .i64 x4')]∧C' = Sep w noM [R.sl T3 w3 (x3' : List (Int))]) k ?_ ?_ ?_
 ·exact ⟨([] : List (Int)),0,v5_1,S5_1,hE_1,hl_v5_1,rfl,rfl⟩
 ·rintro _ _ ⟨_,_,_,_,hE_1,_⟩
  rw [impl_members.l0.eq_1] at hE_1; cases hE_1
 ·rintro n_1 _ _ ⟨x3,x4,w3,T3,hE_1,hl_w3,rfl,rfl⟩ ih_1
  rw [impl_members.l0.eq_2] at hE_1
  refine Tri.seq (Tri.seq ?_)
  obtain ⟨hs8,hE_1⟩:=ck hE_1
  refine Tri.reg (l:=[0,1,2,3]) rfl ?_
  refine F.qn rfl (r_move rfl) (F.qn rfl (r_move rfl) (F.qn rfl (r_shr rfl rfl hs8) (F.qn rfl (r_gtr rfl rfl) (F.nil (Nrm.seq (Tri.cond (b:=decide ((shr a0 x4) > 0)) rfl (fun g_1=>?_) (fun g_1=>?_)))))))
  ·replace hE_1:=if_tt g_1 hE_1
   refine Tri.skip (Nrm.seq (Tri.seq (Tri.block ?_)))
   refine Tri.seq ?_
   obtain ⟨hs14,hE_1⟩:=ck hE_1
   refine Tri.reg (l:=[0,1,2,3,4]) rfl ?_
   refine F.qn rfl (r_move rfl) (F.qn rfl (r_move rfl) (F.qn rfl (r_shr rfl rfl hs14) (F.qn rfl (r_and rfl rfl) (F.qn rfl (r_eql rfl rfl) (F.nil (Nrm.seq ?_))))))
   obtain ⟨y3,hE_2,hE_1⟩:=bind_some hE_1
   refine Tri.cut (fun e' C'=>∃ (v3_1 : Value) (S3_1 : Nat → Prop),SlLen v3_1 (y3).length∧e' = [(0,.int .i64 a0),(3,v3_1),(4,.int .i64 x4)]∧C' = Sep w noM [R.sl S3_1 v3_1 (y3 : List (Int))]) ?_ (fun hj_1=>?_)
   ·rintro _ _ ⟨v3_1,S3_1,hl_v3_1,rfl,rfl⟩
    refine Nrm.block ?_
    refine Nrm.seq (Tri.reg (l:=[0,1,2]) rfl ?_)
    refine F.qn rfl (r_move rfl) (F.qn rfl (r_add rfl rfl) (F.qn rfl (r_assign rfl) (F.nil (Nrm.round ?_))))
    refine Rnd.only [0,3,4] rfl ?_
    refine Rnd.pick [0] rfl rfl ?_
    exact ih_1 _ _ ⟨y3,w64 (x4 + 1),v3_1,S3_1,hE_1,hl_v3_1,rfl,rfl⟩
   ·refine Tri.cond (b:=(band (shr a0 x4) 1) == 1) rfl (fun g_2=>?_) (fun g_2=>?_)
    ·replace hE_2:=if_tt g_2 hE_2
     obtain ⟨hs20,hE_2⟩:=ck hE_2
     refine Tri.reg (l:=[0,1,2,3,4]) rfl ?_
     refine F.qn rfl (r_move rfl) (F.qn rfl (r_move rfl) ?_)
     refine F.mn rfl (m_buildF (l:=([x4] : List (Int))) Tryz.underlying25 ti3 rfl rfl rfl rfl rfl) ?_
     rintro v19_1 _ ⟨S19_1,hl_v19_1,rfl⟩
     refine F.efn rfl (d_append (i:=1) Tryz.underlying25 Tryz.underlying25 ti3 rfl (by decide) rfl rfl rfl (rd_sl (i:=0) rfl) hs20) ?_
     rintro v20_1 _ ⟨S20_1,rfl,hl_v20_1⟩
     refine F.qn rfl (r_assign rfl) (F.nil ?_)
     cases hE_2
     refine Nrm.only [0,3,4] rfl ?_
     refine Nrm.pick [1] rfl rfl ?_
     exact hj_1 _ _ ⟨v20_1,S20_1,hl_v20_1,rfl,rfl⟩
    ·replace hE_2:=if_ff g_2 hE_2
     refine Tri.skip ?_
     cases hE_2
     refine Nrm.only [0,3,4] rfl ?_
     refine Nrm.pick [0] rfl rfl ?_
     exact hj_1 _ _ ⟨w3,T3,hl_w3,rfl,rfl⟩
  ·replace hE_1:=if_ff g_1 hE_1
   refine Tri.exit ?_
   refine Exi.then ?_
   refine Exi.then ?_
   refine Exi.same ?_
   cases hE_1
   refine Nrm.seq (Tri.seq (Tri.reg (l:=[0,1]) rfl ?_))
   refine F.qn rfl (r_move rfl) (F.qn rfl (r_assign rfl) (F.nil (Nrm.seq (Tri.ret ?_))))
   cases h
   exact Rtn.body (.tmp rfl .nil) (fun w hw=>⟨_,_,rfl,⟨T3,hl_w3,rfl⟩,Sep.pick (is:=[0]) rfl rfl hw⟩)

end Go.Proofs

/- A part of the proof of FnRequired: what the functions of the program compute, walked on the model. No condition. -/
import Derived.Test.YtebbaacgalipaaaGreatChecked
import Derived.Test.YtebbaacgalipaaaGreatFnRequiredB
set_option linter.unusedSimpArgs false
namespace Go.Proofs
open Go Go.Ga Go.Ga.Rp Go.Ga.Flat
theorem mixedT : Tryz.prog.follows .mixedOrders = true := by kernel_rfl
theorem eg168 : Tryz.prog.eqGuardType Tryz.prog.depth 168 = false := by kernel_rfl
theorem ok10 : CallOk Tryz.prog 10 := .of Tryz.func10 rfl (by decide)
theorem ok100 : CallOk Tryz.prog 100 := .of Tryz.func100 rfl (by decide)
theorem ok101 : CallOk Tryz.prog 101 := .of Tryz.func101 rfl (by decide)
theorem ok102 : CallOk Tryz.prog 102 := .of Tryz.func102 rfl (by decide)
theorem ok103 : CallOk Tryz.prog 103 := .of Tryz.func103 rfl (by decide)
theorem ok104 : CallOk Tryz.prog 104 := .of Tryz.func104 rfl (by decide)
theorem ok105 : CallOk Tryz.prog 105 := .of Tryz.func105 rfl (by decide)
theorem ok106 : CallOk Tryz.prog 106 := .of Tryz.func106 rfl (by decide)
theorem ok107 : CallOk Tryz.prog 107 := .of Tryz.func107 rfl (by decide)
theorem ok108 : CallOk Tryz.prog 108 := .of Tryz.func108 rfl (by decide)
theorem ok11 : CallOk Tryz.prog 11 := .of Tryz.func11 rfl (by decide)
theorem ok115 : CallOk Tryz.prog 115 := .of Tryz.func115 rfl (by decide)
theorem ok119 : CallOk Tryz.prog 119 := .of Tryz.func119 rfl (by decide)
theorem ok12 : CallOk Tryz.prog 12 := .of Tryz.func12 rfl (by decide)
theorem ok120 : CallOk Tryz.prog 120 := .of Tryz.func120 rfl (by decide)
theorem ok124 : CallOk Tryz.prog 124 := .of Tryz.func124 rfl (by decide)
theorem ok13 : CallOk Tryz.prog 13 := .of Tryz.func13 rfl (by decide)
theorem ok14 : CallOk Tryz.prog 14 := .of Tryz.func14 rfl (by decide)
theorem ok141 : CallOk Tryz.prog 141 := .of Tryz.func141 rfl (by decide)
theorem ok144 : CallOk Tryz.prog 144 := .of Tryz.func144 rfl (by decide)
theorem ok148 : CallOk Tryz.prog 148 := .of Tryz.func148 rfl (by decide)
theorem ok149 : CallOk Tryz.prog 149 := .of Tryz.func149 rfl (by decide)
theorem ok15 : CallOk Tryz.prog 15 := .of Tryz.func15 rfl (by decide)
theorem ok16 : CallOk Tryz.prog 16 := .of Tryz.func16 rfl (by decide)
theorem ok17 : CallOk Tryz.prog 17 := .of Tryz.func17 rfl (by decide)
theorem ok172 : CallOk Tryz.prog 172 := .of Tryz.func172 rfl (by decide)
theorem ok173 : CallOk Tryz.prog 173 := .of Tryz.func173 rfl (by decide)
theorem ok174 : CallOk Tryz.prog 174 := .of Tryz.func174 rfl (by decide)
theorem ok175 : CallOk Tryz.prog 175 := .of Tryz.func175 rfl (by decide)
theorem ok176 : CallOk Tryz.prog 176 := .of Tryz.func176 rfl (by decide)
theorem ok177 : CallOk Tryz.prog 177 := .of Tryz.func177 rfl (by decide)
theorem ok178 : CallOk Tryz.prog 178 := .of Tryz.func178 rfl (by decide)
theorem ok179 : CallOk Tryz.prog 179 := .of Tryz.func179 rfl (by decide)
theorem ok18 : CallOk Tryz.prog 18 := .of Tryz.func18 rfl (by decide)
theorem ok180 : CallOk Tryz.prog 180 := .of Tryz.func180 rfl (by decide)
theorem ok181 : CallOk Tryz.prog 181 := .of Tryz.func181 rfl (by decide)
theorem ok182 : CallOk Tryz.prog 182 := .of Tryz.func182 rfl (by decide)
theorem ok183 : CallOk Tryz.prog 183 := .of Tryz.func183 rfl (by decide)
theorem ok184 : CallOk Tryz.prog 184 := .of Tryz.func184 rfl (by decide)
theorem ok185 : CallOk Tryz.prog 185 := .of Tryz.func185 rfl (by decide)
theorem ok186 : CallOk Tryz.prog 186 := .of Tryz.func186 rfl (by decide)
theorem ok187 : CallOk Tryz.prog 187 := .of Tryz.func187 rfl (by decide)
theorem ok188 : CallOk Tryz.prog 188 := .of Tryz.func188 rfl (by decide)
theorem ok189 : CallOk Tryz.prog 189 := .of Tryz.func189 rfl (by decide)
theorem ok19 : CallOk Tryz.prog 19 := .of Tryz.func19 rfl (by decide)
theorem ok190 : CallOk Tryz.prog 190 := .of Tryz.func190 rfl (by decide)
theorem ok191 : CallOk Tryz.prog 191 := .of Tryz.func191 rfl (by decide)
theorem ok192 : CallOk Tryz.prog 192 := .of Tryz.func192 rfl (by decide)
theorem ok193 : CallOk Tryz.prog 193 := .of Tryz.func193 rfl (by decide)
theorem ok194 : CallOk Tryz.prog 194 := .of Tryz.func194 rfl (by decide)
theorem ok195 : CallOk Tryz.prog 195 := .of Tryz.func195 rfl (by decide)
theorem ok196 : CallOk Tryz.prog 196 := .of Tryz.func196 rfl (by decide)
theorem ok197 : CallOk Tryz.prog 197 := .of Tryz.func197 rfl (by decide)
theorem ok198 : CallOk Tryz.prog 198 := .of Tryz.func198 rfl (by decide)
theorem ok199 : CallOk Tryz.prog 199 := .of Tryz.func199 rfl (by decide)
theorem ok20 : CallOk Tryz.prog 20 := .of Tryz.func20 rfl (by decide)
theorem ok200 : CallOk Tryz.prog 200 := .of Tryz.func200 rfl (by decide)
theorem ok201 : CallOk Tryz.prog 201 := .of Tryz.func201 rfl (by decide)
theorem ok202 : CallOk Tryz.prog 202 := .of Tryz.func202 rfl (by decide)
theorem ok206 : CallOk Tryz.prog 206 := .of Tryz.func206 rfl (by decide)
theorem ok207 : CallOk Tryz.prog 207 := .of Tryz.func207 rfl (by decide)
theorem ok208 : CallOk Tryz.prog 208 := .of Tryz.func208 rfl (by decide)
theorem ok209 : CallOk Tryz.prog 209 := .of Tryz.func209 rfl (by decide)
theorem ok21 : CallOk Tryz.prog 21 := .of Tryz.func21 rfl (by decide)
theorem ok216 : CallOk Tryz.prog 216 := .of Tryz.func216 rfl (by decide)
theorem ok22 : CallOk Tryz.prog 22 := .of Tryz.func22 rfl (by decide)
theorem ok23 : CallOk Tryz.prog 23 := .of Tryz.func23 rfl (by decide)
theorem ok230 : CallOk Tryz.prog 230 := .of Tryz.func230 rfl (by decide)
theorem ok231 : CallOk Tryz.prog 231 := .of Tryz.func231 rfl (by decide)
theorem ok232 : CallOk Tryz.prog 232 := .of Tryz.func232 rfl (by decide)
theorem ok233 : CallOk Tryz.prog 233 := .of Tryz.func233 rfl (by decide)
theorem ok234 : CallOk Tryz.prog 234 := .of Tryz.func234 rfl (by decide)
theorem ok237 : CallOk Tryz.prog 237 := .of Tryz.func237 rfl (by decide)
theorem ok238 : CallOk Tryz.prog 238 := .of Tryz.func238 rfl (by decide)
theorem ok24 : CallOk Tryz.prog 24 := .of Tryz.func24 rfl (by decide)
theorem ok244 : CallOk Tryz.prog 244 := .of Tryz.func244 rfl (by decide)
theorem ok245 : CallOk Tryz.prog 245 := .of Tryz.func245 rfl (by decide)
theorem ok249 : CallOk Tryz.prog 249 := .of Tryz.func249 rfl (by decide)
theorem ok25 : CallOk Tryz.prog 25 := .of Tryz.func25 rfl (by decide)
theorem ok26 : CallOk Tryz.prog 26 := .of Tryz.func26 rfl (by decide)
theorem ok261 : CallOk Tryz.prog 261 := .of Tryz.func261 rfl (by decide)
theorem ok27 : CallOk Tryz.prog 27 := .of Tryz.func27 rfl (by decide)
theorem ok7 : CallOk Tryz.prog 7 := .of Tryz.func7 rfl (by decide)
theorem ok8 : CallOk Tryz.prog 8 := .of Tryz.func8 rfl (by decide)
theorem ok83 : CallOk Tryz.prog 83 := .of Tryz.func83 rfl (by decide)
theorem ok84 : CallOk Tryz.prog 84 := .of Tryz.func84 rfl (by decide)
theorem ok85 : CallOk Tryz.prog 85 := .of Tryz.func85 rfl (by decide)
theorem ok86 : CallOk Tryz.prog 86 := .of Tryz.func86 rfl (by decide)
theorem ok87 : CallOk Tryz.prog 87 := .of Tryz.func87 rfl (by decide)
theorem ok88 : CallOk Tryz.prog 88 := .of Tryz.func88 rfl (by decide)
theorem ok89 : CallOk Tryz.prog 89 := .of Tryz.func89 rfl (by decide)
theorem ok9 : CallOk Tryz.prog 9 := .of Tryz.func9 rfl (by decide)
theorem ok90 : CallOk Tryz.prog 90 := .of Tryz.func90 rfl (by decide)
theorem ok91 : CallOk Tryz.prog 91 := .of Tryz.func91 rfl (by decide)
theorem ok92 : CallOk Tryz.prog 92 := .of Tryz.func92 rfl (by decide)
theorem ok93 : CallOk Tryz.prog 93 := .of Tryz.func93 rfl (by decide)
theorem ok94 : CallOk Tryz.prog 94 := .of Tryz.func94 rfl (by decide)
theorem ok95 : CallOk Tryz.prog 95 := .of Tryz.func95 rfl (by decide)
theorem ok96 : CallOk Tryz.prog 96 := .of Tryz.func96 rfl (by decide)
theorem ok97 : CallOk Tryz.prog 97 := .of Tryz.func97 rfl (by decide)
theorem ok98 : CallOk Tryz.prog 98 := .of Tryz.func98 rfl (by decide)
theorem ok99 : CallOk Tryz.prog 99 := .of Tryz.func99 rfl (by decide)
theorem ta112 : TAgg Tryz.prog 112 false := .of (by kernel_rfl)
theorem ta128 : TAgg Tryz.prog 128 true := .of (by kernel_rfl)
theorem ta168 : TAgg Tryz.prog 168 true := .of (by kernel_rfl)
theorem ta22 : TAgg Tryz.prog 22 false := .of (by kernel_rfl)
theorem ta24 : TAgg Tryz.prog 24 false := .of (by kernel_rfl)
theorem ta25 : TAgg Tryz.prog 25 false := .of (by kernel_rfl)
theorem ta27 : TAgg Tryz.prog 27 true := .of (by kernel_rfl)
theorem ta3 : TAgg Tryz.prog 3 false := .of (by kernel_rfl)
theorem ta5 : TAgg Tryz.prog 5 false := .of (by kernel_rfl)
theorem tf114_0 : TField Tryz.prog 114 0 0 := .of (k := 0) (by kernel_rfl)
theorem tf114_1 : TField Tryz.prog 114 1 1 := .of (k := 0) (by kernel_rfl)
theorem tf114_2 : TField Tryz.prog 114 2 2 := .of (k := 0) (by kernel_rfl)
theorem tf27_0 : TField Tryz.prog 27 0 0 := .of (k := 0) (by kernel_rfl)
theorem tf27_1 : TField Tryz.prog 27 1 1 := .of (k := 0) (by kernel_rfl)
theorem tf27_2 : TField Tryz.prog 27 2 2 := .of (k := 0) (by kernel_rfl)
theorem ti112 : TInfo Tryz.prog 112 1 8 (.int .u64 0) := .of (by kernel_rfl)
theorem ti114 : TInfo Tryz.prog 114 3 40 (.agg #[.slice none 0 0, .int .i64 0, .int .u64 0]) := .of (by kernel_rfl)
theorem ti128 : TInfo Tryz.prog 128 2 16 (.agg #[.int .i64 0, .int .i64 0]) := .of (by kernel_rfl)
theorem ti168 : TInfo Tryz.prog 168 3 24 (.agg #[.int .i64 0, .int .i64 0, .int .i64 0]) := .of (by kernel_rfl)
theorem ti24 : TInfo Tryz.prog 24 1 24 (.slice none 0 0) := .of (by kernel_rfl)
theorem ti25 : TInfo Tryz.prog 25 1 24 (.slice none 0 0) := .of (by kernel_rfl)
theorem ti27 : TInfo Tryz.prog 27 3 56 (.agg #[.int .i64 0, .slice none 0 0, .slice none 0 0]) := .of (by kernel_rfl)
theorem ti3 : TInfo Tryz.prog 3 1 8 (.int .i64 0) := .of (by kernel_rfl)
theorem ti5 : TInfo Tryz.prog 5 1 1 (.int .u8 0) := .of (by kernel_rfl)
end Go.Proofs

/- loop.example/g01158/laws.vBig -/

namespace Go.Proofs
open Go Go.Ga
set_option linter.unusedVariables false
set_option maxRecDepth 100000
set_option maxHeartbeats 4000000
def laws_vBig.f (k : Nat) (a0 : List By) : Option (Bool) := some (decide ((a0.length : Int) > 65536))

theorem laws_vBig.ok {k : Nat}  {a0 : List By} {r0 : Bool} (h : laws_vBig.f k a0 = some r0) (w : World) {va0 : Value} (hr_a0 : Rd w va0 a0) :
  Calls Tryz.prog 7 ([va0] : List Value).toArray w (fun e w' => e = .returned (.bool r0) ∧ Ext w w') := by
 unfold laws_vBig.f at h
 have hl_va0 := hr_a0.len
 refine Calls.of_tri (N := 6) Tryz.func7 rfl rfl rfl (Sep.nil (M := noM)) ?_
 refine Tri.seq (Tri.reg (l := [0]) rfl ?_)
 refine F.qn rfl (r_assign rfl) (F.nil (Nrm.seq (Tri.seq (Tri.reg (l := [0, 1, 2, 3]) rfl ?_))))
 refine F.qn rfl (r_move rfl) (F.qn rfl (r_len Tryz.underlying22 rfl hl_va0) (F.qn rfl (r_gtr rfl rfl) (F.qn rfl (r_assign rfl) (F.nil (Nrm.seq (Tri.ret ?_))))))
 cases h
 exact Rtn.body (.tmp rfl .nil) (fun w hw => ⟨rfl, hw.ext⟩)


def spec_l1Cur_next.f (k : Nat) (a0_0 : List By) (a0_1 : Int) (a0_2 : Int) : Option (Int × Int × Int) := ((if (decide (a0_1 < (a0_0.length : Int))) = true then (rdl a0_0 a0_1).bind fun t22 => some (IntKind.i64.wrap t22.v) else some (0 : Int))).bind fun y3 => (if (decide ((w64 (a0_1 + 1)) ≤ (a0_0.length : Int))) = true then some (y3, w64 (a0_1 + 1), wU ((wU ((wU (a0_2 * 6364136223846793005)) + (IntKind.u64.wrap y3))) + 462197)) else some (IntKind.i64.wrap (uand (shr (wU ((wU ((wU (a0_2 * 6364136223846793005)) + (IntKind.u64.wrap y3))) + 462197)) 40) 255), w64 (a0_1 + 1), wU ((wU ((wU (a0_2 * 6364136223846793005)) + (IntKind.u64.wrap y3))) + 462197)))

theorem spec_l1Cur_next.ok {k : Nat}  {a0_0 : List By} {a0_1 : Int} {a0_2 : Int} {r0 : Int} {r1 : Int} {r2 : Int} (h : spec_l1Cur_next.f k a0_0 a0_1 a0_2 = some (r0, r1, r2)) (w : World) {pa0 : Nat} {va0_0 : Value} (hr_a0_0 : RdM w (footM [R.box pa0 114 [va0_0, .int .i64 a0_1, .int .u64 a0_2]]) va0_0 a0_0) (hw0 : Sep w (footM [R.box pa0 114 [va0_0, .int .i64 a0_1, .int .u64 a0_2]]) [R.box pa0 114 [va0_0, .int .i64 a0_1, .int .u64 a0_2]] w) :
  Calls Tryz.prog 206 ([.pointer (some ⟨pa0, 0, none⟩)] : List Value).toArray w (PostM (footM [R.box pa0 114 [va0_0, .int .i64 a0_1, .int .u64 a0_2]]) (fun u ns => u = .int .i64 r0 ∧ ns = [R.box pa0 114 [va0_0, .int .i64 r1, .int .u64 r2]]) w) := by
 unfold spec_l1Cur_next.f at h
 have hl_va0_0 := hr_a0_0.len
 refine Calls.of_tri (N := 62) Tryz.func206 rfl rfl rfl hw0 ?_
 refine Tri.seq (Tri.reg (l := [0]) rfl ?_)
 refine F.qn rfl (r_assign rfl) (F.nil (Nrm.seq (Tri.seq (Tri.reg (l := [0]) rfl ?_))))
 refine F.qn rfl (r_assign rfl) (F.nil (Nrm.seq (Tri.seq (Tri.seq (Tri.drawA mixedT Sep.up [(0, true), (1, true), (2, true), (3, true), (4, true), (5, true), (6, true), (7, true), (8, true), (9, true)] [] (by kernel_rfl) ?_)))))
 refine S.qn rfl (r_move rfl) (S.qn rfl (r_nilC rfl) (S.qn rfl (r_fieldAddr tf114_1 rfl) (S.qn rfl (r_load ta3 rfl (fun w hw => cell_1 (box_cells (i := 0) rfl w hw) rfl)) ?_)))
 refine S.qn rfl (r_move rfl) (S.qn rfl (r_nilC rfl) (S.qn rfl (r_fieldAddr tf114_0 rfl) (S.qn rfl (r_load ta22 rfl (fun w hw => cell_1 (box_cells (i := 0) rfl w hw) rfl)) (S.qn rfl (r_len Tryz.underlying22 rfl hl_va0_0) (S.qn rfl (r_lss rfl rfl) (S.nil (F.nil (Nrm.seq ?_))))))))
 obtain ⟨y3, hE_1, h⟩ := bind_some h
 refine Tri.cut (fun e' C' => e' = [(0, .pointer (some ⟨pa0, 0, none⟩)), (3, .int .i64 y3)] ∧ C' = Sep w (footM [R.box pa0 114 [va0_0, .int .i64 a0_1, .int .u64 a0_2]]) [R.box pa0 114 [va0_0, .int .i64 a0_1, .int .u64 a0_2]]) ?_ (fun hj_1 => ?_)
 ·rintro _ _ ⟨rfl, rfl⟩
  refine Nrm.seq (Tri.seq (Tri.reg (l := [0, 1, 2, 3, 4, 5, 6, 7]) rfl ?_))
  refine F.qn rfl (r_move rfl) ?_
  refine F.qn rfl (r_nilC rfl) (F.qn rfl (r_fieldAddr tf114_1 rfl) (F.qn rfl (r_load ta3 rfl (fun w hw => cell_1 (box_cells (i := 0) rfl w hw) rfl)) (F.qn rfl (r_add rfl rfl) (F.qn rfl (r_nilC rfl) (F.qn rfl (r_fieldAddr tf114_1 rfl) ?_)))))
  refine F.ef0 rfl rfl (wanted_none rfl) (d_storeG1 (i := 0) (cs2 := [.int .i64 (w64 (a0_1 + 1))]) ti3 rfl rfl rfl rfl rfl (Nat.le_of_ble_eq_true rfl) (lf_cons rfl lf_nil)) ?_
  rintro _ _ ⟨rfl, rfl⟩
  refine F.nil (Nrm.seq (Tri.seq (Tri.reg (l := List.range 13) rfl ?_)))
  refine F.qn rfl (r_move rfl) (F.qn rfl (r_move rfl) (F.qn rfl (r_nilC rfl) (F.qn rfl (r_fieldAddr tf114_2 rfl) (F.qn rfl (r_load ta112 rfl (fun w hw => cell_1 (box_cells (i := 0) rfl w hw) rfl)) (F.qn rfl (r_mulU rfl rfl) ?_)))))
  refine F.qn rfl (r_move rfl) (F.qn rfl (r_conv Tryz.underlying3 Tryz.underlying112 rfl) (F.qn rfl (r_addU rfl rfl) (F.qn rfl (r_addU rfl rfl) (F.qn rfl (r_nilC rfl) (F.qn rfl (r_fieldAddr tf114_2 rfl) ?_)))))
  refine F.ef0 rfl rfl (wanted_none rfl) (d_storeG1 (i := 0) (cs2 := [.int .u64 (wU ((wU ((wU (a0_2 * 6364136223846793005)) + (IntKind.u64.wrap y3))) + 462197))]) ti112 rfl rfl rfl rfl rfl (Nat.le_of_ble_eq_true rfl) (lf_cons rfl lf_nil)) ?_
  rintro _ _ ⟨rfl, rfl⟩
  refine F.nil (Nrm.seq (Tri.seq (Tri.seq (Tri.drawA mixedT Sep.up [(0, true), (1, true), (2, true), (3, true), (4, true), (5, true), (6, true), (7, true), (8, true), (9, true)] [] (by kernel_rfl) ?_))))
  refine S.qn rfl (r_move rfl) (S.qn rfl (r_nilC rfl) (S.qn rfl (r_fieldAddr tf114_1 rfl) (S.qn rfl (r_load ta3 rfl (fun w hw => cell_1 (box_cells (i := 0) rfl w hw) rfl)) ?_)))
  refine S.qn rfl (r_move rfl) (S.qn rfl (r_nilC rfl) (S.qn rfl (r_fieldAddr tf114_0 rfl) (S.qn rfl (r_load ta22 rfl (fun w hw => cell_1 (box_cells (i := 0) rfl w hw) rfl)) (S.qn rfl (r_len Tryz.underlying22 rfl hl_va0_0) (S.qn rfl (r_leq rfl rfl) (S.nil (F.nil (Nrm.seq (Tri.cond (b := decide ((w64 (a0_1 + 1)) ≤ (a0_0.length : Int))) rfl (fun g_2 => ?_) (fun g_2 => ?_))))))))))
  ·replace h := if_tt g_2 h
   refine Tri.seq (Tri.reg (l := [0, 1]) rfl ?_)
   refine F.qn rfl (r_move rfl) (F.qn rfl (r_assign rfl) (F.nil (Nrm.seq (Tri.ret ?_))))
   refine Rtn.then ?_
   cases h
   exact Rtn.body (.tmp rfl .nil) (fun w hw => ⟨_, _, rfl, ⟨rfl, rfl⟩, Sep.pick (is := [0]) rfl rfl hw⟩)
  ·replace h := if_ff g_2 h
   refine Tri.skip (Nrm.seq (Tri.seq (Tri.reg (l := [0, 1, 2, 3, 4, 5, 6, 7]) rfl ?_)))
   refine F.qn rfl (r_move rfl) (F.qn rfl (r_nilC rfl) ?_)
   refine F.qn rfl (r_fieldAddr tf114_2 rfl) (F.qn rfl (r_load ta112 rfl (fun w hw => cell_1 (box_cells (i := 0) rfl w hw) rfl)) (F.qn rfl (r_shrU rfl rfl (by decide)) (F.qn rfl (r_andU rfl rfl) (F.qn rfl (r_conv Tryz.underlying112 Tryz.underlying3 rfl) (F.qn rfl (r_assign rfl) (F.nil (Nrm.seq (Tri.ret ?_))))))))
   cases h
   exact Rtn.body (.tmp rfl .nil) (fun w hw => ⟨_, _, rfl, ⟨rfl, rfl⟩, Sep.pick (is := [0]) rfl rfl hw⟩)
 ·refine Tri.cond (b := decide (a0_1 < (a0_0.length : Int))) rfl (fun g_1 => ?_) (fun g_1 => ?_)
  ·replace hE_1 := if_tt g_1 hE_1
   obtain ⟨t22, h22, hE_1⟩ := bind_some hE_1
   refine Tri.drawA mixedT Sep.up [(0, true), (1, true), (2, true), (3, true), (4, true), (5, true), (6, true), (7, true), (8, true), (9, true), (10, true), (11, true)] [] (by kernel_rfl) ?_
   refine S.qn rfl (r_move rfl) (S.qn rfl (r_nilC rfl) (S.qn rfl (r_fieldAddr tf114_0 rfl) (S.qn rfl (r_load ta22 rfl (fun w hw => cell_1 (box_cells (i := 0) rfl w hw) rfl)) (S.qn rfl (r_move rfl) (S.qn rfl (r_nilC rfl) ?_)))))
   refine S.qn rfl (r_fieldAddr tf114_1 rfl) (S.qn rfl (r_load ta3 rfl (fun w hw => cell_1 (box_cells (i := 0) rfl w hw) rfl)) (S.qn rfl (r_indexAddrS Tryz.underlying22 ti5 rfl hl_va0_0 rfl (rdl_some h22).1 (rdl_some h22).2.1) (S.qn rfl (r_load ta5 rfl (fun w hw => cell_0 (Rd.flat ((fun _ hw => hr_a0_0.sep hw) w hw) (rdl_some h22).2.2) rfl)) (S.qn rfl (r_conv Tryz.underlying5 Tryz.underlying3 rfl) (S.qn rfl (r_assign rfl) (S.nil (F.nil ?_)))))))
   cases hE_1
   refine Nrm.only [0, 3] rfl ?_
   refine Nrm.pick [0] rfl rfl ?_
   exact hj_1 _ _ ⟨rfl, rfl⟩
  ·replace hE_1 := if_ff g_1 hE_1
   refine Tri.skip ?_
   cases hE_1
   refine Nrm.only [0, 3] rfl ?_
   refine Nrm.pick [0] rfl rfl ?_
   exact hj_1 _ _ ⟨rfl, rfl⟩


def spec_l1Cur_pick.f (k : Nat) (a0_0 : List By) (a0_1 : Int) (a0_2 : Int) (a1 : Int) : Option (Int × Int × Int) := (if (decide (a1 ≤ 1)) = true then some (0, a0_1, a0_2) else (spec_l1Cur_next.f k a0_0 a0_1 a0_2).bind fun (t9_1, t9_2, t9_3) => ((if (decide (a1 > 200)) = true then (spec_l1Cur_next.f k a0_0 t9_2 t9_3).bind fun (t15_1, t15_2, t15_3) => some (w64 ((w64 (t9_1 * 256)) + t15_1), t15_2, t15_3) else some (t9_1, t9_2, t9_3))).bind fun (y5, ypa0_1, ypa0_2) => if ¬ a1 = 0 then some (rem y5 a1, ypa0_1, ypa0_2) else none)

theorem spec_l1Cur_pick.ok {k : Nat}  {a0_0 : List By} {a0_1 : Int} {a0_2 : Int} {a1 : Int} {r0 : Int} {r1 : Int} {r2 : Int} (h : spec_l1Cur_pick.f k a0_0 a0_1 a0_2 a1 = some (r0, r1, r2)) (w : World) {pa0 : Nat} {va0_0 : Value} (hr_a0_0 : RdM w (footM [R.box pa0 114 [va0_0, .int .i64 a0_1, .int .u64 a0_2]]) va0_0 a0_0) (hw0 : Sep w (footM [R.box pa0 114 [va0_0, .int .i64 a0_1, .int .u64 a0_2]]) [R.box pa0 114 [va0_0, .int .i64 a0_1, .int .u64 a0_2]] w) :
  Calls Tryz.prog 115 ([.pointer (some ⟨pa0, 0, none⟩), .int .i64 a1] : List Value).toArray w (PostM (footM [R.box pa0 114 [va0_0, .int .i64 a0_1, .int .u64 a0_2]]) (fun u ns => u = .int .i64 r0 ∧ ns = [R.box pa0 114 [va0_0, .int .i64 r1, .int .u64 r2]]) w) := by
 unfold spec_l1Cur_pick.f at h
 have hl_va0_0 := hr_a0_0.len
 refine Calls.of_tri (N := 20) Tryz.func115 rfl rfl rfl hw0 ?_
 refine Tri.seq (Tri.reg (l := [0]) rfl ?_)
 refine F.qn rfl (r_assign rfl) (F.nil (Nrm.seq (Tri.seq (Tri.seq (Tri.reg (l := [0, 1]) rfl ?_)))))
 refine F.qn rfl (r_move rfl) (F.qn rfl (r_leq rfl rfl) (F.nil (Nrm.seq (Tri.cond (b := decide (a1 ≤ 1)) rfl (fun g_1 => ?_) (fun g_1 => ?_)))))
 ·replace h := if_tt g_1 h
  refine Tri.seq (Tri.reg (l := [0]) rfl ?_)
  refine F.qn rfl (r_assign rfl) (F.nil (Nrm.seq (Tri.ret ?_)))
  refine Rtn.then ?_
  cases h
  exact Rtn.body (.tmp rfl .nil) (fun w hw => ⟨_, _, rfl, ⟨rfl, rfl⟩, Sep.pick (is := [0]) rfl rfl hw⟩)
 ·replace h := if_ff g_1 h
  refine Tri.skip (Nrm.seq (Tri.seq ?_))
  obtain ⟨⟨t9_1, t9_2, t9_3⟩, h9, h⟩ := bind_some h
  refine Tri.reg (l := [0, 1, 2]) rfl ?_
  refine F.qn rfl (r_move rfl) ?_
  refine F.efn rfl (d_callM (xs := _) (cs := [R.box pa0 114 [va0_0, .int .i64 a0_1, .int .u64 a0_2]]) (rest := []) [0] [] rfl ok206 rfl rfl rfl rfl (fun w hw => spec_l1Cur_next.ok h9 w (hr_a0_0.down hw) (Sep.sub hw))) ?_
  rintro _ _ ⟨_, ⟨rfl, rfl⟩, rfl⟩
  refine F.qn rfl (r_assign rfl) (F.nil (Nrm.seq (Tri.seq (Tri.seq (Tri.reg (l := [0, 1]) rfl ?_)))))
  refine F.qn rfl (r_move rfl) (F.qn rfl (r_gtr rfl rfl) (F.nil (Nrm.seq ?_)))
  obtain ⟨⟨y5, ypa0_1, ypa0_2⟩, hE_1, h⟩ := bind_some h
  refine Tri.cut (fun e' C' => e' = [(1, .int .i64 a1), (5, .int .i64 y5)] ∧ C' = Sep w (footM [R.box pa0 114 [va0_0, .int .i64 a0_1, .int .u64 a0_2]]) [R.box pa0 114 [va0_0, .int .i64 ypa0_1, .int .u64 ypa0_2]]) ?_ (fun hj_1 => ?_)
  ·rintro _ _ ⟨rfl, rfl⟩
   refine Nrm.seq (Tri.seq ?_)
   obtain ⟨hs19, h⟩ := ck h
   refine Tri.reg (l := [0, 1, 2, 3]) rfl ?_
   refine F.qn rfl (r_move rfl) (F.qn rfl (r_move rfl) (F.qn rfl (r_rem rfl rfl hs19) (F.qn rfl (r_assign rfl) (F.nil (Nrm.seq (Tri.ret ?_))))))
   cases h
   exact Rtn.body (.tmp rfl .nil) (fun w hw => ⟨_, _, rfl, ⟨rfl, rfl⟩, Sep.pick (is := [0]) rfl rfl hw⟩)
  ·refine Tri.cond (b := decide (a1 > 200)) rfl (fun g_2 => ?_) (fun g_2 => ?_)
   ·replace hE_1 := if_tt g_2 hE_1
    obtain ⟨⟨t15_1, t15_2, t15_3⟩, h15, hE_1⟩ := bind_some hE_1
    refine Tri.reg (l := [0, 1, 2, 3, 4, 5]) rfl ?_
    refine F.qn rfl (r_move rfl) (F.qn rfl (r_mul rfl rfl) (F.qn rfl (r_move rfl) ?_))
    refine F.efn rfl (d_callM (xs := _) (cs := [R.box pa0 114 [va0_0, .int .i64 t9_2, .int .u64 t9_3]]) (rest := []) [0] [] rfl ok206 rfl rfl rfl rfl (fun w hw => spec_l1Cur_next.ok h15 w (hr_a0_0.down hw) (Sep.sub hw))) ?_
    rintro _ _ ⟨_, ⟨rfl, rfl⟩, rfl⟩
    refine F.qn rfl (r_add rfl rfl) (F.qn rfl (r_assign rfl) (F.nil ?_))
    cases hE_1
    refine Nrm.only [1, 5] rfl ?_
    refine Nrm.pick [0] rfl rfl ?_
    exact hj_1 _ _ ⟨rfl, rfl⟩
   ·replace hE_1 := if_ff g_2 hE_1
    refine Tri.skip ?_
    cases hE_1
    refine Nrm.only [1, 5] rfl ?_
    refine Nrm.pick [0] rfl rfl ?_
    exact hj_1 _ _ ⟨rfl, rfl⟩


def spec_l1Cur_among.f (k : Nat) (a0_0 : List By) (a0_1 : Int) (a0_2 : Int) (a1 : List Int) : Option (Int × Int × Int) := (spec_l1Cur_pick.f k a0_0 a0_1 a0_2 (a1.length : Int)).bind fun (t9_1, t9_2, t9_3) => (rdl a1 t9_1).bind fun t10 => some (t10, t9_2, t9_3)

theorem spec_l1Cur_among.ok {k : Nat}  {a0_0 : List By} {a0_1 : Int} {a0_2 : Int} {a1 : List Int} {r0 : Int} {r1 : Int} {r2 : Int} (h : spec_l1Cur_among.f k a0_0 a0_1 a0_2 a1 = some (r0, r1, r2)) (w : World) {pa0 : Nat} {va0_0 : Value} (hr_a0_0 : RdM w (footM [R.box pa0 114 [va0_0, .int .i64 a0_1, .int .u64 a0_2]]) va0_0 a0_0) {va1 : Value} (hr_a1 : RdM w (footM [R.box pa0 114 [va0_0, .int .i64 a0_1, .int .u64 a0_2]]) va1 a1) (hw0 : Sep w (footM [R.box pa0 114 [va0_0, .int .i64 a0_1, .int .u64 a0_2]]) [R.box pa0 114 [va0_0, .int .i64 a0_1, .int .u64 a0_2]] w) :
  Calls Tryz.prog 194 ([.pointer (some ⟨pa0, 0, none⟩), va1] : List Value).toArray w (PostM (footM [R.box pa0 114 [va0_0, .int .i64 a0_1, .int .u64 a0_2]]) (fun u ns => u = .int .i64 r0 ∧ ns = [R.box pa0 114 [va0_0, .int .i64 r1, .int .u64 r2]]) w) := by
 unfold spec_l1Cur_among.f at h
 have hl_va0_0 := hr_a0_0.len
 have hl_va1 := hr_a1.len
 refine Calls.of_tri (N := 12) Tryz.func194 rfl rfl rfl hw0 ?_
 refine Tri.seq (Tri.reg (l := [0]) rfl ?_)
 refine F.qn rfl (r_assign rfl) (F.nil (Nrm.seq (Tri.seq ?_)))
 obtain ⟨⟨t9_1, t9_2, t9_3⟩, h9, h⟩ := bind_some h
 obtain ⟨t10, h10, h⟩ := bind_some h
 refine Tri.reg (l := [0, 1, 2, 3, 4, 5, 6, 7]) rfl ?_
 iterate 3 refine F.qn rfl (r_move rfl) ?_
 refine F.qn rfl (r_len Tryz.underlying25 rfl hl_va1) ?_
 refine F.efn rfl (d_callM (xs := _) (cs := [R.box pa0 114 [va0_0, .int .i64 a0_1, .int .u64 a0_2]]) (rest := []) [0] [] rfl ok115 rfl rfl rfl rfl (fun w hw => spec_l1Cur_pick.ok h9 w (hr_a0_0.down hw) (Sep.sub hw))) ?_
 rintro _ _ ⟨_, ⟨rfl, rfl⟩, rfl⟩
 refine F.qn rfl (r_indexAddrS Tryz.underlying25 ti3 rfl hl_va1 rfl (rdl_some h10).1 (rdl_some h10).2.1) (F.qn rfl (r_load ta3 rfl (fun w hw => cell_0 (Rd.flat ((fun _ hw => hr_a1.sep hw) w hw) (rdl_some h10).2.2) rfl)) (F.qn rfl (r_assign rfl) (F.nil (Nrm.seq (Tri.ret ?_)))))
 cases h
 exact Rtn.body (.tmp rfl .nil) (fun w hw => ⟨_, _, rfl, ⟨rfl, rfl⟩, Sep.pick (is := [0]) rfl rfl hw⟩)


def spec_l1Cur_one.f (k : Nat) (a0_0 : List By) (a0_1 : Int) (a0_2 : Int) (a1 : Int) : Option (Bool × Int × Int) := (spec_l1Cur_pick.f k a0_0 a0_1 a0_2 a1).bind fun (t7_1, t7_2, t7_3) => some (t7_1 == 0, t7_2, t7_3)

theorem spec_l1Cur_one.ok {k : Nat}  {a0_0 : List By} {a0_1 : Int} {a0_2 : Int} {a1 : Int} {r0 : Bool} {r1 : Int} {r2 : Int} (h : spec_l1Cur_one.f k a0_0 a0_1 a0_2 a1 = some (r0, r1, r2)) (w : World) {pa0 : Nat} {va0_0 : Value} (hr_a0_0 : RdM w (footM [R.box pa0 114 [va0_0, .int .i64 a0_1, .int .u64 a0_2]]) va0_0 a0_0) (hw0 : Sep w (footM [R.box pa0 114 [va0_0, .int .i64 a0_1, .int .u64 a0_2]]) [R.box pa0 114 [va0_0, .int .i64 a0_1, .int .u64 a0_2]] w) :
  Calls Tryz.prog 200 ([.pointer (some ⟨pa0, 0, none⟩), .int .i64 a1] : List Value).toArray w (PostM (footM [R.box pa0 114 [va0_0, .int .i64 a0_1, .int .u64 a0_2]]) (fun u ns => u = .bool r0 ∧ ns = [R.box pa0 114 [va0_0, .int .i64 r1, .int .u64 r2]]) w) := by
 unfold spec_l1Cur_one.f at h
 have hl_va0_0 := hr_a0_0.len
 refine Calls.of_tri (N := 9) Tryz.func200 rfl rfl rfl hw0 ?_
 refine Tri.seq (Tri.reg (l := [0]) rfl ?_)
 refine F.qn rfl (r_assign rfl) (F.nil (Nrm.seq (Tri.seq ?_)))
 obtain ⟨⟨t7_1, t7_2, t7_3⟩, h7, h⟩ := bind_some h
 refine Tri.reg (l := [0, 1, 2, 3, 4]) rfl ?_
 refine F.qn rfl (r_move rfl) (F.qn rfl (r_move rfl) ?_)
 refine F.efn rfl (d_callM (xs := _) (cs := [R.box pa0 114 [va0_0, .int .i64 a0_1, .int .u64 a0_2]]) (rest := []) [0] [] rfl ok115 rfl rfl rfl rfl (fun w hw => spec_l1Cur_pick.ok h7 w (hr_a0_0.down hw) (Sep.sub hw))) ?_
 rintro _ _ ⟨_, ⟨rfl, rfl⟩, rfl⟩
 refine F.qn rfl (r_eql rfl rfl) (F.qn rfl (r_assign rfl) (F.nil (Nrm.seq (Tri.ret ?_))))
 cases h
 exact Rtn.body (.tmp rfl .nil) (fun w hw => ⟨_, _, rfl, ⟨rfl, rfl⟩, Sep.pick (is := [0]) rfl rfl hw⟩)


def spec_l1Cur_few.l0 (k : Nat) (a0_0 : List By) (a1 : Int) : Nat → Int → Int → Int → Int → Option (Int × Int × Int)
 | 0, _, _, _, _ => none
 | n + 1, x5, x6, xpa0_1, xpa0_2 => (if (decide (x6 > 0)) = true then (spec_l1Cur_pick.f k a0_0 xpa0_1 xpa0_2 a1).bind fun (t17_1, t17_2, t17_3) => if ¬ t17_1 < 0 then spec_l1Cur_few.l0 k a0_0 a1 n (bor x5 (shl 1 t17_1)) (w64 (x6 - 1)) t17_2 t17_3 else none else some (x5, xpa0_1, xpa0_2))

def spec_l1Cur_few.f (k : Nat) (a0_0 : List By) (a0_1 : Int) (a0_2 : Int) (a1 : Int) : Option (Int × Int × Int) := (spec_l1Cur_among.f k a0_0 a0_1 a0_2 ([0, 1, 1, 1, 2] : List (Int))).bind fun (t9_1, t9_2, t9_3) => (spec_l1Cur_few.l0 k a0_0 a1 k 0 t9_1 t9_2 t9_3).bind fun (x5, xpa0_1, xpa0_2) => some (x5, xpa0_1, xpa0_2)

theorem spec_l1Cur_few.ok {k : Nat}  {a0_0 : List By} {a0_1 : Int} {a0_2 : Int} {a1 : Int} {r0 : Int} {r1 : Int} {r2 : Int} (h : spec_l1Cur_few.f k a0_0 a0_1 a0_2 a1 = some (r0, r1, r2)) (w : World) {pa0 : Nat} {va0_0 : Value} (hr_a0_0 : RdM w (footM [R.box pa0 114 [va0_0, .int .i64 a0_1, .int .u64 a0_2]]) va0_0 a0_0) (hw0 : Sep w (footM [R.box pa0 114 [va0_0, .int .i64 a0_1, .int .u64 a0_2]]) [R.box pa0 114 [va0_0, .int .i64 a0_1, .int .u64 a0_2]] w) :
  Calls Tryz.prog 202 ([.pointer (some ⟨pa0, 0, none⟩), .int .i64 a1] : List Value).toArray w (PostM (footM [R.box pa0 114 [va0_0, .int .i64 a0_1, .int .u64 a0_2]]) (fun u ns => u = .int .i64 r0 ∧ ns = [R.box pa0 114 [va0_0, .int .i64 r1, .int .u64 r2]]) w) := by
 unfold spec_l1Cur_few.f at h
 have hl_va0_0 := hr_a0_0.len
 refine Calls.of_tri (N := 21) Tryz.func202 rfl rfl rfl hw0 ?_
 refine Tri.seq (Tri.reg (l := [0]) rfl ?_)
 refine F.qn rfl (r_assign rfl) (F.nil (Nrm.seq (Tri.seq (Tri.reg (l := [0]) rfl ?_))))
 refine F.qn rfl (r_assign rfl) (F.nil (Nrm.seq (Tri.seq (Tri.seq ?_))))
 obtain ⟨⟨t9_1, t9_2, t9_3⟩, h9, h⟩ := bind_some h
 refine Tri.reg (l := [0, 1, 2, 3]) rfl ?_
 refine F.qn rfl (r_move rfl) ?_
 refine F.mn rfl (m_buildF (l := ([0, 1, 1, 1, 2] : List (Int))) Tryz.underlying25 ti3 rfl rfl rfl rfl rfl) ?_
 rintro v8_1 _ ⟨S8_1, hl_v8_1, rfl⟩
 refine F.efn rfl (d_callM (xs := _) (cs := [R.box pa0 114 [va0_0, .int .i64 a0_1, .int .u64 a0_2]]) (rest := [R.sl S8_1 v8_1 (([0, 1, 1, 1, 2] : List (Int)) : List (Int))]) [1] [0] rfl ok194 rfl rfl rfl rfl (fun w hw => spec_l1Cur_among.ok h9 w (hr_a0_0.down hw) (rdm_sl (i := 0) rfl hw) (Sep.sub hw))) ?_
 rintro _ _ ⟨_, ⟨rfl, rfl⟩, rfl⟩
 refine F.qn rfl (r_assign rfl) (F.nil (Nrm.seq ?_))
 obtain ⟨⟨x5, xpa0_1, xpa0_2⟩, hE_1, h⟩ := bind_some h
 refine Tri.block ?_
 refine Tri.only [0, 1, 5, 6] rfl ?_
 refine Tri.pick [0] rfl rfl ?_
 refine Tri.rounds (fun n e' C' => ∃ (x5' : Int) (x6' : Int) (xpa0_1' : Int) (xpa0_2' : Int), spec_l1Cur_few.l0 k a0_0 a1 n x5' x6' xpa0_1' xpa0_2' = some (x5, xpa0_1, xpa0_2) ∧ e' = [(0, .pointer (some ⟨pa0, 0, none⟩)), (1, .int .i64 a1), (5, .int .i64 x5'), (6, .int .i64 x6')] ∧ C' = Sep w (footM [R.box pa0 114 [va0_0, .int .i64 a0_1, .int .u64 a0_2]]) [R.box pa0 114 [va0_0, .int .i64 xpa0_1', .int .u64 xpa0_2']]) k ?_ ?_ ?_
 ·exact ⟨0, t9_1, t9_2, t9_3, hE_1, rfl, rfl⟩
 ·rintro _ _ ⟨_, _, _, _, hE_1, _⟩
  rw [spec_l1Cur_few.l0.eq_1] at hE_1; cases hE_1
 ·rintro n_1 _ _ ⟨x5, x6, xpa0_1, xpa0_2, hE_1, rfl, rfl⟩ ih_1
  rw [spec_l1Cur_few.l0.eq_2] at hE_1
  refine Tri.seq (Tri.seq (Tri.reg (l := [0, 1]) rfl ?_))
  refine F.qn rfl (r_move rfl) (F.qn rfl (r_gtr rfl rfl) (F.nil (Nrm.seq (Tri.cond (b := decide (x6 > 0)) rfl (fun g_1 => ?_) (fun g_1 => ?_)))))
  ·replace hE_1 := if_tt g_1 hE_1
   refine Tri.skip (Nrm.seq (Tri.seq (Tri.block ?_)))
   obtain ⟨⟨t17_1, t17_2, t17_3⟩, h17, hE_1⟩ := bind_some hE_1
   obtain ⟨hs18, hE_1⟩ := ck hE_1
   refine Tri.reg (l := [0, 1, 2, 3, 4, 5, 6]) rfl ?_
   iterate 3 refine F.qn rfl (r_move rfl) ?_
   refine F.efn rfl (d_callM (xs := _) (cs := [R.box pa0 114 [va0_0, .int .i64 xpa0_1, .int .u64 xpa0_2]]) (rest := []) [0] [] rfl ok115 rfl rfl rfl rfl (fun w hw => spec_l1Cur_pick.ok h17 w (hr_a0_0.down hw) (Sep.sub hw))) ?_
   rintro _ _ ⟨_, ⟨rfl, rfl⟩, rfl⟩
   refine F.qn rfl (r_shl rfl rfl hs18) (F.qn rfl (r_or rfl rfl) (F.qn rfl (r_assign rfl) (F.nil (Nrm.block ?_))))
   refine Nrm.seq (Tri.reg (l := [0, 1, 2]) rfl ?_)
   refine F.qn rfl (r_move rfl) (F.qn rfl (r_sub rfl rfl) (F.qn rfl (r_assign rfl) (F.nil (Nrm.round ?_))))
   refine Rnd.only [0, 1, 5, 6] rfl ?_
   refine Rnd.pick [0] rfl rfl ?_
   exact ih_1 _ _ ⟨bor x5 (shl 1 t17_1), w64 (x6 - 1), t17_2, t17_3, hE_1, rfl, rfl⟩
  ·replace hE_1 := if_ff g_1 hE_1
   refine Tri.exit ?_
   refine Exi.then ?_
   refine Exi.then ?_
   refine Exi.same ?_
   cases hE_1
   refine Nrm.seq (Tri.seq (Tri.reg (l := [0, 1]) rfl ?_))
   refine F.qn rfl (r_move rfl) (F.qn rfl (r_assign rfl) (F.nil (Nrm.seq (Tri.ret ?_))))
   cases h
   exact Rtn.body (.tmp rfl .nil) (fun w hw => ⟨_, _, rfl, ⟨rfl, rfl⟩, Sep.pick (is := [0]) rfl rfl hw⟩)


def spec_l2Before.l0 (k : Nat) (a0_0 : Int) (a0_1 : Int) (a0_2 : Int) (a1_0 : Int) (a1_1 : Int) (a1_2 : Int) : Nat → Int → Option ((Unit) ⊕ (Bool))
 | 0, _ => none
 | n + 1, x5 => (if (decide (x5 < 3)) = true then (rdl [a0_0, a0_1, a0_2] x5).bind fun t11 => (rdl [a1_0, a1_1, a1_2] x5).bind fun t14 => (if (t11 != t14) = true then (rdl [a0_0, a0_1, a0_2] x5).bind fun t18 => (rdl [a1_0, a1_1, a1_2] x5).bind fun t21 => some (Sum.inr (decide (t18 < t21))) else spec_l2Before.l0 k a0_0 a0_1 a0_2 a1_0 a1_1 a1_2 n (w64 (x5 + 1))) else some (Sum.inl ()))

def spec_l2Before.f (k : Nat) (a0_0 : Int) (a0_1 : Int) (a0_2 : Int) (a1_0 : Int) (a1_1 : Int) (a1_2 : Int) : Option (Bool) := (spec_l2Before.l0 k a0_0 a0_1 a0_2 a1_0 a1_1 a1_2 k 0).bind fun s => Lr s some fun _ => some false

theorem spec_l2Before.ok {k : Nat}  {a0_0 : Int} {a0_1 : Int} {a0_2 : Int} {a1_0 : Int} {a1_1 : Int} {a1_2 : Int} {r0 : Bool} (h : spec_l2Before.f k a0_0 a0_1 a0_2 a1_0 a1_1 a1_2 = some r0) (w : World) :
  Calls Tryz.prog 196 ([.agg ([.int .i64 a0_0, .int .i64 a0_1, .int .i64 a0_2].toArray), .agg ([.int .i64 a1_0, .int .i64 a1_1, .int .i64 a1_2].toArray)] : List Value).toArray w (fun e w' => e = .returned (.bool r0) ∧ Ext w w') := by
 unfold spec_l2Before.f at h
 refine Calls.of_tri (N := 24) Tryz.func196 rfl rfl rfl (Sep.nil (M := noM)) ?_
 refine Tri.seq (Tri.reg (l := [0, 1, 2]) rfl ?_)
 refine F.mn rfl (m_boxG rfl rfl) ?_
 rintro _ _ ⟨b2_1, rfl, rfl⟩
 refine F.mn rfl (m_boxG rfl rfl) ?_
 rintro _ _ ⟨b3_1, rfl, rfl⟩
 refine F.qn rfl (r_assign rfl) (F.nil (Nrm.seq (Tri.seq (Tri.seq (Tri.reg (l := [0]) rfl ?_)))))
 refine F.qn rfl (r_assign rfl) (F.nil (Nrm.seq ?_))
 obtain ⟨s0, hE_1, h⟩ := bind_some h
 refine Tri.block ?_
 refine Tri.only [2, 3, 5] rfl ?_
 refine Tri.pick [0, 1] rfl rfl ?_
 refine Tri.rounds (fun n e' C' => ∃ (x5' : Int), spec_l2Before.l0 k a0_0 a0_1 a0_2 a1_0 a1_1 a1_2 n x5' = some s0 ∧ e' = [(2, .pointer (some ⟨b2_1, 0, none⟩)), (3, .pointer (some ⟨b3_1, 0, none⟩)), (5, .int .i64 x5')] ∧ C' = Sep w noM [R.box b3_1 168 [.int .i64 a1_0, .int .i64 a1_1, .int .i64 a1_2], R.box b2_1 168 [.int .i64 a0_0, .int .i64 a0_1, .int .i64 a0_2]]) k ?_ ?_ ?_
 ·exact ⟨0, hE_1, rfl, rfl⟩
 ·rintro _ _ ⟨_, hE_1, _⟩
  rw [spec_l2Before.l0.eq_1] at hE_1; cases hE_1
 ·rintro n_1 _ _ ⟨x5, hE_1, rfl, rfl⟩ ih_1
  rw [spec_l2Before.l0.eq_2] at hE_1
  refine Tri.seq (Tri.seq (Tri.reg (l := [0, 1]) rfl ?_))
  refine F.qn rfl (r_move rfl) (F.qn rfl (r_lss rfl rfl) (F.nil (Nrm.seq (Tri.cond (b := decide (x5 < 3)) rfl (fun g_1 => ?_) (fun g_1 => ?_)))))
  ·replace hE_1 := if_tt g_1 hE_1
   refine Tri.skip (Nrm.seq (Tri.seq (Tri.block ?_)))
   refine Tri.seq ?_
   obtain ⟨t11, h11, hE_1⟩ := bind_some hE_1
   obtain ⟨t14, h14, hE_1⟩ := bind_some hE_1
   refine Tri.drawA mixedT Sep.up [(0, true), (1, true), (2, true), (3, true), (4, true), (5, true), (6, true)] [] (by kernel_rfl) ?_
   refine S.qn rfl (r_move rfl) ?_
   refine S.qn rfl (r_indexAddrA Tryz.underlying168 ti3 rfl rfl (rdl_some h11).1 (rdl_some h11).2.1) (S.qn rfl (r_load ta3 rfl (fun w hw => cell_dynB (box_cells (i := 1) rfl w hw) rfl h11)) (S.qn rfl (r_move rfl) (S.qn rfl (r_indexAddrA Tryz.underlying168 ti3 rfl rfl (rdl_some h14).1 (rdl_some h14).2.1) (S.qn rfl (r_load ta3 rfl (fun w hw => cell_dynB (box_cells (i := 0) rfl w hw) rfl h14)) (S.qn rfl (r_neq rfl rfl) (S.nil (F.nil (Nrm.seq (Tri.cond (b := t11 != t14) rfl (fun g_2 => ?_) (fun g_2 => ?_))))))))))
   ·replace hE_1 := if_tt g_2 hE_1
    refine Tri.seq ?_
    obtain ⟨t18, h18, hE_1⟩ := bind_some hE_1
    obtain ⟨t21, h21, hE_1⟩ := bind_some hE_1
    refine Tri.drawA mixedT Sep.up [(0, true), (1, true), (2, true), (3, true), (4, true), (5, true), (6, true), (7, true)] [] (by kernel_rfl) ?_
    refine S.qn rfl (r_move rfl) (S.qn rfl (r_indexAddrA Tryz.underlying168 ti3 rfl rfl (rdl_some h18).1 (rdl_some h18).2.1) ?_)
    refine S.qn rfl (r_load ta3 rfl (fun w hw => cell_dynB (box_cells (i := 1) rfl w hw) rfl h18)) (S.qn rfl (r_move rfl) (S.qn rfl (r_indexAddrA Tryz.underlying168 ti3 rfl rfl (rdl_some h21).1 (rdl_some h21).2.1) (S.qn rfl (r_load ta3 rfl (fun w hw => cell_dynB (box_cells (i := 0) rfl w hw) rfl h21)) (S.qn rfl (r_lss rfl rfl) (S.qn rfl (r_assign rfl) (S.nil (F.nil (Nrm.seq (Tri.ret ?_)))))))))
    refine Rtn.block ?_
    refine Rtn.then ?_
    refine Rtn.then ?_
    refine Rtn.block ?_
    refine Rtn.then ?_
    cases hE_1
    replace h := Lr_inr h
    cases h
    exact Rtn.body (.tmp rfl .nil) (fun w hw => ⟨rfl, hw.ext⟩)
   ·replace hE_1 := if_ff g_2 hE_1
    refine Tri.skip (Nrm.block ?_)
    refine Nrm.seq (Tri.reg (l := [0, 1, 2]) rfl ?_)
    refine F.qn rfl (r_move rfl) (F.qn rfl (r_add rfl rfl) (F.qn rfl (r_assign rfl) (F.nil (Nrm.round ?_))))
    refine Rnd.only [2, 3, 5] rfl ?_
    refine Rnd.pick [0, 1] rfl rfl ?_
    exact ih_1 _ _ ⟨w64 (x5 + 1), hE_1, rfl, rfl⟩
  ·replace hE_1 := if_ff g_1 hE_1
   refine Tri.exit ?_
   refine Exi.then ?_
   refine Exi.then ?_
   refine Exi.same ?_
   cases hE_1
   replace h := Lr_inl h
   refine Nrm.seq (Tri.seq (Tri.reg (l := [0]) rfl ?_))
   refine F.qn rfl (r_assign rfl) (F.nil (Nrm.seq (Tri.ret ?_)))
   cases h
   exact Rtn.body (.tmp rfl .nil) (fun w hw => ⟨rfl, hw.ext⟩)


def spec_l1Most.f (k : Nat) (a0 : Int) (a1 : Int) : Option (Int) := (if (decide (a0 > a1)) = true then some a0 else some a1)

theorem spec_l1Most.ok {k : Nat}  {a0 : Int} {a1 : Int} {r0 : Int} (h : spec_l1Most.f k a0 a1 = some r0) (w : World) :
  Calls Tryz.prog 198 ([.int .i64 a0, .int .i64 a1] : List Value).toArray w (fun e w' => e = .returned (.int .i64 r0) ∧ Ext w w') := by
 unfold spec_l1Most.f at h
 refine Calls.of_tri (N := 10) Tryz.func198 rfl rfl rfl (Sep.nil (M := noM)) ?_
 refine Tri.seq (Tri.reg (l := [0]) rfl ?_)
 refine F.qn rfl (r_assign rfl) (F.nil (Nrm.seq (Tri.seq (Tri.seq (Tri.reg (l := [0, 1, 2]) rfl ?_)))))
 refine F.qn rfl (r_move rfl) (F.qn rfl (r_move rfl) (F.qn rfl (r_gtr rfl rfl) (F.nil (Nrm.seq (Tri.cond (b := decide (a0 > a1)) rfl (fun g_1 => ?_) (fun g_1 => ?_))))))
 ·replace h := if_tt g_1 h
  refine Tri.seq (Tri.reg (l := [0, 1]) rfl ?_)
  refine F.qn rfl (r_move rfl) (F.qn rfl (r_assign rfl) (F.nil (Nrm.seq (Tri.ret ?_))))
  refine Rtn.then ?_
  cases h
  exact Rtn.body (.tmp rfl .nil) (fun w hw => ⟨rfl, hw.ext⟩)
 ·replace h := if_ff g_1 h
  refine Tri.skip (Nrm.seq (Tri.seq (Tri.reg (l := [0, 1]) rfl ?_)))
  refine F.qn rfl (r_move rfl) (F.qn rfl (r_assign rfl) (F.nil (Nrm.seq (Tri.ret ?_))))
  cases h
  exact Rtn.body (.tmp rfl .nil) (fun w hw => ⟨rfl, hw.ext⟩)


def spec_l1Least.f (k : Nat) (a0 : Int) (a1 : Int) : Option (Int) := (if (decide (a0 < a1)) = true then some a0 else some a1)

theorem spec_l1Least.ok {k : Nat}  {a0 : Int} {a1 : Int} {r0 : Int} (h : spec_l1Least.f k a0 a1 = some r0) (w : World) :
  Calls Tryz.prog 199 ([.int .i64 a0, .int .i64 a1] : List Value).toArray w (fun e w' => e = .returned (.int .i64 r0) ∧ Ext w w') := by
 unfold spec_l1Least.f at h
 refine Calls.of_tri (N := 10) Tryz.func199 rfl rfl rfl (Sep.nil (M := noM)) ?_
 refine Tri.seq (Tri.reg (l := [0]) rfl ?_)
 refine F.qn rfl (r_assign rfl) (F.nil (Nrm.seq (Tri.seq (Tri.seq (Tri.reg (l := [0, 1, 2]) rfl ?_)))))
 refine F.qn rfl (r_move rfl) (F.qn rfl (r_move rfl) (F.qn rfl (r_lss rfl rfl) (F.nil (Nrm.seq (Tri.cond (b := decide (a0 < a1)) rfl (fun g_1 => ?_) (fun g_1 => ?_))))))
 ·replace h := if_tt g_1 h
  refine Tri.seq (Tri.reg (l := [0, 1]) rfl ?_)
  refine F.qn rfl (r_move rfl) (F.qn rfl (r_assign rfl) (F.nil (Nrm.seq (Tri.ret ?_))))
  refine Rtn.then ?_
  cases h
  exact Rtn.body (.tmp rfl .nil) (fun w hw => ⟨rfl, hw.ext⟩)
 ·replace h := if_ff g_1 h
  refine Tri.skip (Nrm.seq (Tri.seq (Tri.reg (l := [0, 1]) rfl ?_)))
  refine F.qn rfl (r_move rfl) (F.qn rfl (r_assign rfl) (F.nil (Nrm.seq (Tri.ret ?_))))
  cases h
  exact Rtn.body (.tmp rfl .nil) (fun w hw => ⟨rfl, hw.ext⟩)


def spec_l2Put.l0 (k : Nat) (a0 : List (Int × Int × Int)) (a3 : Int) (t13 : Int) (t16 : Int) : Nat → Int → Option (Int)
 | 0, _ => none
 | n + 1, x10 => ((if (decide (x10 < (a0.length : Int))) = true then (rdl a0 x10).bind fun t26 => (spec_l2Before.f k t26.1 t26.2.1 t26.2.2 t13 t16 a3).bind fun t29 => some t29 else some false)).bind fun y30 => (if y30 = true then spec_l2Put.l0 k a0 a3 t13 t16 n (w64 (x10 + 1)) else some x10)

def spec_l2Put.f (k : Nat) (a0 : List (Int × Int × Int)) (a1 : Int) (a2 : Int) (a3 : Int) : Option ((List (Int × Int × Int))) := (spec_l1Least.f k a1 a2).bind fun t13 => (spec_l1Most.f k a1 a2).bind fun t16 => (spec_l2Put.l0 k a0 a3 t13 t16 k 0).bind fun x10 => ((if (decide (x10 < (a0.length : Int))) = true then (rdl a0 x10).bind fun t40 => some (decide ((t40.1, t40.2.1, t40.2.2) = (t13, t16, a3))) else some false)).bind fun y44 => (if y44 = true then some a0 else ((slc a0 0 x10).bind fun t49 => (slc a0 x10 (a0.length : Int)).bind fun t56 => if (([] : List (Int × Int × Int)) ++ t49).length < 1099511627776 then if ((([] : List (Int × Int × Int)) ++ t49) ++ ([(t13, t16, a3)] : List (Int × Int × Int))).length < 1099511627776 then if (((([] : List (Int × Int × Int)) ++ t49) ++ ([(t13, t16, a3)] : List (Int × Int × Int))) ++ t56).length < 1099511627776 then some (((([] : List (Int × Int × Int)) ++ t49) ++ ([(t13, t16, a3)] : List (Int × Int × Int))) ++ t56) else none else none else none).bind fun y8 => some y8)

theorem spec_l2Put.ok {k : Nat}  {a0 : List (Int × Int × Int)} {a1 : Int} {a2 : Int} {a3 : Int} {r0 : List (Int × Int × Int)} (h : spec_l2Put.f k a0 a1 a2 a3 = some r0) (w : World) {va0 : Value} {Sa0 : Nat → Prop} (hl_va0 : SlLen va0 a0.length) (hw0 : Sep w (footM [R.sl Sa0 va0 a0]) [R.sl Sa0 va0 a0] w) :
  Calls Tryz.prog 238 ([va0, .int .i64 a1, .int .i64 a2, .int .i64 a3] : List Value).toArray w (PostM (footM [R.sl Sa0 va0 a0]) (fun u ns => ∃ (Sr0 : Nat → Prop), SlLen u r0.length ∧ ns = [R.sl Sr0 u r0]) w) := by
 unfold spec_l2Put.f at h
 refine Calls.of_tri (N := 58) Tryz.func238 rfl rfl rfl hw0 ?_
 refine Tri.seq (Tri.reg (l := [0]) rfl ?_)
 refine F.qn rfl (r_assign rfl) (F.nil (Nrm.seq (Tri.seq ?_)))
 obtain ⟨t13, h13, h⟩ := bind_some h
 obtain ⟨t16, h16, h⟩ := bind_some h
 refine Tri.reg (l := [0, 1, 2, 3, 4, 5, 6, 7, 8, 9]) rfl ?_
 refine F.qn rfl (r_move rfl) (F.qn rfl (r_move rfl) ?_)
 refine F.qcn rfl (q_callF (xs := _) rfl ok199 rfl rfl (fun w hw => spec_l1Least.ok h13 w )) ?_
 refine F.qn rfl (r_move rfl) (F.qn rfl (r_move rfl) ?_)
 refine F.qcn rfl (q_callF (xs := _) rfl ok198 rfl rfl (fun w hw => spec_l1Most.ok h16 w )) ?_
 refine F.qn rfl (r_move rfl) (F.qn rfl (r_buildA (qs := [(0, [.int .i64 t13]), (1, [.int .i64 t16]), (2, [.int .i64 a3])]) (cs := [.int .i64 t13, .int .i64 t16, .int .i64 a3]) Tryz.underlying168 ti3 ti168 rfl (.cons rfl rfl (Nat.le_of_ble_eq_true rfl) (.cons rfl rfl (Nat.le_of_ble_eq_true rfl) (.cons rfl rfl (Nat.le_of_ble_eq_true rfl) .nil))) rfl rfl) ?_)
 refine F.mn rfl (m_alloc ti168) ?_
 rintro _ _ ⟨b9_1, rfl, rfl⟩
 refine F.ef0 rfl rfl (wanted_none rfl) (d_storeG0 (i := 0) (cs2 := [.int .i64 t13, .int .i64 t16, .int .i64 a3]) ti168 rfl rfl rfl rfl rfl (Nat.le_of_ble_eq_true rfl) (lf_cons rfl (lf_cons rfl (lf_cons rfl lf_nil)))) ?_
 rintro _ _ ⟨rfl, rfl⟩
 refine F.nil (Nrm.seq (Tri.seq (Tri.reg (l := [0]) rfl ?_)))
 refine F.qn rfl (r_assign rfl) (F.nil (Nrm.seq (Tri.seq ?_)))
 obtain ⟨x10, hE_1, h⟩ := bind_some h
 refine Tri.block ?_
 refine Tri.only [0, 9, 10] rfl ?_
 refine Tri.pick [0, 1] rfl rfl ?_
 refine Tri.rounds (fun n e' C' => ∃ (x10' : Int), spec_l2Put.l0 k a0 a3 t13 t16 n x10' = some x10 ∧ e' = [(0, va0), (9, .pointer (some ⟨b9_1, 0, none⟩)), (10, .int .i64 x10')] ∧ C' = Sep w (footM [R.sl Sa0 va0 a0]) [R.box b9_1 168 [.int .i64 t13, .int .i64 t16, .int .i64 a3], R.sl Sa0 va0 (a0 : List (Int × Int × Int))]) k ?_ ?_ ?_
 ·exact ⟨0, hE_1, rfl, rfl⟩
 ·rintro _ _ ⟨_, hE_1, _⟩
  rw [spec_l2Put.l0.eq_1] at hE_1; cases hE_1
 ·rintro n_1 _ _ ⟨x10, hE_1, rfl, rfl⟩ ih_1
  rw [spec_l2Put.l0.eq_2] at hE_1
  refine Tri.seq (Tri.seq ?_)
  obtain ⟨y30, hE_2, hE_1⟩ := bind_some hE_1
  refine Tri.cut (fun e' C' => e' = [(0, va0), (9, .pointer (some ⟨b9_1, 0, none⟩)), (10, .int .i64 x10), (30, .bool y30)] ∧ C' = Sep w (footM [R.sl Sa0 va0 a0]) [R.box b9_1 168 [.int .i64 t13, .int .i64 t16, .int .i64 a3], R.sl Sa0 va0 (a0 : List (Int × Int × Int))]) ?_ (fun hj_1 => ?_)
  ·rintro _ _ ⟨rfl, rfl⟩
   refine Nrm.seq (Tri.cond (b := y30) rfl (fun g_1 => ?_) (fun g_1 => ?_))
   ·replace hE_1 := if_tt g_1 hE_1
    refine Tri.skip (Nrm.seq (Tri.block ?_))
    refine Tri.reg (l := [0, 1, 2]) rfl ?_
    refine F.qn rfl (r_move rfl) (F.qn rfl (r_add rfl rfl) (F.qn rfl (r_assign rfl) (F.nil (Nrm.block ?_))))
    refine Nrm.round ?_
    refine Rnd.only [0, 9, 10] rfl ?_
    refine Rnd.pick [0, 1] rfl rfl ?_
    exact ih_1 _ _ ⟨w64 (x10 + 1), hE_1, rfl, rfl⟩
   ·replace hE_1 := if_ff g_1 hE_1
    refine Tri.exit ?_
    refine Exi.then ?_
    refine Exi.then ?_
    refine Exi.same ?_
    cases hE_1
    refine Nrm.seq (Tri.seq (Tri.seq ?_))
    obtain ⟨y44, hE_3, h⟩ := bind_some h
    refine Tri.cut (fun e' C' => e' = [(0, va0), (9, .pointer (some ⟨b9_1, 0, none⟩)), (10, .int .i64 x10), (44, .bool y44)] ∧ C' = Sep w (footM [R.sl Sa0 va0 a0]) [R.box b9_1 168 [.int .i64 t13, .int .i64 t16, .int .i64 a3], R.sl Sa0 va0 (a0 : List (Int × Int × Int))]) ?_ (fun hj_2 => ?_)
    ·rintro _ _ ⟨rfl, rfl⟩
     refine Nrm.seq (Tri.cond (b := y44) rfl (fun g_2 => ?_) (fun g_2 => ?_))
     ·replace h := if_tt g_2 h
      refine Tri.seq (Tri.reg (l := [0, 1]) rfl ?_)
      refine F.qn rfl (r_move rfl) (F.qn rfl (r_assign rfl) (F.nil (Nrm.seq (Tri.ret ?_))))
      refine Rtn.then ?_
      cases h
      exact Rtn.body (.tmp rfl .nil) (fun w hw => ⟨_, _, rfl, ⟨Sa0, hl_va0, rfl⟩, Sep.pick (is := [1]) rfl rfl hw⟩)
     ·replace h := if_ff g_2 h
      refine Tri.skip (Nrm.seq (Tri.seq ?_))
      obtain ⟨y8, hE_4, h⟩ := bind_some h
      refine Tri.cut (fun e' C' => ∃ (v8_1 : Value) (S8_1 : Nat → Prop), SlLen v8_1 (y8).length ∧ e' = [(8, v8_1)] ∧ C' = Sep w (footM [R.sl Sa0 va0 a0]) [R.sl S8_1 v8_1 (y8 : List (Int × Int × Int))]) ?_ (fun hj_3 => ?_)
      ·rintro _ _ ⟨v8_1, S8_1, hl_v8_1, rfl, rfl⟩
       refine Nrm.seq (Tri.ret ?_)
       cases h
       exact Rtn.body (.tmp rfl .nil) (fun w hw => ⟨_, _, rfl, ⟨S8_1, hl_v8_1, rfl⟩, Sep.pick (is := [0]) rfl rfl hw⟩)
      ·obtain ⟨t49, h49, hE_4⟩ := bind_some hE_4
       obtain ⟨t56, h56, hE_4⟩ := bind_some hE_4
       obtain ⟨hs50, hE_4⟩ := ck hE_4
       obtain ⟨hs53, hE_4⟩ := ck hE_4
       obtain ⟨hs57, hE_4⟩ := ck hE_4
       refine Tri.drawT mixedT Sep.up [1, 2, 3, 5, 8, 9, 10, 0, 4, 6, 7] [11, 12] (.q 1 (.q 2 (.q 3 (.q 5 (.q 8 (.q 9 (.q 10 (.alt 0 (.alt 4 (.alt 6 (.alt 7 .nil .stop) .stop) (.alt 6 (.alt 4 (.alt 7 .nil .stop) .stop) .stop)) (.alt 6 (.alt 0 (.alt 4 (.alt 7 .nil .stop) .stop) .stop) .stop))))))))) (by kernel_rfl) ?_
       refine T.q rfl rfl rfl (wanted_none rfl) (r_move rfl) ?_
       refine T.q rfl rfl rfl (wanted_none rfl) (r_move rfl) ?_
       refine T.q rfl rfl rfl (wanted_none rfl) (r_sliceH Tryz.underlying24 ti168 rfl (rd_sl (i := 1) rfl) rfl h49) ?_
       refine T.q rfl rfl rfl (wanted_none rfl) (r_loadA ta168 ti168 rfl rfl (fun w hw => (box_cells (i := 0) rfl w hw))) ?_
       refine T.q rfl rfl rfl (wanted_none rfl) (r_move rfl) ?_
       refine T.q rfl rfl rfl (wanted_none rfl) (r_move rfl) ?_
       refine T.q rfl rfl rfl (wanted_none rfl) (r_sliceL Tryz.underlying24 ti168 rfl (rd_sl (i := 1) rfl) rfl h56) ?_
       refine T.ef rfl rfl rfl (wanted_none rfl) (Makes.does (m_build0 (α := Int × Int × Int) Tryz.underlying24 ti168)) (by rintro v46_2 _ ⟨S46_2, hl_v46_2, rfl⟩; exact upd rfl [1, 2] rfl rfl) ?_ ?_
       ·rintro v46_2 _ ⟨S46_2, hl_v46_2, rfl⟩
        refine T.ef rfl rfl rfl (wanted_none rfl) (d_append (i := 0) Tryz.underlying24 Tryz.underlying24 ti168 rfl (by decide) rfl rfl rfl (fun w hw => rd_slc ((rd_sl (i := 2) rfl) w hw) h49) hs50) (by rintro v50_2 _ ⟨S50_2, rfl, hl_v50_2⟩; exact upd rfl [1, 2] rfl rfl) ?_ ?_
        ·rintro v50_2 _ ⟨S50_2, rfl, hl_v50_2⟩
         refine T.ef rfl rfl rfl (wanted_none rfl) (Makes.does (m_buildF (l := ([(t13, t16, a3)] : List (Int × Int × Int))) Tryz.underlying24 ti168 rfl rfl rfl rfl rfl)) (by rintro v52_2 _ ⟨S52_2, hl_v52_2, rfl⟩; exact upd rfl [2, 3] rfl rfl) ?_ ?_
         ·rintro v52_2 _ ⟨S52_2, hl_v52_2, rfl⟩
          refine T.ef rfl rfl rfl (wanted_none rfl) (d_append (i := 1) Tryz.underlying24 Tryz.underlying24 ti168 rfl (by decide) rfl rfl rfl (rd_sl (i := 0) rfl) hs53) (by rintro v53_2 _ ⟨S53_2, rfl, hl_v53_2⟩; exact upd rfl [2, 3] rfl rfl) ?_ ?_
          ·rintro v53_2 _ ⟨S53_2, rfl, hl_v53_2⟩
           refine T.nil ?_
           refine F.efn rfl (d_append (i := 1) Tryz.underlying24 Tryz.underlying24 ti168 rfl (by decide) rfl rfl rfl (fun w hw => rd_slc ((rd_sl (i := 3) rfl) w hw) h56) hs57) ?_
           rintro v57_2 _ ⟨S57_2, rfl, hl_v57_2⟩
           refine F.qn rfl (r_assign rfl) (F.nil ?_)
           cases hE_4
           refine Nrm.only [8] rfl ?_
           refine Nrm.pick [1] rfl rfl ?_
           exact hj_3 _ _ ⟨v57_2, S57_2, hl_v57_2, rfl, rfl⟩
          exact T.stop
         exact T.stop
        ·refine T.ef rfl rfl rfl (wanted_none rfl) (Makes.does (m_buildF (l := ([(t13, t16, a3)] : List (Int × Int × Int))) Tryz.underlying24 ti168 rfl rfl rfl rfl rfl)) (by rintro v52_3 _ ⟨S52_3, hl_v52_3, rfl⟩; exact upd rfl [2, 3] rfl rfl) ?_ ?_
         ·rintro v52_3 _ ⟨S52_3, hl_v52_3, rfl⟩
          refine T.ef rfl rfl rfl (wanted_none rfl) (d_append (i := 1) Tryz.underlying24 Tryz.underlying24 ti168 rfl (by decide) rfl rfl rfl (fun w hw => rd_slc ((rd_sl (i := 3) rfl) w hw) h49) hs50) (by rintro v50_3 _ ⟨S50_3, rfl, hl_v50_3⟩; exact upd rfl [2, 3] rfl rfl) ?_ ?_
          ·rintro v50_3 _ ⟨S50_3, rfl, hl_v50_3⟩
           refine T.ef rfl rfl rfl (wanted_none rfl) (d_append (i := 1) Tryz.underlying24 Tryz.underlying24 ti168 rfl (by decide) rfl rfl rfl (rd_sl (i := 0) rfl) hs53) (by rintro v53_3 _ ⟨S53_3, rfl, hl_v53_3⟩; exact upd rfl [2, 3] rfl rfl) ?_ ?_
           ·rintro v53_3 _ ⟨S53_3, rfl, hl_v53_3⟩
            refine T.nil ?_
            refine F.efn rfl (d_append (i := 1) Tryz.underlying24 Tryz.underlying24 ti168 rfl (by decide) rfl rfl rfl (fun w hw => rd_slc ((rd_sl (i := 3) rfl) w hw) h56) hs57) ?_
            rintro v57_3 _ ⟨S57_3, rfl, hl_v57_3⟩
            refine F.qn rfl (r_assign rfl) (F.nil ?_)
            cases hE_4
            refine Nrm.only [8] rfl ?_
            refine Nrm.pick [1] rfl rfl ?_
            exact hj_3 _ _ ⟨v57_3, S57_3, hl_v57_3, rfl, rfl⟩
           exact T.stop
          exact T.stop
         exact T.stop
       ·refine T.ef rfl rfl rfl (wanted_none rfl) (Makes.does (m_buildF (l := ([(t13, t16, a3)] : List (Int × Int × Int))) Tryz.underlying24 ti168 rfl rfl rfl rfl rfl)) (by rintro v52_4 _ ⟨S52_4, hl_v52_4, rfl⟩; exact upd rfl [1, 2] rfl rfl) ?_ ?_
        ·rintro v52_4 _ ⟨S52_4, hl_v52_4, rfl⟩
         refine T.ef rfl rfl rfl (wanted_none rfl) (Makes.does (m_build0 (α := Int × Int × Int) Tryz.underlying24 ti168)) (by rintro v46_3 _ ⟨S46_3, hl_v46_3, rfl⟩; exact upd rfl [2, 3] rfl rfl) ?_ ?_
         ·rintro v46_3 _ ⟨S46_3, hl_v46_3, rfl⟩
          refine T.ef rfl rfl rfl (wanted_none rfl) (d_append (i := 0) Tryz.underlying24 Tryz.underlying24 ti168 rfl (by decide) rfl rfl rfl (fun w hw => rd_slc ((rd_sl (i := 3) rfl) w hw) h49) hs50) (by rintro v50_4 _ ⟨S50_4, rfl, hl_v50_4⟩; exact upd rfl [2, 3] rfl rfl) ?_ ?_
          ·rintro v50_4 _ ⟨S50_4, rfl, hl_v50_4⟩
           refine T.ef rfl rfl rfl (wanted_none rfl) (d_append (i := 0) Tryz.underlying24 Tryz.underlying24 ti168 rfl (by decide) rfl rfl rfl (rd_sl (i := 1) rfl) hs53) (by rintro v53_4 _ ⟨S53_4, rfl, hl_v53_4⟩; exact upd rfl [2, 3] rfl rfl) ?_ ?_
           ·rintro v53_4 _ ⟨S53_4, rfl, hl_v53_4⟩
            refine T.nil ?_
            refine F.efn rfl (d_append (i := 0) Tryz.underlying24 Tryz.underlying24 ti168 rfl (by decide) rfl rfl rfl (fun w hw => rd_slc ((rd_sl (i := 3) rfl) w hw) h56) hs57) ?_
            rintro v57_4 _ ⟨S57_4, rfl, hl_v57_4⟩
            refine F.qn rfl (r_assign rfl) (F.nil ?_)
            cases hE_4
            refine Nrm.only [8] rfl ?_
            refine Nrm.pick [0] rfl rfl ?_
            exact hj_3 _ _ ⟨v57_4, S57_4, hl_v57_4, rfl, rfl⟩
           exact T.stop
          exact T.stop
         exact T.stop
        exact T.stop
    ·rcases Bool.eq_false_or_eq_true (decide (x10 < (a0.length : Int))) with g37 | g37
     ·replace hE_3 := if_tt g37 hE_3
      obtain ⟨t40, h40, hE_3⟩ := bind_some hE_3
      refine Tri.drawA mixedT Sep.up [(0, true), (1, true), (2, true), (3, true), (4, true), (5, true), (6, true), (7, true), (8, true), (9, true), (10, true), (11, true)] [] (by kernel_rfl) ?_
      refine S.qn rfl (r_move rfl) (S.qn rfl (r_move rfl) (S.qn rfl (r_len Tryz.underlying24 rfl hl_va0) (S.qn rfl (r_lss rfl rfl) (S.qn rfl (r_move rfl) (S.qg rfl g37 (r_move rfl) ?_)))))
      refine S.qg rfl g37 (r_move rfl) (S.qg rfl g37 (r_indexAddrS Tryz.underlying24 ti168 rfl hl_va0 rfl (rdl_some h40).1 (rdl_some h40).2.1) (S.qg rfl g37 (r_loadA ta168 ti168 rfl rfl (fun w hw => (Rd.flat ((rd_sl (i := 1) rfl) w hw) (rdl_some h40).2.2))) (S.qg rfl g37 (r_loadA ta168 ti168 rfl rfl (fun w hw => (box_cells (i := 0) rfl w hw))) (S.qg rfl g37 (r_eqlA3 Tryz.underlying168 Tryz.underlying3 ti3 ta3 rfl rfl eg168) (S.qn rfl (r_pick rfl rfl g37) (S.nil (F.nil ?_)))))))
      cases hE_3
      refine Nrm.only [0, 9, 10, 44] rfl ?_
      refine Nrm.pick [0, 1] rfl rfl ?_
      exact hj_2 _ _ ⟨rfl, rfl⟩
     ·replace hE_3 := if_ff g37 hE_3
      refine Tri.drawA mixedT Sep.up [(0, true), (1, true), (2, true), (3, true), (4, true), (5, true), (6, true), (7, true), (8, true), (9, true), (10, true), (11, true)] [] (by kernel_rfl) ?_
      refine S.qn rfl (r_move rfl) (S.qn rfl (r_move rfl) (S.qn rfl (r_len Tryz.underlying24 rfl hl_va0) (S.qn rfl (r_lss rfl rfl) (S.qn rfl (r_move rfl) ?_))))
      iterate 6 refine S.skf rfl g37 ?_
      refine S.qn rfl (r_pickf rfl rfl g37) (S.nil (F.nil ?_))
      cases hE_3
      refine Nrm.only [0, 9, 10, 44] rfl ?_
      refine Nrm.pick [0, 1] rfl rfl ?_
      exact hj_2 _ _ ⟨rfl, rfl⟩
  ·rcases Bool.eq_false_or_eq_true (decide (x10 < (a0.length : Int))) with g23 | g23
   ·replace hE_2 := if_tt g23 hE_2
    obtain ⟨t26, h26, hE_2⟩ := bind_some hE_2
    obtain ⟨t29, h29, hE_2⟩ := bind_some hE_2
    refine Tri.drawA mixedT Sep.up [(0, true), (1, true), (2, true), (3, true), (4, true), (5, true), (6, true), (7, true), (8, true), (9, true), (10, true), (11, true)] [] (by kernel_rfl) ?_
    refine S.qn rfl (r_move rfl) (S.qn rfl (r_move rfl) (S.qn rfl (r_len Tryz.underlying24 rfl hl_va0) (S.qn rfl (r_lss rfl rfl) ?_)))
    refine S.qn rfl (r_move rfl) (S.qg rfl g23 (r_move rfl) (S.qg rfl g23 (r_move rfl) (S.qg rfl g23 (r_indexAddrS Tryz.underlying24 ti168 rfl hl_va0 rfl (rdl_some h26).1 (rdl_some h26).2.1) (S.qg rfl g23 (r_loadA ta168 ti168 rfl rfl (fun w hw => (Rd.flat ((rd_sl (i := 1) rfl) w hw) (rdl_some h26).2.2))) (S.qg rfl g23 (r_loadA ta168 ti168 rfl rfl (fun w hw => (box_cells (i := 0) rfl w hw))) ?_)))))
    refine S.qc rfl rfl rfl (wg rfl rfl rfl g23) (q_callF (xs := _) rfl ok196 rfl rfl (fun w hw => spec_l2Before.ok h29 w )) ?_
    refine S.qn rfl (r_pick rfl rfl g23) (S.nil (F.nil ?_))
    cases hE_2
    refine Nrm.only [0, 9, 10, 30] rfl ?_
    refine Nrm.pick [0, 1] rfl rfl ?_
    exact hj_1 _ _ ⟨rfl, rfl⟩
   ·replace hE_2 := if_ff g23 hE_2
    refine Tri.drawA mixedT Sep.up [(0, true), (1, true), (2, true), (3, true), (4, true), (5, true), (6, true), (7, true), (8, true), (9, true), (10, true), (11, true)] [] (by kernel_rfl) ?_
    refine S.qn rfl (r_move rfl) (S.qn rfl (r_move rfl) (S.qn rfl (r_len Tryz.underlying24 rfl hl_va0) (S.qn rfl (r_lss rfl rfl) (S.qn rfl (r_move rfl) ?_))))
    iterate 6 refine S.skf rfl g23 ?_
    refine S.qn rfl (r_pickf rfl rfl g23) (S.nil (F.nil ?_))
    cases hE_2
    refine Nrm.only [0, 9, 10, 30] rfl ?_
    refine Nrm.pick [0, 1] rfl rfl ?_
    exact hj_1 _ _ ⟨rfl, rfl⟩


def spec_l1Cur_someMaze.l1 (k : Nat) (a0_0 : List By) (a1 : Int) (t20_1 : Int) : Nat → Int → Int → Int → (List (Int × Int × Int)) → Option (Int × Int × (List (Int × Int × Int)))
 | 0, _, _, _, _ => none
 | n + 1, x11, xpa0_1r, xpa0_2r, xq5_1_1r => ((if (decide (x11 > 0)) = true then (if (decide (a1 > 1)) = true then some (decide (a1 < 13)) else some false) else some false)).bind fun y77 => (if y77 = true then (spec_l1Cur_pick.f k a0_0 xpa0_1r xpa0_2r a1).bind fun (t82_1, t82_2, t82_3) => (spec_l1Cur_pick.f k a0_0 t82_2 t82_3 a1).bind fun (t85_1, t85_2, t85_3) => ((if (t82_1 != t85_1) = true then (spec_l1Cur_few.f k a0_0 t85_2 t85_3 (w64 (1 + t20_1))).bind fun (t95_1, t95_2, t95_3) => (spec_l2Put.f k xq5_1_1r t82_1 t85_1 t95_1).bind fun t96 => some (t95_2, t95_3, t96) else some (t85_2, t85_3, xq5_1_1r))).bind fun (ypa0_1rr, ypa0_2rr, yb5_1_1r) => spec_l1Cur_someMaze.l1 k a0_0 a1 t20_1 n (w64 (x11 - 1)) ypa0_1rr ypa0_2rr yb5_1_1r else some (xpa0_1r, xpa0_2r, xq5_1_1r))

def spec_l1Cur_someMaze.l0 (k : Nat) (a0_0 : List By) (a1 : Int) (t20_1 : Int) : Nat → Int → Int → (List (Int × Int × Int)) → (List (Int)) → Int → Int → Option (Int × Int × (List (Int × Int × Int)) × (List (Int)))
 | 0, _, _, _, _, _, _ => none
 | n + 1, x7, x8, xq5_1_1, xq5_1_2, xpa0_1, xpa0_2 => ((if (decide (x8 < a1)) = true then some (decide (x8 < 13)) else some false)).bind fun y28 => (if y28 = true then (spec_l1Cur_one.f k a0_0 xpa0_1 xpa0_2 2).bind fun (t32_1, t32_2, t32_3) => ((if t32_1 = true then (spec_l1Cur_pick.f k a0_0 t32_2 t32_3 (w64 (1 + t20_1))).bind fun (t35_1, t35_2, t35_3) => if ¬ t35_1 < 0 then some (shl 1 t35_1, t35_2, t35_3) else none else some ((0 : Int), t32_2, t32_3))).bind fun (y9, ypa0_1, ypa0_2) => if (xq5_1_2 ++ ([y9] : List (Int))).length < 1099511627776 then ((if (decide (x8 > 0)) = true then (spec_l1Cur_few.f k a0_0 ypa0_1 ypa0_2 (w64 (1 + t20_1))).bind fun (t47_1, t47_2, t47_3) => (spec_l1Cur_one.f k a0_0 t47_2 t47_3 3).bind fun (t49_1, t49_2, t49_3) => ((if (!t49_1) = true then some (band t47_1 x7) else some t47_1)).bind fun y10 => (spec_l1Cur_pick.f k a0_0 t49_2 t49_3 x8).bind fun (t58_1, t58_2, t58_3) => (spec_l2Put.f k xq5_1_1 t58_1 x8 y10).bind fun t61 => some (t58_2, t58_3, t61) else some (ypa0_1, ypa0_2, xq5_1_1))).bind fun (ypa0_1r, ypa0_2r, yb5_1_1) => spec_l1Cur_someMaze.l0 k a0_0 a1 t20_1 n (bor x7 y9) (w64 (x8 + 1)) yb5_1_1 (xq5_1_2 ++ ([y9] : List (Int))) ypa0_1r ypa0_2r else none else some (xpa0_1, xpa0_2, xq5_1_1, xq5_1_2))

def spec_l1Cur_someMaze.f (k : Nat) (a0_0 : List By) (a0_1 : Int) (a0_2 : Int) (a1 : Int) : Option (Int × (List (Int × Int × Int)) × (List Int) × Int × Int) := (spec_l1Cur_pick.f k a0_0 a0_1 a0_2 6).bind fun (t20_1, t20_2, t20_3) => (spec_l1Cur_someMaze.l0 k a0_0 a1 t20_1 k 0 0 ([] : List (Int × Int × Int)) ([] : List (Int)) t20_2 t20_3).bind fun (xpa0_1, xpa0_2, xq5_1_1, xq5_1_2) => (spec_l1Cur_pick.f k a0_0 xpa0_1 xpa0_2 6).bind fun (t67_1, t67_2, t67_3) => (spec_l1Cur_someMaze.l1 k a0_0 a1 t20_1 k t67_1 t67_2 t67_3 xq5_1_1).bind fun (xpa0_1r, xpa0_2r, xq5_1_1r) => (spec_l1Cur_pick.f k a0_0 xpa0_1r xpa0_2r 60).bind fun (t99_1, t99_2, t99_3) => (if (t99_1 == 0) = true then (spec_l1Cur_among.f k a0_0 t99_2 t99_3 ([0, 13, w64 (a1 + 1)] : List (Int))).bind fun (t107_1, t107_2, t107_3) => some (t107_1, xq5_1_1r, xq5_1_2, t107_2, t107_3) else (if (t99_1 == 1) = true then ((if (decide ((xq5_1_1r.length : Int) > 0)) = true then (spec_l1Cur_pick.f k a0_0 t99_2 t99_3 (xq5_1_1r.length : Int)).bind fun (t119_1, t119_2, t119_3) => (rdl xq5_1_1r t119_1).bind fun t126 => (rdl xq5_1_1r t119_1).bind fun t132 => (rdl xq5_1_1r t119_1).bind fun t136 => some (t119_2, t119_3, xq5_1_1r.set t119_1.toNat (t126.2.1, t132.1, 0)) else some (t99_2, t99_3, xq5_1_1r))).bind fun (ypa0_1rrr, ypa0_2rrr, yb5_1_1rr) => some (a1, yb5_1_1rr, xq5_1_2, ypa0_1rrr, ypa0_2rrr) else (if (t99_1 == 2) = true then ((if (decide ((xq5_1_2.length : Int) > 0)) = true then ((spec_l1Cur_pick.f k a0_0 t99_2 t99_3 (xq5_1_2.length : Int)).bind fun (t149_1, t149_2, t149_3) => (spec_l1Cur_among.f k a0_0 t149_2 t149_3 ([64, (-1), 63] : List (Int))).bind fun (t152_1, t152_2, t152_3) => (rdl xq5_1_2 t149_1).bind fun t153 => some (t152_2, t152_3, xq5_1_2.set t149_1.toNat t152_1)).bind fun (ypa0_1rrrr, ypa0_2rrrr, yb5_1_2) => some (ypa0_1rrrr, ypa0_2rrrr, yb5_1_2) else some (t99_2, t99_3, xq5_1_2))).bind fun (ypa0_1rrrr, ypa0_2rrrr, yb5_1_2) => some (a1, xq5_1_1r, yb5_1_2, ypa0_1rrrr, ypa0_2rrrr) else (if (t99_1 == 3) = true then ((if (decide ((xq5_1_1r.length : Int) > 0)) = true then (rdl xq5_1_1r 0).bind fun t164 => if (xq5_1_1r ++ ([t164] : List (Int × Int × Int))).length < 1099511627776 then some (xq5_1_1r ++ ([t164] : List (Int × Int × Int))) else none else some xq5_1_1r)).bind fun yb5_1_1rrr => some (a1, yb5_1_1rrr, xq5_1_2, t99_2, t99_3) else (if (t99_1 == 4) = true then some (0, [], [], t99_2, t99_3) else some (a1, xq5_1_1r, xq5_1_2, t99_2, t99_3))))))

theorem spec_l1Cur_someMaze.ok {k : Nat}  {a0_0 : List By} {a0_1 : Int} {a0_2 : Int} {a1 : Int} {r0 : Int} {r1 : List (Int × Int × Int)} {r2 : List Int} {r3 : Int} {r4 : Int} (h : spec_l1Cur_someMaze.f k a0_0 a0_1 a0_2 a1 = some (r0, r1, r2, r3, r4)) (w : World) {pa0 : Nat} {va0_0 : Value} (hr_a0_0 : RdM w (footM [R.box pa0 114 [va0_0, .int .i64 a0_1, .int .u64 a0_2]]) va0_0 a0_0) (hw0 : Sep w (footM [R.box pa0 114 [va0_0, .int .i64 a0_1, .int .u64 a0_2]]) [R.box pa0 114 [va0_0, .int .i64 a0_1, .int .u64 a0_2]] w) :
  Calls Tryz.prog 193 ([.pointer (some ⟨pa0, 0, none⟩), .int .i64 a1] : List Value).toArray w (PostM (footM [R.box pa0 114 [va0_0, .int .i64 a0_1, .int .u64 a0_2]]) (fun u ns => ∃ (ur1 : Value) (Sr1 : Nat → Prop) (ur2 : Value) (Sr2 : Nat → Prop), u = .agg [.int .i64 r0, ur1, ur2].toArray ∧ SlLen ur1 r1.length ∧ SlLen ur2 r2.length ∧ ns = [R.sl Sr1 ur1 r1, R.sl Sr2 ur2 r2, R.box pa0 114 [va0_0, .int .i64 r3, .int .u64 r4]]) w) := by
 unfold spec_l1Cur_someMaze.f at h
 have hl_va0_0 := hr_a0_0.len
 refine Calls.of_tri (N := 173) Tryz.func193 rfl rfl rfl hw0 ?_
 refine Tri.seq (Tri.reg (l := [0]) rfl ?_)
 refine F.mn rfl (m_alloc ti27) ?_
 rintro _ _ ⟨b4_1, rfl, rfl⟩
 refine F.nil (Nrm.seq (Tri.seq ?_))
 obtain ⟨⟨t20_1, t20_2, t20_3⟩, h20, h⟩ := bind_some h
 refine Tri.reg (l := [0, 1, 2, 3, 4, 5, 6, 7, 8, 9]) rfl ?_
 refine F.qn rfl (r_move rfl) ?_
 refine F.mn rfl (m_build0 (α := Int × Int × Int) Tryz.underlying24 ti168) ?_
 rintro v16_1 _ ⟨S16_1, hl_v16_1, rfl⟩
 refine F.mn rfl (m_build0 (α := Int) Tryz.underlying25 ti3) ?_
 rintro v17_1 _ ⟨S17_1, hl_v17_1, rfl⟩
 refine F.qn rfl (r_build (pl := [(0, 1), (1, 1), (2, 1)]) (qs := [(0, [.int .i64 a1]), (1, [v16_1]), (2, [v17_1])]) (cs := [.int .i64 a1, v16_1, v17_1]) (by kernel_rfl) ti27 rfl (.cons rfl rfl (Nat.le_of_ble_eq_true rfl) (.cons (sl_cells hl_v16_1) rfl (Nat.le_of_ble_eq_true rfl) (.cons (sl_cells hl_v17_1) rfl (Nat.le_of_ble_eq_true rfl) .nil))) rfl rfl) (F.qn rfl (r_move rfl) ?_)
 refine F.efn rfl (d_callM (xs := _) (cs := [R.box pa0 114 [va0_0, .int .i64 a0_1, .int .u64 a0_2]]) (rest := [R.sl S17_1 v17_1 (([] : List (Int)) : List (Int)), R.sl S16_1 v16_1 (([] : List (Int × Int × Int)) : List (Int × Int × Int)), R.box b4_1 27 [.int .i64 0, .slice none 0 0, .slice none 0 0]]) [3] [0, 1, 2] rfl ok115 rfl rfl rfl rfl (fun w hw => spec_l1Cur_pick.ok h20 w (hr_a0_0.down hw) (Sep.sub hw))) ?_
 rintro _ _ ⟨_, ⟨rfl, rfl⟩, rfl⟩
 refine F.qn rfl (r_add rfl rfl) ?_
 refine F.mn rfl (m_alloc ti27) ?_
 rintro _ _ ⟨b5_1, rfl, rfl⟩
 refine F.ef0 rfl rfl (wanted_none rfl) (d_storeG0 (i := 0) (cs2 := [.int .i64 a1, v16_1, v17_1]) ti27 rfl rfl rfl rfl rfl (Nat.le_of_ble_eq_true rfl) (lf_cons rfl (lf_cons (sl_leaf hl_v16_1) (lf_cons (sl_leaf hl_v17_1) lf_nil)))) ?_
 rintro _ _ ⟨rfl, rfl⟩
 refine F.qn rfl (r_assign rfl) (F.nil (Nrm.seq (Tri.seq (Tri.reg (l := [0]) rfl ?_))))
 refine F.qn rfl (r_assign rfl) (F.nil (Nrm.seq (Tri.seq (Tri.seq (Tri.reg (l := [0]) rfl ?_)))))
 refine F.qn rfl (r_assign rfl) (F.nil (Nrm.seq ?_))
 obtain ⟨⟨xpa0_1, xpa0_2, xq5_1_1, xq5_1_2⟩, hE_1, h⟩ := bind_some h
 refine Tri.block ?_
 refine Tri.only [0, 1, 4, 5, 6, 7, 8] rfl ?_
 refine Tri.pick [0, 1, 4, 2, 3] rfl rfl ?_
 refine Tri.rounds (fun n e' C' => ∃ (x7' : Int) (x8' : Int) (xq5_1_1' : List (Int × Int × Int)) (xq5_1_2' : List (Int)) (xpa0_1' : Int) (xpa0_2' : Int) (wq5_1_1 : Value) (Tq5_1_1 : Nat → Prop) (wq5_1_2 : Value) (Tq5_1_2 : Nat → Prop), spec_l1Cur_someMaze.l0 k a0_0 a1 t20_1 n x7' x8' xq5_1_1' xq5_1_2' xpa0_1' xpa0_2' = some (xpa0_1, xpa0_2, xq5_1_1, xq5_1_2) ∧ SlLen wq5_1_1 (xq5_1_1').length ∧ SlLen wq5_1_2 (xq5_1_2').length ∧ e' = [(0, .pointer (some ⟨pa0, 0, none⟩)), (1, .int .i64 a1), (4, .pointer (some ⟨b4_1, 0, none⟩)), (5, .pointer (some ⟨b5_1, 0, none⟩)), (6, .int .i64 (w64 (1 + t20_1))), (7, .int .i64 x7'), (8, .int .i64 x8')] ∧ C' = Sep w (footM [R.box pa0 114 [va0_0, .int .i64 a0_1, .int .u64 a0_2]]) [R.box b5_1 27 [.int .i64 a1, wq5_1_1, wq5_1_2], R.box pa0 114 [va0_0, .int .i64 xpa0_1', .int .u64 xpa0_2'], R.box b4_1 27 [.int .i64 0, .slice none 0 0, .slice none 0 0], R.sl Tq5_1_2 wq5_1_2 (xq5_1_2' : List (Int)), R.sl Tq5_1_1 wq5_1_1 (xq5_1_1' : List (Int × Int × Int))]) k ?_ ?_ ?_
 ·exact ⟨0, 0, ([] : List (Int × Int × Int)), ([] : List (Int)), t20_2, t20_3, v16_1, S16_1, v17_1, S17_1, hE_1, hl_v16_1, hl_v17_1, rfl, rfl⟩
 ·rintro _ _ ⟨_, _, _, _, _, _, _, _, _, _, hE_1, _⟩
  rw [spec_l1Cur_someMaze.l0.eq_1] at hE_1; cases hE_1
 ·rintro n_1 _ _ ⟨x7, x8, xq5_1_1, xq5_1_2, xpa0_1, xpa0_2, wq5_1_1, Tq5_1_1, wq5_1_2, Tq5_1_2, hE_1, hl_wq5_1_1, hl_wq5_1_2, rfl, rfl⟩ ih_1
  rw [spec_l1Cur_someMaze.l0.eq_2] at hE_1
  refine Tri.seq (Tri.seq ?_)
  obtain ⟨y28, hE_2, hE_1⟩ := bind_some hE_1
  refine Tri.cut (fun e' C' => e' = [(0, .pointer (some ⟨pa0, 0, none⟩)), (1, .int .i64 a1), (4, .pointer (some ⟨b4_1, 0, none⟩)), (5, .pointer (some ⟨b5_1, 0, none⟩)), (6, .int .i64 (w64 (1 + t20_1))), (7, .int .i64 x7), (8, .int .i64 x8), (28, .bool y28)] ∧ C' = Sep w (footM [R.box pa0 114 [va0_0, .int .i64 a0_1, .int .u64 a0_2]]) [R.box b5_1 27 [.int .i64 a1, wq5_1_1, wq5_1_2], R.box pa0 114 [va0_0, .int .i64 xpa0_1, .int .u64 xpa0_2], R.box b4_1 27 [.int .i64 0, .slice none 0 0, .slice none 0 0], R.sl Tq5_1_1 wq5_1_1 (xq5_1_1 : List (Int × Int × Int)), R.sl Tq5_1_2 wq5_1_2 (xq5_1_2 : List (Int))]) ?_ (fun hj_1 => ?_)
  ·rintro _ _ ⟨rfl, rfl⟩
   refine Nrm.seq (Tri.cond (b := y28) rfl (fun g_1 => ?_) (fun g_1 => ?_))
   ·replace hE_1 := if_tt g_1 hE_1
    refine Tri.skip (Nrm.seq (Tri.seq (Tri.block ?_)))
    refine Tri.seq (Tri.reg (l := [0]) rfl ?_)
    refine F.qn rfl (r_assign rfl) (F.nil (Nrm.seq (Tri.seq (Tri.seq ?_))))
    obtain ⟨⟨t32_1, t32_2, t32_3⟩, h32, hE_1⟩ := bind_some hE_1
    refine Tri.reg (l := [0, 1]) rfl ?_
    refine F.qn rfl (r_move rfl) ?_
    refine F.efn rfl (d_callM (xs := _) (cs := [R.box pa0 114 [va0_0, .int .i64 xpa0_1, .int .u64 xpa0_2]]) (rest := [R.box b5_1 27 [.int .i64 a1, wq5_1_1, wq5_1_2], R.box b4_1 27 [.int .i64 0, .slice none 0 0, .slice none 0 0], R.sl Tq5_1_1 wq5_1_1 (xq5_1_1 : List (Int × Int × Int)), R.sl Tq5_1_2 wq5_1_2 (xq5_1_2 : List (Int))]) [1] [0, 2, 3, 4] rfl ok200 rfl rfl rfl rfl (fun w hw => spec_l1Cur_one.ok h32 w (hr_a0_0.down hw) (Sep.sub hw))) ?_
    rintro _ _ ⟨_, ⟨rfl, rfl⟩, rfl⟩
    refine F.nil (Nrm.seq ?_)
    obtain ⟨⟨y9, ypa0_1, ypa0_2⟩, hE_3, hE_1⟩ := bind_some hE_1
    refine Tri.cut (fun e' C' => e' = [(0, .pointer (some ⟨pa0, 0, none⟩)), (1, .int .i64 a1), (4, .pointer (some ⟨b4_1, 0, none⟩)), (5, .pointer (some ⟨b5_1, 0, none⟩)), (6, .int .i64 (w64 (1 + t20_1))), (7, .int .i64 x7), (8, .int .i64 x8), (9, .int .i64 y9)] ∧ C' = Sep w (footM [R.box pa0 114 [va0_0, .int .i64 a0_1, .int .u64 a0_2]]) [R.box pa0 114 [va0_0, .int .i64 ypa0_1, .int .u64 ypa0_2], R.box b5_1 27 [.int .i64 a1, wq5_1_1, wq5_1_2], R.box b4_1 27 [.int .i64 0, .slice none 0 0, .slice none 0 0], R.sl Tq5_1_1 wq5_1_1 (xq5_1_1 : List (Int × Int × Int)), R.sl Tq5_1_2 wq5_1_2 (xq5_1_2 : List (Int))]) ?_ (fun hj_2 => ?_)
    ·rintro _ _ ⟨rfl, rfl⟩
     refine Nrm.seq (Tri.seq ?_)
     obtain ⟨hs41, hE_1⟩ := ck hE_1
     refine Tri.reg (l := [0, 1, 2, 3, 4, 5, 6]) rfl ?_
     refine F.qn rfl (r_fieldAddr tf27_2 rfl) (F.qn rfl (r_load ta25 rfl (fun w hw => cell_1 (box_cells (i := 1) rfl w hw) rfl)) (F.qn rfl (r_move rfl) ?_))
     refine F.mn rfl (m_buildF (l := ([y9] : List (Int))) Tryz.underlying25 ti3 rfl rfl rfl rfl rfl) ?_
     rintro v40_1 _ ⟨S40_1, hl_v40_1, rfl⟩
     refine F.efn rfl (d_append (i := 5) Tryz.underlying25 Tryz.underlying25 ti3 rfl (by decide) rfl rfl rfl (rd_sl (i := 0) rfl) hs41) ?_
     rintro v41_1 _ ⟨S41_1, rfl, hl_v41_1⟩
     refine F.qn rfl (r_fieldAddr tf27_2 rfl) ?_
     refine F.ef0 rfl rfl (wanted_none rfl) (d_storeG1 (i := 2) (cs2 := [v41_1]) ti25 rfl rfl rfl (sl_cells hl_v41_1) rfl (Nat.le_of_ble_eq_true rfl) (lf_cons (sl_leaf hl_v41_1) lf_nil)) ?_
     rintro _ _ ⟨rfl, rfl⟩
     refine F.nil (Nrm.seq (Tri.seq (Tri.seq (Tri.reg (l := [0, 1]) rfl ?_))))
     refine F.qn rfl (r_move rfl) (F.qn rfl (r_gtr rfl rfl) (F.nil (Nrm.seq ?_)))
     obtain ⟨⟨ypa0_1r, ypa0_2r, yb5_1_1⟩, hE_4, hE_1⟩ := bind_some hE_1
     refine Tri.cut (fun e' C' => ∃ (vb5_1_1_1 : Value) (Sb5_1_1_1 : Nat → Prop), SlLen vb5_1_1_1 (yb5_1_1).length ∧ e' = [(0, .pointer (some ⟨pa0, 0, none⟩)), (1, .int .i64 a1), (4, .pointer (some ⟨b4_1, 0, none⟩)), (5, .pointer (some ⟨b5_1, 0, none⟩)), (6, .int .i64 (w64 (1 + t20_1))), (7, .int .i64 x7), (8, .int .i64 x8), (9, .int .i64 y9)] ∧ C' = Sep w (footM [R.box pa0 114 [va0_0, .int .i64 a0_1, .int .u64 a0_2]]) [R.box pa0 114 [va0_0, .int .i64 ypa0_1r, .int .u64 ypa0_2r], R.box b5_1 27 [.int .i64 a1, vb5_1_1_1, v41_1], R.box b4_1 27 [.int .i64 0, .slice none 0 0, .slice none 0 0], R.sl Sb5_1_1_1 vb5_1_1_1 (yb5_1_1 : List (Int × Int × Int)), R.sl S41_1 v41_1 (xq5_1_2 ++ ([y9] : List (Int)) : List (Int))]) ?_ (fun hj_3 => ?_)
     ·rintro _ _ ⟨vb5_1_1_1, Sb5_1_1_1, hl_vb5_1_1_1, rfl, rfl⟩
      refine Nrm.seq (Tri.reg (l := [0, 1, 2, 3]) rfl ?_)
      refine F.qn rfl (r_move rfl) (F.qn rfl (r_move rfl) (F.qn rfl (r_or rfl rfl) (F.qn rfl (r_assign rfl) (F.nil (Nrm.block ?_)))))
      refine Nrm.seq (Tri.reg (l := [0, 1, 2]) rfl ?_)
      refine F.qn rfl (r_move rfl) (F.qn rfl (r_add rfl rfl) (F.qn rfl (r_assign rfl) (F.nil (Nrm.round ?_))))
      refine Rnd.only [0, 1, 4, 5, 6, 7, 8] rfl ?_
      refine Rnd.pick [1, 0, 2, 4, 3] rfl rfl ?_
      exact ih_1 _ _ ⟨bor x7 y9, w64 (x8 + 1), yb5_1_1, xq5_1_2 ++ ([y9] : List (Int)), ypa0_1r, ypa0_2r, vb5_1_1_1, Sb5_1_1_1, v41_1, S41_1, hE_1, hl_vb5_1_1_1, hl_v41_1, rfl, rfl⟩
     ·refine Tri.cond (b := decide (x8 > 0)) rfl (fun g_3 => ?_) (fun g_3 => ?_)
      ·replace hE_4 := if_tt g_3 hE_4
       refine Tri.seq ?_
       obtain ⟨⟨t47_1, t47_2, t47_3⟩, h47, hE_4⟩ := bind_some hE_4
       refine Tri.reg (l := [0, 1, 2, 3]) rfl ?_
       refine F.qn rfl (r_move rfl) (F.qn rfl (r_move rfl) ?_)
       refine F.efn rfl (d_callM (xs := _) (cs := [R.box pa0 114 [va0_0, .int .i64 ypa0_1, .int .u64 ypa0_2]]) (rest := [R.sl S40_1 v40_1 (([y9] : List (Int)) : List (Int)), R.box b5_1 27 [.int .i64 a1, wq5_1_1, v41_1], R.box b4_1 27 [.int .i64 0, .slice none 0 0, .slice none 0 0], R.sl Tq5_1_1 wq5_1_1 (xq5_1_1 : List (Int × Int × Int)), R.sl S41_1 v41_1 (xq5_1_2 ++ ([y9] : List (Int)) : List (Int))]) [1] [0, 2, 3, 4, 5] rfl ok202 rfl rfl rfl rfl (fun w hw => spec_l1Cur_few.ok h47 w (hr_a0_0.down hw) (Sep.sub hw))) ?_
       rintro _ _ ⟨_, ⟨rfl, rfl⟩, rfl⟩
       refine F.qn rfl (r_assign rfl) (F.nil (Nrm.seq (Tri.seq (Tri.seq ?_))))
       obtain ⟨⟨t49_1, t49_2, t49_3⟩, h49, hE_4⟩ := bind_some hE_4
       refine Tri.reg (l := [0, 1, 2]) rfl ?_
       refine F.qn rfl (r_move rfl) ?_
       refine F.efn rfl (d_callM (xs := _) (cs := [R.box pa0 114 [va0_0, .int .i64 t47_2, .int .u64 t47_3]]) (rest := [R.sl S40_1 v40_1 (([y9] : List (Int)) : List (Int)), R.box b5_1 27 [.int .i64 a1, wq5_1_1, v41_1], R.box b4_1 27 [.int .i64 0, .slice none 0 0, .slice none 0 0], R.sl Tq5_1_1 wq5_1_1 (xq5_1_1 : List (Int × Int × Int)), R.sl S41_1 v41_1 (xq5_1_2 ++ ([y9] : List (Int)) : List (Int))]) [0] [1, 2, 3, 4, 5] rfl ok200 rfl rfl rfl rfl (fun w hw => spec_l1Cur_one.ok h49 w (hr_a0_0.down hw) (Sep.sub hw))) ?_
       rintro _ _ ⟨_, ⟨rfl, rfl⟩, rfl⟩
       refine F.qn rfl (r_not rfl) (F.nil (Nrm.seq ?_))
       obtain ⟨y10, hE_5, hE_4⟩ := bind_some hE_4
       refine Tri.cut (fun e' C' => e' = [(0, .pointer (some ⟨pa0, 0, none⟩)), (1, .int .i64 a1), (4, .pointer (some ⟨b4_1, 0, none⟩)), (5, .pointer (some ⟨b5_1, 0, none⟩)), (6, .int .i64 (w64 (1 + t20_1))), (7, .int .i64 x7), (8, .int .i64 x8), (9, .int .i64 y9), (10, .int .i64 y10)] ∧ C' = Sep w (footM [R.box pa0 114 [va0_0, .int .i64 a0_1, .int .u64 a0_2]]) [R.box pa0 114 [va0_0, .int .i64 t49_2, .int .u64 t49_3], R.box b5_1 27 [.int .i64 a1, wq5_1_1, v41_1], R.box b4_1 27 [.int .i64 0, .slice none 0 0, .slice none 0 0], R.sl S41_1 v41_1 (xq5_1_2 ++ ([y9] : List (Int)) : List (Int)), R.sl Tq5_1_1 wq5_1_1 (xq5_1_1 : List (Int × Int × Int))]) ?_ (fun hj_4 => ?_)
       ·rintro _ _ ⟨rfl, rfl⟩
        refine Nrm.seq ?_
        obtain ⟨⟨t58_1, t58_2, t58_3⟩, h58, hE_4⟩ := bind_some hE_4
        obtain ⟨t61, h61, hE_4⟩ := bind_some hE_4
        refine Tri.drawK (B := Sep w (footM [R.box pa0 114 [va0_0, .int .i64 a0_1, .int .u64 a0_2]]) [R.box b5_1 27 [.int .i64 a1, wq5_1_1, v41_1], R.box b4_1 27 [.int .i64 0, .slice none 0 0, .slice none 0 0], R.sl S41_1 v41_1 (xq5_1_2 ++ ([y9] : List (Int)) : List (Int)), R.sl Tq5_1_1 wq5_1_1 (xq5_1_1 : List (Int × Int × Int))]) mixedT Sep.up [(0, true), (1, true), (2, true), (3, true), (5, true), (6, true), (4, false)] [7, 8, 9] (by kernel_rfl) ?_
        refine K.q [1, 2, 3, 4] rfl rfl rfl rfl rfl (wanted_none rfl) (r_fieldAddr tf27_1 rfl) ?_
        refine K.q [1, 2, 3, 4] rfl rfl rfl rfl rfl (wanted_none rfl) (r_load ta24 rfl (fun w hw => cell_1 (box_cells (i := 0) rfl w hw) rfl)) ?_
        iterate 4 refine K.q [1, 2, 3, 4] rfl rfl rfl rfl rfl (wanted_none rfl) (r_move rfl) ?_
        refine B.ef rfl rfl rfl (wanted_none rfl) (d_callM (xs := _) (cs := [R.box pa0 114 [va0_0, .int .i64 t49_2, .int .u64 t49_3]]) (rest := [R.box b5_1 27 [.int .i64 a1, wq5_1_1, v41_1], R.box b4_1 27 [.int .i64 0, .slice none 0 0, .slice none 0 0], R.sl S41_1 v41_1 (xq5_1_2 ++ ([y9] : List (Int)) : List (Int)), R.sl Tq5_1_1 wq5_1_1 (xq5_1_1 : List (Int × Int × Int))]) [0] [1, 2, 3, 4] rfl ok115 rfl rfl rfl rfl (fun w hw => spec_l1Cur_pick.ok h58 w (hr_a0_0.down hw) (Sep.sub hw))) (by rintro _ _ ⟨_, ⟨rfl, rfl⟩, rfl⟩; exact upd rfl [1, 2, 3, 4] rfl rfl) ?_
        rintro _ _ ⟨_, ⟨rfl, rfl⟩, rfl⟩
        refine B.nil ?_
        refine F.efn rfl (d_callM (xs := _) (cs := [R.sl Tq5_1_1 wq5_1_1 (xq5_1_1 : List (Int × Int × Int))]) (rest := [R.box pa0 114 [va0_0, .int .i64 t58_2, .int .u64 t58_3], R.box b5_1 27 [.int .i64 a1, wq5_1_1, v41_1], R.box b4_1 27 [.int .i64 0, .slice none 0 0, .slice none 0 0], R.sl S41_1 v41_1 (xq5_1_2 ++ ([y9] : List (Int)) : List (Int))]) [4] [0, 1, 2, 3] rfl ok238 rfl rfl rfl rfl (fun w hw => spec_l2Put.ok h61 w hl_wq5_1_1 (Sep.sub hw))) ?_
        rintro v61_2 _ ⟨_, ⟨S61_2, hl_v61_2, rfl⟩, rfl⟩
        refine F.qn rfl (r_fieldAddr tf27_1 rfl) ?_
        refine F.ef0 rfl rfl (wanted_none rfl) (d_storeG1 (i := 2) (cs2 := [v61_2]) ti24 rfl rfl rfl (sl_cells hl_v61_2) rfl (Nat.le_of_ble_eq_true rfl) (lf_cons (sl_leaf hl_v61_2) lf_nil)) ?_
        rintro _ _ ⟨rfl, rfl⟩
        refine F.nil ?_
        cases hE_4
        refine Nrm.only [0, 1, 4, 5, 6, 7, 8, 9] rfl ?_
        refine Nrm.pick [1, 2, 3, 0, 4] rfl rfl ?_
        exact hj_3 _ _ ⟨v61_2, S61_2, hl_v61_2, rfl, rfl⟩
       ·refine Tri.cond (b := !t49_1) rfl (fun g_4 => ?_) (fun g_4 => ?_)
        ·replace hE_5 := if_tt g_4 hE_5
         refine Tri.reg (l := [0, 1, 2, 3]) rfl ?_
         refine F.qn rfl (r_move rfl) (F.qn rfl (r_move rfl) (F.qn rfl (r_and rfl rfl) (F.qn rfl (r_assign rfl) (F.nil ?_))))
         cases hE_5
         refine Nrm.only [0, 1, 4, 5, 6, 7, 8, 9, 10] rfl ?_
         refine Nrm.pick [0, 2, 3, 5, 4] rfl rfl ?_
         exact hj_4 _ _ ⟨rfl, rfl⟩
        ·replace hE_5 := if_ff g_4 hE_5
         refine Tri.skip ?_
         cases hE_5
         refine Nrm.only [0, 1, 4, 5, 6, 7, 8, 9, 10] rfl ?_
         refine Nrm.pick [0, 2, 3, 5, 4] rfl rfl ?_
         exact hj_4 _ _ ⟨rfl, rfl⟩
      ·replace hE_4 := if_ff g_3 hE_4
       refine Tri.skip ?_
       cases hE_4
       refine Nrm.only [0, 1, 4, 5, 6, 7, 8, 9] rfl ?_
       refine Nrm.pick [1, 2, 3, 4, 5] rfl rfl ?_
       exact hj_3 _ _ ⟨wq5_1_1, Tq5_1_1, hl_wq5_1_1, rfl, rfl⟩
    ·refine Tri.cond (b := t32_1) rfl (fun g_2 => ?_) (fun g_2 => ?_)
     ·replace hE_3 := if_tt g_2 hE_3
      obtain ⟨⟨t35_1, t35_2, t35_3⟩, h35, hE_3⟩ := bind_some hE_3
      obtain ⟨hs36, hE_3⟩ := ck hE_3
      refine Tri.reg (l := [0, 1, 2, 3, 4]) rfl ?_
      refine F.qn rfl (r_move rfl) (F.qn rfl (r_move rfl) ?_)
      refine F.efn rfl (d_callM (xs := _) (cs := [R.box pa0 114 [va0_0, .int .i64 t32_2, .int .u64 t32_3]]) (rest := [R.box b5_1 27 [.int .i64 a1, wq5_1_1, wq5_1_2], R.box b4_1 27 [.int .i64 0, .slice none 0 0, .slice none 0 0], R.sl Tq5_1_1 wq5_1_1 (xq5_1_1 : List (Int × Int × Int)), R.sl Tq5_1_2 wq5_1_2 (xq5_1_2 : List (Int))]) [0] [1, 2, 3, 4] rfl ok115 rfl rfl rfl rfl (fun w hw => spec_l1Cur_pick.ok h35 w (hr_a0_0.down hw) (Sep.sub hw))) ?_
      rintro _ _ ⟨_, ⟨rfl, rfl⟩, rfl⟩
      refine F.qn rfl (r_shl rfl rfl hs36) (F.qn rfl (r_assign rfl) (F.nil ?_))
      cases hE_3
      refine Nrm.only [0, 1, 4, 5, 6, 7, 8, 9] rfl ?_
      refine Nrm.pick [0, 1, 2, 3, 4] rfl rfl ?_
      exact hj_2 _ _ ⟨rfl, rfl⟩
     ·replace hE_3 := if_ff g_2 hE_3
      refine Tri.skip ?_
      cases hE_3
      refine Nrm.only [0, 1, 4, 5, 6, 7, 8, 9] rfl ?_
      refine Nrm.pick [0, 1, 2, 3, 4] rfl rfl ?_
      exact hj_2 _ _ ⟨rfl, rfl⟩
   ·replace hE_1 := if_ff g_1 hE_1
    refine Tri.exit ?_
    refine Exi.then ?_
    refine Exi.then ?_
    refine Exi.same ?_
    cases hE_1
    refine Nrm.seq (Tri.seq (Tri.seq ?_))
    obtain ⟨⟨t67_1, t67_2, t67_3⟩, h67, h⟩ := bind_some h
    refine Tri.reg (l := [0, 1, 2]) rfl ?_
    refine F.qn rfl (r_move rfl) ?_
    refine F.efn rfl (d_callM (xs := _) (cs := [R.box pa0 114 [va0_0, .int .i64 xpa0_1, .int .u64 xpa0_2]]) (rest := [R.box b5_1 27 [.int .i64 a1, wq5_1_1, wq5_1_2], R.box b4_1 27 [.int .i64 0, .slice none 0 0, .slice none 0 0], R.sl Tq5_1_1 wq5_1_1 (xq5_1_1 : List (Int × Int × Int)), R.sl Tq5_1_2 wq5_1_2 (xq5_1_2 : List (Int))]) [1] [0, 2, 3, 4] rfl ok115 rfl rfl rfl rfl (fun w hw => spec_l1Cur_pick.ok h67 w (hr_a0_0.down hw) (Sep.sub hw))) ?_
    rintro _ _ ⟨_, ⟨rfl, rfl⟩, rfl⟩
    refine F.qn rfl (r_assign rfl) (F.nil (Nrm.seq ?_))
    obtain ⟨⟨xpa0_1r, xpa0_2r, xq5_1_1r⟩, hE_6, h⟩ := bind_some h
    refine Tri.block ?_
    refine Tri.only [0, 1, 4, 5, 6, 11] rfl ?_
    refine Tri.pick [0, 1, 2, 3, 4] rfl rfl ?_
    refine Tri.rounds (fun n e' C' => ∃ (x11' : Int) (xpa0_1r' : Int) (xpa0_2r' : Int) (xq5_1_1r' : List (Int × Int × Int)) (wq5_1_1r : Value) (Tq5_1_1r : Nat → Prop), spec_l1Cur_someMaze.l1 k a0_0 a1 t20_1 n x11' xpa0_1r' xpa0_2r' xq5_1_1r' = some (xpa0_1r, xpa0_2r, xq5_1_1r) ∧ SlLen wq5_1_1r (xq5_1_1r').length ∧ e' = [(0, .pointer (some ⟨pa0, 0, none⟩)), (1, .int .i64 a1), (4, .pointer (some ⟨b4_1, 0, none⟩)), (5, .pointer (some ⟨b5_1, 0, none⟩)), (6, .int .i64 (w64 (1 + t20_1))), (11, .int .i64 x11')] ∧ C' = Sep w (footM [R.box pa0 114 [va0_0, .int .i64 a0_1, .int .u64 a0_2]]) [R.box pa0 114 [va0_0, .int .i64 xpa0_1r', .int .u64 xpa0_2r'], R.box b5_1 27 [.int .i64 a1, wq5_1_1r, wq5_1_2], R.box b4_1 27 [.int .i64 0, .slice none 0 0, .slice none 0 0], R.sl Tq5_1_1r wq5_1_1r (xq5_1_1r' : List (Int × Int × Int)), R.sl Tq5_1_2 wq5_1_2 (xq5_1_2 : List (Int))]) k ?_ ?_ ?_
    ·exact ⟨t67_1, t67_2, t67_3, xq5_1_1, wq5_1_1, Tq5_1_1, hE_6, hl_wq5_1_1, rfl, rfl⟩
    ·rintro _ _ ⟨_, _, _, _, _, _, hE_6, _⟩
     rw [spec_l1Cur_someMaze.l1.eq_1] at hE_6; cases hE_6
    ·rintro n_2 _ _ ⟨x11, xpa0_1r, xpa0_2r, xq5_1_1r, wq5_1_1r, Tq5_1_1r, hE_6, hl_wq5_1_1r, rfl, rfl⟩ ih_2
     rw [spec_l1Cur_someMaze.l1.eq_2] at hE_6
     refine Tri.seq (Tri.seq ?_)
     obtain ⟨y77, hE_7, hE_6⟩ := bind_some hE_6
     refine Tri.cut (fun e' C' => e' = [(0, .pointer (some ⟨pa0, 0, none⟩)), (1, .int .i64 a1), (4, .pointer (some ⟨b4_1, 0, none⟩)), (5, .pointer (some ⟨b5_1, 0, none⟩)), (6, .int .i64 (w64 (1 + t20_1))), (11, .int .i64 x11), (77, .bool y77)] ∧ C' = Sep w (footM [R.box pa0 114 [va0_0, .int .i64 a0_1, .int .u64 a0_2]]) [R.box pa0 114 [va0_0, .int .i64 xpa0_1r, .int .u64 xpa0_2r], R.box b5_1 27 [.int .i64 a1, wq5_1_1r, wq5_1_2], R.box b4_1 27 [.int .i64 0, .slice none 0 0, .slice none 0 0], R.sl Tq5_1_1r wq5_1_1r (xq5_1_1r : List (Int × Int × Int)), R.sl Tq5_1_2 wq5_1_2 (xq5_1_2 : List (Int))]) ?_ (fun hj_5 => ?_)
     ·rintro _ _ ⟨rfl, rfl⟩
      refine Nrm.seq (Tri.cond (b := y77) rfl (fun g_5 => ?_) (fun g_5 => ?_))
      ·replace hE_6 := if_tt g_5 hE_6
       refine Tri.skip (Nrm.seq (Tri.seq (Tri.block ?_)))
       refine Tri.seq ?_
       obtain ⟨⟨t82_1, t82_2, t82_3⟩, h82, hE_6⟩ := bind_some hE_6
       obtain ⟨⟨t85_1, t85_2, t85_3⟩, h85, hE_6⟩ := bind_some hE_6
       refine Tri.reg (l := [0, 1, 2, 3, 4, 5, 6, 7]) rfl ?_
       refine F.qn rfl (r_move rfl) (F.qn rfl (r_move rfl) ?_)
       refine F.efn rfl (d_callM (xs := _) (cs := [R.box pa0 114 [va0_0, .int .i64 xpa0_1r, .int .u64 xpa0_2r]]) (rest := [R.box b5_1 27 [.int .i64 a1, wq5_1_1r, wq5_1_2], R.box b4_1 27 [.int .i64 0, .slice none 0 0, .slice none 0 0], R.sl Tq5_1_1r wq5_1_1r (xq5_1_1r : List (Int × Int × Int)), R.sl Tq5_1_2 wq5_1_2 (xq5_1_2 : List (Int))]) [0] [1, 2, 3, 4] rfl ok115 rfl rfl rfl rfl (fun w hw => spec_l1Cur_pick.ok h82 w (hr_a0_0.down hw) (Sep.sub hw))) ?_
       rintro _ _ ⟨_, ⟨rfl, rfl⟩, rfl⟩
       refine F.qn rfl (r_move rfl) (F.qn rfl (r_move rfl) ?_)
       refine F.efn rfl (d_callM (xs := _) (cs := [R.box pa0 114 [va0_0, .int .i64 t82_2, .int .u64 t82_3]]) (rest := [R.box b5_1 27 [.int .i64 a1, wq5_1_1r, wq5_1_2], R.box b4_1 27 [.int .i64 0, .slice none 0 0, .slice none 0 0], R.sl Tq5_1_1r wq5_1_1r (xq5_1_1r : List (Int × Int × Int)), R.sl Tq5_1_2 wq5_1_2 (xq5_1_2 : List (Int))]) [0] [1, 2, 3, 4] rfl ok115 rfl rfl rfl rfl (fun w hw => spec_l1Cur_pick.ok h85 w (hr_a0_0.down hw) (Sep.sub hw))) ?_
       rintro _ _ ⟨_, ⟨rfl, rfl⟩, rfl⟩
       refine F.qn rfl (r_assign rfl) (F.qn rfl (r_assign rfl) (F.nil (Nrm.seq (Tri.seq (Tri.reg (l := [0, 1, 2]) rfl ?_)))))
       refine F.qn rfl (r_move rfl) (F.qn rfl (r_move rfl) (F.qn rfl (r_neq rfl rfl) (F.nil (Nrm.seq ?_))))
       obtain ⟨⟨ypa0_1rr, ypa0_2rr, yb5_1_1r⟩, hE_8, hE_6⟩ := bind_some hE_6
       refine Tri.cut (fun e' C' => ∃ (vb5_1_1_2 : Value) (Sb5_1_1_2 : Nat → Prop), SlLen vb5_1_1_2 (yb5_1_1r).length ∧ e' = [(0, .pointer (some ⟨pa0, 0, none⟩)), (1, .int .i64 a1), (4, .pointer (some ⟨b4_1, 0, none⟩)), (5, .pointer (some ⟨b5_1, 0, none⟩)), (6, .int .i64 (w64 (1 + t20_1))), (11, .int .i64 x11)] ∧ C' = Sep w (footM [R.box pa0 114 [va0_0, .int .i64 a0_1, .int .u64 a0_2]]) [R.box pa0 114 [va0_0, .int .i64 ypa0_1rr, .int .u64 ypa0_2rr], R.box b5_1 27 [.int .i64 a1, vb5_1_1_2, wq5_1_2], R.box b4_1 27 [.int .i64 0, .slice none 0 0, .slice none 0 0], R.sl Sb5_1_1_2 vb5_1_1_2 (yb5_1_1r : List (Int × Int × Int)), R.sl Tq5_1_2 wq5_1_2 (xq5_1_2 : List (Int))]) ?_ (fun hj_6 => ?_)
       ·rintro _ _ ⟨vb5_1_1_2, Sb5_1_1_2, hl_vb5_1_1_2, rfl, rfl⟩
        refine Nrm.block ?_
        refine Nrm.seq (Tri.reg (l := [0, 1, 2]) rfl ?_)
        refine F.qn rfl (r_move rfl) (F.qn rfl (r_sub rfl rfl) (F.qn rfl (r_assign rfl) (F.nil (Nrm.round ?_))))
        refine Rnd.only [0, 1, 4, 5, 6, 11] rfl ?_
        refine Rnd.pick [0, 1, 2, 3, 4] rfl rfl ?_
        exact ih_2 _ _ ⟨w64 (x11 - 1), ypa0_1rr, ypa0_2rr, yb5_1_1r, vb5_1_1_2, Sb5_1_1_2, hE_6, hl_vb5_1_1_2, rfl, rfl⟩
       ·refine Tri.cond (b := t82_1 != t85_1) rfl (fun g_6 => ?_) (fun g_6 => ?_)
        ·replace hE_8 := if_tt g_6 hE_8
         obtain ⟨⟨t95_1, t95_2, t95_3⟩, h95, hE_8⟩ := bind_some hE_8
         obtain ⟨t96, h96, hE_8⟩ := bind_some hE_8
         refine Tri.drawK (B := Sep w (footM [R.box pa0 114 [va0_0, .int .i64 a0_1, .int .u64 a0_2]]) [R.box b5_1 27 [.int .i64 a1, wq5_1_1r, wq5_1_2], R.box b4_1 27 [.int .i64 0, .slice none 0 0, .slice none 0 0], R.sl Tq5_1_1r wq5_1_1r (xq5_1_1r : List (Int × Int × Int)), R.sl Tq5_1_2 wq5_1_2 (xq5_1_2 : List (Int))]) mixedT Sep.up [(0, true), (1, true), (2, true), (3, true), (4, true), (5, true), (6, false)] [7, 8, 9] (by kernel_rfl) ?_
         refine K.q [1, 2, 3, 4] rfl rfl rfl rfl rfl (wanted_none rfl) (r_fieldAddr tf27_1 rfl) ?_
         refine K.q [1, 2, 3, 4] rfl rfl rfl rfl rfl (wanted_none rfl) (r_load ta24 rfl (fun w hw => cell_1 (box_cells (i := 0) rfl w hw) rfl)) ?_
         iterate 4 refine K.q [1, 2, 3, 4] rfl rfl rfl rfl rfl (wanted_none rfl) (r_move rfl) ?_
         refine B.ef rfl rfl rfl (wanted_none rfl) (d_callM (xs := _) (cs := [R.box pa0 114 [va0_0, .int .i64 t85_2, .int .u64 t85_3]]) (rest := [R.box b5_1 27 [.int .i64 a1, wq5_1_1r, wq5_1_2], R.box b4_1 27 [.int .i64 0, .slice none 0 0, .slice none 0 0], R.sl Tq5_1_1r wq5_1_1r (xq5_1_1r : List (Int × Int × Int)), R.sl Tq5_1_2 wq5_1_2 (xq5_1_2 : List (Int))]) [0] [1, 2, 3, 4] rfl ok202 rfl rfl rfl rfl (fun w hw => spec_l1Cur_few.ok h95 w (hr_a0_0.down hw) (Sep.sub hw))) (by rintro _ _ ⟨_, ⟨rfl, rfl⟩, rfl⟩; exact upd rfl [1, 2, 3, 4] rfl rfl) ?_
         rintro _ _ ⟨_, ⟨rfl, rfl⟩, rfl⟩
         refine B.nil ?_
         refine F.efn rfl (d_callM (xs := _) (cs := [R.sl Tq5_1_1r wq5_1_1r (xq5_1_1r : List (Int × Int × Int))]) (rest := [R.box pa0 114 [va0_0, .int .i64 t95_2, .int .u64 t95_3], R.box b5_1 27 [.int .i64 a1, wq5_1_1r, wq5_1_2], R.box b4_1 27 [.int .i64 0, .slice none 0 0, .slice none 0 0], R.sl Tq5_1_2 wq5_1_2 (xq5_1_2 : List (Int))]) [3] [0, 1, 2, 4] rfl ok238 rfl rfl rfl rfl (fun w hw => spec_l2Put.ok h96 w hl_wq5_1_1r (Sep.sub hw))) ?_
         rintro v96_2 _ ⟨_, ⟨S96_2, hl_v96_2, rfl⟩, rfl⟩
         refine F.qn rfl (r_fieldAddr tf27_1 rfl) ?_
         refine F.ef0 rfl rfl (wanted_none rfl) (d_storeG1 (i := 2) (cs2 := [v96_2]) ti24 rfl rfl rfl (sl_cells hl_v96_2) rfl (Nat.le_of_ble_eq_true rfl) (lf_cons (sl_leaf hl_v96_2) lf_nil)) ?_
         rintro _ _ ⟨rfl, rfl⟩
         refine F.nil ?_
         cases hE_8
         refine Nrm.only [0, 1, 4, 5, 6, 11] rfl ?_
         refine Nrm.pick [1, 2, 3, 0, 4] rfl rfl ?_
         exact hj_6 _ _ ⟨v96_2, S96_2, hl_v96_2, rfl, rfl⟩
        ·replace hE_8 := if_ff g_6 hE_8
         refine Tri.skip ?_
         cases hE_8
         refine Nrm.only [0, 1, 4, 5, 6, 11] rfl ?_
         refine Nrm.pick [0, 1, 2, 3, 4] rfl rfl ?_
         exact hj_6 _ _ ⟨wq5_1_1r, Tq5_1_1r, hl_wq5_1_1r, rfl, rfl⟩
      ·replace hE_6 := if_ff g_5 hE_6
       refine Tri.exit ?_
       refine Exi.then ?_
       refine Exi.then ?_
       refine Exi.same ?_
       cases hE_6
       refine Nrm.seq (Tri.seq (Tri.seq ?_))
       obtain ⟨⟨t99_1, t99_2, t99_3⟩, h99, h⟩ := bind_some h
       refine Tri.reg (l := [0, 1]) rfl ?_
       refine F.qn rfl (r_move rfl) ?_
       refine F.efn rfl (d_callM (xs := _) (cs := [R.box pa0 114 [va0_0, .int .i64 xpa0_1r, .int .u64 xpa0_2r]]) (rest := [R.box b5_1 27 [.int .i64 a1, wq5_1_1r, wq5_1_2], R.box b4_1 27 [.int .i64 0, .slice none 0 0, .slice none 0 0], R.sl Tq5_1_1r wq5_1_1r (xq5_1_1r : List (Int × Int × Int)), R.sl Tq5_1_2 wq5_1_2 (xq5_1_2 : List (Int))]) [0] [1, 2, 3, 4] rfl ok115 rfl rfl rfl rfl (fun w hw => spec_l1Cur_pick.ok h99 w (hr_a0_0.down hw) (Sep.sub hw))) ?_
       rintro _ _ ⟨_, ⟨rfl, rfl⟩, rfl⟩
       refine F.nil (Nrm.seq (Tri.block ?_))
       refine Tri.seq (Tri.reg (l := [0, 1]) rfl ?_)
       refine F.qn rfl (r_eql rfl rfl) (F.qn rfl (r_assign rfl) (F.nil (Nrm.seq (Tri.cond (b := t99_1 == 0) rfl (fun g_7 => ?_) (fun g_7 => ?_)))))
       ·replace h := if_tt g_7 h
        obtain ⟨⟨t107_1, t107_2, t107_3⟩, h107, h⟩ := bind_some h
        refine Tri.reg (l := [0, 1, 2, 3, 4, 5, 6, 7]) rfl ?_
        refine F.qn rfl (r_move rfl) (F.qn rfl (r_fieldAddr tf27_0 rfl) (F.qn rfl (r_load ta3 rfl (fun w hw => cell_1 (box_cells (i := 1) rfl w hw) rfl)) (F.qn rfl (r_add rfl rfl) ?_)))
        refine F.mn rfl (m_buildF (l := ([0, 13, w64 (a1 + 1)] : List (Int))) Tryz.underlying25 ti3 rfl rfl rfl rfl rfl) ?_
        rintro v106_1 _ ⟨S106_1, hl_v106_1, rfl⟩
        refine F.efn rfl (d_callM (xs := _) (cs := [R.box pa0 114 [va0_0, .int .i64 t99_2, .int .u64 t99_3]]) (rest := [R.sl S106_1 v106_1 (([0, 13, w64 (a1 + 1)] : List (Int)) : List (Int)), R.box b5_1 27 [.int .i64 a1, wq5_1_1r, wq5_1_2], R.box b4_1 27 [.int .i64 0, .slice none 0 0, .slice none 0 0], R.sl Tq5_1_1r wq5_1_1r (xq5_1_1r : List (Int × Int × Int)), R.sl Tq5_1_2 wq5_1_2 (xq5_1_2 : List (Int))]) [1] [0, 2, 3, 4, 5] rfl ok194 rfl rfl rfl rfl (fun w hw => spec_l1Cur_among.ok h107 w (hr_a0_0.down hw) (rdm_sl (i := 0) rfl hw) (Sep.sub hw))) ?_
        rintro _ _ ⟨_, ⟨rfl, rfl⟩, rfl⟩
        refine F.qn rfl (r_fieldAddr tf27_0 rfl) ?_
        refine F.ef0 rfl rfl (wanted_none rfl) (d_storeG1 (i := 2) (cs2 := [.int .i64 t107_1]) ti3 rfl rfl rfl rfl rfl (Nat.le_of_ble_eq_true rfl) (lf_cons rfl lf_nil)) ?_
        rintro _ _ ⟨rfl, rfl⟩
        refine F.nil (Nrm.block ?_)
        refine Nrm.seq (Tri.seq (Tri.reg (l := [0, 1]) rfl ?_))
        refine F.qn rfl (r_loadA ta27 ti27 rfl rfl (fun w hw => (box_cells (i := 2) rfl w hw))) ?_
        refine F.ef0 rfl rfl (wanted_none rfl) (d_storeG0 (i := 3) (cs2 := [.int .i64 t107_1, wq5_1_1r, wq5_1_2]) ti27 rfl rfl rfl rfl rfl (Nat.le_of_ble_eq_true rfl) (lf_cons rfl (lf_cons (sl_leaf hl_wq5_1_1r) (lf_cons (sl_leaf hl_wq5_1_2) lf_nil)))) ?_
        rintro _ _ ⟨rfl, rfl⟩
        refine F.nil (Nrm.seq (Tri.ret ?_))
        cases h
        exact Rtn.body (.cell rfl ta27 ti27 rfl (fun _ hw => box_cells (i := 3) rfl _ hw) .nil) (fun w hw => ⟨_, _, rfl, ⟨wq5_1_1r, Tq5_1_1r, wq5_1_2, Tq5_1_2, rfl, hl_wq5_1_1r, hl_wq5_1_2, rfl⟩, Sep.pick (is := [4, 5, 0]) rfl rfl hw⟩)
       ·replace h := if_ff g_7 h
        refine Tri.seq (Tri.reg (l := [0, 1]) rfl ?_)
        refine F.qn rfl (r_eql rfl rfl) (F.qn rfl (r_assign rfl) (F.nil (Nrm.seq (Tri.cond (b := t99_1 == 1) rfl (fun g_8 => ?_) (fun g_8 => ?_)))))
        ·replace h := if_tt g_8 h
         refine Tri.seq (Tri.reg (l := [0, 1, 2, 3]) rfl ?_)
         refine F.qn rfl (r_fieldAddr tf27_1 rfl) (F.qn rfl (r_load ta24 rfl (fun w hw => cell_1 (box_cells (i := 1) rfl w hw) rfl)) (F.qn rfl (r_len Tryz.underlying24 rfl hl_wq5_1_1r) (F.qn rfl (r_gtr rfl rfl) (F.nil (Nrm.seq ?_)))))
         obtain ⟨⟨ypa0_1rrr, ypa0_2rrr, yb5_1_1rr⟩, hE_9, h⟩ := bind_some h
         refine Tri.cut (fun e' C' => ∃ (vb5_1_1_3 : Value) (Sb5_1_1_3 : Nat → Prop), SlLen vb5_1_1_3 (yb5_1_1rr).length ∧ e' = [(4, .pointer (some ⟨b4_1, 0, none⟩)), (5, .pointer (some ⟨b5_1, 0, none⟩))] ∧ C' = Sep w (footM [R.box pa0 114 [va0_0, .int .i64 a0_1, .int .u64 a0_2]]) [R.box pa0 114 [va0_0, .int .i64 ypa0_1rrr, .int .u64 ypa0_2rrr], R.box b5_1 27 [.int .i64 a1, vb5_1_1_3, wq5_1_2], R.box b4_1 27 [.int .i64 0, .slice none 0 0, .slice none 0 0], R.sl Sb5_1_1_3 vb5_1_1_3 (yb5_1_1rr : List (Int × Int × Int)), R.sl Tq5_1_2 wq5_1_2 (xq5_1_2 : List (Int))]) ?_ (fun hj_7 => ?_)
         ·rintro _ _ ⟨vb5_1_1_3, Sb5_1_1_3, hl_vb5_1_1_3, rfl, rfl⟩
          refine Nrm.block ?_
          refine Nrm.seq (Tri.seq (Tri.reg (l := [0, 1]) rfl ?_))
          refine F.qn rfl (r_loadA ta27 ti27 rfl rfl (fun w hw => (box_cells (i := 1) rfl w hw))) ?_
          refine F.ef0 rfl rfl (wanted_none rfl) (d_storeG0 (i := 2) (cs2 := [.int .i64 a1, vb5_1_1_3, wq5_1_2]) ti27 rfl rfl rfl rfl rfl (Nat.le_of_ble_eq_true rfl) (lf_cons rfl (lf_cons (sl_leaf hl_vb5_1_1_3) (lf_cons (sl_leaf hl_wq5_1_2) lf_nil)))) ?_
          rintro _ _ ⟨rfl, rfl⟩
          refine F.nil (Nrm.seq (Tri.ret ?_))
          cases h
          exact Rtn.body (.cell rfl ta27 ti27 rfl (fun _ hw => box_cells (i := 2) rfl _ hw) .nil) (fun w hw => ⟨_, _, rfl, ⟨vb5_1_1_3, Sb5_1_1_3, wq5_1_2, Tq5_1_2, rfl, hl_vb5_1_1_3, hl_wq5_1_2, rfl⟩, Sep.pick (is := [3, 4, 0]) rfl rfl hw⟩)
         ·refine Tri.cond (b := decide ((xq5_1_1r.length : Int) > 0)) rfl (fun g_9 => ?_) (fun g_9 => ?_)
          ·replace hE_9 := if_tt g_9 hE_9
           refine Tri.seq ?_
           obtain ⟨⟨t119_1, t119_2, t119_3⟩, h119, hE_9⟩ := bind_some hE_9
           refine Tri.reg (l := [0, 1, 2, 3, 4, 5]) rfl ?_
           refine F.qn rfl (r_move rfl) (F.qn rfl (r_fieldAddr tf27_1 rfl) (F.qn rfl (r_load ta24 rfl (fun w hw => cell_1 (box_cells (i := 1) rfl w hw) rfl)) (F.qn rfl (r_len Tryz.underlying24 rfl hl_wq5_1_1r) ?_)))
           refine F.efn rfl (d_callM (xs := _) (cs := [R.box pa0 114 [va0_0, .int .i64 t99_2, .int .u64 t99_3]]) (rest := [R.box b5_1 27 [.int .i64 a1, wq5_1_1r, wq5_1_2], R.box b4_1 27 [.int .i64 0, .slice none 0 0, .slice none 0 0], R.sl Tq5_1_1r wq5_1_1r (xq5_1_1r : List (Int × Int × Int)), R.sl Tq5_1_2 wq5_1_2 (xq5_1_2 : List (Int))]) [0] [1, 2, 3, 4] rfl ok115 rfl rfl rfl rfl (fun w hw => spec_l1Cur_pick.ok h119 w (hr_a0_0.down hw) (Sep.sub hw))) ?_
           rintro _ _ ⟨_, ⟨rfl, rfl⟩, rfl⟩
           refine F.qn rfl (r_assign rfl) (F.nil (Nrm.seq ?_))
           obtain ⟨t126, h126, hE_9⟩ := bind_some hE_9
           obtain ⟨t132, h132, hE_9⟩ := bind_some hE_9
           obtain ⟨t136, h136, hE_9⟩ := bind_some hE_9
           refine Tri.drawA mixedT Sep.up [(0, true), (1, true), (2, true), (3, true), (4, true), (5, true), (6, true), (7, true), (8, true), (9, true), (10, true), (11, true), (12, true), (13, true), (14, true), (15, true), (16, true)] [17] (by kernel_rfl) ?_
           refine S.qn rfl (r_fieldAddr tf27_1 rfl) (S.qn rfl (r_load ta24 rfl (fun w hw => cell_1 (box_cells (i := 1) rfl w hw) rfl)) ?_)
           refine S.qn rfl (r_move rfl) (S.qn rfl (r_fieldAddr tf27_1 rfl) (S.qn rfl (r_load ta24 rfl (fun w hw => cell_1 (box_cells (i := 1) rfl w hw) rfl)) (S.qn rfl (r_move rfl) (S.qn rfl (r_indexAddrS Tryz.underlying24 ti168 rfl hl_wq5_1_1r rfl (rdl_some h126).1 (rdl_some h126).2.1) (S.qn rfl (r_indexAddrA Tryz.underlying168 ti3 rfl rfl (by decide) (by decide)) ?_)))))
           refine S.qn rfl (r_load ta3 rfl (fun w hw => cell_1 (Rd.flat ((rd_sl (i := 3) rfl) w hw) (rdl_some h126).2.2) rfl)) (S.qn rfl (r_fieldAddr tf27_1 rfl) (S.qn rfl (r_load ta24 rfl (fun w hw => cell_1 (box_cells (i := 1) rfl w hw) rfl)) (S.qn rfl (r_move rfl) (S.qn rfl (r_indexAddrS Tryz.underlying24 ti168 rfl hl_wq5_1_1r rfl (rdl_some h132).1 (rdl_some h132).2.1) (S.qn rfl (r_indexAddrA Tryz.underlying168 ti3 rfl rfl (by decide) (by decide)) ?_)))))
           refine S.qn rfl (r_load ta3 rfl (fun w hw => cell_1 (Rd.flat ((rd_sl (i := 3) rfl) w hw) (rdl_some h132).2.2) rfl)) (S.qn rfl (r_buildA (qs := [(0, [.int .i64 t126.2.1]), (1, [.int .i64 t132.1]), (2, [.int .i64 0])]) (cs := [.int .i64 t126.2.1, .int .i64 t132.1, .int .i64 0]) Tryz.underlying168 ti3 ti168 rfl (.cons rfl rfl (Nat.le_of_ble_eq_true rfl) (.cons rfl rfl (Nat.le_of_ble_eq_true rfl) (.cons rfl rfl (Nat.le_of_ble_eq_true rfl) .nil))) rfl rfl) (S.qn rfl (r_indexAddrS Tryz.underlying24 ti168 rfl hl_wq5_1_1r rfl (rdl_some h136).1 (rdl_some h136).2.1) (S.nil (F.ef0 rfl rfl (wanted_none rfl) (d_storeE (i := 3) (x1 := (t126.2.1, t132.1, 0)) ti168 rfl rfl rfl (rdl_some h136) rfl) ?_))))
           rintro _ _ ⟨rfl, rfl⟩
           refine F.nil ?_
           cases hE_9
           refine Nrm.only [4, 5] rfl ?_
           refine Nrm.pick [0, 1, 2, 3, 4] rfl rfl ?_
           exact hj_7 _ _ ⟨wq5_1_1r, Tq5_1_1r, (len_set hl_wq5_1_1r), rfl, rfl⟩
          ·replace hE_9 := if_ff g_9 hE_9
           refine Tri.skip ?_
           cases hE_9
           refine Nrm.only [4, 5] rfl ?_
           refine Nrm.pick [0, 1, 2, 3, 4] rfl rfl ?_
           exact hj_7 _ _ ⟨wq5_1_1r, Tq5_1_1r, hl_wq5_1_1r, rfl, rfl⟩
        ·replace h := if_ff g_8 h
         refine Tri.seq (Tri.reg (l := [0, 1]) rfl ?_)
         refine F.qn rfl (r_eql rfl rfl) (F.qn rfl (r_assign rfl) (F.nil (Nrm.seq (Tri.cond (b := t99_1 == 2) rfl (fun g_10 => ?_) (fun g_10 => ?_)))))
         ·replace h := if_tt g_10 h
          refine Tri.seq (Tri.reg (l := [0, 1, 2, 3]) rfl ?_)
          refine F.qn rfl (r_fieldAddr tf27_2 rfl) (F.qn rfl (r_load ta25 rfl (fun w hw => cell_1 (box_cells (i := 1) rfl w hw) rfl)) (F.qn rfl (r_len Tryz.underlying25 rfl hl_wq5_1_2) (F.qn rfl (r_gtr rfl rfl) (F.nil (Nrm.seq ?_)))))
          obtain ⟨⟨ypa0_1rrrr, ypa0_2rrrr, yb5_1_2⟩, hE_10, h⟩ := bind_some h
          refine Tri.cut (fun e' C' => ∃ (vb5_1_2_1 : Value) (Sb5_1_2_1 : Nat → Prop), SlLen vb5_1_2_1 (yb5_1_2).length ∧ e' = [(4, .pointer (some ⟨b4_1, 0, none⟩)), (5, .pointer (some ⟨b5_1, 0, none⟩))] ∧ C' = Sep w (footM [R.box pa0 114 [va0_0, .int .i64 a0_1, .int .u64 a0_2]]) [R.box pa0 114 [va0_0, .int .i64 ypa0_1rrrr, .int .u64 ypa0_2rrrr], R.box b5_1 27 [.int .i64 a1, wq5_1_1r, vb5_1_2_1], R.box b4_1 27 [.int .i64 0, .slice none 0 0, .slice none 0 0], R.sl Sb5_1_2_1 vb5_1_2_1 (yb5_1_2 : List (Int)), R.sl Tq5_1_1r wq5_1_1r (xq5_1_1r : List (Int × Int × Int))]) ?_ (fun hj_8 => ?_)
          ·rintro _ _ ⟨vb5_1_2_1, Sb5_1_2_1, hl_vb5_1_2_1, rfl, rfl⟩
           refine Nrm.block ?_
           refine Nrm.seq (Tri.seq (Tri.reg (l := [0, 1]) rfl ?_))
           refine F.qn rfl (r_loadA ta27 ti27 rfl rfl (fun w hw => (box_cells (i := 1) rfl w hw))) ?_
           refine F.ef0 rfl rfl (wanted_none rfl) (d_storeG0 (i := 2) (cs2 := [.int .i64 a1, wq5_1_1r, vb5_1_2_1]) ti27 rfl rfl rfl rfl rfl (Nat.le_of_ble_eq_true rfl) (lf_cons rfl (lf_cons (sl_leaf hl_wq5_1_1r) (lf_cons (sl_leaf hl_vb5_1_2_1) lf_nil)))) ?_
           rintro _ _ ⟨rfl, rfl⟩
           refine F.nil (Nrm.seq (Tri.ret ?_))
           cases h
           exact Rtn.body (.cell rfl ta27 ti27 rfl (fun _ hw => box_cells (i := 2) rfl _ hw) .nil) (fun w hw => ⟨_, _, rfl, ⟨wq5_1_1r, Tq5_1_1r, vb5_1_2_1, Sb5_1_2_1, rfl, hl_wq5_1_1r, hl_vb5_1_2_1, rfl⟩, Sep.pick (is := [4, 3, 0]) rfl rfl hw⟩)
          ·refine Tri.cond (b := decide ((xq5_1_2.length : Int) > 0)) rfl (fun g_11 => ?_) (fun g_11 => ?_)
           ·replace hE_10 := if_tt g_11 hE_10
            obtain ⟨⟨ypa0_1rrrr, ypa0_2rrrr, yb5_1_2⟩, hE_11, hE_10⟩ := bind_some hE_10
            refine Tri.cut (fun e' C' => ∃ (vb5_1_2_2 : Value) (Sb5_1_2_2 : Nat → Prop), SlLen vb5_1_2_2 (yb5_1_2).length ∧ e' = [(4, .pointer (some ⟨b4_1, 0, none⟩)), (5, .pointer (some ⟨b5_1, 0, none⟩))] ∧ C' = Sep w (footM [R.box pa0 114 [va0_0, .int .i64 a0_1, .int .u64 a0_2]]) [R.box pa0 114 [va0_0, .int .i64 ypa0_1rrrr, .int .u64 ypa0_2rrrr], R.box b5_1 27 [.int .i64 a1, wq5_1_1r, vb5_1_2_2], R.box b4_1 27 [.int .i64 0, .slice none 0 0, .slice none 0 0], R.sl Sb5_1_2_2 vb5_1_2_2 (yb5_1_2 : List (Int)), R.sl Tq5_1_1r wq5_1_1r (xq5_1_1r : List (Int × Int × Int))]) ?_ (fun hj_9 => ?_)
            ·rintro _ _ ⟨vb5_1_2_2, Sb5_1_2_2, hl_vb5_1_2_2, rfl, rfl⟩
             cases hE_10
             refine Nrm.only [4, 5] rfl ?_
             refine Nrm.pick [0, 1, 2, 3, 4] rfl rfl ?_
             exact hj_8 _ _ ⟨vb5_1_2_2, Sb5_1_2_2, hl_vb5_1_2_2, rfl, rfl⟩
            ·obtain ⟨⟨t149_1, t149_2, t149_3⟩, h149, hE_11⟩ := bind_some hE_11
             obtain ⟨⟨t152_1, t152_2, t152_3⟩, h152, hE_11⟩ := bind_some hE_11
             obtain ⟨t153, h153, hE_11⟩ := bind_some hE_11
             refine Tri.drawTK (B := Sep w (footM [R.box pa0 114 [va0_0, .int .i64 a0_1, .int .u64 a0_2]]) [R.box b5_1 27 [.int .i64 a1, wq5_1_1r, wq5_1_2], R.box b4_1 27 [.int .i64 0, .slice none 0 0, .slice none 0 0], R.sl Tq5_1_1r wq5_1_1r (xq5_1_1r : List (Int × Int × Int)), R.sl Tq5_1_2 wq5_1_2 (xq5_1_2 : List (Int))]) mixedT Sep.up [0, 1, 2, 3, 4, 5, 7, 6, 8, 9] [10, 11] (.q 0 (.q 1 (.q 2 (.q 3 (.q 4 (.q 5 (.q 7 (.alt 6 (.alt 8 (.alt 9 .nil .stop) .stop) (.alt 8 (.alt 6 (.alt 9 .nil .stop) .stop) .stop))))))))) (by kernel_rfl) ?_
             refine TK.q [1, 2, 3, 4] rfl rfl rfl rfl rfl (wanted_none rfl) (r_fieldAddr tf27_2 rfl) ?_
             refine TK.q [1, 2, 3, 4] rfl rfl rfl rfl rfl (wanted_none rfl) (r_load ta25 rfl (fun w hw => cell_1 (box_cells (i := 0) rfl w hw) rfl)) ?_
             refine TK.q [1, 2, 3, 4] rfl rfl rfl rfl rfl (wanted_none rfl) (r_move rfl) ?_
             refine TK.q [1, 2, 3, 4] rfl rfl rfl rfl rfl (wanted_none rfl) (r_fieldAddr tf27_2 rfl) ?_
             refine TK.q [1, 2, 3, 4] rfl rfl rfl rfl rfl (wanted_none rfl) (r_load ta25 rfl (fun w hw => cell_1 (box_cells (i := 0) rfl w hw) rfl)) ?_
             refine TK.q [1, 2, 3, 4] rfl rfl rfl rfl rfl (wanted_none rfl) (r_len Tryz.underlying25 rfl hl_wq5_1_2) ?_
             refine TK.q [1, 2, 3, 4] rfl rfl rfl rfl rfl (wanted_none rfl) (r_move rfl) ?_
             refine T.ef rfl rfl rfl (wanted_none rfl) (d_callM (xs := _) (cs := [R.box pa0 114 [va0_0, .int .i64 t99_2, .int .u64 t99_3]]) (rest := [R.box b5_1 27 [.int .i64 a1, wq5_1_1r, wq5_1_2], R.box b4_1 27 [.int .i64 0, .slice none 0 0, .slice none 0 0], R.sl Tq5_1_1r wq5_1_1r (xq5_1_1r : List (Int × Int × Int)), R.sl Tq5_1_2 wq5_1_2 (xq5_1_2 : List (Int))]) [0] [1, 2, 3, 4] rfl ok115 rfl rfl rfl rfl (fun w hw => spec_l1Cur_pick.ok h149 w (hr_a0_0.down hw) (Sep.sub hw))) (by rintro _ _ ⟨_, ⟨rfl, rfl⟩, rfl⟩; exact upd rfl [1, 2, 3, 4] rfl rfl) ?_ ?_
             ·rintro _ _ ⟨_, ⟨rfl, rfl⟩, rfl⟩
              refine T.ef rfl rfl rfl (wanted_none rfl) (Makes.does (m_buildF (l := ([64, (-1), 63] : List (Int))) Tryz.underlying25 ti3 rfl rfl rfl rfl rfl)) (by rintro v151_2 _ ⟨S151_2, hl_v151_2, rfl⟩; exact upd rfl [2, 3, 4, 5] rfl rfl) ?_ ?_
              ·rintro v151_2 _ ⟨S151_2, hl_v151_2, rfl⟩
               refine T.ef rfl rfl rfl (wanted_none rfl) (d_callM (xs := _) (cs := [R.box pa0 114 [va0_0, .int .i64 t149_2, .int .u64 t149_3]]) (rest := [R.sl S151_2 v151_2 (([64, (-1), 63] : List (Int)) : List (Int)), R.box b5_1 27 [.int .i64 a1, wq5_1_1r, wq5_1_2], R.box b4_1 27 [.int .i64 0, .slice none 0 0, .slice none 0 0], R.sl Tq5_1_1r wq5_1_1r (xq5_1_1r : List (Int × Int × Int)), R.sl Tq5_1_2 wq5_1_2 (xq5_1_2 : List (Int))]) [1] [0, 2, 3, 4, 5] rfl ok194 rfl rfl rfl rfl (fun w hw => spec_l1Cur_among.ok h152 w (hr_a0_0.down hw) (rdm_sl (i := 0) rfl hw) (Sep.sub hw))) (by rintro _ _ ⟨_, ⟨rfl, rfl⟩, rfl⟩; exact upd rfl [2, 3, 4, 5] rfl rfl) ?_ ?_
               ·rintro _ _ ⟨_, ⟨rfl, rfl⟩, rfl⟩
                refine T.nil ?_
                refine F.qn rfl (r_indexAddrS Tryz.underlying25 ti3 rfl hl_wq5_1_2 rfl (rdl_some h153).1 (rdl_some h153).2.1) ?_
                refine F.ef0 rfl rfl (wanted_none rfl) (d_storeE (i := 5) (x1 := t152_1) ti3 rfl rfl rfl (rdl_some h153) rfl) ?_
                rintro _ _ ⟨rfl, rfl⟩
                refine F.nil ?_
                cases hE_11
                refine Nrm.only [4, 5] rfl ?_
                refine Nrm.pick [0, 2, 3, 5, 4] rfl rfl ?_
                exact hj_9 _ _ ⟨wq5_1_2, Tq5_1_2, (len_set hl_wq5_1_2), rfl, rfl⟩
               exact T.stop
              exact T.stop
             ·refine T.ef rfl rfl rfl (wanted_none rfl) (Makes.does (m_buildF (l := ([64, (-1), 63] : List (Int))) Tryz.underlying25 ti3 rfl rfl rfl rfl rfl)) (by rintro v151_3 _ ⟨S151_3, hl_v151_3, rfl⟩; exact upd rfl [2, 3, 4, 5] rfl rfl) ?_ ?_
              ·rintro v151_3 _ ⟨S151_3, hl_v151_3, rfl⟩
               refine T.ef rfl rfl rfl (wanted_none rfl) (d_callM (xs := _) (cs := [R.box pa0 114 [va0_0, .int .i64 t99_2, .int .u64 t99_3]]) (rest := [R.sl S151_3 v151_3 (([64, (-1), 63] : List (Int)) : List (Int)), R.box b5_1 27 [.int .i64 a1, wq5_1_1r, wq5_1_2], R.box b4_1 27 [.int .i64 0, .slice none 0 0, .slice none 0 0], R.sl Tq5_1_1r wq5_1_1r (xq5_1_1r : List (Int × Int × Int)), R.sl Tq5_1_2 wq5_1_2 (xq5_1_2 : List (Int))]) [1] [0, 2, 3, 4, 5] rfl ok115 rfl rfl rfl rfl (fun w hw => spec_l1Cur_pick.ok h149 w (hr_a0_0.down hw) (Sep.sub hw))) (by rintro _ _ ⟨_, ⟨rfl, rfl⟩, rfl⟩; exact upd rfl [2, 3, 4, 5] rfl rfl) ?_ ?_
               ·rintro _ _ ⟨_, ⟨rfl, rfl⟩, rfl⟩
                refine T.ef rfl rfl rfl (wanted_none rfl) (d_callM (xs := _) (cs := [R.box pa0 114 [va0_0, .int .i64 t149_2, .int .u64 t149_3]]) (rest := [R.sl S151_3 v151_3 (([64, (-1), 63] : List (Int)) : List (Int)), R.box b5_1 27 [.int .i64 a1, wq5_1_1r, wq5_1_2], R.box b4_1 27 [.int .i64 0, .slice none 0 0, .slice none 0 0], R.sl Tq5_1_1r wq5_1_1r (xq5_1_1r : List (Int × Int × Int)), R.sl Tq5_1_2 wq5_1_2 (xq5_1_2 : List (Int))]) [0] [1, 2, 3, 4, 5] rfl ok194 rfl rfl rfl rfl (fun w hw => spec_l1Cur_among.ok h152 w (hr_a0_0.down hw) (rdm_sl (i := 0) rfl hw) (Sep.sub hw))) (by rintro _ _ ⟨_, ⟨rfl, rfl⟩, rfl⟩; exact upd rfl [2, 3, 4, 5] rfl rfl) ?_ ?_
                ·rintro _ _ ⟨_, ⟨rfl, rfl⟩, rfl⟩
                 refine T.nil ?_
                 refine F.qn rfl (r_indexAddrS Tryz.underlying25 ti3 rfl hl_wq5_1_2 rfl (rdl_some h153).1 (rdl_some h153).2.1) ?_
                 refine F.ef0 rfl rfl (wanted_none rfl) (d_storeE (i := 5) (x1 := t152_1) ti3 rfl rfl rfl (rdl_some h153) rfl) ?_
                 rintro _ _ ⟨rfl, rfl⟩
                 refine F.nil ?_
                 cases hE_11
                 refine Nrm.only [4, 5] rfl ?_
                 refine Nrm.pick [0, 2, 3, 5, 4] rfl rfl ?_
                 exact hj_9 _ _ ⟨wq5_1_2, Tq5_1_2, (len_set hl_wq5_1_2), rfl, rfl⟩
                exact T.stop
               exact T.stop
              exact T.stop
           ·replace hE_10 := if_ff g_11 hE_10
            refine Tri.skip ?_
            cases hE_10
            refine Nrm.only [4, 5] rfl ?_
            refine Nrm.pick [0, 1, 2, 4, 3] rfl rfl ?_
            exact hj_8 _ _ ⟨wq5_1_2, Tq5_1_2, hl_wq5_1_2, rfl, rfl⟩
         ·replace h := if_ff g_10 h
          refine Tri.seq (Tri.reg (l := [0, 1]) rfl ?_)
          refine F.qn rfl (r_eql rfl rfl) (F.qn rfl (r_assign rfl) (F.nil (Nrm.seq (Tri.cond (b := t99_1 == 3) rfl (fun g_12 => ?_) (fun g_12 => ?_)))))
          ·replace h := if_tt g_12 h
           refine Tri.seq (Tri.reg (l := [0, 1, 2, 3]) rfl ?_)
           refine F.qn rfl (r_fieldAddr tf27_1 rfl) (F.qn rfl (r_load ta24 rfl (fun w hw => cell_1 (box_cells (i := 1) rfl w hw) rfl)) (F.qn rfl (r_len Tryz.underlying24 rfl hl_wq5_1_1r) (F.qn rfl (r_gtr rfl rfl) (F.nil (Nrm.seq ?_)))))
           obtain ⟨yb5_1_1rrr, hE_12, h⟩ := bind_some h
           refine Tri.cut (fun e' C' => ∃ (vb5_1_1_4 : Value) (Sb5_1_1_4 : Nat → Prop), SlLen vb5_1_1_4 (yb5_1_1rrr).length ∧ e' = [(4, .pointer (some ⟨b4_1, 0, none⟩)), (5, .pointer (some ⟨b5_1, 0, none⟩))] ∧ C' = Sep w (footM [R.box pa0 114 [va0_0, .int .i64 a0_1, .int .u64 a0_2]]) [R.box pa0 114 [va0_0, .int .i64 t99_2, .int .u64 t99_3], R.box b5_1 27 [.int .i64 a1, vb5_1_1_4, wq5_1_2], R.box b4_1 27 [.int .i64 0, .slice none 0 0, .slice none 0 0], R.sl Sb5_1_1_4 vb5_1_1_4 (yb5_1_1rrr : List (Int × Int × Int)), R.sl Tq5_1_2 wq5_1_2 (xq5_1_2 : List (Int))]) ?_ (fun hj_10 => ?_)
           ·rintro _ _ ⟨vb5_1_1_4, Sb5_1_1_4, hl_vb5_1_1_4, rfl, rfl⟩
            refine Nrm.block ?_
            refine Nrm.seq (Tri.seq (Tri.reg (l := [0, 1]) rfl ?_))
            refine F.qn rfl (r_loadA ta27 ti27 rfl rfl (fun w hw => (box_cells (i := 1) rfl w hw))) ?_
            refine F.ef0 rfl rfl (wanted_none rfl) (d_storeG0 (i := 2) (cs2 := [.int .i64 a1, vb5_1_1_4, wq5_1_2]) ti27 rfl rfl rfl rfl rfl (Nat.le_of_ble_eq_true rfl) (lf_cons rfl (lf_cons (sl_leaf hl_vb5_1_1_4) (lf_cons (sl_leaf hl_wq5_1_2) lf_nil)))) ?_
            rintro _ _ ⟨rfl, rfl⟩
            refine F.nil (Nrm.seq (Tri.ret ?_))
            cases h
            exact Rtn.body (.cell rfl ta27 ti27 rfl (fun _ hw => box_cells (i := 2) rfl _ hw) .nil) (fun w hw => ⟨_, _, rfl, ⟨vb5_1_1_4, Sb5_1_1_4, wq5_1_2, Tq5_1_2, rfl, hl_vb5_1_1_4, hl_wq5_1_2, rfl⟩, Sep.pick (is := [3, 4, 0]) rfl rfl hw⟩)
           ·refine Tri.cond (b := decide ((xq5_1_1r.length : Int) > 0)) rfl (fun g_13 => ?_) (fun g_13 => ?_)
            ·replace hE_12 := if_tt g_13 hE_12
             obtain ⟨t164, h164, hE_12⟩ := bind_some hE_12
             obtain ⟨hs167, hE_12⟩ := ck hE_12
             refine Tri.drawA mixedT Sep.up [(0, true), (1, true), (2, true), (3, true), (4, true), (5, true), (6, false)] [7, 8, 9] (by kernel_rfl) ?_
             refine S.qn rfl (r_fieldAddr tf27_1 rfl) (S.qn rfl (r_load ta24 rfl (fun w hw => cell_1 (box_cells (i := 1) rfl w hw) rfl)) (S.qn rfl (r_fieldAddr tf27_1 rfl) (S.qn rfl (r_load ta24 rfl (fun w hw => cell_1 (box_cells (i := 1) rfl w hw) rfl)) (S.qn rfl (r_indexAddrS Tryz.underlying24 ti168 rfl hl_wq5_1_1r rfl (rdl_some h164).1 (rdl_some h164).2.1) (S.qn rfl (r_loadA ta168 ti168 rfl rfl (fun w hw => (Rd.flat ((rd_sl (i := 3) rfl) w hw) (rdl_some h164).2.2))) ?_)))))
             refine S.m rfl rfl rfl (wanted_none rfl) (m_buildF (l := ([t164] : List (Int × Int × Int))) Tryz.underlying24 ti168 rfl rfl rfl rfl rfl) ?_
             rintro v166_2 _ ⟨S166_2, hl_v166_2, rfl⟩
             refine S.nil (F.efn rfl (d_append (i := 4) Tryz.underlying24 Tryz.underlying24 ti168 rfl (by decide) rfl rfl rfl (rd_sl (i := 0) rfl) hs167) ?_)
             rintro v167_2 _ ⟨S167_2, rfl, hl_v167_2⟩
             refine F.qn rfl (r_fieldAddr tf27_1 rfl) ?_
             refine F.ef0 rfl rfl (wanted_none rfl) (d_storeG1 (i := 2) (cs2 := [v167_2]) ti24 rfl rfl rfl (sl_cells hl_v167_2) rfl (Nat.le_of_ble_eq_true rfl) (lf_cons (sl_leaf hl_v167_2) lf_nil)) ?_
             rintro _ _ ⟨rfl, rfl⟩
             refine F.nil ?_
             cases hE_12
             refine Nrm.only [4, 5] rfl ?_
             refine Nrm.pick [1, 2, 3, 4, 5] rfl rfl ?_
             exact hj_10 _ _ ⟨v167_2, S167_2, hl_v167_2, rfl, rfl⟩
            ·replace hE_12 := if_ff g_13 hE_12
             refine Tri.skip ?_
             cases hE_12
             refine Nrm.only [4, 5] rfl ?_
             refine Nrm.pick [0, 1, 2, 3, 4] rfl rfl ?_
             exact hj_10 _ _ ⟨wq5_1_1r, Tq5_1_1r, hl_wq5_1_1r, rfl, rfl⟩
          ·replace h := if_ff g_12 h
           refine Tri.seq (Tri.reg (l := [0, 1]) rfl ?_)
           refine F.qn rfl (r_eql rfl rfl) (F.qn rfl (r_assign rfl) (F.nil (Nrm.seq (Tri.cond (b := t99_1 == 4) rfl (fun g_14 => ?_) (fun g_14 => ?_)))))
           ·replace h := if_tt g_14 h
            refine Tri.seq (Tri.reg (l := [0, 1]) rfl ?_)
            refine F.qn rfl (r_build (pl := [(0, 1), (1, 1), (2, 1)]) (qs := []) (cs := [.int .i64 0, .slice none 0 0, .slice none 0 0]) (by kernel_rfl) ti27 rfl .nil rfl rfl) ?_
            refine F.ef0 rfl rfl (wanted_none rfl) (d_storeG0 (i := 2) (cs2 := [.int .i64 0, .slice none 0 0, .slice none 0 0]) ti27 rfl rfl rfl rfl rfl (Nat.le_of_ble_eq_true rfl) (lf_cons rfl (lf_cons rfl (lf_cons rfl lf_nil)))) ?_
            rintro _ _ ⟨rfl, rfl⟩
            refine F.nil (Nrm.seq (Tri.ret ?_))
            refine Rtn.block ?_
            refine Rtn.then ?_
            cases h
            exact Rtn.body (.cell rfl ta27 ti27 rfl (fun _ hw => box_cells (i := 2) rfl _ hw) .nil) (fun w hw => ⟨_, _, rfl, ⟨.slice none 0 0, fun _ => False, .slice none 0 0, fun _ => False, rfl, len_nil, len_nil, rfl⟩, Sep.pick (is := [0, 1, 2]) rfl rfl hw.pushNil.pushNil⟩)
           ·replace h := if_ff g_14 h
            refine Tri.skip (Nrm.block ?_)
            refine Nrm.seq (Tri.seq (Tri.reg (l := [0, 1]) rfl ?_))
            refine F.qn rfl (r_loadA ta27 ti27 rfl rfl (fun w hw => (box_cells (i := 1) rfl w hw))) ?_
            refine F.ef0 rfl rfl (wanted_none rfl) (d_storeG0 (i := 2) (cs2 := [.int .i64 a1, wq5_1_1r, wq5_1_2]) ti27 rfl rfl rfl rfl rfl (Nat.le_of_ble_eq_true rfl) (lf_cons rfl (lf_cons (sl_leaf hl_wq5_1_1r) (lf_cons (sl_leaf hl_wq5_1_2) lf_nil)))) ?_
            rintro _ _ ⟨rfl, rfl⟩
            refine F.nil (Nrm.seq (Tri.ret ?_))
            cases h
            exact Rtn.body (.cell rfl ta27 ti27 rfl (fun _ hw => box_cells (i := 2) rfl _ hw) .nil) (fun w hw => ⟨_, _, rfl, ⟨wq5_1_1r, Tq5_1_1r, wq5_1_2, Tq5_1_2, rfl, hl_wq5_1_1r, hl_wq5_1_2, rfl⟩, Sep.pick (is := [3, 4, 0]) rfl rfl hw⟩)
     ·rcases Bool.eq_false_or_eq_true (decide (x11 > 0)) with g70 | g70
      ·replace hE_7 := if_tt g70 hE_7
       rcases Bool.eq_false_or_eq_true (decide (a1 > 1)) with g74 | g74
       ·replace hE_7 := if_tt g74 hE_7
        refine Tri.reg (l := [0, 1, 2, 3, 4, 5, 6, 7, 8, 9]) rfl ?_
        refine F.qn rfl (r_move rfl) (F.qn rfl (r_gtr rfl rfl) (F.qn rfl (r_move rfl) (F.qg rfl g70 (r_move rfl) ?_)))
        refine F.qg rfl g70 (r_gtr rfl rfl) (F.qn rfl (r_pick rfl rfl g70) (F.qn rfl (r_move rfl) (F.qg rfl g74 (r_move rfl) (F.qg rfl g74 (r_lss rfl rfl) (F.qn rfl (r_pick rfl rfl g74) (F.nil ?_))))))
        cases hE_7
        refine Nrm.only [0, 1, 4, 5, 6, 11, 77] rfl ?_
        refine Nrm.pick [0, 1, 2, 3, 4] rfl rfl ?_
        exact hj_5 _ _ ⟨rfl, rfl⟩
       ·replace hE_7 := if_ff g74 hE_7
        refine Tri.reg (l := [0, 1, 2, 3, 4, 5, 6, 7, 8, 9]) rfl ?_
        refine F.qn rfl (r_move rfl) (F.qn rfl (r_gtr rfl rfl) (F.qn rfl (r_move rfl) (F.qg rfl g70 (r_move rfl) ?_)))
        refine F.qg rfl g70 (r_gtr rfl rfl) (F.qn rfl (r_pick rfl rfl g70) (F.qn rfl (r_move rfl) (F.skf rfl g74 (F.skf rfl g74 (F.qn rfl (r_pickf rfl rfl g74) (F.nil ?_))))))
        cases hE_7
        refine Nrm.only [0, 1, 4, 5, 6, 11, 77] rfl ?_
        refine Nrm.pick [0, 1, 2, 3, 4] rfl rfl ?_
        exact hj_5 _ _ ⟨rfl, rfl⟩
      ·replace hE_7 := if_ff g70 hE_7
       refine Tri.reg (l := [0, 1, 2, 3, 4, 5, 6, 7, 8, 9]) rfl ?_
       refine F.qn rfl (r_move rfl) (F.qn rfl (r_gtr rfl rfl) (F.qn rfl (r_move rfl) (F.skf rfl g70 ?_)))
       refine F.skf rfl g70 (F.qn rfl (r_pickf rfl rfl g70) (F.qn rfl (r_move rfl) (F.skf rfl rfl (F.skf rfl rfl (F.qn rfl (r_pickf rfl rfl rfl) (F.nil ?_))))))
       cases hE_7
       refine Nrm.only [0, 1, 4, 5, 6, 11, 77] rfl ?_
       refine Nrm.pick [0, 1, 2, 3, 4] rfl rfl ?_
       exact hj_5 _ _ ⟨rfl, rfl⟩
  ·rcases Bool.eq_false_or_eq_true (decide (x8 < a1)) with g25 | g25
   ·replace hE_2 := if_tt g25 hE_2
    refine Tri.reg (l := [0, 1, 2, 3, 4, 5, 6]) rfl ?_
    refine F.qn rfl (r_move rfl) ?_
    refine F.qn rfl (r_move rfl) (F.qn rfl (r_lss rfl rfl) (F.qn rfl (r_move rfl) (F.qg rfl g25 (r_move rfl) (F.qg rfl g25 (r_lss rfl rfl) (F.qn rfl (r_pick rfl rfl g25) (F.nil ?_))))))
    cases hE_2
    refine Nrm.only [0, 1, 4, 5, 6, 7, 8, 28] rfl ?_
    refine Nrm.pick [0, 1, 2, 4, 3] rfl rfl ?_
    exact hj_1 _ _ ⟨rfl, rfl⟩
   ·replace hE_2 := if_ff g25 hE_2
    refine Tri.reg (l := [0, 1, 2, 3, 4, 5, 6]) rfl ?_
    refine F.qn rfl (r_move rfl) ?_
    refine F.qn rfl (r_move rfl) (F.qn rfl (r_lss rfl rfl) (F.qn rfl (r_move rfl) (F.skf rfl g25 (F.skf rfl g25 (F.qn rfl (r_pickf rfl rfl g25) (F.nil ?_))))))
    cases hE_2
    refine Nrm.only [0, 1, 4, 5, 6, 7, 8, 28] rfl ?_
    refine Nrm.pick [0, 1, 2, 4, 3] rfl rfl ?_
    exact hj_1 _ _ ⟨rfl, rfl⟩


def spec_l1Cur_maze.f (k : Nat) (a0_0 : List By) (a0_1 : Int) (a0_2 : Int) : Option (Int × (List (Int × Int × Int)) × (List Int) × Int × Int) := (spec_l1Cur_among.f k a0_0 a0_1 a0_2 ([5, 6, 4, 7, 3, 8, 2, 10, 1, 12] : List (Int))).bind fun (t6_1, t6_2, t6_3) => (spec_l1Cur_someMaze.f k a0_0 t6_2 t6_3 t6_1).bind fun (t7_1, t7_2, t7_3, t7_4, t7_5) => some (t7_1, t7_2, t7_3, t7_4, t7_5)

theorem spec_l1Cur_maze.ok {k : Nat}  {a0_0 : List By} {a0_1 : Int} {a0_2 : Int} {r0 : Int} {r1 : List (Int × Int × Int)} {r2 : List Int} {r3 : Int} {r4 : Int} (h : spec_l1Cur_maze.f k a0_0 a0_1 a0_2 = some (r0, r1, r2, r3, r4)) (w : World) {pa0 : Nat} {va0_0 : Value} (hr_a0_0 : RdM w (footM [R.box pa0 114 [va0_0, .int .i64 a0_1, .int .u64 a0_2]]) va0_0 a0_0) (hw0 : Sep w (footM [R.box pa0 114 [va0_0, .int .i64 a0_1, .int .u64 a0_2]]) [R.box pa0 114 [va0_0, .int .i64 a0_1, .int .u64 a0_2]] w) :
  Calls Tryz.prog 106 ([.pointer (some ⟨pa0, 0, none⟩)] : List Value).toArray w (PostM (footM [R.box pa0 114 [va0_0, .int .i64 a0_1, .int .u64 a0_2]]) (fun u ns => ∃ (ur1 : Value) (Sr1 : Nat → Prop) (ur2 : Value) (Sr2 : Nat → Prop), u = .agg [.int .i64 r0, ur1, ur2].toArray ∧ SlLen ur1 r1.length ∧ SlLen ur2 r2.length ∧ ns = [R.sl Sr1 ur1 r1, R.sl Sr2 ur2 r2, R.box pa0 114 [va0_0, .int .i64 r3, .int .u64 r4]]) w) := by
 unfold spec_l1Cur_maze.f at h
 have hl_va0_0 := hr_a0_0.len
 refine Calls.of_tri (N := 8) Tryz.func106 rfl rfl rfl hw0 ?_
 refine Tri.seq (Tri.reg (l := [0]) rfl ?_)
 refine F.mn rfl (m_alloc ti27) ?_
 rintro _ _ ⟨b2_1, rfl, rfl⟩
 refine F.nil (Nrm.seq (Tri.seq ?_))
 obtain ⟨⟨t6_1, t6_2, t6_3⟩, h6, h⟩ := bind_some h
 obtain ⟨⟨t7_1, t7_2, t7_3, t7_4, t7_5⟩, h7, h⟩ := bind_some h
 refine Tri.reg (l := [0, 1, 2, 3, 4, 5]) rfl ?_
 refine F.qn rfl (r_move rfl) (F.qn rfl (r_move rfl) ?_)
 refine F.mn rfl (m_buildF (l := ([5, 6, 4, 7, 3, 8, 2, 10, 1, 12] : List (Int))) Tryz.underlying25 ti3 rfl rfl rfl rfl rfl) ?_
 rintro v5_1 _ ⟨S5_1, hl_v5_1, rfl⟩
 refine F.efn rfl (d_callM (xs := _) (cs := [R.box pa0 114 [va0_0, .int .i64 a0_1, .int .u64 a0_2]]) (rest := [R.sl S5_1 v5_1 (([5, 6, 4, 7, 3, 8, 2, 10, 1, 12] : List (Int)) : List (Int)), R.box b2_1 27 [.int .i64 0, .slice none 0 0, .slice none 0 0]]) [2] [0, 1] rfl ok194 rfl rfl rfl rfl (fun w hw => spec_l1Cur_among.ok h6 w (hr_a0_0.down hw) (rdm_sl (i := 0) rfl hw) (Sep.sub hw))) ?_
 rintro _ _ ⟨_, ⟨rfl, rfl⟩, rfl⟩
 refine F.efn rfl (d_callM (xs := _) (cs := [R.box pa0 114 [va0_0, .int .i64 t6_2, .int .u64 t6_3]]) (rest := [R.sl S5_1 v5_1 (([5, 6, 4, 7, 3, 8, 2, 10, 1, 12] : List (Int)) : List (Int)), R.box b2_1 27 [.int .i64 0, .slice none 0 0, .slice none 0 0]]) [0] [1, 2] rfl ok193 rfl rfl rfl rfl (fun w hw => spec_l1Cur_someMaze.ok h7 w (hr_a0_0.down hw) (Sep.sub hw))) ?_
 rintro _ _ ⟨_, ⟨v7_1, S7_1, v7_2, S7_2, rfl, hl_v7_1, hl_v7_2, rfl⟩, rfl⟩
 refine F.ef0 rfl rfl (wanted_none rfl) (d_storeG0 (i := 4) (cs2 := [.int .i64 t7_1, v7_1, v7_2]) ti27 rfl rfl rfl rfl rfl (Nat.le_of_ble_eq_true rfl) (lf_cons rfl (lf_cons (sl_leaf hl_v7_1) (lf_cons (sl_leaf hl_v7_2) lf_nil)))) ?_
 rintro _ _ ⟨rfl, rfl⟩
 refine F.nil (Nrm.seq (Tri.ret ?_))
 cases h
 exact Rtn.body (.cell rfl ta27 ti27 rfl (fun _ hw => box_cells (i := 4) rfl _ hw) .nil) (fun w hw => ⟨_, _, rfl, ⟨v7_1, S7_1, v7_2, S7_2, rfl, hl_v7_1, hl_v7_2, rfl⟩, Sep.pick (is := [0, 1, 2]) rfl rfl hw⟩)


def spec_l1Cur_colours.l0 (k : Nat) (a0_0 : List By) : Nat → Int → Int → Int → Int → Option (Int × Int × Int)
 | 0, _, _, _, _ => none
 | n + 1, x3, x4, xpa0_1, xpa0_2 => (if (decide (x4 > 0)) = true then (spec_l1Cur_pick.f k a0_0 xpa0_1 xpa0_2 6).bind fun (t18_1, t18_2, t18_3) => if ¬ t18_1 < 0 then spec_l1Cur_colours.l0 k a0_0 n (bor x3 (shl 1 t18_1)) (w64 (x4 - 1)) t18_2 t18_3 else none else some (x3, xpa0_1, xpa0_2))

def spec_l1Cur_colours.f (k : Nat) (a0_0 : List By) (a0_1 : Int) (a0_2 : Int) : Option (Int × Int × Int) := (spec_l1Cur_one.f k a0_0 a0_1 a0_2 30).bind fun (t6_1, t6_2, t6_3) => (if t6_1 = true then (spec_l1Cur_among.f k a0_0 t6_2 t6_3 ([63, 64, (-1), 4611686018427387904] : List (Int))).bind fun (t9_1, t9_2, t9_3) => some (t9_1, t9_2, t9_3) else (spec_l1Cur_pick.f k a0_0 t6_2 t6_3 4).bind fun (t11_1, t11_2, t11_3) => (spec_l1Cur_colours.l0 k a0_0 k 0 t11_1 t11_2 t11_3).bind fun (x3, xpa0_1, xpa0_2) => some (x3, xpa0_1, xpa0_2))

theorem spec_l1Cur_colours.ok {k : Nat}  {a0_0 : List By} {a0_1 : Int} {a0_2 : Int} {r0 : Int} {r1 : Int} {r2 : Int} (h : spec_l1Cur_colours.f k a0_0 a0_1 a0_2 = some (r0, r1, r2)) (w : World) {pa0 : Nat} {va0_0 : Value} (hr_a0_0 : RdM w (footM [R.box pa0 114 [va0_0, .int .i64 a0_1, .int .u64 a0_2]]) va0_0 a0_0) (hw0 : Sep w (footM [R.box pa0 114 [va0_0, .int .i64 a0_1, .int .u64 a0_2]]) [R.box pa0 114 [va0_0, .int .i64 a0_1, .int .u64 a0_2]] w) :
  Calls Tryz.prog 201 ([.pointer (some ⟨pa0, 0, none⟩)] : List Value).toArray w (PostM (footM [R.box pa0 114 [va0_0, .int .i64 a0_1, .int .u64 a0_2]]) (fun u ns => u = .int .i64 r0 ∧ ns = [R.box pa0 114 [va0_0, .int .i64 r1, .int .u64 r2]]) w) := by
 unfold spec_l1Cur_colours.f at h
 have hl_va0_0 := hr_a0_0.len
 refine Calls.of_tri (N := 22) Tryz.func201 rfl rfl rfl hw0 ?_
 refine Tri.seq (Tri.reg (l := [0]) rfl ?_)
 refine F.qn rfl (r_assign rfl) (F.nil (Nrm.seq (Tri.seq (Tri.seq ?_))))
 obtain ⟨⟨t6_1, t6_2, t6_3⟩, h6, h⟩ := bind_some h
 refine Tri.reg (l := [0, 1]) rfl ?_
 refine F.qn rfl (r_move rfl) ?_
 refine F.efn rfl (d_callM (xs := _) (cs := [R.box pa0 114 [va0_0, .int .i64 a0_1, .int .u64 a0_2]]) (rest := []) [0] [] rfl ok200 rfl rfl rfl rfl (fun w hw => spec_l1Cur_one.ok h6 w (hr_a0_0.down hw) (Sep.sub hw))) ?_
 rintro _ _ ⟨_, ⟨rfl, rfl⟩, rfl⟩
 refine F.nil (Nrm.seq (Tri.cond (b := t6_1) rfl (fun g_1 => ?_) (fun g_1 => ?_)))
 ·replace h := if_tt g_1 h
  refine Tri.seq ?_
  obtain ⟨⟨t9_1, t9_2, t9_3⟩, h9, h⟩ := bind_some h
  refine Tri.reg (l := [0, 1, 2, 3]) rfl ?_
  refine F.qn rfl (r_move rfl) ?_
  refine F.mn rfl (m_buildF (l := ([63, 64, (-1), 4611686018427387904] : List (Int))) Tryz.underlying25 ti3 rfl rfl rfl rfl rfl) ?_
  rintro v8_1 _ ⟨S8_1, hl_v8_1, rfl⟩
  refine F.efn rfl (d_callM (xs := _) (cs := [R.box pa0 114 [va0_0, .int .i64 t6_2, .int .u64 t6_3]]) (rest := [R.sl S8_1 v8_1 (([63, 64, (-1), 4611686018427387904] : List (Int)) : List (Int))]) [1] [0] rfl ok194 rfl rfl rfl rfl (fun w hw => spec_l1Cur_among.ok h9 w (hr_a0_0.down hw) (rdm_sl (i := 0) rfl hw) (Sep.sub hw))) ?_
  rintro _ _ ⟨_, ⟨rfl, rfl⟩, rfl⟩
  refine F.qn rfl (r_assign rfl) (F.nil (Nrm.seq (Tri.ret ?_)))
  refine Rtn.then ?_
  cases h
  exact Rtn.body (.tmp rfl .nil) (fun w hw => ⟨_, _, rfl, ⟨rfl, rfl⟩, Sep.pick (is := [0]) rfl rfl hw⟩)
 ·replace h := if_ff g_1 h
  refine Tri.skip (Nrm.seq (Tri.seq (Tri.reg (l := [0]) rfl ?_)))
  refine F.qn rfl (r_assign rfl) (F.nil (Nrm.seq (Tri.seq (Tri.seq ?_))))
  obtain ⟨⟨t11_1, t11_2, t11_3⟩, h11, h⟩ := bind_some h
  refine Tri.reg (l := [0, 1, 2]) rfl ?_
  refine F.qn rfl (r_move rfl) ?_
  refine F.efn rfl (d_callM (xs := _) (cs := [R.box pa0 114 [va0_0, .int .i64 t6_2, .int .u64 t6_3]]) (rest := []) [0] [] rfl ok115 rfl rfl rfl rfl (fun w hw => spec_l1Cur_pick.ok h11 w (hr_a0_0.down hw) (Sep.sub hw))) ?_
  rintro _ _ ⟨_, ⟨rfl, rfl⟩, rfl⟩
  refine F.qn rfl (r_assign rfl) (F.nil (Nrm.seq ?_))
  obtain ⟨⟨x3, xpa0_1, xpa0_2⟩, hE_1, h⟩ := bind_some h
  refine Tri.block ?_
  refine Tri.only [0, 3, 4] rfl ?_
  refine Tri.pick [0] rfl rfl ?_
  refine Tri.rounds (fun n e' C' => ∃ (x3' : Int) (x4' : Int) (xpa0_1' : Int) (xpa0_2' : Int), spec_l1Cur_colours.l0 k a0_0 n x3' x4' xpa0_1' xpa0_2' = some (x3, xpa0_1, xpa0_2) ∧ e' = [(0, .pointer (some ⟨pa0, 0, none⟩)), (3, .int .i64 x3'), (4, .int .i64 x4')] ∧ C' = Sep w (footM [R.box pa0 114 [va0_0, .int .i64 a0_1, .int .u64 a0_2]]) [R.box pa0 114 [va0_0, .int .i64 xpa0_1', .int .u64 xpa0_2']]) k ?_ ?_ ?_
  ·exact ⟨0, t11_1, t11_2, t11_3, hE_1, rfl, rfl⟩
  ·rintro _ _ ⟨_, _, _, _, hE_1, _⟩
   rw [spec_l1Cur_colours.l0.eq_1] at hE_1; cases hE_1
  ·rintro n_1 _ _ ⟨x3, x4, xpa0_1, xpa0_2, hE_1, rfl, rfl⟩ ih_1
   rw [spec_l1Cur_colours.l0.eq_2] at hE_1
   refine Tri.seq (Tri.seq (Tri.reg (l := [0, 1]) rfl ?_))
   refine F.qn rfl (r_move rfl) (F.qn rfl (r_gtr rfl rfl) (F.nil (Nrm.seq (Tri.cond (b := decide (x4 > 0)) rfl (fun g_2 => ?_) (fun g_2 => ?_)))))
   ·replace hE_1 := if_tt g_2 hE_1
    refine Tri.skip (Nrm.seq (Tri.seq (Tri.block ?_)))
    obtain ⟨⟨t18_1, t18_2, t18_3⟩, h18, hE_1⟩ := bind_some hE_1
    obtain ⟨hs19, hE_1⟩ := ck hE_1
    refine Tri.reg (l := [0, 1, 2, 3, 4, 5]) rfl ?_
    refine F.qn rfl (r_move rfl) (F.qn rfl (r_move rfl) ?_)
    refine F.efn rfl (d_callM (xs := _) (cs := [R.box pa0 114 [va0_0, .int .i64 xpa0_1, .int .u64 xpa0_2]]) (rest := []) [0] [] rfl ok115 rfl rfl rfl rfl (fun w hw => spec_l1Cur_pick.ok h18 w (hr_a0_0.down hw) (Sep.sub hw))) ?_
    rintro _ _ ⟨_, ⟨rfl, rfl⟩, rfl⟩
    refine F.qn rfl (r_shl rfl rfl hs19) (F.qn rfl (r_or rfl rfl) (F.qn rfl (r_assign rfl) (F.nil (Nrm.block ?_))))
    refine Nrm.seq (Tri.reg (l := [0, 1, 2]) rfl ?_)
    refine F.qn rfl (r_move rfl) (F.qn rfl (r_sub rfl rfl) (F.qn rfl (r_assign rfl) (F.nil (Nrm.round ?_))))
    refine Rnd.only [0, 3, 4] rfl ?_
    refine Rnd.pick [0] rfl rfl ?_
    exact ih_1 _ _ ⟨bor x3 (shl 1 t18_1), w64 (x4 - 1), t18_2, t18_3, hE_1, rfl, rfl⟩
   ·replace hE_1 := if_ff g_2 hE_1
    refine Tri.exit ?_
    refine Exi.then ?_
    refine Exi.then ?_
    refine Exi.same ?_
    cases hE_1
    refine Nrm.seq (Tri.seq (Tri.reg (l := [0, 1]) rfl ?_))
    refine F.qn rfl (r_move rfl) (F.qn rfl (r_assign rfl) (F.nil (Nrm.seq (Tri.ret ?_))))
    cases h
    exact Rtn.body (.tmp rfl .nil) (fun w hw => ⟨_, _, rfl, ⟨rfl, rfl⟩, Sep.pick (is := [0]) rfl rfl hw⟩)


def spec_l1Cur_first3.f (k : Nat) (a0_0 : List By) (a0_1 : Int) (a0_2 : Int) : Option (Int × (List (Int × Int × Int)) × (List Int) × Int × Int × Int) := (spec_l1Cur_maze.f k a0_0 a0_1 a0_2).bind fun (t6_1, t6_2, t6_3, t6_4, t6_5) => (spec_l1Cur_one.f k a0_0 t6_4 t6_5 2).bind fun (t8_1, t8_2, t8_3) => (if t8_1 = true then some (t6_1, t6_2, t6_3, 0, t8_2, t8_3) else (spec_l1Cur_colours.f k a0_0 t8_2 t8_3).bind fun (t12_1, t12_2, t12_3) => some (t6_1, t6_2, t6_3, t12_1, t12_2, t12_3))

theorem spec_l1Cur_first3.ok {k : Nat}  {a0_0 : List By} {a0_1 : Int} {a0_2 : Int} {r0 : Int} {r1 : List (Int × Int × Int)} {r2 : List Int} {r3 : Int} {r4 : Int} {r5 : Int} (h : spec_l1Cur_first3.f k a0_0 a0_1 a0_2 = some (r0, r1, r2, r3, r4, r5)) (w : World) {pa0 : Nat} {va0_0 : Value} (hr_a0_0 : RdM w (footM [R.box pa0 114 [va0_0, .int .i64 a0_1, .int .u64 a0_2]]) va0_0 a0_0) (hw0 : Sep w (footM [R.box pa0 114 [va0_0, .int .i64 a0_1, .int .u64 a0_2]]) [R.box pa0 114 [va0_0, .int .i64 a0_1, .int .u64 a0_2]] w) :
  Calls Tryz.prog 172 ([.pointer (some ⟨pa0, 0, none⟩)] : List Value).toArray w (PostM (footM [R.box pa0 114 [va0_0, .int .i64 a0_1, .int .u64 a0_2]]) (fun u ns => ∃ (ur1 : Value) (Sr1 : Nat → Prop) (ur2 : Value) (Sr2 : Nat → Prop), u = .tuple #[.agg [.int .i64 r0, ur1, ur2].toArray, .int .i64 r3] ∧ SlLen ur1 r1.length ∧ SlLen ur2 r2.length ∧ ns = [R.sl Sr1 ur1 r1, R.sl Sr2 ur2 r2, R.box pa0 114 [va0_0, .int .i64 r4, .int .u64 r5]]) w) := by
 unfold spec_l1Cur_first3.f at h
 have hl_va0_0 := hr_a0_0.len
 refine Calls.of_tri (N := 13) Tryz.func172 rfl rfl rfl hw0 ?_
 refine Tri.seq (Tri.reg (l := [0, 1]) rfl ?_)
 refine F.mn rfl (m_alloc ti27) ?_
 rintro _ _ ⟨b2_1, rfl, rfl⟩
 refine F.qn rfl (r_assign rfl) (F.nil (Nrm.seq (Tri.seq ?_)))
 obtain ⟨⟨t6_1, t6_2, t6_3, t6_4, t6_5⟩, h6, h⟩ := bind_some h
 refine Tri.reg (l := [0, 1, 2, 3]) rfl ?_
 refine F.qn rfl (r_move rfl) ?_
 refine F.efn rfl (d_callM (xs := _) (cs := [R.box pa0 114 [va0_0, .int .i64 a0_1, .int .u64 a0_2]]) (rest := [R.box b2_1 27 [.int .i64 0, .slice none 0 0, .slice none 0 0]]) [1] [0] rfl ok106 rfl rfl rfl rfl (fun w hw => spec_l1Cur_maze.ok h6 w (hr_a0_0.down hw) (Sep.sub hw))) ?_
 rintro _ _ ⟨_, ⟨v6_1, S6_1, v6_2, S6_2, rfl, hl_v6_1, hl_v6_2, rfl⟩, rfl⟩
 refine F.mn rfl (m_alloc ti27) ?_
 rintro _ _ ⟨b4_1, rfl, rfl⟩
 refine F.ef0 rfl rfl (wanted_none rfl) (d_storeG0 (i := 0) (cs2 := [.int .i64 t6_1, v6_1, v6_2]) ti27 rfl rfl rfl rfl rfl (Nat.le_of_ble_eq_true rfl) (lf_cons rfl (lf_cons (sl_leaf hl_v6_1) (lf_cons (sl_leaf hl_v6_2) lf_nil)))) ?_
 rintro _ _ ⟨rfl, rfl⟩
 refine F.nil (Nrm.seq (Tri.seq (Tri.seq ?_)))
 obtain ⟨⟨t8_1, t8_2, t8_3⟩, h8, h⟩ := bind_some h
 refine Tri.reg (l := [0, 1]) rfl ?_
 refine F.qn rfl (r_move rfl) ?_
 refine F.efn rfl (d_callM (xs := _) (cs := [R.box pa0 114 [va0_0, .int .i64 t6_4, .int .u64 t6_5]]) (rest := [R.box b4_1 27 [.int .i64 t6_1, v6_1, v6_2], R.sl S6_1 v6_1 (t6_2 : List (Int × Int × Int)), R.sl S6_2 v6_2 (t6_3 : List (Int)), R.box b2_1 27 [.int .i64 0, .slice none 0 0, .slice none 0 0]]) [3] [0, 1, 2, 4] rfl ok200 rfl rfl rfl rfl (fun w hw => spec_l1Cur_one.ok h8 w (hr_a0_0.down hw) (Sep.sub hw))) ?_
 rintro _ _ ⟨_, ⟨rfl, rfl⟩, rfl⟩
 refine F.nil (Nrm.seq (Tri.cond (b := t8_1) rfl (fun g_1 => ?_) (fun g_1 => ?_)))
 ·replace h := if_tt g_1 h
  refine Tri.seq (Tri.reg (l := [0, 1, 2]) rfl ?_)
  refine F.qn rfl (r_loadA ta27 ti27 rfl rfl (fun w hw => (box_cells (i := 1) rfl w hw))) ?_
  refine F.ef0 rfl rfl (wanted_none rfl) (d_storeG0 (i := 4) (cs2 := [.int .i64 t6_1, v6_1, v6_2]) ti27 rfl rfl rfl rfl rfl (Nat.le_of_ble_eq_true rfl) (lf_cons rfl (lf_cons (sl_leaf hl_v6_1) (lf_cons (sl_leaf hl_v6_2) lf_nil)))) ?_
  rintro _ _ ⟨rfl, rfl⟩
  refine F.qn rfl (r_assign rfl) (F.nil (Nrm.seq (Tri.ret ?_)))
  refine Rtn.then ?_
  cases h
  exact Rtn.body (.cell rfl ta27 ti27 rfl (fun _ hw => box_cells (i := 4) rfl _ hw) (.tmp rfl .nil)) (fun w hw => ⟨_, _, rfl, ⟨v6_1, S6_1, v6_2, S6_2, rfl, hl_v6_1, hl_v6_2, rfl⟩, Sep.pick (is := [2, 3, 0]) rfl rfl hw⟩)
 ·replace h := if_ff g_1 h
  refine Tri.skip (Nrm.seq (Tri.seq ?_))
  obtain ⟨⟨t12_1, t12_2, t12_3⟩, h12, h⟩ := bind_some h
  refine Tri.drawK (B := Sep w (footM [R.box pa0 114 [va0_0, .int .i64 a0_1, .int .u64 a0_2]]) [R.box b4_1 27 [.int .i64 t6_1, v6_1, v6_2], R.sl S6_1 v6_1 (t6_2 : List (Int × Int × Int)), R.sl S6_2 v6_2 (t6_3 : List (Int)), R.box b2_1 27 [.int .i64 0, .slice none 0 0, .slice none 0 0]]) mixedT Sep.up [(0, true), (1, true), (2, false)] [3, 4] (by kernel_rfl) ?_
  refine K.q [1, 2, 3, 4] rfl rfl rfl rfl rfl (wanted_none rfl) (r_loadA ta27 ti27 rfl rfl (fun w hw => (box_cells (i := 0) rfl w hw))) ?_
  refine K.q [1, 2, 3, 4] rfl rfl rfl rfl rfl (wanted_none rfl) (r_move rfl) ?_
  refine B.ef rfl rfl rfl (wanted_none rfl) (d_callM (xs := _) (cs := [R.box pa0 114 [va0_0, .int .i64 t8_2, .int .u64 t8_3]]) (rest := [R.box b4_1 27 [.int .i64 t6_1, v6_1, v6_2], R.sl S6_1 v6_1 (t6_2 : List (Int × Int × Int)), R.sl S6_2 v6_2 (t6_3 : List (Int)), R.box b2_1 27 [.int .i64 0, .slice none 0 0, .slice none 0 0]]) [0] [1, 2, 3, 4] rfl ok201 rfl rfl rfl rfl (fun w hw => spec_l1Cur_colours.ok h12 w (hr_a0_0.down hw) (Sep.sub hw))) (by rintro _ _ ⟨_, ⟨rfl, rfl⟩, rfl⟩; exact upd rfl [1, 2, 3, 4] rfl rfl) ?_
  rintro _ _ ⟨_, ⟨rfl, rfl⟩, rfl⟩
  refine B.nil ?_
  refine F.ef0 rfl rfl (wanted_none rfl) (d_storeG0 (i := 4) (cs2 := [.int .i64 t6_1, v6_1, v6_2]) ti27 rfl rfl rfl rfl rfl (Nat.le_of_ble_eq_true rfl) (lf_cons rfl (lf_cons (sl_leaf hl_v6_1) (lf_cons (sl_leaf hl_v6_2) lf_nil)))) ?_
  rintro _ _ ⟨rfl, rfl⟩
  refine F.qn rfl (r_assign rfl) (F.nil (Nrm.seq (Tri.ret ?_)))
  cases h
  exact Rtn.body (.cell rfl ta27 ti27 rfl (fun _ hw => box_cells (i := 4) rfl _ hw) (.tmp rfl .nil)) (fun w hw => ⟨_, _, rfl, ⟨v6_1, S6_1, v6_2, S6_2, rfl, hl_v6_1, hl_v6_2, rfl⟩, Sep.pick (is := [2, 3, 0]) rfl rfl hw⟩)


def spec_DrawRoundsOf.f (k : Nat) (a0 : List By) : Option (Int × (List (Int × Int × Int)) × (List Int) × Int) := (spec_l1Cur_first3.f k a0 0 0).bind fun (t9_1, t9_2, t9_3, t9_4, t9_5, t9_6) => some (t9_1, t9_2, t9_3, t9_4)

theorem spec_DrawRoundsOf.ok {k : Nat}  {a0 : List By} {r0 : Int} {r1 : List (Int × Int × Int)} {r2 : List Int} {r3 : Int} (h : spec_DrawRoundsOf.f k a0 = some (r0, r1, r2, r3)) (w : World) {va0 : Value} (hr_a0 : Rd w va0 a0) :
  Calls Tryz.prog 83 ([va0] : List Value).toArray w (Post (fun u ns => ∃ (ur1 : Value) (Sr1 : Nat → Prop) (ur2 : Value) (Sr2 : Nat → Prop), u = .tuple #[.agg [.int .i64 r0, ur1, ur2].toArray, .int .i64 r3] ∧ SlLen ur1 r1.length ∧ SlLen ur2 r2.length ∧ ns = [R.sl Sr1 ur1 r1, R.sl Sr2 ur2 r2]) w) := by
 unfold spec_DrawRoundsOf.f at h
 have hl_va0 := hr_a0.len
 refine Calls.of_tri (N := 12) Tryz.func83 rfl rfl rfl (Sep.nil (M := noM)) ?_
 refine Tri.seq (Tri.reg (l := [0, 1]) rfl ?_)
 refine F.mn rfl (m_alloc ti27) ?_
 rintro _ _ ⟨b2_1, rfl, rfl⟩
 refine F.qn rfl (r_assign rfl) (F.nil (Nrm.seq (Tri.seq (Tri.reg (l := [0, 1, 2, 3]) rfl ?_))))
 refine F.qn rfl (r_move rfl) (F.qn rfl (r_build (pl := [(0, 1), (1, 1), (2, 1)]) (qs := [(0, [va0])]) (cs := [va0, .int .i64 0, .int .u64 0]) (by kernel_rfl) ti114 rfl (.cons (sl_cells hl_va0) rfl (Nat.le_of_ble_eq_true rfl) .nil) rfl rfl) ?_)
 refine F.mn rfl (m_boxG rfl rfl) ?_
 rintro _ _ ⟨b7_1, rfl, rfl⟩
 refine F.qn rfl (r_assign rfl) (F.nil (Nrm.seq (Tri.seq ?_)))
 obtain ⟨⟨t9_1, t9_2, t9_3, t9_4, t9_5, t9_6⟩, h9, h⟩ := bind_some h
 refine Tri.reg (l := [0, 1, 2, 3, 4, 5]) rfl ?_
 refine F.qn rfl (r_move rfl) ?_
 refine F.efn rfl (d_callM (xs := _) (cs := [R.box b7_1 114 [va0, .int .i64 0, .int .u64 0]]) (rest := [R.box b2_1 27 [.int .i64 0, .slice none 0 0, .slice none 0 0]]) [0] [1] rfl ok172 rfl rfl rfl rfl (fun w hw => spec_l1Cur_first3.ok h9 w (hr_a0.down hw) (Sep.sub hw))) ?_
 rintro _ _ ⟨_, ⟨v9_1, S9_1, v9_2, S9_2, rfl, hl_v9_1, hl_v9_2, rfl⟩, rfl⟩
 refine F.qn rfl (r_extract rfl rfl) (F.qn rfl (r_extract rfl rfl) ?_)
 refine F.ef0 rfl rfl (wanted_none rfl) (d_storeG0 (i := 3) (cs2 := [.int .i64 t9_1, v9_1, v9_2]) ti27 rfl rfl rfl rfl rfl (Nat.le_of_ble_eq_true rfl) (lf_cons rfl (lf_cons (sl_leaf hl_v9_1) (lf_cons (sl_leaf hl_v9_2) lf_nil)))) ?_
 rintro _ _ ⟨rfl, rfl⟩
 refine F.qn rfl (r_assign rfl) (F.nil (Nrm.seq (Tri.ret ?_)))
 cases h
 exact Rtn.body (.cell rfl ta27 ti27 rfl (fun _ hw => box_cells (i := 3) rfl _ hw) (.tmp rfl .nil)) (fun w hw => ⟨_, _, rfl, ⟨v9_1, S9_1, v9_2, S9_2, rfl, hl_v9_1, hl_v9_2, rfl⟩, Sep.pick (is := [0, 1]) rfl rfl hw⟩)


def spec_DrawRequiredNodes.f (k : Nat) (a0 : List By) : Option (Int × (List (Int × Int × Int)) × (List Int) × Int) := (spec_DrawRoundsOf.f k a0).bind fun (t5_1, t5_2, t5_3, t5_4) => some (t5_1, t5_2, t5_3, t5_4)

theorem spec_DrawRequiredNodes.ok {k : Nat}  {a0 : List By} {r0 : Int} {r1 : List (Int × Int × Int)} {r2 : List Int} {r3 : Int} (h : spec_DrawRequiredNodes.f k a0 = some (r0, r1, r2, r3)) (w : World) {va0 : Value} (hr_a0 : Rd w va0 a0) :
  Calls Tryz.prog 8 ([va0] : List Value).toArray w (Post (fun u ns => ∃ (ur1 : Value) (Sr1 : Nat → Prop) (ur2 : Value) (Sr2 : Nat → Prop), u = .tuple #[.agg [.int .i64 r0, ur1, ur2].toArray, .int .i64 r3] ∧ SlLen ur1 r1.length ∧ SlLen ur2 r2.length ∧ ns = [R.sl Sr1 ur1 r1, R.sl Sr2 ur2 r2]) w) := by
 unfold spec_DrawRequiredNodes.f at h
 have hl_va0 := hr_a0.len
 refine Calls.of_tri (N := 8) Tryz.func8 rfl rfl rfl (Sep.nil (M := noM)) ?_
 refine Tri.seq (Tri.reg (l := [0, 1]) rfl ?_)
 refine F.mn rfl (m_alloc ti27) ?_
 rintro _ _ ⟨b2_1, rfl, rfl⟩
 refine F.qn rfl (r_assign rfl) (F.nil (Nrm.seq (Tri.seq ?_)))
 obtain ⟨⟨t5_1, t5_2, t5_3, t5_4⟩, h5, h⟩ := bind_some h
 refine Tri.reg (l := [0, 1, 2, 3, 4, 5]) rfl ?_
 refine F.qn rfl (r_move rfl) ?_
 refine F.mn rfl (m_callF (xs := _) rfl ok83 rfl rfl (fun w hw => spec_DrawRoundsOf.ok h5 w ((fun _ hw => hr_a0.sep hw) w hw))) ?_
 rintro _ _ ⟨_, ⟨v5_1, S5_1, v5_2, S5_2, rfl, hl_v5_1, hl_v5_2, rfl⟩, rfl⟩
 refine F.qn rfl (r_extract rfl rfl) (F.qn rfl (r_extract rfl rfl) ?_)
 refine F.ef0 rfl rfl (wanted_none rfl) (d_storeG0 (i := 2) (cs2 := [.int .i64 t5_1, v5_1, v5_2]) ti27 rfl rfl rfl rfl rfl (Nat.le_of_ble_eq_true rfl) (lf_cons rfl (lf_cons (sl_leaf hl_v5_1) (lf_cons (sl_leaf hl_v5_2) lf_nil)))) ?_
 rintro _ _ ⟨rfl, rfl⟩
 refine F.qn rfl (r_assign rfl) (F.nil (Nrm.seq (Tri.ret ?_)))
 cases h
 exact Rtn.body (.cell rfl ta27 ti27 rfl (fun _ hw => box_cells (i := 2) rfl _ hw) (.tmp rfl .nil)) (fun w hw => ⟨_, _, rfl, ⟨v5_1, S5_1, v5_2, S5_2, rfl, hl_v5_1, hl_v5_2, rfl⟩, Sep.pick (is := [0, 1]) rfl rfl hw⟩)


def impl_members.l0 (k : Nat) (a0 : Int) : Nat → (List (Int)) → Int → Option ((List (Int)))
 | 0, _, _ => none
 | n + 1, x3, x4 => if ¬ x4 < 0 then (if (decide ((shr a0 x4) > 0)) = true then if ¬ x4 < 0 then ((if ((band (shr a0 x4) 1) == 1) = true then if (x3 ++ ([x4] : List (Int))).length < 1099511627776 then some (x3 ++ ([x4] : List (Int))) else none else some x3)).bind fun y3 => impl_members.l0 k a0 n y3 (w64 (x4 + 1)) else none else some x3) else none

def impl_members.f (k : Nat) (a0 : Int) : Option ((List Int)) := (impl_members.l0 k a0 k ([] : List (Int)) 0).bind fun x3 => some x3

theorem impl_members.ok {k : Nat}  {a0 : Int} {r0 : List Int} (h : impl_members.f k a0 = some r0) (w : World) :
  Calls Tryz.prog 119 ([.int .i64 a0] : List Value).toArray w (Post (fun u ns => ∃ (Sr0 : Nat → Prop), SlLen u r0.length ∧ ns = [R.sl Sr0 u r0]) w) := by
 unfold impl_members.f at h
 refine Calls.of_tri (N := 22) Tryz.func119 rfl rfl rfl (Sep.nil (M := noM)) ?_
 refine Tri.seq (Tri.reg (l := [0]) rfl ?_)
 refine F.qn rfl (r_assign rfl) (F.nil (Nrm.seq (Tri.seq (Tri.reg (l := [0, 1]) rfl ?_))))
 refine F.mn rfl (m_build0 (α := Int) Tryz.underlying25 ti3) ?_
 rintro v5_1 _ ⟨S5_1, hl_v5_1, rfl⟩
 refine F.qn rfl (r_assign rfl) (F.nil (Nrm.seq (Tri.seq (Tri.seq (Tri.reg (l := [0]) rfl ?_)))))
 refine F.qn rfl (r_assign rfl) (F.nil (Nrm.seq ?_))
 obtain ⟨x3, hE_1, h⟩ := bind_some h
 refine Tri.block ?_
 refine Tri.only [0, 3, 4] rfl ?_
 refine Tri.pick [0] rfl rfl ?_
 refine Tri.rounds (fun n e' C' => ∃ (x3' : List (Int)) (x4' : Int) (w3 : Value) (T3 : Nat → Prop), impl_members.l0 k a0 n x3' x4' = some x3 ∧ SlLen w3 (x3').length ∧ e' = [(0, .int .i64 a0), (3, w3), (4, .int .i64 x4')] ∧ C' = Sep w noM [R.sl T3 w3 (x3' : List (Int))]) k ?_ ?_ ?_
 ·exact ⟨([] : List (Int)), 0, v5_1, S5_1, hE_1, hl_v5_1, rfl, rfl⟩
 ·rintro _ _ ⟨_, _, _, _, hE_1, _⟩
  rw [impl_members.l0.eq_1] at hE_1; cases hE_1
 ·rintro n_1 _ _ ⟨x3, x4, w3, T3, hE_1, hl_w3, rfl, rfl⟩ ih_1
  rw [impl_members.l0.eq_2] at hE_1
  refine Tri.seq (Tri.seq ?_)
  obtain ⟨hs8, hE_1⟩ := ck hE_1
  refine Tri.reg (l := [0, 1, 2, 3]) rfl ?_
  refine F.qn rfl (r_move rfl) (F.qn rfl (r_move rfl) (F.qn rfl (r_shr rfl rfl hs8) (F.qn rfl (r_gtr rfl rfl) (F.nil (Nrm.seq (Tri.cond (b := decide ((shr a0 x4) > 0)) rfl (fun g_1 => ?_) (fun g_1 => ?_)))))))
  ·replace hE_1 := if_tt g_1 hE_1
   refine Tri.skip (Nrm.seq (Tri.seq (Tri.block ?_)))
   refine Tri.seq ?_
   obtain ⟨hs14, hE_1⟩ := ck hE_1
   refine Tri.reg (l := [0, 1, 2, 3, 4]) rfl ?_
   refine F.qn rfl (r_move rfl) (F.qn rfl (r_move rfl) (F.qn rfl (r_shr rfl rfl hs14) (F.qn rfl (r_and rfl rfl) (F.qn rfl (r_eql rfl rfl) (F.nil (Nrm.seq ?_))))))
   obtain ⟨y3, hE_2, hE_1⟩ := bind_some hE_1
   refine Tri.cut (fun e' C' => ∃ (v3_1 : Value) (S3_1 : Nat → Prop), SlLen v3_1 (y3).length ∧ e' = [(0, .int .i64 a0), (3, v3_1), (4, .int .i64 x4)] ∧ C' = Sep w noM [R.sl S3_1 v3_1 (y3 : List (Int))]) ?_ (fun hj_1 => ?_)
   ·rintro _ _ ⟨v3_1, S3_1, hl_v3_1, rfl, rfl⟩
    refine Nrm.block ?_
    refine Nrm.seq (Tri.reg (l := [0, 1, 2]) rfl ?_)
    refine F.qn rfl (r_move rfl) (F.qn rfl (r_add rfl rfl) (F.qn rfl (r_assign rfl) (F.nil (Nrm.round ?_))))
    refine Rnd.only [0, 3, 4] rfl ?_
    refine Rnd.pick [0] rfl rfl ?_
    exact ih_1 _ _ ⟨y3, w64 (x4 + 1), v3_1, S3_1, hE_1, hl_v3_1, rfl, rfl⟩
   ·refine Tri.cond (b := (band (shr a0 x4) 1) == 1) rfl (fun g_2 => ?_) (fun g_2 => ?_)
    ·replace hE_2 := if_tt g_2 hE_2
     obtain ⟨hs20, hE_2⟩ := ck hE_2
     refine Tri.reg (l := [0, 1, 2, 3, 4]) rfl ?_
     refine F.qn rfl (r_move rfl) (F.qn rfl (r_move rfl) ?_)
     refine F.mn rfl (m_buildF (l := ([x4] : List (Int))) Tryz.underlying25 ti3 rfl rfl rfl rfl rfl) ?_
     rintro v19_1 _ ⟨S19_1, hl_v19_1, rfl⟩
     refine F.efn rfl (d_append (i := 1) Tryz.underlying25 Tryz.underlying25 ti3 rfl (by decide) rfl rfl rfl (rd_sl (i := 0) rfl) hs20) ?_
     rintro v20_1 _ ⟨S20_1, rfl, hl_v20_1⟩
     refine F.qn rfl (r_assign rfl) (F.nil ?_)
     cases hE_2
     refine Nrm.only [0, 3, 4] rfl ?_
     refine Nrm.pick [1] rfl rfl ?_
     exact hj_1 _ _ ⟨v20_1, S20_1, hl_v20_1, rfl, rfl⟩
    ·replace hE_2 := if_ff g_2 hE_2
     refine Tri.skip ?_
     cases hE_2
     refine Nrm.only [0, 3, 4] rfl ?_
     refine Nrm.pick [0] rfl rfl ?_
     exact hj_1 _ _ ⟨w3, T3, hl_w3, rfl, rfl⟩
  ·replace hE_1 := if_ff g_1 hE_1
   refine Tri.exit ?_
   refine Exi.then ?_
   refine Exi.then ?_
   refine Exi.same ?_
   cases hE_1
   refine Nrm.seq (Tri.seq (Tri.reg (l := [0, 1]) rfl ?_))
   refine F.qn rfl (r_move rfl) (F.qn rfl (r_assign rfl) (F.nil (Nrm.seq (Tri.ret ?_))))
   cases h
   exact Rtn.body (.tmp rfl .nil) (fun w hw => ⟨_, _, rfl, ⟨T3, hl_w3, rfl⟩, Sep.pick (is := [0]) rfl rfl hw⟩)


def impl_has.f (k : Nat) (a0 : Int) (a1 : Int) : Option (Bool) := some ((bclr a1 a0) == 0)

theorem impl_has.ok {k : Nat}  {a0 : Int} {a1 : Int} {r0 : Bool} (h : impl_has.f k a0 a1 = some r0) (w : World) :
  Calls Tryz.prog 189 ([.int .i64 a0, .int .i64 a1] : List Value).toArray w (fun e w' => e = .returned (.bool r0) ∧ Ext w w') := by
 unfold impl_has.f at h
 refine Calls.of_tri (N := 9) Tryz.func189 rfl rfl rfl (Sep.nil (M := noM)) ?_
 refine Tri.seq (Tri.reg (l := [0]) rfl ?_)
 refine F.qn rfl (r_assign rfl) (F.nil (Nrm.seq (Tri.seq (Tri.reg (l := [0, 1, 2, 3, 4]) rfl ?_))))
 refine F.qn rfl (r_move rfl) (F.qn rfl (r_move rfl) (F.qn rfl (r_andNot rfl rfl) (F.qn rfl (r_eql rfl rfl) (F.qn rfl (r_assign rfl) (F.nil (Nrm.seq (Tri.ret ?_)))))))
 cases h
 exact Rtn.body (.tmp rfl .nil) (fun w hw => ⟨rfl, hw.ext⟩)


def impl_steps.l0 (k : Nat) (a0_1 : List (Int × Int × Int)) (a1 : Int) (a2 : Int) : Nat → Int → Int → Option (Int)
 | 0, _, _ => none
 | n + 1, x7, x13 => (if (decide (x13 < (a0_1.length : Int))) = true then ((rdl a0_1 x13).bind fun t15 => (impl_has.f k a2 t15.2.2).bind fun t20 => (if (!t20) = true then some x7 else ((if (t15.1 == a1) = true then if ¬ t15.2.1 < 0 then some (bor x7 (shl 1 t15.2.1)) else none else some x7)).bind fun y7 => ((if (t15.2.1 == a1) = true then if ¬ t15.1 < 0 then some (bor y7 (shl 1 t15.1)) else none else some y7)).bind fun y7r => some y7r)).bind fun y7 => impl_steps.l0 k a0_1 a1 a2 n y7 (w64 (x13 + 1)) else some x7)

def impl_steps.f (k : Nat) (a0_0 : Int) (a0_1 : List (Int × Int × Int)) (a0_2 : List Int) (a1 : Int) (a2 : Int) : Option (Int) := (impl_steps.l0 k a0_1 a1 a2 k 0 0).bind fun x7 => some x7

theorem impl_steps.ok {k : Nat}  {a0_0 : Int} {a0_1 : List (Int × Int × Int)} {a0_2 : List Int} {a1 : Int} {a2 : Int} {r0 : Int} (h : impl_steps.f k a0_0 a0_1 a0_2 a1 a2 = some r0) (w : World) {va0_1 : Value} {va0_2 : Value} (hr_a0_1 : Rd w va0_1 a0_1) (hr_a0_2 : Rd w va0_2 a0_2) :
  Calls Tryz.prog 207 ([.agg ([.int .i64 a0_0, va0_1, va0_2].toArray), .int .i64 a1, .int .i64 a2] : List Value).toArray w (fun e w' => e = .returned (.int .i64 r0) ∧ Ext w w') := by
 unfold impl_steps.f at h
 have hl_va0_1 := hr_a0_1.len
 have hl_va0_2 := hr_a0_2.len
 refine Calls.of_tri (N := 42) Tryz.func207 rfl rfl rfl (Sep.nil (M := noM)) ?_
 refine Tri.seq (Tri.reg (l := [0, 1]) rfl ?_)
 refine F.mn rfl (m_boxG rfl rfl) ?_
 rintro _ _ ⟨b3_1, rfl, rfl⟩
 refine F.qn rfl (r_assign rfl) (F.nil (Nrm.seq (Tri.seq (Tri.reg (l := [0]) rfl ?_))))
 refine F.qn rfl (r_assign rfl) (F.nil (Nrm.seq (Tri.seq (Tri.seq (Tri.reg (l := [0, 1, 2, 3]) rfl ?_)))))
 refine F.qn rfl (r_fieldAddr tf27_1 rfl) (F.qn rfl (r_load ta24 rfl (fun w hw => cell_1 (box_cells (i := 0) rfl w hw) rfl)) (F.qn rfl (r_len Tryz.underlying24 rfl hl_va0_1) (F.qn rfl (r_move rfl) (F.nil (Nrm.seq ?_)))))
 obtain ⟨x7, hE_1, h⟩ := bind_some h
 refine Tri.block ?_
 refine Tri.only [1, 2, 7, 11, 12, 13] rfl ?_
 refine Tri.pick [] rfl rfl ?_
 refine Tri.rounds (fun n e' C' => ∃ (x7' : Int) (x13' : Int), impl_steps.l0 k a0_1 a1 a2 n x7' x13' = some x7 ∧ e' = [(1, .int .i64 a1), (2, .int .i64 a2), (7, .int .i64 x7'), (11, va0_1), (12, .int .i64 (a0_1.length : Int)), (13, .int .i64 x13')] ∧ C' = Sep w noM []) k ?_ ?_ ?_
 ·exact ⟨0, 0, hE_1, rfl, rfl⟩
 ·rintro _ _ ⟨_, _, hE_1, _⟩
  rw [impl_steps.l0.eq_1] at hE_1; cases hE_1
 ·rintro n_1 _ _ ⟨x7, x13, hE_1, rfl, rfl⟩ ih_1
  rw [impl_steps.l0.eq_2] at hE_1
  refine Tri.seq (Tri.reg (l := [0]) rfl ?_)
  refine F.qn rfl (r_lss rfl rfl) (F.nil (Nrm.seq (Tri.seq (Tri.cond (b := decide (x13 < (a0_1.length : Int))) rfl (fun g_1 => ?_) (fun g_1 => ?_)))))
  ·replace hE_1 := if_tt g_1 hE_1
   refine Tri.skip (Nrm.seq (Tri.seq ?_))
   obtain ⟨y7, hE_2, hE_1⟩ := bind_some hE_1
   refine Tri.cut (fun e' C' => e' = [(1, .int .i64 a1), (2, .int .i64 a2), (7, .int .i64 y7), (11, va0_1), (12, .int .i64 (a0_1.length : Int)), (13, .int .i64 x13)] ∧ C' = Sep w noM []) ?_ (fun hj_1 => ?_)
   ·rintro _ _ ⟨rfl, rfl⟩
    refine Nrm.seq (Tri.reg (l := [0, 1]) rfl ?_)
    refine F.qn rfl (r_add rfl rfl) (F.qn rfl (r_move rfl) (F.nil (Nrm.round ?_)))
    refine Rnd.only [1, 2, 7, 11, 12, 13] rfl ?_
    refine Rnd.pick [] rfl rfl ?_
    exact ih_1 _ _ ⟨y7, w64 (x13 + 1), hE_1, rfl, rfl⟩
   ·refine Tri.block ?_
    refine Tri.seq ?_
    obtain ⟨t15, h15, hE_2⟩ := bind_some hE_2
    refine Tri.reg (l := [0, 1, 2, 3]) rfl ?_
    refine F.qn rfl (r_indexAddrS Tryz.underlying24 ti168 rfl hl_va0_1 rfl (rdl_some h15).1 (rdl_some h15).2.1) (F.qn rfl (r_loadA ta168 ti168 rfl rfl (fun w hw => (Rd.flat ((fun _ hw => hr_a0_1.sep hw) w hw) (rdl_some h15).2.2))) ?_)
    refine F.mn rfl (m_alloc ti168) ?_
    rintro _ _ ⟨b9_1, rfl, rfl⟩
    refine F.ef0 rfl rfl (wanted_none rfl) (d_storeG0 (i := 0) (cs2 := [.int .i64 t15.1, .int .i64 t15.2.1, .int .i64 t15.2.2]) ti168 rfl rfl rfl rfl rfl (Nat.le_of_ble_eq_true rfl) (lf_cons rfl (lf_cons rfl (lf_cons rfl lf_nil)))) ?_
    rintro _ _ ⟨rfl, rfl⟩
    refine F.nil (Nrm.seq (Tri.seq (Tri.seq ?_)))
    obtain ⟨t20, h20, hE_2⟩ := bind_some hE_2
    refine Tri.reg (l := [0, 1, 2, 3, 4]) rfl ?_
    refine F.qn rfl (r_move rfl) (F.qn rfl (r_indexAddrA Tryz.underlying168 ti3 rfl rfl (by decide) (by decide)) (F.qn rfl (r_load ta3 rfl (fun w hw => cell_1 (box_cells (i := 0) rfl w hw) rfl)) ?_))
    refine F.qcn rfl (q_callF (xs := _) rfl ok189 rfl rfl (fun w hw => impl_has.ok h20 w )) ?_
    refine F.qn rfl (r_not rfl) (F.nil (Nrm.seq (Tri.cond (b := !t20) rfl (fun g_2 => ?_) (fun g_2 => ?_))))
    ·replace hE_2 := if_tt g_2 hE_2
     refine Tri.exit ?_
     refine Exi.then ?_
     refine Exi.same ?_
     cases hE_2
     refine Nrm.only [1, 2, 7, 11, 12, 13] rfl ?_
     refine Nrm.pick [] rfl rfl ?_
     exact hj_1 _ _ ⟨rfl, rfl⟩
    ·replace hE_2 := if_ff g_2 hE_2
     refine Tri.skip (Nrm.seq (Tri.seq (Tri.seq (Tri.reg (l := [0, 1, 2, 3]) rfl ?_))))
     refine F.qn rfl (r_indexAddrA Tryz.underlying168 ti3 rfl rfl (by decide) (by decide)) (F.qn rfl (r_load ta3 rfl (fun w hw => cell_1 (box_cells (i := 0) rfl w hw) rfl)) (F.qn rfl (r_move rfl) (F.qn rfl (r_eql rfl rfl) (F.nil (Nrm.seq ?_)))))
     obtain ⟨y7, hE_3, hE_2⟩ := bind_some hE_2
     refine Tri.cut (fun e' C' => e' = [(1, .int .i64 a1), (2, .int .i64 a2), (7, .int .i64 y7), (9, .pointer (some ⟨b9_1, 0, none⟩)), (11, va0_1), (12, .int .i64 (a0_1.length : Int)), (13, .int .i64 x13)] ∧ C' = Sep w noM [R.box b9_1 168 [.int .i64 t15.1, .int .i64 t15.2.1, .int .i64 t15.2.2]]) ?_ (fun hj_2 => ?_)
     ·rintro _ _ ⟨rfl, rfl⟩
      refine Nrm.seq (Tri.seq (Tri.reg (l := [0, 1, 2, 3]) rfl ?_))
      refine F.qn rfl (r_indexAddrA Tryz.underlying168 ti3 rfl rfl (by decide) (by decide)) (F.qn rfl (r_load ta3 rfl (fun w hw => cell_1 (box_cells (i := 0) rfl w hw) rfl)) (F.qn rfl (r_move rfl) (F.qn rfl (r_eql rfl rfl) (F.nil (Nrm.seq ?_)))))
      obtain ⟨y7r, hE_4, hE_2⟩ := bind_some hE_2
      refine Tri.cut (fun e' C' => e' = [(1, .int .i64 a1), (2, .int .i64 a2), (7, .int .i64 y7r), (11, va0_1), (12, .int .i64 (a0_1.length : Int)), (13, .int .i64 x13)] ∧ C' = Sep w noM []) ?_ (fun hj_3 => ?_)
      ·rintro _ _ ⟨rfl, rfl⟩
       refine Nrm.block ?_
       cases hE_2
       refine Nrm.only [1, 2, 7, 11, 12, 13] rfl ?_
       refine Nrm.pick [] rfl rfl ?_
       exact hj_1 _ _ ⟨rfl, rfl⟩
      ·refine Tri.cond (b := t15.2.1 == a1) rfl (fun g_4 => ?_) (fun g_4 => ?_)
       ·replace hE_4 := if_tt g_4 hE_4
        obtain ⟨hs38, hE_4⟩ := ck hE_4
        refine Tri.reg (l := [0, 1, 2, 3, 4, 5]) rfl ?_
        refine F.qn rfl (r_move rfl) (F.qn rfl (r_indexAddrA Tryz.underlying168 ti3 rfl rfl (by decide) (by decide)) (F.qn rfl (r_load ta3 rfl (fun w hw => cell_1 (box_cells (i := 0) rfl w hw) rfl)) (F.qn rfl (r_shl rfl rfl hs38) (F.qn rfl (r_or rfl rfl) (F.qn rfl (r_assign rfl) (F.nil ?_))))))
        cases hE_4
        refine Nrm.only [1, 2, 7, 11, 12, 13] rfl ?_
        refine Nrm.pick [] rfl rfl ?_
        exact hj_3 _ _ ⟨rfl, rfl⟩
       ·replace hE_4 := if_ff g_4 hE_4
        refine Tri.skip ?_
        cases hE_4
        refine Nrm.only [1, 2, 7, 11, 12, 13] rfl ?_
        refine Nrm.pick [] rfl rfl ?_
        exact hj_3 _ _ ⟨rfl, rfl⟩
     ·refine Tri.cond (b := t15.1 == a1) rfl (fun g_3 => ?_) (fun g_3 => ?_)
      ·replace hE_3 := if_tt g_3 hE_3
       obtain ⟨hs29, hE_3⟩ := ck hE_3
       refine Tri.reg (l := [0, 1, 2, 3, 4, 5]) rfl ?_
       refine F.qn rfl (r_move rfl) (F.qn rfl (r_indexAddrA Tryz.underlying168 ti3 rfl rfl (by decide) (by decide)) (F.qn rfl (r_load ta3 rfl (fun w hw => cell_1 (box_cells (i := 0) rfl w hw) rfl)) (F.qn rfl (r_shl rfl rfl hs29) (F.qn rfl (r_or rfl rfl) (F.qn rfl (r_assign rfl) (F.nil ?_))))))
       cases hE_3
       refine Nrm.only [1, 2, 7, 9, 11, 12, 13] rfl ?_
       refine Nrm.pick [0] rfl rfl ?_
       exact hj_2 _ _ ⟨rfl, rfl⟩
      ·replace hE_3 := if_ff g_3 hE_3
       refine Tri.skip ?_
       cases hE_3
       refine Nrm.only [1, 2, 7, 9, 11, 12, 13] rfl ?_
       refine Nrm.pick [0] rfl rfl ?_
       exact hj_2 _ _ ⟨rfl, rfl⟩
  ·replace hE_1 := if_ff g_1 hE_1
   refine Tri.exit ?_
   refine Exi.then ?_
   refine Exi.then ?_
   refine Exi.same ?_
   cases hE_1
   refine Nrm.seq (Tri.seq (Tri.reg (l := [0, 1]) rfl ?_))
   refine F.qn rfl (r_move rfl) (F.qn rfl (r_assign rfl) (F.nil (Nrm.seq (Tri.ret ?_))))
   cases h
   exact Rtn.body (.tmp rfl .nil) (fun w hw => ⟨rfl, hw.ext⟩)


def impl_reach.l0 (k : Nat) (a0_0 : Int) (a0_1 : List (Int × Int × Int)) (a0_2 : List Int) (a2 : Int) : Nat → Int → (List (Int)) → Option (Int)
 | 0, _, _ => none
 | n + 1, x7, x8 => (if (decide ((x8.length : Int) > 0)) = true then (rdl x8 0).bind fun t19 => (impl_steps.f k a0_0 a0_1 a0_2 t19 a2).bind fun t22 => (slc x8 1 (x8.length : Int)).bind fun t29 => (impl_members.f k (bclr t22 x7)).bind fun t31 => if (t29 ++ t31).length < 1099511627776 then impl_reach.l0 k a0_0 a0_1 a0_2 a2 n (bor x7 (bclr t22 x7)) (t29 ++ t31) else none else some x7)

def impl_reach.f (k : Nat) (a0_0 : Int) (a0_1 : List (Int × Int × Int)) (a0_2 : List Int) (a1 : Int) (a2 : Int) : Option (Int) := if ¬ a1 < 0 then (impl_reach.l0 k a0_0 a0_1 a0_2 a2 k (shl 1 a1) ([a1] : List (Int))).bind fun x7 => some x7 else none

theorem impl_reach.ok {k : Nat}  {a0_0 : Int} {a0_1 : List (Int × Int × Int)} {a0_2 : List Int} {a1 : Int} {a2 : Int} {r0 : Int} (h : impl_reach.f k a0_0 a0_1 a0_2 a1 a2 = some r0) (w : World) {va0_1 : Value} {va0_2 : Value} (hr_a0_1 : Rd w va0_1 a0_1) (hr_a0_2 : Rd w va0_2 a0_2) :
  Calls Tryz.prog 120 ([.agg ([.int .i64 a0_0, va0_1, va0_2].toArray), .int .i64 a1, .int .i64 a2] : List Value).toArray w (fun e w' => e = .returned (.int .i64 r0) ∧ Ext w w') := by
 unfold impl_reach.f at h
 have hl_va0_1 := hr_a0_1.len
 have hl_va0_2 := hr_a0_2.len
 refine Calls.of_tri (N := 34) Tryz.func120 rfl rfl rfl (Sep.nil (M := noM)) ?_
 refine Tri.seq (Tri.reg (l := [0, 1]) rfl ?_)
 refine F.mn rfl (m_boxG rfl rfl) ?_
 rintro _ _ ⟨b3_1, rfl, rfl⟩
 refine F.qn rfl (r_assign rfl) (F.nil (Nrm.seq (Tri.seq ?_)))
 obtain ⟨hs11, h⟩ := ck h
 refine Tri.reg (l := [0, 1, 2, 3, 4, 5]) rfl ?_
 refine F.qn rfl (r_move rfl) (F.qn rfl (r_shl rfl rfl hs11) (F.qn rfl (r_move rfl) ?_))
 refine F.mn rfl (m_buildF (l := ([a1] : List (Int))) Tryz.underlying25 ti3 rfl rfl rfl rfl rfl) ?_
 rintro v13_1 _ ⟨S13_1, hl_v13_1, rfl⟩
 refine F.qn rfl (r_assign rfl) (F.qn rfl (r_assign rfl) (F.nil (Nrm.seq (Tri.seq ?_))))
 obtain ⟨x7, hE_1, h⟩ := bind_some h
 refine Tri.block ?_
 refine Tri.only [2, 3, 7, 8] rfl ?_
 refine Tri.pick [1, 0] rfl rfl ?_
 refine Tri.rounds (fun n e' C' => ∃ (x7' : Int) (x8' : List (Int)) (w8 : Value) (T8 : Nat → Prop), impl_reach.l0 k a0_0 a0_1 a0_2 a2 n x7' x8' = some x7 ∧ SlLen w8 (x8').length ∧ e' = [(2, .int .i64 a2), (3, .pointer (some ⟨b3_1, 0, none⟩)), (7, .int .i64 x7'), (8, w8)] ∧ C' = Sep w noM [R.box b3_1 27 [.int .i64 a0_0, va0_1, va0_2], R.sl T8 w8 (x8' : List (Int))]) k ?_ ?_ ?_
 ·exact ⟨shl 1 a1, ([a1] : List (Int)), v13_1, S13_1, hE_1, hl_v13_1, rfl, rfl⟩
 ·rintro _ _ ⟨_, _, _, _, hE_1, _⟩
  rw [impl_reach.l0.eq_1] at hE_1; cases hE_1
 ·rintro n_1 _ _ ⟨x7, x8, w8, T8, hE_1, hl_w8, rfl, rfl⟩ ih_1
  rw [impl_reach.l0.eq_2] at hE_1
  refine Tri.seq (Tri.seq (Tri.reg (l := [0, 1, 2]) rfl ?_))
  refine F.qn rfl (r_move rfl) (F.qn rfl (r_len Tryz.underlying25 rfl hl_w8) (F.qn rfl (r_gtr rfl rfl) (F.nil (Nrm.seq (Tri.cond (b := decide ((x8.length : Int) > 0)) rfl (fun g_1 => ?_) (fun g_1 => ?_))))))
  ·replace hE_1 := if_tt g_1 hE_1
   refine Tri.skip (Nrm.seq (Tri.block ?_))
   refine Tri.seq ?_
   obtain ⟨t19, h19, hE_1⟩ := bind_some hE_1
   obtain ⟨t22, h22, hE_1⟩ := bind_some hE_1
   refine Tri.drawA mixedT Sep.up [(0, true), (1, true), (2, true), (3, true), (4, true), (5, true), (6, true), (7, true), (8, true)] [] (by kernel_rfl) ?_
   refine S.qn rfl (r_loadA ta27 ti27 rfl rfl (fun w hw => (box_cells (i := 0) rfl w hw))) (S.qn rfl (r_move rfl) (S.qn rfl (r_indexAddrS Tryz.underlying25 ti3 rfl hl_w8 rfl (rdl_some h19).1 (rdl_some h19).2.1) (S.qn rfl (r_load ta3 rfl (fun w hw => cell_0 (Rd.flat ((rd_sl (i := 1) rfl) w hw) (rdl_some h19).2.2) rfl)) (S.qn rfl (r_move rfl) ?_))))
   refine S.qcn rfl (q_callF (xs := _) rfl ok207 rfl rfl (fun w hw => impl_steps.ok h22 w ((fun _ hw => hr_a0_1.sep hw) w hw) ((fun _ hw => hr_a0_2.sep hw) w hw))) ?_
   refine S.qn rfl (r_move rfl) (S.qn rfl (r_andNot rfl rfl) (S.qn rfl (r_assign rfl) (S.nil (F.nil (Nrm.seq (Tri.seq (Tri.reg (l := [0, 1, 2, 3]) rfl ?_)))))))
   refine F.qn rfl (r_move rfl) (F.qn rfl (r_move rfl) (F.qn rfl (r_or rfl rfl) (F.qn rfl (r_assign rfl) (F.nil (Nrm.seq ?_)))))
   obtain ⟨t29, h29, hE_1⟩ := bind_some hE_1
   obtain ⟨t31, h31, hE_1⟩ := bind_some hE_1
   obtain ⟨hs32, hE_1⟩ := ck hE_1
   refine Tri.drawA mixedT Sep.up [(0, true), (1, true), (2, true), (3, false)] [4, 5] (by kernel_rfl) ?_
   refine S.qn rfl (r_move rfl) (S.qn rfl (r_sliceL Tryz.underlying25 ti3 rfl (rd_sl (i := 1) rfl) rfl h29) (S.qn rfl (r_move rfl) ?_))
   refine S.m rfl rfl rfl (wanted_none rfl) (m_callF (xs := _) rfl ok119 rfl rfl (fun w hw => impl_members.ok h31 w )) ?_
   rintro v31_2 _ ⟨_, ⟨S31_2, hl_v31_2, rfl⟩, rfl⟩
   refine S.nil (F.efn rfl (Does.pre (fun w hw => Sep.resl (i := 2) rfl h29 hw) <| d_append (i := 2) Tryz.underlying25 Tryz.underlying25 ti3 rfl (by decide) rfl rfl rfl (rd_sl (i := 0) rfl) hs32) ?_)
   rintro v32_2 _ ⟨S32_2, rfl, hl_v32_2⟩
   refine F.qn rfl (r_assign rfl) (F.nil (Nrm.block ?_))
   refine Nrm.round ?_
   refine Rnd.only [2, 3, 7, 8] rfl ?_
   refine Rnd.pick [1, 2] rfl rfl ?_
   exact ih_1 _ _ ⟨bor x7 (bclr t22 x7), t29 ++ t31, v32_2, S32_2, hE_1, hl_v32_2, rfl, rfl⟩
  ·replace hE_1 := if_ff g_1 hE_1
   refine Tri.exit ?_
   refine Exi.then ?_
   refine Exi.then ?_
   refine Exi.same ?_
   cases hE_1
   refine Nrm.seq (Tri.seq (Tri.reg (l := [0, 1]) rfl ?_))
   refine F.qn rfl (r_move rfl) (F.qn rfl (r_assign rfl) (F.nil (Nrm.seq (Tri.ret ?_))))
   cases h
   exact Rtn.body (.tmp rfl .nil) (fun w hw => ⟨rfl, hw.ext⟩)


def impl_rounds.l1 (k : Nat) (a0_2 : List Int) (t18 : List Int) : Nat → Int → Int → Option (Int)
 | 0, _, _ => none
 | n + 1, x8, x20 => (if (decide (x20 < (t18.length : Int))) = true then (rdl t18 x20).bind fun t22 => (rdl a0_2 t22).bind fun t28 => impl_rounds.l1 k a0_2 t18 n (bor x8 t28) (w64 (x20 + 1)) else some x8)

def impl_rounds.l0 (k : Nat) (a0_0 : Int) (a0_1 : List (Int × Int × Int)) (a0_2 : List Int) : Nat → (List (Int × Int)) → Int → Option ((Unit) ⊕ ((List (Int × Int))))
 | 0, _, _ => none
 | n + 1, x5, x6 => (impl_reach.f k a0_0 a0_1 a0_2 0 x6).bind fun t15 => (impl_members.f k t15).bind fun t18 => (impl_rounds.l1 k a0_2 t18 k x6 0).bind fun x8 => if (x5 ++ ([(x6, t15)] : List (Int × Int))).length < 1099511627776 then (if (x8 == x6) = true then some (Sum.inr (x5 ++ ([(x6, t15)] : List (Int × Int)))) else impl_rounds.l0 k a0_0 a0_1 a0_2 n (x5 ++ ([(x6, t15)] : List (Int × Int))) x8) else none

def impl_rounds.f (k : Nat) (a0_0 : Int) (a0_1 : List (Int × Int × Int)) (a0_2 : List Int) (a1 : Int) : Option ((List (Int × Int))) := (impl_rounds.l0 k a0_0 a0_1 a0_2 k ([] : List (Int × Int)) a1).bind fun s => Lr s some fun _ => none

theorem impl_rounds.ok {k : Nat}  {a0_0 : Int} {a0_1 : List (Int × Int × Int)} {a0_2 : List Int} {a1 : Int} {r0 : List (Int × Int)} (h : impl_rounds.f k a0_0 a0_1 a0_2 a1 = some r0) (w : World) {va0_1 : Value} {va0_2 : Value} (hr_a0_1 : Rd w va0_1 a0_1) (hr_a0_2 : Rd w va0_2 a0_2) :
  Calls Tryz.prog 209 ([.agg ([.int .i64 a0_0, va0_1, va0_2].toArray), .int .i64 a1] : List Value).toArray w (Post (fun u ns => ∃ (Sr0 : Nat → Prop), SlLen u r0.length ∧ ns = [R.sl Sr0 u r0]) w) := by
 unfold impl_rounds.f at h
 have hl_va0_1 := hr_a0_1.len
 have hl_va0_2 := hr_a0_2.len
 refine Calls.of_tri (N := 43) Tryz.func209 rfl rfl rfl (Sep.nil (M := noM)) ?_
 refine Tri.seq (Tri.reg (l := [0, 1]) rfl ?_)
 refine F.mn rfl (m_boxG rfl rfl) ?_
 rintro _ _ ⟨b2_1, rfl, rfl⟩
 refine F.qn rfl (r_assign rfl) (F.nil (Nrm.seq (Tri.seq (Tri.reg (l := [0, 1]) rfl ?_))))
 refine F.mn rfl (m_build0 (α := Int × Int) Tryz.underlying186 ti128) ?_
 rintro v11_1 _ ⟨S11_1, hl_v11_1, rfl⟩
 refine F.qn rfl (r_assign rfl) (F.nil (Nrm.seq (Tri.seq (Tri.reg (l := [0, 1]) rfl ?_))))
 refine F.qn rfl (r_move rfl) (F.qn rfl (r_assign rfl) (F.nil (Nrm.seq ?_)))
 obtain ⟨s0, hE_1, h⟩ := bind_some h
 refine Tri.block ?_
 refine Tri.only [2, 5, 6] rfl ?_
 refine Tri.pick [1, 0] rfl rfl ?_
 refine Tri.rounds (fun n e' C' => ∃ (x5' : List (Int × Int)) (x6' : Int) (w5 : Value) (T5 : Nat → Prop), impl_rounds.l0 k a0_0 a0_1 a0_2 n x5' x6' = some s0 ∧ SlLen w5 (x5').length ∧ e' = [(2, .pointer (some ⟨b2_1, 0, none⟩)), (5, w5), (6, .int .i64 x6')] ∧ C' = Sep w noM [R.box b2_1 27 [.int .i64 a0_0, va0_1, va0_2], R.sl T5 w5 (x5' : List (Int × Int))]) k ?_ ?_ ?_
 ·exact ⟨([] : List (Int × Int)), a1, v11_1, S11_1, hE_1, hl_v11_1, rfl, rfl⟩
 ·rintro _ _ ⟨_, _, _, _, hE_1, _⟩
  rw [impl_rounds.l0.eq_1] at hE_1; cases hE_1
 ·rintro n_1 _ _ ⟨x5, x6, w5, T5, hE_1, hl_w5, rfl, rfl⟩ ih_1
  rw [impl_rounds.l0.eq_2] at hE_1
  refine Tri.block ?_
  refine Tri.seq ?_
  obtain ⟨t15, h15, hE_1⟩ := bind_some hE_1
  refine Tri.reg (l := [0, 1, 2, 3, 4, 5]) rfl ?_
  refine F.qn rfl (r_loadA ta27 ti27 rfl rfl (fun w hw => (box_cells (i := 0) rfl w hw))) (F.qn rfl (r_move rfl) ?_)
  refine F.qcn rfl (q_callF (xs := _) rfl ok120 rfl rfl (fun w hw => impl_reach.ok h15 w ((fun _ hw => hr_a0_1.sep hw) w hw) ((fun _ hw => hr_a0_2.sep hw) w hw))) ?_
  refine F.qn rfl (r_move rfl) (F.qn rfl (r_assign rfl) (F.qn rfl (r_assign rfl) (F.nil (Nrm.seq (Tri.seq (Tri.seq ?_))))))
  obtain ⟨t18, h18, hE_1⟩ := bind_some hE_1
  refine Tri.reg (l := [0, 1, 2, 3]) rfl ?_
  refine F.qn rfl (r_move rfl) ?_
  refine F.mn rfl (m_callF (xs := _) rfl ok119 rfl rfl (fun w hw => impl_members.ok h18 w )) ?_
  rintro v18_1 _ ⟨_, ⟨S18_1, hl_v18_1, rfl⟩, rfl⟩
  refine F.qn rfl (r_len Tryz.underlying25 rfl hl_v18_1) (F.qn rfl (r_move rfl) (F.nil (Nrm.seq ?_)))
  obtain ⟨x8, hE_2, hE_1⟩ := bind_some hE_1
  refine Tri.block ?_
  refine Tri.only [2, 5, 6, 7, 8, 18, 19, 20] rfl ?_
  refine Tri.pick [1, 0, 2] rfl rfl ?_
  refine Tri.rounds (fun n e' C' => ∃ (x8' : Int) (x20' : Int), impl_rounds.l1 k a0_2 t18 n x8' x20' = some x8 ∧ e' = [(2, .pointer (some ⟨b2_1, 0, none⟩)), (5, w5), (6, .int .i64 x6), (7, .int .i64 t15), (8, .int .i64 x8'), (18, v18_1), (19, .int .i64 (t18.length : Int)), (20, .int .i64 x20')] ∧ C' = Sep w noM [R.box b2_1 27 [.int .i64 a0_0, va0_1, va0_2], R.sl S18_1 v18_1 (t18 : List (Int)), R.sl T5 w5 (x5 : List (Int × Int))]) k ?_ ?_ ?_
  ·exact ⟨x6, 0, hE_2, rfl, rfl⟩
  ·rintro _ _ ⟨_, _, hE_2, _⟩
   rw [impl_rounds.l1.eq_1] at hE_2; cases hE_2
  ·rintro n_2 _ _ ⟨x8, x20, hE_2, rfl, rfl⟩ ih_2
   rw [impl_rounds.l1.eq_2] at hE_2
   refine Tri.seq (Tri.reg (l := [0]) rfl ?_)
   refine F.qn rfl (r_lss rfl rfl) (F.nil (Nrm.seq (Tri.seq (Tri.cond (b := decide (x20 < (t18.length : Int))) rfl (fun g_1 => ?_) (fun g_1 => ?_)))))
   ·replace hE_2 := if_tt g_1 hE_2
    refine Tri.skip (Nrm.seq (Tri.seq (Tri.block ?_)))
    refine Tri.seq ?_
    obtain ⟨t22, h22, hE_2⟩ := bind_some hE_2
    refine Tri.reg (l := [0, 1, 2]) rfl ?_
    refine F.qn rfl (r_indexAddrS Tryz.underlying25 ti3 rfl hl_v18_1 rfl (rdl_some h22).1 (rdl_some h22).2.1) (F.qn rfl (r_load ta3 rfl (fun w hw => cell_0 (Rd.flat ((rd_sl (i := 1) rfl) w hw) (rdl_some h22).2.2) rfl)) (F.qn rfl (r_assign rfl) (F.nil (Nrm.seq ?_))))
    obtain ⟨t28, h28, hE_2⟩ := bind_some hE_2
    refine Tri.reg (l := [0, 1, 2, 3, 4, 5, 6, 7]) rfl ?_
    refine F.qn rfl (r_move rfl) (F.qn rfl (r_fieldAddr tf27_2 rfl) ?_)
    refine F.qn rfl (r_load ta25 rfl (fun w hw => cell_1 (box_cells (i := 0) rfl w hw) rfl)) (F.qn rfl (r_move rfl) (F.qn rfl (r_indexAddrS Tryz.underlying25 ti3 rfl hl_va0_2 rfl (rdl_some h28).1 (rdl_some h28).2.1) (F.qn rfl (r_load ta3 rfl (fun w hw => cell_0 (Rd.flat ((fun _ hw => hr_a0_2.sep hw) w hw) (rdl_some h28).2.2) rfl)) (F.qn rfl (r_or rfl rfl) (F.qn rfl (r_assign rfl) (F.nil (Nrm.block ?_)))))))
    refine Nrm.seq (Tri.reg (l := [0, 1]) rfl ?_)
    refine F.qn rfl (r_add rfl rfl) (F.qn rfl (r_move rfl) (F.nil (Nrm.round ?_)))
    refine Rnd.only [2, 5, 6, 7, 8, 18, 19, 20] rfl ?_
    refine Rnd.pick [0, 1, 2] rfl rfl ?_
    exact ih_2 _ _ ⟨bor x8 t28, w64 (x20 + 1), hE_2, rfl, rfl⟩
   ·replace hE_2 := if_ff g_1 hE_2
    refine Tri.exit ?_
    refine Exi.then ?_
    refine Exi.then ?_
    refine Exi.same ?_
    cases hE_2
    refine Nrm.seq (Tri.seq ?_)
    obtain ⟨hs37, hE_1⟩ := ck hE_1
    refine Tri.reg (l := [0, 1, 2, 3, 4, 5, 6]) rfl ?_
    iterate 3 refine F.qn rfl (r_move rfl) ?_
    refine F.qn rfl (r_build (pl := [(0, 1), (1, 1)]) (qs := [(0, [.int .i64 x6]), (1, [.int .i64 t15])]) (cs := [.int .i64 x6, .int .i64 t15]) (by kernel_rfl) ti128 rfl (.cons rfl rfl (Nat.le_of_ble_eq_true rfl) (.cons rfl rfl (Nat.le_of_ble_eq_true rfl) .nil)) rfl rfl) ?_
    refine F.mn rfl (m_buildF (l := ([(x6, t15)] : List (Int × Int))) Tryz.underlying186 ti128 rfl rfl rfl rfl rfl) ?_
    rintro v36_1 _ ⟨S36_1, hl_v36_1, rfl⟩
    refine F.efn rfl (d_append (i := 3) Tryz.underlying186 Tryz.underlying186 ti128 rfl (by decide) rfl rfl rfl (rd_sl (i := 0) rfl) hs37) ?_
    rintro v37_1 _ ⟨S37_1, rfl, hl_v37_1⟩
    refine F.qn rfl (r_assign rfl) (F.nil (Nrm.seq (Tri.seq (Tri.seq (Tri.reg (l := [0, 1, 2]) rfl ?_)))))
    refine F.qn rfl (r_move rfl) (F.qn rfl (r_move rfl) (F.qn rfl (r_eql rfl rfl) (F.nil (Nrm.seq (Tri.cond (b := x8 == x6) rfl (fun g_2 => ?_) (fun g_2 => ?_))))))
    ·replace hE_1 := if_tt g_2 hE_1
     refine Tri.seq (Tri.reg (l := [0, 1]) rfl ?_)
     refine F.qn rfl (r_move rfl) (F.qn rfl (r_assign rfl) (F.nil (Nrm.seq (Tri.ret ?_))))
     refine Rtn.then ?_
     refine Rtn.block ?_
     refine Rtn.then ?_
     refine Rtn.block ?_
     cases hE_1
     replace h := Lr_inr h
     cases h
     exact Rtn.body (.tmp rfl .nil) (fun w hw => ⟨_, _, rfl, ⟨S37_1, hl_v37_1, rfl⟩, Sep.pick (is := [3]) rfl rfl hw⟩)
    ·replace hE_1 := if_ff g_2 hE_1
     refine Tri.skip (Nrm.seq (Tri.reg (l := [0, 1]) rfl ?_))
     refine F.qn rfl (r_move rfl) (F.qn rfl (r_assign rfl) (F.nil (Nrm.block ?_)))
     refine Nrm.round ?_
     refine Rnd.only [2, 5, 6] rfl ?_
     refine Rnd.pick [1, 3] rfl rfl ?_
     exact ih_1 _ _ ⟨x5 ++ ([(x6, t15)] : List (Int × Int)), x8, v37_1, S37_1, hE_1, hl_v37_1, rfl, rfl⟩


def impl_atLast.f (k : Nat) (a0_0 : Int) (a0_1 : List (Int × Int × Int)) (a0_2 : List Int) (a1 : Int) : Option (Int × Int) := (impl_rounds.f k a0_0 a0_1 a0_2 a1).bind fun t8 => (rdl t8 (w64 ((t8.length : Int) - 1))).bind fun t13 => some (t13.1, t13.2)

theorem impl_atLast.ok {k : Nat}  {a0_0 : Int} {a0_1 : List (Int × Int × Int)} {a0_2 : List Int} {a1 : Int} {r0 : Int} {r1 : Int} (h : impl_atLast.f k a0_0 a0_1 a0_2 a1 = some (r0, r1)) (w : World) {va0_1 : Value} {va0_2 : Value} (hr_a0_1 : Rd w va0_1 a0_1) (hr_a0_2 : Rd w va0_2 a0_2) :
  Calls Tryz.prog 124 ([.agg ([.int .i64 a0_0, va0_1, va0_2].toArray), .int .i64 a1] : List Value).toArray w (fun e w' => e = .returned (.agg [.int .i64 r0, .int .i64 r1].toArray) ∧ Ext w w') := by
 unfold impl_atLast.f at h
 have hl_va0_1 := hr_a0_1.len
 have hl_va0_2 := hr_a0_2.len
 refine Calls.of_tri (N := 15) Tryz.func124 rfl rfl rfl (Sep.nil (M := noM)) ?_
 refine Tri.seq (Tri.reg (l := [0, 1]) rfl ?_)
 refine F.mn rfl (m_boxG rfl rfl) ?_
 rintro _ _ ⟨b2_1, rfl, rfl⟩
 refine F.mn rfl (m_alloc ti128) ?_
 rintro _ _ ⟨b4_1, rfl, rfl⟩
 refine F.nil (Nrm.seq (Tri.seq ?_))
 obtain ⟨t8, h8, h⟩ := bind_some h
 refine Tri.reg (l := [0, 1, 2, 3]) rfl ?_
 refine F.qn rfl (r_loadA ta27 ti27 rfl rfl (fun w hw => (box_cells (i := 1) rfl w hw))) (F.qn rfl (r_move rfl) ?_)
 refine F.mn rfl (m_callF (xs := _) rfl ok209 rfl rfl (fun w hw => impl_rounds.ok h8 w ((fun _ hw => hr_a0_1.sep hw) w hw) ((fun _ hw => hr_a0_2.sep hw) w hw))) ?_
 rintro v8_1 _ ⟨_, ⟨S8_1, hl_v8_1, rfl⟩, rfl⟩
 refine F.qn rfl (r_assign rfl) (F.nil (Nrm.seq (Tri.seq ?_)))
 obtain ⟨t13, h13, h⟩ := bind_some h
 refine Tri.reg (l := [0, 1, 2, 3, 4, 5, 6]) rfl ?_
 refine F.qn rfl (r_move rfl) (F.qn rfl (r_move rfl) (F.qn rfl (r_len Tryz.underlying186 rfl hl_v8_1) (F.qn rfl (r_sub rfl rfl) (F.qn rfl (r_indexAddrS Tryz.underlying186 ti128 rfl hl_v8_1 rfl (rdl_some h13).1 (rdl_some h13).2.1) (F.qn rfl (r_loadA ta128 ti128 rfl rfl (fun w hw => (Rd.flat ((rd_sl (i := 0) rfl) w hw) (rdl_some h13).2.2))) ?_)))))
 refine F.ef0 rfl rfl (wanted_none rfl) (d_storeG0 (i := 1) (cs2 := [.int .i64 t13.1, .int .i64 t13.2]) ti128 rfl rfl rfl rfl rfl (Nat.le_of_ble_eq_true rfl) (lf_cons rfl (lf_cons rfl lf_nil))) ?_
 rintro _ _ ⟨rfl, rfl⟩
 refine F.nil (Nrm.seq (Tri.ret ?_))
 cases h
 exact Rtn.body (.cell rfl ta128 ti128 rfl (fun _ hw => box_cells (i := 1) rfl _ hw) .nil) (fun w hw => ⟨rfl, hw.ext⟩)


def impl_canWin.f (k : Nat) (a0_0 : Int) (a0_1 : List (Int × Int × Int)) (a0_2 : List Int) (a1 : Int) : Option (Bool) := (impl_atLast.f k a0_0 a0_1 a0_2 a1).bind fun (t7_1, t7_2) => if ¬ (w64 (a0_0 - 1)) < 0 then some ((band (shr t7_2 (w64 (a0_0 - 1))) 1) == 1) else none

theorem impl_canWin.ok {k : Nat}  {a0_0 : Int} {a0_1 : List (Int × Int × Int)} {a0_2 : List Int} {a1 : Int} {r0 : Bool} (h : impl_canWin.f k a0_0 a0_1 a0_2 a1 = some r0) (w : World) {va0_1 : Value} {va0_2 : Value} (hr_a0_1 : Rd w va0_1 a0_1) (hr_a0_2 : Rd w va0_2 a0_2) :
  Calls Tryz.prog 85 ([.agg ([.int .i64 a0_0, va0_1, va0_2].toArray), .int .i64 a1] : List Value).toArray w (fun e w' => e = .returned (.bool r0) ∧ Ext w w') := by
 unfold impl_canWin.f at h
 have hl_va0_1 := hr_a0_1.len
 have hl_va0_2 := hr_a0_2.len
 refine Calls.of_tri (N := 15) Tryz.func85 rfl rfl rfl (Sep.nil (M := noM)) ?_
 refine Tri.seq (Tri.reg (l := [0, 1]) rfl ?_)
 refine F.mn rfl (m_boxG rfl rfl) ?_
 rintro _ _ ⟨b2_1, rfl, rfl⟩
 refine F.qn rfl (r_assign rfl) (F.nil (Nrm.seq (Tri.seq ?_)))
 obtain ⟨⟨t7_1, t7_2⟩, h7, h⟩ := bind_some h
 obtain ⟨hs12, h⟩ := ck h
 refine Tri.drawA mixedT Sep.up [(0, true), (1, true), (2, true), (3, true), (4, true), (5, true), (6, true), (7, true), (8, true), (9, true), (10, true)] [] (by kernel_rfl) ?_
 refine S.qn rfl (r_loadA ta27 ti27 rfl rfl (fun w hw => (box_cells (i := 0) rfl w hw))) (S.qn rfl (r_move rfl) ?_)
 refine S.qcn rfl (q_callF (xs := _) rfl ok124 rfl rfl (fun w hw => impl_atLast.ok h7 w ((fun _ hw => hr_a0_1.sep hw) w hw) ((fun _ hw => hr_a0_2.sep hw) w hw))) ?_
 refine S.qn rfl (r_field Tryz.underlying128 rfl ta3 rfl rfl) (S.qn rfl (r_fieldAddr tf27_0 rfl) ?_)
 refine S.qn rfl (r_load ta3 rfl (fun w hw => cell_1 (box_cells (i := 0) rfl w hw) rfl)) (S.qn rfl (r_sub rfl rfl) (S.qn rfl (r_shr rfl rfl hs12) (S.qn rfl (r_and rfl rfl) (S.qn rfl (r_eql rfl rfl) (S.qn rfl (r_assign rfl) (S.nil (F.nil (Nrm.seq (Tri.ret ?_)))))))))
 cases h
 exact Rtn.body (.tmp rfl .nil) (fun w hw => ⟨rfl, hw.ext⟩)


def impl_within.f (k : Nat) (a0 : Int) (a1 : Int) (a2 : Int) : Option (Bool) := ((if (decide (a1 ≤ a0)) = true then some (decide (a0 ≤ a2)) else some false)).bind fun y6 => some y6

theorem impl_within.ok {k : Nat}  {a0 : Int} {a1 : Int} {a2 : Int} {r0 : Bool} (h : impl_within.f k a0 a1 a2 = some r0) (w : World) :
  Calls Tryz.prog 103 ([.int .i64 a0, .int .i64 a1, .int .i64 a2] : List Value).toArray w (fun e w' => e = .returned (.bool r0) ∧ Ext w w') := by
 unfold impl_within.f at h
 refine Calls.of_tri (N := 15) Tryz.func103 rfl rfl rfl (Sep.nil (M := noM)) ?_
 refine Tri.seq (Tri.reg (l := [0]) rfl ?_)
 refine F.qn rfl (r_assign rfl) (F.nil (Nrm.seq (Tri.seq ?_)))
 obtain ⟨y6, hE_1, h⟩ := bind_some h
 refine Tri.cut (fun e' C' => e' = [(6, .bool y6)] ∧ C' = Sep w noM []) ?_ (fun hj_1 => ?_)
 ·rintro _ _ ⟨rfl, rfl⟩
  refine Nrm.seq (Tri.ret ?_)
  cases h
  exact Rtn.body (.tmp rfl .nil) (fun w hw => ⟨rfl, hw.ext⟩)
 ·rcases Bool.eq_false_or_eq_true (decide (a1 ≤ a0)) with g10 | g10
  ·replace hE_1 := if_tt g10 hE_1
   refine Tri.reg (l := [0, 1, 2, 3, 4, 5, 6, 7, 8]) rfl ?_
   refine F.qn rfl (r_move rfl) (F.qn rfl (r_move rfl) (F.qn rfl (r_leq rfl rfl) ?_))
   refine F.qn rfl (r_move rfl) (F.qg rfl g10 (r_move rfl) (F.qg rfl g10 (r_move rfl) (F.qg rfl g10 (r_leq rfl rfl) (F.qn rfl (r_pick rfl rfl g10) (F.qn rfl (r_assign rfl) (F.nil ?_))))))
   cases hE_1
   refine Nrm.only [6] rfl ?_
   refine Nrm.pick [] rfl rfl ?_
   exact hj_1 _ _ ⟨rfl, rfl⟩
  ·replace hE_1 := if_ff g10 hE_1
   refine Tri.reg (l := [0, 1, 2, 3, 4, 5, 6, 7, 8]) rfl ?_
   refine F.qn rfl (r_move rfl) (F.qn rfl (r_move rfl) (F.qn rfl (r_leq rfl rfl) (F.qn rfl (r_move rfl) ?_)))
   iterate 3 refine F.skf rfl g10 ?_
   refine F.qn rfl (r_pickf rfl rfl g10) (F.qn rfl (r_assign rfl) (F.nil ?_))
   cases hE_1
   refine Nrm.only [6] rfl ?_
   refine Nrm.pick [] rfl rfl ?_
   exact hj_1 _ _ ⟨rfl, rfl⟩


def impl_isSet.f (k : Nat) (a0 : Int) : Option (Bool) := (impl_within.f k a0 0 63).bind fun t4 => some t4

theorem impl_isSet.ok {k : Nat}  {a0 : Int} {r0 : Bool} (h : impl_isSet.f k a0 = some r0) (w : World) :
  Calls Tryz.prog 177 ([.int .i64 a0] : List Value).toArray w (fun e w' => e = .returned (.bool r0) ∧ Ext w w') := by
 unfold impl_isSet.f at h
 refine Calls.of_tri (N := 5) Tryz.func177 rfl rfl rfl (Sep.nil (M := noM)) ?_
 refine Tri.seq (Tri.reg (l := [0]) rfl ?_)
 refine F.qn rfl (r_assign rfl) (F.nil (Nrm.seq (Tri.seq ?_)))
 obtain ⟨t4, h4, h⟩ := bind_some h
 refine Tri.reg (l := [0, 1, 2]) rfl ?_
 refine F.qn rfl (r_move rfl) ?_
 refine F.qcn rfl (q_callF (xs := _) rfl ok103 rfl rfl (fun w hw => impl_within.ok h4 w )) ?_
 refine F.qn rfl (r_assign rfl) (F.nil (Nrm.seq (Tri.ret ?_)))
 cases h
 exact Rtn.body (.tmp rfl .nil) (fun w hw => ⟨rfl, hw.ext⟩)


def slices_IndexFunc_int_int.l0 (k : Nat) (a0 : List Int) (a1 : (Int → Option (Bool))) : Nat → Int → Option ((Unit) ⊕ (Int))
 | 0, _ => none
 | n + 1, x8 => (if (decide (x8 < (a0.length : Int))) = true then (rdl a0 x8).bind fun t14 => (a1 t14).bind fun t16 => (if t16 = true then some (Sum.inr x8) else slices_IndexFunc_int_int.l0 k a0 a1 n (w64 (x8 + 1))) else some (Sum.inl ()))

def slices_IndexFunc_int_int.f (k : Nat) (a0 : List Int) (a1 : (Int → Option (Bool))) : Option (Int) := (slices_IndexFunc_int_int.l0 k a0 a1 k 0).bind fun s => Lr s some fun _ => some (-1)

theorem slices_IndexFunc_int_int.ok {k : Nat}  {a0 : List Int} {a1 : (Int → Option (Bool))} {r0 : Int} (h : slices_IndexFunc_int_int.f k a0 a1 = some r0) (w : World) {va0 : Value} (hr_a0 : Rd w va0 a0) {fi_a1 : FuncId} {ca_a1 : Array Value} (ho_a1 : CallOk Tryz.prog fi_a1) (hf_a1 : ∀ w2, Ext w w2 → ∀ (z0 : Int) (y : Bool), a1 z0 = some y → Calls Tryz.prog fi_a1 (([.int .i64 z0] : List Value) ++ ca_a1.toList).toArray w2 (fun e w3 => e = .returned (.bool y) ∧ Ext w2 w3)) :
  Calls Tryz.prog 231 ([va0, .func (.func fi_a1) #[] ca_a1] : List Value).toArray w (fun e w' => e = .returned (.int .i64 r0) ∧ Ext w w') := by
 unfold slices_IndexFunc_int_int.f at h
 have hl_va0 := hr_a0.len
 refine Calls.of_tri (N := 19) Tryz.func231 rfl rfl rfl (Sep.nil (M := noM)) ?_
 refine Tri.seq (Tri.reg (l := [0]) rfl ?_)
 refine F.qn rfl (r_assign rfl) (F.nil (Nrm.seq (Tri.seq (Tri.seq (Tri.reg (l := [0, 1, 2]) rfl ?_)))))
 refine F.qn rfl (r_move rfl) (F.qn rfl (r_len Tryz.underlying25 rfl hl_va0) (F.qn rfl (r_move rfl) (F.nil (Nrm.seq ?_))))
 obtain ⟨s0, hE_1, h⟩ := bind_some h
 refine Tri.block ?_
 refine Tri.only [0, 1, 7, 8] rfl ?_
 refine Tri.pick [] rfl rfl ?_
 refine Tri.rounds (fun n e' C' => ∃ (x8' : Int), slices_IndexFunc_int_int.l0 k a0 a1 n x8' = some s0 ∧ e' = [(0, va0), (1, .func (.func fi_a1) #[] ca_a1), (7, .int .i64 (a0.length : Int)), (8, .int .i64 x8')] ∧ C' = Sep w noM []) k ?_ ?_ ?_
 ·exact ⟨0, hE_1, rfl, rfl⟩
 ·rintro _ _ ⟨_, hE_1, _⟩
  rw [slices_IndexFunc_int_int.l0.eq_1] at hE_1; cases hE_1
 ·rintro n_1 _ _ ⟨x8, hE_1, rfl, rfl⟩ ih_1
  rw [slices_IndexFunc_int_int.l0.eq_2] at hE_1
  refine Tri.seq (Tri.reg (l := [0]) rfl ?_)
  refine F.qn rfl (r_lss rfl rfl) (F.nil (Nrm.seq (Tri.seq (Tri.cond (b := decide (x8 < (a0.length : Int))) rfl (fun g_1 => ?_) (fun g_1 => ?_)))))
  ·replace hE_1 := if_tt g_1 hE_1
   refine Tri.skip (Nrm.seq (Tri.seq (Tri.block ?_)))
   refine Tri.seq (Tri.reg (l := [0, 1]) rfl ?_)
   refine F.qn rfl (r_move rfl) (F.qn rfl (r_assign rfl) (F.nil (Nrm.seq (Tri.seq ?_))))
   obtain ⟨t14, h14, hE_1⟩ := bind_some hE_1
   obtain ⟨t16, h16, hE_1⟩ := bind_some hE_1
   refine Tri.reg (l := [0, 1, 2, 3, 4, 5]) rfl ?_
   iterate 3 refine F.qn rfl (r_move rfl) ?_
   refine F.qn rfl (r_indexAddrS Tryz.underlying25 ti3 rfl hl_va0 rfl (rdl_some h14).1 (rdl_some h14).2.1) (F.qn rfl (r_load ta3 rfl (fun w hw => cell_0 (Rd.flat ((fun _ hw => hr_a0.sep hw) w hw) (rdl_some h14).2.2) rfl)) ?_)
   refine F.qcn rfl (q_callC (xs := _) rfl ho_a1 rfl rfl (fun w hw => hf_a1 w hw.ext _  _ h16)) ?_
   refine F.nil (Nrm.seq (Tri.cond (b := t16) rfl (fun g_2 => ?_) (fun g_2 => ?_)))
   ·replace hE_1 := if_tt g_2 hE_1
    refine Tri.seq (Tri.reg (l := [0, 1]) rfl ?_)
    refine F.qn rfl (r_move rfl) (F.qn rfl (r_assign rfl) (F.nil (Nrm.seq (Tri.ret ?_))))
    refine Rtn.block ?_
    refine Rtn.then ?_
    refine Rtn.then ?_
    refine Rtn.block ?_
    refine Rtn.then ?_
    cases hE_1
    replace h := Lr_inr h
    cases h
    exact Rtn.body (.tmp rfl .nil) (fun w hw => ⟨rfl, hw.ext⟩)
   ·replace hE_1 := if_ff g_2 hE_1
    refine Tri.skip (Nrm.block ?_)
    refine Nrm.seq (Tri.reg (l := [0, 1]) rfl ?_)
    refine F.qn rfl (r_add rfl rfl) (F.qn rfl (r_move rfl) (F.nil (Nrm.round ?_)))
    refine Rnd.only [0, 1, 7, 8] rfl ?_
    refine Rnd.pick [] rfl rfl ?_
    exact ih_1 _ _ ⟨w64 (x8 + 1), hE_1, rfl, rfl⟩
  ·replace hE_1 := if_ff g_1 hE_1
   refine Tri.exit ?_
   refine Exi.then ?_
   refine Exi.then ?_
   refine Exi.same ?_
   cases hE_1
   replace h := Lr_inl h
   refine Nrm.seq (Tri.seq (Tri.reg (l := [0]) rfl ?_))
   refine F.qn rfl (r_assign rfl) (F.nil (Nrm.seq (Tri.ret ?_)))
   cases h
   exact Rtn.body (.tmp rfl .nil) (fun w hw => ⟨rfl, hw.ext⟩)


def slices_ContainsFunc_int_int.f (k : Nat) (a0 : List Int) (a1 : (Int → Option (Bool))) : Option (Bool) := (slices_IndexFunc_int_int.f k a0 a1).bind fun t7 => some (decide (t7 ≥ 0))

theorem slices_ContainsFunc_int_int.ok {k : Nat}  {a0 : List Int} {a1 : (Int → Option (Bool))} {r0 : Bool} (h : slices_ContainsFunc_int_int.f k a0 a1 = some r0) (w : World) {va0 : Value} (hr_a0 : Rd w va0 a0) {fi_a1 : FuncId} {ca_a1 : Array Value} (ho_a1 : CallOk Tryz.prog fi_a1) (hf_a1 : ∀ w2, Ext w w2 → ∀ (z0 : Int) (y : Bool), a1 z0 = some y → Calls Tryz.prog fi_a1 (([.int .i64 z0] : List Value) ++ ca_a1.toList).toArray w2 (fun e w3 => e = .returned (.bool y) ∧ Ext w2 w3)) :
  Calls Tryz.prog 179 ([va0, .func (.func fi_a1) #[] ca_a1] : List Value).toArray w (fun e w' => e = .returned (.bool r0) ∧ Ext w w') := by
 unfold slices_ContainsFunc_int_int.f at h
 have hl_va0 := hr_a0.len
 refine Calls.of_tri (N := 9) Tryz.func179 rfl rfl rfl (Sep.nil (M := noM)) ?_
 refine Tri.seq (Tri.reg (l := [0]) rfl ?_)
 refine F.qn rfl (r_assign rfl) (F.nil (Nrm.seq (Tri.seq ?_)))
 obtain ⟨t7, h7, h⟩ := bind_some h
 refine Tri.reg (l := [0, 1, 2, 3, 4]) rfl ?_
 refine F.qn rfl (r_move rfl) (F.qn rfl (r_move rfl) ?_)
 refine F.qcn rfl (q_callF (xs := _) rfl ok231 rfl rfl (fun w hw => slices_IndexFunc_int_int.ok h7 w ((fun _ hw => hr_a0.sep hw) w hw) ho_a1 (fun w2 he2 => hf_a1 w2 (hw.ext.trans he2)))) ?_
 refine F.qn rfl (r_geq rfl rfl) (F.qn rfl (r_assign rfl) (F.nil (Nrm.seq (Tri.ret ?_))))
 cases h
 exact Rtn.body (.tmp rfl .nil) (fun w hw => ⟨rfl, hw.ext⟩)


def cmp_Or_int.l0 (k : Nat) (a0 : List Int) : Nat → Int → Option ((Unit) ⊕ (Int))
 | 0, _ => none
 | n + 1, x8 => (if (decide (x8 < (a0.length : Int))) = true then (rdl a0 x8).bind fun t10 => (if (t10 != 0) = true then some (Sum.inr t10) else cmp_Or_int.l0 k a0 n (w64 (x8 + 1))) else some (Sum.inl ()))

def cmp_Or_int.f (k : Nat) (a0 : List Int) : Option (Int) := (cmp_Or_int.l0 k a0 k 0).bind fun s => Lr s some fun _ => some 0

theorem cmp_Or_int.ok {k : Nat}  {a0 : List Int} {r0 : Int} (h : cmp_Or_int.f k a0 = some r0) (w : World) {va0 : Value} (hr_a0 : Rd w va0 a0) :
  Calls Tryz.prog 233 ([va0] : List Value).toArray w (fun e w' => e = .returned (.int .i64 r0) ∧ Ext w w') := by
 unfold cmp_Or_int.f at h
 have hl_va0 := hr_a0.len
 refine Calls.of_tri (N := 18) Tryz.func233 rfl rfl rfl (Sep.nil (M := noM)) ?_
 refine Tri.seq (Tri.reg (l := [0]) rfl ?_)
 refine F.qn rfl (r_assign rfl) (F.nil (Nrm.seq (Tri.seq (Tri.reg (l := [0]) rfl ?_))))
 refine F.qn rfl (r_assign rfl) (F.nil (Nrm.seq (Tri.seq (Tri.seq (Tri.reg (l := [0, 1, 2]) rfl ?_)))))
 refine F.qn rfl (r_move rfl) (F.qn rfl (r_len Tryz.underlying25 rfl hl_va0) (F.qn rfl (r_move rfl) (F.nil (Nrm.seq ?_))))
 obtain ⟨s0, hE_1, h⟩ := bind_some h
 refine Tri.block ?_
 refine Tri.only [3, 6, 7, 8] rfl ?_
 refine Tri.pick [] rfl rfl ?_
 refine Tri.rounds (fun n e' C' => ∃ (x8' : Int), cmp_Or_int.l0 k a0 n x8' = some s0 ∧ e' = [(3, .int .i64 0), (6, va0), (7, .int .i64 (a0.length : Int)), (8, .int .i64 x8')] ∧ C' = Sep w noM []) k ?_ ?_ ?_
 ·exact ⟨0, hE_1, rfl, rfl⟩
 ·rintro _ _ ⟨_, hE_1, _⟩
  rw [cmp_Or_int.l0.eq_1] at hE_1; cases hE_1
 ·rintro n_1 _ _ ⟨x8, hE_1, rfl, rfl⟩ ih_1
  rw [cmp_Or_int.l0.eq_2] at hE_1
  refine Tri.seq (Tri.reg (l := [0]) rfl ?_)
  refine F.qn rfl (r_lss rfl rfl) (F.nil (Nrm.seq (Tri.seq (Tri.cond (b := decide (x8 < (a0.length : Int))) rfl (fun g_1 => ?_) (fun g_1 => ?_)))))
  ·replace hE_1 := if_tt g_1 hE_1
   refine Tri.skip (Nrm.seq (Tri.seq (Tri.block ?_)))
   refine Tri.seq ?_
   obtain ⟨t10, h10, hE_1⟩ := bind_some hE_1
   refine Tri.reg (l := [0, 1, 2]) rfl ?_
   refine F.qn rfl (r_indexAddrS Tryz.underlying25 ti3 rfl hl_va0 rfl (rdl_some h10).1 (rdl_some h10).2.1) (F.qn rfl (r_load ta3 rfl (fun w hw => cell_0 (Rd.flat ((fun _ hw => hr_a0.sep hw) w hw) (rdl_some h10).2.2) rfl)) (F.qn rfl (r_assign rfl) (F.nil (Nrm.seq (Tri.seq (Tri.reg (l := [0, 1, 2]) rfl ?_))))))
   refine F.qn rfl (r_move rfl) (F.qn rfl (r_move rfl) (F.qn rfl (r_neq rfl rfl) (F.nil (Nrm.seq (Tri.cond (b := t10 != 0) rfl (fun g_2 => ?_) (fun g_2 => ?_))))))
   ·replace hE_1 := if_tt g_2 hE_1
    refine Tri.seq (Tri.reg (l := [0, 1]) rfl ?_)
    refine F.qn rfl (r_move rfl) (F.qn rfl (r_assign rfl) (F.nil (Nrm.seq (Tri.ret ?_))))
    refine Rtn.block ?_
    refine Rtn.then ?_
    refine Rtn.then ?_
    refine Rtn.block ?_
    refine Rtn.then ?_
    cases hE_1
    replace h := Lr_inr h
    cases h
    exact Rtn.body (.tmp rfl .nil) (fun w hw => ⟨rfl, hw.ext⟩)
   ·replace hE_1 := if_ff g_2 hE_1
    refine Tri.skip (Nrm.block ?_)
    refine Nrm.seq (Tri.reg (l := [0, 1]) rfl ?_)
    refine F.qn rfl (r_add rfl rfl) (F.qn rfl (r_move rfl) (F.nil (Nrm.round ?_)))
    refine Rnd.only [3, 6, 7, 8] rfl ?_
    refine Rnd.pick [] rfl rfl ?_
    exact ih_1 _ _ ⟨w64 (x8 + 1), hE_1, rfl, rfl⟩
  ·replace hE_1 := if_ff g_1 hE_1
   refine Tri.exit ?_
   refine Exi.then ?_
   refine Exi.then ?_
   refine Exi.same ?_
   cases hE_1
   replace h := Lr_inl h
   refine Nrm.seq (Tri.seq (Tri.reg (l := [0, 1]) rfl ?_))
   refine F.qn rfl (r_move rfl) (F.qn rfl (r_assign rfl) (F.nil (Nrm.seq (Tri.ret ?_))))
   cases h
   exact Rtn.body (.tmp rfl .nil) (fun w hw => ⟨rfl, hw.ext⟩)


def cmp_isNaN_int.f (k : Nat) (a0 : Int) : Option (Bool) := some (a0 != a0)

theorem cmp_isNaN_int.ok {k : Nat}  {a0 : Int} {r0 : Bool} (h : cmp_isNaN_int.f k a0 = some r0) (w : World) :
  Calls Tryz.prog 245 ([.int .i64 a0] : List Value).toArray w (fun e w' => e = .returned (.bool r0) ∧ Ext w w') := by
 unfold cmp_isNaN_int.f at h
 refine Calls.of_tri (N := 6) Tryz.func245 rfl rfl rfl (Sep.nil (M := noM)) ?_
 refine Tri.seq (Tri.reg (l := [0]) rfl ?_)
 refine F.qn rfl (r_assign rfl) (F.nil (Nrm.seq (Tri.seq (Tri.reg (l := [0, 1, 2, 3]) rfl ?_))))
 refine F.qn rfl (r_move rfl) (F.qn rfl (r_move rfl) (F.qn rfl (r_neq rfl rfl) (F.qn rfl (r_assign rfl) (F.nil (Nrm.seq (Tri.ret ?_))))))
 cases h
 exact Rtn.body (.tmp rfl .nil) (fun w hw => ⟨rfl, hw.ext⟩)


def cmp_Compare_int.f (k : Nat) (a0 : Int) (a1 : Int) : Option (Int) := (cmp_isNaN_int.f k a0).bind fun t8 => (cmp_isNaN_int.f k a1).bind fun t10 => (if t8 = true then (if t10 = true then some 0 else some (-1)) else (if t10 = true then some 1 else (if (decide (a0 < a1)) = true then some (-1) else (if (decide (a0 > a1)) = true then some 1 else some 0))))

theorem cmp_Compare_int.ok {k : Nat}  {a0 : Int} {a1 : Int} {r0 : Int} (h : cmp_Compare_int.f k a0 a1 = some r0) (w : World) :
  Calls Tryz.prog 234 ([.int .i64 a0, .int .i64 a1] : List Value).toArray w (fun e w' => e = .returned (.int .i64 r0) ∧ Ext w w') := by
 unfold cmp_Compare_int.f at h
 refine Calls.of_tri (N := 20) Tryz.func234 rfl rfl rfl (Sep.nil (M := noM)) ?_
 refine Tri.seq (Tri.reg (l := [0]) rfl ?_)
 refine F.qn rfl (r_assign rfl) (F.nil (Nrm.seq (Tri.seq ?_)))
 obtain ⟨t8, h8, h⟩ := bind_some h
 refine Tri.reg (l := [0, 1, 2]) rfl ?_
 refine F.qn rfl (r_move rfl) ?_
 refine F.qcn rfl (q_callF (xs := _) rfl ok245 rfl rfl (fun w hw => cmp_isNaN_int.ok h8 w )) ?_
 refine F.qn rfl (r_assign rfl) (F.nil (Nrm.seq (Tri.seq ?_)))
 obtain ⟨t10, h10, h⟩ := bind_some h
 refine Tri.reg (l := [0, 1, 2]) rfl ?_
 refine F.qn rfl (r_move rfl) ?_
 refine F.qcn rfl (q_callF (xs := _) rfl ok245 rfl rfl (fun w hw => cmp_isNaN_int.ok h10 w )) ?_
 refine F.qn rfl (r_assign rfl) (F.nil (Nrm.seq (Tri.seq (Tri.seq (Tri.reg (l := [0]) rfl ?_)))))
 refine F.qn rfl (r_move rfl) (F.nil (Nrm.seq (Tri.cond (b := t8) rfl (fun g_1 => ?_) (fun g_1 => ?_))))
 ·replace h := if_tt g_1 h
  refine Tri.seq (Tri.seq (Tri.reg (l := [0]) rfl ?_))
  refine F.qn rfl (r_move rfl) (F.nil (Nrm.seq (Tri.cond (b := t10) rfl (fun g_2 => ?_) (fun g_2 => ?_))))
  ·replace h := if_tt g_2 h
   refine Tri.seq (Tri.reg (l := [0]) rfl ?_)
   refine F.qn rfl (r_assign rfl) (F.nil (Nrm.seq (Tri.ret ?_)))
   refine Rtn.then ?_
   refine Rtn.then ?_
   cases h
   exact Rtn.body (.tmp rfl .nil) (fun w hw => ⟨rfl, hw.ext⟩)
  ·replace h := if_ff g_2 h
   refine Tri.skip (Nrm.seq (Tri.seq (Tri.reg (l := [0]) rfl ?_)))
   refine F.qn rfl (r_assign rfl) (F.nil (Nrm.seq (Tri.ret ?_)))
   refine Rtn.then ?_
   cases h
   exact Rtn.body (.tmp rfl .nil) (fun w hw => ⟨rfl, hw.ext⟩)
 ·replace h := if_ff g_1 h
  refine Tri.skip (Nrm.seq (Tri.seq (Tri.seq (Tri.reg (l := [0]) rfl ?_))))
  refine F.qn rfl (r_move rfl) (F.nil (Nrm.seq (Tri.cond (b := t10) rfl (fun g_3 => ?_) (fun g_3 => ?_))))
  ·replace h := if_tt g_3 h
   refine Tri.seq (Tri.reg (l := [0]) rfl ?_)
   refine F.qn rfl (r_assign rfl) (F.nil (Nrm.seq (Tri.ret ?_)))
   refine Rtn.then ?_
   cases h
   exact Rtn.body (.tmp rfl .nil) (fun w hw => ⟨rfl, hw.ext⟩)
  ·replace h := if_ff g_3 h
   refine Tri.skip (Nrm.seq (Tri.seq (Tri.seq (Tri.reg (l := [0, 1, 2]) rfl ?_))))
   refine F.qn rfl (r_move rfl) (F.qn rfl (r_move rfl) (F.qn rfl (r_lss rfl rfl) (F.nil (Nrm.seq (Tri.cond (b := decide (a0 < a1)) rfl (fun g_4 => ?_) (fun g_4 => ?_))))))
   ·replace h := if_tt g_4 h
    refine Tri.seq (Tri.reg (l := [0]) rfl ?_)
    refine F.qn rfl (r_assign rfl) (F.nil (Nrm.seq (Tri.ret ?_)))
    refine Rtn.then ?_
    cases h
    exact Rtn.body (.tmp rfl .nil) (fun w hw => ⟨rfl, hw.ext⟩)
   ·replace h := if_ff g_4 h
    refine Tri.skip (Nrm.seq (Tri.seq (Tri.seq (Tri.reg (l := [0, 1, 2]) rfl ?_))))
    refine F.qn rfl (r_move rfl) (F.qn rfl (r_move rfl) (F.qn rfl (r_gtr rfl rfl) (F.nil (Nrm.seq (Tri.cond (b := decide (a0 > a1)) rfl (fun g_5 => ?_) (fun g_5 => ?_))))))
    ·replace h := if_tt g_5 h
     refine Tri.seq (Tri.reg (l := [0]) rfl ?_)
     refine F.qn rfl (r_assign rfl) (F.nil (Nrm.seq (Tri.ret ?_)))
     refine Rtn.then ?_
     cases h
     exact Rtn.body (.tmp rfl .nil) (fun w hw => ⟨rfl, hw.ext⟩)
    ·replace h := if_ff g_5 h
     refine Tri.skip (Nrm.seq (Tri.seq (Tri.reg (l := [0]) rfl ?_)))
     refine F.qn rfl (r_assign rfl) (F.nil (Nrm.seq (Tri.ret ?_)))
     cases h
     exact Rtn.body (.tmp rfl .nil) (fun w hw => ⟨rfl, hw.ext⟩)


def impl_compareDoors.f (k : Nat) (a0_0 : Int) (a0_1 : Int) (a0_2 : Int) (a1_0 : Int) (a1_1 : Int) (a1_2 : Int) : Option (Int) := (cmp_Compare_int.f k a0_0 a1_0).bind fun t9 => (cmp_Compare_int.f k a0_1 a1_1).bind fun t14 => (cmp_Compare_int.f k a0_2 a1_2).bind fun t19 => (cmp_Or_int.f k ([t9, t14, t19] : List (Int))).bind fun t21 => some t21

theorem impl_compareDoors.ok {k : Nat}  {a0_0 : Int} {a0_1 : Int} {a0_2 : Int} {a1_0 : Int} {a1_1 : Int} {a1_2 : Int} {r0 : Int} (h : impl_compareDoors.f k a0_0 a0_1 a0_2 a1_0 a1_1 a1_2 = some r0) (w : World) :
  Calls Tryz.prog 184 ([.agg ([.int .i64 a0_0, .int .i64 a0_1, .int .i64 a0_2].toArray), .agg ([.int .i64 a1_0, .int .i64 a1_1, .int .i64 a1_2].toArray)] : List Value).toArray w (fun e w' => e = .returned (.int .i64 r0) ∧ Ext w w') := by
 unfold impl_compareDoors.f at h
 refine Calls.of_tri (N := 22) Tryz.func184 rfl rfl rfl (Sep.nil (M := noM)) ?_
 refine Tri.seq (Tri.reg (l := [0, 1, 2]) rfl ?_)
 refine F.mn rfl (m_boxG rfl rfl) ?_
 rintro _ _ ⟨b2_1, rfl, rfl⟩
 refine F.mn rfl (m_boxG rfl rfl) ?_
 rintro _ _ ⟨b3_1, rfl, rfl⟩
 refine F.qn rfl (r_assign rfl) (F.nil (Nrm.seq (Tri.seq ?_)))
 obtain ⟨t9, h9, h⟩ := bind_some h
 obtain ⟨t14, h14, h⟩ := bind_some h
 obtain ⟨t19, h19, h⟩ := bind_some h
 obtain ⟨t21, h21, h⟩ := bind_some h
 refine Tri.drawA mixedT Sep.up [(0, true), (1, true), (2, true), (3, true), (4, true), (5, true), (6, true), (7, true), (8, true), (9, true), (10, true), (11, true), (12, true), (13, true), (14, true), (15, false), (16, true), (17, true)] [] (by kernel_rfl) ?_
 refine S.qn rfl (r_indexAddrA Tryz.underlying168 ti3 rfl rfl (by decide) (by decide)) (S.qn rfl (r_load ta3 rfl (fun w hw => cell_1 (box_cells (i := 1) rfl w hw) rfl)) (S.qn rfl (r_indexAddrA Tryz.underlying168 ti3 rfl rfl (by decide) (by decide)) (S.qn rfl (r_load ta3 rfl (fun w hw => cell_1 (box_cells (i := 0) rfl w hw) rfl)) ?_)))
 refine S.qcn rfl (q_callF (xs := _) rfl ok234 rfl rfl (fun w hw => cmp_Compare_int.ok h9 w )) ?_
 refine S.qn rfl (r_indexAddrA Tryz.underlying168 ti3 rfl rfl (by decide) (by decide)) (S.qn rfl (r_load ta3 rfl (fun w hw => cell_1 (box_cells (i := 1) rfl w hw) rfl)) (S.qn rfl (r_indexAddrA Tryz.underlying168 ti3 rfl rfl (by decide) (by decide)) (S.qn rfl (r_load ta3 rfl (fun w hw => cell_1 (box_cells (i := 0) rfl w hw) rfl)) ?_)))
 refine S.qcn rfl (q_callF (xs := _) rfl ok234 rfl rfl (fun w hw => cmp_Compare_int.ok h14 w )) ?_
 refine S.qn rfl (r_indexAddrA Tryz.underlying168 ti3 rfl rfl (by decide) (by decide)) (S.qn rfl (r_load ta3 rfl (fun w hw => cell_1 (box_cells (i := 1) rfl w hw) rfl)) (S.qn rfl (r_indexAddrA Tryz.underlying168 ti3 rfl rfl (by decide) (by decide)) (S.qn rfl (r_load ta3 rfl (fun w hw => cell_1 (box_cells (i := 0) rfl w hw) rfl)) ?_)))
 refine S.qcn rfl (q_callF (xs := _) rfl ok234 rfl rfl (fun w hw => cmp_Compare_int.ok h19 w )) ?_
 refine S.m rfl rfl rfl (wanted_none rfl) (m_buildF (l := ([t9, t14, t19] : List (Int))) Tryz.underlying25 ti3 rfl rfl rfl rfl rfl) ?_
 rintro v20_2 _ ⟨S20_2, hl_v20_2, rfl⟩
 refine S.qcn rfl (q_callF (xs := _) rfl ok233 rfl rfl (fun w hw => cmp_Or_int.ok h21 w ((rd_sl (i := 0) rfl) w hw))) ?_
 refine S.qn rfl (r_assign rfl) (S.nil (F.nil (Nrm.seq (Tri.ret ?_))))
 cases h
 exact Rtn.body (.tmp rfl .nil) (fun w hw => ⟨rfl, hw.ext⟩)


def impl_IsMaze_1.f (k : Nat) (a0 : Int) : Option (Bool) := (impl_isSet.f k a0).bind fun t4 => some (!t4)

theorem impl_IsMaze_1.ok {k : Nat}  {a0 : Int} {r0 : Bool} (h : impl_IsMaze_1.f k a0 = some r0) (w : World) :
  Calls Tryz.prog 185 ([.int .i64 a0] : List Value).toArray w (fun e w' => e = .returned (.bool r0) ∧ Ext w w') := by
 unfold impl_IsMaze_1.f at h
 refine Calls.of_tri (N := 6) Tryz.func185 rfl rfl rfl (Sep.nil (M := noM)) ?_
 refine Tri.seq (Tri.reg (l := [0]) rfl ?_)
 refine F.qn rfl (r_assign rfl) (F.nil (Nrm.seq (Tri.seq ?_)))
 obtain ⟨t4, h4, h⟩ := bind_some h
 refine Tri.reg (l := [0, 1, 2, 3]) rfl ?_
 refine F.qn rfl (r_move rfl) ?_
 refine F.qcn rfl (q_callF (xs := _) rfl ok177 rfl rfl (fun w hw => impl_isSet.ok h4 w )) ?_
 refine F.qn rfl (r_not rfl) (F.qn rfl (r_assign rfl) (F.nil (Nrm.seq (Tri.ret ?_))))
 cases h
 exact Rtn.body (.tmp rfl .nil) (fun w hw => ⟨rfl, hw.ext⟩)

end Go.Proofs

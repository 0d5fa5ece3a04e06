/- A part of the proof of FnExactForwardFilling: what the functions of the program compute, walked on the model. No condition. -/
import Derived.Shelf.SlGeneric
import Derived.Shelf.SortM.Plain
import Derived.Shelf.SortM.SortNone
import Derived.Test.YtijhomjbcpaknaaChecked
import Derived.Test.YtijhomjbcpaknaaFnExactForwardFillingB
import Derived.Test.YtijhomjbcpaknaaFnExactForwardFillingC
import Derived.Test.YtijhomjbcpaknaaFnExactForwardFillingD
set_option linter.unusedSimpArgs false
/- loop.example/g01158/impl.laid -/
namespace Go.Proofs
open Go Go.Ga
set_option linter.unusedVariables false
set_option maxRecDepth 100000
set_option maxHeartbeats 4000000
def impl_laid.l0 (k : Nat) (a1 : List Int) (a2 : List Int) : Nat → Int → (List (Int)) → Option ((List (Int)))
  | 0, _, _ => none
  | n + 1, x16, xq7_1_2 => (if (decide (x16 < (a2.length : Int))) = true then (rdl a2 x16).bind fun t19 => (rdl xq7_1_2 t19).bind fun t24 => (rdl a1 x16).bind fun t28 => if ¬ t28 < 0 then (rdl xq7_1_2 t19).bind fun t32 => impl_laid.l0 k a1 a2 n (w64 (x16 + 1)) (xq7_1_2.set t19.toNat (bor t24 (shl 1 t28))) else none else some xq7_1_2)

def impl_laid.f (k : Nat) (a0_0 : Int) (a0_1 : List (Int × Int × Int)) (a0_2 : List Int) (a1 : List Int) (a2 : List Int) : Option (Int × (List (Int × Int × Int)) × (List Int)) := (impl_own.f k a0_0 a0_1 a0_2).bind fun (t11_1, t11_2, t11_3) => (impl_laid.l0 k a1 a2 k 0 (List.replicate t11_3.length (0 : Int))).bind fun xq7_1_2 => some (t11_1, t11_2, xq7_1_2)

theorem impl_laid.ok {k : Nat}  {a0_0 : Int} {a0_1 : List (Int × Int × Int)} {a0_2 : List Int} {a1 : List Int} {a2 : List Int} {r0 : Int} {r1 : List (Int × Int × Int)} {r2 : List Int} (h : impl_laid.f k a0_0 a0_1 a0_2 a1 a2 = some (r0, r1, r2)) (w : World) {va0_1 : Value} {va0_2 : Value} {va1 : Value} {va2 : Value} (hr_a0_1 : Rd w va0_1 a0_1) (hr_a0_2 : Rd w va0_2 a0_2) (hr_a1 : Rd w va1 a1) (hr_a2 : Rd w va2 a2) :
    Calls Try.prog 104 ([.agg ([.int .i64 a0_0, va0_1, va0_2].toArray), va1, va2] : List Value).toArray w (Post (fun u ns => ∃ (ur1 : Value) (Sr1 : Nat → Prop) (ur2 : Value) (Sr2 : Nat → Prop), u = .agg [.int .i64 r0, ur1, ur2].toArray ∧ SlLen ur1 r1.length ∧ SlLen ur2 r2.length ∧ ns = [R.sl Sr1 ur1 r1, R.sl Sr2 ur2 r2]) w) := by
  unfold impl_laid.f at h
  have hl_va0_1 := hr_a0_1.len
  have hl_va0_2 := hr_a0_2.len
  have hl_va1 := hr_a1.len
  have hl_va2 := hr_a2.len
  refine Calls.of_tri (N := 35) Try.func104 rfl rfl rfl (Sep.nil (M := noM)) ?_
  refine Tri.seq ?_
  refine Tri.reg (l := [0, 1]) rfl ?_
  refine F.m rfl rfl rfl (wanted_none rfl) (m_boxG rfl rfl) ?_
  rintro _ _ ⟨b3_1, rfl, rfl⟩
  refine F.m rfl rfl rfl (wanted_none rfl) (m_alloc ti31) ?_
  rintro _ _ ⟨b6_1, rfl, rfl⟩
  refine F.nil ?_
  refine Nrm.seq ?_
  refine Tri.seq ?_
  obtain ⟨⟨t11_1, t11_2, t11_3⟩, h11, h⟩ := bind_some h
  refine Tri.reg (l := [0, 1, 2, 3]) rfl ?_
  refine F.q rfl rfl rfl (wanted_none rfl) (r_loadA ta31 ti31 rfl rfl (fun w hw => (box_cells (i := 1) rfl w hw))) ?_
  refine F.m rfl rfl rfl (wanted_none rfl) (m_callF (xs := _) rfl ok145 rfl rfl (fun w hw => impl_own.ok h11 w ((fun _ hw => hr_a0_1.sep hw) w hw) ((fun _ hw => hr_a0_2.sep hw) w hw))) ?_
  rintro _ _ ⟨_, ⟨v11_1, S11_1, v11_2, S11_2, rfl, hl_v11_1, hl_v11_2, rfl⟩, rfl⟩
  refine F.m rfl rfl rfl (wanted_none rfl) (m_alloc ti31) ?_
  rintro _ _ ⟨b7_1, rfl, rfl⟩
  refine F.ef0 rfl rfl (wanted_none rfl) (d_storeG0 (i := 0) (cs2 := [.int .i64 t11_1, v11_1, v11_2]) ti31 rfl rfl rfl rfl rfl (Nat.le_of_ble_eq_true rfl) (lf_cons rfl (lf_cons (sl_leaf hl_v11_1) (lf_cons (sl_leaf hl_v11_2) lf_nil)))) ?_
  rintro _ _ ⟨rfl, rfl⟩
  refine F.nil ?_
  refine Nrm.seq ?_
  refine Tri.seq ?_
  refine Tri.reg (l := [0, 1, 2]) rfl ?_
  refine F.q rfl rfl rfl (wanted_none rfl) (r_fieldAddr tf31_2 rfl) ?_
  refine F.q rfl rfl rfl (wanted_none rfl) (r_load ta23 rfl (fun w hw => cell_1 (box_cells (i := 0) rfl w hw) rfl)) ?_
  refine F.ef0 rfl rfl (wanted_none rfl) (d_clear0 (i := 2) (x0 := (0 : Int)) Try.underlying23 ti3 rfl rfl rfl) ?_
  rintro _ _ rfl
  refine F.nil ?_
  refine Nrm.seq ?_
  refine Tri.seq ?_
  refine Tri.seq ?_
  refine Tri.reg (l := [0, 1, 2]) rfl ?_
  refine F.q rfl rfl rfl (wanted_none rfl) (r_move rfl) ?_
  refine F.q rfl rfl rfl (wanted_none rfl) (r_len Try.underlying23 rfl hl_va2) ?_
  refine F.q rfl rfl rfl (wanted_none rfl) (r_move rfl) ?_
  refine F.nil ?_
  refine Nrm.seq ?_
  obtain ⟨xq7_1_2, hE_1, h⟩ := bind_some h
  refine Tri.block ?_
  refine Tri.only [1, 6, 7, 14, 15, 16] rfl ?_
  refine Tri.pick [0, 3, 1, 2] rfl rfl ?_
  refine Tri.rounds (fun n e' C' => ∃ (x16' : Int) (xq7_1_2' : List (Int)), impl_laid.l0 k a1 a2 n x16' xq7_1_2' = some xq7_1_2 ∧ SlLen v11_2 (xq7_1_2').length ∧ e' = [(1, va1), (6, .pointer (some ⟨b6_1, 0, none⟩)), (7, .pointer (some ⟨b7_1, 0, none⟩)), (14, va2), (15, .int .i64 (a2.length : Int)), (16, .int .i64 x16')] ∧ C' = Sep w noM [R.box b7_1 31 [.int .i64 t11_1, v11_1, v11_2], R.box b6_1 31 [.int .i64 0, .slice none 0 0, .slice none 0 0], R.sl S11_1 v11_1 (t11_2 : List (Int × Int × Int)), R.sl S11_2 v11_2 (xq7_1_2' : List (Int))]) k ?_ ?_ ?_
  · exact ⟨0, List.replicate t11_3.length (0 : Int), hE_1, (clr0_len hl_v11_2), rfl, rfl⟩
  · rintro _ _ ⟨_, _, hE_1, _⟩
    rw [impl_laid.l0.eq_1] at hE_1; cases hE_1
  · rintro n_1 _ _ ⟨x16, xq7_1_2, hE_1, hl_xq7_1_2, rfl, rfl⟩ ih_1
    rw [impl_laid.l0.eq_2] at hE_1
    refine Tri.seq ?_
    refine Tri.reg (l := [0]) rfl ?_
    refine F.q rfl rfl rfl (wanted_none rfl) (r_lss rfl rfl) ?_
    refine F.nil ?_
    refine Nrm.seq ?_
    refine Tri.seq ?_
    refine Tri.cond (b := decide (x16 < (a2.length : Int))) rfl (fun g_1 => ?_) (fun g_1 => ?_)
    · replace hE_1 := if_tt g_1 hE_1
      refine Tri.skip ?_
      refine Nrm.seq ?_
      refine Tri.seq ?_
      refine Tri.block ?_
      refine Tri.seq ?_
      obtain ⟨t19, h19, hE_1⟩ := bind_some hE_1
      refine Tri.reg (l := [0, 1, 2, 3, 4]) rfl ?_
      refine F.q rfl rfl rfl (wanted_none rfl) (r_move rfl) ?_
      refine F.q rfl rfl rfl (wanted_none rfl) (r_indexAddrS Try.underlying23 ti3 rfl hl_va2 rfl (rdl_some h19).1 (rdl_some h19).2.1) ?_
      refine F.q rfl rfl rfl (wanted_none rfl) (r_load ta3 rfl (fun w hw => cell_0 (Rd.flat ((fun _ hw => hr_a2.sep hw) w hw) (rdl_some h19).2.2) rfl)) ?_
      refine F.q rfl rfl rfl (wanted_none rfl) (r_assign rfl) ?_
      refine F.q rfl rfl rfl (wanted_none rfl) (r_assign rfl) ?_
      refine F.nil ?_
      refine Nrm.seq ?_
      obtain ⟨t24, h24, hE_1⟩ := bind_some hE_1
      obtain ⟨t28, h28, hE_1⟩ := bind_some hE_1
      obtain ⟨hs30, hE_1⟩ := ck hE_1
      obtain ⟨t32, h32, hE_1⟩ := bind_some hE_1
      refine Tri.drawA mixedT Sep.up [(0, true), (1, true), (2, true), (3, true), (4, true), (5, true), (6, true), (7, true), (8, true), (9, true), (10, true), (11, true)] [12] (by kernel_rfl) ?_
      refine S.q rfl rfl rfl (wanted_none rfl) (r_fieldAddr tf31_2 rfl) ?_
      refine S.q rfl rfl rfl (wanted_none rfl) (r_load ta23 rfl (fun w hw => cell_1 (box_cells (i := 0) rfl w hw) rfl)) ?_
      refine S.q rfl rfl rfl (wanted_none rfl) (r_move rfl) ?_
      refine S.q rfl rfl rfl (wanted_none rfl) (r_indexAddrS Try.underlying23 ti3 rfl hl_xq7_1_2 rfl (rdl_some h24).1 (rdl_some h24).2.1) ?_
      refine S.q rfl rfl rfl (wanted_none rfl) (r_load ta3 rfl (fun w hw => cell_0 (Rd.flat ((rd_sl (i := 3) rfl) w hw) (rdl_some h24).2.2) rfl)) ?_
      refine S.q rfl rfl rfl (wanted_none rfl) (r_move rfl) ?_
      refine S.q rfl rfl rfl (wanted_none rfl) (r_move rfl) ?_
      refine S.q rfl rfl rfl (wanted_none rfl) (r_indexAddrS Try.underlying23 ti3 rfl hl_va1 rfl (rdl_some h28).1 (rdl_some h28).2.1) ?_
      refine S.q rfl rfl rfl (wanted_none rfl) (r_load ta3 rfl (fun w hw => cell_0 (Rd.flat ((fun _ hw => hr_a1.sep hw) w hw) (rdl_some h28).2.2) rfl)) ?_
      refine S.q rfl rfl rfl (wanted_none rfl) (r_shl rfl rfl hs30) ?_
      refine S.q rfl rfl rfl (wanted_none rfl) (r_or rfl rfl) ?_
      refine S.q rfl rfl rfl (wanted_none rfl) (r_indexAddrS Try.underlying23 ti3 rfl hl_xq7_1_2 rfl (rdl_some h32).1 (rdl_some h32).2.1) ?_
      refine S.nil ?_
      refine F.ef0 rfl rfl (wanted_none rfl) (d_storeE (i := 3) (x1 := bor t24 (shl 1 t28)) ti3 rfl rfl rfl (rdl_some h32) rfl) ?_
      rintro _ _ ⟨rfl, rfl⟩
      refine F.nil ?_
      refine Nrm.block ?_
      refine Nrm.seq ?_
      refine Tri.reg (l := [0, 1]) rfl ?_
      refine F.q rfl rfl rfl (wanted_none rfl) (r_add rfl rfl) ?_
      refine F.q rfl rfl rfl (wanted_none rfl) (r_move rfl) ?_
      refine F.nil ?_
      refine Nrm.round ?_
      refine Rnd.only [1, 6, 7, 14, 15, 16] rfl ?_
      refine Rnd.pick [0, 1, 2, 3] rfl rfl ?_
      exact ih_1 _ _ ⟨w64 (x16 + 1), xq7_1_2.set t19.toNat (bor t24 (shl 1 t28)), hE_1, (len_set hl_xq7_1_2), rfl, rfl⟩
    · replace hE_1 := if_ff g_1 hE_1
      refine Tri.exit ?_
      refine Exi.then ?_
      refine Exi.then ?_
      refine Exi.same ?_
      cases hE_1
      refine Nrm.seq ?_
      refine Tri.seq ?_
      refine Tri.reg (l := [0, 1]) rfl ?_
      refine F.q rfl rfl rfl (wanted_none rfl) (r_loadA ta31 ti31 rfl rfl (fun w hw => (box_cells (i := 0) rfl w hw))) ?_
      refine F.ef0 rfl rfl (wanted_none rfl) (d_storeG0 (i := 1) (cs2 := [.int .i64 t11_1, v11_1, v11_2]) ti31 rfl rfl rfl rfl rfl (Nat.le_of_ble_eq_true rfl) (lf_cons rfl (lf_cons (sl_leaf hl_v11_1) (lf_cons (sl_leaf hl_xq7_1_2) lf_nil)))) ?_
      rintro _ _ ⟨rfl, rfl⟩
      refine F.nil ?_
      refine Nrm.seq ?_
      refine Tri.ret ?_
      cases h
      exact Rtn.body (.cell rfl ta31 ti31 rfl (fun _ hw => box_cells (i := 1) rfl _ hw) .nil) (fun w hw => ⟨_, _, rfl, ⟨v11_1, S11_1, v11_2, S11_2, rfl, hl_v11_1, hl_xq7_1_2, rfl⟩, Sep.pick (is := [2, 3]) rfl rfl hw⟩)

end Go.Proofs

/- Contracts of the library, laid at this seat. 84efc1e9a4b8dbd3 -/
namespace Go.Proofs
open Go.Shelf
def Try.sortInt_ren : Go.Shelf.Ren := ⟨fun | 5 => 116 | 8 => 148 | 7 => 147 | 19 => 177 | 20 => 178 | 10 => 168 | 11 => 169 | 12 => 170 | 13 => 171 | 14 => 172 | 15 => 173 | 16 => 174 | 17 => 175 | 18 => 176 | 30 => 188 | 31 => 189 | 32 => 190 | 33 => 191 | 34 => 192 | 35 => 187 | 40 => 195 | n => n, fun | 23 => 23 | 25 => 3 | 3 => 3 | 32 => 148 | 22 => 23 | 0 => 0 | 44 => 167 | 46 => 169 | 4 => 4 | 36 => 162 | 35 => 161 | 41 => 51 | 5 => 5 | 9 => 9 | 53 => 176 | 57 => 180 | 63 => 183 | 64 => 184 | n => n, fun | n => n⟩
theorem Try.sortInt : Go.Proofs.SlLaysM.n5 Try.prog Try.sortInt_ren := {
  mixed := by kernel_rfl
  f5 := ⟨Try.f116.name, by decide, Try.func116.trans (congrArg some (by kernel_rfl))⟩
  f7 := ⟨Try.f147.name, by decide, Try.func147.trans (congrArg some (by kernel_rfl))⟩
  f8 := Try.func148.trans (congrArg some (by kernel_rfl))
  f10 := ⟨Try.f168.name, by decide, Try.func168.trans (congrArg some (by kernel_rfl))⟩
  f11 := ⟨Try.f169.name, by decide, Try.func169.trans (congrArg some (by kernel_rfl))⟩
  f12 := ⟨Try.f170.name, by decide, Try.func170.trans (congrArg some (by kernel_rfl))⟩
  f13 := ⟨Try.f171.name, by decide, Try.func171.trans (congrArg some (by kernel_rfl))⟩
  f14 := ⟨Try.f172.name, by decide, Try.func172.trans (congrArg some (by kernel_rfl))⟩
  f15 := ⟨Try.f173.name, by decide, Try.func173.trans (congrArg some (by kernel_rfl))⟩
  f16 := ⟨Try.f174.name, by decide, Try.func174.trans (congrArg some (by kernel_rfl))⟩
  f17 := ⟨Try.f175.name, by decide, Try.func175.trans (congrArg some (by kernel_rfl))⟩
  f18 := ⟨Try.f176.name, by decide, Try.func176.trans (congrArg some (by kernel_rfl))⟩
  f19 := Try.func177.trans (congrArg some (by kernel_rfl))
  f20 := Try.func178.trans (congrArg some (by kernel_rfl))
  f30 := ⟨Try.f188.name, by decide, Try.func188.trans (congrArg some (by kernel_rfl))⟩
  f31 := Try.func189.trans (congrArg some (by kernel_rfl))
  f32 := Try.func190.trans (congrArg some (by kernel_rfl))
  f33 := ⟨Try.f191.name, by decide, Try.func191.trans (congrArg some (by kernel_rfl))⟩
  f34 := ⟨Try.f192.name, by decide, Try.func192.trans (congrArg some (by kernel_rfl))⟩
  f35 := ⟨Try.f187.name, by decide, Try.func187.trans (congrArg some (by kernel_rfl))⟩
  f40 := ⟨Try.f195.name, by decide, Try.func195.trans (congrArg some (by kernel_rfl))⟩
  t0 := Try.underlying0
  a0 := Try.isAgg0
  z0 := Try.sizeOf0
  v0 := Try.zeroValue0
  t3 := Try.underlying3
  a3 := Try.isAgg3
  z3 := Try.sizeOf3
  v3 := Try.zeroValue3
  t4 := Try.underlying4
  a4 := Try.isAgg4
  z4 := Try.sizeOf4
  v4 := Try.zeroValue4
  t5 := Try.underlying5
  a5 := Try.isAgg5
  z5 := Try.sizeOf5
  v5 := Try.zeroValue5
  t9 := Try.underlying9
  a9 := Try.isAgg9
  z9 := Try.sizeOf9
  v9 := Try.zeroValue9
  t22 := Try.underlying23
  a22 := Try.isAgg23
  z22 := Try.sizeOf23
  v22 := Try.zeroValue23
  t23 := Try.underlying23
  a23 := Try.isAgg23
  z23 := Try.sizeOf23
  v23 := Try.zeroValue23
  t25 := Try.underlying3
  a25 := Try.isAgg3
  z25 := Try.sizeOf3
  v25 := Try.zeroValue3
  t32 := Try.underlying148
  a32 := Try.isAgg148
  z32 := Try.sizeOf148
  v32 := Try.zeroValue148
  t35 := Try.underlying161
  a35 := Try.isAgg161
  z35 := Try.sizeOf161
  v35 := Try.zeroValue161
  t36 := Try.underlying162
  a36 := Try.isAgg162
  z36 := Try.sizeOf162
  v36 := Try.zeroValue162
  t41 := Try.underlying51
  a41 := Try.isAgg51
  z41 := Try.sizeOf51
  v41 := Try.zeroValue51
  t44 := Try.underlying167
  a44 := Try.isAgg167
  z44 := Try.sizeOf167
  v44 := Try.zeroValue167
  t46 := Try.underlying169
  a46 := Try.isAgg169
  z46 := Try.sizeOf169
  v46 := Try.zeroValue169
  t53 := Try.underlying176
  a53 := Try.isAgg176
  z53 := Try.sizeOf176
  v53 := Try.zeroValue176
  t57 := Try.underlying180
  a57 := Try.isAgg180
  z57 := Try.sizeOf180
  v57 := Try.zeroValue180
  t63 := Try.underlying183
  a63 := Try.isAgg183
  z63 := Try.sizeOf183
  v63 := Try.zeroValue183
  t64 := Try.underlying184
  a64 := Try.isAgg184
  z64 := Try.sizeOf184
  v64 := Try.zeroValue184 }
end Go.Proofs

/- slices.Sort[[]int,int] -/

namespace Go.Proofs
open Go Go.Ga
set_option linter.unusedVariables false
set_option maxRecDepth 100000
set_option maxHeartbeats 4000000
def slices_Sort_int_int.f (k : Nat) (a0 : List Int) : Option (List Int) := if a0.length < 4611686018427387904 then some (a0.mergeSort fun x y => decide (x ≤ y)) else none

theorem slices_Sort_int_int.ok {k : Nat} {a0 : List Int} {r0 : List Int} (h : slices_Sort_int_int.f k a0 = some r0) (w : World) {va0 : Value} {Sa0 : Nat → Prop} (hl_va0 : SlLen va0 a0.length) (hw0 : Sep w (footM [R.sl Sa0 va0 a0]) [R.sl Sa0 va0 a0] w) :
    Calls Try.prog 116 ([va0] : List Value).toArray w (PostM (footM [R.sl Sa0 va0 a0]) (fun u ns => u = .tuple #[] ∧ SlLen va0 r0.length ∧ ns = [R.sl Sa0 va0 r0]) w) :=
  sortInt_ok (fun w => AnyM.slices_Sort_int_none Try.sortInt none 0 w) (fun blk off cap zs w h1 h2 h3 => AnyM.slices_Sort_int Try.sortInt blk off cap zs w h1 h2 h3) h w hl_va0 hw0

end Go.Proofs

/- slices.Equal[[]int,int] -/

namespace Go.Proofs
open Go Go.Ga
set_option linter.unusedVariables false
set_option maxRecDepth 100000
set_option maxHeartbeats 4000000
def slices_Equal_int_int.l0 (k : Nat) (a0 : List Int) (a1 : List Int) : Nat → Int → Option ((Unit) ⊕ (Bool))
  | 0, _ => none
  | n + 1, x13 => (if (decide (x13 < (a0.length : Int))) = true then (rdl a0 x13).bind fun t18 => (rdl a1 x13).bind fun t22 => (if (t18 != t22) = true then some (Sum.inr false) else slices_Equal_int_int.l0 k a0 a1 n (w64 (x13 + 1))) else some (Sum.inl ()))

def slices_Equal_int_int.f (k : Nat) (a0 : List Int) (a1 : List Int) : Option (Bool) := (if ((a0.length : Int) != (a1.length : Int)) = true then some false else (slices_Equal_int_int.l0 k a0 a1 k 0).bind fun s => Lr s some fun _ => some true)

theorem slices_Equal_int_int.ok {k : Nat}  {a0 : List Int} {a1 : List Int} {r0 : Bool} (h : slices_Equal_int_int.f k a0 a1 = some r0) (w : World) {va0 : Value} {va1 : Value} (hr_a0 : Rd w va0 a0) (hr_a1 : Rd w va1 a1) :
    Calls Try.prog 117 ([va0, va1] : List Value).toArray w (fun e w' => e = .returned (.bool r0) ∧ Ext w w') := by
  unfold slices_Equal_int_int.f at h
  have hl_va0 := hr_a0.len
  have hl_va1 := hr_a1.len
  refine Calls.of_tri (N := 26) Try.func117 rfl rfl rfl (Sep.nil (M := noM)) ?_
  refine Tri.seq ?_
  refine Tri.reg (l := [0]) rfl ?_
  refine F.q rfl rfl rfl (wanted_none rfl) (r_assign rfl) ?_
  refine F.nil ?_
  refine Nrm.seq ?_
  refine Tri.seq ?_
  refine Tri.seq ?_
  refine Tri.reg (l := [0, 1, 2, 3, 4]) rfl ?_
  refine F.q rfl rfl rfl (wanted_none rfl) (r_move rfl) ?_
  refine F.q rfl rfl rfl (wanted_none rfl) (r_len Try.underlying23 rfl hl_va0) ?_
  refine F.q rfl rfl rfl (wanted_none rfl) (r_move rfl) ?_
  refine F.q rfl rfl rfl (wanted_none rfl) (r_len Try.underlying23 rfl hl_va1) ?_
  refine F.q rfl rfl rfl (wanted_none rfl) (r_neq rfl rfl) ?_
  refine F.nil ?_
  refine Nrm.seq ?_
  refine Tri.cond (b := (a0.length : Int) != (a1.length : Int)) rfl (fun g_1 => ?_) (fun g_1 => ?_)
  · replace h := if_tt g_1 h
    refine Tri.seq ?_
    refine Tri.reg (l := [0]) rfl ?_
    refine F.q rfl rfl rfl (wanted_none rfl) (r_assign rfl) ?_
    refine F.nil ?_
    refine Nrm.seq ?_
    refine Tri.ret ?_
    refine Rtn.then ?_
    cases h
    exact Rtn.body (.tmp rfl .nil) (fun w hw => ⟨rfl, hw.ext⟩)
  · replace h := if_ff g_1 h
    refine Tri.skip ?_
    refine Nrm.seq ?_
    refine Tri.seq ?_
    refine Tri.seq ?_
    refine Tri.reg (l := [0, 1, 2]) rfl ?_
    refine F.q rfl rfl rfl (wanted_none rfl) (r_move rfl) ?_
    refine F.q rfl rfl rfl (wanted_none rfl) (r_len Try.underlying23 rfl hl_va0) ?_
    refine F.q rfl rfl rfl (wanted_none rfl) (r_move rfl) ?_
    refine F.nil ?_
    refine Nrm.seq ?_
    obtain ⟨s0, hE_1, h⟩ := bind_some h
    refine Tri.block ?_
    refine Tri.only [0, 1, 12, 13] rfl ?_
    refine Tri.pick [] rfl rfl ?_
    refine Tri.rounds (fun n e' C' => ∃ (x13' : Int), slices_Equal_int_int.l0 k a0 a1 n x13' = some s0 ∧ e' = [(0, va0), (1, va1), (12, .int .i64 (a0.length : Int)), (13, .int .i64 x13')] ∧ C' = Sep w noM []) k ?_ ?_ ?_
    · exact ⟨0, hE_1, rfl, rfl⟩
    · rintro _ _ ⟨_, hE_1, _⟩
      rw [slices_Equal_int_int.l0.eq_1] at hE_1; cases hE_1
    · rintro n_1 _ _ ⟨x13, hE_1, rfl, rfl⟩ ih_1
      rw [slices_Equal_int_int.l0.eq_2] at hE_1
      refine Tri.seq ?_
      refine Tri.reg (l := [0]) rfl ?_
      refine F.q rfl rfl rfl (wanted_none rfl) (r_lss rfl rfl) ?_
      refine F.nil ?_
      refine Nrm.seq ?_
      refine Tri.seq ?_
      refine Tri.cond (b := decide (x13 < (a0.length : Int))) rfl (fun g_2 => ?_) (fun g_2 => ?_)
      · replace hE_1 := if_tt g_2 hE_1
        refine Tri.skip ?_
        refine Nrm.seq ?_
        refine Tri.seq ?_
        refine Tri.block ?_
        refine Tri.seq ?_
        refine Tri.reg (l := [0, 1]) rfl ?_
        refine F.q rfl rfl rfl (wanted_none rfl) (r_move rfl) ?_
        refine F.q rfl rfl rfl (wanted_none rfl) (r_assign rfl) ?_
        refine F.nil ?_
        refine Nrm.seq ?_
        refine Tri.seq ?_
        obtain ⟨t18, h18, hE_1⟩ := bind_some hE_1
        obtain ⟨t22, h22, hE_1⟩ := bind_some hE_1
        refine Tri.drawA mixedT Sep.up [(0, true), (1, true), (2, true), (3, true), (4, true), (5, true), (6, true), (7, true), (8, true)] [] (by kernel_rfl) ?_
        refine S.q rfl rfl rfl (wanted_none rfl) (r_move rfl) ?_
        refine S.q rfl rfl rfl (wanted_none rfl) (r_move rfl) ?_
        refine S.q rfl rfl rfl (wanted_none rfl) (r_indexAddrS Try.underlying23 ti3 rfl hl_va0 rfl (rdl_some h18).1 (rdl_some h18).2.1) ?_
        refine S.q rfl rfl rfl (wanted_none rfl) (r_load ta3 rfl (fun w hw => cell_0 (Rd.flat ((fun _ hw => hr_a0.sep hw) w hw) (rdl_some h18).2.2) rfl)) ?_
        refine S.q rfl rfl rfl (wanted_none rfl) (r_move rfl) ?_
        refine S.q rfl rfl rfl (wanted_none rfl) (r_move rfl) ?_
        refine S.q rfl rfl rfl (wanted_none rfl) (r_indexAddrS Try.underlying23 ti3 rfl hl_va1 rfl (rdl_some h22).1 (rdl_some h22).2.1) ?_
        refine S.q rfl rfl rfl (wanted_none rfl) (r_load ta3 rfl (fun w hw => cell_0 (Rd.flat ((fun _ hw => hr_a1.sep hw) w hw) (rdl_some h22).2.2) rfl)) ?_
        refine S.q rfl rfl rfl (wanted_none rfl) (r_neq rfl rfl) ?_
        refine S.nil ?_
        refine F.nil ?_
        refine Nrm.seq ?_
        refine Tri.cond (b := t18 != t22) rfl (fun g_3 => ?_) (fun g_3 => ?_)
        · replace hE_1 := if_tt g_3 hE_1
          refine Tri.seq ?_
          refine Tri.reg (l := [0]) rfl ?_
          refine F.q rfl rfl rfl (wanted_none rfl) (r_assign rfl) ?_
          refine F.nil ?_
          refine Nrm.seq ?_
          refine Tri.ret ?_
          refine Rtn.block ?_
          refine Rtn.then ?_
          refine Rtn.then ?_
          refine Rtn.block ?_
          refine Rtn.then ?_
          cases hE_1
          replace h := Lr_inr h
          cases h
          exact Rtn.body (.tmp rfl .nil) (fun w hw => ⟨rfl, hw.ext⟩)
        · replace hE_1 := if_ff g_3 hE_1
          refine Tri.skip ?_
          refine Nrm.block ?_
          refine Nrm.seq ?_
          refine Tri.reg (l := [0, 1]) rfl ?_
          refine F.q rfl rfl rfl (wanted_none rfl) (r_add rfl rfl) ?_
          refine F.q rfl rfl rfl (wanted_none rfl) (r_move rfl) ?_
          refine F.nil ?_
          refine Nrm.round ?_
          refine Rnd.only [0, 1, 12, 13] rfl ?_
          refine Rnd.pick [] rfl rfl ?_
          exact ih_1 _ _ ⟨w64 (x13 + 1), hE_1, rfl, rfl⟩
      · replace hE_1 := if_ff g_2 hE_1
        refine Tri.exit ?_
        refine Exi.then ?_
        refine Exi.then ?_
        refine Exi.same ?_
        cases hE_1
        replace h := Lr_inl h
        refine Nrm.seq ?_
        refine Tri.seq ?_
        refine Tri.reg (l := [0]) rfl ?_
        refine F.q rfl rfl rfl (wanted_none rfl) (r_assign rfl) ?_
        refine F.nil ?_
        refine Nrm.seq ?_
        refine Tri.ret ?_
        cases h
        exact Rtn.body (.tmp rfl .nil) (fun w hw => ⟨rfl, hw.ext⟩)

end Go.Proofs

/- loop.example/g01158/impl.filled$1 -/

namespace Go.Proofs
open Go Go.Ga
set_option linter.unusedVariables false
set_option maxRecDepth 100000
set_option maxHeartbeats 4000000
def impl_filled_1.f (k : Nat) (a0 : Int) : Option (Bool) := some (decide (a0 < 0))

theorem impl_filled_1.ok {k : Nat}  {a0 : Int} {r0 : Bool} (h : impl_filled_1.f k a0 = some r0) (w : World) :
    Calls Try.prog 119 ([.int .i64 a0] : List Value).toArray w (fun e w' => e = .returned (.bool r0) ∧ Ext w w') := by
  unfold impl_filled_1.f at h
  refine Calls.of_tri (N := 5) Try.func119 rfl rfl rfl (Sep.nil (M := noM)) ?_
  refine Tri.seq ?_
  refine Tri.reg (l := [0]) rfl ?_
  refine F.q rfl rfl rfl (wanted_none rfl) (r_assign rfl) ?_
  refine F.nil ?_
  refine Nrm.seq ?_
  refine Tri.seq ?_
  refine Tri.reg (l := [0, 1, 2]) rfl ?_
  refine F.q rfl rfl rfl (wanted_none rfl) (r_move rfl) ?_
  refine F.q rfl rfl rfl (wanted_none rfl) (r_lss rfl rfl) ?_
  refine F.q rfl rfl rfl (wanted_none rfl) (r_assign rfl) ?_
  refine F.nil ?_
  refine Nrm.seq ?_
  refine Tri.ret ?_
  cases h
  exact Rtn.body (.tmp rfl .nil) (fun w hw => ⟨rfl, hw.ext⟩)

end Go.Proofs

/- loop.example/g01158/impl.has -/

namespace Go.Proofs
open Go Go.Ga
set_option linter.unusedVariables false
set_option maxRecDepth 100000
set_option maxHeartbeats 4000000
def impl_has.f (k : Nat) (a0 : Int) (a1 : Int) : Option (Bool) := some ((bclr a1 a0) == 0)

theorem impl_has.ok {k : Nat}  {a0 : Int} {a1 : Int} {r0 : Bool} (h : impl_has.f k a0 a1 = some r0) (w : World) :
    Calls Try.prog 162 ([.int .i64 a0, .int .i64 a1] : List Value).toArray w (fun e w' => e = .returned (.bool r0) ∧ Ext w w') := by
  unfold impl_has.f at h
  refine Calls.of_tri (N := 9) Try.func162 rfl rfl rfl (Sep.nil (M := noM)) ?_
  refine Tri.seq ?_
  refine Tri.reg (l := [0]) rfl ?_
  refine F.q rfl rfl rfl (wanted_none rfl) (r_assign rfl) ?_
  refine F.nil ?_
  refine Nrm.seq ?_
  refine Tri.seq ?_
  refine Tri.reg (l := [0, 1, 2, 3, 4]) rfl ?_
  refine F.q rfl rfl rfl (wanted_none rfl) (r_move rfl) ?_
  refine F.q rfl rfl rfl (wanted_none rfl) (r_move rfl) ?_
  refine F.q rfl rfl rfl (wanted_none rfl) (r_andNot rfl rfl) ?_
  refine F.q rfl rfl rfl (wanted_none rfl) (r_eql rfl rfl) ?_
  refine F.q rfl rfl rfl (wanted_none rfl) (r_assign rfl) ?_
  refine F.nil ?_
  refine Nrm.seq ?_
  refine Tri.ret ?_
  cases h
  exact Rtn.body (.tmp rfl .nil) (fun w hw => ⟨rfl, hw.ext⟩)

end Go.Proofs

/- loop.example/g01158/impl.steps -/
namespace Go.Proofs
open Go Go.Ga
set_option linter.unusedVariables false
set_option maxRecDepth 100000
set_option maxHeartbeats 4000000
def impl_steps.l0 (k : Nat) (a0_1 : List (Int × Int × Int)) (a1 : Int) (a2 : Int) : Nat → Int → Int → Option (Int)
  | 0, _, _ => none
  | n + 1, x7, x13 => (if (decide (x13 < (a0_1.length : Int))) = true then ((rdl a0_1 x13).bind fun t15 => (impl_has.f k a2 t15.2.2).bind fun t20 => (if (!t20) = true then some x7 else ((if (t15.1 == a1) = true then if ¬ t15.2.1 < 0 then some (bor x7 (shl 1 t15.2.1)) else none else some x7)).bind fun y7 => ((if (t15.2.1 == a1) = true then if ¬ t15.1 < 0 then some (bor y7 (shl 1 t15.1)) else none else some y7)).bind fun y7r => some y7r)).bind fun y7 => impl_steps.l0 k a0_1 a1 a2 n y7 (w64 (x13 + 1)) else some x7)

def impl_steps.f (k : Nat) (a0_0 : Int) (a0_1 : List (Int × Int × Int)) (a0_2 : List Int) (a1 : Int) (a2 : Int) : Option (Int) := (impl_steps.l0 k a0_1 a1 a2 k 0 0).bind fun x7 => some x7

theorem impl_steps.ok {k : Nat}  {a0_0 : Int} {a0_1 : List (Int × Int × Int)} {a0_2 : List Int} {a1 : Int} {a2 : Int} {r0 : Int} (h : impl_steps.f k a0_0 a0_1 a0_2 a1 a2 = some r0) (w : World) {va0_1 : Value} {va0_2 : Value} (hr_a0_1 : Rd w va0_1 a0_1) (hr_a0_2 : Rd w va0_2 a0_2) :
    Calls Try.prog 154 ([.agg ([.int .i64 a0_0, va0_1, va0_2].toArray), .int .i64 a1, .int .i64 a2] : List Value).toArray w (fun e w' => e = .returned (.int .i64 r0) ∧ Ext w w') := by
  unfold impl_steps.f at h
  have hl_va0_1 := hr_a0_1.len
  have hl_va0_2 := hr_a0_2.len
  refine Calls.of_tri (N := 42) Try.func154 rfl rfl rfl (Sep.nil (M := noM)) ?_
  refine Tri.seq ?_
  refine Tri.reg (l := [0, 1]) rfl ?_
  refine F.m rfl rfl rfl (wanted_none rfl) (m_boxG rfl rfl) ?_
  rintro _ _ ⟨b3_1, rfl, rfl⟩
  refine F.q rfl rfl rfl (wanted_none rfl) (r_assign rfl) ?_
  refine F.nil ?_
  refine Nrm.seq ?_
  refine Tri.seq ?_
  refine Tri.reg (l := [0]) rfl ?_
  refine F.q rfl rfl rfl (wanted_none rfl) (r_assign rfl) ?_
  refine F.nil ?_
  refine Nrm.seq ?_
  refine Tri.seq ?_
  refine Tri.seq ?_
  refine Tri.reg (l := [0, 1, 2, 3]) rfl ?_
  refine F.q rfl rfl rfl (wanted_none rfl) (r_fieldAddr tf31_1 rfl) ?_
  refine F.q rfl rfl rfl (wanted_none rfl) (r_load ta22 rfl (fun w hw => cell_1 (box_cells (i := 0) rfl w hw) rfl)) ?_
  refine F.q rfl rfl rfl (wanted_none rfl) (r_len Try.underlying22 rfl hl_va0_1) ?_
  refine F.q rfl rfl rfl (wanted_none rfl) (r_move rfl) ?_
  refine F.nil ?_
  refine Nrm.seq ?_
  obtain ⟨x7, hE_1, h⟩ := bind_some h
  refine Tri.block ?_
  refine Tri.only [1, 2, 7, 11, 12, 13] rfl ?_
  refine Tri.pick [] rfl rfl ?_
  refine Tri.rounds (fun n e' C' => ∃ (x7' : Int) (x13' : Int), impl_steps.l0 k a0_1 a1 a2 n x7' x13' = some x7 ∧ e' = [(1, .int .i64 a1), (2, .int .i64 a2), (7, .int .i64 x7'), (11, va0_1), (12, .int .i64 (a0_1.length : Int)), (13, .int .i64 x13')] ∧ C' = Sep w noM []) k ?_ ?_ ?_
  · exact ⟨0, 0, hE_1, rfl, rfl⟩
  · rintro _ _ ⟨_, _, hE_1, _⟩
    rw [impl_steps.l0.eq_1] at hE_1; cases hE_1
  · rintro n_1 _ _ ⟨x7, x13, hE_1, rfl, rfl⟩ ih_1
    rw [impl_steps.l0.eq_2] at hE_1
    refine Tri.seq ?_
    refine Tri.reg (l := [0]) rfl ?_
    refine F.q rfl rfl rfl (wanted_none rfl) (r_lss rfl rfl) ?_
    refine F.nil ?_
    refine Nrm.seq ?_
    refine Tri.seq ?_
    refine Tri.cond (b := decide (x13 < (a0_1.length : Int))) rfl (fun g_1 => ?_) (fun g_1 => ?_)
    · replace hE_1 := if_tt g_1 hE_1
      refine Tri.skip ?_
      refine Nrm.seq ?_
      refine Tri.seq ?_
      obtain ⟨y7, hE_2, hE_1⟩ := bind_some hE_1
      refine Tri.cut (fun e' C' => e' = [(1, .int .i64 a1), (2, .int .i64 a2), (7, .int .i64 y7), (11, va0_1), (12, .int .i64 (a0_1.length : Int)), (13, .int .i64 x13)] ∧ C' = Sep w noM []) ?_ (fun hj_1 => ?_)
      · rintro _ _ ⟨rfl, rfl⟩
        refine Nrm.seq ?_
        refine Tri.reg (l := [0, 1]) rfl ?_
        refine F.q rfl rfl rfl (wanted_none rfl) (r_add rfl rfl) ?_
        refine F.q rfl rfl rfl (wanted_none rfl) (r_move rfl) ?_
        refine F.nil ?_
        refine Nrm.round ?_
        refine Rnd.only [1, 2, 7, 11, 12, 13] rfl ?_
        refine Rnd.pick [] rfl rfl ?_
        exact ih_1 _ _ ⟨y7, w64 (x13 + 1), hE_1, rfl, rfl⟩
      · refine Tri.block ?_
        refine Tri.seq ?_
        obtain ⟨t15, h15, hE_2⟩ := bind_some hE_2
        refine Tri.reg (l := [0, 1, 2, 3]) rfl ?_
        refine F.q rfl rfl rfl (wanted_none rfl) (r_indexAddrS Try.underlying22 ti116 rfl hl_va0_1 rfl (rdl_some h15).1 (rdl_some h15).2.1) ?_
        refine F.q rfl rfl rfl (wanted_none rfl) (r_loadA ta116 ti116 rfl rfl (fun w hw => (Rd.flat ((fun _ hw => hr_a0_1.sep hw) w hw) (rdl_some h15).2.2))) ?_
        refine F.m rfl rfl rfl (wanted_none rfl) (m_alloc ti116) ?_
        rintro _ _ ⟨b9_1, rfl, rfl⟩
        refine F.ef0 rfl rfl (wanted_none rfl) (d_storeG0 (i := 0) (cs2 := [.int .i64 t15.1, .int .i64 t15.2.1, .int .i64 t15.2.2]) ti116 rfl rfl rfl rfl rfl (Nat.le_of_ble_eq_true rfl) (lf_cons rfl (lf_cons rfl (lf_cons rfl lf_nil)))) ?_
        rintro _ _ ⟨rfl, rfl⟩
        refine F.nil ?_
        refine Nrm.seq ?_
        refine Tri.seq ?_
        refine Tri.seq ?_
        obtain ⟨t20, h20, hE_2⟩ := bind_some hE_2
        refine Tri.reg (l := [0, 1, 2, 3, 4]) rfl ?_
        refine F.q rfl rfl rfl (wanted_none rfl) (r_move rfl) ?_
        refine F.q rfl rfl rfl (wanted_none rfl) (r_indexAddrA Try.underlying116 ti3 rfl rfl (by decide) (by decide)) ?_
        refine F.q rfl rfl rfl (wanted_none rfl) (r_load ta3 rfl (fun w hw => cell_1 (box_cells (i := 0) rfl w hw) rfl)) ?_
        refine F.qc rfl rfl rfl (wanted_none rfl) (q_callF (xs := _) rfl ok162 rfl rfl (fun w hw => impl_has.ok h20 w )) ?_
        refine F.q rfl rfl rfl (wanted_none rfl) (r_not rfl) ?_
        refine F.nil ?_
        refine Nrm.seq ?_
        refine Tri.cond (b := !t20) rfl (fun g_2 => ?_) (fun g_2 => ?_)
        · replace hE_2 := if_tt g_2 hE_2
          refine Tri.exit ?_
          refine Exi.then ?_
          refine Exi.same ?_
          cases hE_2
          refine Nrm.only [1, 2, 7, 11, 12, 13] rfl ?_
          refine Nrm.pick [] rfl rfl ?_
          exact hj_1 _ _ ⟨rfl, rfl⟩
        · replace hE_2 := if_ff g_2 hE_2
          refine Tri.skip ?_
          refine Nrm.seq ?_
          refine Tri.seq ?_
          refine Tri.seq ?_
          refine Tri.reg (l := [0, 1, 2, 3]) rfl ?_
          refine F.q rfl rfl rfl (wanted_none rfl) (r_indexAddrA Try.underlying116 ti3 rfl rfl (by decide) (by decide)) ?_
          refine F.q rfl rfl rfl (wanted_none rfl) (r_load ta3 rfl (fun w hw => cell_1 (box_cells (i := 0) rfl w hw) rfl)) ?_
          refine F.q rfl rfl rfl (wanted_none rfl) (r_move rfl) ?_
          refine F.q rfl rfl rfl (wanted_none rfl) (r_eql rfl rfl) ?_
          refine F.nil ?_
          refine Nrm.seq ?_
          obtain ⟨y7, hE_3, hE_2⟩ := bind_some hE_2
          refine Tri.cut (fun e' C' => e' = [(1, .int .i64 a1), (2, .int .i64 a2), (7, .int .i64 y7), (9, .pointer (some ⟨b9_1, 0, none⟩)), (11, va0_1), (12, .int .i64 (a0_1.length : Int)), (13, .int .i64 x13)] ∧ C' = Sep w noM [R.box b9_1 116 [.int .i64 t15.1, .int .i64 t15.2.1, .int .i64 t15.2.2]]) ?_ (fun hj_2 => ?_)
          · rintro _ _ ⟨rfl, rfl⟩
            refine Nrm.seq ?_
            refine Tri.seq ?_
            refine Tri.reg (l := [0, 1, 2, 3]) rfl ?_
            refine F.q rfl rfl rfl (wanted_none rfl) (r_indexAddrA Try.underlying116 ti3 rfl rfl (by decide) (by decide)) ?_
            refine F.q rfl rfl rfl (wanted_none rfl) (r_load ta3 rfl (fun w hw => cell_1 (box_cells (i := 0) rfl w hw) rfl)) ?_
            refine F.q rfl rfl rfl (wanted_none rfl) (r_move rfl) ?_
            refine F.q rfl rfl rfl (wanted_none rfl) (r_eql rfl rfl) ?_
            refine F.nil ?_
            refine Nrm.seq ?_
            obtain ⟨y7r, hE_4, hE_2⟩ := bind_some hE_2
            refine Tri.cut (fun e' C' => e' = [(1, .int .i64 a1), (2, .int .i64 a2), (7, .int .i64 y7r), (11, va0_1), (12, .int .i64 (a0_1.length : Int)), (13, .int .i64 x13)] ∧ C' = Sep w noM []) ?_ (fun hj_3 => ?_)
            · rintro _ _ ⟨rfl, rfl⟩
              refine Nrm.block ?_
              cases hE_2
              refine Nrm.only [1, 2, 7, 11, 12, 13] rfl ?_
              refine Nrm.pick [] rfl rfl ?_
              exact hj_1 _ _ ⟨rfl, rfl⟩
            · refine Tri.cond (b := t15.2.1 == a1) rfl (fun g_4 => ?_) (fun g_4 => ?_)
              · replace hE_4 := if_tt g_4 hE_4
                obtain ⟨hs38, hE_4⟩ := ck hE_4
                refine Tri.reg (l := [0, 1, 2, 3, 4, 5]) rfl ?_
                refine F.q rfl rfl rfl (wanted_none rfl) (r_move rfl) ?_
                refine F.q rfl rfl rfl (wanted_none rfl) (r_indexAddrA Try.underlying116 ti3 rfl rfl (by decide) (by decide)) ?_
                refine F.q rfl rfl rfl (wanted_none rfl) (r_load ta3 rfl (fun w hw => cell_1 (box_cells (i := 0) rfl w hw) rfl)) ?_
                refine F.q rfl rfl rfl (wanted_none rfl) (r_shl rfl rfl hs38) ?_
                refine F.q rfl rfl rfl (wanted_none rfl) (r_or rfl rfl) ?_
                refine F.q rfl rfl rfl (wanted_none rfl) (r_assign rfl) ?_
                refine F.nil ?_
                cases hE_4
                refine Nrm.only [1, 2, 7, 11, 12, 13] rfl ?_
                refine Nrm.pick [] rfl rfl ?_
                exact hj_3 _ _ ⟨rfl, rfl⟩
              · replace hE_4 := if_ff g_4 hE_4
                refine Tri.skip ?_
                cases hE_4
                refine Nrm.only [1, 2, 7, 11, 12, 13] rfl ?_
                refine Nrm.pick [] rfl rfl ?_
                exact hj_3 _ _ ⟨rfl, rfl⟩
          · refine Tri.cond (b := t15.1 == a1) rfl (fun g_3 => ?_) (fun g_3 => ?_)
            · replace hE_3 := if_tt g_3 hE_3
              obtain ⟨hs29, hE_3⟩ := ck hE_3
              refine Tri.reg (l := [0, 1, 2, 3, 4, 5]) rfl ?_
              refine F.q rfl rfl rfl (wanted_none rfl) (r_move rfl) ?_
              refine F.q rfl rfl rfl (wanted_none rfl) (r_indexAddrA Try.underlying116 ti3 rfl rfl (by decide) (by decide)) ?_
              refine F.q rfl rfl rfl (wanted_none rfl) (r_load ta3 rfl (fun w hw => cell_1 (box_cells (i := 0) rfl w hw) rfl)) ?_
              refine F.q rfl rfl rfl (wanted_none rfl) (r_shl rfl rfl hs29) ?_
              refine F.q rfl rfl rfl (wanted_none rfl) (r_or rfl rfl) ?_
              refine F.q rfl rfl rfl (wanted_none rfl) (r_assign rfl) ?_
              refine F.nil ?_
              cases hE_3
              refine Nrm.only [1, 2, 7, 9, 11, 12, 13] rfl ?_
              refine Nrm.pick [0] rfl rfl ?_
              exact hj_2 _ _ ⟨rfl, rfl⟩
            · replace hE_3 := if_ff g_3 hE_3
              refine Tri.skip ?_
              cases hE_3
              refine Nrm.only [1, 2, 7, 9, 11, 12, 13] rfl ?_
              refine Nrm.pick [0] rfl rfl ?_
              exact hj_2 _ _ ⟨rfl, rfl⟩
    · replace hE_1 := if_ff g_1 hE_1
      refine Tri.exit ?_
      refine Exi.then ?_
      refine Exi.then ?_
      refine Exi.same ?_
      cases hE_1
      refine Nrm.seq ?_
      refine Tri.seq ?_
      refine Tri.reg (l := [0, 1]) rfl ?_
      refine F.q rfl rfl rfl (wanted_none rfl) (r_move rfl) ?_
      refine F.q rfl rfl rfl (wanted_none rfl) (r_assign rfl) ?_
      refine F.nil ?_
      refine Nrm.seq ?_
      refine Tri.ret ?_
      cases h
      exact Rtn.body (.tmp rfl .nil) (fun w hw => ⟨rfl, hw.ext⟩)

end Go.Proofs

/- loop.example/g01158/impl.reach -/
namespace Go.Proofs
open Go Go.Ga
set_option linter.unusedVariables false
set_option maxRecDepth 100000
set_option maxHeartbeats 4000000
def impl_reach.l0 (k : Nat) (a0_0 : Int) (a0_1 : List (Int × Int × Int)) (a0_2 : List Int) (a2 : Int) : Nat → Int → (List (Int)) → Option (Int)
  | 0, _, _ => none
  | n + 1, x7, x8 => (if (decide ((x8.length : Int) > 0)) = true then (rdl x8 0).bind fun t19 => (impl_steps.f k a0_0 a0_1 a0_2 t19 a2).bind fun t22 => (slc x8 1 (x8.length : Int)).bind fun t29 => (impl_members.f k (bclr t22 x7)).bind fun t31 => if (t29 ++ t31).length < 1099511627776 then impl_reach.l0 k a0_0 a0_1 a0_2 a2 n (bor x7 (bclr t22 x7)) (t29 ++ t31) else none else some x7)

def impl_reach.f (k : Nat) (a0_0 : Int) (a0_1 : List (Int × Int × Int)) (a0_2 : List Int) (a1 : Int) (a2 : Int) : Option (Int) := if ¬ a1 < 0 then (impl_reach.l0 k a0_0 a0_1 a0_2 a2 k (shl 1 a1) ([a1] : List (Int))).bind fun x7 => some x7 else none

theorem impl_reach.ok {k : Nat}  {a0_0 : Int} {a0_1 : List (Int × Int × Int)} {a0_2 : List Int} {a1 : Int} {a2 : Int} {r0 : Int} (h : impl_reach.f k a0_0 a0_1 a0_2 a1 a2 = some r0) (w : World) {va0_1 : Value} {va0_2 : Value} (hr_a0_1 : Rd w va0_1 a0_1) (hr_a0_2 : Rd w va0_2 a0_2) :
    Calls Try.prog 166 ([.agg ([.int .i64 a0_0, va0_1, va0_2].toArray), .int .i64 a1, .int .i64 a2] : List Value).toArray w (fun e w' => e = .returned (.int .i64 r0) ∧ Ext w w') := by
  unfold impl_reach.f at h
  have hl_va0_1 := hr_a0_1.len
  have hl_va0_2 := hr_a0_2.len
  refine Calls.of_tri (N := 34) Try.func166 rfl rfl rfl (Sep.nil (M := noM)) ?_
  refine Tri.seq ?_
  refine Tri.reg (l := [0, 1]) rfl ?_
  refine F.m rfl rfl rfl (wanted_none rfl) (m_boxG rfl rfl) ?_
  rintro _ _ ⟨b3_1, rfl, rfl⟩
  refine F.q rfl rfl rfl (wanted_none rfl) (r_assign rfl) ?_
  refine F.nil ?_
  refine Nrm.seq ?_
  refine Tri.seq ?_
  obtain ⟨hs11, h⟩ := ck h
  refine Tri.reg (l := [0, 1, 2, 3, 4, 5]) rfl ?_
  refine F.q rfl rfl rfl (wanted_none rfl) (r_move rfl) ?_
  refine F.q rfl rfl rfl (wanted_none rfl) (r_shl rfl rfl hs11) ?_
  refine F.q rfl rfl rfl (wanted_none rfl) (r_move rfl) ?_
  refine F.m rfl rfl rfl (wanted_none rfl) (m_buildF (l := ([a1] : List (Int))) Try.underlying23 ti3 rfl rfl rfl rfl rfl) ?_
  rintro v13_1 _ ⟨S13_1, hl_v13_1, rfl⟩
  refine F.q rfl rfl rfl (wanted_none rfl) (r_assign rfl) ?_
  refine F.q rfl rfl rfl (wanted_none rfl) (r_assign rfl) ?_
  refine F.nil ?_
  refine Nrm.seq ?_
  refine Tri.seq ?_
  obtain ⟨x7, hE_1, h⟩ := bind_some h
  refine Tri.block ?_
  refine Tri.only [2, 3, 7, 8] rfl ?_
  refine Tri.pick [1, 0] rfl rfl ?_
  refine Tri.rounds (fun n e' C' => ∃ (x7' : Int) (x8' : List (Int)) (w8 : Value) (T8 : Nat → Prop), impl_reach.l0 k a0_0 a0_1 a0_2 a2 n x7' x8' = some x7 ∧ SlLen w8 (x8').length ∧ e' = [(2, .int .i64 a2), (3, .pointer (some ⟨b3_1, 0, none⟩)), (7, .int .i64 x7'), (8, w8)] ∧ C' = Sep w noM [R.box b3_1 31 [.int .i64 a0_0, va0_1, va0_2], R.sl T8 w8 (x8' : List (Int))]) k ?_ ?_ ?_
  · exact ⟨shl 1 a1, ([a1] : List (Int)), v13_1, S13_1, hE_1, hl_v13_1, rfl, rfl⟩
  · rintro _ _ ⟨_, _, _, _, hE_1, _⟩
    rw [impl_reach.l0.eq_1] at hE_1; cases hE_1
  · rintro n_1 _ _ ⟨x7, x8, w8, T8, hE_1, hl_w8, rfl, rfl⟩ ih_1
    rw [impl_reach.l0.eq_2] at hE_1
    refine Tri.seq ?_
    refine Tri.seq ?_
    refine Tri.reg (l := [0, 1, 2]) rfl ?_
    refine F.q rfl rfl rfl (wanted_none rfl) (r_move rfl) ?_
    refine F.q rfl rfl rfl (wanted_none rfl) (r_len Try.underlying23 rfl hl_w8) ?_
    refine F.q rfl rfl rfl (wanted_none rfl) (r_gtr rfl rfl) ?_
    refine F.nil ?_
    refine Nrm.seq ?_
    refine Tri.cond (b := decide ((x8.length : Int) > 0)) rfl (fun g_1 => ?_) (fun g_1 => ?_)
    · replace hE_1 := if_tt g_1 hE_1
      refine Tri.skip ?_
      refine Nrm.seq ?_
      refine Tri.block ?_
      refine Tri.seq ?_
      obtain ⟨t19, h19, hE_1⟩ := bind_some hE_1
      obtain ⟨t22, h22, hE_1⟩ := bind_some hE_1
      refine Tri.drawA mixedT Sep.up [(0, true), (1, true), (2, true), (3, true), (4, true), (5, true), (6, true), (7, true), (8, true)] [] (by kernel_rfl) ?_
      refine S.q rfl rfl rfl (wanted_none rfl) (r_loadA ta31 ti31 rfl rfl (fun w hw => (box_cells (i := 0) rfl w hw))) ?_
      refine S.q rfl rfl rfl (wanted_none rfl) (r_move rfl) ?_
      refine S.q rfl rfl rfl (wanted_none rfl) (r_indexAddrS Try.underlying23 ti3 rfl hl_w8 rfl (rdl_some h19).1 (rdl_some h19).2.1) ?_
      refine S.q rfl rfl rfl (wanted_none rfl) (r_load ta3 rfl (fun w hw => cell_0 (Rd.flat ((rd_sl (i := 1) rfl) w hw) (rdl_some h19).2.2) rfl)) ?_
      refine S.q rfl rfl rfl (wanted_none rfl) (r_move rfl) ?_
      refine S.qc rfl rfl rfl (wanted_none rfl) (q_callF (xs := _) rfl ok154 rfl rfl (fun w hw => impl_steps.ok h22 w ((fun _ hw => hr_a0_1.sep hw) w hw) ((fun _ hw => hr_a0_2.sep hw) w hw))) ?_
      refine S.q rfl rfl rfl (wanted_none rfl) (r_move rfl) ?_
      refine S.q rfl rfl rfl (wanted_none rfl) (r_andNot rfl rfl) ?_
      refine S.q rfl rfl rfl (wanted_none rfl) (r_assign rfl) ?_
      refine S.nil ?_
      refine F.nil ?_
      refine Nrm.seq ?_
      refine Tri.seq ?_
      refine Tri.reg (l := [0, 1, 2, 3]) rfl ?_
      refine F.q rfl rfl rfl (wanted_none rfl) (r_move rfl) ?_
      refine F.q rfl rfl rfl (wanted_none rfl) (r_move rfl) ?_
      refine F.q rfl rfl rfl (wanted_none rfl) (r_or rfl rfl) ?_
      refine F.q rfl rfl rfl (wanted_none rfl) (r_assign rfl) ?_
      refine F.nil ?_
      refine Nrm.seq ?_
      obtain ⟨t29, h29, hE_1⟩ := bind_some hE_1
      obtain ⟨t31, h31, hE_1⟩ := bind_some hE_1
      obtain ⟨hs32, hE_1⟩ := ck hE_1
      refine Tri.drawA mixedT Sep.up [(0, true), (1, true), (2, true), (3, false)] [4, 5] (by kernel_rfl) ?_
      refine S.q rfl rfl rfl (wanted_none rfl) (r_move rfl) ?_
      refine S.q rfl rfl rfl (wanted_none rfl) (r_sliceL Try.underlying23 ti3 rfl (rd_sl (i := 1) rfl) rfl h29) ?_
      refine S.q rfl rfl rfl (wanted_none rfl) (r_move rfl) ?_
      refine S.m rfl rfl rfl (wanted_none rfl) (m_callF (xs := _) rfl ok68 rfl rfl (fun w hw => impl_members.ok h31 w )) ?_
      rintro v31_2 _ ⟨_, ⟨S31_2, hl_v31_2, rfl⟩, rfl⟩
      refine S.nil ?_
      refine F.ef rfl rfl rfl (wanted_none rfl) (Does.pre (fun w hw => Sep.resl (i := 2) rfl h29 hw) <| d_append (i := 2) Try.underlying23 Try.underlying23 ti3 rfl (by decide) rfl rfl rfl (rd_sl (i := 0) rfl) hs32) ?_
      rintro v32_2 _ ⟨S32_2, rfl, hl_v32_2⟩
      refine F.q rfl rfl rfl (wanted_none rfl) (r_assign rfl) ?_
      refine F.nil ?_
      refine Nrm.block ?_
      refine Nrm.round ?_
      refine Rnd.only [2, 3, 7, 8] rfl ?_
      refine Rnd.pick [1, 2] rfl rfl ?_
      exact ih_1 _ _ ⟨bor x7 (bclr t22 x7), t29 ++ t31, v32_2, S32_2, hE_1, hl_v32_2, rfl, rfl⟩
    · replace hE_1 := if_ff g_1 hE_1
      refine Tri.exit ?_
      refine Exi.then ?_
      refine Exi.then ?_
      refine Exi.same ?_
      cases hE_1
      refine Nrm.seq ?_
      refine Tri.seq ?_
      refine Tri.reg (l := [0, 1]) rfl ?_
      refine F.q rfl rfl rfl (wanted_none rfl) (r_move rfl) ?_
      refine F.q rfl rfl rfl (wanted_none rfl) (r_assign rfl) ?_
      refine F.nil ?_
      refine Nrm.seq ?_
      refine Tri.ret ?_
      cases h
      exact Rtn.body (.tmp rfl .nil) (fun w hw => ⟨rfl, hw.ext⟩)

end Go.Proofs

/- loop.example/g01158/impl.rounds -/
namespace Go.Proofs
open Go Go.Ga
set_option linter.unusedVariables false
set_option maxRecDepth 100000
set_option maxHeartbeats 4000000
def impl_rounds.l1 (k : Nat) (a0_2 : List Int) (t18 : List Int) : Nat → Int → Int → Option (Int)
  | 0, _, _ => none
  | n + 1, x8, x20 => (if (decide (x20 < (t18.length : Int))) = true then (rdl t18 x20).bind fun t22 => (rdl a0_2 t22).bind fun t28 => impl_rounds.l1 k a0_2 t18 n (bor x8 t28) (w64 (x20 + 1)) else some x8)

def impl_rounds.l0 (k : Nat) (a0_0 : Int) (a0_1 : List (Int × Int × Int)) (a0_2 : List Int) : Nat → (List (Int × Int)) → Int → Option ((Unit) ⊕ ((List (Int × Int))))
  | 0, _, _ => none
  | n + 1, x5, x6 => (impl_reach.f k a0_0 a0_1 a0_2 0 x6).bind fun t15 => (impl_members.f k t15).bind fun t18 => (impl_rounds.l1 k a0_2 t18 k x6 0).bind fun x8 => if (x5 ++ ([(x6, t15)] : List (Int × Int))).length < 1099511627776 then (if (x8 == x6) = true then some (Sum.inr (x5 ++ ([(x6, t15)] : List (Int × Int)))) else impl_rounds.l0 k a0_0 a0_1 a0_2 n (x5 ++ ([(x6, t15)] : List (Int × Int))) x8) else none

def impl_rounds.f (k : Nat) (a0_0 : Int) (a0_1 : List (Int × Int × Int)) (a0_2 : List Int) (a1 : Int) : Option ((List (Int × Int))) := (impl_rounds.l0 k a0_0 a0_1 a0_2 k ([] : List (Int × Int)) a1).bind fun s => Lr s some fun _ => none

theorem impl_rounds.ok {k : Nat}  {a0_0 : Int} {a0_1 : List (Int × Int × Int)} {a0_2 : List Int} {a1 : Int} {r0 : List (Int × Int)} (h : impl_rounds.f k a0_0 a0_1 a0_2 a1 = some r0) (w : World) {va0_1 : Value} {va0_2 : Value} (hr_a0_1 : Rd w va0_1 a0_1) (hr_a0_2 : Rd w va0_2 a0_2) :
    Calls Try.prog 144 ([.agg ([.int .i64 a0_0, va0_1, va0_2].toArray), .int .i64 a1] : List Value).toArray w (Post (fun u ns => ∃ (Sr0 : Nat → Prop), SlLen u r0.length ∧ ns = [R.sl Sr0 u r0]) w) := by
  unfold impl_rounds.f at h
  have hl_va0_1 := hr_a0_1.len
  have hl_va0_2 := hr_a0_2.len
  refine Calls.of_tri (N := 43) Try.func144 rfl rfl rfl (Sep.nil (M := noM)) ?_
  refine Tri.seq ?_
  refine Tri.reg (l := [0, 1]) rfl ?_
  refine F.m rfl rfl rfl (wanted_none rfl) (m_boxG rfl rfl) ?_
  rintro _ _ ⟨b2_1, rfl, rfl⟩
  refine F.q rfl rfl rfl (wanted_none rfl) (r_assign rfl) ?_
  refine F.nil ?_
  refine Nrm.seq ?_
  refine Tri.seq ?_
  refine Tri.reg (l := [0, 1]) rfl ?_
  refine F.m rfl rfl rfl (wanted_none rfl) (m_build0 (α := Int × Int) Try.underlying146 ti130) ?_
  rintro v11_1 _ ⟨S11_1, hl_v11_1, rfl⟩
  refine F.q rfl rfl rfl (wanted_none rfl) (r_assign rfl) ?_
  refine F.nil ?_
  refine Nrm.seq ?_
  refine Tri.seq ?_
  refine Tri.reg (l := [0, 1]) rfl ?_
  refine F.q rfl rfl rfl (wanted_none rfl) (r_move rfl) ?_
  refine F.q rfl rfl rfl (wanted_none rfl) (r_assign rfl) ?_
  refine F.nil ?_
  refine Nrm.seq ?_
  obtain ⟨s0, hE_1, h⟩ := bind_some h
  refine Tri.block ?_
  refine Tri.only [2, 5, 6] rfl ?_
  refine Tri.pick [1, 0] rfl rfl ?_
  refine Tri.rounds (fun n e' C' => ∃ (x5' : List (Int × Int)) (x6' : Int) (w5 : Value) (T5 : Nat → Prop), impl_rounds.l0 k a0_0 a0_1 a0_2 n x5' x6' = some s0 ∧ SlLen w5 (x5').length ∧ e' = [(2, .pointer (some ⟨b2_1, 0, none⟩)), (5, w5), (6, .int .i64 x6')] ∧ C' = Sep w noM [R.box b2_1 31 [.int .i64 a0_0, va0_1, va0_2], R.sl T5 w5 (x5' : List (Int × Int))]) k ?_ ?_ ?_
  · exact ⟨([] : List (Int × Int)), a1, v11_1, S11_1, hE_1, hl_v11_1, rfl, rfl⟩
  · rintro _ _ ⟨_, _, _, _, hE_1, _⟩
    rw [impl_rounds.l0.eq_1] at hE_1; cases hE_1
  · rintro n_1 _ _ ⟨x5, x6, w5, T5, hE_1, hl_w5, rfl, rfl⟩ ih_1
    rw [impl_rounds.l0.eq_2] at hE_1
    refine Tri.block ?_
    refine Tri.seq ?_
    obtain ⟨t15, h15, hE_1⟩ := bind_some hE_1
    refine Tri.reg (l := [0, 1, 2, 3, 4, 5]) rfl ?_
    refine F.q rfl rfl rfl (wanted_none rfl) (r_loadA ta31 ti31 rfl rfl (fun w hw => (box_cells (i := 0) rfl w hw))) ?_
    refine F.q rfl rfl rfl (wanted_none rfl) (r_move rfl) ?_
    refine F.qc rfl rfl rfl (wanted_none rfl) (q_callF (xs := _) rfl ok166 rfl rfl (fun w hw => impl_reach.ok h15 w ((fun _ hw => hr_a0_1.sep hw) w hw) ((fun _ hw => hr_a0_2.sep hw) w hw))) ?_
    refine F.q rfl rfl rfl (wanted_none rfl) (r_move rfl) ?_
    refine F.q rfl rfl rfl (wanted_none rfl) (r_assign rfl) ?_
    refine F.q rfl rfl rfl (wanted_none rfl) (r_assign rfl) ?_
    refine F.nil ?_
    refine Nrm.seq ?_
    refine Tri.seq ?_
    refine Tri.seq ?_
    obtain ⟨t18, h18, hE_1⟩ := bind_some hE_1
    refine Tri.reg (l := [0, 1, 2, 3]) rfl ?_
    refine F.q rfl rfl rfl (wanted_none rfl) (r_move rfl) ?_
    refine F.m rfl rfl rfl (wanted_none rfl) (m_callF (xs := _) rfl ok68 rfl rfl (fun w hw => impl_members.ok h18 w )) ?_
    rintro v18_1 _ ⟨_, ⟨S18_1, hl_v18_1, rfl⟩, rfl⟩
    refine F.q rfl rfl rfl (wanted_none rfl) (r_len Try.underlying23 rfl hl_v18_1) ?_
    refine F.q rfl rfl rfl (wanted_none rfl) (r_move rfl) ?_
    refine F.nil ?_
    refine Nrm.seq ?_
    obtain ⟨x8, hE_2, hE_1⟩ := bind_some hE_1
    refine Tri.block ?_
    refine Tri.only [2, 5, 6, 7, 8, 18, 19, 20] rfl ?_
    refine Tri.pick [1, 0, 2] rfl rfl ?_
    refine Tri.rounds (fun n e' C' => ∃ (x8' : Int) (x20' : Int), impl_rounds.l1 k a0_2 t18 n x8' x20' = some x8 ∧ e' = [(2, .pointer (some ⟨b2_1, 0, none⟩)), (5, w5), (6, .int .i64 x6), (7, .int .i64 t15), (8, .int .i64 x8'), (18, v18_1), (19, .int .i64 (t18.length : Int)), (20, .int .i64 x20')] ∧ C' = Sep w noM [R.box b2_1 31 [.int .i64 a0_0, va0_1, va0_2], R.sl S18_1 v18_1 (t18 : List (Int)), R.sl T5 w5 (x5 : List (Int × Int))]) k ?_ ?_ ?_
    · exact ⟨x6, 0, hE_2, rfl, rfl⟩
    · rintro _ _ ⟨_, _, hE_2, _⟩
      rw [impl_rounds.l1.eq_1] at hE_2; cases hE_2
    · rintro n_2 _ _ ⟨x8, x20, hE_2, rfl, rfl⟩ ih_2
      rw [impl_rounds.l1.eq_2] at hE_2
      refine Tri.seq ?_
      refine Tri.reg (l := [0]) rfl ?_
      refine F.q rfl rfl rfl (wanted_none rfl) (r_lss rfl rfl) ?_
      refine F.nil ?_
      refine Nrm.seq ?_
      refine Tri.seq ?_
      refine Tri.cond (b := decide (x20 < (t18.length : Int))) rfl (fun g_1 => ?_) (fun g_1 => ?_)
      · replace hE_2 := if_tt g_1 hE_2
        refine Tri.skip ?_
        refine Nrm.seq ?_
        refine Tri.seq ?_
        refine Tri.block ?_
        refine Tri.seq ?_
        obtain ⟨t22, h22, hE_2⟩ := bind_some hE_2
        refine Tri.reg (l := [0, 1, 2]) rfl ?_
        refine F.q rfl rfl rfl (wanted_none rfl) (r_indexAddrS Try.underlying23 ti3 rfl hl_v18_1 rfl (rdl_some h22).1 (rdl_some h22).2.1) ?_
        refine F.q rfl rfl rfl (wanted_none rfl) (r_load ta3 rfl (fun w hw => cell_0 (Rd.flat ((rd_sl (i := 1) rfl) w hw) (rdl_some h22).2.2) rfl)) ?_
        refine F.q rfl rfl rfl (wanted_none rfl) (r_assign rfl) ?_
        refine F.nil ?_
        refine Nrm.seq ?_
        obtain ⟨t28, h28, hE_2⟩ := bind_some hE_2
        refine Tri.reg (l := [0, 1, 2, 3, 4, 5, 6, 7]) rfl ?_
        refine F.q rfl rfl rfl (wanted_none rfl) (r_move rfl) ?_
        refine F.q rfl rfl rfl (wanted_none rfl) (r_fieldAddr tf31_2 rfl) ?_
        refine F.q rfl rfl rfl (wanted_none rfl) (r_load ta23 rfl (fun w hw => cell_1 (box_cells (i := 0) rfl w hw) rfl)) ?_
        refine F.q rfl rfl rfl (wanted_none rfl) (r_move rfl) ?_
        refine F.q rfl rfl rfl (wanted_none rfl) (r_indexAddrS Try.underlying23 ti3 rfl hl_va0_2 rfl (rdl_some h28).1 (rdl_some h28).2.1) ?_
        refine F.q rfl rfl rfl (wanted_none rfl) (r_load ta3 rfl (fun w hw => cell_0 (Rd.flat ((fun _ hw => hr_a0_2.sep hw) w hw) (rdl_some h28).2.2) rfl)) ?_
        refine F.q rfl rfl rfl (wanted_none rfl) (r_or rfl rfl) ?_
        refine F.q rfl rfl rfl (wanted_none rfl) (r_assign rfl) ?_
        refine F.nil ?_
        refine Nrm.block ?_
        refine Nrm.seq ?_
        refine Tri.reg (l := [0, 1]) rfl ?_
        refine F.q rfl rfl rfl (wanted_none rfl) (r_add rfl rfl) ?_
        refine F.q rfl rfl rfl (wanted_none rfl) (r_move rfl) ?_
        refine F.nil ?_
        refine Nrm.round ?_
        refine Rnd.only [2, 5, 6, 7, 8, 18, 19, 20] rfl ?_
        refine Rnd.pick [0, 1, 2] rfl rfl ?_
        exact ih_2 _ _ ⟨bor x8 t28, w64 (x20 + 1), hE_2, rfl, rfl⟩
      · replace hE_2 := if_ff g_1 hE_2
        refine Tri.exit ?_
        refine Exi.then ?_
        refine Exi.then ?_
        refine Exi.same ?_
        cases hE_2
        refine Nrm.seq ?_
        refine Tri.seq ?_
        obtain ⟨hs37, hE_1⟩ := ck hE_1
        refine Tri.reg (l := [0, 1, 2, 3, 4, 5, 6]) rfl ?_
        refine F.q rfl rfl rfl (wanted_none rfl) (r_move rfl) ?_
        refine F.q rfl rfl rfl (wanted_none rfl) (r_move rfl) ?_
        refine F.q rfl rfl rfl (wanted_none rfl) (r_move rfl) ?_
        refine F.q rfl rfl rfl (wanted_none rfl) (r_build (pl := [(0, 1), (1, 1)]) (qs := [(0, [.int .i64 x6]), (1, [.int .i64 t15])]) (cs := [.int .i64 x6, .int .i64 t15]) (by kernel_rfl) ti130 rfl (.cons rfl rfl (Nat.le_of_ble_eq_true rfl) (.cons rfl rfl (Nat.le_of_ble_eq_true rfl) .nil)) rfl rfl) ?_
        refine F.m rfl rfl rfl (wanted_none rfl) (m_buildF (l := ([(x6, t15)] : List (Int × Int))) Try.underlying146 ti130 rfl rfl rfl rfl rfl) ?_
        rintro v36_1 _ ⟨S36_1, hl_v36_1, rfl⟩
        refine F.ef rfl rfl rfl (wanted_none rfl) (d_append (i := 3) Try.underlying146 Try.underlying146 ti130 rfl (by decide) rfl rfl rfl (rd_sl (i := 0) rfl) hs37) ?_
        rintro v37_1 _ ⟨S37_1, rfl, hl_v37_1⟩
        refine F.q rfl rfl rfl (wanted_none rfl) (r_assign rfl) ?_
        refine F.nil ?_
        refine Nrm.seq ?_
        refine Tri.seq ?_
        refine Tri.seq ?_
        refine Tri.reg (l := [0, 1, 2]) rfl ?_
        refine F.q rfl rfl rfl (wanted_none rfl) (r_move rfl) ?_
        refine F.q rfl rfl rfl (wanted_none rfl) (r_move rfl) ?_
        refine F.q rfl rfl rfl (wanted_none rfl) (r_eql rfl rfl) ?_
        refine F.nil ?_
        refine Nrm.seq ?_
        refine Tri.cond (b := x8 == x6) rfl (fun g_2 => ?_) (fun g_2 => ?_)
        · replace hE_1 := if_tt g_2 hE_1
          refine Tri.seq ?_
          refine Tri.reg (l := [0, 1]) rfl ?_
          refine F.q rfl rfl rfl (wanted_none rfl) (r_move rfl) ?_
          refine F.q rfl rfl rfl (wanted_none rfl) (r_assign rfl) ?_
          refine F.nil ?_
          refine Nrm.seq ?_
          refine Tri.ret ?_
          refine Rtn.then ?_
          refine Rtn.block ?_
          refine Rtn.then ?_
          refine Rtn.block ?_
          cases hE_1
          replace h := Lr_inr h
          cases h
          exact Rtn.body (.tmp rfl .nil) (fun w hw => ⟨_, _, rfl, ⟨S37_1, hl_v37_1, rfl⟩, Sep.pick (is := [3]) rfl rfl hw⟩)
        · replace hE_1 := if_ff g_2 hE_1
          refine Tri.skip ?_
          refine Nrm.seq ?_
          refine Tri.reg (l := [0, 1]) rfl ?_
          refine F.q rfl rfl rfl (wanted_none rfl) (r_move rfl) ?_
          refine F.q rfl rfl rfl (wanted_none rfl) (r_assign rfl) ?_
          refine F.nil ?_
          refine Nrm.block ?_
          refine Nrm.round ?_
          refine Rnd.only [2, 5, 6] rfl ?_
          refine Rnd.pick [1, 3] rfl rfl ?_
          exact ih_1 _ _ ⟨x5 ++ ([(x6, t15)] : List (Int × Int)), x8, v37_1, S37_1, hE_1, hl_v37_1, rfl, rfl⟩

end Go.Proofs

/- loop.example/g01158/impl.atLast -/
namespace Go.Proofs
open Go Go.Ga
set_option linter.unusedVariables false
set_option maxRecDepth 100000
set_option maxHeartbeats 4000000
def impl_atLast.f (k : Nat) (a0_0 : Int) (a0_1 : List (Int × Int × Int)) (a0_2 : List Int) (a1 : Int) : Option (Int × Int) := (impl_rounds.f k a0_0 a0_1 a0_2 a1).bind fun t8 => (rdl t8 (w64 ((t8.length : Int) - 1))).bind fun t13 => some (t13.1, t13.2)

theorem impl_atLast.ok {k : Nat}  {a0_0 : Int} {a0_1 : List (Int × Int × Int)} {a0_2 : List Int} {a1 : Int} {r0 : Int} {r1 : Int} (h : impl_atLast.f k a0_0 a0_1 a0_2 a1 = some (r0, r1)) (w : World) {va0_1 : Value} {va0_2 : Value} (hr_a0_1 : Rd w va0_1 a0_1) (hr_a0_2 : Rd w va0_2 a0_2) :
    Calls Try.prog 120 ([.agg ([.int .i64 a0_0, va0_1, va0_2].toArray), .int .i64 a1] : List Value).toArray w (fun e w' => e = .returned (.agg [.int .i64 r0, .int .i64 r1].toArray) ∧ Ext w w') := by
  unfold impl_atLast.f at h
  have hl_va0_1 := hr_a0_1.len
  have hl_va0_2 := hr_a0_2.len
  refine Calls.of_tri (N := 15) Try.func120 rfl rfl rfl (Sep.nil (M := noM)) ?_
  refine Tri.seq ?_
  refine Tri.reg (l := [0, 1]) rfl ?_
  refine F.m rfl rfl rfl (wanted_none rfl) (m_boxG rfl rfl) ?_
  rintro _ _ ⟨b2_1, rfl, rfl⟩
  refine F.m rfl rfl rfl (wanted_none rfl) (m_alloc ti130) ?_
  rintro _ _ ⟨b4_1, rfl, rfl⟩
  refine F.nil ?_
  refine Nrm.seq ?_
  refine Tri.seq ?_
  obtain ⟨t8, h8, h⟩ := bind_some h
  refine Tri.reg (l := [0, 1, 2, 3]) rfl ?_
  refine F.q rfl rfl rfl (wanted_none rfl) (r_loadA ta31 ti31 rfl rfl (fun w hw => (box_cells (i := 1) rfl w hw))) ?_
  refine F.q rfl rfl rfl (wanted_none rfl) (r_move rfl) ?_
  refine F.m rfl rfl rfl (wanted_none rfl) (m_callF (xs := _) rfl ok144 rfl rfl (fun w hw => impl_rounds.ok h8 w ((fun _ hw => hr_a0_1.sep hw) w hw) ((fun _ hw => hr_a0_2.sep hw) w hw))) ?_
  rintro v8_1 _ ⟨_, ⟨S8_1, hl_v8_1, rfl⟩, rfl⟩
  refine F.q rfl rfl rfl (wanted_none rfl) (r_assign rfl) ?_
  refine F.nil ?_
  refine Nrm.seq ?_
  refine Tri.seq ?_
  obtain ⟨t13, h13, h⟩ := bind_some h
  refine Tri.reg (l := [0, 1, 2, 3, 4, 5, 6]) rfl ?_
  refine F.q rfl rfl rfl (wanted_none rfl) (r_move rfl) ?_
  refine F.q rfl rfl rfl (wanted_none rfl) (r_move rfl) ?_
  refine F.q rfl rfl rfl (wanted_none rfl) (r_len Try.underlying146 rfl hl_v8_1) ?_
  refine F.q rfl rfl rfl (wanted_none rfl) (r_sub rfl rfl) ?_
  refine F.q rfl rfl rfl (wanted_none rfl) (r_indexAddrS Try.underlying146 ti130 rfl hl_v8_1 rfl (rdl_some h13).1 (rdl_some h13).2.1) ?_
  refine F.q rfl rfl rfl (wanted_none rfl) (r_loadA ta130 ti130 rfl rfl (fun w hw => (Rd.flat ((rd_sl (i := 0) rfl) w hw) (rdl_some h13).2.2))) ?_
  refine F.ef0 rfl rfl (wanted_none rfl) (d_storeG0 (i := 1) (cs2 := [.int .i64 t13.1, .int .i64 t13.2]) ti130 rfl rfl rfl rfl rfl (Nat.le_of_ble_eq_true rfl) (lf_cons rfl (lf_cons rfl lf_nil))) ?_
  rintro _ _ ⟨rfl, rfl⟩
  refine F.nil ?_
  refine Nrm.seq ?_
  refine Tri.ret ?_
  cases h
  exact Rtn.body (.cell rfl ta130 ti130 rfl (fun _ hw => box_cells (i := 1) rfl _ hw) .nil) (fun w hw => ⟨rfl, hw.ext⟩)

end Go.Proofs

/- loop.example/g01158/impl.filled -/
namespace Go.Proofs
open Go Go.Ga
set_option linter.unusedVariables false
set_option maxRecDepth 100000
set_option maxHeartbeats 4000000
def impl_filled.l0 (k : Nat) (a3 : List Int) (a4 : List Int) (t25 : List Int) (yb14_2_0 : Int) (yb14_2_1 : List (Int × Int × Int)) : Nat → Int → (List (Int)) → Int → (List (Int)) → Option ((List (Int)))
  | 0, _, _, _, _ => none
  | n + 1, x2, x15, x52, xq14_2_2 => (if (decide (x52 < (a3.length : Int))) = true then (rdl a3 x52).bind fun t55 => if ¬ t55 < 0 then (impl_atLast.f k yb14_2_0 yb14_2_1 xq14_2_2 (bclr x2 (shl 1 t55))).bind fun (t63_1, t63_2) => (impl_members.f k t63_2).bind fun t65 => (rdl a4 x52).bind fun t69 => if ¬ (t65.length : Int) = 0 then (rdl t65 (rem t69 (t65.length : Int))).bind fun t74 => (rdl xq14_2_2 t74).bind fun t79 => if ¬ t55 < 0 then (rdl xq14_2_2 t74).bind fun t84 => (slices_Index_int_int.f k t25 t55).bind fun t88 => (rdl x15 t88).bind fun t90 => impl_filled.l0 k a3 a4 t25 yb14_2_0 yb14_2_1 n (bclr x2 (shl 1 t55)) (x15.set t88.toNat t74) (w64 (x52 + 1)) (xq14_2_2.set t74.toNat (bor t79 (shl 1 t55))) else none else none else none else some x15)

def impl_filled.f (k : Nat) (a0_0 : Int) (a0_1 : List (Int × Int × Int)) (a0_2 : List Int) (a1 : Int) (a2 : Int) (a3 : List Int) (a4 : List Int) : Option ((List Int) × Bool) := (impl_asked.f k a0_0 a0_1 a0_2 a1).bind fun t22 => (if (!t22) = true then some ([], false) else (impl_members.f k a1).bind fun t25 => (slices_Clone_int_int.f k a3).bind fun t27 => (slices_Sort_int_int.f k t27).bind fun t29 => ((slices_Equal_int_int.f k t29 t25).bind fun t32 => (if (!t32) = true then some true else (if ((a4.length : Int) != (a3.length : Int)) = true then some true else (slices_ContainsFunc_int_int.f k a4 (fun z0 => impl_filled_1.f k z0)).bind fun t43 => some t43))).bind fun y44 => (if y44 = true then some ([], false) else ((impl_laid.f k a0_0 a0_1 a0_2 [] []).bind fun (t46_1, t46_2, t46_3) => if 0 ≤ (t25.length : Int) ∧ (t25.length : Int) < 1099511627776 then some (List.replicate ((t25.length : Int)).toNat (0 : Int), t46_1, t46_2, t46_3) else none).bind fun (y15, yb14_2_0, yb14_2_1, yb14_2_2) => (impl_filled.l0 k a3 a4 t25 yb14_2_0 yb14_2_1 k a2 y15 0 yb14_2_2).bind fun x15 => some (x15, true)))

theorem impl_filled.ok {k : Nat}  {a0_0 : Int} {a0_1 : List (Int × Int × Int)} {a0_2 : List Int} {a1 : Int} {a2 : Int} {a3 : List Int} {a4 : List Int} {r0 : List Int} {r1 : Bool} (h : impl_filled.f k a0_0 a0_1 a0_2 a1 a2 a3 a4 = some (r0, r1)) (w : World) {va0_1 : Value} {va0_2 : Value} {va3 : Value} {va4 : Value} (hr_a0_1 : Rd w va0_1 a0_1) (hr_a0_2 : Rd w va0_2 a0_2) (hr_a3 : Rd w va3 a3) (hr_a4 : Rd w va4 a4) :
    Calls Try.prog 81 ([.agg ([.int .i64 a0_0, va0_1, va0_2].toArray), .int .i64 a1, .int .i64 a2, va3, va4] : List Value).toArray w (Post (fun u ns => ∃ (ur0 : Value) (Sr0 : Nat → Prop), u = .tuple #[ur0, .bool r1] ∧ SlLen ur0 r0.length ∧ ns = [R.sl Sr0 ur0 r0]) w) := by
  unfold impl_filled.f at h
  have hl_va0_1 := hr_a0_1.len
  have hl_va0_2 := hr_a0_2.len
  have hl_va3 := hr_a3.len
  have hl_va4 := hr_a4.len
  refine Calls.of_tri (N := 93) Try.func81 rfl rfl rfl (Sep.nil (M := noM)) ?_
  refine Tri.seq ?_
  refine Tri.reg (l := [0, 1, 2]) rfl ?_
  refine F.m rfl rfl rfl (wanted_none rfl) (m_boxG rfl rfl) ?_
  rintro _ _ ⟨b5_1, rfl, rfl⟩
  refine F.q rfl rfl rfl (wanted_none rfl) (r_assign rfl) ?_
  refine F.q rfl rfl rfl (wanted_none rfl) (r_assign rfl) ?_
  refine F.nil ?_
  refine Nrm.seq ?_
  refine Tri.seq ?_
  refine Tri.seq ?_
  obtain ⟨t22, h22, h⟩ := bind_some h
  refine Tri.reg (l := [0, 1, 2, 3]) rfl ?_
  refine F.q rfl rfl rfl (wanted_none rfl) (r_loadA ta31 ti31 rfl rfl (fun w hw => (box_cells (i := 0) rfl w hw))) ?_
  refine F.q rfl rfl rfl (wanted_none rfl) (r_move rfl) ?_
  refine F.qc rfl rfl rfl (wanted_none rfl) (q_callF (xs := _) rfl ok65 rfl rfl (fun w hw => impl_asked.ok h22 w ((fun _ hw => hr_a0_1.sep hw) w hw) ((fun _ hw => hr_a0_2.sep hw) w hw))) ?_
  refine F.q rfl rfl rfl (wanted_none rfl) (r_not rfl) ?_
  refine F.nil ?_
  refine Nrm.seq ?_
  refine Tri.cond (b := !t22) rfl (fun g_1 => ?_) (fun g_1 => ?_)
  · replace h := if_tt g_1 h
    refine Tri.seq ?_
    refine Tri.reg (l := [0, 1]) rfl ?_
    refine F.q rfl rfl rfl (wanted_none rfl) (r_assign rfl) ?_
    refine F.q rfl rfl rfl (wanted_none rfl) (r_assign rfl) ?_
    refine F.nil ?_
    refine Nrm.seq ?_
    refine Tri.ret ?_
    refine Rtn.then ?_
    cases h
    exact Rtn.body (.tmp rfl (.tmp rfl .nil)) (fun w hw => ⟨_, _, rfl, ⟨.slice none 0 0, fun _ => False, rfl, len_nil, rfl⟩, Sep.pick (is := [0]) rfl rfl hw.pushNil⟩)
  · replace h := if_ff g_1 h
    refine Tri.skip ?_
    refine Nrm.seq ?_
    refine Tri.seq ?_
    obtain ⟨t25, h25, h⟩ := bind_some h
    refine Tri.reg (l := [0, 1, 2]) rfl ?_
    refine F.q rfl rfl rfl (wanted_none rfl) (r_move rfl) ?_
    refine F.m rfl rfl rfl (wanted_none rfl) (m_callF (xs := _) rfl ok68 rfl rfl (fun w hw => impl_members.ok h25 w )) ?_
    rintro v25_1 _ ⟨_, ⟨S25_1, hl_v25_1, rfl⟩, rfl⟩
    refine F.q rfl rfl rfl (wanted_none rfl) (r_assign rfl) ?_
    refine F.nil ?_
    refine Nrm.seq ?_
    refine Tri.seq ?_
    obtain ⟨t27, h27, h⟩ := bind_some h
    refine Tri.reg (l := [0, 1, 2]) rfl ?_
    refine F.q rfl rfl rfl (wanted_none rfl) (r_move rfl) ?_
    refine F.m rfl rfl rfl (wanted_none rfl) (m_callF (xs := _) rfl ok105 rfl rfl (fun w hw => slices_Clone_int_int.ok h27 w ((fun _ hw => hr_a3.sep hw) w hw))) ?_
    rintro v27_1 _ ⟨_, ⟨S27_1, hl_v27_1, rfl⟩, rfl⟩
    refine F.q rfl rfl rfl (wanted_none rfl) (r_assign rfl) ?_
    refine F.nil ?_
    refine Nrm.seq ?_
    refine Tri.seq ?_
    obtain ⟨t29, h29, h⟩ := bind_some h
    refine Tri.reg (l := [0, 1]) rfl ?_
    refine F.q rfl rfl rfl (wanted_none rfl) (r_move rfl) ?_
    refine F.ef rfl rfl rfl (wanted_none rfl) (d_callM (xs := _) (cs := [R.sl S27_1 v27_1 (t27 : List (Int))]) (rest := [R.sl S25_1 v25_1 (t25 : List (Int)), R.box b5_1 31 [.int .i64 a0_0, va0_1, va0_2]]) [0] [1, 2] rfl ok116 rfl rfl rfl rfl (fun w hw => slices_Sort_int_int.ok h29 w hl_v27_1 (Sep.sub hw))) ?_
    rintro _ _ ⟨_, ⟨rfl, hl_t29, rfl⟩, rfl⟩
    refine F.nil ?_
    refine Nrm.seq ?_
    refine Tri.seq ?_
    refine Tri.seq ?_
    obtain ⟨y44, hE_1, h⟩ := bind_some h
    refine Tri.cut (fun e' C' => e' = [(2, .int .i64 a2), (3, va3), (4, va4), (5, .pointer (some ⟨b5_1, 0, none⟩)), (12, v25_1), (44, .bool y44)] ∧ C' = Sep w noM [R.box b5_1 31 [.int .i64 a0_0, va0_1, va0_2], R.sl S25_1 v25_1 (t25 : List (Int))]) ?_ (fun hj_1 => ?_)
    · rintro _ _ ⟨rfl, rfl⟩
      refine Nrm.seq ?_
      refine Tri.cond (b := y44) rfl (fun g_2 => ?_) (fun g_2 => ?_)
      · replace h := if_tt g_2 h
        refine Tri.seq ?_
        refine Tri.reg (l := [0, 1]) rfl ?_
        refine F.q rfl rfl rfl (wanted_none rfl) (r_assign rfl) ?_
        refine F.q rfl rfl rfl (wanted_none rfl) (r_assign rfl) ?_
        refine F.nil ?_
        refine Nrm.seq ?_
        refine Tri.ret ?_
        refine Rtn.then ?_
        cases h
        exact Rtn.body (.tmp rfl (.tmp rfl .nil)) (fun w hw => ⟨_, _, rfl, ⟨.slice none 0 0, fun _ => False, rfl, len_nil, rfl⟩, Sep.pick (is := [0]) rfl rfl hw.pushNil⟩)
      · replace h := if_ff g_2 h
        refine Tri.skip ?_
        refine Nrm.seq ?_
        refine Tri.seq ?_
        obtain ⟨⟨y15, yb14_2_0, yb14_2_1, yb14_2_2⟩, hE_2, h⟩ := bind_some h
        refine Tri.cut (fun e' C' => ∃ (v15_1 : Value) (S15_1 : Nat → Prop) (vb14_2_1_1 : Value) (Sb14_2_1_1 : Nat → Prop) (vb14_2_2_1 : Value) (Sb14_2_2_1 : Nat → Prop) (b14_2 : Nat), SlLen v15_1 (y15).length ∧ SlLen vb14_2_1_1 (yb14_2_1).length ∧ SlLen vb14_2_2_1 (yb14_2_2).length ∧ e' = [(2, .int .i64 a2), (3, va3), (4, va4), (12, v25_1), (14, .pointer (some ⟨b14_2, 0, none⟩)), (15, v15_1)] ∧ C' = Sep w noM [R.box b14_2 31 [.int .i64 yb14_2_0, vb14_2_1_1, vb14_2_2_1], R.sl S15_1 v15_1 (y15 : List (Int)), R.sl Sb14_2_1_1 vb14_2_1_1 (yb14_2_1 : List (Int × Int × Int)), R.sl Sb14_2_2_1 vb14_2_2_1 (yb14_2_2 : List (Int)), R.sl S25_1 v25_1 (t25 : List (Int))]) ?_ (fun hj_2 => ?_)
        · rintro _ _ ⟨v15_1, S15_1, vb14_2_1_1, Sb14_2_1_1, vb14_2_2_1, Sb14_2_2_1, b14_2, hl_v15_1, hl_vb14_2_1_1, hl_vb14_2_2_1, rfl, rfl⟩
          refine Nrm.seq ?_
          refine Tri.seq ?_
          refine Tri.seq ?_
          refine Tri.reg (l := [0, 1, 2]) rfl ?_
          refine F.q rfl rfl rfl (wanted_none rfl) (r_move rfl) ?_
          refine F.q rfl rfl rfl (wanted_none rfl) (r_len Try.underlying23 rfl hl_va3) ?_
          refine F.q rfl rfl rfl (wanted_none rfl) (r_move rfl) ?_
          refine F.nil ?_
          refine Nrm.seq ?_
          obtain ⟨x15, hE_3, h⟩ := bind_some h
          refine Tri.block ?_
          refine Tri.only [2, 4, 12, 14, 15, 50, 51, 52] rfl ?_
          refine Tri.pick [0, 1, 2, 3, 4] rfl rfl ?_
          refine Tri.rounds (fun n e' C' => ∃ (x2' : Int) (x15' : List (Int)) (x52' : Int) (xq14_2_2' : List (Int)), impl_filled.l0 k a3 a4 t25 yb14_2_0 yb14_2_1 n x2' x15' x52' xq14_2_2' = some x15 ∧ SlLen v15_1 (x15').length ∧ SlLen vb14_2_2_1 (xq14_2_2').length ∧ e' = [(2, .int .i64 x2'), (4, va4), (12, v25_1), (14, .pointer (some ⟨b14_2, 0, none⟩)), (15, v15_1), (50, va3), (51, .int .i64 (a3.length : Int)), (52, .int .i64 x52')] ∧ C' = Sep w noM [R.box b14_2 31 [.int .i64 yb14_2_0, vb14_2_1_1, vb14_2_2_1], R.sl S15_1 v15_1 (x15' : List (Int)), R.sl Sb14_2_1_1 vb14_2_1_1 (yb14_2_1 : List (Int × Int × Int)), R.sl Sb14_2_2_1 vb14_2_2_1 (xq14_2_2' : List (Int)), R.sl S25_1 v25_1 (t25 : List (Int))]) k ?_ ?_ ?_
          · exact ⟨a2, y15, 0, yb14_2_2, hE_3, hl_v15_1, hl_vb14_2_2_1, rfl, rfl⟩
          · rintro _ _ ⟨_, _, _, _, hE_3, _⟩
            rw [impl_filled.l0.eq_1] at hE_3; cases hE_3
          · rintro n_1 _ _ ⟨x2, x15, x52, xq14_2_2, hE_3, hl_x15, hl_xq14_2_2, rfl, rfl⟩ ih_1
            rw [impl_filled.l0.eq_2] at hE_3
            refine Tri.seq ?_
            refine Tri.reg (l := [0]) rfl ?_
            refine F.q rfl rfl rfl (wanted_none rfl) (r_lss rfl rfl) ?_
            refine F.nil ?_
            refine Nrm.seq ?_
            refine Tri.seq ?_
            refine Tri.cond (b := decide (x52 < (a3.length : Int))) rfl (fun g_3 => ?_) (fun g_3 => ?_)
            · replace hE_3 := if_tt g_3 hE_3
              refine Tri.skip ?_
              refine Nrm.seq ?_
              refine Tri.seq ?_
              refine Tri.block ?_
              refine Tri.seq ?_
              obtain ⟨t55, h55, hE_3⟩ := bind_some hE_3
              refine Tri.reg (l := [0, 1, 2, 3, 4]) rfl ?_
              refine F.q rfl rfl rfl (wanted_none rfl) (r_move rfl) ?_
              refine F.q rfl rfl rfl (wanted_none rfl) (r_indexAddrS Try.underlying23 ti3 rfl hl_va3 rfl (rdl_some h55).1 (rdl_some h55).2.1) ?_
              refine F.q rfl rfl rfl (wanted_none rfl) (r_load ta3 rfl (fun w hw => cell_0 (Rd.flat ((fun _ hw => hr_a3.sep hw) w hw) (rdl_some h55).2.2) rfl)) ?_
              refine F.q rfl rfl rfl (wanted_none rfl) (r_assign rfl) ?_
              refine F.q rfl rfl rfl (wanted_none rfl) (r_assign rfl) ?_
              refine F.nil ?_
              refine Nrm.seq ?_
              refine Tri.seq ?_
              obtain ⟨hs59, hE_3⟩ := ck hE_3
              refine Tri.reg (l := [0, 1, 2, 3, 4]) rfl ?_
              refine F.q rfl rfl rfl (wanted_none rfl) (r_move rfl) ?_
              refine F.q rfl rfl rfl (wanted_none rfl) (r_move rfl) ?_
              refine F.q rfl rfl rfl (wanted_none rfl) (r_shl rfl rfl hs59) ?_
              refine F.q rfl rfl rfl (wanted_none rfl) (r_andNot rfl rfl) ?_
              refine F.q rfl rfl rfl (wanted_none rfl) (r_assign rfl) ?_
              refine F.nil ?_
              refine Nrm.seq ?_
              refine Tri.seq ?_
              obtain ⟨⟨t63_1, t63_2⟩, h63, hE_3⟩ := bind_some hE_3
              obtain ⟨t65, h65, hE_3⟩ := bind_some hE_3
              refine Tri.reg (l := [0, 1, 2, 3, 4, 5]) rfl ?_
              refine F.q rfl rfl rfl (wanted_none rfl) (r_loadA ta31 ti31 rfl rfl (fun w hw => (box_cells (i := 0) rfl w hw))) ?_
              refine F.q rfl rfl rfl (wanted_none rfl) (r_move rfl) ?_
              refine F.qc rfl rfl rfl (wanted_none rfl) (q_callF (xs := _) rfl ok120 rfl rfl (fun w hw => impl_atLast.ok h63 w ((rd_sl (i := 2) rfl) w hw) ((rd_sl (i := 3) rfl) w hw))) ?_
              refine F.q rfl rfl rfl (wanted_none rfl) (r_field Try.underlying130 rfl ta3 rfl rfl) ?_
              refine F.m rfl rfl rfl (wanted_none rfl) (m_callF (xs := _) rfl ok68 rfl rfl (fun w hw => impl_members.ok h65 w )) ?_
              rintro v65_1 _ ⟨_, ⟨S65_1, hl_v65_1, rfl⟩, rfl⟩
              refine F.q rfl rfl rfl (wanted_none rfl) (r_assign rfl) ?_
              refine F.nil ?_
              refine Nrm.seq ?_
              refine Tri.seq ?_
              obtain ⟨t69, h69, hE_3⟩ := bind_some hE_3
              obtain ⟨hs73, hE_3⟩ := ck hE_3
              obtain ⟨t74, h74, hE_3⟩ := bind_some hE_3
              refine Tri.reg (l := [0, 1, 2, 3, 4, 5, 6, 7, 8, 9, 10]) rfl ?_
              refine F.q rfl rfl rfl (wanted_none rfl) (r_move rfl) ?_
              refine F.q rfl rfl rfl (wanted_none rfl) (r_move rfl) ?_
              refine F.q rfl rfl rfl (wanted_none rfl) (r_move rfl) ?_
              refine F.q rfl rfl rfl (wanted_none rfl) (r_indexAddrS Try.underlying23 ti3 rfl hl_va4 rfl (rdl_some h69).1 (rdl_some h69).2.1) ?_
              refine F.q rfl rfl rfl (wanted_none rfl) (r_load ta3 rfl (fun w hw => cell_0 (Rd.flat ((fun _ hw => hr_a4.sep hw) w hw) (rdl_some h69).2.2) rfl)) ?_
              refine F.q rfl rfl rfl (wanted_none rfl) (r_move rfl) ?_
              refine F.q rfl rfl rfl (wanted_none rfl) (r_len Try.underlying23 rfl hl_v65_1) ?_
              refine F.q rfl rfl rfl (wanted_none rfl) (r_rem rfl rfl hs73) ?_
              refine F.q rfl rfl rfl (wanted_none rfl) (r_indexAddrS Try.underlying23 ti3 rfl hl_v65_1 rfl (rdl_some h74).1 (rdl_some h74).2.1) ?_
              refine F.q rfl rfl rfl (wanted_none rfl) (r_load ta3 rfl (fun w hw => cell_0 (Rd.flat ((rd_sl (i := 0) rfl) w hw) (rdl_some h74).2.2) rfl)) ?_
              refine F.q rfl rfl rfl (wanted_none rfl) (r_assign rfl) ?_
              refine F.nil ?_
              refine Nrm.seq ?_
              refine Tri.seq ?_
              obtain ⟨t79, h79, hE_3⟩ := bind_some hE_3
              obtain ⟨hs82, hE_3⟩ := ck hE_3
              obtain ⟨t84, h84, hE_3⟩ := bind_some hE_3
              refine Tri.drawA mixedT Sep.up [(0, true), (1, true), (2, true), (3, true), (4, true), (5, true), (6, true), (7, true), (8, true)] [9] (by kernel_rfl) ?_
              refine S.q rfl rfl rfl (wanted_none rfl) (r_fieldAddr tf31_2 rfl) ?_
              refine S.q rfl rfl rfl (wanted_none rfl) (r_load ta23 rfl (fun w hw => cell_1 (box_cells (i := 1) rfl w hw) rfl)) ?_
              refine S.q rfl rfl rfl (wanted_none rfl) (r_move rfl) ?_
              refine S.q rfl rfl rfl (wanted_none rfl) (r_indexAddrS Try.underlying23 ti3 rfl hl_xq14_2_2 rfl (rdl_some h79).1 (rdl_some h79).2.1) ?_
              refine S.q rfl rfl rfl (wanted_none rfl) (r_load ta3 rfl (fun w hw => cell_0 (Rd.flat ((rd_sl (i := 4) rfl) w hw) (rdl_some h79).2.2) rfl)) ?_
              refine S.q rfl rfl rfl (wanted_none rfl) (r_move rfl) ?_
              refine S.q rfl rfl rfl (wanted_none rfl) (r_shl rfl rfl hs82) ?_
              refine S.q rfl rfl rfl (wanted_none rfl) (r_or rfl rfl) ?_
              refine S.q rfl rfl rfl (wanted_none rfl) (r_indexAddrS Try.underlying23 ti3 rfl hl_xq14_2_2 rfl (rdl_some h84).1 (rdl_some h84).2.1) ?_
              refine S.nil ?_
              refine F.ef0 rfl rfl (wanted_none rfl) (d_storeE (i := 4) (x1 := bor t79 (shl 1 t55)) ti3 rfl rfl rfl (rdl_some h84) rfl) ?_
              rintro _ _ ⟨rfl, rfl⟩
              refine F.nil ?_
              refine Nrm.seq ?_
              obtain ⟨t88, h88, hE_3⟩ := bind_some hE_3
              obtain ⟨t90, h90, hE_3⟩ := bind_some hE_3
              refine Tri.reg (l := [0, 1, 2, 3, 4, 5, 6]) rfl ?_
              refine F.q rfl rfl rfl (wanted_none rfl) (r_move rfl) ?_
              refine F.q rfl rfl rfl (wanted_none rfl) (r_move rfl) ?_
              refine F.q rfl rfl rfl (wanted_none rfl) (r_move rfl) ?_
              refine F.qc rfl rfl rfl (wanted_none rfl) (q_callF (xs := _) rfl ok78 rfl rfl (fun w hw => slices_Index_int_int.ok h88 w ((rd_sl (i := 5) rfl) w hw))) ?_
              refine F.q rfl rfl rfl (wanted_none rfl) (r_move rfl) ?_
              refine F.q rfl rfl rfl (wanted_none rfl) (r_indexAddrS Try.underlying23 ti3 rfl hl_x15 rfl (rdl_some h90).1 (rdl_some h90).2.1) ?_
              refine F.ef0 rfl rfl (wanted_none rfl) (d_storeE (i := 2) (x1 := t74) ti3 rfl rfl rfl (rdl_some h90) rfl) ?_
              rintro _ _ ⟨rfl, rfl⟩
              refine F.nil ?_
              refine Nrm.block ?_
              refine Nrm.seq ?_
              refine Tri.reg (l := [0, 1]) rfl ?_
              refine F.q rfl rfl rfl (wanted_none rfl) (r_add rfl rfl) ?_
              refine F.q rfl rfl rfl (wanted_none rfl) (r_move rfl) ?_
              refine F.nil ?_
              refine Nrm.round ?_
              refine Rnd.only [2, 4, 12, 14, 15, 50, 51, 52] rfl ?_
              refine Rnd.pick [1, 2, 3, 4, 5] rfl rfl ?_
              exact ih_1 _ _ ⟨bclr x2 (shl 1 t55), x15.set t88.toNat t74, w64 (x52 + 1), xq14_2_2.set t74.toNat (bor t79 (shl 1 t55)), hE_3, (len_set hl_x15), (len_set hl_xq14_2_2), rfl, rfl⟩
            · replace hE_3 := if_ff g_3 hE_3
              refine Tri.exit ?_
              refine Exi.then ?_
              refine Exi.then ?_
              refine Exi.same ?_
              cases hE_3
              refine Nrm.seq ?_
              refine Tri.seq ?_
              refine Tri.reg (l := [0, 1, 2]) rfl ?_
              refine F.q rfl rfl rfl (wanted_none rfl) (r_move rfl) ?_
              refine F.q rfl rfl rfl (wanted_none rfl) (r_assign rfl) ?_
              refine F.q rfl rfl rfl (wanted_none rfl) (r_assign rfl) ?_
              refine F.nil ?_
              refine Nrm.seq ?_
              refine Tri.ret ?_
              cases h
              exact Rtn.body (.tmp rfl (.tmp rfl .nil)) (fun w hw => ⟨_, _, rfl, ⟨v15_1, S15_1, rfl, hl_x15, rfl⟩, Sep.pick (is := [1]) rfl rfl hw⟩)
        · obtain ⟨⟨t46_1, t46_2, t46_3⟩, h46, hE_2⟩ := bind_some hE_2
          obtain ⟨hm49, hE_2⟩ := ck hE_2
          refine Tri.drawT mixedT Sep.up [0, 2, 3, 1, 4, 5, 6] [7] (.q 0 (.q 2 (.q 3 (.alt 1 (.alt 4 (.alt 5 (.alt 6 .nil .stop) .stop) (.alt 5 (.alt 4 (.alt 6 .nil .stop) (.alt 6 (.alt 4 .nil .stop) .stop)) .stop)) (.alt 4 (.alt 1 (.alt 5 (.alt 6 .nil .stop) .stop) (.alt 5 (.alt 1 (.alt 6 .nil .stop) .stop) .stop)) (.alt 5 (.alt 1 (.alt 4 (.alt 6 .nil .stop) (.alt 6 (.alt 4 .nil .stop) .stop)) (.alt 4 (.alt 1 (.alt 6 .nil .stop) .stop) .stop)) .stop)))))) (by kernel_rfl) ?_
          refine T.q rfl rfl rfl (wanted_none rfl) (r_loadA ta31 ti31 rfl rfl (fun w hw => (box_cells (i := 0) rfl w hw))) ?_
          refine T.q rfl rfl rfl (wanted_none rfl) (r_move rfl) ?_
          refine T.q rfl rfl rfl (wanted_none rfl) (r_len Try.underlying23 rfl hl_v25_1) ?_
          refine T.ef rfl rfl rfl (wanted_none rfl) (Makes.does (m_callF (xs := _) rfl ok104 rfl rfl (fun w hw => impl_laid.ok h46 w ((fun _ hw => hr_a0_1.sep hw) w hw) ((fun _ hw => hr_a0_2.sep hw) w hw) ((fun _ _ => rd_nil) w hw) ((fun _ _ => rd_nil) w hw)))) (by rintro _ _ ⟨_, ⟨v46_3, S46_3, v46_4, S46_4, rfl, hl_v46_3, hl_v46_4, rfl⟩, rfl⟩; exact upd rfl [2, 3] rfl rfl) ?_ ?_
          · rintro _ _ ⟨_, ⟨v46_3, S46_3, v46_4, S46_4, rfl, hl_v46_3, hl_v46_4, rfl⟩, rfl⟩
            refine T.ef rfl rfl rfl (wanted_none rfl) (Makes.does (m_make (x0 := (0 : Int)) Try.underlying23 ti3 rfl rfl rfl hm49.1 hm49.2 (by decide))) (by rintro v49_2 _ ⟨S49_2, hl_v49_2, rfl⟩; exact upd rfl [3, 4] rfl rfl) ?_ ?_
            · rintro v49_2 _ ⟨S49_2, hl_v49_2, rfl⟩
              refine T.ef rfl rfl rfl (wanted_none rfl) (Makes.does (m_alloc ti31)) (by rintro _ _ ⟨b14_3, rfl, rfl⟩; exact upd rfl [4, 5] rfl rfl) ?_ ?_
              · rintro _ _ ⟨b14_3, rfl, rfl⟩
                refine T.ef0 rfl rfl (wanted_none rfl) (d_storeG0 (i := 0) (cs2 := [.int .i64 t46_1, v46_3, v46_4]) ti31 rfl rfl rfl rfl rfl (Nat.le_of_ble_eq_true rfl) (lf_cons rfl (lf_cons (sl_leaf hl_v46_3) (lf_cons (sl_leaf hl_v46_4) lf_nil)))) (by rintro _ _ ⟨rfl, rfl⟩; exact upd rfl [4, 5] rfl rfl) ?_ ?_
                · rintro _ _ ⟨rfl, rfl⟩
                  refine T.nil ?_
                  refine F.q rfl rfl rfl (wanted_none rfl) (r_assign rfl) ?_
                  refine F.nil ?_
                  cases hE_2
                  refine Nrm.only [2, 3, 4, 12, 14, 15] rfl ?_
                  refine Nrm.pick [0, 1, 2, 3, 5] rfl rfl ?_
                  exact hj_2 _ _ ⟨v49_2, S49_2, v46_3, S46_3, v46_4, S46_4, b14_3, hl_v49_2, hl_v46_3, hl_v46_4, rfl, rfl⟩
                exact T.stop
              exact T.stop
            · refine T.ef rfl rfl rfl (wanted_none rfl) (Makes.does (m_alloc ti31)) (by rintro _ _ ⟨b14_4, rfl, rfl⟩; exact upd rfl [3, 4] rfl rfl) ?_ ?_
              · rintro _ _ ⟨b14_4, rfl, rfl⟩
                refine T.ef rfl rfl rfl (wanted_none rfl) (Makes.does (m_make (x0 := (0 : Int)) Try.underlying23 ti3 rfl rfl rfl hm49.1 hm49.2 (by decide))) (by rintro v49_3 _ ⟨S49_3, hl_v49_3, rfl⟩; exact upd rfl [4, 5] rfl rfl) ?_ ?_
                · rintro v49_3 _ ⟨S49_3, hl_v49_3, rfl⟩
                  refine T.ef0 rfl rfl (wanted_none rfl) (d_storeG0 (i := 1) (cs2 := [.int .i64 t46_1, v46_3, v46_4]) ti31 rfl rfl rfl rfl rfl (Nat.le_of_ble_eq_true rfl) (lf_cons rfl (lf_cons (sl_leaf hl_v46_3) (lf_cons (sl_leaf hl_v46_4) lf_nil)))) (by rintro _ _ ⟨rfl, rfl⟩; exact upd rfl [4, 5] rfl rfl) ?_ ?_
                  · rintro _ _ ⟨rfl, rfl⟩
                    refine T.nil ?_
                    refine F.q rfl rfl rfl (wanted_none rfl) (r_assign rfl) ?_
                    refine F.nil ?_
                    cases hE_2
                    refine Nrm.only [2, 3, 4, 12, 14, 15] rfl ?_
                    refine Nrm.pick [1, 0, 2, 3, 5] rfl rfl ?_
                    exact hj_2 _ _ ⟨v49_3, S49_3, v46_3, S46_3, v46_4, S46_4, b14_4, hl_v49_3, hl_v46_3, hl_v46_4, rfl, rfl⟩
                  exact T.stop
                · refine T.ef0 rfl rfl (wanted_none rfl) (d_storeG0 (i := 0) (cs2 := [.int .i64 t46_1, v46_3, v46_4]) ti31 rfl rfl rfl rfl rfl (Nat.le_of_ble_eq_true rfl) (lf_cons rfl (lf_cons (sl_leaf hl_v46_3) (lf_cons (sl_leaf hl_v46_4) lf_nil)))) (by rintro _ _ ⟨rfl, rfl⟩; exact upd rfl [3, 4] rfl rfl) ?_ ?_
                  · rintro _ _ ⟨rfl, rfl⟩
                    refine T.ef rfl rfl rfl (wanted_none rfl) (Makes.does (m_make (x0 := (0 : Int)) Try.underlying23 ti3 rfl rfl rfl hm49.1 hm49.2 (by decide))) (by rintro v49_4 _ ⟨S49_4, hl_v49_4, rfl⟩; exact upd rfl [4, 5] rfl rfl) ?_ ?_
                    · rintro v49_4 _ ⟨S49_4, hl_v49_4, rfl⟩
                      refine T.nil ?_
                      refine F.q rfl rfl rfl (wanted_none rfl) (r_assign rfl) ?_
                      refine F.nil ?_
                      cases hE_2
                      refine Nrm.only [2, 3, 4, 12, 14, 15] rfl ?_
                      refine Nrm.pick [1, 0, 2, 3, 5] rfl rfl ?_
                      exact hj_2 _ _ ⟨v49_4, S49_4, v46_3, S46_3, v46_4, S46_4, b14_4, hl_v49_4, hl_v46_3, hl_v46_4, rfl, rfl⟩
                    exact T.stop
                  exact T.stop
              exact T.stop
          · refine T.ef rfl rfl rfl (wanted_none rfl) (Makes.does (m_make (x0 := (0 : Int)) Try.underlying23 ti3 rfl rfl rfl hm49.1 hm49.2 (by decide))) (by rintro v49_5 _ ⟨S49_5, hl_v49_5, rfl⟩; exact upd rfl [1, 2] rfl rfl) ?_ ?_
            · rintro v49_5 _ ⟨S49_5, hl_v49_5, rfl⟩
              refine T.ef rfl rfl rfl (wanted_none rfl) (Makes.does (m_callF (xs := _) rfl ok104 rfl rfl (fun w hw => impl_laid.ok h46 w ((fun _ hw => hr_a0_1.sep hw) w hw) ((fun _ hw => hr_a0_2.sep hw) w hw) ((fun _ _ => rd_nil) w hw) ((fun _ _ => rd_nil) w hw)))) (by rintro _ _ ⟨_, ⟨v46_5, S46_5, v46_6, S46_6, rfl, hl_v46_5, hl_v46_6, rfl⟩, rfl⟩; exact upd rfl [3, 4] rfl rfl) ?_ ?_
              · rintro _ _ ⟨_, ⟨v46_5, S46_5, v46_6, S46_6, rfl, hl_v46_5, hl_v46_6, rfl⟩, rfl⟩
                refine T.ef rfl rfl rfl (wanted_none rfl) (Makes.does (m_alloc ti31)) (by rintro _ _ ⟨b14_5, rfl, rfl⟩; exact upd rfl [4, 5] rfl rfl) ?_ ?_
                · rintro _ _ ⟨b14_5, rfl, rfl⟩
                  refine T.ef0 rfl rfl (wanted_none rfl) (d_storeG0 (i := 0) (cs2 := [.int .i64 t46_1, v46_5, v46_6]) ti31 rfl rfl rfl rfl rfl (Nat.le_of_ble_eq_true rfl) (lf_cons rfl (lf_cons (sl_leaf hl_v46_5) (lf_cons (sl_leaf hl_v46_6) lf_nil)))) (by rintro _ _ ⟨rfl, rfl⟩; exact upd rfl [4, 5] rfl rfl) ?_ ?_
                  · rintro _ _ ⟨rfl, rfl⟩
                    refine T.nil ?_
                    refine F.q rfl rfl rfl (wanted_none rfl) (r_assign rfl) ?_
                    refine F.nil ?_
                    cases hE_2
                    refine Nrm.only [2, 3, 4, 12, 14, 15] rfl ?_
                    refine Nrm.pick [0, 3, 1, 2, 5] rfl rfl ?_
                    exact hj_2 _ _ ⟨v49_5, S49_5, v46_5, S46_5, v46_6, S46_6, b14_5, hl_v49_5, hl_v46_5, hl_v46_6, rfl, rfl⟩
                  exact T.stop
                exact T.stop
              · refine T.ef rfl rfl rfl (wanted_none rfl) (Makes.does (m_alloc ti31)) (by rintro _ _ ⟨b14_6, rfl, rfl⟩; exact upd rfl [2, 3] rfl rfl) ?_ ?_
                · rintro _ _ ⟨b14_6, rfl, rfl⟩
                  refine T.ef rfl rfl rfl (wanted_none rfl) (Makes.does (m_callF (xs := _) rfl ok104 rfl rfl (fun w hw => impl_laid.ok h46 w ((fun _ hw => hr_a0_1.sep hw) w hw) ((fun _ hw => hr_a0_2.sep hw) w hw) ((fun _ _ => rd_nil) w hw) ((fun _ _ => rd_nil) w hw)))) (by rintro _ _ ⟨_, ⟨v46_7, S46_7, v46_8, S46_8, rfl, hl_v46_7, hl_v46_8, rfl⟩, rfl⟩; exact upd rfl [4, 5] rfl rfl) ?_ ?_
                  · rintro _ _ ⟨_, ⟨v46_7, S46_7, v46_8, S46_8, rfl, hl_v46_7, hl_v46_8, rfl⟩, rfl⟩
                    refine T.ef0 rfl rfl (wanted_none rfl) (d_storeG0 (i := 2) (cs2 := [.int .i64 t46_1, v46_7, v46_8]) ti31 rfl rfl rfl rfl rfl (Nat.le_of_ble_eq_true rfl) (lf_cons rfl (lf_cons (sl_leaf hl_v46_7) (lf_cons (sl_leaf hl_v46_8) lf_nil)))) (by rintro _ _ ⟨rfl, rfl⟩; exact upd rfl [4, 5] rfl rfl) ?_ ?_
                    · rintro _ _ ⟨rfl, rfl⟩
                      refine T.nil ?_
                      refine F.q rfl rfl rfl (wanted_none rfl) (r_assign rfl) ?_
                      refine F.nil ?_
                      cases hE_2
                      refine Nrm.only [2, 3, 4, 12, 14, 15] rfl ?_
                      refine Nrm.pick [2, 3, 0, 1, 5] rfl rfl ?_
                      exact hj_2 _ _ ⟨v49_5, S49_5, v46_7, S46_7, v46_8, S46_8, b14_6, hl_v49_5, hl_v46_7, hl_v46_8, rfl, rfl⟩
                    exact T.stop
                  exact T.stop
                exact T.stop
            · refine T.ef rfl rfl rfl (wanted_none rfl) (Makes.does (m_alloc ti31)) (by rintro _ _ ⟨b14_7, rfl, rfl⟩; exact upd rfl [1, 2] rfl rfl) ?_ ?_
              · rintro _ _ ⟨b14_7, rfl, rfl⟩
                refine T.ef rfl rfl rfl (wanted_none rfl) (Makes.does (m_callF (xs := _) rfl ok104 rfl rfl (fun w hw => impl_laid.ok h46 w ((fun _ hw => hr_a0_1.sep hw) w hw) ((fun _ hw => hr_a0_2.sep hw) w hw) ((fun _ _ => rd_nil) w hw) ((fun _ _ => rd_nil) w hw)))) (by rintro _ _ ⟨_, ⟨v46_9, S46_9, v46_10, S46_10, rfl, hl_v46_9, hl_v46_10, rfl⟩, rfl⟩; exact upd rfl [3, 4] rfl rfl) ?_ ?_
                · rintro _ _ ⟨_, ⟨v46_9, S46_9, v46_10, S46_10, rfl, hl_v46_9, hl_v46_10, rfl⟩, rfl⟩
                  refine T.ef rfl rfl rfl (wanted_none rfl) (Makes.does (m_make (x0 := (0 : Int)) Try.underlying23 ti3 rfl rfl rfl hm49.1 hm49.2 (by decide))) (by rintro v49_6 _ ⟨S49_6, hl_v49_6, rfl⟩; exact upd rfl [4, 5] rfl rfl) ?_ ?_
                  · rintro v49_6 _ ⟨S49_6, hl_v49_6, rfl⟩
                    refine T.ef0 rfl rfl (wanted_none rfl) (d_storeG0 (i := 3) (cs2 := [.int .i64 t46_1, v46_9, v46_10]) ti31 rfl rfl rfl rfl rfl (Nat.le_of_ble_eq_true rfl) (lf_cons rfl (lf_cons (sl_leaf hl_v46_9) (lf_cons (sl_leaf hl_v46_10) lf_nil)))) (by rintro _ _ ⟨rfl, rfl⟩; exact upd rfl [4, 5] rfl rfl) ?_ ?_
                    · rintro _ _ ⟨rfl, rfl⟩
                      refine T.nil ?_
                      refine F.q rfl rfl rfl (wanted_none rfl) (r_assign rfl) ?_
                      refine F.nil ?_
                      cases hE_2
                      refine Nrm.only [2, 3, 4, 12, 14, 15] rfl ?_
                      refine Nrm.pick [3, 0, 1, 2, 5] rfl rfl ?_
                      exact hj_2 _ _ ⟨v49_6, S49_6, v46_9, S46_9, v46_10, S46_10, b14_7, hl_v49_6, hl_v46_9, hl_v46_10, rfl, rfl⟩
                    exact T.stop
                  · refine T.ef0 rfl rfl (wanted_none rfl) (d_storeG0 (i := 2) (cs2 := [.int .i64 t46_1, v46_9, v46_10]) ti31 rfl rfl rfl rfl rfl (Nat.le_of_ble_eq_true rfl) (lf_cons rfl (lf_cons (sl_leaf hl_v46_9) (lf_cons (sl_leaf hl_v46_10) lf_nil)))) (by rintro _ _ ⟨rfl, rfl⟩; exact upd rfl [3, 4] rfl rfl) ?_ ?_
                    · rintro _ _ ⟨rfl, rfl⟩
                      refine T.ef rfl rfl rfl (wanted_none rfl) (Makes.does (m_make (x0 := (0 : Int)) Try.underlying23 ti3 rfl rfl rfl hm49.1 hm49.2 (by decide))) (by rintro v49_7 _ ⟨S49_7, hl_v49_7, rfl⟩; exact upd rfl [4, 5] rfl rfl) ?_ ?_
                      · rintro v49_7 _ ⟨S49_7, hl_v49_7, rfl⟩
                        refine T.nil ?_
                        refine F.q rfl rfl rfl (wanted_none rfl) (r_assign rfl) ?_
                        refine F.nil ?_
                        cases hE_2
                        refine Nrm.only [2, 3, 4, 12, 14, 15] rfl ?_
                        refine Nrm.pick [3, 0, 1, 2, 5] rfl rfl ?_
                        exact hj_2 _ _ ⟨v49_7, S49_7, v46_9, S46_9, v46_10, S46_10, b14_7, hl_v49_7, hl_v46_9, hl_v46_10, rfl, rfl⟩
                      exact T.stop
                    exact T.stop
                · refine T.ef rfl rfl rfl (wanted_none rfl) (Makes.does (m_make (x0 := (0 : Int)) Try.underlying23 ti3 rfl rfl rfl hm49.1 hm49.2 (by decide))) (by rintro v49_8 _ ⟨S49_8, hl_v49_8, rfl⟩; exact upd rfl [2, 3] rfl rfl) ?_ ?_
                  · rintro v49_8 _ ⟨S49_8, hl_v49_8, rfl⟩
                    refine T.ef rfl rfl rfl (wanted_none rfl) (Makes.does (m_callF (xs := _) rfl ok104 rfl rfl (fun w hw => impl_laid.ok h46 w ((fun _ hw => hr_a0_1.sep hw) w hw) ((fun _ hw => hr_a0_2.sep hw) w hw) ((fun _ _ => rd_nil) w hw) ((fun _ _ => rd_nil) w hw)))) (by rintro _ _ ⟨_, ⟨v46_11, S46_11, v46_12, S46_12, rfl, hl_v46_11, hl_v46_12, rfl⟩, rfl⟩; exact upd rfl [4, 5] rfl rfl) ?_ ?_
                    · rintro _ _ ⟨_, ⟨v46_11, S46_11, v46_12, S46_12, rfl, hl_v46_11, hl_v46_12, rfl⟩, rfl⟩
                      refine T.ef0 rfl rfl (wanted_none rfl) (d_storeG0 (i := 3) (cs2 := [.int .i64 t46_1, v46_11, v46_12]) ti31 rfl rfl rfl rfl rfl (Nat.le_of_ble_eq_true rfl) (lf_cons rfl (lf_cons (sl_leaf hl_v46_11) (lf_cons (sl_leaf hl_v46_12) lf_nil)))) (by rintro _ _ ⟨rfl, rfl⟩; exact upd rfl [4, 5] rfl rfl) ?_ ?_
                      · rintro _ _ ⟨rfl, rfl⟩
                        refine T.nil ?_
                        refine F.q rfl rfl rfl (wanted_none rfl) (r_assign rfl) ?_
                        refine F.nil ?_
                        cases hE_2
                        refine Nrm.only [2, 3, 4, 12, 14, 15] rfl ?_
                        refine Nrm.pick [3, 2, 0, 1, 5] rfl rfl ?_
                        exact hj_2 _ _ ⟨v49_8, S49_8, v46_11, S46_11, v46_12, S46_12, b14_7, hl_v49_8, hl_v46_11, hl_v46_12, rfl, rfl⟩
                      exact T.stop
                    exact T.stop
                  exact T.stop
              exact T.stop
    · obtain ⟨t32, h32, hE_1⟩ := bind_some hE_1
      rcases Bool.eq_false_or_eq_true (!t32) with g34 | g34
      · replace hE_1 := if_tt g34 hE_1
        refine Tri.reg (l := [0, 1, 2, 3, 4, 5, 6, 7, 8, 9, 10, 11, 12, 13, 14]) rfl ?_
        refine F.q rfl rfl rfl (wanted_none rfl) (r_move rfl) ?_
        refine F.q rfl rfl rfl (wanted_none rfl) (r_move rfl) ?_
        refine F.qc rfl rfl rfl (wanted_none rfl) (q_callF (xs := _) rfl ok117 rfl rfl (fun w hw => slices_Equal_int_int.ok h32 w ((rd_sl (i := 0) rfl) w hw) ((rd_sl (i := 1) rfl) w hw))) ?_
        refine F.q rfl rfl rfl (wanted_none rfl) (r_not rfl) ?_
        refine F.q rfl rfl rfl (wanted_none rfl) (r_move rfl) ?_
        refine F.sk rfl rfl rfl (wf rfl rfl rfl g34) ?_
        refine F.sk rfl rfl rfl (wf rfl rfl rfl g34) ?_
        refine F.sk rfl rfl rfl (wf rfl rfl rfl g34) ?_
        refine F.sk rfl rfl rfl (wf rfl rfl rfl g34) ?_
        refine F.sk rfl rfl rfl (wf rfl rfl rfl g34) ?_
        refine F.q rfl rfl rfl (wanted_none rfl) (r_pick rfl rfl g34) ?_
        refine F.q rfl rfl rfl (wanted_none rfl) (r_move rfl) ?_
        refine F.sk rfl rfl rfl (wf rfl rfl rfl rfl) ?_
        refine F.sk rfl rfl rfl (wf rfl rfl rfl rfl) ?_
        refine F.q rfl rfl rfl (wanted_none rfl) (r_pick rfl rfl rfl) ?_
        refine F.nil ?_
        cases hE_1
        refine Nrm.only [2, 3, 4, 5, 12, 44] rfl ?_
        refine Nrm.pick [2, 1] rfl rfl ?_
        exact hj_1 _ _ ⟨rfl, rfl⟩
      · replace hE_1 := if_ff g34 hE_1
        rcases Bool.eq_false_or_eq_true ((a4.length : Int) != (a3.length : Int)) with g41 | g41
        · replace hE_1 := if_tt g41 hE_1
          refine Tri.reg (l := [0, 1, 2, 3, 4, 5, 6, 7, 8, 9, 10, 11, 12, 13, 14]) rfl ?_
          refine F.q rfl rfl rfl (wanted_none rfl) (r_move rfl) ?_
          refine F.q rfl rfl rfl (wanted_none rfl) (r_move rfl) ?_
          refine F.qc rfl rfl rfl (wanted_none rfl) (q_callF (xs := _) rfl ok117 rfl rfl (fun w hw => slices_Equal_int_int.ok h32 w ((rd_sl (i := 0) rfl) w hw) ((rd_sl (i := 1) rfl) w hw))) ?_
          refine F.q rfl rfl rfl (wanted_none rfl) (r_not rfl) ?_
          refine F.q rfl rfl rfl (wanted_none rfl) (r_move rfl) ?_
          refine F.q rfl rfl rfl (wg rfl rfl rfl g34) (r_move rfl) ?_
          refine F.q rfl rfl rfl (wg rfl rfl rfl g34) (r_len Try.underlying23 rfl hl_va4) ?_
          refine F.q rfl rfl rfl (wg rfl rfl rfl g34) (r_move rfl) ?_
          refine F.q rfl rfl rfl (wg rfl rfl rfl g34) (r_len Try.underlying23 rfl hl_va3) ?_
          refine F.q rfl rfl rfl (wg rfl rfl rfl g34) (r_neq rfl rfl) ?_
          refine F.q rfl rfl rfl (wanted_none rfl) (r_pickf rfl rfl g34) ?_
          refine F.q rfl rfl rfl (wanted_none rfl) (r_move rfl) ?_
          refine F.sk rfl rfl rfl (wf rfl rfl rfl g41) ?_
          refine F.sk rfl rfl rfl (wf rfl rfl rfl g41) ?_
          refine F.q rfl rfl rfl (wanted_none rfl) (r_pick rfl rfl g41) ?_
          refine F.nil ?_
          cases hE_1
          refine Nrm.only [2, 3, 4, 5, 12, 44] rfl ?_
          refine Nrm.pick [2, 1] rfl rfl ?_
          exact hj_1 _ _ ⟨rfl, rfl⟩
        · replace hE_1 := if_ff g41 hE_1
          obtain ⟨t43, h43, hE_1⟩ := bind_some hE_1
          refine Tri.reg (l := [0, 1, 2, 3, 4, 5, 6, 7, 8, 9, 10, 11, 12, 13, 14]) rfl ?_
          refine F.q rfl rfl rfl (wanted_none rfl) (r_move rfl) ?_
          refine F.q rfl rfl rfl (wanted_none rfl) (r_move rfl) ?_
          refine F.qc rfl rfl rfl (wanted_none rfl) (q_callF (xs := _) rfl ok117 rfl rfl (fun w hw => slices_Equal_int_int.ok h32 w ((rd_sl (i := 0) rfl) w hw) ((rd_sl (i := 1) rfl) w hw))) ?_
          refine F.q rfl rfl rfl (wanted_none rfl) (r_not rfl) ?_
          refine F.q rfl rfl rfl (wanted_none rfl) (r_move rfl) ?_
          refine F.q rfl rfl rfl (wg rfl rfl rfl g34) (r_move rfl) ?_
          refine F.q rfl rfl rfl (wg rfl rfl rfl g34) (r_len Try.underlying23 rfl hl_va4) ?_
          refine F.q rfl rfl rfl (wg rfl rfl rfl g34) (r_move rfl) ?_
          refine F.q rfl rfl rfl (wg rfl rfl rfl g34) (r_len Try.underlying23 rfl hl_va3) ?_
          refine F.q rfl rfl rfl (wg rfl rfl rfl g34) (r_neq rfl rfl) ?_
          refine F.q rfl rfl rfl (wanted_none rfl) (r_pickf rfl rfl g34) ?_
          refine F.q rfl rfl rfl (wanted_none rfl) (r_move rfl) ?_
          refine F.q rfl rfl rfl (wg rfl rfl rfl g41) (r_move rfl) ?_
          refine F.qc rfl rfl rfl (wg rfl rfl rfl g41) (q_callF (xs := _) rfl ok118 rfl rfl (fun w hw => slices_ContainsFunc_int_int.ok h43 w ((fun _ hw => hr_a4.sep hw) w hw) ok119 (fun w2 he2 z0 y2 hy2 => impl_filled_1.ok hy2 w2 ))) ?_
          refine F.q rfl rfl rfl (wanted_none rfl) (r_pickf rfl rfl g41) ?_
          refine F.nil ?_
          cases hE_1
          refine Nrm.only [2, 3, 4, 5, 12, 44] rfl ?_
          refine Nrm.pick [2, 1] rfl rfl ?_
          exact hj_1 _ _ ⟨rfl, rfl⟩

end Go.Proofs

/- loop.example/g01158/impl.ForwardFilling -/
namespace Go.Proofs
open Go Go.Ga
set_option linter.unusedVariables false
set_option maxRecDepth 100000
set_option maxHeartbeats 4000000
def impl_ForwardFilling.f (k : Nat) (a0_0 : Int) (a0_1 : List (Int × Int × Int)) (a0_2 : List Int) (a1 : Int) (a2 : List Int) (a3 : List Int) : Option ((List Int) × Bool) := (impl_filled.f k a0_0 a0_1 a0_2 a1 0 a2 a3).bind fun (t14_1, t14_2) => some (t14_1, t14_2)

theorem impl_ForwardFilling.ok {k : Nat}  {a0_0 : Int} {a0_1 : List (Int × Int × Int)} {a0_2 : List Int} {a1 : Int} {a2 : List Int} {a3 : List Int} {r0 : List Int} {r1 : Bool} (h : impl_ForwardFilling.f k a0_0 a0_1 a0_2 a1 a2 a3 = some (r0, r1)) (w : World) {va0_1 : Value} {va0_2 : Value} {va2 : Value} {va3 : Value} (hr_a0_1 : Rd w va0_1 a0_1) (hr_a0_2 : Rd w va0_2 a0_2) (hr_a2 : Rd w va2 a2) (hr_a3 : Rd w va3 a3) :
    Calls Try.prog 42 ([.agg ([.int .i64 a0_0, va0_1, va0_2].toArray), .int .i64 a1, va2, va3] : List Value).toArray w (Post (fun u ns => ∃ (ur0 : Value) (Sr0 : Nat → Prop), u = .tuple #[ur0, .bool r1] ∧ SlLen ur0 r0.length ∧ ns = [R.sl Sr0 ur0 r0]) w) := by
  unfold impl_ForwardFilling.f at h
  have hl_va0_1 := hr_a0_1.len
  have hl_va0_2 := hr_a0_2.len
  have hl_va2 := hr_a2.len
  have hl_va3 := hr_a3.len
  refine Calls.of_tri (N := 17) Try.func42 rfl rfl rfl (Sep.nil (M := noM)) ?_
  refine Tri.seq ?_
  refine Tri.reg (l := [0, 1, 2]) rfl ?_
  refine F.m rfl rfl rfl (wanted_none rfl) (m_boxG rfl rfl) ?_
  rintro _ _ ⟨b4_1, rfl, rfl⟩
  refine F.q rfl rfl rfl (wanted_none rfl) (r_assign rfl) ?_
  refine F.q rfl rfl rfl (wanted_none rfl) (r_assign rfl) ?_
  refine F.nil ?_
  refine Nrm.seq ?_
  refine Tri.seq ?_
  obtain ⟨⟨t14_1, t14_2⟩, h14, h⟩ := bind_some h
  refine Tri.reg (l := [0, 1, 2, 3, 4, 5, 6, 7, 8]) rfl ?_
  refine F.q rfl rfl rfl (wanted_none rfl) (r_loadA ta31 ti31 rfl rfl (fun w hw => (box_cells (i := 0) rfl w hw))) ?_
  refine F.q rfl rfl rfl (wanted_none rfl) (r_move rfl) ?_
  refine F.q rfl rfl rfl (wanted_none rfl) (r_move rfl) ?_
  refine F.q rfl rfl rfl (wanted_none rfl) (r_move rfl) ?_
  refine F.m rfl rfl rfl (wanted_none rfl) (m_callF (xs := _) rfl ok81 rfl rfl (fun w hw => impl_filled.ok h14 w ((fun _ hw => hr_a0_1.sep hw) w hw) ((fun _ hw => hr_a0_2.sep hw) w hw) ((fun _ hw => hr_a2.sep hw) w hw) ((fun _ hw => hr_a3.sep hw) w hw))) ?_
  rintro _ _ ⟨_, ⟨v14_1, S14_1, rfl, hl_v14_1, rfl⟩, rfl⟩
  refine F.q rfl rfl rfl (wanted_none rfl) (r_extract rfl rfl) ?_
  refine F.q rfl rfl rfl (wanted_none rfl) (r_extract rfl rfl) ?_
  refine F.q rfl rfl rfl (wanted_none rfl) (r_assign rfl) ?_
  refine F.q rfl rfl rfl (wanted_none rfl) (r_assign rfl) ?_
  refine F.nil ?_
  refine Nrm.seq ?_
  refine Tri.ret ?_
  cases h
  exact Rtn.body (.tmp rfl (.tmp rfl .nil)) (fun w hw => ⟨_, _, rfl, ⟨v14_1, S14_1, rfl, hl_v14_1, rfl⟩, Sep.pick (is := [0]) rfl rfl hw⟩)

end Go.Proofs

/- loop.example/g01158/laws.FnExactForwardFilling -/
namespace Go.Proofs
open Go Go.Ga
set_option linter.unusedVariables false
set_option maxRecDepth 100000
set_option maxHeartbeats 4000000
def laws_FnExactForwardFilling.f (k : Nat) (a0_0 : Int) (a0_1 : List (Int × Int × Int)) (a0_2 : List Int) (a1 : Int) (a2 : List Int) (a3 : List Int) : Option (Bool) := (if (decide ((a2.length : Int) > 1048576)) = true then some true else (if (decide ((a3.length : Int) > 1048576)) = true then some true else (laws_szMaze.f k a0_0 a0_1 a0_2 1048576).bind fun t30 => (if (decide (t30 < 0)) = true then some true else (laws_toMaze.f k a0_0 a0_1 a0_2).bind fun (t35_1, t35_2, t35_3) => (laws_toIntS.f k a2).bind fun t38 => (laws_toIntS.f k a3).bind fun t40 => (spec_ForwardFilling.f k t35_1 t35_2 t35_3 a1 t38 t40).bind fun (t41_1, t41_2) => (laws_toMaze.f k a0_0 a0_1 a0_2).bind fun (t45_1, t45_2, t45_3) => (laws_toIntS.f k a2).bind fun t47 => (laws_toIntS.f k a3).bind fun t49 => (impl_ForwardFilling.f k t45_1 t45_2 t45_3 a1 t47 t49).bind fun (t55_1, t55_2) => ((laws_eqIntS.f k t55_1 t41_1).bind fun t60 => (if (!t60) = true then some true else some (t55_2 != t41_2))).bind fun y66 => (if y66 = true then some false else (laws_toMaze.f k a0_0 a0_1 a0_2).bind fun (t69_1, t69_2, t69_3) => (laws_eqMaze.f k t45_1 t45_2 t45_3 t69_1 t69_2 t69_3).bind fun t70 => (if (!t70) = true then some false else (laws_toIntS.f k a2).bind fun t74 => (laws_eqIntS.f k t47 t74).bind fun t75 => (if (!t75) = true then some false else (laws_toIntS.f k a3).bind fun t79 => (laws_eqIntS.f k t49 t79).bind fun t80 => (if (!t80) = true then some false else (laws_markMaze.f k t45_1 t45_2 t45_3 1).bind fun (t84_1, t84_2, t84_3) => (laws_markIntS.f k t47 t84_1).bind fun (t87_1, t87_2) => (laws_markIntS.f k t49 t87_1).bind fun (t90_1, t90_2) => ((if (decide (t90_1 < 0)) = true then some true else (laws_eqIntS.f k t55_1 t41_1).bind fun t96 => (if (!t96) = true then some true else some (t55_2 != t41_2)))).bind fun y103 => (if y103 = true then some false else (laws_markIntS.f k t55_1 1).bind fun (t106_1, t106_2) => (laws_heldIntS.f k t106_2 1).bind fun t109 => (if (decide (t109 < 0)) = true then some false else (if (t109 != t106_1) = true then some false else (laws_toMaze.f k a0_0 a0_1 a0_2).bind fun (t117_1, t117_2, t117_3) => (laws_toIntS.f k a2).bind fun t120 => (laws_toIntS.f k a3).bind fun t122 => (impl_ForwardFilling.f k t117_1 t117_2 t117_3 a1 t120 t122).bind fun (t123_1, t123_2) => ((laws_eqIntS.f k t123_1 t41_1).bind fun t128 => (if (!t128) = true then some true else some (t123_2 != t41_2))).bind fun y134 => (if y134 = true then some false else (laws_heldIntS.f k t106_2 1).bind fun t137 => (if (decide (t137 < 0)) = true then some false else (if (t137 != t106_1) = true then some false else some true)))))))))))))

theorem laws_FnExactForwardFilling.ok {k : Nat}  {a0_0 : Int} {a0_1 : List (Int × Int × Int)} {a0_2 : List Int} {a1 : Int} {a2 : List Int} {a3 : List Int} {r0 : Bool} (h : laws_FnExactForwardFilling.f k a0_0 a0_1 a0_2 a1 a2 a3 = some r0) (w : World) {va0_1 : Value} {va0_2 : Value} {va2 : Value} {va3 : Value} (hr_a0_1 : Rd w va0_1 a0_1) (hr_a0_2 : Rd w va0_2 a0_2) (hr_a2 : Rd w va2 a2) (hr_a3 : Rd w va3 a3) :
    Calls Try.prog 10 ([.agg ([.int .i64 a0_0, va0_1, va0_2].toArray), .int .i64 a1, va2, va3] : List Value).toArray w (fun e w' => e = .returned (.bool r0) ∧ Ext w w') := by
  unfold laws_FnExactForwardFilling.f at h
  have hl_va0_1 := hr_a0_1.len
  have hl_va0_2 := hr_a0_2.len
  have hl_va2 := hr_a2.len
  have hl_va3 := hr_a3.len
  refine Calls.of_tri (N := 143) Try.func10 rfl rfl rfl (Sep.nil (M := noM)) ?_
  refine Tri.seq ?_
  refine Tri.reg (l := [0, 1]) rfl ?_
  refine F.m rfl rfl rfl (wanted_none rfl) (m_boxG rfl rfl) ?_
  rintro _ _ ⟨b4_1, rfl, rfl⟩
  refine F.q rfl rfl rfl (wanted_none rfl) (r_assign rfl) ?_
  refine F.nil ?_
  refine Nrm.seq ?_
  refine Tri.seq ?_
  refine Tri.seq ?_
  refine Tri.reg (l := [0, 1, 2]) rfl ?_
  refine F.q rfl rfl rfl (wanted_none rfl) (r_move rfl) ?_
  refine F.q rfl rfl rfl (wanted_none rfl) (r_len Try.underlying23 rfl hl_va2) ?_
  refine F.q rfl rfl rfl (wanted_none rfl) (r_gtr rfl rfl) ?_
  refine F.nil ?_
  refine Nrm.seq ?_
  refine Tri.cond (b := decide ((a2.length : Int) > 1048576)) rfl (fun g_1 => ?_) (fun g_1 => ?_)
  · replace h := if_tt g_1 h
    refine Tri.seq ?_
    refine Tri.reg (l := [0]) rfl ?_
    refine F.q rfl rfl rfl (wanted_none rfl) (r_assign rfl) ?_
    refine F.nil ?_
    refine Nrm.seq ?_
    refine Tri.ret ?_
    refine Rtn.then ?_
    cases h
    exact Rtn.body (.tmp rfl .nil) (fun w hw => ⟨rfl, hw.ext⟩)
  · replace h := if_ff g_1 h
    refine Tri.skip ?_
    refine Nrm.seq ?_
    refine Tri.seq ?_
    refine Tri.seq ?_
    refine Tri.reg (l := [0, 1, 2]) rfl ?_
    refine F.q rfl rfl rfl (wanted_none rfl) (r_move rfl) ?_
    refine F.q rfl rfl rfl (wanted_none rfl) (r_len Try.underlying23 rfl hl_va3) ?_
    refine F.q rfl rfl rfl (wanted_none rfl) (r_gtr rfl rfl) ?_
    refine F.nil ?_
    refine Nrm.seq ?_
    refine Tri.cond (b := decide ((a3.length : Int) > 1048576)) rfl (fun g_2 => ?_) (fun g_2 => ?_)
    · replace h := if_tt g_2 h
      refine Tri.seq ?_
      refine Tri.reg (l := [0]) rfl ?_
      refine F.q rfl rfl rfl (wanted_none rfl) (r_assign rfl) ?_
      refine F.nil ?_
      refine Nrm.seq ?_
      refine Tri.ret ?_
      refine Rtn.then ?_
      cases h
      exact Rtn.body (.tmp rfl .nil) (fun w hw => ⟨rfl, hw.ext⟩)
    · replace h := if_ff g_2 h
      refine Tri.skip ?_
      refine Nrm.seq ?_
      refine Tri.seq ?_
      refine Tri.reg (l := [0]) rfl ?_
      refine F.q rfl rfl rfl (wanted_none rfl) (r_assign rfl) ?_
      refine F.nil ?_
      refine Nrm.seq ?_
      refine Tri.seq ?_
      obtain ⟨t30, h30, h⟩ := bind_some h
      refine Tri.reg (l := [0, 1, 2, 3]) rfl ?_
      refine F.q rfl rfl rfl (wanted_none rfl) (r_loadA ta25 ti25 rfl rfl (fun w hw => (box_cells (i := 0) rfl w hw))) ?_
      refine F.q rfl rfl rfl (wanted_none rfl) (r_move rfl) ?_
      refine F.qc rfl rfl rfl (wanted_none rfl) (q_callF (xs := _) rfl ok21 rfl rfl (fun w hw => laws_szMaze.ok h30 w ((fun _ hw => hr_a0_1.sep hw) w hw) ((fun _ hw => hr_a0_2.sep hw) w hw))) ?_
      refine F.q rfl rfl rfl (wanted_none rfl) (r_assign rfl) ?_
      refine F.nil ?_
      refine Nrm.seq ?_
      refine Tri.seq ?_
      refine Tri.seq ?_
      refine Tri.reg (l := [0, 1]) rfl ?_
      refine F.q rfl rfl rfl (wanted_none rfl) (r_move rfl) ?_
      refine F.q rfl rfl rfl (wanted_none rfl) (r_lss rfl rfl) ?_
      refine F.nil ?_
      refine Nrm.seq ?_
      refine Tri.cond (b := decide (t30 < 0)) rfl (fun g_3 => ?_) (fun g_3 => ?_)
      · replace h := if_tt g_3 h
        refine Tri.seq ?_
        refine Tri.reg (l := [0]) rfl ?_
        refine F.q rfl rfl rfl (wanted_none rfl) (r_assign rfl) ?_
        refine F.nil ?_
        refine Nrm.seq ?_
        refine Tri.ret ?_
        refine Rtn.then ?_
        cases h
        exact Rtn.body (.tmp rfl .nil) (fun w hw => ⟨rfl, hw.ext⟩)
      · replace h := if_ff g_3 h
        refine Tri.skip ?_
        refine Nrm.seq ?_
        refine Tri.seq ?_
        obtain ⟨⟨t35_1, t35_2, t35_3⟩, h35, h⟩ := bind_some h
        obtain ⟨t38, h38, h⟩ := bind_some h
        obtain ⟨t40, h40, h⟩ := bind_some h
        obtain ⟨⟨t41_1, t41_2⟩, h41, h⟩ := bind_some h
        refine Tri.reg (l := [0, 1, 2, 3, 4, 5, 6, 7, 8, 9, 10, 11, 12]) rfl ?_
        refine F.q rfl rfl rfl (wanted_none rfl) (r_loadA ta25 ti25 rfl rfl (fun w hw => (box_cells (i := 0) rfl w hw))) ?_
        refine F.m rfl rfl rfl (wanted_none rfl) (m_callF (xs := _) rfl ok23 rfl rfl (fun w hw => laws_toMaze.ok h35 w ((fun _ hw => hr_a0_1.sep hw) w hw) ((fun _ hw => hr_a0_2.sep hw) w hw))) ?_
        rintro _ _ ⟨_, ⟨v35_1, S35_1, v35_2, S35_2, rfl, hl_v35_1, hl_v35_2, rfl⟩, rfl⟩
        refine F.q rfl rfl rfl (wanted_none rfl) (r_move rfl) ?_
        refine F.q rfl rfl rfl (wanted_none rfl) (r_move rfl) ?_
        refine F.m rfl rfl rfl (wanted_none rfl) (m_callF (xs := _) rfl ok24 rfl rfl (fun w hw => laws_toIntS.ok h38 w ((fun _ hw => hr_a2.sep hw) w hw))) ?_
        rintro v38_1 _ ⟨_, ⟨S38_1, hl_v38_1, rfl⟩, rfl⟩
        refine F.q rfl rfl rfl (wanted_none rfl) (r_move rfl) ?_
        refine F.m rfl rfl rfl (wanted_none rfl) (m_callF (xs := _) rfl ok24 rfl rfl (fun w hw => laws_toIntS.ok h40 w ((fun _ hw => hr_a3.sep hw) w hw))) ?_
        rintro v40_1 _ ⟨_, ⟨S40_1, hl_v40_1, rfl⟩, rfl⟩
        refine F.m rfl rfl rfl (wanted_none rfl) (m_callF (xs := _) rfl ok41 rfl rfl (fun w hw => spec_ForwardFilling.ok h41 w ((rd_sl (i := 2) rfl) w hw) ((rd_sl (i := 3) rfl) w hw) ((rd_sl (i := 1) rfl) w hw) ((rd_sl (i := 0) rfl) w hw))) ?_
        rintro _ _ ⟨_, ⟨v41_1, S41_1, rfl, hl_v41_1, rfl⟩, rfl⟩
        refine F.q rfl rfl rfl (wanted_none rfl) (r_move rfl) ?_
        refine F.q rfl rfl rfl (wanted_none rfl) (r_extract rfl rfl) ?_
        refine F.q rfl rfl rfl (wanted_none rfl) (r_extract rfl rfl) ?_
        refine F.q rfl rfl rfl (wanted_none rfl) (r_assign rfl) ?_
        refine F.q rfl rfl rfl (wanted_none rfl) (r_assign rfl) ?_
        refine F.nil ?_
        refine Nrm.seq ?_
        refine Tri.seq ?_
        obtain ⟨⟨t45_1, t45_2, t45_3⟩, h45, h⟩ := bind_some h
        refine Tri.reg (l := [0, 1, 2, 3]) rfl ?_
        refine F.q rfl rfl rfl (wanted_none rfl) (r_loadA ta25 ti25 rfl rfl (fun w hw => (box_cells (i := 5) rfl w hw))) ?_
        refine F.m rfl rfl rfl (wanted_none rfl) (m_callF (xs := _) rfl ok23 rfl rfl (fun w hw => laws_toMaze.ok h45 w ((fun _ hw => hr_a0_1.sep hw) w hw) ((fun _ hw => hr_a0_2.sep hw) w hw))) ?_
        rintro _ _ ⟨_, ⟨v45_1, S45_1, v45_2, S45_2, rfl, hl_v45_1, hl_v45_2, rfl⟩, rfl⟩
        refine F.m rfl rfl rfl (wanted_none rfl) (m_alloc ti31) ?_
        rintro _ _ ⟨b12_1, rfl, rfl⟩
        refine F.ef0 rfl rfl (wanted_none rfl) (d_storeG0 (i := 0) (cs2 := [.int .i64 t45_1, v45_1, v45_2]) ti31 rfl rfl rfl rfl rfl (Nat.le_of_ble_eq_true rfl) (lf_cons rfl (lf_cons (sl_leaf hl_v45_1) (lf_cons (sl_leaf hl_v45_2) lf_nil)))) ?_
        rintro _ _ ⟨rfl, rfl⟩
        refine F.nil ?_
        refine Nrm.seq ?_
        refine Tri.seq ?_
        obtain ⟨t47, h47, h⟩ := bind_some h
        refine Tri.reg (l := [0, 1, 2]) rfl ?_
        refine F.q rfl rfl rfl (wanted_none rfl) (r_move rfl) ?_
        refine F.m rfl rfl rfl (wanted_none rfl) (m_callF (xs := _) rfl ok24 rfl rfl (fun w hw => laws_toIntS.ok h47 w ((fun _ hw => hr_a2.sep hw) w hw))) ?_
        rintro v47_1 _ ⟨_, ⟨S47_1, hl_v47_1, rfl⟩, rfl⟩
        refine F.q rfl rfl rfl (wanted_none rfl) (r_assign rfl) ?_
        refine F.nil ?_
        refine Nrm.seq ?_
        refine Tri.seq ?_
        obtain ⟨t49, h49, h⟩ := bind_some h
        refine Tri.reg (l := [0, 1, 2]) rfl ?_
        refine F.q rfl rfl rfl (wanted_none rfl) (r_move rfl) ?_
        refine F.m rfl rfl rfl (wanted_none rfl) (m_callF (xs := _) rfl ok24 rfl rfl (fun w hw => laws_toIntS.ok h49 w ((fun _ hw => hr_a3.sep hw) w hw))) ?_
        rintro v49_1 _ ⟨_, ⟨S49_1, hl_v49_1, rfl⟩, rfl⟩
        refine F.q rfl rfl rfl (wanted_none rfl) (r_assign rfl) ?_
        refine F.nil ?_
        refine Nrm.seq ?_
        refine Tri.seq ?_
        obtain ⟨⟨t55_1, t55_2⟩, h55, h⟩ := bind_some h
        refine Tri.reg (l := [0, 1, 2, 3, 4, 5, 6, 7, 8, 9]) rfl ?_
        refine F.q rfl rfl rfl (wanted_none rfl) (r_loadA ta31 ti31 rfl rfl (fun w hw => (box_cells (i := 2) rfl w hw))) ?_
        refine F.q rfl rfl rfl (wanted_none rfl) (r_move rfl) ?_
        refine F.q rfl rfl rfl (wanted_none rfl) (r_move rfl) ?_
        refine F.q rfl rfl rfl (wanted_none rfl) (r_move rfl) ?_
        refine F.m rfl rfl rfl (wanted_none rfl) (m_callF (xs := _) rfl ok42 rfl rfl (fun w hw => impl_ForwardFilling.ok h55 w ((rd_sl (i := 3) rfl) w hw) ((rd_sl (i := 4) rfl) w hw) ((rd_sl (i := 1) rfl) w hw) ((rd_sl (i := 0) rfl) w hw))) ?_
        rintro _ _ ⟨_, ⟨v55_1, S55_1, rfl, hl_v55_1, rfl⟩, rfl⟩
        refine F.q rfl rfl rfl (wanted_none rfl) (r_move rfl) ?_
        refine F.q rfl rfl rfl (wanted_none rfl) (r_extract rfl rfl) ?_
        refine F.q rfl rfl rfl (wanted_none rfl) (r_extract rfl rfl) ?_
        refine F.q rfl rfl rfl (wanted_none rfl) (r_assign rfl) ?_
        refine F.q rfl rfl rfl (wanted_none rfl) (r_assign rfl) ?_
        refine F.nil ?_
        refine Nrm.seq ?_
        refine Tri.seq ?_
        refine Tri.seq ?_
        obtain ⟨y66, hE_1, h⟩ := bind_some h
        refine Tri.cut (fun e' C' => e' = [(1, .int .i64 a1), (2, va2), (3, va3), (4, .pointer (some ⟨b4_1, 0, none⟩)), (10, v41_1), (11, .bool t41_2), (12, .pointer (some ⟨b12_1, 0, none⟩)), (13, v47_1), (14, v49_1), (15, v55_1), (16, .bool t55_2), (66, .bool y66)] ∧ C' = Sep w noM [R.box b12_1 31 [.int .i64 t45_1, v45_1, v45_2], R.box b4_1 25 [.int .i64 a0_0, va0_1, va0_2], R.sl S41_1 v41_1 (t41_1 : List (Int)), R.sl S45_1 v45_1 (t45_2 : List (Int × Int × Int)), R.sl S45_2 v45_2 (t45_3 : List (Int)), R.sl S47_1 v47_1 (t47 : List (Int)), R.sl S49_1 v49_1 (t49 : List (Int)), R.sl S55_1 v55_1 (t55_1 : List (Int))]) ?_ (fun hj_1 => ?_)
        · rintro _ _ ⟨rfl, rfl⟩
          refine Nrm.seq ?_
          refine Tri.cond (b := y66) rfl (fun g_4 => ?_) (fun g_4 => ?_)
          · replace h := if_tt g_4 h
            refine Tri.seq ?_
            refine Tri.reg (l := [0]) rfl ?_
            refine F.q rfl rfl rfl (wanted_none rfl) (r_assign rfl) ?_
            refine F.nil ?_
            refine Nrm.seq ?_
            refine Tri.ret ?_
            refine Rtn.then ?_
            cases h
            exact Rtn.body (.tmp rfl .nil) (fun w hw => ⟨rfl, hw.ext⟩)
          · replace h := if_ff g_4 h
            refine Tri.skip ?_
            refine Nrm.seq ?_
            refine Tri.seq ?_
            refine Tri.seq ?_
            obtain ⟨⟨t69_1, t69_2, t69_3⟩, h69, h⟩ := bind_some h
            obtain ⟨t70, h70, h⟩ := bind_some h
            refine Tri.drawA mixedT Sep.up [(0, true), (1, true), (2, false), (3, true), (4, true)] [] (by kernel_rfl) ?_
            refine S.q rfl rfl rfl (wanted_none rfl) (r_loadA ta31 ti31 rfl rfl (fun w hw => (box_cells (i := 0) rfl w hw))) ?_
            refine S.q rfl rfl rfl (wanted_none rfl) (r_loadA ta25 ti25 rfl rfl (fun w hw => (box_cells (i := 1) rfl w hw))) ?_
            refine S.m rfl rfl rfl (wanted_none rfl) (m_callF (xs := _) rfl ok23 rfl rfl (fun w hw => laws_toMaze.ok h69 w ((fun _ hw => hr_a0_1.sep hw) w hw) ((fun _ hw => hr_a0_2.sep hw) w hw))) ?_
            rintro _ _ ⟨_, ⟨v69_3, S69_3, v69_4, S69_4, rfl, hl_v69_3, hl_v69_4, rfl⟩, rfl⟩
            refine S.qc rfl rfl rfl (wanted_none rfl) (q_callF (xs := _) rfl ok27 rfl rfl (fun w hw => laws_eqMaze.ok h70 w ((rd_sl (i := 5) rfl) w hw) ((rd_sl (i := 6) rfl) w hw) ((rd_sl (i := 0) rfl) w hw) ((rd_sl (i := 1) rfl) w hw))) ?_
            refine S.q rfl rfl rfl (wanted_none rfl) (r_not rfl) ?_
            refine S.nil ?_
            refine F.nil ?_
            refine Nrm.seq ?_
            refine Tri.cond (b := !t70) rfl (fun g_5 => ?_) (fun g_5 => ?_)
            · replace h := if_tt g_5 h
              refine Tri.seq ?_
              refine Tri.reg (l := [0]) rfl ?_
              refine F.q rfl rfl rfl (wanted_none rfl) (r_assign rfl) ?_
              refine F.nil ?_
              refine Nrm.seq ?_
              refine Tri.ret ?_
              refine Rtn.then ?_
              cases h
              exact Rtn.body (.tmp rfl .nil) (fun w hw => ⟨rfl, hw.ext⟩)
            · replace h := if_ff g_5 h
              refine Tri.skip ?_
              refine Nrm.seq ?_
              refine Tri.seq ?_
              refine Tri.seq ?_
              obtain ⟨t74, h74, h⟩ := bind_some h
              obtain ⟨t75, h75, h⟩ := bind_some h
              refine Tri.reg (l := [0, 1, 2, 3, 4]) rfl ?_
              refine F.q rfl rfl rfl (wanted_none rfl) (r_move rfl) ?_
              refine F.q rfl rfl rfl (wanted_none rfl) (r_move rfl) ?_
              refine F.m rfl rfl rfl (wanted_none rfl) (m_callF (xs := _) rfl ok24 rfl rfl (fun w hw => laws_toIntS.ok h74 w ((fun _ hw => hr_a2.sep hw) w hw))) ?_
              rintro v74_1 _ ⟨_, ⟨S74_1, hl_v74_1, rfl⟩, rfl⟩
              refine F.qc rfl rfl rfl (wanted_none rfl) (q_callF (xs := _) rfl ok16 rfl rfl (fun w hw => laws_eqIntS.ok h75 w ((rd_sl (i := 8) rfl) w hw) ((rd_sl (i := 0) rfl) w hw))) ?_
              refine F.q rfl rfl rfl (wanted_none rfl) (r_not rfl) ?_
              refine F.nil ?_
              refine Nrm.seq ?_
              refine Tri.cond (b := !t75) rfl (fun g_6 => ?_) (fun g_6 => ?_)
              · replace h := if_tt g_6 h
                refine Tri.seq ?_
                refine Tri.reg (l := [0]) rfl ?_
                refine F.q rfl rfl rfl (wanted_none rfl) (r_assign rfl) ?_
                refine F.nil ?_
                refine Nrm.seq ?_
                refine Tri.ret ?_
                refine Rtn.then ?_
                cases h
                exact Rtn.body (.tmp rfl .nil) (fun w hw => ⟨rfl, hw.ext⟩)
              · replace h := if_ff g_6 h
                refine Tri.skip ?_
                refine Nrm.seq ?_
                refine Tri.seq ?_
                refine Tri.seq ?_
                obtain ⟨t79, h79, h⟩ := bind_some h
                obtain ⟨t80, h80, h⟩ := bind_some h
                refine Tri.reg (l := [0, 1, 2, 3, 4]) rfl ?_
                refine F.q rfl rfl rfl (wanted_none rfl) (r_move rfl) ?_
                refine F.q rfl rfl rfl (wanted_none rfl) (r_move rfl) ?_
                refine F.m rfl rfl rfl (wanted_none rfl) (m_callF (xs := _) rfl ok24 rfl rfl (fun w hw => laws_toIntS.ok h79 w ((fun _ hw => hr_a3.sep hw) w hw))) ?_
                rintro v79_1 _ ⟨_, ⟨S79_1, hl_v79_1, rfl⟩, rfl⟩
                refine F.qc rfl rfl rfl (wanted_none rfl) (q_callF (xs := _) rfl ok16 rfl rfl (fun w hw => laws_eqIntS.ok h80 w ((rd_sl (i := 10) rfl) w hw) ((rd_sl (i := 0) rfl) w hw))) ?_
                refine F.q rfl rfl rfl (wanted_none rfl) (r_not rfl) ?_
                refine F.nil ?_
                refine Nrm.seq ?_
                refine Tri.cond (b := !t80) rfl (fun g_7 => ?_) (fun g_7 => ?_)
                · replace h := if_tt g_7 h
                  refine Tri.seq ?_
                  refine Tri.reg (l := [0]) rfl ?_
                  refine F.q rfl rfl rfl (wanted_none rfl) (r_assign rfl) ?_
                  refine F.nil ?_
                  refine Nrm.seq ?_
                  refine Tri.ret ?_
                  refine Rtn.then ?_
                  cases h
                  exact Rtn.body (.tmp rfl .nil) (fun w hw => ⟨rfl, hw.ext⟩)
                · replace h := if_ff g_7 h
                  refine Tri.skip ?_
                  refine Nrm.seq ?_
                  refine Tri.seq ?_
                  refine Tri.reg (l := [0]) rfl ?_
                  refine F.q rfl rfl rfl (wanted_none rfl) (r_assign rfl) ?_
                  refine F.nil ?_
                  refine Nrm.seq ?_
                  refine Tri.seq ?_
                  obtain ⟨⟨t84_1, t84_2, t84_3⟩, h84, h⟩ := bind_some h
                  refine Tri.reg (l := [0, 1, 2, 3]) rfl ?_
                  refine F.q rfl rfl rfl (wanted_none rfl) (r_loadA ta31 ti31 rfl rfl (fun w hw => (box_cells (i := 4) rfl w hw))) ?_
                  refine F.q rfl rfl rfl (wanted_none rfl) (r_move rfl) ?_
                  refine F.ef rfl rfl rfl (wanted_none rfl) (d_callM (xs := _) (cs := [R.sl S45_1 v45_1 (t45_2 : List (Int × Int × Int)), R.sl S45_2 v45_2 (t45_3 : List (Int))]) (rest := [R.sl S79_1 v79_1 (t79 : List (Int)), R.sl S74_1 v74_1 (t74 : List (Int)), R.sl S69_3 v69_3 (t69_2 : List (Int × Int × Int)), R.sl S69_4 v69_4 (t69_3 : List (Int)), R.box b12_1 31 [.int .i64 t45_1, v45_1, v45_2], R.box b4_1 25 [.int .i64 a0_0, va0_1, va0_2], R.sl S41_1 v41_1 (t41_1 : List (Int)), R.sl S47_1 v47_1 (t47 : List (Int)), R.sl S49_1 v49_1 (t49 : List (Int)), R.sl S55_1 v55_1 (t55_1 : List (Int))]) [7, 8] [0, 1, 2, 3, 4, 5, 6, 9, 10, 11] rfl ok28 rfl rfl rfl rfl (fun w hw => laws_markMaze.ok h84 w hl_v45_1 hl_v45_2 (Sep.sub hw))) ?_
                  rintro _ _ ⟨_, ⟨rfl, hl_t84_2, hl_t84_3, rfl⟩, rfl⟩
                  refine F.q rfl rfl rfl (wanted_none rfl) (r_assign rfl) ?_
                  refine F.nil ?_
                  refine Nrm.seq ?_
                  refine Tri.seq ?_
                  obtain ⟨⟨t87_1, t87_2⟩, h87, h⟩ := bind_some h
                  refine Tri.reg (l := [0, 1, 2, 3]) rfl ?_
                  refine F.q rfl rfl rfl (wanted_none rfl) (r_move rfl) ?_
                  refine F.q rfl rfl rfl (wanted_none rfl) (r_move rfl) ?_
                  refine F.ef rfl rfl rfl (wanted_none rfl) (d_callM (xs := _) (cs := [R.sl S47_1 v47_1 (t47 : List (Int))]) (rest := [R.sl S45_1 v45_1 (t84_2 : List (Int × Int × Int)), R.sl S45_2 v45_2 (t84_3 : List (Int)), R.sl S79_1 v79_1 (t79 : List (Int)), R.sl S74_1 v74_1 (t74 : List (Int)), R.sl S69_3 v69_3 (t69_2 : List (Int × Int × Int)), R.sl S69_4 v69_4 (t69_3 : List (Int)), R.box b12_1 31 [.int .i64 t45_1, v45_1, v45_2], R.box b4_1 25 [.int .i64 a0_0, va0_1, va0_2], R.sl S41_1 v41_1 (t41_1 : List (Int)), R.sl S49_1 v49_1 (t49 : List (Int)), R.sl S55_1 v55_1 (t55_1 : List (Int))]) [9] [0, 1, 2, 3, 4, 5, 6, 7, 8, 10, 11] rfl ok19 rfl rfl rfl rfl (fun w hw => laws_markIntS.ok h87 w hl_v47_1 (Sep.sub hw))) ?_
                  rintro _ _ ⟨_, ⟨rfl, hl_t87_2, rfl⟩, rfl⟩
                  refine F.q rfl rfl rfl (wanted_none rfl) (r_assign rfl) ?_
                  refine F.nil ?_
                  refine Nrm.seq ?_
                  refine Tri.seq ?_
                  obtain ⟨⟨t90_1, t90_2⟩, h90, h⟩ := bind_some h
                  refine Tri.reg (l := [0, 1, 2, 3]) rfl ?_
                  refine F.q rfl rfl rfl (wanted_none rfl) (r_move rfl) ?_
                  refine F.q rfl rfl rfl (wanted_none rfl) (r_move rfl) ?_
                  refine F.ef rfl rfl rfl (wanted_none rfl) (d_callM (xs := _) (cs := [R.sl S49_1 v49_1 (t49 : List (Int))]) (rest := [R.sl S47_1 v47_1 (t87_2 : List (Int)), R.sl S45_1 v45_1 (t84_2 : List (Int × Int × Int)), R.sl S45_2 v45_2 (t84_3 : List (Int)), R.sl S79_1 v79_1 (t79 : List (Int)), R.sl S74_1 v74_1 (t74 : List (Int)), R.sl S69_3 v69_3 (t69_2 : List (Int × Int × Int)), R.sl S69_4 v69_4 (t69_3 : List (Int)), R.box b12_1 31 [.int .i64 t45_1, v45_1, v45_2], R.box b4_1 25 [.int .i64 a0_0, va0_1, va0_2], R.sl S41_1 v41_1 (t41_1 : List (Int)), R.sl S55_1 v55_1 (t55_1 : List (Int))]) [10] [0, 1, 2, 3, 4, 5, 6, 7, 8, 9, 11] rfl ok19 rfl rfl rfl rfl (fun w hw => laws_markIntS.ok h90 w hl_v49_1 (Sep.sub hw))) ?_
                  rintro _ _ ⟨_, ⟨rfl, hl_t90_2, rfl⟩, rfl⟩
                  refine F.q rfl rfl rfl (wanted_none rfl) (r_assign rfl) ?_
                  refine F.nil ?_
                  refine Nrm.seq ?_
                  refine Tri.seq ?_
                  refine Tri.seq ?_
                  obtain ⟨y103, hE_2, h⟩ := bind_some h
                  refine Tri.cut (fun e' C' => e' = [(1, .int .i64 a1), (2, va2), (3, va3), (4, .pointer (some ⟨b4_1, 0, none⟩)), (10, v41_1), (11, .bool t41_2), (15, v55_1), (103, .bool y103)] ∧ C' = Sep w noM [R.box b4_1 25 [.int .i64 a0_0, va0_1, va0_2], R.sl S41_1 v41_1 (t41_1 : List (Int)), R.sl S55_1 v55_1 (t55_1 : List (Int))]) ?_ (fun hj_2 => ?_)
                  · rintro _ _ ⟨rfl, rfl⟩
                    refine Nrm.seq ?_
                    refine Tri.cond (b := y103) rfl (fun g_8 => ?_) (fun g_8 => ?_)
                    · replace h := if_tt g_8 h
                      refine Tri.seq ?_
                      refine Tri.reg (l := [0]) rfl ?_
                      refine F.q rfl rfl rfl (wanted_none rfl) (r_assign rfl) ?_
                      refine F.nil ?_
                      refine Nrm.seq ?_
                      refine Tri.ret ?_
                      refine Rtn.then ?_
                      cases h
                      exact Rtn.body (.tmp rfl .nil) (fun w hw => ⟨rfl, hw.ext⟩)
                    · replace h := if_ff g_8 h
                      refine Tri.skip ?_
                      refine Nrm.seq ?_
                      refine Tri.seq ?_
                      refine Tri.reg (l := [0]) rfl ?_
                      refine F.q rfl rfl rfl (wanted_none rfl) (r_assign rfl) ?_
                      refine F.nil ?_
                      refine Nrm.seq ?_
                      refine Tri.seq ?_
                      obtain ⟨⟨t106_1, t106_2⟩, h106, h⟩ := bind_some h
                      refine Tri.reg (l := [0, 1, 2, 3]) rfl ?_
                      refine F.q rfl rfl rfl (wanted_none rfl) (r_move rfl) ?_
                      refine F.q rfl rfl rfl (wanted_none rfl) (r_move rfl) ?_
                      refine F.ef rfl rfl rfl (wanted_none rfl) (d_callM (xs := _) (cs := [R.sl S55_1 v55_1 (t55_1 : List (Int))]) (rest := [R.box b4_1 25 [.int .i64 a0_0, va0_1, va0_2], R.sl S41_1 v41_1 (t41_1 : List (Int))]) [2] [0, 1] rfl ok19 rfl rfl rfl rfl (fun w hw => laws_markIntS.ok h106 w hl_v55_1 (Sep.sub hw))) ?_
                      rintro _ _ ⟨_, ⟨rfl, hl_t106_2, rfl⟩, rfl⟩
                      refine F.q rfl rfl rfl (wanted_none rfl) (r_assign rfl) ?_
                      refine F.nil ?_
                      refine Nrm.seq ?_
                      refine Tri.seq ?_
                      refine Tri.reg (l := [0]) rfl ?_
                      refine F.q rfl rfl rfl (wanted_none rfl) (r_assign rfl) ?_
                      refine F.nil ?_
                      refine Nrm.seq ?_
                      refine Tri.seq ?_
                      obtain ⟨t109, h109, h⟩ := bind_some h
                      refine Tri.reg (l := [0, 1, 2, 3]) rfl ?_
                      refine F.q rfl rfl rfl (wanted_none rfl) (r_move rfl) ?_
                      refine F.q rfl rfl rfl (wanted_none rfl) (r_move rfl) ?_
                      refine F.qc rfl rfl rfl (wanted_none rfl) (q_callF (xs := _) rfl ok20 rfl rfl (fun w hw => laws_heldIntS.ok h109 w ((rd_sl (i := 0) rfl) w hw))) ?_
                      refine F.q rfl rfl rfl (wanted_none rfl) (r_assign rfl) ?_
                      refine F.nil ?_
                      refine Nrm.seq ?_
                      refine Tri.seq ?_
                      refine Tri.seq ?_
                      refine Tri.reg (l := [0, 1]) rfl ?_
                      refine F.q rfl rfl rfl (wanted_none rfl) (r_move rfl) ?_
                      refine F.q rfl rfl rfl (wanted_none rfl) (r_lss rfl rfl) ?_
                      refine F.nil ?_
                      refine Nrm.seq ?_
                      refine Tri.cond (b := decide (t109 < 0)) rfl (fun g_9 => ?_) (fun g_9 => ?_)
                      · replace h := if_tt g_9 h
                        refine Tri.seq ?_
                        refine Tri.reg (l := [0]) rfl ?_
                        refine F.q rfl rfl rfl (wanted_none rfl) (r_assign rfl) ?_
                        refine F.nil ?_
                        refine Nrm.seq ?_
                        refine Tri.ret ?_
                        refine Rtn.then ?_
                        cases h
                        exact Rtn.body (.tmp rfl .nil) (fun w hw => ⟨rfl, hw.ext⟩)
                      · replace h := if_ff g_9 h
                        refine Tri.skip ?_
                        refine Nrm.seq ?_
                        refine Tri.seq ?_
                        refine Tri.seq ?_
                        refine Tri.reg (l := [0, 1, 2]) rfl ?_
                        refine F.q rfl rfl rfl (wanted_none rfl) (r_move rfl) ?_
                        refine F.q rfl rfl rfl (wanted_none rfl) (r_move rfl) ?_
                        refine F.q rfl rfl rfl (wanted_none rfl) (r_neq rfl rfl) ?_
                        refine F.nil ?_
                        refine Nrm.seq ?_
                        refine Tri.cond (b := t109 != t106_1) rfl (fun g_10 => ?_) (fun g_10 => ?_)
                        · replace h := if_tt g_10 h
                          refine Tri.seq ?_
                          refine Tri.reg (l := [0]) rfl ?_
                          refine F.q rfl rfl rfl (wanted_none rfl) (r_assign rfl) ?_
                          refine F.nil ?_
                          refine Nrm.seq ?_
                          refine Tri.ret ?_
                          refine Rtn.then ?_
                          cases h
                          exact Rtn.body (.tmp rfl .nil) (fun w hw => ⟨rfl, hw.ext⟩)
                        · replace h := if_ff g_10 h
                          refine Tri.skip ?_
                          refine Nrm.seq ?_
                          refine Tri.seq ?_
                          obtain ⟨⟨t117_1, t117_2, t117_3⟩, h117, h⟩ := bind_some h
                          obtain ⟨t120, h120, h⟩ := bind_some h
                          obtain ⟨t122, h122, h⟩ := bind_some h
                          obtain ⟨⟨t123_1, t123_2⟩, h123, h⟩ := bind_some h
                          refine Tri.reg (l := [0, 1, 2, 3, 4, 5, 6, 7, 8, 9, 10, 11, 12]) rfl ?_
                          refine F.q rfl rfl rfl (wanted_none rfl) (r_loadA ta25 ti25 rfl rfl (fun w hw => (box_cells (i := 1) rfl w hw))) ?_
                          refine F.m rfl rfl rfl (wanted_none rfl) (m_callF (xs := _) rfl ok23 rfl rfl (fun w hw => laws_toMaze.ok h117 w ((fun _ hw => hr_a0_1.sep hw) w hw) ((fun _ hw => hr_a0_2.sep hw) w hw))) ?_
                          rintro _ _ ⟨_, ⟨v117_1, S117_1, v117_2, S117_2, rfl, hl_v117_1, hl_v117_2, rfl⟩, rfl⟩
                          refine F.q rfl rfl rfl (wanted_none rfl) (r_move rfl) ?_
                          refine F.q rfl rfl rfl (wanted_none rfl) (r_move rfl) ?_
                          refine F.m rfl rfl rfl (wanted_none rfl) (m_callF (xs := _) rfl ok24 rfl rfl (fun w hw => laws_toIntS.ok h120 w ((fun _ hw => hr_a2.sep hw) w hw))) ?_
                          rintro v120_1 _ ⟨_, ⟨S120_1, hl_v120_1, rfl⟩, rfl⟩
                          refine F.q rfl rfl rfl (wanted_none rfl) (r_move rfl) ?_
                          refine F.m rfl rfl rfl (wanted_none rfl) (m_callF (xs := _) rfl ok24 rfl rfl (fun w hw => laws_toIntS.ok h122 w ((fun _ hw => hr_a3.sep hw) w hw))) ?_
                          rintro v122_1 _ ⟨_, ⟨S122_1, hl_v122_1, rfl⟩, rfl⟩
                          refine F.m rfl rfl rfl (wanted_none rfl) (m_callF (xs := _) rfl ok42 rfl rfl (fun w hw => impl_ForwardFilling.ok h123 w ((rd_sl (i := 2) rfl) w hw) ((rd_sl (i := 3) rfl) w hw) ((rd_sl (i := 1) rfl) w hw) ((rd_sl (i := 0) rfl) w hw))) ?_
                          rintro _ _ ⟨_, ⟨v123_1, S123_1, rfl, hl_v123_1, rfl⟩, rfl⟩
                          refine F.q rfl rfl rfl (wanted_none rfl) (r_move rfl) ?_
                          refine F.q rfl rfl rfl (wanted_none rfl) (r_extract rfl rfl) ?_
                          refine F.q rfl rfl rfl (wanted_none rfl) (r_extract rfl rfl) ?_
                          refine F.q rfl rfl rfl (wanted_none rfl) (r_assign rfl) ?_
                          refine F.q rfl rfl rfl (wanted_none rfl) (r_assign rfl) ?_
                          refine F.nil ?_
                          refine Nrm.seq ?_
                          refine Tri.seq ?_
                          refine Tri.seq ?_
                          obtain ⟨y134, hE_3, h⟩ := bind_some h
                          refine Tri.cut (fun e' C' => e' = [(15, v55_1), (18, .int .i64 t106_1), (134, .bool y134)] ∧ C' = Sep w noM [R.sl S55_1 v55_1 (t106_2 : List (Int))]) ?_ (fun hj_3 => ?_)
                          · rintro _ _ ⟨rfl, rfl⟩
                            refine Nrm.seq ?_
                            refine Tri.cond (b := y134) rfl (fun g_11 => ?_) (fun g_11 => ?_)
                            · replace h := if_tt g_11 h
                              refine Tri.seq ?_
                              refine Tri.reg (l := [0]) rfl ?_
                              refine F.q rfl rfl rfl (wanted_none rfl) (r_assign rfl) ?_
                              refine F.nil ?_
                              refine Nrm.seq ?_
                              refine Tri.ret ?_
                              refine Rtn.then ?_
                              cases h
                              exact Rtn.body (.tmp rfl .nil) (fun w hw => ⟨rfl, hw.ext⟩)
                            · replace h := if_ff g_11 h
                              refine Tri.skip ?_
                              refine Nrm.seq ?_
                              refine Tri.seq ?_
                              refine Tri.reg (l := [0]) rfl ?_
                              refine F.q rfl rfl rfl (wanted_none rfl) (r_assign rfl) ?_
                              refine F.nil ?_
                              refine Nrm.seq ?_
                              refine Tri.seq ?_
                              obtain ⟨t137, h137, h⟩ := bind_some h
                              refine Tri.reg (l := [0, 1, 2, 3]) rfl ?_
                              refine F.q rfl rfl rfl (wanted_none rfl) (r_move rfl) ?_
                              refine F.q rfl rfl rfl (wanted_none rfl) (r_move rfl) ?_
                              refine F.qc rfl rfl rfl (wanted_none rfl) (q_callF (xs := _) rfl ok20 rfl rfl (fun w hw => laws_heldIntS.ok h137 w ((rd_sl (i := 0) rfl) w hw))) ?_
                              refine F.q rfl rfl rfl (wanted_none rfl) (r_assign rfl) ?_
                              refine F.nil ?_
                              refine Nrm.seq ?_
                              refine Tri.seq ?_
                              refine Tri.seq ?_
                              refine Tri.reg (l := [0, 1]) rfl ?_
                              refine F.q rfl rfl rfl (wanted_none rfl) (r_move rfl) ?_
                              refine F.q rfl rfl rfl (wanted_none rfl) (r_lss rfl rfl) ?_
                              refine F.nil ?_
                              refine Nrm.seq ?_
                              refine Tri.cond (b := decide (t137 < 0)) rfl (fun g_12 => ?_) (fun g_12 => ?_)
                              · replace h := if_tt g_12 h
                                refine Tri.seq ?_
                                refine Tri.reg (l := [0]) rfl ?_
                                refine F.q rfl rfl rfl (wanted_none rfl) (r_assign rfl) ?_
                                refine F.nil ?_
                                refine Nrm.seq ?_
                                refine Tri.ret ?_
                                refine Rtn.then ?_
                                cases h
                                exact Rtn.body (.tmp rfl .nil) (fun w hw => ⟨rfl, hw.ext⟩)
                              · replace h := if_ff g_12 h
                                refine Tri.skip ?_
                                refine Nrm.seq ?_
                                refine Tri.seq ?_
                                refine Tri.seq ?_
                                refine Tri.reg (l := [0, 1, 2]) rfl ?_
                                refine F.q rfl rfl rfl (wanted_none rfl) (r_move rfl) ?_
                                refine F.q rfl rfl rfl (wanted_none rfl) (r_move rfl) ?_
                                refine F.q rfl rfl rfl (wanted_none rfl) (r_neq rfl rfl) ?_
                                refine F.nil ?_
                                refine Nrm.seq ?_
                                refine Tri.cond (b := t137 != t106_1) rfl (fun g_13 => ?_) (fun g_13 => ?_)
                                · replace h := if_tt g_13 h
                                  refine Tri.seq ?_
                                  refine Tri.reg (l := [0]) rfl ?_
                                  refine F.q rfl rfl rfl (wanted_none rfl) (r_assign rfl) ?_
                                  refine F.nil ?_
                                  refine Nrm.seq ?_
                                  refine Tri.ret ?_
                                  refine Rtn.then ?_
                                  cases h
                                  exact Rtn.body (.tmp rfl .nil) (fun w hw => ⟨rfl, hw.ext⟩)
                                · replace h := if_ff g_13 h
                                  refine Tri.skip ?_
                                  refine Nrm.seq ?_
                                  refine Tri.seq ?_
                                  refine Tri.reg (l := [0]) rfl ?_
                                  refine F.q rfl rfl rfl (wanted_none rfl) (r_assign rfl) ?_
                                  refine F.nil ?_
                                  refine Nrm.seq ?_
                                  refine Tri.ret ?_
                                  cases h
                                  exact Rtn.body (.tmp rfl .nil) (fun w hw => ⟨rfl, hw.ext⟩)
                          · obtain ⟨t128, h128, hE_3⟩ := bind_some hE_3
                            rcases Bool.eq_false_or_eq_true (!t128) with g130 | g130
                            · replace hE_3 := if_tt g130 hE_3
                              refine Tri.reg (l := [0, 1, 2, 3, 4, 5, 6, 7, 8]) rfl ?_
                              refine F.q rfl rfl rfl (wanted_none rfl) (r_move rfl) ?_
                              refine F.q rfl rfl rfl (wanted_none rfl) (r_move rfl) ?_
                              refine F.qc rfl rfl rfl (wanted_none rfl) (q_callF (xs := _) rfl ok16 rfl rfl (fun w hw => laws_eqIntS.ok h128 w ((rd_sl (i := 0) rfl) w hw) ((rd_sl (i := 7) rfl) w hw))) ?_
                              refine F.q rfl rfl rfl (wanted_none rfl) (r_not rfl) ?_
                              refine F.q rfl rfl rfl (wanted_none rfl) (r_move rfl) ?_
                              refine F.sk rfl rfl rfl (wf rfl rfl rfl g130) ?_
                              refine F.sk rfl rfl rfl (wf rfl rfl rfl g130) ?_
                              refine F.sk rfl rfl rfl (wf rfl rfl rfl g130) ?_
                              refine F.q rfl rfl rfl (wanted_none rfl) (r_pick rfl rfl g130) ?_
                              refine F.nil ?_
                              cases hE_3
                              refine Nrm.only [15, 18, 134] rfl ?_
                              refine Nrm.pick [5] rfl rfl ?_
                              exact hj_3 _ _ ⟨rfl, rfl⟩
                            · replace hE_3 := if_ff g130 hE_3
                              refine Tri.reg (l := [0, 1, 2, 3, 4, 5, 6, 7, 8]) rfl ?_
                              refine F.q rfl rfl rfl (wanted_none rfl) (r_move rfl) ?_
                              refine F.q rfl rfl rfl (wanted_none rfl) (r_move rfl) ?_
                              refine F.qc rfl rfl rfl (wanted_none rfl) (q_callF (xs := _) rfl ok16 rfl rfl (fun w hw => laws_eqIntS.ok h128 w ((rd_sl (i := 0) rfl) w hw) ((rd_sl (i := 7) rfl) w hw))) ?_
                              refine F.q rfl rfl rfl (wanted_none rfl) (r_not rfl) ?_
                              refine F.q rfl rfl rfl (wanted_none rfl) (r_move rfl) ?_
                              refine F.q rfl rfl rfl (wg rfl rfl rfl g130) (r_move rfl) ?_
                              refine F.q rfl rfl rfl (wg rfl rfl rfl g130) (r_move rfl) ?_
                              refine F.q rfl rfl rfl (wg rfl rfl rfl g130) (r_neqB Try.underlying4 rfl rfl) ?_
                              refine F.q rfl rfl rfl (wanted_none rfl) (r_pickf rfl rfl g130) ?_
                              refine F.nil ?_
                              cases hE_3
                              refine Nrm.only [15, 18, 134] rfl ?_
                              refine Nrm.pick [5] rfl rfl ?_
                              exact hj_3 _ _ ⟨rfl, rfl⟩
                  · rcases Bool.eq_false_or_eq_true (decide (t90_1 < 0)) with g93 | g93
                    · replace hE_2 := if_tt g93 hE_2
                      refine Tri.reg (l := [0, 1, 2, 3, 4, 5, 6, 7, 8, 9, 10, 11, 12]) rfl ?_
                      refine F.q rfl rfl rfl (wanted_none rfl) (r_move rfl) ?_
                      refine F.q rfl rfl rfl (wanted_none rfl) (r_lss rfl rfl) ?_
                      refine F.q rfl rfl rfl (wanted_none rfl) (r_move rfl) ?_
                      refine F.sk rfl rfl rfl (wf rfl rfl rfl g93) ?_
                      refine F.sk rfl rfl rfl (wf rfl rfl rfl g93) ?_
                      refine F.sk rfl rfl rfl (wf rfl rfl rfl g93) ?_
                      refine F.sk rfl rfl rfl (wf rfl rfl rfl g93) ?_
                      refine F.q rfl rfl rfl (wanted_none rfl) (r_pick rfl rfl g93) ?_
                      refine F.q rfl rfl rfl (wanted_none rfl) (r_move rfl) ?_
                      refine F.sk rfl rfl rfl (wf rfl rfl rfl rfl) ?_
                      refine F.sk rfl rfl rfl (wf rfl rfl rfl rfl) ?_
                      refine F.sk rfl rfl rfl (wf rfl rfl rfl rfl) ?_
                      refine F.q rfl rfl rfl (wanted_none rfl) (r_pick rfl rfl rfl) ?_
                      refine F.nil ?_
                      cases hE_2
                      refine Nrm.only [1, 2, 3, 4, 10, 11, 15, 103] rfl ?_
                      refine Nrm.pick [9, 10, 11] rfl rfl ?_
                      exact hj_2 _ _ ⟨rfl, rfl⟩
                    · replace hE_2 := if_ff g93 hE_2
                      obtain ⟨t96, h96, hE_2⟩ := bind_some hE_2
                      rcases Bool.eq_false_or_eq_true (!t96) with g99 | g99
                      · replace hE_2 := if_tt g99 hE_2
                        refine Tri.reg (l := [0, 1, 2, 3, 4, 5, 6, 7, 8, 9, 10, 11, 12]) rfl ?_
                        refine F.q rfl rfl rfl (wanted_none rfl) (r_move rfl) ?_
                        refine F.q rfl rfl rfl (wanted_none rfl) (r_lss rfl rfl) ?_
                        refine F.q rfl rfl rfl (wanted_none rfl) (r_move rfl) ?_
                        refine F.q rfl rfl rfl (wg rfl rfl rfl g93) (r_move rfl) ?_
                        refine F.q rfl rfl rfl (wg rfl rfl rfl g93) (r_move rfl) ?_
                        refine F.qc rfl rfl rfl (wg rfl rfl rfl g93) (q_callF (xs := _) rfl ok16 rfl rfl (fun w hw => laws_eqIntS.ok h96 w ((rd_sl (i := 11) rfl) w hw) ((rd_sl (i := 10) rfl) w hw))) ?_
                        refine F.q rfl rfl rfl (wg rfl rfl rfl g93) (r_not rfl) ?_
                        refine F.q rfl rfl rfl (wanted_none rfl) (r_pickf rfl rfl g93) ?_
                        refine F.q rfl rfl rfl (wanted_none rfl) (r_move rfl) ?_
                        refine F.sk rfl rfl rfl (wf rfl rfl rfl g99) ?_
                        refine F.sk rfl rfl rfl (wf rfl rfl rfl g99) ?_
                        refine F.sk rfl rfl rfl (wf rfl rfl rfl g99) ?_
                        refine F.q rfl rfl rfl (wanted_none rfl) (r_pick rfl rfl g99) ?_
                        refine F.nil ?_
                        cases hE_2
                        refine Nrm.only [1, 2, 3, 4, 10, 11, 15, 103] rfl ?_
                        refine Nrm.pick [9, 10, 11] rfl rfl ?_
                        exact hj_2 _ _ ⟨rfl, rfl⟩
                      · replace hE_2 := if_ff g99 hE_2
                        refine Tri.reg (l := [0, 1, 2, 3, 4, 5, 6, 7, 8, 9, 10, 11, 12]) rfl ?_
                        refine F.q rfl rfl rfl (wanted_none rfl) (r_move rfl) ?_
                        refine F.q rfl rfl rfl (wanted_none rfl) (r_lss rfl rfl) ?_
                        refine F.q rfl rfl rfl (wanted_none rfl) (r_move rfl) ?_
                        refine F.q rfl rfl rfl (wg rfl rfl rfl g93) (r_move rfl) ?_
                        refine F.q rfl rfl rfl (wg rfl rfl rfl g93) (r_move rfl) ?_
                        refine F.qc rfl rfl rfl (wg rfl rfl rfl g93) (q_callF (xs := _) rfl ok16 rfl rfl (fun w hw => laws_eqIntS.ok h96 w ((rd_sl (i := 11) rfl) w hw) ((rd_sl (i := 10) rfl) w hw))) ?_
                        refine F.q rfl rfl rfl (wg rfl rfl rfl g93) (r_not rfl) ?_
                        refine F.q rfl rfl rfl (wanted_none rfl) (r_pickf rfl rfl g93) ?_
                        refine F.q rfl rfl rfl (wanted_none rfl) (r_move rfl) ?_
                        refine F.q rfl rfl rfl (wg rfl rfl rfl g99) (r_move rfl) ?_
                        refine F.q rfl rfl rfl (wg rfl rfl rfl g99) (r_move rfl) ?_
                        refine F.q rfl rfl rfl (wg rfl rfl rfl g99) (r_neqB Try.underlying4 rfl rfl) ?_
                        refine F.q rfl rfl rfl (wanted_none rfl) (r_pickf rfl rfl g99) ?_
                        refine F.nil ?_
                        cases hE_2
                        refine Nrm.only [1, 2, 3, 4, 10, 11, 15, 103] rfl ?_
                        refine Nrm.pick [9, 10, 11] rfl rfl ?_
                        exact hj_2 _ _ ⟨rfl, rfl⟩
        · obtain ⟨t60, h60, hE_1⟩ := bind_some hE_1
          rcases Bool.eq_false_or_eq_true (!t60) with g62 | g62
          · replace hE_1 := if_tt g62 hE_1
            refine Tri.reg (l := [0, 1, 2, 3, 4, 5, 6, 7, 8]) rfl ?_
            refine F.q rfl rfl rfl (wanted_none rfl) (r_move rfl) ?_
            refine F.q rfl rfl rfl (wanted_none rfl) (r_move rfl) ?_
            refine F.qc rfl rfl rfl (wanted_none rfl) (q_callF (xs := _) rfl ok16 rfl rfl (fun w hw => laws_eqIntS.ok h60 w ((rd_sl (i := 0) rfl) w hw) ((rd_sl (i := 6) rfl) w hw))) ?_
            refine F.q rfl rfl rfl (wanted_none rfl) (r_not rfl) ?_
            refine F.q rfl rfl rfl (wanted_none rfl) (r_move rfl) ?_
            refine F.sk rfl rfl rfl (wf rfl rfl rfl g62) ?_
            refine F.sk rfl rfl rfl (wf rfl rfl rfl g62) ?_
            refine F.sk rfl rfl rfl (wf rfl rfl rfl g62) ?_
            refine F.q rfl rfl rfl (wanted_none rfl) (r_pick rfl rfl g62) ?_
            refine F.nil ?_
            cases hE_1
            refine Nrm.only [1, 2, 3, 4, 10, 11, 12, 13, 14, 15, 16, 66] rfl ?_
            refine Nrm.pick [3, 11, 6, 4, 5, 2, 1, 0] rfl rfl ?_
            exact hj_1 _ _ ⟨rfl, rfl⟩
          · replace hE_1 := if_ff g62 hE_1
            refine Tri.reg (l := [0, 1, 2, 3, 4, 5, 6, 7, 8]) rfl ?_
            refine F.q rfl rfl rfl (wanted_none rfl) (r_move rfl) ?_
            refine F.q rfl rfl rfl (wanted_none rfl) (r_move rfl) ?_
            refine F.qc rfl rfl rfl (wanted_none rfl) (q_callF (xs := _) rfl ok16 rfl rfl (fun w hw => laws_eqIntS.ok h60 w ((rd_sl (i := 0) rfl) w hw) ((rd_sl (i := 6) rfl) w hw))) ?_
            refine F.q rfl rfl rfl (wanted_none rfl) (r_not rfl) ?_
            refine F.q rfl rfl rfl (wanted_none rfl) (r_move rfl) ?_
            refine F.q rfl rfl rfl (wg rfl rfl rfl g62) (r_move rfl) ?_
            refine F.q rfl rfl rfl (wg rfl rfl rfl g62) (r_move rfl) ?_
            refine F.q rfl rfl rfl (wg rfl rfl rfl g62) (r_neqB Try.underlying4 rfl rfl) ?_
            refine F.q rfl rfl rfl (wanted_none rfl) (r_pickf rfl rfl g62) ?_
            refine F.nil ?_
            cases hE_1
            refine Nrm.only [1, 2, 3, 4, 10, 11, 12, 13, 14, 15, 16, 66] rfl ?_
            refine Nrm.pick [3, 11, 6, 4, 5, 2, 1, 0] rfl rfl ?_
            exact hj_1 _ _ ⟨rfl, rfl⟩

end Go.Proofs

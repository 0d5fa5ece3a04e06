/- A part of the proof of FnCrashes: what the functions of the program compute, walked on the model. No condition. -/
import Derived.Shelf.SlGeneric
import Derived.Shelf.Strconv.Itoa3
import Derived.Test.YtebbaacgalipaaaDoorChecked
import Derived.Test.YtebbaacgalipaaaDoorFnCrashesA
set_option linter.unusedSimpArgs false
namespace Go.Proofs
open Go Go.Ga Go.Ga.Rp Go.Ga.Flat
theorem mixedT : Tryd.prog.follows .mixedOrders = true := by kernel_rfl
theorem ok14 : CallOk Tryd.prog 14 := .of Tryd.func14 rfl (by decide)
theorem ok15 : CallOk Tryd.prog 15 := .of Tryd.func15 rfl (by decide)
theorem ok17 : CallOk Tryd.prog 17 := .of Tryd.func17 rfl (by decide)
theorem ok20 : CallOk Tryd.prog 20 := .of Tryd.func20 rfl (by decide)
theorem ok21 : CallOk Tryd.prog 21 := .of Tryd.func21 rfl (by decide)
theorem ok23 : CallOk Tryd.prog 23 := .of Tryd.func23 rfl (by decide)
theorem ok24 : CallOk Tryd.prog 24 := .of Tryd.func24 rfl (by decide)
theorem ok25 : CallOk Tryd.prog 25 := .of Tryd.func25 rfl (by decide)
theorem ok26 : CallOk Tryd.prog 26 := .of Tryd.func26 rfl (by decide)
theorem ok27 : CallOk Tryd.prog 27 := .of Tryd.func27 rfl (by decide)
theorem ok28 : CallOk Tryd.prog 28 := .of Tryd.func28 rfl (by decide)
theorem ok29 : CallOk Tryd.prog 29 := .of Tryd.func29 rfl (by decide)
theorem ok30 : CallOk Tryd.prog 30 := .of Tryd.func30 rfl (by decide)
theorem ok32 : CallOk Tryd.prog 32 := .of Tryd.func32 rfl (by decide)
theorem ok33 : CallOk Tryd.prog 33 := .of Tryd.func33 rfl (by decide)
theorem ok34 : CallOk Tryd.prog 34 := .of Tryd.func34 rfl (by decide)
theorem ok35 : CallOk Tryd.prog 35 := .of Tryd.func35 rfl (by decide)
theorem ok36 : CallOk Tryd.prog 36 := .of Tryd.func36 rfl (by decide)
theorem ok37 : CallOk Tryd.prog 37 := .of Tryd.func37 rfl (by decide)
theorem ok38 : CallOk Tryd.prog 38 := .of Tryd.func38 rfl (by decide)
theorem ok39 : CallOk Tryd.prog 39 := .of Tryd.func39 rfl (by decide)
theorem ok40 : CallOk Tryd.prog 40 := .of Tryd.func40 rfl (by decide)
theorem ok41 : CallOk Tryd.prog 41 := .of Tryd.func41 rfl (by decide)
theorem ok42 : CallOk Tryd.prog 42 := .of Tryd.func42 rfl (by decide)
theorem ok43 : CallOk Tryd.prog 43 := .of Tryd.func43 rfl (by decide)
theorem ok44 : CallOk Tryd.prog 44 := .of Tryd.func44 rfl (by decide)
theorem ok45 : CallOk Tryd.prog 45 := .of Tryd.func45 rfl (by decide)
theorem ok46 : CallOk Tryd.prog 46 := .of Tryd.func46 rfl (by decide)
theorem ok47 : CallOk Tryd.prog 47 := .of Tryd.func47 rfl (by decide)
theorem ok48 : CallOk Tryd.prog 48 := .of Tryd.func48 rfl (by decide)
theorem ok49 : CallOk Tryd.prog 49 := .of Tryd.func49 rfl (by decide)
theorem ok5 : CallOk Tryd.prog 5 := .of Tryd.func5 rfl (by decide)
theorem ok50 : CallOk Tryd.prog 50 := .of Tryd.func50 rfl (by decide)
theorem ok51 : CallOk Tryd.prog 51 := .of Tryd.func51 rfl (by decide)
theorem ok53 : CallOk Tryd.prog 53 := .of Tryd.func53 rfl (by decide)
theorem ok54 : CallOk Tryd.prog 54 := .of Tryd.func54 rfl (by decide)
theorem ok55 : CallOk Tryd.prog 55 := .of Tryd.func55 rfl (by decide)
theorem ok56 : CallOk Tryd.prog 56 := .of Tryd.func56 rfl (by decide)
theorem ok57 : CallOk Tryd.prog 57 := .of Tryd.func57 rfl (by decide)
theorem ok58 : CallOk Tryd.prog 58 := .of Tryd.func58 rfl (by decide)
theorem ok59 : CallOk Tryd.prog 59 := .of Tryd.func59 rfl (by decide)
theorem ok60 : CallOk Tryd.prog 60 := .of Tryd.func60 rfl (by decide)
theorem ok61 : CallOk Tryd.prog 61 := .of Tryd.func61 rfl (by decide)
theorem ok62 : CallOk Tryd.prog 62 := .of Tryd.func62 rfl (by decide)
theorem ok63 : CallOk Tryd.prog 63 := .of Tryd.func63 rfl (by decide)
theorem ok65 : CallOk Tryd.prog 65 := .of Tryd.func65 rfl (by decide)
theorem ok66 : CallOk Tryd.prog 66 := .of Tryd.func66 rfl (by decide)
theorem ok67 : CallOk Tryd.prog 67 := .of Tryd.func67 rfl (by decide)
theorem ok68 : CallOk Tryd.prog 68 := .of Tryd.func68 rfl (by decide)
theorem ok69 : CallOk Tryd.prog 69 := .of Tryd.func69 rfl (by decide)
theorem ok70 : CallOk Tryd.prog 70 := .of Tryd.func70 rfl (by decide)
theorem ok76 : CallOk Tryd.prog 76 := .of Tryd.func76 rfl (by decide)
theorem ok77 : CallOk Tryd.prog 77 := .of Tryd.func77 rfl (by decide)
theorem ok8 : CallOk Tryd.prog 8 := .of Tryd.func8 rfl (by decide)
theorem ok86 : CallOk Tryd.prog 86 := .of Tryd.func86 rfl (by decide)
theorem ta22 : TAgg Tryd.prog 22 false := .of (by kernel_rfl)
theorem ta25 : TAgg Tryd.prog 25 true := .of (by kernel_rfl)
theorem ta3 : TAgg Tryd.prog 3 false := .of (by kernel_rfl)
theorem ta33 : TAgg Tryd.prog 33 true := .of (by kernel_rfl)
theorem ta5 : TAgg Tryd.prog 5 false := .of (by kernel_rfl)
theorem ta53 : TAgg Tryd.prog 53 false := .of (by kernel_rfl)
theorem ta9 : TAgg Tryd.prog 9 false := .of (by kernel_rfl)
theorem tf25_0 : TField Tryd.prog 25 0 0 := .of (k := 0) (by kernel_rfl)
theorem tf25_1 : TField Tryd.prog 25 1 1 := .of (k := 0) (by kernel_rfl)
theorem tf33_0 : TField Tryd.prog 33 0 0 := .of (k := 0) (by kernel_rfl)
theorem tf33_1 : TField Tryd.prog 33 1 1 := .of (k := 0) (by kernel_rfl)
theorem tf33_2 : TField Tryd.prog 33 2 2 := .of (k := 0) (by kernel_rfl)
theorem tf55_0 : TField Tryd.prog 55 0 0 := .of (k := 0) (by kernel_rfl)
theorem tf55_1 : TField Tryd.prog 55 1 1 := .of (k := 0) (by kernel_rfl)
theorem tf55_2 : TField Tryd.prog 55 2 2 := .of (k := 0) (by kernel_rfl)
theorem ti25 : TInfo Tryd.prog 25 2 32 (.agg #[.string ByteArray.empty, .string ByteArray.empty]) := .of (by kernel_rfl)
theorem ti3 : TInfo Tryd.prog 3 1 8 (.int .i64 0) := .of (by kernel_rfl)
theorem ti33 : TInfo Tryd.prog 33 3 40 (.agg #[.string ByteArray.empty, .string ByteArray.empty, .int .i64 0]) := .of (by kernel_rfl)
theorem ti5 : TInfo Tryd.prog 5 1 1 (.int .u8 0) := .of (by kernel_rfl)
theorem ti53 : TInfo Tryd.prog 53 1 8 (.int .u64 0) := .of (by kernel_rfl)
theorem ti55 : TInfo Tryd.prog 55 3 40 (.agg #[.slice none 0 0, .int .i64 0, .int .u64 0]) := .of (by kernel_rfl)
theorem ti9 : TInfo Tryd.prog 9 1 16 (.string ByteArray.empty) := .of (by kernel_rfl)
theorem sq25 {a0 b0 : ByteArray} {a1 b1 : ByteArray} : ∀ w, (Op.eqFields 9999 ([.string a0, .string a1].toArray) ([.string b0, .string b1].toArray) (Tryd.prog.fieldsOf 25).toList).run Tryd.prog w = .ok (a0.toList == b0.toList && (a1.toList == b1.toList && true)) w := fun w => by
 simp only [Program.fieldsOf, Tryd.underlying25]
 exact (eqF_one (k := 9998) (by decide) ta9 rfl rfl (eqS Tryd.underlying9) (eqF_one (k := 9998) (by decide) ta9 rfl rfl (eqS Tryd.underlying9) eqF_nil))
theorem sq33 {a0 b0 : ByteArray} {a1 b1 : ByteArray} {a2 b2 : Int} : ∀ w, (Op.eqFields 9999 ([.string a0, .string a1, .int .i64 a2].toArray) ([.string b0, .string b1, .int .i64 b2].toArray) (Tryd.prog.fieldsOf 33).toList).run Tryd.prog w = .ok (a0.toList == b0.toList && (a1.toList == b1.toList && (a2 == b2 && true))) w := fun w => by
 simp only [Program.fieldsOf, Tryd.underlying33]
 exact (eqF_one (k := 9998) (by decide) ta9 rfl rfl (eqS Tryd.underlying9) (eqF_one (k := 9998) (by decide) ta9 rfl rfl (eqS Tryd.underlying9) (eqF_one (k := 9998) (by decide) ta3 rfl rfl (eqI Tryd.underlying3) eqF_nil)))
end Go.Proofs

/- loop.example/g01158/laws.vBig -/

namespace Go.Proofs
open Go Go.Ga
set_option linter.unusedVariables false
set_option maxRecDepth 100000
set_option maxHeartbeats 4000000
def laws_vBig.f (k : Nat) (a0 : List By) : Option (Bool) := some (decide ((a0.length : Int) > 65536))

theorem laws_vBig.ok {k : Nat}  {a0 : List By} {r0 : Bool} (h : laws_vBig.f k a0 = some r0) (w : World) {va0 : Value} (hr_a0 : Rd w va0 a0) :
  Calls Tryd.prog 5 ([va0] : List Value).toArray w (fun e w' => e = .returned (.bool r0) ∧ Ext w w') := by
 unfold laws_vBig.f at h
 have hl_va0 := hr_a0.len
 refine Calls.of_tri (N := 6) Tryd.func5 rfl rfl rfl (Sep.nil (M := noM)) ?_
 refine Tri.seq (Tri.reg (l := [0]) rfl ?_)
 refine F.qn rfl rfl rfl rfl (r_assign rfl) ?_
 refine F.nil (Nrm.seq (Tri.seq (Tri.reg (l := [0, 1, 2, 3]) rfl ?_)))
 refine F.qn rfl rfl rfl rfl (r_move rfl) ?_
 refine F.qn rfl rfl rfl rfl (r_len Tryd.underlying22 rfl hl_va0) ?_
 refine F.qn rfl rfl rfl rfl (r_gtr rfl rfl) ?_
 refine F.qn rfl rfl rfl rfl (r_assign rfl) ?_
 refine F.nil (Nrm.seq (Tri.ret ?_))
 cases h
 exact Rtn.body (.tmp rfl .nil) (fun w hw => ⟨rfl, hw.ext⟩)


def laws_vCut.f (k : Nat) (a0 : List By) (a1 : Int) : Option ((List By)) := ((if (decide (a1 > (a0.length : Int))) = true then some (a0.length : Int) else some a1)).bind fun y1 => (slc a0 y1 (a0.length : Int)).bind fun t14 => if (([] : List (By)) ++ t14).length < 1099511627776 then if ((([] : List (By)) ++ t14) ++ ([By.mk (IntKind.u8.wrap y1)] : List (By))).length < 1099511627776 then some ((([] : List (By)) ++ t14) ++ ([By.mk (IntKind.u8.wrap y1)] : List (By))) else none else none

theorem laws_vCut.ok {k : Nat}  {a0 : List By} {a1 : Int} {r0 : List By} (h : laws_vCut.f k a0 a1 = some r0) (w : World) {va0 : Value} (hr_a0 : Rd w va0 a0) :
  Calls Tryd.prog 8 ([va0, .int .i64 a1] : List Value).toArray w (Post (fun u ns => ∃ (Sr0 : Nat → Prop), SlLen u r0.length ∧ ns = [R.sl Sr0 u r0]) w) := by
 unfold laws_vCut.f at h
 have hl_va0 := hr_a0.len
 refine Calls.of_tri (N := 20) Tryd.func8 rfl rfl rfl (Sep.nil (M := noM)) ?_
 refine Tri.seq (Tri.reg (l := [0]) rfl ?_)
 refine F.qn rfl rfl rfl rfl (r_assign rfl) ?_
 refine F.nil (Nrm.seq (Tri.seq (Tri.seq (Tri.reg (l := [0, 1, 2, 3]) rfl ?_))))
 refine F.qn rfl rfl rfl rfl (r_move rfl) ?_
 refine F.qn rfl rfl rfl rfl (r_move rfl) ?_
 refine F.qn rfl rfl rfl rfl (r_len Tryd.underlying22 rfl hl_va0) ?_
 refine F.qn rfl rfl rfl rfl (r_gtr rfl rfl) ?_
 refine F.nil (Nrm.seq ?_)
 obtain ⟨y1, hE_1, h⟩ := bind_some h
 refine Tri.cut (fun e' C' => e' = [(0, va0), (1, .int .i64 y1)] ∧ C' = Sep w noM []) ?_ (fun hj_1 => ?_)
 ·rintro _ _ ⟨rfl, rfl⟩
  refine Nrm.seq (Tri.seq ?_)
  obtain ⟨t14, h14, h⟩ := bind_some h
  obtain ⟨hs15, h⟩ := ck h
  obtain ⟨hs19, h⟩ := ck h
  refine Tri.reg (l := [0, 1, 2, 3, 4, 5, 6, 7, 8, 9]) rfl ?_
  refine F.mn rfl rfl rfl rfl (m_build0 (α := By) Tryd.underlying22 ti5) ?_
  rintro v11_1 _ ⟨S11_1, hl_v11_1, rfl⟩
  refine F.qn rfl rfl rfl rfl (r_move rfl) ?_
  refine F.qn rfl rfl rfl rfl (r_move rfl) ?_
  refine F.qn rfl rfl rfl rfl (r_sliceL Tryd.underlying22 ti5 rfl (fun _ hw => hr_a0.sep hw) rfl h14) ?_
  refine F.efn rfl rfl rfl rfl (d_append (i := 0) Tryd.underlying22 Tryd.underlying22 ti5 rfl (by decide) rfl rfl rfl (fun w hw => rd_slc ((fun _ hw => hr_a0.sep hw) w hw) h14) hs15) ?_
  rintro v15_1 _ ⟨S15_1, rfl, hl_v15_1⟩
  refine F.qn rfl rfl rfl rfl (r_move rfl) ?_
  refine F.qn rfl rfl rfl rfl (r_conv Tryd.underlying3 Tryd.underlying5 rfl) ?_
  refine F.mn rfl rfl rfl rfl (m_buildF (l := ([By.mk (IntKind.u8.wrap y1)] : List (By))) Tryd.underlying22 ti5 rfl rfl rfl rfl rfl) ?_
  rintro v18_1 _ ⟨S18_1, hl_v18_1, rfl⟩
  refine F.efn rfl rfl rfl rfl (d_append (i := 1) Tryd.underlying22 Tryd.underlying22 ti5 rfl (by decide) rfl rfl rfl (rd_sl (i := 0) rfl) hs19) ?_
  rintro v19_1 _ ⟨S19_1, rfl, hl_v19_1⟩
  refine F.qn rfl rfl rfl rfl (r_assign rfl) ?_
  refine F.nil (Nrm.seq (Tri.ret ?_))
  cases h
  exact Rtn.body (.tmp rfl .nil) (fun w hw => ⟨_, _, rfl, ⟨S19_1, hl_v19_1, rfl⟩, Sep.pick (is := [1]) rfl rfl hw⟩)
 ·refine Tri.cond (b := decide (a1 > (a0.length : Int))) rfl (fun g_1 => ?_) (fun g_1 => ?_)
  ·replace hE_1 := if_tt g_1 hE_1
   refine Tri.reg (l := [0, 1, 2]) rfl ?_
   refine F.qn rfl rfl rfl rfl (r_move rfl) ?_
   refine F.qn rfl rfl rfl rfl (r_len Tryd.underlying22 rfl hl_va0) ?_
   refine F.qn rfl rfl rfl rfl (r_assign rfl) ?_
   refine F.nil ?_
   cases hE_1
   refine Nrm.only [0, 1] rfl ?_
   refine Nrm.pick [] rfl rfl ?_
   exact hj_1 _ _ ⟨rfl, rfl⟩
  ·replace hE_1 := if_ff g_1 hE_1
   refine Tri.skip ?_
   cases hE_1
   refine Nrm.only [0, 1] rfl ?_
   refine Nrm.pick [] rfl rfl ?_
   exact hj_1 _ _ ⟨rfl, rfl⟩


def impl_within.f (k : Nat) (a0 : Int) (a1 : Int) (a2 : Int) : Option (Bool) := ((if (decide (a1 ≤ a0)) = true then some (decide (a0 ≤ a2)) else some false)).bind fun y6 => some y6

theorem impl_within.ok {k : Nat}  {a0 : Int} {a1 : Int} {a2 : Int} {r0 : Bool} (h : impl_within.f k a0 a1 a2 = some r0) (w : World) :
  Calls Tryd.prog 32 ([.int .i64 a0, .int .i64 a1, .int .i64 a2] : List Value).toArray w (fun e w' => e = .returned (.bool r0) ∧ Ext w w') := by
 unfold impl_within.f at h
 refine Calls.of_tri (N := 15) Tryd.func32 rfl rfl rfl (Sep.nil (M := noM)) ?_
 refine Tri.seq (Tri.reg (l := [0]) rfl ?_)
 refine F.qn rfl rfl rfl rfl (r_assign rfl) ?_
 refine F.nil (Nrm.seq (Tri.seq ?_))
 obtain ⟨y6, hE_1, h⟩ := bind_some h
 refine Tri.cut (fun e' C' => e' = [(6, .bool y6)] ∧ C' = Sep w noM []) ?_ (fun hj_1 => ?_)
 ·rintro _ _ ⟨rfl, rfl⟩
  refine Nrm.seq (Tri.ret ?_)
  cases h
  exact Rtn.body (.tmp rfl .nil) (fun w hw => ⟨rfl, hw.ext⟩)
 ·rcases Bool.eq_false_or_eq_true (decide (a1 ≤ a0)) with g10 | g10
  ·replace hE_1 := if_tt g10 hE_1
   refine Tri.reg (l := [0, 1, 2, 3, 4, 5, 6, 7, 8]) rfl ?_
   refine F.qn rfl rfl rfl rfl (r_move rfl) ?_
   refine F.qn rfl rfl rfl rfl (r_move rfl) ?_
   refine F.qn rfl rfl rfl rfl (r_leq rfl rfl) ?_
   refine F.qn rfl rfl rfl rfl (r_move rfl) ?_
   refine F.qg rfl rfl rfl rfl rfl rfl g10 (r_move rfl) ?_
   refine F.qg rfl rfl rfl rfl rfl rfl g10 (r_move rfl) ?_
   refine F.qg rfl rfl rfl rfl rfl rfl g10 (r_leq rfl rfl) ?_
   refine F.qn rfl rfl rfl rfl (r_pick rfl rfl g10) ?_
   refine F.qn rfl rfl rfl rfl (r_assign rfl) ?_
   refine F.nil ?_
   cases hE_1
   refine Nrm.only [6] rfl ?_
   refine Nrm.pick [] rfl rfl ?_
   exact hj_1 _ _ ⟨rfl, rfl⟩
  ·replace hE_1 := if_ff g10 hE_1
   refine Tri.reg (l := [0, 1, 2, 3, 4, 5, 6, 7, 8]) rfl ?_
   refine F.qn rfl rfl rfl rfl (r_move rfl) ?_
   refine F.qn rfl rfl rfl rfl (r_move rfl) ?_
   refine F.qn rfl rfl rfl rfl (r_leq rfl rfl) ?_
   refine F.qn rfl rfl rfl rfl (r_move rfl) ?_
   iterate 3 refine F.sk rfl rfl rfl (wf rfl rfl rfl g10) ?_
   refine F.qn rfl rfl rfl rfl (r_pickf rfl rfl g10) ?_
   refine F.qn rfl rfl rfl rfl (r_assign rfl) ?_
   refine F.nil ?_
   cases hE_1
   refine Nrm.only [6] rfl ?_
   refine Nrm.pick [] rfl rfl ?_
   exact hj_1 _ _ ⟨rfl, rfl⟩


def stringslite_IndexByte.f (k : Nat) (a0 : ByteArray) (a1 : Int) : Option (Int) := some (bytea a0 a1)

theorem stringslite_IndexByte.ok {k : Nat}  {a0 : ByteArray} {a1 : Int} {r0 : Int} (h : stringslite_IndexByte.f k a0 a1 = some r0) (w : World) :
  Calls Tryd.prog 66 ([.string a0, .int .u8 a1] : List Value).toArray w (fun e w' => e = .returned (.int .i64 r0) ∧ Ext w w') := by
 unfold stringslite_IndexByte.f at h
 refine Calls.of_tri (N := 8) Tryd.func66 rfl rfl rfl (Sep.nil (M := noM)) ?_
 refine Tri.seq (Tri.reg (l := [0]) rfl ?_)
 refine F.qn rfl rfl rfl rfl (r_assign rfl) ?_
 refine F.nil (Nrm.seq (Tri.seq (Tri.reg (l := [0, 1, 2, 3]) rfl ?_)))
 refine F.qn rfl rfl rfl rfl (r_move rfl) ?_
 refine F.qn rfl rfl rfl rfl (r_move rfl) ?_
 refine F.qn rfl rfl rfl rfl (r_extern (v := .int .i64 (bytea a0 a1)) (E := Extern.BytealgIndexByte.indexByte) rfl Tryd.func75 rfl (by decide) (by kernel_rfl) (by kernel_rfl) rfl (fun w => Lib.run_indexByteString _ _ w)) ?_
 refine F.qn rfl rfl rfl rfl (r_assign rfl) ?_
 refine F.nil (Nrm.seq (Tri.ret ?_))
 cases h
 exact Rtn.body (.tmp rfl .nil) (fun w hw => ⟨rfl, hw.ext⟩)


def strings_IndexByte.f (k : Nat) (a0 : ByteArray) (a1 : Int) : Option (Int) := (stringslite_IndexByte.f k a0 a1).bind fun t7 => some t7

theorem strings_IndexByte.ok {k : Nat}  {a0 : ByteArray} {a1 : Int} {r0 : Int} (h : strings_IndexByte.f k a0 a1 = some r0) (w : World) :
  Calls Tryd.prog 58 ([.string a0, .int .u8 a1] : List Value).toArray w (fun e w' => e = .returned (.int .i64 r0) ∧ Ext w w') := by
 unfold strings_IndexByte.f at h
 refine Calls.of_tri (N := 8) Tryd.func58 rfl rfl rfl (Sep.nil (M := noM)) ?_
 refine Tri.seq (Tri.reg (l := [0]) rfl ?_)
 refine F.qn rfl rfl rfl rfl (r_assign rfl) ?_
 refine F.nil (Nrm.seq (Tri.seq ?_))
 obtain ⟨t7, h7, h⟩ := bind_some h
 refine Tri.reg (l := [0, 1, 2, 3]) rfl ?_
 refine F.qn rfl rfl rfl rfl (r_move rfl) ?_
 refine F.qn rfl rfl rfl rfl (r_move rfl) ?_
 refine F.qcn rfl rfl rfl rfl (q_callF (xs := _) rfl ok66 rfl rfl (fun w hw => stringslite_IndexByte.ok h7 w )) ?_
 refine F.qn rfl rfl rfl rfl (r_assign rfl) ?_
 refine F.nil (Nrm.seq (Tri.ret ?_))
 cases h
 exact Rtn.body (.tmp rfl .nil) (fun w hw => ⟨rfl, hw.ext⟩)


def impl_isPlain.l0 (k : Nat) (a0 : ByteArray) (a1 : ByteArray) : Nat → Int → Option ((Unit) ⊕ (Bool))
 | 0, _ => none
 | n + 1, x8 => (if (decide (x8 < (a0.size : Int))) = true then ((bta a0 x8).bind fun t13 => (impl_within.f k (IntKind.i64.wrap (t13.toNat : Int)) 32 126).bind fun t15 => (if (!t15) = true then some true else (bta a0 x8).bind fun t21 => (strings_IndexByte.f k a1 (t21.toNat : Int)).bind fun t22 => some (decide (t22 ≥ 0)))).bind fun y24 => (if y24 = true then some (Sum.inr false) else impl_isPlain.l0 k a0 a1 n (w64 (x8 + 1))) else some (Sum.inl ()))

def impl_isPlain.f (k : Nat) (a0 : ByteArray) (a1 : ByteArray) : Option (Bool) := (impl_isPlain.l0 k a0 a1 k 0).bind fun s => Lr s some fun _ => some true

theorem impl_isPlain.ok {k : Nat}  {a0 : ByteArray} {a1 : ByteArray} {r0 : Bool} (h : impl_isPlain.f k a0 a1 = some r0) (w : World) :
  Calls Tryd.prog 43 ([.string a0, .string a1] : List Value).toArray w (fun e w' => e = .returned (.bool r0) ∧ Ext w w') := by
 unfold impl_isPlain.f at h
 refine Calls.of_tri (N := 26) Tryd.func43 rfl rfl rfl (Sep.nil (M := noM)) ?_
 refine Tri.seq (Tri.reg (l := [0]) rfl ?_)
 refine F.qn rfl rfl rfl rfl (r_assign rfl) ?_
 refine F.nil (Nrm.seq (Tri.seq (Tri.seq (Tri.reg (l := [0, 1, 2]) rfl ?_))))
 refine F.qn rfl rfl rfl rfl (r_move rfl) ?_
 refine F.qn rfl rfl rfl rfl (r_lenS Tryd.underlying9 rfl) ?_
 refine F.qn rfl rfl rfl rfl (r_move rfl) ?_
 refine F.nil (Nrm.seq ?_)
 obtain ⟨s0, hE_1, h⟩ := bind_some h
 refine Tri.block ?_
 refine Tri.only [0, 1, 7, 8] rfl ?_
 refine Tri.pick [] rfl rfl ?_
 refine Tri.rounds (fun n e' C' => ∃ (x8' : Int), impl_isPlain.l0 k a0 a1 n x8' = some s0 ∧ e' = [(0, .string a0), (1, .string a1), (7, .int .i64 (a0.size : Int)), (8, .int .i64 x8')] ∧ C' = Sep w noM []) k ?_ ?_ ?_
 ·exact ⟨0, hE_1, rfl, rfl⟩
 ·rintro _ _ ⟨_, hE_1, _⟩
  rw [impl_isPlain.l0.eq_1] at hE_1; cases hE_1
 ·rintro n_1 _ _ ⟨x8, hE_1, rfl, rfl⟩ ih_1
  rw [impl_isPlain.l0.eq_2] at hE_1
  refine Tri.seq (Tri.reg (l := [0]) rfl ?_)
  refine F.qn rfl rfl rfl rfl (r_lss rfl rfl) ?_
  refine F.nil (Nrm.seq (Tri.seq (Tri.cond (b := decide (x8 < (a0.size : Int))) rfl (fun g_1 => ?_) (fun g_1 => ?_))))
  ·replace hE_1 := if_tt g_1 hE_1
   refine Tri.skip (Nrm.seq (Tri.seq (Tri.block ?_)))
   refine Tri.seq (Tri.reg (l := [0, 1]) rfl ?_)
   refine F.qn rfl rfl rfl rfl (r_move rfl) ?_
   refine F.qn rfl rfl rfl rfl (r_assign rfl) ?_
   refine F.nil (Nrm.seq (Tri.seq ?_))
   obtain ⟨y24, hE_2, hE_1⟩ := bind_some hE_1
   refine Tri.cut (fun e' C' => e' = [(0, .string a0), (1, .string a1), (7, .int .i64 (a0.size : Int)), (8, .int .i64 x8), (24, .bool y24)] ∧ C' = Sep w noM []) ?_ (fun hj_1 => ?_)
   ·rintro _ _ ⟨rfl, rfl⟩
    refine Nrm.seq (Tri.cond (b := y24) rfl (fun g_2 => ?_) (fun g_2 => ?_))
    ·replace hE_1 := if_tt g_2 hE_1
     refine Tri.seq (Tri.reg (l := [0]) rfl ?_)
     refine F.qn rfl rfl rfl rfl (r_assign rfl) ?_
     refine F.nil (Nrm.seq (Tri.ret ?_))
     refine Rtn.block ?_
     refine Rtn.then ?_
     refine Rtn.then ?_
     refine Rtn.block ?_
     refine Rtn.then ?_
     cases hE_1
     replace h := Lr_inr h
     cases h
     exact Rtn.body (.tmp rfl .nil) (fun w hw => ⟨rfl, hw.ext⟩)
    ·replace hE_1 := if_ff g_2 hE_1
     refine Tri.skip (Nrm.block ?_)
     refine Nrm.seq (Tri.reg (l := [0, 1]) rfl ?_)
     refine F.qn rfl rfl rfl rfl (r_add rfl rfl) ?_
     refine F.qn rfl rfl rfl rfl (r_move rfl) ?_
     refine F.nil (Nrm.round ?_)
     refine Rnd.only [0, 1, 7, 8] rfl ?_
     refine Rnd.pick [] rfl rfl ?_
     exact ih_1 _ _ ⟨w64 (x8 + 1), hE_1, rfl, rfl⟩
   ·obtain ⟨t13, h13, hE_2⟩ := bind_some hE_2
    obtain ⟨t15, h15, hE_2⟩ := bind_some hE_2
    rcases Bool.eq_false_or_eq_true (!t15) with g17 | g17
    ·replace hE_2 := if_tt g17 hE_2
     refine Tri.reg (l := List.range 14) rfl ?_
     refine F.qn rfl rfl rfl rfl (r_move rfl) ?_
     refine F.qn rfl rfl rfl rfl (r_move rfl) ?_
     refine F.qn rfl rfl rfl rfl (r_indexS Tryd.underlying9 rfl rfl (bt_some h13).1 (bt_some h13).2) ?_
     refine F.qn rfl rfl rfl rfl (r_conv Tryd.underlying5 Tryd.underlying3 rfl) ?_
     refine F.qcn rfl rfl rfl rfl (q_callF (xs := _) rfl ok32 rfl rfl (fun w hw => impl_within.ok h15 w )) ?_
     refine F.qn rfl rfl rfl rfl (r_not rfl) ?_
     refine F.qn rfl rfl rfl rfl (r_move rfl) ?_
     iterate 6 refine F.sk rfl rfl rfl (wf rfl rfl rfl g17) ?_
     refine F.qn rfl rfl rfl rfl (r_pick rfl rfl g17) ?_
     refine F.nil ?_
     cases hE_2
     refine Nrm.only [0, 1, 7, 8, 24] rfl ?_
     refine Nrm.pick [] rfl rfl ?_
     exact hj_1 _ _ ⟨rfl, rfl⟩
    ·replace hE_2 := if_ff g17 hE_2
     obtain ⟨t21, h21, hE_2⟩ := bind_some hE_2
     obtain ⟨t22, h22, hE_2⟩ := bind_some hE_2
     refine Tri.reg (l := List.range 14) rfl ?_
     refine F.qn rfl rfl rfl rfl (r_move rfl) ?_
     refine F.qn rfl rfl rfl rfl (r_move rfl) ?_
     refine F.qn rfl rfl rfl rfl (r_indexS Tryd.underlying9 rfl rfl (bt_some h13).1 (bt_some h13).2) ?_
     refine F.qn rfl rfl rfl rfl (r_conv Tryd.underlying5 Tryd.underlying3 rfl) ?_
     refine F.qcn rfl rfl rfl rfl (q_callF (xs := _) rfl ok32 rfl rfl (fun w hw => impl_within.ok h15 w )) ?_
     refine F.qn rfl rfl rfl rfl (r_not rfl) ?_
     refine F.qn rfl rfl rfl rfl (r_move rfl) ?_
     iterate 3 refine F.qg rfl rfl rfl rfl rfl rfl g17 (r_move rfl) ?_
     refine F.qg rfl rfl rfl rfl rfl rfl g17 (r_indexS Tryd.underlying9 rfl rfl (bt_some h21).1 (bt_some h21).2) ?_
     refine F.qc rfl rfl rfl (wg rfl rfl rfl g17) (q_callF (xs := _) rfl ok58 rfl rfl (fun w hw => strings_IndexByte.ok h22 w )) ?_
     refine F.qg rfl rfl rfl rfl rfl rfl g17 (r_geq rfl rfl) ?_
     refine F.qn rfl rfl rfl rfl (r_pickf rfl rfl g17) ?_
     refine F.nil ?_
     cases hE_2
     refine Nrm.only [0, 1, 7, 8, 24] rfl ?_
     refine Nrm.pick [] rfl rfl ?_
     exact hj_1 _ _ ⟨rfl, rfl⟩
  ·replace hE_1 := if_ff g_1 hE_1
   refine Tri.exit ?_
   refine Exi.then ?_
   refine Exi.then ?_
   refine Exi.same ?_
   cases hE_1
   replace h := Lr_inl h
   refine Nrm.seq (Tri.seq (Tri.reg (l := [0]) rfl ?_))
   refine F.qn rfl rfl rfl rfl (r_assign rfl) ?_
   refine F.nil (Nrm.seq (Tri.ret ?_))
   cases h
   exact Rtn.body (.tmp rfl .nil) (fun w hw => ⟨rfl, hw.ext⟩)


def impl_isCommand.f (k : Nat) (a0 : ByteArray) : Option (Bool) := ((impl_within.f k (a0.size : Int) 1 160).bind fun t5 => (if t5 = true then (impl_isPlain.f k a0 (ByteArray.mk #[35, 64])).bind fun t8 => some t8 else some false)).bind fun y2 => some y2

theorem impl_isCommand.ok {k : Nat}  {a0 : ByteArray} {r0 : Bool} (h : impl_isCommand.f k a0 = some r0) (w : World) :
  Calls Tryd.prog 42 ([.string a0] : List Value).toArray w (fun e w' => e = .returned (.bool r0) ∧ Ext w w') := by
 unfold impl_isCommand.f at h
 refine Calls.of_tri (N := 10) Tryd.func42 rfl rfl rfl (Sep.nil (M := noM)) ?_
 refine Tri.seq (Tri.reg (l := [0]) rfl ?_)
 refine F.qn rfl rfl rfl rfl (r_assign rfl) ?_
 refine F.nil (Nrm.seq (Tri.seq ?_))
 obtain ⟨y2, hE_1, h⟩ := bind_some h
 refine Tri.cut (fun e' C' => e' = [(2, .bool y2)] ∧ C' = Sep w noM []) ?_ (fun hj_1 => ?_)
 ·rintro _ _ ⟨rfl, rfl⟩
  refine Nrm.seq (Tri.ret ?_)
  cases h
  exact Rtn.body (.tmp rfl .nil) (fun w hw => ⟨rfl, hw.ext⟩)
 ·obtain ⟨t5, h5, hE_1⟩ := bind_some hE_1
  rcases Bool.eq_false_or_eq_true (t5) with g6 | g6
  ·replace hE_1 := if_tt g6 hE_1
   obtain ⟨t8, h8, hE_1⟩ := bind_some hE_1
   refine Tri.reg (l := [0, 1, 2, 3, 4, 5, 6, 7]) rfl ?_
   refine F.qn rfl rfl rfl rfl (r_move rfl) ?_
   refine F.qn rfl rfl rfl rfl (r_lenS Tryd.underlying9 rfl) ?_
   refine F.qcn rfl rfl rfl rfl (q_callF (xs := _) rfl ok32 rfl rfl (fun w hw => impl_within.ok h5 w )) ?_
   refine F.qn rfl rfl rfl rfl (r_move rfl) ?_
   refine F.qg rfl rfl rfl rfl rfl rfl g6 (r_move rfl) ?_
   refine F.qc rfl rfl rfl (wg rfl rfl rfl g6) (q_callF (xs := _) rfl ok43 rfl rfl (fun w hw => impl_isPlain.ok h8 w )) ?_
   refine F.qn rfl rfl rfl rfl (r_pick rfl rfl g6) ?_
   refine F.qn rfl rfl rfl rfl (r_assign rfl) ?_
   refine F.nil ?_
   cases hE_1
   refine Nrm.only [2] rfl ?_
   refine Nrm.pick [] rfl rfl ?_
   exact hj_1 _ _ ⟨rfl, rfl⟩
  ·replace hE_1 := if_ff g6 hE_1
   refine Tri.reg (l := [0, 1, 2, 3, 4, 5, 6, 7]) rfl ?_
   refine F.qn rfl rfl rfl rfl (r_move rfl) ?_
   refine F.qn rfl rfl rfl rfl (r_lenS Tryd.underlying9 rfl) ?_
   refine F.qcn rfl rfl rfl rfl (q_callF (xs := _) rfl ok32 rfl rfl (fun w hw => impl_within.ok h5 w )) ?_
   refine F.qn rfl rfl rfl rfl (r_move rfl) ?_
   refine F.sk rfl rfl rfl (wf rfl rfl rfl g6) ?_
   refine F.sk rfl rfl rfl (wf rfl rfl rfl g6) ?_
   refine F.qn rfl rfl rfl rfl (r_pickf rfl rfl g6) ?_
   refine F.qn rfl rfl rfl rfl (r_assign rfl) ?_
   refine F.nil ?_
   cases hE_1
   refine Nrm.only [2] rfl ?_
   refine Nrm.pick [] rfl rfl ?_
   exact hj_1 _ _ ⟨rfl, rfl⟩


def impl_IsValidRecord.f (k : Nat) (a0_0 : ByteArray) (a0_1 : ByteArray) : Option (Bool) := ((impl_isCommand.f k a0_0).bind fun t5 => (if t5 = true then (if (decide ((a0_1.size : Int) ≤ 250)) = true then (impl_isPlain.f k a0_1 (ByteArray.mk #[35])).bind fun t15 => some t15 else some false) else some false)).bind fun y2 => some y2

theorem impl_IsValidRecord.ok {k : Nat}  {a0_0 : ByteArray} {a0_1 : ByteArray} {r0 : Bool} (h : impl_IsValidRecord.f k a0_0 a0_1 = some r0) (w : World) :
  Calls Tryd.prog 15 ([.agg ([.string a0_0, .string a0_1].toArray)] : List Value).toArray w (fun e w' => e = .returned (.bool r0) ∧ Ext w w') := by
 unfold impl_IsValidRecord.f at h
 refine Calls.of_tri (N := 17) Tryd.func15 rfl rfl rfl (Sep.nil (M := noM)) ?_
 refine Tri.seq (Tri.reg (l := [0, 1]) rfl ?_)
 refine F.mn rfl rfl rfl rfl (m_boxG rfl rfl) ?_
 rintro _ _ ⟨b1_1, rfl, rfl⟩
 refine F.qn rfl rfl rfl rfl (r_assign rfl) ?_
 refine F.nil (Nrm.seq (Tri.seq ?_))
 obtain ⟨y2, hE_1, h⟩ := bind_some h
 refine Tri.cut (fun e' C' => e' = [(2, .bool y2)] ∧ C' = Sep w noM []) ?_ (fun hj_1 => ?_)
 ·rintro _ _ ⟨rfl, rfl⟩
  refine Nrm.seq (Tri.ret ?_)
  cases h
  exact Rtn.body (.tmp rfl .nil) (fun w hw => ⟨rfl, hw.ext⟩)
 ·obtain ⟨t5, h5, hE_1⟩ := bind_some hE_1
  rcases Bool.eq_false_or_eq_true (t5) with g6 | g6
  ·replace hE_1 := if_tt g6 hE_1
   rcases Bool.eq_false_or_eq_true (decide ((a0_1.size : Int) ≤ 250)) with g12 | g12
   ·replace hE_1 := if_tt g12 hE_1
    obtain ⟨t15, h15, hE_1⟩ := bind_some hE_1
    refine Tri.reg (l := List.range 15) rfl ?_
    refine F.qn rfl rfl rfl rfl (r_fieldAddr tf25_0 rfl) ?_
    refine F.qn rfl rfl rfl rfl (r_load ta9 rfl (fun w hw => cell_1 (box_cells (i := 0) rfl w hw) rfl)) ?_
    refine F.qcn rfl rfl rfl rfl (q_callF (xs := _) rfl ok42 rfl rfl (fun w hw => impl_isCommand.ok h5 w )) ?_
    refine F.qn rfl rfl rfl rfl (r_move rfl) ?_
    refine F.qg rfl rfl rfl rfl rfl rfl g6 (r_fieldAddr tf25_1 rfl) ?_
    refine F.qg rfl rfl rfl rfl rfl rfl g6 (r_load ta9 rfl (fun w hw => cell_1 (box_cells (i := 0) rfl w hw) rfl)) ?_
    refine F.qg rfl rfl rfl rfl rfl rfl g6 (r_lenS Tryd.underlying9 rfl) ?_
    refine F.qg rfl rfl rfl rfl rfl rfl g6 (r_leq rfl rfl) ?_
    refine F.qn rfl rfl rfl rfl (r_pick rfl rfl g6) ?_
    refine F.qn rfl rfl rfl rfl (r_move rfl) ?_
    refine F.qg rfl rfl rfl rfl rfl rfl g12 (r_fieldAddr tf25_1 rfl) ?_
    refine F.qg rfl rfl rfl rfl rfl rfl g12 (r_load ta9 rfl (fun w hw => cell_1 (box_cells (i := 0) rfl w hw) rfl)) ?_
    refine F.qc rfl rfl rfl (wg rfl rfl rfl g12) (q_callF (xs := _) rfl ok43 rfl rfl (fun w hw => impl_isPlain.ok h15 w )) ?_
    refine F.qn rfl rfl rfl rfl (r_pick rfl rfl g12) ?_
    refine F.qn rfl rfl rfl rfl (r_assign rfl) ?_
    refine F.nil ?_
    cases hE_1
    refine Nrm.only [2] rfl ?_
    refine Nrm.pick [] rfl rfl ?_
    exact hj_1 _ _ ⟨rfl, rfl⟩
   ·replace hE_1 := if_ff g12 hE_1
    refine Tri.reg (l := List.range 15) rfl ?_
    refine F.qn rfl rfl rfl rfl (r_fieldAddr tf25_0 rfl) ?_
    refine F.qn rfl rfl rfl rfl (r_load ta9 rfl (fun w hw => cell_1 (box_cells (i := 0) rfl w hw) rfl)) ?_
    refine F.qcn rfl rfl rfl rfl (q_callF (xs := _) rfl ok42 rfl rfl (fun w hw => impl_isCommand.ok h5 w )) ?_
    refine F.qn rfl rfl rfl rfl (r_move rfl) ?_
    refine F.qg rfl rfl rfl rfl rfl rfl g6 (r_fieldAddr tf25_1 rfl) ?_
    refine F.qg rfl rfl rfl rfl rfl rfl g6 (r_load ta9 rfl (fun w hw => cell_1 (box_cells (i := 0) rfl w hw) rfl)) ?_
    refine F.qg rfl rfl rfl rfl rfl rfl g6 (r_lenS Tryd.underlying9 rfl) ?_
    refine F.qg rfl rfl rfl rfl rfl rfl g6 (r_leq rfl rfl) ?_
    refine F.qn rfl rfl rfl rfl (r_pick rfl rfl g6) ?_
    refine F.qn rfl rfl rfl rfl (r_move rfl) ?_
    iterate 3 refine F.sk rfl rfl rfl (wf rfl rfl rfl g12) ?_
    refine F.qn rfl rfl rfl rfl (r_pickf rfl rfl g12) ?_
    refine F.qn rfl rfl rfl rfl (r_assign rfl) ?_
    refine F.nil ?_
    cases hE_1
    refine Nrm.only [2] rfl ?_
    refine Nrm.pick [] rfl rfl ?_
    exact hj_1 _ _ ⟨rfl, rfl⟩
  ·replace hE_1 := if_ff g6 hE_1
   refine Tri.reg (l := List.range 15) rfl ?_
   refine F.qn rfl rfl rfl rfl (r_fieldAddr tf25_0 rfl) ?_
   refine F.qn rfl rfl rfl rfl (r_load ta9 rfl (fun w hw => cell_1 (box_cells (i := 0) rfl w hw) rfl)) ?_
   refine F.qcn rfl rfl rfl rfl (q_callF (xs := _) rfl ok42 rfl rfl (fun w hw => impl_isCommand.ok h5 w )) ?_
   refine F.qn rfl rfl rfl rfl (r_move rfl) ?_
   iterate 4 refine F.sk rfl rfl rfl (wf rfl rfl rfl g6) ?_
   refine F.qn rfl rfl rfl rfl (r_pickf rfl rfl g6) ?_
   refine F.qn rfl rfl rfl rfl (r_move rfl) ?_
   iterate 3 refine F.sk rfl rfl rfl (wf rfl rfl rfl rfl) ?_
   refine F.qn rfl rfl rfl rfl (r_pickf rfl rfl rfl) ?_
   refine F.qn rfl rfl rfl rfl (r_assign rfl) ?_
   refine F.nil ?_
   cases hE_1
   refine Nrm.only [2] rfl ?_
   refine Nrm.pick [] rfl rfl ?_
   exact hj_1 _ _ ⟨rfl, rfl⟩

end Go.Proofs

/- Contracts of the library, laid at this seat. 43409f390bb841c1 -/
namespace Go.Proofs
open Go.Shelf
def Tryd.itoa_ren : Go.Shelf.Ren := ⟨fun | 171 => 34 | 243 => 52 | 246 => 64 | 283 => 71 | 284 => 72 | 285 => 73 | 286 => 74 | 129 => 82 | 317 => 81 | 318 => 83 | 319 => 84 | 320 => 85 | 337 => 88 | 338 => 89 | n => n, fun | 3 => 3 | 9 => 9 | 2 => 2 | 4 => 4 | 171 => 94 | 0 => 0 | 53 => 53 | 37 => 22 | 5 => 5 | 173 => 97 | 212 => 100 | 51 => 101 | 20 => 20 | 213 => 102 | 46 => 90 | 232 => 107 | 233 => 108 | n => n, fun | 17 => 1 | 18 => 2 | 19 => 3 | n => n⟩
theorem Tryd.itoa : Go.Proofs.LaysM.n171 Tryd.prog Tryd.itoa_ren := {
 mixed := by kernel_rfl
 f129 := Tryd.func82.trans (congrArg some (by kernel_rfl))
 f171 := Tryd.func34.trans (congrArg some (by kernel_rfl))
 f243 := Tryd.func52.trans (congrArg some (by kernel_rfl))
 f246 := Tryd.func64.trans (congrArg some (by kernel_rfl))
 f283 := Tryd.func71.trans (congrArg some (by kernel_rfl))
 f284 := Tryd.func72.trans (congrArg some (by kernel_rfl))
 f285 := Tryd.func73.trans (congrArg some (by kernel_rfl))
 f286 := Tryd.func74.trans (congrArg some (by kernel_rfl))
 f317 := Tryd.func81.trans (congrArg some (by kernel_rfl))
 f318 := Tryd.func83.trans (congrArg some (by kernel_rfl))
 f319 := Tryd.func84.trans (congrArg some (by kernel_rfl))
 f320 := Tryd.func85.trans (congrArg some (by kernel_rfl))
 f337 := Tryd.func88.trans (congrArg some (by kernel_rfl))
 f338 := Tryd.func89.trans (congrArg some (by kernel_rfl))
 t0 := Tryd.underlying0
 a0 := Tryd.isAgg0
 z0 := Tryd.sizeOf0
 v0 := Tryd.zeroValue0
 t2 := Tryd.underlying2
 a2 := Tryd.isAgg2
 z2 := Tryd.sizeOf2
 v2 := Tryd.zeroValue2
 t3 := Tryd.underlying3
 a3 := Tryd.isAgg3
 z3 := Tryd.sizeOf3
 v3 := Tryd.zeroValue3
 t4 := Tryd.underlying4
 a4 := Tryd.isAgg4
 z4 := Tryd.sizeOf4
 v4 := Tryd.zeroValue4
 t5 := Tryd.underlying5
 a5 := Tryd.isAgg5
 z5 := Tryd.sizeOf5
 v5 := Tryd.zeroValue5
 t9 := Tryd.underlying9
 a9 := Tryd.isAgg9
 z9 := Tryd.sizeOf9
 v9 := Tryd.zeroValue9
 t20 := Tryd.underlying20
 a20 := Tryd.isAgg20
 z20 := Tryd.sizeOf20
 v20 := Tryd.zeroValue20
 t37 := Tryd.underlying22
 a37 := Tryd.isAgg22
 z37 := Tryd.sizeOf22
 v37 := Tryd.zeroValue22
 t46 := Tryd.underlying90
 a46 := Tryd.isAgg90
 z46 := Tryd.sizeOf90
 v46 := Tryd.zeroValue90
 t51 := Tryd.underlying101
 a51 := Tryd.isAgg101
 z51 := Tryd.sizeOf101
 v51 := Tryd.zeroValue101
 t53 := Tryd.underlying53
 a53 := Tryd.isAgg53
 z53 := Tryd.sizeOf53
 v53 := Tryd.zeroValue53
 t171 := Tryd.underlying94
 a171 := Tryd.isAgg94
 z171 := Tryd.sizeOf94
 v171 := Tryd.zeroValue94
 t173 := Tryd.underlying97
 a173 := Tryd.isAgg97
 z173 := Tryd.sizeOf97
 v173 := Tryd.zeroValue97
 t212 := Tryd.underlying100
 a212 := Tryd.isAgg100
 z212 := Tryd.sizeOf100
 v212 := Tryd.zeroValue100
 t213 := Tryd.underlying102
 a213 := Tryd.isAgg102
 z213 := Tryd.sizeOf102
 t232 := Tryd.underlying107
 a232 := Tryd.isAgg107
 z232 := Tryd.sizeOf107
 v232 := Tryd.zeroValue107
 t233 := Tryd.underlying108
 a233 := Tryd.isAgg108
 z233 := Tryd.sizeOf108
 v233 := Tryd.zeroValue108
 g17 := by kernel_rfl
 g18 := by kernel_rfl
 g19 := by kernel_rfl
 i0 := by kernel_rfl
 i2 := by kernel_rfl
 i3 := by kernel_rfl
 i4 := by kernel_rfl
 i5 := by kernel_rfl
 i9 := by kernel_rfl
 i20 := by kernel_rfl
 i37 := by kernel_rfl
 i46 := by kernel_rfl
 i51 := by kernel_rfl
 i53 := by kernel_rfl
 i171 := by kernel_rfl
 i173 := by kernel_rfl
 i212 := by kernel_rfl
 i232 := by kernel_rfl
 i233 := by kernel_rfl
 m17 := by kernel_rfl
 m18 := by kernel_rfl
 m19 := by kernel_rfl }
end Go.Proofs

/- strconv.Itoa -/

namespace Go.Proofs
open Go Go.Ga
set_option linter.unusedVariables false
set_option maxRecDepth 100000
set_option maxHeartbeats 4000000
def strconv_Itoa.f (k : Nat) (a0 : Int) : Option (ByteArray) := if -9223372036854775808 ≤ a0 ∧ a0 ≤ 9223372036854775807 then some (itoaB a0) else none

theorem strconv_Itoa.ok {k : Nat} {a0 : Int} {r0 : ByteArray} (h : strconv_Itoa.f k a0 = some r0) (w : World) (ht : Lib.TabIs Tryd.prog w "internal/strconv.uint64pow10" .u64 Lib.pow10Tab) :
  Calls Tryd.prog 34 ([.int .i64 a0] : List Value).toArray w (fun e w' => e = .returned (.string r0) ∧ Ext w w') :=
 itoa_ok h w (fun h0 h1 => Any.strconv_Itoa Tryd.itoa a0 h0 h1 w ht)


def stringslite_Index.f (k : Nat) (a0 : ByteArray) (a1 : ByteArray) : Option (Int) := ((if ((a1.size : Int) == 0) = true then some true else some (a1.toList == a0.toList))).bind fun y16 => (if y16 = true then some 0 else (if ((a1.size : Int) == 1) = true then (bta a1 0).bind fun t29 => (stringslite_IndexByte.f k a0 (t29.toNat : Int)).bind fun t30 => some t30 else (if (decide ((a1.size : Int) ≥ (a0.size : Int))) = true then some (-1) else none)))

theorem stringslite_Index.ok {k : Nat}  {a0 : ByteArray} {a1 : ByteArray} {r0 : Int} (h : stringslite_Index.f k a0 a1 = some r0) (w : World) :
  Calls Tryd.prog 70 ([.string a0, .string a1] : List Value).toArray w (fun e w' => e = .returned (.int .i64 r0) ∧ Ext w w') := by
 unfold stringslite_Index.f at h
 refine Calls.of_tri (N := 143) Tryd.func70 rfl rfl rfl (Sep.nil (M := noM)) ?_
 refine Tri.seq (Tri.reg (l := [0]) rfl ?_)
 refine F.qn rfl rfl rfl rfl (r_assign rfl) ?_
 refine F.nil (Nrm.seq (Tri.seq (Tri.reg (l := [0, 1, 2]) rfl ?_)))
 refine F.qn rfl rfl rfl rfl (r_move rfl) ?_
 refine F.qn rfl rfl rfl rfl (r_lenS Tryd.underlying9 rfl) ?_
 refine F.qn rfl rfl rfl rfl (r_assign rfl) ?_
 refine F.nil (Nrm.seq (Tri.seq (Tri.block ?_)))
 refine Tri.seq ?_
 obtain ⟨y16, hE_1, h⟩ := bind_some h
 refine Tri.cut (fun e' C' => e' = [(0, .string a0), (1, .string a1), (5, .int .i64 (a1.size : Int)), (16, .bool y16)] ∧ C' = Sep w noM []) ?_ (fun hj_1 => ?_)
 ·rintro _ _ ⟨rfl, rfl⟩
  refine Nrm.seq (Tri.cond (b := y16) rfl (fun g_1 => ?_) (fun g_1 => ?_))
  ·replace h := if_tt g_1 h
   refine Tri.seq (Tri.reg (l := [0]) rfl ?_)
   refine F.qn rfl rfl rfl rfl (r_assign rfl) ?_
   refine F.nil (Nrm.seq (Tri.ret ?_))
   refine Rtn.block ?_
   refine Rtn.then ?_
   cases h
   exact Rtn.body (.tmp rfl .nil) (fun w hw => ⟨rfl, hw.ext⟩)
  ·replace h := if_ff g_1 h
   refine Tri.seq (Tri.reg (l := [0, 1, 2]) rfl ?_)
   refine F.qn rfl rfl rfl rfl (r_move rfl) ?_
   refine F.qn rfl rfl rfl rfl (r_eql rfl rfl) ?_
   refine F.qn rfl rfl rfl rfl (r_assign rfl) ?_
   refine F.nil (Nrm.seq (Tri.cond (b := (a1.size : Int) == 1) rfl (fun g_2 => ?_) (fun g_2 => ?_)))
   ·replace h := if_tt g_2 h
    refine Tri.seq ?_
    obtain ⟨t29, h29, h⟩ := bind_some h
    obtain ⟨t30, h30, h⟩ := bind_some h
    refine Tri.reg (l := [0, 1, 2, 3, 4]) rfl ?_
    refine F.qn rfl rfl rfl rfl (r_move rfl) ?_
    refine F.qn rfl rfl rfl rfl (r_move rfl) ?_
    refine F.qn rfl rfl rfl rfl (r_indexS Tryd.underlying9 rfl rfl (bt_some h29).1 (bt_some h29).2) ?_
    refine F.qcn rfl rfl rfl rfl (q_callF (xs := _) rfl ok66 rfl rfl (fun w hw => stringslite_IndexByte.ok h30 w )) ?_
    refine F.qn rfl rfl rfl rfl (r_assign rfl) ?_
    refine F.nil (Nrm.seq (Tri.ret ?_))
    refine Rtn.block ?_
    refine Rtn.then ?_
    cases h
    exact Rtn.body (.tmp rfl .nil) (fun w hw => ⟨rfl, hw.ext⟩)
   ·replace h := if_ff g_2 h
    refine Tri.seq (Tri.reg (l := [0, 1, 2, 3, 4]) rfl ?_)
    refine F.qn rfl rfl rfl rfl (r_move rfl) ?_
    refine F.qn rfl rfl rfl rfl (r_move rfl) ?_
    refine F.qn rfl rfl rfl rfl (r_lenS Tryd.underlying9 rfl) ?_
    refine F.qn rfl rfl rfl rfl (r_geq rfl rfl) ?_
    refine F.qn rfl rfl rfl rfl (r_assign rfl) ?_
    refine F.nil (Nrm.seq (Tri.cond (b := decide ((a1.size : Int) ≥ (a0.size : Int))) rfl (fun g_3 => ?_) (fun g_3 => ?_)))
    ·replace h := if_tt g_3 h
     refine Tri.seq (Tri.reg (l := [0]) rfl ?_)
     refine F.qn rfl rfl rfl rfl (r_assign rfl) ?_
     refine F.nil (Nrm.seq (Tri.ret ?_))
     refine Rtn.block ?_
     refine Rtn.then ?_
     cases h
     exact Rtn.body (.tmp rfl .nil) (fun w hw => ⟨rfl, hw.ext⟩)
    ·replace h := if_ff g_3 h
     cases h
 ·rcases Bool.eq_false_or_eq_true ((a1.size : Int) == 0) with g19 | g19
  ·replace hE_1 := if_tt g19 hE_1
   refine Tri.reg (l := [0, 1, 2, 3, 4, 5, 6, 7]) rfl ?_
   refine F.qn rfl rfl rfl rfl (r_move rfl) ?_
   refine F.qn rfl rfl rfl rfl (r_eql rfl rfl) ?_
   refine F.qn rfl rfl rfl rfl (r_move rfl) ?_
   iterate 3 refine F.sk rfl rfl rfl (wf rfl rfl rfl g19) ?_
   refine F.qn rfl rfl rfl rfl (r_pick rfl rfl g19) ?_
   refine F.qn rfl rfl rfl rfl (r_assign rfl) ?_
   refine F.nil ?_
   cases hE_1
   refine Nrm.only [0, 1, 5, 16] rfl ?_
   refine Nrm.pick [] rfl rfl ?_
   exact hj_1 _ _ ⟨rfl, rfl⟩
  ·replace hE_1 := if_ff g19 hE_1
   refine Tri.reg (l := [0, 1, 2, 3, 4, 5, 6, 7]) rfl ?_
   refine F.qn rfl rfl rfl rfl (r_move rfl) ?_
   refine F.qn rfl rfl rfl rfl (r_eql rfl rfl) ?_
   refine F.qn rfl rfl rfl rfl (r_move rfl) ?_
   refine F.qg rfl rfl rfl rfl rfl rfl g19 (r_move rfl) ?_
   refine F.qg rfl rfl rfl rfl rfl rfl g19 (r_move rfl) ?_
   refine F.qg rfl rfl rfl rfl rfl rfl g19 (r_eqlS rfl rfl) ?_
   refine F.qn rfl rfl rfl rfl (r_pickf rfl rfl g19) ?_
   refine F.qn rfl rfl rfl rfl (r_assign rfl) ?_
   refine F.nil ?_
   cases hE_1
   refine Nrm.only [0, 1, 5, 16] rfl ?_
   refine Nrm.pick [] rfl rfl ?_
   exact hj_1 _ _ ⟨rfl, rfl⟩


def stringslite_Cut.f (k : Nat) (a0 : ByteArray) (a1 : ByteArray) : Option (ByteArray × ByteArray × Bool) := (stringslite_Index.f k a0 a1).bind fun t10 => (if (decide (t10 ≥ 0)) = true then (scut a0 0 t10).bind fun t15 => (scut a0 (w64 (t10 + (a1.size : Int))) (a0.size : Int)).bind fun t21 => some (t15, t21, true) else some (a0, ByteArray.empty, false))

theorem stringslite_Cut.ok {k : Nat}  {a0 : ByteArray} {a1 : ByteArray} {r0 : ByteArray} {r1 : ByteArray} {r2 : Bool} (h : stringslite_Cut.f k a0 a1 = some (r0, r1, r2)) (w : World) :
  Calls Tryd.prog 76 ([.string a0, .string a1] : List Value).toArray w (fun e w' => e = .returned (.tuple #[.string r0, .string r1, .bool r2]) ∧ Ext w w') := by
 unfold stringslite_Cut.f at h
 refine Calls.of_tri (N := 23) Tryd.func76 rfl rfl rfl (Sep.nil (M := noM)) ?_
 refine Tri.seq (Tri.reg (l := [0, 1, 2]) rfl ?_)
 iterate 3 refine F.qn rfl rfl rfl rfl (r_assign rfl) ?_
 refine F.nil (Nrm.seq (Tri.seq (Tri.seq ?_)))
 obtain ⟨t10, h10, h⟩ := bind_some h
 refine Tri.reg (l := [0, 1, 2, 3]) rfl ?_
 refine F.qn rfl rfl rfl rfl (r_move rfl) ?_
 refine F.qn rfl rfl rfl rfl (r_move rfl) ?_
 refine F.qcn rfl rfl rfl rfl (q_callF (xs := _) rfl ok70 rfl rfl (fun w hw => stringslite_Index.ok h10 w )) ?_
 refine F.qn rfl rfl rfl rfl (r_assign rfl) ?_
 refine F.nil (Nrm.seq (Tri.seq (Tri.reg (l := [0, 1]) rfl ?_)))
 refine F.qn rfl rfl rfl rfl (r_move rfl) ?_
 refine F.qn rfl rfl rfl rfl (r_geq rfl rfl) ?_
 refine F.nil (Nrm.seq (Tri.cond (b := decide (t10 ≥ 0)) rfl (fun g_1 => ?_) (fun g_1 => ?_)))
 ·replace h := if_tt g_1 h
  refine Tri.seq ?_
  obtain ⟨t15, h15, h⟩ := bind_some h
  obtain ⟨t21, h21, h⟩ := bind_some h
  refine Tri.drawA mixedT Sep.up [(0, true), (1, true), (2, true), (3, true), (4, true), (5, true), (6, true), (7, true), (8, true), (9, true), (10, true), (11, true)] [] (by kernel_rfl) ?_
  refine S.qn rfl rfl rfl rfl (r_move rfl) ?_
  refine S.qn rfl rfl rfl rfl (r_move rfl) ?_
  refine S.qn rfl rfl rfl rfl (r_scutH Tryd.underlying9 rfl rfl h15) ?_
  iterate 3 refine S.qn rfl rfl rfl rfl (r_move rfl) ?_
  refine S.qn rfl rfl rfl rfl (r_lenS Tryd.underlying9 rfl) ?_
  refine S.qn rfl rfl rfl rfl (r_add rfl rfl) ?_
  refine S.qn rfl rfl rfl rfl (r_scutL Tryd.underlying9 rfl rfl h21) ?_
  iterate 3 refine S.qn rfl rfl rfl rfl (r_assign rfl) ?_
  refine S.nil (F.nil (Nrm.seq (Tri.ret ?_)))
  refine Rtn.then ?_
  cases h
  exact Rtn.body (.tmp rfl (.tmp rfl (.tmp rfl .nil))) (fun w hw => ⟨rfl, hw.ext⟩)
 ·replace h := if_ff g_1 h
  refine Tri.skip (Nrm.seq (Tri.seq (Tri.reg (l := [0, 1, 2, 3]) rfl ?_)))
  refine F.qn rfl rfl rfl rfl (r_move rfl) ?_
  iterate 3 refine F.qn rfl rfl rfl rfl (r_assign rfl) ?_
  refine F.nil (Nrm.seq (Tri.ret ?_))
  cases h
  exact Rtn.body (.tmp rfl (.tmp rfl (.tmp rfl .nil))) (fun w hw => ⟨rfl, hw.ext⟩)


def strings_Cut.f (k : Nat) (a0 : ByteArray) (a1 : ByteArray) : Option (ByteArray × ByteArray × Bool) := (stringslite_Cut.f k a0 a1).bind fun (t9_1, t9_2, t9_3) => some (t9_1, t9_2, t9_3)

theorem strings_Cut.ok {k : Nat}  {a0 : ByteArray} {a1 : ByteArray} {r0 : ByteArray} {r1 : ByteArray} {r2 : Bool} (h : strings_Cut.f k a0 a1 = some (r0, r1, r2)) (w : World) :
  Calls Tryd.prog 67 ([.string a0, .string a1] : List Value).toArray w (fun e w' => e = .returned (.tuple #[.string r0, .string r1, .bool r2]) ∧ Ext w w') := by
 unfold strings_Cut.f at h
 refine Calls.of_tri (N := 13) Tryd.func67 rfl rfl rfl (Sep.nil (M := noM)) ?_
 refine Tri.seq (Tri.reg (l := [0, 1, 2]) rfl ?_)
 iterate 3 refine F.qn rfl rfl rfl rfl (r_assign rfl) ?_
 refine F.nil (Nrm.seq (Tri.seq ?_))
 obtain ⟨⟨t9_1, t9_2, t9_3⟩, h9, h⟩ := bind_some h
 refine Tri.reg (l := [0, 1, 2, 3, 4, 5, 6, 7, 8]) rfl ?_
 refine F.qn rfl rfl rfl rfl (r_move rfl) ?_
 refine F.qn rfl rfl rfl rfl (r_move rfl) ?_
 refine F.qcn rfl rfl rfl rfl (q_callF (xs := _) rfl ok76 rfl rfl (fun w hw => stringslite_Cut.ok h9 w )) ?_
 iterate 3 refine F.qn rfl rfl rfl rfl (r_extract rfl rfl) ?_
 iterate 3 refine F.qn rfl rfl rfl rfl (r_assign rfl) ?_
 refine F.nil (Nrm.seq (Tri.ret ?_))
 cases h
 exact Rtn.body (.tmp rfl (.tmp rfl (.tmp rfl .nil))) (fun w hw => ⟨rfl, hw.ext⟩)


def strings_Index.f (k : Nat) (a0 : ByteArray) (a1 : ByteArray) : Option (Int) := (stringslite_Index.f k a0 a1).bind fun t7 => some t7

theorem strings_Index.ok {k : Nat}  {a0 : ByteArray} {a1 : ByteArray} {r0 : Int} (h : strings_Index.f k a0 a1 = some r0) (w : World) :
  Calls Tryd.prog 63 ([.string a0, .string a1] : List Value).toArray w (fun e w' => e = .returned (.int .i64 r0) ∧ Ext w w') := by
 unfold strings_Index.f at h
 refine Calls.of_tri (N := 8) Tryd.func63 rfl rfl rfl (Sep.nil (M := noM)) ?_
 refine Tri.seq (Tri.reg (l := [0]) rfl ?_)
 refine F.qn rfl rfl rfl rfl (r_assign rfl) ?_
 refine F.nil (Nrm.seq (Tri.seq ?_))
 obtain ⟨t7, h7, h⟩ := bind_some h
 refine Tri.reg (l := [0, 1, 2, 3]) rfl ?_
 refine F.qn rfl rfl rfl rfl (r_move rfl) ?_
 refine F.qn rfl rfl rfl rfl (r_move rfl) ?_
 refine F.qcn rfl rfl rfl rfl (q_callF (xs := _) rfl ok70 rfl rfl (fun w hw => stringslite_Index.ok h7 w )) ?_
 refine F.qn rfl rfl rfl rfl (r_assign rfl) ?_
 refine F.nil (Nrm.seq (Tri.ret ?_))
 cases h
 exact Rtn.body (.tmp rfl .nil) (fun w hw => ⟨rfl, hw.ext⟩)


def strings_Contains.f (k : Nat) (a0 : ByteArray) (a1 : ByteArray) : Option (Bool) := (strings_Index.f k a0 a1).bind fun t7 => some (decide (t7 ≥ 0))

theorem strings_Contains.ok {k : Nat}  {a0 : ByteArray} {a1 : ByteArray} {r0 : Bool} (h : strings_Contains.f k a0 a1 = some r0) (w : World) :
  Calls Tryd.prog 50 ([.string a0, .string a1] : List Value).toArray w (fun e w' => e = .returned (.bool r0) ∧ Ext w w') := by
 unfold strings_Contains.f at h
 refine Calls.of_tri (N := 9) Tryd.func50 rfl rfl rfl (Sep.nil (M := noM)) ?_
 refine Tri.seq (Tri.reg (l := [0]) rfl ?_)
 refine F.qn rfl rfl rfl rfl (r_assign rfl) ?_
 refine F.nil (Nrm.seq (Tri.seq ?_))
 obtain ⟨t7, h7, h⟩ := bind_some h
 refine Tri.reg (l := [0, 1, 2, 3, 4]) rfl ?_
 refine F.qn rfl rfl rfl rfl (r_move rfl) ?_
 refine F.qn rfl rfl rfl rfl (r_move rfl) ?_
 refine F.qcn rfl rfl rfl rfl (q_callF (xs := _) rfl ok63 rfl rfl (fun w hw => strings_Index.ok h7 w )) ?_
 refine F.qn rfl rfl rfl rfl (r_geq rfl rfl) ?_
 refine F.qn rfl rfl rfl rfl (r_assign rfl) ?_
 refine F.nil (Nrm.seq (Tri.ret ?_))
 cases h
 exact Rtn.body (.tmp rfl .nil) (fun w hw => ⟨rfl, hw.ext⟩)


def impl_checksum.l0 (k : Nat) (a0 : ByteArray) : Nat → Int → Int → Option (Int)
 | 0, _, _ => none
 | n + 1, x3, x7 => (if (decide (x7 < (a0.size : Int))) = true then (bta a0 x7).bind fun t14 => impl_checksum.l0 k a0 n (rem (w64 ((w64 ((w64 (41 * x3)) + (IntKind.i64.wrap (t14.toNat : Int)))) + 1)) 999979) (w64 (x7 + 1)) else some x3)

def impl_checksum.f (k : Nat) (a0 : ByteArray) : Option (Int) := (impl_checksum.l0 k a0 k 7 0).bind fun x3 => some x3

theorem impl_checksum.ok {k : Nat}  {a0 : ByteArray} {r0 : Int} (h : impl_checksum.f k a0 = some r0) (w : World) :
  Calls Tryd.prog 51 ([.string a0] : List Value).toArray w (fun e w' => e = .returned (.int .i64 r0) ∧ Ext w w') := by
 unfold impl_checksum.f at h
 refine Calls.of_tri (N := 21) Tryd.func51 rfl rfl rfl (Sep.nil (M := noM)) ?_
 refine Tri.seq (Tri.reg (l := [0]) rfl ?_)
 refine F.qn rfl rfl rfl rfl (r_assign rfl) ?_
 refine F.nil (Nrm.seq (Tri.seq (Tri.reg (l := [0]) rfl ?_)))
 refine F.qn rfl rfl rfl rfl (r_assign rfl) ?_
 refine F.nil (Nrm.seq (Tri.seq (Tri.seq (Tri.reg (l := [0, 1, 2]) rfl ?_))))
 refine F.qn rfl rfl rfl rfl (r_move rfl) ?_
 refine F.qn rfl rfl rfl rfl (r_lenS Tryd.underlying9 rfl) ?_
 refine F.qn rfl rfl rfl rfl (r_move rfl) ?_
 refine F.nil (Nrm.seq ?_)
 obtain ⟨x3, hE_1, h⟩ := bind_some h
 refine Tri.block ?_
 refine Tri.only [0, 3, 6, 7] rfl ?_
 refine Tri.pick [] rfl rfl ?_
 refine Tri.rounds (fun n e' C' => ∃ (x3' : Int) (x7' : Int), impl_checksum.l0 k a0 n x3' x7' = some x3 ∧ e' = [(0, .string a0), (3, .int .i64 x3'), (6, .int .i64 (a0.size : Int)), (7, .int .i64 x7')] ∧ C' = Sep w noM []) k ?_ ?_ ?_
 ·exact ⟨7, 0, hE_1, rfl, rfl⟩
 ·rintro _ _ ⟨_, _, hE_1, _⟩
  rw [impl_checksum.l0.eq_1] at hE_1; cases hE_1
 ·rintro n_1 _ _ ⟨x3, x7, hE_1, rfl, rfl⟩ ih_1
  rw [impl_checksum.l0.eq_2] at hE_1
  refine Tri.seq (Tri.reg (l := [0]) rfl ?_)
  refine F.qn rfl rfl rfl rfl (r_lss rfl rfl) ?_
  refine F.nil (Nrm.seq (Tri.seq (Tri.cond (b := decide (x7 < (a0.size : Int))) rfl (fun g_1 => ?_) (fun g_1 => ?_))))
  ·replace hE_1 := if_tt g_1 hE_1
   refine Tri.skip (Nrm.seq (Tri.seq (Tri.block ?_)))
   refine Tri.seq (Tri.reg (l := [0, 1]) rfl ?_)
   refine F.qn rfl rfl rfl rfl (r_move rfl) ?_
   refine F.qn rfl rfl rfl rfl (r_assign rfl) ?_
   refine F.nil (Nrm.seq ?_)
   obtain ⟨t14, h14, hE_1⟩ := bind_some hE_1
   refine Tri.reg (l := [0, 1, 2, 3, 4, 5, 6, 7, 8, 9]) rfl ?_
   refine F.qn rfl rfl rfl rfl (r_move rfl) ?_
   refine F.qn rfl rfl rfl rfl (r_mul rfl rfl) ?_
   refine F.qn rfl rfl rfl rfl (r_move rfl) ?_
   refine F.qn rfl rfl rfl rfl (r_move rfl) ?_
   refine F.qn rfl rfl rfl rfl (r_indexS Tryd.underlying9 rfl rfl (bt_some h14).1 (bt_some h14).2) ?_
   refine F.qn rfl rfl rfl rfl (r_conv Tryd.underlying5 Tryd.underlying3 rfl) ?_
   refine F.qn rfl rfl rfl rfl (r_add rfl rfl) ?_
   refine F.qn rfl rfl rfl rfl (r_add rfl rfl) ?_
   refine F.qn rfl rfl rfl rfl (r_rem rfl rfl (by decide)) ?_
   refine F.qn rfl rfl rfl rfl (r_assign rfl) ?_
   refine F.nil (Nrm.block ?_)
   refine Nrm.seq (Tri.reg (l := [0, 1]) rfl ?_)
   refine F.qn rfl rfl rfl rfl (r_add rfl rfl) ?_
   refine F.qn rfl rfl rfl rfl (r_move rfl) ?_
   refine F.nil (Nrm.round ?_)
   refine Rnd.only [0, 3, 6, 7] rfl ?_
   refine Rnd.pick [] rfl rfl ?_
   exact ih_1 _ _ ⟨rem (w64 ((w64 ((w64 (41 * x3)) + (IntKind.i64.wrap (t14.toNat : Int)))) + 1)) 999979, w64 (x7 + 1), hE_1, rfl, rfl⟩
  ·replace hE_1 := if_ff g_1 hE_1
   refine Tri.exit ?_
   refine Exi.then ?_
   refine Exi.then ?_
   refine Exi.same ?_
   cases hE_1
   refine Nrm.seq (Tri.seq (Tri.reg (l := [0, 1]) rfl ?_))
   refine F.qn rfl rfl rfl rfl (r_move rfl) ?_
   refine F.qn rfl rfl rfl rfl (r_assign rfl) ?_
   refine F.nil (Nrm.seq (Tri.ret ?_))
   cases h
   exact Rtn.body (.tmp rfl .nil) (fun w hw => ⟨rfl, hw.ext⟩)


def impl_AppendChecksum.f (k : Nat) (a0 : ByteArray) : Option (ByteArray × Bool) := ((if (decide ((a0.size : Int) > 4000)) = true then some true else (strings_Contains.f k a0 (ByteArray.mk #[35])).bind fun t10 => some t10)).bind fun y11 => (if y11 = true then some (ByteArray.empty, false) else if (a0 ++ (ByteArray.mk #[35])).size < 4611686018427387904 then (impl_checksum.f k a0).bind fun t15 => (strconv_Itoa.f k t15).bind fun t16 => if ((a0 ++ (ByteArray.mk #[35])) ++ t16).size < 4611686018427387904 then (if (decide ((((a0 ++ (ByteArray.mk #[35])) ++ t16).size : Int) > 4000)) = true then some (ByteArray.empty, false) else some ((a0 ++ (ByteArray.mk #[35])) ++ t16, true)) else none else none)

theorem impl_AppendChecksum.ok {k : Nat}  {a0 : ByteArray} {r0 : ByteArray} {r1 : Bool} (h : impl_AppendChecksum.f k a0 = some (r0, r1)) (w : World) (ht : Lib.TabIs Tryd.prog w "internal/strconv.uint64pow10" .u64 Lib.pow10Tab) :
  Calls Tryd.prog 33 ([.string a0] : List Value).toArray w (fun e w' => e = .returned (.tuple #[.string r0, .bool r1]) ∧ Ext w w') := by
 unfold impl_AppendChecksum.f at h
 refine Calls.of_tri (N := 22) Tryd.func33 rfl rfl rfl (Sep.nil (M := noM)) ?_
 refine Tri.seq (Tri.reg (l := [0, 1]) rfl ?_)
 refine F.qn rfl rfl rfl rfl (r_assign rfl) ?_
 refine F.qn rfl rfl rfl rfl (r_assign rfl) ?_
 refine F.nil (Nrm.seq (Tri.seq (Tri.seq ?_)))
 obtain ⟨y11, hE_1, h⟩ := bind_some h
 refine Tri.cut (fun e' C' => e' = [(0, .string a0), (11, .bool y11)] ∧ C' = Sep w noM []) ?_ (fun hj_1 => ?_)
 ·rintro _ _ ⟨rfl, rfl⟩
  refine Nrm.seq (Tri.cond (b := y11) rfl (fun g_1 => ?_) (fun g_1 => ?_))
  ·replace h := if_tt g_1 h
   refine Tri.seq (Tri.reg (l := [0, 1]) rfl ?_)
   refine F.qn rfl rfl rfl rfl (r_assign rfl) ?_
   refine F.qn rfl rfl rfl rfl (r_assign rfl) ?_
   refine F.nil (Nrm.seq (Tri.ret ?_))
   refine Rtn.then ?_
   cases h
   exact Rtn.body (.tmp rfl (.tmp rfl .nil)) (fun w hw => ⟨rfl, hw.ext⟩)
  ·replace h := if_ff g_1 h
   refine Tri.skip (Nrm.seq (Tri.seq ?_))
   obtain ⟨hs13, h⟩ := ck h
   obtain ⟨t15, h15, h⟩ := bind_some h
   obtain ⟨t16, h16, h⟩ := bind_some h
   obtain ⟨hs17, h⟩ := ck h
   refine Tri.reg (l := [0, 1, 2, 3, 4, 5, 6]) rfl ?_
   refine F.qn rfl rfl rfl rfl (r_move rfl) ?_
   refine F.qn rfl rfl rfl rfl (r_addS rfl rfl hs13) ?_
   refine F.qn rfl rfl rfl rfl (r_move rfl) ?_
   refine F.qcn rfl rfl rfl rfl (q_callF (xs := _) rfl ok51 rfl rfl (fun w hw => impl_checksum.ok h15 w )) ?_
   refine F.qcn rfl rfl rfl rfl (q_callF (xs := _) rfl ok34 rfl rfl (fun w hw => strconv_Itoa.ok h16 w (Tab.sep ht hw))) ?_
   refine F.qn rfl rfl rfl rfl (r_addS rfl rfl hs17) ?_
   refine F.qn rfl rfl rfl rfl (r_assign rfl) ?_
   refine F.nil (Nrm.seq (Tri.seq (Tri.seq (Tri.reg (l := [0, 1, 2]) rfl ?_))))
   refine F.qn rfl rfl rfl rfl (r_move rfl) ?_
   refine F.qn rfl rfl rfl rfl (r_lenS Tryd.underlying9 rfl) ?_
   refine F.qn rfl rfl rfl rfl (r_gtr rfl rfl) ?_
   refine F.nil (Nrm.seq (Tri.cond (b := decide ((((a0 ++ (ByteArray.mk #[35])) ++ t16).size : Int) > 4000)) rfl (fun g_2 => ?_) (fun g_2 => ?_)))
   ·replace h := if_tt g_2 h
    refine Tri.seq (Tri.reg (l := [0, 1]) rfl ?_)
    refine F.qn rfl rfl rfl rfl (r_assign rfl) ?_
    refine F.qn rfl rfl rfl rfl (r_assign rfl) ?_
    refine F.nil (Nrm.seq (Tri.ret ?_))
    refine Rtn.then ?_
    cases h
    exact Rtn.body (.tmp rfl (.tmp rfl .nil)) (fun w hw => ⟨rfl, hw.ext⟩)
   ·replace h := if_ff g_2 h
    refine Tri.skip (Nrm.seq (Tri.seq (Tri.reg (l := [0, 1, 2]) rfl ?_)))
    refine F.qn rfl rfl rfl rfl (r_move rfl) ?_
    refine F.qn rfl rfl rfl rfl (r_assign rfl) ?_
    refine F.qn rfl rfl rfl rfl (r_assign rfl) ?_
    refine F.nil (Nrm.seq (Tri.ret ?_))
    cases h
    exact Rtn.body (.tmp rfl (.tmp rfl .nil)) (fun w hw => ⟨rfl, hw.ext⟩)
 ·rcases Bool.eq_false_or_eq_true (decide ((a0.size : Int) > 4000)) with g8 | g8
  ·replace hE_1 := if_tt g8 hE_1
   refine Tri.reg (l := [0, 1, 2, 3, 4, 5, 6]) rfl ?_
   refine F.qn rfl rfl rfl rfl (r_move rfl) ?_
   refine F.qn rfl rfl rfl rfl (r_lenS Tryd.underlying9 rfl) ?_
   refine F.qn rfl rfl rfl rfl (r_gtr rfl rfl) ?_
   refine F.qn rfl rfl rfl rfl (r_move rfl) ?_
   refine F.sk rfl rfl rfl (wf rfl rfl rfl g8) ?_
   refine F.sk rfl rfl rfl (wf rfl rfl rfl g8) ?_
   refine F.qn rfl rfl rfl rfl (r_pick rfl rfl g8) ?_
   refine F.nil ?_
   cases hE_1
   refine Nrm.only [0, 11] rfl ?_
   refine Nrm.pick [] rfl rfl ?_
   exact hj_1 _ _ ⟨rfl, rfl⟩
  ·replace hE_1 := if_ff g8 hE_1
   obtain ⟨t10, h10, hE_1⟩ := bind_some hE_1
   refine Tri.reg (l := [0, 1, 2, 3, 4, 5, 6]) rfl ?_
   refine F.qn rfl rfl rfl rfl (r_move rfl) ?_
   refine F.qn rfl rfl rfl rfl (r_lenS Tryd.underlying9 rfl) ?_
   refine F.qn rfl rfl rfl rfl (r_gtr rfl rfl) ?_
   refine F.qn rfl rfl rfl rfl (r_move rfl) ?_
   refine F.qg rfl rfl rfl rfl rfl rfl g8 (r_move rfl) ?_
   refine F.qc rfl rfl rfl (wg rfl rfl rfl g8) (q_callF (xs := _) rfl ok50 rfl rfl (fun w hw => strings_Contains.ok h10 w )) ?_
   refine F.qn rfl rfl rfl rfl (r_pickf rfl rfl g8) ?_
   refine F.nil ?_
   cases hE_1
   refine Nrm.only [0, 11] rfl ?_
   refine Nrm.pick [] rfl rfl ?_
   exact hj_1 _ _ ⟨rfl, rfl⟩


def impl_VerifyChecksum.f (k : Nat) (a0 : ByteArray) : Option (ByteArray × Bool) := (strings_Cut.f k a0 (ByteArray.mk #[35])).bind fun (t11_1, t11_2, t11_3) => (impl_AppendChecksum.f k t11_1).bind fun (t17_1, t17_2) => ((if (!t17_2) = true then some true else some (!(t17_1.toList == a0.toList)))).bind fun y26 => (if y26 = true then some (ByteArray.empty, false) else some (t11_1, true))

theorem impl_VerifyChecksum.ok {k : Nat}  {a0 : ByteArray} {r0 : ByteArray} {r1 : Bool} (h : impl_VerifyChecksum.f k a0 = some (r0, r1)) (w : World) (ht : Lib.TabIs Tryd.prog w "internal/strconv.uint64pow10" .u64 Lib.pow10Tab) :
  Calls Tryd.prog 68 ([.string a0] : List Value).toArray w (fun e w' => e = .returned (.tuple #[.string r0, .bool r1]) ∧ Ext w w') := by
 unfold impl_VerifyChecksum.f at h
 refine Calls.of_tri (N := 28) Tryd.func68 rfl rfl rfl (Sep.nil (M := noM)) ?_
 refine Tri.seq (Tri.reg (l := [0, 1]) rfl ?_)
 refine F.qn rfl rfl rfl rfl (r_assign rfl) ?_
 refine F.qn rfl rfl rfl rfl (r_assign rfl) ?_
 refine F.nil (Nrm.seq (Tri.seq ?_))
 obtain ⟨⟨t11_1, t11_2, t11_3⟩, h11, h⟩ := bind_some h
 refine Tri.reg (l := [0, 1, 2, 3, 4, 5, 6, 7, 8]) rfl ?_
 refine F.qn rfl rfl rfl rfl (r_move rfl) ?_
 refine F.qcn rfl rfl rfl rfl (q_callF (xs := _) rfl ok67 rfl rfl (fun w hw => strings_Cut.ok h11 w )) ?_
 refine F.qn rfl rfl rfl rfl (r_move rfl) ?_
 iterate 3 refine F.qn rfl rfl rfl rfl (r_extract rfl rfl) ?_
 iterate 3 refine F.qn rfl rfl rfl rfl (r_assign rfl) ?_
 refine F.nil (Nrm.seq (Tri.seq (Tri.seq ?_)))
 obtain ⟨⟨t17_1, t17_2⟩, h17, h⟩ := bind_some h
 refine Tri.reg (l := [0, 1, 2, 3, 4, 5, 6]) rfl ?_
 refine F.qn rfl rfl rfl rfl (r_move rfl) ?_
 refine F.qcn rfl rfl rfl rfl (q_callF (xs := _) rfl ok33 rfl rfl (fun w hw => impl_AppendChecksum.ok h17 w (Tab.sep ht hw))) ?_
 refine F.qn rfl rfl rfl rfl (r_move rfl) ?_
 refine F.qn rfl rfl rfl rfl (r_extract rfl rfl) ?_
 refine F.qn rfl rfl rfl rfl (r_extract rfl rfl) ?_
 refine F.qn rfl rfl rfl rfl (r_assign rfl) ?_
 refine F.qn rfl rfl rfl rfl (r_assign rfl) ?_
 refine F.nil (Nrm.seq (Tri.seq ?_))
 obtain ⟨y26, hE_1, h⟩ := bind_some h
 refine Tri.cut (fun e' C' => e' = [(4, .string t11_1), (26, .bool y26)] ∧ C' = Sep w noM []) ?_ (fun hj_1 => ?_)
 ·rintro _ _ ⟨rfl, rfl⟩
  refine Nrm.seq (Tri.cond (b := y26) rfl (fun g_1 => ?_) (fun g_1 => ?_))
  ·replace h := if_tt g_1 h
   refine Tri.seq (Tri.reg (l := [0, 1]) rfl ?_)
   refine F.qn rfl rfl rfl rfl (r_assign rfl) ?_
   refine F.qn rfl rfl rfl rfl (r_assign rfl) ?_
   refine F.nil (Nrm.seq (Tri.ret ?_))
   refine Rtn.then ?_
   cases h
   exact Rtn.body (.tmp rfl (.tmp rfl .nil)) (fun w hw => ⟨rfl, hw.ext⟩)
  ·replace h := if_ff g_1 h
   refine Tri.skip (Nrm.seq (Tri.seq (Tri.reg (l := [0, 1, 2]) rfl ?_)))
   refine F.qn rfl rfl rfl rfl (r_move rfl) ?_
   refine F.qn rfl rfl rfl rfl (r_assign rfl) ?_
   refine F.qn rfl rfl rfl rfl (r_assign rfl) ?_
   refine F.nil (Nrm.seq (Tri.ret ?_))
   cases h
   exact Rtn.body (.tmp rfl (.tmp rfl .nil)) (fun w hw => ⟨rfl, hw.ext⟩)
 ·rcases Bool.eq_false_or_eq_true (!t17_2) with g22 | g22
  ·replace hE_1 := if_tt g22 hE_1
   refine Tri.reg (l := [0, 1, 2, 3, 4, 5, 6]) rfl ?_
   refine F.qn rfl rfl rfl rfl (r_move rfl) ?_
   refine F.qn rfl rfl rfl rfl (r_not rfl) ?_
   refine F.qn rfl rfl rfl rfl (r_move rfl) ?_
   iterate 3 refine F.sk rfl rfl rfl (wf rfl rfl rfl g22) ?_
   refine F.qn rfl rfl rfl rfl (r_pick rfl rfl g22) ?_
   refine F.nil ?_
   cases hE_1
   refine Nrm.only [4, 26] rfl ?_
   refine Nrm.pick [] rfl rfl ?_
   exact hj_1 _ _ ⟨rfl, rfl⟩
  ·replace hE_1 := if_ff g22 hE_1
   refine Tri.reg (l := [0, 1, 2, 3, 4, 5, 6]) rfl ?_
   refine F.qn rfl rfl rfl rfl (r_move rfl) ?_
   refine F.qn rfl rfl rfl rfl (r_not rfl) ?_
   refine F.qn rfl rfl rfl rfl (r_move rfl) ?_
   refine F.qg rfl rfl rfl rfl rfl rfl g22 (r_move rfl) ?_
   refine F.qg rfl rfl rfl rfl rfl rfl g22 (r_move rfl) ?_
   refine F.qg rfl rfl rfl rfl rfl rfl g22 (r_neqS rfl rfl) ?_
   refine F.qn rfl rfl rfl rfl (r_pickf rfl rfl g22) ?_
   refine F.nil ?_
   cases hE_1
   refine Nrm.only [4, 26] rfl ?_
   refine Nrm.pick [] rfl rfl ?_
   exact hj_1 _ _ ⟨rfl, rfl⟩


def stringslite_HasPrefix.f (k : Nat) (a0 : ByteArray) (a1 : ByteArray) : Option (Bool) := ((if (decide ((a0.size : Int) ≥ (a1.size : Int))) = true then (scut a0 0 (a1.size : Int)).bind fun t14 => some (t14.toList == a1.toList) else some false)).bind fun y4 => some y4

theorem stringslite_HasPrefix.ok {k : Nat}  {a0 : ByteArray} {a1 : ByteArray} {r0 : Bool} (h : stringslite_HasPrefix.f k a0 a1 = some r0) (w : World) :
  Calls Tryd.prog 86 ([.string a0, .string a1] : List Value).toArray w (fun e w' => e = .returned (.bool r0) ∧ Ext w w') := by
 unfold stringslite_HasPrefix.f at h
 refine Calls.of_tri (N := 18) Tryd.func86 rfl rfl rfl (Sep.nil (M := noM)) ?_
 refine Tri.seq (Tri.reg (l := [0]) rfl ?_)
 refine F.qn rfl rfl rfl rfl (r_assign rfl) ?_
 refine F.nil (Nrm.seq (Tri.seq ?_))
 obtain ⟨y4, hE_1, h⟩ := bind_some h
 refine Tri.cut (fun e' C' => e' = [(4, .bool y4)] ∧ C' = Sep w noM []) ?_ (fun hj_1 => ?_)
 ·rintro _ _ ⟨rfl, rfl⟩
  refine Nrm.seq (Tri.ret ?_)
  cases h
  exact Rtn.body (.tmp rfl .nil) (fun w hw => ⟨rfl, hw.ext⟩)
 ·rcases Bool.eq_false_or_eq_true (decide ((a0.size : Int) ≥ (a1.size : Int))) with g10 | g10
  ·replace hE_1 := if_tt g10 hE_1
   obtain ⟨t14, h14, hE_1⟩ := bind_some hE_1
   refine Tri.reg (l := List.range 14) rfl ?_
   refine F.qn rfl rfl rfl rfl (r_move rfl) ?_
   refine F.qn rfl rfl rfl rfl (r_lenS Tryd.underlying9 rfl) ?_
   refine F.qn rfl rfl rfl rfl (r_move rfl) ?_
   refine F.qn rfl rfl rfl rfl (r_lenS Tryd.underlying9 rfl) ?_
   refine F.qn rfl rfl rfl rfl (r_geq rfl rfl) ?_
   refine F.qn rfl rfl rfl rfl (r_move rfl) ?_
   refine F.qg rfl rfl rfl rfl rfl rfl g10 (r_move rfl) ?_
   refine F.qg rfl rfl rfl rfl rfl rfl g10 (r_move rfl) ?_
   refine F.qg rfl rfl rfl rfl rfl rfl g10 (r_lenS Tryd.underlying9 rfl) ?_
   refine F.qg rfl rfl rfl rfl rfl rfl g10 (r_scutH Tryd.underlying9 rfl rfl h14) ?_
   refine F.qg rfl rfl rfl rfl rfl rfl g10 (r_move rfl) ?_
   refine F.qg rfl rfl rfl rfl rfl rfl g10 (r_eqlS rfl rfl) ?_
   refine F.qn rfl rfl rfl rfl (r_pick rfl rfl g10) ?_
   refine F.qn rfl rfl rfl rfl (r_assign rfl) ?_
   refine F.nil ?_
   cases hE_1
   refine Nrm.only [4] rfl ?_
   refine Nrm.pick [] rfl rfl ?_
   exact hj_1 _ _ ⟨rfl, rfl⟩
  ·replace hE_1 := if_ff g10 hE_1
   refine Tri.reg (l := List.range 14) rfl ?_
   refine F.qn rfl rfl rfl rfl (r_move rfl) ?_
   refine F.qn rfl rfl rfl rfl (r_lenS Tryd.underlying9 rfl) ?_
   refine F.qn rfl rfl rfl rfl (r_move rfl) ?_
   refine F.qn rfl rfl rfl rfl (r_lenS Tryd.underlying9 rfl) ?_
   refine F.qn rfl rfl rfl rfl (r_geq rfl rfl) ?_
   refine F.qn rfl rfl rfl rfl (r_move rfl) ?_
   iterate 6 refine F.sk rfl rfl rfl (wf rfl rfl rfl g10) ?_
   refine F.qn rfl rfl rfl rfl (r_pickf rfl rfl g10) ?_
   refine F.qn rfl rfl rfl rfl (r_assign rfl) ?_
   refine F.nil ?_
   cases hE_1
   refine Nrm.only [4] rfl ?_
   refine Nrm.pick [] rfl rfl ?_
   exact hj_1 _ _ ⟨rfl, rfl⟩


def stringslite_CutPrefix.f (k : Nat) (a0 : ByteArray) (a1 : ByteArray) : Option (ByteArray × Bool) := (stringslite_HasPrefix.f k a0 a1).bind fun t8 => (if (!t8) = true then some (a0, false) else (scut a0 (a1.size : Int) (a0.size : Int)).bind fun t14 => some (t14, true))

theorem stringslite_CutPrefix.ok {k : Nat}  {a0 : ByteArray} {a1 : ByteArray} {r0 : ByteArray} {r1 : Bool} (h : stringslite_CutPrefix.f k a0 a1 = some (r0, r1)) (w : World) :
  Calls Tryd.prog 77 ([.string a0, .string a1] : List Value).toArray w (fun e w' => e = .returned (.tuple #[.string r0, .bool r1]) ∧ Ext w w') := by
 unfold stringslite_CutPrefix.f at h
 refine Calls.of_tri (N := 15) Tryd.func77 rfl rfl rfl (Sep.nil (M := noM)) ?_
 refine Tri.seq (Tri.reg (l := [0, 1]) rfl ?_)
 refine F.qn rfl rfl rfl rfl (r_assign rfl) ?_
 refine F.qn rfl rfl rfl rfl (r_assign rfl) ?_
 refine F.nil (Nrm.seq (Tri.seq (Tri.seq ?_)))
 obtain ⟨t8, h8, h⟩ := bind_some h
 refine Tri.reg (l := [0, 1, 2, 3]) rfl ?_
 refine F.qn rfl rfl rfl rfl (r_move rfl) ?_
 refine F.qn rfl rfl rfl rfl (r_move rfl) ?_
 refine F.qcn rfl rfl rfl rfl (q_callF (xs := _) rfl ok86 rfl rfl (fun w hw => stringslite_HasPrefix.ok h8 w )) ?_
 refine F.qn rfl rfl rfl rfl (r_not rfl) ?_
 refine F.nil (Nrm.seq (Tri.cond (b := !t8) rfl (fun g_1 => ?_) (fun g_1 => ?_)))
 ·replace h := if_tt g_1 h
  refine Tri.seq (Tri.reg (l := [0, 1, 2]) rfl ?_)
  refine F.qn rfl rfl rfl rfl (r_move rfl) ?_
  refine F.qn rfl rfl rfl rfl (r_assign rfl) ?_
  refine F.qn rfl rfl rfl rfl (r_assign rfl) ?_
  refine F.nil (Nrm.seq (Tri.ret ?_))
  refine Rtn.then ?_
  cases h
  exact Rtn.body (.tmp rfl (.tmp rfl .nil)) (fun w hw => ⟨rfl, hw.ext⟩)
 ·replace h := if_ff g_1 h
  refine Tri.skip (Nrm.seq (Tri.seq ?_))
  obtain ⟨t14, h14, h⟩ := bind_some h
  refine Tri.reg (l := [0, 1, 2, 3, 4, 5]) rfl ?_
  refine F.qn rfl rfl rfl rfl (r_move rfl) ?_
  refine F.qn rfl rfl rfl rfl (r_move rfl) ?_
  refine F.qn rfl rfl rfl rfl (r_lenS Tryd.underlying9 rfl) ?_
  refine F.qn rfl rfl rfl rfl (r_scutL Tryd.underlying9 rfl rfl h14) ?_
  refine F.qn rfl rfl rfl rfl (r_assign rfl) ?_
  refine F.qn rfl rfl rfl rfl (r_assign rfl) ?_
  refine F.nil (Nrm.seq (Tri.ret ?_))
  cases h
  exact Rtn.body (.tmp rfl (.tmp rfl .nil)) (fun w hw => ⟨rfl, hw.ext⟩)


def strings_CutPrefix.f (k : Nat) (a0 : ByteArray) (a1 : ByteArray) : Option (ByteArray × Bool) := (stringslite_CutPrefix.f k a0 a1).bind fun (t8_1, t8_2) => some (t8_1, t8_2)

theorem strings_CutPrefix.ok {k : Nat}  {a0 : ByteArray} {a1 : ByteArray} {r0 : ByteArray} {r1 : Bool} (h : strings_CutPrefix.f k a0 a1 = some (r0, r1)) (w : World) :
  Calls Tryd.prog 69 ([.string a0, .string a1] : List Value).toArray w (fun e w' => e = .returned (.tuple #[.string r0, .bool r1]) ∧ Ext w w') := by
 unfold strings_CutPrefix.f at h
 refine Calls.of_tri (N := 11) Tryd.func69 rfl rfl rfl (Sep.nil (M := noM)) ?_
 refine Tri.seq (Tri.reg (l := [0, 1]) rfl ?_)
 refine F.qn rfl rfl rfl rfl (r_assign rfl) ?_
 refine F.qn rfl rfl rfl rfl (r_assign rfl) ?_
 refine F.nil (Nrm.seq (Tri.seq ?_))
 obtain ⟨⟨t8_1, t8_2⟩, h8, h⟩ := bind_some h
 refine Tri.reg (l := [0, 1, 2, 3, 4, 5, 6]) rfl ?_
 refine F.qn rfl rfl rfl rfl (r_move rfl) ?_
 refine F.qn rfl rfl rfl rfl (r_move rfl) ?_
 refine F.qcn rfl rfl rfl rfl (q_callF (xs := _) rfl ok77 rfl rfl (fun w hw => stringslite_CutPrefix.ok h8 w )) ?_
 refine F.qn rfl rfl rfl rfl (r_extract rfl rfl) ?_
 refine F.qn rfl rfl rfl rfl (r_extract rfl rfl) ?_
 refine F.qn rfl rfl rfl rfl (r_assign rfl) ?_
 refine F.qn rfl rfl rfl rfl (r_assign rfl) ?_
 refine F.nil (Nrm.seq (Tri.ret ?_))
 cases h
 exact Rtn.body (.tmp rfl (.tmp rfl .nil)) (fun w hw => ⟨rfl, hw.ext⟩)


def impl_decode.f (k : Nat) (a0 : Int) (a1 : ByteArray) : Option (ByteArray × ByteArray × Int × Bool) := (strings_Cut.f k a1 (ByteArray.mk #[10])).bind fun (t20_1, t20_2, t20_3) => (impl_VerifyChecksum.f k t20_1).bind fun (t26_1, t26_2) => (strconv_Itoa.f k a0).bind fun t32 => if (t32 ++ (ByteArray.mk #[32])).size < 4611686018427387904 then (strings_CutPrefix.f k t26_1 (t32 ++ (ByteArray.mk #[32]))).bind fun (t34_1, t34_2) => (strings_Cut.f k t34_1 (ByteArray.mk #[64])).bind fun (t39_1, t39_2, t39_3) => ((if (!t20_3) = true then some true else (if (!t26_2) = true then some true else (if (!t34_2) = true then some true else (if (!t39_3) = true then some true else (if (decide (a0 ≥ 60)) = true then some true else (impl_IsValidRecord.f k t39_1 t39_2).bind fun t66 => some (!t66))))))).bind fun y68 => (if y68 = true then some (ByteArray.empty, ByteArray.empty, 0, false) else some (t39_1, t39_2, w64 ((t20_1.size : Int) + 1), true)) else none

theorem impl_decode.ok {k : Nat}  {a0 : Int} {a1 : ByteArray} {r0 : ByteArray} {r1 : ByteArray} {r2 : Int} {r3 : Bool} (h : impl_decode.f k a0 a1 = some (r0, r1, r2, r3)) (w : World) (ht : Lib.TabIs Tryd.prog w "internal/strconv.uint64pow10" .u64 Lib.pow10Tab) :
  Calls Tryd.prog 59 ([.int .i64 a0, .string a1] : List Value).toArray w (fun e w' => e = .returned (.tuple #[.agg [.string r0, .string r1].toArray, .int .i64 r2, .bool r3]) ∧ Ext w w') := by
 unfold impl_decode.f at h
 refine Calls.of_tri (N := 74) Tryd.func59 rfl rfl rfl (Sep.nil (M := noM)) ?_
 refine Tri.seq (Tri.reg (l := [0, 1, 2]) rfl ?_)
 refine F.mn rfl rfl rfl rfl (m_alloc ti25) ?_
 rintro _ _ ⟨b4_1, rfl, rfl⟩
 refine F.qn rfl rfl rfl rfl (r_assign rfl) ?_
 refine F.qn rfl rfl rfl rfl (r_assign rfl) ?_
 refine F.nil (Nrm.seq (Tri.seq ?_))
 obtain ⟨⟨t20_1, t20_2, t20_3⟩, h20, h⟩ := bind_some h
 refine Tri.reg (l := [0, 1, 2, 3, 4, 5, 6, 7, 8]) rfl ?_
 refine F.qn rfl rfl rfl rfl (r_move rfl) ?_
 refine F.qcn rfl rfl rfl rfl (q_callF (xs := _) rfl ok67 rfl rfl (fun w hw => strings_Cut.ok h20 w )) ?_
 refine F.qn rfl rfl rfl rfl (r_move rfl) ?_
 iterate 3 refine F.qn rfl rfl rfl rfl (r_extract rfl rfl) ?_
 iterate 3 refine F.qn rfl rfl rfl rfl (r_assign rfl) ?_
 refine F.nil (Nrm.seq (Tri.seq ?_))
 obtain ⟨⟨t26_1, t26_2⟩, h26, h⟩ := bind_some h
 refine Tri.reg (l := [0, 1, 2, 3, 4, 5, 6]) rfl ?_
 refine F.qn rfl rfl rfl rfl (r_move rfl) ?_
 refine F.qcn rfl rfl rfl rfl (q_callF (xs := _) rfl ok68 rfl rfl (fun w hw => impl_VerifyChecksum.ok h26 w (Tab.sep ht hw))) ?_
 refine F.qn rfl rfl rfl rfl (r_move rfl) ?_
 refine F.qn rfl rfl rfl rfl (r_extract rfl rfl) ?_
 refine F.qn rfl rfl rfl rfl (r_extract rfl rfl) ?_
 refine F.qn rfl rfl rfl rfl (r_assign rfl) ?_
 refine F.qn rfl rfl rfl rfl (r_assign rfl) ?_
 refine F.nil (Nrm.seq (Tri.seq ?_))
 obtain ⟨t32, h32, h⟩ := bind_some h
 obtain ⟨hs33, h⟩ := ck h
 obtain ⟨⟨t34_1, t34_2⟩, h34, h⟩ := bind_some h
 refine Tri.reg (l := [0, 1, 2, 3, 4, 5, 6, 7, 8, 9]) rfl ?_
 refine F.qn rfl rfl rfl rfl (r_move rfl) ?_
 refine F.qn rfl rfl rfl rfl (r_move rfl) ?_
 refine F.qcn rfl rfl rfl rfl (q_callF (xs := _) rfl ok34 rfl rfl (fun w hw => strconv_Itoa.ok h32 w (Tab.sep ht hw))) ?_
 refine F.qn rfl rfl rfl rfl (r_addS rfl rfl hs33) ?_
 refine F.qcn rfl rfl rfl rfl (q_callF (xs := _) rfl ok69 rfl rfl (fun w hw => strings_CutPrefix.ok h34 w )) ?_
 refine F.qn rfl rfl rfl rfl (r_move rfl) ?_
 refine F.qn rfl rfl rfl rfl (r_extract rfl rfl) ?_
 refine F.qn rfl rfl rfl rfl (r_extract rfl rfl) ?_
 refine F.qn rfl rfl rfl rfl (r_assign rfl) ?_
 refine F.qn rfl rfl rfl rfl (r_assign rfl) ?_
 refine F.nil (Nrm.seq (Tri.seq ?_))
 obtain ⟨⟨t39_1, t39_2, t39_3⟩, h39, h⟩ := bind_some h
 refine Tri.reg (l := [0, 1, 2, 3, 4, 5, 6, 7, 8]) rfl ?_
 refine F.qn rfl rfl rfl rfl (r_move rfl) ?_
 refine F.qcn rfl rfl rfl rfl (q_callF (xs := _) rfl ok67 rfl rfl (fun w hw => strings_Cut.ok h39 w )) ?_
 refine F.qn rfl rfl rfl rfl (r_move rfl) ?_
 iterate 3 refine F.qn rfl rfl rfl rfl (r_extract rfl rfl) ?_
 iterate 3 refine F.qn rfl rfl rfl rfl (r_assign rfl) ?_
 refine F.nil (Nrm.seq (Tri.seq (Tri.reg (l := [0, 1, 2, 3, 4]) rfl ?_)))
 refine F.qn rfl rfl rfl rfl (r_move rfl) ?_
 refine F.qn rfl rfl rfl rfl (r_move rfl) ?_
 refine F.qn rfl rfl rfl rfl (r_build (pl := [(0, 1), (1, 1)]) (qs := [(0, [.string t39_1]), (1, [.string t39_2])]) (cs := [.string t39_1, .string t39_2]) (by kernel_rfl) ti25 rfl (.cons rfl rfl (Nat.le_of_ble_eq_true rfl) (.cons rfl rfl (Nat.le_of_ble_eq_true rfl) .nil)) rfl rfl) ?_
 refine F.mn rfl rfl rfl rfl (m_alloc ti25) ?_
 rintro _ _ ⟨b17_1, rfl, rfl⟩
 refine F.ef0 rfl rfl (wanted_none rfl) (d_storeG0 (i := 0) (cs2 := [.string t39_1, .string t39_2]) ti25 rfl rfl rfl rfl rfl (Nat.le_of_ble_eq_true rfl) (lf_cons rfl (lf_cons rfl lf_nil))) ?_
 rintro _ _ ⟨rfl, rfl⟩
 refine F.nil (Nrm.seq (Tri.seq (Tri.seq ?_)))
 obtain ⟨y68, hE_1, h⟩ := bind_some h
 refine Tri.cut (fun e' C' => e' = [(4, .pointer (some ⟨b4_1, 0, none⟩)), (7, .string t20_1), (17, .pointer (some ⟨b17_1, 0, none⟩)), (68, .bool y68)] ∧ C' = Sep w noM [R.box b17_1 25 [.string t39_1, .string t39_2], R.box b4_1 25 [.string ByteArray.empty, .string ByteArray.empty]]) ?_ (fun hj_1 => ?_)
 ·rintro _ _ ⟨rfl, rfl⟩
  refine Nrm.seq (Tri.cond (b := y68) rfl (fun g_1 => ?_) (fun g_1 => ?_))
  ·replace h := if_tt g_1 h
   refine Tri.seq (Tri.reg (l := [0, 1, 2, 3]) rfl ?_)
   refine F.qn rfl rfl rfl rfl (r_build (pl := [(0, 1), (1, 1)]) (qs := []) (cs := [.string ByteArray.empty, .string ByteArray.empty]) (by kernel_rfl) ti25 rfl .nil rfl rfl) ?_
   refine F.ef0 rfl rfl (wanted_none rfl) (d_storeG0 (i := 1) (cs2 := [.string ByteArray.empty, .string ByteArray.empty]) ti25 rfl rfl rfl rfl rfl (Nat.le_of_ble_eq_true rfl) (lf_cons rfl (lf_cons rfl lf_nil))) ?_
   rintro _ _ ⟨rfl, rfl⟩
   refine F.qn rfl rfl rfl rfl (r_assign rfl) ?_
   refine F.qn rfl rfl rfl rfl (r_assign rfl) ?_
   refine F.nil (Nrm.seq (Tri.ret ?_))
   refine Rtn.then ?_
   cases h
   exact Rtn.body (.cell rfl ta25 ti25 rfl (fun _ hw => box_cells (i := 1) rfl _ hw) (.tmp rfl (.tmp rfl .nil))) (fun w hw => ⟨rfl, hw.ext⟩)
  ·replace h := if_ff g_1 h
   refine Tri.skip (Nrm.seq (Tri.seq (Tri.reg (l := [0, 1, 2, 3, 4, 5, 6]) rfl ?_)))
   refine F.qn rfl rfl rfl rfl (r_loadA ta25 ti25 rfl rfl (fun w hw => (box_cells (i := 0) rfl w hw))) ?_
   refine F.qn rfl rfl rfl rfl (r_move rfl) ?_
   refine F.qn rfl rfl rfl rfl (r_lenS Tryd.underlying9 rfl) ?_
   refine F.qn rfl rfl rfl rfl (r_add rfl rfl) ?_
   refine F.ef0 rfl rfl (wanted_none rfl) (d_storeG0 (i := 1) (cs2 := [.string t39_1, .string t39_2]) ti25 rfl rfl rfl rfl rfl (Nat.le_of_ble_eq_true rfl) (lf_cons rfl (lf_cons rfl lf_nil))) ?_
   rintro _ _ ⟨rfl, rfl⟩
   refine F.qn rfl rfl rfl rfl (r_assign rfl) ?_
   refine F.qn rfl rfl rfl rfl (r_assign rfl) ?_
   refine F.nil (Nrm.seq (Tri.ret ?_))
   cases h
   exact Rtn.body (.cell rfl ta25 ti25 rfl (fun _ hw => box_cells (i := 1) rfl _ hw) (.tmp rfl (.tmp rfl .nil))) (fun w hw => ⟨rfl, hw.ext⟩)
 ·rcases Bool.eq_false_or_eq_true (!t20_3) with g48 | g48
  ·replace hE_1 := if_tt g48 hE_1
   refine Tri.reg (l := List.range 23) rfl ?_
   refine F.qn rfl rfl rfl rfl (r_move rfl) ?_
   refine F.qn rfl rfl rfl rfl (r_not rfl) ?_
   refine F.qn rfl rfl rfl rfl (r_move rfl) ?_
   refine F.sk rfl rfl rfl (wf rfl rfl rfl g48) ?_
   refine F.sk rfl rfl rfl (wf rfl rfl rfl g48) ?_
   refine F.qn rfl rfl rfl rfl (r_pick rfl rfl g48) ?_
   refine F.qn rfl rfl rfl rfl (r_move rfl) ?_
   refine F.sk rfl rfl rfl (wf rfl rfl rfl rfl) ?_
   refine F.sk rfl rfl rfl (wf rfl rfl rfl rfl) ?_
   refine F.qn rfl rfl rfl rfl (r_pick rfl rfl rfl) ?_
   refine F.qn rfl rfl rfl rfl (r_move rfl) ?_
   refine F.sk rfl rfl rfl (wf rfl rfl rfl rfl) ?_
   refine F.sk rfl rfl rfl (wf rfl rfl rfl rfl) ?_
   refine F.qn rfl rfl rfl rfl (r_pick rfl rfl rfl) ?_
   refine F.qn rfl rfl rfl rfl (r_move rfl) ?_
   refine F.sk rfl rfl rfl (wf rfl rfl rfl rfl) ?_
   refine F.sk rfl rfl rfl (wf rfl rfl rfl rfl) ?_
   refine F.qn rfl rfl rfl rfl (r_pick rfl rfl rfl) ?_
   refine F.qn rfl rfl rfl rfl (r_move rfl) ?_
   iterate 3 refine F.sk rfl rfl rfl (wf rfl rfl rfl rfl) ?_
   refine F.qn rfl rfl rfl rfl (r_pick rfl rfl rfl) ?_
   refine F.nil ?_
   cases hE_1
   refine Nrm.only [4, 7, 17, 68] rfl ?_
   refine Nrm.pick [0, 1] rfl rfl ?_
   exact hj_1 _ _ ⟨rfl, rfl⟩
  ·replace hE_1 := if_ff g48 hE_1
   rcases Bool.eq_false_or_eq_true (!t26_2) with g52 | g52
   ·replace hE_1 := if_tt g52 hE_1
    refine Tri.reg (l := List.range 23) rfl ?_
    refine F.qn rfl rfl rfl rfl (r_move rfl) ?_
    refine F.qn rfl rfl rfl rfl (r_not rfl) ?_
    refine F.qn rfl rfl rfl rfl (r_move rfl) ?_
    refine F.qg rfl rfl rfl rfl rfl rfl g48 (r_move rfl) ?_
    refine F.qg rfl rfl rfl rfl rfl rfl g48 (r_not rfl) ?_
    refine F.qn rfl rfl rfl rfl (r_pickf rfl rfl g48) ?_
    refine F.qn rfl rfl rfl rfl (r_move rfl) ?_
    refine F.sk rfl rfl rfl (wf rfl rfl rfl g52) ?_
    refine F.sk rfl rfl rfl (wf rfl rfl rfl g52) ?_
    refine F.qn rfl rfl rfl rfl (r_pick rfl rfl g52) ?_
    refine F.qn rfl rfl rfl rfl (r_move rfl) ?_
    refine F.sk rfl rfl rfl (wf rfl rfl rfl rfl) ?_
    refine F.sk rfl rfl rfl (wf rfl rfl rfl rfl) ?_
    refine F.qn rfl rfl rfl rfl (r_pick rfl rfl rfl) ?_
    refine F.qn rfl rfl rfl rfl (r_move rfl) ?_
    refine F.sk rfl rfl rfl (wf rfl rfl rfl rfl) ?_
    refine F.sk rfl rfl rfl (wf rfl rfl rfl rfl) ?_
    refine F.qn rfl rfl rfl rfl (r_pick rfl rfl rfl) ?_
    refine F.qn rfl rfl rfl rfl (r_move rfl) ?_
    iterate 3 refine F.sk rfl rfl rfl (wf rfl rfl rfl rfl) ?_
    refine F.qn rfl rfl rfl rfl (r_pick rfl rfl rfl) ?_
    refine F.nil ?_
    cases hE_1
    refine Nrm.only [4, 7, 17, 68] rfl ?_
    refine Nrm.pick [0, 1] rfl rfl ?_
    exact hj_1 _ _ ⟨rfl, rfl⟩
   ·replace hE_1 := if_ff g52 hE_1
    rcases Bool.eq_false_or_eq_true (!t34_2) with g56 | g56
    ·replace hE_1 := if_tt g56 hE_1
     refine Tri.reg (l := List.range 23) rfl ?_
     refine F.qn rfl rfl rfl rfl (r_move rfl) ?_
     refine F.qn rfl rfl rfl rfl (r_not rfl) ?_
     refine F.qn rfl rfl rfl rfl (r_move rfl) ?_
     refine F.qg rfl rfl rfl rfl rfl rfl g48 (r_move rfl) ?_
     refine F.qg rfl rfl rfl rfl rfl rfl g48 (r_not rfl) ?_
     refine F.qn rfl rfl rfl rfl (r_pickf rfl rfl g48) ?_
     refine F.qn rfl rfl rfl rfl (r_move rfl) ?_
     refine F.qg rfl rfl rfl rfl rfl rfl g52 (r_move rfl) ?_
     refine F.qg rfl rfl rfl rfl rfl rfl g52 (r_not rfl) ?_
     refine F.qn rfl rfl rfl rfl (r_pickf rfl rfl g52) ?_
     refine F.qn rfl rfl rfl rfl (r_move rfl) ?_
     refine F.sk rfl rfl rfl (wf rfl rfl rfl g56) ?_
     refine F.sk rfl rfl rfl (wf rfl rfl rfl g56) ?_
     refine F.qn rfl rfl rfl rfl (r_pick rfl rfl g56) ?_
     refine F.qn rfl rfl rfl rfl (r_move rfl) ?_
     refine F.sk rfl rfl rfl (wf rfl rfl rfl rfl) ?_
     refine F.sk rfl rfl rfl (wf rfl rfl rfl rfl) ?_
     refine F.qn rfl rfl rfl rfl (r_pick rfl rfl rfl) ?_
     refine F.qn rfl rfl rfl rfl (r_move rfl) ?_
     iterate 3 refine F.sk rfl rfl rfl (wf rfl rfl rfl rfl) ?_
     refine F.qn rfl rfl rfl rfl (r_pick rfl rfl rfl) ?_
     refine F.nil ?_
     cases hE_1
     refine Nrm.only [4, 7, 17, 68] rfl ?_
     refine Nrm.pick [0, 1] rfl rfl ?_
     exact hj_1 _ _ ⟨rfl, rfl⟩
    ·replace hE_1 := if_ff g56 hE_1
     rcases Bool.eq_false_or_eq_true (!t39_3) with g60 | g60
     ·replace hE_1 := if_tt g60 hE_1
      refine Tri.reg (l := List.range 23) rfl ?_
      refine F.qn rfl rfl rfl rfl (r_move rfl) ?_
      refine F.qn rfl rfl rfl rfl (r_not rfl) ?_
      refine F.qn rfl rfl rfl rfl (r_move rfl) ?_
      refine F.qg rfl rfl rfl rfl rfl rfl g48 (r_move rfl) ?_
      refine F.qg rfl rfl rfl rfl rfl rfl g48 (r_not rfl) ?_
      refine F.qn rfl rfl rfl rfl (r_pickf rfl rfl g48) ?_
      refine F.qn rfl rfl rfl rfl (r_move rfl) ?_
      refine F.qg rfl rfl rfl rfl rfl rfl g52 (r_move rfl) ?_
      refine F.qg rfl rfl rfl rfl rfl rfl g52 (r_not rfl) ?_
      refine F.qn rfl rfl rfl rfl (r_pickf rfl rfl g52) ?_
      refine F.qn rfl rfl rfl rfl (r_move rfl) ?_
      refine F.qg rfl rfl rfl rfl rfl rfl g56 (r_move rfl) ?_
      refine F.qg rfl rfl rfl rfl rfl rfl g56 (r_not rfl) ?_
      refine F.qn rfl rfl rfl rfl (r_pickf rfl rfl g56) ?_
      refine F.qn rfl rfl rfl rfl (r_move rfl) ?_
      refine F.sk rfl rfl rfl (wf rfl rfl rfl g60) ?_
      refine F.sk rfl rfl rfl (wf rfl rfl rfl g60) ?_
      refine F.qn rfl rfl rfl rfl (r_pick rfl rfl g60) ?_
      refine F.qn rfl rfl rfl rfl (r_move rfl) ?_
      iterate 3 refine F.sk rfl rfl rfl (wf rfl rfl rfl rfl) ?_
      refine F.qn rfl rfl rfl rfl (r_pick rfl rfl rfl) ?_
      refine F.nil ?_
      cases hE_1
      refine Nrm.only [4, 7, 17, 68] rfl ?_
      refine Nrm.pick [0, 1] rfl rfl ?_
      exact hj_1 _ _ ⟨rfl, rfl⟩
     ·replace hE_1 := if_ff g60 hE_1
      rcases Bool.eq_false_or_eq_true (decide (a0 ≥ 60)) with g64 | g64
      ·replace hE_1 := if_tt g64 hE_1
       refine Tri.reg (l := List.range 23) rfl ?_
       refine F.qn rfl rfl rfl rfl (r_move rfl) ?_
       refine F.qn rfl rfl rfl rfl (r_not rfl) ?_
       refine F.qn rfl rfl rfl rfl (r_move rfl) ?_
       refine F.qg rfl rfl rfl rfl rfl rfl g48 (r_move rfl) ?_
       refine F.qg rfl rfl rfl rfl rfl rfl g48 (r_not rfl) ?_
       refine F.qn rfl rfl rfl rfl (r_pickf rfl rfl g48) ?_
       refine F.qn rfl rfl rfl rfl (r_move rfl) ?_
       refine F.qg rfl rfl rfl rfl rfl rfl g52 (r_move rfl) ?_
       refine F.qg rfl rfl rfl rfl rfl rfl g52 (r_not rfl) ?_
       refine F.qn rfl rfl rfl rfl (r_pickf rfl rfl g52) ?_
       refine F.qn rfl rfl rfl rfl (r_move rfl) ?_
       refine F.qg rfl rfl rfl rfl rfl rfl g56 (r_move rfl) ?_
       refine F.qg rfl rfl rfl rfl rfl rfl g56 (r_not rfl) ?_
       refine F.qn rfl rfl rfl rfl (r_pickf rfl rfl g56) ?_
       refine F.qn rfl rfl rfl rfl (r_move rfl) ?_
       refine F.qg rfl rfl rfl rfl rfl rfl g60 (r_move rfl) ?_
       refine F.qg rfl rfl rfl rfl rfl rfl g60 (r_geq rfl rfl) ?_
       refine F.qn rfl rfl rfl rfl (r_pickf rfl rfl g60) ?_
       refine F.qn rfl rfl rfl rfl (r_move rfl) ?_
       iterate 3 refine F.sk rfl rfl rfl (wf rfl rfl rfl g64) ?_
       refine F.qn rfl rfl rfl rfl (r_pick rfl rfl g64) ?_
       refine F.nil ?_
       cases hE_1
       refine Nrm.only [4, 7, 17, 68] rfl ?_
       refine Nrm.pick [0, 1] rfl rfl ?_
       exact hj_1 _ _ ⟨rfl, rfl⟩
      ·replace hE_1 := if_ff g64 hE_1
       obtain ⟨t66, h66, hE_1⟩ := bind_some hE_1
       refine Tri.reg (l := List.range 23) rfl ?_
       refine F.qn rfl rfl rfl rfl (r_move rfl) ?_
       refine F.qn rfl rfl rfl rfl (r_not rfl) ?_
       refine F.qn rfl rfl rfl rfl (r_move rfl) ?_
       refine F.qg rfl rfl rfl rfl rfl rfl g48 (r_move rfl) ?_
       refine F.qg rfl rfl rfl rfl rfl rfl g48 (r_not rfl) ?_
       refine F.qn rfl rfl rfl rfl (r_pickf rfl rfl g48) ?_
       refine F.qn rfl rfl rfl rfl (r_move rfl) ?_
       refine F.qg rfl rfl rfl rfl rfl rfl g52 (r_move rfl) ?_
       refine F.qg rfl rfl rfl rfl rfl rfl g52 (r_not rfl) ?_
       refine F.qn rfl rfl rfl rfl (r_pickf rfl rfl g52) ?_
       refine F.qn rfl rfl rfl rfl (r_move rfl) ?_
       refine F.qg rfl rfl rfl rfl rfl rfl g56 (r_move rfl) ?_
       refine F.qg rfl rfl rfl rfl rfl rfl g56 (r_not rfl) ?_
       refine F.qn rfl rfl rfl rfl (r_pickf rfl rfl g56) ?_
       refine F.qn rfl rfl rfl rfl (r_move rfl) ?_
       refine F.qg rfl rfl rfl rfl rfl rfl g60 (r_move rfl) ?_
       refine F.qg rfl rfl rfl rfl rfl rfl g60 (r_geq rfl rfl) ?_
       refine F.qn rfl rfl rfl rfl (r_pickf rfl rfl g60) ?_
       refine F.qn rfl rfl rfl rfl (r_move rfl) ?_
       refine F.qg rfl rfl rfl rfl rfl rfl g64 (r_loadA ta25 ti25 rfl rfl (fun w hw => (box_cells (i := 0) rfl w hw))) ?_
       refine F.qc rfl rfl rfl (wg rfl rfl rfl g64) (q_callF (xs := _) rfl ok15 rfl rfl (fun w hw => impl_IsValidRecord.ok h66 w )) ?_
       refine F.qg rfl rfl rfl rfl rfl rfl g64 (r_not rfl) ?_
       refine F.qn rfl rfl rfl rfl (r_pickf rfl rfl g64) ?_
       refine F.nil ?_
       cases hE_1
       refine Nrm.only [4, 7, 17, 68] rfl ?_
       refine Nrm.pick [0, 1] rfl rfl ?_
       exact hj_1 _ _ ⟨rfl, rfl⟩


def impl_read.l0 (k : Nat) (a0 : ByteArray) : Nat → (List (ByteArray × ByteArray)) → (List (Int)) → Int → Option ((Unit) ⊕ ((List (ByteArray × ByteArray)) × (List Int)))
 | 0, _, _, _ => none
 | n + 1, x4, x5, x6 => (scut a0 x6 (a0.size : Int)).bind fun t17 => (impl_decode.f k (x4.length : Int) t17).bind fun (t18_1, t18_2, t18_3, t18_4) => (if (!t18_4) = true then some (Sum.inr (x4, x5)) else if (x4 ++ ([(t18_1, t18_2)] : List (ByteArray × ByteArray))).length < 1099511627776 then if (x5 ++ ([w64 (x6 + t18_3)] : List (Int))).length < 1099511627776 then impl_read.l0 k a0 n (x4 ++ ([(t18_1, t18_2)] : List (ByteArray × ByteArray))) (x5 ++ ([w64 (x6 + t18_3)] : List (Int))) (w64 (x6 + t18_3)) else none else none)

def impl_read.f (k : Nat) (a0 : ByteArray) : Option ((List (ByteArray × ByteArray)) × (List Int)) := (impl_read.l0 k a0 k ([] : List (ByteArray × ByteArray)) ([0] : List (Int)) 0).bind fun s => Lr s some fun _ => none

theorem impl_read.ok {k : Nat}  {a0 : ByteArray} {r0 : List (ByteArray × ByteArray)} {r1 : List Int} (h : impl_read.f k a0 = some (r0, r1)) (w : World) (ht : Lib.TabIs Tryd.prog w "internal/strconv.uint64pow10" .u64 Lib.pow10Tab) :
  Calls Tryd.prog 44 ([.string a0] : List Value).toArray w (Post (fun u ns => ∃ (ur0 : Value) (Sr0 : Nat → Prop) (ur1 : Value) (Sr1 : Nat → Prop), u = .tuple #[ur0, ur1] ∧ SlLen ur0 r0.length ∧ SlLen ur1 r1.length ∧ ns = [R.sl Sr0 ur0 r0, R.sl Sr1 ur1 r1]) w) := by
 unfold impl_read.f at h
 refine Calls.of_tri (N := 37) Tryd.func44 rfl rfl rfl (Sep.nil (M := noM)) ?_
 refine Tri.seq (Tri.reg (l := [0, 1]) rfl ?_)
 refine F.qn rfl rfl rfl rfl (r_assign rfl) ?_
 refine F.qn rfl rfl rfl rfl (r_assign rfl) ?_
 refine F.nil (Nrm.seq (Tri.seq (Tri.reg (l := [0, 1, 2, 3, 4]) rfl ?_)))
 refine F.mn rfl rfl rfl rfl (m_build0 (α := ByteArray × ByteArray) Tryd.underlying43 ti25) ?_
 rintro v10_1 _ ⟨S10_1, hl_v10_1, rfl⟩
 refine F.mn rfl rfl rfl rfl (m_buildF (l := ([0] : List (Int))) Tryd.underlying58 ti3 rfl rfl rfl rfl rfl) ?_
 rintro v11_1 _ ⟨S11_1, hl_v11_1, rfl⟩
 iterate 3 refine F.qn rfl rfl rfl rfl (r_assign rfl) ?_
 refine F.nil (Nrm.seq ?_)
 obtain ⟨s0, hE_1, h⟩ := bind_some h
 refine Tri.block ?_
 refine Tri.only [0, 4, 5, 6] rfl ?_
 refine Tri.pick [0, 1] rfl rfl ?_
 refine Tri.rounds (fun n e' C' => ∃ (x4' : List (ByteArray × ByteArray)) (x5' : List (Int)) (x6' : Int) (w4 : Value) (T4 : Nat → Prop) (w5 : Value) (T5 : Nat → Prop), impl_read.l0 k a0 n x4' x5' x6' = some s0 ∧ SlLen w4 (x4').length ∧ SlLen w5 (x5').length ∧ e' = [(0, .string a0), (4, w4), (5, w5), (6, .int .i64 x6')] ∧ C' = Sep w noM [R.sl T5 w5 (x5' : List (Int)), R.sl T4 w4 (x4' : List (ByteArray × ByteArray))]) k ?_ ?_ ?_
 ·exact ⟨([] : List (ByteArray × ByteArray)), ([0] : List (Int)), 0, v10_1, S10_1, v11_1, S11_1, hE_1, hl_v10_1, hl_v11_1, rfl, rfl⟩
 ·rintro _ _ ⟨_, _, _, _, _, _, _, hE_1, _⟩
  rw [impl_read.l0.eq_1] at hE_1; cases hE_1
 ·rintro n_1 _ _ ⟨x4, x5, x6, w4, T4, w5, T5, hE_1, hl_w4, hl_w5, rfl, rfl⟩ ih_1
  rw [impl_read.l0.eq_2] at hE_1
  refine Tri.block ?_
  refine Tri.seq ?_
  obtain ⟨t17, h17, hE_1⟩ := bind_some hE_1
  obtain ⟨⟨t18_1, t18_2, t18_3, t18_4⟩, h18, hE_1⟩ := bind_some hE_1
  refine Tri.reg (l := List.range 14) rfl ?_
  refine F.qn rfl rfl rfl rfl (r_move rfl) ?_
  refine F.qn rfl rfl rfl rfl (r_len Tryd.underlying43 rfl hl_w4) ?_
  refine F.qn rfl rfl rfl rfl (r_move rfl) ?_
  refine F.qn rfl rfl rfl rfl (r_move rfl) ?_
  refine F.qn rfl rfl rfl rfl (r_scutL Tryd.underlying9 rfl rfl h17) ?_
  refine F.qcn rfl rfl rfl rfl (q_callF (xs := _) rfl ok59 rfl rfl (fun w hw => impl_decode.ok h18 w (Tab.sep ht hw))) ?_
  refine F.qn rfl rfl rfl rfl (r_move rfl) ?_
  iterate 3 refine F.qn rfl rfl rfl rfl (r_extract rfl rfl) ?_
  refine F.mn rfl rfl rfl rfl (m_alloc ti25) ?_
  rintro _ _ ⟨b7_1, rfl, rfl⟩
  refine F.ef0 rfl rfl (wanted_none rfl) (d_storeG0 (i := 0) (cs2 := [.string t18_1, .string t18_2]) ti25 rfl rfl rfl rfl rfl (Nat.le_of_ble_eq_true rfl) (lf_cons rfl (lf_cons rfl lf_nil))) ?_
  rintro _ _ ⟨rfl, rfl⟩
  refine F.qn rfl rfl rfl rfl (r_assign rfl) ?_
  refine F.qn rfl rfl rfl rfl (r_assign rfl) ?_
  refine F.nil (Nrm.seq (Tri.seq (Tri.seq (Tri.reg (l := [0, 1]) rfl ?_))))
  refine F.qn rfl rfl rfl rfl (r_move rfl) ?_
  refine F.qn rfl rfl rfl rfl (r_not rfl) ?_
  refine F.nil (Nrm.seq (Tri.cond (b := !t18_4) rfl (fun g_1 => ?_) (fun g_1 => ?_)))
  ·replace hE_1 := if_tt g_1 hE_1
   refine Tri.seq (Tri.reg (l := [0, 1, 2, 3]) rfl ?_)
   refine F.qn rfl rfl rfl rfl (r_move rfl) ?_
   refine F.qn rfl rfl rfl rfl (r_move rfl) ?_
   refine F.qn rfl rfl rfl rfl (r_assign rfl) ?_
   refine F.qn rfl rfl rfl rfl (r_assign rfl) ?_
   refine F.nil (Nrm.seq (Tri.ret ?_))
   refine Rtn.then ?_
   refine Rtn.block ?_
   refine Rtn.then ?_
   refine Rtn.block ?_
   cases hE_1
   replace h := Lr_inr h
   cases h
   exact Rtn.body (.tmp rfl (.tmp rfl .nil)) (fun w hw => ⟨_, _, rfl, ⟨w4, T4, w5, T5, rfl, hl_w4, hl_w5, rfl⟩, Sep.pick (is := [2, 1]) rfl rfl hw⟩)
  ·replace hE_1 := if_ff g_1 hE_1
   refine Tri.skip (Nrm.seq (Tri.seq (Tri.reg (l := [0, 1, 2, 3]) rfl ?_)))
   refine F.qn rfl rfl rfl rfl (r_move rfl) ?_
   refine F.qn rfl rfl rfl rfl (r_move rfl) ?_
   refine F.qn rfl rfl rfl rfl (r_add rfl rfl) ?_
   refine F.qn rfl rfl rfl rfl (r_assign rfl) ?_
   refine F.nil (Nrm.seq (Tri.seq ?_))
   obtain ⟨hs32, hE_1⟩ := ck hE_1
   refine Tri.reg (l := [0, 1, 2, 3, 4]) rfl ?_
   refine F.qn rfl rfl rfl rfl (r_move rfl) ?_
   refine F.qn rfl rfl rfl rfl (r_loadA ta25 ti25 rfl rfl (fun w hw => (box_cells (i := 0) rfl w hw))) ?_
   refine F.mn rfl rfl rfl rfl (m_buildF (l := ([(t18_1, t18_2)] : List (ByteArray × ByteArray))) Tryd.underlying43 ti25 rfl rfl rfl rfl rfl) ?_
   rintro v31_1 _ ⟨S31_1, hl_v31_1, rfl⟩
   refine F.efn rfl rfl rfl rfl (d_append (i := 3) Tryd.underlying43 Tryd.underlying43 ti25 rfl (by decide) rfl rfl rfl (rd_sl (i := 0) rfl) hs32) ?_
   rintro v32_1 _ ⟨S32_1, rfl, hl_v32_1⟩
   refine F.qn rfl rfl rfl rfl (r_assign rfl) ?_
   refine F.nil (Nrm.seq ?_)
   obtain ⟨hs36, hE_1⟩ := ck hE_1
   refine Tri.reg (l := [0, 1, 2, 3, 4]) rfl ?_
   refine F.qn rfl rfl rfl rfl (r_move rfl) ?_
   refine F.qn rfl rfl rfl rfl (r_move rfl) ?_
   refine F.mn rfl rfl rfl rfl (m_buildF (l := ([w64 (x6 + t18_3)] : List (Int))) Tryd.underlying58 ti3 rfl rfl rfl rfl rfl) ?_
   rintro v35_1 _ ⟨S35_1, hl_v35_1, rfl⟩
   refine F.efn rfl rfl rfl rfl (d_append (i := 3) Tryd.underlying58 Tryd.underlying58 ti3 rfl (by decide) rfl rfl rfl (rd_sl (i := 0) rfl) hs36) ?_
   rintro v36_1 _ ⟨S36_1, rfl, hl_v36_1⟩
   refine F.qn rfl rfl rfl rfl (r_assign rfl) ?_
   refine F.nil (Nrm.block ?_)
   refine Nrm.round ?_
   refine Rnd.only [0, 4, 5, 6] rfl ?_
   refine Rnd.pick [3, 4] rfl rfl ?_
   exact ih_1 _ _ ⟨x4 ++ ([(t18_1, t18_2)] : List (ByteArray × ByteArray)), x5 ++ ([w64 (x6 + t18_3)] : List (Int)), w64 (x6 + t18_3), v32_1, S32_1, v36_1, S36_1, hE_1, hl_v32_1, hl_v36_1, rfl, rfl⟩


def slices_Index_int_int.l0 (k : Nat) (a0 : List Int) (a1 : Int) : Nat → Int → Option ((Unit) ⊕ (Int))
 | 0, _ => none
 | n + 1, x8 => (if (decide (x8 < (a0.length : Int))) = true then (rdl a0 x8).bind fun t14 => (if (a1 == t14) = true then some (Sum.inr x8) else slices_Index_int_int.l0 k a0 a1 n (w64 (x8 + 1))) else some (Sum.inl ()))

def slices_Index_int_int.f (k : Nat) (a0 : List Int) (a1 : Int) : Option (Int) := (slices_Index_int_int.l0 k a0 a1 k 0).bind fun s => Lr s some fun _ => some (-1)

theorem slices_Index_int_int.ok {k : Nat}  {a0 : List Int} {a1 : Int} {r0 : Int} (h : slices_Index_int_int.f k a0 a1 = some r0) (w : World) {va0 : Value} (hr_a0 : Rd w va0 a0) :
  Calls Tryd.prog 60 ([va0, .int .i64 a1] : List Value).toArray w (fun e w' => e = .returned (.int .i64 r0) ∧ Ext w w') := by
 unfold slices_Index_int_int.f at h
 have hl_va0 := hr_a0.len
 refine Calls.of_tri (N := 19) Tryd.func60 rfl rfl rfl (Sep.nil (M := noM)) ?_
 refine Tri.seq (Tri.reg (l := [0]) rfl ?_)
 refine F.qn rfl rfl rfl rfl (r_assign rfl) ?_
 refine F.nil (Nrm.seq (Tri.seq (Tri.seq (Tri.reg (l := [0, 1, 2]) rfl ?_))))
 refine F.qn rfl rfl rfl rfl (r_move rfl) ?_
 refine F.qn rfl rfl rfl rfl (r_len Tryd.underlying58 rfl hl_va0) ?_
 refine F.qn rfl rfl rfl rfl (r_move rfl) ?_
 refine F.nil (Nrm.seq ?_)
 obtain ⟨s0, hE_1, h⟩ := bind_some h
 refine Tri.block ?_
 refine Tri.only [0, 1, 7, 8] rfl ?_
 refine Tri.pick [] rfl rfl ?_
 refine Tri.rounds (fun n e' C' => ∃ (x8' : Int), slices_Index_int_int.l0 k a0 a1 n x8' = some s0 ∧ e' = [(0, va0), (1, .int .i64 a1), (7, .int .i64 (a0.length : Int)), (8, .int .i64 x8')] ∧ C' = Sep w noM []) k ?_ ?_ ?_
 ·exact ⟨0, hE_1, rfl, rfl⟩
 ·rintro _ _ ⟨_, hE_1, _⟩
  rw [slices_Index_int_int.l0.eq_1] at hE_1; cases hE_1
 ·rintro n_1 _ _ ⟨x8, hE_1, rfl, rfl⟩ ih_1
  rw [slices_Index_int_int.l0.eq_2] at hE_1
  refine Tri.seq (Tri.reg (l := [0]) rfl ?_)
  refine F.qn rfl rfl rfl rfl (r_lss rfl rfl) ?_
  refine F.nil (Nrm.seq (Tri.seq (Tri.cond (b := decide (x8 < (a0.length : Int))) rfl (fun g_1 => ?_) (fun g_1 => ?_))))
  ·replace hE_1 := if_tt g_1 hE_1
   refine Tri.skip (Nrm.seq (Tri.seq (Tri.block ?_)))
   refine Tri.seq (Tri.reg (l := [0, 1]) rfl ?_)
   refine F.qn rfl rfl rfl rfl (r_move rfl) ?_
   refine F.qn rfl rfl rfl rfl (r_assign rfl) ?_
   refine F.nil (Nrm.seq (Tri.seq ?_))
   obtain ⟨t14, h14, hE_1⟩ := bind_some hE_1
   refine Tri.reg (l := [0, 1, 2, 3, 4, 5]) rfl ?_
   iterate 3 refine F.qn rfl rfl rfl rfl (r_move rfl) ?_
   refine F.qn rfl rfl rfl rfl (r_indexAddrS Tryd.underlying58 ti3 rfl hl_va0 rfl (rdl_some h14).1 (rdl_some h14).2.1) ?_
   refine F.qn rfl rfl rfl rfl (r_load ta3 rfl (fun w hw => cell_0 (Rd.flat ((fun _ hw => hr_a0.sep hw) w hw) (rdl_some h14).2.2) rfl)) ?_
   refine F.qn rfl rfl rfl rfl (r_eql rfl rfl) ?_
   refine F.nil (Nrm.seq (Tri.cond (b := a1 == t14) rfl (fun g_2 => ?_) (fun g_2 => ?_)))
   ·replace hE_1 := if_tt g_2 hE_1
    refine Tri.seq (Tri.reg (l := [0, 1]) rfl ?_)
    refine F.qn rfl rfl rfl rfl (r_move rfl) ?_
    refine F.qn rfl rfl rfl rfl (r_assign rfl) ?_
    refine F.nil (Nrm.seq (Tri.ret ?_))
    refine Rtn.block ?_
    refine Rtn.then ?_
    refine Rtn.then ?_
    refine Rtn.block ?_
    refine Rtn.then ?_
    cases hE_1
    replace h := Lr_inr h
    cases h
    exact Rtn.body (.tmp rfl .nil) (fun w hw => ⟨rfl, hw.ext⟩)
   ·replace hE_1 := if_ff g_2 hE_1
    refine Tri.skip (Nrm.block ?_)
    refine Nrm.seq (Tri.reg (l := [0, 1]) rfl ?_)
    refine F.qn rfl rfl rfl rfl (r_add rfl rfl) ?_
    refine F.qn rfl rfl rfl rfl (r_move rfl) ?_
    refine F.nil (Nrm.round ?_)
    refine Rnd.only [0, 1, 7, 8] rfl ?_
    refine Rnd.pick [] rfl rfl ?_
    exact ih_1 _ _ ⟨w64 (x8 + 1), hE_1, rfl, rfl⟩
  ·replace hE_1 := if_ff g_1 hE_1
   refine Tri.exit ?_
   refine Exi.then ?_
   refine Exi.then ?_
   refine Exi.same ?_
   cases hE_1
   replace h := Lr_inl h
   refine Nrm.seq (Tri.seq (Tri.reg (l := [0]) rfl ?_))
   refine F.qn rfl rfl rfl rfl (r_assign rfl) ?_
   refine F.nil (Nrm.seq (Tri.ret ?_))
   cases h
   exact Rtn.body (.tmp rfl .nil) (fun w hw => ⟨rfl, hw.ext⟩)


def slices_Contains_int_int.f (k : Nat) (a0 : List Int) (a1 : Int) : Option (Bool) := (slices_Index_int_int.f k a0 a1).bind fun t7 => some (decide (t7 ≥ 0))

theorem slices_Contains_int_int.ok {k : Nat}  {a0 : List Int} {a1 : Int} {r0 : Bool} (h : slices_Contains_int_int.f k a0 a1 = some r0) (w : World) {va0 : Value} (hr_a0 : Rd w va0 a0) :
  Calls Tryd.prog 45 ([va0, .int .i64 a1] : List Value).toArray w (fun e w' => e = .returned (.bool r0) ∧ Ext w w') := by
 unfold slices_Contains_int_int.f at h
 have hl_va0 := hr_a0.len
 refine Calls.of_tri (N := 9) Tryd.func45 rfl rfl rfl (Sep.nil (M := noM)) ?_
 refine Tri.seq (Tri.reg (l := [0]) rfl ?_)
 refine F.qn rfl rfl rfl rfl (r_assign rfl) ?_
 refine F.nil (Nrm.seq (Tri.seq ?_))
 obtain ⟨t7, h7, h⟩ := bind_some h
 refine Tri.reg (l := [0, 1, 2, 3, 4]) rfl ?_
 refine F.qn rfl rfl rfl rfl (r_move rfl) ?_
 refine F.qn rfl rfl rfl rfl (r_move rfl) ?_
 refine F.qcn rfl rfl rfl rfl (q_callF (xs := _) rfl ok60 rfl rfl (fun w hw => slices_Index_int_int.ok h7 w ((fun _ hw => hr_a0.sep hw) w hw))) ?_
 refine F.qn rfl rfl rfl rfl (r_geq rfl rfl) ?_
 refine F.qn rfl rfl rfl rfl (r_assign rfl) ?_
 refine F.nil (Nrm.seq (Tri.ret ?_))
 cases h
 exact Rtn.body (.tmp rfl .nil) (fun w hw => ⟨rfl, hw.ext⟩)


def impl_IsValidLog.f (k : Nat) (a0_0 : ByteArray) (a0_1 : ByteArray) (a0_2 : Int) : Option (Bool) := if (a0_0 ++ a0_1).size < 4611686018427387904 then (if (decide (((a0_0 ++ a0_1).size : Int) > 30000)) = true then some false else (impl_read.f k (a0_0 ++ a0_1)).bind fun (t16_1, t16_2) => ((rdl t16_2 (w64 ((t16_2.length : Int) - 1))).bind fun t23 => (if (t23 == ((a0_0 ++ a0_1).size : Int)) = true then (slices_Contains_int_int.f k t16_2 (a0_0.size : Int)).bind fun t33 => (if t33 = true then some (a0_2 == (t16_1.length : Int)) else some false) else some false)).bind fun y2 => some y2) else none

theorem impl_IsValidLog.ok {k : Nat}  {a0_0 : ByteArray} {a0_1 : ByteArray} {a0_2 : Int} {r0 : Bool} (h : impl_IsValidLog.f k a0_0 a0_1 a0_2 = some r0) (w : World) (ht : Lib.TabIs Tryd.prog w "internal/strconv.uint64pow10" .u64 Lib.pow10Tab) :
  Calls Tryd.prog 17 ([.agg ([.string a0_0, .string a0_1, .int .i64 a0_2].toArray)] : List Value).toArray w (fun e w' => e = .returned (.bool r0) ∧ Ext w w') := by
 unfold impl_IsValidLog.f at h
 refine Calls.of_tri (N := 42) Tryd.func17 rfl rfl rfl (Sep.nil (M := noM)) ?_
 refine Tri.seq (Tri.reg (l := [0, 1]) rfl ?_)
 refine F.mn rfl rfl rfl rfl (m_boxG rfl rfl) ?_
 rintro _ _ ⟨b1_1, rfl, rfl⟩
 refine F.qn rfl rfl rfl rfl (r_assign rfl) ?_
 refine F.nil (Nrm.seq (Tri.seq ?_))
 obtain ⟨hs10, h⟩ := ck h
 refine Tri.reg (l := [0, 1, 2, 3, 4, 5]) rfl ?_
 refine F.qn rfl rfl rfl rfl (r_fieldAddr tf33_0 rfl) ?_
 refine F.qn rfl rfl rfl rfl (r_load ta9 rfl (fun w hw => cell_1 (box_cells (i := 0) rfl w hw) rfl)) ?_
 refine F.qn rfl rfl rfl rfl (r_fieldAddr tf33_1 rfl) ?_
 refine F.qn rfl rfl rfl rfl (r_load ta9 rfl (fun w hw => cell_1 (box_cells (i := 0) rfl w hw) rfl)) ?_
 refine F.qn rfl rfl rfl rfl (r_addS rfl rfl hs10) ?_
 refine F.qn rfl rfl rfl rfl (r_assign rfl) ?_
 refine F.nil (Nrm.seq (Tri.seq (Tri.seq (Tri.reg (l := [0, 1, 2]) rfl ?_))))
 refine F.qn rfl rfl rfl rfl (r_move rfl) ?_
 refine F.qn rfl rfl rfl rfl (r_lenS Tryd.underlying9 rfl) ?_
 refine F.qn rfl rfl rfl rfl (r_gtr rfl rfl) ?_
 refine F.nil (Nrm.seq (Tri.cond (b := decide (((a0_0 ++ a0_1).size : Int) > 30000)) rfl (fun g_1 => ?_) (fun g_1 => ?_)))
 ·replace h := if_tt g_1 h
  refine Tri.seq (Tri.reg (l := [0]) rfl ?_)
  refine F.qn rfl rfl rfl rfl (r_assign rfl) ?_
  refine F.nil (Nrm.seq (Tri.ret ?_))
  refine Rtn.then ?_
  cases h
  exact Rtn.body (.tmp rfl .nil) (fun w hw => ⟨rfl, hw.ext⟩)
 ·replace h := if_ff g_1 h
  refine Tri.skip (Nrm.seq (Tri.seq ?_))
  obtain ⟨⟨t16_1, t16_2⟩, h16, h⟩ := bind_some h
  refine Tri.reg (l := [0, 1, 2, 3, 4, 5, 6]) rfl ?_
  refine F.qn rfl rfl rfl rfl (r_move rfl) ?_
  refine F.mn rfl rfl rfl rfl (m_callF (xs := _) rfl ok44 rfl rfl (fun w hw => impl_read.ok h16 w (Tab.sep ht hw))) ?_
  rintro _ _ ⟨_, ⟨v16_1, S16_1, v16_2, S16_2, rfl, hl_v16_1, hl_v16_2, rfl⟩, rfl⟩
  refine F.qn rfl rfl rfl rfl (r_move rfl) ?_
  refine F.qn rfl rfl rfl rfl (r_extract rfl rfl) ?_
  refine F.qn rfl rfl rfl rfl (r_extract rfl rfl) ?_
  refine F.qn rfl rfl rfl rfl (r_assign rfl) ?_
  refine F.qn rfl rfl rfl rfl (r_assign rfl) ?_
  refine F.nil (Nrm.seq (Tri.seq ?_))
  obtain ⟨y2, hE_1, h⟩ := bind_some h
  refine Tri.cut (fun e' C' => e' = [(2, .bool y2)] ∧ C' = Sep w noM []) ?_ (fun hj_1 => ?_)
  ·rintro _ _ ⟨rfl, rfl⟩
   refine Nrm.seq (Tri.ret ?_)
   cases h
   exact Rtn.body (.tmp rfl .nil) (fun w hw => ⟨rfl, hw.ext⟩)
  ·obtain ⟨t23, h23, hE_1⟩ := bind_some hE_1
   rcases Bool.eq_false_or_eq_true (t23 == ((a0_0 ++ a0_1).size : Int)) with g28 | g28
   ·replace hE_1 := if_tt g28 hE_1
    obtain ⟨t33, h33, hE_1⟩ := bind_some hE_1
    rcases Bool.eq_false_or_eq_true (t33) with g35 | g35
    ·replace hE_1 := if_tt g35 hE_1
     refine Tri.reg (l := List.range 24) rfl ?_
     refine F.qn rfl rfl rfl rfl (r_move rfl) ?_
     refine F.qn rfl rfl rfl rfl (r_move rfl) ?_
     refine F.qn rfl rfl rfl rfl (r_len Tryd.underlying58 rfl hl_v16_2) ?_
     refine F.qn rfl rfl rfl rfl (r_sub rfl rfl) ?_
     refine F.qn rfl rfl rfl rfl (r_indexAddrS Tryd.underlying58 ti3 rfl hl_v16_2 rfl (rdl_some h23).1 (rdl_some h23).2.1) ?_
     refine F.qn rfl rfl rfl rfl (r_load ta3 rfl (fun w hw => cell_0 (Rd.flat ((rd_sl (i := 1) rfl) w hw) (rdl_some h23).2.2) rfl)) ?_
     refine F.qn rfl rfl rfl rfl (r_move rfl) ?_
     refine F.qn rfl rfl rfl rfl (r_lenS Tryd.underlying9 rfl) ?_
     refine F.qn rfl rfl rfl rfl (r_eql rfl rfl) ?_
     refine F.qn rfl rfl rfl rfl (r_move rfl) ?_
     refine F.qg rfl rfl rfl rfl rfl rfl g28 (r_move rfl) ?_
     refine F.qg rfl rfl rfl rfl rfl rfl g28 (r_fieldAddr tf33_0 rfl) ?_
     refine F.qg rfl rfl rfl rfl rfl rfl g28 (r_load ta9 rfl (fun w hw => cell_1 (box_cells (i := 2) rfl w hw) rfl)) ?_
     refine F.qg rfl rfl rfl rfl rfl rfl g28 (r_lenS Tryd.underlying9 rfl) ?_
     refine F.qc rfl rfl rfl (wg rfl rfl rfl g28) (q_callF (xs := _) rfl ok45 rfl rfl (fun w hw => slices_Contains_int_int.ok h33 w ((rd_sl (i := 1) rfl) w hw))) ?_
     refine F.qn rfl rfl rfl rfl (r_pick rfl rfl g28) ?_
     refine F.qn rfl rfl rfl rfl (r_move rfl) ?_
     refine F.qg rfl rfl rfl rfl rfl rfl g35 (r_fieldAddr tf33_2 rfl) ?_
     refine F.qg rfl rfl rfl rfl rfl rfl g35 (r_load ta3 rfl (fun w hw => cell_1 (box_cells (i := 2) rfl w hw) rfl)) ?_
     refine F.qg rfl rfl rfl rfl rfl rfl g35 (r_move rfl) ?_
     refine F.qg rfl rfl rfl rfl rfl rfl g35 (r_len Tryd.underlying43 rfl hl_v16_1) ?_
     refine F.qg rfl rfl rfl rfl rfl rfl g35 (r_eql rfl rfl) ?_
     refine F.qn rfl rfl rfl rfl (r_pick rfl rfl g35) ?_
     refine F.qn rfl rfl rfl rfl (r_assign rfl) ?_
     refine F.nil ?_
     cases hE_1
     refine Nrm.only [2] rfl ?_
     refine Nrm.pick [] rfl rfl ?_
     exact hj_1 _ _ ⟨rfl, rfl⟩
    ·replace hE_1 := if_ff g35 hE_1
     refine Tri.reg (l := List.range 24) rfl ?_
     refine F.qn rfl rfl rfl rfl (r_move rfl) ?_
     refine F.qn rfl rfl rfl rfl (r_move rfl) ?_
     refine F.qn rfl rfl rfl rfl (r_len Tryd.underlying58 rfl hl_v16_2) ?_
     refine F.qn rfl rfl rfl rfl (r_sub rfl rfl) ?_
     refine F.qn rfl rfl rfl rfl (r_indexAddrS Tryd.underlying58 ti3 rfl hl_v16_2 rfl (rdl_some h23).1 (rdl_some h23).2.1) ?_
     refine F.qn rfl rfl rfl rfl (r_load ta3 rfl (fun w hw => cell_0 (Rd.flat ((rd_sl (i := 1) rfl) w hw) (rdl_some h23).2.2) rfl)) ?_
     refine F.qn rfl rfl rfl rfl (r_move rfl) ?_
     refine F.qn rfl rfl rfl rfl (r_lenS Tryd.underlying9 rfl) ?_
     refine F.qn rfl rfl rfl rfl (r_eql rfl rfl) ?_
     refine F.qn rfl rfl rfl rfl (r_move rfl) ?_
     refine F.qg rfl rfl rfl rfl rfl rfl g28 (r_move rfl) ?_
     refine F.qg rfl rfl rfl rfl rfl rfl g28 (r_fieldAddr tf33_0 rfl) ?_
     refine F.qg rfl rfl rfl rfl rfl rfl g28 (r_load ta9 rfl (fun w hw => cell_1 (box_cells (i := 2) rfl w hw) rfl)) ?_
     refine F.qg rfl rfl rfl rfl rfl rfl g28 (r_lenS Tryd.underlying9 rfl) ?_
     refine F.qc rfl rfl rfl (wg rfl rfl rfl g28) (q_callF (xs := _) rfl ok45 rfl rfl (fun w hw => slices_Contains_int_int.ok h33 w ((rd_sl (i := 1) rfl) w hw))) ?_
     refine F.qn rfl rfl rfl rfl (r_pick rfl rfl g28) ?_
     refine F.qn rfl rfl rfl rfl (r_move rfl) ?_
     iterate 5 refine F.sk rfl rfl rfl (wf rfl rfl rfl g35) ?_
     refine F.qn rfl rfl rfl rfl (r_pickf rfl rfl g35) ?_
     refine F.qn rfl rfl rfl rfl (r_assign rfl) ?_
     refine F.nil ?_
     cases hE_1
     refine Nrm.only [2] rfl ?_
     refine Nrm.pick [] rfl rfl ?_
     exact hj_1 _ _ ⟨rfl, rfl⟩
   ·replace hE_1 := if_ff g28 hE_1
    refine Tri.reg (l := List.range 24) rfl ?_
    refine F.qn rfl rfl rfl rfl (r_move rfl) ?_
    refine F.qn rfl rfl rfl rfl (r_move rfl) ?_
    refine F.qn rfl rfl rfl rfl (r_len Tryd.underlying58 rfl hl_v16_2) ?_
    refine F.qn rfl rfl rfl rfl (r_sub rfl rfl) ?_
    refine F.qn rfl rfl rfl rfl (r_indexAddrS Tryd.underlying58 ti3 rfl hl_v16_2 rfl (rdl_some h23).1 (rdl_some h23).2.1) ?_
    refine F.qn rfl rfl rfl rfl (r_load ta3 rfl (fun w hw => cell_0 (Rd.flat ((rd_sl (i := 1) rfl) w hw) (rdl_some h23).2.2) rfl)) ?_
    refine F.qn rfl rfl rfl rfl (r_move rfl) ?_
    refine F.qn rfl rfl rfl rfl (r_lenS Tryd.underlying9 rfl) ?_
    refine F.qn rfl rfl rfl rfl (r_eql rfl rfl) ?_
    refine F.qn rfl rfl rfl rfl (r_move rfl) ?_
    iterate 5 refine F.sk rfl rfl rfl (wf rfl rfl rfl g28) ?_
    refine F.qn rfl rfl rfl rfl (r_pickf rfl rfl g28) ?_
    refine F.qn rfl rfl rfl rfl (r_move rfl) ?_
    iterate 5 refine F.sk rfl rfl rfl (wf rfl rfl rfl rfl) ?_
    refine F.qn rfl rfl rfl rfl (r_pickf rfl rfl rfl) ?_
    refine F.qn rfl rfl rfl rfl (r_assign rfl) ?_
    refine F.nil ?_
    cases hE_1
    refine Nrm.only [2] rfl ?_
    refine Nrm.pick [] rfl rfl ?_
    exact hj_1 _ _ ⟨rfl, rfl⟩


def impl_LogRecords.f (k : Nat) (a0_0 : ByteArray) (a0_1 : ByteArray) (a0_2 : Int) : Option ((List (ByteArray × ByteArray)) × Bool) := (impl_IsValidLog.f k a0_0 a0_1 a0_2).bind fun t7 => (if (!t7) = true then some ([], false) else if (a0_0 ++ a0_1).size < 4611686018427387904 then (impl_read.f k (a0_0 ++ a0_1)).bind fun (t15_1, t15_2) => some (t15_1, true) else none)

theorem impl_LogRecords.ok {k : Nat}  {a0_0 : ByteArray} {a0_1 : ByteArray} {a0_2 : Int} {r0 : List (ByteArray × ByteArray)} {r1 : Bool} (h : impl_LogRecords.f k a0_0 a0_1 a0_2 = some (r0, r1)) (w : World) (ht : Lib.TabIs Tryd.prog w "internal/strconv.uint64pow10" .u64 Lib.pow10Tab) :
  Calls Tryd.prog 21 ([.agg ([.string a0_0, .string a0_1, .int .i64 a0_2].toArray)] : List Value).toArray w (Post (fun u ns => ∃ (ur0 : Value) (Sr0 : Nat → Prop), u = .tuple #[ur0, .bool r1] ∧ SlLen ur0 r0.length ∧ ns = [R.sl Sr0 ur0 r0]) w) := by
 unfold impl_LogRecords.f at h
 refine Calls.of_tri (N := 19) Tryd.func21 rfl rfl rfl (Sep.nil (M := noM)) ?_
 refine Tri.seq (Tri.reg (l := [0, 1, 2]) rfl ?_)
 refine F.mn rfl rfl rfl rfl (m_boxG rfl rfl) ?_
 rintro _ _ ⟨b1_1, rfl, rfl⟩
 refine F.qn rfl rfl rfl rfl (r_assign rfl) ?_
 refine F.qn rfl rfl rfl rfl (r_assign rfl) ?_
 refine F.nil (Nrm.seq (Tri.seq (Tri.seq ?_)))
 obtain ⟨t7, h7, h⟩ := bind_some h
 refine Tri.reg (l := [0, 1, 2]) rfl ?_
 refine F.qn rfl rfl rfl rfl (r_loadA ta33 ti33 rfl rfl (fun w hw => (box_cells (i := 0) rfl w hw))) ?_
 refine F.qcn rfl rfl rfl rfl (q_callF (xs := _) rfl ok17 rfl rfl (fun w hw => impl_IsValidLog.ok h7 w (Tab.sep ht hw))) ?_
 refine F.qn rfl rfl rfl rfl (r_not rfl) ?_
 refine F.nil (Nrm.seq (Tri.cond (b := !t7) rfl (fun g_1 => ?_) (fun g_1 => ?_)))
 ·replace h := if_tt g_1 h
  refine Tri.seq (Tri.reg (l := [0, 1]) rfl ?_)
  refine F.qn rfl rfl rfl rfl (r_assign rfl) ?_
  refine F.qn rfl rfl rfl rfl (r_assign rfl) ?_
  refine F.nil (Nrm.seq (Tri.ret ?_))
  refine Rtn.then ?_
  cases h
  exact Rtn.body (.tmp rfl (.tmp rfl .nil)) (fun w hw => ⟨_, _, rfl, ⟨.slice none 0 0, fun _ => False, rfl, len_nil, rfl⟩, Sep.pick (is := [0]) rfl rfl hw.pushNil⟩)
 ·replace h := if_ff g_1 h
  refine Tri.skip (Nrm.seq (Tri.seq ?_))
  obtain ⟨hs14, h⟩ := ck h
  obtain ⟨⟨t15_1, t15_2⟩, h15, h⟩ := bind_some h
  refine Tri.reg (l := [0, 1, 2, 3, 4, 5, 6, 7, 8, 9, 10]) rfl ?_
  refine F.qn rfl rfl rfl rfl (r_fieldAddr tf33_0 rfl) ?_
  refine F.qn rfl rfl rfl rfl (r_load ta9 rfl (fun w hw => cell_1 (box_cells (i := 0) rfl w hw) rfl)) ?_
  refine F.qn rfl rfl rfl rfl (r_fieldAddr tf33_1 rfl) ?_
  refine F.qn rfl rfl rfl rfl (r_load ta9 rfl (fun w hw => cell_1 (box_cells (i := 0) rfl w hw) rfl)) ?_
  refine F.qn rfl rfl rfl rfl (r_addS rfl rfl hs14) ?_
  refine F.mn rfl rfl rfl rfl (m_callF (xs := _) rfl ok44 rfl rfl (fun w hw => impl_read.ok h15 w (Tab.sep ht hw))) ?_
  rintro _ _ ⟨_, ⟨v15_1, S15_1, v15_2, S15_2, rfl, hl_v15_1, hl_v15_2, rfl⟩, rfl⟩
  refine F.qn rfl rfl rfl rfl (r_move rfl) ?_
  refine F.qn rfl rfl rfl rfl (r_extract rfl rfl) ?_
  refine F.qn rfl rfl rfl rfl (r_extract rfl rfl) ?_
  refine F.qn rfl rfl rfl rfl (r_assign rfl) ?_
  refine F.qn rfl rfl rfl rfl (r_assign rfl) ?_
  refine F.nil (Nrm.seq (Tri.seq (Tri.reg (l := [0, 1, 2]) rfl ?_)))
  refine F.qn rfl rfl rfl rfl (r_move rfl) ?_
  refine F.qn rfl rfl rfl rfl (r_assign rfl) ?_
  refine F.qn rfl rfl rfl rfl (r_assign rfl) ?_
  refine F.nil (Nrm.seq (Tri.ret ?_))
  cases h
  exact Rtn.body (.tmp rfl (.tmp rfl .nil)) (fun w hw => ⟨_, _, rfl, ⟨v15_1, S15_1, rfl, hl_v15_1, rfl⟩, Sep.pick (is := [0]) rfl rfl hw⟩)


def laws_vRecords.l0 (k : Nat) (a0 : List (ByteArray × ByteArray)) (a1 : List (ByteArray × ByteArray)) : Nat → Int → Option ((Unit) ⊕ (Bool))
 | 0, _ => none
 | n + 1, x5 => (if (decide (x5 < (a0.length : Int))) = true then (rdl a0 x5).bind fun t19 => (rdl a1 x5).bind fun t23 => (if (!(t19.1.toList == t23.1.toList && (t19.2.toList == t23.2.toList && true))) = true then some (Sum.inr false) else laws_vRecords.l0 k a0 a1 n (w64 (x5 + 1))) else some (Sum.inl ()))

def laws_vRecords.f (k : Nat) (a0 : List (ByteArray × ByteArray)) (a1 : List (ByteArray × ByteArray)) : Option (Bool) := (if ((a0.length : Int) != (a1.length : Int)) = true then some false else (laws_vRecords.l0 k a0 a1 k 0).bind fun s => Lr s some fun _ => some true)

theorem laws_vRecords.ok {k : Nat}  {a0 : List (ByteArray × ByteArray)} {a1 : List (ByteArray × ByteArray)} {r0 : Bool} (h : laws_vRecords.f k a0 a1 = some r0) (w : World) {va0 : Value} {va1 : Value} (hr_a0 : Rd w va0 a0) (hr_a1 : Rd w va1 a1) :
  Calls Tryd.prog 23 ([va0, va1] : List Value).toArray w (fun e w' => e = .returned (.bool r0) ∧ Ext w w') := by
 unfold laws_vRecords.f at h
 have hl_va0 := hr_a0.len
 have hl_va1 := hr_a1.len
 refine Calls.of_tri (N := 26) Tryd.func23 rfl rfl rfl (Sep.nil (M := noM)) ?_
 refine Tri.seq (Tri.reg (l := [0]) rfl ?_)
 refine F.qn rfl rfl rfl rfl (r_assign rfl) ?_
 refine F.nil (Nrm.seq (Tri.seq (Tri.seq (Tri.reg (l := [0, 1, 2, 3, 4]) rfl ?_))))
 refine F.qn rfl rfl rfl rfl (r_move rfl) ?_
 refine F.qn rfl rfl rfl rfl (r_len Tryd.underlying43 rfl hl_va0) ?_
 refine F.qn rfl rfl rfl rfl (r_move rfl) ?_
 refine F.qn rfl rfl rfl rfl (r_len Tryd.underlying43 rfl hl_va1) ?_
 refine F.qn rfl rfl rfl rfl (r_neq rfl rfl) ?_
 refine F.nil (Nrm.seq (Tri.cond (b := (a0.length : Int) != (a1.length : Int)) rfl (fun g_1 => ?_) (fun g_1 => ?_)))
 ·replace h := if_tt g_1 h
  refine Tri.seq (Tri.reg (l := [0]) rfl ?_)
  refine F.qn rfl rfl rfl rfl (r_assign rfl) ?_
  refine F.nil (Nrm.seq (Tri.ret ?_))
  refine Rtn.then ?_
  cases h
  exact Rtn.body (.tmp rfl .nil) (fun w hw => ⟨rfl, hw.ext⟩)
 ·replace h := if_ff g_1 h
  refine Tri.skip (Nrm.seq (Tri.seq (Tri.seq (Tri.reg (l := [0]) rfl ?_))))
  refine F.qn rfl rfl rfl rfl (r_assign rfl) ?_
  refine F.nil (Nrm.seq ?_)
  obtain ⟨s0, hE_1, h⟩ := bind_some h
  refine Tri.block ?_
  refine Tri.only [0, 1, 5] rfl ?_
  refine Tri.pick [] rfl rfl ?_
  refine Tri.rounds (fun n e' C' => ∃ (x5' : Int), laws_vRecords.l0 k a0 a1 n x5' = some s0 ∧ e' = [(0, va0), (1, va1), (5, .int .i64 x5')] ∧ C' = Sep w noM []) k ?_ ?_ ?_
  ·exact ⟨0, hE_1, rfl, rfl⟩
  ·rintro _ _ ⟨_, hE_1, _⟩
   rw [laws_vRecords.l0.eq_1] at hE_1; cases hE_1
  ·rintro n_1 _ _ ⟨x5, hE_1, rfl, rfl⟩ ih_1
   rw [laws_vRecords.l0.eq_2] at hE_1
   refine Tri.seq (Tri.seq (Tri.reg (l := [0, 1, 2, 3]) rfl ?_))
   refine F.qn rfl rfl rfl rfl (r_move rfl) ?_
   refine F.qn rfl rfl rfl rfl (r_move rfl) ?_
   refine F.qn rfl rfl rfl rfl (r_len Tryd.underlying43 rfl hl_va0) ?_
   refine F.qn rfl rfl rfl rfl (r_lss rfl rfl) ?_
   refine F.nil (Nrm.seq (Tri.cond (b := decide (x5 < (a0.length : Int))) rfl (fun g_2 => ?_) (fun g_2 => ?_)))
   ·replace hE_1 := if_tt g_2 hE_1
    refine Tri.skip (Nrm.seq (Tri.seq (Tri.block ?_)))
    refine Tri.seq ?_
    obtain ⟨t19, h19, hE_1⟩ := bind_some hE_1
    obtain ⟨t23, h23, hE_1⟩ := bind_some hE_1
    refine Tri.drawA mixedT Sep.up [(0, true), (1, true), (2, true), (3, true), (4, true), (5, true), (6, true), (7, true), (8, true)] [] (by kernel_rfl) ?_
    refine S.qn rfl rfl rfl rfl (r_move rfl) ?_
    refine S.qn rfl rfl rfl rfl (r_move rfl) ?_
    refine S.qn rfl rfl rfl rfl (r_indexAddrS Tryd.underlying43 ti25 rfl hl_va0 rfl (rdl_some h19).1 (rdl_some h19).2.1) ?_
    refine S.qn rfl rfl rfl rfl (r_loadA ta25 ti25 rfl rfl (fun w hw => (Rd.flat ((fun _ hw => hr_a0.sep hw) w hw) (rdl_some h19).2.2))) ?_
    refine S.qn rfl rfl rfl rfl (r_move rfl) ?_
    refine S.qn rfl rfl rfl rfl (r_move rfl) ?_
    refine S.qn rfl rfl rfl rfl (r_indexAddrS Tryd.underlying43 ti25 rfl hl_va1 rfl (rdl_some h23).1 (rdl_some h23).2.1) ?_
    refine S.qn rfl rfl rfl rfl (r_loadA ta25 ti25 rfl rfl (fun w hw => (Rd.flat ((fun _ hw => hr_a1.sep hw) w hw) (rdl_some h23).2.2))) ?_
    refine S.qn rfl rfl rfl rfl (r_neqSt (by kernel_rfl) (by kernel_rfl) (by kernel_rfl) rfl rfl sq25) ?_
    refine S.nil (F.nil (Nrm.seq (Tri.cond (b := !(t19.1.toList == t23.1.toList && (t19.2.toList == t23.2.toList && true))) rfl (fun g_3 => ?_) (fun g_3 => ?_))))
    ·replace hE_1 := if_tt g_3 hE_1
     refine Tri.seq (Tri.reg (l := [0]) rfl ?_)
     refine F.qn rfl rfl rfl rfl (r_assign rfl) ?_
     refine F.nil (Nrm.seq (Tri.ret ?_))
     refine Rtn.block ?_
     refine Rtn.then ?_
     refine Rtn.then ?_
     refine Rtn.block ?_
     refine Rtn.then ?_
     cases hE_1
     replace h := Lr_inr h
     cases h
     exact Rtn.body (.tmp rfl .nil) (fun w hw => ⟨rfl, hw.ext⟩)
    ·replace hE_1 := if_ff g_3 hE_1
     refine Tri.skip (Nrm.block ?_)
     refine Nrm.seq (Tri.reg (l := [0, 1, 2]) rfl ?_)
     refine F.qn rfl rfl rfl rfl (r_move rfl) ?_
     refine F.qn rfl rfl rfl rfl (r_add rfl rfl) ?_
     refine F.qn rfl rfl rfl rfl (r_assign rfl) ?_
     refine F.nil (Nrm.round ?_)
     refine Rnd.only [0, 1, 5] rfl ?_
     refine Rnd.pick [] rfl rfl ?_
     exact ih_1 _ _ ⟨w64 (x5 + 1), hE_1, rfl, rfl⟩
   ·replace hE_1 := if_ff g_2 hE_1
    refine Tri.exit ?_
    refine Exi.then ?_
    refine Exi.then ?_
    refine Exi.same ?_
    cases hE_1
    replace h := Lr_inl h
    refine Nrm.seq (Tri.seq (Tri.reg (l := [0]) rfl ?_))
    refine F.qn rfl rfl rfl rfl (r_assign rfl) ?_
    refine F.nil (Nrm.seq (Tri.ret ?_))
    cases h
    exact Rtn.body (.tmp rfl .nil) (fun w hw => ⟨rfl, hw.ext⟩)


def spec_l1Cur_next.f (k : Nat) (a0_0 : List By) (a0_1 : Int) (a0_2 : Int) : Option (Int × Int × Int) := ((if (decide (a0_1 < (a0_0.length : Int))) = true then (rdl a0_0 a0_1).bind fun t22 => some (IntKind.i64.wrap t22.v) else some 0)).bind fun y3 => (if (decide ((w64 (a0_1 + 1)) ≤ (a0_0.length : Int))) = true then some (y3, w64 (a0_1 + 1), wU ((wU ((wU (a0_2 * 6364136223846793005)) + (IntKind.u64.wrap y3))) + 462197)) else some (IntKind.i64.wrap (uand (shr (wU ((wU ((wU (a0_2 * 6364136223846793005)) + (IntKind.u64.wrap y3))) + 462197)) 40) 255), w64 (a0_1 + 1), wU ((wU ((wU (a0_2 * 6364136223846793005)) + (IntKind.u64.wrap y3))) + 462197)))

theorem spec_l1Cur_next.ok {k : Nat}  {a0_0 : List By} {a0_1 : Int} {a0_2 : Int} {r0 : Int} {r1 : Int} {r2 : Int} (h : spec_l1Cur_next.f k a0_0 a0_1 a0_2 = some (r0, r1, r2)) (w : World) {pa0 : Nat} {va0_0 : Value} (hr_a0_0 : RdM w (footM [R.box pa0 55 [va0_0, .int .i64 a0_1, .int .u64 a0_2]]) va0_0 a0_0) (hw0 : Sep w (footM [R.box pa0 55 [va0_0, .int .i64 a0_1, .int .u64 a0_2]]) [R.box pa0 55 [va0_0, .int .i64 a0_1, .int .u64 a0_2]] w) :
  Calls Tryd.prog 57 ([.pointer (some ⟨pa0, 0, none⟩)] : List Value).toArray w (PostM (footM [R.box pa0 55 [va0_0, .int .i64 a0_1, .int .u64 a0_2]]) (fun u ns => u = .int .i64 r0 ∧ ns = [R.box pa0 55 [va0_0, .int .i64 r1, .int .u64 r2]]) w) := by
 unfold spec_l1Cur_next.f at h
 have hl_va0_0 := hr_a0_0.len
 refine Calls.of_tri (N := 62) Tryd.func57 rfl rfl rfl hw0 ?_
 refine Tri.seq (Tri.reg (l := [0]) rfl ?_)
 refine F.qn rfl rfl rfl rfl (r_assign rfl) ?_
 refine F.nil (Nrm.seq (Tri.seq (Tri.reg (l := [0]) rfl ?_)))
 refine F.qn rfl rfl rfl rfl (r_assign rfl) ?_
 refine F.nil (Nrm.seq (Tri.seq (Tri.seq (Tri.drawA mixedT Sep.up [(0, true), (1, true), (2, true), (3, true), (4, true), (5, true), (6, true), (7, true), (8, true), (9, true)] [] (by kernel_rfl) ?_))))
 refine S.qn rfl rfl rfl rfl (r_move rfl) ?_
 refine S.qn rfl rfl rfl rfl (r_nilC rfl) ?_
 refine S.qn rfl rfl rfl rfl (r_fieldAddr tf55_1 rfl) ?_
 refine S.qn rfl rfl rfl rfl (r_load ta3 rfl (fun w hw => cell_1 (box_cells (i := 0) rfl w hw) rfl)) ?_
 refine S.qn rfl rfl rfl rfl (r_move rfl) ?_
 refine S.qn rfl rfl rfl rfl (r_nilC rfl) ?_
 refine S.qn rfl rfl rfl rfl (r_fieldAddr tf55_0 rfl) ?_
 refine S.qn rfl rfl rfl rfl (r_load ta22 rfl (fun w hw => cell_1 (box_cells (i := 0) rfl w hw) rfl)) ?_
 refine S.qn rfl rfl rfl rfl (r_len Tryd.underlying22 rfl hl_va0_0) ?_
 refine S.qn rfl rfl rfl rfl (r_lss rfl rfl) ?_
 refine S.nil (F.nil (Nrm.seq ?_))
 obtain ⟨y3, hE_1, h⟩ := bind_some h
 refine Tri.cut (fun e' C' => e' = [(0, .pointer (some ⟨pa0, 0, none⟩)), (3, .int .i64 y3)] ∧ C' = Sep w (footM [R.box pa0 55 [va0_0, .int .i64 a0_1, .int .u64 a0_2]]) [R.box pa0 55 [va0_0, .int .i64 a0_1, .int .u64 a0_2]]) ?_ (fun hj_1 => ?_)
 ·rintro _ _ ⟨rfl, rfl⟩
  refine Nrm.seq (Tri.seq (Tri.reg (l := [0, 1, 2, 3, 4, 5, 6, 7]) rfl ?_))
  refine F.qn rfl rfl rfl rfl (r_move rfl) ?_
  refine F.qn rfl rfl rfl rfl (r_nilC rfl) ?_
  refine F.qn rfl rfl rfl rfl (r_fieldAddr tf55_1 rfl) ?_
  refine F.qn rfl rfl rfl rfl (r_load ta3 rfl (fun w hw => cell_1 (box_cells (i := 0) rfl w hw) rfl)) ?_
  refine F.qn rfl rfl rfl rfl (r_add rfl rfl) ?_
  refine F.qn rfl rfl rfl rfl (r_nilC rfl) ?_
  refine F.qn rfl rfl rfl rfl (r_fieldAddr tf55_1 rfl) ?_
  refine F.ef0 rfl rfl (wanted_none rfl) (d_storeG1 (i := 0) (cs2 := [.int .i64 (w64 (a0_1 + 1))]) ti3 rfl rfl rfl rfl rfl (Nat.le_of_ble_eq_true rfl) (lf_cons rfl lf_nil)) ?_
  rintro _ _ ⟨rfl, rfl⟩
  refine F.nil (Nrm.seq (Tri.seq (Tri.reg (l := List.range 13) rfl ?_)))
  refine F.qn rfl rfl rfl rfl (r_move rfl) ?_
  refine F.qn rfl rfl rfl rfl (r_move rfl) ?_
  refine F.qn rfl rfl rfl rfl (r_nilC rfl) ?_
  refine F.qn rfl rfl rfl rfl (r_fieldAddr tf55_2 rfl) ?_
  refine F.qn rfl rfl rfl rfl (r_load ta53 rfl (fun w hw => cell_1 (box_cells (i := 0) rfl w hw) rfl)) ?_
  refine F.qn rfl rfl rfl rfl (r_mulU rfl rfl) ?_
  refine F.qn rfl rfl rfl rfl (r_move rfl) ?_
  refine F.qn rfl rfl rfl rfl (r_conv Tryd.underlying3 Tryd.underlying53 rfl) ?_
  refine F.qn rfl rfl rfl rfl (r_addU rfl rfl) ?_
  refine F.qn rfl rfl rfl rfl (r_addU rfl rfl) ?_
  refine F.qn rfl rfl rfl rfl (r_nilC rfl) ?_
  refine F.qn rfl rfl rfl rfl (r_fieldAddr tf55_2 rfl) ?_
  refine F.ef0 rfl rfl (wanted_none rfl) (d_storeG1 (i := 0) (cs2 := [.int .u64 (wU ((wU ((wU (a0_2 * 6364136223846793005)) + (IntKind.u64.wrap y3))) + 462197))]) ti53 rfl rfl rfl rfl rfl (Nat.le_of_ble_eq_true rfl) (lf_cons rfl lf_nil)) ?_
  rintro _ _ ⟨rfl, rfl⟩
  refine F.nil (Nrm.seq (Tri.seq (Tri.seq (Tri.drawA mixedT Sep.up [(0, true), (1, true), (2, true), (3, true), (4, true), (5, true), (6, true), (7, true), (8, true), (9, true)] [] (by kernel_rfl) ?_))))
  refine S.qn rfl rfl rfl rfl (r_move rfl) ?_
  refine S.qn rfl rfl rfl rfl (r_nilC rfl) ?_
  refine S.qn rfl rfl rfl rfl (r_fieldAddr tf55_1 rfl) ?_
  refine S.qn rfl rfl rfl rfl (r_load ta3 rfl (fun w hw => cell_1 (box_cells (i := 0) rfl w hw) rfl)) ?_
  refine S.qn rfl rfl rfl rfl (r_move rfl) ?_
  refine S.qn rfl rfl rfl rfl (r_nilC rfl) ?_
  refine S.qn rfl rfl rfl rfl (r_fieldAddr tf55_0 rfl) ?_
  refine S.qn rfl rfl rfl rfl (r_load ta22 rfl (fun w hw => cell_1 (box_cells (i := 0) rfl w hw) rfl)) ?_
  refine S.qn rfl rfl rfl rfl (r_len Tryd.underlying22 rfl hl_va0_0) ?_
  refine S.qn rfl rfl rfl rfl (r_leq rfl rfl) ?_
  refine S.nil (F.nil (Nrm.seq (Tri.cond (b := decide ((w64 (a0_1 + 1)) ≤ (a0_0.length : Int))) rfl (fun g_2 => ?_) (fun g_2 => ?_))))
  ·replace h := if_tt g_2 h
   refine Tri.seq (Tri.reg (l := [0, 1]) rfl ?_)
   refine F.qn rfl rfl rfl rfl (r_move rfl) ?_
   refine F.qn rfl rfl rfl rfl (r_assign rfl) ?_
   refine F.nil (Nrm.seq (Tri.ret ?_))
   refine Rtn.then ?_
   cases h
   exact Rtn.body (.tmp rfl .nil) (fun w hw => ⟨_, _, rfl, ⟨rfl, rfl⟩, Sep.pick (is := [0]) rfl rfl hw⟩)
  ·replace h := if_ff g_2 h
   refine Tri.skip (Nrm.seq (Tri.seq (Tri.reg (l := [0, 1, 2, 3, 4, 5, 6, 7]) rfl ?_)))
   refine F.qn rfl rfl rfl rfl (r_move rfl) ?_
   refine F.qn rfl rfl rfl rfl (r_nilC rfl) ?_
   refine F.qn rfl rfl rfl rfl (r_fieldAddr tf55_2 rfl) ?_
   refine F.qn rfl rfl rfl rfl (r_load ta53 rfl (fun w hw => cell_1 (box_cells (i := 0) rfl w hw) rfl)) ?_
   refine F.qn rfl rfl rfl rfl (r_shrU rfl rfl (by decide)) ?_
   refine F.qn rfl rfl rfl rfl (r_andU rfl rfl) ?_
   refine F.qn rfl rfl rfl rfl (r_conv Tryd.underlying53 Tryd.underlying3 rfl) ?_
   refine F.qn rfl rfl rfl rfl (r_assign rfl) ?_
   refine F.nil (Nrm.seq (Tri.ret ?_))
   cases h
   exact Rtn.body (.tmp rfl .nil) (fun w hw => ⟨_, _, rfl, ⟨rfl, rfl⟩, Sep.pick (is := [0]) rfl rfl hw⟩)
 ·refine Tri.cond (b := decide (a0_1 < (a0_0.length : Int))) rfl (fun g_1 => ?_) (fun g_1 => ?_)
  ·replace hE_1 := if_tt g_1 hE_1
   obtain ⟨t22, h22, hE_1⟩ := bind_some hE_1
   refine Tri.drawA mixedT Sep.up [(0, true), (1, true), (2, true), (3, true), (4, true), (5, true), (6, true), (7, true), (8, true), (9, true), (10, true), (11, true)] [] (by kernel_rfl) ?_
   refine S.qn rfl rfl rfl rfl (r_move rfl) ?_
   refine S.qn rfl rfl rfl rfl (r_nilC rfl) ?_
   refine S.qn rfl rfl rfl rfl (r_fieldAddr tf55_0 rfl) ?_
   refine S.qn rfl rfl rfl rfl (r_load ta22 rfl (fun w hw => cell_1 (box_cells (i := 0) rfl w hw) rfl)) ?_
   refine S.qn rfl rfl rfl rfl (r_move rfl) ?_
   refine S.qn rfl rfl rfl rfl (r_nilC rfl) ?_
   refine S.qn rfl rfl rfl rfl (r_fieldAddr tf55_1 rfl) ?_
   refine S.qn rfl rfl rfl rfl (r_load ta3 rfl (fun w hw => cell_1 (box_cells (i := 0) rfl w hw) rfl)) ?_
   refine S.qn rfl rfl rfl rfl (r_indexAddrS Tryd.underlying22 ti5 rfl hl_va0_0 rfl (rdl_some h22).1 (rdl_some h22).2.1) ?_
   refine S.qn rfl rfl rfl rfl (r_load ta5 rfl (fun w hw => cell_0 (Rd.flat ((fun _ hw => hr_a0_0.sep hw) w hw) (rdl_some h22).2.2) rfl)) ?_
   refine S.qn rfl rfl rfl rfl (r_conv Tryd.underlying5 Tryd.underlying3 rfl) ?_
   refine S.qn rfl rfl rfl rfl (r_assign rfl) ?_
   refine S.nil (F.nil ?_)
   cases hE_1
   refine Nrm.only [0, 3] rfl ?_
   refine Nrm.pick [0] rfl rfl ?_
   exact hj_1 _ _ ⟨rfl, rfl⟩
  ·replace hE_1 := if_ff g_1 hE_1
   refine Tri.skip ?_
   cases hE_1
   refine Nrm.only [0, 3] rfl ?_
   refine Nrm.pick [0] rfl rfl ?_
   exact hj_1 _ _ ⟨rfl, rfl⟩


def spec_l1Cur_pick.f (k : Nat) (a0_0 : List By) (a0_1 : Int) (a0_2 : Int) (a1 : Int) : Option (Int × Int × Int) := (if (decide (a1 ≤ 1)) = true then some (0, a0_1, a0_2) else (spec_l1Cur_next.f k a0_0 a0_1 a0_2).bind fun (t9_1, t9_2, t9_3) => ((if (decide (a1 > 200)) = true then (spec_l1Cur_next.f k a0_0 t9_2 t9_3).bind fun (t15_1, t15_2, t15_3) => some (w64 ((w64 (t9_1 * 256)) + t15_1), t15_2, t15_3) else some (t9_1, t9_2, t9_3))).bind fun (y5, ypa0_1, ypa0_2) => if ¬ a1 = 0 then some (rem y5 a1, ypa0_1, ypa0_2) else none)

theorem spec_l1Cur_pick.ok {k : Nat}  {a0_0 : List By} {a0_1 : Int} {a0_2 : Int} {a1 : Int} {r0 : Int} {r1 : Int} {r2 : Int} (h : spec_l1Cur_pick.f k a0_0 a0_1 a0_2 a1 = some (r0, r1, r2)) (w : World) {pa0 : Nat} {va0_0 : Value} (hr_a0_0 : RdM w (footM [R.box pa0 55 [va0_0, .int .i64 a0_1, .int .u64 a0_2]]) va0_0 a0_0) (hw0 : Sep w (footM [R.box pa0 55 [va0_0, .int .i64 a0_1, .int .u64 a0_2]]) [R.box pa0 55 [va0_0, .int .i64 a0_1, .int .u64 a0_2]] w) :
  Calls Tryd.prog 40 ([.pointer (some ⟨pa0, 0, none⟩), .int .i64 a1] : List Value).toArray w (PostM (footM [R.box pa0 55 [va0_0, .int .i64 a0_1, .int .u64 a0_2]]) (fun u ns => u = .int .i64 r0 ∧ ns = [R.box pa0 55 [va0_0, .int .i64 r1, .int .u64 r2]]) w) := by
 unfold spec_l1Cur_pick.f at h
 have hl_va0_0 := hr_a0_0.len
 refine Calls.of_tri (N := 20) Tryd.func40 rfl rfl rfl hw0 ?_
 refine Tri.seq (Tri.reg (l := [0]) rfl ?_)
 refine F.qn rfl rfl rfl rfl (r_assign rfl) ?_
 refine F.nil (Nrm.seq (Tri.seq (Tri.seq (Tri.reg (l := [0, 1]) rfl ?_))))
 refine F.qn rfl rfl rfl rfl (r_move rfl) ?_
 refine F.qn rfl rfl rfl rfl (r_leq rfl rfl) ?_
 refine F.nil (Nrm.seq (Tri.cond (b := decide (a1 ≤ 1)) rfl (fun g_1 => ?_) (fun g_1 => ?_)))
 ·replace h := if_tt g_1 h
  refine Tri.seq (Tri.reg (l := [0]) rfl ?_)
  refine F.qn rfl rfl rfl rfl (r_assign rfl) ?_
  refine F.nil (Nrm.seq (Tri.ret ?_))
  refine Rtn.then ?_
  cases h
  exact Rtn.body (.tmp rfl .nil) (fun w hw => ⟨_, _, rfl, ⟨rfl, rfl⟩, Sep.pick (is := [0]) rfl rfl hw⟩)
 ·replace h := if_ff g_1 h
  refine Tri.skip (Nrm.seq (Tri.seq ?_))
  obtain ⟨⟨t9_1, t9_2, t9_3⟩, h9, h⟩ := bind_some h
  refine Tri.reg (l := [0, 1, 2]) rfl ?_
  refine F.qn rfl rfl rfl rfl (r_move rfl) ?_
  refine F.efn rfl rfl rfl rfl (d_callM (xs := _) (cs := [R.box pa0 55 [va0_0, .int .i64 a0_1, .int .u64 a0_2]]) (rest := []) [0] [] rfl ok57 rfl rfl rfl rfl (fun w hw => spec_l1Cur_next.ok h9 w (hr_a0_0.down hw) (Sep.sub hw))) ?_
  rintro _ _ ⟨_, ⟨rfl, rfl⟩, rfl⟩
  refine F.qn rfl rfl rfl rfl (r_assign rfl) ?_
  refine F.nil (Nrm.seq (Tri.seq (Tri.seq (Tri.reg (l := [0, 1]) rfl ?_))))
  refine F.qn rfl rfl rfl rfl (r_move rfl) ?_
  refine F.qn rfl rfl rfl rfl (r_gtr rfl rfl) ?_
  refine F.nil (Nrm.seq ?_)
  obtain ⟨⟨y5, ypa0_1, ypa0_2⟩, hE_1, h⟩ := bind_some h
  refine Tri.cut (fun e' C' => e' = [(1, .int .i64 a1), (5, .int .i64 y5)] ∧ C' = Sep w (footM [R.box pa0 55 [va0_0, .int .i64 a0_1, .int .u64 a0_2]]) [R.box pa0 55 [va0_0, .int .i64 ypa0_1, .int .u64 ypa0_2]]) ?_ (fun hj_1 => ?_)
  ·rintro _ _ ⟨rfl, rfl⟩
   refine Nrm.seq (Tri.seq ?_)
   obtain ⟨hs19, h⟩ := ck h
   refine Tri.reg (l := [0, 1, 2, 3]) rfl ?_
   refine F.qn rfl rfl rfl rfl (r_move rfl) ?_
   refine F.qn rfl rfl rfl rfl (r_move rfl) ?_
   refine F.qn rfl rfl rfl rfl (r_rem rfl rfl hs19) ?_
   refine F.qn rfl rfl rfl rfl (r_assign rfl) ?_
   refine F.nil (Nrm.seq (Tri.ret ?_))
   cases h
   exact Rtn.body (.tmp rfl .nil) (fun w hw => ⟨_, _, rfl, ⟨rfl, rfl⟩, Sep.pick (is := [0]) rfl rfl hw⟩)
  ·refine Tri.cond (b := decide (a1 > 200)) rfl (fun g_2 => ?_) (fun g_2 => ?_)
   ·replace hE_1 := if_tt g_2 hE_1
    obtain ⟨⟨t15_1, t15_2, t15_3⟩, h15, hE_1⟩ := bind_some hE_1
    refine Tri.reg (l := [0, 1, 2, 3, 4, 5]) rfl ?_
    refine F.qn rfl rfl rfl rfl (r_move rfl) ?_
    refine F.qn rfl rfl rfl rfl (r_mul rfl rfl) ?_
    refine F.qn rfl rfl rfl rfl (r_move rfl) ?_
    refine F.efn rfl rfl rfl rfl (d_callM (xs := _) (cs := [R.box pa0 55 [va0_0, .int .i64 t9_2, .int .u64 t9_3]]) (rest := []) [0] [] rfl ok57 rfl rfl rfl rfl (fun w hw => spec_l1Cur_next.ok h15 w (hr_a0_0.down hw) (Sep.sub hw))) ?_
    rintro _ _ ⟨_, ⟨rfl, rfl⟩, rfl⟩
    refine F.qn rfl rfl rfl rfl (r_add rfl rfl) ?_
    refine F.qn rfl rfl rfl rfl (r_assign rfl) ?_
    refine F.nil ?_
    cases hE_1
    refine Nrm.only [1, 5] rfl ?_
    refine Nrm.pick [0] rfl rfl ?_
    exact hj_1 _ _ ⟨rfl, rfl⟩
   ·replace hE_1 := if_ff g_2 hE_1
    refine Tri.skip ?_
    cases hE_1
    refine Nrm.only [1, 5] rfl ?_
    refine Nrm.pick [0] rfl rfl ?_
    exact hj_1 _ _ ⟨rfl, rfl⟩


def spec_l1In.f (k : Nat) (a0 : Int) (a1 : Int) (a2 : Int) : Option (Bool) := ((if (decide (a0 ≥ a1)) = true then some (decide (a0 ≤ a2)) else some false)).bind fun y6 => some y6

theorem spec_l1In.ok {k : Nat}  {a0 : Int} {a1 : Int} {a2 : Int} {r0 : Bool} (h : spec_l1In.f k a0 a1 a2 = some r0) (w : World) :
  Calls Tryd.prog 35 ([.int .i64 a0, .int .i64 a1, .int .i64 a2] : List Value).toArray w (fun e w' => e = .returned (.bool r0) ∧ Ext w w') := by
 unfold spec_l1In.f at h
 refine Calls.of_tri (N := 15) Tryd.func35 rfl rfl rfl (Sep.nil (M := noM)) ?_
 refine Tri.seq (Tri.reg (l := [0]) rfl ?_)
 refine F.qn rfl rfl rfl rfl (r_assign rfl) ?_
 refine F.nil (Nrm.seq (Tri.seq ?_))
 obtain ⟨y6, hE_1, h⟩ := bind_some h
 refine Tri.cut (fun e' C' => e' = [(6, .bool y6)] ∧ C' = Sep w noM []) ?_ (fun hj_1 => ?_)
 ·rintro _ _ ⟨rfl, rfl⟩
  refine Nrm.seq (Tri.ret ?_)
  cases h
  exact Rtn.body (.tmp rfl .nil) (fun w hw => ⟨rfl, hw.ext⟩)
 ·rcases Bool.eq_false_or_eq_true (decide (a0 ≥ a1)) with g10 | g10
  ·replace hE_1 := if_tt g10 hE_1
   refine Tri.reg (l := [0, 1, 2, 3, 4, 5, 6, 7, 8]) rfl ?_
   refine F.qn rfl rfl rfl rfl (r_move rfl) ?_
   refine F.qn rfl rfl rfl rfl (r_move rfl) ?_
   refine F.qn rfl rfl rfl rfl (r_geq rfl rfl) ?_
   refine F.qn rfl rfl rfl rfl (r_move rfl) ?_
   refine F.qg rfl rfl rfl rfl rfl rfl g10 (r_move rfl) ?_
   refine F.qg rfl rfl rfl rfl rfl rfl g10 (r_move rfl) ?_
   refine F.qg rfl rfl rfl rfl rfl rfl g10 (r_leq rfl rfl) ?_
   refine F.qn rfl rfl rfl rfl (r_pick rfl rfl g10) ?_
   refine F.qn rfl rfl rfl rfl (r_assign rfl) ?_
   refine F.nil ?_
   cases hE_1
   refine Nrm.only [6] rfl ?_
   refine Nrm.pick [] rfl rfl ?_
   exact hj_1 _ _ ⟨rfl, rfl⟩
  ·replace hE_1 := if_ff g10 hE_1
   refine Tri.reg (l := [0, 1, 2, 3, 4, 5, 6, 7, 8]) rfl ?_
   refine F.qn rfl rfl rfl rfl (r_move rfl) ?_
   refine F.qn rfl rfl rfl rfl (r_move rfl) ?_
   refine F.qn rfl rfl rfl rfl (r_geq rfl rfl) ?_
   refine F.qn rfl rfl rfl rfl (r_move rfl) ?_
   iterate 3 refine F.sk rfl rfl rfl (wf rfl rfl rfl g10) ?_
   refine F.qn rfl rfl rfl rfl (r_pickf rfl rfl g10) ?_
   refine F.qn rfl rfl rfl rfl (r_assign rfl) ?_
   refine F.nil ?_
   cases hE_1
   refine Nrm.only [6] rfl ?_
   refine Nrm.pick [] rfl rfl ?_
   exact hj_1 _ _ ⟨rfl, rfl⟩


def spec_l12Bytes.l0 (k : Nat) (a0 : ByteArray) : Nat → Int → Option ((Unit) ⊕ (Bool))
 | 0, _ => none
 | n + 1, x5 => (if (decide (x5 < (a0.size : Int))) = true then ((bta a0 x5).bind fun t14 => (spec_l1In.f k (IntKind.i64.wrap (t14.toNat : Int)) 32 126).bind fun t16 => (if (!t16) = true then some true else (bta a0 x5).bind fun t21 => some ((t21.toNat : Int) == 35))).bind fun y23 => (if y23 = true then some (Sum.inr false) else spec_l12Bytes.l0 k a0 n (w64 (x5 + 1))) else some (Sum.inl ()))

def spec_l12Bytes.f (k : Nat) (a0 : ByteArray) (a1 : Int) : Option (Bool) := (spec_l12Bytes.l0 k a0 k 0).bind fun s => Lr s some fun _ => some (decide ((a0.size : Int) ≤ a1))

theorem spec_l12Bytes.ok {k : Nat}  {a0 : ByteArray} {a1 : Int} {r0 : Bool} (h : spec_l12Bytes.f k a0 a1 = some r0) (w : World) :
  Calls Tryd.prog 53 ([.string a0, .int .i64 a1] : List Value).toArray w (fun e w' => e = .returned (.bool r0) ∧ Ext w w') := by
 unfold spec_l12Bytes.f at h
 refine Calls.of_tri (N := 28) Tryd.func53 rfl rfl rfl (Sep.nil (M := noM)) ?_
 refine Tri.seq (Tri.reg (l := [0]) rfl ?_)
 refine F.qn rfl rfl rfl rfl (r_assign rfl) ?_
 refine F.nil (Nrm.seq (Tri.seq (Tri.seq (Tri.reg (l := [0]) rfl ?_))))
 refine F.qn rfl rfl rfl rfl (r_assign rfl) ?_
 refine F.nil (Nrm.seq ?_)
 obtain ⟨s0, hE_1, h⟩ := bind_some h
 refine Tri.block ?_
 refine Tri.only [0, 1, 5] rfl ?_
 refine Tri.pick [] rfl rfl ?_
 refine Tri.rounds (fun n e' C' => ∃ (x5' : Int), spec_l12Bytes.l0 k a0 n x5' = some s0 ∧ e' = [(0, .string a0), (1, .int .i64 a1), (5, .int .i64 x5')] ∧ C' = Sep w noM []) k ?_ ?_ ?_
 ·exact ⟨0, hE_1, rfl, rfl⟩
 ·rintro _ _ ⟨_, hE_1, _⟩
  rw [spec_l12Bytes.l0.eq_1] at hE_1; cases hE_1
 ·rintro n_1 _ _ ⟨x5, hE_1, rfl, rfl⟩ ih_1
  rw [spec_l12Bytes.l0.eq_2] at hE_1
  refine Tri.seq (Tri.seq (Tri.reg (l := [0, 1, 2, 3]) rfl ?_))
  refine F.qn rfl rfl rfl rfl (r_move rfl) ?_
  refine F.qn rfl rfl rfl rfl (r_move rfl) ?_
  refine F.qn rfl rfl rfl rfl (r_lenS Tryd.underlying9 rfl) ?_
  refine F.qn rfl rfl rfl rfl (r_lss rfl rfl) ?_
  refine F.nil (Nrm.seq (Tri.cond (b := decide (x5 < (a0.size : Int))) rfl (fun g_1 => ?_) (fun g_1 => ?_)))
  ·replace hE_1 := if_tt g_1 hE_1
   refine Tri.skip (Nrm.seq (Tri.seq (Tri.block ?_)))
   refine Tri.seq ?_
   obtain ⟨y23, hE_2, hE_1⟩ := bind_some hE_1
   refine Tri.cut (fun e' C' => e' = [(0, .string a0), (1, .int .i64 a1), (5, .int .i64 x5), (23, .bool y23)] ∧ C' = Sep w noM []) ?_ (fun hj_1 => ?_)
   ·rintro _ _ ⟨rfl, rfl⟩
    refine Nrm.seq (Tri.cond (b := y23) rfl (fun g_2 => ?_) (fun g_2 => ?_))
    ·replace hE_1 := if_tt g_2 hE_1
     refine Tri.seq (Tri.reg (l := [0]) rfl ?_)
     refine F.qn rfl rfl rfl rfl (r_assign rfl) ?_
     refine F.nil (Nrm.seq (Tri.ret ?_))
     refine Rtn.block ?_
     refine Rtn.then ?_
     refine Rtn.then ?_
     refine Rtn.block ?_
     refine Rtn.then ?_
     cases hE_1
     replace h := Lr_inr h
     cases h
     exact Rtn.body (.tmp rfl .nil) (fun w hw => ⟨rfl, hw.ext⟩)
    ·replace hE_1 := if_ff g_2 hE_1
     refine Tri.skip (Nrm.block ?_)
     refine Nrm.seq (Tri.reg (l := [0, 1, 2]) rfl ?_)
     refine F.qn rfl rfl rfl rfl (r_move rfl) ?_
     refine F.qn rfl rfl rfl rfl (r_add rfl rfl) ?_
     refine F.qn rfl rfl rfl rfl (r_assign rfl) ?_
     refine F.nil (Nrm.round ?_)
     refine Rnd.only [0, 1, 5] rfl ?_
     refine Rnd.pick [] rfl rfl ?_
     exact ih_1 _ _ ⟨w64 (x5 + 1), hE_1, rfl, rfl⟩
   ·obtain ⟨t14, h14, hE_2⟩ := bind_some hE_2
    obtain ⟨t16, h16, hE_2⟩ := bind_some hE_2
    rcases Bool.eq_false_or_eq_true (!t16) with g18 | g18
    ·replace hE_2 := if_tt g18 hE_2
     refine Tri.reg (l := List.range 12) rfl ?_
     refine F.qn rfl rfl rfl rfl (r_move rfl) ?_
     refine F.qn rfl rfl rfl rfl (r_move rfl) ?_
     refine F.qn rfl rfl rfl rfl (r_indexS Tryd.underlying9 rfl rfl (bt_some h14).1 (bt_some h14).2) ?_
     refine F.qn rfl rfl rfl rfl (r_conv Tryd.underlying5 Tryd.underlying3 rfl) ?_
     refine F.qcn rfl rfl rfl rfl (q_callF (xs := _) rfl ok35 rfl rfl (fun w hw => spec_l1In.ok h16 w )) ?_
     refine F.qn rfl rfl rfl rfl (r_not rfl) ?_
     refine F.qn rfl rfl rfl rfl (r_move rfl) ?_
     iterate 4 refine F.sk rfl rfl rfl (wf rfl rfl rfl g18) ?_
     refine F.qn rfl rfl rfl rfl (r_pick rfl rfl g18) ?_
     refine F.nil ?_
     cases hE_2
     refine Nrm.only [0, 1, 5, 23] rfl ?_
     refine Nrm.pick [] rfl rfl ?_
     exact hj_1 _ _ ⟨rfl, rfl⟩
    ·replace hE_2 := if_ff g18 hE_2
     obtain ⟨t21, h21, hE_2⟩ := bind_some hE_2
     refine Tri.reg (l := List.range 12) rfl ?_
     refine F.qn rfl rfl rfl rfl (r_move rfl) ?_
     refine F.qn rfl rfl rfl rfl (r_move rfl) ?_
     refine F.qn rfl rfl rfl rfl (r_indexS Tryd.underlying9 rfl rfl (bt_some h14).1 (bt_some h14).2) ?_
     refine F.qn rfl rfl rfl rfl (r_conv Tryd.underlying5 Tryd.underlying3 rfl) ?_
     refine F.qcn rfl rfl rfl rfl (q_callF (xs := _) rfl ok35 rfl rfl (fun w hw => spec_l1In.ok h16 w )) ?_
     refine F.qn rfl rfl rfl rfl (r_not rfl) ?_
     refine F.qn rfl rfl rfl rfl (r_move rfl) ?_
     refine F.qg rfl rfl rfl rfl rfl rfl g18 (r_move rfl) ?_
     refine F.qg rfl rfl rfl rfl rfl rfl g18 (r_move rfl) ?_
     refine F.qg rfl rfl rfl rfl rfl rfl g18 (r_indexS Tryd.underlying9 rfl rfl (bt_some h21).1 (bt_some h21).2) ?_
     refine F.qg rfl rfl rfl rfl rfl rfl g18 (r_eql rfl rfl) ?_
     refine F.qn rfl rfl rfl rfl (r_pickf rfl rfl g18) ?_
     refine F.nil ?_
     cases hE_2
     refine Nrm.only [0, 1, 5, 23] rfl ?_
     refine Nrm.pick [] rfl rfl ?_
     exact hj_1 _ _ ⟨rfl, rfl⟩
  ·replace hE_1 := if_ff g_1 hE_1
   refine Tri.exit ?_
   refine Exi.then ?_
   refine Exi.then ?_
   refine Exi.same ?_
   cases hE_1
   replace h := Lr_inl h
   refine Nrm.seq (Tri.seq (Tri.reg (l := [0, 1, 2, 3, 4]) rfl ?_))
   refine F.qn rfl rfl rfl rfl (r_move rfl) ?_
   refine F.qn rfl rfl rfl rfl (r_lenS Tryd.underlying9 rfl) ?_
   refine F.qn rfl rfl rfl rfl (r_move rfl) ?_
   refine F.qn rfl rfl rfl rfl (r_leq rfl rfl) ?_
   refine F.qn rfl rfl rfl rfl (r_assign rfl) ?_
   refine F.nil (Nrm.seq (Tri.ret ?_))
   cases h
   exact Rtn.body (.tmp rfl .nil) (fun w hw => ⟨rfl, hw.ext⟩)


def spec_l1Stands.l0 (k : Nat) (a0 : ByteArray) (a1 : Int) : Nat → Int → Option ((Unit) ⊕ (Bool))
 | 0, _ => none
 | n + 1, x5 => (if (decide (x5 < (a0.size : Int))) = true then (bta a0 x5).bind fun t14 => (if ((t14.toNat : Int) == a1) = true then some (Sum.inr true) else spec_l1Stands.l0 k a0 a1 n (w64 (x5 + 1))) else some (Sum.inl ()))

def spec_l1Stands.f (k : Nat) (a0 : ByteArray) (a1 : Int) : Option (Bool) := (spec_l1Stands.l0 k a0 a1 k 0).bind fun s => Lr s some fun _ => some false

theorem spec_l1Stands.ok {k : Nat}  {a0 : ByteArray} {a1 : Int} {r0 : Bool} (h : spec_l1Stands.f k a0 a1 = some r0) (w : World) :
  Calls Tryd.prog 54 ([.string a0, .int .u8 a1] : List Value).toArray w (fun e w' => e = .returned (.bool r0) ∧ Ext w w') := by
 unfold spec_l1Stands.f at h
 refine Calls.of_tri (N := 17) Tryd.func54 rfl rfl rfl (Sep.nil (M := noM)) ?_
 refine Tri.seq (Tri.reg (l := [0]) rfl ?_)
 refine F.qn rfl rfl rfl rfl (r_assign rfl) ?_
 refine F.nil (Nrm.seq (Tri.seq (Tri.seq (Tri.reg (l := [0]) rfl ?_))))
 refine F.qn rfl rfl rfl rfl (r_assign rfl) ?_
 refine F.nil (Nrm.seq ?_)
 obtain ⟨s0, hE_1, h⟩ := bind_some h
 refine Tri.block ?_
 refine Tri.only [0, 1, 5] rfl ?_
 refine Tri.pick [] rfl rfl ?_
 refine Tri.rounds (fun n e' C' => ∃ (x5' : Int), spec_l1Stands.l0 k a0 a1 n x5' = some s0 ∧ e' = [(0, .string a0), (1, .int .u8 a1), (5, .int .i64 x5')] ∧ C' = Sep w noM []) k ?_ ?_ ?_
 ·exact ⟨0, hE_1, rfl, rfl⟩
 ·rintro _ _ ⟨_, hE_1, _⟩
  rw [spec_l1Stands.l0.eq_1] at hE_1; cases hE_1
 ·rintro n_1 _ _ ⟨x5, hE_1, rfl, rfl⟩ ih_1
  rw [spec_l1Stands.l0.eq_2] at hE_1
  refine Tri.seq (Tri.seq (Tri.reg (l := [0, 1, 2, 3]) rfl ?_))
  refine F.qn rfl rfl rfl rfl (r_move rfl) ?_
  refine F.qn rfl rfl rfl rfl (r_move rfl) ?_
  refine F.qn rfl rfl rfl rfl (r_lenS Tryd.underlying9 rfl) ?_
  refine F.qn rfl rfl rfl rfl (r_lss rfl rfl) ?_
  refine F.nil (Nrm.seq (Tri.cond (b := decide (x5 < (a0.size : Int))) rfl (fun g_1 => ?_) (fun g_1 => ?_)))
  ·replace hE_1 := if_tt g_1 hE_1
   refine Tri.skip (Nrm.seq (Tri.seq (Tri.block ?_)))
   refine Tri.seq ?_
   obtain ⟨t14, h14, hE_1⟩ := bind_some hE_1
   refine Tri.reg (l := [0, 1, 2, 3, 4]) rfl ?_
   refine F.qn rfl rfl rfl rfl (r_move rfl) ?_
   refine F.qn rfl rfl rfl rfl (r_move rfl) ?_
   refine F.qn rfl rfl rfl rfl (r_indexS Tryd.underlying9 rfl rfl (bt_some h14).1 (bt_some h14).2) ?_
   refine F.qn rfl rfl rfl rfl (r_move rfl) ?_
   refine F.qn rfl rfl rfl rfl (r_eql rfl rfl) ?_
   refine F.nil (Nrm.seq (Tri.cond (b := (t14.toNat : Int) == a1) rfl (fun g_2 => ?_) (fun g_2 => ?_)))
   ·replace hE_1 := if_tt g_2 hE_1
    refine Tri.seq (Tri.reg (l := [0]) rfl ?_)
    refine F.qn rfl rfl rfl rfl (r_assign rfl) ?_
    refine F.nil (Nrm.seq (Tri.ret ?_))
    refine Rtn.block ?_
    refine Rtn.then ?_
    refine Rtn.then ?_
    refine Rtn.block ?_
    refine Rtn.then ?_
    cases hE_1
    replace h := Lr_inr h
    cases h
    exact Rtn.body (.tmp rfl .nil) (fun w hw => ⟨rfl, hw.ext⟩)
   ·replace hE_1 := if_ff g_2 hE_1
    refine Tri.skip (Nrm.block ?_)
    refine Nrm.seq (Tri.reg (l := [0, 1, 2]) rfl ?_)
    refine F.qn rfl rfl rfl rfl (r_move rfl) ?_
    refine F.qn rfl rfl rfl rfl (r_add rfl rfl) ?_
    refine F.qn rfl rfl rfl rfl (r_assign rfl) ?_
    refine F.nil (Nrm.round ?_)
    refine Rnd.only [0, 1, 5] rfl ?_
    refine Rnd.pick [] rfl rfl ?_
    exact ih_1 _ _ ⟨w64 (x5 + 1), hE_1, rfl, rfl⟩
  ·replace hE_1 := if_ff g_1 hE_1
   refine Tri.exit ?_
   refine Exi.then ?_
   refine Exi.then ?_
   refine Exi.same ?_
   cases hE_1
   replace h := Lr_inl h
   refine Nrm.seq (Tri.seq (Tri.reg (l := [0]) rfl ?_))
   refine F.qn rfl rfl rfl rfl (r_assign rfl) ?_
   refine F.nil (Nrm.seq (Tri.ret ?_))
   cases h
   exact Rtn.body (.tmp rfl .nil) (fun w hw => ⟨rfl, hw.ext⟩)


def spec_l12Record.f (k : Nat) (a0_0 : ByteArray) (a0_1 : ByteArray) : Option (Bool) := ((if (!(a0_0.toList == ByteArray.empty.toList)) = true then (spec_l12Bytes.f k a0_0 160).bind fun t9 => (if t9 = true then (spec_l1Stands.f k a0_0 64).bind fun t14 => (if (!t14) = true then (spec_l12Bytes.f k a0_1 250).bind fun t20 => some t20 else some false) else some false) else some false)).bind fun y2 => some y2

theorem spec_l12Record.ok {k : Nat}  {a0_0 : ByteArray} {a0_1 : ByteArray} {r0 : Bool} (h : spec_l12Record.f k a0_0 a0_1 = some r0) (w : World) :
  Calls Tryd.prog 36 ([.agg ([.string a0_0, .string a0_1].toArray)] : List Value).toArray w (fun e w' => e = .returned (.bool r0) ∧ Ext w w') := by
 unfold spec_l12Record.f at h
 refine Calls.of_tri (N := 22) Tryd.func36 rfl rfl rfl (Sep.nil (M := noM)) ?_
 refine Tri.seq (Tri.reg (l := [0, 1]) rfl ?_)
 refine F.mn rfl rfl rfl rfl (m_boxG rfl rfl) ?_
 rintro _ _ ⟨b1_1, rfl, rfl⟩
 refine F.qn rfl rfl rfl rfl (r_assign rfl) ?_
 refine F.nil (Nrm.seq (Tri.seq ?_))
 obtain ⟨y2, hE_1, h⟩ := bind_some h
 refine Tri.cut (fun e' C' => e' = [(2, .bool y2)] ∧ C' = Sep w noM []) ?_ (fun hj_1 => ?_)
 ·rintro _ _ ⟨rfl, rfl⟩
  refine Nrm.seq (Tri.ret ?_)
  cases h
  exact Rtn.body (.tmp rfl .nil) (fun w hw => ⟨rfl, hw.ext⟩)
 ·rcases Bool.eq_false_or_eq_true (!(a0_0.toList == ByteArray.empty.toList)) with g6 | g6
  ·replace hE_1 := if_tt g6 hE_1
   obtain ⟨t9, h9, hE_1⟩ := bind_some hE_1
   rcases Bool.eq_false_or_eq_true (t9) with g11 | g11
   ·replace hE_1 := if_tt g11 hE_1
    obtain ⟨t14, h14, hE_1⟩ := bind_some hE_1
    rcases Bool.eq_false_or_eq_true (!t14) with g17 | g17
    ·replace hE_1 := if_tt g17 hE_1
     obtain ⟨t20, h20, hE_1⟩ := bind_some hE_1
     refine Tri.reg (l := List.range 20) rfl ?_
     refine F.qn rfl rfl rfl rfl (r_fieldAddr tf25_0 rfl) ?_
     refine F.qn rfl rfl rfl rfl (r_load ta9 rfl (fun w hw => cell_1 (box_cells (i := 0) rfl w hw) rfl)) ?_
     refine F.qn rfl rfl rfl rfl (r_neqS rfl rfl) ?_
     refine F.qn rfl rfl rfl rfl (r_move rfl) ?_
     refine F.qg rfl rfl rfl rfl rfl rfl g6 (r_fieldAddr tf25_0 rfl) ?_
     refine F.qg rfl rfl rfl rfl rfl rfl g6 (r_load ta9 rfl (fun w hw => cell_1 (box_cells (i := 0) rfl w hw) rfl)) ?_
     refine F.qc rfl rfl rfl (wg rfl rfl rfl g6) (q_callF (xs := _) rfl ok53 rfl rfl (fun w hw => spec_l12Bytes.ok h9 w )) ?_
     refine F.qn rfl rfl rfl rfl (r_pick rfl rfl g6) ?_
     refine F.qn rfl rfl rfl rfl (r_move rfl) ?_
     refine F.qg rfl rfl rfl rfl rfl rfl g11 (r_fieldAddr tf25_0 rfl) ?_
     refine F.qg rfl rfl rfl rfl rfl rfl g11 (r_load ta9 rfl (fun w hw => cell_1 (box_cells (i := 0) rfl w hw) rfl)) ?_
     refine F.qc rfl rfl rfl (wg rfl rfl rfl g11) (q_callF (xs := _) rfl ok54 rfl rfl (fun w hw => spec_l1Stands.ok h14 w )) ?_
     refine F.qg rfl rfl rfl rfl rfl rfl g11 (r_not rfl) ?_
     refine F.qn rfl rfl rfl rfl (r_pick rfl rfl g11) ?_
     refine F.qn rfl rfl rfl rfl (r_move rfl) ?_
     refine F.qg rfl rfl rfl rfl rfl rfl g17 (r_fieldAddr tf25_1 rfl) ?_
     refine F.qg rfl rfl rfl rfl rfl rfl g17 (r_load ta9 rfl (fun w hw => cell_1 (box_cells (i := 0) rfl w hw) rfl)) ?_
     refine F.qc rfl rfl rfl (wg rfl rfl rfl g17) (q_callF (xs := _) rfl ok53 rfl rfl (fun w hw => spec_l12Bytes.ok h20 w )) ?_
     refine F.qn rfl rfl rfl rfl (r_pick rfl rfl g17) ?_
     refine F.qn rfl rfl rfl rfl (r_assign rfl) ?_
     refine F.nil ?_
     cases hE_1
     refine Nrm.only [2] rfl ?_
     refine Nrm.pick [] rfl rfl ?_
     exact hj_1 _ _ ⟨rfl, rfl⟩
    ·replace hE_1 := if_ff g17 hE_1
     refine Tri.reg (l := List.range 20) rfl ?_
     refine F.qn rfl rfl rfl rfl (r_fieldAddr tf25_0 rfl) ?_
     refine F.qn rfl rfl rfl rfl (r_load ta9 rfl (fun w hw => cell_1 (box_cells (i := 0) rfl w hw) rfl)) ?_
     refine F.qn rfl rfl rfl rfl (r_neqS rfl rfl) ?_
     refine F.qn rfl rfl rfl rfl (r_move rfl) ?_
     refine F.qg rfl rfl rfl rfl rfl rfl g6 (r_fieldAddr tf25_0 rfl) ?_
     refine F.qg rfl rfl rfl rfl rfl rfl g6 (r_load ta9 rfl (fun w hw => cell_1 (box_cells (i := 0) rfl w hw) rfl)) ?_
     refine F.qc rfl rfl rfl (wg rfl rfl rfl g6) (q_callF (xs := _) rfl ok53 rfl rfl (fun w hw => spec_l12Bytes.ok h9 w )) ?_
     refine F.qn rfl rfl rfl rfl (r_pick rfl rfl g6) ?_
     refine F.qn rfl rfl rfl rfl (r_move rfl) ?_
     refine F.qg rfl rfl rfl rfl rfl rfl g11 (r_fieldAddr tf25_0 rfl) ?_
     refine F.qg rfl rfl rfl rfl rfl rfl g11 (r_load ta9 rfl (fun w hw => cell_1 (box_cells (i := 0) rfl w hw) rfl)) ?_
     refine F.qc rfl rfl rfl (wg rfl rfl rfl g11) (q_callF (xs := _) rfl ok54 rfl rfl (fun w hw => spec_l1Stands.ok h14 w )) ?_
     refine F.qg rfl rfl rfl rfl rfl rfl g11 (r_not rfl) ?_
     refine F.qn rfl rfl rfl rfl (r_pick rfl rfl g11) ?_
     refine F.qn rfl rfl rfl rfl (r_move rfl) ?_
     iterate 3 refine F.sk rfl rfl rfl (wf rfl rfl rfl g17) ?_
     refine F.qn rfl rfl rfl rfl (r_pickf rfl rfl g17) ?_
     refine F.qn rfl rfl rfl rfl (r_assign rfl) ?_
     refine F.nil ?_
     cases hE_1
     refine Nrm.only [2] rfl ?_
     refine Nrm.pick [] rfl rfl ?_
     exact hj_1 _ _ ⟨rfl, rfl⟩
   ·replace hE_1 := if_ff g11 hE_1
    refine Tri.reg (l := List.range 20) rfl ?_
    refine F.qn rfl rfl rfl rfl (r_fieldAddr tf25_0 rfl) ?_
    refine F.qn rfl rfl rfl rfl (r_load ta9 rfl (fun w hw => cell_1 (box_cells (i := 0) rfl w hw) rfl)) ?_
    refine F.qn rfl rfl rfl rfl (r_neqS rfl rfl) ?_
    refine F.qn rfl rfl rfl rfl (r_move rfl) ?_
    refine F.qg rfl rfl rfl rfl rfl rfl g6 (r_fieldAddr tf25_0 rfl) ?_
    refine F.qg rfl rfl rfl rfl rfl rfl g6 (r_load ta9 rfl (fun w hw => cell_1 (box_cells (i := 0) rfl w hw) rfl)) ?_
    refine F.qc rfl rfl rfl (wg rfl rfl rfl g6) (q_callF (xs := _) rfl ok53 rfl rfl (fun w hw => spec_l12Bytes.ok h9 w )) ?_
    refine F.qn rfl rfl rfl rfl (r_pick rfl rfl g6) ?_
    refine F.qn rfl rfl rfl rfl (r_move rfl) ?_
    iterate 4 refine F.sk rfl rfl rfl (wf rfl rfl rfl g11) ?_
    refine F.qn rfl rfl rfl rfl (r_pickf rfl rfl g11) ?_
    refine F.qn rfl rfl rfl rfl (r_move rfl) ?_
    iterate 3 refine F.sk rfl rfl rfl (wf rfl rfl rfl rfl) ?_
    refine F.qn rfl rfl rfl rfl (r_pickf rfl rfl rfl) ?_
    refine F.qn rfl rfl rfl rfl (r_assign rfl) ?_
    refine F.nil ?_
    cases hE_1
    refine Nrm.only [2] rfl ?_
    refine Nrm.pick [] rfl rfl ?_
    exact hj_1 _ _ ⟨rfl, rfl⟩
  ·replace hE_1 := if_ff g6 hE_1
   refine Tri.reg (l := List.range 20) rfl ?_
   refine F.qn rfl rfl rfl rfl (r_fieldAddr tf25_0 rfl) ?_
   refine F.qn rfl rfl rfl rfl (r_load ta9 rfl (fun w hw => cell_1 (box_cells (i := 0) rfl w hw) rfl)) ?_
   refine F.qn rfl rfl rfl rfl (r_neqS rfl rfl) ?_
   refine F.qn rfl rfl rfl rfl (r_move rfl) ?_
   iterate 3 refine F.sk rfl rfl rfl (wf rfl rfl rfl g6) ?_
   refine F.qn rfl rfl rfl rfl (r_pickf rfl rfl g6) ?_
   refine F.qn rfl rfl rfl rfl (r_move rfl) ?_
   iterate 4 refine F.sk rfl rfl rfl (wf rfl rfl rfl rfl) ?_
   refine F.qn rfl rfl rfl rfl (r_pickf rfl rfl rfl) ?_
   refine F.qn rfl rfl rfl rfl (r_move rfl) ?_
   iterate 3 refine F.sk rfl rfl rfl (wf rfl rfl rfl rfl) ?_
   refine F.qn rfl rfl rfl rfl (r_pickf rfl rfl rfl) ?_
   refine F.qn rfl rfl rfl rfl (r_assign rfl) ?_
   refine F.nil ?_
   cases hE_1
   refine Nrm.only [2] rfl ?_
   refine Nrm.pick [] rfl rfl ?_
   exact hj_1 _ _ ⟨rfl, rfl⟩


def spec_l1Num.r (k : Nat) : Nat → Int → Option (ByteArray)
 | 0, _ => none
 | q + 1, a0 => (if (decide (a0 < 0)) = true then (spec_l1Num.r k q (w64 (0 - a0))).bind fun t7 => if ((ByteArray.mk #[45]) ++ t7).size < 4611686018427387904 then some ((ByteArray.mk #[45]) ++ t7) else none else (if (decide (a0 < 10)) = true then (scut (ByteArray.mk #[48, 49, 50, 51, 52, 53, 54, 55, 56, 57]) a0 (w64 (a0 + 1))).bind fun t14 => some t14 else (spec_l1Num.r k q (quo a0 10)).bind fun t17 => (scut (ByteArray.mk #[48, 49, 50, 51, 52, 53, 54, 55, 56, 57]) (rem a0 10) (w64 ((rem a0 10) + 1))).bind fun t23 => if (t17 ++ t23).size < 4611686018427387904 then some (t17 ++ t23) else none))

def spec_l1Num.f (k : Nat) (a0 : Int) : Option (ByteArray) := spec_l1Num.r k k a0

theorem spec_l1Num.rok (k : Nat) : ∀ (q : Nat)  {a0 : Int} {r0 : ByteArray} (h : spec_l1Num.r k q a0 = some r0) (w : World),
  Calls Tryd.prog 56 ([.int .i64 a0] : List Value).toArray w (fun e w' => e = .returned (.string r0) ∧ Ext w w') := by
 intro q
 induction q with
 | zero => intro a0 r0 h w; rw [spec_l1Num.r.eq_1] at h; cases h
 | succ q ih =>
  intro a0 r0 h w
  rw [spec_l1Num.r.eq_2] at h
  refine Calls.of_tri (N := 25) Tryd.func56 rfl rfl rfl (Sep.nil (M := noM)) ?_
  refine Tri.seq (Tri.reg (l := [0]) rfl ?_)
  refine F.qn rfl rfl rfl rfl (r_assign rfl) ?_
  refine F.nil (Nrm.seq (Tri.seq (Tri.seq (Tri.reg (l := [0, 1]) rfl ?_))))
  refine F.qn rfl rfl rfl rfl (r_move rfl) ?_
  refine F.qn rfl rfl rfl rfl (r_lss rfl rfl) ?_
  refine F.nil (Nrm.seq (Tri.cond (b := decide (a0 < 0)) rfl (fun g_1 => ?_) (fun g_1 => ?_)))
  ·replace h := if_tt g_1 h
   refine Tri.seq ?_
   obtain ⟨t7, h7, h⟩ := bind_some h
   obtain ⟨hs8, h⟩ := ck h
   refine Tri.reg (l := [0, 1, 2, 3, 4]) rfl ?_
   refine F.qn rfl rfl rfl rfl (r_move rfl) ?_
   refine F.qn rfl rfl rfl rfl (r_neg rfl) ?_
   refine F.qcn rfl rfl rfl rfl (q_callF (xs := _) rfl ok56 rfl rfl (fun w hw => ih h7 w )) ?_
   refine F.qn rfl rfl rfl rfl (r_addS rfl rfl hs8) ?_
   refine F.qn rfl rfl rfl rfl (r_assign rfl) ?_
   refine F.nil (Nrm.seq (Tri.ret ?_))
   refine Rtn.then ?_
   cases h
   exact Rtn.body (.tmp rfl .nil) (fun w hw => ⟨rfl, hw.ext⟩)
  ·replace h := if_ff g_1 h
   refine Tri.skip (Nrm.seq (Tri.seq (Tri.seq (Tri.reg (l := [0, 1]) rfl ?_))))
   refine F.qn rfl rfl rfl rfl (r_move rfl) ?_
   refine F.qn rfl rfl rfl rfl (r_lss rfl rfl) ?_
   refine F.nil (Nrm.seq (Tri.cond (b := decide (a0 < 10)) rfl (fun g_2 => ?_) (fun g_2 => ?_)))
   ·replace h := if_tt g_2 h
    refine Tri.seq ?_
    obtain ⟨t14, h14, h⟩ := bind_some h
    refine Tri.reg (l := [0, 1, 2, 3, 4]) rfl ?_
    refine F.qn rfl rfl rfl rfl (r_move rfl) ?_
    refine F.qn rfl rfl rfl rfl (r_move rfl) ?_
    refine F.qn rfl rfl rfl rfl (r_add rfl rfl) ?_
    refine F.qn rfl rfl rfl rfl (r_scutLH Tryd.underlying9 rfl rfl rfl h14) ?_
    refine F.qn rfl rfl rfl rfl (r_assign rfl) ?_
    refine F.nil (Nrm.seq (Tri.ret ?_))
    refine Rtn.then ?_
    cases h
    exact Rtn.body (.tmp rfl .nil) (fun w hw => ⟨rfl, hw.ext⟩)
   ·replace h := if_ff g_2 h
    refine Tri.skip (Nrm.seq (Tri.seq ?_))
    obtain ⟨t17, h17, h⟩ := bind_some h
    obtain ⟨t23, h23, h⟩ := bind_some h
    obtain ⟨hs24, h⟩ := ck h
    refine Tri.drawA mixedT Sep.up [(0, true), (1, true), (2, true), (3, true), (4, true), (5, true), (6, true), (7, true), (8, true), (9, true), (10, true)] [] (by kernel_rfl) ?_
    refine S.qn rfl rfl rfl rfl (r_move rfl) ?_
    refine S.qn rfl rfl rfl rfl (r_quo rfl rfl (by decide)) ?_
    refine S.qcn rfl rfl rfl rfl (q_callF (xs := _) rfl ok56 rfl rfl (fun w hw => ih h17 w )) ?_
    refine S.qn rfl rfl rfl rfl (r_move rfl) ?_
    refine S.qn rfl rfl rfl rfl (r_rem rfl rfl (by decide)) ?_
    refine S.qn rfl rfl rfl rfl (r_move rfl) ?_
    refine S.qn rfl rfl rfl rfl (r_rem rfl rfl (by decide)) ?_
    refine S.qn rfl rfl rfl rfl (r_add rfl rfl) ?_
    refine S.qn rfl rfl rfl rfl (r_scutLH Tryd.underlying9 rfl rfl rfl h23) ?_
    refine S.qn rfl rfl rfl rfl (r_addS rfl rfl hs24) ?_
    refine S.qn rfl rfl rfl rfl (r_assign rfl) ?_
    refine S.nil (F.nil (Nrm.seq (Tri.ret ?_)))
    cases h
    exact Rtn.body (.tmp rfl .nil) (fun w hw => ⟨rfl, hw.ext⟩)

theorem spec_l1Num.ok {k : Nat}  {a0 : Int} {r0 : ByteArray} (h : spec_l1Num.f k a0 = some r0) (w : World) :
  Calls Tryd.prog 56 ([.int .i64 a0] : List Value).toArray w (fun e w' => e = .returned (.string r0) ∧ Ext w w') := by
 exact spec_l1Num.rok k k h w


def spec_l1Sum.l0 (k : Nat) (a0 : ByteArray) : Nat → Int → Int → Option (Int)
 | 0, _, _ => none
 | n + 1, x3, x4 => (if (decide (x4 < (a0.size : Int))) = true then (bta a0 x4).bind fun t15 => spec_l1Sum.l0 k a0 n (rem (w64 ((w64 ((w64 (41 * x3)) + (IntKind.i64.wrap (t15.toNat : Int)))) + 1)) 999979) (w64 (x4 + 1)) else some x3)

def spec_l1Sum.f (k : Nat) (a0 : ByteArray) : Option (Int) := (spec_l1Sum.l0 k a0 k 7 0).bind fun x3 => some x3

theorem spec_l1Sum.ok {k : Nat}  {a0 : ByteArray} {r0 : Int} (h : spec_l1Sum.f k a0 = some r0) (w : World) :
  Calls Tryd.prog 65 ([.string a0] : List Value).toArray w (fun e w' => e = .returned (.int .i64 r0) ∧ Ext w w') := by
 unfold spec_l1Sum.f at h
 refine Calls.of_tri (N := 21) Tryd.func65 rfl rfl rfl (Sep.nil (M := noM)) ?_
 refine Tri.seq (Tri.reg (l := [0]) rfl ?_)
 refine F.qn rfl rfl rfl rfl (r_assign rfl) ?_
 refine F.nil (Nrm.seq (Tri.seq (Tri.reg (l := [0]) rfl ?_)))
 refine F.qn rfl rfl rfl rfl (r_assign rfl) ?_
 refine F.nil (Nrm.seq (Tri.seq (Tri.seq (Tri.reg (l := [0]) rfl ?_))))
 refine F.qn rfl rfl rfl rfl (r_assign rfl) ?_
 refine F.nil (Nrm.seq ?_)
 obtain ⟨x3, hE_1, h⟩ := bind_some h
 refine Tri.block ?_
 refine Tri.only [0, 3, 4] rfl ?_
 refine Tri.pick [] rfl rfl ?_
 refine Tri.rounds (fun n e' C' => ∃ (x3' : Int) (x4' : Int), spec_l1Sum.l0 k a0 n x3' x4' = some x3 ∧ e' = [(0, .string a0), (3, .int .i64 x3'), (4, .int .i64 x4')] ∧ C' = Sep w noM []) k ?_ ?_ ?_
 ·exact ⟨7, 0, hE_1, rfl, rfl⟩
 ·rintro _ _ ⟨_, _, hE_1, _⟩
  rw [spec_l1Sum.l0.eq_1] at hE_1; cases hE_1
 ·rintro n_1 _ _ ⟨x3, x4, hE_1, rfl, rfl⟩ ih_1
  rw [spec_l1Sum.l0.eq_2] at hE_1
  refine Tri.seq (Tri.seq (Tri.reg (l := [0, 1, 2, 3]) rfl ?_))
  refine F.qn rfl rfl rfl rfl (r_move rfl) ?_
  refine F.qn rfl rfl rfl rfl (r_move rfl) ?_
  refine F.qn rfl rfl rfl rfl (r_lenS Tryd.underlying9 rfl) ?_
  refine F.qn rfl rfl rfl rfl (r_lss rfl rfl) ?_
  refine F.nil (Nrm.seq (Tri.cond (b := decide (x4 < (a0.size : Int))) rfl (fun g_1 => ?_) (fun g_1 => ?_)))
  ·replace hE_1 := if_tt g_1 hE_1
   refine Tri.skip (Nrm.seq (Tri.seq (Tri.block ?_)))
   obtain ⟨t15, h15, hE_1⟩ := bind_some hE_1
   refine Tri.reg (l := [0, 1, 2, 3, 4, 5, 6, 7, 8, 9]) rfl ?_
   refine F.qn rfl rfl rfl rfl (r_move rfl) ?_
   refine F.qn rfl rfl rfl rfl (r_mul rfl rfl) ?_
   refine F.qn rfl rfl rfl rfl (r_move rfl) ?_
   refine F.qn rfl rfl rfl rfl (r_move rfl) ?_
   refine F.qn rfl rfl rfl rfl (r_indexS Tryd.underlying9 rfl rfl (bt_some h15).1 (bt_some h15).2) ?_
   refine F.qn rfl rfl rfl rfl (r_conv Tryd.underlying5 Tryd.underlying3 rfl) ?_
   refine F.qn rfl rfl rfl rfl (r_add rfl rfl) ?_
   refine F.qn rfl rfl rfl rfl (r_add rfl rfl) ?_
   refine F.qn rfl rfl rfl rfl (r_rem rfl rfl (by decide)) ?_
   refine F.qn rfl rfl rfl rfl (r_assign rfl) ?_
   refine F.nil (Nrm.block ?_)
   refine Nrm.seq (Tri.reg (l := [0, 1, 2]) rfl ?_)
   refine F.qn rfl rfl rfl rfl (r_move rfl) ?_
   refine F.qn rfl rfl rfl rfl (r_add rfl rfl) ?_
   refine F.qn rfl rfl rfl rfl (r_assign rfl) ?_
   refine F.nil (Nrm.round ?_)
   refine Rnd.only [0, 3, 4] rfl ?_
   refine Rnd.pick [] rfl rfl ?_
   exact ih_1 _ _ ⟨rem (w64 ((w64 ((w64 (41 * x3)) + (IntKind.i64.wrap (t15.toNat : Int)))) + 1)) 999979, w64 (x4 + 1), hE_1, rfl, rfl⟩
  ·replace hE_1 := if_ff g_1 hE_1
   refine Tri.exit ?_
   refine Exi.then ?_
   refine Exi.then ?_
   refine Exi.same ?_
   cases hE_1
   refine Nrm.seq (Tri.seq (Tri.reg (l := [0, 1]) rfl ?_))
   refine F.qn rfl rfl rfl rfl (r_move rfl) ?_
   refine F.qn rfl rfl rfl rfl (r_assign rfl) ?_
   refine F.nil (Nrm.seq (Tri.ret ?_))
   cases h
   exact Rtn.body (.tmp rfl .nil) (fun w hw => ⟨rfl, hw.ext⟩)


def spec_l1Seal.f (k : Nat) (a0 : ByteArray) : Option (ByteArray) := if (a0 ++ (ByteArray.mk #[35])).size < 4611686018427387904 then (spec_l1Sum.f k a0).bind fun t6 => (spec_l1Num.f k t6).bind fun t7 => if ((a0 ++ (ByteArray.mk #[35])) ++ t7).size < 4611686018427387904 then some ((a0 ++ (ByteArray.mk #[35])) ++ t7) else none else none

theorem spec_l1Seal.ok {k : Nat}  {a0 : ByteArray} {r0 : ByteArray} (h : spec_l1Seal.f k a0 = some r0) (w : World) :
  Calls Tryd.prog 55 ([.string a0] : List Value).toArray w (fun e w' => e = .returned (.string r0) ∧ Ext w w') := by
 unfold spec_l1Seal.f at h
 refine Calls.of_tri (N := 9) Tryd.func55 rfl rfl rfl (Sep.nil (M := noM)) ?_
 refine Tri.seq (Tri.reg (l := [0]) rfl ?_)
 refine F.qn rfl rfl rfl rfl (r_assign rfl) ?_
 refine F.nil (Nrm.seq (Tri.seq ?_))
 obtain ⟨hs4, h⟩ := ck h
 obtain ⟨t6, h6, h⟩ := bind_some h
 obtain ⟨t7, h7, h⟩ := bind_some h
 obtain ⟨hs8, h⟩ := ck h
 refine Tri.reg (l := [0, 1, 2, 3, 4, 5, 6]) rfl ?_
 refine F.qn rfl rfl rfl rfl (r_move rfl) ?_
 refine F.qn rfl rfl rfl rfl (r_addS rfl rfl hs4) ?_
 refine F.qn rfl rfl rfl rfl (r_move rfl) ?_
 refine F.qcn rfl rfl rfl rfl (q_callF (xs := _) rfl ok65 rfl rfl (fun w hw => spec_l1Sum.ok h6 w )) ?_
 refine F.qcn rfl rfl rfl rfl (q_callF (xs := _) rfl ok56 rfl rfl (fun w hw => spec_l1Num.ok h7 w )) ?_
 refine F.qn rfl rfl rfl rfl (r_addS rfl rfl hs8) ?_
 refine F.qn rfl rfl rfl rfl (r_assign rfl) ?_
 refine F.nil (Nrm.seq (Tri.ret ?_))
 cases h
 exact Rtn.body (.tmp rfl .nil) (fun w hw => ⟨rfl, hw.ext⟩)


def spec_l12Line.f (k : Nat) (a0 : Int) (a1_0 : ByteArray) (a1_1 : ByteArray) : Option (ByteArray) := (spec_l1Num.f k a0).bind fun t6 => if (t6 ++ (ByteArray.mk #[32])).size < 4611686018427387904 then if ((t6 ++ (ByteArray.mk #[32])) ++ a1_0).size < 4611686018427387904 then if (((t6 ++ (ByteArray.mk #[32])) ++ a1_0) ++ (ByteArray.mk #[64])).size < 4611686018427387904 then if ((((t6 ++ (ByteArray.mk #[32])) ++ a1_0) ++ (ByteArray.mk #[64])) ++ a1_1).size < 4611686018427387904 then (spec_l1Seal.f k ((((t6 ++ (ByteArray.mk #[32])) ++ a1_0) ++ (ByteArray.mk #[64])) ++ a1_1)).bind fun t15 => if (t15 ++ (ByteArray.mk #[10])).size < 4611686018427387904 then some (t15 ++ (ByteArray.mk #[10])) else none else none else none else none else none

theorem spec_l12Line.ok {k : Nat}  {a0 : Int} {a1_0 : ByteArray} {a1_1 : ByteArray} {r0 : ByteArray} (h : spec_l12Line.f k a0 a1_0 a1_1 = some r0) (w : World) :
  Calls Tryd.prog 37 ([.int .i64 a0, .agg ([.string a1_0, .string a1_1].toArray)] : List Value).toArray w (fun e w' => e = .returned (.string r0) ∧ Ext w w') := by
 unfold spec_l12Line.f at h
 refine Calls.of_tri (N := 17) Tryd.func37 rfl rfl rfl (Sep.nil (M := noM)) ?_
 refine Tri.seq (Tri.reg (l := [0, 1]) rfl ?_)
 refine F.mn rfl rfl rfl rfl (m_boxG rfl rfl) ?_
 rintro _ _ ⟨b3_1, rfl, rfl⟩
 refine F.qn rfl rfl rfl rfl (r_assign rfl) ?_
 refine F.nil (Nrm.seq (Tri.seq ?_))
 obtain ⟨t6, h6, h⟩ := bind_some h
 obtain ⟨hs7, h⟩ := ck h
 obtain ⟨hs10, h⟩ := ck h
 obtain ⟨hs11, h⟩ := ck h
 obtain ⟨hs14, h⟩ := ck h
 obtain ⟨t15, h15, h⟩ := bind_some h
 obtain ⟨hs16, h⟩ := ck h
 refine Tri.drawA mixedT Sep.up [(0, true), (1, true), (2, true), (3, true), (4, true), (5, true), (6, true), (7, true), (8, true), (9, true), (10, true), (11, true), (12, true)] [] (by kernel_rfl) ?_
 refine S.qn rfl rfl rfl rfl (r_move rfl) ?_
 refine S.qcn rfl rfl rfl rfl (q_callF (xs := _) rfl ok56 rfl rfl (fun w hw => spec_l1Num.ok h6 w )) ?_
 refine S.qn rfl rfl rfl rfl (r_addS rfl rfl hs7) ?_
 refine S.qn rfl rfl rfl rfl (r_fieldAddr tf25_0 rfl) ?_
 refine S.qn rfl rfl rfl rfl (r_load ta9 rfl (fun w hw => cell_1 (box_cells (i := 0) rfl w hw) rfl)) ?_
 refine S.qn rfl rfl rfl rfl (r_addS rfl rfl hs10) ?_
 refine S.qn rfl rfl rfl rfl (r_addS rfl rfl hs11) ?_
 refine S.qn rfl rfl rfl rfl (r_fieldAddr tf25_1 rfl) ?_
 refine S.qn rfl rfl rfl rfl (r_load ta9 rfl (fun w hw => cell_1 (box_cells (i := 0) rfl w hw) rfl)) ?_
 refine S.qn rfl rfl rfl rfl (r_addS rfl rfl hs14) ?_
 refine S.qcn rfl rfl rfl rfl (q_callF (xs := _) rfl ok55 rfl rfl (fun w hw => spec_l1Seal.ok h15 w )) ?_
 refine S.qn rfl rfl rfl rfl (r_addS rfl rfl hs16) ?_
 refine S.qn rfl rfl rfl rfl (r_assign rfl) ?_
 refine S.nil (F.nil (Nrm.seq (Tri.ret ?_)))
 cases h
 exact Rtn.body (.tmp rfl .nil) (fun w hw => ⟨rfl, hw.ext⟩)


def spec_l1Split.l0 (k : Nat) (a0 : ByteArray) (a1 : Int) : Nat → (List (ByteArray)) → Int → Int → Option ((List (ByteArray)) × Int)
 | 0, _, _, _ => none
 | n + 1, x5, x6, x7 => (if (decide (x7 < (a0.size : Int))) = true then (bta a0 x7).bind fun t17 => ((if ((t17.toNat : Int) == a1) = true then (scut a0 x6 x7).bind fun t24 => if (x5 ++ ([t24] : List (ByteArray))).length < 1099511627776 then some (x5 ++ ([t24] : List (ByteArray)), w64 (x7 + 1)) else none else some (x5, x6))).bind fun (y5, y6) => spec_l1Split.l0 k a0 a1 n y5 y6 (w64 (x7 + 1)) else some (x5, x6))

def spec_l1Split.f (k : Nat) (a0 : ByteArray) (a1 : Int) : Option ((List ByteArray)) := (spec_l1Split.l0 k a0 a1 k ([] : List (ByteArray)) 0 0).bind fun (x5, x6) => (scut a0 x6 (a0.size : Int)).bind fun t32 => if (x5 ++ ([t32] : List (ByteArray))).length < 1099511627776 then some (x5 ++ ([t32] : List (ByteArray))) else none

theorem spec_l1Split.ok {k : Nat}  {a0 : ByteArray} {a1 : Int} {r0 : List ByteArray} (h : spec_l1Split.f k a0 a1 = some r0) (w : World) :
  Calls Tryd.prog 61 ([.string a0, .int .u8 a1] : List Value).toArray w (Post (fun u ns => ∃ (Sr0 : Nat → Prop), SlLen u r0.length ∧ ns = [R.sl Sr0 u r0]) w) := by
 unfold spec_l1Split.f at h
 refine Calls.of_tri (N := 35) Tryd.func61 rfl rfl rfl (Sep.nil (M := noM)) ?_
 refine Tri.seq (Tri.reg (l := [0]) rfl ?_)
 refine F.qn rfl rfl rfl rfl (r_assign rfl) ?_
 refine F.nil (Nrm.seq (Tri.seq (Tri.reg (l := [0, 1]) rfl ?_)))
 refine F.mn rfl rfl rfl rfl (m_build0 (α := ByteArray) Tryd.underlying75 ti9) ?_
 rintro v8_1 _ ⟨S8_1, hl_v8_1, rfl⟩
 refine F.qn rfl rfl rfl rfl (r_assign rfl) ?_
 refine F.nil (Nrm.seq (Tri.seq (Tri.reg (l := [0]) rfl ?_)))
 refine F.qn rfl rfl rfl rfl (r_assign rfl) ?_
 refine F.nil (Nrm.seq (Tri.seq (Tri.seq (Tri.reg (l := [0]) rfl ?_))))
 refine F.qn rfl rfl rfl rfl (r_assign rfl) ?_
 refine F.nil (Nrm.seq ?_)
 obtain ⟨⟨x5, x6⟩, hE_1, h⟩ := bind_some h
 refine Tri.block ?_
 refine Tri.only [0, 1, 5, 6, 7] rfl ?_
 refine Tri.pick [0] rfl rfl ?_
 refine Tri.rounds (fun n e' C' => ∃ (x5' : List (ByteArray)) (x6' : Int) (x7' : Int) (w5 : Value) (T5 : Nat → Prop), spec_l1Split.l0 k a0 a1 n x5' x6' x7' = some (x5, x6) ∧ SlLen w5 (x5').length ∧ e' = [(0, .string a0), (1, .int .u8 a1), (5, w5), (6, .int .i64 x6'), (7, .int .i64 x7')] ∧ C' = Sep w noM [R.sl T5 w5 (x5' : List (ByteArray))]) k ?_ ?_ ?_
 ·exact ⟨([] : List (ByteArray)), 0, 0, v8_1, S8_1, hE_1, hl_v8_1, rfl, rfl⟩
 ·rintro _ _ ⟨_, _, _, _, _, hE_1, _⟩
  rw [spec_l1Split.l0.eq_1] at hE_1; cases hE_1
 ·rintro n_1 _ _ ⟨x5, x6, x7, w5, T5, hE_1, hl_w5, rfl, rfl⟩ ih_1
  rw [spec_l1Split.l0.eq_2] at hE_1
  refine Tri.seq (Tri.seq (Tri.reg (l := [0, 1, 2, 3]) rfl ?_))
  refine F.qn rfl rfl rfl rfl (r_move rfl) ?_
  refine F.qn rfl rfl rfl rfl (r_move rfl) ?_
  refine F.qn rfl rfl rfl rfl (r_lenS Tryd.underlying9 rfl) ?_
  refine F.qn rfl rfl rfl rfl (r_lss rfl rfl) ?_
  refine F.nil (Nrm.seq (Tri.cond (b := decide (x7 < (a0.size : Int))) rfl (fun g_1 => ?_) (fun g_1 => ?_)))
  ·replace hE_1 := if_tt g_1 hE_1
   refine Tri.skip (Nrm.seq (Tri.seq (Tri.block ?_)))
   refine Tri.seq ?_
   obtain ⟨t17, h17, hE_1⟩ := bind_some hE_1
   refine Tri.reg (l := [0, 1, 2, 3, 4]) rfl ?_
   refine F.qn rfl rfl rfl rfl (r_move rfl) ?_
   refine F.qn rfl rfl rfl rfl (r_move rfl) ?_
   refine F.qn rfl rfl rfl rfl (r_indexS Tryd.underlying9 rfl rfl (bt_some h17).1 (bt_some h17).2) ?_
   refine F.qn rfl rfl rfl rfl (r_move rfl) ?_
   refine F.qn rfl rfl rfl rfl (r_eql rfl rfl) ?_
   refine F.nil (Nrm.seq ?_)
   obtain ⟨⟨y5, y6⟩, hE_2, hE_1⟩ := bind_some hE_1
   refine Tri.cut (fun e' C' => ∃ (v5_1 : Value) (S5_1 : Nat → Prop), SlLen v5_1 (y5).length ∧ e' = [(0, .string a0), (1, .int .u8 a1), (5, v5_1), (6, .int .i64 y6), (7, .int .i64 x7)] ∧ C' = Sep w noM [R.sl S5_1 v5_1 (y5 : List (ByteArray))]) ?_ (fun hj_1 => ?_)
   ·rintro _ _ ⟨v5_1, S5_1, hl_v5_1, rfl, rfl⟩
    refine Nrm.block ?_
    refine Nrm.seq (Tri.reg (l := [0, 1, 2]) rfl ?_)
    refine F.qn rfl rfl rfl rfl (r_move rfl) ?_
    refine F.qn rfl rfl rfl rfl (r_add rfl rfl) ?_
    refine F.qn rfl rfl rfl rfl (r_assign rfl) ?_
    refine F.nil (Nrm.round ?_)
    refine Rnd.only [0, 1, 5, 6, 7] rfl ?_
    refine Rnd.pick [0] rfl rfl ?_
    exact ih_1 _ _ ⟨y5, y6, w64 (x7 + 1), v5_1, S5_1, hE_1, hl_v5_1, rfl, rfl⟩
   ·refine Tri.cond (b := (t17.toNat : Int) == a1) rfl (fun g_2 => ?_) (fun g_2 => ?_)
    ·replace hE_2 := if_tt g_2 hE_2
     refine Tri.seq ?_
     obtain ⟨t24, h24, hE_2⟩ := bind_some hE_2
     obtain ⟨hs26, hE_2⟩ := ck hE_2
     refine Tri.reg (l := [0, 1, 2, 3, 4, 5, 6, 7]) rfl ?_
     iterate 4 refine F.qn rfl rfl rfl rfl (r_move rfl) ?_
     refine F.qn rfl rfl rfl rfl (r_scutLH Tryd.underlying9 rfl rfl rfl h24) ?_
     refine F.mn rfl rfl rfl rfl (m_buildF (l := ([t24] : List (ByteArray))) Tryd.underlying75 ti9 rfl rfl rfl rfl rfl) ?_
     rintro v25_1 _ ⟨S25_1, hl_v25_1, rfl⟩
     refine F.efn rfl rfl rfl rfl (d_append (i := 1) Tryd.underlying75 Tryd.underlying75 ti9 rfl (by decide) rfl rfl rfl (rd_sl (i := 0) rfl) hs26) ?_
     rintro v26_1 _ ⟨S26_1, rfl, hl_v26_1⟩
     refine F.qn rfl rfl rfl rfl (r_assign rfl) ?_
     refine F.nil (Nrm.seq (Tri.reg (l := [0, 1, 2]) rfl ?_))
     refine F.qn rfl rfl rfl rfl (r_move rfl) ?_
     refine F.qn rfl rfl rfl rfl (r_add rfl rfl) ?_
     refine F.qn rfl rfl rfl rfl (r_assign rfl) ?_
     refine F.nil ?_
     cases hE_2
     refine Nrm.only [0, 1, 5, 6, 7] rfl ?_
     refine Nrm.pick [1] rfl rfl ?_
     exact hj_1 _ _ ⟨v26_1, S26_1, hl_v26_1, rfl, rfl⟩
    ·replace hE_2 := if_ff g_2 hE_2
     refine Tri.skip ?_
     cases hE_2
     refine Nrm.only [0, 1, 5, 6, 7] rfl ?_
     refine Nrm.pick [0] rfl rfl ?_
     exact hj_1 _ _ ⟨w5, T5, hl_w5, rfl, rfl⟩
  ·replace hE_1 := if_ff g_1 hE_1
   refine Tri.exit ?_
   refine Exi.then ?_
   refine Exi.then ?_
   refine Exi.same ?_
   cases hE_1
   refine Nrm.seq (Tri.seq ?_)
   obtain ⟨t32, h32, h⟩ := bind_some h
   obtain ⟨hs34, h⟩ := ck h
   refine Tri.reg (l := [0, 1, 2, 3, 4, 5, 6]) rfl ?_
   iterate 3 refine F.qn rfl rfl rfl rfl (r_move rfl) ?_
   refine F.qn rfl rfl rfl rfl (r_scutL Tryd.underlying9 rfl rfl h32) ?_
   refine F.mn rfl rfl rfl rfl (m_buildF (l := ([t32] : List (ByteArray))) Tryd.underlying75 ti9 rfl rfl rfl rfl rfl) ?_
   rintro v33_1 _ ⟨S33_1, hl_v33_1, rfl⟩
   refine F.efn rfl rfl rfl rfl (d_append (i := 1) Tryd.underlying75 Tryd.underlying75 ti9 rfl (by decide) rfl rfl rfl (rd_sl (i := 0) rfl) hs34) ?_
   rintro v34_1 _ ⟨S34_1, rfl, hl_v34_1⟩
   refine F.qn rfl rfl rfl rfl (r_assign rfl) ?_
   refine F.nil (Nrm.seq (Tri.ret ?_))
   cases h
   exact Rtn.body (.tmp rfl .nil) (fun w hw => ⟨_, _, rfl, ⟨S34_1, hl_v34_1, rfl⟩, Sep.pick (is := [1]) rfl rfl hw⟩)


def spec_l12Decode.f (k : Nat) (a0 : ByteArray) (a1 : Int) : Option (ByteArray × ByteArray × Bool) := (spec_l1Num.f k a1).bind fun t12 => if (t12 ++ (ByteArray.mk #[32])).size < 4611686018427387904 then (spec_l1Split.f k a0 35).bind fun t15 => (rdl t15 0).bind fun t16 => ((if (decide ((t16.size : Int) < ((t12 ++ (ByteArray.mk #[32])).size : Int))) = true then some true else (scut t16 0 ((t12 ++ (ByteArray.mk #[32])).size : Int)).bind fun t27 => some (!(t27.toList == (t12 ++ (ByteArray.mk #[32])).toList)))).bind fun y30 => (if y30 = true then some (ByteArray.empty, ByteArray.empty, false) else (scut t16 ((t12 ++ (ByteArray.mk #[32])).size : Int) (t16.size : Int)).bind fun t35 => (spec_l1Split.f k t35 64).bind fun t37 => (rdl t37 0).bind fun t38 => (if ((t38.size : Int) == (t35.size : Int)) = true then some (ByteArray.empty, ByteArray.empty, false) else (scut t35 (w64 ((t38.size : Int) + 1)) (t35.size : Int)).bind fun t51 => ((spec_l12Record.f k t38 t51).bind fun t55 => (if t55 = true then (spec_l12Line.f k a1 t38 t51).bind fun t59 => if (a0 ++ (ByteArray.mk #[10])).size < 4611686018427387904 then some (t59.toList == (a0 ++ (ByteArray.mk #[10])).toList) else none else some false)).bind fun y5 => some (t38, t51, y5))) else none

theorem spec_l12Decode.ok {k : Nat}  {a0 : ByteArray} {a1 : Int} {r0 : ByteArray} {r1 : ByteArray} {r2 : Bool} (h : spec_l12Decode.f k a0 a1 = some (r0, r1, r2)) (w : World) :
  Calls Tryd.prog 62 ([.string a0, .int .i64 a1] : List Value).toArray w (fun e w' => e = .returned (.tuple #[.agg [.string r0, .string r1].toArray, .bool r2]) ∧ Ext w w') := by
 unfold spec_l12Decode.f at h
 refine Calls.of_tri (N := 64) Tryd.func62 rfl rfl rfl (Sep.nil (M := noM)) ?_
 refine Tri.seq (Tri.reg (l := [0, 1]) rfl ?_)
 refine F.mn rfl rfl rfl rfl (m_alloc ti25) ?_
 rintro _ _ ⟨b4_1, rfl, rfl⟩
 refine F.qn rfl rfl rfl rfl (r_assign rfl) ?_
 refine F.nil (Nrm.seq (Tri.seq ?_))
 obtain ⟨t12, h12, h⟩ := bind_some h
 obtain ⟨hs13, h⟩ := ck h
 refine Tri.reg (l := [0, 1, 2, 3]) rfl ?_
 refine F.qn rfl rfl rfl rfl (r_move rfl) ?_
 refine F.qcn rfl rfl rfl rfl (q_callF (xs := _) rfl ok56 rfl rfl (fun w hw => spec_l1Num.ok h12 w )) ?_
 refine F.qn rfl rfl rfl rfl (r_addS rfl rfl hs13) ?_
 refine F.qn rfl rfl rfl rfl (r_assign rfl) ?_
 refine F.nil (Nrm.seq (Tri.seq ?_))
 obtain ⟨t15, h15, h⟩ := bind_some h
 obtain ⟨t16, h16, h⟩ := bind_some h
 refine Tri.reg (l := [0, 1, 2, 3, 4]) rfl ?_
 refine F.qn rfl rfl rfl rfl (r_move rfl) ?_
 refine F.mn rfl rfl rfl rfl (m_callF (xs := _) rfl ok61 rfl rfl (fun w hw => spec_l1Split.ok h15 w )) ?_
 rintro v15_1 _ ⟨_, ⟨S15_1, hl_v15_1, rfl⟩, rfl⟩
 refine F.qn rfl rfl rfl rfl (r_indexAddrS Tryd.underlying75 ti9 rfl hl_v15_1 rfl (rdl_some h16).1 (rdl_some h16).2.1) ?_
 refine F.qn rfl rfl rfl rfl (r_load ta9 rfl (fun w hw => cell_0 (Rd.flat ((rd_sl (i := 0) rfl) w hw) (rdl_some h16).2.2) rfl)) ?_
 refine F.qn rfl rfl rfl rfl (r_assign rfl) ?_
 refine F.nil (Nrm.seq (Tri.seq (Tri.seq ?_)))
 obtain ⟨y30, hE_1, h⟩ := bind_some h
 refine Tri.cut (fun e' C' => e' = [(0, .string a0), (1, .int .i64 a1), (4, .pointer (some ⟨b4_1, 0, none⟩)), (6, .string (t12 ++ (ByteArray.mk #[32]))), (7, .string t16), (30, .bool y30)] ∧ C' = Sep w noM [R.box b4_1 25 [.string ByteArray.empty, .string ByteArray.empty]]) ?_ (fun hj_1 => ?_)
 ·rintro _ _ ⟨rfl, rfl⟩
  refine Nrm.seq (Tri.cond (b := y30) rfl (fun g_1 => ?_) (fun g_1 => ?_))
  ·replace h := if_tt g_1 h
   refine Tri.seq (Tri.reg (l := [0, 1, 2]) rfl ?_)
   refine F.qn rfl rfl rfl rfl (r_build (pl := [(0, 1), (1, 1)]) (qs := []) (cs := [.string ByteArray.empty, .string ByteArray.empty]) (by kernel_rfl) ti25 rfl .nil rfl rfl) ?_
   refine F.ef0 rfl rfl (wanted_none rfl) (d_storeG0 (i := 0) (cs2 := [.string ByteArray.empty, .string ByteArray.empty]) ti25 rfl rfl rfl rfl rfl (Nat.le_of_ble_eq_true rfl) (lf_cons rfl (lf_cons rfl lf_nil))) ?_
   rintro _ _ ⟨rfl, rfl⟩
   refine F.qn rfl rfl rfl rfl (r_assign rfl) ?_
   refine F.nil (Nrm.seq (Tri.ret ?_))
   refine Rtn.then ?_
   cases h
   exact Rtn.body (.cell rfl ta25 ti25 rfl (fun _ hw => box_cells (i := 0) rfl _ hw) (.tmp rfl .nil)) (fun w hw => ⟨rfl, hw.ext⟩)
  ·replace h := if_ff g_1 h
   refine Tri.skip (Nrm.seq (Tri.seq ?_))
   obtain ⟨t35, h35, h⟩ := bind_some h
   refine Tri.reg (l := [0, 1, 2, 3, 4]) rfl ?_
   refine F.qn rfl rfl rfl rfl (r_move rfl) ?_
   refine F.qn rfl rfl rfl rfl (r_move rfl) ?_
   refine F.qn rfl rfl rfl rfl (r_lenS Tryd.underlying9 rfl) ?_
   refine F.qn rfl rfl rfl rfl (r_scutL Tryd.underlying9 rfl rfl h35) ?_
   refine F.qn rfl rfl rfl rfl (r_assign rfl) ?_
   refine F.nil (Nrm.seq (Tri.seq ?_))
   obtain ⟨t37, h37, h⟩ := bind_some h
   obtain ⟨t38, h38, h⟩ := bind_some h
   refine Tri.reg (l := [0, 1, 2, 3, 4]) rfl ?_
   refine F.qn rfl rfl rfl rfl (r_move rfl) ?_
   refine F.mn rfl rfl rfl rfl (m_callF (xs := _) rfl ok61 rfl rfl (fun w hw => spec_l1Split.ok h37 w )) ?_
   rintro v37_1 _ ⟨_, ⟨S37_1, hl_v37_1, rfl⟩, rfl⟩
   refine F.qn rfl rfl rfl rfl (r_indexAddrS Tryd.underlying75 ti9 rfl hl_v37_1 rfl (rdl_some h38).1 (rdl_some h38).2.1) ?_
   refine F.qn rfl rfl rfl rfl (r_load ta9 rfl (fun w hw => cell_0 (Rd.flat ((rd_sl (i := 0) rfl) w hw) (rdl_some h38).2.2) rfl)) ?_
   refine F.qn rfl rfl rfl rfl (r_assign rfl) ?_
   refine F.nil (Nrm.seq (Tri.seq (Tri.seq (Tri.reg (l := [0, 1, 2, 3, 4]) rfl ?_))))
   refine F.qn rfl rfl rfl rfl (r_move rfl) ?_
   refine F.qn rfl rfl rfl rfl (r_lenS Tryd.underlying9 rfl) ?_
   refine F.qn rfl rfl rfl rfl (r_move rfl) ?_
   refine F.qn rfl rfl rfl rfl (r_lenS Tryd.underlying9 rfl) ?_
   refine F.qn rfl rfl rfl rfl (r_eql rfl rfl) ?_
   refine F.nil (Nrm.seq (Tri.cond (b := (t38.size : Int) == (t35.size : Int)) rfl (fun g_2 => ?_) (fun g_2 => ?_)))
   ·replace h := if_tt g_2 h
    refine Tri.seq (Tri.reg (l := [0, 1, 2]) rfl ?_)
    refine F.qn rfl rfl rfl rfl (r_build (pl := [(0, 1), (1, 1)]) (qs := []) (cs := [.string ByteArray.empty, .string ByteArray.empty]) (by kernel_rfl) ti25 rfl .nil rfl rfl) ?_
    refine F.ef0 rfl rfl (wanted_none rfl) (d_storeG0 (i := 1) (cs2 := [.string ByteArray.empty, .string ByteArray.empty]) ti25 rfl rfl rfl rfl rfl (Nat.le_of_ble_eq_true rfl) (lf_cons rfl (lf_cons rfl lf_nil))) ?_
    rintro _ _ ⟨rfl, rfl⟩
    refine F.qn rfl rfl rfl rfl (r_assign rfl) ?_
    refine F.nil (Nrm.seq (Tri.ret ?_))
    refine Rtn.then ?_
    cases h
    exact Rtn.body (.cell rfl ta25 ti25 rfl (fun _ hw => box_cells (i := 1) rfl _ hw) (.tmp rfl .nil)) (fun w hw => ⟨rfl, hw.ext⟩)
   ·replace h := if_ff g_2 h
    refine Tri.skip (Nrm.seq (Tri.seq ?_))
    obtain ⟨t51, h51, h⟩ := bind_some h
    refine Tri.reg (l := [0, 1, 2, 3, 4, 5, 6, 7, 8]) rfl ?_
    iterate 3 refine F.qn rfl rfl rfl rfl (r_move rfl) ?_
    refine F.qn rfl rfl rfl rfl (r_lenS Tryd.underlying9 rfl) ?_
    refine F.qn rfl rfl rfl rfl (r_add rfl rfl) ?_
    refine F.qn rfl rfl rfl rfl (r_scutL Tryd.underlying9 rfl rfl h51) ?_
    refine F.qn rfl rfl rfl rfl (r_build (pl := [(0, 1), (1, 1)]) (qs := [(0, [.string t38]), (1, [.string t51])]) (cs := [.string t38, .string t51]) (by kernel_rfl) ti25 rfl (.cons rfl rfl (Nat.le_of_ble_eq_true rfl) (.cons rfl rfl (Nat.le_of_ble_eq_true rfl) .nil)) rfl rfl) ?_
    refine F.mn rfl rfl rfl rfl (m_alloc ti25) ?_
    rintro _ _ ⟨b10_1, rfl, rfl⟩
    refine F.ef0 rfl rfl (wanted_none rfl) (d_storeG0 (i := 0) (cs2 := [.string t38, .string t51]) ti25 rfl rfl rfl rfl rfl (Nat.le_of_ble_eq_true rfl) (lf_cons rfl (lf_cons rfl lf_nil))) ?_
    rintro _ _ ⟨rfl, rfl⟩
    refine F.nil (Nrm.seq (Tri.seq ?_))
    obtain ⟨y5, hE_2, h⟩ := bind_some h
    refine Tri.cut (fun e' C' => e' = [(4, .pointer (some ⟨b4_1, 0, none⟩)), (5, .bool y5)] ∧ C' = Sep w noM [R.box b4_1 25 [.string t38, .string t51]]) ?_ (fun hj_2 => ?_)
    ·rintro _ _ ⟨rfl, rfl⟩
     refine Nrm.seq (Tri.ret ?_)
     cases h
     exact Rtn.body (.cell rfl ta25 ti25 rfl (fun _ hw => box_cells (i := 0) rfl _ hw) (.tmp rfl .nil)) (fun w hw => ⟨rfl, hw.ext⟩)
    ·obtain ⟨t55, h55, hE_2⟩ := bind_some hE_2
     rcases Bool.eq_false_or_eq_true (t55) with g56 | g56
     ·replace hE_2 := if_tt g56 hE_2
      obtain ⟨t59, h59, hE_2⟩ := bind_some hE_2
      obtain ⟨hs61, hE_2⟩ := ck hE_2
      refine Tri.drawK (B := Sep w noM [R.box b10_1 25 [.string t38, .string t51], R.sl S37_1 v37_1 (t37 : List (ByteArray))]) mixedT Sep.up [(0, true), (1, true), (2, true), (3, true), (4, true), (5, true), (6, true), (7, true), (8, true), (9, true), (10, true), (11, false)] [12] (by kernel_rfl) ?_
      refine K.q [0, 1] rfl rfl rfl rfl rfl (wanted_none rfl) (r_loadA ta25 ti25 rfl rfl (fun w hw => (box_cells (i := 0) rfl w hw))) ?_
      refine K.q [0, 1] rfl rfl rfl rfl rfl (wanted_none rfl) (r_loadA ta25 ti25 rfl rfl (fun w hw => (box_cells (i := 0) rfl w hw))) ?_
      refine K.qc [0, 1] rfl rfl rfl rfl rfl (wanted_none rfl) (q_callF (xs := _) rfl ok36 rfl rfl (fun w hw => spec_l12Record.ok h55 w )) ?_
      refine K.q [0, 1] rfl rfl rfl rfl rfl (wanted_none rfl) (r_move rfl) ?_
      refine K.q [0, 1] rfl rfl rfl rfl rfl (wg rfl rfl rfl g56) (r_move rfl) ?_
      refine K.q [0, 1] rfl rfl rfl rfl rfl (wg rfl rfl rfl g56) (r_loadA ta25 ti25 rfl rfl (fun w hw => (box_cells (i := 0) rfl w hw))) ?_
      refine K.qc [0, 1] rfl rfl rfl rfl rfl (wg rfl rfl rfl g56) (q_callF (xs := _) rfl ok37 rfl rfl (fun w hw => spec_l12Line.ok h59 w )) ?_
      refine K.q [0, 1] rfl rfl rfl rfl rfl (wg rfl rfl rfl g56) (r_move rfl) ?_
      refine K.q [0, 1] rfl rfl rfl rfl rfl (wg rfl rfl rfl g56) (r_addS rfl rfl hs61) ?_
      refine K.q [0, 1] rfl rfl rfl rfl rfl (wg rfl rfl rfl g56) (r_eqlS rfl rfl) ?_
      refine K.q [0, 1] rfl rfl rfl rfl rfl (wanted_none rfl) (r_pick rfl rfl g56) ?_
      refine B.ef0 rfl rfl (wanted_none rfl) (d_storeG0 (i := 2) (cs2 := [.string t38, .string t51]) ti25 rfl rfl rfl rfl rfl (Nat.le_of_ble_eq_true rfl) (lf_cons rfl (lf_cons rfl lf_nil))) (by rintro _ _ ⟨rfl, rfl⟩; exact upd rfl [0, 1] rfl rfl) ?_
      rintro _ _ ⟨rfl, rfl⟩
      refine B.nil ?_
      refine F.qn rfl rfl rfl rfl (r_assign rfl) ?_
      refine F.nil ?_
      cases hE_2
      refine Nrm.only [4, 5] rfl ?_
      refine Nrm.pick [2] rfl rfl ?_
      exact hj_2 _ _ ⟨rfl, rfl⟩
     ·replace hE_2 := if_ff g56 hE_2
      refine Tri.drawK (B := Sep w noM [R.box b10_1 25 [.string t38, .string t51], R.sl S37_1 v37_1 (t37 : List (ByteArray))]) mixedT Sep.up [(0, true), (1, true), (2, true), (3, true), (4, true), (5, true), (6, true), (7, true), (8, true), (9, true), (10, true), (11, false)] [12] (by kernel_rfl) ?_
      refine K.q [0, 1] rfl rfl rfl rfl rfl (wanted_none rfl) (r_loadA ta25 ti25 rfl rfl (fun w hw => (box_cells (i := 0) rfl w hw))) ?_
      refine K.q [0, 1] rfl rfl rfl rfl rfl (wanted_none rfl) (r_loadA ta25 ti25 rfl rfl (fun w hw => (box_cells (i := 0) rfl w hw))) ?_
      refine K.qc [0, 1] rfl rfl rfl rfl rfl (wanted_none rfl) (q_callF (xs := _) rfl ok36 rfl rfl (fun w hw => spec_l12Record.ok h55 w )) ?_
      refine K.q [0, 1] rfl rfl rfl rfl rfl (wanted_none rfl) (r_move rfl) ?_
      iterate 6 refine K.sk [0, 1] rfl rfl rfl rfl rfl (wf rfl rfl rfl g56) ?_
      refine K.q [0, 1] rfl rfl rfl rfl rfl (wanted_none rfl) (r_pickf rfl rfl g56) ?_
      refine B.ef0 rfl rfl (wanted_none rfl) (d_storeG0 (i := 2) (cs2 := [.string t38, .string t51]) ti25 rfl rfl rfl rfl rfl (Nat.le_of_ble_eq_true rfl) (lf_cons rfl (lf_cons rfl lf_nil))) (by rintro _ _ ⟨rfl, rfl⟩; exact upd rfl [0, 1] rfl rfl) ?_
      rintro _ _ ⟨rfl, rfl⟩
      refine B.nil ?_
      refine F.qn rfl rfl rfl rfl (r_assign rfl) ?_
      refine F.nil ?_
      cases hE_2
      refine Nrm.only [4, 5] rfl ?_
      refine Nrm.pick [2] rfl rfl ?_
      exact hj_2 _ _ ⟨rfl, rfl⟩
 ·rcases Bool.eq_false_or_eq_true (decide ((t16.size : Int) < ((t12 ++ (ByteArray.mk #[32])).size : Int))) with g23 | g23
  ·replace hE_1 := if_tt g23 hE_1
   refine Tri.reg (l := List.range 13) rfl ?_
   refine F.qn rfl rfl rfl rfl (r_move rfl) ?_
   refine F.qn rfl rfl rfl rfl (r_lenS Tryd.underlying9 rfl) ?_
   refine F.qn rfl rfl rfl rfl (r_move rfl) ?_
   refine F.qn rfl rfl rfl rfl (r_lenS Tryd.underlying9 rfl) ?_
   refine F.qn rfl rfl rfl rfl (r_lss rfl rfl) ?_
   refine F.qn rfl rfl rfl rfl (r_move rfl) ?_
   iterate 6 refine F.sk rfl rfl rfl (wf rfl rfl rfl g23) ?_
   refine F.qn rfl rfl rfl rfl (r_pick rfl rfl g23) ?_
   refine F.nil ?_
   cases hE_1
   refine Nrm.only [0, 1, 4, 6, 7, 30] rfl ?_
   refine Nrm.pick [1] rfl rfl ?_
   exact hj_1 _ _ ⟨rfl, rfl⟩
  ·replace hE_1 := if_ff g23 hE_1
   obtain ⟨t27, h27, hE_1⟩ := bind_some hE_1
   refine Tri.reg (l := List.range 13) rfl ?_
   refine F.qn rfl rfl rfl rfl (r_move rfl) ?_
   refine F.qn rfl rfl rfl rfl (r_lenS Tryd.underlying9 rfl) ?_
   refine F.qn rfl rfl rfl rfl (r_move rfl) ?_
   refine F.qn rfl rfl rfl rfl (r_lenS Tryd.underlying9 rfl) ?_
   refine F.qn rfl rfl rfl rfl (r_lss rfl rfl) ?_
   refine F.qn rfl rfl rfl rfl (r_move rfl) ?_
   refine F.qg rfl rfl rfl rfl rfl rfl g23 (r_move rfl) ?_
   refine F.qg rfl rfl rfl rfl rfl rfl g23 (r_move rfl) ?_
   refine F.qg rfl rfl rfl rfl rfl rfl g23 (r_lenS Tryd.underlying9 rfl) ?_
   refine F.qg rfl rfl rfl rfl rfl rfl g23 (r_scutH Tryd.underlying9 rfl rfl h27) ?_
   refine F.qg rfl rfl rfl rfl rfl rfl g23 (r_move rfl) ?_
   refine F.qg rfl rfl rfl rfl rfl rfl g23 (r_neqS rfl rfl) ?_
   refine F.qn rfl rfl rfl rfl (r_pickf rfl rfl g23) ?_
   refine F.nil ?_
   cases hE_1
   refine Nrm.only [0, 1, 4, 6, 7, 30] rfl ?_
   refine Nrm.pick [1] rfl rfl ?_
   exact hj_1 _ _ ⟨rfl, rfl⟩

end Go.Proofs

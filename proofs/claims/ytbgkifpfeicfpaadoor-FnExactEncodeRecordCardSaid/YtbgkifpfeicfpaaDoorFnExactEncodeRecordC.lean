/- A part of the proof of FnExactEncodeRecord: what the functions of the program compute, walked on the model. No condition. -/
import Derived.Shelf.SlGeneric
import Derived.Shelf.Strconv.Itoa3
import Derived.Test.YtbgkifpfeicfpaaDoorChecked
import Derived.Test.YtbgkifpfeicfpaaDoorFnExactEncodeRecordB
set_option linter.unusedSimpArgs false
namespace Go.Proofs
open Go Go.Ga Go.Ga.Rp Go.Ga.Flat
theorem mixedT : Tryd.prog.follows .mixedOrders = true := by kernel_rfl
theorem ok103 : CallOk Tryd.prog 103 := .of Tryd.func103 rfl (by decide)
theorem ok104 : CallOk Tryd.prog 104 := .of Tryd.func104 rfl (by decide)
theorem ok105 : CallOk Tryd.prog 105 := .of Tryd.func105 rfl (by decide)
theorem ok106 : CallOk Tryd.prog 106 := .of Tryd.func106 rfl (by decide)
theorem ok107 : CallOk Tryd.prog 107 := .of Tryd.func107 rfl (by decide)
theorem ok108 : CallOk Tryd.prog 108 := .of Tryd.func108 rfl (by decide)
theorem ok109 : CallOk Tryd.prog 109 := .of Tryd.func109 rfl (by decide)
theorem ok11 : CallOk Tryd.prog 11 := .of Tryd.func11 rfl (by decide)
theorem ok110 : CallOk Tryd.prog 110 := .of Tryd.func110 rfl (by decide)
theorem ok111 : CallOk Tryd.prog 111 := .of Tryd.func111 rfl (by decide)
theorem ok112 : CallOk Tryd.prog 112 := .of Tryd.func112 rfl (by decide)
theorem ok117 : CallOk Tryd.prog 117 := .of Tryd.func117 rfl (by decide)
theorem ok118 : CallOk Tryd.prog 118 := .of Tryd.func118 rfl (by decide)
theorem ok12 : CallOk Tryd.prog 12 := .of Tryd.func12 rfl (by decide)
theorem ok122 : CallOk Tryd.prog 122 := .of Tryd.func122 rfl (by decide)
theorem ok123 : CallOk Tryd.prog 123 := .of Tryd.func123 rfl (by decide)
theorem ok13 : CallOk Tryd.prog 13 := .of Tryd.func13 rfl (by decide)
theorem ok14 : CallOk Tryd.prog 14 := .of Tryd.func14 rfl (by decide)
theorem ok15 : CallOk Tryd.prog 15 := .of Tryd.func15 rfl (by decide)
theorem ok16 : CallOk Tryd.prog 16 := .of Tryd.func16 rfl (by decide)
theorem ok17 : CallOk Tryd.prog 17 := .of Tryd.func17 rfl (by decide)
theorem ok18 : CallOk Tryd.prog 18 := .of Tryd.func18 rfl (by decide)
theorem ok19 : CallOk Tryd.prog 19 := .of Tryd.func19 rfl (by decide)
theorem ok20 : CallOk Tryd.prog 20 := .of Tryd.func20 rfl (by decide)
theorem ok21 : CallOk Tryd.prog 21 := .of Tryd.func21 rfl (by decide)
theorem ok24 : CallOk Tryd.prog 24 := .of Tryd.func24 rfl (by decide)
theorem ok25 : CallOk Tryd.prog 25 := .of Tryd.func25 rfl (by decide)
theorem ok26 : CallOk Tryd.prog 26 := .of Tryd.func26 rfl (by decide)
theorem ok27 : CallOk Tryd.prog 27 := .of Tryd.func27 rfl (by decide)
theorem ok28 : CallOk Tryd.prog 28 := .of Tryd.func28 rfl (by decide)
theorem ok29 : CallOk Tryd.prog 29 := .of Tryd.func29 rfl (by decide)
theorem ok30 : CallOk Tryd.prog 30 := .of Tryd.func30 rfl (by decide)
theorem ok31 : CallOk Tryd.prog 31 := .of Tryd.func31 rfl (by decide)
theorem ok32 : CallOk Tryd.prog 32 := .of Tryd.func32 rfl (by decide)
theorem ok33 : CallOk Tryd.prog 33 := .of Tryd.func33 rfl (by decide)
theorem ok34 : CallOk Tryd.prog 34 := .of Tryd.func34 rfl (by decide)
theorem ok35 : CallOk Tryd.prog 35 := .of Tryd.func35 rfl (by decide)
theorem ok36 : CallOk Tryd.prog 36 := .of Tryd.func36 rfl (by decide)
theorem ok37 : CallOk Tryd.prog 37 := .of Tryd.func37 rfl (by decide)
theorem ok38 : CallOk Tryd.prog 38 := .of Tryd.func38 rfl (by decide)
theorem ok39 : CallOk Tryd.prog 39 := .of Tryd.func39 rfl (by decide)
theorem ok40 : CallOk Tryd.prog 40 := .of Tryd.func40 rfl (by decide)
theorem ok41 : CallOk Tryd.prog 41 := .of Tryd.func41 rfl (by decide)
theorem ok42 : CallOk Tryd.prog 42 := .of Tryd.func42 rfl (by decide)
theorem ok43 : CallOk Tryd.prog 43 := .of Tryd.func43 rfl (by decide)
theorem ok44 : CallOk Tryd.prog 44 := .of Tryd.func44 rfl (by decide)
theorem ok45 : CallOk Tryd.prog 45 := .of Tryd.func45 rfl (by decide)
theorem ok46 : CallOk Tryd.prog 46 := .of Tryd.func46 rfl (by decide)
theorem ok47 : CallOk Tryd.prog 47 := .of Tryd.func47 rfl (by decide)
theorem ok48 : CallOk Tryd.prog 48 := .of Tryd.func48 rfl (by decide)
theorem ok49 : CallOk Tryd.prog 49 := .of Tryd.func49 rfl (by decide)
theorem ok50 : CallOk Tryd.prog 50 := .of Tryd.func50 rfl (by decide)
theorem ok51 : CallOk Tryd.prog 51 := .of Tryd.func51 rfl (by decide)
theorem ok52 : CallOk Tryd.prog 52 := .of Tryd.func52 rfl (by decide)
theorem ok53 : CallOk Tryd.prog 53 := .of Tryd.func53 rfl (by decide)
theorem ok54 : CallOk Tryd.prog 54 := .of Tryd.func54 rfl (by decide)
theorem ok55 : CallOk Tryd.prog 55 := .of Tryd.func55 rfl (by decide)
theorem ok56 : CallOk Tryd.prog 56 := .of Tryd.func56 rfl (by decide)
theorem ok57 : CallOk Tryd.prog 57 := .of Tryd.func57 rfl (by decide)
theorem ok58 : CallOk Tryd.prog 58 := .of Tryd.func58 rfl (by decide)
theorem ok59 : CallOk Tryd.prog 59 := .of Tryd.func59 rfl (by decide)
theorem ok60 : CallOk Tryd.prog 60 := .of Tryd.func60 rfl (by decide)
theorem ok61 : CallOk Tryd.prog 61 := .of Tryd.func61 rfl (by decide)
theorem ok62 : CallOk Tryd.prog 62 := .of Tryd.func62 rfl (by decide)
theorem ok63 : CallOk Tryd.prog 63 := .of Tryd.func63 rfl (by decide)
theorem ok65 : CallOk Tryd.prog 65 := .of Tryd.func65 rfl (by decide)
theorem ok66 : CallOk Tryd.prog 66 := .of Tryd.func66 rfl (by decide)
theorem ok67 : CallOk Tryd.prog 67 := .of Tryd.func67 rfl (by decide)
theorem ok68 : CallOk Tryd.prog 68 := .of Tryd.func68 rfl (by decide)
theorem ok69 : CallOk Tryd.prog 69 := .of Tryd.func69 rfl (by decide)
theorem ok70 : CallOk Tryd.prog 70 := .of Tryd.func70 rfl (by decide)
theorem ok71 : CallOk Tryd.prog 71 := .of Tryd.func71 rfl (by decide)
theorem ok72 : CallOk Tryd.prog 72 := .of Tryd.func72 rfl (by decide)
theorem ok73 : CallOk Tryd.prog 73 := .of Tryd.func73 rfl (by decide)
theorem ok74 : CallOk Tryd.prog 74 := .of Tryd.func74 rfl (by decide)
theorem ok75 : CallOk Tryd.prog 75 := .of Tryd.func75 rfl (by decide)
theorem ok76 : CallOk Tryd.prog 76 := .of Tryd.func76 rfl (by decide)
theorem ok77 : CallOk Tryd.prog 77 := .of Tryd.func77 rfl (by decide)
theorem ok78 : CallOk Tryd.prog 78 := .of Tryd.func78 rfl (by decide)
theorem ok79 : CallOk Tryd.prog 79 := .of Tryd.func79 rfl (by decide)
theorem ok80 : CallOk Tryd.prog 80 := .of Tryd.func80 rfl (by decide)
theorem ok81 : CallOk Tryd.prog 81 := .of Tryd.func81 rfl (by decide)
theorem ok83 : CallOk Tryd.prog 83 := .of Tryd.func83 rfl (by decide)
theorem ok84 : CallOk Tryd.prog 84 := .of Tryd.func84 rfl (by decide)
theorem ok85 : CallOk Tryd.prog 85 := .of Tryd.func85 rfl (by decide)
theorem ok86 : CallOk Tryd.prog 86 := .of Tryd.func86 rfl (by decide)
theorem ok87 : CallOk Tryd.prog 87 := .of Tryd.func87 rfl (by decide)
theorem ok88 : CallOk Tryd.prog 88 := .of Tryd.func88 rfl (by decide)
theorem ok89 : CallOk Tryd.prog 89 := .of Tryd.func89 rfl (by decide)
theorem ok90 : CallOk Tryd.prog 90 := .of Tryd.func90 rfl (by decide)
theorem ok91 : CallOk Tryd.prog 91 := .of Tryd.func91 rfl (by decide)
theorem ok92 : CallOk Tryd.prog 92 := .of Tryd.func92 rfl (by decide)
theorem ok93 : CallOk Tryd.prog 93 := .of Tryd.func93 rfl (by decide)
theorem ok94 : CallOk Tryd.prog 94 := .of Tryd.func94 rfl (by decide)
theorem ok95 : CallOk Tryd.prog 95 := .of Tryd.func95 rfl (by decide)
theorem ok96 : CallOk Tryd.prog 96 := .of Tryd.func96 rfl (by decide)
theorem ok97 : CallOk Tryd.prog 97 := .of Tryd.func97 rfl (by decide)
theorem ok98 : CallOk Tryd.prog 98 := .of Tryd.func98 rfl (by decide)
theorem ok99 : CallOk Tryd.prog 99 := .of Tryd.func99 rfl (by decide)
theorem ta114 : TAgg Tryd.prog 114 true := .of (by kernel_rfl)
theorem ta23 : TAgg Tryd.prog 23 true := .of (by kernel_rfl)
theorem ta27 : TAgg Tryd.prog 27 true := .of (by kernel_rfl)
theorem ta3 : TAgg Tryd.prog 3 false := .of (by kernel_rfl)
theorem ta31 : TAgg Tryd.prog 31 true := .of (by kernel_rfl)
theorem ta36 : TAgg Tryd.prog 36 true := .of (by kernel_rfl)
theorem ta53 : TAgg Tryd.prog 53 false := .of (by kernel_rfl)
theorem ta54 : TAgg Tryd.prog 54 false := .of (by kernel_rfl)
theorem ta56 : TAgg Tryd.prog 56 true := .of (by kernel_rfl)
theorem ta58 : TAgg Tryd.prog 58 true := .of (by kernel_rfl)
theorem ta60 : TAgg Tryd.prog 60 true := .of (by kernel_rfl)
theorem ta63 : TAgg Tryd.prog 63 true := .of (by kernel_rfl)
theorem ta65 : TAgg Tryd.prog 65 true := .of (by kernel_rfl)
theorem ta67 : TAgg Tryd.prog 67 true := .of (by kernel_rfl)
theorem ta9 : TAgg Tryd.prog 9 false := .of (by kernel_rfl)
theorem tf23_0 : TField Tryd.prog 23 0 0 := .of (k := 0) (by kernel_rfl)
theorem tf23_1 : TField Tryd.prog 23 1 1 := .of (k := 0) (by kernel_rfl)
theorem tf27_0 : TField Tryd.prog 27 0 0 := .of (k := 0) (by kernel_rfl)
theorem tf27_1 : TField Tryd.prog 27 1 1 := .of (k := 0) (by kernel_rfl)
theorem tf31_0 : TField Tryd.prog 31 0 0 := .of (k := 0) (by kernel_rfl)
theorem tf31_1 : TField Tryd.prog 31 1 1 := .of (k := 0) (by kernel_rfl)
theorem tf31_2 : TField Tryd.prog 31 2 2 := .of (k := 0) (by kernel_rfl)
theorem tf36_0 : TField Tryd.prog 36 0 0 := .of (k := 0) (by kernel_rfl)
theorem tf36_1 : TField Tryd.prog 36 1 1 := .of (k := 0) (by kernel_rfl)
theorem tf36_2 : TField Tryd.prog 36 2 2 := .of (k := 0) (by kernel_rfl)
theorem tf56_0 : TField Tryd.prog 56 0 0 := .of (k := 0) (by kernel_rfl)
theorem tf56_1 : TField Tryd.prog 56 1 1 := .of (k := 0) (by kernel_rfl)
theorem tf56_2 : TField Tryd.prog 56 2 2 := .of (k := 0) (by kernel_rfl)
theorem tf58_0 : TField Tryd.prog 58 0 0 := .of (k := 2) (by kernel_rfl)
theorem tf58_1 : TField Tryd.prog 58 1 3 := .of (k := 0) (by kernel_rfl)
theorem tf58_2 : TField Tryd.prog 58 2 4 := .of (k := 0) (by kernel_rfl)
theorem tf60_0 : TField Tryd.prog 60 0 0 := .of (k := 4) (by kernel_rfl)
theorem tf60_1 : TField Tryd.prog 60 1 5 := .of (k := 2) (by kernel_rfl)
theorem tf63_0 : TField Tryd.prog 63 0 0 := .of (k := 0) (by kernel_rfl)
theorem tf63_1 : TField Tryd.prog 63 1 1 := .of (k := 0) (by kernel_rfl)
theorem tf63_2 : TField Tryd.prog 63 2 2 := .of (k := 0) (by kernel_rfl)
theorem tf65_0 : TField Tryd.prog 65 0 0 := .of (k := 2) (by kernel_rfl)
theorem tf65_1 : TField Tryd.prog 65 1 3 := .of (k := 0) (by kernel_rfl)
theorem tf65_2 : TField Tryd.prog 65 2 4 := .of (k := 0) (by kernel_rfl)
theorem tf67_0 : TField Tryd.prog 67 0 0 := .of (k := 4) (by kernel_rfl)
theorem tf67_1 : TField Tryd.prog 67 1 5 := .of (k := 2) (by kernel_rfl)
theorem ti114 : TInfo Tryd.prog 114 3 24 (.agg #[.int .i64 0, .int .i64 0, .int .i64 0]) := .of (by kernel_rfl)
theorem ti23 : TInfo Tryd.prog 23 2 32 (.agg #[.string ByteArray.empty, .string ByteArray.empty]) := .of (by kernel_rfl)
theorem ti27 : TInfo Tryd.prog 27 2 32 (.agg #[.string ByteArray.empty, .string ByteArray.empty]) := .of (by kernel_rfl)
theorem ti3 : TInfo Tryd.prog 3 1 8 (.int .i64 0) := .of (by kernel_rfl)
theorem ti31 : TInfo Tryd.prog 31 3 40 (.agg #[.string ByteArray.empty, .string ByteArray.empty, .int .i64 0]) := .of (by kernel_rfl)
theorem ti36 : TInfo Tryd.prog 36 3 40 (.agg #[.string ByteArray.empty, .string ByteArray.empty, .int .i64 0]) := .of (by kernel_rfl)
theorem ti5 : TInfo Tryd.prog 5 1 1 (.int .u8 0) := .of (by kernel_rfl)
theorem ti53 : TInfo Tryd.prog 53 1 24 (.slice none 0 0) := .of (by kernel_rfl)
theorem ti54 : TInfo Tryd.prog 54 1 24 (.slice none 0 0) := .of (by kernel_rfl)
theorem ti56 : TInfo Tryd.prog 56 3 56 (.agg #[.int .i64 0, .slice none 0 0, .slice none 0 0]) := .of (by kernel_rfl)
theorem ti58 : TInfo Tryd.prog 58 5 88 (.agg #[.int .i64 0, .slice none 0 0, .slice none 0 0, .slice none 0 0, .int .i64 0]) := .of (by kernel_rfl)
theorem ti60 : TInfo Tryd.prog 60 8 128 (.agg #[.int .i64 0, .slice none 0 0, .slice none 0 0, .slice none 0 0, .int .i64 0, .string ByteArray.empty, .string ByteArray.empty, .int .i64 0]) := .of (by kernel_rfl)
theorem ti63 : TInfo Tryd.prog 63 3 56 (.agg #[.int .i64 0, .slice none 0 0, .slice none 0 0]) := .of (by kernel_rfl)
theorem ti65 : TInfo Tryd.prog 65 5 88 (.agg #[.int .i64 0, .slice none 0 0, .slice none 0 0, .slice none 0 0, .int .i64 0]) := .of (by kernel_rfl)
theorem ti67 : TInfo Tryd.prog 67 8 128 (.agg #[.int .i64 0, .slice none 0 0, .slice none 0 0, .slice none 0 0, .int .i64 0, .string ByteArray.empty, .string ByteArray.empty, .int .i64 0]) := .of (by kernel_rfl)
theorem ti9 : TInfo Tryd.prog 9 1 16 (.string ByteArray.empty) := .of (by kernel_rfl)
end Go.Proofs

/- loop.example/g01158/laws.szLogRecord -/

namespace Go.Proofs
open Go Go.Ga
set_option linter.unusedVariables false
set_option maxRecDepth 100000
set_option maxHeartbeats 4000000
def laws_szLogRecord.f (k : Nat) (a0_0 : ByteArray) (a0_1 : ByteArray) (a1 : Int) : Option (Int) := (if (decide ((w64 (a1 - (a0_0.size : Int))) < 0)) = true then some (-1) else (if (decide ((w64 ((w64 (a1 - (a0_0.size : Int))) - (a0_1.size : Int))) < 0)) = true then some (-1) else some (w64 ((w64 (a1 - (a0_0.size : Int))) - (a0_1.size : Int)))))

theorem laws_szLogRecord.ok {k : Nat}  {a0_0 : ByteArray} {a0_1 : ByteArray} {a1 : Int} {r0 : Int} (h : laws_szLogRecord.f k a0_0 a0_1 a1 = some r0) (w : World) :
    Calls Tryd.prog 11 ([.agg ([.string a0_0, .string a0_1].toArray), .int .i64 a1] : List Value).toArray w (fun e w' => e = .returned (.int .i64 r0) ∧ Ext w w') := by
  unfold laws_szLogRecord.f at h
  refine Calls.of_tri (N := 20) Tryd.func11 rfl rfl rfl (Sep.nil (M := noM)) ?_
  refine Tri.seq ?_
  refine Tri.reg (l := [0, 1]) rfl ?_
  refine F.m rfl rfl rfl (wanted_none rfl) (m_boxG rfl rfl) ?_
  rintro _ _ ⟨b2_1, rfl, rfl⟩
  refine F.q rfl rfl rfl (wanted_none rfl) (r_assign rfl) ?_
  refine F.nil ?_
  refine Nrm.seq ?_
  refine Tri.seq ?_
  refine Tri.reg (l := [0, 1, 2, 3, 4, 5]) rfl ?_
  refine F.q rfl rfl rfl (wanted_none rfl) (r_move rfl) ?_
  refine F.q rfl rfl rfl (wanted_none rfl) (r_fieldAddr tf23_0 rfl) ?_
  refine F.q rfl rfl rfl (wanted_none rfl) (r_load ta9 rfl (fun w hw => cell_1 (box_cells (i := 0) rfl w hw) rfl)) ?_
  refine F.q rfl rfl rfl (wanted_none rfl) (r_lenS Tryd.underlying9 rfl) ?_
  refine F.q rfl rfl rfl (wanted_none rfl) (r_sub rfl rfl) ?_
  refine F.q rfl rfl rfl (wanted_none rfl) (r_assign rfl) ?_
  refine F.nil ?_
  refine Nrm.seq ?_
  refine Tri.seq ?_
  refine Tri.seq ?_
  refine Tri.reg (l := [0, 1]) rfl ?_
  refine F.q rfl rfl rfl (wanted_none rfl) (r_move rfl) ?_
  refine F.q rfl rfl rfl (wanted_none rfl) (r_lss rfl rfl) ?_
  refine F.nil ?_
  refine Nrm.seq ?_
  refine Tri.cond (b := decide ((w64 (a1 - (a0_0.size : Int))) < 0)) rfl (fun g_1 => ?_) (fun g_1 => ?_)
  · replace h := if_tt g_1 h
    refine Tri.seq ?_
    refine Tri.reg (l := [0]) rfl ?_
    refine F.q rfl rfl rfl (wanted_none rfl) (r_assign rfl) ?_
    refine F.nil ?_
    refine Nrm.seq ?_
    refine Tri.ret ?_
    refine Rtn.then ?_
    cases h
    exact Rtn.body (.tmp rfl .nil) (fun w hw => ⟨rfl, hw.ext⟩)
  · replace h := if_ff g_1 h
    refine Tri.skip ?_
    refine Nrm.seq ?_
    refine Tri.seq ?_
    refine Tri.reg (l := [0, 1, 2, 3, 4, 5]) rfl ?_
    refine F.q rfl rfl rfl (wanted_none rfl) (r_move rfl) ?_
    refine F.q rfl rfl rfl (wanted_none rfl) (r_fieldAddr tf23_1 rfl) ?_
    refine F.q rfl rfl rfl (wanted_none rfl) (r_load ta9 rfl (fun w hw => cell_1 (box_cells (i := 0) rfl w hw) rfl)) ?_
    refine F.q rfl rfl rfl (wanted_none rfl) (r_lenS Tryd.underlying9 rfl) ?_
    refine F.q rfl rfl rfl (wanted_none rfl) (r_sub rfl rfl) ?_
    refine F.q rfl rfl rfl (wanted_none rfl) (r_assign rfl) ?_
    refine F.nil ?_
    refine Nrm.seq ?_
    refine Tri.seq ?_
    refine Tri.seq ?_
    refine Tri.reg (l := [0, 1]) rfl ?_
    refine F.q rfl rfl rfl (wanted_none rfl) (r_move rfl) ?_
    refine F.q rfl rfl rfl (wanted_none rfl) (r_lss rfl rfl) ?_
    refine F.nil ?_
    refine Nrm.seq ?_
    refine Tri.cond (b := decide ((w64 ((w64 (a1 - (a0_0.size : Int))) - (a0_1.size : Int))) < 0)) rfl (fun g_2 => ?_) (fun g_2 => ?_)
    · replace h := if_tt g_2 h
      refine Tri.seq ?_
      refine Tri.reg (l := [0]) rfl ?_
      refine F.q rfl rfl rfl (wanted_none rfl) (r_assign rfl) ?_
      refine F.nil ?_
      refine Nrm.seq ?_
      refine Tri.ret ?_
      refine Rtn.then ?_
      cases h
      exact Rtn.body (.tmp rfl .nil) (fun w hw => ⟨rfl, hw.ext⟩)
    · replace h := if_ff g_2 h
      refine Tri.skip ?_
      refine Nrm.seq ?_
      refine Tri.seq ?_
      refine Tri.reg (l := [0, 1]) rfl ?_
      refine F.q rfl rfl rfl (wanted_none rfl) (r_move rfl) ?_
      refine F.q rfl rfl rfl (wanted_none rfl) (r_assign rfl) ?_
      refine F.nil ?_
      refine Nrm.seq ?_
      refine Tri.ret ?_
      cases h
      exact Rtn.body (.tmp rfl .nil) (fun w hw => ⟨rfl, hw.ext⟩)

end Go.Proofs

/- loop.example/g01158/spec.l1In -/

namespace Go.Proofs
open Go Go.Ga
set_option linter.unusedVariables false
set_option maxRecDepth 100000
set_option maxHeartbeats 4000000
def spec_l1In.f (k : Nat) (a0 : Int) (a1 : Int) (a2 : Int) : Option (Bool) := ((if (decide (a0 ≥ a1)) = true then some (decide (a0 ≤ a2)) else some false)).bind fun y6 => some y6

theorem spec_l1In.ok {k : Nat}  {a0 : Int} {a1 : Int} {a2 : Int} {r0 : Bool} (h : spec_l1In.f k a0 a1 a2 = some r0) (w : World) :
    Calls Tryd.prog 38 ([.int .i64 a0, .int .i64 a1, .int .i64 a2] : List Value).toArray w (fun e w' => e = .returned (.bool r0) ∧ Ext w w') := by
  unfold spec_l1In.f at h
  refine Calls.of_tri (N := 15) Tryd.func38 rfl rfl rfl (Sep.nil (M := noM)) ?_
  refine Tri.seq ?_
  refine Tri.reg (l := [0]) rfl ?_
  refine F.q rfl rfl rfl (wanted_none rfl) (r_assign rfl) ?_
  refine F.nil ?_
  refine Nrm.seq ?_
  refine Tri.seq ?_
  obtain ⟨y6, hE_1, h⟩ := bind_some h
  refine Tri.cut (fun e' C' => e' = [(6, .bool y6)] ∧ C' = Sep w noM []) ?_ (fun hj_1 => ?_)
  · rintro _ _ ⟨rfl, rfl⟩
    refine Nrm.seq ?_
    refine Tri.ret ?_
    cases h
    exact Rtn.body (.tmp rfl .nil) (fun w hw => ⟨rfl, hw.ext⟩)
  · rcases Bool.eq_false_or_eq_true (decide (a0 ≥ a1)) with g10 | g10
    · replace hE_1 := if_tt g10 hE_1
      refine Tri.reg (l := [0, 1, 2, 3, 4, 5, 6, 7, 8]) rfl ?_
      refine F.q rfl rfl rfl (wanted_none rfl) (r_move rfl) ?_
      refine F.q rfl rfl rfl (wanted_none rfl) (r_move rfl) ?_
      refine F.q rfl rfl rfl (wanted_none rfl) (r_geq rfl rfl) ?_
      refine F.q rfl rfl rfl (wanted_none rfl) (r_move rfl) ?_
      refine F.q rfl rfl rfl (wg rfl rfl rfl g10) (r_move rfl) ?_
      refine F.q rfl rfl rfl (wg rfl rfl rfl g10) (r_move rfl) ?_
      refine F.q rfl rfl rfl (wg rfl rfl rfl g10) (r_leq rfl rfl) ?_
      refine F.q rfl rfl rfl (wanted_none rfl) (r_pick rfl rfl g10) ?_
      refine F.q rfl rfl rfl (wanted_none rfl) (r_assign rfl) ?_
      refine F.nil ?_
      cases hE_1
      refine Nrm.only [6] rfl ?_
      refine Nrm.pick [] rfl rfl ?_
      exact hj_1 _ _ ⟨rfl, rfl⟩
    · replace hE_1 := if_ff g10 hE_1
      refine Tri.reg (l := [0, 1, 2, 3, 4, 5, 6, 7, 8]) rfl ?_
      refine F.q rfl rfl rfl (wanted_none rfl) (r_move rfl) ?_
      refine F.q rfl rfl rfl (wanted_none rfl) (r_move rfl) ?_
      refine F.q rfl rfl rfl (wanted_none rfl) (r_geq rfl rfl) ?_
      refine F.q rfl rfl rfl (wanted_none rfl) (r_move rfl) ?_
      refine F.sk rfl rfl rfl (wf rfl rfl rfl g10) ?_
      refine F.sk rfl rfl rfl (wf rfl rfl rfl g10) ?_
      refine F.sk rfl rfl rfl (wf rfl rfl rfl g10) ?_
      refine F.q rfl rfl rfl (wanted_none rfl) (r_pickf rfl rfl g10) ?_
      refine F.q rfl rfl rfl (wanted_none rfl) (r_assign rfl) ?_
      refine F.nil ?_
      cases hE_1
      refine Nrm.only [6] rfl ?_
      refine Nrm.pick [] rfl rfl ?_
      exact hj_1 _ _ ⟨rfl, rfl⟩

end Go.Proofs

/- loop.example/g01158/spec.l12Bytes -/
namespace Go.Proofs
open Go Go.Ga
set_option linter.unusedVariables false
set_option maxRecDepth 100000
set_option maxHeartbeats 4000000
def spec_l12Bytes.l0 (k : Nat) (a0 : ByteArray) : Nat → Int → Option ((Unit) ⊕ (Bool))
  | 0, _ => none
  | n + 1, x5 => (if (decide (x5 < (a0.size : Int))) = true then ((bta a0 x5).bind fun t14 => (spec_l1In.f k (IntKind.i64.wrap (t14.toNat : Int)) 32 126).bind fun t16 => (if (!t16) = true then some true else (bta a0 x5).bind fun t21 => some ((t21.toNat : Int) == 35))).bind fun y23 => (if y23 = true then some (Sum.inr false) else spec_l12Bytes.l0 k a0 n (w64 (x5 + 1))) else some (Sum.inl ()))

def spec_l12Bytes.f (k : Nat) (a0 : ByteArray) (a1 : Int) : Option (Bool) := (spec_l12Bytes.l0 k a0 k 0).bind fun s => Lr s some fun _ => some (decide ((a0.size : Int) ≤ a1))

theorem spec_l12Bytes.ok {k : Nat}  {a0 : ByteArray} {a1 : Int} {r0 : Bool} (h : spec_l12Bytes.f k a0 a1 = some r0) (w : World) :
    Calls Tryd.prog 56 ([.string a0, .int .i64 a1] : List Value).toArray w (fun e w' => e = .returned (.bool r0) ∧ Ext w w') := by
  unfold spec_l12Bytes.f at h
  refine Calls.of_tri (N := 28) Tryd.func56 rfl rfl rfl (Sep.nil (M := noM)) ?_
  refine Tri.seq ?_
  refine Tri.reg (l := [0]) rfl ?_
  refine F.q rfl rfl rfl (wanted_none rfl) (r_assign rfl) ?_
  refine F.nil ?_
  refine Nrm.seq ?_
  refine Tri.seq ?_
  refine Tri.seq ?_
  refine Tri.reg (l := [0]) rfl ?_
  refine F.q rfl rfl rfl (wanted_none rfl) (r_assign rfl) ?_
  refine F.nil ?_
  refine Nrm.seq ?_
  obtain ⟨s0, hE_1, h⟩ := bind_some h
  refine Tri.block ?_
  refine Tri.only [0, 1, 5] rfl ?_
  refine Tri.pick [] rfl rfl ?_
  refine Tri.rounds (fun n e' C' => ∃ (x5' : Int), spec_l12Bytes.l0 k a0 n x5' = some s0 ∧ e' = [(0, .string a0), (1, .int .i64 a1), (5, .int .i64 x5')] ∧ C' = Sep w noM []) k ?_ ?_ ?_
  · exact ⟨0, hE_1, rfl, rfl⟩
  · rintro _ _ ⟨_, hE_1, _⟩
    rw [spec_l12Bytes.l0.eq_1] at hE_1; cases hE_1
  · rintro n_1 _ _ ⟨x5, hE_1, rfl, rfl⟩ ih_1
    rw [spec_l12Bytes.l0.eq_2] at hE_1
    refine Tri.seq ?_
    refine Tri.seq ?_
    refine Tri.reg (l := [0, 1, 2, 3]) rfl ?_
    refine F.q rfl rfl rfl (wanted_none rfl) (r_move rfl) ?_
    refine F.q rfl rfl rfl (wanted_none rfl) (r_move rfl) ?_
    refine F.q rfl rfl rfl (wanted_none rfl) (r_lenS Tryd.underlying9 rfl) ?_
    refine F.q rfl rfl rfl (wanted_none rfl) (r_lss rfl rfl) ?_
    refine F.nil ?_
    refine Nrm.seq ?_
    refine Tri.cond (b := decide (x5 < (a0.size : Int))) rfl (fun g_1 => ?_) (fun g_1 => ?_)
    · replace hE_1 := if_tt g_1 hE_1
      refine Tri.skip ?_
      refine Nrm.seq ?_
      refine Tri.seq ?_
      refine Tri.block ?_
      refine Tri.seq ?_
      obtain ⟨y23, hE_2, hE_1⟩ := bind_some hE_1
      refine Tri.cut (fun e' C' => e' = [(0, .string a0), (1, .int .i64 a1), (5, .int .i64 x5), (23, .bool y23)] ∧ C' = Sep w noM []) ?_ (fun hj_1 => ?_)
      · rintro _ _ ⟨rfl, rfl⟩
        refine Nrm.seq ?_
        refine Tri.cond (b := y23) rfl (fun g_2 => ?_) (fun g_2 => ?_)
        · replace hE_1 := if_tt g_2 hE_1
          refine Tri.seq ?_
          refine Tri.reg (l := [0]) rfl ?_
          refine F.q rfl rfl rfl (wanted_none rfl) (r_assign rfl) ?_
          refine F.nil ?_
          refine Nrm.seq ?_
          refine Tri.ret ?_
          refine Rtn.block ?_
          refine Rtn.then ?_
          refine Rtn.then ?_
          refine Rtn.block ?_
          refine Rtn.then ?_
          cases hE_1
          replace h := Lr_inr h
          cases h
          exact Rtn.body (.tmp rfl .nil) (fun w hw => ⟨rfl, hw.ext⟩)
        · replace hE_1 := if_ff g_2 hE_1
          refine Tri.skip ?_
          refine Nrm.block ?_
          refine Nrm.seq ?_
          refine Tri.reg (l := [0, 1, 2]) rfl ?_
          refine F.q rfl rfl rfl (wanted_none rfl) (r_move rfl) ?_
          refine F.q rfl rfl rfl (wanted_none rfl) (r_add rfl rfl) ?_
          refine F.q rfl rfl rfl (wanted_none rfl) (r_assign rfl) ?_
          refine F.nil ?_
          refine Nrm.round ?_
          refine Rnd.only [0, 1, 5] rfl ?_
          refine Rnd.pick [] rfl rfl ?_
          exact ih_1 _ _ ⟨w64 (x5 + 1), hE_1, rfl, rfl⟩
      · obtain ⟨t14, h14, hE_2⟩ := bind_some hE_2
        obtain ⟨t16, h16, hE_2⟩ := bind_some hE_2
        rcases Bool.eq_false_or_eq_true (!t16) with g18 | g18
        · replace hE_2 := if_tt g18 hE_2
          refine Tri.reg (l := [0, 1, 2, 3, 4, 5, 6, 7, 8, 9, 10, 11]) rfl ?_
          refine F.q rfl rfl rfl (wanted_none rfl) (r_move rfl) ?_
          refine F.q rfl rfl rfl (wanted_none rfl) (r_move rfl) ?_
          refine F.q rfl rfl rfl (wanted_none rfl) (r_indexS Tryd.underlying9 rfl rfl (bt_some h14).1 (bt_some h14).2) ?_
          refine F.q rfl rfl rfl (wanted_none rfl) (r_conv Tryd.underlying5 Tryd.underlying3 rfl) ?_
          refine F.qc rfl rfl rfl (wanted_none rfl) (q_callF (xs := _) rfl ok38 rfl rfl (fun w hw => spec_l1In.ok h16 w )) ?_
          refine F.q rfl rfl rfl (wanted_none rfl) (r_not rfl) ?_
          refine F.q rfl rfl rfl (wanted_none rfl) (r_move rfl) ?_
          refine F.sk rfl rfl rfl (wf rfl rfl rfl g18) ?_
          refine F.sk rfl rfl rfl (wf rfl rfl rfl g18) ?_
          refine F.sk rfl rfl rfl (wf rfl rfl rfl g18) ?_
          refine F.sk rfl rfl rfl (wf rfl rfl rfl g18) ?_
          refine F.q rfl rfl rfl (wanted_none rfl) (r_pick rfl rfl g18) ?_
          refine F.nil ?_
          cases hE_2
          refine Nrm.only [0, 1, 5, 23] rfl ?_
          refine Nrm.pick [] rfl rfl ?_
          exact hj_1 _ _ ⟨rfl, rfl⟩
        · replace hE_2 := if_ff g18 hE_2
          obtain ⟨t21, h21, hE_2⟩ := bind_some hE_2
          refine Tri.reg (l := [0, 1, 2, 3, 4, 5, 6, 7, 8, 9, 10, 11]) rfl ?_
          refine F.q rfl rfl rfl (wanted_none rfl) (r_move rfl) ?_
          refine F.q rfl rfl rfl (wanted_none rfl) (r_move rfl) ?_
          refine F.q rfl rfl rfl (wanted_none rfl) (r_indexS Tryd.underlying9 rfl rfl (bt_some h14).1 (bt_some h14).2) ?_
          refine F.q rfl rfl rfl (wanted_none rfl) (r_conv Tryd.underlying5 Tryd.underlying3 rfl) ?_
          refine F.qc rfl rfl rfl (wanted_none rfl) (q_callF (xs := _) rfl ok38 rfl rfl (fun w hw => spec_l1In.ok h16 w )) ?_
          refine F.q rfl rfl rfl (wanted_none rfl) (r_not rfl) ?_
          refine F.q rfl rfl rfl (wanted_none rfl) (r_move rfl) ?_
          refine F.q rfl rfl rfl (wg rfl rfl rfl g18) (r_move rfl) ?_
          refine F.q rfl rfl rfl (wg rfl rfl rfl g18) (r_move rfl) ?_
          refine F.q rfl rfl rfl (wg rfl rfl rfl g18) (r_indexS Tryd.underlying9 rfl rfl (bt_some h21).1 (bt_some h21).2) ?_
          refine F.q rfl rfl rfl (wg rfl rfl rfl g18) (r_eql rfl rfl) ?_
          refine F.q rfl rfl rfl (wanted_none rfl) (r_pickf rfl rfl g18) ?_
          refine F.nil ?_
          cases hE_2
          refine Nrm.only [0, 1, 5, 23] rfl ?_
          refine Nrm.pick [] rfl rfl ?_
          exact hj_1 _ _ ⟨rfl, rfl⟩
    · replace hE_1 := if_ff g_1 hE_1
      refine Tri.exit ?_
      refine Exi.then ?_
      refine Exi.then ?_
      refine Exi.same ?_
      cases hE_1
      replace h := Lr_inl h
      refine Nrm.seq ?_
      refine Tri.seq ?_
      refine Tri.reg (l := [0, 1, 2, 3, 4]) rfl ?_
      refine F.q rfl rfl rfl (wanted_none rfl) (r_move rfl) ?_
      refine F.q rfl rfl rfl (wanted_none rfl) (r_lenS Tryd.underlying9 rfl) ?_
      refine F.q rfl rfl rfl (wanted_none rfl) (r_move rfl) ?_
      refine F.q rfl rfl rfl (wanted_none rfl) (r_leq rfl rfl) ?_
      refine F.q rfl rfl rfl (wanted_none rfl) (r_assign rfl) ?_
      refine F.nil ?_
      refine Nrm.seq ?_
      refine Tri.ret ?_
      cases h
      exact Rtn.body (.tmp rfl .nil) (fun w hw => ⟨rfl, hw.ext⟩)

end Go.Proofs

/- loop.example/g01158/spec.l1Stands -/

namespace Go.Proofs
open Go Go.Ga
set_option linter.unusedVariables false
set_option maxRecDepth 100000
set_option maxHeartbeats 4000000
def spec_l1Stands.l0 (k : Nat) (a0 : ByteArray) (a1 : Int) : Nat → Int → Option ((Unit) ⊕ (Bool))
  | 0, _ => none
  | n + 1, x5 => (if (decide (x5 < (a0.size : Int))) = true then (bta a0 x5).bind fun t14 => (if ((t14.toNat : Int) == a1) = true then some (Sum.inr true) else spec_l1Stands.l0 k a0 a1 n (w64 (x5 + 1))) else some (Sum.inl ()))

def spec_l1Stands.f (k : Nat) (a0 : ByteArray) (a1 : Int) : Option (Bool) := (spec_l1Stands.l0 k a0 a1 k 0).bind fun s => Lr s some fun _ => some false

theorem spec_l1Stands.ok {k : Nat}  {a0 : ByteArray} {a1 : Int} {r0 : Bool} (h : spec_l1Stands.f k a0 a1 = some r0) (w : World) :
    Calls Tryd.prog 57 ([.string a0, .int .u8 a1] : List Value).toArray w (fun e w' => e = .returned (.bool r0) ∧ Ext w w') := by
  unfold spec_l1Stands.f at h
  refine Calls.of_tri (N := 17) Tryd.func57 rfl rfl rfl (Sep.nil (M := noM)) ?_
  refine Tri.seq ?_
  refine Tri.reg (l := [0]) rfl ?_
  refine F.q rfl rfl rfl (wanted_none rfl) (r_assign rfl) ?_
  refine F.nil ?_
  refine Nrm.seq ?_
  refine Tri.seq ?_
  refine Tri.seq ?_
  refine Tri.reg (l := [0]) rfl ?_
  refine F.q rfl rfl rfl (wanted_none rfl) (r_assign rfl) ?_
  refine F.nil ?_
  refine Nrm.seq ?_
  obtain ⟨s0, hE_1, h⟩ := bind_some h
  refine Tri.block ?_
  refine Tri.only [0, 1, 5] rfl ?_
  refine Tri.pick [] rfl rfl ?_
  refine Tri.rounds (fun n e' C' => ∃ (x5' : Int), spec_l1Stands.l0 k a0 a1 n x5' = some s0 ∧ e' = [(0, .string a0), (1, .int .u8 a1), (5, .int .i64 x5')] ∧ C' = Sep w noM []) k ?_ ?_ ?_
  · exact ⟨0, hE_1, rfl, rfl⟩
  · rintro _ _ ⟨_, hE_1, _⟩
    rw [spec_l1Stands.l0.eq_1] at hE_1; cases hE_1
  · rintro n_1 _ _ ⟨x5, hE_1, rfl, rfl⟩ ih_1
    rw [spec_l1Stands.l0.eq_2] at hE_1
    refine Tri.seq ?_
    refine Tri.seq ?_
    refine Tri.reg (l := [0, 1, 2, 3]) rfl ?_
    refine F.q rfl rfl rfl (wanted_none rfl) (r_move rfl) ?_
    refine F.q rfl rfl rfl (wanted_none rfl) (r_move rfl) ?_
    refine F.q rfl rfl rfl (wanted_none rfl) (r_lenS Tryd.underlying9 rfl) ?_
    refine F.q rfl rfl rfl (wanted_none rfl) (r_lss rfl rfl) ?_
    refine F.nil ?_
    refine Nrm.seq ?_
    refine Tri.cond (b := decide (x5 < (a0.size : Int))) rfl (fun g_1 => ?_) (fun g_1 => ?_)
    · replace hE_1 := if_tt g_1 hE_1
      refine Tri.skip ?_
      refine Nrm.seq ?_
      refine Tri.seq ?_
      refine Tri.block ?_
      refine Tri.seq ?_
      obtain ⟨t14, h14, hE_1⟩ := bind_some hE_1
      refine Tri.reg (l := [0, 1, 2, 3, 4]) rfl ?_
      refine F.q rfl rfl rfl (wanted_none rfl) (r_move rfl) ?_
      refine F.q rfl rfl rfl (wanted_none rfl) (r_move rfl) ?_
      refine F.q rfl rfl rfl (wanted_none rfl) (r_indexS Tryd.underlying9 rfl rfl (bt_some h14).1 (bt_some h14).2) ?_
      refine F.q rfl rfl rfl (wanted_none rfl) (r_move rfl) ?_
      refine F.q rfl rfl rfl (wanted_none rfl) (r_eql rfl rfl) ?_
      refine F.nil ?_
      refine Nrm.seq ?_
      refine Tri.cond (b := (t14.toNat : Int) == a1) rfl (fun g_2 => ?_) (fun g_2 => ?_)
      · replace hE_1 := if_tt g_2 hE_1
        refine Tri.seq ?_
        refine Tri.reg (l := [0]) rfl ?_
        refine F.q rfl rfl rfl (wanted_none rfl) (r_assign rfl) ?_
        refine F.nil ?_
        refine Nrm.seq ?_
        refine Tri.ret ?_
        refine Rtn.block ?_
        refine Rtn.then ?_
        refine Rtn.then ?_
        refine Rtn.block ?_
        refine Rtn.then ?_
        cases hE_1
        replace h := Lr_inr h
        cases h
        exact Rtn.body (.tmp rfl .nil) (fun w hw => ⟨rfl, hw.ext⟩)
      · replace hE_1 := if_ff g_2 hE_1
        refine Tri.skip ?_
        refine Nrm.block ?_
        refine Nrm.seq ?_
        refine Tri.reg (l := [0, 1, 2]) rfl ?_
        refine F.q rfl rfl rfl (wanted_none rfl) (r_move rfl) ?_
        refine F.q rfl rfl rfl (wanted_none rfl) (r_add rfl rfl) ?_
        refine F.q rfl rfl rfl (wanted_none rfl) (r_assign rfl) ?_
        refine F.nil ?_
        refine Nrm.round ?_
        refine Rnd.only [0, 1, 5] rfl ?_
        refine Rnd.pick [] rfl rfl ?_
        exact ih_1 _ _ ⟨w64 (x5 + 1), hE_1, rfl, rfl⟩
    · replace hE_1 := if_ff g_1 hE_1
      refine Tri.exit ?_
      refine Exi.then ?_
      refine Exi.then ?_
      refine Exi.same ?_
      cases hE_1
      replace h := Lr_inl h
      refine Nrm.seq ?_
      refine Tri.seq ?_
      refine Tri.reg (l := [0]) rfl ?_
      refine F.q rfl rfl rfl (wanted_none rfl) (r_assign rfl) ?_
      refine F.nil ?_
      refine Nrm.seq ?_
      refine Tri.ret ?_
      cases h
      exact Rtn.body (.tmp rfl .nil) (fun w hw => ⟨rfl, hw.ext⟩)

end Go.Proofs

/- loop.example/g01158/spec.l12Record -/
namespace Go.Proofs
open Go Go.Ga
set_option linter.unusedVariables false
set_option maxRecDepth 100000
set_option maxHeartbeats 4000000
def spec_l12Record.f (k : Nat) (a0_0 : ByteArray) (a0_1 : ByteArray) : Option (Bool) := ((if (!(a0_0.toList == ByteArray.empty.toList)) = true then (spec_l12Bytes.f k a0_0 160).bind fun t9 => (if t9 = true then (spec_l1Stands.f k a0_0 64).bind fun t14 => (if (!t14) = true then (spec_l12Bytes.f k a0_1 250).bind fun t20 => some t20 else some false) else some false) else some false)).bind fun y2 => some y2

theorem spec_l12Record.ok {k : Nat}  {a0_0 : ByteArray} {a0_1 : ByteArray} {r0 : Bool} (h : spec_l12Record.f k a0_0 a0_1 = some r0) (w : World) :
    Calls Tryd.prog 39 ([.agg ([.string a0_0, .string a0_1].toArray)] : List Value).toArray w (fun e w' => e = .returned (.bool r0) ∧ Ext w w') := by
  unfold spec_l12Record.f at h
  refine Calls.of_tri (N := 22) Tryd.func39 rfl rfl rfl (Sep.nil (M := noM)) ?_
  refine Tri.seq ?_
  refine Tri.reg (l := [0, 1]) rfl ?_
  refine F.m rfl rfl rfl (wanted_none rfl) (m_boxG rfl rfl) ?_
  rintro _ _ ⟨b1_1, rfl, rfl⟩
  refine F.q rfl rfl rfl (wanted_none rfl) (r_assign rfl) ?_
  refine F.nil ?_
  refine Nrm.seq ?_
  refine Tri.seq ?_
  obtain ⟨y2, hE_1, h⟩ := bind_some h
  refine Tri.cut (fun e' C' => e' = [(2, .bool y2)] ∧ C' = Sep w noM []) ?_ (fun hj_1 => ?_)
  · rintro _ _ ⟨rfl, rfl⟩
    refine Nrm.seq ?_
    refine Tri.ret ?_
    cases h
    exact Rtn.body (.tmp rfl .nil) (fun w hw => ⟨rfl, hw.ext⟩)
  · rcases Bool.eq_false_or_eq_true (!(a0_0.toList == ByteArray.empty.toList)) with g6 | g6
    · replace hE_1 := if_tt g6 hE_1
      obtain ⟨t9, h9, hE_1⟩ := bind_some hE_1
      rcases Bool.eq_false_or_eq_true (t9) with g11 | g11
      · replace hE_1 := if_tt g11 hE_1
        obtain ⟨t14, h14, hE_1⟩ := bind_some hE_1
        rcases Bool.eq_false_or_eq_true (!t14) with g17 | g17
        · replace hE_1 := if_tt g17 hE_1
          obtain ⟨t20, h20, hE_1⟩ := bind_some hE_1
          refine Tri.reg (l := [0, 1, 2, 3, 4, 5, 6, 7, 8, 9, 10, 11, 12, 13, 14, 15, 16, 17, 18, 19]) rfl ?_
          refine F.q rfl rfl rfl (wanted_none rfl) (r_fieldAddr tf27_0 rfl) ?_
          refine F.q rfl rfl rfl (wanted_none rfl) (r_load ta9 rfl (fun w hw => cell_1 (box_cells (i := 0) rfl w hw) rfl)) ?_
          refine F.q rfl rfl rfl (wanted_none rfl) (r_neqS rfl rfl) ?_
          refine F.q rfl rfl rfl (wanted_none rfl) (r_move rfl) ?_
          refine F.q rfl rfl rfl (wg rfl rfl rfl g6) (r_fieldAddr tf27_0 rfl) ?_
          refine F.q rfl rfl rfl (wg rfl rfl rfl g6) (r_load ta9 rfl (fun w hw => cell_1 (box_cells (i := 0) rfl w hw) rfl)) ?_
          refine F.qc rfl rfl rfl (wg rfl rfl rfl g6) (q_callF (xs := _) rfl ok56 rfl rfl (fun w hw => spec_l12Bytes.ok h9 w )) ?_
          refine F.q rfl rfl rfl (wanted_none rfl) (r_pick rfl rfl g6) ?_
          refine F.q rfl rfl rfl (wanted_none rfl) (r_move rfl) ?_
          refine F.q rfl rfl rfl (wg rfl rfl rfl g11) (r_fieldAddr tf27_0 rfl) ?_
          refine F.q rfl rfl rfl (wg rfl rfl rfl g11) (r_load ta9 rfl (fun w hw => cell_1 (box_cells (i := 0) rfl w hw) rfl)) ?_
          refine F.qc rfl rfl rfl (wg rfl rfl rfl g11) (q_callF (xs := _) rfl ok57 rfl rfl (fun w hw => spec_l1Stands.ok h14 w )) ?_
          refine F.q rfl rfl rfl (wg rfl rfl rfl g11) (r_not rfl) ?_
          refine F.q rfl rfl rfl (wanted_none rfl) (r_pick rfl rfl g11) ?_
          refine F.q rfl rfl rfl (wanted_none rfl) (r_move rfl) ?_
          refine F.q rfl rfl rfl (wg rfl rfl rfl g17) (r_fieldAddr tf27_1 rfl) ?_
          refine F.q rfl rfl rfl (wg rfl rfl rfl g17) (r_load ta9 rfl (fun w hw => cell_1 (box_cells (i := 0) rfl w hw) rfl)) ?_
          refine F.qc rfl rfl rfl (wg rfl rfl rfl g17) (q_callF (xs := _) rfl ok56 rfl rfl (fun w hw => spec_l12Bytes.ok h20 w )) ?_
          refine F.q rfl rfl rfl (wanted_none rfl) (r_pick rfl rfl g17) ?_
          refine F.q rfl rfl rfl (wanted_none rfl) (r_assign rfl) ?_
          refine F.nil ?_
          cases hE_1
          refine Nrm.only [2] rfl ?_
          refine Nrm.pick [] rfl rfl ?_
          exact hj_1 _ _ ⟨rfl, rfl⟩
        · replace hE_1 := if_ff g17 hE_1
          refine Tri.reg (l := [0, 1, 2, 3, 4, 5, 6, 7, 8, 9, 10, 11, 12, 13, 14, 15, 16, 17, 18, 19]) rfl ?_
          refine F.q rfl rfl rfl (wanted_none rfl) (r_fieldAddr tf27_0 rfl) ?_
          refine F.q rfl rfl rfl (wanted_none rfl) (r_load ta9 rfl (fun w hw => cell_1 (box_cells (i := 0) rfl w hw) rfl)) ?_
          refine F.q rfl rfl rfl (wanted_none rfl) (r_neqS rfl rfl) ?_
          refine F.q rfl rfl rfl (wanted_none rfl) (r_move rfl) ?_
          refine F.q rfl rfl rfl (wg rfl rfl rfl g6) (r_fieldAddr tf27_0 rfl) ?_
          refine F.q rfl rfl rfl (wg rfl rfl rfl g6) (r_load ta9 rfl (fun w hw => cell_1 (box_cells (i := 0) rfl w hw) rfl)) ?_
          refine F.qc rfl rfl rfl (wg rfl rfl rfl g6) (q_callF (xs := _) rfl ok56 rfl rfl (fun w hw => spec_l12Bytes.ok h9 w )) ?_
          refine F.q rfl rfl rfl (wanted_none rfl) (r_pick rfl rfl g6) ?_
          refine F.q rfl rfl rfl (wanted_none rfl) (r_move rfl) ?_
          refine F.q rfl rfl rfl (wg rfl rfl rfl g11) (r_fieldAddr tf27_0 rfl) ?_
          refine F.q rfl rfl rfl (wg rfl rfl rfl g11) (r_load ta9 rfl (fun w hw => cell_1 (box_cells (i := 0) rfl w hw) rfl)) ?_
          refine F.qc rfl rfl rfl (wg rfl rfl rfl g11) (q_callF (xs := _) rfl ok57 rfl rfl (fun w hw => spec_l1Stands.ok h14 w )) ?_
          refine F.q rfl rfl rfl (wg rfl rfl rfl g11) (r_not rfl) ?_
          refine F.q rfl rfl rfl (wanted_none rfl) (r_pick rfl rfl g11) ?_
          refine F.q rfl rfl rfl (wanted_none rfl) (r_move rfl) ?_
          refine F.sk rfl rfl rfl (wf rfl rfl rfl g17) ?_
          refine F.sk rfl rfl rfl (wf rfl rfl rfl g17) ?_
          refine F.sk rfl rfl rfl (wf rfl rfl rfl g17) ?_
          refine F.q rfl rfl rfl (wanted_none rfl) (r_pickf rfl rfl g17) ?_
          refine F.q rfl rfl rfl (wanted_none rfl) (r_assign rfl) ?_
          refine F.nil ?_
          cases hE_1
          refine Nrm.only [2] rfl ?_
          refine Nrm.pick [] rfl rfl ?_
          exact hj_1 _ _ ⟨rfl, rfl⟩
      · replace hE_1 := if_ff g11 hE_1
        refine Tri.reg (l := [0, 1, 2, 3, 4, 5, 6, 7, 8, 9, 10, 11, 12, 13, 14, 15, 16, 17, 18, 19]) rfl ?_
        refine F.q rfl rfl rfl (wanted_none rfl) (r_fieldAddr tf27_0 rfl) ?_
        refine F.q rfl rfl rfl (wanted_none rfl) (r_load ta9 rfl (fun w hw => cell_1 (box_cells (i := 0) rfl w hw) rfl)) ?_
        refine F.q rfl rfl rfl (wanted_none rfl) (r_neqS rfl rfl) ?_
        refine F.q rfl rfl rfl (wanted_none rfl) (r_move rfl) ?_
        refine F.q rfl rfl rfl (wg rfl rfl rfl g6) (r_fieldAddr tf27_0 rfl) ?_
        refine F.q rfl rfl rfl (wg rfl rfl rfl g6) (r_load ta9 rfl (fun w hw => cell_1 (box_cells (i := 0) rfl w hw) rfl)) ?_
        refine F.qc rfl rfl rfl (wg rfl rfl rfl g6) (q_callF (xs := _) rfl ok56 rfl rfl (fun w hw => spec_l12Bytes.ok h9 w )) ?_
        refine F.q rfl rfl rfl (wanted_none rfl) (r_pick rfl rfl g6) ?_
        refine F.q rfl rfl rfl (wanted_none rfl) (r_move rfl) ?_
        refine F.sk rfl rfl rfl (wf rfl rfl rfl g11) ?_
        refine F.sk rfl rfl rfl (wf rfl rfl rfl g11) ?_
        refine F.sk rfl rfl rfl (wf rfl rfl rfl g11) ?_
        refine F.sk rfl rfl rfl (wf rfl rfl rfl g11) ?_
        refine F.q rfl rfl rfl (wanted_none rfl) (r_pickf rfl rfl g11) ?_
        refine F.q rfl rfl rfl (wanted_none rfl) (r_move rfl) ?_
        refine F.sk rfl rfl rfl (wf rfl rfl rfl rfl) ?_
        refine F.sk rfl rfl rfl (wf rfl rfl rfl rfl) ?_
        refine F.sk rfl rfl rfl (wf rfl rfl rfl rfl) ?_
        refine F.q rfl rfl rfl (wanted_none rfl) (r_pickf rfl rfl rfl) ?_
        refine F.q rfl rfl rfl (wanted_none rfl) (r_assign rfl) ?_
        refine F.nil ?_
        cases hE_1
        refine Nrm.only [2] rfl ?_
        refine Nrm.pick [] rfl rfl ?_
        exact hj_1 _ _ ⟨rfl, rfl⟩
    · replace hE_1 := if_ff g6 hE_1
      refine Tri.reg (l := [0, 1, 2, 3, 4, 5, 6, 7, 8, 9, 10, 11, 12, 13, 14, 15, 16, 17, 18, 19]) rfl ?_
      refine F.q rfl rfl rfl (wanted_none rfl) (r_fieldAddr tf27_0 rfl) ?_
      refine F.q rfl rfl rfl (wanted_none rfl) (r_load ta9 rfl (fun w hw => cell_1 (box_cells (i := 0) rfl w hw) rfl)) ?_
      refine F.q rfl rfl rfl (wanted_none rfl) (r_neqS rfl rfl) ?_
      refine F.q rfl rfl rfl (wanted_none rfl) (r_move rfl) ?_
      refine F.sk rfl rfl rfl (wf rfl rfl rfl g6) ?_
      refine F.sk rfl rfl rfl (wf rfl rfl rfl g6) ?_
      refine F.sk rfl rfl rfl (wf rfl rfl rfl g6) ?_
      refine F.q rfl rfl rfl (wanted_none rfl) (r_pickf rfl rfl g6) ?_
      refine F.q rfl rfl rfl (wanted_none rfl) (r_move rfl) ?_
      refine F.sk rfl rfl rfl (wf rfl rfl rfl rfl) ?_
      refine F.sk rfl rfl rfl (wf rfl rfl rfl rfl) ?_
      refine F.sk rfl rfl rfl (wf rfl rfl rfl rfl) ?_
      refine F.sk rfl rfl rfl (wf rfl rfl rfl rfl) ?_
      refine F.q rfl rfl rfl (wanted_none rfl) (r_pickf rfl rfl rfl) ?_
      refine F.q rfl rfl rfl (wanted_none rfl) (r_move rfl) ?_
      refine F.sk rfl rfl rfl (wf rfl rfl rfl rfl) ?_
      refine F.sk rfl rfl rfl (wf rfl rfl rfl rfl) ?_
      refine F.sk rfl rfl rfl (wf rfl rfl rfl rfl) ?_
      refine F.q rfl rfl rfl (wanted_none rfl) (r_pickf rfl rfl rfl) ?_
      refine F.q rfl rfl rfl (wanted_none rfl) (r_assign rfl) ?_
      refine F.nil ?_
      cases hE_1
      refine Nrm.only [2] rfl ?_
      refine Nrm.pick [] rfl rfl ?_
      exact hj_1 _ _ ⟨rfl, rfl⟩

end Go.Proofs

/- loop.example/g01158/spec.l1Num -/

namespace Go.Proofs
open Go Go.Ga
set_option linter.unusedVariables false
set_option maxRecDepth 100000
set_option maxHeartbeats 4000000
def spec_l1Num.r (k : Nat) : Nat → Int → Option (ByteArray)
  | 0, _ => none
  | q + 1, a0 => (if (decide (a0 < 0)) = true then (spec_l1Num.r k q (w64 (0 - a0))).bind fun t7 => if ((ByteArray.mk #[45]) ++ t7).size < 4611686018427387904 then some ((ByteArray.mk #[45]) ++ t7) else none else (if (decide (a0 < 10)) = true then (scut (ByteArray.mk #[48, 49, 50, 51, 52, 53, 54, 55, 56, 57]) a0 (w64 (a0 + 1))).bind fun t14 => some t14 else (spec_l1Num.r k q (quo a0 10)).bind fun t17 => (scut (ByteArray.mk #[48, 49, 50, 51, 52, 53, 54, 55, 56, 57]) (rem a0 10) (w64 ((rem a0 10) + 1))).bind fun t23 => if (t17 ++ t23).size < 4611686018427387904 then some (t17 ++ t23) else none))

def spec_l1Num.f (k : Nat) (a0 : Int) : Option (ByteArray) := spec_l1Num.r k k a0

theorem spec_l1Num.rok (k : Nat) : ∀ (q : Nat)  {a0 : Int} {r0 : ByteArray} (h : spec_l1Num.r k q a0 = some r0) (w : World),
    Calls Tryd.prog 59 ([.int .i64 a0] : List Value).toArray w (fun e w' => e = .returned (.string r0) ∧ Ext w w') := by
  intro q
  induction q with
  | zero => intro a0 r0 h w; rw [spec_l1Num.r.eq_1] at h; cases h
  | succ q ih =>
    intro a0 r0 h w
    rw [spec_l1Num.r.eq_2] at h
    refine Calls.of_tri (N := 25) Tryd.func59 rfl rfl rfl (Sep.nil (M := noM)) ?_
    refine Tri.seq ?_
    refine Tri.reg (l := [0]) rfl ?_
    refine F.q rfl rfl rfl (wanted_none rfl) (r_assign rfl) ?_
    refine F.nil ?_
    refine Nrm.seq ?_
    refine Tri.seq ?_
    refine Tri.seq ?_
    refine Tri.reg (l := [0, 1]) rfl ?_
    refine F.q rfl rfl rfl (wanted_none rfl) (r_move rfl) ?_
    refine F.q rfl rfl rfl (wanted_none rfl) (r_lss rfl rfl) ?_
    refine F.nil ?_
    refine Nrm.seq ?_
    refine Tri.cond (b := decide (a0 < 0)) rfl (fun g_1 => ?_) (fun g_1 => ?_)
    · replace h := if_tt g_1 h
      refine Tri.seq ?_
      obtain ⟨t7, h7, h⟩ := bind_some h
      obtain ⟨hs8, h⟩ := ck h
      refine Tri.reg (l := [0, 1, 2, 3, 4]) rfl ?_
      refine F.q rfl rfl rfl (wanted_none rfl) (r_move rfl) ?_
      refine F.q rfl rfl rfl (wanted_none rfl) (r_neg rfl) ?_
      refine F.qc rfl rfl rfl (wanted_none rfl) (q_callF (xs := _) rfl ok59 rfl rfl (fun w hw => ih h7 w )) ?_
      refine F.q rfl rfl rfl (wanted_none rfl) (r_addS rfl rfl hs8) ?_
      refine F.q rfl rfl rfl (wanted_none rfl) (r_assign rfl) ?_
      refine F.nil ?_
      refine Nrm.seq ?_
      refine Tri.ret ?_
      refine Rtn.then ?_
      cases h
      exact Rtn.body (.tmp rfl .nil) (fun w hw => ⟨rfl, hw.ext⟩)
    · replace h := if_ff g_1 h
      refine Tri.skip ?_
      refine Nrm.seq ?_
      refine Tri.seq ?_
      refine Tri.seq ?_
      refine Tri.reg (l := [0, 1]) rfl ?_
      refine F.q rfl rfl rfl (wanted_none rfl) (r_move rfl) ?_
      refine F.q rfl rfl rfl (wanted_none rfl) (r_lss rfl rfl) ?_
      refine F.nil ?_
      refine Nrm.seq ?_
      refine Tri.cond (b := decide (a0 < 10)) rfl (fun g_2 => ?_) (fun g_2 => ?_)
      · replace h := if_tt g_2 h
        refine Tri.seq ?_
        obtain ⟨t14, h14, h⟩ := bind_some h
        refine Tri.reg (l := [0, 1, 2, 3, 4]) rfl ?_
        refine F.q rfl rfl rfl (wanted_none rfl) (r_move rfl) ?_
        refine F.q rfl rfl rfl (wanted_none rfl) (r_move rfl) ?_
        refine F.q rfl rfl rfl (wanted_none rfl) (r_add rfl rfl) ?_
        refine F.q rfl rfl rfl (wanted_none rfl) (r_scutLH Tryd.underlying9 rfl rfl rfl h14) ?_
        refine F.q rfl rfl rfl (wanted_none rfl) (r_assign rfl) ?_
        refine F.nil ?_
        refine Nrm.seq ?_
        refine Tri.ret ?_
        refine Rtn.then ?_
        cases h
        exact Rtn.body (.tmp rfl .nil) (fun w hw => ⟨rfl, hw.ext⟩)
      · replace h := if_ff g_2 h
        refine Tri.skip ?_
        refine Nrm.seq ?_
        refine Tri.seq ?_
        obtain ⟨t17, h17, h⟩ := bind_some h
        obtain ⟨t23, h23, h⟩ := bind_some h
        obtain ⟨hs24, h⟩ := ck h
        refine Tri.drawA mixedT Sep.up [(0, true), (1, true), (2, true), (3, true), (4, true), (5, true), (6, true), (7, true), (8, true), (9, true), (10, true)] [] (by kernel_rfl) ?_
        refine S.q rfl rfl rfl (wanted_none rfl) (r_move rfl) ?_
        refine S.q rfl rfl rfl (wanted_none rfl) (r_quo rfl rfl (by decide)) ?_
        refine S.qc rfl rfl rfl (wanted_none rfl) (q_callF (xs := _) rfl ok59 rfl rfl (fun w hw => ih h17 w )) ?_
        refine S.q rfl rfl rfl (wanted_none rfl) (r_move rfl) ?_
        refine S.q rfl rfl rfl (wanted_none rfl) (r_rem rfl rfl (by decide)) ?_
        refine S.q rfl rfl rfl (wanted_none rfl) (r_move rfl) ?_
        refine S.q rfl rfl rfl (wanted_none rfl) (r_rem rfl rfl (by decide)) ?_
        refine S.q rfl rfl rfl (wanted_none rfl) (r_add rfl rfl) ?_
        refine S.q rfl rfl rfl (wanted_none rfl) (r_scutLH Tryd.underlying9 rfl rfl rfl h23) ?_
        refine S.q rfl rfl rfl (wanted_none rfl) (r_addS rfl rfl hs24) ?_
        refine S.q rfl rfl rfl (wanted_none rfl) (r_assign rfl) ?_
        refine S.nil ?_
        refine F.nil ?_
        refine Nrm.seq ?_
        refine Tri.ret ?_
        cases h
        exact Rtn.body (.tmp rfl .nil) (fun w hw => ⟨rfl, hw.ext⟩)

theorem spec_l1Num.ok {k : Nat}  {a0 : Int} {r0 : ByteArray} (h : spec_l1Num.f k a0 = some r0) (w : World) :
    Calls Tryd.prog 59 ([.int .i64 a0] : List Value).toArray w (fun e w' => e = .returned (.string r0) ∧ Ext w w') := by
  exact spec_l1Num.rok k k h w

end Go.Proofs

/- loop.example/g01158/spec.l1Sum -/

namespace Go.Proofs
open Go Go.Ga
set_option linter.unusedVariables false
set_option maxRecDepth 100000
set_option maxHeartbeats 4000000
def spec_l1Sum.l0 (k : Nat) (a0 : ByteArray) : Nat → Int → Int → Option (Int)
  | 0, _, _ => none
  | n + 1, x3, x4 => (if (decide (x4 < (a0.size : Int))) = true then (bta a0 x4).bind fun t15 => spec_l1Sum.l0 k a0 n (rem (w64 ((w64 ((w64 (41 * x3)) + (IntKind.i64.wrap (t15.toNat : Int)))) + 1)) 999979) (w64 (x4 + 1)) else some x3)

def spec_l1Sum.f (k : Nat) (a0 : ByteArray) : Option (Int) := (spec_l1Sum.l0 k a0 k 7 0).bind fun x3 => some x3

theorem spec_l1Sum.ok {k : Nat}  {a0 : ByteArray} {r0 : Int} (h : spec_l1Sum.f k a0 = some r0) (w : World) :
    Calls Tryd.prog 79 ([.string a0] : List Value).toArray w (fun e w' => e = .returned (.int .i64 r0) ∧ Ext w w') := by
  unfold spec_l1Sum.f at h
  refine Calls.of_tri (N := 21) Tryd.func79 rfl rfl rfl (Sep.nil (M := noM)) ?_
  refine Tri.seq ?_
  refine Tri.reg (l := [0]) rfl ?_
  refine F.q rfl rfl rfl (wanted_none rfl) (r_assign rfl) ?_
  refine F.nil ?_
  refine Nrm.seq ?_
  refine Tri.seq ?_
  refine Tri.reg (l := [0]) rfl ?_
  refine F.q rfl rfl rfl (wanted_none rfl) (r_assign rfl) ?_
  refine F.nil ?_
  refine Nrm.seq ?_
  refine Tri.seq ?_
  refine Tri.seq ?_
  refine Tri.reg (l := [0]) rfl ?_
  refine F.q rfl rfl rfl (wanted_none rfl) (r_assign rfl) ?_
  refine F.nil ?_
  refine Nrm.seq ?_
  obtain ⟨x3, hE_1, h⟩ := bind_some h
  refine Tri.block ?_
  refine Tri.only [0, 3, 4] rfl ?_
  refine Tri.pick [] rfl rfl ?_
  refine Tri.rounds (fun n e' C' => ∃ (x3' : Int) (x4' : Int), spec_l1Sum.l0 k a0 n x3' x4' = some x3 ∧ e' = [(0, .string a0), (3, .int .i64 x3'), (4, .int .i64 x4')] ∧ C' = Sep w noM []) k ?_ ?_ ?_
  · exact ⟨7, 0, hE_1, rfl, rfl⟩
  · rintro _ _ ⟨_, _, hE_1, _⟩
    rw [spec_l1Sum.l0.eq_1] at hE_1; cases hE_1
  · rintro n_1 _ _ ⟨x3, x4, hE_1, rfl, rfl⟩ ih_1
    rw [spec_l1Sum.l0.eq_2] at hE_1
    refine Tri.seq ?_
    refine Tri.seq ?_
    refine Tri.reg (l := [0, 1, 2, 3]) rfl ?_
    refine F.q rfl rfl rfl (wanted_none rfl) (r_move rfl) ?_
    refine F.q rfl rfl rfl (wanted_none rfl) (r_move rfl) ?_
    refine F.q rfl rfl rfl (wanted_none rfl) (r_lenS Tryd.underlying9 rfl) ?_
    refine F.q rfl rfl rfl (wanted_none rfl) (r_lss rfl rfl) ?_
    refine F.nil ?_
    refine Nrm.seq ?_
    refine Tri.cond (b := decide (x4 < (a0.size : Int))) rfl (fun g_1 => ?_) (fun g_1 => ?_)
    · replace hE_1 := if_tt g_1 hE_1
      refine Tri.skip ?_
      refine Nrm.seq ?_
      refine Tri.seq ?_
      refine Tri.block ?_
      obtain ⟨t15, h15, hE_1⟩ := bind_some hE_1
      refine Tri.reg (l := [0, 1, 2, 3, 4, 5, 6, 7, 8, 9]) rfl ?_
      refine F.q rfl rfl rfl (wanted_none rfl) (r_move rfl) ?_
      refine F.q rfl rfl rfl (wanted_none rfl) (r_mul rfl rfl) ?_
      refine F.q rfl rfl rfl (wanted_none rfl) (r_move rfl) ?_
      refine F.q rfl rfl rfl (wanted_none rfl) (r_move rfl) ?_
      refine F.q rfl rfl rfl (wanted_none rfl) (r_indexS Tryd.underlying9 rfl rfl (bt_some h15).1 (bt_some h15).2) ?_
      refine F.q rfl rfl rfl (wanted_none rfl) (r_conv Tryd.underlying5 Tryd.underlying3 rfl) ?_
      refine F.q rfl rfl rfl (wanted_none rfl) (r_add rfl rfl) ?_
      refine F.q rfl rfl rfl (wanted_none rfl) (r_add rfl rfl) ?_
      refine F.q rfl rfl rfl (wanted_none rfl) (r_rem rfl rfl (by decide)) ?_
      refine F.q rfl rfl rfl (wanted_none rfl) (r_assign rfl) ?_
      refine F.nil ?_
      refine Nrm.block ?_
      refine Nrm.seq ?_
      refine Tri.reg (l := [0, 1, 2]) rfl ?_
      refine F.q rfl rfl rfl (wanted_none rfl) (r_move rfl) ?_
      refine F.q rfl rfl rfl (wanted_none rfl) (r_add rfl rfl) ?_
      refine F.q rfl rfl rfl (wanted_none rfl) (r_assign rfl) ?_
      refine F.nil ?_
      refine Nrm.round ?_
      refine Rnd.only [0, 3, 4] rfl ?_
      refine Rnd.pick [] rfl rfl ?_
      exact ih_1 _ _ ⟨rem (w64 ((w64 ((w64 (41 * x3)) + (IntKind.i64.wrap (t15.toNat : Int)))) + 1)) 999979, w64 (x4 + 1), hE_1, rfl, rfl⟩
    · replace hE_1 := if_ff g_1 hE_1
      refine Tri.exit ?_
      refine Exi.then ?_
      refine Exi.then ?_
      refine Exi.same ?_
      cases hE_1
      refine Nrm.seq ?_
      refine Tri.seq ?_
      refine Tri.reg (l := [0, 1]) rfl ?_
      refine F.q rfl rfl rfl (wanted_none rfl) (r_move rfl) ?_
      refine F.q rfl rfl rfl (wanted_none rfl) (r_assign rfl) ?_
      refine F.nil ?_
      refine Nrm.seq ?_
      refine Tri.ret ?_
      cases h
      exact Rtn.body (.tmp rfl .nil) (fun w hw => ⟨rfl, hw.ext⟩)

end Go.Proofs

/- loop.example/g01158/spec.l1Seal -/
namespace Go.Proofs
open Go Go.Ga
set_option linter.unusedVariables false
set_option maxRecDepth 100000
set_option maxHeartbeats 4000000
def spec_l1Seal.f (k : Nat) (a0 : ByteArray) : Option (ByteArray) := if (a0 ++ (ByteArray.mk #[35])).size < 4611686018427387904 then (spec_l1Sum.f k a0).bind fun t6 => (spec_l1Num.f k t6).bind fun t7 => if ((a0 ++ (ByteArray.mk #[35])) ++ t7).size < 4611686018427387904 then some ((a0 ++ (ByteArray.mk #[35])) ++ t7) else none else none

theorem spec_l1Seal.ok {k : Nat}  {a0 : ByteArray} {r0 : ByteArray} (h : spec_l1Seal.f k a0 = some r0) (w : World) :
    Calls Tryd.prog 58 ([.string a0] : List Value).toArray w (fun e w' => e = .returned (.string r0) ∧ Ext w w') := by
  unfold spec_l1Seal.f at h
  refine Calls.of_tri (N := 9) Tryd.func58 rfl rfl rfl (Sep.nil (M := noM)) ?_
  refine Tri.seq ?_
  refine Tri.reg (l := [0]) rfl ?_
  refine F.q rfl rfl rfl (wanted_none rfl) (r_assign rfl) ?_
  refine F.nil ?_
  refine Nrm.seq ?_
  refine Tri.seq ?_
  obtain ⟨hs4, h⟩ := ck h
  obtain ⟨t6, h6, h⟩ := bind_some h
  obtain ⟨t7, h7, h⟩ := bind_some h
  obtain ⟨hs8, h⟩ := ck h
  refine Tri.reg (l := [0, 1, 2, 3, 4, 5, 6]) rfl ?_
  refine F.q rfl rfl rfl (wanted_none rfl) (r_move rfl) ?_
  refine F.q rfl rfl rfl (wanted_none rfl) (r_addS rfl rfl hs4) ?_
  refine F.q rfl rfl rfl (wanted_none rfl) (r_move rfl) ?_
  refine F.qc rfl rfl rfl (wanted_none rfl) (q_callF (xs := _) rfl ok79 rfl rfl (fun w hw => spec_l1Sum.ok h6 w )) ?_
  refine F.qc rfl rfl rfl (wanted_none rfl) (q_callF (xs := _) rfl ok59 rfl rfl (fun w hw => spec_l1Num.ok h7 w )) ?_
  refine F.q rfl rfl rfl (wanted_none rfl) (r_addS rfl rfl hs8) ?_
  refine F.q rfl rfl rfl (wanted_none rfl) (r_assign rfl) ?_
  refine F.nil ?_
  refine Nrm.seq ?_
  refine Tri.ret ?_
  cases h
  exact Rtn.body (.tmp rfl .nil) (fun w hw => ⟨rfl, hw.ext⟩)

end Go.Proofs

/- loop.example/g01158/spec.l12Line -/
namespace Go.Proofs
open Go Go.Ga
set_option linter.unusedVariables false
set_option maxRecDepth 100000
set_option maxHeartbeats 4000000
def spec_l12Line.f (k : Nat) (a0 : Int) (a1_0 : ByteArray) (a1_1 : ByteArray) : Option (ByteArray) := (spec_l1Num.f k a0).bind fun t6 => if (t6 ++ (ByteArray.mk #[32])).size < 4611686018427387904 then if ((t6 ++ (ByteArray.mk #[32])) ++ a1_0).size < 4611686018427387904 then if (((t6 ++ (ByteArray.mk #[32])) ++ a1_0) ++ (ByteArray.mk #[64])).size < 4611686018427387904 then if ((((t6 ++ (ByteArray.mk #[32])) ++ a1_0) ++ (ByteArray.mk #[64])) ++ a1_1).size < 4611686018427387904 then (spec_l1Seal.f k ((((t6 ++ (ByteArray.mk #[32])) ++ a1_0) ++ (ByteArray.mk #[64])) ++ a1_1)).bind fun t15 => if (t15 ++ (ByteArray.mk #[10])).size < 4611686018427387904 then some (t15 ++ (ByteArray.mk #[10])) else none else none else none else none else none

theorem spec_l12Line.ok {k : Nat}  {a0 : Int} {a1_0 : ByteArray} {a1_1 : ByteArray} {r0 : ByteArray} (h : spec_l12Line.f k a0 a1_0 a1_1 = some r0) (w : World) :
    Calls Tryd.prog 40 ([.int .i64 a0, .agg ([.string a1_0, .string a1_1].toArray)] : List Value).toArray w (fun e w' => e = .returned (.string r0) ∧ Ext w w') := by
  unfold spec_l12Line.f at h
  refine Calls.of_tri (N := 17) Tryd.func40 rfl rfl rfl (Sep.nil (M := noM)) ?_
  refine Tri.seq ?_
  refine Tri.reg (l := [0, 1]) rfl ?_
  refine F.m rfl rfl rfl (wanted_none rfl) (m_boxG rfl rfl) ?_
  rintro _ _ ⟨b3_1, rfl, rfl⟩
  refine F.q rfl rfl rfl (wanted_none rfl) (r_assign rfl) ?_
  refine F.nil ?_
  refine Nrm.seq ?_
  refine Tri.seq ?_
  obtain ⟨t6, h6, h⟩ := bind_some h
  obtain ⟨hs7, h⟩ := ck h
  obtain ⟨hs10, h⟩ := ck h
  obtain ⟨hs11, h⟩ := ck h
  obtain ⟨hs14, h⟩ := ck h
  obtain ⟨t15, h15, h⟩ := bind_some h
  obtain ⟨hs16, h⟩ := ck h
  refine Tri.drawA mixedT Sep.up [(0, true), (1, true), (2, true), (3, true), (4, true), (5, true), (6, true), (7, true), (8, true), (9, true), (10, true), (11, true), (12, true)] [] (by kernel_rfl) ?_
  refine S.q rfl rfl rfl (wanted_none rfl) (r_move rfl) ?_
  refine S.qc rfl rfl rfl (wanted_none rfl) (q_callF (xs := _) rfl ok59 rfl rfl (fun w hw => spec_l1Num.ok h6 w )) ?_
  refine S.q rfl rfl rfl (wanted_none rfl) (r_addS rfl rfl hs7) ?_
  refine S.q rfl rfl rfl (wanted_none rfl) (r_fieldAddr tf27_0 rfl) ?_
  refine S.q rfl rfl rfl (wanted_none rfl) (r_load ta9 rfl (fun w hw => cell_1 (box_cells (i := 0) rfl w hw) rfl)) ?_
  refine S.q rfl rfl rfl (wanted_none rfl) (r_addS rfl rfl hs10) ?_
  refine S.q rfl rfl rfl (wanted_none rfl) (r_addS rfl rfl hs11) ?_
  refine S.q rfl rfl rfl (wanted_none rfl) (r_fieldAddr tf27_1 rfl) ?_
  refine S.q rfl rfl rfl (wanted_none rfl) (r_load ta9 rfl (fun w hw => cell_1 (box_cells (i := 0) rfl w hw) rfl)) ?_
  refine S.q rfl rfl rfl (wanted_none rfl) (r_addS rfl rfl hs14) ?_
  refine S.qc rfl rfl rfl (wanted_none rfl) (q_callF (xs := _) rfl ok58 rfl rfl (fun w hw => spec_l1Seal.ok h15 w )) ?_
  refine S.q rfl rfl rfl (wanted_none rfl) (r_addS rfl rfl hs16) ?_
  refine S.q rfl rfl rfl (wanted_none rfl) (r_assign rfl) ?_
  refine S.nil ?_
  refine F.nil ?_
  refine Nrm.seq ?_
  refine Tri.ret ?_
  cases h
  exact Rtn.body (.tmp rfl .nil) (fun w hw => ⟨rfl, hw.ext⟩)

end Go.Proofs

/- loop.example/g01158/spec.EncodeRecord -/
namespace Go.Proofs
open Go Go.Ga
set_option linter.unusedVariables false
set_option maxRecDepth 100000
set_option maxHeartbeats 4000000
def spec_EncodeRecord.f (k : Nat) (a0 : Int) (a1_0 : ByteArray) (a1_1 : ByteArray) : Option (ByteArray × Bool) := ((spec_l1In.f k a0 0 59).bind fun t7 => (if (!t7) = true then some true else (spec_l12Record.f k a1_0 a1_1).bind fun t11 => some (!t11))).bind fun y13 => (if y13 = true then some (ByteArray.empty, false) else (spec_l12Line.f k a0 a1_0 a1_1).bind fun t16 => some (t16, true))

theorem spec_EncodeRecord.ok {k : Nat}  {a0 : Int} {a1_0 : ByteArray} {a1_1 : ByteArray} {r0 : ByteArray} {r1 : Bool} (h : spec_EncodeRecord.f k a0 a1_0 a1_1 = some (r0, r1)) (w : World) :
    Calls Tryd.prog 12 ([.int .i64 a0, .agg ([.string a1_0, .string a1_1].toArray)] : List Value).toArray w (fun e w' => e = .returned (.tuple #[.string r0, .bool r1]) ∧ Ext w w') := by
  unfold spec_EncodeRecord.f at h
  refine Calls.of_tri (N := 17) Tryd.func12 rfl rfl rfl (Sep.nil (M := noM)) ?_
  refine Tri.seq ?_
  refine Tri.reg (l := [0, 1, 2]) rfl ?_
  refine F.m rfl rfl rfl (wanted_none rfl) (m_boxG rfl rfl) ?_
  rintro _ _ ⟨b3_1, rfl, rfl⟩
  refine F.q rfl rfl rfl (wanted_none rfl) (r_assign rfl) ?_
  refine F.q rfl rfl rfl (wanted_none rfl) (r_assign rfl) ?_
  refine F.nil ?_
  refine Nrm.seq ?_
  refine Tri.seq ?_
  refine Tri.seq ?_
  obtain ⟨y13, hE_1, h⟩ := bind_some h
  refine Tri.cut (fun e' C' => e' = [(0, .int .i64 a0), (3, .pointer (some ⟨b3_1, 0, none⟩)), (13, .bool y13)] ∧ C' = Sep w noM [R.box b3_1 27 [.string a1_0, .string a1_1]]) ?_ (fun hj_1 => ?_)
  · rintro _ _ ⟨rfl, rfl⟩
    refine Nrm.seq ?_
    refine Tri.cond (b := y13) rfl (fun g_1 => ?_) (fun g_1 => ?_)
    · replace h := if_tt g_1 h
      refine Tri.seq ?_
      refine Tri.reg (l := [0, 1]) rfl ?_
      refine F.q rfl rfl rfl (wanted_none rfl) (r_assign rfl) ?_
      refine F.q rfl rfl rfl (wanted_none rfl) (r_assign rfl) ?_
      refine F.nil ?_
      refine Nrm.seq ?_
      refine Tri.ret ?_
      refine Rtn.then ?_
      cases h
      exact Rtn.body (.tmp rfl (.tmp rfl .nil)) (fun w hw => ⟨rfl, hw.ext⟩)
    · replace h := if_ff g_1 h
      refine Tri.skip ?_
      refine Nrm.seq ?_
      refine Tri.seq ?_
      obtain ⟨t16, h16, h⟩ := bind_some h
      refine Tri.reg (l := [0, 1, 2, 3, 4]) rfl ?_
      refine F.q rfl rfl rfl (wanted_none rfl) (r_move rfl) ?_
      refine F.q rfl rfl rfl (wanted_none rfl) (r_loadA ta27 ti27 rfl rfl (fun w hw => (box_cells (i := 0) rfl w hw))) ?_
      refine F.qc rfl rfl rfl (wanted_none rfl) (q_callF (xs := _) rfl ok40 rfl rfl (fun w hw => spec_l12Line.ok h16 w )) ?_
      refine F.q rfl rfl rfl (wanted_none rfl) (r_assign rfl) ?_
      refine F.q rfl rfl rfl (wanted_none rfl) (r_assign rfl) ?_
      refine F.nil ?_
      refine Nrm.seq ?_
      refine Tri.ret ?_
      cases h
      exact Rtn.body (.tmp rfl (.tmp rfl .nil)) (fun w hw => ⟨rfl, hw.ext⟩)
  · obtain ⟨t7, h7, hE_1⟩ := bind_some hE_1
    rcases Bool.eq_false_or_eq_true (!t7) with g9 | g9
    · replace hE_1 := if_tt g9 hE_1
      refine Tri.reg (l := [0, 1, 2, 3, 4, 5, 6, 7]) rfl ?_
      refine F.q rfl rfl rfl (wanted_none rfl) (r_move rfl) ?_
      refine F.qc rfl rfl rfl (wanted_none rfl) (q_callF (xs := _) rfl ok38 rfl rfl (fun w hw => spec_l1In.ok h7 w )) ?_
      refine F.q rfl rfl rfl (wanted_none rfl) (r_not rfl) ?_
      refine F.q rfl rfl rfl (wanted_none rfl) (r_move rfl) ?_
      refine F.sk rfl rfl rfl (wf rfl rfl rfl g9) ?_
      refine F.sk rfl rfl rfl (wf rfl rfl rfl g9) ?_
      refine F.sk rfl rfl rfl (wf rfl rfl rfl g9) ?_
      refine F.q rfl rfl rfl (wanted_none rfl) (r_pick rfl rfl g9) ?_
      refine F.nil ?_
      cases hE_1
      refine Nrm.only [0, 3, 13] rfl ?_
      refine Nrm.pick [0] rfl rfl ?_
      exact hj_1 _ _ ⟨rfl, rfl⟩
    · replace hE_1 := if_ff g9 hE_1
      obtain ⟨t11, h11, hE_1⟩ := bind_some hE_1
      refine Tri.reg (l := [0, 1, 2, 3, 4, 5, 6, 7]) rfl ?_
      refine F.q rfl rfl rfl (wanted_none rfl) (r_move rfl) ?_
      refine F.qc rfl rfl rfl (wanted_none rfl) (q_callF (xs := _) rfl ok38 rfl rfl (fun w hw => spec_l1In.ok h7 w )) ?_
      refine F.q rfl rfl rfl (wanted_none rfl) (r_not rfl) ?_
      refine F.q rfl rfl rfl (wanted_none rfl) (r_move rfl) ?_
      refine F.q rfl rfl rfl (wg rfl rfl rfl g9) (r_loadA ta27 ti27 rfl rfl (fun w hw => (box_cells (i := 0) rfl w hw))) ?_
      refine F.qc rfl rfl rfl (wg rfl rfl rfl g9) (q_callF (xs := _) rfl ok39 rfl rfl (fun w hw => spec_l12Record.ok h11 w )) ?_
      refine F.q rfl rfl rfl (wg rfl rfl rfl g9) (r_not rfl) ?_
      refine F.q rfl rfl rfl (wanted_none rfl) (r_pickf rfl rfl g9) ?_
      refine F.nil ?_
      cases hE_1
      refine Nrm.only [0, 3, 13] rfl ?_
      refine Nrm.pick [0] rfl rfl ?_
      exact hj_1 _ _ ⟨rfl, rfl⟩

end Go.Proofs

/- loop.example/g01158/laws.toLogRecord -/

namespace Go.Proofs
open Go Go.Ga
set_option linter.unusedVariables false
set_option maxRecDepth 100000
set_option maxHeartbeats 4000000
def laws_toLogRecord.f (k : Nat) (a0_0 : ByteArray) (a0_1 : ByteArray) : Option (ByteArray × ByteArray) := some (a0_0, a0_1)

theorem laws_toLogRecord.ok {k : Nat}  {a0_0 : ByteArray} {a0_1 : ByteArray} {r0 : ByteArray} {r1 : ByteArray} (h : laws_toLogRecord.f k a0_0 a0_1 = some (r0, r1)) (w : World) :
    Calls Tryd.prog 13 ([.agg ([.string a0_0, .string a0_1].toArray)] : List Value).toArray w (fun e w' => e = .returned (.agg [.string r0, .string r1].toArray) ∧ Ext w w') := by
  unfold laws_toLogRecord.f at h
  refine Calls.of_tri (N := 11) Tryd.func13 rfl rfl rfl (Sep.nil (M := noM)) ?_
  refine Tri.seq ?_
  refine Tri.reg (l := [0, 1]) rfl ?_
  refine F.m rfl rfl rfl (wanted_none rfl) (m_boxG rfl rfl) ?_
  rintro _ _ ⟨b1_1, rfl, rfl⟩
  refine F.m rfl rfl rfl (wanted_none rfl) (m_alloc ti27) ?_
  rintro _ _ ⟨b2_1, rfl, rfl⟩
  refine F.nil ?_
  refine Nrm.seq ?_
  refine Tri.seq ?_
  refine Tri.reg (l := [0]) rfl ?_
  refine F.m rfl rfl rfl (wanted_none rfl) (m_alloc ti27) ?_
  rintro _ _ ⟨b3_1, rfl, rfl⟩
  refine F.nil ?_
  refine Nrm.seq ?_
  refine Tri.seq ?_
  refine Tri.reg (l := [0, 1, 2, 3]) rfl ?_
  refine F.q rfl rfl rfl (wanted_none rfl) (r_fieldAddr tf23_0 rfl) ?_
  refine F.q rfl rfl rfl (wanted_none rfl) (r_load ta9 rfl (fun w hw => cell_1 (box_cells (i := 2) rfl w hw) rfl)) ?_
  refine F.q rfl rfl rfl (wanted_none rfl) (r_fieldAddr tf27_0 rfl) ?_
  refine F.ef0 rfl rfl (wanted_none rfl) (d_storeG1 (i := 0) (cs2 := [.string a0_0]) ti9 rfl rfl rfl rfl rfl (Nat.le_of_ble_eq_true rfl) (lf_cons rfl lf_nil)) ?_
  rintro _ _ ⟨rfl, rfl⟩
  refine F.nil ?_
  refine Nrm.seq ?_
  refine Tri.seq ?_
  refine Tri.reg (l := [0, 1, 2, 3]) rfl ?_
  refine F.q rfl rfl rfl (wanted_none rfl) (r_fieldAddr tf23_1 rfl) ?_
  refine F.q rfl rfl rfl (wanted_none rfl) (r_load ta9 rfl (fun w hw => cell_1 (box_cells (i := 2) rfl w hw) rfl)) ?_
  refine F.q rfl rfl rfl (wanted_none rfl) (r_fieldAddr tf27_1 rfl) ?_
  refine F.ef0 rfl rfl (wanted_none rfl) (d_storeG1 (i := 0) (cs2 := [.string a0_1]) ti9 rfl rfl rfl rfl rfl (Nat.le_of_ble_eq_true rfl) (lf_cons rfl lf_nil)) ?_
  rintro _ _ ⟨rfl, rfl⟩
  refine F.nil ?_
  refine Nrm.seq ?_
  refine Tri.seq ?_
  refine Tri.reg (l := [0, 1]) rfl ?_
  refine F.q rfl rfl rfl (wanted_none rfl) (r_loadA ta27 ti27 rfl rfl (fun w hw => (box_cells (i := 0) rfl w hw))) ?_
  refine F.ef0 rfl rfl (wanted_none rfl) (d_storeG0 (i := 1) (cs2 := [.string a0_0, .string a0_1]) ti27 rfl rfl rfl rfl rfl (Nat.le_of_ble_eq_true rfl) (lf_cons rfl (lf_cons rfl lf_nil))) ?_
  rintro _ _ ⟨rfl, rfl⟩
  refine F.nil ?_
  refine Nrm.seq ?_
  refine Tri.ret ?_
  cases h
  exact Rtn.body (.cell rfl ta27 ti27 rfl (fun _ hw => box_cells (i := 1) rfl _ hw) .nil) (fun w hw => ⟨rfl, hw.ext⟩)

end Go.Proofs

/- loop.example/g01158/impl.within -/

namespace Go.Proofs
open Go Go.Ga
set_option linter.unusedVariables false
set_option maxRecDepth 100000
set_option maxHeartbeats 4000000
def impl_within.f (k : Nat) (a0 : Int) (a1 : Int) (a2 : Int) : Option (Bool) := ((if (decide (a1 ≤ a0)) = true then some (decide (a0 ≤ a2)) else some false)).bind fun y6 => some y6

theorem impl_within.ok {k : Nat}  {a0 : Int} {a1 : Int} {a2 : Int} {r0 : Bool} (h : impl_within.f k a0 a1 a2 = some r0) (w : World) :
    Calls Tryd.prog 41 ([.int .i64 a0, .int .i64 a1, .int .i64 a2] : List Value).toArray w (fun e w' => e = .returned (.bool r0) ∧ Ext w w') := by
  unfold impl_within.f at h
  refine Calls.of_tri (N := 15) Tryd.func41 rfl rfl rfl (Sep.nil (M := noM)) ?_
  refine Tri.seq ?_
  refine Tri.reg (l := [0]) rfl ?_
  refine F.q rfl rfl rfl (wanted_none rfl) (r_assign rfl) ?_
  refine F.nil ?_
  refine Nrm.seq ?_
  refine Tri.seq ?_
  obtain ⟨y6, hE_1, h⟩ := bind_some h
  refine Tri.cut (fun e' C' => e' = [(6, .bool y6)] ∧ C' = Sep w noM []) ?_ (fun hj_1 => ?_)
  · rintro _ _ ⟨rfl, rfl⟩
    refine Nrm.seq ?_
    refine Tri.ret ?_
    cases h
    exact Rtn.body (.tmp rfl .nil) (fun w hw => ⟨rfl, hw.ext⟩)
  · rcases Bool.eq_false_or_eq_true (decide (a1 ≤ a0)) with g10 | g10
    · replace hE_1 := if_tt g10 hE_1
      refine Tri.reg (l := [0, 1, 2, 3, 4, 5, 6, 7, 8]) rfl ?_
      refine F.q rfl rfl rfl (wanted_none rfl) (r_move rfl) ?_
      refine F.q rfl rfl rfl (wanted_none rfl) (r_move rfl) ?_
      refine F.q rfl rfl rfl (wanted_none rfl) (r_leq rfl rfl) ?_
      refine F.q rfl rfl rfl (wanted_none rfl) (r_move rfl) ?_
      refine F.q rfl rfl rfl (wg rfl rfl rfl g10) (r_move rfl) ?_
      refine F.q rfl rfl rfl (wg rfl rfl rfl g10) (r_move rfl) ?_
      refine F.q rfl rfl rfl (wg rfl rfl rfl g10) (r_leq rfl rfl) ?_
      refine F.q rfl rfl rfl (wanted_none rfl) (r_pick rfl rfl g10) ?_
      refine F.q rfl rfl rfl (wanted_none rfl) (r_assign rfl) ?_
      refine F.nil ?_
      cases hE_1
      refine Nrm.only [6] rfl ?_
      refine Nrm.pick [] rfl rfl ?_
      exact hj_1 _ _ ⟨rfl, rfl⟩
    · replace hE_1 := if_ff g10 hE_1
      refine Tri.reg (l := [0, 1, 2, 3, 4, 5, 6, 7, 8]) rfl ?_
      refine F.q rfl rfl rfl (wanted_none rfl) (r_move rfl) ?_
      refine F.q rfl rfl rfl (wanted_none rfl) (r_move rfl) ?_
      refine F.q rfl rfl rfl (wanted_none rfl) (r_leq rfl rfl) ?_
      refine F.q rfl rfl rfl (wanted_none rfl) (r_move rfl) ?_
      refine F.sk rfl rfl rfl (wf rfl rfl rfl g10) ?_
      refine F.sk rfl rfl rfl (wf rfl rfl rfl g10) ?_
      refine F.sk rfl rfl rfl (wf rfl rfl rfl g10) ?_
      refine F.q rfl rfl rfl (wanted_none rfl) (r_pickf rfl rfl g10) ?_
      refine F.q rfl rfl rfl (wanted_none rfl) (r_assign rfl) ?_
      refine F.nil ?_
      cases hE_1
      refine Nrm.only [6] rfl ?_
      refine Nrm.pick [] rfl rfl ?_
      exact hj_1 _ _ ⟨rfl, rfl⟩

end Go.Proofs

/- internal/stringslite.IndexByte -/

namespace Go.Proofs
open Go Go.Ga
set_option linter.unusedVariables false
set_option maxRecDepth 100000
set_option maxHeartbeats 4000000
def stringslite_IndexByte.f (k : Nat) (a0 : ByteArray) (a1 : Int) : Option (Int) := some (bytea a0 a1)

theorem stringslite_IndexByte.ok {k : Nat}  {a0 : ByteArray} {a1 : Int} {r0 : Int} (h : stringslite_IndexByte.f k a0 a1 = some r0) (w : World) :
    Calls Tryd.prog 97 ([.string a0, .int .u8 a1] : List Value).toArray w (fun e w' => e = .returned (.int .i64 r0) ∧ Ext w w') := by
  unfold stringslite_IndexByte.f at h
  refine Calls.of_tri (N := 8) Tryd.func97 rfl rfl rfl (Sep.nil (M := noM)) ?_
  refine Tri.seq ?_
  refine Tri.reg (l := [0]) rfl ?_
  refine F.q rfl rfl rfl (wanted_none rfl) (r_assign rfl) ?_
  refine F.nil ?_
  refine Nrm.seq ?_
  refine Tri.seq ?_
  refine Tri.reg (l := [0, 1, 2, 3]) rfl ?_
  refine F.q rfl rfl rfl (wanted_none rfl) (r_move rfl) ?_
  refine F.q rfl rfl rfl (wanted_none rfl) (r_move rfl) ?_
  refine F.q rfl rfl rfl (wanted_none rfl) (r_extern (v := .int .i64 (bytea a0 a1)) (E := Extern.BytealgIndexByte.indexByte) rfl Tryd.func113 rfl (by decide) (by kernel_rfl) (by kernel_rfl) rfl (fun w => Lib.run_indexByteString _ _ w)) ?_
  refine F.q rfl rfl rfl (wanted_none rfl) (r_assign rfl) ?_
  refine F.nil ?_
  refine Nrm.seq ?_
  refine Tri.ret ?_
  cases h
  exact Rtn.body (.tmp rfl .nil) (fun w hw => ⟨rfl, hw.ext⟩)

end Go.Proofs

/- strings.IndexByte -/
namespace Go.Proofs
open Go Go.Ga
set_option linter.unusedVariables false
set_option maxRecDepth 100000
set_option maxHeartbeats 4000000
def strings_IndexByte.f (k : Nat) (a0 : ByteArray) (a1 : Int) : Option (Int) := (stringslite_IndexByte.f k a0 a1).bind fun t7 => some t7

theorem strings_IndexByte.ok {k : Nat}  {a0 : ByteArray} {a1 : Int} {r0 : Int} (h : strings_IndexByte.f k a0 a1 = some r0) (w : World) :
    Calls Tryd.prog 80 ([.string a0, .int .u8 a1] : List Value).toArray w (fun e w' => e = .returned (.int .i64 r0) ∧ Ext w w') := by
  unfold strings_IndexByte.f at h
  refine Calls.of_tri (N := 8) Tryd.func80 rfl rfl rfl (Sep.nil (M := noM)) ?_
  refine Tri.seq ?_
  refine Tri.reg (l := [0]) rfl ?_
  refine F.q rfl rfl rfl (wanted_none rfl) (r_assign rfl) ?_
  refine F.nil ?_
  refine Nrm.seq ?_
  refine Tri.seq ?_
  obtain ⟨t7, h7, h⟩ := bind_some h
  refine Tri.reg (l := [0, 1, 2, 3]) rfl ?_
  refine F.q rfl rfl rfl (wanted_none rfl) (r_move rfl) ?_
  refine F.q rfl rfl rfl (wanted_none rfl) (r_move rfl) ?_
  refine F.qc rfl rfl rfl (wanted_none rfl) (q_callF (xs := _) rfl ok97 rfl rfl (fun w hw => stringslite_IndexByte.ok h7 w )) ?_
  refine F.q rfl rfl rfl (wanted_none rfl) (r_assign rfl) ?_
  refine F.nil ?_
  refine Nrm.seq ?_
  refine Tri.ret ?_
  cases h
  exact Rtn.body (.tmp rfl .nil) (fun w hw => ⟨rfl, hw.ext⟩)

end Go.Proofs

/- loop.example/g01158/impl.isPlain -/
namespace Go.Proofs
open Go Go.Ga
set_option linter.unusedVariables false
set_option maxRecDepth 100000
set_option maxHeartbeats 4000000
def impl_isPlain.l0 (k : Nat) (a0 : ByteArray) (a1 : ByteArray) : Nat → Int → Option ((Unit) ⊕ (Bool))
  | 0, _ => none
  | n + 1, x8 => (if (decide (x8 < (a0.size : Int))) = true then ((bta a0 x8).bind fun t13 => (impl_within.f k (IntKind.i64.wrap (t13.toNat : Int)) 32 126).bind fun t15 => (if (!t15) = true then some true else (bta a0 x8).bind fun t21 => (strings_IndexByte.f k a1 (t21.toNat : Int)).bind fun t22 => some (decide (t22 ≥ 0)))).bind fun y24 => (if y24 = true then some (Sum.inr false) else impl_isPlain.l0 k a0 a1 n (w64 (x8 + 1))) else some (Sum.inl ()))

def impl_isPlain.f (k : Nat) (a0 : ByteArray) (a1 : ByteArray) : Option (Bool) := (impl_isPlain.l0 k a0 a1 k 0).bind fun s => Lr s some fun _ => some true

theorem impl_isPlain.ok {k : Nat}  {a0 : ByteArray} {a1 : ByteArray} {r0 : Bool} (h : impl_isPlain.f k a0 a1 = some r0) (w : World) :
    Calls Tryd.prog 61 ([.string a0, .string a1] : List Value).toArray w (fun e w' => e = .returned (.bool r0) ∧ Ext w w') := by
  unfold impl_isPlain.f at h
  refine Calls.of_tri (N := 26) Tryd.func61 rfl rfl rfl (Sep.nil (M := noM)) ?_
  refine Tri.seq ?_
  refine Tri.reg (l := [0]) rfl ?_
  refine F.q rfl rfl rfl (wanted_none rfl) (r_assign rfl) ?_
  refine F.nil ?_
  refine Nrm.seq ?_
  refine Tri.seq ?_
  refine Tri.seq ?_
  refine Tri.reg (l := [0, 1, 2]) rfl ?_
  refine F.q rfl rfl rfl (wanted_none rfl) (r_move rfl) ?_
  refine F.q rfl rfl rfl (wanted_none rfl) (r_lenS Tryd.underlying9 rfl) ?_
  refine F.q rfl rfl rfl (wanted_none rfl) (r_move rfl) ?_
  refine F.nil ?_
  refine Nrm.seq ?_
  obtain ⟨s0, hE_1, h⟩ := bind_some h
  refine Tri.block ?_
  refine Tri.only [0, 1, 7, 8] rfl ?_
  refine Tri.pick [] rfl rfl ?_
  refine Tri.rounds (fun n e' C' => ∃ (x8' : Int), impl_isPlain.l0 k a0 a1 n x8' = some s0 ∧ e' = [(0, .string a0), (1, .string a1), (7, .int .i64 (a0.size : Int)), (8, .int .i64 x8')] ∧ C' = Sep w noM []) k ?_ ?_ ?_
  · exact ⟨0, hE_1, rfl, rfl⟩
  · rintro _ _ ⟨_, hE_1, _⟩
    rw [impl_isPlain.l0.eq_1] at hE_1; cases hE_1
  · rintro n_1 _ _ ⟨x8, hE_1, rfl, rfl⟩ ih_1
    rw [impl_isPlain.l0.eq_2] at hE_1
    refine Tri.seq ?_
    refine Tri.reg (l := [0]) rfl ?_
    refine F.q rfl rfl rfl (wanted_none rfl) (r_lss rfl rfl) ?_
    refine F.nil ?_
    refine Nrm.seq ?_
    refine Tri.seq ?_
    refine Tri.cond (b := decide (x8 < (a0.size : Int))) rfl (fun g_1 => ?_) (fun g_1 => ?_)
    · replace hE_1 := if_tt g_1 hE_1
      refine Tri.skip ?_
      refine Nrm.seq ?_
      refine Tri.seq ?_
      refine Tri.block ?_
      refine Tri.seq ?_
      refine Tri.reg (l := [0, 1]) rfl ?_
      refine F.q rfl rfl rfl (wanted_none rfl) (r_move rfl) ?_
      refine F.q rfl rfl rfl (wanted_none rfl) (r_assign rfl) ?_
      refine F.nil ?_
      refine Nrm.seq ?_
      refine Tri.seq ?_
      obtain ⟨y24, hE_2, hE_1⟩ := bind_some hE_1
      refine Tri.cut (fun e' C' => e' = [(0, .string a0), (1, .string a1), (7, .int .i64 (a0.size : Int)), (8, .int .i64 x8), (24, .bool y24)] ∧ C' = Sep w noM []) ?_ (fun hj_1 => ?_)
      · rintro _ _ ⟨rfl, rfl⟩
        refine Nrm.seq ?_
        refine Tri.cond (b := y24) rfl (fun g_2 => ?_) (fun g_2 => ?_)
        · replace hE_1 := if_tt g_2 hE_1
          refine Tri.seq ?_
          refine Tri.reg (l := [0]) rfl ?_
          refine F.q rfl rfl rfl (wanted_none rfl) (r_assign rfl) ?_
          refine F.nil ?_
          refine Nrm.seq ?_
          refine Tri.ret ?_
          refine Rtn.block ?_
          refine Rtn.then ?_
          refine Rtn.then ?_
          refine Rtn.block ?_
          refine Rtn.then ?_
          cases hE_1
          replace h := Lr_inr h
          cases h
          exact Rtn.body (.tmp rfl .nil) (fun w hw => ⟨rfl, hw.ext⟩)
        · replace hE_1 := if_ff g_2 hE_1
          refine Tri.skip ?_
          refine Nrm.block ?_
          refine Nrm.seq ?_
          refine Tri.reg (l := [0, 1]) rfl ?_
          refine F.q rfl rfl rfl (wanted_none rfl) (r_add rfl rfl) ?_
          refine F.q rfl rfl rfl (wanted_none rfl) (r_move rfl) ?_
          refine F.nil ?_
          refine Nrm.round ?_
          refine Rnd.only [0, 1, 7, 8] rfl ?_
          refine Rnd.pick [] rfl rfl ?_
          exact ih_1 _ _ ⟨w64 (x8 + 1), hE_1, rfl, rfl⟩
      · obtain ⟨t13, h13, hE_2⟩ := bind_some hE_2
        obtain ⟨t15, h15, hE_2⟩ := bind_some hE_2
        rcases Bool.eq_false_or_eq_true (!t15) with g17 | g17
        · replace hE_2 := if_tt g17 hE_2
          refine Tri.reg (l := [0, 1, 2, 3, 4, 5, 6, 7, 8, 9, 10, 11, 12, 13]) rfl ?_
          refine F.q rfl rfl rfl (wanted_none rfl) (r_move rfl) ?_
          refine F.q rfl rfl rfl (wanted_none rfl) (r_move rfl) ?_
          refine F.q rfl rfl rfl (wanted_none rfl) (r_indexS Tryd.underlying9 rfl rfl (bt_some h13).1 (bt_some h13).2) ?_
          refine F.q rfl rfl rfl (wanted_none rfl) (r_conv Tryd.underlying5 Tryd.underlying3 rfl) ?_
          refine F.qc rfl rfl rfl (wanted_none rfl) (q_callF (xs := _) rfl ok41 rfl rfl (fun w hw => impl_within.ok h15 w )) ?_
          refine F.q rfl rfl rfl (wanted_none rfl) (r_not rfl) ?_
          refine F.q rfl rfl rfl (wanted_none rfl) (r_move rfl) ?_
          refine F.sk rfl rfl rfl (wf rfl rfl rfl g17) ?_
          refine F.sk rfl rfl rfl (wf rfl rfl rfl g17) ?_
          refine F.sk rfl rfl rfl (wf rfl rfl rfl g17) ?_
          refine F.sk rfl rfl rfl (wf rfl rfl rfl g17) ?_
          refine F.sk rfl rfl rfl (wf rfl rfl rfl g17) ?_
          refine F.sk rfl rfl rfl (wf rfl rfl rfl g17) ?_
          refine F.q rfl rfl rfl (wanted_none rfl) (r_pick rfl rfl g17) ?_
          refine F.nil ?_
          cases hE_2
          refine Nrm.only [0, 1, 7, 8, 24] rfl ?_
          refine Nrm.pick [] rfl rfl ?_
          exact hj_1 _ _ ⟨rfl, rfl⟩
        · replace hE_2 := if_ff g17 hE_2
          obtain ⟨t21, h21, hE_2⟩ := bind_some hE_2
          obtain ⟨t22, h22, hE_2⟩ := bind_some hE_2
          refine Tri.reg (l := [0, 1, 2, 3, 4, 5, 6, 7, 8, 9, 10, 11, 12, 13]) rfl ?_
          refine F.q rfl rfl rfl (wanted_none rfl) (r_move rfl) ?_
          refine F.q rfl rfl rfl (wanted_none rfl) (r_move rfl) ?_
          refine F.q rfl rfl rfl (wanted_none rfl) (r_indexS Tryd.underlying9 rfl rfl (bt_some h13).1 (bt_some h13).2) ?_
          refine F.q rfl rfl rfl (wanted_none rfl) (r_conv Tryd.underlying5 Tryd.underlying3 rfl) ?_
          refine F.qc rfl rfl rfl (wanted_none rfl) (q_callF (xs := _) rfl ok41 rfl rfl (fun w hw => impl_within.ok h15 w )) ?_
          refine F.q rfl rfl rfl (wanted_none rfl) (r_not rfl) ?_
          refine F.q rfl rfl rfl (wanted_none rfl) (r_move rfl) ?_
          refine F.q rfl rfl rfl (wg rfl rfl rfl g17) (r_move rfl) ?_
          refine F.q rfl rfl rfl (wg rfl rfl rfl g17) (r_move rfl) ?_
          refine F.q rfl rfl rfl (wg rfl rfl rfl g17) (r_move rfl) ?_
          refine F.q rfl rfl rfl (wg rfl rfl rfl g17) (r_indexS Tryd.underlying9 rfl rfl (bt_some h21).1 (bt_some h21).2) ?_
          refine F.qc rfl rfl rfl (wg rfl rfl rfl g17) (q_callF (xs := _) rfl ok80 rfl rfl (fun w hw => strings_IndexByte.ok h22 w )) ?_
          refine F.q rfl rfl rfl (wg rfl rfl rfl g17) (r_geq rfl rfl) ?_
          refine F.q rfl rfl rfl (wanted_none rfl) (r_pickf rfl rfl g17) ?_
          refine F.nil ?_
          cases hE_2
          refine Nrm.only [0, 1, 7, 8, 24] rfl ?_
          refine Nrm.pick [] rfl rfl ?_
          exact hj_1 _ _ ⟨rfl, rfl⟩
    · replace hE_1 := if_ff g_1 hE_1
      refine Tri.exit ?_
      refine Exi.then ?_
      refine Exi.then ?_
      refine Exi.same ?_
      cases hE_1
      replace h := Lr_inl h
      refine Nrm.seq ?_
      refine Tri.seq ?_
      refine Tri.reg (l := [0]) rfl ?_
      refine F.q rfl rfl rfl (wanted_none rfl) (r_assign rfl) ?_
      refine F.nil ?_
      refine Nrm.seq ?_
      refine Tri.ret ?_
      cases h
      exact Rtn.body (.tmp rfl .nil) (fun w hw => ⟨rfl, hw.ext⟩)

end Go.Proofs

/- loop.example/g01158/impl.isCommand -/
namespace Go.Proofs
open Go Go.Ga
set_option linter.unusedVariables false
set_option maxRecDepth 100000
set_option maxHeartbeats 4000000
def impl_isCommand.f (k : Nat) (a0 : ByteArray) : Option (Bool) := ((impl_within.f k (a0.size : Int) 1 160).bind fun t5 => (if t5 = true then (impl_isPlain.f k a0 (ByteArray.mk #[35, 64])).bind fun t8 => some t8 else some false)).bind fun y2 => some y2

theorem impl_isCommand.ok {k : Nat}  {a0 : ByteArray} {r0 : Bool} (h : impl_isCommand.f k a0 = some r0) (w : World) :
    Calls Tryd.prog 60 ([.string a0] : List Value).toArray w (fun e w' => e = .returned (.bool r0) ∧ Ext w w') := by
  unfold impl_isCommand.f at h
  refine Calls.of_tri (N := 10) Tryd.func60 rfl rfl rfl (Sep.nil (M := noM)) ?_
  refine Tri.seq ?_
  refine Tri.reg (l := [0]) rfl ?_
  refine F.q rfl rfl rfl (wanted_none rfl) (r_assign rfl) ?_
  refine F.nil ?_
  refine Nrm.seq ?_
  refine Tri.seq ?_
  obtain ⟨y2, hE_1, h⟩ := bind_some h
  refine Tri.cut (fun e' C' => e' = [(2, .bool y2)] ∧ C' = Sep w noM []) ?_ (fun hj_1 => ?_)
  · rintro _ _ ⟨rfl, rfl⟩
    refine Nrm.seq ?_
    refine Tri.ret ?_
    cases h
    exact Rtn.body (.tmp rfl .nil) (fun w hw => ⟨rfl, hw.ext⟩)
  · obtain ⟨t5, h5, hE_1⟩ := bind_some hE_1
    rcases Bool.eq_false_or_eq_true (t5) with g6 | g6
    · replace hE_1 := if_tt g6 hE_1
      obtain ⟨t8, h8, hE_1⟩ := bind_some hE_1
      refine Tri.reg (l := [0, 1, 2, 3, 4, 5, 6, 7]) rfl ?_
      refine F.q rfl rfl rfl (wanted_none rfl) (r_move rfl) ?_
      refine F.q rfl rfl rfl (wanted_none rfl) (r_lenS Tryd.underlying9 rfl) ?_
      refine F.qc rfl rfl rfl (wanted_none rfl) (q_callF (xs := _) rfl ok41 rfl rfl (fun w hw => impl_within.ok h5 w )) ?_
      refine F.q rfl rfl rfl (wanted_none rfl) (r_move rfl) ?_
      refine F.q rfl rfl rfl (wg rfl rfl rfl g6) (r_move rfl) ?_
      refine F.qc rfl rfl rfl (wg rfl rfl rfl g6) (q_callF (xs := _) rfl ok61 rfl rfl (fun w hw => impl_isPlain.ok h8 w )) ?_
      refine F.q rfl rfl rfl (wanted_none rfl) (r_pick rfl rfl g6) ?_
      refine F.q rfl rfl rfl (wanted_none rfl) (r_assign rfl) ?_
      refine F.nil ?_
      cases hE_1
      refine Nrm.only [2] rfl ?_
      refine Nrm.pick [] rfl rfl ?_
      exact hj_1 _ _ ⟨rfl, rfl⟩
    · replace hE_1 := if_ff g6 hE_1
      refine Tri.reg (l := [0, 1, 2, 3, 4, 5, 6, 7]) rfl ?_
      refine F.q rfl rfl rfl (wanted_none rfl) (r_move rfl) ?_
      refine F.q rfl rfl rfl (wanted_none rfl) (r_lenS Tryd.underlying9 rfl) ?_
      refine F.qc rfl rfl rfl (wanted_none rfl) (q_callF (xs := _) rfl ok41 rfl rfl (fun w hw => impl_within.ok h5 w )) ?_
      refine F.q rfl rfl rfl (wanted_none rfl) (r_move rfl) ?_
      refine F.sk rfl rfl rfl (wf rfl rfl rfl g6) ?_
      refine F.sk rfl rfl rfl (wf rfl rfl rfl g6) ?_
      refine F.q rfl rfl rfl (wanted_none rfl) (r_pickf rfl rfl g6) ?_
      refine F.q rfl rfl rfl (wanted_none rfl) (r_assign rfl) ?_
      refine F.nil ?_
      cases hE_1
      refine Nrm.only [2] rfl ?_
      refine Nrm.pick [] rfl rfl ?_
      exact hj_1 _ _ ⟨rfl, rfl⟩

end Go.Proofs

/- loop.example/g01158/impl.IsValidRecord -/
namespace Go.Proofs
open Go Go.Ga
set_option linter.unusedVariables false
set_option maxRecDepth 100000
set_option maxHeartbeats 4000000
def impl_IsValidRecord.f (k : Nat) (a0_0 : ByteArray) (a0_1 : ByteArray) : Option (Bool) := ((impl_isCommand.f k a0_0).bind fun t5 => (if t5 = true then (if (decide ((a0_1.size : Int) ≤ 250)) = true then (impl_isPlain.f k a0_1 (ByteArray.mk #[35])).bind fun t15 => some t15 else some false) else some false)).bind fun y2 => some y2

theorem impl_IsValidRecord.ok {k : Nat}  {a0_0 : ByteArray} {a0_1 : ByteArray} {r0 : Bool} (h : impl_IsValidRecord.f k a0_0 a0_1 = some r0) (w : World) :
    Calls Tryd.prog 42 ([.agg ([.string a0_0, .string a0_1].toArray)] : List Value).toArray w (fun e w' => e = .returned (.bool r0) ∧ Ext w w') := by
  unfold impl_IsValidRecord.f at h
  refine Calls.of_tri (N := 17) Tryd.func42 rfl rfl rfl (Sep.nil (M := noM)) ?_
  refine Tri.seq ?_
  refine Tri.reg (l := [0, 1]) rfl ?_
  refine F.m rfl rfl rfl (wanted_none rfl) (m_boxG rfl rfl) ?_
  rintro _ _ ⟨b1_1, rfl, rfl⟩
  refine F.q rfl rfl rfl (wanted_none rfl) (r_assign rfl) ?_
  refine F.nil ?_
  refine Nrm.seq ?_
  refine Tri.seq ?_
  obtain ⟨y2, hE_1, h⟩ := bind_some h
  refine Tri.cut (fun e' C' => e' = [(2, .bool y2)] ∧ C' = Sep w noM []) ?_ (fun hj_1 => ?_)
  · rintro _ _ ⟨rfl, rfl⟩
    refine Nrm.seq ?_
    refine Tri.ret ?_
    cases h
    exact Rtn.body (.tmp rfl .nil) (fun w hw => ⟨rfl, hw.ext⟩)
  · obtain ⟨t5, h5, hE_1⟩ := bind_some hE_1
    rcases Bool.eq_false_or_eq_true (t5) with g6 | g6
    · replace hE_1 := if_tt g6 hE_1
      rcases Bool.eq_false_or_eq_true (decide ((a0_1.size : Int) ≤ 250)) with g12 | g12
      · replace hE_1 := if_tt g12 hE_1
        obtain ⟨t15, h15, hE_1⟩ := bind_some hE_1
        refine Tri.reg (l := [0, 1, 2, 3, 4, 5, 6, 7, 8, 9, 10, 11, 12, 13, 14]) rfl ?_
        refine F.q rfl rfl rfl (wanted_none rfl) (r_fieldAddr tf27_0 rfl) ?_
        refine F.q rfl rfl rfl (wanted_none rfl) (r_load ta9 rfl (fun w hw => cell_1 (box_cells (i := 0) rfl w hw) rfl)) ?_
        refine F.qc rfl rfl rfl (wanted_none rfl) (q_callF (xs := _) rfl ok60 rfl rfl (fun w hw => impl_isCommand.ok h5 w )) ?_
        refine F.q rfl rfl rfl (wanted_none rfl) (r_move rfl) ?_
        refine F.q rfl rfl rfl (wg rfl rfl rfl g6) (r_fieldAddr tf27_1 rfl) ?_
        refine F.q rfl rfl rfl (wg rfl rfl rfl g6) (r_load ta9 rfl (fun w hw => cell_1 (box_cells (i := 0) rfl w hw) rfl)) ?_
        refine F.q rfl rfl rfl (wg rfl rfl rfl g6) (r_lenS Tryd.underlying9 rfl) ?_
        refine F.q rfl rfl rfl (wg rfl rfl rfl g6) (r_leq rfl rfl) ?_
        refine F.q rfl rfl rfl (wanted_none rfl) (r_pick rfl rfl g6) ?_
        refine F.q rfl rfl rfl (wanted_none rfl) (r_move rfl) ?_
        refine F.q rfl rfl rfl (wg rfl rfl rfl g12) (r_fieldAddr tf27_1 rfl) ?_
        refine F.q rfl rfl rfl (wg rfl rfl rfl g12) (r_load ta9 rfl (fun w hw => cell_1 (box_cells (i := 0) rfl w hw) rfl)) ?_
        refine F.qc rfl rfl rfl (wg rfl rfl rfl g12) (q_callF (xs := _) rfl ok61 rfl rfl (fun w hw => impl_isPlain.ok h15 w )) ?_
        refine F.q rfl rfl rfl (wanted_none rfl) (r_pick rfl rfl g12) ?_
        refine F.q rfl rfl rfl (wanted_none rfl) (r_assign rfl) ?_
        refine F.nil ?_
        cases hE_1
        refine Nrm.only [2] rfl ?_
        refine Nrm.pick [] rfl rfl ?_
        exact hj_1 _ _ ⟨rfl, rfl⟩
      · replace hE_1 := if_ff g12 hE_1
        refine Tri.reg (l := [0, 1, 2, 3, 4, 5, 6, 7, 8, 9, 10, 11, 12, 13, 14]) rfl ?_
        refine F.q rfl rfl rfl (wanted_none rfl) (r_fieldAddr tf27_0 rfl) ?_
        refine F.q rfl rfl rfl (wanted_none rfl) (r_load ta9 rfl (fun w hw => cell_1 (box_cells (i := 0) rfl w hw) rfl)) ?_
        refine F.qc rfl rfl rfl (wanted_none rfl) (q_callF (xs := _) rfl ok60 rfl rfl (fun w hw => impl_isCommand.ok h5 w )) ?_
        refine F.q rfl rfl rfl (wanted_none rfl) (r_move rfl) ?_
        refine F.q rfl rfl rfl (wg rfl rfl rfl g6) (r_fieldAddr tf27_1 rfl) ?_
        refine F.q rfl rfl rfl (wg rfl rfl rfl g6) (r_load ta9 rfl (fun w hw => cell_1 (box_cells (i := 0) rfl w hw) rfl)) ?_
        refine F.q rfl rfl rfl (wg rfl rfl rfl g6) (r_lenS Tryd.underlying9 rfl) ?_
        refine F.q rfl rfl rfl (wg rfl rfl rfl g6) (r_leq rfl rfl) ?_
        refine F.q rfl rfl rfl (wanted_none rfl) (r_pick rfl rfl g6) ?_
        refine F.q rfl rfl rfl (wanted_none rfl) (r_move rfl) ?_
        refine F.sk rfl rfl rfl (wf rfl rfl rfl g12) ?_
        refine F.sk rfl rfl rfl (wf rfl rfl rfl g12) ?_
        refine F.sk rfl rfl rfl (wf rfl rfl rfl g12) ?_
        refine F.q rfl rfl rfl (wanted_none rfl) (r_pickf rfl rfl g12) ?_
        refine F.q rfl rfl rfl (wanted_none rfl) (r_assign rfl) ?_
        refine F.nil ?_
        cases hE_1
        refine Nrm.only [2] rfl ?_
        refine Nrm.pick [] rfl rfl ?_
        exact hj_1 _ _ ⟨rfl, rfl⟩
    · replace hE_1 := if_ff g6 hE_1
      refine Tri.reg (l := [0, 1, 2, 3, 4, 5, 6, 7, 8, 9, 10, 11, 12, 13, 14]) rfl ?_
      refine F.q rfl rfl rfl (wanted_none rfl) (r_fieldAddr tf27_0 rfl) ?_
      refine F.q rfl rfl rfl (wanted_none rfl) (r_load ta9 rfl (fun w hw => cell_1 (box_cells (i := 0) rfl w hw) rfl)) ?_
      refine F.qc rfl rfl rfl (wanted_none rfl) (q_callF (xs := _) rfl ok60 rfl rfl (fun w hw => impl_isCommand.ok h5 w )) ?_
      refine F.q rfl rfl rfl (wanted_none rfl) (r_move rfl) ?_
      refine F.sk rfl rfl rfl (wf rfl rfl rfl g6) ?_
      refine F.sk rfl rfl rfl (wf rfl rfl rfl g6) ?_
      refine F.sk rfl rfl rfl (wf rfl rfl rfl g6) ?_
      refine F.sk rfl rfl rfl (wf rfl rfl rfl g6) ?_
      refine F.q rfl rfl rfl (wanted_none rfl) (r_pickf rfl rfl g6) ?_
      refine F.q rfl rfl rfl (wanted_none rfl) (r_move rfl) ?_
      refine F.sk rfl rfl rfl (wf rfl rfl rfl rfl) ?_
      refine F.sk rfl rfl rfl (wf rfl rfl rfl rfl) ?_
      refine F.sk rfl rfl rfl (wf rfl rfl rfl rfl) ?_
      refine F.q rfl rfl rfl (wanted_none rfl) (r_pickf rfl rfl rfl) ?_
      refine F.q rfl rfl rfl (wanted_none rfl) (r_assign rfl) ?_
      refine F.nil ?_
      cases hE_1
      refine Nrm.only [2] rfl ?_
      refine Nrm.pick [] rfl rfl ?_
      exact hj_1 _ _ ⟨rfl, rfl⟩

end Go.Proofs

/- Contracts of the library, laid at this seat. f29444a0e13ed716 -/
namespace Go.Proofs
open Go.Shelf
def Tryd.itoa_ren : Go.Shelf.Ren := ⟨fun | 171 => 44 | 243 => 64 | 246 => 82 | 283 => 99 | 284 => 100 | 285 => 101 | 286 => 102 | 129 => 118 | 317 => 117 | 318 => 119 | 319 => 120 | 320 => 121 | 337 => 125 | 338 => 126 | n => n, fun | 3 => 3 | 9 => 9 | 2 => 2 | 4 => 4 | 171 => 123 | 0 => 0 | 53 => 124 | 37 => 81 | 5 => 5 | 173 => 127 | 212 => 138 | 51 => 139 | 20 => 20 | 213 => 140 | 46 => 136 | 232 => 145 | 233 => 146 | n => n, fun | 17 => 1 | 18 => 2 | 19 => 3 | n => n⟩
theorem Tryd.itoa : Go.Proofs.LaysM.n171 Tryd.prog Tryd.itoa_ren := {
  mixed := by kernel_rfl
  f129 := Tryd.func118.trans (congrArg some (by kernel_rfl))
  f171 := Tryd.func44.trans (congrArg some (by kernel_rfl))
  f243 := Tryd.func64.trans (congrArg some (by kernel_rfl))
  f246 := Tryd.func82.trans (congrArg some (by kernel_rfl))
  f283 := Tryd.func99.trans (congrArg some (by kernel_rfl))
  f284 := Tryd.func100.trans (congrArg some (by kernel_rfl))
  f285 := Tryd.func101.trans (congrArg some (by kernel_rfl))
  f286 := Tryd.func102.trans (congrArg some (by kernel_rfl))
  f317 := Tryd.func117.trans (congrArg some (by kernel_rfl))
  f318 := Tryd.func119.trans (congrArg some (by kernel_rfl))
  f319 := Tryd.func120.trans (congrArg some (by kernel_rfl))
  f320 := Tryd.func121.trans (congrArg some (by kernel_rfl))
  f337 := Tryd.func125.trans (congrArg some (by kernel_rfl))
  f338 := Tryd.func126.trans (congrArg some (by kernel_rfl))
  t0 := Tryd.underlying0
  a0 := Tryd.isAgg0
  z0 := Tryd.sizeOf0
  v0 := Tryd.zeroValue0
  t2 := Tryd.underlying2
  a2 := Tryd.isAgg2
  z2 := Tryd.sizeOf2
  v2 := Tryd.zeroValue2
  t3 := Tryd.underlying3
  a3 := Tryd.isAgg3
  z3 := Tryd.sizeOf3
  v3 := Tryd.zeroValue3
  t4 := Tryd.underlying4
  a4 := Tryd.isAgg4
  z4 := Tryd.sizeOf4
  v4 := Tryd.zeroValue4
  t5 := Tryd.underlying5
  a5 := Tryd.isAgg5
  z5 := Tryd.sizeOf5
  v5 := Tryd.zeroValue5
  t9 := Tryd.underlying9
  a9 := Tryd.isAgg9
  z9 := Tryd.sizeOf9
  v9 := Tryd.zeroValue9
  t20 := Tryd.underlying20
  a20 := Tryd.isAgg20
  z20 := Tryd.sizeOf20
  v20 := Tryd.zeroValue20
  t37 := Tryd.underlying81
  a37 := Tryd.isAgg81
  z37 := Tryd.sizeOf81
  v37 := Tryd.zeroValue81
  t46 := Tryd.underlying136
  a46 := Tryd.isAgg136
  z46 := Tryd.sizeOf136
  v46 := Tryd.zeroValue136
  t51 := Tryd.underlying139
  a51 := Tryd.isAgg139
  z51 := Tryd.sizeOf139
  v51 := Tryd.zeroValue139
  t53 := Tryd.underlying124
  a53 := Tryd.isAgg124
  z53 := Tryd.sizeOf124
  v53 := Tryd.zeroValue124
  t171 := Tryd.underlying123
  a171 := Tryd.isAgg123
  z171 := Tryd.sizeOf123
  v171 := Tryd.zeroValue123
  t173 := Tryd.underlying127
  a173 := Tryd.isAgg127
  z173 := Tryd.sizeOf127
  v173 := Tryd.zeroValue127
  t212 := Tryd.underlying138
  a212 := Tryd.isAgg138
  z212 := Tryd.sizeOf138
  v212 := Tryd.zeroValue138
  t213 := Tryd.underlying140
  a213 := Tryd.isAgg140
  z213 := Tryd.sizeOf140
  t232 := Tryd.underlying145
  a232 := Tryd.isAgg145
  z232 := Tryd.sizeOf145
  v232 := Tryd.zeroValue145
  t233 := Tryd.underlying146
  a233 := Tryd.isAgg146
  z233 := Tryd.sizeOf146
  v233 := Tryd.zeroValue146
  g17 := by kernel_rfl
  g18 := by kernel_rfl
  g19 := by kernel_rfl
  i0 := by kernel_rfl
  i2 := by kernel_rfl
  i3 := by kernel_rfl
  i4 := by kernel_rfl
  i5 := by kernel_rfl
  i9 := by kernel_rfl
  i20 := by kernel_rfl
  i37 := by kernel_rfl
  i46 := by kernel_rfl
  i51 := by kernel_rfl
  i53 := by kernel_rfl
  i171 := by kernel_rfl
  i173 := by kernel_rfl
  i212 := by kernel_rfl
  i232 := by kernel_rfl
  i233 := by kernel_rfl
  m17 := by kernel_rfl
  m18 := by kernel_rfl
  m19 := by kernel_rfl }
end Go.Proofs

/- strconv.Itoa -/

namespace Go.Proofs
open Go Go.Ga
set_option linter.unusedVariables false
set_option maxRecDepth 100000
set_option maxHeartbeats 4000000
def strconv_Itoa.f (k : Nat) (a0 : Int) : Option (ByteArray) := if -9223372036854775808 ≤ a0 ∧ a0 ≤ 9223372036854775807 then some (itoaB a0) else none

theorem strconv_Itoa.ok {k : Nat} {a0 : Int} {r0 : ByteArray} (h : strconv_Itoa.f k a0 = some r0) (w : World) (ht : Lib.TabIs Tryd.prog w "internal/strconv.uint64pow10" .u64 Lib.pow10Tab) :
    Calls Tryd.prog 44 ([.int .i64 a0] : List Value).toArray w (fun e w' => e = .returned (.string r0) ∧ Ext w w') :=
  itoa_ok h w (fun h0 h1 => Any.strconv_Itoa Tryd.itoa a0 h0 h1 w ht)

end Go.Proofs

/- internal/stringslite.Index -/
namespace Go.Proofs
open Go Go.Ga
set_option linter.unusedVariables false
set_option maxRecDepth 100000
set_option maxHeartbeats 4000000
def stringslite_Index.f (k : Nat) (a0 : ByteArray) (a1 : ByteArray) : Option (Int) := ((if ((a1.size : Int) == 0) = true then some true else some (a1.toList == a0.toList))).bind fun y16 => (if y16 = true then some 0 else (if ((a1.size : Int) == 1) = true then (bta a1 0).bind fun t29 => (stringslite_IndexByte.f k a0 (t29.toNat : Int)).bind fun t30 => some t30 else (if (decide ((a1.size : Int) ≥ (a0.size : Int))) = true then some (-1) else none)))

theorem stringslite_Index.ok {k : Nat}  {a0 : ByteArray} {a1 : ByteArray} {r0 : Int} (h : stringslite_Index.f k a0 a1 = some r0) (w : World) :
    Calls Tryd.prog 98 ([.string a0, .string a1] : List Value).toArray w (fun e w' => e = .returned (.int .i64 r0) ∧ Ext w w') := by
  unfold stringslite_Index.f at h
  refine Calls.of_tri (N := 143) Tryd.func98 rfl rfl rfl (Sep.nil (M := noM)) ?_
  refine Tri.seq ?_
  refine Tri.reg (l := [0]) rfl ?_
  refine F.q rfl rfl rfl (wanted_none rfl) (r_assign rfl) ?_
  refine F.nil ?_
  refine Nrm.seq ?_
  refine Tri.seq ?_
  refine Tri.reg (l := [0, 1, 2]) rfl ?_
  refine F.q rfl rfl rfl (wanted_none rfl) (r_move rfl) ?_
  refine F.q rfl rfl rfl (wanted_none rfl) (r_lenS Tryd.underlying9 rfl) ?_
  refine F.q rfl rfl rfl (wanted_none rfl) (r_assign rfl) ?_
  refine F.nil ?_
  refine Nrm.seq ?_
  refine Tri.seq ?_
  refine Tri.block ?_
  refine Tri.seq ?_
  obtain ⟨y16, hE_1, h⟩ := bind_some h
  refine Tri.cut (fun e' C' => e' = [(0, .string a0), (1, .string a1), (5, .int .i64 (a1.size : Int)), (16, .bool y16)] ∧ C' = Sep w noM []) ?_ (fun hj_1 => ?_)
  · rintro _ _ ⟨rfl, rfl⟩
    refine Nrm.seq ?_
    refine Tri.cond (b := y16) rfl (fun g_1 => ?_) (fun g_1 => ?_)
    · replace h := if_tt g_1 h
      refine Tri.seq ?_
      refine Tri.reg (l := [0]) rfl ?_
      refine F.q rfl rfl rfl (wanted_none rfl) (r_assign rfl) ?_
      refine F.nil ?_
      refine Nrm.seq ?_
      refine Tri.ret ?_
      refine Rtn.block ?_
      refine Rtn.then ?_
      cases h
      exact Rtn.body (.tmp rfl .nil) (fun w hw => ⟨rfl, hw.ext⟩)
    · replace h := if_ff g_1 h
      refine Tri.seq ?_
      refine Tri.reg (l := [0, 1, 2]) rfl ?_
      refine F.q rfl rfl rfl (wanted_none rfl) (r_move rfl) ?_
      refine F.q rfl rfl rfl (wanted_none rfl) (r_eql rfl rfl) ?_
      refine F.q rfl rfl rfl (wanted_none rfl) (r_assign rfl) ?_
      refine F.nil ?_
      refine Nrm.seq ?_
      refine Tri.cond (b := (a1.size : Int) == 1) rfl (fun g_2 => ?_) (fun g_2 => ?_)
      · replace h := if_tt g_2 h
        refine Tri.seq ?_
        obtain ⟨t29, h29, h⟩ := bind_some h
        obtain ⟨t30, h30, h⟩ := bind_some h
        refine Tri.reg (l := [0, 1, 2, 3, 4]) rfl ?_
        refine F.q rfl rfl rfl (wanted_none rfl) (r_move rfl) ?_
        refine F.q rfl rfl rfl (wanted_none rfl) (r_move rfl) ?_
        refine F.q rfl rfl rfl (wanted_none rfl) (r_indexS Tryd.underlying9 rfl rfl (bt_some h29).1 (bt_some h29).2) ?_
        refine F.qc rfl rfl rfl (wanted_none rfl) (q_callF (xs := _) rfl ok97 rfl rfl (fun w hw => stringslite_IndexByte.ok h30 w )) ?_
        refine F.q rfl rfl rfl (wanted_none rfl) (r_assign rfl) ?_
        refine F.nil ?_
        refine Nrm.seq ?_
        refine Tri.ret ?_
        refine Rtn.block ?_
        refine Rtn.then ?_
        cases h
        exact Rtn.body (.tmp rfl .nil) (fun w hw => ⟨rfl, hw.ext⟩)
      · replace h := if_ff g_2 h
        refine Tri.seq ?_
        refine Tri.reg (l := [0, 1, 2, 3, 4]) rfl ?_
        refine F.q rfl rfl rfl (wanted_none rfl) (r_move rfl) ?_
        refine F.q rfl rfl rfl (wanted_none rfl) (r_move rfl) ?_
        refine F.q rfl rfl rfl (wanted_none rfl) (r_lenS Tryd.underlying9 rfl) ?_
        refine F.q rfl rfl rfl (wanted_none rfl) (r_geq rfl rfl) ?_
        refine F.q rfl rfl rfl (wanted_none rfl) (r_assign rfl) ?_
        refine F.nil ?_
        refine Nrm.seq ?_
        refine Tri.cond (b := decide ((a1.size : Int) ≥ (a0.size : Int))) rfl (fun g_3 => ?_) (fun g_3 => ?_)
        · replace h := if_tt g_3 h
          refine Tri.seq ?_
          refine Tri.reg (l := [0]) rfl ?_
          refine F.q rfl rfl rfl (wanted_none rfl) (r_assign rfl) ?_
          refine F.nil ?_
          refine Nrm.seq ?_
          refine Tri.ret ?_
          refine Rtn.block ?_
          refine Rtn.then ?_
          cases h
          exact Rtn.body (.tmp rfl .nil) (fun w hw => ⟨rfl, hw.ext⟩)
        · replace h := if_ff g_3 h
          cases h
  · rcases Bool.eq_false_or_eq_true ((a1.size : Int) == 0) with g19 | g19
    · replace hE_1 := if_tt g19 hE_1
      refine Tri.reg (l := [0, 1, 2, 3, 4, 5, 6, 7]) rfl ?_
      refine F.q rfl rfl rfl (wanted_none rfl) (r_move rfl) ?_
      refine F.q rfl rfl rfl (wanted_none rfl) (r_eql rfl rfl) ?_
      refine F.q rfl rfl rfl (wanted_none rfl) (r_move rfl) ?_
      refine F.sk rfl rfl rfl (wf rfl rfl rfl g19) ?_
      refine F.sk rfl rfl rfl (wf rfl rfl rfl g19) ?_
      refine F.sk rfl rfl rfl (wf rfl rfl rfl g19) ?_
      refine F.q rfl rfl rfl (wanted_none rfl) (r_pick rfl rfl g19) ?_
      refine F.q rfl rfl rfl (wanted_none rfl) (r_assign rfl) ?_
      refine F.nil ?_
      cases hE_1
      refine Nrm.only [0, 1, 5, 16] rfl ?_
      refine Nrm.pick [] rfl rfl ?_
      exact hj_1 _ _ ⟨rfl, rfl⟩
    · replace hE_1 := if_ff g19 hE_1
      refine Tri.reg (l := [0, 1, 2, 3, 4, 5, 6, 7]) rfl ?_
      refine F.q rfl rfl rfl (wanted_none rfl) (r_move rfl) ?_
      refine F.q rfl rfl rfl (wanted_none rfl) (r_eql rfl rfl) ?_
      refine F.q rfl rfl rfl (wanted_none rfl) (r_move rfl) ?_
      refine F.q rfl rfl rfl (wg rfl rfl rfl g19) (r_move rfl) ?_
      refine F.q rfl rfl rfl (wg rfl rfl rfl g19) (r_move rfl) ?_
      refine F.q rfl rfl rfl (wg rfl rfl rfl g19) (r_eqlS rfl rfl) ?_
      refine F.q rfl rfl rfl (wanted_none rfl) (r_pickf rfl rfl g19) ?_
      refine F.q rfl rfl rfl (wanted_none rfl) (r_assign rfl) ?_
      refine F.nil ?_
      cases hE_1
      refine Nrm.only [0, 1, 5, 16] rfl ?_
      refine Nrm.pick [] rfl rfl ?_
      exact hj_1 _ _ ⟨rfl, rfl⟩

end Go.Proofs

/- strings.Index -/
namespace Go.Proofs
open Go Go.Ga
set_option linter.unusedVariables false
set_option maxRecDepth 100000
set_option maxHeartbeats 4000000
def strings_Index.f (k : Nat) (a0 : ByteArray) (a1 : ByteArray) : Option (Int) := (stringslite_Index.f k a0 a1).bind fun t7 => some t7

theorem strings_Index.ok {k : Nat}  {a0 : ByteArray} {a1 : ByteArray} {r0 : Int} (h : strings_Index.f k a0 a1 = some r0) (w : World) :
    Calls Tryd.prog 81 ([.string a0, .string a1] : List Value).toArray w (fun e w' => e = .returned (.int .i64 r0) ∧ Ext w w') := by
  unfold strings_Index.f at h
  refine Calls.of_tri (N := 8) Tryd.func81 rfl rfl rfl (Sep.nil (M := noM)) ?_
  refine Tri.seq ?_
  refine Tri.reg (l := [0]) rfl ?_
  refine F.q rfl rfl rfl (wanted_none rfl) (r_assign rfl) ?_
  refine F.nil ?_
  refine Nrm.seq ?_
  refine Tri.seq ?_
  obtain ⟨t7, h7, h⟩ := bind_some h
  refine Tri.reg (l := [0, 1, 2, 3]) rfl ?_
  refine F.q rfl rfl rfl (wanted_none rfl) (r_move rfl) ?_
  refine F.q rfl rfl rfl (wanted_none rfl) (r_move rfl) ?_
  refine F.qc rfl rfl rfl (wanted_none rfl) (q_callF (xs := _) rfl ok98 rfl rfl (fun w hw => stringslite_Index.ok h7 w )) ?_
  refine F.q rfl rfl rfl (wanted_none rfl) (r_assign rfl) ?_
  refine F.nil ?_
  refine Nrm.seq ?_
  refine Tri.ret ?_
  cases h
  exact Rtn.body (.tmp rfl .nil) (fun w hw => ⟨rfl, hw.ext⟩)

end Go.Proofs

/- strings.Contains -/
namespace Go.Proofs
open Go Go.Ga
set_option linter.unusedVariables false
set_option maxRecDepth 100000
set_option maxHeartbeats 4000000
def strings_Contains.f (k : Nat) (a0 : ByteArray) (a1 : ByteArray) : Option (Bool) := (strings_Index.f k a0 a1).bind fun t7 => some (decide (t7 ≥ 0))

theorem strings_Contains.ok {k : Nat}  {a0 : ByteArray} {a1 : ByteArray} {r0 : Bool} (h : strings_Contains.f k a0 a1 = some r0) (w : World) :
    Calls Tryd.prog 62 ([.string a0, .string a1] : List Value).toArray w (fun e w' => e = .returned (.bool r0) ∧ Ext w w') := by
  unfold strings_Contains.f at h
  refine Calls.of_tri (N := 9) Tryd.func62 rfl rfl rfl (Sep.nil (M := noM)) ?_
  refine Tri.seq ?_
  refine Tri.reg (l := [0]) rfl ?_
  refine F.q rfl rfl rfl (wanted_none rfl) (r_assign rfl) ?_
  refine F.nil ?_
  refine Nrm.seq ?_
  refine Tri.seq ?_
  obtain ⟨t7, h7, h⟩ := bind_some h
  refine Tri.reg (l := [0, 1, 2, 3, 4]) rfl ?_
  refine F.q rfl rfl rfl (wanted_none rfl) (r_move rfl) ?_
  refine F.q rfl rfl rfl (wanted_none rfl) (r_move rfl) ?_
  refine F.qc rfl rfl rfl (wanted_none rfl) (q_callF (xs := _) rfl ok81 rfl rfl (fun w hw => strings_Index.ok h7 w )) ?_
  refine F.q rfl rfl rfl (wanted_none rfl) (r_geq rfl rfl) ?_
  refine F.q rfl rfl rfl (wanted_none rfl) (r_assign rfl) ?_
  refine F.nil ?_
  refine Nrm.seq ?_
  refine Tri.ret ?_
  cases h
  exact Rtn.body (.tmp rfl .nil) (fun w hw => ⟨rfl, hw.ext⟩)

end Go.Proofs

/- loop.example/g01158/impl.checksum -/

namespace Go.Proofs
open Go Go.Ga
set_option linter.unusedVariables false
set_option maxRecDepth 100000
set_option maxHeartbeats 4000000
def impl_checksum.l0 (k : Nat) (a0 : ByteArray) : Nat → Int → Int → Option (Int)
  | 0, _, _ => none
  | n + 1, x3, x7 => (if (decide (x7 < (a0.size : Int))) = true then (bta a0 x7).bind fun t14 => impl_checksum.l0 k a0 n (rem (w64 ((w64 ((w64 (41 * x3)) + (IntKind.i64.wrap (t14.toNat : Int)))) + 1)) 999979) (w64 (x7 + 1)) else some x3)

def impl_checksum.f (k : Nat) (a0 : ByteArray) : Option (Int) := (impl_checksum.l0 k a0 k 7 0).bind fun x3 => some x3

theorem impl_checksum.ok {k : Nat}  {a0 : ByteArray} {r0 : Int} (h : impl_checksum.f k a0 = some r0) (w : World) :
    Calls Tryd.prog 63 ([.string a0] : List Value).toArray w (fun e w' => e = .returned (.int .i64 r0) ∧ Ext w w') := by
  unfold impl_checksum.f at h
  refine Calls.of_tri (N := 21) Tryd.func63 rfl rfl rfl (Sep.nil (M := noM)) ?_
  refine Tri.seq ?_
  refine Tri.reg (l := [0]) rfl ?_
  refine F.q rfl rfl rfl (wanted_none rfl) (r_assign rfl) ?_
  refine F.nil ?_
  refine Nrm.seq ?_
  refine Tri.seq ?_
  refine Tri.reg (l := [0]) rfl ?_
  refine F.q rfl rfl rfl (wanted_none rfl) (r_assign rfl) ?_
  refine F.nil ?_
  refine Nrm.seq ?_
  refine Tri.seq ?_
  refine Tri.seq ?_
  refine Tri.reg (l := [0, 1, 2]) rfl ?_
  refine F.q rfl rfl rfl (wanted_none rfl) (r_move rfl) ?_
  refine F.q rfl rfl rfl (wanted_none rfl) (r_lenS Tryd.underlying9 rfl) ?_
  refine F.q rfl rfl rfl (wanted_none rfl) (r_move rfl) ?_
  refine F.nil ?_
  refine Nrm.seq ?_
  obtain ⟨x3, hE_1, h⟩ := bind_some h
  refine Tri.block ?_
  refine Tri.only [0, 3, 6, 7] rfl ?_
  refine Tri.pick [] rfl rfl ?_
  refine Tri.rounds (fun n e' C' => ∃ (x3' : Int) (x7' : Int), impl_checksum.l0 k a0 n x3' x7' = some x3 ∧ e' = [(0, .string a0), (3, .int .i64 x3'), (6, .int .i64 (a0.size : Int)), (7, .int .i64 x7')] ∧ C' = Sep w noM []) k ?_ ?_ ?_
  · exact ⟨7, 0, hE_1, rfl, rfl⟩
  · rintro _ _ ⟨_, _, hE_1, _⟩
    rw [impl_checksum.l0.eq_1] at hE_1; cases hE_1
  · rintro n_1 _ _ ⟨x3, x7, hE_1, rfl, rfl⟩ ih_1
    rw [impl_checksum.l0.eq_2] at hE_1
    refine Tri.seq ?_
    refine Tri.reg (l := [0]) rfl ?_
    refine F.q rfl rfl rfl (wanted_none rfl) (r_lss rfl rfl) ?_
    refine F.nil ?_
    refine Nrm.seq ?_
    refine Tri.seq ?_
    refine Tri.cond (b := decide (x7 < (a0.size : Int))) rfl (fun g_1 => ?_) (fun g_1 => ?_)
    · replace hE_1 := if_tt g_1 hE_1
      refine Tri.skip ?_
      refine Nrm.seq ?_
      refine Tri.seq ?_
      refine Tri.block ?_
      refine Tri.seq ?_
      refine Tri.reg (l := [0, 1]) rfl ?_
      refine F.q rfl rfl rfl (wanted_none rfl) (r_move rfl) ?_
      refine F.q rfl rfl rfl (wanted_none rfl) (r_assign rfl) ?_
      refine F.nil ?_
      refine Nrm.seq ?_
      obtain ⟨t14, h14, hE_1⟩ := bind_some hE_1
      refine Tri.reg (l := [0, 1, 2, 3, 4, 5, 6, 7, 8, 9]) rfl ?_
      refine F.q rfl rfl rfl (wanted_none rfl) (r_move rfl) ?_
      refine F.q rfl rfl rfl (wanted_none rfl) (r_mul rfl rfl) ?_
      refine F.q rfl rfl rfl (wanted_none rfl) (r_move rfl) ?_
      refine F.q rfl rfl rfl (wanted_none rfl) (r_move rfl) ?_
      refine F.q rfl rfl rfl (wanted_none rfl) (r_indexS Tryd.underlying9 rfl rfl (bt_some h14).1 (bt_some h14).2) ?_
      refine F.q rfl rfl rfl (wanted_none rfl) (r_conv Tryd.underlying5 Tryd.underlying3 rfl) ?_
      refine F.q rfl rfl rfl (wanted_none rfl) (r_add rfl rfl) ?_
      refine F.q rfl rfl rfl (wanted_none rfl) (r_add rfl rfl) ?_
      refine F.q rfl rfl rfl (wanted_none rfl) (r_rem rfl rfl (by decide)) ?_
      refine F.q rfl rfl rfl (wanted_none rfl) (r_assign rfl) ?_
      refine F.nil ?_
      refine Nrm.block ?_
      refine Nrm.seq ?_
      refine Tri.reg (l := [0, 1]) rfl ?_
      refine F.q rfl rfl rfl (wanted_none rfl) (r_add rfl rfl) ?_
      refine F.q rfl rfl rfl (wanted_none rfl) (r_move rfl) ?_
      refine F.nil ?_
      refine Nrm.round ?_
      refine Rnd.only [0, 3, 6, 7] rfl ?_
      refine Rnd.pick [] rfl rfl ?_
      exact ih_1 _ _ ⟨rem (w64 ((w64 ((w64 (41 * x3)) + (IntKind.i64.wrap (t14.toNat : Int)))) + 1)) 999979, w64 (x7 + 1), hE_1, rfl, rfl⟩
    · replace hE_1 := if_ff g_1 hE_1
      refine Tri.exit ?_
      refine Exi.then ?_
      refine Exi.then ?_
      refine Exi.same ?_
      cases hE_1
      refine Nrm.seq ?_
      refine Tri.seq ?_
      refine Tri.reg (l := [0, 1]) rfl ?_
      refine F.q rfl rfl rfl (wanted_none rfl) (r_move rfl) ?_
      refine F.q rfl rfl rfl (wanted_none rfl) (r_assign rfl) ?_
      refine F.nil ?_
      refine Nrm.seq ?_
      refine Tri.ret ?_
      cases h
      exact Rtn.body (.tmp rfl .nil) (fun w hw => ⟨rfl, hw.ext⟩)

end Go.Proofs

/- loop.example/g01158/impl.AppendChecksum -/
namespace Go.Proofs
open Go Go.Ga
set_option linter.unusedVariables false
set_option maxRecDepth 100000
set_option maxHeartbeats 4000000
def impl_AppendChecksum.f (k : Nat) (a0 : ByteArray) : Option (ByteArray × Bool) := ((if (decide ((a0.size : Int) > 4000)) = true then some true else (strings_Contains.f k a0 (ByteArray.mk #[35])).bind fun t10 => some t10)).bind fun y11 => (if y11 = true then some (ByteArray.empty, false) else if (a0 ++ (ByteArray.mk #[35])).size < 4611686018427387904 then (impl_checksum.f k a0).bind fun t15 => (strconv_Itoa.f k t15).bind fun t16 => if ((a0 ++ (ByteArray.mk #[35])) ++ t16).size < 4611686018427387904 then (if (decide ((((a0 ++ (ByteArray.mk #[35])) ++ t16).size : Int) > 4000)) = true then some (ByteArray.empty, false) else some ((a0 ++ (ByteArray.mk #[35])) ++ t16, true)) else none else none)

theorem impl_AppendChecksum.ok {k : Nat}  {a0 : ByteArray} {r0 : ByteArray} {r1 : Bool} (h : impl_AppendChecksum.f k a0 = some (r0, r1)) (w : World) (ht : Lib.TabIs Tryd.prog w "internal/strconv.uint64pow10" .u64 Lib.pow10Tab) :
    Calls Tryd.prog 43 ([.string a0] : List Value).toArray w (fun e w' => e = .returned (.tuple #[.string r0, .bool r1]) ∧ Ext w w') := by
  unfold impl_AppendChecksum.f at h
  refine Calls.of_tri (N := 22) Tryd.func43 rfl rfl rfl (Sep.nil (M := noM)) ?_
  refine Tri.seq ?_
  refine Tri.reg (l := [0, 1]) rfl ?_
  refine F.q rfl rfl rfl (wanted_none rfl) (r_assign rfl) ?_
  refine F.q rfl rfl rfl (wanted_none rfl) (r_assign rfl) ?_
  refine F.nil ?_
  refine Nrm.seq ?_
  refine Tri.seq ?_
  refine Tri.seq ?_
  obtain ⟨y11, hE_1, h⟩ := bind_some h
  refine Tri.cut (fun e' C' => e' = [(0, .string a0), (11, .bool y11)] ∧ C' = Sep w noM []) ?_ (fun hj_1 => ?_)
  · rintro _ _ ⟨rfl, rfl⟩
    refine Nrm.seq ?_
    refine Tri.cond (b := y11) rfl (fun g_1 => ?_) (fun g_1 => ?_)
    · replace h := if_tt g_1 h
      refine Tri.seq ?_
      refine Tri.reg (l := [0, 1]) rfl ?_
      refine F.q rfl rfl rfl (wanted_none rfl) (r_assign rfl) ?_
      refine F.q rfl rfl rfl (wanted_none rfl) (r_assign rfl) ?_
      refine F.nil ?_
      refine Nrm.seq ?_
      refine Tri.ret ?_
      refine Rtn.then ?_
      cases h
      exact Rtn.body (.tmp rfl (.tmp rfl .nil)) (fun w hw => ⟨rfl, hw.ext⟩)
    · replace h := if_ff g_1 h
      refine Tri.skip ?_
      refine Nrm.seq ?_
      refine Tri.seq ?_
      obtain ⟨hs13, h⟩ := ck h
      obtain ⟨t15, h15, h⟩ := bind_some h
      obtain ⟨t16, h16, h⟩ := bind_some h
      obtain ⟨hs17, h⟩ := ck h
      refine Tri.reg (l := [0, 1, 2, 3, 4, 5, 6]) rfl ?_
      refine F.q rfl rfl rfl (wanted_none rfl) (r_move rfl) ?_
      refine F.q rfl rfl rfl (wanted_none rfl) (r_addS rfl rfl hs13) ?_
      refine F.q rfl rfl rfl (wanted_none rfl) (r_move rfl) ?_
      refine F.qc rfl rfl rfl (wanted_none rfl) (q_callF (xs := _) rfl ok63 rfl rfl (fun w hw => impl_checksum.ok h15 w )) ?_
      refine F.qc rfl rfl rfl (wanted_none rfl) (q_callF (xs := _) rfl ok44 rfl rfl (fun w hw => strconv_Itoa.ok h16 w (Tab.sep ht hw))) ?_
      refine F.q rfl rfl rfl (wanted_none rfl) (r_addS rfl rfl hs17) ?_
      refine F.q rfl rfl rfl (wanted_none rfl) (r_assign rfl) ?_
      refine F.nil ?_
      refine Nrm.seq ?_
      refine Tri.seq ?_
      refine Tri.seq ?_
      refine Tri.reg (l := [0, 1, 2]) rfl ?_
      refine F.q rfl rfl rfl (wanted_none rfl) (r_move rfl) ?_
      refine F.q rfl rfl rfl (wanted_none rfl) (r_lenS Tryd.underlying9 rfl) ?_
      refine F.q rfl rfl rfl (wanted_none rfl) (r_gtr rfl rfl) ?_
      refine F.nil ?_
      refine Nrm.seq ?_
      refine Tri.cond (b := decide ((((a0 ++ (ByteArray.mk #[35])) ++ t16).size : Int) > 4000)) rfl (fun g_2 => ?_) (fun g_2 => ?_)
      · replace h := if_tt g_2 h
        refine Tri.seq ?_
        refine Tri.reg (l := [0, 1]) rfl ?_
        refine F.q rfl rfl rfl (wanted_none rfl) (r_assign rfl) ?_
        refine F.q rfl rfl rfl (wanted_none rfl) (r_assign rfl) ?_
        refine F.nil ?_
        refine Nrm.seq ?_
        refine Tri.ret ?_
        refine Rtn.then ?_
        cases h
        exact Rtn.body (.tmp rfl (.tmp rfl .nil)) (fun w hw => ⟨rfl, hw.ext⟩)
      · replace h := if_ff g_2 h
        refine Tri.skip ?_
        refine Nrm.seq ?_
        refine Tri.seq ?_
        refine Tri.reg (l := [0, 1, 2]) rfl ?_
        refine F.q rfl rfl rfl (wanted_none rfl) (r_move rfl) ?_
        refine F.q rfl rfl rfl (wanted_none rfl) (r_assign rfl) ?_
        refine F.q rfl rfl rfl (wanted_none rfl) (r_assign rfl) ?_
        refine F.nil ?_
        refine Nrm.seq ?_
        refine Tri.ret ?_
        cases h
        exact Rtn.body (.tmp rfl (.tmp rfl .nil)) (fun w hw => ⟨rfl, hw.ext⟩)
  · rcases Bool.eq_false_or_eq_true (decide ((a0.size : Int) > 4000)) with g8 | g8
    · replace hE_1 := if_tt g8 hE_1
      refine Tri.reg (l := [0, 1, 2, 3, 4, 5, 6]) rfl ?_
      refine F.q rfl rfl rfl (wanted_none rfl) (r_move rfl) ?_
      refine F.q rfl rfl rfl (wanted_none rfl) (r_lenS Tryd.underlying9 rfl) ?_
      refine F.q rfl rfl rfl (wanted_none rfl) (r_gtr rfl rfl) ?_
      refine F.q rfl rfl rfl (wanted_none rfl) (r_move rfl) ?_
      refine F.sk rfl rfl rfl (wf rfl rfl rfl g8) ?_
      refine F.sk rfl rfl rfl (wf rfl rfl rfl g8) ?_
      refine F.q rfl rfl rfl (wanted_none rfl) (r_pick rfl rfl g8) ?_
      refine F.nil ?_
      cases hE_1
      refine Nrm.only [0, 11] rfl ?_
      refine Nrm.pick [] rfl rfl ?_
      exact hj_1 _ _ ⟨rfl, rfl⟩
    · replace hE_1 := if_ff g8 hE_1
      obtain ⟨t10, h10, hE_1⟩ := bind_some hE_1
      refine Tri.reg (l := [0, 1, 2, 3, 4, 5, 6]) rfl ?_
      refine F.q rfl rfl rfl (wanted_none rfl) (r_move rfl) ?_
      refine F.q rfl rfl rfl (wanted_none rfl) (r_lenS Tryd.underlying9 rfl) ?_
      refine F.q rfl rfl rfl (wanted_none rfl) (r_gtr rfl rfl) ?_
      refine F.q rfl rfl rfl (wanted_none rfl) (r_move rfl) ?_
      refine F.q rfl rfl rfl (wg rfl rfl rfl g8) (r_move rfl) ?_
      refine F.qc rfl rfl rfl (wg rfl rfl rfl g8) (q_callF (xs := _) rfl ok62 rfl rfl (fun w hw => strings_Contains.ok h10 w )) ?_
      refine F.q rfl rfl rfl (wanted_none rfl) (r_pickf rfl rfl g8) ?_
      refine F.nil ?_
      cases hE_1
      refine Nrm.only [0, 11] rfl ?_
      refine Nrm.pick [] rfl rfl ?_
      exact hj_1 _ _ ⟨rfl, rfl⟩

end Go.Proofs

/- loop.example/g01158/impl.EncodeRecord -/
namespace Go.Proofs
open Go Go.Ga
set_option linter.unusedVariables false
set_option maxRecDepth 100000
set_option maxHeartbeats 4000000
def impl_EncodeRecord.f (k : Nat) (a0 : Int) (a1_0 : ByteArray) (a1_1 : ByteArray) : Option (ByteArray × Bool) := ((impl_within.f k a0 0 59).bind fun t9 => (if (!t9) = true then some true else (impl_IsValidRecord.f k a1_0 a1_1).bind fun t13 => some (!t13))).bind fun y15 => (if y15 = true then some (ByteArray.empty, false) else (strconv_Itoa.f k a0).bind fun t18 => if (t18 ++ (ByteArray.mk #[32])).size < 4611686018427387904 then if ((t18 ++ (ByteArray.mk #[32])) ++ a1_0).size < 4611686018427387904 then if (((t18 ++ (ByteArray.mk #[32])) ++ a1_0) ++ (ByteArray.mk #[64])).size < 4611686018427387904 then if ((((t18 ++ (ByteArray.mk #[32])) ++ a1_0) ++ (ByteArray.mk #[64])) ++ a1_1).size < 4611686018427387904 then (impl_AppendChecksum.f k ((((t18 ++ (ByteArray.mk #[32])) ++ a1_0) ++ (ByteArray.mk #[64])) ++ a1_1)).bind fun (t27_1, t27_2) => (if (!t27_2) = true then some (ByteArray.empty, false) else if (t27_1 ++ (ByteArray.mk #[10])).size < 4611686018427387904 then some (t27_1 ++ (ByteArray.mk #[10]), true) else none) else none else none else none else none)

theorem impl_EncodeRecord.ok {k : Nat}  {a0 : Int} {a1_0 : ByteArray} {a1_1 : ByteArray} {r0 : ByteArray} {r1 : Bool} (h : impl_EncodeRecord.f k a0 a1_0 a1_1 = some (r0, r1)) (w : World) (ht : Lib.TabIs Tryd.prog w "internal/strconv.uint64pow10" .u64 Lib.pow10Tab) :
    Calls Tryd.prog 14 ([.int .i64 a0, .agg ([.string a1_0, .string a1_1].toArray)] : List Value).toArray w (fun e w' => e = .returned (.tuple #[.string r0, .bool r1]) ∧ Ext w w') := by
  unfold impl_EncodeRecord.f at h
  refine Calls.of_tri (N := 34) Tryd.func14 rfl rfl rfl (Sep.nil (M := noM)) ?_
  refine Tri.seq ?_
  refine Tri.reg (l := [0, 1, 2]) rfl ?_
  refine F.m rfl rfl rfl (wanted_none rfl) (m_boxG rfl rfl) ?_
  rintro _ _ ⟨b3_1, rfl, rfl⟩
  refine F.q rfl rfl rfl (wanted_none rfl) (r_assign rfl) ?_
  refine F.q rfl rfl rfl (wanted_none rfl) (r_assign rfl) ?_
  refine F.nil ?_
  refine Nrm.seq ?_
  refine Tri.seq ?_
  refine Tri.seq ?_
  obtain ⟨y15, hE_1, h⟩ := bind_some h
  refine Tri.cut (fun e' C' => e' = [(0, .int .i64 a0), (3, .pointer (some ⟨b3_1, 0, none⟩)), (15, .bool y15)] ∧ C' = Sep w noM [R.box b3_1 27 [.string a1_0, .string a1_1]]) ?_ (fun hj_1 => ?_)
  · rintro _ _ ⟨rfl, rfl⟩
    refine Nrm.seq ?_
    refine Tri.cond (b := y15) rfl (fun g_1 => ?_) (fun g_1 => ?_)
    · replace h := if_tt g_1 h
      refine Tri.seq ?_
      refine Tri.reg (l := [0, 1]) rfl ?_
      refine F.q rfl rfl rfl (wanted_none rfl) (r_assign rfl) ?_
      refine F.q rfl rfl rfl (wanted_none rfl) (r_assign rfl) ?_
      refine F.nil ?_
      refine Nrm.seq ?_
      refine Tri.ret ?_
      refine Rtn.then ?_
      cases h
      exact Rtn.body (.tmp rfl (.tmp rfl .nil)) (fun w hw => ⟨rfl, hw.ext⟩)
    · replace h := if_ff g_1 h
      refine Tri.skip ?_
      refine Nrm.seq ?_
      refine Tri.seq ?_
      obtain ⟨t18, h18, h⟩ := bind_some h
      obtain ⟨hs19, h⟩ := ck h
      obtain ⟨hs22, h⟩ := ck h
      obtain ⟨hs23, h⟩ := ck h
      obtain ⟨hs26, h⟩ := ck h
      obtain ⟨⟨t27_1, t27_2⟩, h27, h⟩ := bind_some h
      refine Tri.drawA mixedT Sep.up [(0, true), (1, true), (2, true), (3, true), (4, true), (5, true), (6, true), (7, true), (8, true), (9, true), (10, true), (11, true), (12, true), (13, true), (14, true), (15, true)] [] (by kernel_rfl) ?_
      refine S.q rfl rfl rfl (wanted_none rfl) (r_move rfl) ?_
      refine S.qc rfl rfl rfl (wanted_none rfl) (q_callF (xs := _) rfl ok44 rfl rfl (fun w hw => strconv_Itoa.ok h18 w (Tab.sep ht hw))) ?_
      refine S.q rfl rfl rfl (wanted_none rfl) (r_addS rfl rfl hs19) ?_
      refine S.q rfl rfl rfl (wanted_none rfl) (r_fieldAddr tf27_0 rfl) ?_
      refine S.q rfl rfl rfl (wanted_none rfl) (r_load ta9 rfl (fun w hw => cell_1 (box_cells (i := 0) rfl w hw) rfl)) ?_
      refine S.q rfl rfl rfl (wanted_none rfl) (r_addS rfl rfl hs22) ?_
      refine S.q rfl rfl rfl (wanted_none rfl) (r_addS rfl rfl hs23) ?_
      refine S.q rfl rfl rfl (wanted_none rfl) (r_fieldAddr tf27_1 rfl) ?_
      refine S.q rfl rfl rfl (wanted_none rfl) (r_load ta9 rfl (fun w hw => cell_1 (box_cells (i := 0) rfl w hw) rfl)) ?_
      refine S.q rfl rfl rfl (wanted_none rfl) (r_addS rfl rfl hs26) ?_
      refine S.qc rfl rfl rfl (wanted_none rfl) (q_callF (xs := _) rfl ok43 rfl rfl (fun w hw => impl_AppendChecksum.ok h27 w (Tab.sep ht hw))) ?_
      refine S.q rfl rfl rfl (wanted_none rfl) (r_move rfl) ?_
      refine S.q rfl rfl rfl (wanted_none rfl) (r_extract rfl rfl) ?_
      refine S.q rfl rfl rfl (wanted_none rfl) (r_extract rfl rfl) ?_
      refine S.q rfl rfl rfl (wanted_none rfl) (r_assign rfl) ?_
      refine S.q rfl rfl rfl (wanted_none rfl) (r_assign rfl) ?_
      refine S.nil ?_
      refine F.nil ?_
      refine Nrm.seq ?_
      refine Tri.seq ?_
      refine Tri.seq ?_
      refine Tri.reg (l := [0, 1]) rfl ?_
      refine F.q rfl rfl rfl (wanted_none rfl) (r_move rfl) ?_
      refine F.q rfl rfl rfl (wanted_none rfl) (r_not rfl) ?_
      refine F.nil ?_
      refine Nrm.seq ?_
      refine Tri.cond (b := !t27_2) rfl (fun g_2 => ?_) (fun g_2 => ?_)
      · replace h := if_tt g_2 h
        refine Tri.seq ?_
        refine Tri.reg (l := [0, 1]) rfl ?_
        refine F.q rfl rfl rfl (wanted_none rfl) (r_assign rfl) ?_
        refine F.q rfl rfl rfl (wanted_none rfl) (r_assign rfl) ?_
        refine F.nil ?_
        refine Nrm.seq ?_
        refine Tri.ret ?_
        refine Rtn.then ?_
        cases h
        exact Rtn.body (.tmp rfl (.tmp rfl .nil)) (fun w hw => ⟨rfl, hw.ext⟩)
      · replace h := if_ff g_2 h
        refine Tri.skip ?_
        refine Nrm.seq ?_
        refine Tri.seq ?_
        obtain ⟨hs33, h⟩ := ck h
        refine Tri.reg (l := [0, 1, 2, 3]) rfl ?_
        refine F.q rfl rfl rfl (wanted_none rfl) (r_move rfl) ?_
        refine F.q rfl rfl rfl (wanted_none rfl) (r_addS rfl rfl hs33) ?_
        refine F.q rfl rfl rfl (wanted_none rfl) (r_assign rfl) ?_
        refine F.q rfl rfl rfl (wanted_none rfl) (r_assign rfl) ?_
        refine F.nil ?_
        refine Nrm.seq ?_
        refine Tri.ret ?_
        cases h
        exact Rtn.body (.tmp rfl (.tmp rfl .nil)) (fun w hw => ⟨rfl, hw.ext⟩)
  · obtain ⟨t9, h9, hE_1⟩ := bind_some hE_1
    rcases Bool.eq_false_or_eq_true (!t9) with g11 | g11
    · replace hE_1 := if_tt g11 hE_1
      refine Tri.reg (l := [0, 1, 2, 3, 4, 5, 6, 7]) rfl ?_
      refine F.q rfl rfl rfl (wanted_none rfl) (r_move rfl) ?_
      refine F.qc rfl rfl rfl (wanted_none rfl) (q_callF (xs := _) rfl ok41 rfl rfl (fun w hw => impl_within.ok h9 w )) ?_
      refine F.q rfl rfl rfl (wanted_none rfl) (r_not rfl) ?_
      refine F.q rfl rfl rfl (wanted_none rfl) (r_move rfl) ?_
      refine F.sk rfl rfl rfl (wf rfl rfl rfl g11) ?_
      refine F.sk rfl rfl rfl (wf rfl rfl rfl g11) ?_
      refine F.sk rfl rfl rfl (wf rfl rfl rfl g11) ?_
      refine F.q rfl rfl rfl (wanted_none rfl) (r_pick rfl rfl g11) ?_
      refine F.nil ?_
      cases hE_1
      refine Nrm.only [0, 3, 15] rfl ?_
      refine Nrm.pick [0] rfl rfl ?_
      exact hj_1 _ _ ⟨rfl, rfl⟩
    · replace hE_1 := if_ff g11 hE_1
      obtain ⟨t13, h13, hE_1⟩ := bind_some hE_1
      refine Tri.reg (l := [0, 1, 2, 3, 4, 5, 6, 7]) rfl ?_
      refine F.q rfl rfl rfl (wanted_none rfl) (r_move rfl) ?_
      refine F.qc rfl rfl rfl (wanted_none rfl) (q_callF (xs := _) rfl ok41 rfl rfl (fun w hw => impl_within.ok h9 w )) ?_
      refine F.q rfl rfl rfl (wanted_none rfl) (r_not rfl) ?_
      refine F.q rfl rfl rfl (wanted_none rfl) (r_move rfl) ?_
      refine F.q rfl rfl rfl (wg rfl rfl rfl g11) (r_loadA ta27 ti27 rfl rfl (fun w hw => (box_cells (i := 0) rfl w hw))) ?_
      refine F.qc rfl rfl rfl (wg rfl rfl rfl g11) (q_callF (xs := _) rfl ok42 rfl rfl (fun w hw => impl_IsValidRecord.ok h13 w )) ?_
      refine F.q rfl rfl rfl (wg rfl rfl rfl g11) (r_not rfl) ?_
      refine F.q rfl rfl rfl (wanted_none rfl) (r_pickf rfl rfl g11) ?_
      refine F.nil ?_
      cases hE_1
      refine Nrm.only [0, 3, 15] rfl ?_
      refine Nrm.pick [0] rfl rfl ?_
      exact hj_1 _ _ ⟨rfl, rfl⟩

end Go.Proofs

/- loop.example/g01158/laws.FnExactEncodeRecord -/
namespace Go.Proofs
open Go Go.Ga
set_option linter.unusedVariables false
set_option maxRecDepth 100000
set_option maxHeartbeats 4000000
def laws_FnExactEncodeRecord.f (k : Nat) (a0 : Int) (a1_0 : ByteArray) (a1_1 : ByteArray) : Option (Bool) := (laws_szLogRecord.f k a1_0 a1_1 1048576).bind fun t12 => (if (decide (t12 < 0)) = true then some true else (laws_toLogRecord.f k a1_0 a1_1).bind fun (t18_1, t18_2) => (spec_EncodeRecord.f k a0 t18_1 t18_2).bind fun (t19_1, t19_2) => (laws_toLogRecord.f k a1_0 a1_1).bind fun (t25_1, t25_2) => (impl_EncodeRecord.f k a0 t25_1 t25_2).bind fun (t26_1, t26_2) => ((if (!(t26_1.toList == t19_1.toList)) = true then some true else some (t26_2 != t19_2))).bind fun y36 => (if y36 = true then some false else some true))

theorem laws_FnExactEncodeRecord.ok {k : Nat}  {a0 : Int} {a1_0 : ByteArray} {a1_1 : ByteArray} {r0 : Bool} (h : laws_FnExactEncodeRecord.f k a0 a1_0 a1_1 = some r0) (w : World) (ht : Lib.TabIs Tryd.prog w "internal/strconv.uint64pow10" .u64 Lib.pow10Tab) :
    Calls Tryd.prog 3 ([.int .i64 a0, .agg ([.string a1_0, .string a1_1].toArray)] : List Value).toArray w (fun e w' => e = .returned (.bool r0) ∧ Ext w w') := by
  unfold laws_FnExactEncodeRecord.f at h
  refine Calls.of_tri (N := 37) Tryd.func3 rfl rfl rfl (Sep.nil (M := noM)) ?_
  refine Tri.seq ?_
  refine Tri.reg (l := [0, 1]) rfl ?_
  refine F.m rfl rfl rfl (wanted_none rfl) (m_boxG rfl rfl) ?_
  rintro _ _ ⟨b3_1, rfl, rfl⟩
  refine F.q rfl rfl rfl (wanted_none rfl) (r_assign rfl) ?_
  refine F.nil ?_
  refine Nrm.seq ?_
  refine Tri.seq ?_
  refine Tri.reg (l := [0]) rfl ?_
  refine F.q rfl rfl rfl (wanted_none rfl) (r_assign rfl) ?_
  refine F.nil ?_
  refine Nrm.seq ?_
  refine Tri.seq ?_
  obtain ⟨t12, h12, h⟩ := bind_some h
  refine Tri.reg (l := [0, 1, 2, 3]) rfl ?_
  refine F.q rfl rfl rfl (wanted_none rfl) (r_loadA ta23 ti23 rfl rfl (fun w hw => (box_cells (i := 0) rfl w hw))) ?_
  refine F.q rfl rfl rfl (wanted_none rfl) (r_move rfl) ?_
  refine F.qc rfl rfl rfl (wanted_none rfl) (q_callF (xs := _) rfl ok11 rfl rfl (fun w hw => laws_szLogRecord.ok h12 w )) ?_
  refine F.q rfl rfl rfl (wanted_none rfl) (r_assign rfl) ?_
  refine F.nil ?_
  refine Nrm.seq ?_
  refine Tri.seq ?_
  refine Tri.seq ?_
  refine Tri.reg (l := [0, 1]) rfl ?_
  refine F.q rfl rfl rfl (wanted_none rfl) (r_move rfl) ?_
  refine F.q rfl rfl rfl (wanted_none rfl) (r_lss rfl rfl) ?_
  refine F.nil ?_
  refine Nrm.seq ?_
  refine Tri.cond (b := decide (t12 < 0)) rfl (fun g_1 => ?_) (fun g_1 => ?_)
  · replace h := if_tt g_1 h
    refine Tri.seq ?_
    refine Tri.reg (l := [0]) rfl ?_
    refine F.q rfl rfl rfl (wanted_none rfl) (r_assign rfl) ?_
    refine F.nil ?_
    refine Nrm.seq ?_
    refine Tri.ret ?_
    refine Rtn.then ?_
    cases h
    exact Rtn.body (.tmp rfl .nil) (fun w hw => ⟨rfl, hw.ext⟩)
  · replace h := if_ff g_1 h
    refine Tri.skip ?_
    refine Nrm.seq ?_
    refine Tri.seq ?_
    obtain ⟨⟨t18_1, t18_2⟩, h18, h⟩ := bind_some h
    obtain ⟨⟨t19_1, t19_2⟩, h19, h⟩ := bind_some h
    refine Tri.reg (l := [0, 1, 2, 3, 4, 5, 6, 7, 8]) rfl ?_
    refine F.q rfl rfl rfl (wanted_none rfl) (r_move rfl) ?_
    refine F.q rfl rfl rfl (wanted_none rfl) (r_loadA ta23 ti23 rfl rfl (fun w hw => (box_cells (i := 0) rfl w hw))) ?_
    refine F.qc rfl rfl rfl (wanted_none rfl) (q_callF (xs := _) rfl ok13 rfl rfl (fun w hw => laws_toLogRecord.ok h18 w )) ?_
    refine F.qc rfl rfl rfl (wanted_none rfl) (q_callF (xs := _) rfl ok12 rfl rfl (fun w hw => spec_EncodeRecord.ok h19 w )) ?_
    refine F.q rfl rfl rfl (wanted_none rfl) (r_move rfl) ?_
    refine F.q rfl rfl rfl (wanted_none rfl) (r_extract rfl rfl) ?_
    refine F.q rfl rfl rfl (wanted_none rfl) (r_extract rfl rfl) ?_
    refine F.q rfl rfl rfl (wanted_none rfl) (r_assign rfl) ?_
    refine F.q rfl rfl rfl (wanted_none rfl) (r_assign rfl) ?_
    refine F.nil ?_
    refine Nrm.seq ?_
    refine Tri.seq ?_
    obtain ⟨⟨t25_1, t25_2⟩, h25, h⟩ := bind_some h
    obtain ⟨⟨t26_1, t26_2⟩, h26, h⟩ := bind_some h
    refine Tri.reg (l := [0, 1, 2, 3, 4, 5, 6, 7, 8]) rfl ?_
    refine F.q rfl rfl rfl (wanted_none rfl) (r_move rfl) ?_
    refine F.q rfl rfl rfl (wanted_none rfl) (r_loadA ta23 ti23 rfl rfl (fun w hw => (box_cells (i := 0) rfl w hw))) ?_
    refine F.qc rfl rfl rfl (wanted_none rfl) (q_callF (xs := _) rfl ok13 rfl rfl (fun w hw => laws_toLogRecord.ok h25 w )) ?_
    refine F.qc rfl rfl rfl (wanted_none rfl) (q_callF (xs := _) rfl ok14 rfl rfl (fun w hw => impl_EncodeRecord.ok h26 w (Tab.sep ht hw))) ?_
    refine F.q rfl rfl rfl (wanted_none rfl) (r_move rfl) ?_
    refine F.q rfl rfl rfl (wanted_none rfl) (r_extract rfl rfl) ?_
    refine F.q rfl rfl rfl (wanted_none rfl) (r_extract rfl rfl) ?_
    refine F.q rfl rfl rfl (wanted_none rfl) (r_assign rfl) ?_
    refine F.q rfl rfl rfl (wanted_none rfl) (r_assign rfl) ?_
    refine F.nil ?_
    refine Nrm.seq ?_
    refine Tri.seq ?_
    refine Tri.seq ?_
    obtain ⟨y36, hE_1, h⟩ := bind_some h
    refine Tri.cut (fun e' C' => e' = [(36, .bool y36)] ∧ C' = Sep w noM []) ?_ (fun hj_1 => ?_)
    · rintro _ _ ⟨rfl, rfl⟩
      refine Nrm.seq ?_
      refine Tri.cond (b := y36) rfl (fun g_2 => ?_) (fun g_2 => ?_)
      · replace h := if_tt g_2 h
        refine Tri.seq ?_
        refine Tri.reg (l := [0]) rfl ?_
        refine F.q rfl rfl rfl (wanted_none rfl) (r_assign rfl) ?_
        refine F.nil ?_
        refine Nrm.seq ?_
        refine Tri.ret ?_
        refine Rtn.then ?_
        cases h
        exact Rtn.body (.tmp rfl .nil) (fun w hw => ⟨rfl, hw.ext⟩)
      · replace h := if_ff g_2 h
        refine Tri.skip ?_
        refine Nrm.seq ?_
        refine Tri.seq ?_
        refine Tri.reg (l := [0]) rfl ?_
        refine F.q rfl rfl rfl (wanted_none rfl) (r_assign rfl) ?_
        refine F.nil ?_
        refine Nrm.seq ?_
        refine Tri.ret ?_
        cases h
        exact Rtn.body (.tmp rfl .nil) (fun w hw => ⟨rfl, hw.ext⟩)
    · rcases Bool.eq_false_or_eq_true (!(t26_1.toList == t19_1.toList)) with g32 | g32
      · replace hE_1 := if_tt g32 hE_1
        refine Tri.reg (l := [0, 1, 2, 3, 4, 5, 6, 7]) rfl ?_
        refine F.q rfl rfl rfl (wanted_none rfl) (r_move rfl) ?_
        refine F.q rfl rfl rfl (wanted_none rfl) (r_move rfl) ?_
        refine F.q rfl rfl rfl (wanted_none rfl) (r_neqS rfl rfl) ?_
        refine F.q rfl rfl rfl (wanted_none rfl) (r_move rfl) ?_
        refine F.sk rfl rfl rfl (wf rfl rfl rfl g32) ?_
        refine F.sk rfl rfl rfl (wf rfl rfl rfl g32) ?_
        refine F.sk rfl rfl rfl (wf rfl rfl rfl g32) ?_
        refine F.q rfl rfl rfl (wanted_none rfl) (r_pick rfl rfl g32) ?_
        refine F.nil ?_
        cases hE_1
        refine Nrm.only [36] rfl ?_
        refine Nrm.pick [] rfl rfl ?_
        exact hj_1 _ _ ⟨rfl, rfl⟩
      · replace hE_1 := if_ff g32 hE_1
        refine Tri.reg (l := [0, 1, 2, 3, 4, 5, 6, 7]) rfl ?_
        refine F.q rfl rfl rfl (wanted_none rfl) (r_move rfl) ?_
        refine F.q rfl rfl rfl (wanted_none rfl) (r_move rfl) ?_
        refine F.q rfl rfl rfl (wanted_none rfl) (r_neqS rfl rfl) ?_
        refine F.q rfl rfl rfl (wanted_none rfl) (r_move rfl) ?_
        refine F.q rfl rfl rfl (wg rfl rfl rfl g32) (r_move rfl) ?_
        refine F.q rfl rfl rfl (wg rfl rfl rfl g32) (r_move rfl) ?_
        refine F.q rfl rfl rfl (wg rfl rfl rfl g32) (r_neqB Tryd.underlying4 rfl rfl) ?_
        refine F.q rfl rfl rfl (wanted_none rfl) (r_pickf rfl rfl g32) ?_
        refine F.nil ?_
        cases hE_1
        refine Nrm.only [36] rfl ?_
        refine Nrm.pick [] rfl rfl ?_
        exact hj_1 _ _ ⟨rfl, rfl⟩

end Go.Proofs

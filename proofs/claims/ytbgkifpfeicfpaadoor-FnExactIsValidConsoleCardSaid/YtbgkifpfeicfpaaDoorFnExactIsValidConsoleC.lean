/- A part of the proof of FnExactIsValidConsole: what the functions of the program compute, walked on the model. No condition. -/
import Derived.Test.YtbgkifpfeicfpaaDoorChecked
import Derived.Test.YtbgkifpfeicfpaaDoorFnExactIsValidConsoleB
set_option linter.unusedSimpArgs false
namespace Go.Proofs
open Go Go.Ga Go.Ga.Rp Go.Ga.Flat
theorem mixedT : Tryd.prog.follows .mixedOrders = true := by kernel_rfl
theorem ok103 : CallOk Tryd.prog 103 := .of Tryd.func103 rfl (by decide)
theorem ok104 : CallOk Tryd.prog 104 := .of Tryd.func104 rfl (by decide)
theorem ok105 : CallOk Tryd.prog 105 := .of Tryd.func105 rfl (by decide)
theorem ok106 : CallOk Tryd.prog 106 := .of Tryd.func106 rfl (by decide)
theorem ok107 : CallOk Tryd.prog 107 := .of Tryd.func107 rfl (by decide)
theorem ok108 : CallOk Tryd.prog 108 := .of Tryd.func108 rfl (by decide)
theorem ok109 : CallOk Tryd.prog 109 := .of Tryd.func109 rfl (by decide)
theorem ok11 : CallOk Tryd.prog 11 := .of Tryd.func11 rfl (by decide)
theorem ok110 : CallOk Tryd.prog 110 := .of Tryd.func110 rfl (by decide)
theorem ok111 : CallOk Tryd.prog 111 := .of Tryd.func111 rfl (by decide)
theorem ok112 : CallOk Tryd.prog 112 := .of Tryd.func112 rfl (by decide)
theorem ok117 : CallOk Tryd.prog 117 := .of Tryd.func117 rfl (by decide)
theorem ok118 : CallOk Tryd.prog 118 := .of Tryd.func118 rfl (by decide)
theorem ok12 : CallOk Tryd.prog 12 := .of Tryd.func12 rfl (by decide)
theorem ok122 : CallOk Tryd.prog 122 := .of Tryd.func122 rfl (by decide)
theorem ok123 : CallOk Tryd.prog 123 := .of Tryd.func123 rfl (by decide)
theorem ok13 : CallOk Tryd.prog 13 := .of Tryd.func13 rfl (by decide)
theorem ok14 : CallOk Tryd.prog 14 := .of Tryd.func14 rfl (by decide)
theorem ok15 : CallOk Tryd.prog 15 := .of Tryd.func15 rfl (by decide)
theorem ok16 : CallOk Tryd.prog 16 := .of Tryd.func16 rfl (by decide)
theorem ok17 : CallOk Tryd.prog 17 := .of Tryd.func17 rfl (by decide)
theorem ok18 : CallOk Tryd.prog 18 := .of Tryd.func18 rfl (by decide)
theorem ok19 : CallOk Tryd.prog 19 := .of Tryd.func19 rfl (by decide)
theorem ok20 : CallOk Tryd.prog 20 := .of Tryd.func20 rfl (by decide)
theorem ok21 : CallOk Tryd.prog 21 := .of Tryd.func21 rfl (by decide)
theorem ok24 : CallOk Tryd.prog 24 := .of Tryd.func24 rfl (by decide)
theorem ok25 : CallOk Tryd.prog 25 := .of Tryd.func25 rfl (by decide)
theorem ok26 : CallOk Tryd.prog 26 := .of Tryd.func26 rfl (by decide)
theorem ok27 : CallOk Tryd.prog 27 := .of Tryd.func27 rfl (by decide)
theorem ok28 : CallOk Tryd.prog 28 := .of Tryd.func28 rfl (by decide)
theorem ok29 : CallOk Tryd.prog 29 := .of Tryd.func29 rfl (by decide)
theorem ok30 : CallOk Tryd.prog 30 := .of Tryd.func30 rfl (by decide)
theorem ok31 : CallOk Tryd.prog 31 := .of Tryd.func31 rfl (by decide)
theorem ok32 : CallOk Tryd.prog 32 := .of Tryd.func32 rfl (by decide)
theorem ok33 : CallOk Tryd.prog 33 := .of Tryd.func33 rfl (by decide)
theorem ok34 : CallOk Tryd.prog 34 := .of Tryd.func34 rfl (by decide)
theorem ok35 : CallOk Tryd.prog 35 := .of Tryd.func35 rfl (by decide)
theorem ok36 : CallOk Tryd.prog 36 := .of Tryd.func36 rfl (by decide)
theorem ok37 : CallOk Tryd.prog 37 := .of Tryd.func37 rfl (by decide)
theorem ok38 : CallOk Tryd.prog 38 := .of Tryd.func38 rfl (by decide)
theorem ok39 : CallOk Tryd.prog 39 := .of Tryd.func39 rfl (by decide)
theorem ok40 : CallOk Tryd.prog 40 := .of Tryd.func40 rfl (by decide)
theorem ok41 : CallOk Tryd.prog 41 := .of Tryd.func41 rfl (by decide)
theorem ok42 : CallOk Tryd.prog 42 := .of Tryd.func42 rfl (by decide)
theorem ok43 : CallOk Tryd.prog 43 := .of Tryd.func43 rfl (by decide)
theorem ok44 : CallOk Tryd.prog 44 := .of Tryd.func44 rfl (by decide)
theorem ok45 : CallOk Tryd.prog 45 := .of Tryd.func45 rfl (by decide)
theorem ok46 : CallOk Tryd.prog 46 := .of Tryd.func46 rfl (by decide)
theorem ok47 : CallOk Tryd.prog 47 := .of Tryd.func47 rfl (by decide)
theorem ok48 : CallOk Tryd.prog 48 := .of Tryd.func48 rfl (by decide)
theorem ok49 : CallOk Tryd.prog 49 := .of Tryd.func49 rfl (by decide)
theorem ok50 : CallOk Tryd.prog 50 := .of Tryd.func50 rfl (by decide)
theorem ok51 : CallOk Tryd.prog 51 := .of Tryd.func51 rfl (by decide)
theorem ok52 : CallOk Tryd.prog 52 := .of Tryd.func52 rfl (by decide)
theorem ok53 : CallOk Tryd.prog 53 := .of Tryd.func53 rfl (by decide)
theorem ok54 : CallOk Tryd.prog 54 := .of Tryd.func54 rfl (by decide)
theorem ok55 : CallOk Tryd.prog 55 := .of Tryd.func55 rfl (by decide)
theorem ok56 : CallOk Tryd.prog 56 := .of Tryd.func56 rfl (by decide)
theorem ok57 : CallOk Tryd.prog 57 := .of Tryd.func57 rfl (by decide)
theorem ok58 : CallOk Tryd.prog 58 := .of Tryd.func58 rfl (by decide)
theorem ok59 : CallOk Tryd.prog 59 := .of Tryd.func59 rfl (by decide)
theorem ok60 : CallOk Tryd.prog 60 := .of Tryd.func60 rfl (by decide)
theorem ok61 : CallOk Tryd.prog 61 := .of Tryd.func61 rfl (by decide)
theorem ok62 : CallOk Tryd.prog 62 := .of Tryd.func62 rfl (by decide)
theorem ok63 : CallOk Tryd.prog 63 := .of Tryd.func63 rfl (by decide)
theorem ok65 : CallOk Tryd.prog 65 := .of Tryd.func65 rfl (by decide)
theorem ok66 : CallOk Tryd.prog 66 := .of Tryd.func66 rfl (by decide)
theorem ok67 : CallOk Tryd.prog 67 := .of Tryd.func67 rfl (by decide)
theorem ok68 : CallOk Tryd.prog 68 := .of Tryd.func68 rfl (by decide)
theorem ok69 : CallOk Tryd.prog 69 := .of Tryd.func69 rfl (by decide)
theorem ok70 : CallOk Tryd.prog 70 := .of Tryd.func70 rfl (by decide)
theorem ok71 : CallOk Tryd.prog 71 := .of Tryd.func71 rfl (by decide)
theorem ok72 : CallOk Tryd.prog 72 := .of Tryd.func72 rfl (by decide)
theorem ok73 : CallOk Tryd.prog 73 := .of Tryd.func73 rfl (by decide)
theorem ok74 : CallOk Tryd.prog 74 := .of Tryd.func74 rfl (by decide)
theorem ok75 : CallOk Tryd.prog 75 := .of Tryd.func75 rfl (by decide)
theorem ok76 : CallOk Tryd.prog 76 := .of Tryd.func76 rfl (by decide)
theorem ok77 : CallOk Tryd.prog 77 := .of Tryd.func77 rfl (by decide)
theorem ok78 : CallOk Tryd.prog 78 := .of Tryd.func78 rfl (by decide)
theorem ok79 : CallOk Tryd.prog 79 := .of Tryd.func79 rfl (by decide)
theorem ok80 : CallOk Tryd.prog 80 := .of Tryd.func80 rfl (by decide)
theorem ok81 : CallOk Tryd.prog 81 := .of Tryd.func81 rfl (by decide)
theorem ok83 : CallOk Tryd.prog 83 := .of Tryd.func83 rfl (by decide)
theorem ok84 : CallOk Tryd.prog 84 := .of Tryd.func84 rfl (by decide)
theorem ok85 : CallOk Tryd.prog 85 := .of Tryd.func85 rfl (by decide)
theorem ok86 : CallOk Tryd.prog 86 := .of Tryd.func86 rfl (by decide)
theorem ok87 : CallOk Tryd.prog 87 := .of Tryd.func87 rfl (by decide)
theorem ok88 : CallOk Tryd.prog 88 := .of Tryd.func88 rfl (by decide)
theorem ok89 : CallOk Tryd.prog 89 := .of Tryd.func89 rfl (by decide)
theorem ok90 : CallOk Tryd.prog 90 := .of Tryd.func90 rfl (by decide)
theorem ok91 : CallOk Tryd.prog 91 := .of Tryd.func91 rfl (by decide)
theorem ok92 : CallOk Tryd.prog 92 := .of Tryd.func92 rfl (by decide)
theorem ok93 : CallOk Tryd.prog 93 := .of Tryd.func93 rfl (by decide)
theorem ok94 : CallOk Tryd.prog 94 := .of Tryd.func94 rfl (by decide)
theorem ok95 : CallOk Tryd.prog 95 := .of Tryd.func95 rfl (by decide)
theorem ok96 : CallOk Tryd.prog 96 := .of Tryd.func96 rfl (by decide)
theorem ok97 : CallOk Tryd.prog 97 := .of Tryd.func97 rfl (by decide)
theorem ok98 : CallOk Tryd.prog 98 := .of Tryd.func98 rfl (by decide)
theorem ok99 : CallOk Tryd.prog 99 := .of Tryd.func99 rfl (by decide)
theorem ta114 : TAgg Tryd.prog 114 true := .of (by kernel_rfl)
theorem ta23 : TAgg Tryd.prog 23 true := .of (by kernel_rfl)
theorem ta27 : TAgg Tryd.prog 27 true := .of (by kernel_rfl)
theorem ta3 : TAgg Tryd.prog 3 false := .of (by kernel_rfl)
theorem ta31 : TAgg Tryd.prog 31 true := .of (by kernel_rfl)
theorem ta36 : TAgg Tryd.prog 36 true := .of (by kernel_rfl)
theorem ta53 : TAgg Tryd.prog 53 false := .of (by kernel_rfl)
theorem ta54 : TAgg Tryd.prog 54 false := .of (by kernel_rfl)
theorem ta56 : TAgg Tryd.prog 56 true := .of (by kernel_rfl)
theorem ta58 : TAgg Tryd.prog 58 true := .of (by kernel_rfl)
theorem ta60 : TAgg Tryd.prog 60 true := .of (by kernel_rfl)
theorem ta63 : TAgg Tryd.prog 63 true := .of (by kernel_rfl)
theorem ta65 : TAgg Tryd.prog 65 true := .of (by kernel_rfl)
theorem ta67 : TAgg Tryd.prog 67 true := .of (by kernel_rfl)
theorem ta9 : TAgg Tryd.prog 9 false := .of (by kernel_rfl)
theorem tf23_0 : TField Tryd.prog 23 0 0 := .of (k := 0) (by kernel_rfl)
theorem tf23_1 : TField Tryd.prog 23 1 1 := .of (k := 0) (by kernel_rfl)
theorem tf27_0 : TField Tryd.prog 27 0 0 := .of (k := 0) (by kernel_rfl)
theorem tf27_1 : TField Tryd.prog 27 1 1 := .of (k := 0) (by kernel_rfl)
theorem tf31_0 : TField Tryd.prog 31 0 0 := .of (k := 0) (by kernel_rfl)
theorem tf31_1 : TField Tryd.prog 31 1 1 := .of (k := 0) (by kernel_rfl)
theorem tf31_2 : TField Tryd.prog 31 2 2 := .of (k := 0) (by kernel_rfl)
theorem tf36_0 : TField Tryd.prog 36 0 0 := .of (k := 0) (by kernel_rfl)
theorem tf36_1 : TField Tryd.prog 36 1 1 := .of (k := 0) (by kernel_rfl)
theorem tf36_2 : TField Tryd.prog 36 2 2 := .of (k := 0) (by kernel_rfl)
theorem tf56_0 : TField Tryd.prog 56 0 0 := .of (k := 0) (by kernel_rfl)
theorem tf56_1 : TField Tryd.prog 56 1 1 := .of (k := 0) (by kernel_rfl)
theorem tf56_2 : TField Tryd.prog 56 2 2 := .of (k := 0) (by kernel_rfl)
theorem tf58_0 : TField Tryd.prog 58 0 0 := .of (k := 2) (by kernel_rfl)
theorem tf58_1 : TField Tryd.prog 58 1 3 := .of (k := 0) (by kernel_rfl)
theorem tf58_2 : TField Tryd.prog 58 2 4 := .of (k := 0) (by kernel_rfl)
theorem tf60_0 : TField Tryd.prog 60 0 0 := .of (k := 4) (by kernel_rfl)
theorem tf60_1 : TField Tryd.prog 60 1 5 := .of (k := 2) (by kernel_rfl)
theorem tf63_0 : TField Tryd.prog 63 0 0 := .of (k := 0) (by kernel_rfl)
theorem tf63_1 : TField Tryd.prog 63 1 1 := .of (k := 0) (by kernel_rfl)
theorem tf63_2 : TField Tryd.prog 63 2 2 := .of (k := 0) (by kernel_rfl)
theorem tf65_0 : TField Tryd.prog 65 0 0 := .of (k := 2) (by kernel_rfl)
theorem tf65_1 : TField Tryd.prog 65 1 3 := .of (k := 0) (by kernel_rfl)
theorem tf65_2 : TField Tryd.prog 65 2 4 := .of (k := 0) (by kernel_rfl)
theorem tf67_0 : TField Tryd.prog 67 0 0 := .of (k := 4) (by kernel_rfl)
theorem tf67_1 : TField Tryd.prog 67 1 5 := .of (k := 2) (by kernel_rfl)
theorem ti114 : TInfo Tryd.prog 114 3 24 (.agg #[.int .i64 0, .int .i64 0, .int .i64 0]) := .of (by kernel_rfl)
theorem ti23 : TInfo Tryd.prog 23 2 32 (.agg #[.string ByteArray.empty, .string ByteArray.empty]) := .of (by kernel_rfl)
theorem ti27 : TInfo Tryd.prog 27 2 32 (.agg #[.string ByteArray.empty, .string ByteArray.empty]) := .of (by kernel_rfl)
theorem ti3 : TInfo Tryd.prog 3 1 8 (.int .i64 0) := .of (by kernel_rfl)
theorem ti31 : TInfo Tryd.prog 31 3 40 (.agg #[.string ByteArray.empty, .string ByteArray.empty, .int .i64 0]) := .of (by kernel_rfl)
theorem ti36 : TInfo Tryd.prog 36 3 40 (.agg #[.string ByteArray.empty, .string ByteArray.empty, .int .i64 0]) := .of (by kernel_rfl)
theorem ti5 : TInfo Tryd.prog 5 1 1 (.int .u8 0) := .of (by kernel_rfl)
theorem ti53 : TInfo Tryd.prog 53 1 24 (.slice none 0 0) := .of (by kernel_rfl)
theorem ti54 : TInfo Tryd.prog 54 1 24 (.slice none 0 0) := .of (by kernel_rfl)
theorem ti56 : TInfo Tryd.prog 56 3 56 (.agg #[.int .i64 0, .slice none 0 0, .slice none 0 0]) := .of (by kernel_rfl)
theorem ti58 : TInfo Tryd.prog 58 5 88 (.agg #[.int .i64 0, .slice none 0 0, .slice none 0 0, .slice none 0 0, .int .i64 0]) := .of (by kernel_rfl)
theorem ti60 : TInfo Tryd.prog 60 8 128 (.agg #[.int .i64 0, .slice none 0 0, .slice none 0 0, .slice none 0 0, .int .i64 0, .string ByteArray.empty, .string ByteArray.empty, .int .i64 0]) := .of (by kernel_rfl)
theorem ti63 : TInfo Tryd.prog 63 3 56 (.agg #[.int .i64 0, .slice none 0 0, .slice none 0 0]) := .of (by kernel_rfl)
theorem ti65 : TInfo Tryd.prog 65 5 88 (.agg #[.int .i64 0, .slice none 0 0, .slice none 0 0, .slice none 0 0, .int .i64 0]) := .of (by kernel_rfl)
theorem ti67 : TInfo Tryd.prog 67 8 128 (.agg #[.int .i64 0, .slice none 0 0, .slice none 0 0, .slice none 0 0, .int .i64 0, .string ByteArray.empty, .string ByteArray.empty, .int .i64 0]) := .of (by kernel_rfl)
theorem ti9 : TInfo Tryd.prog 9 1 16 (.string ByteArray.empty) := .of (by kernel_rfl)
end Go.Proofs

/- loop.example/g01158/laws.szLog -/

namespace Go.Proofs
open Go Go.Ga
set_option linter.unusedVariables false
set_option maxRecDepth 100000
set_option maxHeartbeats 4000000
def laws_szLog.f (k : Nat) (a0_0 : ByteArray) (a0_1 : ByteArray) (a0_2 : Int) (a1 : Int) : Option (Int) := (if (decide ((w64 (a1 - (a0_0.size : Int))) < 0)) = true then some (-1) else (if (decide ((w64 ((w64 (a1 - (a0_0.size : Int))) - (a0_1.size : Int))) < 0)) = true then some (-1) else some (w64 ((w64 (a1 - (a0_0.size : Int))) - (a0_1.size : Int)))))

theorem laws_szLog.ok {k : Nat}  {a0_0 : ByteArray} {a0_1 : ByteArray} {a0_2 : Int} {a1 : Int} {r0 : Int} (h : laws_szLog.f k a0_0 a0_1 a0_2 a1 = some r0) (w : World) :
    Calls Tryd.prog 18 ([.agg ([.string a0_0, .string a0_1, .int .i64 a0_2].toArray), .int .i64 a1] : List Value).toArray w (fun e w' => e = .returned (.int .i64 r0) ∧ Ext w w') := by
  unfold laws_szLog.f at h
  refine Calls.of_tri (N := 20) Tryd.func18 rfl rfl rfl (Sep.nil (M := noM)) ?_
  refine Tri.seq ?_
  refine Tri.reg (l := [0, 1]) rfl ?_
  refine F.m rfl rfl rfl (wanted_none rfl) (m_boxG rfl rfl) ?_
  rintro _ _ ⟨b2_1, rfl, rfl⟩
  refine F.q rfl rfl rfl (wanted_none rfl) (r_assign rfl) ?_
  refine F.nil ?_
  refine Nrm.seq ?_
  refine Tri.seq ?_
  refine Tri.reg (l := [0, 1, 2, 3, 4, 5]) rfl ?_
  refine F.q rfl rfl rfl (wanted_none rfl) (r_move rfl) ?_
  refine F.q rfl rfl rfl (wanted_none rfl) (r_fieldAddr tf36_0 rfl) ?_
  refine F.q rfl rfl rfl (wanted_none rfl) (r_load ta9 rfl (fun w hw => cell_1 (box_cells (i := 0) rfl w hw) rfl)) ?_
  refine F.q rfl rfl rfl (wanted_none rfl) (r_lenS Tryd.underlying9 rfl) ?_
  refine F.q rfl rfl rfl (wanted_none rfl) (r_sub rfl rfl) ?_
  refine F.q rfl rfl rfl (wanted_none rfl) (r_assign rfl) ?_
  refine F.nil ?_
  refine Nrm.seq ?_
  refine Tri.seq ?_
  refine Tri.seq ?_
  refine Tri.reg (l := [0, 1]) rfl ?_
  refine F.q rfl rfl rfl (wanted_none rfl) (r_move rfl) ?_
  refine F.q rfl rfl rfl (wanted_none rfl) (r_lss rfl rfl) ?_
  refine F.nil ?_
  refine Nrm.seq ?_
  refine Tri.cond (b := decide ((w64 (a1 - (a0_0.size : Int))) < 0)) rfl (fun g_1 => ?_) (fun g_1 => ?_)
  · replace h := if_tt g_1 h
    refine Tri.seq ?_
    refine Tri.reg (l := [0]) rfl ?_
    refine F.q rfl rfl rfl (wanted_none rfl) (r_assign rfl) ?_
    refine F.nil ?_
    refine Nrm.seq ?_
    refine Tri.ret ?_
    refine Rtn.then ?_
    cases h
    exact Rtn.body (.tmp rfl .nil) (fun w hw => ⟨rfl, hw.ext⟩)
  · replace h := if_ff g_1 h
    refine Tri.skip ?_
    refine Nrm.seq ?_
    refine Tri.seq ?_
    refine Tri.reg (l := [0, 1, 2, 3, 4, 5]) rfl ?_
    refine F.q rfl rfl rfl (wanted_none rfl) (r_move rfl) ?_
    refine F.q rfl rfl rfl (wanted_none rfl) (r_fieldAddr tf36_1 rfl) ?_
    refine F.q rfl rfl rfl (wanted_none rfl) (r_load ta9 rfl (fun w hw => cell_1 (box_cells (i := 0) rfl w hw) rfl)) ?_
    refine F.q rfl rfl rfl (wanted_none rfl) (r_lenS Tryd.underlying9 rfl) ?_
    refine F.q rfl rfl rfl (wanted_none rfl) (r_sub rfl rfl) ?_
    refine F.q rfl rfl rfl (wanted_none rfl) (r_assign rfl) ?_
    refine F.nil ?_
    refine Nrm.seq ?_
    refine Tri.seq ?_
    refine Tri.seq ?_
    refine Tri.reg (l := [0, 1]) rfl ?_
    refine F.q rfl rfl rfl (wanted_none rfl) (r_move rfl) ?_
    refine F.q rfl rfl rfl (wanted_none rfl) (r_lss rfl rfl) ?_
    refine F.nil ?_
    refine Nrm.seq ?_
    refine Tri.cond (b := decide ((w64 ((w64 (a1 - (a0_0.size : Int))) - (a0_1.size : Int))) < 0)) rfl (fun g_2 => ?_) (fun g_2 => ?_)
    · replace h := if_tt g_2 h
      refine Tri.seq ?_
      refine Tri.reg (l := [0]) rfl ?_
      refine F.q rfl rfl rfl (wanted_none rfl) (r_assign rfl) ?_
      refine F.nil ?_
      refine Nrm.seq ?_
      refine Tri.ret ?_
      refine Rtn.then ?_
      cases h
      exact Rtn.body (.tmp rfl .nil) (fun w hw => ⟨rfl, hw.ext⟩)
    · replace h := if_ff g_2 h
      refine Tri.skip ?_
      refine Nrm.seq ?_
      refine Tri.seq ?_
      refine Tri.reg (l := [0, 1]) rfl ?_
      refine F.q rfl rfl rfl (wanted_none rfl) (r_move rfl) ?_
      refine F.q rfl rfl rfl (wanted_none rfl) (r_assign rfl) ?_
      refine F.nil ?_
      refine Nrm.seq ?_
      refine Tri.ret ?_
      cases h
      exact Rtn.body (.tmp rfl .nil) (fun w hw => ⟨rfl, hw.ext⟩)

end Go.Proofs

/- loop.example/g01158/laws.szIntS -/

namespace Go.Proofs
open Go Go.Ga
set_option linter.unusedVariables false
set_option maxRecDepth 100000
set_option maxHeartbeats 4000000
def laws_szIntS.f (k : Nat) (a0 : List Int) (a1 : Int) : Option (Int) := (if (decide ((w64 (a1 - (a0.length : Int))) < 0)) = true then some (-1) else some (w64 (a1 - (a0.length : Int))))

theorem laws_szIntS.ok {k : Nat}  {a0 : List Int} {a1 : Int} {r0 : Int} (h : laws_szIntS.f k a0 a1 = some r0) (w : World) {va0 : Value} (hr_a0 : Rd w va0 a0) :
    Calls Tryd.prog 70 ([va0, .int .i64 a1] : List Value).toArray w (fun e w' => e = .returned (.int .i64 r0) ∧ Ext w w') := by
  unfold laws_szIntS.f at h
  have hl_va0 := hr_a0.len
  refine Calls.of_tri (N := 12) Tryd.func70 rfl rfl rfl (Sep.nil (M := noM)) ?_
  refine Tri.seq ?_
  refine Tri.reg (l := [0]) rfl ?_
  refine F.q rfl rfl rfl (wanted_none rfl) (r_assign rfl) ?_
  refine F.nil ?_
  refine Nrm.seq ?_
  refine Tri.seq ?_
  refine Tri.reg (l := [0, 1, 2, 3, 4]) rfl ?_
  refine F.q rfl rfl rfl (wanted_none rfl) (r_move rfl) ?_
  refine F.q rfl rfl rfl (wanted_none rfl) (r_move rfl) ?_
  refine F.q rfl rfl rfl (wanted_none rfl) (r_len Tryd.underlying54 rfl hl_va0) ?_
  refine F.q rfl rfl rfl (wanted_none rfl) (r_sub rfl rfl) ?_
  refine F.q rfl rfl rfl (wanted_none rfl) (r_assign rfl) ?_
  refine F.nil ?_
  refine Nrm.seq ?_
  refine Tri.seq ?_
  refine Tri.seq ?_
  refine Tri.reg (l := [0, 1]) rfl ?_
  refine F.q rfl rfl rfl (wanted_none rfl) (r_move rfl) ?_
  refine F.q rfl rfl rfl (wanted_none rfl) (r_lss rfl rfl) ?_
  refine F.nil ?_
  refine Nrm.seq ?_
  refine Tri.cond (b := decide ((w64 (a1 - (a0.length : Int))) < 0)) rfl (fun g_1 => ?_) (fun g_1 => ?_)
  · replace h := if_tt g_1 h
    refine Tri.seq ?_
    refine Tri.reg (l := [0]) rfl ?_
    refine F.q rfl rfl rfl (wanted_none rfl) (r_assign rfl) ?_
    refine F.nil ?_
    refine Nrm.seq ?_
    refine Tri.ret ?_
    refine Rtn.then ?_
    cases h
    exact Rtn.body (.tmp rfl .nil) (fun w hw => ⟨rfl, hw.ext⟩)
  · replace h := if_ff g_1 h
    refine Tri.skip ?_
    refine Nrm.seq ?_
    refine Tri.seq ?_
    refine Tri.reg (l := [0, 1]) rfl ?_
    refine F.q rfl rfl rfl (wanted_none rfl) (r_move rfl) ?_
    refine F.q rfl rfl rfl (wanted_none rfl) (r_assign rfl) ?_
    refine F.nil ?_
    refine Nrm.seq ?_
    refine Tri.ret ?_
    cases h
    exact Rtn.body (.tmp rfl .nil) (fun w hw => ⟨rfl, hw.ext⟩)

end Go.Proofs

/- loop.example/g01158/laws.szIntA3S -/

namespace Go.Proofs
open Go Go.Ga
set_option linter.unusedVariables false
set_option maxRecDepth 100000
set_option maxHeartbeats 4000000
def laws_szIntA3S.f (k : Nat) (a0 : List (Int × Int × Int)) (a1 : Int) : Option (Int) := (if (decide ((w64 (a1 - (a0.length : Int))) < 0)) = true then some (-1) else some (w64 (a1 - (a0.length : Int))))

theorem laws_szIntA3S.ok {k : Nat}  {a0 : List (Int × Int × Int)} {a1 : Int} {r0 : Int} (h : laws_szIntA3S.f k a0 a1 = some r0) (w : World) {va0 : Value} (hr_a0 : Rd w va0 a0) :
    Calls Tryd.prog 86 ([va0, .int .i64 a1] : List Value).toArray w (fun e w' => e = .returned (.int .i64 r0) ∧ Ext w w') := by
  unfold laws_szIntA3S.f at h
  have hl_va0 := hr_a0.len
  refine Calls.of_tri (N := 12) Tryd.func86 rfl rfl rfl (Sep.nil (M := noM)) ?_
  refine Tri.seq ?_
  refine Tri.reg (l := [0]) rfl ?_
  refine F.q rfl rfl rfl (wanted_none rfl) (r_assign rfl) ?_
  refine F.nil ?_
  refine Nrm.seq ?_
  refine Tri.seq ?_
  refine Tri.reg (l := [0, 1, 2, 3, 4]) rfl ?_
  refine F.q rfl rfl rfl (wanted_none rfl) (r_move rfl) ?_
  refine F.q rfl rfl rfl (wanted_none rfl) (r_move rfl) ?_
  refine F.q rfl rfl rfl (wanted_none rfl) (r_len Tryd.underlying53 rfl hl_va0) ?_
  refine F.q rfl rfl rfl (wanted_none rfl) (r_sub rfl rfl) ?_
  refine F.q rfl rfl rfl (wanted_none rfl) (r_assign rfl) ?_
  refine F.nil ?_
  refine Nrm.seq ?_
  refine Tri.seq ?_
  refine Tri.seq ?_
  refine Tri.reg (l := [0, 1]) rfl ?_
  refine F.q rfl rfl rfl (wanted_none rfl) (r_move rfl) ?_
  refine F.q rfl rfl rfl (wanted_none rfl) (r_lss rfl rfl) ?_
  refine F.nil ?_
  refine Nrm.seq ?_
  refine Tri.cond (b := decide ((w64 (a1 - (a0.length : Int))) < 0)) rfl (fun g_1 => ?_) (fun g_1 => ?_)
  · replace h := if_tt g_1 h
    refine Tri.seq ?_
    refine Tri.reg (l := [0]) rfl ?_
    refine F.q rfl rfl rfl (wanted_none rfl) (r_assign rfl) ?_
    refine F.nil ?_
    refine Nrm.seq ?_
    refine Tri.ret ?_
    refine Rtn.then ?_
    cases h
    exact Rtn.body (.tmp rfl .nil) (fun w hw => ⟨rfl, hw.ext⟩)
  · replace h := if_ff g_1 h
    refine Tri.skip ?_
    refine Nrm.seq ?_
    refine Tri.seq ?_
    refine Tri.reg (l := [0, 1]) rfl ?_
    refine F.q rfl rfl rfl (wanted_none rfl) (r_move rfl) ?_
    refine F.q rfl rfl rfl (wanted_none rfl) (r_assign rfl) ?_
    refine F.nil ?_
    refine Nrm.seq ?_
    refine Tri.ret ?_
    cases h
    exact Rtn.body (.tmp rfl .nil) (fun w hw => ⟨rfl, hw.ext⟩)

end Go.Proofs

/- loop.example/g01158/laws.szMaze -/
namespace Go.Proofs
open Go Go.Ga
set_option linter.unusedVariables false
set_option maxRecDepth 100000
set_option maxHeartbeats 4000000
def laws_szMaze.f (k : Nat) (a0_0 : Int) (a0_1 : List (Int × Int × Int)) (a0_2 : List Int) (a1 : Int) : Option (Int) := (laws_szIntA3S.f k a0_1 a1).bind fun t8 => (if (decide (t8 < 0)) = true then some (-1) else (laws_szIntS.f k a0_2 t8).bind fun t14 => (if (decide (t14 < 0)) = true then some (-1) else some t14))

theorem laws_szMaze.ok {k : Nat}  {a0_0 : Int} {a0_1 : List (Int × Int × Int)} {a0_2 : List Int} {a1 : Int} {r0 : Int} (h : laws_szMaze.f k a0_0 a0_1 a0_2 a1 = some r0) (w : World) {va0_1 : Value} {va0_2 : Value} (hr_a0_1 : Rd w va0_1 a0_1) (hr_a0_2 : Rd w va0_2 a0_2) :
    Calls Tryd.prog 69 ([.agg ([.int .i64 a0_0, va0_1, va0_2].toArray), .int .i64 a1] : List Value).toArray w (fun e w' => e = .returned (.int .i64 r0) ∧ Ext w w') := by
  unfold laws_szMaze.f at h
  have hl_va0_1 := hr_a0_1.len
  have hl_va0_2 := hr_a0_2.len
  refine Calls.of_tri (N := 18) Tryd.func69 rfl rfl rfl (Sep.nil (M := noM)) ?_
  refine Tri.seq ?_
  refine Tri.reg (l := [0, 1]) rfl ?_
  refine F.m rfl rfl rfl (wanted_none rfl) (m_boxG rfl rfl) ?_
  rintro _ _ ⟨b2_1, rfl, rfl⟩
  refine F.q rfl rfl rfl (wanted_none rfl) (r_assign rfl) ?_
  refine F.nil ?_
  refine Nrm.seq ?_
  refine Tri.seq ?_
  obtain ⟨t8, h8, h⟩ := bind_some h
  refine Tri.reg (l := [0, 1, 2, 3, 4]) rfl ?_
  refine F.q rfl rfl rfl (wanted_none rfl) (r_fieldAddr tf56_1 rfl) ?_
  refine F.q rfl rfl rfl (wanted_none rfl) (r_load ta53 rfl (fun w hw => cell_1 (box_cells (i := 0) rfl w hw) rfl)) ?_
  refine F.q rfl rfl rfl (wanted_none rfl) (r_move rfl) ?_
  refine F.qc rfl rfl rfl (wanted_none rfl) (q_callF (xs := _) rfl ok86 rfl rfl (fun w hw => laws_szIntA3S.ok h8 w ((fun _ hw => hr_a0_1.sep hw) w hw))) ?_
  refine F.q rfl rfl rfl (wanted_none rfl) (r_assign rfl) ?_
  refine F.nil ?_
  refine Nrm.seq ?_
  refine Tri.seq ?_
  refine Tri.seq ?_
  refine Tri.reg (l := [0, 1]) rfl ?_
  refine F.q rfl rfl rfl (wanted_none rfl) (r_move rfl) ?_
  refine F.q rfl rfl rfl (wanted_none rfl) (r_lss rfl rfl) ?_
  refine F.nil ?_
  refine Nrm.seq ?_
  refine Tri.cond (b := decide (t8 < 0)) rfl (fun g_1 => ?_) (fun g_1 => ?_)
  · replace h := if_tt g_1 h
    refine Tri.seq ?_
    refine Tri.reg (l := [0]) rfl ?_
    refine F.q rfl rfl rfl (wanted_none rfl) (r_assign rfl) ?_
    refine F.nil ?_
    refine Nrm.seq ?_
    refine Tri.ret ?_
    refine Rtn.then ?_
    cases h
    exact Rtn.body (.tmp rfl .nil) (fun w hw => ⟨rfl, hw.ext⟩)
  · replace h := if_ff g_1 h
    refine Tri.skip ?_
    refine Nrm.seq ?_
    refine Tri.seq ?_
    obtain ⟨t14, h14, h⟩ := bind_some h
    refine Tri.reg (l := [0, 1, 2, 3, 4]) rfl ?_
    refine F.q rfl rfl rfl (wanted_none rfl) (r_fieldAddr tf56_2 rfl) ?_
    refine F.q rfl rfl rfl (wanted_none rfl) (r_load ta54 rfl (fun w hw => cell_1 (box_cells (i := 0) rfl w hw) rfl)) ?_
    refine F.q rfl rfl rfl (wanted_none rfl) (r_move rfl) ?_
    refine F.qc rfl rfl rfl (wanted_none rfl) (q_callF (xs := _) rfl ok70 rfl rfl (fun w hw => laws_szIntS.ok h14 w ((fun _ hw => hr_a0_2.sep hw) w hw))) ?_
    refine F.q rfl rfl rfl (wanted_none rfl) (r_assign rfl) ?_
    refine F.nil ?_
    refine Nrm.seq ?_
    refine Tri.seq ?_
    refine Tri.seq ?_
    refine Tri.reg (l := [0, 1]) rfl ?_
    refine F.q rfl rfl rfl (wanted_none rfl) (r_move rfl) ?_
    refine F.q rfl rfl rfl (wanted_none rfl) (r_lss rfl rfl) ?_
    refine F.nil ?_
    refine Nrm.seq ?_
    refine Tri.cond (b := decide (t14 < 0)) rfl (fun g_2 => ?_) (fun g_2 => ?_)
    · replace h := if_tt g_2 h
      refine Tri.seq ?_
      refine Tri.reg (l := [0]) rfl ?_
      refine F.q rfl rfl rfl (wanted_none rfl) (r_assign rfl) ?_
      refine F.nil ?_
      refine Nrm.seq ?_
      refine Tri.ret ?_
      refine Rtn.then ?_
      cases h
      exact Rtn.body (.tmp rfl .nil) (fun w hw => ⟨rfl, hw.ext⟩)
    · replace h := if_ff g_2 h
      refine Tri.skip ?_
      refine Nrm.seq ?_
      refine Tri.seq ?_
      refine Tri.reg (l := [0, 1]) rfl ?_
      refine F.q rfl rfl rfl (wanted_none rfl) (r_move rfl) ?_
      refine F.q rfl rfl rfl (wanted_none rfl) (r_assign rfl) ?_
      refine F.nil ?_
      refine Nrm.seq ?_
      refine Tri.ret ?_
      cases h
      exact Rtn.body (.tmp rfl .nil) (fun w hw => ⟨rfl, hw.ext⟩)

end Go.Proofs

/- loop.example/g01158/laws.szVisit -/
namespace Go.Proofs
open Go Go.Ga
set_option linter.unusedVariables false
set_option maxRecDepth 100000
set_option maxHeartbeats 4000000
def laws_szVisit.f (k : Nat) (a0_0 : Int) (a0_1 : List (Int × Int × Int)) (a0_2 : List Int) (a0_3 : List Int) (a0_4 : Int) (a1 : Int) : Option (Int) := (laws_szMaze.f k a0_0 a0_1 a0_2 a1).bind fun t8 => (if (decide (t8 < 0)) = true then some (-1) else (laws_szIntS.f k a0_3 t8).bind fun t14 => (if (decide (t14 < 0)) = true then some (-1) else some t14))

theorem laws_szVisit.ok {k : Nat}  {a0_0 : Int} {a0_1 : List (Int × Int × Int)} {a0_2 : List Int} {a0_3 : List Int} {a0_4 : Int} {a1 : Int} {r0 : Int} (h : laws_szVisit.f k a0_0 a0_1 a0_2 a0_3 a0_4 a1 = some r0) (w : World) {va0_1 : Value} {va0_2 : Value} {va0_3 : Value} (hr_a0_1 : Rd w va0_1 a0_1) (hr_a0_2 : Rd w va0_2 a0_2) (hr_a0_3 : Rd w va0_3 a0_3) :
    Calls Tryd.prog 51 ([.agg ([.int .i64 a0_0, va0_1, va0_2, va0_3, .int .i64 a0_4].toArray), .int .i64 a1] : List Value).toArray w (fun e w' => e = .returned (.int .i64 r0) ∧ Ext w w') := by
  unfold laws_szVisit.f at h
  have hl_va0_1 := hr_a0_1.len
  have hl_va0_2 := hr_a0_2.len
  have hl_va0_3 := hr_a0_3.len
  refine Calls.of_tri (N := 18) Tryd.func51 rfl rfl rfl (Sep.nil (M := noM)) ?_
  refine Tri.seq ?_
  refine Tri.reg (l := [0, 1]) rfl ?_
  refine F.m rfl rfl rfl (wanted_none rfl) (m_boxG rfl rfl) ?_
  rintro _ _ ⟨b2_1, rfl, rfl⟩
  refine F.q rfl rfl rfl (wanted_none rfl) (r_assign rfl) ?_
  refine F.nil ?_
  refine Nrm.seq ?_
  refine Tri.seq ?_
  obtain ⟨t8, h8, h⟩ := bind_some h
  refine Tri.reg (l := [0, 1, 2, 3, 4]) rfl ?_
  refine F.q rfl rfl rfl (wanted_none rfl) (r_fieldAddr tf58_0 rfl) ?_
  refine F.q rfl rfl rfl (wanted_none rfl) (r_loadA ta56 ti56 rfl rfl (fun w hw => cells_1 (cs' := [.int .i64 a0_0, va0_1, va0_2]) (box_cells (i := 0) rfl w hw) rfl)) ?_
  refine F.q rfl rfl rfl (wanted_none rfl) (r_move rfl) ?_
  refine F.qc rfl rfl rfl (wanted_none rfl) (q_callF (xs := _) rfl ok69 rfl rfl (fun w hw => laws_szMaze.ok h8 w ((fun _ hw => hr_a0_1.sep hw) w hw) ((fun _ hw => hr_a0_2.sep hw) w hw))) ?_
  refine F.q rfl rfl rfl (wanted_none rfl) (r_assign rfl) ?_
  refine F.nil ?_
  refine Nrm.seq ?_
  refine Tri.seq ?_
  refine Tri.seq ?_
  refine Tri.reg (l := [0, 1]) rfl ?_
  refine F.q rfl rfl rfl (wanted_none rfl) (r_move rfl) ?_
  refine F.q rfl rfl rfl (wanted_none rfl) (r_lss rfl rfl) ?_
  refine F.nil ?_
  refine Nrm.seq ?_
  refine Tri.cond (b := decide (t8 < 0)) rfl (fun g_1 => ?_) (fun g_1 => ?_)
  · replace h := if_tt g_1 h
    refine Tri.seq ?_
    refine Tri.reg (l := [0]) rfl ?_
    refine F.q rfl rfl rfl (wanted_none rfl) (r_assign rfl) ?_
    refine F.nil ?_
    refine Nrm.seq ?_
    refine Tri.ret ?_
    refine Rtn.then ?_
    cases h
    exact Rtn.body (.tmp rfl .nil) (fun w hw => ⟨rfl, hw.ext⟩)
  · replace h := if_ff g_1 h
    refine Tri.skip ?_
    refine Nrm.seq ?_
    refine Tri.seq ?_
    obtain ⟨t14, h14, h⟩ := bind_some h
    refine Tri.reg (l := [0, 1, 2, 3, 4]) rfl ?_
    refine F.q rfl rfl rfl (wanted_none rfl) (r_fieldAddr tf58_1 rfl) ?_
    refine F.q rfl rfl rfl (wanted_none rfl) (r_load ta54 rfl (fun w hw => cell_1 (box_cells (i := 0) rfl w hw) rfl)) ?_
    refine F.q rfl rfl rfl (wanted_none rfl) (r_move rfl) ?_
    refine F.qc rfl rfl rfl (wanted_none rfl) (q_callF (xs := _) rfl ok70 rfl rfl (fun w hw => laws_szIntS.ok h14 w ((fun _ hw => hr_a0_3.sep hw) w hw))) ?_
    refine F.q rfl rfl rfl (wanted_none rfl) (r_assign rfl) ?_
    refine F.nil ?_
    refine Nrm.seq ?_
    refine Tri.seq ?_
    refine Tri.seq ?_
    refine Tri.reg (l := [0, 1]) rfl ?_
    refine F.q rfl rfl rfl (wanted_none rfl) (r_move rfl) ?_
    refine F.q rfl rfl rfl (wanted_none rfl) (r_lss rfl rfl) ?_
    refine F.nil ?_
    refine Nrm.seq ?_
    refine Tri.cond (b := decide (t14 < 0)) rfl (fun g_2 => ?_) (fun g_2 => ?_)
    · replace h := if_tt g_2 h
      refine Tri.seq ?_
      refine Tri.reg (l := [0]) rfl ?_
      refine F.q rfl rfl rfl (wanted_none rfl) (r_assign rfl) ?_
      refine F.nil ?_
      refine Nrm.seq ?_
      refine Tri.ret ?_
      refine Rtn.then ?_
      cases h
      exact Rtn.body (.tmp rfl .nil) (fun w hw => ⟨rfl, hw.ext⟩)
    · replace h := if_ff g_2 h
      refine Tri.skip ?_
      refine Nrm.seq ?_
      refine Tri.seq ?_
      refine Tri.reg (l := [0, 1]) rfl ?_
      refine F.q rfl rfl rfl (wanted_none rfl) (r_move rfl) ?_
      refine F.q rfl rfl rfl (wanted_none rfl) (r_assign rfl) ?_
      refine F.nil ?_
      refine Nrm.seq ?_
      refine Tri.ret ?_
      cases h
      exact Rtn.body (.tmp rfl .nil) (fun w hw => ⟨rfl, hw.ext⟩)

end Go.Proofs

/- loop.example/g01158/laws.szConsole -/
namespace Go.Proofs
open Go Go.Ga
set_option linter.unusedVariables false
set_option maxRecDepth 100000
set_option maxHeartbeats 4000000
def laws_szConsole.f (k : Nat) (a0_0 : Int) (a0_1 : List (Int × Int × Int)) (a0_2 : List Int) (a0_3 : List Int) (a0_4 : Int) (a0_5 : ByteArray) (a0_6 : ByteArray) (a0_7 : Int) (a1 : Int) : Option (Int) := (laws_szVisit.f k a0_0 a0_1 a0_2 a0_3 a0_4 a1).bind fun t8 => (if (decide (t8 < 0)) = true then some (-1) else (laws_szLog.f k a0_5 a0_6 a0_7 t8).bind fun t14 => (if (decide (t14 < 0)) = true then some (-1) else some t14))

theorem laws_szConsole.ok {k : Nat}  {a0_0 : Int} {a0_1 : List (Int × Int × Int)} {a0_2 : List Int} {a0_3 : List Int} {a0_4 : Int} {a0_5 : ByteArray} {a0_6 : ByteArray} {a0_7 : Int} {a1 : Int} {r0 : Int} (h : laws_szConsole.f k a0_0 a0_1 a0_2 a0_3 a0_4 a0_5 a0_6 a0_7 a1 = some r0) (w : World) {va0_1 : Value} {va0_2 : Value} {va0_3 : Value} (hr_a0_1 : Rd w va0_1 a0_1) (hr_a0_2 : Rd w va0_2 a0_2) (hr_a0_3 : Rd w va0_3 a0_3) :
    Calls Tryd.prog 33 ([.agg ([.int .i64 a0_0, va0_1, va0_2, va0_3, .int .i64 a0_4, .string a0_5, .string a0_6, .int .i64 a0_7].toArray), .int .i64 a1] : List Value).toArray w (fun e w' => e = .returned (.int .i64 r0) ∧ Ext w w') := by
  unfold laws_szConsole.f at h
  have hl_va0_1 := hr_a0_1.len
  have hl_va0_2 := hr_a0_2.len
  have hl_va0_3 := hr_a0_3.len
  refine Calls.of_tri (N := 18) Tryd.func33 rfl rfl rfl (Sep.nil (M := noM)) ?_
  refine Tri.seq ?_
  refine Tri.reg (l := [0, 1]) rfl ?_
  refine F.m rfl rfl rfl (wanted_none rfl) (m_boxG rfl rfl) ?_
  rintro _ _ ⟨b2_1, rfl, rfl⟩
  refine F.q rfl rfl rfl (wanted_none rfl) (r_assign rfl) ?_
  refine F.nil ?_
  refine Nrm.seq ?_
  refine Tri.seq ?_
  obtain ⟨t8, h8, h⟩ := bind_some h
  refine Tri.reg (l := [0, 1, 2, 3, 4]) rfl ?_
  refine F.q rfl rfl rfl (wanted_none rfl) (r_fieldAddr tf60_0 rfl) ?_
  refine F.q rfl rfl rfl (wanted_none rfl) (r_loadA ta58 ti58 rfl rfl (fun w hw => cells_1 (cs' := [.int .i64 a0_0, va0_1, va0_2, va0_3, .int .i64 a0_4]) (box_cells (i := 0) rfl w hw) rfl)) ?_
  refine F.q rfl rfl rfl (wanted_none rfl) (r_move rfl) ?_
  refine F.qc rfl rfl rfl (wanted_none rfl) (q_callF (xs := _) rfl ok51 rfl rfl (fun w hw => laws_szVisit.ok h8 w ((fun _ hw => hr_a0_1.sep hw) w hw) ((fun _ hw => hr_a0_2.sep hw) w hw) ((fun _ hw => hr_a0_3.sep hw) w hw))) ?_
  refine F.q rfl rfl rfl (wanted_none rfl) (r_assign rfl) ?_
  refine F.nil ?_
  refine Nrm.seq ?_
  refine Tri.seq ?_
  refine Tri.seq ?_
  refine Tri.reg (l := [0, 1]) rfl ?_
  refine F.q rfl rfl rfl (wanted_none rfl) (r_move rfl) ?_
  refine F.q rfl rfl rfl (wanted_none rfl) (r_lss rfl rfl) ?_
  refine F.nil ?_
  refine Nrm.seq ?_
  refine Tri.cond (b := decide (t8 < 0)) rfl (fun g_1 => ?_) (fun g_1 => ?_)
  · replace h := if_tt g_1 h
    refine Tri.seq ?_
    refine Tri.reg (l := [0]) rfl ?_
    refine F.q rfl rfl rfl (wanted_none rfl) (r_assign rfl) ?_
    refine F.nil ?_
    refine Nrm.seq ?_
    refine Tri.ret ?_
    refine Rtn.then ?_
    cases h
    exact Rtn.body (.tmp rfl .nil) (fun w hw => ⟨rfl, hw.ext⟩)
  · replace h := if_ff g_1 h
    refine Tri.skip ?_
    refine Nrm.seq ?_
    refine Tri.seq ?_
    obtain ⟨t14, h14, h⟩ := bind_some h
    refine Tri.reg (l := [0, 1, 2, 3, 4]) rfl ?_
    refine F.q rfl rfl rfl (wanted_none rfl) (r_fieldAddr tf60_1 rfl) ?_
    refine F.q rfl rfl rfl (wanted_none rfl) (r_loadA ta36 ti36 rfl rfl (fun w hw => cells_1 (cs' := [.string a0_5, .string a0_6, .int .i64 a0_7]) (box_cells (i := 0) rfl w hw) rfl)) ?_
    refine F.q rfl rfl rfl (wanted_none rfl) (r_move rfl) ?_
    refine F.qc rfl rfl rfl (wanted_none rfl) (q_callF (xs := _) rfl ok18 rfl rfl (fun w hw => laws_szLog.ok h14 w )) ?_
    refine F.q rfl rfl rfl (wanted_none rfl) (r_assign rfl) ?_
    refine F.nil ?_
    refine Nrm.seq ?_
    refine Tri.seq ?_
    refine Tri.seq ?_
    refine Tri.reg (l := [0, 1]) rfl ?_
    refine F.q rfl rfl rfl (wanted_none rfl) (r_move rfl) ?_
    refine F.q rfl rfl rfl (wanted_none rfl) (r_lss rfl rfl) ?_
    refine F.nil ?_
    refine Nrm.seq ?_
    refine Tri.cond (b := decide (t14 < 0)) rfl (fun g_2 => ?_) (fun g_2 => ?_)
    · replace h := if_tt g_2 h
      refine Tri.seq ?_
      refine Tri.reg (l := [0]) rfl ?_
      refine F.q rfl rfl rfl (wanted_none rfl) (r_assign rfl) ?_
      refine F.nil ?_
      refine Nrm.seq ?_
      refine Tri.ret ?_
      refine Rtn.then ?_
      cases h
      exact Rtn.body (.tmp rfl .nil) (fun w hw => ⟨rfl, hw.ext⟩)
    · replace h := if_ff g_2 h
      refine Tri.skip ?_
      refine Nrm.seq ?_
      refine Tri.seq ?_
      refine Tri.reg (l := [0, 1]) rfl ?_
      refine F.q rfl rfl rfl (wanted_none rfl) (r_move rfl) ?_
      refine F.q rfl rfl rfl (wanted_none rfl) (r_assign rfl) ?_
      refine F.nil ?_
      refine Nrm.seq ?_
      refine Tri.ret ?_
      cases h
      exact Rtn.body (.tmp rfl .nil) (fun w hw => ⟨rfl, hw.ext⟩)

end Go.Proofs

/- loop.example/g01158/spec.l1Split -/

namespace Go.Proofs
open Go Go.Ga
set_option linter.unusedVariables false
set_option maxRecDepth 100000
set_option maxHeartbeats 4000000
def spec_l1Split.l0 (k : Nat) (a0 : ByteArray) (a1 : Int) : Nat → (List (ByteArray)) → Int → Int → Option ((List (ByteArray)) × Int)
  | 0, _, _, _ => none
  | n + 1, x5, x6, x7 => (if (decide (x7 < (a0.size : Int))) = true then (bta a0 x7).bind fun t17 => ((if ((t17.toNat : Int) == a1) = true then (scut a0 x6 x7).bind fun t24 => if (x5 ++ ([t24] : List (ByteArray))).length < 1099511627776 then some (x5 ++ ([t24] : List (ByteArray)), w64 (x7 + 1)) else none else some (x5, x6))).bind fun (y5, y6) => spec_l1Split.l0 k a0 a1 n y5 y6 (w64 (x7 + 1)) else some (x5, x6))

def spec_l1Split.f (k : Nat) (a0 : ByteArray) (a1 : Int) : Option ((List ByteArray)) := (spec_l1Split.l0 k a0 a1 k ([] : List (ByteArray)) 0 0).bind fun (x5, x6) => (scut a0 x6 (a0.size : Int)).bind fun t32 => if (x5 ++ ([t32] : List (ByteArray))).length < 1099511627776 then some (x5 ++ ([t32] : List (ByteArray))) else none

theorem spec_l1Split.ok {k : Nat}  {a0 : ByteArray} {a1 : Int} {r0 : List ByteArray} (h : spec_l1Split.f k a0 a1 = some r0) (w : World) :
    Calls Tryd.prog 65 ([.string a0, .int .u8 a1] : List Value).toArray w (Post (fun u ns => ∃ (Sr0 : Nat → Prop), SlLen u r0.length ∧ ns = [R.sl Sr0 u r0]) w) := by
  unfold spec_l1Split.f at h
  refine Calls.of_tri (N := 35) Tryd.func65 rfl rfl rfl (Sep.nil (M := noM)) ?_
  refine Tri.seq ?_
  refine Tri.reg (l := [0]) rfl ?_
  refine F.q rfl rfl rfl (wanted_none rfl) (r_assign rfl) ?_
  refine F.nil ?_
  refine Nrm.seq ?_
  refine Tri.seq ?_
  refine Tri.reg (l := [0, 1]) rfl ?_
  refine F.m rfl rfl rfl (wanted_none rfl) (m_build0 (α := ByteArray) Tryd.underlying92 ti9) ?_
  rintro v8_1 _ ⟨S8_1, hl_v8_1, rfl⟩
  refine F.q rfl rfl rfl (wanted_none rfl) (r_assign rfl) ?_
  refine F.nil ?_
  refine Nrm.seq ?_
  refine Tri.seq ?_
  refine Tri.reg (l := [0]) rfl ?_
  refine F.q rfl rfl rfl (wanted_none rfl) (r_assign rfl) ?_
  refine F.nil ?_
  refine Nrm.seq ?_
  refine Tri.seq ?_
  refine Tri.seq ?_
  refine Tri.reg (l := [0]) rfl ?_
  refine F.q rfl rfl rfl (wanted_none rfl) (r_assign rfl) ?_
  refine F.nil ?_
  refine Nrm.seq ?_
  obtain ⟨⟨x5, x6⟩, hE_1, h⟩ := bind_some h
  refine Tri.block ?_
  refine Tri.only [0, 1, 5, 6, 7] rfl ?_
  refine Tri.pick [0] rfl rfl ?_
  refine Tri.rounds (fun n e' C' => ∃ (x5' : List (ByteArray)) (x6' : Int) (x7' : Int) (w5 : Value) (T5 : Nat → Prop), spec_l1Split.l0 k a0 a1 n x5' x6' x7' = some (x5, x6) ∧ SlLen w5 (x5').length ∧ e' = [(0, .string a0), (1, .int .u8 a1), (5, w5), (6, .int .i64 x6'), (7, .int .i64 x7')] ∧ C' = Sep w noM [R.sl T5 w5 (x5' : List (ByteArray))]) k ?_ ?_ ?_
  · exact ⟨([] : List (ByteArray)), 0, 0, v8_1, S8_1, hE_1, hl_v8_1, rfl, rfl⟩
  · rintro _ _ ⟨_, _, _, _, _, hE_1, _⟩
    rw [spec_l1Split.l0.eq_1] at hE_1; cases hE_1
  · rintro n_1 _ _ ⟨x5, x6, x7, w5, T5, hE_1, hl_w5, rfl, rfl⟩ ih_1
    rw [spec_l1Split.l0.eq_2] at hE_1
    refine Tri.seq ?_
    refine Tri.seq ?_
    refine Tri.reg (l := [0, 1, 2, 3]) rfl ?_
    refine F.q rfl rfl rfl (wanted_none rfl) (r_move rfl) ?_
    refine F.q rfl rfl rfl (wanted_none rfl) (r_move rfl) ?_
    refine F.q rfl rfl rfl (wanted_none rfl) (r_lenS Tryd.underlying9 rfl) ?_
    refine F.q rfl rfl rfl (wanted_none rfl) (r_lss rfl rfl) ?_
    refine F.nil ?_
    refine Nrm.seq ?_
    refine Tri.cond (b := decide (x7 < (a0.size : Int))) rfl (fun g_1 => ?_) (fun g_1 => ?_)
    · replace hE_1 := if_tt g_1 hE_1
      refine Tri.skip ?_
      refine Nrm.seq ?_
      refine Tri.seq ?_
      refine Tri.block ?_
      refine Tri.seq ?_
      obtain ⟨t17, h17, hE_1⟩ := bind_some hE_1
      refine Tri.reg (l := [0, 1, 2, 3, 4]) rfl ?_
      refine F.q rfl rfl rfl (wanted_none rfl) (r_move rfl) ?_
      refine F.q rfl rfl rfl (wanted_none rfl) (r_move rfl) ?_
      refine F.q rfl rfl rfl (wanted_none rfl) (r_indexS Tryd.underlying9 rfl rfl (bt_some h17).1 (bt_some h17).2) ?_
      refine F.q rfl rfl rfl (wanted_none rfl) (r_move rfl) ?_
      refine F.q rfl rfl rfl (wanted_none rfl) (r_eql rfl rfl) ?_
      refine F.nil ?_
      refine Nrm.seq ?_
      obtain ⟨⟨y5, y6⟩, hE_2, hE_1⟩ := bind_some hE_1
      refine Tri.cut (fun e' C' => ∃ (v5_1 : Value) (S5_1 : Nat → Prop), SlLen v5_1 (y5).length ∧ e' = [(0, .string a0), (1, .int .u8 a1), (5, v5_1), (6, .int .i64 y6), (7, .int .i64 x7)] ∧ C' = Sep w noM [R.sl S5_1 v5_1 (y5 : List (ByteArray))]) ?_ (fun hj_1 => ?_)
      · rintro _ _ ⟨v5_1, S5_1, hl_v5_1, rfl, rfl⟩
        refine Nrm.block ?_
        refine Nrm.seq ?_
        refine Tri.reg (l := [0, 1, 2]) rfl ?_
        refine F.q rfl rfl rfl (wanted_none rfl) (r_move rfl) ?_
        refine F.q rfl rfl rfl (wanted_none rfl) (r_add rfl rfl) ?_
        refine F.q rfl rfl rfl (wanted_none rfl) (r_assign rfl) ?_
        refine F.nil ?_
        refine Nrm.round ?_
        refine Rnd.only [0, 1, 5, 6, 7] rfl ?_
        refine Rnd.pick [0] rfl rfl ?_
        exact ih_1 _ _ ⟨y5, y6, w64 (x7 + 1), v5_1, S5_1, hE_1, hl_v5_1, rfl, rfl⟩
      · refine Tri.cond (b := (t17.toNat : Int) == a1) rfl (fun g_2 => ?_) (fun g_2 => ?_)
        · replace hE_2 := if_tt g_2 hE_2
          refine Tri.seq ?_
          obtain ⟨t24, h24, hE_2⟩ := bind_some hE_2
          obtain ⟨hs26, hE_2⟩ := ck hE_2
          refine Tri.reg (l := [0, 1, 2, 3, 4, 5, 6, 7]) rfl ?_
          refine F.q rfl rfl rfl (wanted_none rfl) (r_move rfl) ?_
          refine F.q rfl rfl rfl (wanted_none rfl) (r_move rfl) ?_
          refine F.q rfl rfl rfl (wanted_none rfl) (r_move rfl) ?_
          refine F.q rfl rfl rfl (wanted_none rfl) (r_move rfl) ?_
          refine F.q rfl rfl rfl (wanted_none rfl) (r_scutLH Tryd.underlying9 rfl rfl rfl h24) ?_
          refine F.m rfl rfl rfl (wanted_none rfl) (m_buildF (l := ([t24] : List (ByteArray))) Tryd.underlying92 ti9 rfl rfl rfl rfl rfl) ?_
          rintro v25_1 _ ⟨S25_1, hl_v25_1, rfl⟩
          refine F.ef rfl rfl rfl (wanted_none rfl) (d_append (i := 1) Tryd.underlying92 Tryd.underlying92 ti9 rfl (by decide) rfl rfl rfl (rd_sl (i := 0) rfl) hs26) ?_
          rintro v26_1 _ ⟨S26_1, rfl, hl_v26_1⟩
          refine F.q rfl rfl rfl (wanted_none rfl) (r_assign rfl) ?_
          refine F.nil ?_
          refine Nrm.seq ?_
          refine Tri.reg (l := [0, 1, 2]) rfl ?_
          refine F.q rfl rfl rfl (wanted_none rfl) (r_move rfl) ?_
          refine F.q rfl rfl rfl (wanted_none rfl) (r_add rfl rfl) ?_
          refine F.q rfl rfl rfl (wanted_none rfl) (r_assign rfl) ?_
          refine F.nil ?_
          cases hE_2
          refine Nrm.only [0, 1, 5, 6, 7] rfl ?_
          refine Nrm.pick [1] rfl rfl ?_
          exact hj_1 _ _ ⟨v26_1, S26_1, hl_v26_1, rfl, rfl⟩
        · replace hE_2 := if_ff g_2 hE_2
          refine Tri.skip ?_
          cases hE_2
          refine Nrm.only [0, 1, 5, 6, 7] rfl ?_
          refine Nrm.pick [0] rfl rfl ?_
          exact hj_1 _ _ ⟨w5, T5, hl_w5, rfl, rfl⟩
    · replace hE_1 := if_ff g_1 hE_1
      refine Tri.exit ?_
      refine Exi.then ?_
      refine Exi.then ?_
      refine Exi.same ?_
      cases hE_1
      refine Nrm.seq ?_
      refine Tri.seq ?_
      obtain ⟨t32, h32, h⟩ := bind_some h
      obtain ⟨hs34, h⟩ := ck h
      refine Tri.reg (l := [0, 1, 2, 3, 4, 5, 6]) rfl ?_
      refine F.q rfl rfl rfl (wanted_none rfl) (r_move rfl) ?_
      refine F.q rfl rfl rfl (wanted_none rfl) (r_move rfl) ?_
      refine F.q rfl rfl rfl (wanted_none rfl) (r_move rfl) ?_
      refine F.q rfl rfl rfl (wanted_none rfl) (r_scutL Tryd.underlying9 rfl rfl h32) ?_
      refine F.m rfl rfl rfl (wanted_none rfl) (m_buildF (l := ([t32] : List (ByteArray))) Tryd.underlying92 ti9 rfl rfl rfl rfl rfl) ?_
      rintro v33_1 _ ⟨S33_1, hl_v33_1, rfl⟩
      refine F.ef rfl rfl rfl (wanted_none rfl) (d_append (i := 1) Tryd.underlying92 Tryd.underlying92 ti9 rfl (by decide) rfl rfl rfl (rd_sl (i := 0) rfl) hs34) ?_
      rintro v34_1 _ ⟨S34_1, rfl, hl_v34_1⟩
      refine F.q rfl rfl rfl (wanted_none rfl) (r_assign rfl) ?_
      refine F.nil ?_
      refine Nrm.seq ?_
      refine Tri.ret ?_
      cases h
      exact Rtn.body (.tmp rfl .nil) (fun w hw => ⟨_, _, rfl, ⟨S34_1, hl_v34_1, rfl⟩, Sep.pick (is := [1]) rfl rfl hw⟩)

end Go.Proofs

/- loop.example/g01158/spec.l1In -/

namespace Go.Proofs
open Go Go.Ga
set_option linter.unusedVariables false
set_option maxRecDepth 100000
set_option maxHeartbeats 4000000
def spec_l1In.f (k : Nat) (a0 : Int) (a1 : Int) (a2 : Int) : Option (Bool) := ((if (decide (a0 ≥ a1)) = true then some (decide (a0 ≤ a2)) else some false)).bind fun y6 => some y6

theorem spec_l1In.ok {k : Nat}  {a0 : Int} {a1 : Int} {a2 : Int} {r0 : Bool} (h : spec_l1In.f k a0 a1 a2 = some r0) (w : World) :
    Calls Tryd.prog 38 ([.int .i64 a0, .int .i64 a1, .int .i64 a2] : List Value).toArray w (fun e w' => e = .returned (.bool r0) ∧ Ext w w') := by
  unfold spec_l1In.f at h
  refine Calls.of_tri (N := 15) Tryd.func38 rfl rfl rfl (Sep.nil (M := noM)) ?_
  refine Tri.seq ?_
  refine Tri.reg (l := [0]) rfl ?_
  refine F.q rfl rfl rfl (wanted_none rfl) (r_assign rfl) ?_
  refine F.nil ?_
  refine Nrm.seq ?_
  refine Tri.seq ?_
  obtain ⟨y6, hE_1, h⟩ := bind_some h
  refine Tri.cut (fun e' C' => e' = [(6, .bool y6)] ∧ C' = Sep w noM []) ?_ (fun hj_1 => ?_)
  · rintro _ _ ⟨rfl, rfl⟩
    refine Nrm.seq ?_
    refine Tri.ret ?_
    cases h
    exact Rtn.body (.tmp rfl .nil) (fun w hw => ⟨rfl, hw.ext⟩)
  · rcases Bool.eq_false_or_eq_true (decide (a0 ≥ a1)) with g10 | g10
    · replace hE_1 := if_tt g10 hE_1
      refine Tri.reg (l := [0, 1, 2, 3, 4, 5, 6, 7, 8]) rfl ?_
      refine F.q rfl rfl rfl (wanted_none rfl) (r_move rfl) ?_
      refine F.q rfl rfl rfl (wanted_none rfl) (r_move rfl) ?_
      refine F.q rfl rfl rfl (wanted_none rfl) (r_geq rfl rfl) ?_
      refine F.q rfl rfl rfl (wanted_none rfl) (r_move rfl) ?_
      refine F.q rfl rfl rfl (wg rfl rfl rfl g10) (r_move rfl) ?_
      refine F.q rfl rfl rfl (wg rfl rfl rfl g10) (r_move rfl) ?_
      refine F.q rfl rfl rfl (wg rfl rfl rfl g10) (r_leq rfl rfl) ?_
      refine F.q rfl rfl rfl (wanted_none rfl) (r_pick rfl rfl g10) ?_
      refine F.q rfl rfl rfl (wanted_none rfl) (r_assign rfl) ?_
      refine F.nil ?_
      cases hE_1
      refine Nrm.only [6] rfl ?_
      refine Nrm.pick [] rfl rfl ?_
      exact hj_1 _ _ ⟨rfl, rfl⟩
    · replace hE_1 := if_ff g10 hE_1
      refine Tri.reg (l := [0, 1, 2, 3, 4, 5, 6, 7, 8]) rfl ?_
      refine F.q rfl rfl rfl (wanted_none rfl) (r_move rfl) ?_
      refine F.q rfl rfl rfl (wanted_none rfl) (r_move rfl) ?_
      refine F.q rfl rfl rfl (wanted_none rfl) (r_geq rfl rfl) ?_
      refine F.q rfl rfl rfl (wanted_none rfl) (r_move rfl) ?_
      refine F.sk rfl rfl rfl (wf rfl rfl rfl g10) ?_
      refine F.sk rfl rfl rfl (wf rfl rfl rfl g10) ?_
      refine F.sk rfl rfl rfl (wf rfl rfl rfl g10) ?_
      refine F.q rfl rfl rfl (wanted_none rfl) (r_pickf rfl rfl g10) ?_
      refine F.q rfl rfl rfl (wanted_none rfl) (r_assign rfl) ?_
      refine F.nil ?_
      cases hE_1
      refine Nrm.only [6] rfl ?_
      refine Nrm.pick [] rfl rfl ?_
      exact hj_1 _ _ ⟨rfl, rfl⟩

end Go.Proofs

/- loop.example/g01158/spec.l12Bytes -/
namespace Go.Proofs
open Go Go.Ga
set_option linter.unusedVariables false
set_option maxRecDepth 100000
set_option maxHeartbeats 4000000
def spec_l12Bytes.l0 (k : Nat) (a0 : ByteArray) : Nat → Int → Option ((Unit) ⊕ (Bool))
  | 0, _ => none
  | n + 1, x5 => (if (decide (x5 < (a0.size : Int))) = true then ((bta a0 x5).bind fun t14 => (spec_l1In.f k (IntKind.i64.wrap (t14.toNat : Int)) 32 126).bind fun t16 => (if (!t16) = true then some true else (bta a0 x5).bind fun t21 => some ((t21.toNat : Int) == 35))).bind fun y23 => (if y23 = true then some (Sum.inr false) else spec_l12Bytes.l0 k a0 n (w64 (x5 + 1))) else some (Sum.inl ()))

def spec_l12Bytes.f (k : Nat) (a0 : ByteArray) (a1 : Int) : Option (Bool) := (spec_l12Bytes.l0 k a0 k 0).bind fun s => Lr s some fun _ => some (decide ((a0.size : Int) ≤ a1))

theorem spec_l12Bytes.ok {k : Nat}  {a0 : ByteArray} {a1 : Int} {r0 : Bool} (h : spec_l12Bytes.f k a0 a1 = some r0) (w : World) :
    Calls Tryd.prog 56 ([.string a0, .int .i64 a1] : List Value).toArray w (fun e w' => e = .returned (.bool r0) ∧ Ext w w') := by
  unfold spec_l12Bytes.f at h
  refine Calls.of_tri (N := 28) Tryd.func56 rfl rfl rfl (Sep.nil (M := noM)) ?_
  refine Tri.seq ?_
  refine Tri.reg (l := [0]) rfl ?_
  refine F.q rfl rfl rfl (wanted_none rfl) (r_assign rfl) ?_
  refine F.nil ?_
  refine Nrm.seq ?_
  refine Tri.seq ?_
  refine Tri.seq ?_
  refine Tri.reg (l := [0]) rfl ?_
  refine F.q rfl rfl rfl (wanted_none rfl) (r_assign rfl) ?_
  refine F.nil ?_
  refine Nrm.seq ?_
  obtain ⟨s0, hE_1, h⟩ := bind_some h
  refine Tri.block ?_
  refine Tri.only [0, 1, 5] rfl ?_
  refine Tri.pick [] rfl rfl ?_
  refine Tri.rounds (fun n e' C' => ∃ (x5' : Int), spec_l12Bytes.l0 k a0 n x5' = some s0 ∧ e' = [(0, .string a0), (1, .int .i64 a1), (5, .int .i64 x5')] ∧ C' = Sep w noM []) k ?_ ?_ ?_
  · exact ⟨0, hE_1, rfl, rfl⟩
  · rintro _ _ ⟨_, hE_1, _⟩
    rw [spec_l12Bytes.l0.eq_1] at hE_1; cases hE_1
  · rintro n_1 _ _ ⟨x5, hE_1, rfl, rfl⟩ ih_1
    rw [spec_l12Bytes.l0.eq_2] at hE_1
    refine Tri.seq ?_
    refine Tri.seq ?_
    refine Tri.reg (l := [0, 1, 2, 3]) rfl ?_
    refine F.q rfl rfl rfl (wanted_none rfl) (r_move rfl) ?_
    refine F.q rfl rfl rfl (wanted_none rfl) (r_move rfl) ?_
    refine F.q rfl rfl rfl (wanted_none rfl) (r_lenS Tryd.underlying9 rfl) ?_
    refine F.q rfl rfl rfl (wanted_none rfl) (r_lss rfl rfl) ?_
    refine F.nil ?_
    refine Nrm.seq ?_
    refine Tri.cond (b := decide (x5 < (a0.size : Int))) rfl (fun g_1 => ?_) (fun g_1 => ?_)
    · replace hE_1 := if_tt g_1 hE_1
      refine Tri.skip ?_
      refine Nrm.seq ?_
      refine Tri.seq ?_
      refine Tri.block ?_
      refine Tri.seq ?_
      obtain ⟨y23, hE_2, hE_1⟩ := bind_some hE_1
      refine Tri.cut (fun e' C' => e' = [(0, .string a0), (1, .int .i64 a1), (5, .int .i64 x5), (23, .bool y23)] ∧ C' = Sep w noM []) ?_ (fun hj_1 => ?_)
      · rintro _ _ ⟨rfl, rfl⟩
        refine Nrm.seq ?_
        refine Tri.cond (b := y23) rfl (fun g_2 => ?_) (fun g_2 => ?_)
        · replace hE_1 := if_tt g_2 hE_1
          refine Tri.seq ?_
          refine Tri.reg (l := [0]) rfl ?_
          refine F.q rfl rfl rfl (wanted_none rfl) (r_assign rfl) ?_
          refine F.nil ?_
          refine Nrm.seq ?_
          refine Tri.ret ?_
          refine Rtn.block ?_
          refine Rtn.then ?_
          refine Rtn.then ?_
          refine Rtn.block ?_
          refine Rtn.then ?_
          cases hE_1
          replace h := Lr_inr h
          cases h
          exact Rtn.body (.tmp rfl .nil) (fun w hw => ⟨rfl, hw.ext⟩)
        · replace hE_1 := if_ff g_2 hE_1
          refine Tri.skip ?_
          refine Nrm.block ?_
          refine Nrm.seq ?_
          refine Tri.reg (l := [0, 1, 2]) rfl ?_
          refine F.q rfl rfl rfl (wanted_none rfl) (r_move rfl) ?_
          refine F.q rfl rfl rfl (wanted_none rfl) (r_add rfl rfl) ?_
          refine F.q rfl rfl rfl (wanted_none rfl) (r_assign rfl) ?_
          refine F.nil ?_
          refine Nrm.round ?_
          refine Rnd.only [0, 1, 5] rfl ?_
          refine Rnd.pick [] rfl rfl ?_
          exact ih_1 _ _ ⟨w64 (x5 + 1), hE_1, rfl, rfl⟩
      · obtain ⟨t14, h14, hE_2⟩ := bind_some hE_2
        obtain ⟨t16, h16, hE_2⟩ := bind_some hE_2
        rcases Bool.eq_false_or_eq_true (!t16) with g18 | g18
        · replace hE_2 := if_tt g18 hE_2
          refine Tri.reg (l := [0, 1, 2, 3, 4, 5, 6, 7, 8, 9, 10, 11]) rfl ?_
          refine F.q rfl rfl rfl (wanted_none rfl) (r_move rfl) ?_
          refine F.q rfl rfl rfl (wanted_none rfl) (r_move rfl) ?_
          refine F.q rfl rfl rfl (wanted_none rfl) (r_indexS Tryd.underlying9 rfl rfl (bt_some h14).1 (bt_some h14).2) ?_
          refine F.q rfl rfl rfl (wanted_none rfl) (r_conv Tryd.underlying5 Tryd.underlying3 rfl) ?_
          refine F.qc rfl rfl rfl (wanted_none rfl) (q_callF (xs := _) rfl ok38 rfl rfl (fun w hw => spec_l1In.ok h16 w )) ?_
          refine F.q rfl rfl rfl (wanted_none rfl) (r_not rfl) ?_
          refine F.q rfl rfl rfl (wanted_none rfl) (r_move rfl) ?_
          refine F.sk rfl rfl rfl (wf rfl rfl rfl g18) ?_
          refine F.sk rfl rfl rfl (wf rfl rfl rfl g18) ?_
          refine F.sk rfl rfl rfl (wf rfl rfl rfl g18) ?_
          refine F.sk rfl rfl rfl (wf rfl rfl rfl g18) ?_
          refine F.q rfl rfl rfl (wanted_none rfl) (r_pick rfl rfl g18) ?_
          refine F.nil ?_
          cases hE_2
          refine Nrm.only [0, 1, 5, 23] rfl ?_
          refine Nrm.pick [] rfl rfl ?_
          exact hj_1 _ _ ⟨rfl, rfl⟩
        · replace hE_2 := if_ff g18 hE_2
          obtain ⟨t21, h21, hE_2⟩ := bind_some hE_2
          refine Tri.reg (l := [0, 1, 2, 3, 4, 5, 6, 7, 8, 9, 10, 11]) rfl ?_
          refine F.q rfl rfl rfl (wanted_none rfl) (r_move rfl) ?_
          refine F.q rfl rfl rfl (wanted_none rfl) (r_move rfl) ?_
          refine F.q rfl rfl rfl (wanted_none rfl) (r_indexS Tryd.underlying9 rfl rfl (bt_some h14).1 (bt_some h14).2) ?_
          refine F.q rfl rfl rfl (wanted_none rfl) (r_conv Tryd.underlying5 Tryd.underlying3 rfl) ?_
          refine F.qc rfl rfl rfl (wanted_none rfl) (q_callF (xs := _) rfl ok38 rfl rfl (fun w hw => spec_l1In.ok h16 w )) ?_
          refine F.q rfl rfl rfl (wanted_none rfl) (r_not rfl) ?_
          refine F.q rfl rfl rfl (wanted_none rfl) (r_move rfl) ?_
          refine F.q rfl rfl rfl (wg rfl rfl rfl g18) (r_move rfl) ?_
          refine F.q rfl rfl rfl (wg rfl rfl rfl g18) (r_move rfl) ?_
          refine F.q rfl rfl rfl (wg rfl rfl rfl g18) (r_indexS Tryd.underlying9 rfl rfl (bt_some h21).1 (bt_some h21).2) ?_
          refine F.q rfl rfl rfl (wg rfl rfl rfl g18) (r_eql rfl rfl) ?_
          refine F.q rfl rfl rfl (wanted_none rfl) (r_pickf rfl rfl g18) ?_
          refine F.nil ?_
          cases hE_2
          refine Nrm.only [0, 1, 5, 23] rfl ?_
          refine Nrm.pick [] rfl rfl ?_
          exact hj_1 _ _ ⟨rfl, rfl⟩
    · replace hE_1 := if_ff g_1 hE_1
      refine Tri.exit ?_
      refine Exi.then ?_
      refine Exi.then ?_
      refine Exi.same ?_
      cases hE_1
      replace h := Lr_inl h
      refine Nrm.seq ?_
      refine Tri.seq ?_
      refine Tri.reg (l := [0, 1, 2, 3, 4]) rfl ?_
      refine F.q rfl rfl rfl (wanted_none rfl) (r_move rfl) ?_
      refine F.q rfl rfl rfl (wanted_none rfl) (r_lenS Tryd.underlying9 rfl) ?_
      refine F.q rfl rfl rfl (wanted_none rfl) (r_move rfl) ?_
      refine F.q rfl rfl rfl (wanted_none rfl) (r_leq rfl rfl) ?_
      refine F.q rfl rfl rfl (wanted_none rfl) (r_assign rfl) ?_
      refine F.nil ?_
      refine Nrm.seq ?_
      refine Tri.ret ?_
      cases h
      exact Rtn.body (.tmp rfl .nil) (fun w hw => ⟨rfl, hw.ext⟩)

end Go.Proofs

/- loop.example/g01158/spec.l1Stands -/

namespace Go.Proofs
open Go Go.Ga
set_option linter.unusedVariables false
set_option maxRecDepth 100000
set_option maxHeartbeats 4000000
def spec_l1Stands.l0 (k : Nat) (a0 : ByteArray) (a1 : Int) : Nat → Int → Option ((Unit) ⊕ (Bool))
  | 0, _ => none
  | n + 1, x5 => (if (decide (x5 < (a0.size : Int))) = true then (bta a0 x5).bind fun t14 => (if ((t14.toNat : Int) == a1) = true then some (Sum.inr true) else spec_l1Stands.l0 k a0 a1 n (w64 (x5 + 1))) else some (Sum.inl ()))

def spec_l1Stands.f (k : Nat) (a0 : ByteArray) (a1 : Int) : Option (Bool) := (spec_l1Stands.l0 k a0 a1 k 0).bind fun s => Lr s some fun _ => some false

theorem spec_l1Stands.ok {k : Nat}  {a0 : ByteArray} {a1 : Int} {r0 : Bool} (h : spec_l1Stands.f k a0 a1 = some r0) (w : World) :
    Calls Tryd.prog 57 ([.string a0, .int .u8 a1] : List Value).toArray w (fun e w' => e = .returned (.bool r0) ∧ Ext w w') := by
  unfold spec_l1Stands.f at h
  refine Calls.of_tri (N := 17) Tryd.func57 rfl rfl rfl (Sep.nil (M := noM)) ?_
  refine Tri.seq ?_
  refine Tri.reg (l := [0]) rfl ?_
  refine F.q rfl rfl rfl (wanted_none rfl) (r_assign rfl) ?_
  refine F.nil ?_
  refine Nrm.seq ?_
  refine Tri.seq ?_
  refine Tri.seq ?_
  refine Tri.reg (l := [0]) rfl ?_
  refine F.q rfl rfl rfl (wanted_none rfl) (r_assign rfl) ?_
  refine F.nil ?_
  refine Nrm.seq ?_
  obtain ⟨s0, hE_1, h⟩ := bind_some h
  refine Tri.block ?_
  refine Tri.only [0, 1, 5] rfl ?_
  refine Tri.pick [] rfl rfl ?_
  refine Tri.rounds (fun n e' C' => ∃ (x5' : Int), spec_l1Stands.l0 k a0 a1 n x5' = some s0 ∧ e' = [(0, .string a0), (1, .int .u8 a1), (5, .int .i64 x5')] ∧ C' = Sep w noM []) k ?_ ?_ ?_
  · exact ⟨0, hE_1, rfl, rfl⟩
  · rintro _ _ ⟨_, hE_1, _⟩
    rw [spec_l1Stands.l0.eq_1] at hE_1; cases hE_1
  · rintro n_1 _ _ ⟨x5, hE_1, rfl, rfl⟩ ih_1
    rw [spec_l1Stands.l0.eq_2] at hE_1
    refine Tri.seq ?_
    refine Tri.seq ?_
    refine Tri.reg (l := [0, 1, 2, 3]) rfl ?_
    refine F.q rfl rfl rfl (wanted_none rfl) (r_move rfl) ?_
    refine F.q rfl rfl rfl (wanted_none rfl) (r_move rfl) ?_
    refine F.q rfl rfl rfl (wanted_none rfl) (r_lenS Tryd.underlying9 rfl) ?_
    refine F.q rfl rfl rfl (wanted_none rfl) (r_lss rfl rfl) ?_
    refine F.nil ?_
    refine Nrm.seq ?_
    refine Tri.cond (b := decide (x5 < (a0.size : Int))) rfl (fun g_1 => ?_) (fun g_1 => ?_)
    · replace hE_1 := if_tt g_1 hE_1
      refine Tri.skip ?_
      refine Nrm.seq ?_
      refine Tri.seq ?_
      refine Tri.block ?_
      refine Tri.seq ?_
      obtain ⟨t14, h14, hE_1⟩ := bind_some hE_1
      refine Tri.reg (l := [0, 1, 2, 3, 4]) rfl ?_
      refine F.q rfl rfl rfl (wanted_none rfl) (r_move rfl) ?_
      refine F.q rfl rfl rfl (wanted_none rfl) (r_move rfl) ?_
      refine F.q rfl rfl rfl (wanted_none rfl) (r_indexS Tryd.underlying9 rfl rfl (bt_some h14).1 (bt_some h14).2) ?_
      refine F.q rfl rfl rfl (wanted_none rfl) (r_move rfl) ?_
      refine F.q rfl rfl rfl (wanted_none rfl) (r_eql rfl rfl) ?_
      refine F.nil ?_
      refine Nrm.seq ?_
      refine Tri.cond (b := (t14.toNat : Int) == a1) rfl (fun g_2 => ?_) (fun g_2 => ?_)
      · replace hE_1 := if_tt g_2 hE_1
        refine Tri.seq ?_
        refine Tri.reg (l := [0]) rfl ?_
        refine F.q rfl rfl rfl (wanted_none rfl) (r_assign rfl) ?_
        refine F.nil ?_
        refine Nrm.seq ?_
        refine Tri.ret ?_
        refine Rtn.block ?_
        refine Rtn.then ?_
        refine Rtn.then ?_
        refine Rtn.block ?_
        refine Rtn.then ?_
        cases hE_1
        replace h := Lr_inr h
        cases h
        exact Rtn.body (.tmp rfl .nil) (fun w hw => ⟨rfl, hw.ext⟩)
      · replace hE_1 := if_ff g_2 hE_1
        refine Tri.skip ?_
        refine Nrm.block ?_
        refine Nrm.seq ?_
        refine Tri.reg (l := [0, 1, 2]) rfl ?_
        refine F.q rfl rfl rfl (wanted_none rfl) (r_move rfl) ?_
        refine F.q rfl rfl rfl (wanted_none rfl) (r_add rfl rfl) ?_
        refine F.q rfl rfl rfl (wanted_none rfl) (r_assign rfl) ?_
        refine F.nil ?_
        refine Nrm.round ?_
        refine Rnd.only [0, 1, 5] rfl ?_
        refine Rnd.pick [] rfl rfl ?_
        exact ih_1 _ _ ⟨w64 (x5 + 1), hE_1, rfl, rfl⟩
    · replace hE_1 := if_ff g_1 hE_1
      refine Tri.exit ?_
      refine Exi.then ?_
      refine Exi.then ?_
      refine Exi.same ?_
      cases hE_1
      replace h := Lr_inl h
      refine Nrm.seq ?_
      refine Tri.seq ?_
      refine Tri.reg (l := [0]) rfl ?_
      refine F.q rfl rfl rfl (wanted_none rfl) (r_assign rfl) ?_
      refine F.nil ?_
      refine Nrm.seq ?_
      refine Tri.ret ?_
      cases h
      exact Rtn.body (.tmp rfl .nil) (fun w hw => ⟨rfl, hw.ext⟩)

end Go.Proofs

/- loop.example/g01158/spec.l12Record -/
namespace Go.Proofs
open Go Go.Ga
set_option linter.unusedVariables false
set_option maxRecDepth 100000
set_option maxHeartbeats 4000000
def spec_l12Record.f (k : Nat) (a0_0 : ByteArray) (a0_1 : ByteArray) : Option (Bool) := ((if (!(a0_0.toList == ByteArray.empty.toList)) = true then (spec_l12Bytes.f k a0_0 160).bind fun t9 => (if t9 = true then (spec_l1Stands.f k a0_0 64).bind fun t14 => (if (!t14) = true then (spec_l12Bytes.f k a0_1 250).bind fun t20 => some t20 else some false) else some false) else some false)).bind fun y2 => some y2

theorem spec_l12Record.ok {k : Nat}  {a0_0 : ByteArray} {a0_1 : ByteArray} {r0 : Bool} (h : spec_l12Record.f k a0_0 a0_1 = some r0) (w : World) :
    Calls Tryd.prog 39 ([.agg ([.string a0_0, .string a0_1].toArray)] : List Value).toArray w (fun e w' => e = .returned (.bool r0) ∧ Ext w w') := by
  unfold spec_l12Record.f at h
  refine Calls.of_tri (N := 22) Tryd.func39 rfl rfl rfl (Sep.nil (M := noM)) ?_
  refine Tri.seq ?_
  refine Tri.reg (l := [0, 1]) rfl ?_
  refine F.m rfl rfl rfl (wanted_none rfl) (m_boxG rfl rfl) ?_
  rintro _ _ ⟨b1_1, rfl, rfl⟩
  refine F.q rfl rfl rfl (wanted_none rfl) (r_assign rfl) ?_
  refine F.nil ?_
  refine Nrm.seq ?_
  refine Tri.seq ?_
  obtain ⟨y2, hE_1, h⟩ := bind_some h
  refine Tri.cut (fun e' C' => e' = [(2, .bool y2)] ∧ C' = Sep w noM []) ?_ (fun hj_1 => ?_)
  · rintro _ _ ⟨rfl, rfl⟩
    refine Nrm.seq ?_
    refine Tri.ret ?_
    cases h
    exact Rtn.body (.tmp rfl .nil) (fun w hw => ⟨rfl, hw.ext⟩)
  · rcases Bool.eq_false_or_eq_true (!(a0_0.toList == ByteArray.empty.toList)) with g6 | g6
    · replace hE_1 := if_tt g6 hE_1
      obtain ⟨t9, h9, hE_1⟩ := bind_some hE_1
      rcases Bool.eq_false_or_eq_true (t9) with g11 | g11
      · replace hE_1 := if_tt g11 hE_1
        obtain ⟨t14, h14, hE_1⟩ := bind_some hE_1
        rcases Bool.eq_false_or_eq_true (!t14) with g17 | g17
        · replace hE_1 := if_tt g17 hE_1
          obtain ⟨t20, h20, hE_1⟩ := bind_some hE_1
          refine Tri.reg (l := [0, 1, 2, 3, 4, 5, 6, 7, 8, 9, 10, 11, 12, 13, 14, 15, 16, 17, 18, 19]) rfl ?_
          refine F.q rfl rfl rfl (wanted_none rfl) (r_fieldAddr tf27_0 rfl) ?_
          refine F.q rfl rfl rfl (wanted_none rfl) (r_load ta9 rfl (fun w hw => cell_1 (box_cells (i := 0) rfl w hw) rfl)) ?_
          refine F.q rfl rfl rfl (wanted_none rfl) (r_neqS rfl rfl) ?_
          refine F.q rfl rfl rfl (wanted_none rfl) (r_move rfl) ?_
          refine F.q rfl rfl rfl (wg rfl rfl rfl g6) (r_fieldAddr tf27_0 rfl) ?_
          refine F.q rfl rfl rfl (wg rfl rfl rfl g6) (r_load ta9 rfl (fun w hw => cell_1 (box_cells (i := 0) rfl w hw) rfl)) ?_
          refine F.qc rfl rfl rfl (wg rfl rfl rfl g6) (q_callF (xs := _) rfl ok56 rfl rfl (fun w hw => spec_l12Bytes.ok h9 w )) ?_
          refine F.q rfl rfl rfl (wanted_none rfl) (r_pick rfl rfl g6) ?_
          refine F.q rfl rfl rfl (wanted_none rfl) (r_move rfl) ?_
          refine F.q rfl rfl rfl (wg rfl rfl rfl g11) (r_fieldAddr tf27_0 rfl) ?_
          refine F.q rfl rfl rfl (wg rfl rfl rfl g11) (r_load ta9 rfl (fun w hw => cell_1 (box_cells (i := 0) rfl w hw) rfl)) ?_
          refine F.qc rfl rfl rfl (wg rfl rfl rfl g11) (q_callF (xs := _) rfl ok57 rfl rfl (fun w hw => spec_l1Stands.ok h14 w )) ?_
          refine F.q rfl rfl rfl (wg rfl rfl rfl g11) (r_not rfl) ?_
          refine F.q rfl rfl rfl (wanted_none rfl) (r_pick rfl rfl g11) ?_
          refine F.q rfl rfl rfl (wanted_none rfl) (r_move rfl) ?_
          refine F.q rfl rfl rfl (wg rfl rfl rfl g17) (r_fieldAddr tf27_1 rfl) ?_
          refine F.q rfl rfl rfl (wg rfl rfl rfl g17) (r_load ta9 rfl (fun w hw => cell_1 (box_cells (i := 0) rfl w hw) rfl)) ?_
          refine F.qc rfl rfl rfl (wg rfl rfl rfl g17) (q_callF (xs := _) rfl ok56 rfl rfl (fun w hw => spec_l12Bytes.ok h20 w )) ?_
          refine F.q rfl rfl rfl (wanted_none rfl) (r_pick rfl rfl g17) ?_
          refine F.q rfl rfl rfl (wanted_none rfl) (r_assign rfl) ?_
          refine F.nil ?_
          cases hE_1
          refine Nrm.only [2] rfl ?_
          refine Nrm.pick [] rfl rfl ?_
          exact hj_1 _ _ ⟨rfl, rfl⟩
        · replace hE_1 := if_ff g17 hE_1
          refine Tri.reg (l := [0, 1, 2, 3, 4, 5, 6, 7, 8, 9, 10, 11, 12, 13, 14, 15, 16, 17, 18, 19]) rfl ?_
          refine F.q rfl rfl rfl (wanted_none rfl) (r_fieldAddr tf27_0 rfl) ?_
          refine F.q rfl rfl rfl (wanted_none rfl) (r_load ta9 rfl (fun w hw => cell_1 (box_cells (i := 0) rfl w hw) rfl)) ?_
          refine F.q rfl rfl rfl (wanted_none rfl) (r_neqS rfl rfl) ?_
          refine F.q rfl rfl rfl (wanted_none rfl) (r_move rfl) ?_
          refine F.q rfl rfl rfl (wg rfl rfl rfl g6) (r_fieldAddr tf27_0 rfl) ?_
          refine F.q rfl rfl rfl (wg rfl rfl rfl g6) (r_load ta9 rfl (fun w hw => cell_1 (box_cells (i := 0) rfl w hw) rfl)) ?_
          refine F.qc rfl rfl rfl (wg rfl rfl rfl g6) (q_callF (xs := _) rfl ok56 rfl rfl (fun w hw => spec_l12Bytes.ok h9 w )) ?_
          refine F.q rfl rfl rfl (wanted_none rfl) (r_pick rfl rfl g6) ?_
          refine F.q rfl rfl rfl (wanted_none rfl) (r_move rfl) ?_
          refine F.q rfl rfl rfl (wg rfl rfl rfl g11) (r_fieldAddr tf27_0 rfl) ?_
          refine F.q rfl rfl rfl (wg rfl rfl rfl g11) (r_load ta9 rfl (fun w hw => cell_1 (box_cells (i := 0) rfl w hw) rfl)) ?_
          refine F.qc rfl rfl rfl (wg rfl rfl rfl g11) (q_callF (xs := _) rfl ok57 rfl rfl (fun w hw => spec_l1Stands.ok h14 w )) ?_
          refine F.q rfl rfl rfl (wg rfl rfl rfl g11) (r_not rfl) ?_
          refine F.q rfl rfl rfl (wanted_none rfl) (r_pick rfl rfl g11) ?_
          refine F.q rfl rfl rfl (wanted_none rfl) (r_move rfl) ?_
          refine F.sk rfl rfl rfl (wf rfl rfl rfl g17) ?_
          refine F.sk rfl rfl rfl (wf rfl rfl rfl g17) ?_
          refine F.sk rfl rfl rfl (wf rfl rfl rfl g17) ?_
          refine F.q rfl rfl rfl (wanted_none rfl) (r_pickf rfl rfl g17) ?_
          refine F.q rfl rfl rfl (wanted_none rfl) (r_assign rfl) ?_
          refine F.nil ?_
          cases hE_1
          refine Nrm.only [2] rfl ?_
          refine Nrm.pick [] rfl rfl ?_
          exact hj_1 _ _ ⟨rfl, rfl⟩
      · replace hE_1 := if_ff g11 hE_1
        refine Tri.reg (l := [0, 1, 2, 3, 4, 5, 6, 7, 8, 9, 10, 11, 12, 13, 14, 15, 16, 17, 18, 19]) rfl ?_
        refine F.q rfl rfl rfl (wanted_none rfl) (r_fieldAddr tf27_0 rfl) ?_
        refine F.q rfl rfl rfl (wanted_none rfl) (r_load ta9 rfl (fun w hw => cell_1 (box_cells (i := 0) rfl w hw) rfl)) ?_
        refine F.q rfl rfl rfl (wanted_none rfl) (r_neqS rfl rfl) ?_
        refine F.q rfl rfl rfl (wanted_none rfl) (r_move rfl) ?_
        refine F.q rfl rfl rfl (wg rfl rfl rfl g6) (r_fieldAddr tf27_0 rfl) ?_
        refine F.q rfl rfl rfl (wg rfl rfl rfl g6) (r_load ta9 rfl (fun w hw => cell_1 (box_cells (i := 0) rfl w hw) rfl)) ?_
        refine F.qc rfl rfl rfl (wg rfl rfl rfl g6) (q_callF (xs := _) rfl ok56 rfl rfl (fun w hw => spec_l12Bytes.ok h9 w )) ?_
        refine F.q rfl rfl rfl (wanted_none rfl) (r_pick rfl rfl g6) ?_
        refine F.q rfl rfl rfl (wanted_none rfl) (r_move rfl) ?_
        refine F.sk rfl rfl rfl (wf rfl rfl rfl g11) ?_
        refine F.sk rfl rfl rfl (wf rfl rfl rfl g11) ?_
        refine F.sk rfl rfl rfl (wf rfl rfl rfl g11) ?_
        refine F.sk rfl rfl rfl (wf rfl rfl rfl g11) ?_
        refine F.q rfl rfl rfl (wanted_none rfl) (r_pickf rfl rfl g11) ?_
        refine F.q rfl rfl rfl (wanted_none rfl) (r_move rfl) ?_
        refine F.sk rfl rfl rfl (wf rfl rfl rfl rfl) ?_
        refine F.sk rfl rfl rfl (wf rfl rfl rfl rfl) ?_
        refine F.sk rfl rfl rfl (wf rfl rfl rfl rfl) ?_
        refine F.q rfl rfl rfl (wanted_none rfl) (r_pickf rfl rfl rfl) ?_
        refine F.q rfl rfl rfl (wanted_none rfl) (r_assign rfl) ?_
        refine F.nil ?_
        cases hE_1
        refine Nrm.only [2] rfl ?_
        refine Nrm.pick [] rfl rfl ?_
        exact hj_1 _ _ ⟨rfl, rfl⟩
    · replace hE_1 := if_ff g6 hE_1
      refine Tri.reg (l := [0, 1, 2, 3, 4, 5, 6, 7, 8, 9, 10, 11, 12, 13, 14, 15, 16, 17, 18, 19]) rfl ?_
      refine F.q rfl rfl rfl (wanted_none rfl) (r_fieldAddr tf27_0 rfl) ?_
      refine F.q rfl rfl rfl (wanted_none rfl) (r_load ta9 rfl (fun w hw => cell_1 (box_cells (i := 0) rfl w hw) rfl)) ?_
      refine F.q rfl rfl rfl (wanted_none rfl) (r_neqS rfl rfl) ?_
      refine F.q rfl rfl rfl (wanted_none rfl) (r_move rfl) ?_
      refine F.sk rfl rfl rfl (wf rfl rfl rfl g6) ?_
      refine F.sk rfl rfl rfl (wf rfl rfl rfl g6) ?_
      refine F.sk rfl rfl rfl (wf rfl rfl rfl g6) ?_
      refine F.q rfl rfl rfl (wanted_none rfl) (r_pickf rfl rfl g6) ?_
      refine F.q rfl rfl rfl (wanted_none rfl) (r_move rfl) ?_
      refine F.sk rfl rfl rfl (wf rfl rfl rfl rfl) ?_
      refine F.sk rfl rfl rfl (wf rfl rfl rfl rfl) ?_
      refine F.sk rfl rfl rfl (wf rfl rfl rfl rfl) ?_
      refine F.sk rfl rfl rfl (wf rfl rfl rfl rfl) ?_
      refine F.q rfl rfl rfl (wanted_none rfl) (r_pickf rfl rfl rfl) ?_
      refine F.q rfl rfl rfl (wanted_none rfl) (r_move rfl) ?_
      refine F.sk rfl rfl rfl (wf rfl rfl rfl rfl) ?_
      refine F.sk rfl rfl rfl (wf rfl rfl rfl rfl) ?_
      refine F.sk rfl rfl rfl (wf rfl rfl rfl rfl) ?_
      refine F.q rfl rfl rfl (wanted_none rfl) (r_pickf rfl rfl rfl) ?_
      refine F.q rfl rfl rfl (wanted_none rfl) (r_assign rfl) ?_
      refine F.nil ?_
      cases hE_1
      refine Nrm.only [2] rfl ?_
      refine Nrm.pick [] rfl rfl ?_
      exact hj_1 _ _ ⟨rfl, rfl⟩

end Go.Proofs

/- loop.example/g01158/spec.l1Num -/

namespace Go.Proofs
open Go Go.Ga
set_option linter.unusedVariables false
set_option maxRecDepth 100000
set_option maxHeartbeats 4000000
def spec_l1Num.r (k : Nat) : Nat → Int → Option (ByteArray)
  | 0, _ => none
  | q + 1, a0 => (if (decide (a0 < 0)) = true then (spec_l1Num.r k q (w64 (0 - a0))).bind fun t7 => if ((ByteArray.mk #[45]) ++ t7).size < 4611686018427387904 then some ((ByteArray.mk #[45]) ++ t7) else none else (if (decide (a0 < 10)) = true then (scut (ByteArray.mk #[48, 49, 50, 51, 52, 53, 54, 55, 56, 57]) a0 (w64 (a0 + 1))).bind fun t14 => some t14 else (spec_l1Num.r k q (quo a0 10)).bind fun t17 => (scut (ByteArray.mk #[48, 49, 50, 51, 52, 53, 54, 55, 56, 57]) (rem a0 10) (w64 ((rem a0 10) + 1))).bind fun t23 => if (t17 ++ t23).size < 4611686018427387904 then some (t17 ++ t23) else none))

def spec_l1Num.f (k : Nat) (a0 : Int) : Option (ByteArray) := spec_l1Num.r k k a0

theorem spec_l1Num.rok (k : Nat) : ∀ (q : Nat)  {a0 : Int} {r0 : ByteArray} (h : spec_l1Num.r k q a0 = some r0) (w : World),
    Calls Tryd.prog 59 ([.int .i64 a0] : List Value).toArray w (fun e w' => e = .returned (.string r0) ∧ Ext w w') := by
  intro q
  induction q with
  | zero => intro a0 r0 h w; rw [spec_l1Num.r.eq_1] at h; cases h
  | succ q ih =>
    intro a0 r0 h w
    rw [spec_l1Num.r.eq_2] at h
    refine Calls.of_tri (N := 25) Tryd.func59 rfl rfl rfl (Sep.nil (M := noM)) ?_
    refine Tri.seq ?_
    refine Tri.reg (l := [0]) rfl ?_
    refine F.q rfl rfl rfl (wanted_none rfl) (r_assign rfl) ?_
    refine F.nil ?_
    refine Nrm.seq ?_
    refine Tri.seq ?_
    refine Tri.seq ?_
    refine Tri.reg (l := [0, 1]) rfl ?_
    refine F.q rfl rfl rfl (wanted_none rfl) (r_move rfl) ?_
    refine F.q rfl rfl rfl (wanted_none rfl) (r_lss rfl rfl) ?_
    refine F.nil ?_
    refine Nrm.seq ?_
    refine Tri.cond (b := decide (a0 < 0)) rfl (fun g_1 => ?_) (fun g_1 => ?_)
    · replace h := if_tt g_1 h
      refine Tri.seq ?_
      obtain ⟨t7, h7, h⟩ := bind_some h
      obtain ⟨hs8, h⟩ := ck h
      refine Tri.reg (l := [0, 1, 2, 3, 4]) rfl ?_
      refine F.q rfl rfl rfl (wanted_none rfl) (r_move rfl) ?_
      refine F.q rfl rfl rfl (wanted_none rfl) (r_neg rfl) ?_
      refine F.qc rfl rfl rfl (wanted_none rfl) (q_callF (xs := _) rfl ok59 rfl rfl (fun w hw => ih h7 w )) ?_
      refine F.q rfl rfl rfl (wanted_none rfl) (r_addS rfl rfl hs8) ?_
      refine F.q rfl rfl rfl (wanted_none rfl) (r_assign rfl) ?_
      refine F.nil ?_
      refine Nrm.seq ?_
      refine Tri.ret ?_
      refine Rtn.then ?_
      cases h
      exact Rtn.body (.tmp rfl .nil) (fun w hw => ⟨rfl, hw.ext⟩)
    · replace h := if_ff g_1 h
      refine Tri.skip ?_
      refine Nrm.seq ?_
      refine Tri.seq ?_
      refine Tri.seq ?_
      refine Tri.reg (l := [0, 1]) rfl ?_
      refine F.q rfl rfl rfl (wanted_none rfl) (r_move rfl) ?_
      refine F.q rfl rfl rfl (wanted_none rfl) (r_lss rfl rfl) ?_
      refine F.nil ?_
      refine Nrm.seq ?_
      refine Tri.cond (b := decide (a0 < 10)) rfl (fun g_2 => ?_) (fun g_2 => ?_)
      · replace h := if_tt g_2 h
        refine Tri.seq ?_
        obtain ⟨t14, h14, h⟩ := bind_some h
        refine Tri.reg (l := [0, 1, 2, 3, 4]) rfl ?_
        refine F.q rfl rfl rfl (wanted_none rfl) (r_move rfl) ?_
        refine F.q rfl rfl rfl (wanted_none rfl) (r_move rfl) ?_
        refine F.q rfl rfl rfl (wanted_none rfl) (r_add rfl rfl) ?_
        refine F.q rfl rfl rfl (wanted_none rfl) (r_scutLH Tryd.underlying9 rfl rfl rfl h14) ?_
        refine F.q rfl rfl rfl (wanted_none rfl) (r_assign rfl) ?_
        refine F.nil ?_
        refine Nrm.seq ?_
        refine Tri.ret ?_
        refine Rtn.then ?_
        cases h
        exact Rtn.body (.tmp rfl .nil) (fun w hw => ⟨rfl, hw.ext⟩)
      · replace h := if_ff g_2 h
        refine Tri.skip ?_
        refine Nrm.seq ?_
        refine Tri.seq ?_
        obtain ⟨t17, h17, h⟩ := bind_some h
        obtain ⟨t23, h23, h⟩ := bind_some h
        obtain ⟨hs24, h⟩ := ck h
        refine Tri.drawA mixedT Sep.up [(0, true), (1, true), (2, true), (3, true), (4, true), (5, true), (6, true), (7, true), (8, true), (9, true), (10, true)] [] (by kernel_rfl) ?_
        refine S.q rfl rfl rfl (wanted_none rfl) (r_move rfl) ?_
        refine S.q rfl rfl rfl (wanted_none rfl) (r_quo rfl rfl (by decide)) ?_
        refine S.qc rfl rfl rfl (wanted_none rfl) (q_callF (xs := _) rfl ok59 rfl rfl (fun w hw => ih h17 w )) ?_
        refine S.q rfl rfl rfl (wanted_none rfl) (r_move rfl) ?_
        refine S.q rfl rfl rfl (wanted_none rfl) (r_rem rfl rfl (by decide)) ?_
        refine S.q rfl rfl rfl (wanted_none rfl) (r_move rfl) ?_
        refine S.q rfl rfl rfl (wanted_none rfl) (r_rem rfl rfl (by decide)) ?_
        refine S.q rfl rfl rfl (wanted_none rfl) (r_add rfl rfl) ?_
        refine S.q rfl rfl rfl (wanted_none rfl) (r_scutLH Tryd.underlying9 rfl rfl rfl h23) ?_
        refine S.q rfl rfl rfl (wanted_none rfl) (r_addS rfl rfl hs24) ?_
        refine S.q rfl rfl rfl (wanted_none rfl) (r_assign rfl) ?_
        refine S.nil ?_
        refine F.nil ?_
        refine Nrm.seq ?_
        refine Tri.ret ?_
        cases h
        exact Rtn.body (.tmp rfl .nil) (fun w hw => ⟨rfl, hw.ext⟩)

theorem spec_l1Num.ok {k : Nat}  {a0 : Int} {r0 : ByteArray} (h : spec_l1Num.f k a0 = some r0) (w : World) :
    Calls Tryd.prog 59 ([.int .i64 a0] : List Value).toArray w (fun e w' => e = .returned (.string r0) ∧ Ext w w') := by
  exact spec_l1Num.rok k k h w

end Go.Proofs

/- loop.example/g01158/spec.l1Sum -/

namespace Go.Proofs
open Go Go.Ga
set_option linter.unusedVariables false
set_option maxRecDepth 100000
set_option maxHeartbeats 4000000
def spec_l1Sum.l0 (k : Nat) (a0 : ByteArray) : Nat → Int → Int → Option (Int)
  | 0, _, _ => none
  | n + 1, x3, x4 => (if (decide (x4 < (a0.size : Int))) = true then (bta a0 x4).bind fun t15 => spec_l1Sum.l0 k a0 n (rem (w64 ((w64 ((w64 (41 * x3)) + (IntKind.i64.wrap (t15.toNat : Int)))) + 1)) 999979) (w64 (x4 + 1)) else some x3)

def spec_l1Sum.f (k : Nat) (a0 : ByteArray) : Option (Int) := (spec_l1Sum.l0 k a0 k 7 0).bind fun x3 => some x3

theorem spec_l1Sum.ok {k : Nat}  {a0 : ByteArray} {r0 : Int} (h : spec_l1Sum.f k a0 = some r0) (w : World) :
    Calls Tryd.prog 79 ([.string a0] : List Value).toArray w (fun e w' => e = .returned (.int .i64 r0) ∧ Ext w w') := by
  unfold spec_l1Sum.f at h
  refine Calls.of_tri (N := 21) Tryd.func79 rfl rfl rfl (Sep.nil (M := noM)) ?_
  refine Tri.seq ?_
  refine Tri.reg (l := [0]) rfl ?_
  refine F.q rfl rfl rfl (wanted_none rfl) (r_assign rfl) ?_
  refine F.nil ?_
  refine Nrm.seq ?_
  refine Tri.seq ?_
  refine Tri.reg (l := [0]) rfl ?_
  refine F.q rfl rfl rfl (wanted_none rfl) (r_assign rfl) ?_
  refine F.nil ?_
  refine Nrm.seq ?_
  refine Tri.seq ?_
  refine Tri.seq ?_
  refine Tri.reg (l := [0]) rfl ?_
  refine F.q rfl rfl rfl (wanted_none rfl) (r_assign rfl) ?_
  refine F.nil ?_
  refine Nrm.seq ?_
  obtain ⟨x3, hE_1, h⟩ := bind_some h
  refine Tri.block ?_
  refine Tri.only [0, 3, 4] rfl ?_
  refine Tri.pick [] rfl rfl ?_
  refine Tri.rounds (fun n e' C' => ∃ (x3' : Int) (x4' : Int), spec_l1Sum.l0 k a0 n x3' x4' = some x3 ∧ e' = [(0, .string a0), (3, .int .i64 x3'), (4, .int .i64 x4')] ∧ C' = Sep w noM []) k ?_ ?_ ?_
  · exact ⟨7, 0, hE_1, rfl, rfl⟩
  · rintro _ _ ⟨_, _, hE_1, _⟩
    rw [spec_l1Sum.l0.eq_1] at hE_1; cases hE_1
  · rintro n_1 _ _ ⟨x3, x4, hE_1, rfl, rfl⟩ ih_1
    rw [spec_l1Sum.l0.eq_2] at hE_1
    refine Tri.seq ?_
    refine Tri.seq ?_
    refine Tri.reg (l := [0, 1, 2, 3]) rfl ?_
    refine F.q rfl rfl rfl (wanted_none rfl) (r_move rfl) ?_
    refine F.q rfl rfl rfl (wanted_none rfl) (r_move rfl) ?_
    refine F.q rfl rfl rfl (wanted_none rfl) (r_lenS Tryd.underlying9 rfl) ?_
    refine F.q rfl rfl rfl (wanted_none rfl) (r_lss rfl rfl) ?_
    refine F.nil ?_
    refine Nrm.seq ?_
    refine Tri.cond (b := decide (x4 < (a0.size : Int))) rfl (fun g_1 => ?_) (fun g_1 => ?_)
    · replace hE_1 := if_tt g_1 hE_1
      refine Tri.skip ?_
      refine Nrm.seq ?_
      refine Tri.seq ?_
      refine Tri.block ?_
      obtain ⟨t15, h15, hE_1⟩ := bind_some hE_1
      refine Tri.reg (l := [0, 1, 2, 3, 4, 5, 6, 7, 8, 9]) rfl ?_
      refine F.q rfl rfl rfl (wanted_none rfl) (r_move rfl) ?_
      refine F.q rfl rfl rfl (wanted_none rfl) (r_mul rfl rfl) ?_
      refine F.q rfl rfl rfl (wanted_none rfl) (r_move rfl) ?_
      refine F.q rfl rfl rfl (wanted_none rfl) (r_move rfl) ?_
      refine F.q rfl rfl rfl (wanted_none rfl) (r_indexS Tryd.underlying9 rfl rfl (bt_some h15).1 (bt_some h15).2) ?_
      refine F.q rfl rfl rfl (wanted_none rfl) (r_conv Tryd.underlying5 Tryd.underlying3 rfl) ?_
      refine F.q rfl rfl rfl (wanted_none rfl) (r_add rfl rfl) ?_
      refine F.q rfl rfl rfl (wanted_none rfl) (r_add rfl rfl) ?_
      refine F.q rfl rfl rfl (wanted_none rfl) (r_rem rfl rfl (by decide)) ?_
      refine F.q rfl rfl rfl (wanted_none rfl) (r_assign rfl) ?_
      refine F.nil ?_
      refine Nrm.block ?_
      refine Nrm.seq ?_
      refine Tri.reg (l := [0, 1, 2]) rfl ?_
      refine F.q rfl rfl rfl (wanted_none rfl) (r_move rfl) ?_
      refine F.q rfl rfl rfl (wanted_none rfl) (r_add rfl rfl) ?_
      refine F.q rfl rfl rfl (wanted_none rfl) (r_assign rfl) ?_
      refine F.nil ?_
      refine Nrm.round ?_
      refine Rnd.only [0, 3, 4] rfl ?_
      refine Rnd.pick [] rfl rfl ?_
      exact ih_1 _ _ ⟨rem (w64 ((w64 ((w64 (41 * x3)) + (IntKind.i64.wrap (t15.toNat : Int)))) + 1)) 999979, w64 (x4 + 1), hE_1, rfl, rfl⟩
    · replace hE_1 := if_ff g_1 hE_1
      refine Tri.exit ?_
      refine Exi.then ?_
      refine Exi.then ?_
      refine Exi.same ?_
      cases hE_1
      refine Nrm.seq ?_
      refine Tri.seq ?_
      refine Tri.reg (l := [0, 1]) rfl ?_
      refine F.q rfl rfl rfl (wanted_none rfl) (r_move rfl) ?_
      refine F.q rfl rfl rfl (wanted_none rfl) (r_assign rfl) ?_
      refine F.nil ?_
      refine Nrm.seq ?_
      refine Tri.ret ?_
      cases h
      exact Rtn.body (.tmp rfl .nil) (fun w hw => ⟨rfl, hw.ext⟩)

end Go.Proofs

/- loop.example/g01158/spec.l1Seal -/
namespace Go.Proofs
open Go Go.Ga
set_option linter.unusedVariables false
set_option maxRecDepth 100000
set_option maxHeartbeats 4000000
def spec_l1Seal.f (k : Nat) (a0 : ByteArray) : Option (ByteArray) := if (a0 ++ (ByteArray.mk #[35])).size < 4611686018427387904 then (spec_l1Sum.f k a0).bind fun t6 => (spec_l1Num.f k t6).bind fun t7 => if ((a0 ++ (ByteArray.mk #[35])) ++ t7).size < 4611686018427387904 then some ((a0 ++ (ByteArray.mk #[35])) ++ t7) else none else none

theorem spec_l1Seal.ok {k : Nat}  {a0 : ByteArray} {r0 : ByteArray} (h : spec_l1Seal.f k a0 = some r0) (w : World) :
    Calls Tryd.prog 58 ([.string a0] : List Value).toArray w (fun e w' => e = .returned (.string r0) ∧ Ext w w') := by
  unfold spec_l1Seal.f at h
  refine Calls.of_tri (N := 9) Tryd.func58 rfl rfl rfl (Sep.nil (M := noM)) ?_
  refine Tri.seq ?_
  refine Tri.reg (l := [0]) rfl ?_
  refine F.q rfl rfl rfl (wanted_none rfl) (r_assign rfl) ?_
  refine F.nil ?_
  refine Nrm.seq ?_
  refine Tri.seq ?_
  obtain ⟨hs4, h⟩ := ck h
  obtain ⟨t6, h6, h⟩ := bind_some h
  obtain ⟨t7, h7, h⟩ := bind_some h
  obtain ⟨hs8, h⟩ := ck h
  refine Tri.reg (l := [0, 1, 2, 3, 4, 5, 6]) rfl ?_
  refine F.q rfl rfl rfl (wanted_none rfl) (r_move rfl) ?_
  refine F.q rfl rfl rfl (wanted_none rfl) (r_addS rfl rfl hs4) ?_
  refine F.q rfl rfl rfl (wanted_none rfl) (r_move rfl) ?_
  refine F.qc rfl rfl rfl (wanted_none rfl) (q_callF (xs := _) rfl ok79 rfl rfl (fun w hw => spec_l1Sum.ok h6 w )) ?_
  refine F.qc rfl rfl rfl (wanted_none rfl) (q_callF (xs := _) rfl ok59 rfl rfl (fun w hw => spec_l1Num.ok h7 w )) ?_
  refine F.q rfl rfl rfl (wanted_none rfl) (r_addS rfl rfl hs8) ?_
  refine F.q rfl rfl rfl (wanted_none rfl) (r_assign rfl) ?_
  refine F.nil ?_
  refine Nrm.seq ?_
  refine Tri.ret ?_
  cases h
  exact Rtn.body (.tmp rfl .nil) (fun w hw => ⟨rfl, hw.ext⟩)

end Go.Proofs

/- loop.example/g01158/spec.l12Line -/
namespace Go.Proofs
open Go Go.Ga
set_option linter.unusedVariables false
set_option maxRecDepth 100000
set_option maxHeartbeats 4000000
def spec_l12Line.f (k : Nat) (a0 : Int) (a1_0 : ByteArray) (a1_1 : ByteArray) : Option (ByteArray) := (spec_l1Num.f k a0).bind fun t6 => if (t6 ++ (ByteArray.mk #[32])).size < 4611686018427387904 then if ((t6 ++ (ByteArray.mk #[32])) ++ a1_0).size < 4611686018427387904 then if (((t6 ++ (ByteArray.mk #[32])) ++ a1_0) ++ (ByteArray.mk #[64])).size < 4611686018427387904 then if ((((t6 ++ (ByteArray.mk #[32])) ++ a1_0) ++ (ByteArray.mk #[64])) ++ a1_1).size < 4611686018427387904 then (spec_l1Seal.f k ((((t6 ++ (ByteArray.mk #[32])) ++ a1_0) ++ (ByteArray.mk #[64])) ++ a1_1)).bind fun t15 => if (t15 ++ (ByteArray.mk #[10])).size < 4611686018427387904 then some (t15 ++ (ByteArray.mk #[10])) else none else none else none else none else none

theorem spec_l12Line.ok {k : Nat}  {a0 : Int} {a1_0 : ByteArray} {a1_1 : ByteArray} {r0 : ByteArray} (h : spec_l12Line.f k a0 a1_0 a1_1 = some r0) (w : World) :
    Calls Tryd.prog 40 ([.int .i64 a0, .agg ([.string a1_0, .string a1_1].toArray)] : List Value).toArray w (fun e w' => e = .returned (.string r0) ∧ Ext w w') := by
  unfold spec_l12Line.f at h
  refine Calls.of_tri (N := 17) Tryd.func40 rfl rfl rfl (Sep.nil (M := noM)) ?_
  refine Tri.seq ?_
  refine Tri.reg (l := [0, 1]) rfl ?_
  refine F.m rfl rfl rfl (wanted_none rfl) (m_boxG rfl rfl) ?_
  rintro _ _ ⟨b3_1, rfl, rfl⟩
  refine F.q rfl rfl rfl (wanted_none rfl) (r_assign rfl) ?_
  refine F.nil ?_
  refine Nrm.seq ?_
  refine Tri.seq ?_
  obtain ⟨t6, h6, h⟩ := bind_some h
  obtain ⟨hs7, h⟩ := ck h
  obtain ⟨hs10, h⟩ := ck h
  obtain ⟨hs11, h⟩ := ck h
  obtain ⟨hs14, h⟩ := ck h
  obtain ⟨t15, h15, h⟩ := bind_some h
  obtain ⟨hs16, h⟩ := ck h
  refine Tri.drawA mixedT Sep.up [(0, true), (1, true), (2, true), (3, true), (4, true), (5, true), (6, true), (7, true), (8, true), (9, true), (10, true), (11, true), (12, true)] [] (by kernel_rfl) ?_
  refine S.q rfl rfl rfl (wanted_none rfl) (r_move rfl) ?_
  refine S.qc rfl rfl rfl (wanted_none rfl) (q_callF (xs := _) rfl ok59 rfl rfl (fun w hw => spec_l1Num.ok h6 w )) ?_
  refine S.q rfl rfl rfl (wanted_none rfl) (r_addS rfl rfl hs7) ?_
  refine S.q rfl rfl rfl (wanted_none rfl) (r_fieldAddr tf27_0 rfl) ?_
  refine S.q rfl rfl rfl (wanted_none rfl) (r_load ta9 rfl (fun w hw => cell_1 (box_cells (i := 0) rfl w hw) rfl)) ?_
  refine S.q rfl rfl rfl (wanted_none rfl) (r_addS rfl rfl hs10) ?_
  refine S.q rfl rfl rfl (wanted_none rfl) (r_addS rfl rfl hs11) ?_
  refine S.q rfl rfl rfl (wanted_none rfl) (r_fieldAddr tf27_1 rfl) ?_
  refine S.q rfl rfl rfl (wanted_none rfl) (r_load ta9 rfl (fun w hw => cell_1 (box_cells (i := 0) rfl w hw) rfl)) ?_
  refine S.q rfl rfl rfl (wanted_none rfl) (r_addS rfl rfl hs14) ?_
  refine S.qc rfl rfl rfl (wanted_none rfl) (q_callF (xs := _) rfl ok58 rfl rfl (fun w hw => spec_l1Seal.ok h15 w )) ?_
  refine S.q rfl rfl rfl (wanted_none rfl) (r_addS rfl rfl hs16) ?_
  refine S.q rfl rfl rfl (wanted_none rfl) (r_assign rfl) ?_
  refine S.nil ?_
  refine F.nil ?_
  refine Nrm.seq ?_
  refine Tri.ret ?_
  cases h
  exact Rtn.body (.tmp rfl .nil) (fun w hw => ⟨rfl, hw.ext⟩)

end Go.Proofs

/- loop.example/g01158/spec.l12Decode -/
namespace Go.Proofs
open Go Go.Ga
set_option linter.unusedVariables false
set_option maxRecDepth 100000
set_option maxHeartbeats 4000000
def spec_l12Decode.f (k : Nat) (a0 : ByteArray) (a1 : Int) : Option (ByteArray × ByteArray × Bool) := (spec_l1Num.f k a1).bind fun t12 => if (t12 ++ (ByteArray.mk #[32])).size < 4611686018427387904 then (spec_l1Split.f k a0 35).bind fun t15 => (rdl t15 0).bind fun t16 => ((if (decide ((t16.size : Int) < ((t12 ++ (ByteArray.mk #[32])).size : Int))) = true then some true else (scut t16 0 ((t12 ++ (ByteArray.mk #[32])).size : Int)).bind fun t27 => some (!(t27.toList == (t12 ++ (ByteArray.mk #[32])).toList)))).bind fun y30 => (if y30 = true then some (ByteArray.empty, ByteArray.empty, false) else (scut t16 ((t12 ++ (ByteArray.mk #[32])).size : Int) (t16.size : Int)).bind fun t35 => (spec_l1Split.f k t35 64).bind fun t37 => (rdl t37 0).bind fun t38 => (if ((t38.size : Int) == (t35.size : Int)) = true then some (ByteArray.empty, ByteArray.empty, false) else (scut t35 (w64 ((t38.size : Int) + 1)) (t35.size : Int)).bind fun t51 => ((spec_l12Record.f k t38 t51).bind fun t55 => (if t55 = true then (spec_l12Line.f k a1 t38 t51).bind fun t59 => if (a0 ++ (ByteArray.mk #[10])).size < 4611686018427387904 then some (t59.toList == (a0 ++ (ByteArray.mk #[10])).toList) else none else some false)).bind fun y5 => some (t38, t51, y5))) else none

theorem spec_l12Decode.ok {k : Nat}  {a0 : ByteArray} {a1 : Int} {r0 : ByteArray} {r1 : ByteArray} {r2 : Bool} (h : spec_l12Decode.f k a0 a1 = some (r0, r1, r2)) (w : World) :
    Calls Tryd.prog 66 ([.string a0, .int .i64 a1] : List Value).toArray w (fun e w' => e = .returned (.tuple #[.agg [.string r0, .string r1].toArray, .bool r2]) ∧ Ext w w') := by
  unfold spec_l12Decode.f at h
  refine Calls.of_tri (N := 64) Tryd.func66 rfl rfl rfl (Sep.nil (M := noM)) ?_
  refine Tri.seq ?_
  refine Tri.reg (l := [0, 1]) rfl ?_
  refine F.m rfl rfl rfl (wanted_none rfl) (m_alloc ti27) ?_
  rintro _ _ ⟨b4_1, rfl, rfl⟩
  refine F.q rfl rfl rfl (wanted_none rfl) (r_assign rfl) ?_
  refine F.nil ?_
  refine Nrm.seq ?_
  refine Tri.seq ?_
  obtain ⟨t12, h12, h⟩ := bind_some h
  obtain ⟨hs13, h⟩ := ck h
  refine Tri.reg (l := [0, 1, 2, 3]) rfl ?_
  refine F.q rfl rfl rfl (wanted_none rfl) (r_move rfl) ?_
  refine F.qc rfl rfl rfl (wanted_none rfl) (q_callF (xs := _) rfl ok59 rfl rfl (fun w hw => spec_l1Num.ok h12 w )) ?_
  refine F.q rfl rfl rfl (wanted_none rfl) (r_addS rfl rfl hs13) ?_
  refine F.q rfl rfl rfl (wanted_none rfl) (r_assign rfl) ?_
  refine F.nil ?_
  refine Nrm.seq ?_
  refine Tri.seq ?_
  obtain ⟨t15, h15, h⟩ := bind_some h
  obtain ⟨t16, h16, h⟩ := bind_some h
  refine Tri.reg (l := [0, 1, 2, 3, 4]) rfl ?_
  refine F.q rfl rfl rfl (wanted_none rfl) (r_move rfl) ?_
  refine F.m rfl rfl rfl (wanted_none rfl) (m_callF (xs := _) rfl ok65 rfl rfl (fun w hw => spec_l1Split.ok h15 w )) ?_
  rintro v15_1 _ ⟨_, ⟨S15_1, hl_v15_1, rfl⟩, rfl⟩
  refine F.q rfl rfl rfl (wanted_none rfl) (r_indexAddrS Tryd.underlying92 ti9 rfl hl_v15_1 rfl (rdl_some h16).1 (rdl_some h16).2.1) ?_
  refine F.q rfl rfl rfl (wanted_none rfl) (r_load ta9 rfl (fun w hw => cell_0 (Rd.flat ((rd_sl (i := 0) rfl) w hw) (rdl_some h16).2.2) rfl)) ?_
  refine F.q rfl rfl rfl (wanted_none rfl) (r_assign rfl) ?_
  refine F.nil ?_
  refine Nrm.seq ?_
  refine Tri.seq ?_
  refine Tri.seq ?_
  obtain ⟨y30, hE_1, h⟩ := bind_some h
  refine Tri.cut (fun e' C' => e' = [(0, .string a0), (1, .int .i64 a1), (4, .pointer (some ⟨b4_1, 0, none⟩)), (6, .string (t12 ++ (ByteArray.mk #[32]))), (7, .string t16), (30, .bool y30)] ∧ C' = Sep w noM [R.box b4_1 27 [.string ByteArray.empty, .string ByteArray.empty]]) ?_ (fun hj_1 => ?_)
  · rintro _ _ ⟨rfl, rfl⟩
    refine Nrm.seq ?_
    refine Tri.cond (b := y30) rfl (fun g_1 => ?_) (fun g_1 => ?_)
    · replace h := if_tt g_1 h
      refine Tri.seq ?_
      refine Tri.reg (l := [0, 1, 2]) rfl ?_
      refine F.q rfl rfl rfl (wanted_none rfl) (r_build (pl := [(0, 1), (1, 1)]) (qs := []) (cs := [.string ByteArray.empty, .string ByteArray.empty]) (by kernel_rfl) ti27 rfl .nil rfl rfl) ?_
      refine F.ef0 rfl rfl (wanted_none rfl) (d_storeG0 (i := 0) (cs2 := [.string ByteArray.empty, .string ByteArray.empty]) ti27 rfl rfl rfl rfl rfl (Nat.le_of_ble_eq_true rfl) (lf_cons rfl (lf_cons rfl lf_nil))) ?_
      rintro _ _ ⟨rfl, rfl⟩
      refine F.q rfl rfl rfl (wanted_none rfl) (r_assign rfl) ?_
      refine F.nil ?_
      refine Nrm.seq ?_
      refine Tri.ret ?_
      refine Rtn.then ?_
      cases h
      exact Rtn.body (.cell rfl ta27 ti27 rfl (fun _ hw => box_cells (i := 0) rfl _ hw) (.tmp rfl .nil)) (fun w hw => ⟨rfl, hw.ext⟩)
    · replace h := if_ff g_1 h
      refine Tri.skip ?_
      refine Nrm.seq ?_
      refine Tri.seq ?_
      obtain ⟨t35, h35, h⟩ := bind_some h
      refine Tri.reg (l := [0, 1, 2, 3, 4]) rfl ?_
      refine F.q rfl rfl rfl (wanted_none rfl) (r_move rfl) ?_
      refine F.q rfl rfl rfl (wanted_none rfl) (r_move rfl) ?_
      refine F.q rfl rfl rfl (wanted_none rfl) (r_lenS Tryd.underlying9 rfl) ?_
      refine F.q rfl rfl rfl (wanted_none rfl) (r_scutL Tryd.underlying9 rfl rfl h35) ?_
      refine F.q rfl rfl rfl (wanted_none rfl) (r_assign rfl) ?_
      refine F.nil ?_
      refine Nrm.seq ?_
      refine Tri.seq ?_
      obtain ⟨t37, h37, h⟩ := bind_some h
      obtain ⟨t38, h38, h⟩ := bind_some h
      refine Tri.reg (l := [0, 1, 2, 3, 4]) rfl ?_
      refine F.q rfl rfl rfl (wanted_none rfl) (r_move rfl) ?_
      refine F.m rfl rfl rfl (wanted_none rfl) (m_callF (xs := _) rfl ok65 rfl rfl (fun w hw => spec_l1Split.ok h37 w )) ?_
      rintro v37_1 _ ⟨_, ⟨S37_1, hl_v37_1, rfl⟩, rfl⟩
      refine F.q rfl rfl rfl (wanted_none rfl) (r_indexAddrS Tryd.underlying92 ti9 rfl hl_v37_1 rfl (rdl_some h38).1 (rdl_some h38).2.1) ?_
      refine F.q rfl rfl rfl (wanted_none rfl) (r_load ta9 rfl (fun w hw => cell_0 (Rd.flat ((rd_sl (i := 0) rfl) w hw) (rdl_some h38).2.2) rfl)) ?_
      refine F.q rfl rfl rfl (wanted_none rfl) (r_assign rfl) ?_
      refine F.nil ?_
      refine Nrm.seq ?_
      refine Tri.seq ?_
      refine Tri.seq ?_
      refine Tri.reg (l := [0, 1, 2, 3, 4]) rfl ?_
      refine F.q rfl rfl rfl (wanted_none rfl) (r_move rfl) ?_
      refine F.q rfl rfl rfl (wanted_none rfl) (r_lenS Tryd.underlying9 rfl) ?_
      refine F.q rfl rfl rfl (wanted_none rfl) (r_move rfl) ?_
      refine F.q rfl rfl rfl (wanted_none rfl) (r_lenS Tryd.underlying9 rfl) ?_
      refine F.q rfl rfl rfl (wanted_none rfl) (r_eql rfl rfl) ?_
      refine F.nil ?_
      refine Nrm.seq ?_
      refine Tri.cond (b := (t38.size : Int) == (t35.size : Int)) rfl (fun g_2 => ?_) (fun g_2 => ?_)
      · replace h := if_tt g_2 h
        refine Tri.seq ?_
        refine Tri.reg (l := [0, 1, 2]) rfl ?_
        refine F.q rfl rfl rfl (wanted_none rfl) (r_build (pl := [(0, 1), (1, 1)]) (qs := []) (cs := [.string ByteArray.empty, .string ByteArray.empty]) (by kernel_rfl) ti27 rfl .nil rfl rfl) ?_
        refine F.ef0 rfl rfl (wanted_none rfl) (d_storeG0 (i := 1) (cs2 := [.string ByteArray.empty, .string ByteArray.empty]) ti27 rfl rfl rfl rfl rfl (Nat.le_of_ble_eq_true rfl) (lf_cons rfl (lf_cons rfl lf_nil))) ?_
        rintro _ _ ⟨rfl, rfl⟩
        refine F.q rfl rfl rfl (wanted_none rfl) (r_assign rfl) ?_
        refine F.nil ?_
        refine Nrm.seq ?_
        refine Tri.ret ?_
        refine Rtn.then ?_
        cases h
        exact Rtn.body (.cell rfl ta27 ti27 rfl (fun _ hw => box_cells (i := 1) rfl _ hw) (.tmp rfl .nil)) (fun w hw => ⟨rfl, hw.ext⟩)
      · replace h := if_ff g_2 h
        refine Tri.skip ?_
        refine Nrm.seq ?_
        refine Tri.seq ?_
        obtain ⟨t51, h51, h⟩ := bind_some h
        refine Tri.reg (l := [0, 1, 2, 3, 4, 5, 6, 7, 8]) rfl ?_
        refine F.q rfl rfl rfl (wanted_none rfl) (r_move rfl) ?_
        refine F.q rfl rfl rfl (wanted_none rfl) (r_move rfl) ?_
        refine F.q rfl rfl rfl (wanted_none rfl) (r_move rfl) ?_
        refine F.q rfl rfl rfl (wanted_none rfl) (r_lenS Tryd.underlying9 rfl) ?_
        refine F.q rfl rfl rfl (wanted_none rfl) (r_add rfl rfl) ?_
        refine F.q rfl rfl rfl (wanted_none rfl) (r_scutL Tryd.underlying9 rfl rfl h51) ?_
        refine F.q rfl rfl rfl (wanted_none rfl) (r_build (pl := [(0, 1), (1, 1)]) (qs := [(0, [.string t38]), (1, [.string t51])]) (cs := [.string t38, .string t51]) (by kernel_rfl) ti27 rfl (.cons rfl rfl (Nat.le_of_ble_eq_true rfl) (.cons rfl rfl (Nat.le_of_ble_eq_true rfl) .nil)) rfl rfl) ?_
        refine F.m rfl rfl rfl (wanted_none rfl) (m_alloc ti27) ?_
        rintro _ _ ⟨b10_1, rfl, rfl⟩
        refine F.ef0 rfl rfl (wanted_none rfl) (d_storeG0 (i := 0) (cs2 := [.string t38, .string t51]) ti27 rfl rfl rfl rfl rfl (Nat.le_of_ble_eq_true rfl) (lf_cons rfl (lf_cons rfl lf_nil))) ?_
        rintro _ _ ⟨rfl, rfl⟩
        refine F.nil ?_
        refine Nrm.seq ?_
        refine Tri.seq ?_
        obtain ⟨y5, hE_2, h⟩ := bind_some h
        refine Tri.cut (fun e' C' => e' = [(4, .pointer (some ⟨b4_1, 0, none⟩)), (5, .bool y5)] ∧ C' = Sep w noM [R.box b4_1 27 [.string t38, .string t51]]) ?_ (fun hj_2 => ?_)
        · rintro _ _ ⟨rfl, rfl⟩
          refine Nrm.seq ?_
          refine Tri.ret ?_
          cases h
          exact Rtn.body (.cell rfl ta27 ti27 rfl (fun _ hw => box_cells (i := 0) rfl _ hw) (.tmp rfl .nil)) (fun w hw => ⟨rfl, hw.ext⟩)
        · obtain ⟨t55, h55, hE_2⟩ := bind_some hE_2
          rcases Bool.eq_false_or_eq_true (t55) with g56 | g56
          · replace hE_2 := if_tt g56 hE_2
            obtain ⟨t59, h59, hE_2⟩ := bind_some hE_2
            obtain ⟨hs61, hE_2⟩ := ck hE_2
            refine Tri.drawK (B := Sep w noM [R.box b10_1 27 [.string t38, .string t51], R.sl S37_1 v37_1 (t37 : List (ByteArray))]) mixedT Sep.up [(0, true), (1, true), (2, true), (3, true), (4, true), (5, true), (6, true), (7, true), (8, true), (9, true), (10, true), (11, false)] [12] (by kernel_rfl) ?_
            refine K.q [0, 1] rfl rfl rfl rfl rfl (wanted_none rfl) (r_loadA ta27 ti27 rfl rfl (fun w hw => (box_cells (i := 0) rfl w hw))) ?_
            refine K.q [0, 1] rfl rfl rfl rfl rfl (wanted_none rfl) (r_loadA ta27 ti27 rfl rfl (fun w hw => (box_cells (i := 0) rfl w hw))) ?_
            refine K.qc [0, 1] rfl rfl rfl rfl rfl (wanted_none rfl) (q_callF (xs := _) rfl ok39 rfl rfl (fun w hw => spec_l12Record.ok h55 w )) ?_
            refine K.q [0, 1] rfl rfl rfl rfl rfl (wanted_none rfl) (r_move rfl) ?_
            refine K.q [0, 1] rfl rfl rfl rfl rfl (wg rfl rfl rfl g56) (r_move rfl) ?_
            refine K.q [0, 1] rfl rfl rfl rfl rfl (wg rfl rfl rfl g56) (r_loadA ta27 ti27 rfl rfl (fun w hw => (box_cells (i := 0) rfl w hw))) ?_
            refine K.qc [0, 1] rfl rfl rfl rfl rfl (wg rfl rfl rfl g56) (q_callF (xs := _) rfl ok40 rfl rfl (fun w hw => spec_l12Line.ok h59 w )) ?_
            refine K.q [0, 1] rfl rfl rfl rfl rfl (wg rfl rfl rfl g56) (r_move rfl) ?_
            refine K.q [0, 1] rfl rfl rfl rfl rfl (wg rfl rfl rfl g56) (r_addS rfl rfl hs61) ?_
            refine K.q [0, 1] rfl rfl rfl rfl rfl (wg rfl rfl rfl g56) (r_eqlS rfl rfl) ?_
            refine K.q [0, 1] rfl rfl rfl rfl rfl (wanted_none rfl) (r_pick rfl rfl g56) ?_
            refine B.ef0 rfl rfl (wanted_none rfl) (d_storeG0 (i := 2) (cs2 := [.string t38, .string t51]) ti27 rfl rfl rfl rfl rfl (Nat.le_of_ble_eq_true rfl) (lf_cons rfl (lf_cons rfl lf_nil))) (by rintro _ _ ⟨rfl, rfl⟩; exact upd rfl [0, 1] rfl rfl) ?_
            rintro _ _ ⟨rfl, rfl⟩
            refine B.nil ?_
            refine F.q rfl rfl rfl (wanted_none rfl) (r_assign rfl) ?_
            refine F.nil ?_
            cases hE_2
            refine Nrm.only [4, 5] rfl ?_
            refine Nrm.pick [2] rfl rfl ?_
            exact hj_2 _ _ ⟨rfl, rfl⟩
          · replace hE_2 := if_ff g56 hE_2
            refine Tri.drawK (B := Sep w noM [R.box b10_1 27 [.string t38, .string t51], R.sl S37_1 v37_1 (t37 : List (ByteArray))]) mixedT Sep.up [(0, true), (1, true), (2, true), (3, true), (4, true), (5, true), (6, true), (7, true), (8, true), (9, true), (10, true), (11, false)] [12] (by kernel_rfl) ?_
            refine K.q [0, 1] rfl rfl rfl rfl rfl (wanted_none rfl) (r_loadA ta27 ti27 rfl rfl (fun w hw => (box_cells (i := 0) rfl w hw))) ?_
            refine K.q [0, 1] rfl rfl rfl rfl rfl (wanted_none rfl) (r_loadA ta27 ti27 rfl rfl (fun w hw => (box_cells (i := 0) rfl w hw))) ?_
            refine K.qc [0, 1] rfl rfl rfl rfl rfl (wanted_none rfl) (q_callF (xs := _) rfl ok39 rfl rfl (fun w hw => spec_l12Record.ok h55 w )) ?_
            refine K.q [0, 1] rfl rfl rfl rfl rfl (wanted_none rfl) (r_move rfl) ?_
            refine K.sk [0, 1] rfl rfl rfl rfl rfl (wf rfl rfl rfl g56) ?_
            refine K.sk [0, 1] rfl rfl rfl rfl rfl (wf rfl rfl rfl g56) ?_
            refine K.sk [0, 1] rfl rfl rfl rfl rfl (wf rfl rfl rfl g56) ?_
            refine K.sk [0, 1] rfl rfl rfl rfl rfl (wf rfl rfl rfl g56) ?_
            refine K.sk [0, 1] rfl rfl rfl rfl rfl (wf rfl rfl rfl g56) ?_
            refine K.sk [0, 1] rfl rfl rfl rfl rfl (wf rfl rfl rfl g56) ?_
            refine K.q [0, 1] rfl rfl rfl rfl rfl (wanted_none rfl) (r_pickf rfl rfl g56) ?_
            refine B.ef0 rfl rfl (wanted_none rfl) (d_storeG0 (i := 2) (cs2 := [.string t38, .string t51]) ti27 rfl rfl rfl rfl rfl (Nat.le_of_ble_eq_true rfl) (lf_cons rfl (lf_cons rfl lf_nil))) (by rintro _ _ ⟨rfl, rfl⟩; exact upd rfl [0, 1] rfl rfl) ?_
            rintro _ _ ⟨rfl, rfl⟩
            refine B.nil ?_
            refine F.q rfl rfl rfl (wanted_none rfl) (r_assign rfl) ?_
            refine F.nil ?_
            cases hE_2
            refine Nrm.only [4, 5] rfl ?_
            refine Nrm.pick [2] rfl rfl ?_
            exact hj_2 _ _ ⟨rfl, rfl⟩
  · rcases Bool.eq_false_or_eq_true (decide ((t16.size : Int) < ((t12 ++ (ByteArray.mk #[32])).size : Int))) with g23 | g23
    · replace hE_1 := if_tt g23 hE_1
      refine Tri.reg (l := [0, 1, 2, 3, 4, 5, 6, 7, 8, 9, 10, 11, 12]) rfl ?_
      refine F.q rfl rfl rfl (wanted_none rfl) (r_move rfl) ?_
      refine F.q rfl rfl rfl (wanted_none rfl) (r_lenS Tryd.underlying9 rfl) ?_
      refine F.q rfl rfl rfl (wanted_none rfl) (r_move rfl) ?_
      refine F.q rfl rfl rfl (wanted_none rfl) (r_lenS Tryd.underlying9 rfl) ?_
      refine F.q rfl rfl rfl (wanted_none rfl) (r_lss rfl rfl) ?_
      refine F.q rfl rfl rfl (wanted_none rfl) (r_move rfl) ?_
      refine F.sk rfl rfl rfl (wf rfl rfl rfl g23) ?_
      refine F.sk rfl rfl rfl (wf rfl rfl rfl g23) ?_
      refine F.sk rfl rfl rfl (wf rfl rfl rfl g23) ?_
      refine F.sk rfl rfl rfl (wf rfl rfl rfl g23) ?_
      refine F.sk rfl rfl rfl (wf rfl rfl rfl g23) ?_
      refine F.sk rfl rfl rfl (wf rfl rfl rfl g23) ?_
      refine F.q rfl rfl rfl (wanted_none rfl) (r_pick rfl rfl g23) ?_
      refine F.nil ?_
      cases hE_1
      refine Nrm.only [0, 1, 4, 6, 7, 30] rfl ?_
      refine Nrm.pick [1] rfl rfl ?_
      exact hj_1 _ _ ⟨rfl, rfl⟩
    · replace hE_1 := if_ff g23 hE_1
      obtain ⟨t27, h27, hE_1⟩ := bind_some hE_1
      refine Tri.reg (l := [0, 1, 2, 3, 4, 5, 6, 7, 8, 9, 10, 11, 12]) rfl ?_
      refine F.q rfl rfl rfl (wanted_none rfl) (r_move rfl) ?_
      refine F.q rfl rfl rfl (wanted_none rfl) (r_lenS Tryd.underlying9 rfl) ?_
      refine F.q rfl rfl rfl (wanted_none rfl) (r_move rfl) ?_
      refine F.q rfl rfl rfl (wanted_none rfl) (r_lenS Tryd.underlying9 rfl) ?_
      refine F.q rfl rfl rfl (wanted_none rfl) (r_lss rfl rfl) ?_
      refine F.q rfl rfl rfl (wanted_none rfl) (r_move rfl) ?_
      refine F.q rfl rfl rfl (wg rfl rfl rfl g23) (r_move rfl) ?_
      refine F.q rfl rfl rfl (wg rfl rfl rfl g23) (r_move rfl) ?_
      refine F.q rfl rfl rfl (wg rfl rfl rfl g23) (r_lenS Tryd.underlying9 rfl) ?_
      refine F.q rfl rfl rfl (wg rfl rfl rfl g23) (r_scutH Tryd.underlying9 rfl rfl h27) ?_
      refine F.q rfl rfl rfl (wg rfl rfl rfl g23) (r_move rfl) ?_
      refine F.q rfl rfl rfl (wg rfl rfl rfl g23) (r_neqS rfl rfl) ?_
      refine F.q rfl rfl rfl (wanted_none rfl) (r_pickf rfl rfl g23) ?_
      refine F.nil ?_
      cases hE_1
      refine Nrm.only [0, 1, 4, 6, 7, 30] rfl ?_
      refine Nrm.pick [1] rfl rfl ?_
      exact hj_1 _ _ ⟨rfl, rfl⟩

end Go.Proofs

/- loop.example/g01158/spec.l12Open -/
namespace Go.Proofs
open Go Go.Ga
set_option linter.unusedVariables false
set_option maxRecDepth 100000
set_option maxHeartbeats 4000000
def spec_l12Open.l0 (k : Nat) (a0 : ByteArray) : Nat → (List (ByteArray × ByteArray)) → Int → Option ((List (ByteArray × ByteArray)) × Int)
  | 0, _, _ => none
  | n + 1, x4, x5 => ((if (decide (x5 < (a0.size : Int))) = true then some (decide ((x4.length : Int) < 60)) else some false)).bind fun y18 => (if y18 = true then (scut a0 x5 (a0.size : Int)).bind fun t21 => (spec_l1Split.f k t21 10).bind fun t22 => (rdl t22 0).bind fun t25 => (spec_l12Decode.f k t25 (x4.length : Int)).bind fun (t29_1, t29_2, t29_3) => ((if (decide ((t22.length : Int) < 2)) = true then some true else some (!t29_3))).bind fun y38 => (if y38 = true then some (x4, x5) else if (x4 ++ ([(t29_1, t29_2)] : List (ByteArray × ByteArray))).length < 1099511627776 then (rdl t22 0).bind fun t45 => spec_l12Open.l0 k a0 n (x4 ++ ([(t29_1, t29_2)] : List (ByteArray × ByteArray))) (w64 ((w64 (x5 + (t45.size : Int))) + 1)) else none) else some (x4, x5))

def spec_l12Open.f (k : Nat) (a0 : ByteArray) : Option ((List (ByteArray × ByteArray)) × Int) := (spec_l12Open.l0 k a0 k ([] : List (ByteArray × ByteArray)) 0).bind fun (y4, y5) => some (y4, y5)

theorem spec_l12Open.ok {k : Nat}  {a0 : ByteArray} {r0 : List (ByteArray × ByteArray)} {r1 : Int} (h : spec_l12Open.f k a0 = some (r0, r1)) (w : World) :
    Calls Tryd.prog 45 ([.string a0] : List Value).toArray w (Post (fun u ns => ∃ (ur0 : Value) (Sr0 : Nat → Prop), u = .tuple #[ur0, .int .i64 r1] ∧ SlLen ur0 r0.length ∧ ns = [R.sl Sr0 ur0 r0]) w) := by
  unfold spec_l12Open.f at h
  refine Calls.of_tri (N := 52) Tryd.func45 rfl rfl rfl (Sep.nil (M := noM)) ?_
  refine Tri.seq ?_
  refine Tri.reg (l := [0, 1]) rfl ?_
  refine F.q rfl rfl rfl (wanted_none rfl) (r_assign rfl) ?_
  refine F.q rfl rfl rfl (wanted_none rfl) (r_assign rfl) ?_
  refine F.nil ?_
  refine Nrm.seq ?_
  refine Tri.seq ?_
  refine Tri.reg (l := [0, 1]) rfl ?_
  refine F.m rfl rfl rfl (wanted_none rfl) (m_build0 (α := ByteArray × ByteArray) Tryd.underlying48 ti27) ?_
  rintro v9_1 _ ⟨S9_1, hl_v9_1, rfl⟩
  refine F.q rfl rfl rfl (wanted_none rfl) (r_assign rfl) ?_
  refine F.nil ?_
  refine Nrm.seq ?_
  refine Tri.seq ?_
  refine Tri.reg (l := [0]) rfl ?_
  refine F.q rfl rfl rfl (wanted_none rfl) (r_assign rfl) ?_
  refine F.nil ?_
  refine Nrm.seq ?_
  refine Tri.seq ?_
  obtain ⟨⟨y4, y5⟩, hE_1, h⟩ := bind_some h
  refine Tri.cut (fun e' C' => ∃ (v4_1 : Value) (S4_1 : Nat → Prop), SlLen v4_1 (y4).length ∧ e' = [(4, v4_1), (5, .int .i64 y5)] ∧ C' = Sep w noM [R.sl S4_1 v4_1 (y4 : List (ByteArray × ByteArray))]) ?_ (fun hj_1 => ?_)
  · rintro _ _ ⟨v4_1, S4_1, hl_v4_1, rfl, rfl⟩
    refine Nrm.seq ?_
    refine Tri.seq ?_
    refine Tri.reg (l := [0, 1, 2, 3]) rfl ?_
    refine F.q rfl rfl rfl (wanted_none rfl) (r_move rfl) ?_
    refine F.q rfl rfl rfl (wanted_none rfl) (r_move rfl) ?_
    refine F.q rfl rfl rfl (wanted_none rfl) (r_assign rfl) ?_
    refine F.q rfl rfl rfl (wanted_none rfl) (r_assign rfl) ?_
    refine F.nil ?_
    refine Nrm.seq ?_
    refine Tri.ret ?_
    cases h
    exact Rtn.body (.tmp rfl (.tmp rfl .nil)) (fun w hw => ⟨_, _, rfl, ⟨v4_1, S4_1, rfl, hl_v4_1, rfl⟩, Sep.pick (is := [0]) rfl rfl hw⟩)
  · refine Tri.block ?_
    refine Tri.only [0, 4, 5] rfl ?_
    refine Tri.pick [0] rfl rfl ?_
    refine Tri.rounds (fun n e' C' => ∃ (x4' : List (ByteArray × ByteArray)) (x5' : Int) (w4 : Value) (T4 : Nat → Prop), spec_l12Open.l0 k a0 n x4' x5' = some (y4, y5) ∧ SlLen w4 (x4').length ∧ e' = [(0, .string a0), (4, w4), (5, .int .i64 x5')] ∧ C' = Sep w noM [R.sl T4 w4 (x4' : List (ByteArray × ByteArray))]) k ?_ ?_ ?_
    · exact ⟨([] : List (ByteArray × ByteArray)), 0, v9_1, S9_1, hE_1, hl_v9_1, rfl, rfl⟩
    · rintro _ _ ⟨_, _, _, _, hE_2, _⟩
      rw [spec_l12Open.l0.eq_1] at hE_2; cases hE_2
    · rintro n_1 _ _ ⟨x4, x5, w4, T4, hE_2, hl_w4, rfl, rfl⟩ ih_1
      rw [spec_l12Open.l0.eq_2] at hE_2
      refine Tri.seq ?_
      refine Tri.seq ?_
      obtain ⟨y18, hE_3, hE_2⟩ := bind_some hE_2
      refine Tri.cut (fun e' C' => e' = [(0, .string a0), (4, w4), (5, .int .i64 x5), (18, .bool y18)] ∧ C' = Sep w noM [R.sl T4 w4 (x4 : List (ByteArray × ByteArray))]) ?_ (fun hj_2 => ?_)
      · rintro _ _ ⟨rfl, rfl⟩
        refine Nrm.seq ?_
        refine Tri.cond (b := y18) rfl (fun g_1 => ?_) (fun g_1 => ?_)
        · replace hE_2 := if_tt g_1 hE_2
          refine Tri.skip ?_
          refine Nrm.seq ?_
          refine Tri.block ?_
          refine Tri.seq ?_
          obtain ⟨t21, h21, hE_2⟩ := bind_some hE_2
          obtain ⟨t22, h22, hE_2⟩ := bind_some hE_2
          refine Tri.reg (l := [0, 1, 2, 3, 4]) rfl ?_
          refine F.q rfl rfl rfl (wanted_none rfl) (r_move rfl) ?_
          refine F.q rfl rfl rfl (wanted_none rfl) (r_move rfl) ?_
          refine F.q rfl rfl rfl (wanted_none rfl) (r_scutL Tryd.underlying9 rfl rfl h21) ?_
          refine F.m rfl rfl rfl (wanted_none rfl) (m_callF (xs := _) rfl ok65 rfl rfl (fun w hw => spec_l1Split.ok h22 w )) ?_
          rintro v22_1 _ ⟨_, ⟨S22_1, hl_v22_1, rfl⟩, rfl⟩
          refine F.q rfl rfl rfl (wanted_none rfl) (r_assign rfl) ?_
          refine F.nil ?_
          refine Nrm.seq ?_
          refine Tri.seq ?_
          obtain ⟨t25, h25, hE_2⟩ := bind_some hE_2
          obtain ⟨⟨t29_1, t29_2, t29_3⟩, h29, hE_2⟩ := bind_some hE_2
          refine Tri.reg (l := [0, 1, 2, 3, 4, 5, 6, 7, 8, 9, 10, 11]) rfl ?_
          refine F.q rfl rfl rfl (wanted_none rfl) (r_move rfl) ?_
          refine F.q rfl rfl rfl (wanted_none rfl) (r_indexAddrS Tryd.underlying92 ti9 rfl hl_v22_1 rfl (rdl_some h25).1 (rdl_some h25).2.1) ?_
          refine F.q rfl rfl rfl (wanted_none rfl) (r_load ta9 rfl (fun w hw => cell_0 (Rd.flat ((rd_sl (i := 0) rfl) w hw) (rdl_some h25).2.2) rfl)) ?_
          refine F.q rfl rfl rfl (wanted_none rfl) (r_move rfl) ?_
          refine F.q rfl rfl rfl (wanted_none rfl) (r_len Tryd.underlying48 rfl hl_w4) ?_
          refine F.qc rfl rfl rfl (wanted_none rfl) (q_callF (xs := _) rfl ok66 rfl rfl (fun w hw => spec_l12Decode.ok h29 w )) ?_
          refine F.q rfl rfl rfl (wanted_none rfl) (r_move rfl) ?_
          refine F.q rfl rfl rfl (wanted_none rfl) (r_extract rfl rfl) ?_
          refine F.q rfl rfl rfl (wanted_none rfl) (r_extract rfl rfl) ?_
          refine F.m rfl rfl rfl (wanted_none rfl) (m_alloc ti27) ?_
          rintro _ _ ⟨b7_1, rfl, rfl⟩
          refine F.ef0 rfl rfl (wanted_none rfl) (d_storeG0 (i := 0) (cs2 := [.string t29_1, .string t29_2]) ti27 rfl rfl rfl rfl rfl (Nat.le_of_ble_eq_true rfl) (lf_cons rfl (lf_cons rfl lf_nil))) ?_
          rintro _ _ ⟨rfl, rfl⟩
          refine F.q rfl rfl rfl (wanted_none rfl) (r_assign rfl) ?_
          refine F.nil ?_
          refine Nrm.seq ?_
          refine Tri.seq ?_
          refine Tri.seq ?_
          obtain ⟨y38, hE_4, hE_2⟩ := bind_some hE_2
          refine Tri.cut (fun e' C' => e' = [(0, .string a0), (4, w4), (5, .int .i64 x5), (6, v22_1), (7, .pointer (some ⟨b7_1, 0, none⟩)), (38, .bool y38)] ∧ C' = Sep w noM [R.box b7_1 27 [.string t29_1, .string t29_2], R.sl S22_1 v22_1 (t22 : List (ByteArray)), R.sl T4 w4 (x4 : List (ByteArray × ByteArray))]) ?_ (fun hj_3 => ?_)
          · rintro _ _ ⟨rfl, rfl⟩
            refine Nrm.seq ?_
            refine Tri.cond (b := y38) rfl (fun g_2 => ?_) (fun g_2 => ?_)
            · replace hE_2 := if_tt g_2 hE_2
              refine Tri.exit ?_
              refine Exi.then ?_
              refine Exi.other rfl ?_
              refine Exi.then ?_
              refine Exi.same ?_
              cases hE_2
              refine Nrm.only [4, 5] rfl ?_
              refine Nrm.pick [2] rfl rfl ?_
              exact hj_1 _ _ ⟨w4, T4, hl_w4, rfl, rfl⟩
            · replace hE_2 := if_ff g_2 hE_2
              refine Tri.skip ?_
              refine Nrm.seq ?_
              refine Tri.seq ?_
              obtain ⟨hs42, hE_2⟩ := ck hE_2
              refine Tri.reg (l := [0, 1, 2, 3, 4]) rfl ?_
              refine F.q rfl rfl rfl (wanted_none rfl) (r_move rfl) ?_
              refine F.q rfl rfl rfl (wanted_none rfl) (r_loadA ta27 ti27 rfl rfl (fun w hw => (box_cells (i := 0) rfl w hw))) ?_
              refine F.m rfl rfl rfl (wanted_none rfl) (m_buildF (l := ([(t29_1, t29_2)] : List (ByteArray × ByteArray))) Tryd.underlying48 ti27 rfl rfl rfl rfl rfl) ?_
              rintro v41_1 _ ⟨S41_1, hl_v41_1, rfl⟩
              refine F.ef rfl rfl rfl (wanted_none rfl) (d_append (i := 3) Tryd.underlying48 Tryd.underlying48 ti27 rfl (by decide) rfl rfl rfl (rd_sl (i := 0) rfl) hs42) ?_
              rintro v42_1 _ ⟨S42_1, rfl, hl_v42_1⟩
              refine F.q rfl rfl rfl (wanted_none rfl) (r_assign rfl) ?_
              refine F.nil ?_
              refine Nrm.seq ?_
              obtain ⟨t45, h45, hE_2⟩ := bind_some hE_2
              refine Tri.reg (l := [0, 1, 2, 3, 4, 5, 6, 7]) rfl ?_
              refine F.q rfl rfl rfl (wanted_none rfl) (r_move rfl) ?_
              refine F.q rfl rfl rfl (wanted_none rfl) (r_move rfl) ?_
              refine F.q rfl rfl rfl (wanted_none rfl) (r_indexAddrS Tryd.underlying92 ti9 rfl hl_v22_1 rfl (rdl_some h45).1 (rdl_some h45).2.1) ?_
              refine F.q rfl rfl rfl (wanted_none rfl) (r_load ta9 rfl (fun w hw => cell_0 (Rd.flat ((rd_sl (i := 2) rfl) w hw) (rdl_some h45).2.2) rfl)) ?_
              refine F.q rfl rfl rfl (wanted_none rfl) (r_lenS Tryd.underlying9 rfl) ?_
              refine F.q rfl rfl rfl (wanted_none rfl) (r_add rfl rfl) ?_
              refine F.q rfl rfl rfl (wanted_none rfl) (r_add rfl rfl) ?_
              refine F.q rfl rfl rfl (wanted_none rfl) (r_assign rfl) ?_
              refine F.nil ?_
              refine Nrm.block ?_
              refine Nrm.round ?_
              refine Rnd.only [0, 4, 5] rfl ?_
              refine Rnd.pick [3] rfl rfl ?_
              exact ih_1 _ _ ⟨x4 ++ ([(t29_1, t29_2)] : List (ByteArray × ByteArray)), w64 ((w64 (x5 + (t45.size : Int))) + 1), v42_1, S42_1, hE_2, hl_v42_1, rfl, rfl⟩
          · rcases Bool.eq_false_or_eq_true (decide ((t22.length : Int) < 2)) with g35 | g35
            · replace hE_4 := if_tt g35 hE_4
              refine Tri.reg (l := [0, 1, 2, 3, 4, 5, 6]) rfl ?_
              refine F.q rfl rfl rfl (wanted_none rfl) (r_move rfl) ?_
              refine F.q rfl rfl rfl (wanted_none rfl) (r_len Tryd.underlying92 rfl hl_v22_1) ?_
              refine F.q rfl rfl rfl (wanted_none rfl) (r_lss rfl rfl) ?_
              refine F.q rfl rfl rfl (wanted_none rfl) (r_move rfl) ?_
              refine F.sk rfl rfl rfl (wf rfl rfl rfl g35) ?_
              refine F.sk rfl rfl rfl (wf rfl rfl rfl g35) ?_
              refine F.q rfl rfl rfl (wanted_none rfl) (r_pick rfl rfl g35) ?_
              refine F.nil ?_
              cases hE_4
              refine Nrm.only [0, 4, 5, 6, 7, 38] rfl ?_
              refine Nrm.pick [0, 1, 2] rfl rfl ?_
              exact hj_3 _ _ ⟨rfl, rfl⟩
            · replace hE_4 := if_ff g35 hE_4
              refine Tri.reg (l := [0, 1, 2, 3, 4, 5, 6]) rfl ?_
              refine F.q rfl rfl rfl (wanted_none rfl) (r_move rfl) ?_
              refine F.q rfl rfl rfl (wanted_none rfl) (r_len Tryd.underlying92 rfl hl_v22_1) ?_
              refine F.q rfl rfl rfl (wanted_none rfl) (r_lss rfl rfl) ?_
              refine F.q rfl rfl rfl (wanted_none rfl) (r_move rfl) ?_
              refine F.q rfl rfl rfl (wg rfl rfl rfl g35) (r_move rfl) ?_
              refine F.q rfl rfl rfl (wg rfl rfl rfl g35) (r_not rfl) ?_
              refine F.q rfl rfl rfl (wanted_none rfl) (r_pickf rfl rfl g35) ?_
              refine F.nil ?_
              cases hE_4
              refine Nrm.only [0, 4, 5, 6, 7, 38] rfl ?_
              refine Nrm.pick [0, 1, 2] rfl rfl ?_
              exact hj_3 _ _ ⟨rfl, rfl⟩
        · replace hE_2 := if_ff g_1 hE_2
          refine Tri.exit ?_
          refine Exi.then ?_
          refine Exi.then ?_
          refine Exi.same ?_
          cases hE_2
          refine Nrm.only [4, 5] rfl ?_
          refine Nrm.pick [0] rfl rfl ?_
          exact hj_1 _ _ ⟨w4, T4, hl_w4, rfl, rfl⟩
      · rcases Bool.eq_false_or_eq_true (decide (x5 < (a0.size : Int))) with g14 | g14
        · replace hE_3 := if_tt g14 hE_3
          refine Tri.reg (l := [0, 1, 2, 3, 4, 5, 6, 7, 8]) rfl ?_
          refine F.q rfl rfl rfl (wanted_none rfl) (r_move rfl) ?_
          refine F.q rfl rfl rfl (wanted_none rfl) (r_move rfl) ?_
          refine F.q rfl rfl rfl (wanted_none rfl) (r_lenS Tryd.underlying9 rfl) ?_
          refine F.q rfl rfl rfl (wanted_none rfl) (r_lss rfl rfl) ?_
          refine F.q rfl rfl rfl (wanted_none rfl) (r_move rfl) ?_
          refine F.q rfl rfl rfl (wg rfl rfl rfl g14) (r_move rfl) ?_
          refine F.q rfl rfl rfl (wg rfl rfl rfl g14) (r_len Tryd.underlying48 rfl hl_w4) ?_
          refine F.q rfl rfl rfl (wg rfl rfl rfl g14) (r_lss rfl rfl) ?_
          refine F.q rfl rfl rfl (wanted_none rfl) (r_pick rfl rfl g14) ?_
          refine F.nil ?_
          cases hE_3
          refine Nrm.only [0, 4, 5, 18] rfl ?_
          refine Nrm.pick [0] rfl rfl ?_
          exact hj_2 _ _ ⟨rfl, rfl⟩
        · replace hE_3 := if_ff g14 hE_3
          refine Tri.reg (l := [0, 1, 2, 3, 4, 5, 6, 7, 8]) rfl ?_
          refine F.q rfl rfl rfl (wanted_none rfl) (r_move rfl) ?_
          refine F.q rfl rfl rfl (wanted_none rfl) (r_move rfl) ?_
          refine F.q rfl rfl rfl (wanted_none rfl) (r_lenS Tryd.underlying9 rfl) ?_
          refine F.q rfl rfl rfl (wanted_none rfl) (r_lss rfl rfl) ?_
          refine F.q rfl rfl rfl (wanted_none rfl) (r_move rfl) ?_
          refine F.sk rfl rfl rfl (wf rfl rfl rfl g14) ?_
          refine F.sk rfl rfl rfl (wf rfl rfl rfl g14) ?_
          refine F.sk rfl rfl rfl (wf rfl rfl rfl g14) ?_
          refine F.q rfl rfl rfl (wanted_none rfl) (r_pickf rfl rfl g14) ?_
          refine F.nil ?_
          cases hE_3
          refine Nrm.only [0, 4, 5, 18] rfl ?_
          refine Nrm.pick [0] rfl rfl ?_
          exact hj_2 _ _ ⟨rfl, rfl⟩

end Go.Proofs

/- loop.example/g01158/spec.l12Valid -/
namespace Go.Proofs
open Go Go.Ga
set_option linter.unusedVariables false
set_option maxRecDepth 100000
set_option maxHeartbeats 4000000
def spec_l12Valid.f (k : Nat) (a0_0 : ByteArray) (a0_1 : ByteArray) (a0_2 : Int) : Option (Bool) := (if (decide ((w64 ((a0_0.size : Int) + (a0_1.size : Int))) > 30000)) = true then some false else if (a0_0 ++ a0_1).size < 4611686018427387904 then (spec_l12Open.f k (a0_0 ++ a0_1)).bind fun (t21_1, t21_2) => (spec_l12Open.f k a0_0).bind fun (t27_1, t27_2) => ((if (t21_2 == (w64 ((a0_0.size : Int) + (a0_1.size : Int)))) = true then (if (t27_2 == (a0_0.size : Int)) = true then some ((t21_1.length : Int) == a0_2) else some false) else some false)).bind fun y2 => some y2 else none)

theorem spec_l12Valid.ok {k : Nat}  {a0_0 : ByteArray} {a0_1 : ByteArray} {a0_2 : Int} {r0 : Bool} (h : spec_l12Valid.f k a0_0 a0_1 a0_2 = some r0) (w : World) :
    Calls Tryd.prog 47 ([.agg ([.string a0_0, .string a0_1, .int .i64 a0_2].toArray)] : List Value).toArray w (fun e w' => e = .returned (.bool r0) ∧ Ext w w') := by
  unfold spec_l12Valid.f at h
  refine Calls.of_tri (N := 53) Tryd.func47 rfl rfl rfl (Sep.nil (M := noM)) ?_
  refine Tri.seq ?_
  refine Tri.reg (l := [0, 1]) rfl ?_
  refine F.m rfl rfl rfl (wanted_none rfl) (m_boxG rfl rfl) ?_
  rintro _ _ ⟨b1_1, rfl, rfl⟩
  refine F.q rfl rfl rfl (wanted_none rfl) (r_assign rfl) ?_
  refine F.nil ?_
  refine Nrm.seq ?_
  refine Tri.seq ?_
  refine Tri.seq ?_
  refine Tri.reg (l := [0, 1, 2, 3, 4, 5, 6, 7]) rfl ?_
  refine F.q rfl rfl rfl (wanted_none rfl) (r_fieldAddr tf31_0 rfl) ?_
  refine F.q rfl rfl rfl (wanted_none rfl) (r_load ta9 rfl (fun w hw => cell_1 (box_cells (i := 0) rfl w hw) rfl)) ?_
  refine F.q rfl rfl rfl (wanted_none rfl) (r_lenS Tryd.underlying9 rfl) ?_
  refine F.q rfl rfl rfl (wanted_none rfl) (r_fieldAddr tf31_1 rfl) ?_
  refine F.q rfl rfl rfl (wanted_none rfl) (r_load ta9 rfl (fun w hw => cell_1 (box_cells (i := 0) rfl w hw) rfl)) ?_
  refine F.q rfl rfl rfl (wanted_none rfl) (r_lenS Tryd.underlying9 rfl) ?_
  refine F.q rfl rfl rfl (wanted_none rfl) (r_add rfl rfl) ?_
  refine F.q rfl rfl rfl (wanted_none rfl) (r_gtr rfl rfl) ?_
  refine F.nil ?_
  refine Nrm.seq ?_
  refine Tri.cond (b := decide ((w64 ((a0_0.size : Int) + (a0_1.size : Int))) > 30000)) rfl (fun g_1 => ?_) (fun g_1 => ?_)
  · replace h := if_tt g_1 h
    refine Tri.seq ?_
    refine Tri.reg (l := [0]) rfl ?_
    refine F.q rfl rfl rfl (wanted_none rfl) (r_assign rfl) ?_
    refine F.nil ?_
    refine Nrm.seq ?_
    refine Tri.ret ?_
    refine Rtn.then ?_
    cases h
    exact Rtn.body (.tmp rfl .nil) (fun w hw => ⟨rfl, hw.ext⟩)
  · replace h := if_ff g_1 h
    refine Tri.skip ?_
    refine Nrm.seq ?_
    refine Tri.seq ?_
    obtain ⟨hs20, h⟩ := ck h
    obtain ⟨⟨t21_1, t21_2⟩, h21, h⟩ := bind_some h
    refine Tri.reg (l := [0, 1, 2, 3, 4, 5, 6, 7, 8, 9, 10]) rfl ?_
    refine F.q rfl rfl rfl (wanted_none rfl) (r_fieldAddr tf31_0 rfl) ?_
    refine F.q rfl rfl rfl (wanted_none rfl) (r_load ta9 rfl (fun w hw => cell_1 (box_cells (i := 0) rfl w hw) rfl)) ?_
    refine F.q rfl rfl rfl (wanted_none rfl) (r_fieldAddr tf31_1 rfl) ?_
    refine F.q rfl rfl rfl (wanted_none rfl) (r_load ta9 rfl (fun w hw => cell_1 (box_cells (i := 0) rfl w hw) rfl)) ?_
    refine F.q rfl rfl rfl (wanted_none rfl) (r_addS rfl rfl hs20) ?_
    refine F.m rfl rfl rfl (wanted_none rfl) (m_callF (xs := _) rfl ok45 rfl rfl (fun w hw => spec_l12Open.ok h21 w )) ?_
    rintro _ _ ⟨_, ⟨v21_1, S21_1, rfl, hl_v21_1, rfl⟩, rfl⟩
    refine F.q rfl rfl rfl (wanted_none rfl) (r_move rfl) ?_
    refine F.q rfl rfl rfl (wanted_none rfl) (r_extract rfl rfl) ?_
    refine F.q rfl rfl rfl (wanted_none rfl) (r_extract rfl rfl) ?_
    refine F.q rfl rfl rfl (wanted_none rfl) (r_assign rfl) ?_
    refine F.q rfl rfl rfl (wanted_none rfl) (r_assign rfl) ?_
    refine F.nil ?_
    refine Nrm.seq ?_
    refine Tri.seq ?_
    obtain ⟨⟨t27_1, t27_2⟩, h27, h⟩ := bind_some h
    refine Tri.reg (l := [0, 1, 2, 3, 4, 5, 6, 7]) rfl ?_
    refine F.q rfl rfl rfl (wanted_none rfl) (r_fieldAddr tf31_0 rfl) ?_
    refine F.q rfl rfl rfl (wanted_none rfl) (r_load ta9 rfl (fun w hw => cell_1 (box_cells (i := 1) rfl w hw) rfl)) ?_
    refine F.m rfl rfl rfl (wanted_none rfl) (m_callF (xs := _) rfl ok45 rfl rfl (fun w hw => spec_l12Open.ok h27 w )) ?_
    rintro _ _ ⟨_, ⟨v27_1, S27_1, rfl, hl_v27_1, rfl⟩, rfl⟩
    refine F.q rfl rfl rfl (wanted_none rfl) (r_move rfl) ?_
    refine F.q rfl rfl rfl (wanted_none rfl) (r_extract rfl rfl) ?_
    refine F.q rfl rfl rfl (wanted_none rfl) (r_extract rfl rfl) ?_
    refine F.q rfl rfl rfl (wanted_none rfl) (r_assign rfl) ?_
    refine F.q rfl rfl rfl (wanted_none rfl) (r_assign rfl) ?_
    refine F.nil ?_
    refine Nrm.seq ?_
    refine Tri.seq ?_
    obtain ⟨y2, hE_1, h⟩ := bind_some h
    refine Tri.cut (fun e' C' => e' = [(2, .bool y2)] ∧ C' = Sep w noM []) ?_ (fun hj_1 => ?_)
    · rintro _ _ ⟨rfl, rfl⟩
      refine Nrm.seq ?_
      refine Tri.ret ?_
      cases h
      exact Rtn.body (.tmp rfl .nil) (fun w hw => ⟨rfl, hw.ext⟩)
    · rcases Bool.eq_false_or_eq_true (t21_2 == (w64 ((a0_0.size : Int) + (a0_1.size : Int)))) with g39 | g39
      · replace hE_1 := if_tt g39 hE_1
        rcases Bool.eq_false_or_eq_true (t27_2 == (a0_0.size : Int)) with g46 | g46
        · replace hE_1 := if_tt g46 hE_1
          refine Tri.reg (l := [0, 1, 2, 3, 4, 5, 6, 7, 8, 9, 10, 11, 12, 13, 14, 15, 16, 17, 18, 19, 20, 21, 22, 23]) rfl ?_
          refine F.q rfl rfl rfl (wanted_none rfl) (r_move rfl) ?_
          refine F.q rfl rfl rfl (wanted_none rfl) (r_fieldAddr tf31_0 rfl) ?_
          refine F.q rfl rfl rfl (wanted_none rfl) (r_load ta9 rfl (fun w hw => cell_1 (box_cells (i := 2) rfl w hw) rfl)) ?_
          refine F.q rfl rfl rfl (wanted_none rfl) (r_lenS Tryd.underlying9 rfl) ?_
          refine F.q rfl rfl rfl (wanted_none rfl) (r_fieldAddr tf31_1 rfl) ?_
          refine F.q rfl rfl rfl (wanted_none rfl) (r_load ta9 rfl (fun w hw => cell_1 (box_cells (i := 2) rfl w hw) rfl)) ?_
          refine F.q rfl rfl rfl (wanted_none rfl) (r_lenS Tryd.underlying9 rfl) ?_
          refine F.q rfl rfl rfl (wanted_none rfl) (r_add rfl rfl) ?_
          refine F.q rfl rfl rfl (wanted_none rfl) (r_eql rfl rfl) ?_
          refine F.q rfl rfl rfl (wanted_none rfl) (r_move rfl) ?_
          refine F.q rfl rfl rfl (wg rfl rfl rfl g39) (r_move rfl) ?_
          refine F.q rfl rfl rfl (wg rfl rfl rfl g39) (r_fieldAddr tf31_0 rfl) ?_
          refine F.q rfl rfl rfl (wg rfl rfl rfl g39) (r_load ta9 rfl (fun w hw => cell_1 (box_cells (i := 2) rfl w hw) rfl)) ?_
          refine F.q rfl rfl rfl (wg rfl rfl rfl g39) (r_lenS Tryd.underlying9 rfl) ?_
          refine F.q rfl rfl rfl (wg rfl rfl rfl g39) (r_eql rfl rfl) ?_
          refine F.q rfl rfl rfl (wanted_none rfl) (r_pick rfl rfl g39) ?_
          refine F.q rfl rfl rfl (wanted_none rfl) (r_move rfl) ?_
          refine F.q rfl rfl rfl (wg rfl rfl rfl g46) (r_move rfl) ?_
          refine F.q rfl rfl rfl (wg rfl rfl rfl g46) (r_len Tryd.underlying48 rfl hl_v21_1) ?_
          refine F.q rfl rfl rfl (wg rfl rfl rfl g46) (r_fieldAddr tf31_2 rfl) ?_
          refine F.q rfl rfl rfl (wg rfl rfl rfl g46) (r_load ta3 rfl (fun w hw => cell_1 (box_cells (i := 2) rfl w hw) rfl)) ?_
          refine F.q rfl rfl rfl (wg rfl rfl rfl g46) (r_eql rfl rfl) ?_
          refine F.q rfl rfl rfl (wanted_none rfl) (r_pick rfl rfl g46) ?_
          refine F.q rfl rfl rfl (wanted_none rfl) (r_assign rfl) ?_
          refine F.nil ?_
          cases hE_1
          refine Nrm.only [2] rfl ?_
          refine Nrm.pick [] rfl rfl ?_
          exact hj_1 _ _ ⟨rfl, rfl⟩
        · replace hE_1 := if_ff g46 hE_1
          refine Tri.reg (l := [0, 1, 2, 3, 4, 5, 6, 7, 8, 9, 10, 11, 12, 13, 14, 15, 16, 17, 18, 19, 20, 21, 22, 23]) rfl ?_
          refine F.q rfl rfl rfl (wanted_none rfl) (r_move rfl) ?_
          refine F.q rfl rfl rfl (wanted_none rfl) (r_fieldAddr tf31_0 rfl) ?_
          refine F.q rfl rfl rfl (wanted_none rfl) (r_load ta9 rfl (fun w hw => cell_1 (box_cells (i := 2) rfl w hw) rfl)) ?_
          refine F.q rfl rfl rfl (wanted_none rfl) (r_lenS Tryd.underlying9 rfl) ?_
          refine F.q rfl rfl rfl (wanted_none rfl) (r_fieldAddr tf31_1 rfl) ?_
          refine F.q rfl rfl rfl (wanted_none rfl) (r_load ta9 rfl (fun w hw => cell_1 (box_cells (i := 2) rfl w hw) rfl)) ?_
          refine F.q rfl rfl rfl (wanted_none rfl) (r_lenS Tryd.underlying9 rfl) ?_
          refine F.q rfl rfl rfl (wanted_none rfl) (r_add rfl rfl) ?_
          refine F.q rfl rfl rfl (wanted_none rfl) (r_eql rfl rfl) ?_
          refine F.q rfl rfl rfl (wanted_none rfl) (r_move rfl) ?_
          refine F.q rfl rfl rfl (wg rfl rfl rfl g39) (r_move rfl) ?_
          refine F.q rfl rfl rfl (wg rfl rfl rfl g39) (r_fieldAddr tf31_0 rfl) ?_
          refine F.q rfl rfl rfl (wg rfl rfl rfl g39) (r_load ta9 rfl (fun w hw => cell_1 (box_cells (i := 2) rfl w hw) rfl)) ?_
          refine F.q rfl rfl rfl (wg rfl rfl rfl g39) (r_lenS Tryd.underlying9 rfl) ?_
          refine F.q rfl rfl rfl (wg rfl rfl rfl g39) (r_eql rfl rfl) ?_
          refine F.q rfl rfl rfl (wanted_none rfl) (r_pick rfl rfl g39) ?_
          refine F.q rfl rfl rfl (wanted_none rfl) (r_move rfl) ?_
          refine F.sk rfl rfl rfl (wf rfl rfl rfl g46) ?_
          refine F.sk rfl rfl rfl (wf rfl rfl rfl g46) ?_
          refine F.sk rfl rfl rfl (wf rfl rfl rfl g46) ?_
          refine F.sk rfl rfl rfl (wf rfl rfl rfl g46) ?_
          refine F.sk rfl rfl rfl (wf rfl rfl rfl g46) ?_
          refine F.q rfl rfl rfl (wanted_none rfl) (r_pickf rfl rfl g46) ?_
          refine F.q rfl rfl rfl (wanted_none rfl) (r_assign rfl) ?_
          refine F.nil ?_
          cases hE_1
          refine Nrm.only [2] rfl ?_
          refine Nrm.pick [] rfl rfl ?_
          exact hj_1 _ _ ⟨rfl, rfl⟩
      · replace hE_1 := if_ff g39 hE_1
        refine Tri.reg (l := [0, 1, 2, 3, 4, 5, 6, 7, 8, 9, 10, 11, 12, 13, 14, 15, 16, 17, 18, 19, 20, 21, 22, 23]) rfl ?_
        refine F.q rfl rfl rfl (wanted_none rfl) (r_move rfl) ?_
        refine F.q rfl rfl rfl (wanted_none rfl) (r_fieldAddr tf31_0 rfl) ?_
        refine F.q rfl rfl rfl (wanted_none rfl) (r_load ta9 rfl (fun w hw => cell_1 (box_cells (i := 2) rfl w hw) rfl)) ?_
        refine F.q rfl rfl rfl (wanted_none rfl) (r_lenS Tryd.underlying9 rfl) ?_
        refine F.q rfl rfl rfl (wanted_none rfl) (r_fieldAddr tf31_1 rfl) ?_
        refine F.q rfl rfl rfl (wanted_none rfl) (r_load ta9 rfl (fun w hw => cell_1 (box_cells (i := 2) rfl w hw) rfl)) ?_
        refine F.q rfl rfl rfl (wanted_none rfl) (r_lenS Tryd.underlying9 rfl) ?_
        refine F.q rfl rfl rfl (wanted_none rfl) (r_add rfl rfl) ?_
        refine F.q rfl rfl rfl (wanted_none rfl) (r_eql rfl rfl) ?_
        refine F.q rfl rfl rfl (wanted_none rfl) (r_move rfl) ?_
        refine F.sk rfl rfl rfl (wf rfl rfl rfl g39) ?_
        refine F.sk rfl rfl rfl (wf rfl rfl rfl g39) ?_
        refine F.sk rfl rfl rfl (wf rfl rfl rfl g39) ?_
        refine F.sk rfl rfl rfl (wf rfl rfl rfl g39) ?_
        refine F.sk rfl rfl rfl (wf rfl rfl rfl g39) ?_
        refine F.q rfl rfl rfl (wanted_none rfl) (r_pickf rfl rfl g39) ?_
        refine F.q rfl rfl rfl (wanted_none rfl) (r_move rfl) ?_
        refine F.sk rfl rfl rfl (wf rfl rfl rfl rfl) ?_
        refine F.sk rfl rfl rfl (wf rfl rfl rfl rfl) ?_
        refine F.sk rfl rfl rfl (wf rfl rfl rfl rfl) ?_
        refine F.sk rfl rfl rfl (wf rfl rfl rfl rfl) ?_
        refine F.sk rfl rfl rfl (wf rfl rfl rfl rfl) ?_
        refine F.q rfl rfl rfl (wanted_none rfl) (r_pickf rfl rfl rfl) ?_
        refine F.q rfl rfl rfl (wanted_none rfl) (r_assign rfl) ?_
        refine F.nil ?_
        cases hE_1
        refine Nrm.only [2] rfl ?_
        refine Nrm.pick [] rfl rfl ?_
        exact hj_1 _ _ ⟨rfl, rfl⟩

end Go.Proofs

/- loop.example/g01158/spec.l2Set -/
namespace Go.Proofs
open Go Go.Ga
set_option linter.unusedVariables false
set_option maxRecDepth 100000
set_option maxHeartbeats 4000000
def spec_l2Set.f (k : Nat) (a0 : Int) : Option (Bool) := (spec_l1In.f k a0 0 63).bind fun t4 => some t4

theorem spec_l2Set.ok {k : Nat}  {a0 : Int} {r0 : Bool} (h : spec_l2Set.f k a0 = some r0) (w : World) :
    Calls Tryd.prog 87 ([.int .i64 a0] : List Value).toArray w (fun e w' => e = .returned (.bool r0) ∧ Ext w w') := by
  unfold spec_l2Set.f at h
  refine Calls.of_tri (N := 5) Tryd.func87 rfl rfl rfl (Sep.nil (M := noM)) ?_
  refine Tri.seq ?_
  refine Tri.reg (l := [0]) rfl ?_
  refine F.q rfl rfl rfl (wanted_none rfl) (r_assign rfl) ?_
  refine F.nil ?_
  refine Nrm.seq ?_
  refine Tri.seq ?_
  obtain ⟨t4, h4, h⟩ := bind_some h
  refine Tri.reg (l := [0, 1, 2]) rfl ?_
  refine F.q rfl rfl rfl (wanted_none rfl) (r_move rfl) ?_
  refine F.qc rfl rfl rfl (wanted_none rfl) (q_callF (xs := _) rfl ok38 rfl rfl (fun w hw => spec_l1In.ok h4 w )) ?_
  refine F.q rfl rfl rfl (wanted_none rfl) (r_assign rfl) ?_
  refine F.nil ?_
  refine Nrm.seq ?_
  refine Tri.ret ?_
  cases h
  exact Rtn.body (.tmp rfl .nil) (fun w hw => ⟨rfl, hw.ext⟩)

end Go.Proofs

/- loop.example/g01158/spec.l2Before -/

namespace Go.Proofs
open Go Go.Ga
set_option linter.unusedVariables false
set_option maxRecDepth 100000
set_option maxHeartbeats 4000000
def spec_l2Before.l0 (k : Nat) (a0_0 : Int) (a0_1 : Int) (a0_2 : Int) (a1_0 : Int) (a1_1 : Int) (a1_2 : Int) : Nat → Int → Option ((Unit) ⊕ (Bool))
  | 0, _ => none
  | n + 1, x5 => (if (decide (x5 < 3)) = true then (rdl [a0_0, a0_1, a0_2] x5).bind fun t11 => (rdl [a1_0, a1_1, a1_2] x5).bind fun t14 => (if (t11 != t14) = true then (rdl [a0_0, a0_1, a0_2] x5).bind fun t18 => (rdl [a1_0, a1_1, a1_2] x5).bind fun t21 => some (Sum.inr (decide (t18 < t21))) else spec_l2Before.l0 k a0_0 a0_1 a0_2 a1_0 a1_1 a1_2 n (w64 (x5 + 1))) else some (Sum.inl ()))

def spec_l2Before.f (k : Nat) (a0_0 : Int) (a0_1 : Int) (a0_2 : Int) (a1_0 : Int) (a1_1 : Int) (a1_2 : Int) : Option (Bool) := (spec_l2Before.l0 k a0_0 a0_1 a0_2 a1_0 a1_1 a1_2 k 0).bind fun s => Lr s some fun _ => some false

theorem spec_l2Before.ok {k : Nat}  {a0_0 : Int} {a0_1 : Int} {a0_2 : Int} {a1_0 : Int} {a1_1 : Int} {a1_2 : Int} {r0 : Bool} (h : spec_l2Before.f k a0_0 a0_1 a0_2 a1_0 a1_1 a1_2 = some r0) (w : World) :
    Calls Tryd.prog 88 ([.agg ([.int .i64 a0_0, .int .i64 a0_1, .int .i64 a0_2].toArray), .agg ([.int .i64 a1_0, .int .i64 a1_1, .int .i64 a1_2].toArray)] : List Value).toArray w (fun e w' => e = .returned (.bool r0) ∧ Ext w w') := by
  unfold spec_l2Before.f at h
  refine Calls.of_tri (N := 24) Tryd.func88 rfl rfl rfl (Sep.nil (M := noM)) ?_
  refine Tri.seq ?_
  refine Tri.reg (l := [0, 1, 2]) rfl ?_
  refine F.m rfl rfl rfl (wanted_none rfl) (m_boxG rfl rfl) ?_
  rintro _ _ ⟨b2_1, rfl, rfl⟩
  refine F.m rfl rfl rfl (wanted_none rfl) (m_boxG rfl rfl) ?_
  rintro _ _ ⟨b3_1, rfl, rfl⟩
  refine F.q rfl rfl rfl (wanted_none rfl) (r_assign rfl) ?_
  refine F.nil ?_
  refine Nrm.seq ?_
  refine Tri.seq ?_
  refine Tri.seq ?_
  refine Tri.reg (l := [0]) rfl ?_
  refine F.q rfl rfl rfl (wanted_none rfl) (r_assign rfl) ?_
  refine F.nil ?_
  refine Nrm.seq ?_
  obtain ⟨s0, hE_1, h⟩ := bind_some h
  refine Tri.block ?_
  refine Tri.only [2, 3, 5] rfl ?_
  refine Tri.pick [0, 1] rfl rfl ?_
  refine Tri.rounds (fun n e' C' => ∃ (x5' : Int), spec_l2Before.l0 k a0_0 a0_1 a0_2 a1_0 a1_1 a1_2 n x5' = some s0 ∧ e' = [(2, .pointer (some ⟨b2_1, 0, none⟩)), (3, .pointer (some ⟨b3_1, 0, none⟩)), (5, .int .i64 x5')] ∧ C' = Sep w noM [R.box b3_1 114 [.int .i64 a1_0, .int .i64 a1_1, .int .i64 a1_2], R.box b2_1 114 [.int .i64 a0_0, .int .i64 a0_1, .int .i64 a0_2]]) k ?_ ?_ ?_
  · exact ⟨0, hE_1, rfl, rfl⟩
  · rintro _ _ ⟨_, hE_1, _⟩
    rw [spec_l2Before.l0.eq_1] at hE_1; cases hE_1
  · rintro n_1 _ _ ⟨x5, hE_1, rfl, rfl⟩ ih_1
    rw [spec_l2Before.l0.eq_2] at hE_1
    refine Tri.seq ?_
    refine Tri.seq ?_
    refine Tri.reg (l := [0, 1]) rfl ?_
    refine F.q rfl rfl rfl (wanted_none rfl) (r_move rfl) ?_
    refine F.q rfl rfl rfl (wanted_none rfl) (r_lss rfl rfl) ?_
    refine F.nil ?_
    refine Nrm.seq ?_
    refine Tri.cond (b := decide (x5 < 3)) rfl (fun g_1 => ?_) (fun g_1 => ?_)
    · replace hE_1 := if_tt g_1 hE_1
      refine Tri.skip ?_
      refine Nrm.seq ?_
      refine Tri.seq ?_
      refine Tri.block ?_
      refine Tri.seq ?_
      obtain ⟨t11, h11, hE_1⟩ := bind_some hE_1
      obtain ⟨t14, h14, hE_1⟩ := bind_some hE_1
      refine Tri.drawA mixedT Sep.up [(0, true), (1, true), (2, true), (3, true), (4, true), (5, true), (6, true)] [] (by kernel_rfl) ?_
      refine S.q rfl rfl rfl (wanted_none rfl) (r_move rfl) ?_
      refine S.q rfl rfl rfl (wanted_none rfl) (r_indexAddrA Tryd.underlying114 ti3 rfl rfl (rdl_some h11).1 (rdl_some h11).2.1) ?_
      refine S.q rfl rfl rfl (wanted_none rfl) (r_load ta3 rfl (fun w hw => cell_dynB (box_cells (i := 1) rfl w hw) rfl h11)) ?_
      refine S.q rfl rfl rfl (wanted_none rfl) (r_move rfl) ?_
      refine S.q rfl rfl rfl (wanted_none rfl) (r_indexAddrA Tryd.underlying114 ti3 rfl rfl (rdl_some h14).1 (rdl_some h14).2.1) ?_
      refine S.q rfl rfl rfl (wanted_none rfl) (r_load ta3 rfl (fun w hw => cell_dynB (box_cells (i := 0) rfl w hw) rfl h14)) ?_
      refine S.q rfl rfl rfl (wanted_none rfl) (r_neq rfl rfl) ?_
      refine S.nil ?_
      refine F.nil ?_
      refine Nrm.seq ?_
      refine Tri.cond (b := t11 != t14) rfl (fun g_2 => ?_) (fun g_2 => ?_)
      · replace hE_1 := if_tt g_2 hE_1
        refine Tri.seq ?_
        obtain ⟨t18, h18, hE_1⟩ := bind_some hE_1
        obtain ⟨t21, h21, hE_1⟩ := bind_some hE_1
        refine Tri.drawA mixedT Sep.up [(0, true), (1, true), (2, true), (3, true), (4, true), (5, true), (6, true), (7, true)] [] (by kernel_rfl) ?_
        refine S.q rfl rfl rfl (wanted_none rfl) (r_move rfl) ?_
        refine S.q rfl rfl rfl (wanted_none rfl) (r_indexAddrA Tryd.underlying114 ti3 rfl rfl (rdl_some h18).1 (rdl_some h18).2.1) ?_
        refine S.q rfl rfl rfl (wanted_none rfl) (r_load ta3 rfl (fun w hw => cell_dynB (box_cells (i := 1) rfl w hw) rfl h18)) ?_
        refine S.q rfl rfl rfl (wanted_none rfl) (r_move rfl) ?_
        refine S.q rfl rfl rfl (wanted_none rfl) (r_indexAddrA Tryd.underlying114 ti3 rfl rfl (rdl_some h21).1 (rdl_some h21).2.1) ?_
        refine S.q rfl rfl rfl (wanted_none rfl) (r_load ta3 rfl (fun w hw => cell_dynB (box_cells (i := 0) rfl w hw) rfl h21)) ?_
        refine S.q rfl rfl rfl (wanted_none rfl) (r_lss rfl rfl) ?_
        refine S.q rfl rfl rfl (wanted_none rfl) (r_assign rfl) ?_
        refine S.nil ?_
        refine F.nil ?_
        refine Nrm.seq ?_
        refine Tri.ret ?_
        refine Rtn.block ?_
        refine Rtn.then ?_
        refine Rtn.then ?_
        refine Rtn.block ?_
        refine Rtn.then ?_
        cases hE_1
        replace h := Lr_inr h
        cases h
        exact Rtn.body (.tmp rfl .nil) (fun w hw => ⟨rfl, hw.ext⟩)
      · replace hE_1 := if_ff g_2 hE_1
        refine Tri.skip ?_
        refine Nrm.block ?_
        refine Nrm.seq ?_
        refine Tri.reg (l := [0, 1, 2]) rfl ?_
        refine F.q rfl rfl rfl (wanted_none rfl) (r_move rfl) ?_
        refine F.q rfl rfl rfl (wanted_none rfl) (r_add rfl rfl) ?_
        refine F.q rfl rfl rfl (wanted_none rfl) (r_assign rfl) ?_
        refine F.nil ?_
        refine Nrm.round ?_
        refine Rnd.only [2, 3, 5] rfl ?_
        refine Rnd.pick [0, 1] rfl rfl ?_
        exact ih_1 _ _ ⟨w64 (x5 + 1), hE_1, rfl, rfl⟩
    · replace hE_1 := if_ff g_1 hE_1
      refine Tri.exit ?_
      refine Exi.then ?_
      refine Exi.then ?_
      refine Exi.same ?_
      cases hE_1
      replace h := Lr_inl h
      refine Nrm.seq ?_
      refine Tri.seq ?_
      refine Tri.reg (l := [0]) rfl ?_
      refine F.q rfl rfl rfl (wanted_none rfl) (r_assign rfl) ?_
      refine F.nil ?_
      refine Nrm.seq ?_
      refine Tri.ret ?_
      cases h
      exact Rtn.body (.tmp rfl .nil) (fun w hw => ⟨rfl, hw.ext⟩)

end Go.Proofs

/- loop.example/g01158/spec.l2Maze -/
namespace Go.Proofs
open Go Go.Ga
set_option linter.unusedVariables false
set_option maxRecDepth 100000
set_option maxHeartbeats 4000000
def spec_l2Maze.l1 (k : Nat) (a0_0 : Int) (a0_2 : List Int) : Nat → Int → Option ((Unit) ⊕ (Bool))
  | 0, _ => none
  | n + 1, x5 => (if (decide (x5 < a0_0)) = true then (rdl a0_2 x5).bind fun t85 => (spec_l2Set.f k t85).bind fun t87 => (if (!t87) = true then some (Sum.inr false) else spec_l2Maze.l1 k a0_0 a0_2 n (w64 (x5 + 1))) else some (Sum.inl ()))

def spec_l2Maze.l0 (k : Nat) (a0_0 : Int) (a0_1 : List (Int × Int × Int)) : Nat → Int → Option ((Unit) ⊕ (Bool))
  | 0, _ => none
  | n + 1, x3 => (if (decide (x3 < (a0_1.length : Int))) = true then (rdl a0_1 x3).bind fun t34 => ((spec_l1In.f k t34.1 0 (w64 (a0_0 - 1))).bind fun t41 => (if (!t41) = true then some true else (spec_l1In.f k t34.2.1 (w64 (t34.1 + 1)) (w64 (a0_0 - 1))).bind fun t52 => (if (!t52) = true then some true else (spec_l2Set.f k t34.2.2).bind fun t58 => (if (!t58) = true then some true else (if (decide (x3 > 0)) = true then (rdl a0_1 (w64 (x3 - 1))).bind fun t69 => (spec_l2Before.f k t69.1 t69.2.1 t69.2.2 t34.1 t34.2.1 t34.2.2).bind fun t72 => some (!t72) else some false))))).bind fun y75 => (if y75 = true then some (Sum.inr false) else spec_l2Maze.l0 k a0_0 a0_1 n (w64 (x3 + 1))) else some (Sum.inl ()))

def spec_l2Maze.f (k : Nat) (a0_0 : Int) (a0_1 : List (Int × Int × Int)) (a0_2 : List Int) : Option (Bool) := ((spec_l1In.f k a0_0 1 12).bind fun t8 => (if (!t8) = true then some true else (if (decide ((a0_1.length : Int) > 30)) = true then some true else some ((a0_2.length : Int) != a0_0)))).bind fun y23 => (if y23 = true then some false else (spec_l2Maze.l0 k a0_0 a0_1 k 0).bind fun s => Lr s some fun _ => (spec_l2Maze.l1 k a0_0 a0_2 k 0).bind fun s => Lr s some fun _ => some true)

theorem spec_l2Maze.ok {k : Nat}  {a0_0 : Int} {a0_1 : List (Int × Int × Int)} {a0_2 : List Int} {r0 : Bool} (h : spec_l2Maze.f k a0_0 a0_1 a0_2 = some r0) (w : World) {va0_1 : Value} {va0_2 : Value} (hr_a0_1 : Rd w va0_1 a0_1) (hr_a0_2 : Rd w va0_2 a0_2) :
    Calls Tryd.prog 71 ([.agg ([.int .i64 a0_0, va0_1, va0_2].toArray)] : List Value).toArray w (fun e w' => e = .returned (.bool r0) ∧ Ext w w') := by
  unfold spec_l2Maze.f at h
  have hl_va0_1 := hr_a0_1.len
  have hl_va0_2 := hr_a0_2.len
  refine Calls.of_tri (N := 89) Tryd.func71 rfl rfl rfl (Sep.nil (M := noM)) ?_
  refine Tri.seq ?_
  refine Tri.reg (l := [0, 1]) rfl ?_
  refine F.m rfl rfl rfl (wanted_none rfl) (m_boxG rfl rfl) ?_
  rintro _ _ ⟨b1_1, rfl, rfl⟩
  refine F.q rfl rfl rfl (wanted_none rfl) (r_assign rfl) ?_
  refine F.nil ?_
  refine Nrm.seq ?_
  refine Tri.seq ?_
  refine Tri.seq ?_
  obtain ⟨y23, hE_1, h⟩ := bind_some h
  refine Tri.cut (fun e' C' => e' = [(1, .pointer (some ⟨b1_1, 0, none⟩)), (23, .bool y23)] ∧ C' = Sep w noM [R.box b1_1 63 [.int .i64 a0_0, va0_1, va0_2]]) ?_ (fun hj_1 => ?_)
  · rintro _ _ ⟨rfl, rfl⟩
    refine Nrm.seq ?_
    refine Tri.cond (b := y23) rfl (fun g_1 => ?_) (fun g_1 => ?_)
    · replace h := if_tt g_1 h
      refine Tri.seq ?_
      refine Tri.reg (l := [0]) rfl ?_
      refine F.q rfl rfl rfl (wanted_none rfl) (r_assign rfl) ?_
      refine F.nil ?_
      refine Nrm.seq ?_
      refine Tri.ret ?_
      refine Rtn.then ?_
      cases h
      exact Rtn.body (.tmp rfl .nil) (fun w hw => ⟨rfl, hw.ext⟩)
    · replace h := if_ff g_1 h
      refine Tri.skip ?_
      refine Nrm.seq ?_
      refine Tri.seq ?_
      refine Tri.seq ?_
      refine Tri.reg (l := [0]) rfl ?_
      refine F.q rfl rfl rfl (wanted_none rfl) (r_assign rfl) ?_
      refine F.nil ?_
      refine Nrm.seq ?_
      obtain ⟨s0, hE_2, h⟩ := bind_some h
      refine Tri.block ?_
      refine Tri.only [1, 3] rfl ?_
      refine Tri.pick [0] rfl rfl ?_
      refine Tri.rounds (fun n e' C' => ∃ (x3' : Int), spec_l2Maze.l0 k a0_0 a0_1 n x3' = some s0 ∧ e' = [(1, .pointer (some ⟨b1_1, 0, none⟩)), (3, .int .i64 x3')] ∧ C' = Sep w noM [R.box b1_1 63 [.int .i64 a0_0, va0_1, va0_2]]) k ?_ ?_ ?_
      · exact ⟨0, hE_2, rfl, rfl⟩
      · rintro _ _ ⟨_, hE_2, _⟩
        rw [spec_l2Maze.l0.eq_1] at hE_2; cases hE_2
      · rintro n_1 _ _ ⟨x3, hE_2, rfl, rfl⟩ ih_1
        rw [spec_l2Maze.l0.eq_2] at hE_2
        refine Tri.seq ?_
        refine Tri.seq ?_
        refine Tri.reg (l := [0, 1, 2, 3, 4]) rfl ?_
        refine F.q rfl rfl rfl (wanted_none rfl) (r_move rfl) ?_
        refine F.q rfl rfl rfl (wanted_none rfl) (r_fieldAddr tf63_1 rfl) ?_
        refine F.q rfl rfl rfl (wanted_none rfl) (r_load ta53 rfl (fun w hw => cell_1 (box_cells (i := 0) rfl w hw) rfl)) ?_
        refine F.q rfl rfl rfl (wanted_none rfl) (r_len Tryd.underlying53 rfl hl_va0_1) ?_
        refine F.q rfl rfl rfl (wanted_none rfl) (r_lss rfl rfl) ?_
        refine F.nil ?_
        refine Nrm.seq ?_
        refine Tri.cond (b := decide (x3 < (a0_1.length : Int))) rfl (fun g_2 => ?_) (fun g_2 => ?_)
        · replace hE_2 := if_tt g_2 hE_2
          refine Tri.skip ?_
          refine Nrm.seq ?_
          refine Tri.seq ?_
          refine Tri.block ?_
          refine Tri.seq ?_
          obtain ⟨t34, h34, hE_2⟩ := bind_some hE_2
          refine Tri.reg (l := [0, 1, 2, 3, 4, 5, 6]) rfl ?_
          refine F.q rfl rfl rfl (wanted_none rfl) (r_fieldAddr tf63_1 rfl) ?_
          refine F.q rfl rfl rfl (wanted_none rfl) (r_load ta53 rfl (fun w hw => cell_1 (box_cells (i := 0) rfl w hw) rfl)) ?_
          refine F.q rfl rfl rfl (wanted_none rfl) (r_move rfl) ?_
          refine F.q rfl rfl rfl (wanted_none rfl) (r_indexAddrS Tryd.underlying53 ti114 rfl hl_va0_1 rfl (rdl_some h34).1 (rdl_some h34).2.1) ?_
          refine F.q rfl rfl rfl (wanted_none rfl) (r_loadA ta114 ti114 rfl rfl (fun w hw => (Rd.flat ((fun _ hw => hr_a0_1.sep hw) w hw) (rdl_some h34).2.2))) ?_
          refine F.m rfl rfl rfl (wanted_none rfl) (m_alloc ti114) ?_
          rintro _ _ ⟨b4_1, rfl, rfl⟩
          refine F.ef0 rfl rfl (wanted_none rfl) (d_storeG0 (i := 0) (cs2 := [.int .i64 t34.1, .int .i64 t34.2.1, .int .i64 t34.2.2]) ti114 rfl rfl rfl rfl rfl (Nat.le_of_ble_eq_true rfl) (lf_cons rfl (lf_cons rfl (lf_cons rfl lf_nil)))) ?_
          rintro _ _ ⟨rfl, rfl⟩
          refine F.nil ?_
          refine Nrm.seq ?_
          refine Tri.seq ?_
          obtain ⟨y75, hE_3, hE_2⟩ := bind_some hE_2
          refine Tri.cut (fun e' C' => e' = [(1, .pointer (some ⟨b1_1, 0, none⟩)), (3, .int .i64 x3), (75, .bool y75)] ∧ C' = Sep w noM [R.box b1_1 63 [.int .i64 a0_0, va0_1, va0_2]]) ?_ (fun hj_2 => ?_)
          · rintro _ _ ⟨rfl, rfl⟩
            refine Nrm.seq ?_
            refine Tri.cond (b := y75) rfl (fun g_3 => ?_) (fun g_3 => ?_)
            · replace hE_2 := if_tt g_3 hE_2
              refine Tri.seq ?_
              refine Tri.reg (l := [0]) rfl ?_
              refine F.q rfl rfl rfl (wanted_none rfl) (r_assign rfl) ?_
              refine F.nil ?_
              refine Nrm.seq ?_
              refine Tri.ret ?_
              refine Rtn.block ?_
              refine Rtn.then ?_
              refine Rtn.then ?_
              refine Rtn.block ?_
              refine Rtn.then ?_
              cases hE_2
              replace h := Lr_inr h
              cases h
              exact Rtn.body (.tmp rfl .nil) (fun w hw => ⟨rfl, hw.ext⟩)
            · replace hE_2 := if_ff g_3 hE_2
              refine Tri.skip ?_
              refine Nrm.block ?_
              refine Nrm.seq ?_
              refine Tri.reg (l := [0, 1, 2]) rfl ?_
              refine F.q rfl rfl rfl (wanted_none rfl) (r_move rfl) ?_
              refine F.q rfl rfl rfl (wanted_none rfl) (r_add rfl rfl) ?_
              refine F.q rfl rfl rfl (wanted_none rfl) (r_assign rfl) ?_
              refine F.nil ?_
              refine Nrm.round ?_
              refine Rnd.only [1, 3] rfl ?_
              refine Rnd.pick [0] rfl rfl ?_
              exact ih_1 _ _ ⟨w64 (x3 + 1), hE_2, rfl, rfl⟩
          · obtain ⟨t41, h41, hE_3⟩ := bind_some hE_3
            rcases Bool.eq_false_or_eq_true (!t41) with g43 | g43
            · replace hE_3 := if_tt g43 hE_3
              refine Tri.drawA mixedT Sep.up [(0, true), (1, true), (2, true), (3, true), (4, true), (5, true), (6, true), (7, true), (8, true), (9, true), (10, true), (11, true), (12, true), (13, true), (14, true), (15, true), (16, true), (17, true), (18, true), (19, true), (20, true), (21, true), (22, true), (23, true), (24, true), (25, true), (26, true), (27, true), (28, true), (29, true), (30, true), (31, true), (32, true), (33, true), (34, true), (35, true), (36, true), (37, true), (38, true), (39, true)] [] (by kernel_rfl) ?_
              refine S.q rfl rfl rfl (wanted_none rfl) (r_indexAddrA Tryd.underlying114 ti3 rfl rfl (by decide) (by decide)) ?_
              refine S.q rfl rfl rfl (wanted_none rfl) (r_load ta3 rfl (fun w hw => cell_1 (box_cells (i := 0) rfl w hw) rfl)) ?_
              refine S.q rfl rfl rfl (wanted_none rfl) (r_fieldAddr tf63_0 rfl) ?_
              refine S.q rfl rfl rfl (wanted_none rfl) (r_load ta3 rfl (fun w hw => cell_1 (box_cells (i := 1) rfl w hw) rfl)) ?_
              refine S.q rfl rfl rfl (wanted_none rfl) (r_sub rfl rfl) ?_
              refine S.qc rfl rfl rfl (wanted_none rfl) (q_callF (xs := _) rfl ok38 rfl rfl (fun w hw => spec_l1In.ok h41 w )) ?_
              refine S.q rfl rfl rfl (wanted_none rfl) (r_not rfl) ?_
              refine S.q rfl rfl rfl (wanted_none rfl) (r_move rfl) ?_
              refine S.sk rfl rfl rfl (wf rfl rfl rfl g43) ?_
              refine S.sk rfl rfl rfl (wf rfl rfl rfl g43) ?_
              refine S.sk rfl rfl rfl (wf rfl rfl rfl g43) ?_
              refine S.sk rfl rfl rfl (wf rfl rfl rfl g43) ?_
              refine S.sk rfl rfl rfl (wf rfl rfl rfl g43) ?_
              refine S.sk rfl rfl rfl (wf rfl rfl rfl g43) ?_
              refine S.sk rfl rfl rfl (wf rfl rfl rfl g43) ?_
              refine S.sk rfl rfl rfl (wf rfl rfl rfl g43) ?_
              refine S.sk rfl rfl rfl (wf rfl rfl rfl g43) ?_
              refine S.sk rfl rfl rfl (wf rfl rfl rfl g43) ?_
              refine S.q rfl rfl rfl (wanted_none rfl) (r_pick rfl rfl g43) ?_
              refine S.q rfl rfl rfl (wanted_none rfl) (r_move rfl) ?_
              refine S.sk rfl rfl rfl (wf rfl rfl rfl rfl) ?_
              refine S.sk rfl rfl rfl (wf rfl rfl rfl rfl) ?_
              refine S.sk rfl rfl rfl (wf rfl rfl rfl rfl) ?_
              refine S.sk rfl rfl rfl (wf rfl rfl rfl rfl) ?_
              refine S.q rfl rfl rfl (wanted_none rfl) (r_pick rfl rfl rfl) ?_
              refine S.q rfl rfl rfl (wanted_none rfl) (r_move rfl) ?_
              refine S.sk rfl rfl rfl (wf rfl rfl rfl rfl) ?_
              refine S.sk rfl rfl rfl (wf rfl rfl rfl rfl) ?_
              refine S.sk rfl rfl rfl (wf rfl rfl rfl rfl) ?_
              refine S.sk rfl rfl rfl (wanted_undef rfl rfl rfl) ?_
              refine S.sk rfl rfl rfl (wanted_undef rfl rfl rfl) ?_
              refine S.sk rfl rfl rfl (wanted_undef rfl rfl rfl) ?_
              refine S.sk rfl rfl rfl (wanted_undef rfl rfl rfl) ?_
              refine S.sk rfl rfl rfl (wanted_undef rfl rfl rfl) ?_
              refine S.sk rfl rfl rfl (wanted_undef rfl rfl rfl) ?_
              refine S.sk rfl rfl rfl (wanted_undef rfl rfl rfl) ?_
              refine S.sk rfl rfl rfl (wanted_undef rfl rfl rfl) ?_
              refine S.sk rfl rfl rfl (wanted_undef rfl rfl rfl) ?_
              refine S.sk rfl rfl rfl (wf rfl rfl rfl rfl) ?_
              refine S.q rfl rfl rfl (wanted_none rfl) (r_pick rfl rfl rfl) ?_
              refine S.nil ?_
              refine F.nil ?_
              cases hE_3
              refine Nrm.only [1, 3, 75] rfl ?_
              refine Nrm.pick [1] rfl rfl ?_
              exact hj_2 _ _ ⟨rfl, rfl⟩
            · replace hE_3 := if_ff g43 hE_3
              obtain ⟨t52, h52, hE_3⟩ := bind_some hE_3
              rcases Bool.eq_false_or_eq_true (!t52) with g55 | g55
              · replace hE_3 := if_tt g55 hE_3
                refine Tri.drawA mixedT Sep.up [(0, true), (1, true), (2, true), (3, true), (4, true), (5, true), (6, true), (7, true), (8, true), (9, true), (10, true), (11, true), (12, true), (13, true), (14, true), (15, true), (16, true), (17, true), (18, true), (19, true), (20, true), (21, true), (22, true), (23, true), (24, true), (25, true), (26, true), (27, true), (28, true), (29, true), (30, true), (31, true), (32, true), (33, true), (34, true), (35, true), (36, true), (37, true), (38, true), (39, true)] [] (by kernel_rfl) ?_
                refine S.q rfl rfl rfl (wanted_none rfl) (r_indexAddrA Tryd.underlying114 ti3 rfl rfl (by decide) (by decide)) ?_
                refine S.q rfl rfl rfl (wanted_none rfl) (r_load ta3 rfl (fun w hw => cell_1 (box_cells (i := 0) rfl w hw) rfl)) ?_
                refine S.q rfl rfl rfl (wanted_none rfl) (r_fieldAddr tf63_0 rfl) ?_
                refine S.q rfl rfl rfl (wanted_none rfl) (r_load ta3 rfl (fun w hw => cell_1 (box_cells (i := 1) rfl w hw) rfl)) ?_
                refine S.q rfl rfl rfl (wanted_none rfl) (r_sub rfl rfl) ?_
                refine S.qc rfl rfl rfl (wanted_none rfl) (q_callF (xs := _) rfl ok38 rfl rfl (fun w hw => spec_l1In.ok h41 w )) ?_
                refine S.q rfl rfl rfl (wanted_none rfl) (r_not rfl) ?_
                refine S.q rfl rfl rfl (wanted_none rfl) (r_move rfl) ?_
                refine S.q rfl rfl rfl (wg rfl rfl rfl g43) (r_indexAddrA Tryd.underlying114 ti3 rfl rfl (by decide) (by decide)) ?_
                refine S.q rfl rfl rfl (wg rfl rfl rfl g43) (r_load ta3 rfl (fun w hw => cell_1 (box_cells (i := 0) rfl w hw) rfl)) ?_
                refine S.q rfl rfl rfl (wg rfl rfl rfl g43) (r_indexAddrA Tryd.underlying114 ti3 rfl rfl (by decide) (by decide)) ?_
                refine S.q rfl rfl rfl (wg rfl rfl rfl g43) (r_load ta3 rfl (fun w hw => cell_1 (box_cells (i := 0) rfl w hw) rfl)) ?_
                refine S.q rfl rfl rfl (wg rfl rfl rfl g43) (r_add rfl rfl) ?_
                refine S.q rfl rfl rfl (wg rfl rfl rfl g43) (r_fieldAddr tf63_0 rfl) ?_
                refine S.q rfl rfl rfl (wg rfl rfl rfl g43) (r_load ta3 rfl (fun w hw => cell_1 (box_cells (i := 1) rfl w hw) rfl)) ?_
                refine S.q rfl rfl rfl (wg rfl rfl rfl g43) (r_sub rfl rfl) ?_
                refine S.qc rfl rfl rfl (wg rfl rfl rfl g43) (q_callF (xs := _) rfl ok38 rfl rfl (fun w hw => spec_l1In.ok h52 w )) ?_
                refine S.q rfl rfl rfl (wg rfl rfl rfl g43) (r_not rfl) ?_
                refine S.q rfl rfl rfl (wanted_none rfl) (r_pickf rfl rfl g43) ?_
                refine S.q rfl rfl rfl (wanted_none rfl) (r_move rfl) ?_
                refine S.sk rfl rfl rfl (wf rfl rfl rfl g55) ?_
                refine S.sk rfl rfl rfl (wf rfl rfl rfl g55) ?_
                refine S.sk rfl rfl rfl (wf rfl rfl rfl g55) ?_
                refine S.sk rfl rfl rfl (wf rfl rfl rfl g55) ?_
                refine S.q rfl rfl rfl (wanted_none rfl) (r_pick rfl rfl g55) ?_
                refine S.q rfl rfl rfl (wanted_none rfl) (r_move rfl) ?_
                refine S.sk rfl rfl rfl (wf rfl rfl rfl rfl) ?_
                refine S.sk rfl rfl rfl (wf rfl rfl rfl rfl) ?_
                refine S.sk rfl rfl rfl (wf rfl rfl rfl rfl) ?_
                refine S.sk rfl rfl rfl (wanted_undef rfl rfl rfl) ?_
                refine S.sk rfl rfl rfl (wanted_undef rfl rfl rfl) ?_
                refine S.sk rfl rfl rfl (wanted_undef rfl rfl rfl) ?_
                refine S.sk rfl rfl rfl (wanted_undef rfl rfl rfl) ?_
                refine S.sk rfl rfl rfl (wanted_undef rfl rfl rfl) ?_
                refine S.sk rfl rfl rfl (wanted_undef rfl rfl rfl) ?_
                refine S.sk rfl rfl rfl (wanted_undef rfl rfl rfl) ?_
                refine S.sk rfl rfl rfl (wanted_undef rfl rfl rfl) ?_
                refine S.sk rfl rfl rfl (wanted_undef rfl rfl rfl) ?_
                refine S.sk rfl rfl rfl (wf rfl rfl rfl rfl) ?_
                refine S.q rfl rfl rfl (wanted_none rfl) (r_pick rfl rfl rfl) ?_
                refine S.nil ?_
                refine F.nil ?_
                cases hE_3
                refine Nrm.only [1, 3, 75] rfl ?_
                refine Nrm.pick [1] rfl rfl ?_
                exact hj_2 _ _ ⟨rfl, rfl⟩
              · replace hE_3 := if_ff g55 hE_3
                obtain ⟨t58, h58, hE_3⟩ := bind_some hE_3
                rcases Bool.eq_false_or_eq_true (!t58) with g61 | g61
                · replace hE_3 := if_tt g61 hE_3
                  refine Tri.drawA mixedT Sep.up [(0, true), (1, true), (2, true), (3, true), (4, true), (5, true), (6, true), (7, true), (8, true), (9, true), (10, true), (11, true), (12, true), (13, true), (14, true), (15, true), (16, true), (17, true), (18, true), (19, true), (20, true), (21, true), (22, true), (23, true), (24, true), (25, true), (26, true), (27, true), (28, true), (29, true), (30, true), (31, true), (32, true), (33, true), (34, true), (35, true), (36, true), (37, true), (38, true), (39, true)] [] (by kernel_rfl) ?_
                  refine S.q rfl rfl rfl (wanted_none rfl) (r_indexAddrA Tryd.underlying114 ti3 rfl rfl (by decide) (by decide)) ?_
                  refine S.q rfl rfl rfl (wanted_none rfl) (r_load ta3 rfl (fun w hw => cell_1 (box_cells (i := 0) rfl w hw) rfl)) ?_
                  refine S.q rfl rfl rfl (wanted_none rfl) (r_fieldAddr tf63_0 rfl) ?_
                  refine S.q rfl rfl rfl (wanted_none rfl) (r_load ta3 rfl (fun w hw => cell_1 (box_cells (i := 1) rfl w hw) rfl)) ?_
                  refine S.q rfl rfl rfl (wanted_none rfl) (r_sub rfl rfl) ?_
                  refine S.qc rfl rfl rfl (wanted_none rfl) (q_callF (xs := _) rfl ok38 rfl rfl (fun w hw => spec_l1In.ok h41 w )) ?_
                  refine S.q rfl rfl rfl (wanted_none rfl) (r_not rfl) ?_
                  refine S.q rfl rfl rfl (wanted_none rfl) (r_move rfl) ?_
                  refine S.q rfl rfl rfl (wg rfl rfl rfl g43) (r_indexAddrA Tryd.underlying114 ti3 rfl rfl (by decide) (by decide)) ?_
                  refine S.q rfl rfl rfl (wg rfl rfl rfl g43) (r_load ta3 rfl (fun w hw => cell_1 (box_cells (i := 0) rfl w hw) rfl)) ?_
                  refine S.q rfl rfl rfl (wg rfl rfl rfl g43) (r_indexAddrA Tryd.underlying114 ti3 rfl rfl (by decide) (by decide)) ?_
                  refine S.q rfl rfl rfl (wg rfl rfl rfl g43) (r_load ta3 rfl (fun w hw => cell_1 (box_cells (i := 0) rfl w hw) rfl)) ?_
                  refine S.q rfl rfl rfl (wg rfl rfl rfl g43) (r_add rfl rfl) ?_
                  refine S.q rfl rfl rfl (wg rfl rfl rfl g43) (r_fieldAddr tf63_0 rfl) ?_
                  refine S.q rfl rfl rfl (wg rfl rfl rfl g43) (r_load ta3 rfl (fun w hw => cell_1 (box_cells (i := 1) rfl w hw) rfl)) ?_
                  refine S.q rfl rfl rfl (wg rfl rfl rfl g43) (r_sub rfl rfl) ?_
                  refine S.qc rfl rfl rfl (wg rfl rfl rfl g43) (q_callF (xs := _) rfl ok38 rfl rfl (fun w hw => spec_l1In.ok h52 w )) ?_
                  refine S.q rfl rfl rfl (wg rfl rfl rfl g43) (r_not rfl) ?_
                  refine S.q rfl rfl rfl (wanted_none rfl) (r_pickf rfl rfl g43) ?_
                  refine S.q rfl rfl rfl (wanted_none rfl) (r_move rfl) ?_
                  refine S.q rfl rfl rfl (wg rfl rfl rfl g55) (r_indexAddrA Tryd.underlying114 ti3 rfl rfl (by decide) (by decide)) ?_
                  refine S.q rfl rfl rfl (wg rfl rfl rfl g55) (r_load ta3 rfl (fun w hw => cell_1 (box_cells (i := 0) rfl w hw) rfl)) ?_
                  refine S.qc rfl rfl rfl (wg rfl rfl rfl g55) (q_callF (xs := _) rfl ok87 rfl rfl (fun w hw => spec_l2Set.ok h58 w )) ?_
                  refine S.q rfl rfl rfl (wg rfl rfl rfl g55) (r_not rfl) ?_
                  refine S.q rfl rfl rfl (wanted_none rfl) (r_pickf rfl rfl g55) ?_
                  refine S.q rfl rfl rfl (wanted_none rfl) (r_move rfl) ?_
                  refine S.sk rfl rfl rfl (wf rfl rfl rfl g61) ?_
                  refine S.sk rfl rfl rfl (wf rfl rfl rfl g61) ?_
                  refine S.sk rfl rfl rfl (wf rfl rfl rfl g61) ?_
                  refine S.sk rfl rfl rfl (wanted_undef rfl rfl rfl) ?_
                  refine S.sk rfl rfl rfl (wanted_undef rfl rfl rfl) ?_
                  refine S.sk rfl rfl rfl (wanted_undef rfl rfl rfl) ?_
                  refine S.sk rfl rfl rfl (wanted_undef rfl rfl rfl) ?_
                  refine S.sk rfl rfl rfl (wanted_undef rfl rfl rfl) ?_
                  refine S.sk rfl rfl rfl (wanted_undef rfl rfl rfl) ?_
                  refine S.sk rfl rfl rfl (wanted_undef rfl rfl rfl) ?_
                  refine S.sk rfl rfl rfl (wanted_undef rfl rfl rfl) ?_
                  refine S.sk rfl rfl rfl (wanted_undef rfl rfl rfl) ?_
                  refine S.sk rfl rfl rfl (wf rfl rfl rfl g61) ?_
                  refine S.q rfl rfl rfl (wanted_none rfl) (r_pick rfl rfl g61) ?_
                  refine S.nil ?_
                  refine F.nil ?_
                  cases hE_3
                  refine Nrm.only [1, 3, 75] rfl ?_
                  refine Nrm.pick [1] rfl rfl ?_
                  exact hj_2 _ _ ⟨rfl, rfl⟩
                · replace hE_3 := if_ff g61 hE_3
                  rcases Bool.eq_false_or_eq_true (decide (x3 > 0)) with g64 | g64
                  · replace hE_3 := if_tt g64 hE_3
                    obtain ⟨t69, h69, hE_3⟩ := bind_some hE_3
                    obtain ⟨t72, h72, hE_3⟩ := bind_some hE_3
                    refine Tri.drawA mixedT Sep.up [(0, true), (1, true), (2, true), (3, true), (4, true), (5, true), (6, true), (7, true), (8, true), (9, true), (10, true), (11, true), (12, true), (13, true), (14, true), (15, true), (16, true), (17, true), (18, true), (19, true), (20, true), (21, true), (22, true), (23, true), (24, true), (25, true), (26, true), (27, true), (28, true), (29, true), (30, true), (31, true), (32, true), (33, true), (34, true), (35, true), (36, true), (37, true), (38, true), (39, true)] [] (by kernel_rfl) ?_
                    refine S.q rfl rfl rfl (wanted_none rfl) (r_indexAddrA Tryd.underlying114 ti3 rfl rfl (by decide) (by decide)) ?_
                    refine S.q rfl rfl rfl (wanted_none rfl) (r_load ta3 rfl (fun w hw => cell_1 (box_cells (i := 0) rfl w hw) rfl)) ?_
                    refine S.q rfl rfl rfl (wanted_none rfl) (r_fieldAddr tf63_0 rfl) ?_
                    refine S.q rfl rfl rfl (wanted_none rfl) (r_load ta3 rfl (fun w hw => cell_1 (box_cells (i := 1) rfl w hw) rfl)) ?_
                    refine S.q rfl rfl rfl (wanted_none rfl) (r_sub rfl rfl) ?_
                    refine S.qc rfl rfl rfl (wanted_none rfl) (q_callF (xs := _) rfl ok38 rfl rfl (fun w hw => spec_l1In.ok h41 w )) ?_
                    refine S.q rfl rfl rfl (wanted_none rfl) (r_not rfl) ?_
                    refine S.q rfl rfl rfl (wanted_none rfl) (r_move rfl) ?_
                    refine S.q rfl rfl rfl (wg rfl rfl rfl g43) (r_indexAddrA Tryd.underlying114 ti3 rfl rfl (by decide) (by decide)) ?_
                    refine S.q rfl rfl rfl (wg rfl rfl rfl g43) (r_load ta3 rfl (fun w hw => cell_1 (box_cells (i := 0) rfl w hw) rfl)) ?_
                    refine S.q rfl rfl rfl (wg rfl rfl rfl g43) (r_indexAddrA Tryd.underlying114 ti3 rfl rfl (by decide) (by decide)) ?_
                    refine S.q rfl rfl rfl (wg rfl rfl rfl g43) (r_load ta3 rfl (fun w hw => cell_1 (box_cells (i := 0) rfl w hw) rfl)) ?_
                    refine S.q rfl rfl rfl (wg rfl rfl rfl g43) (r_add rfl rfl) ?_
                    refine S.q rfl rfl rfl (wg rfl rfl rfl g43) (r_fieldAddr tf63_0 rfl) ?_
                    refine S.q rfl rfl rfl (wg rfl rfl rfl g43) (r_load ta3 rfl (fun w hw => cell_1 (box_cells (i := 1) rfl w hw) rfl)) ?_
                    refine S.q rfl rfl rfl (wg rfl rfl rfl g43) (r_sub rfl rfl) ?_
                    refine S.qc rfl rfl rfl (wg rfl rfl rfl g43) (q_callF (xs := _) rfl ok38 rfl rfl (fun w hw => spec_l1In.ok h52 w )) ?_
                    refine S.q rfl rfl rfl (wg rfl rfl rfl g43) (r_not rfl) ?_
                    refine S.q rfl rfl rfl (wanted_none rfl) (r_pickf rfl rfl g43) ?_
                    refine S.q rfl rfl rfl (wanted_none rfl) (r_move rfl) ?_
                    refine S.q rfl rfl rfl (wg rfl rfl rfl g55) (r_indexAddrA Tryd.underlying114 ti3 rfl rfl (by decide) (by decide)) ?_
                    refine S.q rfl rfl rfl (wg rfl rfl rfl g55) (r_load ta3 rfl (fun w hw => cell_1 (box_cells (i := 0) rfl w hw) rfl)) ?_
                    refine S.qc rfl rfl rfl (wg rfl rfl rfl g55) (q_callF (xs := _) rfl ok87 rfl rfl (fun w hw => spec_l2Set.ok h58 w )) ?_
                    refine S.q rfl rfl rfl (wg rfl rfl rfl g55) (r_not rfl) ?_
                    refine S.q rfl rfl rfl (wanted_none rfl) (r_pickf rfl rfl g55) ?_
                    refine S.q rfl rfl rfl (wanted_none rfl) (r_move rfl) ?_
                    refine S.q rfl rfl rfl (wg rfl rfl rfl g61) (r_move rfl) ?_
                    refine S.q rfl rfl rfl (wg rfl rfl rfl g61) (r_gtr rfl rfl) ?_
                    refine S.q rfl rfl rfl (wg rfl rfl rfl g61) (r_move rfl) ?_
                    refine S.q rfl rfl rfl (wg rfl rfl rfl g64) (r_fieldAddr tf63_1 rfl) ?_
                    refine S.q rfl rfl rfl (wg rfl rfl rfl g64) (r_load ta53 rfl (fun w hw => cell_1 (box_cells (i := 1) rfl w hw) rfl)) ?_
                    refine S.q rfl rfl rfl (wg rfl rfl rfl g64) (r_move rfl) ?_
                    refine S.q rfl rfl rfl (wg rfl rfl rfl g64) (r_sub rfl rfl) ?_
                    refine S.q rfl rfl rfl (wg rfl rfl rfl g64) (r_indexAddrS Tryd.underlying53 ti114 rfl hl_va0_1 rfl (rdl_some h69).1 (rdl_some h69).2.1) ?_
                    refine S.q rfl rfl rfl (wg rfl rfl rfl g64) (r_loadA ta114 ti114 rfl rfl (fun w hw => (Rd.flat ((fun _ hw => hr_a0_1.sep hw) w hw) (rdl_some h69).2.2))) ?_
                    refine S.q rfl rfl rfl (wg rfl rfl rfl g64) (r_loadA ta114 ti114 rfl rfl (fun w hw => (box_cells (i := 0) rfl w hw))) ?_
                    refine S.qc rfl rfl rfl (wg rfl rfl rfl g64) (q_callF (xs := _) rfl ok88 rfl rfl (fun w hw => spec_l2Before.ok h72 w )) ?_
                    refine S.q rfl rfl rfl (wg rfl rfl rfl g64) (r_not rfl) ?_
                    refine S.q rfl rfl rfl (wg rfl rfl rfl g61) (r_pick rfl rfl g64) ?_
                    refine S.q rfl rfl rfl (wanted_none rfl) (r_pickf rfl rfl g61) ?_
                    refine S.nil ?_
                    refine F.nil ?_
                    cases hE_3
                    refine Nrm.only [1, 3, 75] rfl ?_
                    refine Nrm.pick [1] rfl rfl ?_
                    exact hj_2 _ _ ⟨rfl, rfl⟩
                  · replace hE_3 := if_ff g64 hE_3
                    refine Tri.drawA mixedT Sep.up [(0, true), (1, true), (2, true), (3, true), (4, true), (5, true), (6, true), (7, true), (8, true), (9, true), (10, true), (11, true), (12, true), (13, true), (14, true), (15, true), (16, true), (17, true), (18, true), (19, true), (20, true), (21, true), (22, true), (23, true), (24, true), (25, true), (26, true), (27, true), (28, true), (29, true), (30, true), (31, true), (32, true), (33, true), (34, true), (35, true), (36, true), (37, true), (38, true), (39, true)] [] (by kernel_rfl) ?_
                    refine S.q rfl rfl rfl (wanted_none rfl) (r_indexAddrA Tryd.underlying114 ti3 rfl rfl (by decide) (by decide)) ?_
                    refine S.q rfl rfl rfl (wanted_none rfl) (r_load ta3 rfl (fun w hw => cell_1 (box_cells (i := 0) rfl w hw) rfl)) ?_
                    refine S.q rfl rfl rfl (wanted_none rfl) (r_fieldAddr tf63_0 rfl) ?_
                    refine S.q rfl rfl rfl (wanted_none rfl) (r_load ta3 rfl (fun w hw => cell_1 (box_cells (i := 1) rfl w hw) rfl)) ?_
                    refine S.q rfl rfl rfl (wanted_none rfl) (r_sub rfl rfl) ?_
                    refine S.qc rfl rfl rfl (wanted_none rfl) (q_callF (xs := _) rfl ok38 rfl rfl (fun w hw => spec_l1In.ok h41 w )) ?_
                    refine S.q rfl rfl rfl (wanted_none rfl) (r_not rfl) ?_
                    refine S.q rfl rfl rfl (wanted_none rfl) (r_move rfl) ?_
                    refine S.q rfl rfl rfl (wg rfl rfl rfl g43) (r_indexAddrA Tryd.underlying114 ti3 rfl rfl (by decide) (by decide)) ?_
                    refine S.q rfl rfl rfl (wg rfl rfl rfl g43) (r_load ta3 rfl (fun w hw => cell_1 (box_cells (i := 0) rfl w hw) rfl)) ?_
                    refine S.q rfl rfl rfl (wg rfl rfl rfl g43) (r_indexAddrA Tryd.underlying114 ti3 rfl rfl (by decide) (by decide)) ?_
                    refine S.q rfl rfl rfl (wg rfl rfl rfl g43) (r_load ta3 rfl (fun w hw => cell_1 (box_cells (i := 0) rfl w hw) rfl)) ?_
                    refine S.q rfl rfl rfl (wg rfl rfl rfl g43) (r_add rfl rfl) ?_
                    refine S.q rfl rfl rfl (wg rfl rfl rfl g43) (r_fieldAddr tf63_0 rfl) ?_
                    refine S.q rfl rfl rfl (wg rfl rfl rfl g43) (r_load ta3 rfl (fun w hw => cell_1 (box_cells (i := 1) rfl w hw) rfl)) ?_
                    refine S.q rfl rfl rfl (wg rfl rfl rfl g43) (r_sub rfl rfl) ?_
                    refine S.qc rfl rfl rfl (wg rfl rfl rfl g43) (q_callF (xs := _) rfl ok38 rfl rfl (fun w hw => spec_l1In.ok h52 w )) ?_
                    refine S.q rfl rfl rfl (wg rfl rfl rfl g43) (r_not rfl) ?_
                    refine S.q rfl rfl rfl (wanted_none rfl) (r_pickf rfl rfl g43) ?_
                    refine S.q rfl rfl rfl (wanted_none rfl) (r_move rfl) ?_
                    refine S.q rfl rfl rfl (wg rfl rfl rfl g55) (r_indexAddrA Tryd.underlying114 ti3 rfl rfl (by decide) (by decide)) ?_
                    refine S.q rfl rfl rfl (wg rfl rfl rfl g55) (r_load ta3 rfl (fun w hw => cell_1 (box_cells (i := 0) rfl w hw) rfl)) ?_
                    refine S.qc rfl rfl rfl (wg rfl rfl rfl g55) (q_callF (xs := _) rfl ok87 rfl rfl (fun w hw => spec_l2Set.ok h58 w )) ?_
                    refine S.q rfl rfl rfl (wg rfl rfl rfl g55) (r_not rfl) ?_
                    refine S.q rfl rfl rfl (wanted_none rfl) (r_pickf rfl rfl g55) ?_
                    refine S.q rfl rfl rfl (wanted_none rfl) (r_move rfl) ?_
                    refine S.q rfl rfl rfl (wg rfl rfl rfl g61) (r_move rfl) ?_
                    refine S.q rfl rfl rfl (wg rfl rfl rfl g61) (r_gtr rfl rfl) ?_
                    refine S.q rfl rfl rfl (wg rfl rfl rfl g61) (r_move rfl) ?_
                    refine S.sk rfl rfl rfl (wf rfl rfl rfl g64) ?_
                    refine S.sk rfl rfl rfl (wf rfl rfl rfl g64) ?_
                    refine S.sk rfl rfl rfl (wf rfl rfl rfl g64) ?_
                    refine S.sk rfl rfl rfl (wf rfl rfl rfl g64) ?_
                    refine S.sk rfl rfl rfl (wf rfl rfl rfl g64) ?_
                    refine S.sk rfl rfl rfl (wf rfl rfl rfl g64) ?_
                    refine S.sk rfl rfl rfl (wf rfl rfl rfl g64) ?_
                    refine S.sk rfl rfl rfl (wf rfl rfl rfl g64) ?_
                    refine S.sk rfl rfl rfl (wf rfl rfl rfl g64) ?_
                    refine S.q rfl rfl rfl (wg rfl rfl rfl g61) (r_pickf rfl rfl g64) ?_
                    refine S.q rfl rfl rfl (wanted_none rfl) (r_pickf rfl rfl g61) ?_
                    refine S.nil ?_
                    refine F.nil ?_
                    cases hE_3
                    refine Nrm.only [1, 3, 75] rfl ?_
                    refine Nrm.pick [1] rfl rfl ?_
                    exact hj_2 _ _ ⟨rfl, rfl⟩
        · replace hE_2 := if_ff g_2 hE_2
          refine Tri.exit ?_
          refine Exi.then ?_
          refine Exi.then ?_
          refine Exi.same ?_
          cases hE_2
          replace h := Lr_inl h
          refine Nrm.seq ?_
          refine Tri.seq ?_
          refine Tri.seq ?_
          refine Tri.reg (l := [0]) rfl ?_
          refine F.q rfl rfl rfl (wanted_none rfl) (r_assign rfl) ?_
          refine F.nil ?_
          refine Nrm.seq ?_
          obtain ⟨s1, hE_4, h⟩ := bind_some h
          refine Tri.block ?_
          refine Tri.only [1, 5] rfl ?_
          refine Tri.pick [0] rfl rfl ?_
          refine Tri.rounds (fun n e' C' => ∃ (x5' : Int), spec_l2Maze.l1 k a0_0 a0_2 n x5' = some s1 ∧ e' = [(1, .pointer (some ⟨b1_1, 0, none⟩)), (5, .int .i64 x5')] ∧ C' = Sep w noM [R.box b1_1 63 [.int .i64 a0_0, va0_1, va0_2]]) k ?_ ?_ ?_
          · exact ⟨0, hE_4, rfl, rfl⟩
          · rintro _ _ ⟨_, hE_4, _⟩
            rw [spec_l2Maze.l1.eq_1] at hE_4; cases hE_4
          · rintro n_2 _ _ ⟨x5, hE_4, rfl, rfl⟩ ih_2
            rw [spec_l2Maze.l1.eq_2] at hE_4
            refine Tri.seq ?_
            refine Tri.seq ?_
            refine Tri.reg (l := [0, 1, 2, 3]) rfl ?_
            refine F.q rfl rfl rfl (wanted_none rfl) (r_move rfl) ?_
            refine F.q rfl rfl rfl (wanted_none rfl) (r_fieldAddr tf63_0 rfl) ?_
            refine F.q rfl rfl rfl (wanted_none rfl) (r_load ta3 rfl (fun w hw => cell_1 (box_cells (i := 0) rfl w hw) rfl)) ?_
            refine F.q rfl rfl rfl (wanted_none rfl) (r_lss rfl rfl) ?_
            refine F.nil ?_
            refine Nrm.seq ?_
            refine Tri.cond (b := decide (x5 < a0_0)) rfl (fun g_4 => ?_) (fun g_4 => ?_)
            · replace hE_4 := if_tt g_4 hE_4
              refine Tri.skip ?_
              refine Nrm.seq ?_
              refine Tri.seq ?_
              refine Tri.block ?_
              refine Tri.seq ?_
              obtain ⟨t85, h85, hE_4⟩ := bind_some hE_4
              obtain ⟨t87, h87, hE_4⟩ := bind_some hE_4
              refine Tri.reg (l := [0, 1, 2, 3, 4, 5, 6]) rfl ?_
              refine F.q rfl rfl rfl (wanted_none rfl) (r_fieldAddr tf63_2 rfl) ?_
              refine F.q rfl rfl rfl (wanted_none rfl) (r_load ta54 rfl (fun w hw => cell_1 (box_cells (i := 0) rfl w hw) rfl)) ?_
              refine F.q rfl rfl rfl (wanted_none rfl) (r_move rfl) ?_
              refine F.q rfl rfl rfl (wanted_none rfl) (r_indexAddrS Tryd.underlying54 ti3 rfl hl_va0_2 rfl (rdl_some h85).1 (rdl_some h85).2.1) ?_
              refine F.q rfl rfl rfl (wanted_none rfl) (r_load ta3 rfl (fun w hw => cell_0 (Rd.flat ((fun _ hw => hr_a0_2.sep hw) w hw) (rdl_some h85).2.2) rfl)) ?_
              refine F.qc rfl rfl rfl (wanted_none rfl) (q_callF (xs := _) rfl ok87 rfl rfl (fun w hw => spec_l2Set.ok h87 w )) ?_
              refine F.q rfl rfl rfl (wanted_none rfl) (r_not rfl) ?_
              refine F.nil ?_
              refine Nrm.seq ?_
              refine Tri.cond (b := !t87) rfl (fun g_5 => ?_) (fun g_5 => ?_)
              · replace hE_4 := if_tt g_5 hE_4
                refine Tri.seq ?_
                refine Tri.reg (l := [0]) rfl ?_
                refine F.q rfl rfl rfl (wanted_none rfl) (r_assign rfl) ?_
                refine F.nil ?_
                refine Nrm.seq ?_
                refine Tri.ret ?_
                refine Rtn.block ?_
                refine Rtn.then ?_
                refine Rtn.then ?_
                refine Rtn.block ?_
                refine Rtn.then ?_
                cases hE_4
                replace h := Lr_inr h
                cases h
                exact Rtn.body (.tmp rfl .nil) (fun w hw => ⟨rfl, hw.ext⟩)
              · replace hE_4 := if_ff g_5 hE_4
                refine Tri.skip ?_
                refine Nrm.block ?_
                refine Nrm.seq ?_
                refine Tri.reg (l := [0, 1, 2]) rfl ?_
                refine F.q rfl rfl rfl (wanted_none rfl) (r_move rfl) ?_
                refine F.q rfl rfl rfl (wanted_none rfl) (r_add rfl rfl) ?_
                refine F.q rfl rfl rfl (wanted_none rfl) (r_assign rfl) ?_
                refine F.nil ?_
                refine Nrm.round ?_
                refine Rnd.only [1, 5] rfl ?_
                refine Rnd.pick [0] rfl rfl ?_
                exact ih_2 _ _ ⟨w64 (x5 + 1), hE_4, rfl, rfl⟩
            · replace hE_4 := if_ff g_4 hE_4
              refine Tri.exit ?_
              refine Exi.then ?_
              refine Exi.then ?_
              refine Exi.same ?_
              cases hE_4
              replace h := Lr_inl h
              refine Nrm.seq ?_
              refine Tri.seq ?_
              refine Tri.reg (l := [0]) rfl ?_
              refine F.q rfl rfl rfl (wanted_none rfl) (r_assign rfl) ?_
              refine F.nil ?_
              refine Nrm.seq ?_
              refine Tri.ret ?_
              cases h
              exact Rtn.body (.tmp rfl .nil) (fun w hw => ⟨rfl, hw.ext⟩)
  · obtain ⟨t8, h8, hE_1⟩ := bind_some hE_1
    rcases Bool.eq_false_or_eq_true (!t8) with g10 | g10
    · replace hE_1 := if_tt g10 hE_1
      refine Tri.reg (l := [0, 1, 2, 3, 4, 5, 6, 7, 8, 9, 10, 11, 12, 13, 14, 15, 16, 17]) rfl ?_
      refine F.q rfl rfl rfl (wanted_none rfl) (r_fieldAddr tf63_0 rfl) ?_
      refine F.q rfl rfl rfl (wanted_none rfl) (r_load ta3 rfl (fun w hw => cell_1 (box_cells (i := 0) rfl w hw) rfl)) ?_
      refine F.qc rfl rfl rfl (wanted_none rfl) (q_callF (xs := _) rfl ok38 rfl rfl (fun w hw => spec_l1In.ok h8 w )) ?_
      refine F.q rfl rfl rfl (wanted_none rfl) (r_not rfl) ?_
      refine F.q rfl rfl rfl (wanted_none rfl) (r_move rfl) ?_
      refine F.sk rfl rfl rfl (wf rfl rfl rfl g10) ?_
      refine F.sk rfl rfl rfl (wf rfl rfl rfl g10) ?_
      refine F.sk rfl rfl rfl (wf rfl rfl rfl g10) ?_
      refine F.sk rfl rfl rfl (wf rfl rfl rfl g10) ?_
      refine F.q rfl rfl rfl (wanted_none rfl) (r_pick rfl rfl g10) ?_
      refine F.q rfl rfl rfl (wanted_none rfl) (r_move rfl) ?_
      refine F.sk rfl rfl rfl (wf rfl rfl rfl rfl) ?_
      refine F.sk rfl rfl rfl (wf rfl rfl rfl rfl) ?_
      refine F.sk rfl rfl rfl (wf rfl rfl rfl rfl) ?_
      refine F.sk rfl rfl rfl (wf rfl rfl rfl rfl) ?_
      refine F.sk rfl rfl rfl (wf rfl rfl rfl rfl) ?_
      refine F.sk rfl rfl rfl (wf rfl rfl rfl rfl) ?_
      refine F.q rfl rfl rfl (wanted_none rfl) (r_pick rfl rfl rfl) ?_
      refine F.nil ?_
      cases hE_1
      refine Nrm.only [1, 23] rfl ?_
      refine Nrm.pick [0] rfl rfl ?_
      exact hj_1 _ _ ⟨rfl, rfl⟩
    · replace hE_1 := if_ff g10 hE_1
      rcases Bool.eq_false_or_eq_true (decide ((a0_1.length : Int) > 30)) with g16 | g16
      · replace hE_1 := if_tt g16 hE_1
        refine Tri.reg (l := [0, 1, 2, 3, 4, 5, 6, 7, 8, 9, 10, 11, 12, 13, 14, 15, 16, 17]) rfl ?_
        refine F.q rfl rfl rfl (wanted_none rfl) (r_fieldAddr tf63_0 rfl) ?_
        refine F.q rfl rfl rfl (wanted_none rfl) (r_load ta3 rfl (fun w hw => cell_1 (box_cells (i := 0) rfl w hw) rfl)) ?_
        refine F.qc rfl rfl rfl (wanted_none rfl) (q_callF (xs := _) rfl ok38 rfl rfl (fun w hw => spec_l1In.ok h8 w )) ?_
        refine F.q rfl rfl rfl (wanted_none rfl) (r_not rfl) ?_
        refine F.q rfl rfl rfl (wanted_none rfl) (r_move rfl) ?_
        refine F.q rfl rfl rfl (wg rfl rfl rfl g10) (r_fieldAddr tf63_1 rfl) ?_
        refine F.q rfl rfl rfl (wg rfl rfl rfl g10) (r_load ta53 rfl (fun w hw => cell_1 (box_cells (i := 0) rfl w hw) rfl)) ?_
        refine F.q rfl rfl rfl (wg rfl rfl rfl g10) (r_len Tryd.underlying53 rfl hl_va0_1) ?_
        refine F.q rfl rfl rfl (wg rfl rfl rfl g10) (r_gtr rfl rfl) ?_
        refine F.q rfl rfl rfl (wanted_none rfl) (r_pickf rfl rfl g10) ?_
        refine F.q rfl rfl rfl (wanted_none rfl) (r_move rfl) ?_
        refine F.sk rfl rfl rfl (wf rfl rfl rfl g16) ?_
        refine F.sk rfl rfl rfl (wf rfl rfl rfl g16) ?_
        refine F.sk rfl rfl rfl (wf rfl rfl rfl g16) ?_
        refine F.sk rfl rfl rfl (wf rfl rfl rfl g16) ?_
        refine F.sk rfl rfl rfl (wf rfl rfl rfl g16) ?_
        refine F.sk rfl rfl rfl (wf rfl rfl rfl g16) ?_
        refine F.q rfl rfl rfl (wanted_none rfl) (r_pick rfl rfl g16) ?_
        refine F.nil ?_
        cases hE_1
        refine Nrm.only [1, 23] rfl ?_
        refine Nrm.pick [0] rfl rfl ?_
        exact hj_1 _ _ ⟨rfl, rfl⟩
      · replace hE_1 := if_ff g16 hE_1
        refine Tri.reg (l := [0, 1, 2, 3, 4, 5, 6, 7, 8, 9, 10, 11, 12, 13, 14, 15, 16, 17]) rfl ?_
        refine F.q rfl rfl rfl (wanted_none rfl) (r_fieldAddr tf63_0 rfl) ?_
        refine F.q rfl rfl rfl (wanted_none rfl) (r_load ta3 rfl (fun w hw => cell_1 (box_cells (i := 0) rfl w hw) rfl)) ?_
        refine F.qc rfl rfl rfl (wanted_none rfl) (q_callF (xs := _) rfl ok38 rfl rfl (fun w hw => spec_l1In.ok h8 w )) ?_
        refine F.q rfl rfl rfl (wanted_none rfl) (r_not rfl) ?_
        refine F.q rfl rfl rfl (wanted_none rfl) (r_move rfl) ?_
        refine F.q rfl rfl rfl (wg rfl rfl rfl g10) (r_fieldAddr tf63_1 rfl) ?_
        refine F.q rfl rfl rfl (wg rfl rfl rfl g10) (r_load ta53 rfl (fun w hw => cell_1 (box_cells (i := 0) rfl w hw) rfl)) ?_
        refine F.q rfl rfl rfl (wg rfl rfl rfl g10) (r_len Tryd.underlying53 rfl hl_va0_1) ?_
        refine F.q rfl rfl rfl (wg rfl rfl rfl g10) (r_gtr rfl rfl) ?_
        refine F.q rfl rfl rfl (wanted_none rfl) (r_pickf rfl rfl g10) ?_
        refine F.q rfl rfl rfl (wanted_none rfl) (r_move rfl) ?_
        refine F.q rfl rfl rfl (wg rfl rfl rfl g16) (r_fieldAddr tf63_2 rfl) ?_
        refine F.q rfl rfl rfl (wg rfl rfl rfl g16) (r_load ta54 rfl (fun w hw => cell_1 (box_cells (i := 0) rfl w hw) rfl)) ?_
        refine F.q rfl rfl rfl (wg rfl rfl rfl g16) (r_len Tryd.underlying54 rfl hl_va0_2) ?_
        refine F.q rfl rfl rfl (wg rfl rfl rfl g16) (r_fieldAddr tf63_0 rfl) ?_
        refine F.q rfl rfl rfl (wg rfl rfl rfl g16) (r_load ta3 rfl (fun w hw => cell_1 (box_cells (i := 0) rfl w hw) rfl)) ?_
        refine F.q rfl rfl rfl (wg rfl rfl rfl g16) (r_neq rfl rfl) ?_
        refine F.q rfl rfl rfl (wanted_none rfl) (r_pickf rfl rfl g16) ?_
        refine F.nil ?_
        cases hE_1
        refine Nrm.only [1, 23] rfl ?_
        refine Nrm.pick [0] rfl rfl ?_
        exact hj_1 _ _ ⟨rfl, rfl⟩

end Go.Proofs

/- loop.example/g01158/spec.l2Joins -/

namespace Go.Proofs
open Go Go.Ga
set_option linter.unusedVariables false
set_option maxRecDepth 100000
set_option maxHeartbeats 4000000
def spec_l2Joins.f (k : Nat) (a0_0 : Int) (a0_1 : Int) (a0_2 : Int) (a1 : Int) (a2 : Int) : Option (Bool) := ((if (a0_0 == a1) = true then (if (a0_1 == a2) = true then some true else (if (a0_0 == a2) = true then some (a0_1 == a1) else some false)) else (if (a0_0 == a2) = true then some (a0_1 == a1) else some false))).bind fun y6 => some y6

theorem spec_l2Joins.ok {k : Nat}  {a0_0 : Int} {a0_1 : Int} {a0_2 : Int} {a1 : Int} {a2 : Int} {r0 : Bool} (h : spec_l2Joins.f k a0_0 a0_1 a0_2 a1 a2 = some r0) (w : World) :
    Calls Tryd.prog 105 ([.agg ([.int .i64 a0_0, .int .i64 a0_1, .int .i64 a0_2].toArray), .int .i64 a1, .int .i64 a2] : List Value).toArray w (fun e w' => e = .returned (.bool r0) ∧ Ext w w') := by
  unfold spec_l2Joins.f at h
  refine Calls.of_tri (N := 29) Tryd.func105 rfl rfl rfl (Sep.nil (M := noM)) ?_
  refine Tri.seq ?_
  refine Tri.reg (l := [0, 1]) rfl ?_
  refine F.m rfl rfl rfl (wanted_none rfl) (m_boxG rfl rfl) ?_
  rintro _ _ ⟨b3_1, rfl, rfl⟩
  refine F.q rfl rfl rfl (wanted_none rfl) (r_assign rfl) ?_
  refine F.nil ?_
  refine Nrm.seq ?_
  refine Tri.seq ?_
  obtain ⟨y6, hE_1, h⟩ := bind_some h
  refine Tri.cut (fun e' C' => e' = [(6, .bool y6)] ∧ C' = Sep w noM []) ?_ (fun hj_1 => ?_)
  · rintro _ _ ⟨rfl, rfl⟩
    refine Nrm.seq ?_
    refine Tri.ret ?_
    cases h
    exact Rtn.body (.tmp rfl .nil) (fun w hw => ⟨rfl, hw.ext⟩)
  · rcases Bool.eq_false_or_eq_true (a0_0 == a1) with g11 | g11
    · replace hE_1 := if_tt g11 hE_1
      rcases Bool.eq_false_or_eq_true (a0_1 == a2) with g17 | g17
      · replace hE_1 := if_tt g17 hE_1
        refine Tri.reg (l := [0, 1, 2, 3, 4, 5, 6, 7, 8, 9, 10, 11, 12, 13, 14, 15, 16, 17, 18, 19, 20, 21, 22]) rfl ?_
        refine F.q rfl rfl rfl (wanted_none rfl) (r_indexAddrA Tryd.underlying114 ti3 rfl rfl (by decide) (by decide)) ?_
        refine F.q rfl rfl rfl (wanted_none rfl) (r_load ta3 rfl (fun w hw => cell_1 (box_cells (i := 0) rfl w hw) rfl)) ?_
        refine F.q rfl rfl rfl (wanted_none rfl) (r_move rfl) ?_
        refine F.q rfl rfl rfl (wanted_none rfl) (r_eql rfl rfl) ?_
        refine F.q rfl rfl rfl (wanted_none rfl) (r_move rfl) ?_
        refine F.q rfl rfl rfl (wg rfl rfl rfl g11) (r_indexAddrA Tryd.underlying114 ti3 rfl rfl (by decide) (by decide)) ?_
        refine F.q rfl rfl rfl (wg rfl rfl rfl g11) (r_load ta3 rfl (fun w hw => cell_1 (box_cells (i := 0) rfl w hw) rfl)) ?_
        refine F.q rfl rfl rfl (wg rfl rfl rfl g11) (r_move rfl) ?_
        refine F.q rfl rfl rfl (wg rfl rfl rfl g11) (r_eql rfl rfl) ?_
        refine F.q rfl rfl rfl (wanted_none rfl) (r_pick rfl rfl g11) ?_
        refine F.q rfl rfl rfl (wanted_none rfl) (r_move rfl) ?_
        refine F.sk rfl rfl rfl (wf rfl rfl rfl g17) ?_
        refine F.sk rfl rfl rfl (wf rfl rfl rfl g17) ?_
        refine F.sk rfl rfl rfl (wf rfl rfl rfl g17) ?_
        refine F.sk rfl rfl rfl (wf rfl rfl rfl g17) ?_
        refine F.sk rfl rfl rfl (wf rfl rfl rfl g17) ?_
        refine F.sk rfl rfl rfl (wanted_undef rfl rfl rfl) ?_
        refine F.sk rfl rfl rfl (wanted_undef rfl rfl rfl) ?_
        refine F.sk rfl rfl rfl (wanted_undef rfl rfl rfl) ?_
        refine F.sk rfl rfl rfl (wanted_undef rfl rfl rfl) ?_
        refine F.sk rfl rfl rfl (wf rfl rfl rfl g17) ?_
        refine F.q rfl rfl rfl (wanted_none rfl) (r_pick rfl rfl g17) ?_
        refine F.q rfl rfl rfl (wanted_none rfl) (r_assign rfl) ?_
        refine F.nil ?_
        cases hE_1
        refine Nrm.only [6] rfl ?_
        refine Nrm.pick [] rfl rfl ?_
        exact hj_1 _ _ ⟨rfl, rfl⟩
      · replace hE_1 := if_ff g17 hE_1
        rcases Bool.eq_false_or_eq_true (a0_0 == a2) with g22 | g22
        · replace hE_1 := if_tt g22 hE_1
          refine Tri.reg (l := [0, 1, 2, 3, 4, 5, 6, 7, 8, 9, 10, 11, 12, 13, 14, 15, 16, 17, 18, 19, 20, 21, 22]) rfl ?_
          refine F.q rfl rfl rfl (wanted_none rfl) (r_indexAddrA Tryd.underlying114 ti3 rfl rfl (by decide) (by decide)) ?_
          refine F.q rfl rfl rfl (wanted_none rfl) (r_load ta3 rfl (fun w hw => cell_1 (box_cells (i := 0) rfl w hw) rfl)) ?_
          refine F.q rfl rfl rfl (wanted_none rfl) (r_move rfl) ?_
          refine F.q rfl rfl rfl (wanted_none rfl) (r_eql rfl rfl) ?_
          refine F.q rfl rfl rfl (wanted_none rfl) (r_move rfl) ?_
          refine F.q rfl rfl rfl (wg rfl rfl rfl g11) (r_indexAddrA Tryd.underlying114 ti3 rfl rfl (by decide) (by decide)) ?_
          refine F.q rfl rfl rfl (wg rfl rfl rfl g11) (r_load ta3 rfl (fun w hw => cell_1 (box_cells (i := 0) rfl w hw) rfl)) ?_
          refine F.q rfl rfl rfl (wg rfl rfl rfl g11) (r_move rfl) ?_
          refine F.q rfl rfl rfl (wg rfl rfl rfl g11) (r_eql rfl rfl) ?_
          refine F.q rfl rfl rfl (wanted_none rfl) (r_pick rfl rfl g11) ?_
          refine F.q rfl rfl rfl (wanted_none rfl) (r_move rfl) ?_
          refine F.q rfl rfl rfl (wg rfl rfl rfl g17) (r_indexAddrA Tryd.underlying114 ti3 rfl rfl (by decide) (by decide)) ?_
          refine F.q rfl rfl rfl (wg rfl rfl rfl g17) (r_load ta3 rfl (fun w hw => cell_1 (box_cells (i := 0) rfl w hw) rfl)) ?_
          refine F.q rfl rfl rfl (wg rfl rfl rfl g17) (r_move rfl) ?_
          refine F.q rfl rfl rfl (wg rfl rfl rfl g17) (r_eql rfl rfl) ?_
          refine F.q rfl rfl rfl (wg rfl rfl rfl g17) (r_move rfl) ?_
          refine F.q rfl rfl rfl (wg rfl rfl rfl g22) (r_indexAddrA Tryd.underlying114 ti3 rfl rfl (by decide) (by decide)) ?_
          refine F.q rfl rfl rfl (wg rfl rfl rfl g22) (r_load ta3 rfl (fun w hw => cell_1 (box_cells (i := 0) rfl w hw) rfl)) ?_
          refine F.q rfl rfl rfl (wg rfl rfl rfl g22) (r_move rfl) ?_
          refine F.q rfl rfl rfl (wg rfl rfl rfl g22) (r_eql rfl rfl) ?_
          refine F.q rfl rfl rfl (wg rfl rfl rfl g17) (r_pick rfl rfl g22) ?_
          refine F.q rfl rfl rfl (wanted_none rfl) (r_pickf rfl rfl g17) ?_
          refine F.q rfl rfl rfl (wanted_none rfl) (r_assign rfl) ?_
          refine F.nil ?_
          cases hE_1
          refine Nrm.only [6] rfl ?_
          refine Nrm.pick [] rfl rfl ?_
          exact hj_1 _ _ ⟨rfl, rfl⟩
        · replace hE_1 := if_ff g22 hE_1
          refine Tri.reg (l := [0, 1, 2, 3, 4, 5, 6, 7, 8, 9, 10, 11, 12, 13, 14, 15, 16, 17, 18, 19, 20, 21, 22]) rfl ?_
          refine F.q rfl rfl rfl (wanted_none rfl) (r_indexAddrA Tryd.underlying114 ti3 rfl rfl (by decide) (by decide)) ?_
          refine F.q rfl rfl rfl (wanted_none rfl) (r_load ta3 rfl (fun w hw => cell_1 (box_cells (i := 0) rfl w hw) rfl)) ?_
          refine F.q rfl rfl rfl (wanted_none rfl) (r_move rfl) ?_
          refine F.q rfl rfl rfl (wanted_none rfl) (r_eql rfl rfl) ?_
          refine F.q rfl rfl rfl (wanted_none rfl) (r_move rfl) ?_
          refine F.q rfl rfl rfl (wg rfl rfl rfl g11) (r_indexAddrA Tryd.underlying114 ti3 rfl rfl (by decide) (by decide)) ?_
          refine F.q rfl rfl rfl (wg rfl rfl rfl g11) (r_load ta3 rfl (fun w hw => cell_1 (box_cells (i := 0) rfl w hw) rfl)) ?_
          refine F.q rfl rfl rfl (wg rfl rfl rfl g11) (r_move rfl) ?_
          refine F.q rfl rfl rfl (wg rfl rfl rfl g11) (r_eql rfl rfl) ?_
          refine F.q rfl rfl rfl (wanted_none rfl) (r_pick rfl rfl g11) ?_
          refine F.q rfl rfl rfl (wanted_none rfl) (r_move rfl) ?_
          refine F.q rfl rfl rfl (wg rfl rfl rfl g17) (r_indexAddrA Tryd.underlying114 ti3 rfl rfl (by decide) (by decide)) ?_
          refine F.q rfl rfl rfl (wg rfl rfl rfl g17) (r_load ta3 rfl (fun w hw => cell_1 (box_cells (i := 0) rfl w hw) rfl)) ?_
          refine F.q rfl rfl rfl (wg rfl rfl rfl g17) (r_move rfl) ?_
          refine F.q rfl rfl rfl (wg rfl rfl rfl g17) (r_eql rfl rfl) ?_
          refine F.q rfl rfl rfl (wg rfl rfl rfl g17) (r_move rfl) ?_
          refine F.sk rfl rfl rfl (wf rfl rfl rfl g22) ?_
          refine F.sk rfl rfl rfl (wf rfl rfl rfl g22) ?_
          refine F.sk rfl rfl rfl (wf rfl rfl rfl g22) ?_
          refine F.sk rfl rfl rfl (wf rfl rfl rfl g22) ?_
          refine F.q rfl rfl rfl (wg rfl rfl rfl g17) (r_pickf rfl rfl g22) ?_
          refine F.q rfl rfl rfl (wanted_none rfl) (r_pickf rfl rfl g17) ?_
          refine F.q rfl rfl rfl (wanted_none rfl) (r_assign rfl) ?_
          refine F.nil ?_
          cases hE_1
          refine Nrm.only [6] rfl ?_
          refine Nrm.pick [] rfl rfl ?_
          exact hj_1 _ _ ⟨rfl, rfl⟩
    · replace hE_1 := if_ff g11 hE_1
      rcases Bool.eq_false_or_eq_true (a0_0 == a2) with g22 | g22
      · replace hE_1 := if_tt g22 hE_1
        refine Tri.reg (l := [0, 1, 2, 3, 4, 5, 6, 7, 8, 9, 10, 11, 12, 13, 14, 15, 16, 17, 18, 19, 20, 21, 22]) rfl ?_
        refine F.q rfl rfl rfl (wanted_none rfl) (r_indexAddrA Tryd.underlying114 ti3 rfl rfl (by decide) (by decide)) ?_
        refine F.q rfl rfl rfl (wanted_none rfl) (r_load ta3 rfl (fun w hw => cell_1 (box_cells (i := 0) rfl w hw) rfl)) ?_
        refine F.q rfl rfl rfl (wanted_none rfl) (r_move rfl) ?_
        refine F.q rfl rfl rfl (wanted_none rfl) (r_eql rfl rfl) ?_
        refine F.q rfl rfl rfl (wanted_none rfl) (r_move rfl) ?_
        refine F.sk rfl rfl rfl (wf rfl rfl rfl g11) ?_
        refine F.sk rfl rfl rfl (wf rfl rfl rfl g11) ?_
        refine F.sk rfl rfl rfl (wf rfl rfl rfl g11) ?_
        refine F.sk rfl rfl rfl (wf rfl rfl rfl g11) ?_
        refine F.q rfl rfl rfl (wanted_none rfl) (r_pickf rfl rfl g11) ?_
        refine F.q rfl rfl rfl (wanted_none rfl) (r_move rfl) ?_
        refine F.q rfl rfl rfl (wg rfl rfl rfl rfl) (r_indexAddrA Tryd.underlying114 ti3 rfl rfl (by decide) (by decide)) ?_
        refine F.q rfl rfl rfl (wg rfl rfl rfl rfl) (r_load ta3 rfl (fun w hw => cell_1 (box_cells (i := 0) rfl w hw) rfl)) ?_
        refine F.q rfl rfl rfl (wg rfl rfl rfl rfl) (r_move rfl) ?_
        refine F.q rfl rfl rfl (wg rfl rfl rfl rfl) (r_eql rfl rfl) ?_
        refine F.q rfl rfl rfl (wg rfl rfl rfl rfl) (r_move rfl) ?_
        refine F.q rfl rfl rfl (wg rfl rfl rfl g22) (r_indexAddrA Tryd.underlying114 ti3 rfl rfl (by decide) (by decide)) ?_
        refine F.q rfl rfl rfl (wg rfl rfl rfl g22) (r_load ta3 rfl (fun w hw => cell_1 (box_cells (i := 0) rfl w hw) rfl)) ?_
        refine F.q rfl rfl rfl (wg rfl rfl rfl g22) (r_move rfl) ?_
        refine F.q rfl rfl rfl (wg rfl rfl rfl g22) (r_eql rfl rfl) ?_
        refine F.q rfl rfl rfl (wg rfl rfl rfl rfl) (r_pick rfl rfl g22) ?_
        refine F.q rfl rfl rfl (wanted_none rfl) (r_pickf rfl rfl rfl) ?_
        refine F.q rfl rfl rfl (wanted_none rfl) (r_assign rfl) ?_
        refine F.nil ?_
        cases hE_1
        refine Nrm.only [6] rfl ?_
        refine Nrm.pick [] rfl rfl ?_
        exact hj_1 _ _ ⟨rfl, rfl⟩
      · replace hE_1 := if_ff g22 hE_1
        refine Tri.reg (l := [0, 1, 2, 3, 4, 5, 6, 7, 8, 9, 10, 11, 12, 13, 14, 15, 16, 17, 18, 19, 20, 21, 22]) rfl ?_
        refine F.q rfl rfl rfl (wanted_none rfl) (r_indexAddrA Tryd.underlying114 ti3 rfl rfl (by decide) (by decide)) ?_
        refine F.q rfl rfl rfl (wanted_none rfl) (r_load ta3 rfl (fun w hw => cell_1 (box_cells (i := 0) rfl w hw) rfl)) ?_
        refine F.q rfl rfl rfl (wanted_none rfl) (r_move rfl) ?_
        refine F.q rfl rfl rfl (wanted_none rfl) (r_eql rfl rfl) ?_
        refine F.q rfl rfl rfl (wanted_none rfl) (r_move rfl) ?_
        refine F.sk rfl rfl rfl (wf rfl rfl rfl g11) ?_
        refine F.sk rfl rfl rfl (wf rfl rfl rfl g11) ?_
        refine F.sk rfl rfl rfl (wf rfl rfl rfl g11) ?_
        refine F.sk rfl rfl rfl (wf rfl rfl rfl g11) ?_
        refine F.q rfl rfl rfl (wanted_none rfl) (r_pickf rfl rfl g11) ?_
        refine F.q rfl rfl rfl (wanted_none rfl) (r_move rfl) ?_
        refine F.q rfl rfl rfl (wg rfl rfl rfl rfl) (r_indexAddrA Tryd.underlying114 ti3 rfl rfl (by decide) (by decide)) ?_
        refine F.q rfl rfl rfl (wg rfl rfl rfl rfl) (r_load ta3 rfl (fun w hw => cell_1 (box_cells (i := 0) rfl w hw) rfl)) ?_
        refine F.q rfl rfl rfl (wg rfl rfl rfl rfl) (r_move rfl) ?_
        refine F.q rfl rfl rfl (wg rfl rfl rfl rfl) (r_eql rfl rfl) ?_
        refine F.q rfl rfl rfl (wg rfl rfl rfl rfl) (r_move rfl) ?_
        refine F.sk rfl rfl rfl (wf rfl rfl rfl g22) ?_
        refine F.sk rfl rfl rfl (wf rfl rfl rfl g22) ?_
        refine F.sk rfl rfl rfl (wf rfl rfl rfl g22) ?_
        refine F.sk rfl rfl rfl (wf rfl rfl rfl g22) ?_
        refine F.q rfl rfl rfl (wg rfl rfl rfl rfl) (r_pickf rfl rfl g22) ?_
        refine F.q rfl rfl rfl (wanted_none rfl) (r_pickf rfl rfl rfl) ?_
        refine F.q rfl rfl rfl (wanted_none rfl) (r_assign rfl) ?_
        refine F.nil ?_
        cases hE_1
        refine Nrm.only [6] rfl ?_
        refine Nrm.pick [] rfl rfl ?_
        exact hj_1 _ _ ⟨rfl, rfl⟩

end Go.Proofs

/- loop.example/g01158/spec.l2Has -/

namespace Go.Proofs
open Go Go.Ga
set_option linter.unusedVariables false
set_option maxRecDepth 100000
set_option maxHeartbeats 4000000
def spec_l2Has.f (k : Nat) (a0 : Int) (a1 : Int) : Option (Bool) := some ((band a0 a1) == a1)

theorem spec_l2Has.ok {k : Nat}  {a0 : Int} {a1 : Int} {r0 : Bool} (h : spec_l2Has.f k a0 a1 = some r0) (w : World) :
    Calls Tryd.prog 106 ([.int .i64 a0, .int .i64 a1] : List Value).toArray w (fun e w' => e = .returned (.bool r0) ∧ Ext w w') := by
  unfold spec_l2Has.f at h
  refine Calls.of_tri (N := 10) Tryd.func106 rfl rfl rfl (Sep.nil (M := noM)) ?_
  refine Tri.seq ?_
  refine Tri.reg (l := [0]) rfl ?_
  refine F.q rfl rfl rfl (wanted_none rfl) (r_assign rfl) ?_
  refine F.nil ?_
  refine Nrm.seq ?_
  refine Tri.seq ?_
  refine Tri.reg (l := [0, 1, 2, 3, 4, 5]) rfl ?_
  refine F.q rfl rfl rfl (wanted_none rfl) (r_move rfl) ?_
  refine F.q rfl rfl rfl (wanted_none rfl) (r_move rfl) ?_
  refine F.q rfl rfl rfl (wanted_none rfl) (r_and rfl rfl) ?_
  refine F.q rfl rfl rfl (wanted_none rfl) (r_move rfl) ?_
  refine F.q rfl rfl rfl (wanted_none rfl) (r_eql rfl rfl) ?_
  refine F.q rfl rfl rfl (wanted_none rfl) (r_assign rfl) ?_
  refine F.nil ?_
  refine Nrm.seq ?_
  refine Tri.ret ?_
  cases h
  exact Rtn.body (.tmp rfl .nil) (fun w hw => ⟨rfl, hw.ext⟩)

end Go.Proofs

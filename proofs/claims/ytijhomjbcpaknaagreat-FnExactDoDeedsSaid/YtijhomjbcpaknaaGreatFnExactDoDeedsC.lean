/- A part of the proof of FnExactDoDeeds: what the functions of the program compute, walked on the model. No condition. -/
import Derived.Test.YtijhomjbcpaknaaGreatChecked
import Derived.Test.YtijhomjbcpaknaaGreatFnExactDoDeedsB
set_option linter.unusedSimpArgs false
namespace Go.Proofs
open Go Go.Ga Go.Ga.Rp Go.Ga.Flat
theorem mixedT : Tryz.prog.follows .mixedOrders = true := by kernel_rfl
theorem eg72 : Tryz.prog.eqGuardType Tryz.prog.depth 72 = false := by kernel_rfl
theorem ok10 : CallOk Tryz.prog 10 := .of Tryz.func10 rfl (by decide)
theorem ok11 : CallOk Tryz.prog 11 := .of Tryz.func11 rfl (by decide)
theorem ok12 : CallOk Tryz.prog 12 := .of Tryz.func12 rfl (by decide)
theorem ok13 : CallOk Tryz.prog 13 := .of Tryz.func13 rfl (by decide)
theorem ok14 : CallOk Tryz.prog 14 := .of Tryz.func14 rfl (by decide)
theorem ok15 : CallOk Tryz.prog 15 := .of Tryz.func15 rfl (by decide)
theorem ok16 : CallOk Tryz.prog 16 := .of Tryz.func16 rfl (by decide)
theorem ok17 : CallOk Tryz.prog 17 := .of Tryz.func17 rfl (by decide)
theorem ok18 : CallOk Tryz.prog 18 := .of Tryz.func18 rfl (by decide)
theorem ok19 : CallOk Tryz.prog 19 := .of Tryz.func19 rfl (by decide)
theorem ok20 : CallOk Tryz.prog 20 := .of Tryz.func20 rfl (by decide)
theorem ok21 : CallOk Tryz.prog 21 := .of Tryz.func21 rfl (by decide)
theorem ok22 : CallOk Tryz.prog 22 := .of Tryz.func22 rfl (by decide)
theorem ok23 : CallOk Tryz.prog 23 := .of Tryz.func23 rfl (by decide)
theorem ok24 : CallOk Tryz.prog 24 := .of Tryz.func24 rfl (by decide)
theorem ok25 : CallOk Tryz.prog 25 := .of Tryz.func25 rfl (by decide)
theorem ok26 : CallOk Tryz.prog 26 := .of Tryz.func26 rfl (by decide)
theorem ok27 : CallOk Tryz.prog 27 := .of Tryz.func27 rfl (by decide)
theorem ok28 : CallOk Tryz.prog 28 := .of Tryz.func28 rfl (by decide)
theorem ok29 : CallOk Tryz.prog 29 := .of Tryz.func29 rfl (by decide)
theorem ok30 : CallOk Tryz.prog 30 := .of Tryz.func30 rfl (by decide)
theorem ok31 : CallOk Tryz.prog 31 := .of Tryz.func31 rfl (by decide)
theorem ok32 : CallOk Tryz.prog 32 := .of Tryz.func32 rfl (by decide)
theorem ok33 : CallOk Tryz.prog 33 := .of Tryz.func33 rfl (by decide)
theorem ok34 : CallOk Tryz.prog 34 := .of Tryz.func34 rfl (by decide)
theorem ok35 : CallOk Tryz.prog 35 := .of Tryz.func35 rfl (by decide)
theorem ok36 : CallOk Tryz.prog 36 := .of Tryz.func36 rfl (by decide)
theorem ok37 : CallOk Tryz.prog 37 := .of Tryz.func37 rfl (by decide)
theorem ok38 : CallOk Tryz.prog 38 := .of Tryz.func38 rfl (by decide)
theorem ok39 : CallOk Tryz.prog 39 := .of Tryz.func39 rfl (by decide)
theorem ok4 : CallOk Tryz.prog 4 := .of Tryz.func4 rfl (by decide)
theorem ok40 : CallOk Tryz.prog 40 := .of Tryz.func40 rfl (by decide)
theorem ok41 : CallOk Tryz.prog 41 := .of Tryz.func41 rfl (by decide)
theorem ok42 : CallOk Tryz.prog 42 := .of Tryz.func42 rfl (by decide)
theorem ok43 : CallOk Tryz.prog 43 := .of Tryz.func43 rfl (by decide)
theorem ok44 : CallOk Tryz.prog 44 := .of Tryz.func44 rfl (by decide)
theorem ok45 : CallOk Tryz.prog 45 := .of Tryz.func45 rfl (by decide)
theorem ok46 : CallOk Tryz.prog 46 := .of Tryz.func46 rfl (by decide)
theorem ok47 : CallOk Tryz.prog 47 := .of Tryz.func47 rfl (by decide)
theorem ok48 : CallOk Tryz.prog 48 := .of Tryz.func48 rfl (by decide)
theorem ok49 : CallOk Tryz.prog 49 := .of Tryz.func49 rfl (by decide)
theorem ok5 : CallOk Tryz.prog 5 := .of Tryz.func5 rfl (by decide)
theorem ok50 : CallOk Tryz.prog 50 := .of Tryz.func50 rfl (by decide)
theorem ok51 : CallOk Tryz.prog 51 := .of Tryz.func51 rfl (by decide)
theorem ok52 : CallOk Tryz.prog 52 := .of Tryz.func52 rfl (by decide)
theorem ok53 : CallOk Tryz.prog 53 := .of Tryz.func53 rfl (by decide)
theorem ok54 : CallOk Tryz.prog 54 := .of Tryz.func54 rfl (by decide)
theorem ok55 : CallOk Tryz.prog 55 := .of Tryz.func55 rfl (by decide)
theorem ok56 : CallOk Tryz.prog 56 := .of Tryz.func56 rfl (by decide)
theorem ok57 : CallOk Tryz.prog 57 := .of Tryz.func57 rfl (by decide)
theorem ok58 : CallOk Tryz.prog 58 := .of Tryz.func58 rfl (by decide)
theorem ok59 : CallOk Tryz.prog 59 := .of Tryz.func59 rfl (by decide)
theorem ok6 : CallOk Tryz.prog 6 := .of Tryz.func6 rfl (by decide)
theorem ok60 : CallOk Tryz.prog 60 := .of Tryz.func60 rfl (by decide)
theorem ok61 : CallOk Tryz.prog 61 := .of Tryz.func61 rfl (by decide)
theorem ok62 : CallOk Tryz.prog 62 := .of Tryz.func62 rfl (by decide)
theorem ok63 : CallOk Tryz.prog 63 := .of Tryz.func63 rfl (by decide)
theorem ok64 : CallOk Tryz.prog 64 := .of Tryz.func64 rfl (by decide)
theorem ok65 : CallOk Tryz.prog 65 := .of Tryz.func65 rfl (by decide)
theorem ok66 : CallOk Tryz.prog 66 := .of Tryz.func66 rfl (by decide)
theorem ok67 : CallOk Tryz.prog 67 := .of Tryz.func67 rfl (by decide)
theorem ok68 : CallOk Tryz.prog 68 := .of Tryz.func68 rfl (by decide)
theorem ok69 : CallOk Tryz.prog 69 := .of Tryz.func69 rfl (by decide)
theorem ok7 : CallOk Tryz.prog 7 := .of Tryz.func7 rfl (by decide)
theorem ok70 : CallOk Tryz.prog 70 := .of Tryz.func70 rfl (by decide)
theorem ok71 : CallOk Tryz.prog 71 := .of Tryz.func71 rfl (by decide)
theorem ok72 : CallOk Tryz.prog 72 := .of Tryz.func72 rfl (by decide)
theorem ok73 : CallOk Tryz.prog 73 := .of Tryz.func73 rfl (by decide)
theorem ok74 : CallOk Tryz.prog 74 := .of Tryz.func74 rfl (by decide)
theorem ok75 : CallOk Tryz.prog 75 := .of Tryz.func75 rfl (by decide)
theorem ok76 : CallOk Tryz.prog 76 := .of Tryz.func76 rfl (by decide)
theorem ok77 : CallOk Tryz.prog 77 := .of Tryz.func77 rfl (by decide)
theorem ok78 : CallOk Tryz.prog 78 := .of Tryz.func78 rfl (by decide)
theorem ok79 : CallOk Tryz.prog 79 := .of Tryz.func79 rfl (by decide)
theorem ok8 : CallOk Tryz.prog 8 := .of Tryz.func8 rfl (by decide)
theorem ok80 : CallOk Tryz.prog 80 := .of Tryz.func80 rfl (by decide)
theorem ok81 : CallOk Tryz.prog 81 := .of Tryz.func81 rfl (by decide)
theorem ok82 : CallOk Tryz.prog 82 := .of Tryz.func82 rfl (by decide)
theorem ok83 : CallOk Tryz.prog 83 := .of Tryz.func83 rfl (by decide)
theorem ok84 : CallOk Tryz.prog 84 := .of Tryz.func84 rfl (by decide)
theorem ok85 : CallOk Tryz.prog 85 := .of Tryz.func85 rfl (by decide)
theorem ok86 : CallOk Tryz.prog 86 := .of Tryz.func86 rfl (by decide)
theorem ok88 : CallOk Tryz.prog 88 := .of Tryz.func88 rfl (by decide)
theorem ok9 : CallOk Tryz.prog 9 := .of Tryz.func9 rfl (by decide)
theorem ok98 : CallOk Tryz.prog 98 := .of Tryz.func98 rfl (by decide)
theorem ta22 : TAgg Tryz.prog 22 false := .of (by kernel_rfl)
theorem ta23 : TAgg Tryz.prog 23 false := .of (by kernel_rfl)
theorem ta25 : TAgg Tryz.prog 25 true := .of (by kernel_rfl)
theorem ta27 : TAgg Tryz.prog 27 true := .of (by kernel_rfl)
theorem ta3 : TAgg Tryz.prog 3 false := .of (by kernel_rfl)
theorem ta31 : TAgg Tryz.prog 31 true := .of (by kernel_rfl)
theorem ta33 : TAgg Tryz.prog 33 true := .of (by kernel_rfl)
theorem ta51 : TAgg Tryz.prog 51 true := .of (by kernel_rfl)
theorem ta55 : TAgg Tryz.prog 55 true := .of (by kernel_rfl)
theorem ta72 : TAgg Tryz.prog 72 true := .of (by kernel_rfl)
theorem tf25_0 : TField Tryz.prog 25 0 0 := .of (k := 0) (by kernel_rfl)
theorem tf25_1 : TField Tryz.prog 25 1 1 := .of (k := 0) (by kernel_rfl)
theorem tf25_2 : TField Tryz.prog 25 2 2 := .of (k := 0) (by kernel_rfl)
theorem tf27_0 : TField Tryz.prog 27 0 0 := .of (k := 2) (by kernel_rfl)
theorem tf27_1 : TField Tryz.prog 27 1 3 := .of (k := 0) (by kernel_rfl)
theorem tf27_2 : TField Tryz.prog 27 2 4 := .of (k := 0) (by kernel_rfl)
theorem tf31_0 : TField Tryz.prog 31 0 0 := .of (k := 0) (by kernel_rfl)
theorem tf31_1 : TField Tryz.prog 31 1 1 := .of (k := 0) (by kernel_rfl)
theorem tf31_2 : TField Tryz.prog 31 2 2 := .of (k := 0) (by kernel_rfl)
theorem tf33_0 : TField Tryz.prog 33 0 0 := .of (k := 2) (by kernel_rfl)
theorem tf33_1 : TField Tryz.prog 33 1 3 := .of (k := 0) (by kernel_rfl)
theorem tf33_2 : TField Tryz.prog 33 2 4 := .of (k := 0) (by kernel_rfl)
theorem tf51_0 : TField Tryz.prog 51 0 0 := .of (k := 0) (by kernel_rfl)
theorem tf51_1 : TField Tryz.prog 51 1 1 := .of (k := 0) (by kernel_rfl)
theorem tf51_2 : TField Tryz.prog 51 2 2 := .of (k := 0) (by kernel_rfl)
theorem tf51_3 : TField Tryz.prog 51 3 3 := .of (k := 0) (by kernel_rfl)
theorem tf55_0 : TField Tryz.prog 55 0 0 := .of (k := 0) (by kernel_rfl)
theorem tf55_1 : TField Tryz.prog 55 1 1 := .of (k := 0) (by kernel_rfl)
theorem tf55_2 : TField Tryz.prog 55 2 2 := .of (k := 0) (by kernel_rfl)
theorem tf55_3 : TField Tryz.prog 55 3 3 := .of (k := 0) (by kernel_rfl)
theorem ti110 : TInfo Tryz.prog 110 1 8 (.int .u64 0) := .of (by kernel_rfl)
theorem ti22 : TInfo Tryz.prog 22 1 24 (.slice none 0 0) := .of (by kernel_rfl)
theorem ti23 : TInfo Tryz.prog 23 1 24 (.slice none 0 0) := .of (by kernel_rfl)
theorem ti25 : TInfo Tryz.prog 25 3 56 (.agg #[.int .i64 0, .slice none 0 0, .slice none 0 0]) := .of (by kernel_rfl)
theorem ti27 : TInfo Tryz.prog 27 5 88 (.agg #[.int .i64 0, .slice none 0 0, .slice none 0 0, .slice none 0 0, .int .i64 0]) := .of (by kernel_rfl)
theorem ti3 : TInfo Tryz.prog 3 1 8 (.int .i64 0) := .of (by kernel_rfl)
theorem ti31 : TInfo Tryz.prog 31 3 56 (.agg #[.int .i64 0, .slice none 0 0, .slice none 0 0]) := .of (by kernel_rfl)
theorem ti33 : TInfo Tryz.prog 33 5 88 (.agg #[.int .i64 0, .slice none 0 0, .slice none 0 0, .slice none 0 0, .int .i64 0]) := .of (by kernel_rfl)
theorem ti51 : TInfo Tryz.prog 51 4 32 (.agg #[.int .i64 0, .int .i64 0, .int .i64 0, .int .i64 0]) := .of (by kernel_rfl)
theorem ti55 : TInfo Tryz.prog 55 4 32 (.agg #[.int .i64 0, .int .i64 0, .int .i64 0, .int .i64 0]) := .of (by kernel_rfl)
theorem ti72 : TInfo Tryz.prog 72 3 24 (.agg #[.int .i64 0, .int .i64 0, .int .i64 0]) := .of (by kernel_rfl)
theorem sq51 {a0 b0 : Int} {a1 b1 : Int} {a2 b2 : Int} {a3 b3 : Int} : ∀ w, (Op.eqFields 9999 ([.int .i64 a0, .int .i64 a1, .int .i64 a2, .int .i64 a3].toArray) ([.int .i64 b0, .int .i64 b1, .int .i64 b2, .int .i64 b3].toArray) (Tryz.prog.fieldsOf 51).toList).run Tryz.prog w = .ok (a0 == b0 && (a1 == b1 && (a2 == b2 && (a3 == b3 && true)))) w := fun w => by
  simp only [Program.fieldsOf, Tryz.underlying51]
  exact (eqF_one (k := 9998) (by decide) ta3 rfl rfl (eqI Tryz.underlying3) (eqF_one (k := 9998) (by decide) ta3 rfl rfl (eqI Tryz.underlying3) (eqF_one (k := 9998) (by decide) ta3 rfl rfl (eqI Tryz.underlying3) (eqF_one (k := 9998) (by decide) ta3 rfl rfl (eqI Tryz.underlying3) eqF_nil))))
end Go.Proofs

/- loop.example/g01158/laws.szIntS -/

namespace Go.Proofs
open Go Go.Ga
set_option linter.unusedVariables false
set_option maxRecDepth 100000
set_option maxHeartbeats 4000000
def laws_szIntS.f (k : Nat) (a0 : List Int) (a1 : Int) : Option (Int) := (if (decide ((w64 (a1 - (a0.length : Int))) < 0)) = true then some (-1) else some (w64 (a1 - (a0.length : Int))))

theorem laws_szIntS.ok {k : Nat}  {a0 : List Int} {a1 : Int} {r0 : Int} (h : laws_szIntS.f k a0 a1 = some r0) (w : World) {va0 : Value} (hr_a0 : Rd w va0 a0) :
    Calls Tryz.prog 16 ([va0, .int .i64 a1] : List Value).toArray w (fun e w' => e = .returned (.int .i64 r0) ∧ Ext w w') := by
  unfold laws_szIntS.f at h
  have hl_va0 := hr_a0.len
  refine Calls.of_tri (N := 12) Tryz.func16 rfl rfl rfl (Sep.nil (M := noM)) ?_
  refine Tri.seq ?_
  refine Tri.reg (l := [0]) rfl ?_
  refine F.q rfl rfl rfl (wanted_none rfl) (r_assign rfl) ?_
  refine F.nil ?_
  refine Nrm.seq ?_
  refine Tri.seq ?_
  refine Tri.reg (l := [0, 1, 2, 3, 4]) rfl ?_
  refine F.q rfl rfl rfl (wanted_none rfl) (r_move rfl) ?_
  refine F.q rfl rfl rfl (wanted_none rfl) (r_move rfl) ?_
  refine F.q rfl rfl rfl (wanted_none rfl) (r_len Tryz.underlying23 rfl hl_va0) ?_
  refine F.q rfl rfl rfl (wanted_none rfl) (r_sub rfl rfl) ?_
  refine F.q rfl rfl rfl (wanted_none rfl) (r_assign rfl) ?_
  refine F.nil ?_
  refine Nrm.seq ?_
  refine Tri.seq ?_
  refine Tri.seq ?_
  refine Tri.reg (l := [0, 1]) rfl ?_
  refine F.q rfl rfl rfl (wanted_none rfl) (r_move rfl) ?_
  refine F.q rfl rfl rfl (wanted_none rfl) (r_lss rfl rfl) ?_
  refine F.nil ?_
  refine Nrm.seq ?_
  refine Tri.cond (b := decide ((w64 (a1 - (a0.length : Int))) < 0)) rfl (fun g_1 => ?_) (fun g_1 => ?_)
  · replace h := if_tt g_1 h
    refine Tri.seq ?_
    refine Tri.reg (l := [0]) rfl ?_
    refine F.q rfl rfl rfl (wanted_none rfl) (r_assign rfl) ?_
    refine F.nil ?_
    refine Nrm.seq ?_
    refine Tri.ret ?_
    refine Rtn.then ?_
    cases h
    exact Rtn.body (.tmp rfl .nil) (fun w hw => ⟨rfl, hw.ext⟩)
  · replace h := if_ff g_1 h
    refine Tri.skip ?_
    refine Nrm.seq ?_
    refine Tri.seq ?_
    refine Tri.reg (l := [0, 1]) rfl ?_
    refine F.q rfl rfl rfl (wanted_none rfl) (r_move rfl) ?_
    refine F.q rfl rfl rfl (wanted_none rfl) (r_assign rfl) ?_
    refine F.nil ?_
    refine Nrm.seq ?_
    refine Tri.ret ?_
    cases h
    exact Rtn.body (.tmp rfl .nil) (fun w hw => ⟨rfl, hw.ext⟩)

end Go.Proofs

/- loop.example/g01158/laws.szIntA3S -/

namespace Go.Proofs
open Go Go.Ga
set_option linter.unusedVariables false
set_option maxRecDepth 100000
set_option maxHeartbeats 4000000
def laws_szIntA3S.f (k : Nat) (a0 : List (Int × Int × Int)) (a1 : Int) : Option (Int) := (if (decide ((w64 (a1 - (a0.length : Int))) < 0)) = true then some (-1) else some (w64 (a1 - (a0.length : Int))))

theorem laws_szIntA3S.ok {k : Nat}  {a0 : List (Int × Int × Int)} {a1 : Int} {r0 : Int} (h : laws_szIntA3S.f k a0 a1 = some r0) (w : World) {va0 : Value} (hr_a0 : Rd w va0 a0) :
    Calls Tryz.prog 33 ([va0, .int .i64 a1] : List Value).toArray w (fun e w' => e = .returned (.int .i64 r0) ∧ Ext w w') := by
  unfold laws_szIntA3S.f at h
  have hl_va0 := hr_a0.len
  refine Calls.of_tri (N := 12) Tryz.func33 rfl rfl rfl (Sep.nil (M := noM)) ?_
  refine Tri.seq ?_
  refine Tri.reg (l := [0]) rfl ?_
  refine F.q rfl rfl rfl (wanted_none rfl) (r_assign rfl) ?_
  refine F.nil ?_
  refine Nrm.seq ?_
  refine Tri.seq ?_
  refine Tri.reg (l := [0, 1, 2, 3, 4]) rfl ?_
  refine F.q rfl rfl rfl (wanted_none rfl) (r_move rfl) ?_
  refine F.q rfl rfl rfl (wanted_none rfl) (r_move rfl) ?_
  refine F.q rfl rfl rfl (wanted_none rfl) (r_len Tryz.underlying22 rfl hl_va0) ?_
  refine F.q rfl rfl rfl (wanted_none rfl) (r_sub rfl rfl) ?_
  refine F.q rfl rfl rfl (wanted_none rfl) (r_assign rfl) ?_
  refine F.nil ?_
  refine Nrm.seq ?_
  refine Tri.seq ?_
  refine Tri.seq ?_
  refine Tri.reg (l := [0, 1]) rfl ?_
  refine F.q rfl rfl rfl (wanted_none rfl) (r_move rfl) ?_
  refine F.q rfl rfl rfl (wanted_none rfl) (r_lss rfl rfl) ?_
  refine F.nil ?_
  refine Nrm.seq ?_
  refine Tri.cond (b := decide ((w64 (a1 - (a0.length : Int))) < 0)) rfl (fun g_1 => ?_) (fun g_1 => ?_)
  · replace h := if_tt g_1 h
    refine Tri.seq ?_
    refine Tri.reg (l := [0]) rfl ?_
    refine F.q rfl rfl rfl (wanted_none rfl) (r_assign rfl) ?_
    refine F.nil ?_
    refine Nrm.seq ?_
    refine Tri.ret ?_
    refine Rtn.then ?_
    cases h
    exact Rtn.body (.tmp rfl .nil) (fun w hw => ⟨rfl, hw.ext⟩)
  · replace h := if_ff g_1 h
    refine Tri.skip ?_
    refine Nrm.seq ?_
    refine Tri.seq ?_
    refine Tri.reg (l := [0, 1]) rfl ?_
    refine F.q rfl rfl rfl (wanted_none rfl) (r_move rfl) ?_
    refine F.q rfl rfl rfl (wanted_none rfl) (r_assign rfl) ?_
    refine F.nil ?_
    refine Nrm.seq ?_
    refine Tri.ret ?_
    cases h
    exact Rtn.body (.tmp rfl .nil) (fun w hw => ⟨rfl, hw.ext⟩)

end Go.Proofs

/- loop.example/g01158/laws.szMaze -/
namespace Go.Proofs
open Go Go.Ga
set_option linter.unusedVariables false
set_option maxRecDepth 100000
set_option maxHeartbeats 4000000
def laws_szMaze.f (k : Nat) (a0_0 : Int) (a0_1 : List (Int × Int × Int)) (a0_2 : List Int) (a1 : Int) : Option (Int) := (laws_szIntA3S.f k a0_1 a1).bind fun t8 => (if (decide (t8 < 0)) = true then some (-1) else (laws_szIntS.f k a0_2 t8).bind fun t14 => (if (decide (t14 < 0)) = true then some (-1) else some t14))

theorem laws_szMaze.ok {k : Nat}  {a0_0 : Int} {a0_1 : List (Int × Int × Int)} {a0_2 : List Int} {a1 : Int} {r0 : Int} (h : laws_szMaze.f k a0_0 a0_1 a0_2 a1 = some r0) (w : World) {va0_1 : Value} {va0_2 : Value} (hr_a0_1 : Rd w va0_1 a0_1) (hr_a0_2 : Rd w va0_2 a0_2) :
    Calls Tryz.prog 15 ([.agg ([.int .i64 a0_0, va0_1, va0_2].toArray), .int .i64 a1] : List Value).toArray w (fun e w' => e = .returned (.int .i64 r0) ∧ Ext w w') := by
  unfold laws_szMaze.f at h
  have hl_va0_1 := hr_a0_1.len
  have hl_va0_2 := hr_a0_2.len
  refine Calls.of_tri (N := 18) Tryz.func15 rfl rfl rfl (Sep.nil (M := noM)) ?_
  refine Tri.seq ?_
  refine Tri.reg (l := [0, 1]) rfl ?_
  refine F.m rfl rfl rfl (wanted_none rfl) (m_boxG rfl rfl) ?_
  rintro _ _ ⟨b2_1, rfl, rfl⟩
  refine F.q rfl rfl rfl (wanted_none rfl) (r_assign rfl) ?_
  refine F.nil ?_
  refine Nrm.seq ?_
  refine Tri.seq ?_
  obtain ⟨t8, h8, h⟩ := bind_some h
  refine Tri.reg (l := [0, 1, 2, 3, 4]) rfl ?_
  refine F.q rfl rfl rfl (wanted_none rfl) (r_fieldAddr tf25_1 rfl) ?_
  refine F.q rfl rfl rfl (wanted_none rfl) (r_load ta22 rfl (fun w hw => cell_1 (box_cells (i := 0) rfl w hw) rfl)) ?_
  refine F.q rfl rfl rfl (wanted_none rfl) (r_move rfl) ?_
  refine F.qc rfl rfl rfl (wanted_none rfl) (q_callF (xs := _) rfl ok33 rfl rfl (fun w hw => laws_szIntA3S.ok h8 w ((fun _ hw => hr_a0_1.sep hw) w hw))) ?_
  refine F.q rfl rfl rfl (wanted_none rfl) (r_assign rfl) ?_
  refine F.nil ?_
  refine Nrm.seq ?_
  refine Tri.seq ?_
  refine Tri.seq ?_
  refine Tri.reg (l := [0, 1]) rfl ?_
  refine F.q rfl rfl rfl (wanted_none rfl) (r_move rfl) ?_
  refine F.q rfl rfl rfl (wanted_none rfl) (r_lss rfl rfl) ?_
  refine F.nil ?_
  refine Nrm.seq ?_
  refine Tri.cond (b := decide (t8 < 0)) rfl (fun g_1 => ?_) (fun g_1 => ?_)
  · replace h := if_tt g_1 h
    refine Tri.seq ?_
    refine Tri.reg (l := [0]) rfl ?_
    refine F.q rfl rfl rfl (wanted_none rfl) (r_assign rfl) ?_
    refine F.nil ?_
    refine Nrm.seq ?_
    refine Tri.ret ?_
    refine Rtn.then ?_
    cases h
    exact Rtn.body (.tmp rfl .nil) (fun w hw => ⟨rfl, hw.ext⟩)
  · replace h := if_ff g_1 h
    refine Tri.skip ?_
    refine Nrm.seq ?_
    refine Tri.seq ?_
    obtain ⟨t14, h14, h⟩ := bind_some h
    refine Tri.reg (l := [0, 1, 2, 3, 4]) rfl ?_
    refine F.q rfl rfl rfl (wanted_none rfl) (r_fieldAddr tf25_2 rfl) ?_
    refine F.q rfl rfl rfl (wanted_none rfl) (r_load ta23 rfl (fun w hw => cell_1 (box_cells (i := 0) rfl w hw) rfl)) ?_
    refine F.q rfl rfl rfl (wanted_none rfl) (r_move rfl) ?_
    refine F.qc rfl rfl rfl (wanted_none rfl) (q_callF (xs := _) rfl ok16 rfl rfl (fun w hw => laws_szIntS.ok h14 w ((fun _ hw => hr_a0_2.sep hw) w hw))) ?_
    refine F.q rfl rfl rfl (wanted_none rfl) (r_assign rfl) ?_
    refine F.nil ?_
    refine Nrm.seq ?_
    refine Tri.seq ?_
    refine Tri.seq ?_
    refine Tri.reg (l := [0, 1]) rfl ?_
    refine F.q rfl rfl rfl (wanted_none rfl) (r_move rfl) ?_
    refine F.q rfl rfl rfl (wanted_none rfl) (r_lss rfl rfl) ?_
    refine F.nil ?_
    refine Nrm.seq ?_
    refine Tri.cond (b := decide (t14 < 0)) rfl (fun g_2 => ?_) (fun g_2 => ?_)
    · replace h := if_tt g_2 h
      refine Tri.seq ?_
      refine Tri.reg (l := [0]) rfl ?_
      refine F.q rfl rfl rfl (wanted_none rfl) (r_assign rfl) ?_
      refine F.nil ?_
      refine Nrm.seq ?_
      refine Tri.ret ?_
      refine Rtn.then ?_
      cases h
      exact Rtn.body (.tmp rfl .nil) (fun w hw => ⟨rfl, hw.ext⟩)
    · replace h := if_ff g_2 h
      refine Tri.skip ?_
      refine Nrm.seq ?_
      refine Tri.seq ?_
      refine Tri.reg (l := [0, 1]) rfl ?_
      refine F.q rfl rfl rfl (wanted_none rfl) (r_move rfl) ?_
      refine F.q rfl rfl rfl (wanted_none rfl) (r_assign rfl) ?_
      refine F.nil ?_
      refine Nrm.seq ?_
      refine Tri.ret ?_
      cases h
      exact Rtn.body (.tmp rfl .nil) (fun w hw => ⟨rfl, hw.ext⟩)

end Go.Proofs

/- loop.example/g01158/laws.szVisit -/
namespace Go.Proofs
open Go Go.Ga
set_option linter.unusedVariables false
set_option maxRecDepth 100000
set_option maxHeartbeats 4000000
def laws_szVisit.f (k : Nat) (a0_0 : Int) (a0_1 : List (Int × Int × Int)) (a0_2 : List Int) (a0_3 : List Int) (a0_4 : Int) (a1 : Int) : Option (Int) := (laws_szMaze.f k a0_0 a0_1 a0_2 a1).bind fun t8 => (if (decide (t8 < 0)) = true then some (-1) else (laws_szIntS.f k a0_3 t8).bind fun t14 => (if (decide (t14 < 0)) = true then some (-1) else some t14))

theorem laws_szVisit.ok {k : Nat}  {a0_0 : Int} {a0_1 : List (Int × Int × Int)} {a0_2 : List Int} {a0_3 : List Int} {a0_4 : Int} {a1 : Int} {r0 : Int} (h : laws_szVisit.f k a0_0 a0_1 a0_2 a0_3 a0_4 a1 = some r0) (w : World) {va0_1 : Value} {va0_2 : Value} {va0_3 : Value} (hr_a0_1 : Rd w va0_1 a0_1) (hr_a0_2 : Rd w va0_2 a0_2) (hr_a0_3 : Rd w va0_3 a0_3) :
    Calls Tryz.prog 4 ([.agg ([.int .i64 a0_0, va0_1, va0_2, va0_3, .int .i64 a0_4].toArray), .int .i64 a1] : List Value).toArray w (fun e w' => e = .returned (.int .i64 r0) ∧ Ext w w') := by
  unfold laws_szVisit.f at h
  have hl_va0_1 := hr_a0_1.len
  have hl_va0_2 := hr_a0_2.len
  have hl_va0_3 := hr_a0_3.len
  refine Calls.of_tri (N := 18) Tryz.func4 rfl rfl rfl (Sep.nil (M := noM)) ?_
  refine Tri.seq ?_
  refine Tri.reg (l := [0, 1]) rfl ?_
  refine F.m rfl rfl rfl (wanted_none rfl) (m_boxG rfl rfl) ?_
  rintro _ _ ⟨b2_1, rfl, rfl⟩
  refine F.q rfl rfl rfl (wanted_none rfl) (r_assign rfl) ?_
  refine F.nil ?_
  refine Nrm.seq ?_
  refine Tri.seq ?_
  obtain ⟨t8, h8, h⟩ := bind_some h
  refine Tri.reg (l := [0, 1, 2, 3, 4]) rfl ?_
  refine F.q rfl rfl rfl (wanted_none rfl) (r_fieldAddr tf27_0 rfl) ?_
  refine F.q rfl rfl rfl (wanted_none rfl) (r_loadA ta25 ti25 rfl rfl (fun w hw => cells_1 (cs' := [.int .i64 a0_0, va0_1, va0_2]) (box_cells (i := 0) rfl w hw) rfl)) ?_
  refine F.q rfl rfl rfl (wanted_none rfl) (r_move rfl) ?_
  refine F.qc rfl rfl rfl (wanted_none rfl) (q_callF (xs := _) rfl ok15 rfl rfl (fun w hw => laws_szMaze.ok h8 w ((fun _ hw => hr_a0_1.sep hw) w hw) ((fun _ hw => hr_a0_2.sep hw) w hw))) ?_
  refine F.q rfl rfl rfl (wanted_none rfl) (r_assign rfl) ?_
  refine F.nil ?_
  refine Nrm.seq ?_
  refine Tri.seq ?_
  refine Tri.seq ?_
  refine Tri.reg (l := [0, 1]) rfl ?_
  refine F.q rfl rfl rfl (wanted_none rfl) (r_move rfl) ?_
  refine F.q rfl rfl rfl (wanted_none rfl) (r_lss rfl rfl) ?_
  refine F.nil ?_
  refine Nrm.seq ?_
  refine Tri.cond (b := decide (t8 < 0)) rfl (fun g_1 => ?_) (fun g_1 => ?_)
  · replace h := if_tt g_1 h
    refine Tri.seq ?_
    refine Tri.reg (l := [0]) rfl ?_
    refine F.q rfl rfl rfl (wanted_none rfl) (r_assign rfl) ?_
    refine F.nil ?_
    refine Nrm.seq ?_
    refine Tri.ret ?_
    refine Rtn.then ?_
    cases h
    exact Rtn.body (.tmp rfl .nil) (fun w hw => ⟨rfl, hw.ext⟩)
  · replace h := if_ff g_1 h
    refine Tri.skip ?_
    refine Nrm.seq ?_
    refine Tri.seq ?_
    obtain ⟨t14, h14, h⟩ := bind_some h
    refine Tri.reg (l := [0, 1, 2, 3, 4]) rfl ?_
    refine F.q rfl rfl rfl (wanted_none rfl) (r_fieldAddr tf27_1 rfl) ?_
    refine F.q rfl rfl rfl (wanted_none rfl) (r_load ta23 rfl (fun w hw => cell_1 (box_cells (i := 0) rfl w hw) rfl)) ?_
    refine F.q rfl rfl rfl (wanted_none rfl) (r_move rfl) ?_
    refine F.qc rfl rfl rfl (wanted_none rfl) (q_callF (xs := _) rfl ok16 rfl rfl (fun w hw => laws_szIntS.ok h14 w ((fun _ hw => hr_a0_3.sep hw) w hw))) ?_
    refine F.q rfl rfl rfl (wanted_none rfl) (r_assign rfl) ?_
    refine F.nil ?_
    refine Nrm.seq ?_
    refine Tri.seq ?_
    refine Tri.seq ?_
    refine Tri.reg (l := [0, 1]) rfl ?_
    refine F.q rfl rfl rfl (wanted_none rfl) (r_move rfl) ?_
    refine F.q rfl rfl rfl (wanted_none rfl) (r_lss rfl rfl) ?_
    refine F.nil ?_
    refine Nrm.seq ?_
    refine Tri.cond (b := decide (t14 < 0)) rfl (fun g_2 => ?_) (fun g_2 => ?_)
    · replace h := if_tt g_2 h
      refine Tri.seq ?_
      refine Tri.reg (l := [0]) rfl ?_
      refine F.q rfl rfl rfl (wanted_none rfl) (r_assign rfl) ?_
      refine F.nil ?_
      refine Nrm.seq ?_
      refine Tri.ret ?_
      refine Rtn.then ?_
      cases h
      exact Rtn.body (.tmp rfl .nil) (fun w hw => ⟨rfl, hw.ext⟩)
    · replace h := if_ff g_2 h
      refine Tri.skip ?_
      refine Nrm.seq ?_
      refine Tri.seq ?_
      refine Tri.reg (l := [0, 1]) rfl ?_
      refine F.q rfl rfl rfl (wanted_none rfl) (r_move rfl) ?_
      refine F.q rfl rfl rfl (wanted_none rfl) (r_assign rfl) ?_
      refine F.nil ?_
      refine Nrm.seq ?_
      refine Tri.ret ?_
      cases h
      exact Rtn.body (.tmp rfl .nil) (fun w hw => ⟨rfl, hw.ext⟩)

end Go.Proofs

/- loop.example/g01158/laws.szDeedS -/

namespace Go.Proofs
open Go Go.Ga
set_option linter.unusedVariables false
set_option maxRecDepth 100000
set_option maxHeartbeats 4000000
def laws_szDeedS.f (k : Nat) (a0 : List (Int × Int × Int × Int)) (a1 : Int) : Option (Int) := (if (decide ((w64 (a1 - (a0.length : Int))) < 0)) = true then some (-1) else some (w64 (a1 - (a0.length : Int))))

theorem laws_szDeedS.ok {k : Nat}  {a0 : List (Int × Int × Int × Int)} {a1 : Int} {r0 : Int} (h : laws_szDeedS.f k a0 a1 = some r0) (w : World) {va0 : Value} (hr_a0 : Rd w va0 a0) :
    Calls Tryz.prog 5 ([va0, .int .i64 a1] : List Value).toArray w (fun e w' => e = .returned (.int .i64 r0) ∧ Ext w w') := by
  unfold laws_szDeedS.f at h
  have hl_va0 := hr_a0.len
  refine Calls.of_tri (N := 12) Tryz.func5 rfl rfl rfl (Sep.nil (M := noM)) ?_
  refine Tri.seq ?_
  refine Tri.reg (l := [0]) rfl ?_
  refine F.q rfl rfl rfl (wanted_none rfl) (r_assign rfl) ?_
  refine F.nil ?_
  refine Nrm.seq ?_
  refine Tri.seq ?_
  refine Tri.reg (l := [0, 1, 2, 3, 4]) rfl ?_
  refine F.q rfl rfl rfl (wanted_none rfl) (r_move rfl) ?_
  refine F.q rfl rfl rfl (wanted_none rfl) (r_move rfl) ?_
  refine F.q rfl rfl rfl (wanted_none rfl) (r_len Tryz.underlying28 rfl hl_va0) ?_
  refine F.q rfl rfl rfl (wanted_none rfl) (r_sub rfl rfl) ?_
  refine F.q rfl rfl rfl (wanted_none rfl) (r_assign rfl) ?_
  refine F.nil ?_
  refine Nrm.seq ?_
  refine Tri.seq ?_
  refine Tri.seq ?_
  refine Tri.reg (l := [0, 1]) rfl ?_
  refine F.q rfl rfl rfl (wanted_none rfl) (r_move rfl) ?_
  refine F.q rfl rfl rfl (wanted_none rfl) (r_lss rfl rfl) ?_
  refine F.nil ?_
  refine Nrm.seq ?_
  refine Tri.cond (b := decide ((w64 (a1 - (a0.length : Int))) < 0)) rfl (fun g_1 => ?_) (fun g_1 => ?_)
  · replace h := if_tt g_1 h
    refine Tri.seq ?_
    refine Tri.reg (l := [0]) rfl ?_
    refine F.q rfl rfl rfl (wanted_none rfl) (r_assign rfl) ?_
    refine F.nil ?_
    refine Nrm.seq ?_
    refine Tri.ret ?_
    refine Rtn.then ?_
    cases h
    exact Rtn.body (.tmp rfl .nil) (fun w hw => ⟨rfl, hw.ext⟩)
  · replace h := if_ff g_1 h
    refine Tri.skip ?_
    refine Nrm.seq ?_
    refine Tri.seq ?_
    refine Tri.reg (l := [0, 1]) rfl ?_
    refine F.q rfl rfl rfl (wanted_none rfl) (r_move rfl) ?_
    refine F.q rfl rfl rfl (wanted_none rfl) (r_assign rfl) ?_
    refine F.nil ?_
    refine Nrm.seq ?_
    refine Tri.ret ?_
    cases h
    exact Rtn.body (.tmp rfl .nil) (fun w hw => ⟨rfl, hw.ext⟩)

end Go.Proofs

/- loop.example/g01158/spec.l1In -/

namespace Go.Proofs
open Go Go.Ga
set_option linter.unusedVariables false
set_option maxRecDepth 100000
set_option maxHeartbeats 4000000
def spec_l1In.f (k : Nat) (a0 : Int) (a1 : Int) (a2 : Int) : Option (Bool) := ((if (decide (a0 ≥ a1)) = true then some (decide (a0 ≤ a2)) else some false)).bind fun y6 => some y6

theorem spec_l1In.ok {k : Nat}  {a0 : Int} {a1 : Int} {a2 : Int} {r0 : Bool} (h : spec_l1In.f k a0 a1 a2 = some r0) (w : World) :
    Calls Tryz.prog 35 ([.int .i64 a0, .int .i64 a1, .int .i64 a2] : List Value).toArray w (fun e w' => e = .returned (.bool r0) ∧ Ext w w') := by
  unfold spec_l1In.f at h
  refine Calls.of_tri (N := 15) Tryz.func35 rfl rfl rfl (Sep.nil (M := noM)) ?_
  refine Tri.seq ?_
  refine Tri.reg (l := [0]) rfl ?_
  refine F.q rfl rfl rfl (wanted_none rfl) (r_assign rfl) ?_
  refine F.nil ?_
  refine Nrm.seq ?_
  refine Tri.seq ?_
  obtain ⟨y6, hE_1, h⟩ := bind_some h
  refine Tri.cut (fun e' C' => e' = [(6, .bool y6)] ∧ C' = Sep w noM []) ?_ (fun hj_1 => ?_)
  · rintro _ _ ⟨rfl, rfl⟩
    refine Nrm.seq ?_
    refine Tri.ret ?_
    cases h
    exact Rtn.body (.tmp rfl .nil) (fun w hw => ⟨rfl, hw.ext⟩)
  · rcases Bool.eq_false_or_eq_true (decide (a0 ≥ a1)) with g10 | g10
    · replace hE_1 := if_tt g10 hE_1
      refine Tri.reg (l := [0, 1, 2, 3, 4, 5, 6, 7, 8]) rfl ?_
      refine F.q rfl rfl rfl (wanted_none rfl) (r_move rfl) ?_
      refine F.q rfl rfl rfl (wanted_none rfl) (r_move rfl) ?_
      refine F.q rfl rfl rfl (wanted_none rfl) (r_geq rfl rfl) ?_
      refine F.q rfl rfl rfl (wanted_none rfl) (r_move rfl) ?_
      refine F.q rfl rfl rfl (wg rfl rfl rfl g10) (r_move rfl) ?_
      refine F.q rfl rfl rfl (wg rfl rfl rfl g10) (r_move rfl) ?_
      refine F.q rfl rfl rfl (wg rfl rfl rfl g10) (r_leq rfl rfl) ?_
      refine F.q rfl rfl rfl (wanted_none rfl) (r_pick rfl rfl g10) ?_
      refine F.q rfl rfl rfl (wanted_none rfl) (r_assign rfl) ?_
      refine F.nil ?_
      cases hE_1
      refine Nrm.only [6] rfl ?_
      refine Nrm.pick [] rfl rfl ?_
      exact hj_1 _ _ ⟨rfl, rfl⟩
    · replace hE_1 := if_ff g10 hE_1
      refine Tri.reg (l := [0, 1, 2, 3, 4, 5, 6, 7, 8]) rfl ?_
      refine F.q rfl rfl rfl (wanted_none rfl) (r_move rfl) ?_
      refine F.q rfl rfl rfl (wanted_none rfl) (r_move rfl) ?_
      refine F.q rfl rfl rfl (wanted_none rfl) (r_geq rfl rfl) ?_
      refine F.q rfl rfl rfl (wanted_none rfl) (r_move rfl) ?_
      refine F.sk rfl rfl rfl (wf rfl rfl rfl g10) ?_
      refine F.sk rfl rfl rfl (wf rfl rfl rfl g10) ?_
      refine F.sk rfl rfl rfl (wf rfl rfl rfl g10) ?_
      refine F.q rfl rfl rfl (wanted_none rfl) (r_pickf rfl rfl g10) ?_
      refine F.q rfl rfl rfl (wanted_none rfl) (r_assign rfl) ?_
      refine F.nil ?_
      cases hE_1
      refine Nrm.only [6] rfl ?_
      refine Nrm.pick [] rfl rfl ?_
      exact hj_1 _ _ ⟨rfl, rfl⟩

end Go.Proofs

/- loop.example/g01158/spec.l2Set -/
namespace Go.Proofs
open Go Go.Ga
set_option linter.unusedVariables false
set_option maxRecDepth 100000
set_option maxHeartbeats 4000000
def spec_l2Set.f (k : Nat) (a0 : Int) : Option (Bool) := (spec_l1In.f k a0 0 63).bind fun t4 => some t4

theorem spec_l2Set.ok {k : Nat}  {a0 : Int} {r0 : Bool} (h : spec_l2Set.f k a0 = some r0) (w : World) :
    Calls Tryz.prog 52 ([.int .i64 a0] : List Value).toArray w (fun e w' => e = .returned (.bool r0) ∧ Ext w w') := by
  unfold spec_l2Set.f at h
  refine Calls.of_tri (N := 5) Tryz.func52 rfl rfl rfl (Sep.nil (M := noM)) ?_
  refine Tri.seq ?_
  refine Tri.reg (l := [0]) rfl ?_
  refine F.q rfl rfl rfl (wanted_none rfl) (r_assign rfl) ?_
  refine F.nil ?_
  refine Nrm.seq ?_
  refine Tri.seq ?_
  obtain ⟨t4, h4, h⟩ := bind_some h
  refine Tri.reg (l := [0, 1, 2]) rfl ?_
  refine F.q rfl rfl rfl (wanted_none rfl) (r_move rfl) ?_
  refine F.qc rfl rfl rfl (wanted_none rfl) (q_callF (xs := _) rfl ok35 rfl rfl (fun w hw => spec_l1In.ok h4 w )) ?_
  refine F.q rfl rfl rfl (wanted_none rfl) (r_assign rfl) ?_
  refine F.nil ?_
  refine Nrm.seq ?_
  refine Tri.ret ?_
  cases h
  exact Rtn.body (.tmp rfl .nil) (fun w hw => ⟨rfl, hw.ext⟩)

end Go.Proofs

/- loop.example/g01158/spec.l2Before -/

namespace Go.Proofs
open Go Go.Ga
set_option linter.unusedVariables false
set_option maxRecDepth 100000
set_option maxHeartbeats 4000000
def spec_l2Before.l0 (k : Nat) (a0_0 : Int) (a0_1 : Int) (a0_2 : Int) (a1_0 : Int) (a1_1 : Int) (a1_2 : Int) : Nat → Int → Option ((Unit) ⊕ (Bool))
  | 0, _ => none
  | n + 1, x5 => (if (decide (x5 < 3)) = true then (rdl [a0_0, a0_1, a0_2] x5).bind fun t11 => (rdl [a1_0, a1_1, a1_2] x5).bind fun t14 => (if (t11 != t14) = true then (rdl [a0_0, a0_1, a0_2] x5).bind fun t18 => (rdl [a1_0, a1_1, a1_2] x5).bind fun t21 => some (Sum.inr (decide (t18 < t21))) else spec_l2Before.l0 k a0_0 a0_1 a0_2 a1_0 a1_1 a1_2 n (w64 (x5 + 1))) else some (Sum.inl ()))

def spec_l2Before.f (k : Nat) (a0_0 : Int) (a0_1 : Int) (a0_2 : Int) (a1_0 : Int) (a1_1 : Int) (a1_2 : Int) : Option (Bool) := (spec_l2Before.l0 k a0_0 a0_1 a0_2 a1_0 a1_1 a1_2 k 0).bind fun s => Lr s some fun _ => some false

theorem spec_l2Before.ok {k : Nat}  {a0_0 : Int} {a0_1 : Int} {a0_2 : Int} {a1_0 : Int} {a1_1 : Int} {a1_2 : Int} {r0 : Bool} (h : spec_l2Before.f k a0_0 a0_1 a0_2 a1_0 a1_1 a1_2 = some r0) (w : World) :
    Calls Tryz.prog 53 ([.agg ([.int .i64 a0_0, .int .i64 a0_1, .int .i64 a0_2].toArray), .agg ([.int .i64 a1_0, .int .i64 a1_1, .int .i64 a1_2].toArray)] : List Value).toArray w (fun e w' => e = .returned (.bool r0) ∧ Ext w w') := by
  unfold spec_l2Before.f at h
  refine Calls.of_tri (N := 24) Tryz.func53 rfl rfl rfl (Sep.nil (M := noM)) ?_
  refine Tri.seq ?_
  refine Tri.reg (l := [0, 1, 2]) rfl ?_
  refine F.m rfl rfl rfl (wanted_none rfl) (m_boxG rfl rfl) ?_
  rintro _ _ ⟨b2_1, rfl, rfl⟩
  refine F.m rfl rfl rfl (wanted_none rfl) (m_boxG rfl rfl) ?_
  rintro _ _ ⟨b3_1, rfl, rfl⟩
  refine F.q rfl rfl rfl (wanted_none rfl) (r_assign rfl) ?_
  refine F.nil ?_
  refine Nrm.seq ?_
  refine Tri.seq ?_
  refine Tri.seq ?_
  refine Tri.reg (l := [0]) rfl ?_
  refine F.q rfl rfl rfl (wanted_none rfl) (r_assign rfl) ?_
  refine F.nil ?_
  refine Nrm.seq ?_
  obtain ⟨s0, hE_1, h⟩ := bind_some h
  refine Tri.block ?_
  refine Tri.only [2, 3, 5] rfl ?_
  refine Tri.pick [0, 1] rfl rfl ?_
  refine Tri.rounds (fun n e' C' => ∃ (x5' : Int), spec_l2Before.l0 k a0_0 a0_1 a0_2 a1_0 a1_1 a1_2 n x5' = some s0 ∧ e' = [(2, .pointer (some ⟨b2_1, 0, none⟩)), (3, .pointer (some ⟨b3_1, 0, none⟩)), (5, .int .i64 x5')] ∧ C' = Sep w noM [R.box b3_1 72 [.int .i64 a1_0, .int .i64 a1_1, .int .i64 a1_2], R.box b2_1 72 [.int .i64 a0_0, .int .i64 a0_1, .int .i64 a0_2]]) k ?_ ?_ ?_
  · exact ⟨0, hE_1, rfl, rfl⟩
  · rintro _ _ ⟨_, hE_1, _⟩
    rw [spec_l2Before.l0.eq_1] at hE_1; cases hE_1
  · rintro n_1 _ _ ⟨x5, hE_1, rfl, rfl⟩ ih_1
    rw [spec_l2Before.l0.eq_2] at hE_1
    refine Tri.seq ?_
    refine Tri.seq ?_
    refine Tri.reg (l := [0, 1]) rfl ?_
    refine F.q rfl rfl rfl (wanted_none rfl) (r_move rfl) ?_
    refine F.q rfl rfl rfl (wanted_none rfl) (r_lss rfl rfl) ?_
    refine F.nil ?_
    refine Nrm.seq ?_
    refine Tri.cond (b := decide (x5 < 3)) rfl (fun g_1 => ?_) (fun g_1 => ?_)
    · replace hE_1 := if_tt g_1 hE_1
      refine Tri.skip ?_
      refine Nrm.seq ?_
      refine Tri.seq ?_
      refine Tri.block ?_
      refine Tri.seq ?_
      obtain ⟨t11, h11, hE_1⟩ := bind_some hE_1
      obtain ⟨t14, h14, hE_1⟩ := bind_some hE_1
      refine Tri.drawA mixedT Sep.up [(0, true), (1, true), (2, true), (3, true), (4, true), (5, true), (6, true)] [] (by kernel_rfl) ?_
      refine S.q rfl rfl rfl (wanted_none rfl) (r_move rfl) ?_
      refine S.q rfl rfl rfl (wanted_none rfl) (r_indexAddrA Tryz.underlying72 ti3 rfl rfl (rdl_some h11).1 (rdl_some h11).2.1) ?_
      refine S.q rfl rfl rfl (wanted_none rfl) (r_load ta3 rfl (fun w hw => cell_dynB (box_cells (i := 1) rfl w hw) rfl h11)) ?_
      refine S.q rfl rfl rfl (wanted_none rfl) (r_move rfl) ?_
      refine S.q rfl rfl rfl (wanted_none rfl) (r_indexAddrA Tryz.underlying72 ti3 rfl rfl (rdl_some h14).1 (rdl_some h14).2.1) ?_
      refine S.q rfl rfl rfl (wanted_none rfl) (r_load ta3 rfl (fun w hw => cell_dynB (box_cells (i := 0) rfl w hw) rfl h14)) ?_
      refine S.q rfl rfl rfl (wanted_none rfl) (r_neq rfl rfl) ?_
      refine S.nil ?_
      refine F.nil ?_
      refine Nrm.seq ?_
      refine Tri.cond (b := t11 != t14) rfl (fun g_2 => ?_) (fun g_2 => ?_)
      · replace hE_1 := if_tt g_2 hE_1
        refine Tri.seq ?_
        obtain ⟨t18, h18, hE_1⟩ := bind_some hE_1
        obtain ⟨t21, h21, hE_1⟩ := bind_some hE_1
        refine Tri.drawA mixedT Sep.up [(0, true), (1, true), (2, true), (3, true), (4, true), (5, true), (6, true), (7, true)] [] (by kernel_rfl) ?_
        refine S.q rfl rfl rfl (wanted_none rfl) (r_move rfl) ?_
        refine S.q rfl rfl rfl (wanted_none rfl) (r_indexAddrA Tryz.underlying72 ti3 rfl rfl (rdl_some h18).1 (rdl_some h18).2.1) ?_
        refine S.q rfl rfl rfl (wanted_none rfl) (r_load ta3 rfl (fun w hw => cell_dynB (box_cells (i := 1) rfl w hw) rfl h18)) ?_
        refine S.q rfl rfl rfl (wanted_none rfl) (r_move rfl) ?_
        refine S.q rfl rfl rfl (wanted_none rfl) (r_indexAddrA Tryz.underlying72 ti3 rfl rfl (rdl_some h21).1 (rdl_some h21).2.1) ?_
        refine S.q rfl rfl rfl (wanted_none rfl) (r_load ta3 rfl (fun w hw => cell_dynB (box_cells (i := 0) rfl w hw) rfl h21)) ?_
        refine S.q rfl rfl rfl (wanted_none rfl) (r_lss rfl rfl) ?_
        refine S.q rfl rfl rfl (wanted_none rfl) (r_assign rfl) ?_
        refine S.nil ?_
        refine F.nil ?_
        refine Nrm.seq ?_
        refine Tri.ret ?_
        refine Rtn.block ?_
        refine Rtn.then ?_
        refine Rtn.then ?_
        refine Rtn.block ?_
        refine Rtn.then ?_
        cases hE_1
        replace h := Lr_inr h
        cases h
        exact Rtn.body (.tmp rfl .nil) (fun w hw => ⟨rfl, hw.ext⟩)
      · replace hE_1 := if_ff g_2 hE_1
        refine Tri.skip ?_
        refine Nrm.block ?_
        refine Nrm.seq ?_
        refine Tri.reg (l := [0, 1, 2]) rfl ?_
        refine F.q rfl rfl rfl (wanted_none rfl) (r_move rfl) ?_
        refine F.q rfl rfl rfl (wanted_none rfl) (r_add rfl rfl) ?_
        refine F.q rfl rfl rfl (wanted_none rfl) (r_assign rfl) ?_
        refine F.nil ?_
        refine Nrm.round ?_
        refine Rnd.only [2, 3, 5] rfl ?_
        refine Rnd.pick [0, 1] rfl rfl ?_
        exact ih_1 _ _ ⟨w64 (x5 + 1), hE_1, rfl, rfl⟩
    · replace hE_1 := if_ff g_1 hE_1
      refine Tri.exit ?_
      refine Exi.then ?_
      refine Exi.then ?_
      refine Exi.same ?_
      cases hE_1
      replace h := Lr_inl h
      refine Nrm.seq ?_
      refine Tri.seq ?_
      refine Tri.reg (l := [0]) rfl ?_
      refine F.q rfl rfl rfl (wanted_none rfl) (r_assign rfl) ?_
      refine F.nil ?_
      refine Nrm.seq ?_
      refine Tri.ret ?_
      cases h
      exact Rtn.body (.tmp rfl .nil) (fun w hw => ⟨rfl, hw.ext⟩)

end Go.Proofs

/- loop.example/g01158/spec.l2Maze -/
namespace Go.Proofs
open Go Go.Ga
set_option linter.unusedVariables false
set_option maxRecDepth 100000
set_option maxHeartbeats 4000000
def spec_l2Maze.l1 (k : Nat) (a0_0 : Int) (a0_2 : List Int) : Nat → Int → Option ((Unit) ⊕ (Bool))
  | 0, _ => none
  | n + 1, x5 => (if (decide (x5 < a0_0)) = true then (rdl a0_2 x5).bind fun t85 => (spec_l2Set.f k t85).bind fun t87 => (if (!t87) = true then some (Sum.inr false) else spec_l2Maze.l1 k a0_0 a0_2 n (w64 (x5 + 1))) else some (Sum.inl ()))

def spec_l2Maze.l0 (k : Nat) (a0_0 : Int) (a0_1 : List (Int × Int × Int)) : Nat → Int → Option ((Unit) ⊕ (Bool))
  | 0, _ => none
  | n + 1, x3 => (if (decide (x3 < (a0_1.length : Int))) = true then (rdl a0_1 x3).bind fun t34 => ((spec_l1In.f k t34.1 0 (w64 (a0_0 - 1))).bind fun t41 => (if (!t41) = true then some true else (spec_l1In.f k t34.2.1 (w64 (t34.1 + 1)) (w64 (a0_0 - 1))).bind fun t52 => (if (!t52) = true then some true else (spec_l2Set.f k t34.2.2).bind fun t58 => (if (!t58) = true then some true else (if (decide (x3 > 0)) = true then (rdl a0_1 (w64 (x3 - 1))).bind fun t69 => (spec_l2Before.f k t69.1 t69.2.1 t69.2.2 t34.1 t34.2.1 t34.2.2).bind fun t72 => some (!t72) else some false))))).bind fun y75 => (if y75 = true then some (Sum.inr false) else spec_l2Maze.l0 k a0_0 a0_1 n (w64 (x3 + 1))) else some (Sum.inl ()))

def spec_l2Maze.f (k : Nat) (a0_0 : Int) (a0_1 : List (Int × Int × Int)) (a0_2 : List Int) : Option (Bool) := ((spec_l1In.f k a0_0 1 12).bind fun t8 => (if (!t8) = true then some true else (if (decide ((a0_1.length : Int) > 30)) = true then some true else some ((a0_2.length : Int) != a0_0)))).bind fun y23 => (if y23 = true then some false else (spec_l2Maze.l0 k a0_0 a0_1 k 0).bind fun s => Lr s some fun _ => (spec_l2Maze.l1 k a0_0 a0_2 k 0).bind fun s => Lr s some fun _ => some true)

theorem spec_l2Maze.ok {k : Nat}  {a0_0 : Int} {a0_1 : List (Int × Int × Int)} {a0_2 : List Int} {r0 : Bool} (h : spec_l2Maze.f k a0_0 a0_1 a0_2 = some r0) (w : World) {va0_1 : Value} {va0_2 : Value} (hr_a0_1 : Rd w va0_1 a0_1) (hr_a0_2 : Rd w va0_2 a0_2) :
    Calls Tryz.prog 34 ([.agg ([.int .i64 a0_0, va0_1, va0_2].toArray)] : List Value).toArray w (fun e w' => e = .returned (.bool r0) ∧ Ext w w') := by
  unfold spec_l2Maze.f at h
  have hl_va0_1 := hr_a0_1.len
  have hl_va0_2 := hr_a0_2.len
  refine Calls.of_tri (N := 89) Tryz.func34 rfl rfl rfl (Sep.nil (M := noM)) ?_
  refine Tri.seq ?_
  refine Tri.reg (l := [0, 1]) rfl ?_
  refine F.m rfl rfl rfl (wanted_none rfl) (m_boxG rfl rfl) ?_
  rintro _ _ ⟨b1_1, rfl, rfl⟩
  refine F.q rfl rfl rfl (wanted_none rfl) (r_assign rfl) ?_
  refine F.nil ?_
  refine Nrm.seq ?_
  refine Tri.seq ?_
  refine Tri.seq ?_
  obtain ⟨y23, hE_1, h⟩ := bind_some h
  refine Tri.cut (fun e' C' => e' = [(1, .pointer (some ⟨b1_1, 0, none⟩)), (23, .bool y23)] ∧ C' = Sep w noM [R.box b1_1 31 [.int .i64 a0_0, va0_1, va0_2]]) ?_ (fun hj_1 => ?_)
  · rintro _ _ ⟨rfl, rfl⟩
    refine Nrm.seq ?_
    refine Tri.cond (b := y23) rfl (fun g_1 => ?_) (fun g_1 => ?_)
    · replace h := if_tt g_1 h
      refine Tri.seq ?_
      refine Tri.reg (l := [0]) rfl ?_
      refine F.q rfl rfl rfl (wanted_none rfl) (r_assign rfl) ?_
      refine F.nil ?_
      refine Nrm.seq ?_
      refine Tri.ret ?_
      refine Rtn.then ?_
      cases h
      exact Rtn.body (.tmp rfl .nil) (fun w hw => ⟨rfl, hw.ext⟩)
    · replace h := if_ff g_1 h
      refine Tri.skip ?_
      refine Nrm.seq ?_
      refine Tri.seq ?_
      refine Tri.seq ?_
      refine Tri.reg (l := [0]) rfl ?_
      refine F.q rfl rfl rfl (wanted_none rfl) (r_assign rfl) ?_
      refine F.nil ?_
      refine Nrm.seq ?_
      obtain ⟨s0, hE_2, h⟩ := bind_some h
      refine Tri.block ?_
      refine Tri.only [1, 3] rfl ?_
      refine Tri.pick [0] rfl rfl ?_
      refine Tri.rounds (fun n e' C' => ∃ (x3' : Int), spec_l2Maze.l0 k a0_0 a0_1 n x3' = some s0 ∧ e' = [(1, .pointer (some ⟨b1_1, 0, none⟩)), (3, .int .i64 x3')] ∧ C' = Sep w noM [R.box b1_1 31 [.int .i64 a0_0, va0_1, va0_2]]) k ?_ ?_ ?_
      · exact ⟨0, hE_2, rfl, rfl⟩
      · rintro _ _ ⟨_, hE_2, _⟩
        rw [spec_l2Maze.l0.eq_1] at hE_2; cases hE_2
      · rintro n_1 _ _ ⟨x3, hE_2, rfl, rfl⟩ ih_1
        rw [spec_l2Maze.l0.eq_2] at hE_2
        refine Tri.seq ?_
        refine Tri.seq ?_
        refine Tri.reg (l := [0, 1, 2, 3, 4]) rfl ?_
        refine F.q rfl rfl rfl (wanted_none rfl) (r_move rfl) ?_
        refine F.q rfl rfl rfl (wanted_none rfl) (r_fieldAddr tf31_1 rfl) ?_
        refine F.q rfl rfl rfl (wanted_none rfl) (r_load ta22 rfl (fun w hw => cell_1 (box_cells (i := 0) rfl w hw) rfl)) ?_
        refine F.q rfl rfl rfl (wanted_none rfl) (r_len Tryz.underlying22 rfl hl_va0_1) ?_
        refine F.q rfl rfl rfl (wanted_none rfl) (r_lss rfl rfl) ?_
        refine F.nil ?_
        refine Nrm.seq ?_
        refine Tri.cond (b := decide (x3 < (a0_1.length : Int))) rfl (fun g_2 => ?_) (fun g_2 => ?_)
        · replace hE_2 := if_tt g_2 hE_2
          refine Tri.skip ?_
          refine Nrm.seq ?_
          refine Tri.seq ?_
          refine Tri.block ?_
          refine Tri.seq ?_
          obtain ⟨t34, h34, hE_2⟩ := bind_some hE_2
          refine Tri.reg (l := [0, 1, 2, 3, 4, 5, 6]) rfl ?_
          refine F.q rfl rfl rfl (wanted_none rfl) (r_fieldAddr tf31_1 rfl) ?_
          refine F.q rfl rfl rfl (wanted_none rfl) (r_load ta22 rfl (fun w hw => cell_1 (box_cells (i := 0) rfl w hw) rfl)) ?_
          refine F.q rfl rfl rfl (wanted_none rfl) (r_move rfl) ?_
          refine F.q rfl rfl rfl (wanted_none rfl) (r_indexAddrS Tryz.underlying22 ti72 rfl hl_va0_1 rfl (rdl_some h34).1 (rdl_some h34).2.1) ?_
          refine F.q rfl rfl rfl (wanted_none rfl) (r_loadA ta72 ti72 rfl rfl (fun w hw => (Rd.flat ((fun _ hw => hr_a0_1.sep hw) w hw) (rdl_some h34).2.2))) ?_
          refine F.m rfl rfl rfl (wanted_none rfl) (m_alloc ti72) ?_
          rintro _ _ ⟨b4_1, rfl, rfl⟩
          refine F.ef0 rfl rfl (wanted_none rfl) (d_storeG0 (i := 0) (cs2 := [.int .i64 t34.1, .int .i64 t34.2.1, .int .i64 t34.2.2]) ti72 rfl rfl rfl rfl rfl (Nat.le_of_ble_eq_true rfl) (lf_cons rfl (lf_cons rfl (lf_cons rfl lf_nil)))) ?_
          rintro _ _ ⟨rfl, rfl⟩
          refine F.nil ?_
          refine Nrm.seq ?_
          refine Tri.seq ?_
          obtain ⟨y75, hE_3, hE_2⟩ := bind_some hE_2
          refine Tri.cut (fun e' C' => e' = [(1, .pointer (some ⟨b1_1, 0, none⟩)), (3, .int .i64 x3), (75, .bool y75)] ∧ C' = Sep w noM [R.box b1_1 31 [.int .i64 a0_0, va0_1, va0_2]]) ?_ (fun hj_2 => ?_)
          · rintro _ _ ⟨rfl, rfl⟩
            refine Nrm.seq ?_
            refine Tri.cond (b := y75) rfl (fun g_3 => ?_) (fun g_3 => ?_)
            · replace hE_2 := if_tt g_3 hE_2
              refine Tri.seq ?_
              refine Tri.reg (l := [0]) rfl ?_
              refine F.q rfl rfl rfl (wanted_none rfl) (r_assign rfl) ?_
              refine F.nil ?_
              refine Nrm.seq ?_
              refine Tri.ret ?_
              refine Rtn.block ?_
              refine Rtn.then ?_
              refine Rtn.then ?_
              refine Rtn.block ?_
              refine Rtn.then ?_
              cases hE_2
              replace h := Lr_inr h
              cases h
              exact Rtn.body (.tmp rfl .nil) (fun w hw => ⟨rfl, hw.ext⟩)
            · replace hE_2 := if_ff g_3 hE_2
              refine Tri.skip ?_
              refine Nrm.block ?_
              refine Nrm.seq ?_
              refine Tri.reg (l := [0, 1, 2]) rfl ?_
              refine F.q rfl rfl rfl (wanted_none rfl) (r_move rfl) ?_
              refine F.q rfl rfl rfl (wanted_none rfl) (r_add rfl rfl) ?_
              refine F.q rfl rfl rfl (wanted_none rfl) (r_assign rfl) ?_
              refine F.nil ?_
              refine Nrm.round ?_
              refine Rnd.only [1, 3] rfl ?_
              refine Rnd.pick [0] rfl rfl ?_
              exact ih_1 _ _ ⟨w64 (x3 + 1), hE_2, rfl, rfl⟩
          · obtain ⟨t41, h41, hE_3⟩ := bind_some hE_3
            rcases Bool.eq_false_or_eq_true (!t41) with g43 | g43
            · replace hE_3 := if_tt g43 hE_3
              refine Tri.drawA mixedT Sep.up [(0, true), (1, true), (2, true), (3, true), (4, true), (5, true), (6, true), (7, true), (8, true), (9, true), (10, true), (11, true), (12, true), (13, true), (14, true), (15, true), (16, true), (17, true), (18, true), (19, true), (20, true), (21, true), (22, true), (23, true), (24, true), (25, true), (26, true), (27, true), (28, true), (29, true), (30, true), (31, true), (32, true), (33, true), (34, true), (35, true), (36, true), (37, true), (38, true), (39, true)] [] (by kernel_rfl) ?_
              refine S.q rfl rfl rfl (wanted_none rfl) (r_indexAddrA Tryz.underlying72 ti3 rfl rfl (by decide) (by decide)) ?_
              refine S.q rfl rfl rfl (wanted_none rfl) (r_load ta3 rfl (fun w hw => cell_1 (box_cells (i := 0) rfl w hw) rfl)) ?_
              refine S.q rfl rfl rfl (wanted_none rfl) (r_fieldAddr tf31_0 rfl) ?_
              refine S.q rfl rfl rfl (wanted_none rfl) (r_load ta3 rfl (fun w hw => cell_1 (box_cells (i := 1) rfl w hw) rfl)) ?_
              refine S.q rfl rfl rfl (wanted_none rfl) (r_sub rfl rfl) ?_
              refine S.qc rfl rfl rfl (wanted_none rfl) (q_callF (xs := _) rfl ok35 rfl rfl (fun w hw => spec_l1In.ok h41 w )) ?_
              refine S.q rfl rfl rfl (wanted_none rfl) (r_not rfl) ?_
              refine S.q rfl rfl rfl (wanted_none rfl) (r_move rfl) ?_
              refine S.sk rfl rfl rfl (wf rfl rfl rfl g43) ?_
              refine S.sk rfl rfl rfl (wf rfl rfl rfl g43) ?_
              refine S.sk rfl rfl rfl (wf rfl rfl rfl g43) ?_
              refine S.sk rfl rfl rfl (wf rfl rfl rfl g43) ?_
              refine S.sk rfl rfl rfl (wf rfl rfl rfl g43) ?_
              refine S.sk rfl rfl rfl (wf rfl rfl rfl g43) ?_
              refine S.sk rfl rfl rfl (wf rfl rfl rfl g43) ?_
              refine S.sk rfl rfl rfl (wf rfl rfl rfl g43) ?_
              refine S.sk rfl rfl rfl (wf rfl rfl rfl g43) ?_
              refine S.sk rfl rfl rfl (wf rfl rfl rfl g43) ?_
              refine S.q rfl rfl rfl (wanted_none rfl) (r_pick rfl rfl g43) ?_
              refine S.q rfl rfl rfl (wanted_none rfl) (r_move rfl) ?_
              refine S.sk rfl rfl rfl (wf rfl rfl rfl rfl) ?_
              refine S.sk rfl rfl rfl (wf rfl rfl rfl rfl) ?_
              refine S.sk rfl rfl rfl (wf rfl rfl rfl rfl) ?_
              refine S.sk rfl rfl rfl (wf rfl rfl rfl rfl) ?_
              refine S.q rfl rfl rfl (wanted_none rfl) (r_pick rfl rfl rfl) ?_
              refine S.q rfl rfl rfl (wanted_none rfl) (r_move rfl) ?_
              refine S.sk rfl rfl rfl (wf rfl rfl rfl rfl) ?_
              refine S.sk rfl rfl rfl (wf rfl rfl rfl rfl) ?_
              refine S.sk rfl rfl rfl (wf rfl rfl rfl rfl) ?_
              refine S.sk rfl rfl rfl (wanted_undef rfl rfl rfl) ?_
              refine S.sk rfl rfl rfl (wanted_undef rfl rfl rfl) ?_
              refine S.sk rfl rfl rfl (wanted_undef rfl rfl rfl) ?_
              refine S.sk rfl rfl rfl (wanted_undef rfl rfl rfl) ?_
              refine S.sk rfl rfl rfl (wanted_undef rfl rfl rfl) ?_
              refine S.sk rfl rfl rfl (wanted_undef rfl rfl rfl) ?_
              refine S.sk rfl rfl rfl (wanted_undef rfl rfl rfl) ?_
              refine S.sk rfl rfl rfl (wanted_undef rfl rfl rfl) ?_
              refine S.sk rfl rfl rfl (wanted_undef rfl rfl rfl) ?_
              refine S.sk rfl rfl rfl (wf rfl rfl rfl rfl) ?_
              refine S.q rfl rfl rfl (wanted_none rfl) (r_pick rfl rfl rfl) ?_
              refine S.nil ?_
              refine F.nil ?_
              cases hE_3
              refine Nrm.only [1, 3, 75] rfl ?_
              refine Nrm.pick [1] rfl rfl ?_
              exact hj_2 _ _ ⟨rfl, rfl⟩
            · replace hE_3 := if_ff g43 hE_3
              obtain ⟨t52, h52, hE_3⟩ := bind_some hE_3
              rcases Bool.eq_false_or_eq_true (!t52) with g55 | g55
              · replace hE_3 := if_tt g55 hE_3
                refine Tri.drawA mixedT Sep.up [(0, true), (1, true), (2, true), (3, true), (4, true), (5, true), (6, true), (7, true), (8, true), (9, true), (10, true), (11, true), (12, true), (13, true), (14, true), (15, true), (16, true), (17, true), (18, true), (19, true), (20, true), (21, true), (22, true), (23, true), (24, true), (25, true), (26, true), (27, true), (28, true), (29, true), (30, true), (31, true), (32, true), (33, true), (34, true), (35, true), (36, true), (37, true), (38, true), (39, true)] [] (by kernel_rfl) ?_
                refine S.q rfl rfl rfl (wanted_none rfl) (r_indexAddrA Tryz.underlying72 ti3 rfl rfl (by decide) (by decide)) ?_
                refine S.q rfl rfl rfl (wanted_none rfl) (r_load ta3 rfl (fun w hw => cell_1 (box_cells (i := 0) rfl w hw) rfl)) ?_
                refine S.q rfl rfl rfl (wanted_none rfl) (r_fieldAddr tf31_0 rfl) ?_
                refine S.q rfl rfl rfl (wanted_none rfl) (r_load ta3 rfl (fun w hw => cell_1 (box_cells (i := 1) rfl w hw) rfl)) ?_
                refine S.q rfl rfl rfl (wanted_none rfl) (r_sub rfl rfl) ?_
                refine S.qc rfl rfl rfl (wanted_none rfl) (q_callF (xs := _) rfl ok35 rfl rfl (fun w hw => spec_l1In.ok h41 w )) ?_
                refine S.q rfl rfl rfl (wanted_none rfl) (r_not rfl) ?_
                refine S.q rfl rfl rfl (wanted_none rfl) (r_move rfl) ?_
                refine S.q rfl rfl rfl (wg rfl rfl rfl g43) (r_indexAddrA Tryz.underlying72 ti3 rfl rfl (by decide) (by decide)) ?_
                refine S.q rfl rfl rfl (wg rfl rfl rfl g43) (r_load ta3 rfl (fun w hw => cell_1 (box_cells (i := 0) rfl w hw) rfl)) ?_
                refine S.q rfl rfl rfl (wg rfl rfl rfl g43) (r_indexAddrA Tryz.underlying72 ti3 rfl rfl (by decide) (by decide)) ?_
                refine S.q rfl rfl rfl (wg rfl rfl rfl g43) (r_load ta3 rfl (fun w hw => cell_1 (box_cells (i := 0) rfl w hw) rfl)) ?_
                refine S.q rfl rfl rfl (wg rfl rfl rfl g43) (r_add rfl rfl) ?_
                refine S.q rfl rfl rfl (wg rfl rfl rfl g43) (r_fieldAddr tf31_0 rfl) ?_
                refine S.q rfl rfl rfl (wg rfl rfl rfl g43) (r_load ta3 rfl (fun w hw => cell_1 (box_cells (i := 1) rfl w hw) rfl)) ?_
                refine S.q rfl rfl rfl (wg rfl rfl rfl g43) (r_sub rfl rfl) ?_
                refine S.qc rfl rfl rfl (wg rfl rfl rfl g43) (q_callF (xs := _) rfl ok35 rfl rfl (fun w hw => spec_l1In.ok h52 w )) ?_
                refine S.q rfl rfl rfl (wg rfl rfl rfl g43) (r_not rfl) ?_
                refine S.q rfl rfl rfl (wanted_none rfl) (r_pickf rfl rfl g43) ?_
                refine S.q rfl rfl rfl (wanted_none rfl) (r_move rfl) ?_
                refine S.sk rfl rfl rfl (wf rfl rfl rfl g55) ?_
                refine S.sk rfl rfl rfl (wf rfl rfl rfl g55) ?_
                refine S.sk rfl rfl rfl (wf rfl rfl rfl g55) ?_
                refine S.sk rfl rfl rfl (wf rfl rfl rfl g55) ?_
                refine S.q rfl rfl rfl (wanted_none rfl) (r_pick rfl rfl g55) ?_
                refine S.q rfl rfl rfl (wanted_none rfl) (r_move rfl) ?_
                refine S.sk rfl rfl rfl (wf rfl rfl rfl rfl) ?_
                refine S.sk rfl rfl rfl (wf rfl rfl rfl rfl) ?_
                refine S.sk rfl rfl rfl (wf rfl rfl rfl rfl) ?_
                refine S.sk rfl rfl rfl (wanted_undef rfl rfl rfl) ?_
                refine S.sk rfl rfl rfl (wanted_undef rfl rfl rfl) ?_
                refine S.sk rfl rfl rfl (wanted_undef rfl rfl rfl) ?_
                refine S.sk rfl rfl rfl (wanted_undef rfl rfl rfl) ?_
                refine S.sk rfl rfl rfl (wanted_undef rfl rfl rfl) ?_
                refine S.sk rfl rfl rfl (wanted_undef rfl rfl rfl) ?_
                refine S.sk rfl rfl rfl (wanted_undef rfl rfl rfl) ?_
                refine S.sk rfl rfl rfl (wanted_undef rfl rfl rfl) ?_
                refine S.sk rfl rfl rfl (wanted_undef rfl rfl rfl) ?_
                refine S.sk rfl rfl rfl (wf rfl rfl rfl rfl) ?_
                refine S.q rfl rfl rfl (wanted_none rfl) (r_pick rfl rfl rfl) ?_
                refine S.nil ?_
                refine F.nil ?_
                cases hE_3
                refine Nrm.only [1, 3, 75] rfl ?_
                refine Nrm.pick [1] rfl rfl ?_
                exact hj_2 _ _ ⟨rfl, rfl⟩
              · replace hE_3 := if_ff g55 hE_3
                obtain ⟨t58, h58, hE_3⟩ := bind_some hE_3
                rcases Bool.eq_false_or_eq_true (!t58) with g61 | g61
                · replace hE_3 := if_tt g61 hE_3
                  refine Tri.drawA mixedT Sep.up [(0, true), (1, true), (2, true), (3, true), (4, true), (5, true), (6, true), (7, true), (8, true), (9, true), (10, true), (11, true), (12, true), (13, true), (14, true), (15, true), (16, true), (17, true), (18, true), (19, true), (20, true), (21, true), (22, true), (23, true), (24, true), (25, true), (26, true), (27, true), (28, true), (29, true), (30, true), (31, true), (32, true), (33, true), (34, true), (35, true), (36, true), (37, true), (38, true), (39, true)] [] (by kernel_rfl) ?_
                  refine S.q rfl rfl rfl (wanted_none rfl) (r_indexAddrA Tryz.underlying72 ti3 rfl rfl (by decide) (by decide)) ?_
                  refine S.q rfl rfl rfl (wanted_none rfl) (r_load ta3 rfl (fun w hw => cell_1 (box_cells (i := 0) rfl w hw) rfl)) ?_
                  refine S.q rfl rfl rfl (wanted_none rfl) (r_fieldAddr tf31_0 rfl) ?_
                  refine S.q rfl rfl rfl (wanted_none rfl) (r_load ta3 rfl (fun w hw => cell_1 (box_cells (i := 1) rfl w hw) rfl)) ?_
                  refine S.q rfl rfl rfl (wanted_none rfl) (r_sub rfl rfl) ?_
                  refine S.qc rfl rfl rfl (wanted_none rfl) (q_callF (xs := _) rfl ok35 rfl rfl (fun w hw => spec_l1In.ok h41 w )) ?_
                  refine S.q rfl rfl rfl (wanted_none rfl) (r_not rfl) ?_
                  refine S.q rfl rfl rfl (wanted_none rfl) (r_move rfl) ?_
                  refine S.q rfl rfl rfl (wg rfl rfl rfl g43) (r_indexAddrA Tryz.underlying72 ti3 rfl rfl (by decide) (by decide)) ?_
                  refine S.q rfl rfl rfl (wg rfl rfl rfl g43) (r_load ta3 rfl (fun w hw => cell_1 (box_cells (i := 0) rfl w hw) rfl)) ?_
                  refine S.q rfl rfl rfl (wg rfl rfl rfl g43) (r_indexAddrA Tryz.underlying72 ti3 rfl rfl (by decide) (by decide)) ?_
                  refine S.q rfl rfl rfl (wg rfl rfl rfl g43) (r_load ta3 rfl (fun w hw => cell_1 (box_cells (i := 0) rfl w hw) rfl)) ?_
                  refine S.q rfl rfl rfl (wg rfl rfl rfl g43) (r_add rfl rfl) ?_
                  refine S.q rfl rfl rfl (wg rfl rfl rfl g43) (r_fieldAddr tf31_0 rfl) ?_
                  refine S.q rfl rfl rfl (wg rfl rfl rfl g43) (r_load ta3 rfl (fun w hw => cell_1 (box_cells (i := 1) rfl w hw) rfl)) ?_
                  refine S.q rfl rfl rfl (wg rfl rfl rfl g43) (r_sub rfl rfl) ?_
                  refine S.qc rfl rfl rfl (wg rfl rfl rfl g43) (q_callF (xs := _) rfl ok35 rfl rfl (fun w hw => spec_l1In.ok h52 w )) ?_
                  refine S.q rfl rfl rfl (wg rfl rfl rfl g43) (r_not rfl) ?_
                  refine S.q rfl rfl rfl (wanted_none rfl) (r_pickf rfl rfl g43) ?_
                  refine S.q rfl rfl rfl (wanted_none rfl) (r_move rfl) ?_
                  refine S.q rfl rfl rfl (wg rfl rfl rfl g55) (r_indexAddrA Tryz.underlying72 ti3 rfl rfl (by decide) (by decide)) ?_
                  refine S.q rfl rfl rfl (wg rfl rfl rfl g55) (r_load ta3 rfl (fun w hw => cell_1 (box_cells (i := 0) rfl w hw) rfl)) ?_
                  refine S.qc rfl rfl rfl (wg rfl rfl rfl g55) (q_callF (xs := _) rfl ok52 rfl rfl (fun w hw => spec_l2Set.ok h58 w )) ?_
                  refine S.q rfl rfl rfl (wg rfl rfl rfl g55) (r_not rfl) ?_
                  refine S.q rfl rfl rfl (wanted_none rfl) (r_pickf rfl rfl g55) ?_
                  refine S.q rfl rfl rfl (wanted_none rfl) (r_move rfl) ?_
                  refine S.sk rfl rfl rfl (wf rfl rfl rfl g61) ?_
                  refine S.sk rfl rfl rfl (wf rfl rfl rfl g61) ?_
                  refine S.sk rfl rfl rfl (wf rfl rfl rfl g61) ?_
                  refine S.sk rfl rfl rfl (wanted_undef rfl rfl rfl) ?_
                  refine S.sk rfl rfl rfl (wanted_undef rfl rfl rfl) ?_
                  refine S.sk rfl rfl rfl (wanted_undef rfl rfl rfl) ?_
                  refine S.sk rfl rfl rfl (wanted_undef rfl rfl rfl) ?_
                  refine S.sk rfl rfl rfl (wanted_undef rfl rfl rfl) ?_
                  refine S.sk rfl rfl rfl (wanted_undef rfl rfl rfl) ?_
                  refine S.sk rfl rfl rfl (wanted_undef rfl rfl rfl) ?_
                  refine S.sk rfl rfl rfl (wanted_undef rfl rfl rfl) ?_
                  refine S.sk rfl rfl rfl (wanted_undef rfl rfl rfl) ?_
                  refine S.sk rfl rfl rfl (wf rfl rfl rfl g61) ?_
                  refine S.q rfl rfl rfl (wanted_none rfl) (r_pick rfl rfl g61) ?_
                  refine S.nil ?_
                  refine F.nil ?_
                  cases hE_3
                  refine Nrm.only [1, 3, 75] rfl ?_
                  refine Nrm.pick [1] rfl rfl ?_
                  exact hj_2 _ _ ⟨rfl, rfl⟩
                · replace hE_3 := if_ff g61 hE_3
                  rcases Bool.eq_false_or_eq_true (decide (x3 > 0)) with g64 | g64
                  · replace hE_3 := if_tt g64 hE_3
                    obtain ⟨t69, h69, hE_3⟩ := bind_some hE_3
                    obtain ⟨t72, h72, hE_3⟩ := bind_some hE_3
                    refine Tri.drawA mixedT Sep.up [(0, true), (1, true), (2, true), (3, true), (4, true), (5, true), (6, true), (7, true), (8, true), (9, true), (10, true), (11, true), (12, true), (13, true), (14, true), (15, true), (16, true), (17, true), (18, true), (19, true), (20, true), (21, true), (22, true), (23, true), (24, true), (25, true), (26, true), (27, true), (28, true), (29, true), (30, true), (31, true), (32, true), (33, true), (34, true), (35, true), (36, true), (37, true), (38, true), (39, true)] [] (by kernel_rfl) ?_
                    refine S.q rfl rfl rfl (wanted_none rfl) (r_indexAddrA Tryz.underlying72 ti3 rfl rfl (by decide) (by decide)) ?_
                    refine S.q rfl rfl rfl (wanted_none rfl) (r_load ta3 rfl (fun w hw => cell_1 (box_cells (i := 0) rfl w hw) rfl)) ?_
                    refine S.q rfl rfl rfl (wanted_none rfl) (r_fieldAddr tf31_0 rfl) ?_
                    refine S.q rfl rfl rfl (wanted_none rfl) (r_load ta3 rfl (fun w hw => cell_1 (box_cells (i := 1) rfl w hw) rfl)) ?_
                    refine S.q rfl rfl rfl (wanted_none rfl) (r_sub rfl rfl) ?_
                    refine S.qc rfl rfl rfl (wanted_none rfl) (q_callF (xs := _) rfl ok35 rfl rfl (fun w hw => spec_l1In.ok h41 w )) ?_
                    refine S.q rfl rfl rfl (wanted_none rfl) (r_not rfl) ?_
                    refine S.q rfl rfl rfl (wanted_none rfl) (r_move rfl) ?_
                    refine S.q rfl rfl rfl (wg rfl rfl rfl g43) (r_indexAddrA Tryz.underlying72 ti3 rfl rfl (by decide) (by decide)) ?_
                    refine S.q rfl rfl rfl (wg rfl rfl rfl g43) (r_load ta3 rfl (fun w hw => cell_1 (box_cells (i := 0) rfl w hw) rfl)) ?_
                    refine S.q rfl rfl rfl (wg rfl rfl rfl g43) (r_indexAddrA Tryz.underlying72 ti3 rfl rfl (by decide) (by decide)) ?_
                    refine S.q rfl rfl rfl (wg rfl rfl rfl g43) (r_load ta3 rfl (fun w hw => cell_1 (box_cells (i := 0) rfl w hw) rfl)) ?_
                    refine S.q rfl rfl rfl (wg rfl rfl rfl g43) (r_add rfl rfl) ?_
                    refine S.q rfl rfl rfl (wg rfl rfl rfl g43) (r_fieldAddr tf31_0 rfl) ?_
                    refine S.q rfl rfl rfl (wg rfl rfl rfl g43) (r_load ta3 rfl (fun w hw => cell_1 (box_cells (i := 1) rfl w hw) rfl)) ?_
                    refine S.q rfl rfl rfl (wg rfl rfl rfl g43) (r_sub rfl rfl) ?_
                    refine S.qc rfl rfl rfl (wg rfl rfl rfl g43) (q_callF (xs := _) rfl ok35 rfl rfl (fun w hw => spec_l1In.ok h52 w )) ?_
                    refine S.q rfl rfl rfl (wg rfl rfl rfl g43) (r_not rfl) ?_
                    refine S.q rfl rfl rfl (wanted_none rfl) (r_pickf rfl rfl g43) ?_
                    refine S.q rfl rfl rfl (wanted_none rfl) (r_move rfl) ?_
                    refine S.q rfl rfl rfl (wg rfl rfl rfl g55) (r_indexAddrA Tryz.underlying72 ti3 rfl rfl (by decide) (by decide)) ?_
                    refine S.q rfl rfl rfl (wg rfl rfl rfl g55) (r_load ta3 rfl (fun w hw => cell_1 (box_cells (i := 0) rfl w hw) rfl)) ?_
                    refine S.qc rfl rfl rfl (wg rfl rfl rfl g55) (q_callF (xs := _) rfl ok52 rfl rfl (fun w hw => spec_l2Set.ok h58 w )) ?_
                    refine S.q rfl rfl rfl (wg rfl rfl rfl g55) (r_not rfl) ?_
                    refine S.q rfl rfl rfl (wanted_none rfl) (r_pickf rfl rfl g55) ?_
                    refine S.q rfl rfl rfl (wanted_none rfl) (r_move rfl) ?_
                    refine S.q rfl rfl rfl (wg rfl rfl rfl g61) (r_move rfl) ?_
                    refine S.q rfl rfl rfl (wg rfl rfl rfl g61) (r_gtr rfl rfl) ?_
                    refine S.q rfl rfl rfl (wg rfl rfl rfl g61) (r_move rfl) ?_
                    refine S.q rfl rfl rfl (wg rfl rfl rfl g64) (r_fieldAddr tf31_1 rfl) ?_
                    refine S.q rfl rfl rfl (wg rfl rfl rfl g64) (r_load ta22 rfl (fun w hw => cell_1 (box_cells (i := 1) rfl w hw) rfl)) ?_
                    refine S.q rfl rfl rfl (wg rfl rfl rfl g64) (r_move rfl) ?_
                    refine S.q rfl rfl rfl (wg rfl rfl rfl g64) (r_sub rfl rfl) ?_
                    refine S.q rfl rfl rfl (wg rfl rfl rfl g64) (r_indexAddrS Tryz.underlying22 ti72 rfl hl_va0_1 rfl (rdl_some h69).1 (rdl_some h69).2.1) ?_
                    refine S.q rfl rfl rfl (wg rfl rfl rfl g64) (r_loadA ta72 ti72 rfl rfl (fun w hw => (Rd.flat ((fun _ hw => hr_a0_1.sep hw) w hw) (rdl_some h69).2.2))) ?_
                    refine S.q rfl rfl rfl (wg rfl rfl rfl g64) (r_loadA ta72 ti72 rfl rfl (fun w hw => (box_cells (i := 0) rfl w hw))) ?_
                    refine S.qc rfl rfl rfl (wg rfl rfl rfl g64) (q_callF (xs := _) rfl ok53 rfl rfl (fun w hw => spec_l2Before.ok h72 w )) ?_
                    refine S.q rfl rfl rfl (wg rfl rfl rfl g64) (r_not rfl) ?_
                    refine S.q rfl rfl rfl (wg rfl rfl rfl g61) (r_pick rfl rfl g64) ?_
                    refine S.q rfl rfl rfl (wanted_none rfl) (r_pickf rfl rfl g61) ?_
                    refine S.nil ?_
                    refine F.nil ?_
                    cases hE_3
                    refine Nrm.only [1, 3, 75] rfl ?_
                    refine Nrm.pick [1] rfl rfl ?_
                    exact hj_2 _ _ ⟨rfl, rfl⟩
                  · replace hE_3 := if_ff g64 hE_3
                    refine Tri.drawA mixedT Sep.up [(0, true), (1, true), (2, true), (3, true), (4, true), (5, true), (6, true), (7, true), (8, true), (9, true), (10, true), (11, true), (12, true), (13, true), (14, true), (15, true), (16, true), (17, true), (18, true), (19, true), (20, true), (21, true), (22, true), (23, true), (24, true), (25, true), (26, true), (27, true), (28, true), (29, true), (30, true), (31, true), (32, true), (33, true), (34, true), (35, true), (36, true), (37, true), (38, true), (39, true)] [] (by kernel_rfl) ?_
                    refine S.q rfl rfl rfl (wanted_none rfl) (r_indexAddrA Tryz.underlying72 ti3 rfl rfl (by decide) (by decide)) ?_
                    refine S.q rfl rfl rfl (wanted_none rfl) (r_load ta3 rfl (fun w hw => cell_1 (box_cells (i := 0) rfl w hw) rfl)) ?_
                    refine S.q rfl rfl rfl (wanted_none rfl) (r_fieldAddr tf31_0 rfl) ?_
                    refine S.q rfl rfl rfl (wanted_none rfl) (r_load ta3 rfl (fun w hw => cell_1 (box_cells (i := 1) rfl w hw) rfl)) ?_
                    refine S.q rfl rfl rfl (wanted_none rfl) (r_sub rfl rfl) ?_
                    refine S.qc rfl rfl rfl (wanted_none rfl) (q_callF (xs := _) rfl ok35 rfl rfl (fun w hw => spec_l1In.ok h41 w )) ?_
                    refine S.q rfl rfl rfl (wanted_none rfl) (r_not rfl) ?_
                    refine S.q rfl rfl rfl (wanted_none rfl) (r_move rfl) ?_
                    refine S.q rfl rfl rfl (wg rfl rfl rfl g43) (r_indexAddrA Tryz.underlying72 ti3 rfl rfl (by decide) (by decide)) ?_
                    refine S.q rfl rfl rfl (wg rfl rfl rfl g43) (r_load ta3 rfl (fun w hw => cell_1 (box_cells (i := 0) rfl w hw) rfl)) ?_
                    refine S.q rfl rfl rfl (wg rfl rfl rfl g43) (r_indexAddrA Tryz.underlying72 ti3 rfl rfl (by decide) (by decide)) ?_
                    refine S.q rfl rfl rfl (wg rfl rfl rfl g43) (r_load ta3 rfl (fun w hw => cell_1 (box_cells (i := 0) rfl w hw) rfl)) ?_
                    refine S.q rfl rfl rfl (wg rfl rfl rfl g43) (r_add rfl rfl) ?_
                    refine S.q rfl rfl rfl (wg rfl rfl rfl g43) (r_fieldAddr tf31_0 rfl) ?_
                    refine S.q rfl rfl rfl (wg rfl rfl rfl g43) (r_load ta3 rfl (fun w hw => cell_1 (box_cells (i := 1) rfl w hw) rfl)) ?_
                    refine S.q rfl rfl rfl (wg rfl rfl rfl g43) (r_sub rfl rfl) ?_
                    refine S.qc rfl rfl rfl (wg rfl rfl rfl g43) (q_callF (xs := _) rfl ok35 rfl rfl (fun w hw => spec_l1In.ok h52 w )) ?_
                    refine S.q rfl rfl rfl (wg rfl rfl rfl g43) (r_not rfl) ?_
                    refine S.q rfl rfl rfl (wanted_none rfl) (r_pickf rfl rfl g43) ?_
                    refine S.q rfl rfl rfl (wanted_none rfl) (r_move rfl) ?_
                    refine S.q rfl rfl rfl (wg rfl rfl rfl g55) (r_indexAddrA Tryz.underlying72 ti3 rfl rfl (by decide) (by decide)) ?_
                    refine S.q rfl rfl rfl (wg rfl rfl rfl g55) (r_load ta3 rfl (fun w hw => cell_1 (box_cells (i := 0) rfl w hw) rfl)) ?_
                    refine S.qc rfl rfl rfl (wg rfl rfl rfl g55) (q_callF (xs := _) rfl ok52 rfl rfl (fun w hw => spec_l2Set.ok h58 w )) ?_
                    refine S.q rfl rfl rfl (wg rfl rfl rfl g55) (r_not rfl) ?_
                    refine S.q rfl rfl rfl (wanted_none rfl) (r_pickf rfl rfl g55) ?_
                    refine S.q rfl rfl rfl (wanted_none rfl) (r_move rfl) ?_
                    refine S.q rfl rfl rfl (wg rfl rfl rfl g61) (r_move rfl) ?_
                    refine S.q rfl rfl rfl (wg rfl rfl rfl g61) (r_gtr rfl rfl) ?_
                    refine S.q rfl rfl rfl (wg rfl rfl rfl g61) (r_move rfl) ?_
                    refine S.sk rfl rfl rfl (wf rfl rfl rfl g64) ?_
                    refine S.sk rfl rfl rfl (wf rfl rfl rfl g64) ?_
                    refine S.sk rfl rfl rfl (wf rfl rfl rfl g64) ?_
                    refine S.sk rfl rfl rfl (wf rfl rfl rfl g64) ?_
                    refine S.sk rfl rfl rfl (wf rfl rfl rfl g64) ?_
                    refine S.sk rfl rfl rfl (wf rfl rfl rfl g64) ?_
                    refine S.sk rfl rfl rfl (wf rfl rfl rfl g64) ?_
                    refine S.sk rfl rfl rfl (wf rfl rfl rfl g64) ?_
                    refine S.sk rfl rfl rfl (wf rfl rfl rfl g64) ?_
                    refine S.q rfl rfl rfl (wg rfl rfl rfl g61) (r_pickf rfl rfl g64) ?_
                    refine S.q rfl rfl rfl (wanted_none rfl) (r_pickf rfl rfl g61) ?_
                    refine S.nil ?_
                    refine F.nil ?_
                    cases hE_3
                    refine Nrm.only [1, 3, 75] rfl ?_
                    refine Nrm.pick [1] rfl rfl ?_
                    exact hj_2 _ _ ⟨rfl, rfl⟩
        · replace hE_2 := if_ff g_2 hE_2
          refine Tri.exit ?_
          refine Exi.then ?_
          refine Exi.then ?_
          refine Exi.same ?_
          cases hE_2
          replace h := Lr_inl h
          refine Nrm.seq ?_
          refine Tri.seq ?_
          refine Tri.seq ?_
          refine Tri.reg (l := [0]) rfl ?_
          refine F.q rfl rfl rfl (wanted_none rfl) (r_assign rfl) ?_
          refine F.nil ?_
          refine Nrm.seq ?_
          obtain ⟨s1, hE_4, h⟩ := bind_some h
          refine Tri.block ?_
          refine Tri.only [1, 5] rfl ?_
          refine Tri.pick [0] rfl rfl ?_
          refine Tri.rounds (fun n e' C' => ∃ (x5' : Int), spec_l2Maze.l1 k a0_0 a0_2 n x5' = some s1 ∧ e' = [(1, .pointer (some ⟨b1_1, 0, none⟩)), (5, .int .i64 x5')] ∧ C' = Sep w noM [R.box b1_1 31 [.int .i64 a0_0, va0_1, va0_2]]) k ?_ ?_ ?_
          · exact ⟨0, hE_4, rfl, rfl⟩
          · rintro _ _ ⟨_, hE_4, _⟩
            rw [spec_l2Maze.l1.eq_1] at hE_4; cases hE_4
          · rintro n_2 _ _ ⟨x5, hE_4, rfl, rfl⟩ ih_2
            rw [spec_l2Maze.l1.eq_2] at hE_4
            refine Tri.seq ?_
            refine Tri.seq ?_
            refine Tri.reg (l := [0, 1, 2, 3]) rfl ?_
            refine F.q rfl rfl rfl (wanted_none rfl) (r_move rfl) ?_
            refine F.q rfl rfl rfl (wanted_none rfl) (r_fieldAddr tf31_0 rfl) ?_
            refine F.q rfl rfl rfl (wanted_none rfl) (r_load ta3 rfl (fun w hw => cell_1 (box_cells (i := 0) rfl w hw) rfl)) ?_
            refine F.q rfl rfl rfl (wanted_none rfl) (r_lss rfl rfl) ?_
            refine F.nil ?_
            refine Nrm.seq ?_
            refine Tri.cond (b := decide (x5 < a0_0)) rfl (fun g_4 => ?_) (fun g_4 => ?_)
            · replace hE_4 := if_tt g_4 hE_4
              refine Tri.skip ?_
              refine Nrm.seq ?_
              refine Tri.seq ?_
              refine Tri.block ?_
              refine Tri.seq ?_
              obtain ⟨t85, h85, hE_4⟩ := bind_some hE_4
              obtain ⟨t87, h87, hE_4⟩ := bind_some hE_4
              refine Tri.reg (l := [0, 1, 2, 3, 4, 5, 6]) rfl ?_
              refine F.q rfl rfl rfl (wanted_none rfl) (r_fieldAddr tf31_2 rfl) ?_
              refine F.q rfl rfl rfl (wanted_none rfl) (r_load ta23 rfl (fun w hw => cell_1 (box_cells (i := 0) rfl w hw) rfl)) ?_
              refine F.q rfl rfl rfl (wanted_none rfl) (r_move rfl) ?_
              refine F.q rfl rfl rfl (wanted_none rfl) (r_indexAddrS Tryz.underlying23 ti3 rfl hl_va0_2 rfl (rdl_some h85).1 (rdl_some h85).2.1) ?_
              refine F.q rfl rfl rfl (wanted_none rfl) (r_load ta3 rfl (fun w hw => cell_0 (Rd.flat ((fun _ hw => hr_a0_2.sep hw) w hw) (rdl_some h85).2.2) rfl)) ?_
              refine F.qc rfl rfl rfl (wanted_none rfl) (q_callF (xs := _) rfl ok52 rfl rfl (fun w hw => spec_l2Set.ok h87 w )) ?_
              refine F.q rfl rfl rfl (wanted_none rfl) (r_not rfl) ?_
              refine F.nil ?_
              refine Nrm.seq ?_
              refine Tri.cond (b := !t87) rfl (fun g_5 => ?_) (fun g_5 => ?_)
              · replace hE_4 := if_tt g_5 hE_4
                refine Tri.seq ?_
                refine Tri.reg (l := [0]) rfl ?_
                refine F.q rfl rfl rfl (wanted_none rfl) (r_assign rfl) ?_
                refine F.nil ?_
                refine Nrm.seq ?_
                refine Tri.ret ?_
                refine Rtn.block ?_
                refine Rtn.then ?_
                refine Rtn.then ?_
                refine Rtn.block ?_
                refine Rtn.then ?_
                cases hE_4
                replace h := Lr_inr h
                cases h
                exact Rtn.body (.tmp rfl .nil) (fun w hw => ⟨rfl, hw.ext⟩)
              · replace hE_4 := if_ff g_5 hE_4
                refine Tri.skip ?_
                refine Nrm.block ?_
                refine Nrm.seq ?_
                refine Tri.reg (l := [0, 1, 2]) rfl ?_
                refine F.q rfl rfl rfl (wanted_none rfl) (r_move rfl) ?_
                refine F.q rfl rfl rfl (wanted_none rfl) (r_add rfl rfl) ?_
                refine F.q rfl rfl rfl (wanted_none rfl) (r_assign rfl) ?_
                refine F.nil ?_
                refine Nrm.round ?_
                refine Rnd.only [1, 5] rfl ?_
                refine Rnd.pick [0] rfl rfl ?_
                exact ih_2 _ _ ⟨w64 (x5 + 1), hE_4, rfl, rfl⟩
            · replace hE_4 := if_ff g_4 hE_4
              refine Tri.exit ?_
              refine Exi.then ?_
              refine Exi.then ?_
              refine Exi.same ?_
              cases hE_4
              replace h := Lr_inl h
              refine Nrm.seq ?_
              refine Tri.seq ?_
              refine Tri.reg (l := [0]) rfl ?_
              refine F.q rfl rfl rfl (wanted_none rfl) (r_assign rfl) ?_
              refine F.nil ?_
              refine Nrm.seq ?_
              refine Tri.ret ?_
              cases h
              exact Rtn.body (.tmp rfl .nil) (fun w hw => ⟨rfl, hw.ext⟩)
  · obtain ⟨t8, h8, hE_1⟩ := bind_some hE_1
    rcases Bool.eq_false_or_eq_true (!t8) with g10 | g10
    · replace hE_1 := if_tt g10 hE_1
      refine Tri.reg (l := [0, 1, 2, 3, 4, 5, 6, 7, 8, 9, 10, 11, 12, 13, 14, 15, 16, 17]) rfl ?_
      refine F.q rfl rfl rfl (wanted_none rfl) (r_fieldAddr tf31_0 rfl) ?_
      refine F.q rfl rfl rfl (wanted_none rfl) (r_load ta3 rfl (fun w hw => cell_1 (box_cells (i := 0) rfl w hw) rfl)) ?_
      refine F.qc rfl rfl rfl (wanted_none rfl) (q_callF (xs := _) rfl ok35 rfl rfl (fun w hw => spec_l1In.ok h8 w )) ?_
      refine F.q rfl rfl rfl (wanted_none rfl) (r_not rfl) ?_
      refine F.q rfl rfl rfl (wanted_none rfl) (r_move rfl) ?_
      refine F.sk rfl rfl rfl (wf rfl rfl rfl g10) ?_
      refine F.sk rfl rfl rfl (wf rfl rfl rfl g10) ?_
      refine F.sk rfl rfl rfl (wf rfl rfl rfl g10) ?_
      refine F.sk rfl rfl rfl (wf rfl rfl rfl g10) ?_
      refine F.q rfl rfl rfl (wanted_none rfl) (r_pick rfl rfl g10) ?_
      refine F.q rfl rfl rfl (wanted_none rfl) (r_move rfl) ?_
      refine F.sk rfl rfl rfl (wf rfl rfl rfl rfl) ?_
      refine F.sk rfl rfl rfl (wf rfl rfl rfl rfl) ?_
      refine F.sk rfl rfl rfl (wf rfl rfl rfl rfl) ?_
      refine F.sk rfl rfl rfl (wf rfl rfl rfl rfl) ?_
      refine F.sk rfl rfl rfl (wf rfl rfl rfl rfl) ?_
      refine F.sk rfl rfl rfl (wf rfl rfl rfl rfl) ?_
      refine F.q rfl rfl rfl (wanted_none rfl) (r_pick rfl rfl rfl) ?_
      refine F.nil ?_
      cases hE_1
      refine Nrm.only [1, 23] rfl ?_
      refine Nrm.pick [0] rfl rfl ?_
      exact hj_1 _ _ ⟨rfl, rfl⟩
    · replace hE_1 := if_ff g10 hE_1
      rcases Bool.eq_false_or_eq_true (decide ((a0_1.length : Int) > 30)) with g16 | g16
      · replace hE_1 := if_tt g16 hE_1
        refine Tri.reg (l := [0, 1, 2, 3, 4, 5, 6, 7, 8, 9, 10, 11, 12, 13, 14, 15, 16, 17]) rfl ?_
        refine F.q rfl rfl rfl (wanted_none rfl) (r_fieldAddr tf31_0 rfl) ?_
        refine F.q rfl rfl rfl (wanted_none rfl) (r_load ta3 rfl (fun w hw => cell_1 (box_cells (i := 0) rfl w hw) rfl)) ?_
        refine F.qc rfl rfl rfl (wanted_none rfl) (q_callF (xs := _) rfl ok35 rfl rfl (fun w hw => spec_l1In.ok h8 w )) ?_
        refine F.q rfl rfl rfl (wanted_none rfl) (r_not rfl) ?_
        refine F.q rfl rfl rfl (wanted_none rfl) (r_move rfl) ?_
        refine F.q rfl rfl rfl (wg rfl rfl rfl g10) (r_fieldAddr tf31_1 rfl) ?_
        refine F.q rfl rfl rfl (wg rfl rfl rfl g10) (r_load ta22 rfl (fun w hw => cell_1 (box_cells (i := 0) rfl w hw) rfl)) ?_
        refine F.q rfl rfl rfl (wg rfl rfl rfl g10) (r_len Tryz.underlying22 rfl hl_va0_1) ?_
        refine F.q rfl rfl rfl (wg rfl rfl rfl g10) (r_gtr rfl rfl) ?_
        refine F.q rfl rfl rfl (wanted_none rfl) (r_pickf rfl rfl g10) ?_
        refine F.q rfl rfl rfl (wanted_none rfl) (r_move rfl) ?_
        refine F.sk rfl rfl rfl (wf rfl rfl rfl g16) ?_
        refine F.sk rfl rfl rfl (wf rfl rfl rfl g16) ?_
        refine F.sk rfl rfl rfl (wf rfl rfl rfl g16) ?_
        refine F.sk rfl rfl rfl (wf rfl rfl rfl g16) ?_
        refine F.sk rfl rfl rfl (wf rfl rfl rfl g16) ?_
        refine F.sk rfl rfl rfl (wf rfl rfl rfl g16) ?_
        refine F.q rfl rfl rfl (wanted_none rfl) (r_pick rfl rfl g16) ?_
        refine F.nil ?_
        cases hE_1
        refine Nrm.only [1, 23] rfl ?_
        refine Nrm.pick [0] rfl rfl ?_
        exact hj_1 _ _ ⟨rfl, rfl⟩
      · replace hE_1 := if_ff g16 hE_1
        refine Tri.reg (l := [0, 1, 2, 3, 4, 5, 6, 7, 8, 9, 10, 11, 12, 13, 14, 15, 16, 17]) rfl ?_
        refine F.q rfl rfl rfl (wanted_none rfl) (r_fieldAddr tf31_0 rfl) ?_
        refine F.q rfl rfl rfl (wanted_none rfl) (r_load ta3 rfl (fun w hw => cell_1 (box_cells (i := 0) rfl w hw) rfl)) ?_
        refine F.qc rfl rfl rfl (wanted_none rfl) (q_callF (xs := _) rfl ok35 rfl rfl (fun w hw => spec_l1In.ok h8 w )) ?_
        refine F.q rfl rfl rfl (wanted_none rfl) (r_not rfl) ?_
        refine F.q rfl rfl rfl (wanted_none rfl) (r_move rfl) ?_
        refine F.q rfl rfl rfl (wg rfl rfl rfl g10) (r_fieldAddr tf31_1 rfl) ?_
        refine F.q rfl rfl rfl (wg rfl rfl rfl g10) (r_load ta22 rfl (fun w hw => cell_1 (box_cells (i := 0) rfl w hw) rfl)) ?_
        refine F.q rfl rfl rfl (wg rfl rfl rfl g10) (r_len Tryz.underlying22 rfl hl_va0_1) ?_
        refine F.q rfl rfl rfl (wg rfl rfl rfl g10) (r_gtr rfl rfl) ?_
        refine F.q rfl rfl rfl (wanted_none rfl) (r_pickf rfl rfl g10) ?_
        refine F.q rfl rfl rfl (wanted_none rfl) (r_move rfl) ?_
        refine F.q rfl rfl rfl (wg rfl rfl rfl g16) (r_fieldAddr tf31_2 rfl) ?_
        refine F.q rfl rfl rfl (wg rfl rfl rfl g16) (r_load ta23 rfl (fun w hw => cell_1 (box_cells (i := 0) rfl w hw) rfl)) ?_
        refine F.q rfl rfl rfl (wg rfl rfl rfl g16) (r_len Tryz.underlying23 rfl hl_va0_2) ?_
        refine F.q rfl rfl rfl (wg rfl rfl rfl g16) (r_fieldAddr tf31_0 rfl) ?_
        refine F.q rfl rfl rfl (wg rfl rfl rfl g16) (r_load ta3 rfl (fun w hw => cell_1 (box_cells (i := 0) rfl w hw) rfl)) ?_
        refine F.q rfl rfl rfl (wg rfl rfl rfl g16) (r_neq rfl rfl) ?_
        refine F.q rfl rfl rfl (wanted_none rfl) (r_pickf rfl rfl g16) ?_
        refine F.nil ?_
        cases hE_1
        refine Nrm.only [1, 23] rfl ?_
        refine Nrm.pick [0] rfl rfl ?_
        exact hj_1 _ _ ⟨rfl, rfl⟩

end Go.Proofs

/- loop.example/g01158/spec.l2Joins -/

namespace Go.Proofs
open Go Go.Ga
set_option linter.unusedVariables false
set_option maxRecDepth 100000
set_option maxHeartbeats 4000000
def spec_l2Joins.f (k : Nat) (a0_0 : Int) (a0_1 : Int) (a0_2 : Int) (a1 : Int) (a2 : Int) : Option (Bool) := ((if (a0_0 == a1) = true then (if (a0_1 == a2) = true then some true else (if (a0_0 == a2) = true then some (a0_1 == a1) else some false)) else (if (a0_0 == a2) = true then some (a0_1 == a1) else some false))).bind fun y6 => some y6

theorem spec_l2Joins.ok {k : Nat}  {a0_0 : Int} {a0_1 : Int} {a0_2 : Int} {a1 : Int} {a2 : Int} {r0 : Bool} (h : spec_l2Joins.f k a0_0 a0_1 a0_2 a1 a2 = some r0) (w : World) :
    Calls Tryz.prog 71 ([.agg ([.int .i64 a0_0, .int .i64 a0_1, .int .i64 a0_2].toArray), .int .i64 a1, .int .i64 a2] : List Value).toArray w (fun e w' => e = .returned (.bool r0) ∧ Ext w w') := by
  unfold spec_l2Joins.f at h
  refine Calls.of_tri (N := 29) Tryz.func71 rfl rfl rfl (Sep.nil (M := noM)) ?_
  refine Tri.seq ?_
  refine Tri.reg (l := [0, 1]) rfl ?_
  refine F.m rfl rfl rfl (wanted_none rfl) (m_boxG rfl rfl) ?_
  rintro _ _ ⟨b3_1, rfl, rfl⟩
  refine F.q rfl rfl rfl (wanted_none rfl) (r_assign rfl) ?_
  refine F.nil ?_
  refine Nrm.seq ?_
  refine Tri.seq ?_
  obtain ⟨y6, hE_1, h⟩ := bind_some h
  refine Tri.cut (fun e' C' => e' = [(6, .bool y6)] ∧ C' = Sep w noM []) ?_ (fun hj_1 => ?_)
  · rintro _ _ ⟨rfl, rfl⟩
    refine Nrm.seq ?_
    refine Tri.ret ?_
    cases h
    exact Rtn.body (.tmp rfl .nil) (fun w hw => ⟨rfl, hw.ext⟩)
  · rcases Bool.eq_false_or_eq_true (a0_0 == a1) with g11 | g11
    · replace hE_1 := if_tt g11 hE_1
      rcases Bool.eq_false_or_eq_true (a0_1 == a2) with g17 | g17
      · replace hE_1 := if_tt g17 hE_1
        refine Tri.reg (l := [0, 1, 2, 3, 4, 5, 6, 7, 8, 9, 10, 11, 12, 13, 14, 15, 16, 17, 18, 19, 20, 21, 22]) rfl ?_
        refine F.q rfl rfl rfl (wanted_none rfl) (r_indexAddrA Tryz.underlying72 ti3 rfl rfl (by decide) (by decide)) ?_
        refine F.q rfl rfl rfl (wanted_none rfl) (r_load ta3 rfl (fun w hw => cell_1 (box_cells (i := 0) rfl w hw) rfl)) ?_
        refine F.q rfl rfl rfl (wanted_none rfl) (r_move rfl) ?_
        refine F.q rfl rfl rfl (wanted_none rfl) (r_eql rfl rfl) ?_
        refine F.q rfl rfl rfl (wanted_none rfl) (r_move rfl) ?_
        refine F.q rfl rfl rfl (wg rfl rfl rfl g11) (r_indexAddrA Tryz.underlying72 ti3 rfl rfl (by decide) (by decide)) ?_
        refine F.q rfl rfl rfl (wg rfl rfl rfl g11) (r_load ta3 rfl (fun w hw => cell_1 (box_cells (i := 0) rfl w hw) rfl)) ?_
        refine F.q rfl rfl rfl (wg rfl rfl rfl g11) (r_move rfl) ?_
        refine F.q rfl rfl rfl (wg rfl rfl rfl g11) (r_eql rfl rfl) ?_
        refine F.q rfl rfl rfl (wanted_none rfl) (r_pick rfl rfl g11) ?_
        refine F.q rfl rfl rfl (wanted_none rfl) (r_move rfl) ?_
        refine F.sk rfl rfl rfl (wf rfl rfl rfl g17) ?_
        refine F.sk rfl rfl rfl (wf rfl rfl rfl g17) ?_
        refine F.sk rfl rfl rfl (wf rfl rfl rfl g17) ?_
        refine F.sk rfl rfl rfl (wf rfl rfl rfl g17) ?_
        refine F.sk rfl rfl rfl (wf rfl rfl rfl g17) ?_
        refine F.sk rfl rfl rfl (wanted_undef rfl rfl rfl) ?_
        refine F.sk rfl rfl rfl (wanted_undef rfl rfl rfl) ?_
        refine F.sk rfl rfl rfl (wanted_undef rfl rfl rfl) ?_
        refine F.sk rfl rfl rfl (wanted_undef rfl rfl rfl) ?_
        refine F.sk rfl rfl rfl (wf rfl rfl rfl g17) ?_
        refine F.q rfl rfl rfl (wanted_none rfl) (r_pick rfl rfl g17) ?_
        refine F.q rfl rfl rfl (wanted_none rfl) (r_assign rfl) ?_
        refine F.nil ?_
        cases hE_1
        refine Nrm.only [6] rfl ?_
        refine Nrm.pick [] rfl rfl ?_
        exact hj_1 _ _ ⟨rfl, rfl⟩
      · replace hE_1 := if_ff g17 hE_1
        rcases Bool.eq_false_or_eq_true (a0_0 == a2) with g22 | g22
        · replace hE_1 := if_tt g22 hE_1
          refine Tri.reg (l := [0, 1, 2, 3, 4, 5, 6, 7, 8, 9, 10, 11, 12, 13, 14, 15, 16, 17, 18, 19, 20, 21, 22]) rfl ?_
          refine F.q rfl rfl rfl (wanted_none rfl) (r_indexAddrA Tryz.underlying72 ti3 rfl rfl (by decide) (by decide)) ?_
          refine F.q rfl rfl rfl (wanted_none rfl) (r_load ta3 rfl (fun w hw => cell_1 (box_cells (i := 0) rfl w hw) rfl)) ?_
          refine F.q rfl rfl rfl (wanted_none rfl) (r_move rfl) ?_
          refine F.q rfl rfl rfl (wanted_none rfl) (r_eql rfl rfl) ?_
          refine F.q rfl rfl rfl (wanted_none rfl) (r_move rfl) ?_
          refine F.q rfl rfl rfl (wg rfl rfl rfl g11) (r_indexAddrA Tryz.underlying72 ti3 rfl rfl (by decide) (by decide)) ?_
          refine F.q rfl rfl rfl (wg rfl rfl rfl g11) (r_load ta3 rfl (fun w hw => cell_1 (box_cells (i := 0) rfl w hw) rfl)) ?_
          refine F.q rfl rfl rfl (wg rfl rfl rfl g11) (r_move rfl) ?_
          refine F.q rfl rfl rfl (wg rfl rfl rfl g11) (r_eql rfl rfl) ?_
          refine F.q rfl rfl rfl (wanted_none rfl) (r_pick rfl rfl g11) ?_
          refine F.q rfl rfl rfl (wanted_none rfl) (r_move rfl) ?_
          refine F.q rfl rfl rfl (wg rfl rfl rfl g17) (r_indexAddrA Tryz.underlying72 ti3 rfl rfl (by decide) (by decide)) ?_
          refine F.q rfl rfl rfl (wg rfl rfl rfl g17) (r_load ta3 rfl (fun w hw => cell_1 (box_cells (i := 0) rfl w hw) rfl)) ?_
          refine F.q rfl rfl rfl (wg rfl rfl rfl g17) (r_move rfl) ?_
          refine F.q rfl rfl rfl (wg rfl rfl rfl g17) (r_eql rfl rfl) ?_
          refine F.q rfl rfl rfl (wg rfl rfl rfl g17) (r_move rfl) ?_
          refine F.q rfl rfl rfl (wg rfl rfl rfl g22) (r_indexAddrA Tryz.underlying72 ti3 rfl rfl (by decide) (by decide)) ?_
          refine F.q rfl rfl rfl (wg rfl rfl rfl g22) (r_load ta3 rfl (fun w hw => cell_1 (box_cells (i := 0) rfl w hw) rfl)) ?_
          refine F.q rfl rfl rfl (wg rfl rfl rfl g22) (r_move rfl) ?_
          refine F.q rfl rfl rfl (wg rfl rfl rfl g22) (r_eql rfl rfl) ?_
          refine F.q rfl rfl rfl (wg rfl rfl rfl g17) (r_pick rfl rfl g22) ?_
          refine F.q rfl rfl rfl (wanted_none rfl) (r_pickf rfl rfl g17) ?_
          refine F.q rfl rfl rfl (wanted_none rfl) (r_assign rfl) ?_
          refine F.nil ?_
          cases hE_1
          refine Nrm.only [6] rfl ?_
          refine Nrm.pick [] rfl rfl ?_
          exact hj_1 _ _ ⟨rfl, rfl⟩
        · replace hE_1 := if_ff g22 hE_1
          refine Tri.reg (l := [0, 1, 2, 3, 4, 5, 6, 7, 8, 9, 10, 11, 12, 13, 14, 15, 16, 17, 18, 19, 20, 21, 22]) rfl ?_
          refine F.q rfl rfl rfl (wanted_none rfl) (r_indexAddrA Tryz.underlying72 ti3 rfl rfl (by decide) (by decide)) ?_
          refine F.q rfl rfl rfl (wanted_none rfl) (r_load ta3 rfl (fun w hw => cell_1 (box_cells (i := 0) rfl w hw) rfl)) ?_
          refine F.q rfl rfl rfl (wanted_none rfl) (r_move rfl) ?_
          refine F.q rfl rfl rfl (wanted_none rfl) (r_eql rfl rfl) ?_
          refine F.q rfl rfl rfl (wanted_none rfl) (r_move rfl) ?_
          refine F.q rfl rfl rfl (wg rfl rfl rfl g11) (r_indexAddrA Tryz.underlying72 ti3 rfl rfl (by decide) (by decide)) ?_
          refine F.q rfl rfl rfl (wg rfl rfl rfl g11) (r_load ta3 rfl (fun w hw => cell_1 (box_cells (i := 0) rfl w hw) rfl)) ?_
          refine F.q rfl rfl rfl (wg rfl rfl rfl g11) (r_move rfl) ?_
          refine F.q rfl rfl rfl (wg rfl rfl rfl g11) (r_eql rfl rfl) ?_
          refine F.q rfl rfl rfl (wanted_none rfl) (r_pick rfl rfl g11) ?_
          refine F.q rfl rfl rfl (wanted_none rfl) (r_move rfl) ?_
          refine F.q rfl rfl rfl (wg rfl rfl rfl g17) (r_indexAddrA Tryz.underlying72 ti3 rfl rfl (by decide) (by decide)) ?_
          refine F.q rfl rfl rfl (wg rfl rfl rfl g17) (r_load ta3 rfl (fun w hw => cell_1 (box_cells (i := 0) rfl w hw) rfl)) ?_
          refine F.q rfl rfl rfl (wg rfl rfl rfl g17) (r_move rfl) ?_
          refine F.q rfl rfl rfl (wg rfl rfl rfl g17) (r_eql rfl rfl) ?_
          refine F.q rfl rfl rfl (wg rfl rfl rfl g17) (r_move rfl) ?_
          refine F.sk rfl rfl rfl (wf rfl rfl rfl g22) ?_
          refine F.sk rfl rfl rfl (wf rfl rfl rfl g22) ?_
          refine F.sk rfl rfl rfl (wf rfl rfl rfl g22) ?_
          refine F.sk rfl rfl rfl (wf rfl rfl rfl g22) ?_
          refine F.q rfl rfl rfl (wg rfl rfl rfl g17) (r_pickf rfl rfl g22) ?_
          refine F.q rfl rfl rfl (wanted_none rfl) (r_pickf rfl rfl g17) ?_
          refine F.q rfl rfl rfl (wanted_none rfl) (r_assign rfl) ?_
          refine F.nil ?_
          cases hE_1
          refine Nrm.only [6] rfl ?_
          refine Nrm.pick [] rfl rfl ?_
          exact hj_1 _ _ ⟨rfl, rfl⟩
    · replace hE_1 := if_ff g11 hE_1
      rcases Bool.eq_false_or_eq_true (a0_0 == a2) with g22 | g22
      · replace hE_1 := if_tt g22 hE_1
        refine Tri.reg (l := [0, 1, 2, 3, 4, 5, 6, 7, 8, 9, 10, 11, 12, 13, 14, 15, 16, 17, 18, 19, 20, 21, 22]) rfl ?_
        refine F.q rfl rfl rfl (wanted_none rfl) (r_indexAddrA Tryz.underlying72 ti3 rfl rfl (by decide) (by decide)) ?_
        refine F.q rfl rfl rfl (wanted_none rfl) (r_load ta3 rfl (fun w hw => cell_1 (box_cells (i := 0) rfl w hw) rfl)) ?_
        refine F.q rfl rfl rfl (wanted_none rfl) (r_move rfl) ?_
        refine F.q rfl rfl rfl (wanted_none rfl) (r_eql rfl rfl) ?_
        refine F.q rfl rfl rfl (wanted_none rfl) (r_move rfl) ?_
        refine F.sk rfl rfl rfl (wf rfl rfl rfl g11) ?_
        refine F.sk rfl rfl rfl (wf rfl rfl rfl g11) ?_
        refine F.sk rfl rfl rfl (wf rfl rfl rfl g11) ?_
        refine F.sk rfl rfl rfl (wf rfl rfl rfl g11) ?_
        refine F.q rfl rfl rfl (wanted_none rfl) (r_pickf rfl rfl g11) ?_
        refine F.q rfl rfl rfl (wanted_none rfl) (r_move rfl) ?_
        refine F.q rfl rfl rfl (wg rfl rfl rfl rfl) (r_indexAddrA Tryz.underlying72 ti3 rfl rfl (by decide) (by decide)) ?_
        refine F.q rfl rfl rfl (wg rfl rfl rfl rfl) (r_load ta3 rfl (fun w hw => cell_1 (box_cells (i := 0) rfl w hw) rfl)) ?_
        refine F.q rfl rfl rfl (wg rfl rfl rfl rfl) (r_move rfl) ?_
        refine F.q rfl rfl rfl (wg rfl rfl rfl rfl) (r_eql rfl rfl) ?_
        refine F.q rfl rfl rfl (wg rfl rfl rfl rfl) (r_move rfl) ?_
        refine F.q rfl rfl rfl (wg rfl rfl rfl g22) (r_indexAddrA Tryz.underlying72 ti3 rfl rfl (by decide) (by decide)) ?_
        refine F.q rfl rfl rfl (wg rfl rfl rfl g22) (r_load ta3 rfl (fun w hw => cell_1 (box_cells (i := 0) rfl w hw) rfl)) ?_
        refine F.q rfl rfl rfl (wg rfl rfl rfl g22) (r_move rfl) ?_
        refine F.q rfl rfl rfl (wg rfl rfl rfl g22) (r_eql rfl rfl) ?_
        refine F.q rfl rfl rfl (wg rfl rfl rfl rfl) (r_pick rfl rfl g22) ?_
        refine F.q rfl rfl rfl (wanted_none rfl) (r_pickf rfl rfl rfl) ?_
        refine F.q rfl rfl rfl (wanted_none rfl) (r_assign rfl) ?_
        refine F.nil ?_
        cases hE_1
        refine Nrm.only [6] rfl ?_
        refine Nrm.pick [] rfl rfl ?_
        exact hj_1 _ _ ⟨rfl, rfl⟩
      · replace hE_1 := if_ff g22 hE_1
        refine Tri.reg (l := [0, 1, 2, 3, 4, 5, 6, 7, 8, 9, 10, 11, 12, 13, 14, 15, 16, 17, 18, 19, 20, 21, 22]) rfl ?_
        refine F.q rfl rfl rfl (wanted_none rfl) (r_indexAddrA Tryz.underlying72 ti3 rfl rfl (by decide) (by decide)) ?_
        refine F.q rfl rfl rfl (wanted_none rfl) (r_load ta3 rfl (fun w hw => cell_1 (box_cells (i := 0) rfl w hw) rfl)) ?_
        refine F.q rfl rfl rfl (wanted_none rfl) (r_move rfl) ?_
        refine F.q rfl rfl rfl (wanted_none rfl) (r_eql rfl rfl) ?_
        refine F.q rfl rfl rfl (wanted_none rfl) (r_move rfl) ?_
        refine F.sk rfl rfl rfl (wf rfl rfl rfl g11) ?_
        refine F.sk rfl rfl rfl (wf rfl rfl rfl g11) ?_
        refine F.sk rfl rfl rfl (wf rfl rfl rfl g11) ?_
        refine F.sk rfl rfl rfl (wf rfl rfl rfl g11) ?_
        refine F.q rfl rfl rfl (wanted_none rfl) (r_pickf rfl rfl g11) ?_
        refine F.q rfl rfl rfl (wanted_none rfl) (r_move rfl) ?_
        refine F.q rfl rfl rfl (wg rfl rfl rfl rfl) (r_indexAddrA Tryz.underlying72 ti3 rfl rfl (by decide) (by decide)) ?_
        refine F.q rfl rfl rfl (wg rfl rfl rfl rfl) (r_load ta3 rfl (fun w hw => cell_1 (box_cells (i := 0) rfl w hw) rfl)) ?_
        refine F.q rfl rfl rfl (wg rfl rfl rfl rfl) (r_move rfl) ?_
        refine F.q rfl rfl rfl (wg rfl rfl rfl rfl) (r_eql rfl rfl) ?_
        refine F.q rfl rfl rfl (wg rfl rfl rfl rfl) (r_move rfl) ?_
        refine F.sk rfl rfl rfl (wf rfl rfl rfl g22) ?_
        refine F.sk rfl rfl rfl (wf rfl rfl rfl g22) ?_
        refine F.sk rfl rfl rfl (wf rfl rfl rfl g22) ?_
        refine F.sk rfl rfl rfl (wf rfl rfl rfl g22) ?_
        refine F.q rfl rfl rfl (wg rfl rfl rfl rfl) (r_pickf rfl rfl g22) ?_
        refine F.q rfl rfl rfl (wanted_none rfl) (r_pickf rfl rfl rfl) ?_
        refine F.q rfl rfl rfl (wanted_none rfl) (r_assign rfl) ?_
        refine F.nil ?_
        cases hE_1
        refine Nrm.only [6] rfl ?_
        refine Nrm.pick [] rfl rfl ?_
        exact hj_1 _ _ ⟨rfl, rfl⟩

end Go.Proofs

/- loop.example/g01158/spec.l2Has -/

namespace Go.Proofs
open Go Go.Ga
set_option linter.unusedVariables false
set_option maxRecDepth 100000
set_option maxHeartbeats 4000000
def spec_l2Has.f (k : Nat) (a0 : Int) (a1 : Int) : Option (Bool) := some ((band a0 a1) == a1)

theorem spec_l2Has.ok {k : Nat}  {a0 : Int} {a1 : Int} {r0 : Bool} (h : spec_l2Has.f k a0 a1 = some r0) (w : World) :
    Calls Tryz.prog 72 ([.int .i64 a0, .int .i64 a1] : List Value).toArray w (fun e w' => e = .returned (.bool r0) ∧ Ext w w') := by
  unfold spec_l2Has.f at h
  refine Calls.of_tri (N := 10) Tryz.func72 rfl rfl rfl (Sep.nil (M := noM)) ?_
  refine Tri.seq ?_
  refine Tri.reg (l := [0]) rfl ?_
  refine F.q rfl rfl rfl (wanted_none rfl) (r_assign rfl) ?_
  refine F.nil ?_
  refine Nrm.seq ?_
  refine Tri.seq ?_
  refine Tri.reg (l := [0, 1, 2, 3, 4, 5]) rfl ?_
  refine F.q rfl rfl rfl (wanted_none rfl) (r_move rfl) ?_
  refine F.q rfl rfl rfl (wanted_none rfl) (r_move rfl) ?_
  refine F.q rfl rfl rfl (wanted_none rfl) (r_and rfl rfl) ?_
  refine F.q rfl rfl rfl (wanted_none rfl) (r_move rfl) ?_
  refine F.q rfl rfl rfl (wanted_none rfl) (r_eql rfl rfl) ?_
  refine F.q rfl rfl rfl (wanted_none rfl) (r_assign rfl) ?_
  refine F.nil ?_
  refine Nrm.seq ?_
  refine Tri.ret ?_
  cases h
  exact Rtn.body (.tmp rfl .nil) (fun w hw => ⟨rfl, hw.ext⟩)

end Go.Proofs

/- loop.example/g01158/spec.l2Open -/
namespace Go.Proofs
open Go Go.Ga
set_option linter.unusedVariables false
set_option maxRecDepth 100000
set_option maxHeartbeats 4000000
def spec_l2Open.l0 (k : Nat) (a0_1 : List (Int × Int × Int)) (a1 : Int) (a2 : Int) (a3 : Int) : Nat → Int → Option ((Unit) ⊕ (Bool))
  | 0, _ => none
  | n + 1, x9 => (if (decide (x9 < (a0_1.length : Int))) = true then ((rdl a0_1 x9).bind fun t20 => (spec_l2Joins.f k t20.1 t20.2.1 t20.2.2 a1 a2).bind fun t24 => (if t24 = true then (rdl a0_1 x9).bind fun t30 => (spec_l2Has.f k a3 t30.2.2).bind fun t33 => some t33 else some false)).bind fun y34 => (if y34 = true then some (Sum.inr true) else spec_l2Open.l0 k a0_1 a1 a2 a3 n (w64 (x9 + 1))) else some (Sum.inl ()))

def spec_l2Open.f (k : Nat) (a0_0 : Int) (a0_1 : List (Int × Int × Int)) (a0_2 : List Int) (a1 : Int) (a2 : Int) (a3 : Int) : Option (Bool) := (spec_l2Open.l0 k a0_1 a1 a2 a3 k 0).bind fun s => Lr s some fun _ => some false

theorem spec_l2Open.ok {k : Nat}  {a0_0 : Int} {a0_1 : List (Int × Int × Int)} {a0_2 : List Int} {a1 : Int} {a2 : Int} {a3 : Int} {r0 : Bool} (h : spec_l2Open.f k a0_0 a0_1 a0_2 a1 a2 a3 = some r0) (w : World) {va0_1 : Value} {va0_2 : Value} (hr_a0_1 : Rd w va0_1 a0_1) (hr_a0_2 : Rd w va0_2 a0_2) :
    Calls Tryz.prog 54 ([.agg ([.int .i64 a0_0, va0_1, va0_2].toArray), .int .i64 a1, .int .i64 a2, .int .i64 a3] : List Value).toArray w (fun e w' => e = .returned (.bool r0) ∧ Ext w w') := by
  unfold spec_l2Open.f at h
  have hl_va0_1 := hr_a0_1.len
  have hl_va0_2 := hr_a0_2.len
  refine Calls.of_tri (N := 35) Tryz.func54 rfl rfl rfl (Sep.nil (M := noM)) ?_
  refine Tri.seq ?_
  refine Tri.reg (l := [0, 1]) rfl ?_
  refine F.m rfl rfl rfl (wanted_none rfl) (m_boxG rfl rfl) ?_
  rintro _ _ ⟨b4_1, rfl, rfl⟩
  refine F.q rfl rfl rfl (wanted_none rfl) (r_assign rfl) ?_
  refine F.nil ?_
  refine Nrm.seq ?_
  refine Tri.seq ?_
  refine Tri.seq ?_
  refine Tri.reg (l := [0]) rfl ?_
  refine F.q rfl rfl rfl (wanted_none rfl) (r_assign rfl) ?_
  refine F.nil ?_
  refine Nrm.seq ?_
  obtain ⟨s0, hE_1, h⟩ := bind_some h
  refine Tri.block ?_
  refine Tri.only [1, 2, 3, 4, 9] rfl ?_
  refine Tri.pick [0] rfl rfl ?_
  refine Tri.rounds (fun n e' C' => ∃ (x9' : Int), spec_l2Open.l0 k a0_1 a1 a2 a3 n x9' = some s0 ∧ e' = [(1, .int .i64 a1), (2, .int .i64 a2), (3, .int .i64 a3), (4, .pointer (some ⟨b4_1, 0, none⟩)), (9, .int .i64 x9')] ∧ C' = Sep w noM [R.box b4_1 31 [.int .i64 a0_0, va0_1, va0_2]]) k ?_ ?_ ?_
  · exact ⟨0, hE_1, rfl, rfl⟩
  · rintro _ _ ⟨_, hE_1, _⟩
    rw [spec_l2Open.l0.eq_1] at hE_1; cases hE_1
  · rintro n_1 _ _ ⟨x9, hE_1, rfl, rfl⟩ ih_1
    rw [spec_l2Open.l0.eq_2] at hE_1
    refine Tri.seq ?_
    refine Tri.seq ?_
    refine Tri.reg (l := [0, 1, 2, 3, 4]) rfl ?_
    refine F.q rfl rfl rfl (wanted_none rfl) (r_move rfl) ?_
    refine F.q rfl rfl rfl (wanted_none rfl) (r_fieldAddr tf31_1 rfl) ?_
    refine F.q rfl rfl rfl (wanted_none rfl) (r_load ta22 rfl (fun w hw => cell_1 (box_cells (i := 0) rfl w hw) rfl)) ?_
    refine F.q rfl rfl rfl (wanted_none rfl) (r_len Tryz.underlying22 rfl hl_va0_1) ?_
    refine F.q rfl rfl rfl (wanted_none rfl) (r_lss rfl rfl) ?_
    refine F.nil ?_
    refine Nrm.seq ?_
    refine Tri.cond (b := decide (x9 < (a0_1.length : Int))) rfl (fun g_1 => ?_) (fun g_1 => ?_)
    · replace hE_1 := if_tt g_1 hE_1
      refine Tri.skip ?_
      refine Nrm.seq ?_
      refine Tri.seq ?_
      refine Tri.block ?_
      refine Tri.seq ?_
      obtain ⟨y34, hE_2, hE_1⟩ := bind_some hE_1
      refine Tri.cut (fun e' C' => e' = [(1, .int .i64 a1), (2, .int .i64 a2), (3, .int .i64 a3), (4, .pointer (some ⟨b4_1, 0, none⟩)), (9, .int .i64 x9), (34, .bool y34)] ∧ C' = Sep w noM [R.box b4_1 31 [.int .i64 a0_0, va0_1, va0_2]]) ?_ (fun hj_1 => ?_)
      · rintro _ _ ⟨rfl, rfl⟩
        refine Nrm.seq ?_
        refine Tri.cond (b := y34) rfl (fun g_2 => ?_) (fun g_2 => ?_)
        · replace hE_1 := if_tt g_2 hE_1
          refine Tri.seq ?_
          refine Tri.reg (l := [0]) rfl ?_
          refine F.q rfl rfl rfl (wanted_none rfl) (r_assign rfl) ?_
          refine F.nil ?_
          refine Nrm.seq ?_
          refine Tri.ret ?_
          refine Rtn.block ?_
          refine Rtn.then ?_
          refine Rtn.then ?_
          refine Rtn.block ?_
          refine Rtn.then ?_
          cases hE_1
          replace h := Lr_inr h
          cases h
          exact Rtn.body (.tmp rfl .nil) (fun w hw => ⟨rfl, hw.ext⟩)
        · replace hE_1 := if_ff g_2 hE_1
          refine Tri.skip ?_
          refine Nrm.block ?_
          refine Nrm.seq ?_
          refine Tri.reg (l := [0, 1, 2]) rfl ?_
          refine F.q rfl rfl rfl (wanted_none rfl) (r_move rfl) ?_
          refine F.q rfl rfl rfl (wanted_none rfl) (r_add rfl rfl) ?_
          refine F.q rfl rfl rfl (wanted_none rfl) (r_assign rfl) ?_
          refine F.nil ?_
          refine Nrm.round ?_
          refine Rnd.only [1, 2, 3, 4, 9] rfl ?_
          refine Rnd.pick [0] rfl rfl ?_
          exact ih_1 _ _ ⟨w64 (x9 + 1), hE_1, rfl, rfl⟩
      · obtain ⟨t20, h20, hE_2⟩ := bind_some hE_2
        obtain ⟨t24, h24, hE_2⟩ := bind_some hE_2
        rcases Bool.eq_false_or_eq_true (t24) with g25 | g25
        · replace hE_2 := if_tt g25 hE_2
          obtain ⟨t30, h30, hE_2⟩ := bind_some hE_2
          obtain ⟨t33, h33, hE_2⟩ := bind_some hE_2
          refine Tri.reg (l := [0, 1, 2, 3, 4, 5, 6, 7, 8, 9, 10, 11, 12, 13, 14, 15, 16, 17]) rfl ?_
          refine F.q rfl rfl rfl (wanted_none rfl) (r_fieldAddr tf31_1 rfl) ?_
          refine F.q rfl rfl rfl (wanted_none rfl) (r_load ta22 rfl (fun w hw => cell_1 (box_cells (i := 0) rfl w hw) rfl)) ?_
          refine F.q rfl rfl rfl (wanted_none rfl) (r_move rfl) ?_
          refine F.q rfl rfl rfl (wanted_none rfl) (r_indexAddrS Tryz.underlying22 ti72 rfl hl_va0_1 rfl (rdl_some h20).1 (rdl_some h20).2.1) ?_
          refine F.q rfl rfl rfl (wanted_none rfl) (r_loadA ta72 ti72 rfl rfl (fun w hw => (Rd.flat ((fun _ hw => hr_a0_1.sep hw) w hw) (rdl_some h20).2.2))) ?_
          refine F.q rfl rfl rfl (wanted_none rfl) (r_move rfl) ?_
          refine F.q rfl rfl rfl (wanted_none rfl) (r_move rfl) ?_
          refine F.qc rfl rfl rfl (wanted_none rfl) (q_callF (xs := _) rfl ok71 rfl rfl (fun w hw => spec_l2Joins.ok h24 w )) ?_
          refine F.q rfl rfl rfl (wanted_none rfl) (r_move rfl) ?_
          refine F.q rfl rfl rfl (wg rfl rfl rfl g25) (r_move rfl) ?_
          refine F.q rfl rfl rfl (wg rfl rfl rfl g25) (r_fieldAddr tf31_1 rfl) ?_
          refine F.q rfl rfl rfl (wg rfl rfl rfl g25) (r_load ta22 rfl (fun w hw => cell_1 (box_cells (i := 0) rfl w hw) rfl)) ?_
          refine F.q rfl rfl rfl (wg rfl rfl rfl g25) (r_move rfl) ?_
          refine F.q rfl rfl rfl (wg rfl rfl rfl g25) (r_indexAddrS Tryz.underlying22 ti72 rfl hl_va0_1 rfl (rdl_some h30).1 (rdl_some h30).2.1) ?_
          refine F.q rfl rfl rfl (wg rfl rfl rfl g25) (r_indexAddrA Tryz.underlying72 ti3 rfl rfl (by decide) (by decide)) ?_
          refine F.q rfl rfl rfl (wg rfl rfl rfl g25) (r_load ta3 rfl (fun w hw => cell_1 (Rd.flat ((fun _ hw => hr_a0_1.sep hw) w hw) (rdl_some h30).2.2) rfl)) ?_
          refine F.qc rfl rfl rfl (wg rfl rfl rfl g25) (q_callF (xs := _) rfl ok72 rfl rfl (fun w hw => spec_l2Has.ok h33 w )) ?_
          refine F.q rfl rfl rfl (wanted_none rfl) (r_pick rfl rfl g25) ?_
          refine F.nil ?_
          cases hE_2
          refine Nrm.only [1, 2, 3, 4, 9, 34] rfl ?_
          refine Nrm.pick [0] rfl rfl ?_
          exact hj_1 _ _ ⟨rfl, rfl⟩
        · replace hE_2 := if_ff g25 hE_2
          refine Tri.reg (l := [0, 1, 2, 3, 4, 5, 6, 7, 8, 9, 10, 11, 12, 13, 14, 15, 16, 17]) rfl ?_
          refine F.q rfl rfl rfl (wanted_none rfl) (r_fieldAddr tf31_1 rfl) ?_
          refine F.q rfl rfl rfl (wanted_none rfl) (r_load ta22 rfl (fun w hw => cell_1 (box_cells (i := 0) rfl w hw) rfl)) ?_
          refine F.q rfl rfl rfl (wanted_none rfl) (r_move rfl) ?_
          refine F.q rfl rfl rfl (wanted_none rfl) (r_indexAddrS Tryz.underlying22 ti72 rfl hl_va0_1 rfl (rdl_some h20).1 (rdl_some h20).2.1) ?_
          refine F.q rfl rfl rfl (wanted_none rfl) (r_loadA ta72 ti72 rfl rfl (fun w hw => (Rd.flat ((fun _ hw => hr_a0_1.sep hw) w hw) (rdl_some h20).2.2))) ?_
          refine F.q rfl rfl rfl (wanted_none rfl) (r_move rfl) ?_
          refine F.q rfl rfl rfl (wanted_none rfl) (r_move rfl) ?_
          refine F.qc rfl rfl rfl (wanted_none rfl) (q_callF (xs := _) rfl ok71 rfl rfl (fun w hw => spec_l2Joins.ok h24 w )) ?_
          refine F.q rfl rfl rfl (wanted_none rfl) (r_move rfl) ?_
          refine F.sk rfl rfl rfl (wf rfl rfl rfl g25) ?_
          refine F.sk rfl rfl rfl (wf rfl rfl rfl g25) ?_
          refine F.sk rfl rfl rfl (wf rfl rfl rfl g25) ?_
          refine F.sk rfl rfl rfl (wf rfl rfl rfl g25) ?_
          refine F.sk rfl rfl rfl (wf rfl rfl rfl g25) ?_
          refine F.sk rfl rfl rfl (wf rfl rfl rfl g25) ?_
          refine F.sk rfl rfl rfl (wf rfl rfl rfl g25) ?_
          refine F.sk rfl rfl rfl (wf rfl rfl rfl g25) ?_
          refine F.q rfl rfl rfl (wanted_none rfl) (r_pickf rfl rfl g25) ?_
          refine F.nil ?_
          cases hE_2
          refine Nrm.only [1, 2, 3, 4, 9, 34] rfl ?_
          refine Nrm.pick [0] rfl rfl ?_
          exact hj_1 _ _ ⟨rfl, rfl⟩
    · replace hE_1 := if_ff g_1 hE_1
      refine Tri.exit ?_
      refine Exi.then ?_
      refine Exi.then ?_
      refine Exi.same ?_
      cases hE_1
      replace h := Lr_inl h
      refine Nrm.seq ?_
      refine Tri.seq ?_
      refine Tri.reg (l := [0]) rfl ?_
      refine F.q rfl rfl rfl (wanted_none rfl) (r_assign rfl) ?_
      refine F.nil ?_
      refine Nrm.seq ?_
      refine Tri.ret ?_
      cases h
      exact Rtn.body (.tmp rfl .nil) (fun w hw => ⟨rfl, hw.ext⟩)

end Go.Proofs

/- loop.example/g01158/spec.l2Taken -/
namespace Go.Proofs
open Go Go.Ga
set_option linter.unusedVariables false
set_option maxRecDepth 100000
set_option maxHeartbeats 4000000
def spec_l2Taken.l0 (k : Nat) (a0_0 : Int) (a0_1 : List (Int × Int × Int)) (a0_2 : List Int) (a1 : List Int) : Nat → (List (Int)) → Int → Int → Option (((List (Int))) ⊕ ((List Int) × Bool))
  | 0, _, _, _ => none
  | n + 1, x6, x7, x8 => (if (decide (x8 < (a1.length : Int))) = true then ((rdl a1 x8).bind fun t18 => (spec_l1In.f k t18 0 (w64 (a0_0 - 1))).bind fun t23 => (if (!t23) = true then some true else (if (x8 == 0) = true then (rdl a1 0).bind fun t30 => (if (t30 != 0) = true then some true else (if (decide (x8 > 0)) = true then (rdl a1 (w64 (x8 - 1))).bind fun t43 => (rdl a1 x8).bind fun t47 => (spec_l2Open.f k a0_0 a0_1 a0_2 t43 t47 x7).bind fun t50 => some (!t50) else some false)) else (if (decide (x8 > 0)) = true then (rdl a1 (w64 (x8 - 1))).bind fun t43 => (rdl a1 x8).bind fun t47 => (spec_l2Open.f k a0_0 a0_1 a0_2 t43 t47 x7).bind fun t50 => some (!t50) else some false)))).bind fun y53 => (if y53 = true then some (Sum.inr (([] : List (Int)), false)) else (rdl a1 x8).bind fun t60 => (rdl a0_2 t60).bind fun t62 => if (x6 ++ ([bor x7 t62] : List (Int))).length < 1099511627776 then spec_l2Taken.l0 k a0_0 a0_1 a0_2 a1 n (x6 ++ ([bor x7 t62] : List (Int))) (bor x7 t62) (w64 (x8 + 1)) else none) else some (Sum.inl x6))

def spec_l2Taken.f (k : Nat) (a0_0 : Int) (a0_1 : List (Int × Int × Int)) (a0_2 : List Int) (a1 : List Int) : Option ((List Int) × Bool) := (spec_l2Taken.l0 k a0_0 a0_1 a0_2 a1 k ([] : List (Int)) 0 0).bind fun s => Lr s some fun x6 => some (x6, decide ((x6.length : Int) > 0))

theorem spec_l2Taken.ok {k : Nat}  {a0_0 : Int} {a0_1 : List (Int × Int × Int)} {a0_2 : List Int} {a1 : List Int} {r0 : List Int} {r1 : Bool} (h : spec_l2Taken.f k a0_0 a0_1 a0_2 a1 = some (r0, r1)) (w : World) {va0_1 : Value} {va0_2 : Value} {va1 : Value} (hr_a0_1 : Rd w va0_1 a0_1) (hr_a0_2 : Rd w va0_2 a0_2) (hr_a1 : Rd w va1 a1) :
    Calls Tryz.prog 36 ([.agg ([.int .i64 a0_0, va0_1, va0_2].toArray), va1] : List Value).toArray w (Post (fun u ns => ∃ (ur0 : Value) (Sr0 : Nat → Prop), u = .tuple #[ur0, .bool r1] ∧ SlLen ur0 r0.length ∧ ns = [R.sl Sr0 ur0 r0]) w) := by
  unfold spec_l2Taken.f at h
  have hl_va0_1 := hr_a0_1.len
  have hl_va0_2 := hr_a0_2.len
  have hl_va1 := hr_a1.len
  refine Calls.of_tri (N := 73) Tryz.func36 rfl rfl rfl (Sep.nil (M := noM)) ?_
  refine Tri.seq ?_
  refine Tri.reg (l := [0, 1, 2]) rfl ?_
  refine F.m rfl rfl rfl (wanted_none rfl) (m_boxG rfl rfl) ?_
  rintro _ _ ⟨b2_1, rfl, rfl⟩
  refine F.q rfl rfl rfl (wanted_none rfl) (r_assign rfl) ?_
  refine F.q rfl rfl rfl (wanted_none rfl) (r_assign rfl) ?_
  refine F.nil ?_
  refine Nrm.seq ?_
  refine Tri.seq ?_
  refine Tri.reg (l := [0, 1, 2]) rfl ?_
  refine F.m rfl rfl rfl (wanted_none rfl) (m_build0 (α := Int) Tryz.underlying23 ti3) ?_
  rintro v9_1 _ ⟨S9_1, hl_v9_1, rfl⟩
  refine F.q rfl rfl rfl (wanted_none rfl) (r_assign rfl) ?_
  refine F.q rfl rfl rfl (wanted_none rfl) (r_assign rfl) ?_
  refine F.nil ?_
  refine Nrm.seq ?_
  refine Tri.seq ?_
  refine Tri.seq ?_
  refine Tri.reg (l := [0]) rfl ?_
  refine F.q rfl rfl rfl (wanted_none rfl) (r_assign rfl) ?_
  refine F.nil ?_
  refine Nrm.seq ?_
  obtain ⟨s0, hE_1, h⟩ := bind_some h
  refine Tri.block ?_
  refine Tri.only [1, 2, 6, 7, 8] rfl ?_
  refine Tri.pick [1, 0] rfl rfl ?_
  refine Tri.rounds (fun n e' C' => ∃ (x6' : List (Int)) (x7' : Int) (x8' : Int) (w6 : Value) (T6 : Nat → Prop), spec_l2Taken.l0 k a0_0 a0_1 a0_2 a1 n x6' x7' x8' = some s0 ∧ SlLen w6 (x6').length ∧ e' = [(1, va1), (2, .pointer (some ⟨b2_1, 0, none⟩)), (6, w6), (7, .int .i64 x7'), (8, .int .i64 x8')] ∧ C' = Sep w noM [R.box b2_1 31 [.int .i64 a0_0, va0_1, va0_2], R.sl T6 w6 (x6' : List (Int))]) k ?_ ?_ ?_
  · exact ⟨([] : List (Int)), 0, 0, v9_1, S9_1, hE_1, hl_v9_1, rfl, rfl⟩
  · rintro _ _ ⟨_, _, _, _, _, hE_1, _⟩
    rw [spec_l2Taken.l0.eq_1] at hE_1; cases hE_1
  · rintro n_1 _ _ ⟨x6, x7, x8, w6, T6, hE_1, hl_w6, rfl, rfl⟩ ih_1
    rw [spec_l2Taken.l0.eq_2] at hE_1
    refine Tri.seq ?_
    refine Tri.seq ?_
    refine Tri.reg (l := [0, 1, 2, 3]) rfl ?_
    refine F.q rfl rfl rfl (wanted_none rfl) (r_move rfl) ?_
    refine F.q rfl rfl rfl (wanted_none rfl) (r_move rfl) ?_
    refine F.q rfl rfl rfl (wanted_none rfl) (r_len Tryz.underlying23 rfl hl_va1) ?_
    refine F.q rfl rfl rfl (wanted_none rfl) (r_lss rfl rfl) ?_
    refine F.nil ?_
    refine Nrm.seq ?_
    refine Tri.cond (b := decide (x8 < (a1.length : Int))) rfl (fun g_1 => ?_) (fun g_1 => ?_)
    · replace hE_1 := if_tt g_1 hE_1
      refine Tri.skip ?_
      refine Nrm.seq ?_
      refine Tri.seq ?_
      refine Tri.block ?_
      refine Tri.seq ?_
      refine Tri.seq ?_
      obtain ⟨y53, hE_2, hE_1⟩ := bind_some hE_1
      refine Tri.cut (fun e' C' => e' = [(1, va1), (2, .pointer (some ⟨b2_1, 0, none⟩)), (6, w6), (7, .int .i64 x7), (8, .int .i64 x8), (53, .bool y53)] ∧ C' = Sep w noM [R.box b2_1 31 [.int .i64 a0_0, va0_1, va0_2], R.sl T6 w6 (x6 : List (Int))]) ?_ (fun hj_1 => ?_)
      · rintro _ _ ⟨rfl, rfl⟩
        refine Nrm.seq ?_
        refine Tri.cond (b := y53) rfl (fun g_2 => ?_) (fun g_2 => ?_)
        · replace hE_1 := if_tt g_2 hE_1
          refine Tri.seq ?_
          refine Tri.reg (l := [0, 1, 2]) rfl ?_
          refine F.m rfl rfl rfl (wanted_none rfl) (m_build0 (α := Int) Tryz.underlying23 ti3) ?_
          rintro v54_1 _ ⟨S54_1, hl_v54_1, rfl⟩
          refine F.q rfl rfl rfl (wanted_none rfl) (r_assign rfl) ?_
          refine F.q rfl rfl rfl (wanted_none rfl) (r_assign rfl) ?_
          refine F.nil ?_
          refine Nrm.seq ?_
          refine Tri.ret ?_
          refine Rtn.then ?_
          refine Rtn.block ?_
          refine Rtn.then ?_
          refine Rtn.then ?_
          refine Rtn.block ?_
          refine Rtn.then ?_
          cases hE_1
          replace h := Lr_inr h
          cases h
          exact Rtn.body (.tmp rfl (.tmp rfl .nil)) (fun w hw => ⟨_, _, rfl, ⟨v54_1, S54_1, rfl, hl_v54_1, rfl⟩, Sep.pick (is := [0]) rfl rfl hw⟩)
        · replace hE_1 := if_ff g_2 hE_1
          refine Tri.skip ?_
          refine Nrm.seq ?_
          refine Tri.seq ?_
          obtain ⟨t60, h60, hE_1⟩ := bind_some hE_1
          obtain ⟨t62, h62, hE_1⟩ := bind_some hE_1
          refine Tri.drawA mixedT Sep.up [(0, true), (1, true), (2, true), (3, true), (4, true), (5, true), (6, true), (7, true), (8, true), (9, true), (10, true)] [] (by kernel_rfl) ?_
          refine S.q rfl rfl rfl (wanted_none rfl) (r_move rfl) ?_
          refine S.q rfl rfl rfl (wanted_none rfl) (r_fieldAddr tf31_2 rfl) ?_
          refine S.q rfl rfl rfl (wanted_none rfl) (r_load ta23 rfl (fun w hw => cell_1 (box_cells (i := 0) rfl w hw) rfl)) ?_
          refine S.q rfl rfl rfl (wanted_none rfl) (r_move rfl) ?_
          refine S.q rfl rfl rfl (wanted_none rfl) (r_move rfl) ?_
          refine S.q rfl rfl rfl (wanted_none rfl) (r_indexAddrS Tryz.underlying23 ti3 rfl hl_va1 rfl (rdl_some h60).1 (rdl_some h60).2.1) ?_
          refine S.q rfl rfl rfl (wanted_none rfl) (r_load ta3 rfl (fun w hw => cell_0 (Rd.flat ((fun _ hw => hr_a1.sep hw) w hw) (rdl_some h60).2.2) rfl)) ?_
          refine S.q rfl rfl rfl (wanted_none rfl) (r_indexAddrS Tryz.underlying23 ti3 rfl hl_va0_2 rfl (rdl_some h62).1 (rdl_some h62).2.1) ?_
          refine S.q rfl rfl rfl (wanted_none rfl) (r_load ta3 rfl (fun w hw => cell_0 (Rd.flat ((fun _ hw => hr_a0_2.sep hw) w hw) (rdl_some h62).2.2) rfl)) ?_
          refine S.q rfl rfl rfl (wanted_none rfl) (r_or rfl rfl) ?_
          refine S.q rfl rfl rfl (wanted_none rfl) (r_assign rfl) ?_
          refine S.nil ?_
          refine F.nil ?_
          refine Nrm.seq ?_
          obtain ⟨hs68, hE_1⟩ := ck hE_1
          refine Tri.reg (l := [0, 1, 2, 3, 4]) rfl ?_
          refine F.q rfl rfl rfl (wanted_none rfl) (r_move rfl) ?_
          refine F.q rfl rfl rfl (wanted_none rfl) (r_move rfl) ?_
          refine F.m rfl rfl rfl (wanted_none rfl) (m_buildF (l := ([bor x7 t62] : List (Int))) Tryz.underlying23 ti3 rfl rfl rfl rfl rfl) ?_
          rintro v67_1 _ ⟨S67_1, hl_v67_1, rfl⟩
          refine F.ef rfl rfl rfl (wanted_none rfl) (d_append (i := 2) Tryz.underlying23 Tryz.underlying23 ti3 rfl (by decide) rfl rfl rfl (rd_sl (i := 0) rfl) hs68) ?_
          rintro v68_1 _ ⟨S68_1, rfl, hl_v68_1⟩
          refine F.q rfl rfl rfl (wanted_none rfl) (r_assign rfl) ?_
          refine F.nil ?_
          refine Nrm.block ?_
          refine Nrm.seq ?_
          refine Tri.reg (l := [0, 1, 2]) rfl ?_
          refine F.q rfl rfl rfl (wanted_none rfl) (r_move rfl) ?_
          refine F.q rfl rfl rfl (wanted_none rfl) (r_add rfl rfl) ?_
          refine F.q rfl rfl rfl (wanted_none rfl) (r_assign rfl) ?_
          refine F.nil ?_
          refine Nrm.round ?_
          refine Rnd.only [1, 2, 6, 7, 8] rfl ?_
          refine Rnd.pick [1, 2] rfl rfl ?_
          exact ih_1 _ _ ⟨x6 ++ ([bor x7 t62] : List (Int)), bor x7 t62, w64 (x8 + 1), v68_1, S68_1, hE_1, hl_v68_1, rfl, rfl⟩
      · obtain ⟨t18, h18, hE_2⟩ := bind_some hE_2
        obtain ⟨t23, h23, hE_2⟩ := bind_some hE_2
        rcases Bool.eq_false_or_eq_true (!t23) with g25 | g25
        · replace hE_2 := if_tt g25 hE_2
          refine Tri.drawA mixedT Sep.up [(0, true), (1, true), (2, true), (3, true), (4, true), (5, true), (6, true), (7, true), (8, true), (9, true), (10, true), (11, true), (12, true), (13, true), (14, true), (15, true), (16, true), (17, true), (18, true), (19, true), (20, true), (21, true), (22, true), (23, true), (24, true), (25, true), (26, true), (27, true), (28, true), (29, true), (30, true), (31, true), (32, true), (33, true), (34, true), (35, true), (36, true), (37, true)] [] (by kernel_rfl) ?_
          refine S.q rfl rfl rfl (wanted_none rfl) (r_move rfl) ?_
          refine S.q rfl rfl rfl (wanted_none rfl) (r_move rfl) ?_
          refine S.q rfl rfl rfl (wanted_none rfl) (r_indexAddrS Tryz.underlying23 ti3 rfl hl_va1 rfl (rdl_some h18).1 (rdl_some h18).2.1) ?_
          refine S.q rfl rfl rfl (wanted_none rfl) (r_load ta3 rfl (fun w hw => cell_0 (Rd.flat ((fun _ hw => hr_a1.sep hw) w hw) (rdl_some h18).2.2) rfl)) ?_
          refine S.q rfl rfl rfl (wanted_none rfl) (r_fieldAddr tf31_0 rfl) ?_
          refine S.q rfl rfl rfl (wanted_none rfl) (r_load ta3 rfl (fun w hw => cell_1 (box_cells (i := 0) rfl w hw) rfl)) ?_
          refine S.q rfl rfl rfl (wanted_none rfl) (r_sub rfl rfl) ?_
          refine S.qc rfl rfl rfl (wanted_none rfl) (q_callF (xs := _) rfl ok35 rfl rfl (fun w hw => spec_l1In.ok h23 w )) ?_
          refine S.q rfl rfl rfl (wanted_none rfl) (r_not rfl) ?_
          refine S.q rfl rfl rfl (wanted_none rfl) (r_move rfl) ?_
          refine S.sk rfl rfl rfl (wf rfl rfl rfl g25) ?_
          refine S.sk rfl rfl rfl (wf rfl rfl rfl g25) ?_
          refine S.sk rfl rfl rfl (wf rfl rfl rfl g25) ?_
          refine S.sk rfl rfl rfl (wanted_undef rfl rfl rfl) ?_
          refine S.sk rfl rfl rfl (wanted_undef rfl rfl rfl) ?_
          refine S.sk rfl rfl rfl (wanted_undef rfl rfl rfl) ?_
          refine S.sk rfl rfl rfl (wanted_undef rfl rfl rfl) ?_
          refine S.sk rfl rfl rfl (wf rfl rfl rfl g25) ?_
          refine S.q rfl rfl rfl (wanted_none rfl) (r_pick rfl rfl g25) ?_
          refine S.q rfl rfl rfl (wanted_none rfl) (r_move rfl) ?_
          refine S.sk rfl rfl rfl (wf rfl rfl rfl rfl) ?_
          refine S.sk rfl rfl rfl (wf rfl rfl rfl rfl) ?_
          refine S.sk rfl rfl rfl (wf rfl rfl rfl rfl) ?_
          refine S.sk rfl rfl rfl (wanted_undef rfl rfl rfl) ?_
          refine S.sk rfl rfl rfl (wanted_undef rfl rfl rfl) ?_
          refine S.sk rfl rfl rfl (wanted_undef rfl rfl rfl) ?_
          refine S.sk rfl rfl rfl (wanted_undef rfl rfl rfl) ?_
          refine S.sk rfl rfl rfl (wanted_undef rfl rfl rfl) ?_
          refine S.sk rfl rfl rfl (wanted_undef rfl rfl rfl) ?_
          refine S.sk rfl rfl rfl (wanted_undef rfl rfl rfl) ?_
          refine S.sk rfl rfl rfl (wanted_undef rfl rfl rfl) ?_
          refine S.sk rfl rfl rfl (wanted_undef rfl rfl rfl) ?_
          refine S.sk rfl rfl rfl (wanted_undef rfl rfl rfl) ?_
          refine S.sk rfl rfl rfl (wanted_undef rfl rfl rfl) ?_
          refine S.sk rfl rfl rfl (wanted_undef rfl rfl rfl) ?_
          refine S.sk rfl rfl rfl (wanted_undef rfl rfl rfl) ?_
          refine S.sk rfl rfl rfl (wf rfl rfl rfl rfl) ?_
          refine S.q rfl rfl rfl (wanted_none rfl) (r_pick rfl rfl rfl) ?_
          refine S.nil ?_
          refine F.nil ?_
          cases hE_2
          refine Nrm.only [1, 2, 6, 7, 8, 53] rfl ?_
          refine Nrm.pick [0, 1] rfl rfl ?_
          exact hj_1 _ _ ⟨rfl, rfl⟩
        · replace hE_2 := if_ff g25 hE_2
          rcases Bool.eq_false_or_eq_true (x8 == 0) with g28 | g28
          · replace hE_2 := if_tt g28 hE_2
            obtain ⟨t30, h30, hE_2⟩ := bind_some hE_2
            rcases Bool.eq_false_or_eq_true (t30 != 0) with g35 | g35
            · replace hE_2 := if_tt g35 hE_2
              refine Tri.drawA mixedT Sep.up [(0, true), (1, true), (2, true), (3, true), (4, true), (5, true), (6, true), (7, true), (8, true), (9, true), (10, true), (11, true), (12, true), (13, true), (14, true), (15, true), (16, true), (17, true), (18, true), (19, true), (20, true), (21, true), (22, true), (23, true), (24, true), (25, true), (26, true), (27, true), (28, true), (29, true), (30, true), (31, true), (32, true), (33, true), (34, true), (35, true), (36, true), (37, true)] [] (by kernel_rfl) ?_
              refine S.q rfl rfl rfl (wanted_none rfl) (r_move rfl) ?_
              refine S.q rfl rfl rfl (wanted_none rfl) (r_move rfl) ?_
              refine S.q rfl rfl rfl (wanted_none rfl) (r_indexAddrS Tryz.underlying23 ti3 rfl hl_va1 rfl (rdl_some h18).1 (rdl_some h18).2.1) ?_
              refine S.q rfl rfl rfl (wanted_none rfl) (r_load ta3 rfl (fun w hw => cell_0 (Rd.flat ((fun _ hw => hr_a1.sep hw) w hw) (rdl_some h18).2.2) rfl)) ?_
              refine S.q rfl rfl rfl (wanted_none rfl) (r_fieldAddr tf31_0 rfl) ?_
              refine S.q rfl rfl rfl (wanted_none rfl) (r_load ta3 rfl (fun w hw => cell_1 (box_cells (i := 0) rfl w hw) rfl)) ?_
              refine S.q rfl rfl rfl (wanted_none rfl) (r_sub rfl rfl) ?_
              refine S.qc rfl rfl rfl (wanted_none rfl) (q_callF (xs := _) rfl ok35 rfl rfl (fun w hw => spec_l1In.ok h23 w )) ?_
              refine S.q rfl rfl rfl (wanted_none rfl) (r_not rfl) ?_
              refine S.q rfl rfl rfl (wanted_none rfl) (r_move rfl) ?_
              refine S.q rfl rfl rfl (wg rfl rfl rfl g25) (r_move rfl) ?_
              refine S.q rfl rfl rfl (wg rfl rfl rfl g25) (r_eql rfl rfl) ?_
              refine S.q rfl rfl rfl (wg rfl rfl rfl g25) (r_move rfl) ?_
              refine S.q rfl rfl rfl (wg rfl rfl rfl g28) (r_move rfl) ?_
              refine S.q rfl rfl rfl (wg rfl rfl rfl g28) (r_indexAddrS Tryz.underlying23 ti3 rfl hl_va1 rfl (rdl_some h30).1 (rdl_some h30).2.1) ?_
              refine S.q rfl rfl rfl (wg rfl rfl rfl g28) (r_load ta3 rfl (fun w hw => cell_0 (Rd.flat ((fun _ hw => hr_a1.sep hw) w hw) (rdl_some h30).2.2) rfl)) ?_
              refine S.q rfl rfl rfl (wg rfl rfl rfl g28) (r_neq rfl rfl) ?_
              refine S.q rfl rfl rfl (wg rfl rfl rfl g25) (r_pick rfl rfl g28) ?_
              refine S.q rfl rfl rfl (wanted_none rfl) (r_pickf rfl rfl g25) ?_
              refine S.q rfl rfl rfl (wanted_none rfl) (r_move rfl) ?_
              refine S.sk rfl rfl rfl (wf rfl rfl rfl g35) ?_
              refine S.sk rfl rfl rfl (wf rfl rfl rfl g35) ?_
              refine S.sk rfl rfl rfl (wf rfl rfl rfl g35) ?_
              refine S.sk rfl rfl rfl (wanted_undef rfl rfl rfl) ?_
              refine S.sk rfl rfl rfl (wanted_undef rfl rfl rfl) ?_
              refine S.sk rfl rfl rfl (wanted_undef rfl rfl rfl) ?_
              refine S.sk rfl rfl rfl (wanted_undef rfl rfl rfl) ?_
              refine S.sk rfl rfl rfl (wanted_undef rfl rfl rfl) ?_
              refine S.sk rfl rfl rfl (wanted_undef rfl rfl rfl) ?_
              refine S.sk rfl rfl rfl (wanted_undef rfl rfl rfl) ?_
              refine S.sk rfl rfl rfl (wanted_undef rfl rfl rfl) ?_
              refine S.sk rfl rfl rfl (wanted_undef rfl rfl rfl) ?_
              refine S.sk rfl rfl rfl (wanted_undef rfl rfl rfl) ?_
              refine S.sk rfl rfl rfl (wanted_undef rfl rfl rfl) ?_
              refine S.sk rfl rfl rfl (wanted_undef rfl rfl rfl) ?_
              refine S.sk rfl rfl rfl (wanted_undef rfl rfl rfl) ?_
              refine S.sk rfl rfl rfl (wf rfl rfl rfl g35) ?_
              refine S.q rfl rfl rfl (wanted_none rfl) (r_pick rfl rfl g35) ?_
              refine S.nil ?_
              refine F.nil ?_
              cases hE_2
              refine Nrm.only [1, 2, 6, 7, 8, 53] rfl ?_
              refine Nrm.pick [0, 1] rfl rfl ?_
              exact hj_1 _ _ ⟨rfl, rfl⟩
            · replace hE_2 := if_ff g35 hE_2
              rcases Bool.eq_false_or_eq_true (decide (x8 > 0)) with g38 | g38
              · replace hE_2 := if_tt g38 hE_2
                obtain ⟨t43, h43, hE_2⟩ := bind_some hE_2
                obtain ⟨t47, h47, hE_2⟩ := bind_some hE_2
                obtain ⟨t50, h50, hE_2⟩ := bind_some hE_2
                refine Tri.drawA mixedT Sep.up [(0, true), (1, true), (2, true), (3, true), (4, true), (5, true), (6, true), (7, true), (8, true), (9, true), (10, true), (11, true), (12, true), (13, true), (14, true), (15, true), (16, true), (17, true), (18, true), (19, true), (20, true), (21, true), (22, true), (23, true), (24, true), (25, true), (26, true), (27, true), (28, true), (29, true), (30, true), (31, true), (32, true), (33, true), (34, true), (35, true), (36, true), (37, true)] [] (by kernel_rfl) ?_
                refine S.q rfl rfl rfl (wanted_none rfl) (r_move rfl) ?_
                refine S.q rfl rfl rfl (wanted_none rfl) (r_move rfl) ?_
                refine S.q rfl rfl rfl (wanted_none rfl) (r_indexAddrS Tryz.underlying23 ti3 rfl hl_va1 rfl (rdl_some h18).1 (rdl_some h18).2.1) ?_
                refine S.q rfl rfl rfl (wanted_none rfl) (r_load ta3 rfl (fun w hw => cell_0 (Rd.flat ((fun _ hw => hr_a1.sep hw) w hw) (rdl_some h18).2.2) rfl)) ?_
                refine S.q rfl rfl rfl (wanted_none rfl) (r_fieldAddr tf31_0 rfl) ?_
                refine S.q rfl rfl rfl (wanted_none rfl) (r_load ta3 rfl (fun w hw => cell_1 (box_cells (i := 0) rfl w hw) rfl)) ?_
                refine S.q rfl rfl rfl (wanted_none rfl) (r_sub rfl rfl) ?_
                refine S.qc rfl rfl rfl (wanted_none rfl) (q_callF (xs := _) rfl ok35 rfl rfl (fun w hw => spec_l1In.ok h23 w )) ?_
                refine S.q rfl rfl rfl (wanted_none rfl) (r_not rfl) ?_
                refine S.q rfl rfl rfl (wanted_none rfl) (r_move rfl) ?_
                refine S.q rfl rfl rfl (wg rfl rfl rfl g25) (r_move rfl) ?_
                refine S.q rfl rfl rfl (wg rfl rfl rfl g25) (r_eql rfl rfl) ?_
                refine S.q rfl rfl rfl (wg rfl rfl rfl g25) (r_move rfl) ?_
                refine S.q rfl rfl rfl (wg rfl rfl rfl g28) (r_move rfl) ?_
                refine S.q rfl rfl rfl (wg rfl rfl rfl g28) (r_indexAddrS Tryz.underlying23 ti3 rfl hl_va1 rfl (rdl_some h30).1 (rdl_some h30).2.1) ?_
                refine S.q rfl rfl rfl (wg rfl rfl rfl g28) (r_load ta3 rfl (fun w hw => cell_0 (Rd.flat ((fun _ hw => hr_a1.sep hw) w hw) (rdl_some h30).2.2) rfl)) ?_
                refine S.q rfl rfl rfl (wg rfl rfl rfl g28) (r_neq rfl rfl) ?_
                refine S.q rfl rfl rfl (wg rfl rfl rfl g25) (r_pick rfl rfl g28) ?_
                refine S.q rfl rfl rfl (wanted_none rfl) (r_pickf rfl rfl g25) ?_
                refine S.q rfl rfl rfl (wanted_none rfl) (r_move rfl) ?_
                refine S.q rfl rfl rfl (wg rfl rfl rfl g35) (r_move rfl) ?_
                refine S.q rfl rfl rfl (wg rfl rfl rfl g35) (r_gtr rfl rfl) ?_
                refine S.q rfl rfl rfl (wg rfl rfl rfl g35) (r_move rfl) ?_
                refine S.q rfl rfl rfl (wg rfl rfl rfl g38) (r_loadA ta31 ti31 rfl rfl (fun w hw => (box_cells (i := 0) rfl w hw))) ?_
                refine S.q rfl rfl rfl (wg rfl rfl rfl g38) (r_move rfl) ?_
                refine S.q rfl rfl rfl (wg rfl rfl rfl g38) (r_move rfl) ?_
                refine S.q rfl rfl rfl (wg rfl rfl rfl g38) (r_sub rfl rfl) ?_
                refine S.q rfl rfl rfl (wg rfl rfl rfl g38) (r_indexAddrS Tryz.underlying23 ti3 rfl hl_va1 rfl (rdl_some h43).1 (rdl_some h43).2.1) ?_
                refine S.q rfl rfl rfl (wg rfl rfl rfl g38) (r_load ta3 rfl (fun w hw => cell_0 (Rd.flat ((fun _ hw => hr_a1.sep hw) w hw) (rdl_some h43).2.2) rfl)) ?_
                refine S.q rfl rfl rfl (wg rfl rfl rfl g38) (r_move rfl) ?_
                refine S.q rfl rfl rfl (wg rfl rfl rfl g38) (r_move rfl) ?_
                refine S.q rfl rfl rfl (wg rfl rfl rfl g38) (r_indexAddrS Tryz.underlying23 ti3 rfl hl_va1 rfl (rdl_some h47).1 (rdl_some h47).2.1) ?_
                refine S.q rfl rfl rfl (wg rfl rfl rfl g38) (r_load ta3 rfl (fun w hw => cell_0 (Rd.flat ((fun _ hw => hr_a1.sep hw) w hw) (rdl_some h47).2.2) rfl)) ?_
                refine S.q rfl rfl rfl (wg rfl rfl rfl g38) (r_move rfl) ?_
                refine S.qc rfl rfl rfl (wg rfl rfl rfl g38) (q_callF (xs := _) rfl ok54 rfl rfl (fun w hw => spec_l2Open.ok h50 w ((fun _ hw => hr_a0_1.sep hw) w hw) ((fun _ hw => hr_a0_2.sep hw) w hw))) ?_
                refine S.q rfl rfl rfl (wg rfl rfl rfl g38) (r_not rfl) ?_
                refine S.q rfl rfl rfl (wg rfl rfl rfl g35) (r_pick rfl rfl g38) ?_
                refine S.q rfl rfl rfl (wanted_none rfl) (r_pickf rfl rfl g35) ?_
                refine S.nil ?_
                refine F.nil ?_
                cases hE_2
                refine Nrm.only [1, 2, 6, 7, 8, 53] rfl ?_
                refine Nrm.pick [0, 1] rfl rfl ?_
                exact hj_1 _ _ ⟨rfl, rfl⟩
              · replace hE_2 := if_ff g38 hE_2
                refine Tri.drawA mixedT Sep.up [(0, true), (1, true), (2, true), (3, true), (4, true), (5, true), (6, true), (7, true), (8, true), (9, true), (10, true), (11, true), (12, true), (13, true), (14, true), (15, true), (16, true), (17, true), (18, true), (19, true), (20, true), (21, true), (22, true), (23, true), (24, true), (25, true), (26, true), (27, true), (28, true), (29, true), (30, true), (31, true), (32, true), (33, true), (34, true), (35, true), (36, true), (37, true)] [] (by kernel_rfl) ?_
                refine S.q rfl rfl rfl (wanted_none rfl) (r_move rfl) ?_
                refine S.q rfl rfl rfl (wanted_none rfl) (r_move rfl) ?_
                refine S.q rfl rfl rfl (wanted_none rfl) (r_indexAddrS Tryz.underlying23 ti3 rfl hl_va1 rfl (rdl_some h18).1 (rdl_some h18).2.1) ?_
                refine S.q rfl rfl rfl (wanted_none rfl) (r_load ta3 rfl (fun w hw => cell_0 (Rd.flat ((fun _ hw => hr_a1.sep hw) w hw) (rdl_some h18).2.2) rfl)) ?_
                refine S.q rfl rfl rfl (wanted_none rfl) (r_fieldAddr tf31_0 rfl) ?_
                refine S.q rfl rfl rfl (wanted_none rfl) (r_load ta3 rfl (fun w hw => cell_1 (box_cells (i := 0) rfl w hw) rfl)) ?_
                refine S.q rfl rfl rfl (wanted_none rfl) (r_sub rfl rfl) ?_
                refine S.qc rfl rfl rfl (wanted_none rfl) (q_callF (xs := _) rfl ok35 rfl rfl (fun w hw => spec_l1In.ok h23 w )) ?_
                refine S.q rfl rfl rfl (wanted_none rfl) (r_not rfl) ?_
                refine S.q rfl rfl rfl (wanted_none rfl) (r_move rfl) ?_
                refine S.q rfl rfl rfl (wg rfl rfl rfl g25) (r_move rfl) ?_
                refine S.q rfl rfl rfl (wg rfl rfl rfl g25) (r_eql rfl rfl) ?_
                refine S.q rfl rfl rfl (wg rfl rfl rfl g25) (r_move rfl) ?_
                refine S.q rfl rfl rfl (wg rfl rfl rfl g28) (r_move rfl) ?_
                refine S.q rfl rfl rfl (wg rfl rfl rfl g28) (r_indexAddrS Tryz.underlying23 ti3 rfl hl_va1 rfl (rdl_some h30).1 (rdl_some h30).2.1) ?_
                refine S.q rfl rfl rfl (wg rfl rfl rfl g28) (r_load ta3 rfl (fun w hw => cell_0 (Rd.flat ((fun _ hw => hr_a1.sep hw) w hw) (rdl_some h30).2.2) rfl)) ?_
                refine S.q rfl rfl rfl (wg rfl rfl rfl g28) (r_neq rfl rfl) ?_
                refine S.q rfl rfl rfl (wg rfl rfl rfl g25) (r_pick rfl rfl g28) ?_
                refine S.q rfl rfl rfl (wanted_none rfl) (r_pickf rfl rfl g25) ?_
                refine S.q rfl rfl rfl (wanted_none rfl) (r_move rfl) ?_
                refine S.q rfl rfl rfl (wg rfl rfl rfl g35) (r_move rfl) ?_
                refine S.q rfl rfl rfl (wg rfl rfl rfl g35) (r_gtr rfl rfl) ?_
                refine S.q rfl rfl rfl (wg rfl rfl rfl g35) (r_move rfl) ?_
                refine S.sk rfl rfl rfl (wf rfl rfl rfl g38) ?_
                refine S.sk rfl rfl rfl (wf rfl rfl rfl g38) ?_
                refine S.sk rfl rfl rfl (wf rfl rfl rfl g38) ?_
                refine S.sk rfl rfl rfl (wf rfl rfl rfl g38) ?_
                refine S.sk rfl rfl rfl (wf rfl rfl rfl g38) ?_
                refine S.sk rfl rfl rfl (wf rfl rfl rfl g38) ?_
                refine S.sk rfl rfl rfl (wf rfl rfl rfl g38) ?_
                refine S.sk rfl rfl rfl (wf rfl rfl rfl g38) ?_
                refine S.sk rfl rfl rfl (wf rfl rfl rfl g38) ?_
                refine S.sk rfl rfl rfl (wf rfl rfl rfl g38) ?_
                refine S.sk rfl rfl rfl (wf rfl rfl rfl g38) ?_
                refine S.sk rfl rfl rfl (wf rfl rfl rfl g38) ?_
                refine S.sk rfl rfl rfl (wf rfl rfl rfl g38) ?_
                refine S.q rfl rfl rfl (wg rfl rfl rfl g35) (r_pickf rfl rfl g38) ?_
                refine S.q rfl rfl rfl (wanted_none rfl) (r_pickf rfl rfl g35) ?_
                refine S.nil ?_
                refine F.nil ?_
                cases hE_2
                refine Nrm.only [1, 2, 6, 7, 8, 53] rfl ?_
                refine Nrm.pick [0, 1] rfl rfl ?_
                exact hj_1 _ _ ⟨rfl, rfl⟩
          · replace hE_2 := if_ff g28 hE_2
            rcases Bool.eq_false_or_eq_true (decide (x8 > 0)) with g38 | g38
            · replace hE_2 := if_tt g38 hE_2
              obtain ⟨t43, h43, hE_2⟩ := bind_some hE_2
              obtain ⟨t47, h47, hE_2⟩ := bind_some hE_2
              obtain ⟨t50, h50, hE_2⟩ := bind_some hE_2
              refine Tri.drawA mixedT Sep.up [(0, true), (1, true), (2, true), (3, true), (4, true), (5, true), (6, true), (7, true), (8, true), (9, true), (10, true), (11, true), (12, true), (13, true), (14, true), (15, true), (16, true), (17, true), (18, true), (19, true), (20, true), (21, true), (22, true), (23, true), (24, true), (25, true), (26, true), (27, true), (28, true), (29, true), (30, true), (31, true), (32, true), (33, true), (34, true), (35, true), (36, true), (37, true)] [] (by kernel_rfl) ?_
              refine S.q rfl rfl rfl (wanted_none rfl) (r_move rfl) ?_
              refine S.q rfl rfl rfl (wanted_none rfl) (r_move rfl) ?_
              refine S.q rfl rfl rfl (wanted_none rfl) (r_indexAddrS Tryz.underlying23 ti3 rfl hl_va1 rfl (rdl_some h18).1 (rdl_some h18).2.1) ?_
              refine S.q rfl rfl rfl (wanted_none rfl) (r_load ta3 rfl (fun w hw => cell_0 (Rd.flat ((fun _ hw => hr_a1.sep hw) w hw) (rdl_some h18).2.2) rfl)) ?_
              refine S.q rfl rfl rfl (wanted_none rfl) (r_fieldAddr tf31_0 rfl) ?_
              refine S.q rfl rfl rfl (wanted_none rfl) (r_load ta3 rfl (fun w hw => cell_1 (box_cells (i := 0) rfl w hw) rfl)) ?_
              refine S.q rfl rfl rfl (wanted_none rfl) (r_sub rfl rfl) ?_
              refine S.qc rfl rfl rfl (wanted_none rfl) (q_callF (xs := _) rfl ok35 rfl rfl (fun w hw => spec_l1In.ok h23 w )) ?_
              refine S.q rfl rfl rfl (wanted_none rfl) (r_not rfl) ?_
              refine S.q rfl rfl rfl (wanted_none rfl) (r_move rfl) ?_
              refine S.q rfl rfl rfl (wg rfl rfl rfl g25) (r_move rfl) ?_
              refine S.q rfl rfl rfl (wg rfl rfl rfl g25) (r_eql rfl rfl) ?_
              refine S.q rfl rfl rfl (wg rfl rfl rfl g25) (r_move rfl) ?_
              refine S.sk rfl rfl rfl (wf rfl rfl rfl g28) ?_
              refine S.sk rfl rfl rfl (wf rfl rfl rfl g28) ?_
              refine S.sk rfl rfl rfl (wf rfl rfl rfl g28) ?_
              refine S.sk rfl rfl rfl (wf rfl rfl rfl g28) ?_
              refine S.q rfl rfl rfl (wg rfl rfl rfl g25) (r_pickf rfl rfl g28) ?_
              refine S.q rfl rfl rfl (wanted_none rfl) (r_pickf rfl rfl g25) ?_
              refine S.q rfl rfl rfl (wanted_none rfl) (r_move rfl) ?_
              refine S.q rfl rfl rfl (wg rfl rfl rfl rfl) (r_move rfl) ?_
              refine S.q rfl rfl rfl (wg rfl rfl rfl rfl) (r_gtr rfl rfl) ?_
              refine S.q rfl rfl rfl (wg rfl rfl rfl rfl) (r_move rfl) ?_
              refine S.q rfl rfl rfl (wg rfl rfl rfl g38) (r_loadA ta31 ti31 rfl rfl (fun w hw => (box_cells (i := 0) rfl w hw))) ?_
              refine S.q rfl rfl rfl (wg rfl rfl rfl g38) (r_move rfl) ?_
              refine S.q rfl rfl rfl (wg rfl rfl rfl g38) (r_move rfl) ?_
              refine S.q rfl rfl rfl (wg rfl rfl rfl g38) (r_sub rfl rfl) ?_
              refine S.q rfl rfl rfl (wg rfl rfl rfl g38) (r_indexAddrS Tryz.underlying23 ti3 rfl hl_va1 rfl (rdl_some h43).1 (rdl_some h43).2.1) ?_
              refine S.q rfl rfl rfl (wg rfl rfl rfl g38) (r_load ta3 rfl (fun w hw => cell_0 (Rd.flat ((fun _ hw => hr_a1.sep hw) w hw) (rdl_some h43).2.2) rfl)) ?_
              refine S.q rfl rfl rfl (wg rfl rfl rfl g38) (r_move rfl) ?_
              refine S.q rfl rfl rfl (wg rfl rfl rfl g38) (r_move rfl) ?_
              refine S.q rfl rfl rfl (wg rfl rfl rfl g38) (r_indexAddrS Tryz.underlying23 ti3 rfl hl_va1 rfl (rdl_some h47).1 (rdl_some h47).2.1) ?_
              refine S.q rfl rfl rfl (wg rfl rfl rfl g38) (r_load ta3 rfl (fun w hw => cell_0 (Rd.flat ((fun _ hw => hr_a1.sep hw) w hw) (rdl_some h47).2.2) rfl)) ?_
              refine S.q rfl rfl rfl (wg rfl rfl rfl g38) (r_move rfl) ?_
              refine S.qc rfl rfl rfl (wg rfl rfl rfl g38) (q_callF (xs := _) rfl ok54 rfl rfl (fun w hw => spec_l2Open.ok h50 w ((fun _ hw => hr_a0_1.sep hw) w hw) ((fun _ hw => hr_a0_2.sep hw) w hw))) ?_
              refine S.q rfl rfl rfl (wg rfl rfl rfl g38) (r_not rfl) ?_
              refine S.q rfl rfl rfl (wg rfl rfl rfl rfl) (r_pick rfl rfl g38) ?_
              refine S.q rfl rfl rfl (wanted_none rfl) (r_pickf rfl rfl rfl) ?_
              refine S.nil ?_
              refine F.nil ?_
              cases hE_2
              refine Nrm.only [1, 2, 6, 7, 8, 53] rfl ?_
              refine Nrm.pick [0, 1] rfl rfl ?_
              exact hj_1 _ _ ⟨rfl, rfl⟩
            · replace hE_2 := if_ff g38 hE_2
              refine Tri.drawA mixedT Sep.up [(0, true), (1, true), (2, true), (3, true), (4, true), (5, true), (6, true), (7, true), (8, true), (9, true), (10, true), (11, true), (12, true), (13, true), (14, true), (15, true), (16, true), (17, true), (18, true), (19, true), (20, true), (21, true), (22, true), (23, true), (24, true), (25, true), (26, true), (27, true), (28, true), (29, true), (30, true), (31, true), (32, true), (33, true), (34, true), (35, true), (36, true), (37, true)] [] (by kernel_rfl) ?_
              refine S.q rfl rfl rfl (wanted_none rfl) (r_move rfl) ?_
              refine S.q rfl rfl rfl (wanted_none rfl) (r_move rfl) ?_
              refine S.q rfl rfl rfl (wanted_none rfl) (r_indexAddrS Tryz.underlying23 ti3 rfl hl_va1 rfl (rdl_some h18).1 (rdl_some h18).2.1) ?_
              refine S.q rfl rfl rfl (wanted_none rfl) (r_load ta3 rfl (fun w hw => cell_0 (Rd.flat ((fun _ hw => hr_a1.sep hw) w hw) (rdl_some h18).2.2) rfl)) ?_
              refine S.q rfl rfl rfl (wanted_none rfl) (r_fieldAddr tf31_0 rfl) ?_
              refine S.q rfl rfl rfl (wanted_none rfl) (r_load ta3 rfl (fun w hw => cell_1 (box_cells (i := 0) rfl w hw) rfl)) ?_
              refine S.q rfl rfl rfl (wanted_none rfl) (r_sub rfl rfl) ?_
              refine S.qc rfl rfl rfl (wanted_none rfl) (q_callF (xs := _) rfl ok35 rfl rfl (fun w hw => spec_l1In.ok h23 w )) ?_
              refine S.q rfl rfl rfl (wanted_none rfl) (r_not rfl) ?_
              refine S.q rfl rfl rfl (wanted_none rfl) (r_move rfl) ?_
              refine S.q rfl rfl rfl (wg rfl rfl rfl g25) (r_move rfl) ?_
              refine S.q rfl rfl rfl (wg rfl rfl rfl g25) (r_eql rfl rfl) ?_
              refine S.q rfl rfl rfl (wg rfl rfl rfl g25) (r_move rfl) ?_
              refine S.sk rfl rfl rfl (wf rfl rfl rfl g28) ?_
              refine S.sk rfl rfl rfl (wf rfl rfl rfl g28) ?_
              refine S.sk rfl rfl rfl (wf rfl rfl rfl g28) ?_
              refine S.sk rfl rfl rfl (wf rfl rfl rfl g28) ?_
              refine S.q rfl rfl rfl (wg rfl rfl rfl g25) (r_pickf rfl rfl g28) ?_
              refine S.q rfl rfl rfl (wanted_none rfl) (r_pickf rfl rfl g25) ?_
              refine S.q rfl rfl rfl (wanted_none rfl) (r_move rfl) ?_
              refine S.q rfl rfl rfl (wg rfl rfl rfl rfl) (r_move rfl) ?_
              refine S.q rfl rfl rfl (wg rfl rfl rfl rfl) (r_gtr rfl rfl) ?_
              refine S.q rfl rfl rfl (wg rfl rfl rfl rfl) (r_move rfl) ?_
              refine S.sk rfl rfl rfl (wf rfl rfl rfl g38) ?_
              refine S.sk rfl rfl rfl (wf rfl rfl rfl g38) ?_
              refine S.sk rfl rfl rfl (wf rfl rfl rfl g38) ?_
              refine S.sk rfl rfl rfl (wf rfl rfl rfl g38) ?_
              refine S.sk rfl rfl rfl (wf rfl rfl rfl g38) ?_
              refine S.sk rfl rfl rfl (wf rfl rfl rfl g38) ?_
              refine S.sk rfl rfl rfl (wf rfl rfl rfl g38) ?_
              refine S.sk rfl rfl rfl (wf rfl rfl rfl g38) ?_
              refine S.sk rfl rfl rfl (wf rfl rfl rfl g38) ?_
              refine S.sk rfl rfl rfl (wf rfl rfl rfl g38) ?_
              refine S.sk rfl rfl rfl (wf rfl rfl rfl g38) ?_
              refine S.sk rfl rfl rfl (wf rfl rfl rfl g38) ?_
              refine S.sk rfl rfl rfl (wf rfl rfl rfl g38) ?_
              refine S.q rfl rfl rfl (wg rfl rfl rfl rfl) (r_pickf rfl rfl g38) ?_
              refine S.q rfl rfl rfl (wanted_none rfl) (r_pickf rfl rfl rfl) ?_
              refine S.nil ?_
              refine F.nil ?_
              cases hE_2
              refine Nrm.only [1, 2, 6, 7, 8, 53] rfl ?_
              refine Nrm.pick [0, 1] rfl rfl ?_
              exact hj_1 _ _ ⟨rfl, rfl⟩
    · replace hE_1 := if_ff g_1 hE_1
      refine Tri.exit ?_
      refine Exi.then ?_
      refine Exi.then ?_
      refine Exi.same ?_
      cases hE_1
      replace h := Lr_inl h
      refine Nrm.seq ?_
      refine Tri.seq ?_
      refine Tri.reg (l := [0, 1, 2, 3, 4, 5]) rfl ?_
      refine F.q rfl rfl rfl (wanted_none rfl) (r_move rfl) ?_
      refine F.q rfl rfl rfl (wanted_none rfl) (r_move rfl) ?_
      refine F.q rfl rfl rfl (wanted_none rfl) (r_len Tryz.underlying23 rfl hl_w6) ?_
      refine F.q rfl rfl rfl (wanted_none rfl) (r_gtr rfl rfl) ?_
      refine F.q rfl rfl rfl (wanted_none rfl) (r_assign rfl) ?_
      refine F.q rfl rfl rfl (wanted_none rfl) (r_assign rfl) ?_
      refine F.nil ?_
      refine Nrm.seq ?_
      refine Tri.ret ?_
      cases h
      exact Rtn.body (.tmp rfl (.tmp rfl .nil)) (fun w hw => ⟨_, _, rfl, ⟨w6, T6, rfl, hl_w6, rfl⟩, Sep.pick (is := [1]) rfl rfl hw⟩)

end Go.Proofs

/- loop.example/g01158/spec.l12Good -/
namespace Go.Proofs
open Go Go.Ga
set_option linter.unusedVariables false
set_option maxRecDepth 100000
set_option maxHeartbeats 4000000
def spec_l12Good.f (k : Nat) (a0_0 : Int) (a0_1 : List (Int × Int × Int)) (a0_2 : List Int) (a0_3 : List Int) (a0_4 : Int) : Option (Bool) := ((spec_l2Maze.f k a0_0 a0_1 a0_2).bind fun t7 => (if (!t7) = true then some true else (if (decide ((a0_3.length : Int) > 60)) = true then some true else (spec_l1In.f k a0_4 0 1000).bind fun t18 => some (!t18)))).bind fun y20 => (if y20 = true then some false else (spec_l2Taken.f k a0_0 a0_1 a0_2 a0_3).bind fun (t26_1, t26_2) => some t26_2)

theorem spec_l12Good.ok {k : Nat}  {a0_0 : Int} {a0_1 : List (Int × Int × Int)} {a0_2 : List Int} {a0_3 : List Int} {a0_4 : Int} {r0 : Bool} (h : spec_l12Good.f k a0_0 a0_1 a0_2 a0_3 a0_4 = some r0) (w : World) {va0_1 : Value} {va0_2 : Value} {va0_3 : Value} (hr_a0_1 : Rd w va0_1 a0_1) (hr_a0_2 : Rd w va0_2 a0_2) (hr_a0_3 : Rd w va0_3 a0_3) :
    Calls Tryz.prog 17 ([.agg ([.int .i64 a0_0, va0_1, va0_2, va0_3, .int .i64 a0_4].toArray)] : List Value).toArray w (fun e w' => e = .returned (.bool r0) ∧ Ext w w') := by
  unfold spec_l12Good.f at h
  have hl_va0_1 := hr_a0_1.len
  have hl_va0_2 := hr_a0_2.len
  have hl_va0_3 := hr_a0_3.len
  refine Calls.of_tri (N := 30) Tryz.func17 rfl rfl rfl (Sep.nil (M := noM)) ?_
  refine Tri.seq ?_
  refine Tri.reg (l := [0, 1]) rfl ?_
  refine F.m rfl rfl rfl (wanted_none rfl) (m_boxG rfl rfl) ?_
  rintro _ _ ⟨b1_1, rfl, rfl⟩
  refine F.q rfl rfl rfl (wanted_none rfl) (r_assign rfl) ?_
  refine F.nil ?_
  refine Nrm.seq ?_
  refine Tri.seq ?_
  refine Tri.seq ?_
  obtain ⟨y20, hE_1, h⟩ := bind_some h
  refine Tri.cut (fun e' C' => e' = [(1, .pointer (some ⟨b1_1, 0, none⟩)), (20, .bool y20)] ∧ C' = Sep w noM [R.box b1_1 33 [.int .i64 a0_0, va0_1, va0_2, va0_3, .int .i64 a0_4]]) ?_ (fun hj_1 => ?_)
  · rintro _ _ ⟨rfl, rfl⟩
    refine Nrm.seq ?_
    refine Tri.cond (b := y20) rfl (fun g_1 => ?_) (fun g_1 => ?_)
    · replace h := if_tt g_1 h
      refine Tri.seq ?_
      refine Tri.reg (l := [0]) rfl ?_
      refine F.q rfl rfl rfl (wanted_none rfl) (r_assign rfl) ?_
      refine F.nil ?_
      refine Nrm.seq ?_
      refine Tri.ret ?_
      refine Rtn.then ?_
      cases h
      exact Rtn.body (.tmp rfl .nil) (fun w hw => ⟨rfl, hw.ext⟩)
    · replace h := if_ff g_1 h
      refine Tri.skip ?_
      refine Nrm.seq ?_
      refine Tri.seq ?_
      obtain ⟨⟨t26_1, t26_2⟩, h26, h⟩ := bind_some h
      refine Tri.reg (l := [0, 1, 2, 3, 4, 5, 6, 7, 8, 9]) rfl ?_
      refine F.q rfl rfl rfl (wanted_none rfl) (r_fieldAddr tf33_0 rfl) ?_
      refine F.q rfl rfl rfl (wanted_none rfl) (r_loadA ta31 ti31 rfl rfl (fun w hw => cells_1 (cs' := [.int .i64 a0_0, va0_1, va0_2]) (box_cells (i := 0) rfl w hw) rfl)) ?_
      refine F.q rfl rfl rfl (wanted_none rfl) (r_fieldAddr tf33_1 rfl) ?_
      refine F.q rfl rfl rfl (wanted_none rfl) (r_load ta23 rfl (fun w hw => cell_1 (box_cells (i := 0) rfl w hw) rfl)) ?_
      refine F.m rfl rfl rfl (wanted_none rfl) (m_callF (xs := _) rfl ok36 rfl rfl (fun w hw => spec_l2Taken.ok h26 w ((fun _ hw => hr_a0_1.sep hw) w hw) ((fun _ hw => hr_a0_2.sep hw) w hw) ((fun _ hw => hr_a0_3.sep hw) w hw))) ?_
      rintro _ _ ⟨_, ⟨v26_1, S26_1, rfl, hl_v26_1, rfl⟩, rfl⟩
      refine F.q rfl rfl rfl (wanted_none rfl) (r_move rfl) ?_
      refine F.q rfl rfl rfl (wanted_none rfl) (r_extract rfl rfl) ?_
      refine F.q rfl rfl rfl (wanted_none rfl) (r_extract rfl rfl) ?_
      refine F.q rfl rfl rfl (wanted_none rfl) (r_assign rfl) ?_
      refine F.q rfl rfl rfl (wanted_none rfl) (r_assign rfl) ?_
      refine F.nil ?_
      refine Nrm.seq ?_
      refine Tri.seq ?_
      refine Tri.reg (l := [0, 1]) rfl ?_
      refine F.q rfl rfl rfl (wanted_none rfl) (r_move rfl) ?_
      refine F.q rfl rfl rfl (wanted_none rfl) (r_assign rfl) ?_
      refine F.nil ?_
      refine Nrm.seq ?_
      refine Tri.ret ?_
      cases h
      exact Rtn.body (.tmp rfl .nil) (fun w hw => ⟨rfl, hw.ext⟩)
  · obtain ⟨t7, h7, hE_1⟩ := bind_some hE_1
    rcases Bool.eq_false_or_eq_true (!t7) with g9 | g9
    · replace hE_1 := if_tt g9 hE_1
      refine Tri.reg (l := [0, 1, 2, 3, 4, 5, 6, 7, 8, 9, 10, 11, 12, 13, 14, 15]) rfl ?_
      refine F.q rfl rfl rfl (wanted_none rfl) (r_fieldAddr tf33_0 rfl) ?_
      refine F.q rfl rfl rfl (wanted_none rfl) (r_loadA ta31 ti31 rfl rfl (fun w hw => cells_1 (cs' := [.int .i64 a0_0, va0_1, va0_2]) (box_cells (i := 0) rfl w hw) rfl)) ?_
      refine F.qc rfl rfl rfl (wanted_none rfl) (q_callF (xs := _) rfl ok34 rfl rfl (fun w hw => spec_l2Maze.ok h7 w ((fun _ hw => hr_a0_1.sep hw) w hw) ((fun _ hw => hr_a0_2.sep hw) w hw))) ?_
      refine F.q rfl rfl rfl (wanted_none rfl) (r_not rfl) ?_
      refine F.q rfl rfl rfl (wanted_none rfl) (r_move rfl) ?_
      refine F.sk rfl rfl rfl (wf rfl rfl rfl g9) ?_
      refine F.sk rfl rfl rfl (wf rfl rfl rfl g9) ?_
      refine F.sk rfl rfl rfl (wf rfl rfl rfl g9) ?_
      refine F.sk rfl rfl rfl (wf rfl rfl rfl g9) ?_
      refine F.q rfl rfl rfl (wanted_none rfl) (r_pick rfl rfl g9) ?_
      refine F.q rfl rfl rfl (wanted_none rfl) (r_move rfl) ?_
      refine F.sk rfl rfl rfl (wf rfl rfl rfl rfl) ?_
      refine F.sk rfl rfl rfl (wf rfl rfl rfl rfl) ?_
      refine F.sk rfl rfl rfl (wf rfl rfl rfl rfl) ?_
      refine F.sk rfl rfl rfl (wf rfl rfl rfl rfl) ?_
      refine F.q rfl rfl rfl (wanted_none rfl) (r_pick rfl rfl rfl) ?_
      refine F.nil ?_
      cases hE_1
      refine Nrm.only [1, 20] rfl ?_
      refine Nrm.pick [0] rfl rfl ?_
      exact hj_1 _ _ ⟨rfl, rfl⟩
    · replace hE_1 := if_ff g9 hE_1
      rcases Bool.eq_false_or_eq_true (decide ((a0_3.length : Int) > 60)) with g15 | g15
      · replace hE_1 := if_tt g15 hE_1
        refine Tri.reg (l := [0, 1, 2, 3, 4, 5, 6, 7, 8, 9, 10, 11, 12, 13, 14, 15]) rfl ?_
        refine F.q rfl rfl rfl (wanted_none rfl) (r_fieldAddr tf33_0 rfl) ?_
        refine F.q rfl rfl rfl (wanted_none rfl) (r_loadA ta31 ti31 rfl rfl (fun w hw => cells_1 (cs' := [.int .i64 a0_0, va0_1, va0_2]) (box_cells (i := 0) rfl w hw) rfl)) ?_
        refine F.qc rfl rfl rfl (wanted_none rfl) (q_callF (xs := _) rfl ok34 rfl rfl (fun w hw => spec_l2Maze.ok h7 w ((fun _ hw => hr_a0_1.sep hw) w hw) ((fun _ hw => hr_a0_2.sep hw) w hw))) ?_
        refine F.q rfl rfl rfl (wanted_none rfl) (r_not rfl) ?_
        refine F.q rfl rfl rfl (wanted_none rfl) (r_move rfl) ?_
        refine F.q rfl rfl rfl (wg rfl rfl rfl g9) (r_fieldAddr tf33_1 rfl) ?_
        refine F.q rfl rfl rfl (wg rfl rfl rfl g9) (r_load ta23 rfl (fun w hw => cell_1 (box_cells (i := 0) rfl w hw) rfl)) ?_
        refine F.q rfl rfl rfl (wg rfl rfl rfl g9) (r_len Tryz.underlying23 rfl hl_va0_3) ?_
        refine F.q rfl rfl rfl (wg rfl rfl rfl g9) (r_gtr rfl rfl) ?_
        refine F.q rfl rfl rfl (wanted_none rfl) (r_pickf rfl rfl g9) ?_
        refine F.q rfl rfl rfl (wanted_none rfl) (r_move rfl) ?_
        refine F.sk rfl rfl rfl (wf rfl rfl rfl g15) ?_
        refine F.sk rfl rfl rfl (wf rfl rfl rfl g15) ?_
        refine F.sk rfl rfl rfl (wf rfl rfl rfl g15) ?_
        refine F.sk rfl rfl rfl (wf rfl rfl rfl g15) ?_
        refine F.q rfl rfl rfl (wanted_none rfl) (r_pick rfl rfl g15) ?_
        refine F.nil ?_
        cases hE_1
        refine Nrm.only [1, 20] rfl ?_
        refine Nrm.pick [0] rfl rfl ?_
        exact hj_1 _ _ ⟨rfl, rfl⟩
      · replace hE_1 := if_ff g15 hE_1
        obtain ⟨t18, h18, hE_1⟩ := bind_some hE_1
        refine Tri.reg (l := [0, 1, 2, 3, 4, 5, 6, 7, 8, 9, 10, 11, 12, 13, 14, 15]) rfl ?_
        refine F.q rfl rfl rfl (wanted_none rfl) (r_fieldAddr tf33_0 rfl) ?_
        refine F.q rfl rfl rfl (wanted_none rfl) (r_loadA ta31 ti31 rfl rfl (fun w hw => cells_1 (cs' := [.int .i64 a0_0, va0_1, va0_2]) (box_cells (i := 0) rfl w hw) rfl)) ?_
        refine F.qc rfl rfl rfl (wanted_none rfl) (q_callF (xs := _) rfl ok34 rfl rfl (fun w hw => spec_l2Maze.ok h7 w ((fun _ hw => hr_a0_1.sep hw) w hw) ((fun _ hw => hr_a0_2.sep hw) w hw))) ?_
        refine F.q rfl rfl rfl (wanted_none rfl) (r_not rfl) ?_
        refine F.q rfl rfl rfl (wanted_none rfl) (r_move rfl) ?_
        refine F.q rfl rfl rfl (wg rfl rfl rfl g9) (r_fieldAddr tf33_1 rfl) ?_
        refine F.q rfl rfl rfl (wg rfl rfl rfl g9) (r_load ta23 rfl (fun w hw => cell_1 (box_cells (i := 0) rfl w hw) rfl)) ?_
        refine F.q rfl rfl rfl (wg rfl rfl rfl g9) (r_len Tryz.underlying23 rfl hl_va0_3) ?_
        refine F.q rfl rfl rfl (wg rfl rfl rfl g9) (r_gtr rfl rfl) ?_
        refine F.q rfl rfl rfl (wanted_none rfl) (r_pickf rfl rfl g9) ?_
        refine F.q rfl rfl rfl (wanted_none rfl) (r_move rfl) ?_
        refine F.q rfl rfl rfl (wg rfl rfl rfl g15) (r_fieldAddr tf33_2 rfl) ?_
        refine F.q rfl rfl rfl (wg rfl rfl rfl g15) (r_load ta3 rfl (fun w hw => cell_1 (box_cells (i := 0) rfl w hw) rfl)) ?_
        refine F.qc rfl rfl rfl (wg rfl rfl rfl g15) (q_callF (xs := _) rfl ok35 rfl rfl (fun w hw => spec_l1In.ok h18 w )) ?_
        refine F.q rfl rfl rfl (wg rfl rfl rfl g15) (r_not rfl) ?_
        refine F.q rfl rfl rfl (wanted_none rfl) (r_pickf rfl rfl g15) ?_
        refine F.nil ?_
        cases hE_1
        refine Nrm.only [1, 20] rfl ?_
        refine Nrm.pick [0] rfl rfl ?_
        exact hj_1 _ _ ⟨rfl, rfl⟩

end Go.Proofs

/- loop.example/g01158/spec.l1Own -/

namespace Go.Proofs
open Go Go.Ga
set_option linter.unusedVariables false
set_option maxRecDepth 100000
set_option maxHeartbeats 4000000
def spec_l1Own.f (k : Nat) (a0 : List Int) : Option ((List Int)) := if (([] : List (Int)) ++ a0).length < 1099511627776 then some (([] : List (Int)) ++ a0) else none

theorem spec_l1Own.ok {k : Nat}  {a0 : List Int} {r0 : List Int} (h : spec_l1Own.f k a0 = some r0) (w : World) {va0 : Value} (hr_a0 : Rd w va0 a0) :
    Calls Tryz.prog 38 ([va0] : List Value).toArray w (Post (fun u ns => ∃ (Sr0 : Nat → Prop), SlLen u r0.length ∧ ns = [R.sl Sr0 u r0]) w) := by
  unfold spec_l1Own.f at h
  have hl_va0 := hr_a0.len
  refine Calls.of_tri (N := 6) Tryz.func38 rfl rfl rfl (Sep.nil (M := noM)) ?_
  refine Tri.seq ?_
  refine Tri.reg (l := [0]) rfl ?_
  refine F.q rfl rfl rfl (wanted_none rfl) (r_assign rfl) ?_
  refine F.nil ?_
  refine Nrm.seq ?_
  refine Tri.seq ?_
  obtain ⟨hs5, h⟩ := ck h
  refine Tri.reg (l := [0, 1, 2, 3]) rfl ?_
  refine F.m rfl rfl rfl (wanted_none rfl) (m_build0 (α := Int) Tryz.underlying23 ti3) ?_
  rintro v3_1 _ ⟨S3_1, hl_v3_1, rfl⟩
  refine F.q rfl rfl rfl (wanted_none rfl) (r_move rfl) ?_
  refine F.ef rfl rfl rfl (wanted_none rfl) (d_append (i := 0) Tryz.underlying23 Tryz.underlying23 ti3 rfl (by decide) rfl rfl rfl (fun _ hw => hr_a0.sep hw) hs5) ?_
  rintro v5_1 _ ⟨S5_1, rfl, hl_v5_1⟩
  refine F.q rfl rfl rfl (wanted_none rfl) (r_assign rfl) ?_
  refine F.nil ?_
  refine Nrm.seq ?_
  refine Tri.ret ?_
  cases h
  exact Rtn.body (.tmp rfl .nil) (fun w hw => ⟨_, _, rfl, ⟨S5_1, hl_v5_1, rfl⟩, Sep.pick (is := [0]) rfl rfl hw⟩)

end Go.Proofs

/- loop.example/g01158/spec.l2Own -/
namespace Go.Proofs
open Go Go.Ga
set_option linter.unusedVariables false
set_option maxRecDepth 100000
set_option maxHeartbeats 4000000
def spec_l2Own.f (k : Nat) (a0_0 : Int) (a0_1 : List (Int × Int × Int)) (a0_2 : List Int) : Option (Int × (List (Int × Int × Int)) × (List Int)) := if (([] : List (Int × Int × Int)) ++ a0_1).length < 1099511627776 then (spec_l1Own.f k a0_2).bind fun t11 => some (a0_0, ([] : List (Int × Int × Int)) ++ a0_1, t11) else none

theorem spec_l2Own.ok {k : Nat}  {a0_0 : Int} {a0_1 : List (Int × Int × Int)} {a0_2 : List Int} {r0 : Int} {r1 : List (Int × Int × Int)} {r2 : List Int} (h : spec_l2Own.f k a0_0 a0_1 a0_2 = some (r0, r1, r2)) (w : World) {va0_1 : Value} {va0_2 : Value} (hr_a0_1 : Rd w va0_1 a0_1) (hr_a0_2 : Rd w va0_2 a0_2) :
    Calls Tryz.prog 37 ([.agg ([.int .i64 a0_0, va0_1, va0_2].toArray)] : List Value).toArray w (Post (fun u ns => ∃ (ur1 : Value) (Sr1 : Nat → Prop) (ur2 : Value) (Sr2 : Nat → Prop), u = .agg [.int .i64 r0, ur1, ur2].toArray ∧ SlLen ur1 r1.length ∧ SlLen ur2 r2.length ∧ ns = [R.sl Sr1 ur1 r1, R.sl Sr2 ur2 r2]) w) := by
  unfold spec_l2Own.f at h
  have hl_va0_1 := hr_a0_1.len
  have hl_va0_2 := hr_a0_2.len
  refine Calls.of_tri (N := 13) Tryz.func37 rfl rfl rfl (Sep.nil (M := noM)) ?_
  refine Tri.seq ?_
  refine Tri.reg (l := [0, 1]) rfl ?_
  refine F.m rfl rfl rfl (wanted_none rfl) (m_boxG rfl rfl) ?_
  rintro _ _ ⟨b1_1, rfl, rfl⟩
  refine F.m rfl rfl rfl (wanted_none rfl) (m_alloc ti31) ?_
  rintro _ _ ⟨b2_1, rfl, rfl⟩
  refine F.nil ?_
  refine Nrm.seq ?_
  refine Tri.seq ?_
  obtain ⟨hs8, h⟩ := ck h
  obtain ⟨t11, h11, h⟩ := bind_some h
  refine Tri.drawB mixedT Sep.up [(0, true), (1, true), (3, true), (4, true), (6, true), (7, true), (2, false), (5, false), (8, false)] [9, 10] (by kernel_rfl) ?_
  refine B.q rfl rfl rfl (wanted_none rfl) (r_fieldAddr tf31_0 rfl) ?_
  refine B.q rfl rfl rfl (wanted_none rfl) (r_load ta3 rfl (fun w hw => cell_1 (box_cells (i := 1) rfl w hw) rfl)) ?_
  refine B.q rfl rfl rfl (wanted_none rfl) (r_fieldAddr tf31_1 rfl) ?_
  refine B.q rfl rfl rfl (wanted_none rfl) (r_load ta22 rfl (fun w hw => cell_1 (box_cells (i := 1) rfl w hw) rfl)) ?_
  refine B.q rfl rfl rfl (wanted_none rfl) (r_fieldAddr tf31_2 rfl) ?_
  refine B.q rfl rfl rfl (wanted_none rfl) (r_load ta23 rfl (fun w hw => cell_1 (box_cells (i := 1) rfl w hw) rfl)) ?_
  refine B.ef rfl rfl rfl (wanted_none rfl) (Makes.does (m_build0 (α := Int × Int × Int) Tryz.underlying22 ti72)) (by rintro v5_2 _ ⟨S5_2, hl_v5_2, rfl⟩; exact upd rfl [1, 2] rfl rfl) ?_
  rintro v5_2 _ ⟨S5_2, hl_v5_2, rfl⟩
  refine B.ef rfl rfl rfl (wanted_none rfl) (d_append (i := 0) Tryz.underlying22 Tryz.underlying22 ti72 rfl (by decide) rfl rfl rfl (fun _ hw => hr_a0_1.sep hw) hs8) (by rintro v8_2 _ ⟨S8_2, rfl, hl_v8_2⟩; exact upd rfl [1, 2] rfl rfl) ?_
  rintro v8_2 _ ⟨S8_2, rfl, hl_v8_2⟩
  refine B.ef rfl rfl rfl (wanted_none rfl) (Makes.does (m_callF (xs := _) rfl ok38 rfl rfl (fun w hw => spec_l1Own.ok h11 w ((fun _ hw => hr_a0_2.sep hw) w hw)))) (by rintro v11_2 _ ⟨_, ⟨S11_2, hl_v11_2, rfl⟩, rfl⟩; exact upd rfl [2, 3] rfl rfl) ?_
  rintro v11_2 _ ⟨_, ⟨S11_2, hl_v11_2, rfl⟩, rfl⟩
  refine B.nil ?_
  refine F.q rfl rfl rfl (wanted_none rfl) (r_build (pl := [(0, 1), (1, 1), (2, 1)]) (qs := [(0, [.int .i64 a0_0]), (1, [v8_2]), (2, [v11_2])]) (cs := [.int .i64 a0_0, v8_2, v11_2]) (by kernel_rfl) ti31 rfl (.cons rfl rfl (Nat.le_of_ble_eq_true rfl) (.cons (sl_cells hl_v8_2) rfl (Nat.le_of_ble_eq_true rfl) (.cons (sl_cells hl_v11_2) rfl (Nat.le_of_ble_eq_true rfl) .nil))) rfl rfl) ?_
  refine F.ef0 rfl rfl (wanted_none rfl) (d_storeG0 (i := 2) (cs2 := [.int .i64 a0_0, v8_2, v11_2]) ti31 rfl rfl rfl rfl rfl (Nat.le_of_ble_eq_true rfl) (lf_cons rfl (lf_cons (sl_leaf hl_v8_2) (lf_cons (sl_leaf hl_v11_2) lf_nil)))) ?_
  rintro _ _ ⟨rfl, rfl⟩
  refine F.nil ?_
  refine Nrm.seq ?_
  refine Tri.ret ?_
  cases h
  exact Rtn.body (.cell rfl ta31 ti31 rfl (fun _ hw => box_cells (i := 2) rfl _ hw) .nil) (fun w hw => ⟨_, _, rfl, ⟨v8_2, S8_2, v11_2, S11_2, rfl, hl_v8_2, hl_v11_2, rfl⟩, Sep.pick (is := [1, 0]) rfl rfl hw⟩)

end Go.Proofs

/- loop.example/g01158/spec.l12Own -/
namespace Go.Proofs
open Go Go.Ga
set_option linter.unusedVariables false
set_option maxRecDepth 100000
set_option maxHeartbeats 4000000
def spec_l12Own.f (k : Nat) (a0_0 : Int) (a0_1 : List (Int × Int × Int)) (a0_2 : List Int) (a0_3 : List Int) (a0_4 : Int) : Option (Int × (List (Int × Int × Int)) × (List Int) × (List Int) × Int) := (spec_l2Own.f k a0_0 a0_1 a0_2).bind fun (t7_1, t7_2, t7_3) => (spec_l1Own.f k a0_3).bind fun t11 => some (t7_1, t7_2, t7_3, t11, a0_4)

theorem spec_l12Own.ok {k : Nat}  {a0_0 : Int} {a0_1 : List (Int × Int × Int)} {a0_2 : List Int} {a0_3 : List Int} {a0_4 : Int} {r0 : Int} {r1 : List (Int × Int × Int)} {r2 : List Int} {r3 : List Int} {r4 : Int} (h : spec_l12Own.f k a0_0 a0_1 a0_2 a0_3 a0_4 = some (r0, r1, r2, r3, r4)) (w : World) {va0_1 : Value} {va0_2 : Value} {va0_3 : Value} (hr_a0_1 : Rd w va0_1 a0_1) (hr_a0_2 : Rd w va0_2 a0_2) (hr_a0_3 : Rd w va0_3 a0_3) :
    Calls Tryz.prog 18 ([.agg ([.int .i64 a0_0, va0_1, va0_2, va0_3, .int .i64 a0_4].toArray)] : List Value).toArray w (Post (fun u ns => ∃ (ur1 : Value) (Sr1 : Nat → Prop) (ur2 : Value) (Sr2 : Nat → Prop) (ur3 : Value) (Sr3 : Nat → Prop), u = .agg [.int .i64 r0, ur1, ur2, ur3, .int .i64 r4].toArray ∧ SlLen ur1 r1.length ∧ SlLen ur2 r2.length ∧ SlLen ur3 r3.length ∧ ns = [R.sl Sr1 ur1 r1, R.sl Sr2 ur2 r2, R.sl Sr3 ur3 r3]) w) := by
  unfold spec_l12Own.f at h
  have hl_va0_1 := hr_a0_1.len
  have hl_va0_2 := hr_a0_2.len
  have hl_va0_3 := hr_a0_3.len
  refine Calls.of_tri (N := 14) Tryz.func18 rfl rfl rfl (Sep.nil (M := noM)) ?_
  refine Tri.seq ?_
  refine Tri.reg (l := [0, 1]) rfl ?_
  refine F.m rfl rfl rfl (wanted_none rfl) (m_boxG rfl rfl) ?_
  rintro _ _ ⟨b1_1, rfl, rfl⟩
  refine F.m rfl rfl rfl (wanted_none rfl) (m_alloc ti33) ?_
  rintro _ _ ⟨b2_1, rfl, rfl⟩
  refine F.nil ?_
  refine Nrm.seq ?_
  refine Tri.seq ?_
  refine Tri.reg (l := [0, 1, 2]) rfl ?_
  refine F.q rfl rfl rfl (wanted_none rfl) (r_loadA ta33 ti33 rfl rfl (fun w hw => (box_cells (i := 1) rfl w hw))) ?_
  refine F.m rfl rfl rfl (wanted_none rfl) (m_alloc ti33) ?_
  rintro _ _ ⟨b3_1, rfl, rfl⟩
  refine F.ef0 rfl rfl (wanted_none rfl) (d_storeG0 (i := 0) (cs2 := [.int .i64 a0_0, va0_1, va0_2, va0_3, .int .i64 a0_4]) ti33 rfl rfl rfl rfl rfl (Nat.le_of_ble_eq_true rfl) (lf_cons rfl (lf_cons (sl_leaf hl_va0_1) (lf_cons (sl_leaf hl_va0_2) (lf_cons (sl_leaf hl_va0_3) (lf_cons rfl lf_nil)))))) ?_
  rintro _ _ ⟨rfl, rfl⟩
  refine F.nil ?_
  refine Nrm.seq ?_
  refine Tri.seq ?_
  obtain ⟨⟨t7_1, t7_2, t7_3⟩, h7, h⟩ := bind_some h
  refine Tri.reg (l := [0, 1, 2, 3, 4]) rfl ?_
  refine F.q rfl rfl rfl (wanted_none rfl) (r_fieldAddr tf33_0 rfl) ?_
  refine F.q rfl rfl rfl (wanted_none rfl) (r_loadA ta31 ti31 rfl rfl (fun w hw => cells_1 (cs' := [.int .i64 a0_0, va0_1, va0_2]) (box_cells (i := 2) rfl w hw) rfl)) ?_
  refine F.m rfl rfl rfl (wanted_none rfl) (m_callF (xs := _) rfl ok37 rfl rfl (fun w hw => spec_l2Own.ok h7 w ((fun _ hw => hr_a0_1.sep hw) w hw) ((fun _ hw => hr_a0_2.sep hw) w hw))) ?_
  rintro _ _ ⟨_, ⟨v7_1, S7_1, v7_2, S7_2, rfl, hl_v7_1, hl_v7_2, rfl⟩, rfl⟩
  refine F.q rfl rfl rfl (wanted_none rfl) (r_fieldAddr tf33_0 rfl) ?_
  refine F.ef0 rfl rfl (wanted_none rfl) (d_storeG1 (i := 2) (cs2 := [.int .i64 t7_1, v7_1, v7_2]) ti31 rfl rfl rfl rfl rfl (Nat.le_of_ble_eq_true rfl) (lf_cons rfl (lf_cons (sl_leaf hl_v7_1) (lf_cons (sl_leaf hl_v7_2) lf_nil)))) ?_
  rintro _ _ ⟨rfl, rfl⟩
  refine F.nil ?_
  refine Nrm.seq ?_
  refine Tri.seq ?_
  obtain ⟨t11, h11, h⟩ := bind_some h
  refine Tri.reg (l := [0, 1, 2, 3, 4]) rfl ?_
  refine F.q rfl rfl rfl (wanted_none rfl) (r_fieldAddr tf33_1 rfl) ?_
  refine F.q rfl rfl rfl (wanted_none rfl) (r_load ta23 rfl (fun w hw => cell_1 (box_cells (i := 4) rfl w hw) rfl)) ?_
  refine F.m rfl rfl rfl (wanted_none rfl) (m_callF (xs := _) rfl ok38 rfl rfl (fun w hw => spec_l1Own.ok h11 w ((fun _ hw => hr_a0_3.sep hw) w hw))) ?_
  rintro v11_1 _ ⟨_, ⟨S11_1, hl_v11_1, rfl⟩, rfl⟩
  refine F.q rfl rfl rfl (wanted_none rfl) (r_fieldAddr tf33_1 rfl) ?_
  refine F.ef0 rfl rfl (wanted_none rfl) (d_storeG1 (i := 3) (cs2 := [v11_1]) ti23 rfl rfl rfl (sl_cells hl_v11_1) rfl (Nat.le_of_ble_eq_true rfl) (lf_cons (sl_leaf hl_v11_1) lf_nil)) ?_
  rintro _ _ ⟨rfl, rfl⟩
  refine F.nil ?_
  refine Nrm.seq ?_
  refine Tri.seq ?_
  refine Tri.reg (l := [0, 1]) rfl ?_
  refine F.q rfl rfl rfl (wanted_none rfl) (r_loadA ta33 ti33 rfl rfl (fun w hw => (box_cells (i := 3) rfl w hw))) ?_
  refine F.ef0 rfl rfl (wanted_none rfl) (d_storeG0 (i := 4) (cs2 := [.int .i64 t7_1, v7_1, v7_2, v11_1, .int .i64 a0_4]) ti33 rfl rfl rfl rfl rfl (Nat.le_of_ble_eq_true rfl) (lf_cons rfl (lf_cons (sl_leaf hl_v7_1) (lf_cons (sl_leaf hl_v7_2) (lf_cons (sl_leaf hl_v11_1) (lf_cons rfl lf_nil)))))) ?_
  rintro _ _ ⟨rfl, rfl⟩
  refine F.nil ?_
  refine Nrm.seq ?_
  refine Tri.ret ?_
  cases h
  exact Rtn.body (.cell rfl ta33 ti33 rfl (fun _ hw => box_cells (i := 4) rfl _ hw) .nil) (fun w hw => ⟨_, _, rfl, ⟨v7_1, S7_1, v7_2, S7_2, v11_1, S11_1, rfl, hl_v7_1, hl_v7_2, hl_v11_1, rfl⟩, Sep.pick (is := [1, 2, 0]) rfl rfl hw⟩)

end Go.Proofs

/- loop.example/g01158/spec.l1Most -/

namespace Go.Proofs
open Go Go.Ga
set_option linter.unusedVariables false
set_option maxRecDepth 100000
set_option maxHeartbeats 4000000
def spec_l1Most.f (k : Nat) (a0 : Int) (a1 : Int) : Option (Int) := (if (decide (a0 > a1)) = true then some a0 else some a1)

theorem spec_l1Most.ok {k : Nat}  {a0 : Int} {a1 : Int} {r0 : Int} (h : spec_l1Most.f k a0 a1 = some r0) (w : World) :
    Calls Tryz.prog 55 ([.int .i64 a0, .int .i64 a1] : List Value).toArray w (fun e w' => e = .returned (.int .i64 r0) ∧ Ext w w') := by
  unfold spec_l1Most.f at h
  refine Calls.of_tri (N := 10) Tryz.func55 rfl rfl rfl (Sep.nil (M := noM)) ?_
  refine Tri.seq ?_
  refine Tri.reg (l := [0]) rfl ?_
  refine F.q rfl rfl rfl (wanted_none rfl) (r_assign rfl) ?_
  refine F.nil ?_
  refine Nrm.seq ?_
  refine Tri.seq ?_
  refine Tri.seq ?_
  refine Tri.reg (l := [0, 1, 2]) rfl ?_
  refine F.q rfl rfl rfl (wanted_none rfl) (r_move rfl) ?_
  refine F.q rfl rfl rfl (wanted_none rfl) (r_move rfl) ?_
  refine F.q rfl rfl rfl (wanted_none rfl) (r_gtr rfl rfl) ?_
  refine F.nil ?_
  refine Nrm.seq ?_
  refine Tri.cond (b := decide (a0 > a1)) rfl (fun g_1 => ?_) (fun g_1 => ?_)
  · replace h := if_tt g_1 h
    refine Tri.seq ?_
    refine Tri.reg (l := [0, 1]) rfl ?_
    refine F.q rfl rfl rfl (wanted_none rfl) (r_move rfl) ?_
    refine F.q rfl rfl rfl (wanted_none rfl) (r_assign rfl) ?_
    refine F.nil ?_
    refine Nrm.seq ?_
    refine Tri.ret ?_
    refine Rtn.then ?_
    cases h
    exact Rtn.body (.tmp rfl .nil) (fun w hw => ⟨rfl, hw.ext⟩)
  · replace h := if_ff g_1 h
    refine Tri.skip ?_
    refine Nrm.seq ?_
    refine Tri.seq ?_
    refine Tri.reg (l := [0, 1]) rfl ?_
    refine F.q rfl rfl rfl (wanted_none rfl) (r_move rfl) ?_
    refine F.q rfl rfl rfl (wanted_none rfl) (r_assign rfl) ?_
    refine F.nil ?_
    refine Nrm.seq ?_
    refine Tri.ret ?_
    cases h
    exact Rtn.body (.tmp rfl .nil) (fun w hw => ⟨rfl, hw.ext⟩)

end Go.Proofs

/- loop.example/g01158/spec.l2Node -/
namespace Go.Proofs
open Go Go.Ga
set_option linter.unusedVariables false
set_option maxRecDepth 100000
set_option maxHeartbeats 4000000
def spec_l2Node.f (k : Nat) (a0_0 : Int) (a0_1 : List (Int × Int × Int)) (a0_2 : List Int) (a1 : Int) : Option (Bool) := ((spec_l2Maze.f k a0_0 a0_1 a0_2).bind fun t6 => (if t6 = true then (spec_l1In.f k a1 0 (w64 (a0_0 - 1))).bind fun t12 => some t12 else some false)).bind fun y4 => some y4

theorem spec_l2Node.ok {k : Nat}  {a0_0 : Int} {a0_1 : List (Int × Int × Int)} {a0_2 : List Int} {a1 : Int} {r0 : Bool} (h : spec_l2Node.f k a0_0 a0_1 a0_2 a1 = some r0) (w : World) {va0_1 : Value} {va0_2 : Value} (hr_a0_1 : Rd w va0_1 a0_1) (hr_a0_2 : Rd w va0_2 a0_2) :
    Calls Tryz.prog 73 ([.agg ([.int .i64 a0_0, va0_1, va0_2].toArray), .int .i64 a1] : List Value).toArray w (fun e w' => e = .returned (.bool r0) ∧ Ext w w') := by
  unfold spec_l2Node.f at h
  have hl_va0_1 := hr_a0_1.len
  have hl_va0_2 := hr_a0_2.len
  refine Calls.of_tri (N := 14) Tryz.func73 rfl rfl rfl (Sep.nil (M := noM)) ?_
  refine Tri.seq ?_
  refine Tri.reg (l := [0, 1]) rfl ?_
  refine F.m rfl rfl rfl (wanted_none rfl) (m_boxG rfl rfl) ?_
  rintro _ _ ⟨b2_1, rfl, rfl⟩
  refine F.q rfl rfl rfl (wanted_none rfl) (r_assign rfl) ?_
  refine F.nil ?_
  refine Nrm.seq ?_
  refine Tri.seq ?_
  obtain ⟨y4, hE_1, h⟩ := bind_some h
  refine Tri.cut (fun e' C' => e' = [(4, .bool y4)] ∧ C' = Sep w noM []) ?_ (fun hj_1 => ?_)
  · rintro _ _ ⟨rfl, rfl⟩
    refine Nrm.seq ?_
    refine Tri.ret ?_
    cases h
    exact Rtn.body (.tmp rfl .nil) (fun w hw => ⟨rfl, hw.ext⟩)
  · obtain ⟨t6, h6, hE_1⟩ := bind_some hE_1
    rcases Bool.eq_false_or_eq_true (t6) with g7 | g7
    · replace hE_1 := if_tt g7 hE_1
      obtain ⟨t12, h12, hE_1⟩ := bind_some hE_1
      refine Tri.reg (l := [0, 1, 2, 3, 4, 5, 6, 7, 8, 9]) rfl ?_
      refine F.q rfl rfl rfl (wanted_none rfl) (r_loadA ta31 ti31 rfl rfl (fun w hw => (box_cells (i := 0) rfl w hw))) ?_
      refine F.qc rfl rfl rfl (wanted_none rfl) (q_callF (xs := _) rfl ok34 rfl rfl (fun w hw => spec_l2Maze.ok h6 w ((fun _ hw => hr_a0_1.sep hw) w hw) ((fun _ hw => hr_a0_2.sep hw) w hw))) ?_
      refine F.q rfl rfl rfl (wanted_none rfl) (r_move rfl) ?_
      refine F.q rfl rfl rfl (wg rfl rfl rfl g7) (r_move rfl) ?_
      refine F.q rfl rfl rfl (wg rfl rfl rfl g7) (r_fieldAddr tf31_0 rfl) ?_
      refine F.q rfl rfl rfl (wg rfl rfl rfl g7) (r_load ta3 rfl (fun w hw => cell_1 (box_cells (i := 0) rfl w hw) rfl)) ?_
      refine F.q rfl rfl rfl (wg rfl rfl rfl g7) (r_sub rfl rfl) ?_
      refine F.qc rfl rfl rfl (wg rfl rfl rfl g7) (q_callF (xs := _) rfl ok35 rfl rfl (fun w hw => spec_l1In.ok h12 w )) ?_
      refine F.q rfl rfl rfl (wanted_none rfl) (r_pick rfl rfl g7) ?_
      refine F.q rfl rfl rfl (wanted_none rfl) (r_assign rfl) ?_
      refine F.nil ?_
      cases hE_1
      refine Nrm.only [4] rfl ?_
      refine Nrm.pick [] rfl rfl ?_
      exact hj_1 _ _ ⟨rfl, rfl⟩
    · replace hE_1 := if_ff g7 hE_1
      refine Tri.reg (l := [0, 1, 2, 3, 4, 5, 6, 7, 8, 9]) rfl ?_
      refine F.q rfl rfl rfl (wanted_none rfl) (r_loadA ta31 ti31 rfl rfl (fun w hw => (box_cells (i := 0) rfl w hw))) ?_
      refine F.qc rfl rfl rfl (wanted_none rfl) (q_callF (xs := _) rfl ok34 rfl rfl (fun w hw => spec_l2Maze.ok h6 w ((fun _ hw => hr_a0_1.sep hw) w hw) ((fun _ hw => hr_a0_2.sep hw) w hw))) ?_
      refine F.q rfl rfl rfl (wanted_none rfl) (r_move rfl) ?_
      refine F.sk rfl rfl rfl (wf rfl rfl rfl g7) ?_
      refine F.sk rfl rfl rfl (wf rfl rfl rfl g7) ?_
      refine F.sk rfl rfl rfl (wf rfl rfl rfl g7) ?_
      refine F.sk rfl rfl rfl (wf rfl rfl rfl g7) ?_
      refine F.sk rfl rfl rfl (wf rfl rfl rfl g7) ?_
      refine F.q rfl rfl rfl (wanted_none rfl) (r_pickf rfl rfl g7) ?_
      refine F.q rfl rfl rfl (wanted_none rfl) (r_assign rfl) ?_
      refine F.nil ?_
      cases hE_1
      refine Nrm.only [4] rfl ?_
      refine Nrm.pick [] rfl rfl ?_
      exact hj_1 _ _ ⟨rfl, rfl⟩

end Go.Proofs

/- loop.example/g01158/spec.l1Least -/

namespace Go.Proofs
open Go Go.Ga
set_option linter.unusedVariables false
set_option maxRecDepth 100000
set_option maxHeartbeats 4000000
def spec_l1Least.f (k : Nat) (a0 : Int) (a1 : Int) : Option (Int) := (if (decide (a0 < a1)) = true then some a0 else some a1)

theorem spec_l1Least.ok {k : Nat}  {a0 : Int} {a1 : Int} {r0 : Int} (h : spec_l1Least.f k a0 a1 = some r0) (w : World) :
    Calls Tryz.prog 85 ([.int .i64 a0, .int .i64 a1] : List Value).toArray w (fun e w' => e = .returned (.int .i64 r0) ∧ Ext w w') := by
  unfold spec_l1Least.f at h
  refine Calls.of_tri (N := 10) Tryz.func85 rfl rfl rfl (Sep.nil (M := noM)) ?_
  refine Tri.seq ?_
  refine Tri.reg (l := [0]) rfl ?_
  refine F.q rfl rfl rfl (wanted_none rfl) (r_assign rfl) ?_
  refine F.nil ?_
  refine Nrm.seq ?_
  refine Tri.seq ?_
  refine Tri.seq ?_
  refine Tri.reg (l := [0, 1, 2]) rfl ?_
  refine F.q rfl rfl rfl (wanted_none rfl) (r_move rfl) ?_
  refine F.q rfl rfl rfl (wanted_none rfl) (r_move rfl) ?_
  refine F.q rfl rfl rfl (wanted_none rfl) (r_lss rfl rfl) ?_
  refine F.nil ?_
  refine Nrm.seq ?_
  refine Tri.cond (b := decide (a0 < a1)) rfl (fun g_1 => ?_) (fun g_1 => ?_)
  · replace h := if_tt g_1 h
    refine Tri.seq ?_
    refine Tri.reg (l := [0, 1]) rfl ?_
    refine F.q rfl rfl rfl (wanted_none rfl) (r_move rfl) ?_
    refine F.q rfl rfl rfl (wanted_none rfl) (r_assign rfl) ?_
    refine F.nil ?_
    refine Nrm.seq ?_
    refine Tri.ret ?_
    refine Rtn.then ?_
    cases h
    exact Rtn.body (.tmp rfl .nil) (fun w hw => ⟨rfl, hw.ext⟩)
  · replace h := if_ff g_1 h
    refine Tri.skip ?_
    refine Nrm.seq ?_
    refine Tri.seq ?_
    refine Tri.reg (l := [0, 1]) rfl ?_
    refine F.q rfl rfl rfl (wanted_none rfl) (r_move rfl) ?_
    refine F.q rfl rfl rfl (wanted_none rfl) (r_assign rfl) ?_
    refine F.nil ?_
    refine Nrm.seq ?_
    refine Tri.ret ?_
    cases h
    exact Rtn.body (.tmp rfl .nil) (fun w hw => ⟨rfl, hw.ext⟩)

end Go.Proofs

/- loop.example/g01158/spec.l2Put -/
namespace Go.Proofs
open Go Go.Ga
set_option linter.unusedVariables false
set_option maxRecDepth 100000
set_option maxHeartbeats 4000000
def spec_l2Put.l0 (k : Nat) (a0 : List (Int × Int × Int)) (a3 : Int) (t13 : Int) (t16 : Int) : Nat → Int → Option (Int)
  | 0, _ => none
  | n + 1, x10 => ((if (decide (x10 < (a0.length : Int))) = true then (rdl a0 x10).bind fun t26 => (spec_l2Before.f k t26.1 t26.2.1 t26.2.2 t13 t16 a3).bind fun t29 => some t29 else some false)).bind fun y30 => (if y30 = true then spec_l2Put.l0 k a0 a3 t13 t16 n (w64 (x10 + 1)) else some x10)

def spec_l2Put.f (k : Nat) (a0 : List (Int × Int × Int)) (a1 : Int) (a2 : Int) (a3 : Int) : Option ((List (Int × Int × Int))) := (spec_l1Least.f k a1 a2).bind fun t13 => (spec_l1Most.f k a1 a2).bind fun t16 => (spec_l2Put.l0 k a0 a3 t13 t16 k 0).bind fun x10 => ((if (decide (x10 < (a0.length : Int))) = true then (rdl a0 x10).bind fun t40 => some (decide ((t40.1, t40.2.1, t40.2.2) = (t13, t16, a3))) else some false)).bind fun y44 => (if y44 = true then some a0 else ((slc a0 0 x10).bind fun t49 => (slc a0 x10 (a0.length : Int)).bind fun t56 => if (([] : List (Int × Int × Int)) ++ t49).length < 1099511627776 then if ((([] : List (Int × Int × Int)) ++ t49) ++ ([(t13, t16, a3)] : List (Int × Int × Int))).length < 1099511627776 then if (((([] : List (Int × Int × Int)) ++ t49) ++ ([(t13, t16, a3)] : List (Int × Int × Int))) ++ t56).length < 1099511627776 then some (((([] : List (Int × Int × Int)) ++ t49) ++ ([(t13, t16, a3)] : List (Int × Int × Int))) ++ t56) else none else none else none).bind fun y8 => some y8)

theorem spec_l2Put.ok {k : Nat}  {a0 : List (Int × Int × Int)} {a1 : Int} {a2 : Int} {a3 : Int} {r0 : List (Int × Int × Int)} (h : spec_l2Put.f k a0 a1 a2 a3 = some r0) (w : World) {va0 : Value} {Sa0 : Nat → Prop} (hl_va0 : SlLen va0 a0.length) (hw0 : Sep w (footM [R.sl Sa0 va0 a0]) [R.sl Sa0 va0 a0] w) :
    Calls Tryz.prog 74 ([va0, .int .i64 a1, .int .i64 a2, .int .i64 a3] : List Value).toArray w (PostM (footM [R.sl Sa0 va0 a0]) (fun u ns => ∃ (Sr0 : Nat → Prop), SlLen u r0.length ∧ ns = [R.sl Sr0 u r0]) w) := by
  unfold spec_l2Put.f at h
  refine Calls.of_tri (N := 58) Tryz.func74 rfl rfl rfl hw0 ?_
  refine Tri.seq ?_
  refine Tri.reg (l := [0]) rfl ?_
  refine F.q rfl rfl rfl (wanted_none rfl) (r_assign rfl) ?_
  refine F.nil ?_
  refine Nrm.seq ?_
  refine Tri.seq ?_
  obtain ⟨t13, h13, h⟩ := bind_some h
  obtain ⟨t16, h16, h⟩ := bind_some h
  refine Tri.reg (l := [0, 1, 2, 3, 4, 5, 6, 7, 8, 9]) rfl ?_
  refine F.q rfl rfl rfl (wanted_none rfl) (r_move rfl) ?_
  refine F.q rfl rfl rfl (wanted_none rfl) (r_move rfl) ?_
  refine F.qc rfl rfl rfl (wanted_none rfl) (q_callF (xs := _) rfl ok85 rfl rfl (fun w hw => spec_l1Least.ok h13 w )) ?_
  refine F.q rfl rfl rfl (wanted_none rfl) (r_move rfl) ?_
  refine F.q rfl rfl rfl (wanted_none rfl) (r_move rfl) ?_
  refine F.qc rfl rfl rfl (wanted_none rfl) (q_callF (xs := _) rfl ok55 rfl rfl (fun w hw => spec_l1Most.ok h16 w )) ?_
  refine F.q rfl rfl rfl (wanted_none rfl) (r_move rfl) ?_
  refine F.q rfl rfl rfl (wanted_none rfl) (r_buildA (qs := [(0, [.int .i64 t13]), (1, [.int .i64 t16]), (2, [.int .i64 a3])]) (cs := [.int .i64 t13, .int .i64 t16, .int .i64 a3]) Tryz.underlying72 ti3 ti72 rfl (.cons rfl rfl (Nat.le_of_ble_eq_true rfl) (.cons rfl rfl (Nat.le_of_ble_eq_true rfl) (.cons rfl rfl (Nat.le_of_ble_eq_true rfl) .nil))) rfl rfl) ?_
  refine F.m rfl rfl rfl (wanted_none rfl) (m_alloc ti72) ?_
  rintro _ _ ⟨b9_1, rfl, rfl⟩
  refine F.ef0 rfl rfl (wanted_none rfl) (d_storeG0 (i := 0) (cs2 := [.int .i64 t13, .int .i64 t16, .int .i64 a3]) ti72 rfl rfl rfl rfl rfl (Nat.le_of_ble_eq_true rfl) (lf_cons rfl (lf_cons rfl (lf_cons rfl lf_nil)))) ?_
  rintro _ _ ⟨rfl, rfl⟩
  refine F.nil ?_
  refine Nrm.seq ?_
  refine Tri.seq ?_
  refine Tri.reg (l := [0]) rfl ?_
  refine F.q rfl rfl rfl (wanted_none rfl) (r_assign rfl) ?_
  refine F.nil ?_
  refine Nrm.seq ?_
  refine Tri.seq ?_
  obtain ⟨x10, hE_1, h⟩ := bind_some h
  refine Tri.block ?_
  refine Tri.only [0, 9, 10] rfl ?_
  refine Tri.pick [0, 1] rfl rfl ?_
  refine Tri.rounds (fun n e' C' => ∃ (x10' : Int), spec_l2Put.l0 k a0 a3 t13 t16 n x10' = some x10 ∧ e' = [(0, va0), (9, .pointer (some ⟨b9_1, 0, none⟩)), (10, .int .i64 x10')] ∧ C' = Sep w (footM [R.sl Sa0 va0 a0]) [R.box b9_1 72 [.int .i64 t13, .int .i64 t16, .int .i64 a3], R.sl Sa0 va0 (a0 : List (Int × Int × Int))]) k ?_ ?_ ?_
  · exact ⟨0, hE_1, rfl, rfl⟩
  · rintro _ _ ⟨_, hE_1, _⟩
    rw [spec_l2Put.l0.eq_1] at hE_1; cases hE_1
  · rintro n_1 _ _ ⟨x10, hE_1, rfl, rfl⟩ ih_1
    rw [spec_l2Put.l0.eq_2] at hE_1
    refine Tri.seq ?_
    refine Tri.seq ?_
    obtain ⟨y30, hE_2, hE_1⟩ := bind_some hE_1
    refine Tri.cut (fun e' C' => e' = [(0, va0), (9, .pointer (some ⟨b9_1, 0, none⟩)), (10, .int .i64 x10), (30, .bool y30)] ∧ C' = Sep w (footM [R.sl Sa0 va0 a0]) [R.box b9_1 72 [.int .i64 t13, .int .i64 t16, .int .i64 a3], R.sl Sa0 va0 (a0 : List (Int × Int × Int))]) ?_ (fun hj_1 => ?_)
    · rintro _ _ ⟨rfl, rfl⟩
      refine Nrm.seq ?_
      refine Tri.cond (b := y30) rfl (fun g_1 => ?_) (fun g_1 => ?_)
      · replace hE_1 := if_tt g_1 hE_1
        refine Tri.skip ?_
        refine Nrm.seq ?_
        refine Tri.block ?_
        refine Tri.reg (l := [0, 1, 2]) rfl ?_
        refine F.q rfl rfl rfl (wanted_none rfl) (r_move rfl) ?_
        refine F.q rfl rfl rfl (wanted_none rfl) (r_add rfl rfl) ?_
        refine F.q rfl rfl rfl (wanted_none rfl) (r_assign rfl) ?_
        refine F.nil ?_
        refine Nrm.block ?_
        refine Nrm.round ?_
        refine Rnd.only [0, 9, 10] rfl ?_
        refine Rnd.pick [0, 1] rfl rfl ?_
        exact ih_1 _ _ ⟨w64 (x10 + 1), hE_1, rfl, rfl⟩
      · replace hE_1 := if_ff g_1 hE_1
        refine Tri.exit ?_
        refine Exi.then ?_
        refine Exi.then ?_
        refine Exi.same ?_
        cases hE_1
        refine Nrm.seq ?_
        refine Tri.seq ?_
        refine Tri.seq ?_
        obtain ⟨y44, hE_3, h⟩ := bind_some h
        refine Tri.cut (fun e' C' => e' = [(0, va0), (9, .pointer (some ⟨b9_1, 0, none⟩)), (10, .int .i64 x10), (44, .bool y44)] ∧ C' = Sep w (footM [R.sl Sa0 va0 a0]) [R.box b9_1 72 [.int .i64 t13, .int .i64 t16, .int .i64 a3], R.sl Sa0 va0 (a0 : List (Int × Int × Int))]) ?_ (fun hj_2 => ?_)
        · rintro _ _ ⟨rfl, rfl⟩
          refine Nrm.seq ?_
          refine Tri.cond (b := y44) rfl (fun g_2 => ?_) (fun g_2 => ?_)
          · replace h := if_tt g_2 h
            refine Tri.seq ?_
            refine Tri.reg (l := [0, 1]) rfl ?_
            refine F.q rfl rfl rfl (wanted_none rfl) (r_move rfl) ?_
            refine F.q rfl rfl rfl (wanted_none rfl) (r_assign rfl) ?_
            refine F.nil ?_
            refine Nrm.seq ?_
            refine Tri.ret ?_
            refine Rtn.then ?_
            cases h
            exact Rtn.body (.tmp rfl .nil) (fun w hw => ⟨_, _, rfl, ⟨Sa0, hl_va0, rfl⟩, Sep.pick (is := [1]) rfl rfl hw⟩)
          · replace h := if_ff g_2 h
            refine Tri.skip ?_
            refine Nrm.seq ?_
            refine Tri.seq ?_
            obtain ⟨y8, hE_4, h⟩ := bind_some h
            refine Tri.cut (fun e' C' => ∃ (v8_1 : Value) (S8_1 : Nat → Prop), SlLen v8_1 (y8).length ∧ e' = [(8, v8_1)] ∧ C' = Sep w (footM [R.sl Sa0 va0 a0]) [R.sl S8_1 v8_1 (y8 : List (Int × Int × Int))]) ?_ (fun hj_3 => ?_)
            · rintro _ _ ⟨v8_1, S8_1, hl_v8_1, rfl, rfl⟩
              refine Nrm.seq ?_
              refine Tri.ret ?_
              cases h
              exact Rtn.body (.tmp rfl .nil) (fun w hw => ⟨_, _, rfl, ⟨S8_1, hl_v8_1, rfl⟩, Sep.pick (is := [0]) rfl rfl hw⟩)
            · obtain ⟨t49, h49, hE_4⟩ := bind_some hE_4
              obtain ⟨t56, h56, hE_4⟩ := bind_some hE_4
              obtain ⟨hs50, hE_4⟩ := ck hE_4
              obtain ⟨hs53, hE_4⟩ := ck hE_4
              obtain ⟨hs57, hE_4⟩ := ck hE_4
              refine Tri.drawT mixedT Sep.up [1, 2, 3, 5, 8, 9, 10, 0, 4, 6, 7] [11, 12] (.q 1 (.q 2 (.q 3 (.q 5 (.q 8 (.q 9 (.q 10 (.alt 0 (.alt 4 (.alt 6 (.alt 7 .nil .stop) .stop) (.alt 6 (.alt 4 (.alt 7 .nil .stop) .stop) .stop)) (.alt 6 (.alt 0 (.alt 4 (.alt 7 .nil .stop) .stop) .stop) .stop))))))))) (by kernel_rfl) ?_
              refine T.q rfl rfl rfl (wanted_none rfl) (r_move rfl) ?_
              refine T.q rfl rfl rfl (wanted_none rfl) (r_move rfl) ?_
              refine T.q rfl rfl rfl (wanted_none rfl) (r_sliceH Tryz.underlying22 ti72 rfl (rd_sl (i := 1) rfl) rfl h49) ?_
              refine T.q rfl rfl rfl (wanted_none rfl) (r_loadA ta72 ti72 rfl rfl (fun w hw => (box_cells (i := 0) rfl w hw))) ?_
              refine T.q rfl rfl rfl (wanted_none rfl) (r_move rfl) ?_
              refine T.q rfl rfl rfl (wanted_none rfl) (r_move rfl) ?_
              refine T.q rfl rfl rfl (wanted_none rfl) (r_sliceL Tryz.underlying22 ti72 rfl (rd_sl (i := 1) rfl) rfl h56) ?_
              refine T.ef rfl rfl rfl (wanted_none rfl) (Makes.does (m_build0 (α := Int × Int × Int) Tryz.underlying22 ti72)) (by rintro v46_2 _ ⟨S46_2, hl_v46_2, rfl⟩; exact upd rfl [1, 2] rfl rfl) ?_ ?_
              · rintro v46_2 _ ⟨S46_2, hl_v46_2, rfl⟩
                refine T.ef rfl rfl rfl (wanted_none rfl) (d_append (i := 0) Tryz.underlying22 Tryz.underlying22 ti72 rfl (by decide) rfl rfl rfl (fun w hw => rd_slc ((rd_sl (i := 2) rfl) w hw) h49) hs50) (by rintro v50_2 _ ⟨S50_2, rfl, hl_v50_2⟩; exact upd rfl [1, 2] rfl rfl) ?_ ?_
                · rintro v50_2 _ ⟨S50_2, rfl, hl_v50_2⟩
                  refine T.ef rfl rfl rfl (wanted_none rfl) (Makes.does (m_buildF (l := ([(t13, t16, a3)] : List (Int × Int × Int))) Tryz.underlying22 ti72 rfl rfl rfl rfl rfl)) (by rintro v52_2 _ ⟨S52_2, hl_v52_2, rfl⟩; exact upd rfl [2, 3] rfl rfl) ?_ ?_
                  · rintro v52_2 _ ⟨S52_2, hl_v52_2, rfl⟩
                    refine T.ef rfl rfl rfl (wanted_none rfl) (d_append (i := 1) Tryz.underlying22 Tryz.underlying22 ti72 rfl (by decide) rfl rfl rfl (rd_sl (i := 0) rfl) hs53) (by rintro v53_2 _ ⟨S53_2, rfl, hl_v53_2⟩; exact upd rfl [2, 3] rfl rfl) ?_ ?_
                    · rintro v53_2 _ ⟨S53_2, rfl, hl_v53_2⟩
                      refine T.nil ?_
                      refine F.ef rfl rfl rfl (wanted_none rfl) (d_append (i := 1) Tryz.underlying22 Tryz.underlying22 ti72 rfl (by decide) rfl rfl rfl (fun w hw => rd_slc ((rd_sl (i := 3) rfl) w hw) h56) hs57) ?_
                      rintro v57_2 _ ⟨S57_2, rfl, hl_v57_2⟩
                      refine F.q rfl rfl rfl (wanted_none rfl) (r_assign rfl) ?_
                      refine F.nil ?_
                      cases hE_4
                      refine Nrm.only [8] rfl ?_
                      refine Nrm.pick [1] rfl rfl ?_
                      exact hj_3 _ _ ⟨v57_2, S57_2, hl_v57_2, rfl, rfl⟩
                    exact T.stop
                  exact T.stop
                · refine T.ef rfl rfl rfl (wanted_none rfl) (Makes.does (m_buildF (l := ([(t13, t16, a3)] : List (Int × Int × Int))) Tryz.underlying22 ti72 rfl rfl rfl rfl rfl)) (by rintro v52_3 _ ⟨S52_3, hl_v52_3, rfl⟩; exact upd rfl [2, 3] rfl rfl) ?_ ?_
                  · rintro v52_3 _ ⟨S52_3, hl_v52_3, rfl⟩
                    refine T.ef rfl rfl rfl (wanted_none rfl) (d_append (i := 1) Tryz.underlying22 Tryz.underlying22 ti72 rfl (by decide) rfl rfl rfl (fun w hw => rd_slc ((rd_sl (i := 3) rfl) w hw) h49) hs50) (by rintro v50_3 _ ⟨S50_3, rfl, hl_v50_3⟩; exact upd rfl [2, 3] rfl rfl) ?_ ?_
                    · rintro v50_3 _ ⟨S50_3, rfl, hl_v50_3⟩
                      refine T.ef rfl rfl rfl (wanted_none rfl) (d_append (i := 1) Tryz.underlying22 Tryz.underlying22 ti72 rfl (by decide) rfl rfl rfl (rd_sl (i := 0) rfl) hs53) (by rintro v53_3 _ ⟨S53_3, rfl, hl_v53_3⟩; exact upd rfl [2, 3] rfl rfl) ?_ ?_
                      · rintro v53_3 _ ⟨S53_3, rfl, hl_v53_3⟩
                        refine T.nil ?_
                        refine F.ef rfl rfl rfl (wanted_none rfl) (d_append (i := 1) Tryz.underlying22 Tryz.underlying22 ti72 rfl (by decide) rfl rfl rfl (fun w hw => rd_slc ((rd_sl (i := 3) rfl) w hw) h56) hs57) ?_
                        rintro v57_3 _ ⟨S57_3, rfl, hl_v57_3⟩
                        refine F.q rfl rfl rfl (wanted_none rfl) (r_assign rfl) ?_
                        refine F.nil ?_
                        cases hE_4
                        refine Nrm.only [8] rfl ?_
                        refine Nrm.pick [1] rfl rfl ?_
                        exact hj_3 _ _ ⟨v57_3, S57_3, hl_v57_3, rfl, rfl⟩
                      exact T.stop
                    exact T.stop
                  exact T.stop
              · refine T.ef rfl rfl rfl (wanted_none rfl) (Makes.does (m_buildF (l := ([(t13, t16, a3)] : List (Int × Int × Int))) Tryz.underlying22 ti72 rfl rfl rfl rfl rfl)) (by rintro v52_4 _ ⟨S52_4, hl_v52_4, rfl⟩; exact upd rfl [1, 2] rfl rfl) ?_ ?_
                · rintro v52_4 _ ⟨S52_4, hl_v52_4, rfl⟩
                  refine T.ef rfl rfl rfl (wanted_none rfl) (Makes.does (m_build0 (α := Int × Int × Int) Tryz.underlying22 ti72)) (by rintro v46_3 _ ⟨S46_3, hl_v46_3, rfl⟩; exact upd rfl [2, 3] rfl rfl) ?_ ?_
                  · rintro v46_3 _ ⟨S46_3, hl_v46_3, rfl⟩
                    refine T.ef rfl rfl rfl (wanted_none rfl) (d_append (i := 0) Tryz.underlying22 Tryz.underlying22 ti72 rfl (by decide) rfl rfl rfl (fun w hw => rd_slc ((rd_sl (i := 3) rfl) w hw) h49) hs50) (by rintro v50_4 _ ⟨S50_4, rfl, hl_v50_4⟩; exact upd rfl [2, 3] rfl rfl) ?_ ?_
                    · rintro v50_4 _ ⟨S50_4, rfl, hl_v50_4⟩
                      refine T.ef rfl rfl rfl (wanted_none rfl) (d_append (i := 0) Tryz.underlying22 Tryz.underlying22 ti72 rfl (by decide) rfl rfl rfl (rd_sl (i := 1) rfl) hs53) (by rintro v53_4 _ ⟨S53_4, rfl, hl_v53_4⟩; exact upd rfl [2, 3] rfl rfl) ?_ ?_
                      · rintro v53_4 _ ⟨S53_4, rfl, hl_v53_4⟩
                        refine T.nil ?_
                        refine F.ef rfl rfl rfl (wanted_none rfl) (d_append (i := 0) Tryz.underlying22 Tryz.underlying22 ti72 rfl (by decide) rfl rfl rfl (fun w hw => rd_slc ((rd_sl (i := 3) rfl) w hw) h56) hs57) ?_
                        rintro v57_4 _ ⟨S57_4, rfl, hl_v57_4⟩
                        refine F.q rfl rfl rfl (wanted_none rfl) (r_assign rfl) ?_
                        refine F.nil ?_
                        cases hE_4
                        refine Nrm.only [8] rfl ?_
                        refine Nrm.pick [0] rfl rfl ?_
                        exact hj_3 _ _ ⟨v57_4, S57_4, hl_v57_4, rfl, rfl⟩
                      exact T.stop
                    exact T.stop
                  exact T.stop
                exact T.stop
        · rcases Bool.eq_false_or_eq_true (decide (x10 < (a0.length : Int))) with g37 | g37
          · replace hE_3 := if_tt g37 hE_3
            obtain ⟨t40, h40, hE_3⟩ := bind_some hE_3
            refine Tri.drawA mixedT Sep.up [(0, true), (1, true), (2, true), (3, true), (4, true), (5, true), (6, true), (7, true), (8, true), (9, true), (10, true), (11, true)] [] (by kernel_rfl) ?_
            refine S.q rfl rfl rfl (wanted_none rfl) (r_move rfl) ?_
            refine S.q rfl rfl rfl (wanted_none rfl) (r_move rfl) ?_
            refine S.q rfl rfl rfl (wanted_none rfl) (r_len Tryz.underlying22 rfl hl_va0) ?_
            refine S.q rfl rfl rfl (wanted_none rfl) (r_lss rfl rfl) ?_
            refine S.q rfl rfl rfl (wanted_none rfl) (r_move rfl) ?_
            refine S.q rfl rfl rfl (wg rfl rfl rfl g37) (r_move rfl) ?_
            refine S.q rfl rfl rfl (wg rfl rfl rfl g37) (r_move rfl) ?_
            refine S.q rfl rfl rfl (wg rfl rfl rfl g37) (r_indexAddrS Tryz.underlying22 ti72 rfl hl_va0 rfl (rdl_some h40).1 (rdl_some h40).2.1) ?_
            refine S.q rfl rfl rfl (wg rfl rfl rfl g37) (r_loadA ta72 ti72 rfl rfl (fun w hw => (Rd.flat ((rd_sl (i := 1) rfl) w hw) (rdl_some h40).2.2))) ?_
            refine S.q rfl rfl rfl (wg rfl rfl rfl g37) (r_loadA ta72 ti72 rfl rfl (fun w hw => (box_cells (i := 0) rfl w hw))) ?_
            refine S.q rfl rfl rfl (wg rfl rfl rfl g37) (r_eqlA3 Tryz.underlying72 Tryz.underlying3 ti3 ta3 rfl rfl eg72) ?_
            refine S.q rfl rfl rfl (wanted_none rfl) (r_pick rfl rfl g37) ?_
            refine S.nil ?_
            refine F.nil ?_
            cases hE_3
            refine Nrm.only [0, 9, 10, 44] rfl ?_
            refine Nrm.pick [0, 1] rfl rfl ?_
            exact hj_2 _ _ ⟨rfl, rfl⟩
          · replace hE_3 := if_ff g37 hE_3
            refine Tri.drawA mixedT Sep.up [(0, true), (1, true), (2, true), (3, true), (4, true), (5, true), (6, true), (7, true), (8, true), (9, true), (10, true), (11, true)] [] (by kernel_rfl) ?_
            refine S.q rfl rfl rfl (wanted_none rfl) (r_move rfl) ?_
            refine S.q rfl rfl rfl (wanted_none rfl) (r_move rfl) ?_
            refine S.q rfl rfl rfl (wanted_none rfl) (r_len Tryz.underlying22 rfl hl_va0) ?_
            refine S.q rfl rfl rfl (wanted_none rfl) (r_lss rfl rfl) ?_
            refine S.q rfl rfl rfl (wanted_none rfl) (r_move rfl) ?_
            refine S.sk rfl rfl rfl (wf rfl rfl rfl g37) ?_
            refine S.sk rfl rfl rfl (wf rfl rfl rfl g37) ?_
            refine S.sk rfl rfl rfl (wf rfl rfl rfl g37) ?_
            refine S.sk rfl rfl rfl (wf rfl rfl rfl g37) ?_
            refine S.sk rfl rfl rfl (wf rfl rfl rfl g37) ?_
            refine S.sk rfl rfl rfl (wf rfl rfl rfl g37) ?_
            refine S.q rfl rfl rfl (wanted_none rfl) (r_pickf rfl rfl g37) ?_
            refine S.nil ?_
            refine F.nil ?_
            cases hE_3
            refine Nrm.only [0, 9, 10, 44] rfl ?_
            refine Nrm.pick [0, 1] rfl rfl ?_
            exact hj_2 _ _ ⟨rfl, rfl⟩
    · rcases Bool.eq_false_or_eq_true (decide (x10 < (a0.length : Int))) with g23 | g23
      · replace hE_2 := if_tt g23 hE_2
        obtain ⟨t26, h26, hE_2⟩ := bind_some hE_2
        obtain ⟨t29, h29, hE_2⟩ := bind_some hE_2
        refine Tri.drawA mixedT Sep.up [(0, true), (1, true), (2, true), (3, true), (4, true), (5, true), (6, true), (7, true), (8, true), (9, true), (10, true), (11, true)] [] (by kernel_rfl) ?_
        refine S.q rfl rfl rfl (wanted_none rfl) (r_move rfl) ?_
        refine S.q rfl rfl rfl (wanted_none rfl) (r_move rfl) ?_
        refine S.q rfl rfl rfl (wanted_none rfl) (r_len Tryz.underlying22 rfl hl_va0) ?_
        refine S.q rfl rfl rfl (wanted_none rfl) (r_lss rfl rfl) ?_
        refine S.q rfl rfl rfl (wanted_none rfl) (r_move rfl) ?_
        refine S.q rfl rfl rfl (wg rfl rfl rfl g23) (r_move rfl) ?_
        refine S.q rfl rfl rfl (wg rfl rfl rfl g23) (r_move rfl) ?_
        refine S.q rfl rfl rfl (wg rfl rfl rfl g23) (r_indexAddrS Tryz.underlying22 ti72 rfl hl_va0 rfl (rdl_some h26).1 (rdl_some h26).2.1) ?_
        refine S.q rfl rfl rfl (wg rfl rfl rfl g23) (r_loadA ta72 ti72 rfl rfl (fun w hw => (Rd.flat ((rd_sl (i := 1) rfl) w hw) (rdl_some h26).2.2))) ?_
        refine S.q rfl rfl rfl (wg rfl rfl rfl g23) (r_loadA ta72 ti72 rfl rfl (fun w hw => (box_cells (i := 0) rfl w hw))) ?_
        refine S.qc rfl rfl rfl (wg rfl rfl rfl g23) (q_callF (xs := _) rfl ok53 rfl rfl (fun w hw => spec_l2Before.ok h29 w )) ?_
        refine S.q rfl rfl rfl (wanted_none rfl) (r_pick rfl rfl g23) ?_
        refine S.nil ?_
        refine F.nil ?_
        cases hE_2
        refine Nrm.only [0, 9, 10, 30] rfl ?_
        refine Nrm.pick [0, 1] rfl rfl ?_
        exact hj_1 _ _ ⟨rfl, rfl⟩
      · replace hE_2 := if_ff g23 hE_2
        refine Tri.drawA mixedT Sep.up [(0, true), (1, true), (2, true), (3, true), (4, true), (5, true), (6, true), (7, true), (8, true), (9, true), (10, true), (11, true)] [] (by kernel_rfl) ?_
        refine S.q rfl rfl rfl (wanted_none rfl) (r_move rfl) ?_
        refine S.q rfl rfl rfl (wanted_none rfl) (r_move rfl) ?_
        refine S.q rfl rfl rfl (wanted_none rfl) (r_len Tryz.underlying22 rfl hl_va0) ?_
        refine S.q rfl rfl rfl (wanted_none rfl) (r_lss rfl rfl) ?_
        refine S.q rfl rfl rfl (wanted_none rfl) (r_move rfl) ?_
        refine S.sk rfl rfl rfl (wf rfl rfl rfl g23) ?_
        refine S.sk rfl rfl rfl (wf rfl rfl rfl g23) ?_
        refine S.sk rfl rfl rfl (wf rfl rfl rfl g23) ?_
        refine S.sk rfl rfl rfl (wf rfl rfl rfl g23) ?_
        refine S.sk rfl rfl rfl (wf rfl rfl rfl g23) ?_
        refine S.sk rfl rfl rfl (wf rfl rfl rfl g23) ?_
        refine S.q rfl rfl rfl (wanted_none rfl) (r_pickf rfl rfl g23) ?_
        refine S.nil ?_
        refine F.nil ?_
        cases hE_2
        refine Nrm.only [0, 9, 10, 30] rfl ?_
        refine Nrm.pick [0, 1] rfl rfl ?_
        exact hj_1 _ _ ⟨rfl, rfl⟩

end Go.Proofs

/- loop.example/g01158/spec.l2Kept -/
namespace Go.Proofs
open Go Go.Ga
set_option linter.unusedVariables false
set_option maxRecDepth 100000
set_option maxHeartbeats 4000000
def spec_l2Kept.f (k : Nat) (a0_0 : Int) (a0_1 : List (Int × Int × Int)) (a0_2 : List Int) : Option (Int × (List (Int × Int × Int)) × (List Int) × Bool) := (spec_l2Maze.f k a0_0 a0_1 a0_2).bind fun t5 => (if (!t5) = true then some (0, [], [], false) else some (a0_0, a0_1, a0_2, true))

theorem spec_l2Kept.ok {k : Nat}  {a0_0 : Int} {a0_1 : List (Int × Int × Int)} {a0_2 : List Int} {r0 : Int} {r1 : List (Int × Int × Int)} {r2 : List Int} {r3 : Bool} (h : spec_l2Kept.f k a0_0 a0_1 a0_2 = some (r0, r1, r2, r3)) (w : World) {va0_1 : Value} {Sa0_1 : Nat → Prop} (hl_va0_1 : SlLen va0_1 a0_1.length) {va0_2 : Value} {Sa0_2 : Nat → Prop} (hl_va0_2 : SlLen va0_2 a0_2.length) (hw0 : Sep w (footM [R.sl Sa0_1 va0_1 a0_1, R.sl Sa0_2 va0_2 a0_2]) [R.sl Sa0_1 va0_1 a0_1, R.sl Sa0_2 va0_2 a0_2] w) :
    Calls Tryz.prog 75 ([.agg ([.int .i64 a0_0, va0_1, va0_2].toArray)] : List Value).toArray w (PostM (footM [R.sl Sa0_1 va0_1 a0_1, R.sl Sa0_2 va0_2 a0_2]) (fun u ns => ∃ (ur1 : Value) (Sr1 : Nat → Prop) (ur2 : Value) (Sr2 : Nat → Prop), u = .tuple #[.agg [.int .i64 r0, ur1, ur2].toArray, .bool r3] ∧ SlLen ur1 r1.length ∧ SlLen ur2 r2.length ∧ ns = [R.sl Sr1 ur1 r1, R.sl Sr2 ur2 r2]) w) := by
  unfold spec_l2Kept.f at h
  refine Calls.of_tri (N := 9) Tryz.func75 rfl rfl rfl hw0 ?_
  refine Tri.seq ?_
  refine Tri.reg (l := [0, 1, 2]) rfl ?_
  refine F.m rfl rfl rfl (wanted_none rfl) (m_boxG rfl rfl) ?_
  rintro _ _ ⟨b1_1, rfl, rfl⟩
  refine F.m rfl rfl rfl (wanted_none rfl) (m_alloc ti31) ?_
  rintro _ _ ⟨b2_1, rfl, rfl⟩
  refine F.q rfl rfl rfl (wanted_none rfl) (r_assign rfl) ?_
  refine F.nil ?_
  refine Nrm.seq ?_
  refine Tri.seq ?_
  refine Tri.seq ?_
  obtain ⟨t5, h5, h⟩ := bind_some h
  refine Tri.reg (l := [0, 1, 2]) rfl ?_
  refine F.q rfl rfl rfl (wanted_none rfl) (r_loadA ta31 ti31 rfl rfl (fun w hw => (box_cells (i := 1) rfl w hw))) ?_
  refine F.qc rfl rfl rfl (wanted_none rfl) (q_callF (xs := _) rfl ok34 rfl rfl (fun w hw => spec_l2Maze.ok h5 w ((rd_sl (i := 2) rfl) w hw) ((rd_sl (i := 3) rfl) w hw))) ?_
  refine F.q rfl rfl rfl (wanted_none rfl) (r_not rfl) ?_
  refine F.nil ?_
  refine Nrm.seq ?_
  refine Tri.cond (b := !t5) rfl (fun g_1 => ?_) (fun g_1 => ?_)
  · replace h := if_tt g_1 h
    refine Tri.seq ?_
    refine Tri.reg (l := [0, 1, 2]) rfl ?_
    refine F.q rfl rfl rfl (wanted_none rfl) (r_build (pl := [(0, 1), (1, 1), (2, 1)]) (qs := []) (cs := [.int .i64 0, .slice none 0 0, .slice none 0 0]) (by kernel_rfl) ti31 rfl .nil rfl rfl) ?_
    refine F.ef0 rfl rfl (wanted_none rfl) (d_storeG0 (i := 0) (cs2 := [.int .i64 0, .slice none 0 0, .slice none 0 0]) ti31 rfl rfl rfl rfl rfl (Nat.le_of_ble_eq_true rfl) (lf_cons rfl (lf_cons rfl (lf_cons rfl lf_nil)))) ?_
    rintro _ _ ⟨rfl, rfl⟩
    refine F.q rfl rfl rfl (wanted_none rfl) (r_assign rfl) ?_
    refine F.nil ?_
    refine Nrm.seq ?_
    refine Tri.ret ?_
    refine Rtn.then ?_
    cases h
    exact Rtn.body (.cell rfl ta31 ti31 rfl (fun _ hw => box_cells (i := 0) rfl _ hw) (.tmp rfl .nil)) (fun w hw => ⟨_, _, rfl, ⟨.slice none 0 0, fun _ => False, .slice none 0 0, fun _ => False, rfl, len_nil, len_nil, rfl⟩, Sep.pick (is := [0, 1]) rfl rfl hw.pushNil.pushNil⟩)
  · replace h := if_ff g_1 h
    refine Tri.skip ?_
    refine Nrm.seq ?_
    refine Tri.seq ?_
    refine Tri.reg (l := [0, 1, 2]) rfl ?_
    refine F.q rfl rfl rfl (wanted_none rfl) (r_loadA ta31 ti31 rfl rfl (fun w hw => (box_cells (i := 1) rfl w hw))) ?_
    refine F.ef0 rfl rfl (wanted_none rfl) (d_storeG0 (i := 0) (cs2 := [.int .i64 a0_0, va0_1, va0_2]) ti31 rfl rfl rfl rfl rfl (Nat.le_of_ble_eq_true rfl) (lf_cons rfl (lf_cons (sl_leaf hl_va0_1) (lf_cons (sl_leaf hl_va0_2) lf_nil)))) ?_
    rintro _ _ ⟨rfl, rfl⟩
    refine F.q rfl rfl rfl (wanted_none rfl) (r_assign rfl) ?_
    refine F.nil ?_
    refine Nrm.seq ?_
    refine Tri.ret ?_
    cases h
    exact Rtn.body (.cell rfl ta31 ti31 rfl (fun _ hw => box_cells (i := 0) rfl _ hw) (.tmp rfl .nil)) (fun w hw => ⟨_, _, rfl, ⟨va0_1, Sa0_1, va0_2, Sa0_2, rfl, hl_va0_1, hl_va0_2, rfl⟩, Sep.pick (is := [2, 3]) rfl rfl hw⟩)

end Go.Proofs

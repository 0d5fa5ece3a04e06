/- A part of the proof of FnExactTurnDoor: what the functions of the program compute, walked on the model. No condition. -/
import Derived.Shelf.SlGeneric
import Derived.Shelf.Slices.Empties
import Derived.Shelf.Slices.SearchI
import Derived.Shelf.Spec.SlicesInsert
import Derived.Shelf.Spec.SlicesInsertGrow
import Derived.Test.YtoigeobocefoiaaChecked
import Derived.Test.YtoigeobocefoiaaFnExactTurnDoorA
import Derived.Test.YtoigeobocefoiaaFnExactTurnDoorB
set_option linter.unusedSimpArgs false
namespace Go.Proofs
open Go Go.Ga Go.Ga.Rp Go.Ga.Flat
theorem mixedT : Try.prog.follows .mixedOrders = true := by kernel_rfl
theorem ok10 : CallOk Try.prog 10 := .of Try.func10 rfl (by decide)
theorem ok11 : CallOk Try.prog 11 := .of Try.func11 rfl (by decide)
theorem ok12 : CallOk Try.prog 12 := .of Try.func12 rfl (by decide)
theorem ok13 : CallOk Try.prog 13 := .of Try.func13 rfl (by decide)
theorem ok14 : CallOk Try.prog 14 := .of Try.func14 rfl (by decide)
theorem ok15 : CallOk Try.prog 15 := .of Try.func15 rfl (by decide)
theorem ok16 : CallOk Try.prog 16 := .of Try.func16 rfl (by decide)
theorem ok17 : CallOk Try.prog 17 := .of Try.func17 rfl (by decide)
theorem ok18 : CallOk Try.prog 18 := .of Try.func18 rfl (by decide)
theorem ok19 : CallOk Try.prog 19 := .of Try.func19 rfl (by decide)
theorem ok20 : CallOk Try.prog 20 := .of Try.func20 rfl (by decide)
theorem ok21 : CallOk Try.prog 21 := .of Try.func21 rfl (by decide)
theorem ok22 : CallOk Try.prog 22 := .of Try.func22 rfl (by decide)
theorem ok23 : CallOk Try.prog 23 := .of Try.func23 rfl (by decide)
theorem ok24 : CallOk Try.prog 24 := .of Try.func24 rfl (by decide)
theorem ok25 : CallOk Try.prog 25 := .of Try.func25 rfl (by decide)
theorem ok26 : CallOk Try.prog 26 := .of Try.func26 rfl (by decide)
theorem ok27 : CallOk Try.prog 27 := .of Try.func27 rfl (by decide)
theorem ok28 : CallOk Try.prog 28 := .of Try.func28 rfl (by decide)
theorem ok29 : CallOk Try.prog 29 := .of Try.func29 rfl (by decide)
theorem ok30 : CallOk Try.prog 30 := .of Try.func30 rfl (by decide)
theorem ok31 : CallOk Try.prog 31 := .of Try.func31 rfl (by decide)
theorem ok32 : CallOk Try.prog 32 := .of Try.func32 rfl (by decide)
theorem ok33 : CallOk Try.prog 33 := .of Try.func33 rfl (by decide)
theorem ok34 : CallOk Try.prog 34 := .of Try.func34 rfl (by decide)
theorem ok35 : CallOk Try.prog 35 := .of Try.func35 rfl (by decide)
theorem ok36 : CallOk Try.prog 36 := .of Try.func36 rfl (by decide)
theorem ok37 : CallOk Try.prog 37 := .of Try.func37 rfl (by decide)
theorem ok4 : CallOk Try.prog 4 := .of Try.func4 rfl (by decide)
theorem ok42 : CallOk Try.prog 42 := .of Try.func42 rfl (by decide)
theorem ok43 : CallOk Try.prog 43 := .of Try.func43 rfl (by decide)
theorem ok44 : CallOk Try.prog 44 := .of Try.func44 rfl (by decide)
theorem ok45 : CallOk Try.prog 45 := .of Try.func45 rfl (by decide)
theorem ok46 : CallOk Try.prog 46 := .of Try.func46 rfl (by decide)
theorem ok47 : CallOk Try.prog 47 := .of Try.func47 rfl (by decide)
theorem ok48 : CallOk Try.prog 48 := .of Try.func48 rfl (by decide)
theorem ok49 : CallOk Try.prog 49 := .of Try.func49 rfl (by decide)
theorem ok5 : CallOk Try.prog 5 := .of Try.func5 rfl (by decide)
theorem ok50 : CallOk Try.prog 50 := .of Try.func50 rfl (by decide)
theorem ok51 : CallOk Try.prog 51 := .of Try.func51 rfl (by decide)
theorem ok52 : CallOk Try.prog 52 := .of Try.func52 rfl (by decide)
theorem ok53 : CallOk Try.prog 53 := .of Try.func53 rfl (by decide)
theorem ok55 : CallOk Try.prog 55 := .of Try.func55 rfl (by decide)
theorem ok56 : CallOk Try.prog 56 := .of Try.func56 rfl (by decide)
theorem ok57 : CallOk Try.prog 57 := .of Try.func57 rfl (by decide)
theorem ok58 : CallOk Try.prog 58 := .of Try.func58 rfl (by decide)
theorem ok6 : CallOk Try.prog 6 := .of Try.func6 rfl (by decide)
theorem ok7 : CallOk Try.prog 7 := .of Try.func7 rfl (by decide)
theorem ok8 : CallOk Try.prog 8 := .of Try.func8 rfl (by decide)
theorem ok9 : CallOk Try.prog 9 := .of Try.func9 rfl (by decide)
theorem ta22 : TAgg Try.prog 22 false := .of (by kernel_rfl)
theorem ta23 : TAgg Try.prog 23 false := .of (by kernel_rfl)
theorem ta25 : TAgg Try.prog 25 true := .of (by kernel_rfl)
theorem ta27 : TAgg Try.prog 27 true := .of (by kernel_rfl)
theorem ta29 : TAgg Try.prog 29 true := .of (by kernel_rfl)
theorem ta3 : TAgg Try.prog 3 false := .of (by kernel_rfl)
theorem ta31 : TAgg Try.prog 31 true := .of (by kernel_rfl)
theorem ta61 : TAgg Try.prog 61 true := .of (by kernel_rfl)
theorem tf25_0 : TField Try.prog 25 0 0 := .of (k := 0) (by kernel_rfl)
theorem tf25_1 : TField Try.prog 25 1 1 := .of (k := 0) (by kernel_rfl)
theorem tf25_2 : TField Try.prog 25 2 2 := .of (k := 0) (by kernel_rfl)
theorem tf27_0 : TField Try.prog 27 0 0 := .of (k := 2) (by kernel_rfl)
theorem tf27_1 : TField Try.prog 27 1 3 := .of (k := 0) (by kernel_rfl)
theorem tf29_0 : TField Try.prog 29 0 0 := .of (k := 0) (by kernel_rfl)
theorem tf29_1 : TField Try.prog 29 1 1 := .of (k := 0) (by kernel_rfl)
theorem tf29_2 : TField Try.prog 29 2 2 := .of (k := 0) (by kernel_rfl)
theorem tf31_0 : TField Try.prog 31 0 0 := .of (k := 2) (by kernel_rfl)
theorem tf31_1 : TField Try.prog 31 1 3 := .of (k := 0) (by kernel_rfl)
theorem ti22 : TInfo Try.prog 22 1 24 (.slice none 0 0) := .of (by kernel_rfl)
theorem ti23 : TInfo Try.prog 23 1 24 (.slice none 0 0) := .of (by kernel_rfl)
theorem ti25 : TInfo Try.prog 25 3 56 (.agg #[.int .i64 0, .slice none 0 0, .slice none 0 0]) := .of (by kernel_rfl)
theorem ti27 : TInfo Try.prog 27 4 80 (.agg #[.int .i64 0, .slice none 0 0, .slice none 0 0, .slice none 0 0]) := .of (by kernel_rfl)
theorem ti29 : TInfo Try.prog 29 3 56 (.agg #[.int .i64 0, .slice none 0 0, .slice none 0 0]) := .of (by kernel_rfl)
theorem ti3 : TInfo Try.prog 3 1 8 (.int .i64 0) := .of (by kernel_rfl)
theorem ti31 : TInfo Try.prog 31 4 80 (.agg #[.int .i64 0, .slice none 0 0, .slice none 0 0, .slice none 0 0]) := .of (by kernel_rfl)
theorem ti61 : TInfo Try.prog 61 3 24 (.agg #[.int .i64 0, .int .i64 0, .int .i64 0]) := .of (by kernel_rfl)
end Go.Proofs

/- loop.example/g01158/laws.szIntS -/

namespace Go.Proofs
open Go Go.Ga
set_option linter.unusedVariables false
set_option maxRecDepth 100000
set_option maxHeartbeats 4000000
def laws_szIntS.f (k : Nat) (a0 : List Int) (a1 : Int) : Option (Int) := (if (decide ((w64 (a1 - (a0.length : Int))) < 0)) = true then some (-1) else some (w64 (a1 - (a0.length : Int))))

theorem laws_szIntS.ok {k : Nat}  {a0 : List Int} {a1 : Int} {r0 : Int} (h : laws_szIntS.f k a0 a1 = some r0) (w : World) {va0 : Value} (hr_a0 : Rd w va0 a0) :
  Calls Try.prog 12 ([va0,.int .i64 a1] : List Value).toArray w (fun e w'=>e = .returned (.int .i64 r0)∧Ext w w'):=by
 unfold laws_szIntS.f at h
 have hl_va0:=hr_a0.len
 refine Calls.of_tri (N:=12) Try.func12 rfl rfl rfl (Sep.nil (M:=noM)) ?_
 refine Tri.seq (Tri.reg (l:=[0]) rfl ?_)
 refine F.qn rfl (r_assign rfl) (F.nil (Nrm.seq (Tri.seq (Tri.reg (l:=[0,1,2,3,4]) rfl ?_))))
 refine F.qn rfl (r_move rfl) (F.qn rfl (r_move rfl) (F.qn rfl (r_len Try.underlying23 rfl hl_va0) (F.qn rfl (r_sub rfl rfl) (F.qn rfl (r_assign rfl) (F.nil (Nrm.seq (Tri.seq (Tri.seq (Tri.reg (l:=[0,1]) rfl ?_)))))))))
 refine F.qn rfl (r_move rfl) (F.qn rfl (r_lss rfl rfl) (F.nil (Nrm.seq (Tri.cond (b:=decide ((w64 (a1 - (a0.length : Int))) < 0)) rfl (fun g_1=>?_) (fun g_1=>?_)))))
 ·replace h:=if_tt g_1 h
  refine Tri.seq (Tri.reg (l:=[0]) rfl ?_)
  refine F.qn rfl (r_assign rfl) (F.nil (Nrm.seq (Tri.ret ?_)))
  refine Rtn.then ?_
  cases h
  exact Rtn.body (.tmp rfl .nil) (fun w hw=>⟨rfl,hw.ext⟩)
 ·replace h:=if_ff g_1 h
  refine Tri.skip (Nrm.seq (Tri.seq (Tri.reg (l:=[0,1]) rfl ?_)))
  refine F.qn rfl (r_move rfl) (F.qn rfl (r_assign rfl) (F.nil (Nrm.seq (Tri.ret ?_))))
  cases h
  exact Rtn.body (.tmp rfl .nil) (fun w hw=>⟨rfl,hw.ext⟩)


def laws_szIntA3S.f (k : Nat) (a0 : List (Int × Int × Int)) (a1 : Int) : Option (Int) := (if (decide ((w64 (a1 - (a0.length : Int))) < 0)) = true then some (-1) else some (w64 (a1 - (a0.length : Int))))

theorem laws_szIntA3S.ok {k : Nat}  {a0 : List (Int × Int × Int)} {a1 : Int} {r0 : Int} (h : laws_szIntA3S.f k a0 a1 = some r0) (w : World) {va0 : Value} (hr_a0 : Rd w va0 a0) :
  Calls Try.prog 32 ([va0,.int .i64 a1] : List Value).toArray w (fun e w'=>e = .returned (.int .i64 r0)∧Ext w w'):=by
 unfold laws_szIntA3S.f at h
 have hl_va0:=hr_a0.len
 refine Calls.of_tri (N:=12) Try.func32 rfl rfl rfl (Sep.nil (M:=noM)) ?_
 refine Tri.seq (Tri.reg (l:=[0]) rfl ?_)
 refine F.qn rfl (r_assign rfl) (F.nil (Nrm.seq (Tri.seq (Tri.reg (l:=[0,1,2,3,4]) rfl ?_))))
 refine F.qn rfl (r_move rfl) (F.qn rfl (r_move rfl) (F.qn rfl (r_len Try.underlying22 rfl hl_va0) (F.qn rfl (r_sub rfl rfl) (F.qn rfl (r_assign rfl) (F.nil (Nrm.seq (Tri.seq (Tri.seq (Tri.reg (l:=[0,1]) rfl ?_)))))))))
 refine F.qn rfl (r_move rfl) (F.qn rfl (r_lss rfl rfl) (F.nil (Nrm.seq (Tri.cond (b:=decide ((w64 (a1 - (a0.length : Int))) < 0)) rfl (fun g_1=>?_) (fun g_1=>?_)))))
 ·replace h:=if_tt g_1 h
  refine Tri.seq (Tri.reg (l:=[0]) rfl ?_)
  refine F.qn rfl (r_assign rfl) (F.nil (Nrm.seq (Tri.ret ?_)))
  refine Rtn.then ?_
  cases h
  exact Rtn.body (.tmp rfl .nil) (fun w hw=>⟨rfl,hw.ext⟩)
 ·replace h:=if_ff g_1 h
  refine Tri.skip (Nrm.seq (Tri.seq (Tri.reg (l:=[0,1]) rfl ?_)))
  refine F.qn rfl (r_move rfl) (F.qn rfl (r_assign rfl) (F.nil (Nrm.seq (Tri.ret ?_))))
  cases h
  exact Rtn.body (.tmp rfl .nil) (fun w hw=>⟨rfl,hw.ext⟩)


def laws_szMaze.f (k : Nat) (a0_0 : Int) (a0_1 : List (Int × Int × Int)) (a0_2 : List Int) (a1 : Int) : Option (Int) := (laws_szIntA3S.f k a0_1 a1).bind fun t8 => (if (decide (t8 < 0)) = true then some (-1) else (laws_szIntS.f k a0_2 t8).bind fun t14 => (if (decide (t14 < 0)) = true then some (-1) else some t14))

theorem laws_szMaze.ok {k : Nat}  {a0_0 : Int} {a0_1 : List (Int × Int × Int)} {a0_2 : List Int} {a1 : Int} {r0 : Int} (h : laws_szMaze.f k a0_0 a0_1 a0_2 a1 = some r0) (w : World) {va0_1 : Value} {va0_2 : Value} (hr_a0_1 : Rd w va0_1 a0_1) (hr_a0_2 : Rd w va0_2 a0_2) :
  Calls Try.prog 11 ([.agg ([.int .i64 a0_0,va0_1,va0_2].toArray),.int .i64 a1] : List Value).toArray w (fun e w'=>e = .returned (.int .i64 r0)∧Ext w w'):=by
 unfold laws_szMaze.f at h
 have hl_va0_1:=hr_a0_1.len
 have hl_va0_2:=hr_a0_2.len
 refine Calls.of_tri (N:=18) Try.func11 rfl rfl rfl (Sep.nil (M:=noM)) ?_
 refine Tri.seq (Tri.reg (l:=[0,1]) rfl ?_)
 refine F.mn rfl (m_boxG rfl rfl) ?_
 rintro _ _ ⟨b2_1,rfl,rfl⟩
 refine F.qn rfl (r_assign rfl) (F.nil (Nrm.seq (Tri.seq ?_)))
 obtain ⟨t8,h8,h⟩:=bind_some h
 refine Tri.reg (l:=[0,1,2,3,4]) rfl ?_
 refine F.qn rfl (r_fieldAddr tf25_1 rfl) (F.qn rfl (r_load ta22 rfl (fun w hw=>cell_1 (box_cells (i:=0) rfl w hw) rfl)) (F.qn rfl (r_move rfl) ?_))
 refine F.qcn rfl (q_callF (xs:=_) rfl ok32 rfl rfl (fun w hw=>laws_szIntA3S.ok h8 w ((fun _ hw=>hr_a0_1.sep hw) w hw))) ?_
 refine F.qn rfl (r_assign rfl) (F.nil (Nrm.seq (Tri.seq (Tri.seq (Tri.reg (l:=[0,1]) rfl ?_)))))
 refine F.qn rfl (r_move rfl) (F.qn rfl (r_lss rfl rfl) (F.nil (Nrm.seq (Tri.cond (b:=decide (t8 < 0)) rfl (fun g_1=>?_) (fun g_1=>?_)))))
 ·replace h:=if_tt g_1 h
  refine Tri.seq (Tri.reg (l:=[0]) rfl ?_)
  refine F.qn rfl (r_assign rfl) (F.nil (Nrm.seq (Tri.ret ?_)))
  refine Rtn.then ?_
  cases h
  exact Rtn.body (.tmp rfl .nil) (fun w hw=>⟨rfl,hw.ext⟩)
 ·replace h:=if_ff g_1 h
  refine Tri.skip (Nrm.seq (Tri.seq ?_))
  obtain ⟨t14,h14,h⟩:=bind_some h
  refine Tri.reg (l:=[0,1,2,3,4]) rfl ?_
  refine F.qn rfl (r_fieldAddr tf25_2 rfl) (F.qn rfl (r_load ta23 rfl (fun w hw=>cell_1 (box_cells (i:=0) rfl w hw) rfl)) (F.qn rfl (r_move rfl) ?_))
  refine F.qcn rfl (q_callF (xs:=_) rfl ok12 rfl rfl (fun w hw=>laws_szIntS.ok h14 w ((fun _ hw=>hr_a0_2.sep hw) w hw))) ?_
  refine F.qn rfl (r_assign rfl) (F.nil (Nrm.seq (Tri.seq (Tri.seq (Tri.reg (l:=[0,1]) rfl ?_)))))
  refine F.qn rfl (r_move rfl) (F.qn rfl (r_lss rfl rfl) (F.nil (Nrm.seq (Tri.cond (b:=decide (t14 < 0)) rfl (fun g_2=>?_) (fun g_2=>?_)))))
  ·replace h:=if_tt g_2 h
   refine Tri.seq (Tri.reg (l:=[0]) rfl ?_)
   refine F.qn rfl (r_assign rfl) (F.nil (Nrm.seq (Tri.ret ?_)))
   refine Rtn.then ?_
   cases h
   exact Rtn.body (.tmp rfl .nil) (fun w hw=>⟨rfl,hw.ext⟩)
  ·replace h:=if_ff g_2 h
   refine Tri.skip (Nrm.seq (Tri.seq (Tri.reg (l:=[0,1]) rfl ?_)))
   refine F.qn rfl (r_move rfl) (F.qn rfl (r_assign rfl) (F.nil (Nrm.seq (Tri.ret ?_))))
   cases h
   exact Rtn.body (.tmp rfl .nil) (fun w hw=>⟨rfl,hw.ext⟩)


def laws_szTrap.f (k : Nat) (a0_0 : Int) (a0_1 : List (Int × Int × Int)) (a0_2 : List Int) (a0_3 : List Int) (a1 : Int) : Option (Int) := (laws_szMaze.f k a0_0 a0_1 a0_2 a1).bind fun t8 => (if (decide (t8 < 0)) = true then some (-1) else (laws_szIntS.f k a0_3 t8).bind fun t14 => (if (decide (t14 < 0)) = true then some (-1) else some t14))

theorem laws_szTrap.ok {k : Nat}  {a0_0 : Int} {a0_1 : List (Int × Int × Int)} {a0_2 : List Int} {a0_3 : List Int} {a1 : Int} {r0 : Int} (h : laws_szTrap.f k a0_0 a0_1 a0_2 a0_3 a1 = some r0) (w : World) {va0_1 : Value} {va0_2 : Value} {va0_3 : Value} (hr_a0_1 : Rd w va0_1 a0_1) (hr_a0_2 : Rd w va0_2 a0_2) (hr_a0_3 : Rd w va0_3 a0_3) :
  Calls Try.prog 4 ([.agg ([.int .i64 a0_0,va0_1,va0_2,va0_3].toArray),.int .i64 a1] : List Value).toArray w (fun e w'=>e = .returned (.int .i64 r0)∧Ext w w'):=by
 unfold laws_szTrap.f at h
 have hl_va0_1:=hr_a0_1.len
 have hl_va0_2:=hr_a0_2.len
 have hl_va0_3:=hr_a0_3.len
 refine Calls.of_tri (N:=18) Try.func4 rfl rfl rfl (Sep.nil (M:=noM)) ?_
 refine Tri.seq (Tri.reg (l:=[0,1]) rfl ?_)
 refine F.mn rfl (m_boxG rfl rfl) ?_
 rintro _ _ ⟨b2_1,rfl,rfl⟩
 refine F.qn rfl (r_assign rfl) (F.nil (Nrm.seq (Tri.seq ?_)))
 obtain ⟨t8,h8,h⟩:=bind_some h
 refine Tri.reg (l:=[0,1,2,3,4]) rfl ?_
 refine F.qn rfl (r_fieldAddr tf27_0 rfl) (F.qn rfl (r_loadA ta25 ti25 rfl rfl (fun w hw=>cells_1 (cs':=[.int .i64 a0_0,va0_1,va0_2]) (box_cells (i:=0) rfl w hw) rfl)) (F.qn rfl (r_move rfl) ?_))
 refine F.qcn rfl (q_callF (xs:=_) rfl ok11 rfl rfl (fun w hw=>laws_szMaze.ok h8 w ((fun _ hw=>hr_a0_1.sep hw) w hw) ((fun _ hw=>hr_a0_2.sep hw) w hw))) ?_
 refine F.qn rfl (r_assign rfl) (F.nil (Nrm.seq (Tri.seq (Tri.seq (Tri.reg (l:=[0,1]) rfl ?_)))))
 refine F.qn rfl (r_move rfl) (F.qn rfl (r_lss rfl rfl) (F.nil (Nrm.seq (Tri.cond (b:=decide (t8 < 0)) rfl (fun g_1=>?_) (fun g_1=>?_)))))
 ·replace h:=if_tt g_1 h
  refine Tri.seq (Tri.reg (l:=[0]) rfl ?_)
  refine F.qn rfl (r_assign rfl) (F.nil (Nrm.seq (Tri.ret ?_)))
  refine Rtn.then ?_
  cases h
  exact Rtn.body (.tmp rfl .nil) (fun w hw=>⟨rfl,hw.ext⟩)
 ·replace h:=if_ff g_1 h
  refine Tri.skip (Nrm.seq (Tri.seq ?_))
  obtain ⟨t14,h14,h⟩:=bind_some h
  refine Tri.reg (l:=[0,1,2,3,4]) rfl ?_
  refine F.qn rfl (r_fieldAddr tf27_1 rfl) (F.qn rfl (r_load ta23 rfl (fun w hw=>cell_1 (box_cells (i:=0) rfl w hw) rfl)) (F.qn rfl (r_move rfl) ?_))
  refine F.qcn rfl (q_callF (xs:=_) rfl ok12 rfl rfl (fun w hw=>laws_szIntS.ok h14 w ((fun _ hw=>hr_a0_3.sep hw) w hw))) ?_
  refine F.qn rfl (r_assign rfl) (F.nil (Nrm.seq (Tri.seq (Tri.seq (Tri.reg (l:=[0,1]) rfl ?_)))))
  refine F.qn rfl (r_move rfl) (F.qn rfl (r_lss rfl rfl) (F.nil (Nrm.seq (Tri.cond (b:=decide (t14 < 0)) rfl (fun g_2=>?_) (fun g_2=>?_)))))
  ·replace h:=if_tt g_2 h
   refine Tri.seq (Tri.reg (l:=[0]) rfl ?_)
   refine F.qn rfl (r_assign rfl) (F.nil (Nrm.seq (Tri.ret ?_)))
   refine Rtn.then ?_
   cases h
   exact Rtn.body (.tmp rfl .nil) (fun w hw=>⟨rfl,hw.ext⟩)
  ·replace h:=if_ff g_2 h
   refine Tri.skip (Nrm.seq (Tri.seq (Tri.reg (l:=[0,1]) rfl ?_)))
   refine F.qn rfl (r_move rfl) (F.qn rfl (r_assign rfl) (F.nil (Nrm.seq (Tri.ret ?_))))
   cases h
   exact Rtn.body (.tmp rfl .nil) (fun w hw=>⟨rfl,hw.ext⟩)


def spec_l1In.f (k : Nat) (a0 : Int) (a1 : Int) (a2 : Int) : Option (Bool) := ((if (decide (a0 ≥ a1)) = true then some (decide (a0 ≤ a2)) else some false)).bind fun y6 => some y6

theorem spec_l1In.ok {k : Nat}  {a0 : Int} {a1 : Int} {a2 : Int} {r0 : Bool} (h : spec_l1In.f k a0 a1 a2 = some r0) (w : World) :
  Calls Try.prog 14 ([.int .i64 a0,.int .i64 a1,.int .i64 a2] : List Value).toArray w (fun e w'=>e = .returned (.bool r0)∧Ext w w'):=by
 unfold spec_l1In.f at h
 refine Calls.of_tri (N:=15) Try.func14 rfl rfl rfl (Sep.nil (M:=noM)) ?_
 refine Tri.seq (Tri.reg (l:=[0]) rfl ?_)
 refine F.qn rfl (r_assign rfl) (F.nil (Nrm.seq (Tri.seq ?_)))
 obtain ⟨y6,hE_1,h⟩:=bind_some h
 refine Tri.cut (fun e' C'=>e' = [(6,.bool y6)]∧C' = Sep w noM []) ?_ (fun hj_1=>?_)
 ·rintro _ _ ⟨rfl,rfl⟩
  refine Nrm.seq (Tri.ret ?_)
  cases h
  exact Rtn.body (.tmp rfl .nil) (fun w hw=>⟨rfl,hw.ext⟩)
 ·rcases Bool.eq_false_or_eq_true (decide (a0 ≥ a1)) with g10 | g10
  ·replace hE_1:=if_tt g10 hE_1
   refine Tri.reg (l:=[0,1,2,3,4,5,6,7,8]) rfl ?_
   refine F.qn rfl (r_move rfl) (F.qn rfl (r_move rfl) (F.qn rfl (r_geq rfl rfl) ?_))
   refine F.qn rfl (r_move rfl) (F.qg rfl g10 (r_move rfl) (F.qg rfl g10 (r_move rfl) (F.qg rfl g10 (r_leq rfl rfl) (F.qn rfl (r_pick rfl rfl g10) (F.qn rfl (r_assign rfl) (F.nil ?_))))))
   cases hE_1
   refine Nrm.only [6] rfl ?_
   refine Nrm.pick [] rfl rfl ?_
   exact hj_1 _ _ ⟨rfl,rfl⟩
  ·replace hE_1:=if_ff g10 hE_1
   refine Tri.reg (l:=[0,1,2,3,4,5,6,7,8]) rfl ?_
   refine F.qn rfl (r_move rfl) (F.qn rfl (r_move rfl) (F.qn rfl (r_geq rfl rfl) (F.qn rfl (r_move rfl) ?_)))
   iterate 3 refine F.skf rfl g10 ?_
   refine F.qn rfl (r_pickf rfl rfl g10) (F.qn rfl (r_assign rfl) (F.nil ?_))
   cases hE_1
   refine Nrm.only [6] rfl ?_
   refine Nrm.pick [] rfl rfl ?_
   exact hj_1 _ _ ⟨rfl,rfl⟩


def spec_l2Set.f (k : Nat) (a0 : Int) : Option (Bool) := (spec_l1In.f k a0 0 63).bind fun t4 => some t4

theorem spec_l2Set.ok {k : Nat}  {a0 : Int} {r0 : Bool} (h : spec_l2Set.f k a0 = some r0) (w : World) :
  Calls Try.prog 46 ([.int .i64 a0] : List Value).toArray w (fun e w'=>e = .returned (.bool r0)∧Ext w w'):=by
 unfold spec_l2Set.f at h
 refine Calls.of_tri (N:=5) Try.func46 rfl rfl rfl (Sep.nil (M:=noM)) ?_
 refine Tri.seq (Tri.reg (l:=[0]) rfl ?_)
 refine F.qn rfl (r_assign rfl) (F.nil (Nrm.seq (Tri.seq ?_)))
 obtain ⟨t4,h4,h⟩:=bind_some h
 refine Tri.reg (l:=[0,1,2]) rfl ?_
 refine F.qn rfl (r_move rfl) ?_
 refine F.qcn rfl (q_callF (xs:=_) rfl ok14 rfl rfl (fun w hw=>spec_l1In.ok h4 w)) ?_
 refine F.qn rfl (r_assign rfl) (F.nil (Nrm.seq (Tri.ret ?_)))
 cases h
 exact Rtn.body (.tmp rfl .nil) (fun w hw=>⟨rfl,hw.ext⟩)


def spec_l2Before.l0 (k : Nat) (a0_0 : Int) (a0_1 : Int) (a0_2 : Int) (a1_0 : Int) (a1_1 : Int) (a1_2 : Int) : Nat → Int → Option ((Unit) ⊕ (Bool))
 | 0,_=>none
 | n + 1,x5=>(if (decide (x5 < 3)) = true then (rdl [a0_0,a0_1,a0_2] x5).bind fun t11=>(rdl [a1_0,a1_1,a1_2] x5).bind fun t14=>(if (t11 != t14) = true then (rdl [a0_0,a0_1,a0_2] x5).bind fun t18=>(rdl [a1_0,a1_1,a1_2] x5).bind fun t21=>some (Sum.inr (decide (t18 < t21))) else spec_l2Before.l0 k a0_0 a0_1 a0_2 a1_0 a1_1 a1_2 n (w64 (x5 + 1))) else some (Sum.inl ()))

def spec_l2Before.f (k : Nat) (a0_0 : Int) (a0_1 : Int) (a0_2 : Int) (a1_0 : Int) (a1_1 : Int) (a1_2 : Int) : Option (Bool) := (spec_l2Before.l0 k a0_0 a0_1 a0_2 a1_0 a1_1 a1_2 k 0).bind fun s => Lr s some fun _ => some false

theorem spec_l2Before.ok {k : Nat}  {a0_0 : Int} {a0_1 : Int} {a0_2 : Int} {a1_0 : Int} {a1_1 : Int} {a1_2 : Int} {r0 : Bool} (h : spec_l2Before.f k a0_0 a0_1 a0_2 a1_0 a1_1 a1_2 = some r0) (w : World) :
  Calls Try.prog 47 ([.agg ([.int .i64 a0_0,.int .i64 a0_1,.int .i64 a0_2].toArray),.agg ([.int .i64 a1_0,.int .i64 a1_1,.int .i64 a1_2].toArray)] : List Value).toArray w (fun e w'=>e = .returned (.bool r0)∧Ext w w'):=by
 unfold spec_l2Before.f at h
 refine Calls.of_tri (N:=24) Try.func47 rfl rfl rfl (Sep.nil (M:=noM)) ?_
 refine Tri.seq (Tri.reg (l:=[0,1,2]) rfl ?_)
 refine F.mn rfl (m_boxG rfl rfl) ?_
 rintro _ _ ⟨b2_1,rfl,rfl⟩
 refine F.mn rfl (m_boxG rfl rfl) ?_
 rintro _ _ ⟨b3_1,rfl,rfl⟩
 refine F.qn rfl (r_assign rfl) (F.nil (Nrm.seq (Tri.seq (Tri.seq (Tri.reg (l:=[0]) rfl ?_)))))
 refine F.qn rfl (r_assign rfl) (F.nil (Nrm.seq ?_))
 obtain ⟨s0,hE_1,h⟩:=bind_some h
 refine Tri.block ?_
 refine Tri.only [2,3,5] rfl ?_
 refine Tri.pick [0,1] rfl rfl ?_
 refine Tri.rounds (fun n e' C'=>∃ (x5' : Int),spec_l2Before.l0 k a0_0 a0_1 a0_2 a1_0 a1_1 a1_2 n x5' = some s0∧e' = [(2,.pointer (some ⟨b2_1,0,none⟩)),(3,.pointer (some ⟨b3_1,0,none⟩)),(5,.int .i64 x5')]∧C' = Sep w noM [R.box b3_1 61 [.int .i64 a1_0,.int .i64 a1_1,.int .i64 a1_2],R.box b2_1 61 [.int .i64 a0_0,.int .i64 a0_1,.int .i64 a0_2]]) k ?_ ?_ ?_
 ·exact ⟨0,hE_1,rfl,rfl⟩
 ·rintro _ _ ⟨_,hE_1,_⟩
  rw [spec_l2Before.l0.eq_1] at hE_1; cases hE_1
 ·rintro n_1 _ _ ⟨x5,hE_1,rfl,rfl⟩ ih_1
  rw [spec_l2Before.l0.eq_2] at hE_1
  refine Tri.seq (Tri.seq (Tri.reg (l:=[0,1]) rfl ?_))
  refine F.qn rfl (r_move rfl) (F.qn rfl (r_lss rfl rfl) (F.nil (Nrm.seq (Tri.cond (b:=decide (x5 < 3)) rfl (fun g_1=>?_) (fun g_1=>?_)))))
  ·replace hE_1:=if_tt g_1 hE_1
   refine Tri.skip (Nrm.seq (Tri.seq (Tri.block ?_)))
   refine Tri.seq ?_
   obtain ⟨t11,h11,hE_1⟩:=bind_some hE_1
   obtain ⟨t14,h14,hE_1⟩:=bind_some hE_1
   refine Tri.drawA mixedT Sep.up [(0,true),(1,true),(2,true),(3,true),(4,true),(5,true),(6,true)] [] (by kernel_rfl) ?_
   refine S.qn rfl (r_move rfl) ?_
   refine S.qn rfl (r_indexAddrA Try.underlying61 ti3 rfl rfl (rdl_some h11).1 (rdl_some h11).2.1) (S.qn rfl (r_load ta3 rfl (fun w hw=>cell_dynB (box_cells (i:=1) rfl w hw) rfl h11)) (S.qn rfl (r_move rfl) (S.qn rfl (r_indexAddrA Try.underlying61 ti3 rfl rfl (rdl_some h14).1 (rdl_some h14).2.1) (S.qn rfl (r_load ta3 rfl (fun w hw=>cell_dynB (box_cells (i:=0) rfl w hw) rfl h14)) (S.qn rfl (r_neq rfl rfl) (S.nil (F.nil (Nrm.seq (Tri.cond (b:=t11 != t14) rfl (fun g_2=>?_) (fun g_2=>?_))))))))))
   ·replace hE_1:=if_tt g_2 hE_1
    refine Tri.seq ?_
    obtain ⟨t18,h18,hE_1⟩:=bind_some hE_1
    obtain ⟨t21,h21,hE_1⟩:=bind_some hE_1
    refine Tri.drawA mixedT Sep.up [(0,true),(1,true),(2,true),(3,true),(4,true),(5,true),(6,true),(7,true)] [] (by kernel_rfl) ?_
    refine S.qn rfl (r_move rfl) (S.qn rfl (r_indexAddrA Try.underlying61 ti3 rfl rfl (rdl_some h18).1 (rdl_some h18).2.1) ?_)
    refine S.qn rfl (r_load ta3 rfl (fun w hw=>cell_dynB (box_cells (i:=1) rfl w hw) rfl h18)) (S.qn rfl (r_move rfl) (S.qn rfl (r_indexAddrA Try.underlying61 ti3 rfl rfl (rdl_some h21).1 (rdl_some h21).2.1) (S.qn rfl (r_load ta3 rfl (fun w hw=>cell_dynB (box_cells (i:=0) rfl w hw) rfl h21)) (S.qn rfl (r_lss rfl rfl) (S.qn rfl (r_assign rfl) (S.nil (F.nil (Nrm.seq (Tri.ret ?_)))))))))
    refine Rtn.block ?_
    refine Rtn.then ?_
    refine Rtn.then ?_
    refine Rtn.block ?_
    refine Rtn.then ?_
    cases hE_1
    replace h:=Lr_inr h
    cases h
    exact Rtn.body (.tmp rfl .nil) (fun w hw=>⟨rfl,hw.ext⟩)
   ·replace hE_1:=if_ff g_2 hE_1
    refine Tri.skip (Nrm.block ?_)
    refine Nrm.seq (Tri.reg (l:=[0,1,2]) rfl ?_)
    refine F.qn rfl (r_move rfl) (F.qn rfl (r_add rfl rfl) (F.qn rfl (r_assign rfl) (F.nil (Nrm.round ?_))))
    refine Rnd.only [2,3,5] rfl ?_
    refine Rnd.pick [0,1] rfl rfl ?_
    exact ih_1 _ _ ⟨w64 (x5 + 1),hE_1,rfl,rfl⟩
  ·replace hE_1:=if_ff g_1 hE_1
   refine Tri.exit ?_
   refine Exi.then ?_
   refine Exi.then ?_
   refine Exi.same ?_
   cases hE_1
   replace h:=Lr_inl h
   refine Nrm.seq (Tri.seq (Tri.reg (l:=[0]) rfl ?_))
   refine F.qn rfl (r_assign rfl) (F.nil (Nrm.seq (Tri.ret ?_)))
   cases h
   exact Rtn.body (.tmp rfl .nil) (fun w hw=>⟨rfl,hw.ext⟩)


def spec_l2Maze.l1 (k : Nat) (a0_0 : Int) (a0_2 : List Int) : Nat → Int → Option ((Unit) ⊕ (Bool))
 | 0,_=>none
 | n + 1,x5=>(if (decide (x5 < a0_0)) = true then (rdl a0_2 x5).bind fun t85=>(spec_l2Set.f k t85).bind fun t87=>(if (!t87) = true then some (Sum.inr false) else spec_l2Maze.l1 k a0_0 a0_2 n (w64 (x5 + 1))) else some (Sum.inl ()))

def spec_l2Maze.l0 (k : Nat) (a0_0 : Int) (a0_1 : List (Int × Int × Int)) : Nat → Int → Option ((Unit) ⊕ (Bool))
 | 0,_=>none
 | n + 1,x3=>(if (decide (x3 < (a0_1.length : Int))) = true then (rdl a0_1 x3).bind fun t34=>((spec_l1In.f k t34.1 0 (w64 (a0_0 - 1))).bind fun t41=>(if (!t41) = true then some true else (spec_l1In.f k t34.2.1 (w64 (t34.1 + 1)) (w64 (a0_0 - 1))).bind fun t52=>(if (!t52) = true then some true else (spec_l2Set.f k t34.2.2).bind fun t58=>(if (!t58) = true then some true else (if (decide (x3 > 0)) = true then (rdl a0_1 (w64 (x3 - 1))).bind fun t69=>(spec_l2Before.f k t69.1 t69.2.1 t69.2.2 t34.1 t34.2.1 t34.2.2).bind fun t72=>some (!t72) else some false))))).bind fun y75=>(if y75 = true then some (Sum.inr false) else spec_l2Maze.l0 k a0_0 a0_1 n (w64 (x3 + 1))) else some (Sum.inl ()))

def spec_l2Maze.f (k : Nat) (a0_0 : Int) (a0_1 : List (Int × Int × Int)) (a0_2 : List Int) : Option (Bool) := ((spec_l1In.f k a0_0 1 12).bind fun t8 => (if (!t8) = true then some true else (if (decide ((a0_1.length : Int) > 30)) = true then some true else some ((a0_2.length : Int) != a0_0)))).bind fun y23 => (if y23 = true then some false else (spec_l2Maze.l0 k a0_0 a0_1 k 0).bind fun s => Lr s some fun _ => (spec_l2Maze.l1 k a0_0 a0_2 k 0).bind fun s => Lr s some fun _ => some true)

theorem spec_l2Maze.ok {k : Nat}  {a0_0 : Int} {a0_1 : List (Int × Int × Int)} {a0_2 : List Int} {r0 : Bool} (h : spec_l2Maze.f k a0_0 a0_1 a0_2 = some r0) (w : World) {va0_1 : Value} {va0_2 : Value} (hr_a0_1 : Rd w va0_1 a0_1) (hr_a0_2 : Rd w va0_2 a0_2) :
  Calls Try.prog 33 ([.agg ([.int .i64 a0_0,va0_1,va0_2].toArray)] : List Value).toArray w (fun e w'=>e = .returned (.bool r0)∧Ext w w'):=by
 unfold spec_l2Maze.f at h
 have hl_va0_1:=hr_a0_1.len
 have hl_va0_2:=hr_a0_2.len
 refine Calls.of_tri (N:=89) Try.func33 rfl rfl rfl (Sep.nil (M:=noM)) ?_
 refine Tri.seq (Tri.reg (l:=[0,1]) rfl ?_)
 refine F.mn rfl (m_boxG rfl rfl) ?_
 rintro _ _ ⟨b1_1,rfl,rfl⟩
 refine F.qn rfl (r_assign rfl) (F.nil (Nrm.seq (Tri.seq (Tri.seq ?_))))
 obtain ⟨y23,hE_1,h⟩:=bind_some h
 refine Tri.cut (fun e' C'=>e' = [(1,.pointer (some ⟨b1_1,0,none⟩)),(23,.bool y23)]∧C' = Sep w noM [R.box b1_1 29 [.int .i64 a0_0,va0_1,va0_2]]) ?_ (fun hj_1=>?_)
 ·rintro _ _ ⟨rfl,rfl⟩
  refine Nrm.seq (Tri.cond (b:=y23) rfl (fun g_1=>?_) (fun g_1=>?_))
  ·replace h:=if_tt g_1 h
   refine Tri.seq (Tri.reg (l:=[0]) rfl ?_)
   refine F.qn rfl (r_assign rfl) (F.nil (Nrm.seq (Tri.ret ?_)))
   refine Rtn.then ?_
   cases h
   exact Rtn.body (.tmp rfl .nil) (fun w hw=>⟨rfl,hw.ext⟩)
  ·replace h:=if_ff g_1 h
   refine Tri.skip (Nrm.seq (Tri.seq (Tri.seq (Tri.reg (l:=[0]) rfl ?_))))
   refine F.qn rfl (r_assign rfl) (F.nil (Nrm.seq ?_))
   obtain ⟨s0,hE_2,h⟩:=bind_some h
   refine Tri.block ?_
   refine Tri.only [1,3] rfl ?_
   refine Tri.pick [0] rfl rfl ?_
   refine Tri.rounds (fun n e' C'=>∃ (x3' : Int),spec_l2Maze.l0 k a0_0 a0_1 n x3' = some s0∧e' = [(1,.pointer (some ⟨b1_1,0,none⟩)),(3,.int .i64 x3')]∧C' = Sep w noM [R.box b1_1 29 [.int .i64 a0_0,va0_1,va0_2]]) k ?_ ?_ ?_
   ·exact ⟨0,hE_2,rfl,rfl⟩
   ·rintro _ _ ⟨_,hE_2,_⟩
    rw [spec_l2Maze.l0.eq_1] at hE_2; cases hE_2
   ·rintro n_1 _ _ ⟨x3,hE_2,rfl,rfl⟩ ih_1
    rw [spec_l2Maze.l0.eq_2] at hE_2
    refine Tri.seq (Tri.seq (Tri.reg (l:=[0,1,2,3,4]) rfl ?_))
    refine F.qn rfl (r_move rfl) (F.qn rfl (r_fieldAddr tf29_1 rfl) (F.qn rfl (r_load ta22 rfl (fun w hw=>cell_1 (box_cells (i:=0) rfl w hw) rfl)) (F.qn rfl (r_len Try.underlying22 rfl hl_va0_1) (F.qn rfl (r_lss rfl rfl) (F.nil (Nrm.seq (Tri.cond (b:=decide (x3 < (a0_1.length : Int))) rfl (fun g_2=>?_) (fun g_2=>?_))))))))
    ·replace hE_2:=if_tt g_2 hE_2
     refine Tri.skip (Nrm.seq (Tri.seq (Tri.block ?_)))
     refine Tri.seq ?_
     obtain ⟨t34,h34,hE_2⟩:=bind_some hE_2
     refine Tri.reg (l:=[0,1,2,3,4,5,6]) rfl ?_
     refine F.qn rfl (r_fieldAddr tf29_1 rfl) (F.qn rfl (r_load ta22 rfl (fun w hw=>cell_1 (box_cells (i:=0) rfl w hw) rfl)) (F.qn rfl (r_move rfl) (F.qn rfl (r_indexAddrS Try.underlying22 ti61 rfl hl_va0_1 rfl (rdl_some h34).1 (rdl_some h34).2.1) (F.qn rfl (r_loadA ta61 ti61 rfl rfl (fun w hw=>(Rd.flat ((fun _ hw=>hr_a0_1.sep hw) w hw) (rdl_some h34).2.2))) ?_))))
     refine F.mn rfl (m_alloc ti61) ?_
     rintro _ _ ⟨b4_1,rfl,rfl⟩
     refine F.ef0 rfl rfl (wanted_none rfl) (d_storeG0 (i:=0) (cs2:=[.int .i64 t34.1,.int .i64 t34.2.1,.int .i64 t34.2.2]) ti61 rfl rfl rfl rfl rfl (Nat.le_of_ble_eq_true rfl) (lf_cons rfl (lf_cons rfl (lf_cons rfl lf_nil)))) ?_
     rintro _ _ ⟨rfl,rfl⟩
     refine F.nil (Nrm.seq (Tri.seq ?_))
     obtain ⟨y75,hE_3,hE_2⟩:=bind_some hE_2
     refine Tri.cut (fun e' C'=>e' = [(1,.pointer (some ⟨b1_1,0,none⟩)),(3,.int .i64 x3),(75,.bool y75)]∧C' = Sep w noM [R.box b1_1 29 [.int .i64 a0_0,va0_1,va0_2]]) ?_ (fun hj_2=>?_)
     ·rintro _ _ ⟨rfl,rfl⟩
      refine Nrm.seq (Tri.cond (b:=y75) rfl (fun g_3=>?_) (fun g_3=>?_))
      ·replace hE_2:=if_tt g_3 hE_2
       refine Tri.seq (Tri.reg (l:=[0]) rfl ?_)
       refine F.qn rfl (r_assign rfl) (F.nil (Nrm.seq (Tri.ret ?_)))
       refine Rtn.block ?_
       refine Rtn.then ?_
       refine Rtn.then ?_
       refine Rtn.block ?_
       refine Rtn.then ?_
       cases hE_2
       replace h:=Lr_inr h
       cases h
       exact Rtn.body (.tmp rfl .nil) (fun w hw=>⟨rfl,hw.ext⟩)
      ·replace hE_2:=if_ff g_3 hE_2
       refine Tri.skip (Nrm.block ?_)
       refine Nrm.seq (Tri.reg (l:=[0,1,2]) rfl ?_)
       refine F.qn rfl (r_move rfl) (F.qn rfl (r_add rfl rfl) (F.qn rfl (r_assign rfl) (F.nil (Nrm.round ?_))))
       refine Rnd.only [1,3] rfl ?_
       refine Rnd.pick [0] rfl rfl ?_
       exact ih_1 _ _ ⟨w64 (x3 + 1),hE_2,rfl,rfl⟩
     ·obtain ⟨t41,h41,hE_3⟩:=bind_some hE_3
      rcases Bool.eq_false_or_eq_true (!t41) with g43 | g43
      ·replace hE_3:=if_tt g43 hE_3
       refine Tri.drawA mixedT Sep.up [(0,true),(1,true),(2,true),(3,true),(4,true),(5,true),(6,true),(7,true),(8,true),(9,true),(10,true),(11,true),(12,true),(13,true),(14,true),(15,true),(16,true),(17,true),(18,true),(19,true),(20,true),(21,true),(22,true),(23,true),(24,true),(25,true),(26,true),(27,true),(28,true),(29,true),(30,true),(31,true),(32,true),(33,true),(34,true),(35,true),(36,true),(37,true),(38,true),(39,true)] [] (by kernel_rfl) ?_
       refine S.qn rfl (r_indexAddrA Try.underlying61 ti3 rfl rfl (by decide) (by decide)) (S.qn rfl (r_load ta3 rfl (fun w hw=>cell_1 (box_cells (i:=0) rfl w hw) rfl)) (S.qn rfl (r_fieldAddr tf29_0 rfl) (S.qn rfl (r_load ta3 rfl (fun w hw=>cell_1 (box_cells (i:=1) rfl w hw) rfl)) (S.qn rfl (r_sub rfl rfl) ?_))))
       refine S.qcn rfl (q_callF (xs:=_) rfl ok14 rfl rfl (fun w hw=>spec_l1In.ok h41 w)) ?_
       refine S.qn rfl (r_not rfl) (S.qn rfl (r_move rfl) ?_)
       iterate 10 refine S.skf rfl g43 ?_
       refine S.qn rfl (r_pick rfl rfl g43) (S.qn rfl (r_move rfl) ?_)
       iterate 4 refine S.skf rfl rfl ?_
       refine S.qn rfl (r_pick rfl rfl rfl) (S.qn rfl (r_move rfl) ?_)
       iterate 3 refine S.skf rfl rfl ?_
       iterate 9 refine S.sk rfl rfl rfl (wanted_undef rfl rfl rfl) ?_
       refine S.skf rfl rfl (S.qn rfl (r_pick rfl rfl rfl) (S.nil (F.nil ?_)))
       cases hE_3
       refine Nrm.only [1,3,75] rfl ?_
       refine Nrm.pick [1] rfl rfl ?_
       exact hj_2 _ _ ⟨rfl,rfl⟩
      ·replace hE_3:=if_ff g43 hE_3
       obtain ⟨t52,h52,hE_3⟩:=bind_some hE_3
       rcases Bool.eq_false_or_eq_true (!t52) with g55 | g55
       ·replace hE_3:=if_tt g55 hE_3
        refine Tri.drawA mixedT Sep.up [(0,true),(1,true),(2,true),(3,true),(4,true),(5,true),(6,true),(7,true),(8,true),(9,true),(10,true),(11,true),(12,true),(13,true),(14,true),(15,true),(16,true),(17,true),(18,true),(19,true),(20,true),(21,true),(22,true),(23,true),(24,true),(25,true),(26,true),(27,true),(28,true),(29,true),(30,true),(31,true),(32,true),(33,true),(34,true),(35,true),(36,true),(37,true),(38,true),(39,true)] [] (by kernel_rfl) ?_
        refine S.qn rfl (r_indexAddrA Try.underlying61 ti3 rfl rfl (by decide) (by decide)) (S.qn rfl (r_load ta3 rfl (fun w hw=>cell_1 (box_cells (i:=0) rfl w hw) rfl)) (S.qn rfl (r_fieldAddr tf29_0 rfl) (S.qn rfl (r_load ta3 rfl (fun w hw=>cell_1 (box_cells (i:=1) rfl w hw) rfl)) (S.qn rfl (r_sub rfl rfl) ?_))))
        refine S.qcn rfl (q_callF (xs:=_) rfl ok14 rfl rfl (fun w hw=>spec_l1In.ok h41 w)) ?_
        refine S.qn rfl (r_not rfl) (S.qn rfl (r_move rfl) (S.qg rfl g43 (r_indexAddrA Try.underlying61 ti3 rfl rfl (by decide) (by decide)) (S.qg rfl g43 (r_load ta3 rfl (fun w hw=>cell_1 (box_cells (i:=0) rfl w hw) rfl)) ?_)))
        refine S.qg rfl g43 (r_indexAddrA Try.underlying61 ti3 rfl rfl (by decide) (by decide)) (S.qg rfl g43 (r_load ta3 rfl (fun w hw=>cell_1 (box_cells (i:=0) rfl w hw) rfl)) (S.qg rfl g43 (r_add rfl rfl) (S.qg rfl g43 (r_fieldAddr tf29_0 rfl) (S.qg rfl g43 (r_load ta3 rfl (fun w hw=>cell_1 (box_cells (i:=1) rfl w hw) rfl)) (S.qg rfl g43 (r_sub rfl rfl) ?_)))))
        refine S.qc rfl rfl rfl (wg rfl rfl rfl g43) (q_callF (xs:=_) rfl ok14 rfl rfl (fun w hw=>spec_l1In.ok h52 w)) ?_
        refine S.qg rfl g43 (r_not rfl) (S.qn rfl (r_pickf rfl rfl g43) (S.qn rfl (r_move rfl) ?_))
        iterate 4 refine S.skf rfl g55 ?_
        refine S.qn rfl (r_pick rfl rfl g55) (S.qn rfl (r_move rfl) ?_)
        iterate 3 refine S.skf rfl rfl ?_
        iterate 9 refine S.sk rfl rfl rfl (wanted_undef rfl rfl rfl) ?_
        refine S.skf rfl rfl (S.qn rfl (r_pick rfl rfl rfl) (S.nil (F.nil ?_)))
        cases hE_3
        refine Nrm.only [1,3,75] rfl ?_
        refine Nrm.pick [1] rfl rfl ?_
        exact hj_2 _ _ ⟨rfl,rfl⟩
       ·replace hE_3:=if_ff g55 hE_3
        obtain ⟨t58,h58,hE_3⟩:=bind_some hE_3
        rcases Bool.eq_false_or_eq_true (!t58) with g61 | g61
        ·replace hE_3:=if_tt g61 hE_3
         refine Tri.drawA mixedT Sep.up [(0,true),(1,true),(2,true),(3,true),(4,true),(5,true),(6,true),(7,true),(8,true),(9,true),(10,true),(11,true),(12,true),(13,true),(14,true),(15,true),(16,true),(17,true),(18,true),(19,true),(20,true),(21,true),(22,true),(23,true),(24,true),(25,true),(26,true),(27,true),(28,true),(29,true),(30,true),(31,true),(32,true),(33,true),(34,true),(35,true),(36,true),(37,true),(38,true),(39,true)] [] (by kernel_rfl) ?_
         refine S.qn rfl (r_indexAddrA Try.underlying61 ti3 rfl rfl (by decide) (by decide)) (S.qn rfl (r_load ta3 rfl (fun w hw=>cell_1 (box_cells (i:=0) rfl w hw) rfl)) (S.qn rfl (r_fieldAddr tf29_0 rfl) (S.qn rfl (r_load ta3 rfl (fun w hw=>cell_1 (box_cells (i:=1) rfl w hw) rfl)) (S.qn rfl (r_sub rfl rfl) ?_))))
         refine S.qcn rfl (q_callF (xs:=_) rfl ok14 rfl rfl (fun w hw=>spec_l1In.ok h41 w)) ?_
         refine S.qn rfl (r_not rfl) (S.qn rfl (r_move rfl) (S.qg rfl g43 (r_indexAddrA Try.underlying61 ti3 rfl rfl (by decide) (by decide)) (S.qg rfl g43 (r_load ta3 rfl (fun w hw=>cell_1 (box_cells (i:=0) rfl w hw) rfl)) ?_)))
         refine S.qg rfl g43 (r_indexAddrA Try.underlying61 ti3 rfl rfl (by decide) (by decide)) (S.qg rfl g43 (r_load ta3 rfl (fun w hw=>cell_1 (box_cells (i:=0) rfl w hw) rfl)) (S.qg rfl g43 (r_add rfl rfl) (S.qg rfl g43 (r_fieldAddr tf29_0 rfl) (S.qg rfl g43 (r_load ta3 rfl (fun w hw=>cell_1 (box_cells (i:=1) rfl w hw) rfl)) (S.qg rfl g43 (r_sub rfl rfl) ?_)))))
         refine S.qc rfl rfl rfl (wg rfl rfl rfl g43) (q_callF (xs:=_) rfl ok14 rfl rfl (fun w hw=>spec_l1In.ok h52 w)) ?_
         refine S.qg rfl g43 (r_not rfl) (S.qn rfl (r_pickf rfl rfl g43) (S.qn rfl (r_move rfl) (S.qg rfl g55 (r_indexAddrA Try.underlying61 ti3 rfl rfl (by decide) (by decide)) (S.qg rfl g55 (r_load ta3 rfl (fun w hw=>cell_1 (box_cells (i:=0) rfl w hw) rfl)) ?_))))
         refine S.qc rfl rfl rfl (wg rfl rfl rfl g55) (q_callF (xs:=_) rfl ok46 rfl rfl (fun w hw=>spec_l2Set.ok h58 w)) ?_
         refine S.qg rfl g55 (r_not rfl) (S.qn rfl (r_pickf rfl rfl g55) (S.qn rfl (r_move rfl) ?_))
         iterate 3 refine S.skf rfl g61 ?_
         iterate 9 refine S.sk rfl rfl rfl (wanted_undef rfl rfl rfl) ?_
         refine S.skf rfl g61 (S.qn rfl (r_pick rfl rfl g61) (S.nil (F.nil ?_)))
         cases hE_3
         refine Nrm.only [1,3,75] rfl ?_
         refine Nrm.pick [1] rfl rfl ?_
         exact hj_2 _ _ ⟨rfl,rfl⟩
        ·replace hE_3:=if_ff g61 hE_3
         rcases Bool.eq_false_or_eq_true (decide (x3 > 0)) with g64 | g64
         ·replace hE_3:=if_tt g64 hE_3
          obtain ⟨t69,h69,hE_3⟩:=bind_some hE_3
          obtain ⟨t72,h72,hE_3⟩:=bind_some hE_3
          refine Tri.drawA mixedT Sep.up [(0,true),(1,true),(2,true),(3,true),(4,true),(5,true),(6,true),(7,true),(8,true),(9,true),(10,true),(11,true),(12,true),(13,true),(14,true),(15,true),(16,true),(17,true),(18,true),(19,true),(20,true),(21,true),(22,true),(23,true),(24,true),(25,true),(26,true),(27,true),(28,true),(29,true),(30,true),(31,true),(32,true),(33,true),(34,true),(35,true),(36,true),(37,true),(38,true),(39,true)] [] (by kernel_rfl) ?_
          refine S.qn rfl (r_indexAddrA Try.underlying61 ti3 rfl rfl (by decide) (by decide)) (S.qn rfl (r_load ta3 rfl (fun w hw=>cell_1 (box_cells (i:=0) rfl w hw) rfl)) (S.qn rfl (r_fieldAddr tf29_0 rfl) (S.qn rfl (r_load ta3 rfl (fun w hw=>cell_1 (box_cells (i:=1) rfl w hw) rfl)) (S.qn rfl (r_sub rfl rfl) ?_))))
          refine S.qcn rfl (q_callF (xs:=_) rfl ok14 rfl rfl (fun w hw=>spec_l1In.ok h41 w)) ?_
          refine S.qn rfl (r_not rfl) (S.qn rfl (r_move rfl) (S.qg rfl g43 (r_indexAddrA Try.underlying61 ti3 rfl rfl (by decide) (by decide)) (S.qg rfl g43 (r_load ta3 rfl (fun w hw=>cell_1 (box_cells (i:=0) rfl w hw) rfl)) ?_)))
          refine S.qg rfl g43 (r_indexAddrA Try.underlying61 ti3 rfl rfl (by decide) (by decide)) (S.qg rfl g43 (r_load ta3 rfl (fun w hw=>cell_1 (box_cells (i:=0) rfl w hw) rfl)) (S.qg rfl g43 (r_add rfl rfl) (S.qg rfl g43 (r_fieldAddr tf29_0 rfl) (S.qg rfl g43 (r_load ta3 rfl (fun w hw=>cell_1 (box_cells (i:=1) rfl w hw) rfl)) (S.qg rfl g43 (r_sub rfl rfl) ?_)))))
          refine S.qc rfl rfl rfl (wg rfl rfl rfl g43) (q_callF (xs:=_) rfl ok14 rfl rfl (fun w hw=>spec_l1In.ok h52 w)) ?_
          refine S.qg rfl g43 (r_not rfl) (S.qn rfl (r_pickf rfl rfl g43) (S.qn rfl (r_move rfl) (S.qg rfl g55 (r_indexAddrA Try.underlying61 ti3 rfl rfl (by decide) (by decide)) (S.qg rfl g55 (r_load ta3 rfl (fun w hw=>cell_1 (box_cells (i:=0) rfl w hw) rfl)) ?_))))
          refine S.qc rfl rfl rfl (wg rfl rfl rfl g55) (q_callF (xs:=_) rfl ok46 rfl rfl (fun w hw=>spec_l2Set.ok h58 w)) ?_
          refine S.qg rfl g55 (r_not rfl) ?_
          refine S.qn rfl (r_pickf rfl rfl g55) (S.qn rfl (r_move rfl) (S.qg rfl g61 (r_move rfl) (S.qg rfl g61 (r_gtr rfl rfl) (S.qg rfl g61 (r_move rfl) (S.qg rfl g64 (r_fieldAddr tf29_1 rfl) ?_)))))
          refine S.qg rfl g64 (r_load ta22 rfl (fun w hw=>cell_1 (box_cells (i:=1) rfl w hw) rfl)) (S.qg rfl g64 (r_move rfl) (S.qg rfl g64 (r_sub rfl rfl) (S.qg rfl g64 (r_indexAddrS Try.underlying22 ti61 rfl hl_va0_1 rfl (rdl_some h69).1 (rdl_some h69).2.1) (S.qg rfl g64 (r_loadA ta61 ti61 rfl rfl (fun w hw=>(Rd.flat ((fun _ hw=>hr_a0_1.sep hw) w hw) (rdl_some h69).2.2))) (S.qg rfl g64 (r_loadA ta61 ti61 rfl rfl (fun w hw=>(box_cells (i:=0) rfl w hw))) ?_)))))
          refine S.qc rfl rfl rfl (wg rfl rfl rfl g64) (q_callF (xs:=_) rfl ok47 rfl rfl (fun w hw=>spec_l2Before.ok h72 w)) ?_
          refine S.qg rfl g64 (r_not rfl) (S.qg rfl g61 (r_pick rfl rfl g64) (S.qn rfl (r_pickf rfl rfl g61) (S.nil (F.nil ?_))))
          cases hE_3
          refine Nrm.only [1,3,75] rfl ?_
          refine Nrm.pick [1] rfl rfl ?_
          exact hj_2 _ _ ⟨rfl,rfl⟩
         ·replace hE_3:=if_ff g64 hE_3
          refine Tri.drawA mixedT Sep.up [(0,true),(1,true),(2,true),(3,true),(4,true),(5,true),(6,true),(7,true),(8,true),(9,true),(10,true),(11,true),(12,true),(13,true),(14,true),(15,true),(16,true),(17,true),(18,true),(19,true),(20,true),(21,true),(22,true),(23,true),(24,true),(25,true),(26,true),(27,true),(28,true),(29,true),(30,true),(31,true),(32,true),(33,true),(34,true),(35,true),(36,true),(37,true),(38,true),(39,true)] [] (by kernel_rfl) ?_
          refine S.qn rfl (r_indexAddrA Try.underlying61 ti3 rfl rfl (by decide) (by decide)) (S.qn rfl (r_load ta3 rfl (fun w hw=>cell_1 (box_cells (i:=0) rfl w hw) rfl)) (S.qn rfl (r_fieldAddr tf29_0 rfl) (S.qn rfl (r_load ta3 rfl (fun w hw=>cell_1 (box_cells (i:=1) rfl w hw) rfl)) (S.qn rfl (r_sub rfl rfl) ?_))))
          refine S.qcn rfl (q_callF (xs:=_) rfl ok14 rfl rfl (fun w hw=>spec_l1In.ok h41 w)) ?_
          refine S.qn rfl (r_not rfl) (S.qn rfl (r_move rfl) (S.qg rfl g43 (r_indexAddrA Try.underlying61 ti3 rfl rfl (by decide) (by decide)) (S.qg rfl g43 (r_load ta3 rfl (fun w hw=>cell_1 (box_cells (i:=0) rfl w hw) rfl)) ?_)))
          refine S.qg rfl g43 (r_indexAddrA Try.underlying61 ti3 rfl rfl (by decide) (by decide)) (S.qg rfl g43 (r_load ta3 rfl (fun w hw=>cell_1 (box_cells (i:=0) rfl w hw) rfl)) (S.qg rfl g43 (r_add rfl rfl) (S.qg rfl g43 (r_fieldAddr tf29_0 rfl) (S.qg rfl g43 (r_load ta3 rfl (fun w hw=>cell_1 (box_cells (i:=1) rfl w hw) rfl)) (S.qg rfl g43 (r_sub rfl rfl) ?_)))))
          refine S.qc rfl rfl rfl (wg rfl rfl rfl g43) (q_callF (xs:=_) rfl ok14 rfl rfl (fun w hw=>spec_l1In.ok h52 w)) ?_
          refine S.qg rfl g43 (r_not rfl) (S.qn rfl (r_pickf rfl rfl g43) (S.qn rfl (r_move rfl) (S.qg rfl g55 (r_indexAddrA Try.underlying61 ti3 rfl rfl (by decide) (by decide)) (S.qg rfl g55 (r_load ta3 rfl (fun w hw=>cell_1 (box_cells (i:=0) rfl w hw) rfl)) ?_))))
          refine S.qc rfl rfl rfl (wg rfl rfl rfl g55) (q_callF (xs:=_) rfl ok46 rfl rfl (fun w hw=>spec_l2Set.ok h58 w)) ?_
          refine S.qg rfl g55 (r_not rfl) (S.qn rfl (r_pickf rfl rfl g55) (S.qn rfl (r_move rfl) (S.qg rfl g61 (r_move rfl) (S.qg rfl g61 (r_gtr rfl rfl) (S.qg rfl g61 (r_move rfl) ?_)))))
          iterate 9 refine S.skf rfl g64 ?_
          refine S.qg rfl g61 (r_pickf rfl rfl g64) (S.qn rfl (r_pickf rfl rfl g61) (S.nil (F.nil ?_)))
          cases hE_3
          refine Nrm.only [1,3,75] rfl ?_
          refine Nrm.pick [1] rfl rfl ?_
          exact hj_2 _ _ ⟨rfl,rfl⟩
    ·replace hE_2:=if_ff g_2 hE_2
     refine Tri.exit ?_
     refine Exi.then ?_
     refine Exi.then ?_
     refine Exi.same ?_
     cases hE_2
     replace h:=Lr_inl h
     refine Nrm.seq (Tri.seq (Tri.seq (Tri.reg (l:=[0]) rfl ?_)))
     refine F.qn rfl (r_assign rfl) (F.nil (Nrm.seq ?_))
     obtain ⟨s1,hE_4,h⟩:=bind_some h
     refine Tri.block ?_
     refine Tri.only [1,5] rfl ?_
     refine Tri.pick [0] rfl rfl ?_
     refine Tri.rounds (fun n e' C'=>∃ (x5' : Int),spec_l2Maze.l1 k a0_0 a0_2 n x5' = some s1∧e' = [(1,.pointer (some ⟨b1_1,0,none⟩)),(5,.int .i64 x5')]∧C' = Sep w noM [R.box b1_1 29 [.int .i64 a0_0,va0_1,va0_2]]) k ?_ ?_ ?_
     ·exact ⟨0,hE_4,rfl,rfl⟩
     ·rintro _ _ ⟨_,hE_4,_⟩
      rw [spec_l2Maze.l1.eq_1] at hE_4; cases hE_4
     ·rintro n_2 _ _ ⟨x5,hE_4,rfl,rfl⟩ ih_2
      rw [spec_l2Maze.l1.eq_2] at hE_4
      refine Tri.seq (Tri.seq (Tri.reg (l:=[0,1,2,3]) rfl ?_))
      refine F.qn rfl (r_move rfl) (F.qn rfl (r_fieldAddr tf29_0 rfl) (F.qn rfl (r_load ta3 rfl (fun w hw=>cell_1 (box_cells (i:=0) rfl w hw) rfl)) (F.qn rfl (r_lss rfl rfl) (F.nil (Nrm.seq (Tri.cond (b:=decide (x5 < a0_0)) rfl (fun g_4=>?_) (fun g_4=>?_)))))))
      ·replace hE_4:=if_tt g_4 hE_4
       refine Tri.skip (Nrm.seq (Tri.seq (Tri.block ?_)))
       refine Tri.seq ?_
       obtain ⟨t85,h85,hE_4⟩:=bind_some hE_4
       obtain ⟨t87,h87,hE_4⟩:=bind_some hE_4
       refine Tri.reg (l:=[0,1,2,3,4,5,6]) rfl ?_
       refine F.qn rfl (r_fieldAddr tf29_2 rfl) (F.qn rfl (r_load ta23 rfl (fun w hw=>cell_1 (box_cells (i:=0) rfl w hw) rfl)) (F.qn rfl (r_move rfl) (F.qn rfl (r_indexAddrS Try.underlying23 ti3 rfl hl_va0_2 rfl (rdl_some h85).1 (rdl_some h85).2.1) (F.qn rfl (r_load ta3 rfl (fun w hw=>cell_0 (Rd.flat ((fun _ hw=>hr_a0_2.sep hw) w hw) (rdl_some h85).2.2) rfl)) ?_))))
       refine F.qcn rfl (q_callF (xs:=_) rfl ok46 rfl rfl (fun w hw=>spec_l2Set.ok h87 w)) ?_
       refine F.qn rfl (r_not rfl) (F.nil (Nrm.seq (Tri.cond (b:=!t87) rfl (fun g_5=>?_) (fun g_5=>?_))))
       ·replace hE_4:=if_tt g_5 hE_4
        refine Tri.seq (Tri.reg (l:=[0]) rfl ?_)
        refine F.qn rfl (r_assign rfl) (F.nil (Nrm.seq (Tri.ret ?_)))
        refine Rtn.block ?_
        refine Rtn.then ?_
        refine Rtn.then ?_
        refine Rtn.block ?_
        refine Rtn.then ?_
        cases hE_4
        replace h:=Lr_inr h
        cases h
        exact Rtn.body (.tmp rfl .nil) (fun w hw=>⟨rfl,hw.ext⟩)
       ·replace hE_4:=if_ff g_5 hE_4
        refine Tri.skip (Nrm.block ?_)
        refine Nrm.seq (Tri.reg (l:=[0,1,2]) rfl ?_)
        refine F.qn rfl (r_move rfl) (F.qn rfl (r_add rfl rfl) (F.qn rfl (r_assign rfl) (F.nil (Nrm.round ?_))))
        refine Rnd.only [1,5] rfl ?_
        refine Rnd.pick [0] rfl rfl ?_
        exact ih_2 _ _ ⟨w64 (x5 + 1),hE_4,rfl,rfl⟩
      ·replace hE_4:=if_ff g_4 hE_4
       refine Tri.exit ?_
       refine Exi.then ?_
       refine Exi.then ?_
       refine Exi.same ?_
       cases hE_4
       replace h:=Lr_inl h
       refine Nrm.seq (Tri.seq (Tri.reg (l:=[0]) rfl ?_))
       refine F.qn rfl (r_assign rfl) (F.nil (Nrm.seq (Tri.ret ?_)))
       cases h
       exact Rtn.body (.tmp rfl .nil) (fun w hw=>⟨rfl,hw.ext⟩)
 ·obtain ⟨t8,h8,hE_1⟩:=bind_some hE_1
  rcases Bool.eq_false_or_eq_true (!t8) with g10 | g10
  ·replace hE_1:=if_tt g10 hE_1
   refine Tri.reg (l:=List.range 18) rfl ?_
   refine F.qn rfl (r_fieldAddr tf29_0 rfl) (F.qn rfl (r_load ta3 rfl (fun w hw=>cell_1 (box_cells (i:=0) rfl w hw) rfl)) ?_)
   refine F.qcn rfl (q_callF (xs:=_) rfl ok14 rfl rfl (fun w hw=>spec_l1In.ok h8 w)) ?_
   refine F.qn rfl (r_not rfl) (F.qn rfl (r_move rfl) ?_)
   iterate 4 refine F.skf rfl g10 ?_
   refine F.qn rfl (r_pick rfl rfl g10) (F.qn rfl (r_move rfl) ?_)
   iterate 6 refine F.skf rfl rfl ?_
   refine F.qn rfl (r_pick rfl rfl rfl) (F.nil ?_)
   cases hE_1
   refine Nrm.only [1,23] rfl ?_
   refine Nrm.pick [0] rfl rfl ?_
   exact hj_1 _ _ ⟨rfl,rfl⟩
  ·replace hE_1:=if_ff g10 hE_1
   rcases Bool.eq_false_or_eq_true (decide ((a0_1.length : Int) > 30)) with g16 | g16
   ·replace hE_1:=if_tt g16 hE_1
    refine Tri.reg (l:=List.range 18) rfl ?_
    refine F.qn rfl (r_fieldAddr tf29_0 rfl) (F.qn rfl (r_load ta3 rfl (fun w hw=>cell_1 (box_cells (i:=0) rfl w hw) rfl)) ?_)
    refine F.qcn rfl (q_callF (xs:=_) rfl ok14 rfl rfl (fun w hw=>spec_l1In.ok h8 w)) ?_
    refine F.qn rfl (r_not rfl) (F.qn rfl (r_move rfl) ?_)
    refine F.qg rfl g10 (r_fieldAddr tf29_1 rfl) (F.qg rfl g10 (r_load ta22 rfl (fun w hw=>cell_1 (box_cells (i:=0) rfl w hw) rfl)) (F.qg rfl g10 (r_len Try.underlying22 rfl hl_va0_1) (F.qg rfl g10 (r_gtr rfl rfl) (F.qn rfl (r_pickf rfl rfl g10) (F.qn rfl (r_move rfl) ?_)))))
    iterate 6 refine F.skf rfl g16 ?_
    refine F.qn rfl (r_pick rfl rfl g16) (F.nil ?_)
    cases hE_1
    refine Nrm.only [1,23] rfl ?_
    refine Nrm.pick [0] rfl rfl ?_
    exact hj_1 _ _ ⟨rfl,rfl⟩
   ·replace hE_1:=if_ff g16 hE_1
    refine Tri.reg (l:=List.range 18) rfl ?_
    refine F.qn rfl (r_fieldAddr tf29_0 rfl) (F.qn rfl (r_load ta3 rfl (fun w hw=>cell_1 (box_cells (i:=0) rfl w hw) rfl)) ?_)
    refine F.qcn rfl (q_callF (xs:=_) rfl ok14 rfl rfl (fun w hw=>spec_l1In.ok h8 w)) ?_
    refine F.qn rfl (r_not rfl) (F.qn rfl (r_move rfl) (F.qg rfl g10 (r_fieldAddr tf29_1 rfl) ?_))
    refine F.qg rfl g10 (r_load ta22 rfl (fun w hw=>cell_1 (box_cells (i:=0) rfl w hw) rfl)) (F.qg rfl g10 (r_len Try.underlying22 rfl hl_va0_1) (F.qg rfl g10 (r_gtr rfl rfl) (F.qn rfl (r_pickf rfl rfl g10) (F.qn rfl (r_move rfl) (F.qg rfl g16 (r_fieldAddr tf29_2 rfl) ?_)))))
    refine F.qg rfl g16 (r_load ta23 rfl (fun w hw=>cell_1 (box_cells (i:=0) rfl w hw) rfl)) (F.qg rfl g16 (r_len Try.underlying23 rfl hl_va0_2) (F.qg rfl g16 (r_fieldAddr tf29_0 rfl) (F.qg rfl g16 (r_load ta3 rfl (fun w hw=>cell_1 (box_cells (i:=0) rfl w hw) rfl)) (F.qg rfl g16 (r_neq rfl rfl) (F.qn rfl (r_pickf rfl rfl g16) (F.nil ?_))))))
    cases hE_1
    refine Nrm.only [1,23] rfl ?_
    refine Nrm.pick [0] rfl rfl ?_
    exact hj_1 _ _ ⟨rfl,rfl⟩


def spec_l1Rising.l0 (k : Nat) (a0 : List Int) (a1 : Int) (a2 : Int) : Nat → Int → Option ((Unit) ⊕ (Bool))
 | 0,_=>none
 | n + 1,x7=>(if (decide (x7 < (a0.length : Int))) = true then ((rdl a0 x7).bind fun t16=>(spec_l1In.f k t16 a1 a2).bind fun t20=>(if (!t20) = true then some true else (if (decide (x7 > 0)) = true then (rdl a0 (w64 (x7 - 1))).bind fun t29=>(rdl a0 x7).bind fun t33=>some (decide (t29 ≥ t33)) else some false))).bind fun y37=>(if y37 = true then some (Sum.inr false) else spec_l1Rising.l0 k a0 a1 a2 n (w64 (x7 + 1))) else some (Sum.inl ()))

def spec_l1Rising.f (k : Nat) (a0 : List Int) (a1 : Int) (a2 : Int) : Option (Bool) := (spec_l1Rising.l0 k a0 a1 a2 k 0).bind fun s => Lr s some fun _ => some true

theorem spec_l1Rising.ok {k : Nat}  {a0 : List Int} {a1 : Int} {a2 : Int} {r0 : Bool} (h : spec_l1Rising.f k a0 a1 a2 = some r0) (w : World) {va0 : Value} (hr_a0 : Rd w va0 a0) :
  Calls Try.prog 34 ([va0,.int .i64 a1,.int .i64 a2] : List Value).toArray w (fun e w'=>e = .returned (.bool r0)∧Ext w w'):=by
 unfold spec_l1Rising.f at h
 have hl_va0:=hr_a0.len
 refine Calls.of_tri (N:=38) Try.func34 rfl rfl rfl (Sep.nil (M:=noM)) ?_
 refine Tri.seq (Tri.reg (l:=[0]) rfl ?_)
 refine F.qn rfl (r_assign rfl) (F.nil (Nrm.seq (Tri.seq (Tri.seq (Tri.reg (l:=[0]) rfl ?_)))))
 refine F.qn rfl (r_assign rfl) (F.nil (Nrm.seq ?_))
 obtain ⟨s0,hE_1,h⟩:=bind_some h
 refine Tri.block ?_
 refine Tri.only [0,1,2,7] rfl ?_
 refine Tri.pick [] rfl rfl ?_
 refine Tri.rounds (fun n e' C'=>∃ (x7' : Int),spec_l1Rising.l0 k a0 a1 a2 n x7' = some s0∧e' = [(0,va0),(1,.int .i64 a1),(2,.int .i64 a2),(7,.int .i64 x7')]∧C' = Sep w noM []) k ?_ ?_ ?_
 ·exact ⟨0,hE_1,rfl,rfl⟩
 ·rintro _ _ ⟨_,hE_1,_⟩
  rw [spec_l1Rising.l0.eq_1] at hE_1; cases hE_1
 ·rintro n_1 _ _ ⟨x7,hE_1,rfl,rfl⟩ ih_1
  rw [spec_l1Rising.l0.eq_2] at hE_1
  refine Tri.seq (Tri.seq (Tri.reg (l:=[0,1,2,3]) rfl ?_))
  refine F.qn rfl (r_move rfl) (F.qn rfl (r_move rfl) (F.qn rfl (r_len Try.underlying23 rfl hl_va0) (F.qn rfl (r_lss rfl rfl) (F.nil (Nrm.seq (Tri.cond (b:=decide (x7 < (a0.length : Int))) rfl (fun g_1=>?_) (fun g_1=>?_)))))))
  ·replace hE_1:=if_tt g_1 hE_1
   refine Tri.skip (Nrm.seq (Tri.seq (Tri.block ?_)))
   refine Tri.seq ?_
   obtain ⟨y37,hE_2,hE_1⟩:=bind_some hE_1
   refine Tri.cut (fun e' C'=>e' = [(0,va0),(1,.int .i64 a1),(2,.int .i64 a2),(7,.int .i64 x7),(37,.bool y37)]∧C' = Sep w noM []) ?_ (fun hj_1=>?_)
   ·rintro _ _ ⟨rfl,rfl⟩
    refine Nrm.seq (Tri.cond (b:=y37) rfl (fun g_2=>?_) (fun g_2=>?_))
    ·replace hE_1:=if_tt g_2 hE_1
     refine Tri.seq (Tri.reg (l:=[0]) rfl ?_)
     refine F.qn rfl (r_assign rfl) (F.nil (Nrm.seq (Tri.ret ?_)))
     refine Rtn.block ?_
     refine Rtn.then ?_
     refine Rtn.then ?_
     refine Rtn.block ?_
     refine Rtn.then ?_
     cases hE_1
     replace h:=Lr_inr h
     cases h
     exact Rtn.body (.tmp rfl .nil) (fun w hw=>⟨rfl,hw.ext⟩)
    ·replace hE_1:=if_ff g_2 hE_1
     refine Tri.skip (Nrm.block ?_)
     refine Nrm.seq (Tri.reg (l:=[0,1,2]) rfl ?_)
     refine F.qn rfl (r_move rfl) (F.qn rfl (r_add rfl rfl) (F.qn rfl (r_assign rfl) (F.nil (Nrm.round ?_))))
     refine Rnd.only [0,1,2,7] rfl ?_
     refine Rnd.pick [] rfl rfl ?_
     exact ih_1 _ _ ⟨w64 (x7 + 1),hE_1,rfl,rfl⟩
   ·obtain ⟨t16,h16,hE_2⟩:=bind_some hE_2
    obtain ⟨t20,h20,hE_2⟩:=bind_some hE_2
    rcases Bool.eq_false_or_eq_true (!t20) with g22 | g22
    ·replace hE_2:=if_tt g22 hE_2
     refine Tri.drawA mixedT Sep.up [(0,true),(1,true),(2,true),(3,true),(4,true),(5,true),(6,true),(7,true),(8,true),(9,true),(10,true),(11,true),(12,true),(13,true),(14,true),(15,true),(16,true),(17,true),(18,true),(19,true),(20,true),(21,true),(22,true),(23,true)] [] (by kernel_rfl) ?_
     refine S.qn rfl (r_move rfl) (S.qn rfl (r_move rfl) (S.qn rfl (r_indexAddrS Try.underlying23 ti3 rfl hl_va0 rfl (rdl_some h16).1 (rdl_some h16).2.1) (S.qn rfl (r_load ta3 rfl (fun w hw=>cell_0 (Rd.flat ((fun _ hw=>hr_a0.sep hw) w hw) (rdl_some h16).2.2) rfl)) (S.qn rfl (r_move rfl) (S.qn rfl (r_move rfl) ?_)))))
     refine S.qcn rfl (q_callF (xs:=_) rfl ok14 rfl rfl (fun w hw=>spec_l1In.ok h20 w)) ?_
     refine S.qn rfl (r_not rfl) (S.qn rfl (r_move rfl) ?_)
     iterate 3 refine S.skf rfl g22 ?_
     iterate 10 refine S.sk rfl rfl rfl (wanted_undef rfl rfl rfl) ?_
     refine S.skf rfl g22 (S.qn rfl (r_pick rfl rfl g22) (S.nil (F.nil ?_)))
     cases hE_2
     refine Nrm.only [0,1,2,7,37] rfl ?_
     refine Nrm.pick [] rfl rfl ?_
     exact hj_1 _ _ ⟨rfl,rfl⟩
    ·replace hE_2:=if_ff g22 hE_2
     rcases Bool.eq_false_or_eq_true (decide (x7 > 0)) with g25 | g25
     ·replace hE_2:=if_tt g25 hE_2
      obtain ⟨t29,h29,hE_2⟩:=bind_some hE_2
      obtain ⟨t33,h33,hE_2⟩:=bind_some hE_2
      refine Tri.drawA mixedT Sep.up [(0,true),(1,true),(2,true),(3,true),(4,true),(5,true),(6,true),(7,true),(8,true),(9,true),(10,true),(11,true),(12,true),(13,true),(14,true),(15,true),(16,true),(17,true),(18,true),(19,true),(20,true),(21,true),(22,true),(23,true)] [] (by kernel_rfl) ?_
      refine S.qn rfl (r_move rfl) (S.qn rfl (r_move rfl) (S.qn rfl (r_indexAddrS Try.underlying23 ti3 rfl hl_va0 rfl (rdl_some h16).1 (rdl_some h16).2.1) (S.qn rfl (r_load ta3 rfl (fun w hw=>cell_0 (Rd.flat ((fun _ hw=>hr_a0.sep hw) w hw) (rdl_some h16).2.2) rfl)) (S.qn rfl (r_move rfl) (S.qn rfl (r_move rfl) ?_)))))
      refine S.qcn rfl (q_callF (xs:=_) rfl ok14 rfl rfl (fun w hw=>spec_l1In.ok h20 w)) ?_
      refine S.qn rfl (r_not rfl) (S.qn rfl (r_move rfl) (S.qg rfl g22 (r_move rfl) (S.qg rfl g22 (r_gtr rfl rfl) (S.qg rfl g22 (r_move rfl) ?_))))
      refine S.qg rfl g25 (r_move rfl) (S.qg rfl g25 (r_move rfl) (S.qg rfl g25 (r_sub rfl rfl) (S.qg rfl g25 (r_indexAddrS Try.underlying23 ti3 rfl hl_va0 rfl (rdl_some h29).1 (rdl_some h29).2.1) (S.qg rfl g25 (r_load ta3 rfl (fun w hw=>cell_0 (Rd.flat ((fun _ hw=>hr_a0.sep hw) w hw) (rdl_some h29).2.2) rfl)) (S.qg rfl g25 (r_move rfl) ?_)))))
      refine S.qg rfl g25 (r_move rfl) (S.qg rfl g25 (r_indexAddrS Try.underlying23 ti3 rfl hl_va0 rfl (rdl_some h33).1 (rdl_some h33).2.1) (S.qg rfl g25 (r_load ta3 rfl (fun w hw=>cell_0 (Rd.flat ((fun _ hw=>hr_a0.sep hw) w hw) (rdl_some h33).2.2) rfl)) (S.qg rfl g25 (r_geq rfl rfl) (S.qg rfl g22 (r_pick rfl rfl g25) (S.qn rfl (r_pickf rfl rfl g22) (S.nil (F.nil ?_)))))))
      cases hE_2
      refine Nrm.only [0,1,2,7,37] rfl ?_
      refine Nrm.pick [] rfl rfl ?_
      exact hj_1 _ _ ⟨rfl,rfl⟩
     ·replace hE_2:=if_ff g25 hE_2
      refine Tri.drawA mixedT Sep.up [(0,true),(1,true),(2,true),(3,true),(4,true),(5,true),(6,true),(7,true),(8,true),(9,true),(10,true),(11,true),(12,true),(13,true),(14,true),(15,true),(16,true),(17,true),(18,true),(19,true),(20,true),(21,true),(22,true),(23,true)] [] (by kernel_rfl) ?_
      refine S.qn rfl (r_move rfl) (S.qn rfl (r_move rfl) (S.qn rfl (r_indexAddrS Try.underlying23 ti3 rfl hl_va0 rfl (rdl_some h16).1 (rdl_some h16).2.1) (S.qn rfl (r_load ta3 rfl (fun w hw=>cell_0 (Rd.flat ((fun _ hw=>hr_a0.sep hw) w hw) (rdl_some h16).2.2) rfl)) (S.qn rfl (r_move rfl) (S.qn rfl (r_move rfl) ?_)))))
      refine S.qcn rfl (q_callF (xs:=_) rfl ok14 rfl rfl (fun w hw=>spec_l1In.ok h20 w)) ?_
      refine S.qn rfl (r_not rfl) (S.qn rfl (r_move rfl) (S.qg rfl g22 (r_move rfl) (S.qg rfl g22 (r_gtr rfl rfl) (S.qg rfl g22 (r_move rfl) ?_))))
      iterate 10 refine S.skf rfl g25 ?_
      refine S.qg rfl g22 (r_pickf rfl rfl g25) (S.qn rfl (r_pickf rfl rfl g22) (S.nil (F.nil ?_)))
      cases hE_2
      refine Nrm.only [0,1,2,7,37] rfl ?_
      refine Nrm.pick [] rfl rfl ?_
      exact hj_1 _ _ ⟨rfl,rfl⟩
  ·replace hE_1:=if_ff g_1 hE_1
   refine Tri.exit ?_
   refine Exi.then ?_
   refine Exi.then ?_
   refine Exi.same ?_
   cases hE_1
   replace h:=Lr_inl h
   refine Nrm.seq (Tri.seq (Tri.reg (l:=[0]) rfl ?_))
   refine F.qn rfl (r_assign rfl) (F.nil (Nrm.seq (Tri.ret ?_)))
   cases h
   exact Rtn.body (.tmp rfl .nil) (fun w hw=>⟨rfl,hw.ext⟩)


def spec_l11Trap.f (k : Nat) (a0_0 : Int) (a0_1 : List (Int × Int × Int)) (a0_2 : List Int) (a0_3 : List Int) : Option (Bool) := ((spec_l2Maze.f k a0_0 a0_1 a0_2).bind fun t5 => (if t5 = true then (spec_l1Rising.f k a0_3 0 (w64 ((a0_1.length : Int) - 1))).bind fun t14 => some t14 else some false)).bind fun y2 => some y2

theorem spec_l11Trap.ok {k : Nat}  {a0_0 : Int} {a0_1 : List (Int × Int × Int)} {a0_2 : List Int} {a0_3 : List Int} {r0 : Bool} (h : spec_l11Trap.f k a0_0 a0_1 a0_2 a0_3 = some r0) (w : World) {va0_1 : Value} {va0_2 : Value} {va0_3 : Value} (hr_a0_1 : Rd w va0_1 a0_1) (hr_a0_2 : Rd w va0_2 a0_2) (hr_a0_3 : Rd w va0_3 a0_3) :
  Calls Try.prog 13 ([.agg ([.int .i64 a0_0,va0_1,va0_2,va0_3].toArray)] : List Value).toArray w (fun e w'=>e = .returned (.bool r0)∧Ext w w'):=by
 unfold spec_l11Trap.f at h
 have hl_va0_1:=hr_a0_1.len
 have hl_va0_2:=hr_a0_2.len
 have hl_va0_3:=hr_a0_3.len
 refine Calls.of_tri (N:=16) Try.func13 rfl rfl rfl (Sep.nil (M:=noM)) ?_
 refine Tri.seq (Tri.reg (l:=[0,1]) rfl ?_)
 refine F.mn rfl (m_boxG rfl rfl) ?_
 rintro _ _ ⟨b1_1,rfl,rfl⟩
 refine F.qn rfl (r_assign rfl) (F.nil (Nrm.seq (Tri.seq ?_)))
 obtain ⟨y2,hE_1,h⟩:=bind_some h
 refine Tri.cut (fun e' C'=>e' = [(2,.bool y2)]∧C' = Sep w noM []) ?_ (fun hj_1=>?_)
 ·rintro _ _ ⟨rfl,rfl⟩
  refine Nrm.seq (Tri.ret ?_)
  cases h
  exact Rtn.body (.tmp rfl .nil) (fun w hw=>⟨rfl,hw.ext⟩)
 ·obtain ⟨t5,h5,hE_1⟩:=bind_some hE_1
  rcases Bool.eq_false_or_eq_true (t5) with g6 | g6
  ·replace hE_1:=if_tt g6 hE_1
   obtain ⟨t14,h14,hE_1⟩:=bind_some hE_1
   refine Tri.reg (l:=List.range 14) rfl ?_
   refine F.qn rfl (r_fieldAddr tf31_0 rfl) (F.qn rfl (r_loadA ta29 ti29 rfl rfl (fun w hw=>cells_1 (cs':=[.int .i64 a0_0,va0_1,va0_2]) (box_cells (i:=0) rfl w hw) rfl)) ?_)
   refine F.qcn rfl (q_callF (xs:=_) rfl ok33 rfl rfl (fun w hw=>spec_l2Maze.ok h5 w ((fun _ hw=>hr_a0_1.sep hw) w hw) ((fun _ hw=>hr_a0_2.sep hw) w hw))) ?_
   refine F.qn rfl (r_move rfl) (F.qg rfl g6 (r_fieldAddr tf31_1 rfl) ?_)
   refine F.qg rfl g6 (r_load ta23 rfl (fun w hw=>cell_1 (box_cells (i:=0) rfl w hw) rfl)) (F.qg rfl g6 (r_fieldAddr tf31_0 rfl) (F.qg rfl g6 (r_fieldAddr tf29_1 rfl) (F.qg rfl g6 (r_load ta22 rfl (fun w hw=>cell_2 (box_cells (i:=0) rfl w hw) rfl)) (F.qg rfl g6 (r_len Try.underlying22 rfl hl_va0_1) (F.qg rfl g6 (r_sub rfl rfl) ?_)))))
   refine F.qc rfl rfl rfl (wg rfl rfl rfl g6) (q_callF (xs:=_) rfl ok34 rfl rfl (fun w hw=>spec_l1Rising.ok h14 w ((fun _ hw=>hr_a0_3.sep hw) w hw))) ?_
   refine F.qn rfl (r_pick rfl rfl g6) (F.qn rfl (r_assign rfl) (F.nil ?_))
   cases hE_1
   refine Nrm.only [2] rfl ?_
   refine Nrm.pick [] rfl rfl ?_
   exact hj_1 _ _ ⟨rfl,rfl⟩
  ·replace hE_1:=if_ff g6 hE_1
   refine Tri.reg (l:=List.range 14) rfl ?_
   refine F.qn rfl (r_fieldAddr tf31_0 rfl) (F.qn rfl (r_loadA ta29 ti29 rfl rfl (fun w hw=>cells_1 (cs':=[.int .i64 a0_0,va0_1,va0_2]) (box_cells (i:=0) rfl w hw) rfl)) ?_)
   refine F.qcn rfl (q_callF (xs:=_) rfl ok33 rfl rfl (fun w hw=>spec_l2Maze.ok h5 w ((fun _ hw=>hr_a0_1.sep hw) w hw) ((fun _ hw=>hr_a0_2.sep hw) w hw))) ?_
   refine F.qn rfl (r_move rfl) ?_
   iterate 8 refine F.skf rfl g6 ?_
   refine F.qn rfl (r_pickf rfl rfl g6) (F.qn rfl (r_assign rfl) (F.nil ?_))
   cases hE_1
   refine Nrm.only [2] rfl ?_
   refine Nrm.pick [] rfl rfl ?_
   exact hj_1 _ _ ⟨rfl,rfl⟩


def spec_l1Own.f (k : Nat) (a0 : List Int) : Option ((List Int)) := if (([] : List (Int)) ++ a0).length < 1099511627776 then some (([] : List (Int)) ++ a0) else none

theorem spec_l1Own.ok {k : Nat}  {a0 : List Int} {r0 : List Int} (h : spec_l1Own.f k a0 = some r0) (w : World) {va0 : Value} (hr_a0 : Rd w va0 a0) :
  Calls Try.prog 35 ([va0] : List Value).toArray w (Post (fun u ns=>∃ (Sr0 : Nat → Prop),SlLen u r0.length∧ns = [R.sl Sr0 u r0]) w):=by
 unfold spec_l1Own.f at h
 have hl_va0:=hr_a0.len
 refine Calls.of_tri (N:=6) Try.func35 rfl rfl rfl (Sep.nil (M:=noM)) ?_
 refine Tri.seq (Tri.reg (l:=[0]) rfl ?_)
 refine F.qn rfl (r_assign rfl) (F.nil (Nrm.seq (Tri.seq ?_)))
 obtain ⟨hs5,h⟩:=ck h
 refine Tri.reg (l:=[0,1,2,3]) rfl ?_
 refine F.mn rfl (m_build0 (α:=Int) Try.underlying23 ti3) ?_
 rintro v3_1 _ ⟨S3_1,hl_v3_1,rfl⟩
 refine F.qn rfl (r_move rfl) ?_
 refine F.efn rfl (d_append (i:=0) Try.underlying23 Try.underlying23 ti3 rfl (by decide) rfl rfl rfl (fun _ hw=>hr_a0.sep hw) hs5) ?_
 rintro v5_1 _ ⟨S5_1,rfl,hl_v5_1⟩
 refine F.qn rfl (r_assign rfl) (F.nil (Nrm.seq (Tri.ret ?_)))
 cases h
 exact Rtn.body (.tmp rfl .nil) (fun w hw=>⟨_,_,rfl,⟨S5_1,hl_v5_1,rfl⟩,Sep.pick (is:=[0]) rfl rfl hw⟩)


def spec_l2Own.f (k : Nat) (a0_0 : Int) (a0_1 : List (Int × Int × Int)) (a0_2 : List Int) : Option (Int × (List (Int × Int × Int)) × (List Int)) := if (([] : List (Int × Int × Int)) ++ a0_1).length < 1099511627776 then (spec_l1Own.f k a0_2).bind fun t11 => some (a0_0, ([] : List (Int × Int × Int)) ++ a0_1, t11) else none

theorem spec_l2Own.ok {k : Nat}  {a0_0 : Int} {a0_1 : List (Int × Int × Int)} {a0_2 : List Int} {r0 : Int} {r1 : List (Int × Int × Int)} {r2 : List Int} (h : spec_l2Own.f k a0_0 a0_1 a0_2 = some (r0, r1, r2)) (w : World) {va0_1 : Value} {va0_2 : Value} (hr_a0_1 : Rd w va0_1 a0_1) (hr_a0_2 : Rd w va0_2 a0_2) :
  Calls Try.prog 15 ([.agg ([.int .i64 a0_0,va0_1,va0_2].toArray)] : List Value).toArray w (Post (fun u ns=>∃ (ur1 : Value) (Sr1 : Nat → Prop) (ur2 : Value) (Sr2 : Nat → Prop),u = .agg [.int .i64 r0,ur1,ur2].toArray∧SlLen ur1 r1.length∧SlLen ur2 r2.length∧ns = [R.sl Sr1 ur1 r1,R.sl Sr2 ur2 r2]) w):=by
 unfold spec_l2Own.f at h
 have hl_va0_1:=hr_a0_1.len
 have hl_va0_2:=hr_a0_2.len
 refine Calls.of_tri (N:=13) Try.func15 rfl rfl rfl (Sep.nil (M:=noM)) ?_
 refine Tri.seq (Tri.reg (l:=[0,1]) rfl ?_)
 refine F.mn rfl (m_boxG rfl rfl) ?_
 rintro _ _ ⟨b1_1,rfl,rfl⟩
 refine F.mn rfl (m_alloc ti29) ?_
 rintro _ _ ⟨b2_1,rfl,rfl⟩
 refine F.nil (Nrm.seq (Tri.seq ?_))
 obtain ⟨hs8,h⟩:=ck h
 obtain ⟨t11,h11,h⟩:=bind_some h
 refine Tri.drawB mixedT Sep.up [(0,true),(1,true),(3,true),(4,true),(6,true),(7,true),(2,false),(5,false),(8,false)] [9,10] (by kernel_rfl) ?_
 refine B.q rfl rfl rfl (wanted_none rfl) (r_fieldAddr tf29_0 rfl) ?_
 refine B.q rfl rfl rfl (wanted_none rfl) (r_load ta3 rfl (fun w hw=>cell_1 (box_cells (i:=1) rfl w hw) rfl)) ?_
 refine B.q rfl rfl rfl (wanted_none rfl) (r_fieldAddr tf29_1 rfl) ?_
 refine B.q rfl rfl rfl (wanted_none rfl) (r_load ta22 rfl (fun w hw=>cell_1 (box_cells (i:=1) rfl w hw) rfl)) ?_
 refine B.q rfl rfl rfl (wanted_none rfl) (r_fieldAddr tf29_2 rfl) ?_
 refine B.q rfl rfl rfl (wanted_none rfl) (r_load ta23 rfl (fun w hw=>cell_1 (box_cells (i:=1) rfl w hw) rfl)) ?_
 refine B.ef rfl rfl rfl (wanted_none rfl) (Makes.does (m_build0 (α:=Int × Int × Int) Try.underlying22 ti61)) (by rintro v5_2 _ ⟨S5_2,hl_v5_2,rfl⟩; exact upd rfl [1,2] rfl rfl) ?_
 rintro v5_2 _ ⟨S5_2,hl_v5_2,rfl⟩
 refine B.ef rfl rfl rfl (wanted_none rfl) (d_append (i:=0) Try.underlying22 Try.underlying22 ti61 rfl (by decide) rfl rfl rfl (fun _ hw=>hr_a0_1.sep hw) hs8) (by rintro v8_2 _ ⟨S8_2,rfl,hl_v8_2⟩; exact upd rfl [1,2] rfl rfl) ?_
 rintro v8_2 _ ⟨S8_2,rfl,hl_v8_2⟩
 refine B.ef rfl rfl rfl (wanted_none rfl) (Makes.does (m_callF (xs:=_) rfl ok35 rfl rfl (fun w hw=>spec_l1Own.ok h11 w ((fun _ hw=>hr_a0_2.sep hw) w hw)))) (by rintro v11_2 _ ⟨_,⟨S11_2,hl_v11_2,rfl⟩,rfl⟩; exact upd rfl [2,3] rfl rfl) ?_
 rintro v11_2 _ ⟨_,⟨S11_2,hl_v11_2,rfl⟩,rfl⟩
 refine B.nil ?_
 refine F.qn rfl (r_build (pl:=[(0,1),(1,1),(2,1)]) (qs:=[(0,[.int .i64 a0_0]),(1,[v8_2]),(2,[v11_2])]) (cs:=[.int .i64 a0_0,v8_2,v11_2]) (by kernel_rfl) ti29 rfl (.cons rfl rfl (Nat.le_of_ble_eq_true rfl) (.cons (sl_cells hl_v8_2) rfl (Nat.le_of_ble_eq_true rfl) (.cons (sl_cells hl_v11_2) rfl (Nat.le_of_ble_eq_true rfl) .nil))) rfl rfl) ?_
 refine F.ef0 rfl rfl (wanted_none rfl) (d_storeG0 (i:=2) (cs2:=[.int .i64 a0_0,v8_2,v11_2]) ti29 rfl rfl rfl rfl rfl (Nat.le_of_ble_eq_true rfl) (lf_cons rfl (lf_cons (sl_leaf hl_v8_2) (lf_cons (sl_leaf hl_v11_2) lf_nil)))) ?_
 rintro _ _ ⟨rfl,rfl⟩
 refine F.nil (Nrm.seq (Tri.ret ?_))
 cases h
 exact Rtn.body (.cell rfl ta29 ti29 rfl (fun _ hw=>box_cells (i:=2) rfl _ hw) .nil) (fun w hw=>⟨_,_,rfl,⟨v8_2,S8_2,v11_2,S11_2,rfl,hl_v8_2,hl_v11_2,rfl⟩,Sep.pick (is:=[1,0]) rfl rfl hw⟩)


def spec_l1Has.l0 (k : Nat) (a0 : List Int) (a1 : Int) : Nat → Int → Option ((Unit) ⊕ (Bool))
 | 0,_=>none
 | n + 1,x5=>(if (decide (x5 < (a0.length : Int))) = true then (rdl a0 x5).bind fun t14=>(if (t14 == a1) = true then some (Sum.inr true) else spec_l1Has.l0 k a0 a1 n (w64 (x5 + 1))) else some (Sum.inl ()))

def spec_l1Has.f (k : Nat) (a0 : List Int) (a1 : Int) : Option (Bool) := (spec_l1Has.l0 k a0 a1 k 0).bind fun s => Lr s some fun _ => some false

theorem spec_l1Has.ok {k : Nat}  {a0 : List Int} {a1 : Int} {r0 : Bool} (h : spec_l1Has.f k a0 a1 = some r0) (w : World) {va0 : Value} (hr_a0 : Rd w va0 a0) :
  Calls Try.prog 16 ([va0,.int .i64 a1] : List Value).toArray w (fun e w'=>e = .returned (.bool r0)∧Ext w w'):=by
 unfold spec_l1Has.f at h
 have hl_va0:=hr_a0.len
 refine Calls.of_tri (N:=18) Try.func16 rfl rfl rfl (Sep.nil (M:=noM)) ?_
 refine Tri.seq (Tri.reg (l:=[0]) rfl ?_)
 refine F.qn rfl (r_assign rfl) (F.nil (Nrm.seq (Tri.seq (Tri.seq (Tri.reg (l:=[0]) rfl ?_)))))
 refine F.qn rfl (r_assign rfl) (F.nil (Nrm.seq ?_))
 obtain ⟨s0,hE_1,h⟩:=bind_some h
 refine Tri.block ?_
 refine Tri.only [0,1,5] rfl ?_
 refine Tri.pick [] rfl rfl ?_
 refine Tri.rounds (fun n e' C'=>∃ (x5' : Int),spec_l1Has.l0 k a0 a1 n x5' = some s0∧e' = [(0,va0),(1,.int .i64 a1),(5,.int .i64 x5')]∧C' = Sep w noM []) k ?_ ?_ ?_
 ·exact ⟨0,hE_1,rfl,rfl⟩
 ·rintro _ _ ⟨_,hE_1,_⟩
  rw [spec_l1Has.l0.eq_1] at hE_1; cases hE_1
 ·rintro n_1 _ _ ⟨x5,hE_1,rfl,rfl⟩ ih_1
  rw [spec_l1Has.l0.eq_2] at hE_1
  refine Tri.seq (Tri.seq (Tri.reg (l:=[0,1,2,3]) rfl ?_))
  refine F.qn rfl (r_move rfl) (F.qn rfl (r_move rfl) (F.qn rfl (r_len Try.underlying23 rfl hl_va0) (F.qn rfl (r_lss rfl rfl) (F.nil (Nrm.seq (Tri.cond (b:=decide (x5 < (a0.length : Int))) rfl (fun g_1=>?_) (fun g_1=>?_)))))))
  ·replace hE_1:=if_tt g_1 hE_1
   refine Tri.skip (Nrm.seq (Tri.seq (Tri.block ?_)))
   refine Tri.seq ?_
   obtain ⟨t14,h14,hE_1⟩:=bind_some hE_1
   refine Tri.reg (l:=[0,1,2,3,4,5]) rfl ?_
   refine F.qn rfl (r_move rfl) (F.qn rfl (r_move rfl) (F.qn rfl (r_indexAddrS Try.underlying23 ti3 rfl hl_va0 rfl (rdl_some h14).1 (rdl_some h14).2.1) (F.qn rfl (r_load ta3 rfl (fun w hw=>cell_0 (Rd.flat ((fun _ hw=>hr_a0.sep hw) w hw) (rdl_some h14).2.2) rfl)) (F.qn rfl (r_move rfl) (F.qn rfl (r_eql rfl rfl) (F.nil (Nrm.seq (Tri.cond (b:=t14 == a1) rfl (fun g_2=>?_) (fun g_2=>?_)))))))))
   ·replace hE_1:=if_tt g_2 hE_1
    refine Tri.seq (Tri.reg (l:=[0]) rfl ?_)
    refine F.qn rfl (r_assign rfl) (F.nil (Nrm.seq (Tri.ret ?_)))
    refine Rtn.block ?_
    refine Rtn.then ?_
    refine Rtn.then ?_
    refine Rtn.block ?_
    refine Rtn.then ?_
    cases hE_1
    replace h:=Lr_inr h
    cases h
    exact Rtn.body (.tmp rfl .nil) (fun w hw=>⟨rfl,hw.ext⟩)
   ·replace hE_1:=if_ff g_2 hE_1
    refine Tri.skip (Nrm.block ?_)
    refine Nrm.seq (Tri.reg (l:=[0,1,2]) rfl ?_)
    refine F.qn rfl (r_move rfl) (F.qn rfl (r_add rfl rfl) (F.qn rfl (r_assign rfl) (F.nil (Nrm.round ?_))))
    refine Rnd.only [0,1,5] rfl ?_
    refine Rnd.pick [] rfl rfl ?_
    exact ih_1 _ _ ⟨w64 (x5 + 1),hE_1,rfl,rfl⟩
  ·replace hE_1:=if_ff g_1 hE_1
   refine Tri.exit ?_
   refine Exi.then ?_
   refine Exi.then ?_
   refine Exi.same ?_
   cases hE_1
   replace h:=Lr_inl h
   refine Nrm.seq (Tri.seq (Tri.reg (l:=[0]) rfl ?_))
   refine F.qn rfl (r_assign rfl) (F.nil (Nrm.seq (Tri.ret ?_)))
   cases h
   exact Rtn.body (.tmp rfl .nil) (fun w hw=>⟨rfl,hw.ext⟩)


def spec_TurnDoor.l0 (k : Nat) (a0_1 : List (Int × Int × Int)) (a0_3 : List Int) (a1 : Int) : Nat → Int → (List (Int)) → Option ((List (Int)))
 | 0,_,_=>none
 | n + 1,x7,xq6_1_3=>(if (decide (x7 < (a0_1.length : Int))) = true then (spec_l1Has.f k a0_3 x7).bind fun t38=>((if (t38 != (x7 == a1)) = true then if (xq6_1_3 ++ ([x7] : List (Int))).length < 1099511627776 then some (xq6_1_3 ++ ([x7] : List (Int))) else none else some xq6_1_3)).bind fun yb6_1_3=>spec_TurnDoor.l0 k a0_1 a0_3 a1 n (w64 (x7 + 1)) yb6_1_3 else some xq6_1_3)

def spec_TurnDoor.f (k : Nat) (a0_0 : Int) (a0_1 : List (Int × Int × Int)) (a0_2 : List Int) (a0_3 : List Int) (a1 : Int) : Option (Int × (List (Int × Int × Int)) × (List Int) × (List Int) × Bool) := ((spec_l11Trap.f k a0_0 a0_1 a0_2 a0_3).bind fun t9 => (if (!t9) = true then some true else (spec_l1In.f k a1 0 (w64 ((a0_1.length : Int) - 1))).bind fun t18 => some (!t18))).bind fun y20 => (if y20 = true then some (0, [], [], [], false) else (spec_l2Own.f k a0_0 a0_1 a0_2).bind fun (t24_1, t24_2, t24_3) => (spec_TurnDoor.l0 k a0_1 a0_3 a1 k 0 ([] : List (Int))).bind fun xq6_1_3 => some (t24_1, t24_2, t24_3, xq6_1_3, true))

theorem spec_TurnDoor.ok {k : Nat}  {a0_0 : Int} {a0_1 : List (Int × Int × Int)} {a0_2 : List Int} {a0_3 : List Int} {a1 : Int} {r0 : Int} {r1 : List (Int × Int × Int)} {r2 : List Int} {r3 : List Int} {r4 : Bool} (h : spec_TurnDoor.f k a0_0 a0_1 a0_2 a0_3 a1 = some (r0, r1, r2, r3, r4)) (w : World) {va0_1 : Value} {va0_2 : Value} {va0_3 : Value} (hr_a0_1 : Rd w va0_1 a0_1) (hr_a0_2 : Rd w va0_2 a0_2) (hr_a0_3 : Rd w va0_3 a0_3) :
  Calls Try.prog 5 ([.agg ([.int .i64 a0_0,va0_1,va0_2,va0_3].toArray),.int .i64 a1] : List Value).toArray w (Post (fun u ns=>∃ (ur1 : Value) (Sr1 : Nat → Prop) (ur2 : Value) (Sr2 : Nat → Prop) (ur3 : Value) (Sr3 : Nat → Prop),u = .tuple #[.agg [.int .i64 r0,ur1,ur2,ur3].toArray,.bool r4]∧SlLen ur1 r1.length∧SlLen ur2 r2.length∧SlLen ur3 r3.length∧ns = [R.sl Sr1 ur1 r1,R.sl Sr2 ur2 r2,R.sl Sr3 ur3 r3]) w):=by
 unfold spec_TurnDoor.f at h
 have hl_va0_1:=hr_a0_1.len
 have hl_va0_2:=hr_a0_2.len
 have hl_va0_3:=hr_a0_3.len
 refine Calls.of_tri (N:=50) Try.func5 rfl rfl rfl (Sep.nil (M:=noM)) ?_
 refine Tri.seq (Tri.reg (l:=[0,1,2]) rfl ?_)
 refine F.mn rfl (m_boxG rfl rfl) ?_
 rintro _ _ ⟨b2_1,rfl,rfl⟩
 refine F.mn rfl (m_alloc ti31) ?_
 rintro _ _ ⟨b4_1,rfl,rfl⟩
 refine F.qn rfl (r_assign rfl) (F.nil (Nrm.seq (Tri.seq (Tri.seq ?_))))
 obtain ⟨y20,hE_1,h⟩:=bind_some h
 refine Tri.cut (fun e' C'=>e' = [(1,.int .i64 a1),(2,.pointer (some ⟨b2_1,0,none⟩)),(4,.pointer (some ⟨b4_1,0,none⟩)),(20,.bool y20)]∧C' = Sep w noM [R.box b4_1 31 [.int .i64 0,.slice none 0 0,.slice none 0 0,.slice none 0 0],R.box b2_1 31 [.int .i64 a0_0,va0_1,va0_2,va0_3]]) ?_ (fun hj_1=>?_)
 ·rintro _ _ ⟨rfl,rfl⟩
  refine Nrm.seq (Tri.cond (b:=y20) rfl (fun g_1=>?_) (fun g_1=>?_))
  ·replace h:=if_tt g_1 h
   refine Tri.seq (Tri.reg (l:=[0,1,2]) rfl ?_)
   refine F.qn rfl (r_build (pl:=[(0,3),(3,1)]) (qs:=[]) (cs:=[.int .i64 0,.slice none 0 0,.slice none 0 0,.slice none 0 0]) (by kernel_rfl) ti31 rfl .nil rfl rfl) ?_
   refine F.ef0 rfl rfl (wanted_none rfl) (d_storeG0 (i:=0) (cs2:=[.int .i64 0,.slice none 0 0,.slice none 0 0,.slice none 0 0]) ti31 rfl rfl rfl rfl rfl (Nat.le_of_ble_eq_true rfl) (lf_cons rfl (lf_cons rfl (lf_cons rfl (lf_cons rfl lf_nil))))) ?_
   rintro _ _ ⟨rfl,rfl⟩
   refine F.qn rfl (r_assign rfl) (F.nil (Nrm.seq (Tri.ret ?_)))
   refine Rtn.then ?_
   cases h
   exact Rtn.body (.cell rfl ta31 ti31 rfl (fun _ hw=>box_cells (i:=0) rfl _ hw) (.tmp rfl .nil)) (fun w hw=>⟨_,_,rfl,⟨.slice none 0 0,fun _=>False,.slice none 0 0,fun _=>False,.slice none 0 0,fun _=>False,rfl,len_nil,len_nil,len_nil,rfl⟩,Sep.pick (is:=[0,1,2]) rfl rfl hw.pushNil.pushNil.pushNil⟩)
  ·replace h:=if_ff g_1 h
   refine Tri.skip (Nrm.seq (Tri.seq ?_))
   obtain ⟨⟨t24_1,t24_2,t24_3⟩,h24,h⟩:=bind_some h
   refine Tri.reg (l:=[0,1,2,3,4,5,6]) rfl ?_
   refine F.qn rfl (r_fieldAddr tf31_0 rfl) (F.qn rfl (r_loadA ta29 ti29 rfl rfl (fun w hw=>cells_1 (cs':=[.int .i64 a0_0,va0_1,va0_2]) (box_cells (i:=1) rfl w hw) rfl)) ?_)
   refine F.mn rfl (m_callF (xs:=_) rfl ok15 rfl rfl (fun w hw=>spec_l2Own.ok h24 w ((fun _ hw=>hr_a0_1.sep hw) w hw) ((fun _ hw=>hr_a0_2.sep hw) w hw))) ?_
   rintro _ _ ⟨_,⟨v24_1,S24_1,v24_2,S24_2,rfl,hl_v24_1,hl_v24_2,rfl⟩,rfl⟩
   refine F.mn rfl (m_build0 (α:=Int) Try.underlying23 ti3) ?_
   rintro v25_1 _ ⟨S25_1,hl_v25_1,rfl⟩
   refine F.qn rfl (r_build (pl:=[(0,3),(3,1)]) (qs:=[(0,[.int .i64 t24_1,v24_1,v24_2]),(3,[v25_1])]) (cs:=[.int .i64 t24_1,v24_1,v24_2,v25_1]) (by kernel_rfl) ti31 rfl (.cons rfl rfl (Nat.le_of_ble_eq_true rfl) (.cons (sl_cells hl_v25_1) rfl (Nat.le_of_ble_eq_true rfl) .nil)) rfl rfl) ?_
   refine F.mn rfl (m_alloc ti31) ?_
   rintro _ _ ⟨b6_1,rfl,rfl⟩
   refine F.ef0 rfl rfl (wanted_none rfl) (d_storeG0 (i:=0) (cs2:=[.int .i64 t24_1,v24_1,v24_2,v25_1]) ti31 rfl rfl rfl rfl rfl (Nat.le_of_ble_eq_true rfl) (lf_cons rfl (lf_cons (sl_leaf hl_v24_1) (lf_cons (sl_leaf hl_v24_2) (lf_cons (sl_leaf hl_v25_1) lf_nil))))) ?_
   rintro _ _ ⟨rfl,rfl⟩
   refine F.nil (Nrm.seq (Tri.seq (Tri.seq (Tri.reg (l:=[0]) rfl ?_))))
   refine F.qn rfl (r_assign rfl) (F.nil (Nrm.seq ?_))
   obtain ⟨xq6_1_3,hE_2,h⟩:=bind_some h
   refine Tri.block ?_
   refine Tri.only [1,2,4,6,7] rfl ?_
   refine Tri.pick [0,4,5,1,2,3] rfl rfl ?_
   refine Tri.rounds (fun n e' C'=>∃ (x7' : Int) (xq6_1_3' : List (Int)) (wq6_1_3 : Value) (Tq6_1_3 : Nat → Prop),spec_TurnDoor.l0 k a0_1 a0_3 a1 n x7' xq6_1_3' = some xq6_1_3∧SlLen wq6_1_3 (xq6_1_3').length∧e' = [(1,.int .i64 a1),(2,.pointer (some ⟨b2_1,0,none⟩)),(4,.pointer (some ⟨b4_1,0,none⟩)),(6,.pointer (some ⟨b6_1,0,none⟩)),(7,.int .i64 x7')]∧C' = Sep w noM [R.box b6_1 31 [.int .i64 t24_1,v24_1,v24_2,wq6_1_3],R.box b4_1 31 [.int .i64 0,.slice none 0 0,.slice none 0 0,.slice none 0 0],R.box b2_1 31 [.int .i64 a0_0,va0_1,va0_2,va0_3],R.sl Tq6_1_3 wq6_1_3 (xq6_1_3' : List (Int)),R.sl S24_1 v24_1 (t24_2 : List (Int × Int × Int)),R.sl S24_2 v24_2 (t24_3 : List (Int))]) k ?_ ?_ ?_
   ·exact ⟨0,([] : List (Int)),v25_1,S25_1,hE_2,hl_v25_1,rfl,rfl⟩
   ·rintro _ _ ⟨_,_,_,_,hE_2,_⟩
    rw [spec_TurnDoor.l0.eq_1] at hE_2; cases hE_2
   ·rintro n_1 _ _ ⟨x7,xq6_1_3,wq6_1_3,Tq6_1_3,hE_2,hl_wq6_1_3,rfl,rfl⟩ ih_1
    rw [spec_TurnDoor.l0.eq_2] at hE_2
    refine Tri.seq (Tri.seq (Tri.reg (l:=[0,1,2,3,4,5]) rfl ?_))
    refine F.qn rfl (r_move rfl) (F.qn rfl (r_fieldAddr tf31_0 rfl) (F.qn rfl (r_fieldAddr tf29_1 rfl) (F.qn rfl (r_load ta22 rfl (fun w hw=>cell_2 (box_cells (i:=2) rfl w hw) rfl)) (F.qn rfl (r_len Try.underlying22 rfl hl_va0_1) (F.qn rfl (r_lss rfl rfl) (F.nil (Nrm.seq (Tri.cond (b:=decide (x7 < (a0_1.length : Int))) rfl (fun g_2=>?_) (fun g_2=>?_)))))))))
    ·replace hE_2:=if_tt g_2 hE_2
     refine Tri.skip (Nrm.seq (Tri.seq (Tri.block ?_)))
     refine Tri.seq ?_
     obtain ⟨t38,h38,hE_2⟩:=bind_some hE_2
     refine Tri.reg (l:=[0,1,2,3,4,5,6,7]) rfl ?_
     refine F.qn rfl (r_fieldAddr tf31_1 rfl) (F.qn rfl (r_load ta23 rfl (fun w hw=>cell_1 (box_cells (i:=2) rfl w hw) rfl)) (F.qn rfl (r_move rfl) ?_))
     refine F.qcn rfl (q_callF (xs:=_) rfl ok16 rfl rfl (fun w hw=>spec_l1Has.ok h38 w ((fun _ hw=>hr_a0_3.sep hw) w hw))) ?_
     refine F.qn rfl (r_move rfl) (F.qn rfl (r_move rfl) (F.qn rfl (r_eql rfl rfl) (F.qn rfl (r_neqB Try.underlying4 rfl rfl) (F.nil (Nrm.seq ?_)))))
     obtain ⟨yb6_1_3,hE_3,hE_2⟩:=bind_some hE_2
     refine Tri.cut (fun e' C'=>∃ (vb6_1_3_1 : Value) (Sb6_1_3_1 : Nat → Prop),SlLen vb6_1_3_1 (yb6_1_3).length∧e' = [(1,.int .i64 a1),(2,.pointer (some ⟨b2_1,0,none⟩)),(4,.pointer (some ⟨b4_1,0,none⟩)),(6,.pointer (some ⟨b6_1,0,none⟩)),(7,.int .i64 x7)]∧C' = Sep w noM [R.box b6_1 31 [.int .i64 t24_1,v24_1,v24_2,vb6_1_3_1],R.box b4_1 31 [.int .i64 0,.slice none 0 0,.slice none 0 0,.slice none 0 0],R.box b2_1 31 [.int .i64 a0_0,va0_1,va0_2,va0_3],R.sl Sb6_1_3_1 vb6_1_3_1 (yb6_1_3 : List (Int)),R.sl S24_1 v24_1 (t24_2 : List (Int × Int × Int)),R.sl S24_2 v24_2 (t24_3 : List (Int))]) ?_ (fun hj_2=>?_)
     ·rintro _ _ ⟨vb6_1_3_1,Sb6_1_3_1,hl_vb6_1_3_1,rfl,rfl⟩
      refine Nrm.block ?_
      refine Nrm.seq (Tri.reg (l:=[0,1,2]) rfl ?_)
      refine F.qn rfl (r_move rfl) (F.qn rfl (r_add rfl rfl) (F.qn rfl (r_assign rfl) (F.nil (Nrm.round ?_))))
      refine Rnd.only [1,2,4,6,7] rfl ?_
      refine Rnd.pick [0,1,2,3,4,5] rfl rfl ?_
      exact ih_1 _ _ ⟨w64 (x7 + 1),yb6_1_3,vb6_1_3_1,Sb6_1_3_1,hE_2,hl_vb6_1_3_1,rfl,rfl⟩
     ·refine Tri.cond (b:=t38 != (x7 == a1)) rfl (fun g_3=>?_) (fun g_3=>?_)
      ·replace hE_3:=if_tt g_3 hE_3
       obtain ⟨hs47,hE_3⟩:=ck hE_3
       refine Tri.reg (l:=[0,1,2,3,4,5,6]) rfl ?_
       refine F.qn rfl (r_fieldAddr tf31_1 rfl) (F.qn rfl (r_load ta23 rfl (fun w hw=>cell_1 (box_cells (i:=0) rfl w hw) rfl)) (F.qn rfl (r_move rfl) ?_))
       refine F.mn rfl (m_buildF (l:=([x7] : List (Int))) Try.underlying23 ti3 rfl rfl rfl rfl rfl) ?_
       rintro v46_1 _ ⟨S46_1,hl_v46_1,rfl⟩
       refine F.efn rfl (d_append (i:=4) Try.underlying23 Try.underlying23 ti3 rfl (by decide) rfl rfl rfl (rd_sl (i:=0) rfl) hs47) ?_
       rintro v47_1 _ ⟨S47_1,rfl,hl_v47_1⟩
       refine F.qn rfl (r_fieldAddr tf31_1 rfl) ?_
       refine F.ef0 rfl rfl (wanted_none rfl) (d_storeG1 (i:=1) (cs2:=[v47_1]) ti23 rfl rfl rfl (sl_cells hl_v47_1) rfl (Nat.le_of_ble_eq_true rfl) (lf_cons (sl_leaf hl_v47_1) lf_nil)) ?_
       rintro _ _ ⟨rfl,rfl⟩
       refine F.nil ?_
       cases hE_3
       refine Nrm.only [1,2,4,6,7] rfl ?_
       refine Nrm.pick [1,2,3,4,5,6] rfl rfl ?_
       exact hj_2 _ _ ⟨v47_1,S47_1,hl_v47_1,rfl,rfl⟩
      ·replace hE_3:=if_ff g_3 hE_3
       refine Tri.skip ?_
       cases hE_3
       refine Nrm.only [1,2,4,6,7] rfl ?_
       refine Nrm.pick [0,1,2,3,4,5] rfl rfl ?_
       exact hj_2 _ _ ⟨wq6_1_3,Tq6_1_3,hl_wq6_1_3,rfl,rfl⟩
    ·replace hE_2:=if_ff g_2 hE_2
     refine Tri.exit ?_
     refine Exi.then ?_
     refine Exi.then ?_
     refine Exi.same ?_
     cases hE_2
     refine Nrm.seq (Tri.seq (Tri.reg (l:=[0,1,2]) rfl ?_))
     refine F.qn rfl (r_loadA ta31 ti31 rfl rfl (fun w hw=>(box_cells (i:=0) rfl w hw))) ?_
     refine F.ef0 rfl rfl (wanted_none rfl) (d_storeG0 (i:=1) (cs2:=[.int .i64 t24_1,v24_1,v24_2,wq6_1_3]) ti31 rfl rfl rfl rfl rfl (Nat.le_of_ble_eq_true rfl) (lf_cons rfl (lf_cons (sl_leaf hl_v24_1) (lf_cons (sl_leaf hl_v24_2) (lf_cons (sl_leaf hl_wq6_1_3) lf_nil))))) ?_
     rintro _ _ ⟨rfl,rfl⟩
     refine F.qn rfl (r_assign rfl) (F.nil (Nrm.seq (Tri.ret ?_)))
     cases h
     exact Rtn.body (.cell rfl ta31 ti31 rfl (fun _ hw=>box_cells (i:=1) rfl _ hw) (.tmp rfl .nil)) (fun w hw=>⟨_,_,rfl,⟨v24_1,S24_1,v24_2,S24_2,wq6_1_3,Tq6_1_3,rfl,hl_v24_1,hl_v24_2,hl_wq6_1_3,rfl⟩,Sep.pick (is:=[4,5,3]) rfl rfl hw⟩)
 ·obtain ⟨t9,h9,hE_1⟩:=bind_some hE_1
  rcases Bool.eq_false_or_eq_true (!t9) with g11 | g11
  ·replace hE_1:=if_tt g11 hE_1
   refine Tri.reg (l:=List.range 13) rfl ?_
   refine F.qn rfl (r_loadA ta31 ti31 rfl rfl (fun w hw=>(box_cells (i:=1) rfl w hw))) ?_
   refine F.qcn rfl (q_callF (xs:=_) rfl ok13 rfl rfl (fun w hw=>spec_l11Trap.ok h9 w ((fun _ hw=>hr_a0_1.sep hw) w hw) ((fun _ hw=>hr_a0_2.sep hw) w hw) ((fun _ hw=>hr_a0_3.sep hw) w hw))) ?_
   refine F.qn rfl (r_not rfl) (F.qn rfl (r_move rfl) ?_)
   iterate 8 refine F.skf rfl g11 ?_
   refine F.qn rfl (r_pick rfl rfl g11) (F.nil ?_)
   cases hE_1
   refine Nrm.only [1,2,4,20] rfl ?_
   refine Nrm.pick [0,1] rfl rfl ?_
   exact hj_1 _ _ ⟨rfl,rfl⟩
  ·replace hE_1:=if_ff g11 hE_1
   obtain ⟨t18,h18,hE_1⟩:=bind_some hE_1
   refine Tri.reg (l:=List.range 13) rfl ?_
   refine F.qn rfl (r_loadA ta31 ti31 rfl rfl (fun w hw=>(box_cells (i:=1) rfl w hw))) ?_
   refine F.qcn rfl (q_callF (xs:=_) rfl ok13 rfl rfl (fun w hw=>spec_l11Trap.ok h9 w ((fun _ hw=>hr_a0_1.sep hw) w hw) ((fun _ hw=>hr_a0_2.sep hw) w hw) ((fun _ hw=>hr_a0_3.sep hw) w hw))) ?_
   refine F.qn rfl (r_not rfl) (F.qn rfl (r_move rfl) ?_)
   refine F.qg rfl g11 (r_move rfl) (F.qg rfl g11 (r_fieldAddr tf31_0 rfl) (F.qg rfl g11 (r_fieldAddr tf29_1 rfl) (F.qg rfl g11 (r_load ta22 rfl (fun w hw=>cell_2 (box_cells (i:=1) rfl w hw) rfl)) (F.qg rfl g11 (r_len Try.underlying22 rfl hl_va0_1) (F.qg rfl g11 (r_sub rfl rfl) ?_)))))
   refine F.qc rfl rfl rfl (wg rfl rfl rfl g11) (q_callF (xs:=_) rfl ok14 rfl rfl (fun w hw=>spec_l1In.ok h18 w)) ?_
   refine F.qg rfl g11 (r_not rfl) (F.qn rfl (r_pickf rfl rfl g11) (F.nil ?_))
   cases hE_1
   refine Nrm.only [1,2,4,20] rfl ?_
   refine Nrm.pick [0,1] rfl rfl ?_
   exact hj_1 _ _ ⟨rfl,rfl⟩


def laws_toIntS.l0 (k : Nat) (a0 : List Int) : Nat → (List (Int)) → Int → Option ((List (Int)))
 | 0,_,_=>none
 | n + 1,x3,x4=>(if (decide (x4 < (a0.length : Int))) = true then (rdl a0 x4).bind fun t18=>(rdl x3 x4).bind fun t20=>laws_toIntS.l0 k a0 n (x3.set x4.toNat t18) (w64 (x4 + 1)) else some x3)

def laws_toIntS.f (k : Nat) (a0 : List Int) : Option ((List Int)) := if 0 ≤ (a0.length : Int) ∧ (a0.length : Int) < 1099511627776 then (laws_toIntS.l0 k a0 k (List.replicate ((a0.length : Int)).toNat (0 : Int)) 0).bind fun x3 => some x3 else none

theorem laws_toIntS.ok {k : Nat}  {a0 : List Int} {r0 : List Int} (h : laws_toIntS.f k a0 = some r0) (w : World) {va0 : Value} (hr_a0 : Rd w va0 a0) :
  Calls Try.prog 18 ([va0] : List Value).toArray w (Post (fun u ns=>∃ (Sr0 : Nat → Prop),SlLen u r0.length∧ns = [R.sl Sr0 u r0]) w):=by
 unfold laws_toIntS.f at h
 have hl_va0:=hr_a0.len
 refine Calls.of_tri (N:=22) Try.func18 rfl rfl rfl (Sep.nil (M:=noM)) ?_
 refine Tri.seq (Tri.reg (l:=[0]) rfl ?_)
 refine F.qn rfl (r_assign rfl) (F.nil (Nrm.seq (Tri.seq ?_)))
 obtain ⟨hm7,h⟩:=ck h
 refine Tri.reg (l:=[0,1,2,3]) rfl ?_
 refine F.qn rfl (r_move rfl) (F.qn rfl (r_len Try.underlying23 rfl hl_va0) ?_)
 refine F.mn rfl (m_make (x0:=(0 : Int)) Try.underlying23 ti3 rfl rfl rfl hm7.1 hm7.2 (by decide)) ?_
 rintro v7_1 _ ⟨S7_1,hl_v7_1,rfl⟩
 refine F.qn rfl (r_assign rfl) (F.nil (Nrm.seq (Tri.seq (Tri.seq (Tri.reg (l:=[0]) rfl ?_)))))
 refine F.qn rfl (r_assign rfl) (F.nil (Nrm.seq ?_))
 obtain ⟨x3,hE_1,h⟩:=bind_some h
 refine Tri.block ?_
 refine Tri.only [0,3,4] rfl ?_
 refine Tri.pick [0] rfl rfl ?_
 refine Tri.rounds (fun n e' C'=>∃ (x3' : List (Int)) (x4' : Int),laws_toIntS.l0 k a0 n x3' x4' = some x3∧SlLen v7_1 (x3').length∧e' = [(0,va0),(3,v7_1),(4,.int .i64 x4')]∧C' = Sep w noM [R.sl S7_1 v7_1 (x3' : List (Int))]) k ?_ ?_ ?_
 ·exact ⟨List.replicate ((a0.length : Int)).toNat (0 : Int),0,hE_1,hl_v7_1,rfl,rfl⟩
 ·rintro _ _ ⟨_,_,hE_1,_⟩
  rw [laws_toIntS.l0.eq_1] at hE_1; cases hE_1
 ·rintro n_1 _ _ ⟨x3,x4,hE_1,hl_x3,rfl,rfl⟩ ih_1
  rw [laws_toIntS.l0.eq_2] at hE_1
  refine Tri.seq (Tri.seq (Tri.reg (l:=[0,1,2,3]) rfl ?_))
  refine F.qn rfl (r_move rfl) (F.qn rfl (r_move rfl) (F.qn rfl (r_len Try.underlying23 rfl hl_va0) (F.qn rfl (r_lss rfl rfl) (F.nil (Nrm.seq (Tri.cond (b:=decide (x4 < (a0.length : Int))) rfl (fun g_1=>?_) (fun g_1=>?_)))))))
  ·replace hE_1:=if_tt g_1 hE_1
   refine Tri.skip (Nrm.seq (Tri.seq (Tri.block ?_)))
   obtain ⟨t18,h18,hE_1⟩:=bind_some hE_1
   obtain ⟨t20,h20,hE_1⟩:=bind_some hE_1
   refine Tri.reg (l:=[0,1,2,3,4,5,6,7]) rfl ?_
   iterate 4 refine F.qn rfl (r_move rfl) ?_
   refine F.qn rfl (r_indexAddrS Try.underlying23 ti3 rfl hl_va0 rfl (rdl_some h18).1 (rdl_some h18).2.1) (F.qn rfl (r_load ta3 rfl (fun w hw=>cell_0 (Rd.flat ((fun _ hw=>hr_a0.sep hw) w hw) (rdl_some h18).2.2) rfl)) (F.qn rfl (r_indexAddrS Try.underlying23 ti3 rfl hl_x3 rfl (rdl_some h20).1 (rdl_some h20).2.1) ?_))
   refine F.ef0 rfl rfl (wanted_none rfl) (d_storeE (i:=0) (x1:=t18) ti3 rfl rfl rfl (rdl_some h20) rfl) ?_
   rintro _ _ ⟨rfl,rfl⟩
   refine F.nil (Nrm.block ?_)
   refine Nrm.seq (Tri.reg (l:=[0,1,2]) rfl ?_)
   refine F.qn rfl (r_move rfl) (F.qn rfl (r_add rfl rfl) (F.qn rfl (r_assign rfl) (F.nil (Nrm.round ?_))))
   refine Rnd.only [0,3,4] rfl ?_
   refine Rnd.pick [0] rfl rfl ?_
   exact ih_1 _ _ ⟨x3.set x4.toNat t18,w64 (x4 + 1),hE_1,(len_set hl_x3),rfl,rfl⟩
  ·replace hE_1:=if_ff g_1 hE_1
   refine Tri.exit ?_
   refine Exi.then ?_
   refine Exi.then ?_
   refine Exi.same ?_
   cases hE_1
   refine Nrm.seq (Tri.seq (Tri.reg (l:=[0,1]) rfl ?_))
   refine F.qn rfl (r_move rfl) (F.qn rfl (r_assign rfl) (F.nil (Nrm.seq (Tri.ret ?_))))
   cases h
   exact Rtn.body (.tmp rfl .nil) (fun w hw=>⟨_,_,rfl,⟨S7_1,hl_x3,rfl⟩,Sep.pick (is:=[0]) rfl rfl hw⟩)


def laws_toIntA3.l0 (k : Nat) (a0_0 : Int) (a0_1 : Int) (a0_2 : Int) : Nat → Int → Int → Int → Int → Option (Int × Int × Int)
 | 0,_,_,_,_=>none
 | n + 1,x4,xb3_1_0,xb3_1_1,xb3_1_2=>(if (decide (x4 < 3)) = true then (rdl [a0_0,a0_1,a0_2] x4).bind fun t11=>(rdl [xb3_1_0,xb3_1_1,xb3_1_2] x4).bind fun t13=>laws_toIntA3.l0 k a0_0 a0_1 a0_2 n (w64 (x4 + 1)) (if x4 = 0 then t11 else xb3_1_0) (if x4 = 1 then t11 else xb3_1_1) (if x4 = 2 then t11 else xb3_1_2) else some (xb3_1_0,xb3_1_1,xb3_1_2))

def laws_toIntA3.f (k : Nat) (a0_0 : Int) (a0_1 : Int) (a0_2 : Int) : Option (Int × Int × Int) := (laws_toIntA3.l0 k a0_0 a0_1 a0_2 k 0 0 0 0).bind fun (xb3_1_0, xb3_1_1, xb3_1_2) => some (xb3_1_0, xb3_1_1, xb3_1_2)

theorem laws_toIntA3.ok {k : Nat}  {a0_0 : Int} {a0_1 : Int} {a0_2 : Int} {r0 : Int} {r1 : Int} {r2 : Int} (h : laws_toIntA3.f k a0_0 a0_1 a0_2 = some (r0, r1, r2)) (w : World) :
  Calls Try.prog 48 ([.agg ([.int .i64 a0_0,.int .i64 a0_1,.int .i64 a0_2].toArray)] : List Value).toArray w (fun e w'=>e = .returned (.agg [.int .i64 r0,.int .i64 r1,.int .i64 r2].toArray)∧Ext w w'):=by
 unfold laws_toIntA3.f at h
 refine Calls.of_tri (N:=15) Try.func48 rfl rfl rfl (Sep.nil (M:=noM)) ?_
 refine Tri.seq (Tri.reg (l:=[0,1]) rfl ?_)
 refine F.mn rfl (m_boxG rfl rfl) ?_
 rintro _ _ ⟨b1_1,rfl,rfl⟩
 refine F.mn rfl (m_alloc ti61) ?_
 rintro _ _ ⟨b2_1,rfl,rfl⟩
 refine F.nil (Nrm.seq (Tri.seq (Tri.reg (l:=[0]) rfl ?_)))
 refine F.mn rfl (m_alloc ti61) ?_
 rintro _ _ ⟨b3_1,rfl,rfl⟩
 refine F.nil (Nrm.seq (Tri.seq (Tri.seq (Tri.reg (l:=[0]) rfl ?_))))
 refine F.qn rfl (r_assign rfl) (F.nil (Nrm.seq ?_))
 obtain ⟨⟨xb3_1_0,xb3_1_1,xb3_1_2⟩,hE_1,h⟩:=bind_some h
 refine Tri.block ?_
 refine Tri.only [1,2,3,4] rfl ?_
 refine Tri.pick [0,1,2] rfl rfl ?_
 refine Tri.rounds (fun n e' C'=>∃ (x4' : Int) (xb3_1_0' : Int) (xb3_1_1' : Int) (xb3_1_2' : Int),laws_toIntA3.l0 k a0_0 a0_1 a0_2 n x4' xb3_1_0' xb3_1_1' xb3_1_2' = some (xb3_1_0,xb3_1_1,xb3_1_2)∧e' = [(1,.pointer (some ⟨b1_1,0,none⟩)),(2,.pointer (some ⟨b2_1,0,none⟩)),(3,.pointer (some ⟨b3_1,0,none⟩)),(4,.int .i64 x4')]∧C' = Sep w noM [R.box b3_1 61 [.int .i64 xb3_1_0',.int .i64 xb3_1_1',.int .i64 xb3_1_2'],R.box b2_1 61 [.int .i64 0,.int .i64 0,.int .i64 0],R.box b1_1 61 [.int .i64 a0_0,.int .i64 a0_1,.int .i64 a0_2]]) k ?_ ?_ ?_
 ·exact ⟨0,0,0,0,hE_1,rfl,rfl⟩
 ·rintro _ _ ⟨_,_,_,_,hE_1,_⟩
  rw [laws_toIntA3.l0.eq_1] at hE_1; cases hE_1
 ·rintro n_1 _ _ ⟨x4,xb3_1_0,xb3_1_1,xb3_1_2,hE_1,rfl,rfl⟩ ih_1
  rw [laws_toIntA3.l0.eq_2] at hE_1
  refine Tri.seq (Tri.seq (Tri.reg (l:=[0,1]) rfl ?_))
  refine F.qn rfl (r_move rfl) (F.qn rfl (r_lss rfl rfl) (F.nil (Nrm.seq (Tri.cond (b:=decide (x4 < 3)) rfl (fun g_1=>?_) (fun g_1=>?_)))))
  ·replace hE_1:=if_tt g_1 hE_1
   refine Tri.skip (Nrm.seq (Tri.seq (Tri.block ?_)))
   obtain ⟨t11,h11,hE_1⟩:=bind_some hE_1
   obtain ⟨t13,h13,hE_1⟩:=bind_some hE_1
   refine Tri.reg (l:=[0,1,2,3,4,5]) rfl ?_
   refine F.qn rfl (r_move rfl) (F.qn rfl (r_move rfl) (F.qn rfl (r_indexAddrA Try.underlying61 ti3 rfl rfl (rdl_some h11).1 (rdl_some h11).2.1) (F.qn rfl (r_load ta3 rfl (fun w hw=>cell_dynB (box_cells (i:=2) rfl w hw) rfl h11)) (F.qn rfl (r_indexAddrA Try.underlying61 ti3 rfl rfl (rdl_some h13).1 (rdl_some h13).2.1) ?_))))
   refine F.ef0 rfl rfl (wanted_none rfl) (d_storeDyn (i:=0) (l:=[xb3_1_0,xb3_1_1,xb3_1_2]) ti3 rfl rfl rfl h13 (set3 (rdl_some h13).1 (rdl_some h13).2.1)) ?_
   rintro _ _ ⟨rfl,rfl⟩
   refine F.nil (Nrm.block ?_)
   refine Nrm.seq (Tri.reg (l:=[0,1,2]) rfl ?_)
   refine F.qn rfl (r_move rfl) (F.qn rfl (r_add rfl rfl) (F.qn rfl (r_assign rfl) (F.nil (Nrm.round ?_))))
   refine Rnd.only [1,2,3,4] rfl ?_
   refine Rnd.pick [0,1,2] rfl rfl ?_
   exact ih_1 _ _ ⟨w64 (x4 + 1),if x4 = 0 then t11 else xb3_1_0,if x4 = 1 then t11 else xb3_1_1,if x4 = 2 then t11 else xb3_1_2,hE_1,rfl,rfl⟩
  ·replace hE_1:=if_ff g_1 hE_1
   refine Tri.exit ?_
   refine Exi.then ?_
   refine Exi.then ?_
   refine Exi.same ?_
   cases hE_1
   refine Nrm.seq (Tri.seq (Tri.reg (l:=[0,1]) rfl ?_))
   refine F.qn rfl (r_loadA ta61 ti61 rfl rfl (fun w hw=>(box_cells (i:=0) rfl w hw))) ?_
   refine F.ef0 rfl rfl (wanted_none rfl) (d_storeG0 (i:=1) (cs2:=[.int .i64 xb3_1_0,.int .i64 xb3_1_1,.int .i64 xb3_1_2]) ti61 rfl rfl rfl rfl rfl (Nat.le_of_ble_eq_true rfl) (lf_cons rfl (lf_cons rfl (lf_cons rfl lf_nil)))) ?_
   rintro _ _ ⟨rfl,rfl⟩
   refine F.nil (Nrm.seq (Tri.ret ?_))
   cases h
   exact Rtn.body (.cell rfl ta61 ti61 rfl (fun _ hw=>box_cells (i:=1) rfl _ hw) .nil) (fun w hw=>⟨rfl,hw.ext⟩)


def laws_toIntA3S.l0 (k : Nat) (a0 : List (Int × Int × Int)) : Nat → (List (Int × Int × Int)) → Int → Option ((List (Int × Int × Int)))
 | 0,_,_=>none
 | n + 1,x3,x4=>(if (decide (x4 < (a0.length : Int))) = true then (rdl a0 x4).bind fun t18=>(laws_toIntA3.f k t18.1 t18.2.1 t18.2.2).bind fun (t20_1,t20_2,t20_3)=>(rdl x3 x4).bind fun t21=>laws_toIntA3S.l0 k a0 n (x3.set x4.toNat (t20_1,t20_2,t20_3)) (w64 (x4 + 1)) else some x3)

def laws_toIntA3S.f (k : Nat) (a0 : List (Int × Int × Int)) : Option ((List (Int × Int × Int))) := if 0 ≤ (a0.length : Int) ∧ (a0.length : Int) < 1099511627776 then (laws_toIntA3S.l0 k a0 k (List.replicate ((a0.length : Int)).toNat ((0, 0, 0) : Int × Int × Int)) 0).bind fun x3 => some x3 else none

theorem laws_toIntA3S.ok {k : Nat}  {a0 : List (Int × Int × Int)} {r0 : List (Int × Int × Int)} (h : laws_toIntA3S.f k a0 = some r0) (w : World) {va0 : Value} (hr_a0 : Rd w va0 a0) :
  Calls Try.prog 36 ([va0] : List Value).toArray w (Post (fun u ns=>∃ (Sr0 : Nat → Prop),SlLen u r0.length∧ns = [R.sl Sr0 u r0]) w):=by
 unfold laws_toIntA3S.f at h
 have hl_va0:=hr_a0.len
 refine Calls.of_tri (N:=23) Try.func36 rfl rfl rfl (Sep.nil (M:=noM)) ?_
 refine Tri.seq (Tri.reg (l:=[0]) rfl ?_)
 refine F.qn rfl (r_assign rfl) (F.nil (Nrm.seq (Tri.seq ?_)))
 obtain ⟨hm7,h⟩:=ck h
 refine Tri.reg (l:=[0,1,2,3]) rfl ?_
 refine F.qn rfl (r_move rfl) (F.qn rfl (r_len Try.underlying22 rfl hl_va0) ?_)
 refine F.mn rfl (m_make (x0:=((0,0,0) : Int × Int × Int)) Try.underlying22 ti61 rfl rfl rfl hm7.1 hm7.2 (by decide)) ?_
 rintro v7_1 _ ⟨S7_1,hl_v7_1,rfl⟩
 refine F.qn rfl (r_assign rfl) (F.nil (Nrm.seq (Tri.seq (Tri.seq (Tri.reg (l:=[0]) rfl ?_)))))
 refine F.qn rfl (r_assign rfl) (F.nil (Nrm.seq ?_))
 obtain ⟨x3,hE_1,h⟩:=bind_some h
 refine Tri.block ?_
 refine Tri.only [0,3,4] rfl ?_
 refine Tri.pick [0] rfl rfl ?_
 refine Tri.rounds (fun n e' C'=>∃ (x3' : List (Int × Int × Int)) (x4' : Int),laws_toIntA3S.l0 k a0 n x3' x4' = some x3∧SlLen v7_1 (x3').length∧e' = [(0,va0),(3,v7_1),(4,.int .i64 x4')]∧C' = Sep w noM [R.sl S7_1 v7_1 (x3' : List (Int × Int × Int))]) k ?_ ?_ ?_
 ·exact ⟨List.replicate ((a0.length : Int)).toNat ((0,0,0) : Int × Int × Int),0,hE_1,hl_v7_1,rfl,rfl⟩
 ·rintro _ _ ⟨_,_,hE_1,_⟩
  rw [laws_toIntA3S.l0.eq_1] at hE_1; cases hE_1
 ·rintro n_1 _ _ ⟨x3,x4,hE_1,hl_x3,rfl,rfl⟩ ih_1
  rw [laws_toIntA3S.l0.eq_2] at hE_1
  refine Tri.seq (Tri.seq (Tri.reg (l:=[0,1,2,3]) rfl ?_))
  refine F.qn rfl (r_move rfl) (F.qn rfl (r_move rfl) (F.qn rfl (r_len Try.underlying22 rfl hl_va0) (F.qn rfl (r_lss rfl rfl) (F.nil (Nrm.seq (Tri.cond (b:=decide (x4 < (a0.length : Int))) rfl (fun g_1=>?_) (fun g_1=>?_)))))))
  ·replace hE_1:=if_tt g_1 hE_1
   refine Tri.skip (Nrm.seq (Tri.seq (Tri.block ?_)))
   obtain ⟨t18,h18,hE_1⟩:=bind_some hE_1
   obtain ⟨⟨t20_1,t20_2,t20_3⟩,h20,hE_1⟩:=bind_some hE_1
   obtain ⟨t21,h21,hE_1⟩:=bind_some hE_1
   refine Tri.reg (l:=[0,1,2,3,4,5,6,7,8]) rfl ?_
   iterate 4 refine F.qn rfl (r_move rfl) ?_
   refine F.qn rfl (r_indexAddrS Try.underlying22 ti61 rfl hl_va0 rfl (rdl_some h18).1 (rdl_some h18).2.1) (F.qn rfl (r_loadA ta61 ti61 rfl rfl (fun w hw=>(Rd.flat ((fun _ hw=>hr_a0.sep hw) w hw) (rdl_some h18).2.2))) ?_)
   refine F.qcn rfl (q_callF (xs:=_) rfl ok48 rfl rfl (fun w hw=>laws_toIntA3.ok h20 w)) ?_
   refine F.qn rfl (r_indexAddrS Try.underlying22 ti61 rfl hl_x3 rfl (rdl_some h21).1 (rdl_some h21).2.1) ?_
   refine F.ef0 rfl rfl (wanted_none rfl) (d_storeE (i:=0) (x1:=(t20_1,t20_2,t20_3)) ti61 rfl rfl rfl (rdl_some h21) rfl) ?_
   rintro _ _ ⟨rfl,rfl⟩
   refine F.nil (Nrm.block ?_)
   refine Nrm.seq (Tri.reg (l:=[0,1,2]) rfl ?_)
   refine F.qn rfl (r_move rfl) (F.qn rfl (r_add rfl rfl) (F.qn rfl (r_assign rfl) (F.nil (Nrm.round ?_))))
   refine Rnd.only [0,3,4] rfl ?_
   refine Rnd.pick [0] rfl rfl ?_
   exact ih_1 _ _ ⟨x3.set x4.toNat (t20_1,t20_2,t20_3),w64 (x4 + 1),hE_1,(len_set hl_x3),rfl,rfl⟩
  ·replace hE_1:=if_ff g_1 hE_1
   refine Tri.exit ?_
   refine Exi.then ?_
   refine Exi.then ?_
   refine Exi.same ?_
   cases hE_1
   refine Nrm.seq (Tri.seq (Tri.reg (l:=[0,1]) rfl ?_))
   refine F.qn rfl (r_move rfl) (F.qn rfl (r_assign rfl) (F.nil (Nrm.seq (Tri.ret ?_))))
   cases h
   exact Rtn.body (.tmp rfl .nil) (fun w hw=>⟨_,_,rfl,⟨S7_1,hl_x3,rfl⟩,Sep.pick (is:=[0]) rfl rfl hw⟩)


def laws_toMaze.f (k : Nat) (a0_0 : Int) (a0_1 : List (Int × Int × Int)) (a0_2 : List Int) : Option (Int × (List (Int × Int × Int)) × (List Int)) := (laws_toIntA3S.f k a0_1).bind fun t9 => (laws_toIntS.f k a0_2).bind fun t13 => some (a0_0, t9, t13)

theorem laws_toMaze.ok {k : Nat}  {a0_0 : Int} {a0_1 : List (Int × Int × Int)} {a0_2 : List Int} {r0 : Int} {r1 : List (Int × Int × Int)} {r2 : List Int} (h : laws_toMaze.f k a0_0 a0_1 a0_2 = some (r0, r1, r2)) (w : World) {va0_1 : Value} {va0_2 : Value} (hr_a0_1 : Rd w va0_1 a0_1) (hr_a0_2 : Rd w va0_2 a0_2) :
  Calls Try.prog 17 ([.agg ([.int .i64 a0_0,va0_1,va0_2].toArray)] : List Value).toArray w (Post (fun u ns=>∃ (ur1 : Value) (Sr1 : Nat → Prop) (ur2 : Value) (Sr2 : Nat → Prop),u = .agg [.int .i64 r0,ur1,ur2].toArray∧SlLen ur1 r1.length∧SlLen ur2 r2.length∧ns = [R.sl Sr1 ur1 r1,R.sl Sr2 ur2 r2]) w):=by
 unfold laws_toMaze.f at h
 have hl_va0_1:=hr_a0_1.len
 have hl_va0_2:=hr_a0_2.len
 refine Calls.of_tri (N:=16) Try.func17 rfl rfl rfl (Sep.nil (M:=noM)) ?_
 refine Tri.seq (Tri.reg (l:=[0,1]) rfl ?_)
 refine F.mn rfl (m_boxG rfl rfl) ?_
 rintro _ _ ⟨b1_1,rfl,rfl⟩
 refine F.mn rfl (m_alloc ti29) ?_
 rintro _ _ ⟨b2_1,rfl,rfl⟩
 refine F.nil (Nrm.seq (Tri.seq (Tri.reg (l:=[0]) rfl ?_)))
 refine F.mn rfl (m_alloc ti29) ?_
 rintro _ _ ⟨b3_1,rfl,rfl⟩
 refine F.nil (Nrm.seq (Tri.seq (Tri.reg (l:=[0,1,2,3]) rfl ?_)))
 refine F.qn rfl (r_fieldAddr tf25_0 rfl) (F.qn rfl (r_load ta3 rfl (fun w hw=>cell_1 (box_cells (i:=2) rfl w hw) rfl)) (F.qn rfl (r_fieldAddr tf29_0 rfl) ?_))
 refine F.ef0 rfl rfl (wanted_none rfl) (d_storeG1 (i:=0) (cs2:=[.int .i64 a0_0]) ti3 rfl rfl rfl rfl rfl (Nat.le_of_ble_eq_true rfl) (lf_cons rfl lf_nil)) ?_
 rintro _ _ ⟨rfl,rfl⟩
 refine F.nil (Nrm.seq (Tri.seq ?_))
 obtain ⟨t9,h9,h⟩:=bind_some h
 refine Tri.reg (l:=[0,1,2,3,4]) rfl ?_
 refine F.qn rfl (r_fieldAddr tf25_1 rfl) (F.qn rfl (r_load ta22 rfl (fun w hw=>cell_1 (box_cells (i:=2) rfl w hw) rfl)) ?_)
 refine F.mn rfl (m_callF (xs:=_) rfl ok36 rfl rfl (fun w hw=>laws_toIntA3S.ok h9 w ((fun _ hw=>hr_a0_1.sep hw) w hw))) ?_
 rintro v9_1 _ ⟨_,⟨S9_1,hl_v9_1,rfl⟩,rfl⟩
 refine F.qn rfl (r_fieldAddr tf29_1 rfl) ?_
 refine F.ef0 rfl rfl (wanted_none rfl) (d_storeG1 (i:=1) (cs2:=[v9_1]) ti22 rfl rfl rfl (sl_cells hl_v9_1) rfl (Nat.le_of_ble_eq_true rfl) (lf_cons (sl_leaf hl_v9_1) lf_nil)) ?_
 rintro _ _ ⟨rfl,rfl⟩
 refine F.nil (Nrm.seq (Tri.seq ?_))
 obtain ⟨t13,h13,h⟩:=bind_some h
 refine Tri.reg (l:=[0,1,2,3,4]) rfl ?_
 refine F.qn rfl (r_fieldAddr tf25_2 rfl) (F.qn rfl (r_load ta23 rfl (fun w hw=>cell_1 (box_cells (i:=3) rfl w hw) rfl)) ?_)
 refine F.mn rfl (m_callF (xs:=_) rfl ok18 rfl rfl (fun w hw=>laws_toIntS.ok h13 w ((fun _ hw=>hr_a0_2.sep hw) w hw))) ?_
 rintro v13_1 _ ⟨_,⟨S13_1,hl_v13_1,rfl⟩,rfl⟩
 refine F.qn rfl (r_fieldAddr tf29_2 rfl) ?_
 refine F.ef0 rfl rfl (wanted_none rfl) (d_storeG1 (i:=2) (cs2:=[v13_1]) ti23 rfl rfl rfl (sl_cells hl_v13_1) rfl (Nat.le_of_ble_eq_true rfl) (lf_cons (sl_leaf hl_v13_1) lf_nil)) ?_
 rintro _ _ ⟨rfl,rfl⟩
 refine F.nil (Nrm.seq (Tri.seq (Tri.reg (l:=[0,1]) rfl ?_)))
 refine F.qn rfl (r_loadA ta29 ti29 rfl rfl (fun w hw=>(box_cells (i:=2) rfl w hw))) ?_
 refine F.ef0 rfl rfl (wanted_none rfl) (d_storeG0 (i:=3) (cs2:=[.int .i64 a0_0,v9_1,v13_1]) ti29 rfl rfl rfl rfl rfl (Nat.le_of_ble_eq_true rfl) (lf_cons rfl (lf_cons (sl_leaf hl_v9_1) (lf_cons (sl_leaf hl_v13_1) lf_nil)))) ?_
 rintro _ _ ⟨rfl,rfl⟩
 refine F.nil (Nrm.seq (Tri.ret ?_))
 cases h
 exact Rtn.body (.cell rfl ta29 ti29 rfl (fun _ hw=>box_cells (i:=3) rfl _ hw) .nil) (fun w hw=>⟨_,_,rfl,⟨v9_1,S9_1,v13_1,S13_1,rfl,hl_v9_1,hl_v13_1,rfl⟩,Sep.pick (is:=[1,0]) rfl rfl hw⟩)


def laws_toTrap.f (k : Nat) (a0_0 : Int) (a0_1 : List (Int × Int × Int)) (a0_2 : List Int) (a0_3 : List Int) : Option (Int × (List (Int × Int × Int)) × (List Int) × (List Int)) := (laws_toMaze.f k a0_0 a0_1 a0_2).bind fun (t6_1, t6_2, t6_3) => (laws_toIntS.f k a0_3).bind fun t10 => some (t6_1, t6_2, t6_3, t10)

theorem laws_toTrap.ok {k : Nat}  {a0_0 : Int} {a0_1 : List (Int × Int × Int)} {a0_2 : List Int} {a0_3 : List Int} {r0 : Int} {r1 : List (Int × Int × Int)} {r2 : List Int} {r3 : List Int} (h : laws_toTrap.f k a0_0 a0_1 a0_2 a0_3 = some (r0, r1, r2, r3)) (w : World) {va0_1 : Value} {va0_2 : Value} {va0_3 : Value} (hr_a0_1 : Rd w va0_1 a0_1) (hr_a0_2 : Rd w va0_2 a0_2) (hr_a0_3 : Rd w va0_3 a0_3) :
  Calls Try.prog 6 ([.agg ([.int .i64 a0_0,va0_1,va0_2,va0_3].toArray)] : List Value).toArray w (Post (fun u ns=>∃ (ur1 : Value) (Sr1 : Nat → Prop) (ur2 : Value) (Sr2 : Nat → Prop) (ur3 : Value) (Sr3 : Nat → Prop),u = .agg [.int .i64 r0,ur1,ur2,ur3].toArray∧SlLen ur1 r1.length∧SlLen ur2 r2.length∧SlLen ur3 r3.length∧ns = [R.sl Sr1 ur1 r1,R.sl Sr2 ur2 r2,R.sl Sr3 ur3 r3]) w):=by
 unfold laws_toTrap.f at h
 have hl_va0_1:=hr_a0_1.len
 have hl_va0_2:=hr_a0_2.len
 have hl_va0_3:=hr_a0_3.len
 refine Calls.of_tri (N:=13) Try.func6 rfl rfl rfl (Sep.nil (M:=noM)) ?_
 refine Tri.seq (Tri.reg (l:=[0,1]) rfl ?_)
 refine F.mn rfl (m_boxG rfl rfl) ?_
 rintro _ _ ⟨b1_1,rfl,rfl⟩
 refine F.mn rfl (m_alloc ti31) ?_
 rintro _ _ ⟨b2_1,rfl,rfl⟩
 refine F.nil (Nrm.seq (Tri.seq (Tri.reg (l:=[0]) rfl ?_)))
 refine F.mn rfl (m_alloc ti31) ?_
 rintro _ _ ⟨b3_1,rfl,rfl⟩
 refine F.nil (Nrm.seq (Tri.seq ?_))
 obtain ⟨⟨t6_1,t6_2,t6_3⟩,h6,h⟩:=bind_some h
 refine Tri.reg (l:=[0,1,2,3,4]) rfl ?_
 refine F.qn rfl (r_fieldAddr tf27_0 rfl) (F.qn rfl (r_loadA ta25 ti25 rfl rfl (fun w hw=>cells_1 (cs':=[.int .i64 a0_0,va0_1,va0_2]) (box_cells (i:=2) rfl w hw) rfl)) ?_)
 refine F.mn rfl (m_callF (xs:=_) rfl ok17 rfl rfl (fun w hw=>laws_toMaze.ok h6 w ((fun _ hw=>hr_a0_1.sep hw) w hw) ((fun _ hw=>hr_a0_2.sep hw) w hw))) ?_
 rintro _ _ ⟨_,⟨v6_1,S6_1,v6_2,S6_2,rfl,hl_v6_1,hl_v6_2,rfl⟩,rfl⟩
 refine F.qn rfl (r_fieldAddr tf31_0 rfl) ?_
 refine F.ef0 rfl rfl (wanted_none rfl) (d_storeG1 (i:=2) (cs2:=[.int .i64 t6_1,v6_1,v6_2]) ti29 rfl rfl rfl rfl rfl (Nat.le_of_ble_eq_true rfl) (lf_cons rfl (lf_cons (sl_leaf hl_v6_1) (lf_cons (sl_leaf hl_v6_2) lf_nil)))) ?_
 rintro _ _ ⟨rfl,rfl⟩
 refine F.nil (Nrm.seq (Tri.seq ?_))
 obtain ⟨t10,h10,h⟩:=bind_some h
 refine Tri.reg (l:=[0,1,2,3,4]) rfl ?_
 refine F.qn rfl (r_fieldAddr tf27_1 rfl) (F.qn rfl (r_load ta23 rfl (fun w hw=>cell_1 (box_cells (i:=4) rfl w hw) rfl)) ?_)
 refine F.mn rfl (m_callF (xs:=_) rfl ok18 rfl rfl (fun w hw=>laws_toIntS.ok h10 w ((fun _ hw=>hr_a0_3.sep hw) w hw))) ?_
 rintro v10_1 _ ⟨_,⟨S10_1,hl_v10_1,rfl⟩,rfl⟩
 refine F.qn rfl (r_fieldAddr tf31_1 rfl) ?_
 refine F.ef0 rfl rfl (wanted_none rfl) (d_storeG1 (i:=3) (cs2:=[v10_1]) ti23 rfl rfl rfl (sl_cells hl_v10_1) rfl (Nat.le_of_ble_eq_true rfl) (lf_cons (sl_leaf hl_v10_1) lf_nil)) ?_
 rintro _ _ ⟨rfl,rfl⟩
 refine F.nil (Nrm.seq (Tri.seq (Tri.reg (l:=[0,1]) rfl ?_)))
 refine F.qn rfl (r_loadA ta31 ti31 rfl rfl (fun w hw=>(box_cells (i:=3) rfl w hw))) ?_
 refine F.ef0 rfl rfl (wanted_none rfl) (d_storeG0 (i:=4) (cs2:=[.int .i64 t6_1,v6_1,v6_2,v10_1]) ti31 rfl rfl rfl rfl rfl (Nat.le_of_ble_eq_true rfl) (lf_cons rfl (lf_cons (sl_leaf hl_v6_1) (lf_cons (sl_leaf hl_v6_2) (lf_cons (sl_leaf hl_v10_1) lf_nil))))) ?_
 rintro _ _ ⟨rfl,rfl⟩
 refine F.nil (Nrm.seq (Tri.ret ?_))
 cases h
 exact Rtn.body (.cell rfl ta31 ti31 rfl (fun _ hw=>box_cells (i:=4) rfl _ hw) .nil) (fun w hw=>⟨_,_,rfl,⟨v6_1,S6_1,v6_2,S6_2,v10_1,S10_1,rfl,hl_v6_1,hl_v6_2,hl_v10_1,rfl⟩,Sep.pick (is:=[1,2,0]) rfl rfl hw⟩)


def impl_within.f (k : Nat) (a0 : Int) (a1 : Int) (a2 : Int) : Option (Bool) := ((if (decide (a1 ≤ a0)) = true then some (decide (a0 ≤ a2)) else some false)).bind fun y6 => some y6

theorem impl_within.ok {k : Nat}  {a0 : Int} {a1 : Int} {a2 : Int} {r0 : Bool} (h : impl_within.f k a0 a1 a2 = some r0) (w : World) :
  Calls Try.prog 20 ([.int .i64 a0,.int .i64 a1,.int .i64 a2] : List Value).toArray w (fun e w'=>e = .returned (.bool r0)∧Ext w w'):=by
 unfold impl_within.f at h
 refine Calls.of_tri (N:=15) Try.func20 rfl rfl rfl (Sep.nil (M:=noM)) ?_
 refine Tri.seq (Tri.reg (l:=[0]) rfl ?_)
 refine F.qn rfl (r_assign rfl) (F.nil (Nrm.seq (Tri.seq ?_)))
 obtain ⟨y6,hE_1,h⟩:=bind_some h
 refine Tri.cut (fun e' C'=>e' = [(6,.bool y6)]∧C' = Sep w noM []) ?_ (fun hj_1=>?_)
 ·rintro _ _ ⟨rfl,rfl⟩
  refine Nrm.seq (Tri.ret ?_)
  cases h
  exact Rtn.body (.tmp rfl .nil) (fun w hw=>⟨rfl,hw.ext⟩)
 ·rcases Bool.eq_false_or_eq_true (decide (a1 ≤ a0)) with g10 | g10
  ·replace hE_1:=if_tt g10 hE_1
   refine Tri.reg (l:=[0,1,2,3,4,5,6,7,8]) rfl ?_
   refine F.qn rfl (r_move rfl) (F.qn rfl (r_move rfl) (F.qn rfl (r_leq rfl rfl) ?_))
   refine F.qn rfl (r_move rfl) (F.qg rfl g10 (r_move rfl) (F.qg rfl g10 (r_move rfl) (F.qg rfl g10 (r_leq rfl rfl) (F.qn rfl (r_pick rfl rfl g10) (F.qn rfl (r_assign rfl) (F.nil ?_))))))
   cases hE_1
   refine Nrm.only [6] rfl ?_
   refine Nrm.pick [] rfl rfl ?_
   exact hj_1 _ _ ⟨rfl,rfl⟩
  ·replace hE_1:=if_ff g10 hE_1
   refine Tri.reg (l:=[0,1,2,3,4,5,6,7,8]) rfl ?_
   refine F.qn rfl (r_move rfl) (F.qn rfl (r_move rfl) (F.qn rfl (r_leq rfl rfl) (F.qn rfl (r_move rfl) ?_)))
   iterate 3 refine F.skf rfl g10 ?_
   refine F.qn rfl (r_pickf rfl rfl g10) (F.qn rfl (r_assign rfl) (F.nil ?_))
   cases hE_1
   refine Nrm.only [6] rfl ?_
   refine Nrm.pick [] rfl rfl ?_
   exact hj_1 _ _ ⟨rfl,rfl⟩


def impl_isSet.f (k : Nat) (a0 : Int) : Option (Bool) := (impl_within.f k a0 0 63).bind fun t4 => some t4

theorem impl_isSet.ok {k : Nat}  {a0 : Int} {r0 : Bool} (h : impl_isSet.f k a0 = some r0) (w : World) :
  Calls Try.prog 49 ([.int .i64 a0] : List Value).toArray w (fun e w'=>e = .returned (.bool r0)∧Ext w w'):=by
 unfold impl_isSet.f at h
 refine Calls.of_tri (N:=5) Try.func49 rfl rfl rfl (Sep.nil (M:=noM)) ?_
 refine Tri.seq (Tri.reg (l:=[0]) rfl ?_)
 refine F.qn rfl (r_assign rfl) (F.nil (Nrm.seq (Tri.seq ?_)))
 obtain ⟨t4,h4,h⟩:=bind_some h
 refine Tri.reg (l:=[0,1,2]) rfl ?_
 refine F.qn rfl (r_move rfl) ?_
 refine F.qcn rfl (q_callF (xs:=_) rfl ok20 rfl rfl (fun w hw=>impl_within.ok h4 w)) ?_
 refine F.qn rfl (r_assign rfl) (F.nil (Nrm.seq (Tri.ret ?_)))
 cases h
 exact Rtn.body (.tmp rfl .nil) (fun w hw=>⟨rfl,hw.ext⟩)


def cmp_Or_int.l0 (k : Nat) (a0 : List Int) : Nat → Int → Option ((Unit) ⊕ (Int))
 | 0,_=>none
 | n + 1,x8=>(if (decide (x8 < (a0.length : Int))) = true then (rdl a0 x8).bind fun t10=>(if (t10 != 0) = true then some (Sum.inr t10) else cmp_Or_int.l0 k a0 n (w64 (x8 + 1))) else some (Sum.inl ()))

def cmp_Or_int.f (k : Nat) (a0 : List Int) : Option (Int) := (cmp_Or_int.l0 k a0 k 0).bind fun s => Lr s some fun _ => some 0

theorem cmp_Or_int.ok {k : Nat}  {a0 : List Int} {r0 : Int} (h : cmp_Or_int.f k a0 = some r0) (w : World) {va0 : Value} (hr_a0 : Rd w va0 a0) :
  Calls Try.prog 56 ([va0] : List Value).toArray w (fun e w'=>e = .returned (.int .i64 r0)∧Ext w w'):=by
 unfold cmp_Or_int.f at h
 have hl_va0:=hr_a0.len
 refine Calls.of_tri (N:=18) Try.func56 rfl rfl rfl (Sep.nil (M:=noM)) ?_
 refine Tri.seq (Tri.reg (l:=[0]) rfl ?_)
 refine F.qn rfl (r_assign rfl) (F.nil (Nrm.seq (Tri.seq (Tri.reg (l:=[0]) rfl ?_))))
 refine F.qn rfl (r_assign rfl) (F.nil (Nrm.seq (Tri.seq (Tri.seq (Tri.reg (l:=[0,1,2]) rfl ?_)))))
 refine F.qn rfl (r_move rfl) (F.qn rfl (r_len Try.underlying23 rfl hl_va0) (F.qn rfl (r_move rfl) (F.nil (Nrm.seq ?_))))
 obtain ⟨s0,hE_1,h⟩:=bind_some h
 refine Tri.block ?_
 refine Tri.only [3,6,7,8] rfl ?_
 refine Tri.pick [] rfl rfl ?_
 refine Tri.rounds (fun n e' C'=>∃ (x8' : Int),cmp_Or_int.l0 k a0 n x8' = some s0∧e' = [(3,.int .i64 0),(6,va0),(7,.int .i64 (a0.length : Int)),(8,.int .i64 x8')]∧C' = Sep w noM []) k ?_ ?_ ?_
 ·exact ⟨0,hE_1,rfl,rfl⟩
 ·rintro _ _ ⟨_,hE_1,_⟩
  rw [cmp_Or_int.l0.eq_1] at hE_1; cases hE_1
 ·rintro n_1 _ _ ⟨x8,hE_1,rfl,rfl⟩ ih_1
  rw [cmp_Or_int.l0.eq_2] at hE_1
  refine Tri.seq (Tri.reg (l:=[0]) rfl ?_)
  refine F.qn rfl (r_lss rfl rfl) (F.nil (Nrm.seq (Tri.seq (Tri.cond (b:=decide (x8 < (a0.length : Int))) rfl (fun g_1=>?_) (fun g_1=>?_)))))
  ·replace hE_1:=if_tt g_1 hE_1
   refine Tri.skip (Nrm.seq (Tri.seq (Tri.block ?_)))
   refine Tri.seq ?_
   obtain ⟨t10,h10,hE_1⟩:=bind_some hE_1
   refine Tri.reg (l:=[0,1,2]) rfl ?_
   refine F.qn rfl (r_indexAddrS Try.underlying23 ti3 rfl hl_va0 rfl (rdl_some h10).1 (rdl_some h10).2.1) (F.qn rfl (r_load ta3 rfl (fun w hw=>cell_0 (Rd.flat ((fun _ hw=>hr_a0.sep hw) w hw) (rdl_some h10).2.2) rfl)) (F.qn rfl (r_assign rfl) (F.nil (Nrm.seq (Tri.seq (Tri.reg (l:=[0,1,2]) rfl ?_))))))
   refine F.qn rfl (r_move rfl) (F.qn rfl (r_move rfl) (F.qn rfl (r_neq rfl rfl) (F.nil (Nrm.seq (Tri.cond (b:=t10 != 0) rfl (fun g_2=>?_) (fun g_2=>?_))))))
   ·replace hE_1:=if_tt g_2 hE_1
    refine Tri.seq (Tri.reg (l:=[0,1]) rfl ?_)
    refine F.qn rfl (r_move rfl) (F.qn rfl (r_assign rfl) (F.nil (Nrm.seq (Tri.ret ?_))))
    refine Rtn.block ?_
    refine Rtn.then ?_
    refine Rtn.then ?_
    refine Rtn.block ?_
    refine Rtn.then ?_
    cases hE_1
    replace h:=Lr_inr h
    cases h
    exact Rtn.body (.tmp rfl .nil) (fun w hw=>⟨rfl,hw.ext⟩)
   ·replace hE_1:=if_ff g_2 hE_1
    refine Tri.skip (Nrm.block ?_)
    refine Nrm.seq (Tri.reg (l:=[0,1]) rfl ?_)
    refine F.qn rfl (r_add rfl rfl) (F.qn rfl (r_move rfl) (F.nil (Nrm.round ?_)))
    refine Rnd.only [3,6,7,8] rfl ?_
    refine Rnd.pick [] rfl rfl ?_
    exact ih_1 _ _ ⟨w64 (x8 + 1),hE_1,rfl,rfl⟩
  ·replace hE_1:=if_ff g_1 hE_1
   refine Tri.exit ?_
   refine Exi.then ?_
   refine Exi.then ?_
   refine Exi.same ?_
   cases hE_1
   replace h:=Lr_inl h
   refine Nrm.seq (Tri.seq (Tri.reg (l:=[0,1]) rfl ?_))
   refine F.qn rfl (r_move rfl) (F.qn rfl (r_assign rfl) (F.nil (Nrm.seq (Tri.ret ?_))))
   cases h
   exact Rtn.body (.tmp rfl .nil) (fun w hw=>⟨rfl,hw.ext⟩)


def cmp_isNaN_int.f (k : Nat) (a0 : Int) : Option (Bool) := some (a0 != a0)

theorem cmp_isNaN_int.ok {k : Nat}  {a0 : Int} {r0 : Bool} (h : cmp_isNaN_int.f k a0 = some r0) (w : World) :
  Calls Try.prog 53 ([.int .i64 a0] : List Value).toArray w (fun e w'=>e = .returned (.bool r0)∧Ext w w'):=by
 unfold cmp_isNaN_int.f at h
 refine Calls.of_tri (N:=6) Try.func53 rfl rfl rfl (Sep.nil (M:=noM)) ?_
 refine Tri.seq (Tri.reg (l:=[0]) rfl ?_)
 refine F.qn rfl (r_assign rfl) (F.nil (Nrm.seq (Tri.seq (Tri.reg (l:=[0,1,2,3]) rfl ?_))))
 refine F.qn rfl (r_move rfl) (F.qn rfl (r_move rfl) (F.qn rfl (r_neq rfl rfl) (F.qn rfl (r_assign rfl) (F.nil (Nrm.seq (Tri.ret ?_))))))
 cases h
 exact Rtn.body (.tmp rfl .nil) (fun w hw=>⟨rfl,hw.ext⟩)


def cmp_Compare_int.f (k : Nat) (a0 : Int) (a1 : Int) : Option (Int) := (cmp_isNaN_int.f k a0).bind fun t8 => (cmp_isNaN_int.f k a1).bind fun t10 => (if t8 = true then (if t10 = true then some 0 else some (-1)) else (if t10 = true then some 1 else (if (decide (a0 < a1)) = true then some (-1) else (if (decide (a0 > a1)) = true then some 1 else some 0))))

theorem cmp_Compare_int.ok {k : Nat}  {a0 : Int} {a1 : Int} {r0 : Int} (h : cmp_Compare_int.f k a0 a1 = some r0) (w : World) :
  Calls Try.prog 57 ([.int .i64 a0,.int .i64 a1] : List Value).toArray w (fun e w'=>e = .returned (.int .i64 r0)∧Ext w w'):=by
 unfold cmp_Compare_int.f at h
 refine Calls.of_tri (N:=20) Try.func57 rfl rfl rfl (Sep.nil (M:=noM)) ?_
 refine Tri.seq (Tri.reg (l:=[0]) rfl ?_)
 refine F.qn rfl (r_assign rfl) (F.nil (Nrm.seq (Tri.seq ?_)))
 obtain ⟨t8,h8,h⟩:=bind_some h
 refine Tri.reg (l:=[0,1,2]) rfl ?_
 refine F.qn rfl (r_move rfl) ?_
 refine F.qcn rfl (q_callF (xs:=_) rfl ok53 rfl rfl (fun w hw=>cmp_isNaN_int.ok h8 w)) ?_
 refine F.qn rfl (r_assign rfl) (F.nil (Nrm.seq (Tri.seq ?_)))
 obtain ⟨t10,h10,h⟩:=bind_some h
 refine Tri.reg (l:=[0,1,2]) rfl ?_
 refine F.qn rfl (r_move rfl) ?_
 refine F.qcn rfl (q_callF (xs:=_) rfl ok53 rfl rfl (fun w hw=>cmp_isNaN_int.ok h10 w)) ?_
 refine F.qn rfl (r_assign rfl) (F.nil (Nrm.seq (Tri.seq (Tri.seq (Tri.reg (l:=[0]) rfl ?_)))))
 refine F.qn rfl (r_move rfl) (F.nil (Nrm.seq (Tri.cond (b:=t8) rfl (fun g_1=>?_) (fun g_1=>?_))))
 ·replace h:=if_tt g_1 h
  refine Tri.seq (Tri.seq (Tri.reg (l:=[0]) rfl ?_))
  refine F.qn rfl (r_move rfl) (F.nil (Nrm.seq (Tri.cond (b:=t10) rfl (fun g_2=>?_) (fun g_2=>?_))))
  ·replace h:=if_tt g_2 h
   refine Tri.seq (Tri.reg (l:=[0]) rfl ?_)
   refine F.qn rfl (r_assign rfl) (F.nil (Nrm.seq (Tri.ret ?_)))
   refine Rtn.then ?_
   refine Rtn.then ?_
   cases h
   exact Rtn.body (.tmp rfl .nil) (fun w hw=>⟨rfl,hw.ext⟩)
  ·replace h:=if_ff g_2 h
   refine Tri.skip (Nrm.seq (Tri.seq (Tri.reg (l:=[0]) rfl ?_)))
   refine F.qn rfl (r_assign rfl) (F.nil (Nrm.seq (Tri.ret ?_)))
   refine Rtn.then ?_
   cases h
   exact Rtn.body (.tmp rfl .nil) (fun w hw=>⟨rfl,hw.ext⟩)
 ·replace h:=if_ff g_1 h
  refine Tri.skip (Nrm.seq (Tri.seq (Tri.seq (Tri.reg (l:=[0]) rfl ?_))))
  refine F.qn rfl (r_move rfl) (F.nil (Nrm.seq (Tri.cond (b:=t10) rfl (fun g_3=>?_) (fun g_3=>?_))))
  ·replace h:=if_tt g_3 h
   refine Tri.seq (Tri.reg (l:=[0]) rfl ?_)
   refine F.qn rfl (r_assign rfl) (F.nil (Nrm.seq (Tri.ret ?_)))
   refine Rtn.then ?_
   cases h
   exact Rtn.body (.tmp rfl .nil) (fun w hw=>⟨rfl,hw.ext⟩)
  ·replace h:=if_ff g_3 h
   refine Tri.skip (Nrm.seq (Tri.seq (Tri.seq (Tri.reg (l:=[0,1,2]) rfl ?_))))
   refine F.qn rfl (r_move rfl) (F.qn rfl (r_move rfl) (F.qn rfl (r_lss rfl rfl) (F.nil (Nrm.seq (Tri.cond (b:=decide (a0 < a1)) rfl (fun g_4=>?_) (fun g_4=>?_))))))
   ·replace h:=if_tt g_4 h
    refine Tri.seq (Tri.reg (l:=[0]) rfl ?_)
    refine F.qn rfl (r_assign rfl) (F.nil (Nrm.seq (Tri.ret ?_)))
    refine Rtn.then ?_
    cases h
    exact Rtn.body (.tmp rfl .nil) (fun w hw=>⟨rfl,hw.ext⟩)
   ·replace h:=if_ff g_4 h
    refine Tri.skip (Nrm.seq (Tri.seq (Tri.seq (Tri.reg (l:=[0,1,2]) rfl ?_))))
    refine F.qn rfl (r_move rfl) (F.qn rfl (r_move rfl) (F.qn rfl (r_gtr rfl rfl) (F.nil (Nrm.seq (Tri.cond (b:=decide (a0 > a1)) rfl (fun g_5=>?_) (fun g_5=>?_))))))
    ·replace h:=if_tt g_5 h
     refine Tri.seq (Tri.reg (l:=[0]) rfl ?_)
     refine F.qn rfl (r_assign rfl) (F.nil (Nrm.seq (Tri.ret ?_)))
     refine Rtn.then ?_
     cases h
     exact Rtn.body (.tmp rfl .nil) (fun w hw=>⟨rfl,hw.ext⟩)
    ·replace h:=if_ff g_5 h
     refine Tri.skip (Nrm.seq (Tri.seq (Tri.reg (l:=[0]) rfl ?_)))
     refine F.qn rfl (r_assign rfl) (F.nil (Nrm.seq (Tri.ret ?_)))
     cases h
     exact Rtn.body (.tmp rfl .nil) (fun w hw=>⟨rfl,hw.ext⟩)


def impl_compareDoors.f (k : Nat) (a0_0 : Int) (a0_1 : Int) (a0_2 : Int) (a1_0 : Int) (a1_1 : Int) (a1_2 : Int) : Option (Int) := (cmp_Compare_int.f k a0_0 a1_0).bind fun t9 => (cmp_Compare_int.f k a0_1 a1_1).bind fun t14 => (cmp_Compare_int.f k a0_2 a1_2).bind fun t19 => (cmp_Or_int.f k ([t9, t14, t19] : List (Int))).bind fun t21 => some t21

theorem impl_compareDoors.ok {k : Nat}  {a0_0 : Int} {a0_1 : Int} {a0_2 : Int} {a1_0 : Int} {a1_1 : Int} {a1_2 : Int} {r0 : Int} (h : impl_compareDoors.f k a0_0 a0_1 a0_2 a1_0 a1_1 a1_2 = some r0) (w : World) :
  Calls Try.prog 50 ([.agg ([.int .i64 a0_0,.int .i64 a0_1,.int .i64 a0_2].toArray),.agg ([.int .i64 a1_0,.int .i64 a1_1,.int .i64 a1_2].toArray)] : List Value).toArray w (fun e w'=>e = .returned (.int .i64 r0)∧Ext w w'):=by
 unfold impl_compareDoors.f at h
 refine Calls.of_tri (N:=22) Try.func50 rfl rfl rfl (Sep.nil (M:=noM)) ?_
 refine Tri.seq (Tri.reg (l:=[0,1,2]) rfl ?_)
 refine F.mn rfl (m_boxG rfl rfl) ?_
 rintro _ _ ⟨b2_1,rfl,rfl⟩
 refine F.mn rfl (m_boxG rfl rfl) ?_
 rintro _ _ ⟨b3_1,rfl,rfl⟩
 refine F.qn rfl (r_assign rfl) (F.nil (Nrm.seq (Tri.seq ?_)))
 obtain ⟨t9,h9,h⟩:=bind_some h
 obtain ⟨t14,h14,h⟩:=bind_some h
 obtain ⟨t19,h19,h⟩:=bind_some h
 obtain ⟨t21,h21,h⟩:=bind_some h
 refine Tri.drawA mixedT Sep.up [(0,true),(1,true),(2,true),(3,true),(4,true),(5,true),(6,true),(7,true),(8,true),(9,true),(10,true),(11,true),(12,true),(13,true),(14,true),(15,false),(16,true),(17,true)] [] (by kernel_rfl) ?_
 refine S.qn rfl (r_indexAddrA Try.underlying61 ti3 rfl rfl (by decide) (by decide)) (S.qn rfl (r_load ta3 rfl (fun w hw=>cell_1 (box_cells (i:=1) rfl w hw) rfl)) (S.qn rfl (r_indexAddrA Try.underlying61 ti3 rfl rfl (by decide) (by decide)) (S.qn rfl (r_load ta3 rfl (fun w hw=>cell_1 (box_cells (i:=0) rfl w hw) rfl)) ?_)))
 refine S.qcn rfl (q_callF (xs:=_) rfl ok57 rfl rfl (fun w hw=>cmp_Compare_int.ok h9 w)) ?_
 refine S.qn rfl (r_indexAddrA Try.underlying61 ti3 rfl rfl (by decide) (by decide)) (S.qn rfl (r_load ta3 rfl (fun w hw=>cell_1 (box_cells (i:=1) rfl w hw) rfl)) (S.qn rfl (r_indexAddrA Try.underlying61 ti3 rfl rfl (by decide) (by decide)) (S.qn rfl (r_load ta3 rfl (fun w hw=>cell_1 (box_cells (i:=0) rfl w hw) rfl)) ?_)))
 refine S.qcn rfl (q_callF (xs:=_) rfl ok57 rfl rfl (fun w hw=>cmp_Compare_int.ok h14 w)) ?_
 refine S.qn rfl (r_indexAddrA Try.underlying61 ti3 rfl rfl (by decide) (by decide)) (S.qn rfl (r_load ta3 rfl (fun w hw=>cell_1 (box_cells (i:=1) rfl w hw) rfl)) (S.qn rfl (r_indexAddrA Try.underlying61 ti3 rfl rfl (by decide) (by decide)) (S.qn rfl (r_load ta3 rfl (fun w hw=>cell_1 (box_cells (i:=0) rfl w hw) rfl)) ?_)))
 refine S.qcn rfl (q_callF (xs:=_) rfl ok57 rfl rfl (fun w hw=>cmp_Compare_int.ok h19 w)) ?_
 refine S.m rfl rfl rfl (wanted_none rfl) (m_buildF (l:=([t9,t14,t19] : List (Int))) Try.underlying23 ti3 rfl rfl rfl rfl rfl) ?_
 rintro v20_2 _ ⟨S20_2,hl_v20_2,rfl⟩
 refine S.qcn rfl (q_callF (xs:=_) rfl ok56 rfl rfl (fun w hw=>cmp_Or_int.ok h21 w ((rd_sl (i:=0) rfl) w hw))) ?_
 refine S.qn rfl (r_assign rfl) (S.nil (F.nil (Nrm.seq (Tri.ret ?_))))
 cases h
 exact Rtn.body (.tmp rfl .nil) (fun w hw=>⟨rfl,hw.ext⟩)


def slices_IndexFunc_int_int.l0 (k : Nat) (a0 : List Int) (a1 : (Int → Option (Bool))) : Nat → Int → Option ((Unit) ⊕ (Int))
 | 0,_=>none
 | n + 1,x8=>(if (decide (x8 < (a0.length : Int))) = true then (rdl a0 x8).bind fun t14=>(a1 t14).bind fun t16=>(if t16 = true then some (Sum.inr x8) else slices_IndexFunc_int_int.l0 k a0 a1 n (w64 (x8 + 1))) else some (Sum.inl ()))

def slices_IndexFunc_int_int.f (k : Nat) (a0 : List Int) (a1 : (Int → Option (Bool))) : Option (Int) := (slices_IndexFunc_int_int.l0 k a0 a1 k 0).bind fun s => Lr s some fun _ => some (-1)

theorem slices_IndexFunc_int_int.ok {k : Nat}  {a0 : List Int} {a1 : (Int → Option (Bool))} {r0 : Int} (h : slices_IndexFunc_int_int.f k a0 a1 = some r0) (w : World) {va0 : Value} (hr_a0 : Rd w va0 a0) {fi_a1 : FuncId} {ca_a1 : Array Value} (ho_a1 : CallOk Try.prog fi_a1) (hf_a1 : ∀ w2, Ext w w2 → ∀ (z0 : Int) (y : Bool), a1 z0 = some y → Calls Try.prog fi_a1 (([.int .i64 z0] : List Value) ++ ca_a1.toList).toArray w2 (fun e w3 => e = .returned (.bool y) ∧ Ext w2 w3)) :
  Calls Try.prog 58 ([va0,.func (.func fi_a1) #[] ca_a1] : List Value).toArray w (fun e w'=>e = .returned (.int .i64 r0)∧Ext w w'):=by
 unfold slices_IndexFunc_int_int.f at h
 have hl_va0:=hr_a0.len
 refine Calls.of_tri (N:=19) Try.func58 rfl rfl rfl (Sep.nil (M:=noM)) ?_
 refine Tri.seq (Tri.reg (l:=[0]) rfl ?_)
 refine F.qn rfl (r_assign rfl) (F.nil (Nrm.seq (Tri.seq (Tri.seq (Tri.reg (l:=[0,1,2]) rfl ?_)))))
 refine F.qn rfl (r_move rfl) (F.qn rfl (r_len Try.underlying23 rfl hl_va0) (F.qn rfl (r_move rfl) (F.nil (Nrm.seq ?_))))
 obtain ⟨s0,hE_1,h⟩:=bind_some h
 refine Tri.block ?_
 refine Tri.only [0,1,7,8] rfl ?_
 refine Tri.pick [] rfl rfl ?_
 refine Tri.rounds (fun n e' C'=>∃ (x8' : Int),slices_IndexFunc_int_int.l0 k a0 a1 n x8' = some s0∧e' = [(0,va0),(1,.func (.func fi_a1) #[] ca_a1),(7,.int .i64 (a0.length : Int)),(8,.int .i64 x8')]∧C' = Sep w noM []) k ?_ ?_ ?_
 ·exact ⟨0,hE_1,rfl,rfl⟩
 ·rintro _ _ ⟨_,hE_1,_⟩
  rw [slices_IndexFunc_int_int.l0.eq_1] at hE_1; cases hE_1
 ·rintro n_1 _ _ ⟨x8,hE_1,rfl,rfl⟩ ih_1
  rw [slices_IndexFunc_int_int.l0.eq_2] at hE_1
  refine Tri.seq (Tri.reg (l:=[0]) rfl ?_)
  refine F.qn rfl (r_lss rfl rfl) (F.nil (Nrm.seq (Tri.seq (Tri.cond (b:=decide (x8 < (a0.length : Int))) rfl (fun g_1=>?_) (fun g_1=>?_)))))
  ·replace hE_1:=if_tt g_1 hE_1
   refine Tri.skip (Nrm.seq (Tri.seq (Tri.block ?_)))
   refine Tri.seq (Tri.reg (l:=[0,1]) rfl ?_)
   refine F.qn rfl (r_move rfl) (F.qn rfl (r_assign rfl) (F.nil (Nrm.seq (Tri.seq ?_))))
   obtain ⟨t14,h14,hE_1⟩:=bind_some hE_1
   obtain ⟨t16,h16,hE_1⟩:=bind_some hE_1
   refine Tri.reg (l:=[0,1,2,3,4,5]) rfl ?_
   iterate 3 refine F.qn rfl (r_move rfl) ?_
   refine F.qn rfl (r_indexAddrS Try.underlying23 ti3 rfl hl_va0 rfl (rdl_some h14).1 (rdl_some h14).2.1) (F.qn rfl (r_load ta3 rfl (fun w hw=>cell_0 (Rd.flat ((fun _ hw=>hr_a0.sep hw) w hw) (rdl_some h14).2.2) rfl)) ?_)
   refine F.qcn rfl (q_callC (xs:=_) rfl ho_a1 rfl rfl (fun w hw=>hf_a1 w hw.ext _  _ h16)) ?_
   refine F.nil (Nrm.seq (Tri.cond (b:=t16) rfl (fun g_2=>?_) (fun g_2=>?_)))
   ·replace hE_1:=if_tt g_2 hE_1
    refine Tri.seq (Tri.reg (l:=[0,1]) rfl ?_)
    refine F.qn rfl (r_move rfl) (F.qn rfl (r_assign rfl) (F.nil (Nrm.seq (Tri.ret ?_))))
    refine Rtn.block ?_
    refine Rtn.then ?_
    refine Rtn.then ?_
    refine Rtn.block ?_
    refine Rtn.then ?_
    cases hE_1
    replace h:=Lr_inr h
    cases h
    exact Rtn.body (.tmp rfl .nil) (fun w hw=>⟨rfl,hw.ext⟩)
   ·replace hE_1:=if_ff g_2 hE_1
    refine Tri.skip (Nrm.block ?_)
    refine Nrm.seq (Tri.reg (l:=[0,1]) rfl ?_)
    refine F.qn rfl (r_add rfl rfl) (F.qn rfl (r_move rfl) (F.nil (Nrm.round ?_)))
    refine Rnd.only [0,1,7,8] rfl ?_
    refine Rnd.pick [] rfl rfl ?_
    exact ih_1 _ _ ⟨w64 (x8 + 1),hE_1,rfl,rfl⟩
  ·replace hE_1:=if_ff g_1 hE_1
   refine Tri.exit ?_
   refine Exi.then ?_
   refine Exi.then ?_
   refine Exi.same ?_
   cases hE_1
   replace h:=Lr_inl h
   refine Nrm.seq (Tri.seq (Tri.reg (l:=[0]) rfl ?_))
   refine F.qn rfl (r_assign rfl) (F.nil (Nrm.seq (Tri.ret ?_)))
   cases h
   exact Rtn.body (.tmp rfl .nil) (fun w hw=>⟨rfl,hw.ext⟩)


def slices_ContainsFunc_int_int.f (k : Nat) (a0 : List Int) (a1 : (Int → Option (Bool))) : Option (Bool) := (slices_IndexFunc_int_int.f k a0 a1).bind fun t7 => some (decide (t7 ≥ 0))

theorem slices_ContainsFunc_int_int.ok {k : Nat}  {a0 : List Int} {a1 : (Int → Option (Bool))} {r0 : Bool} (h : slices_ContainsFunc_int_int.f k a0 a1 = some r0) (w : World) {va0 : Value} (hr_a0 : Rd w va0 a0) {fi_a1 : FuncId} {ca_a1 : Array Value} (ho_a1 : CallOk Try.prog fi_a1) (hf_a1 : ∀ w2, Ext w w2 → ∀ (z0 : Int) (y : Bool), a1 z0 = some y → Calls Try.prog fi_a1 (([.int .i64 z0] : List Value) ++ ca_a1.toList).toArray w2 (fun e w3 => e = .returned (.bool y) ∧ Ext w2 w3)) :
  Calls Try.prog 51 ([va0,.func (.func fi_a1) #[] ca_a1] : List Value).toArray w (fun e w'=>e = .returned (.bool r0)∧Ext w w'):=by
 unfold slices_ContainsFunc_int_int.f at h
 have hl_va0:=hr_a0.len
 refine Calls.of_tri (N:=9) Try.func51 rfl rfl rfl (Sep.nil (M:=noM)) ?_
 refine Tri.seq (Tri.reg (l:=[0]) rfl ?_)
 refine F.qn rfl (r_assign rfl) (F.nil (Nrm.seq (Tri.seq ?_)))
 obtain ⟨t7,h7,h⟩:=bind_some h
 refine Tri.reg (l:=[0,1,2,3,4]) rfl ?_
 refine F.qn rfl (r_move rfl) (F.qn rfl (r_move rfl) ?_)
 refine F.qcn rfl (q_callF (xs:=_) rfl ok58 rfl rfl (fun w hw=>slices_IndexFunc_int_int.ok h7 w ((fun _ hw=>hr_a0.sep hw) w hw) ho_a1 (fun w2 he2=>hf_a1 w2 (hw.ext.trans he2)))) ?_
 refine F.qn rfl (r_geq rfl rfl) (F.qn rfl (r_assign rfl) (F.nil (Nrm.seq (Tri.ret ?_))))
 cases h
 exact Rtn.body (.tmp rfl .nil) (fun w hw=>⟨rfl,hw.ext⟩)


def impl_IsMaze_1.f (k : Nat) (a0 : Int) : Option (Bool) := (impl_isSet.f k a0).bind fun t4 => some (!t4)

theorem impl_IsMaze_1.ok {k : Nat}  {a0 : Int} {r0 : Bool} (h : impl_IsMaze_1.f k a0 = some r0) (w : World) :
  Calls Try.prog 52 ([.int .i64 a0] : List Value).toArray w (fun e w'=>e = .returned (.bool r0)∧Ext w w'):=by
 unfold impl_IsMaze_1.f at h
 refine Calls.of_tri (N:=6) Try.func52 rfl rfl rfl (Sep.nil (M:=noM)) ?_
 refine Tri.seq (Tri.reg (l:=[0]) rfl ?_)
 refine F.qn rfl (r_assign rfl) (F.nil (Nrm.seq (Tri.seq ?_)))
 obtain ⟨t4,h4,h⟩:=bind_some h
 refine Tri.reg (l:=[0,1,2,3]) rfl ?_
 refine F.qn rfl (r_move rfl) ?_
 refine F.qcn rfl (q_callF (xs:=_) rfl ok49 rfl rfl (fun w hw=>impl_isSet.ok h4 w)) ?_
 refine F.qn rfl (r_not rfl) (F.qn rfl (r_assign rfl) (F.nil (Nrm.seq (Tri.ret ?_))))
 cases h
 exact Rtn.body (.tmp rfl .nil) (fun w hw=>⟨rfl,hw.ext⟩)


def impl_IsMaze.l0 (k : Nat) (a0_0 : Int) (a0_1 : List (Int × Int × Int)) : Nat → Int → Option ((Unit) ⊕ (Bool))
 | 0,_=>none
 | n + 1,x26=>(if (decide (x26 < (a0_1.length : Int))) = true then (rdl a0_1 x26).bind fun t29=>((if (decide (t29.1 < 0)) = true then some true else (if (decide (t29.1 ≥ t29.2.1)) = true then some true else (if (decide (t29.2.1 ≥ a0_0)) = true then some true else (impl_isSet.f k t29.2.2).bind fun t51=>(if (!t51) = true then some true else (if (decide (x26 > 0)) = true then (rdl a0_1 (w64 (x26 - 1))).bind fun t62=>(impl_compareDoors.f k t62.1 t62.2.1 t62.2.2 t29.1 t29.2.1 t29.2.2).bind fun t65=>some (decide (t65 ≥ 0)) else some false)))))).bind fun y68=>(if y68 = true then some (Sum.inr false) else impl_IsMaze.l0 k a0_0 a0_1 n (w64 (x26 + 1))) else some (Sum.inl ()))

def impl_IsMaze.f (k : Nat) (a0_0 : Int) (a0_1 : List (Int × Int × Int)) (a0_2 : List Int) : Option (Bool) := ((impl_within.f k a0_0 1 12).bind fun t7 => (if (!t7) = true then some true else (if (decide ((a0_1.length : Int) > 30)) = true then some true else some ((a0_2.length : Int) != a0_0)))).bind fun y22 => (if y22 = true then some false else (impl_IsMaze.l0 k a0_0 a0_1 k 0).bind fun s => Lr s some fun _ => (slices_ContainsFunc_int_int.f k a0_2 (fun z0 => impl_IsMaze_1.f k z0)).bind fun t72 => some (!t72))

theorem impl_IsMaze.ok {k : Nat}  {a0_0 : Int} {a0_1 : List (Int × Int × Int)} {a0_2 : List Int} {r0 : Bool} (h : impl_IsMaze.f k a0_0 a0_1 a0_2 = some r0) (w : World) {va0_1 : Value} {va0_2 : Value} (hr_a0_1 : Rd w va0_1 a0_1) (hr_a0_2 : Rd w va0_2 a0_2) :
  Calls Try.prog 37 ([.agg ([.int .i64 a0_0,va0_1,va0_2].toArray)] : List Value).toArray w (fun e w'=>e = .returned (.bool r0)∧Ext w w'):=by
 unfold impl_IsMaze.f at h
 have hl_va0_1:=hr_a0_1.len
 have hl_va0_2:=hr_a0_2.len
 refine Calls.of_tri (N:=74) Try.func37 rfl rfl rfl (Sep.nil (M:=noM)) ?_
 refine Tri.seq (Tri.reg (l:=[0,1]) rfl ?_)
 refine F.mn rfl (m_boxG rfl rfl) ?_
 rintro _ _ ⟨b1_1,rfl,rfl⟩
 refine F.qn rfl (r_assign rfl) (F.nil (Nrm.seq (Tri.seq (Tri.seq ?_))))
 obtain ⟨y22,hE_1,h⟩:=bind_some h
 refine Tri.cut (fun e' C'=>e' = [(1,.pointer (some ⟨b1_1,0,none⟩)),(22,.bool y22)]∧C' = Sep w noM [R.box b1_1 29 [.int .i64 a0_0,va0_1,va0_2]]) ?_ (fun hj_1=>?_)
 ·rintro _ _ ⟨rfl,rfl⟩
  refine Nrm.seq (Tri.cond (b:=y22) rfl (fun g_1=>?_) (fun g_1=>?_))
  ·replace h:=if_tt g_1 h
   refine Tri.seq (Tri.reg (l:=[0]) rfl ?_)
   refine F.qn rfl (r_assign rfl) (F.nil (Nrm.seq (Tri.ret ?_)))
   refine Rtn.then ?_
   cases h
   exact Rtn.body (.tmp rfl .nil) (fun w hw=>⟨rfl,hw.ext⟩)
  ·replace h:=if_ff g_1 h
   refine Tri.skip (Nrm.seq (Tri.seq (Tri.seq (Tri.reg (l:=[0,1,2,3]) rfl ?_))))
   refine F.qn rfl (r_fieldAddr tf29_1 rfl) (F.qn rfl (r_load ta22 rfl (fun w hw=>cell_1 (box_cells (i:=0) rfl w hw) rfl)) (F.qn rfl (r_len Try.underlying22 rfl hl_va0_1) (F.qn rfl (r_move rfl) (F.nil (Nrm.seq ?_)))))
   obtain ⟨s0,hE_2,h⟩:=bind_some h
   refine Tri.block ?_
   refine Tri.only [1,24,25,26] rfl ?_
   refine Tri.pick [0] rfl rfl ?_
   refine Tri.rounds (fun n e' C'=>∃ (x26' : Int),impl_IsMaze.l0 k a0_0 a0_1 n x26' = some s0∧e' = [(1,.pointer (some ⟨b1_1,0,none⟩)),(24,va0_1),(25,.int .i64 (a0_1.length : Int)),(26,.int .i64 x26')]∧C' = Sep w noM [R.box b1_1 29 [.int .i64 a0_0,va0_1,va0_2]]) k ?_ ?_ ?_
   ·exact ⟨0,hE_2,rfl,rfl⟩
   ·rintro _ _ ⟨_,hE_2,_⟩
    rw [impl_IsMaze.l0.eq_1] at hE_2; cases hE_2
   ·rintro n_1 _ _ ⟨x26,hE_2,rfl,rfl⟩ ih_1
    rw [impl_IsMaze.l0.eq_2] at hE_2
    refine Tri.seq (Tri.reg (l:=[0]) rfl ?_)
    refine F.qn rfl (r_lss rfl rfl) (F.nil (Nrm.seq (Tri.seq (Tri.cond (b:=decide (x26 < (a0_1.length : Int))) rfl (fun g_2=>?_) (fun g_2=>?_)))))
    ·replace hE_2:=if_tt g_2 hE_2
     refine Tri.skip (Nrm.seq (Tri.seq (Tri.block ?_)))
     refine Tri.seq ?_
     obtain ⟨t29,h29,hE_2⟩:=bind_some hE_2
     refine Tri.reg (l:=[0,1,2,3,4,5]) rfl ?_
     refine F.qn rfl (r_move rfl) (F.qn rfl (r_indexAddrS Try.underlying22 ti61 rfl hl_va0_1 rfl (rdl_some h29).1 (rdl_some h29).2.1) (F.qn rfl (r_loadA ta61 ti61 rfl rfl (fun w hw=>(Rd.flat ((fun _ hw=>hr_a0_1.sep hw) w hw) (rdl_some h29).2.2))) ?_))
     refine F.mn rfl (m_alloc ti61) ?_
     rintro _ _ ⟨b4_1,rfl,rfl⟩
     refine F.qn rfl (r_assign rfl) ?_
     refine F.ef0 rfl rfl (wanted_none rfl) (d_storeG0 (i:=0) (cs2:=[.int .i64 t29.1,.int .i64 t29.2.1,.int .i64 t29.2.2]) ti61 rfl rfl rfl rfl rfl (Nat.le_of_ble_eq_true rfl) (lf_cons rfl (lf_cons rfl (lf_cons rfl lf_nil)))) ?_
     rintro _ _ ⟨rfl,rfl⟩
     refine F.nil (Nrm.seq (Tri.seq ?_))
     obtain ⟨y68,hE_3,hE_2⟩:=bind_some hE_2
     refine Tri.cut (fun e' C'=>e' = [(1,.pointer (some ⟨b1_1,0,none⟩)),(24,va0_1),(25,.int .i64 (a0_1.length : Int)),(26,.int .i64 x26),(68,.bool y68)]∧C' = Sep w noM [R.box b1_1 29 [.int .i64 a0_0,va0_1,va0_2]]) ?_ (fun hj_2=>?_)
     ·rintro _ _ ⟨rfl,rfl⟩
      refine Nrm.seq (Tri.cond (b:=y68) rfl (fun g_3=>?_) (fun g_3=>?_))
      ·replace hE_2:=if_tt g_3 hE_2
       refine Tri.seq (Tri.reg (l:=[0]) rfl ?_)
       refine F.qn rfl (r_assign rfl) (F.nil (Nrm.seq (Tri.ret ?_)))
       refine Rtn.block ?_
       refine Rtn.then ?_
       refine Rtn.then ?_
       refine Rtn.block ?_
       refine Rtn.then ?_
       cases hE_2
       replace h:=Lr_inr h
       cases h
       exact Rtn.body (.tmp rfl .nil) (fun w hw=>⟨rfl,hw.ext⟩)
      ·replace hE_2:=if_ff g_3 hE_2
       refine Tri.skip (Nrm.block ?_)
       refine Nrm.seq (Tri.reg (l:=[0,1]) rfl ?_)
       refine F.qn rfl (r_add rfl rfl) (F.qn rfl (r_move rfl) (F.nil (Nrm.round ?_)))
       refine Rnd.only [1,24,25,26] rfl ?_
       refine Rnd.pick [0] rfl rfl ?_
       exact ih_1 _ _ ⟨w64 (x26 + 1),hE_2,rfl,rfl⟩
     ·rcases Bool.eq_false_or_eq_true (decide (t29.1 < 0)) with g34 | g34
      ·replace hE_3:=if_tt g34 hE_3
       refine Tri.drawA mixedT Sep.up [(0,true),(1,true),(2,true),(3,true),(4,true),(5,true),(6,true),(7,true),(8,true),(9,true),(10,true),(11,true),(12,true),(13,true),(14,true),(15,true),(16,true),(17,true),(18,true),(19,true),(20,true),(21,true),(22,true),(23,true),(24,true),(25,true),(26,true),(27,true),(28,true),(29,true),(30,true),(31,true),(32,true),(33,true),(34,true),(35,true),(36,true),(37,true)] [] (by kernel_rfl) ?_
       refine S.qn rfl (r_indexAddrA Try.underlying61 ti3 rfl rfl (by decide) (by decide)) (S.qn rfl (r_load ta3 rfl (fun w hw=>cell_1 (box_cells (i:=0) rfl w hw) rfl)) (S.qn rfl (r_lss rfl rfl) (S.qn rfl (r_move rfl) ?_)))
       iterate 5 refine S.skf rfl g34 ?_
       refine S.qn rfl (r_pick rfl rfl g34) (S.qn rfl (r_move rfl) ?_)
       iterate 5 refine S.skf rfl rfl ?_
       refine S.qn rfl (r_pick rfl rfl rfl) (S.qn rfl (r_move rfl) ?_)
       iterate 4 refine S.skf rfl rfl ?_
       refine S.qn rfl (r_pick rfl rfl rfl) (S.qn rfl (r_move rfl) ?_)
       iterate 3 refine S.skf rfl rfl ?_
       iterate 9 refine S.sk rfl rfl rfl (wanted_undef rfl rfl rfl) ?_
       refine S.skf rfl rfl (S.qn rfl (r_pick rfl rfl rfl) (S.nil (F.nil ?_)))
       cases hE_3
       refine Nrm.only [1,24,25,26,68] rfl ?_
       refine Nrm.pick [1] rfl rfl ?_
       exact hj_2 _ _ ⟨rfl,rfl⟩
      ·replace hE_3:=if_ff g34 hE_3
       rcases Bool.eq_false_or_eq_true (decide (t29.1 ≥ t29.2.1)) with g41 | g41
       ·replace hE_3:=if_tt g41 hE_3
        refine Tri.drawA mixedT Sep.up [(0,true),(1,true),(2,true),(3,true),(4,true),(5,true),(6,true),(7,true),(8,true),(9,true),(10,true),(11,true),(12,true),(13,true),(14,true),(15,true),(16,true),(17,true),(18,true),(19,true),(20,true),(21,true),(22,true),(23,true),(24,true),(25,true),(26,true),(27,true),(28,true),(29,true),(30,true),(31,true),(32,true),(33,true),(34,true),(35,true),(36,true),(37,true)] [] (by kernel_rfl) ?_
        refine S.qn rfl (r_indexAddrA Try.underlying61 ti3 rfl rfl (by decide) (by decide)) (S.qn rfl (r_load ta3 rfl (fun w hw=>cell_1 (box_cells (i:=0) rfl w hw) rfl)) (S.qn rfl (r_lss rfl rfl) (S.qn rfl (r_move rfl) (S.qg rfl g34 (r_indexAddrA Try.underlying61 ti3 rfl rfl (by decide) (by decide)) ?_))))
        refine S.qg rfl g34 (r_load ta3 rfl (fun w hw=>cell_1 (box_cells (i:=0) rfl w hw) rfl)) (S.qg rfl g34 (r_indexAddrA Try.underlying61 ti3 rfl rfl (by decide) (by decide)) (S.qg rfl g34 (r_load ta3 rfl (fun w hw=>cell_1 (box_cells (i:=0) rfl w hw) rfl)) (S.qg rfl g34 (r_geq rfl rfl) (S.qn rfl (r_pickf rfl rfl g34) (S.qn rfl (r_move rfl) ?_)))))
        iterate 5 refine S.skf rfl g41 ?_
        refine S.qn rfl (r_pick rfl rfl g41) (S.qn rfl (r_move rfl) ?_)
        iterate 4 refine S.skf rfl rfl ?_
        refine S.qn rfl (r_pick rfl rfl rfl) (S.qn rfl (r_move rfl) ?_)
        iterate 3 refine S.skf rfl rfl ?_
        iterate 9 refine S.sk rfl rfl rfl (wanted_undef rfl rfl rfl) ?_
        refine S.skf rfl rfl (S.qn rfl (r_pick rfl rfl rfl) (S.nil (F.nil ?_)))
        cases hE_3
        refine Nrm.only [1,24,25,26,68] rfl ?_
        refine Nrm.pick [1] rfl rfl ?_
        exact hj_2 _ _ ⟨rfl,rfl⟩
       ·replace hE_3:=if_ff g41 hE_3
        rcases Bool.eq_false_or_eq_true (decide (t29.2.1 ≥ a0_0)) with g48 | g48
        ·replace hE_3:=if_tt g48 hE_3
         refine Tri.drawA mixedT Sep.up [(0,true),(1,true),(2,true),(3,true),(4,true),(5,true),(6,true),(7,true),(8,true),(9,true),(10,true),(11,true),(12,true),(13,true),(14,true),(15,true),(16,true),(17,true),(18,true),(19,true),(20,true),(21,true),(22,true),(23,true),(24,true),(25,true),(26,true),(27,true),(28,true),(29,true),(30,true),(31,true),(32,true),(33,true),(34,true),(35,true),(36,true),(37,true)] [] (by kernel_rfl) ?_
         refine S.qn rfl (r_indexAddrA Try.underlying61 ti3 rfl rfl (by decide) (by decide)) (S.qn rfl (r_load ta3 rfl (fun w hw=>cell_1 (box_cells (i:=0) rfl w hw) rfl)) (S.qn rfl (r_lss rfl rfl) (S.qn rfl (r_move rfl) (S.qg rfl g34 (r_indexAddrA Try.underlying61 ti3 rfl rfl (by decide) (by decide)) (S.qg rfl g34 (r_load ta3 rfl (fun w hw=>cell_1 (box_cells (i:=0) rfl w hw) rfl)) ?_)))))
         refine S.qg rfl g34 (r_indexAddrA Try.underlying61 ti3 rfl rfl (by decide) (by decide)) (S.qg rfl g34 (r_load ta3 rfl (fun w hw=>cell_1 (box_cells (i:=0) rfl w hw) rfl)) (S.qg rfl g34 (r_geq rfl rfl) (S.qn rfl (r_pickf rfl rfl g34) (S.qn rfl (r_move rfl) (S.qg rfl g41 (r_indexAddrA Try.underlying61 ti3 rfl rfl (by decide) (by decide)) ?_)))))
         refine S.qg rfl g41 (r_load ta3 rfl (fun w hw=>cell_1 (box_cells (i:=0) rfl w hw) rfl)) (S.qg rfl g41 (r_fieldAddr tf29_0 rfl) (S.qg rfl g41 (r_load ta3 rfl (fun w hw=>cell_1 (box_cells (i:=1) rfl w hw) rfl)) (S.qg rfl g41 (r_geq rfl rfl) (S.qn rfl (r_pickf rfl rfl g41) (S.qn rfl (r_move rfl) ?_)))))
         iterate 4 refine S.skf rfl g48 ?_
         refine S.qn rfl (r_pick rfl rfl g48) (S.qn rfl (r_move rfl) ?_)
         iterate 3 refine S.skf rfl rfl ?_
         iterate 9 refine S.sk rfl rfl rfl (wanted_undef rfl rfl rfl) ?_
         refine S.skf rfl rfl (S.qn rfl (r_pick rfl rfl rfl) (S.nil (F.nil ?_)))
         cases hE_3
         refine Nrm.only [1,24,25,26,68] rfl ?_
         refine Nrm.pick [1] rfl rfl ?_
         exact hj_2 _ _ ⟨rfl,rfl⟩
        ·replace hE_3:=if_ff g48 hE_3
         obtain ⟨t51,h51,hE_3⟩:=bind_some hE_3
         rcases Bool.eq_false_or_eq_true (!t51) with g54 | g54
         ·replace hE_3:=if_tt g54 hE_3
          refine Tri.drawA mixedT Sep.up [(0,true),(1,true),(2,true),(3,true),(4,true),(5,true),(6,true),(7,true),(8,true),(9,true),(10,true),(11,true),(12,true),(13,true),(14,true),(15,true),(16,true),(17,true),(18,true),(19,true),(20,true),(21,true),(22,true),(23,true),(24,true),(25,true),(26,true),(27,true),(28,true),(29,true),(30,true),(31,true),(32,true),(33,true),(34,true),(35,true),(36,true),(37,true)] [] (by kernel_rfl) ?_
          refine S.qn rfl (r_indexAddrA Try.underlying61 ti3 rfl rfl (by decide) (by decide)) (S.qn rfl (r_load ta3 rfl (fun w hw=>cell_1 (box_cells (i:=0) rfl w hw) rfl)) ?_)
          refine S.qn rfl (r_lss rfl rfl) (S.qn rfl (r_move rfl) (S.qg rfl g34 (r_indexAddrA Try.underlying61 ti3 rfl rfl (by decide) (by decide)) (S.qg rfl g34 (r_load ta3 rfl (fun w hw=>cell_1 (box_cells (i:=0) rfl w hw) rfl)) (S.qg rfl g34 (r_indexAddrA Try.underlying61 ti3 rfl rfl (by decide) (by decide)) (S.qg rfl g34 (r_load ta3 rfl (fun w hw=>cell_1 (box_cells (i:=0) rfl w hw) rfl)) ?_)))))
          refine S.qg rfl g34 (r_geq rfl rfl) (S.qn rfl (r_pickf rfl rfl g34) (S.qn rfl (r_move rfl) (S.qg rfl g41 (r_indexAddrA Try.underlying61 ti3 rfl rfl (by decide) (by decide)) (S.qg rfl g41 (r_load ta3 rfl (fun w hw=>cell_1 (box_cells (i:=0) rfl w hw) rfl)) (S.qg rfl g41 (r_fieldAddr tf29_0 rfl) ?_)))))
          refine S.qg rfl g41 (r_load ta3 rfl (fun w hw=>cell_1 (box_cells (i:=1) rfl w hw) rfl)) (S.qg rfl g41 (r_geq rfl rfl) (S.qn rfl (r_pickf rfl rfl g41) (S.qn rfl (r_move rfl) (S.qg rfl g48 (r_indexAddrA Try.underlying61 ti3 rfl rfl (by decide) (by decide)) (S.qg rfl g48 (r_load ta3 rfl (fun w hw=>cell_1 (box_cells (i:=0) rfl w hw) rfl)) ?_)))))
          refine S.qc rfl rfl rfl (wg rfl rfl rfl g48) (q_callF (xs:=_) rfl ok49 rfl rfl (fun w hw=>impl_isSet.ok h51 w)) ?_
          refine S.qg rfl g48 (r_not rfl) (S.qn rfl (r_pickf rfl rfl g48) (S.qn rfl (r_move rfl) ?_))
          iterate 3 refine S.skf rfl g54 ?_
          iterate 9 refine S.sk rfl rfl rfl (wanted_undef rfl rfl rfl) ?_
          refine S.skf rfl g54 (S.qn rfl (r_pick rfl rfl g54) (S.nil (F.nil ?_)))
          cases hE_3
          refine Nrm.only [1,24,25,26,68] rfl ?_
          refine Nrm.pick [1] rfl rfl ?_
          exact hj_2 _ _ ⟨rfl,rfl⟩
         ·replace hE_3:=if_ff g54 hE_3
          rcases Bool.eq_false_or_eq_true (decide (x26 > 0)) with g57 | g57
          ·replace hE_3:=if_tt g57 hE_3
           obtain ⟨t62,h62,hE_3⟩:=bind_some hE_3
           obtain ⟨t65,h65,hE_3⟩:=bind_some hE_3
           refine Tri.drawA mixedT Sep.up [(0,true),(1,true),(2,true),(3,true),(4,true),(5,true),(6,true),(7,true),(8,true),(9,true),(10,true),(11,true),(12,true),(13,true),(14,true),(15,true),(16,true),(17,true),(18,true),(19,true),(20,true),(21,true),(22,true),(23,true),(24,true),(25,true),(26,true),(27,true),(28,true),(29,true),(30,true),(31,true),(32,true),(33,true),(34,true),(35,true),(36,true),(37,true)] [] (by kernel_rfl) ?_
           refine S.qn rfl (r_indexAddrA Try.underlying61 ti3 rfl rfl (by decide) (by decide)) (S.qn rfl (r_load ta3 rfl (fun w hw=>cell_1 (box_cells (i:=0) rfl w hw) rfl)) ?_)
           refine S.qn rfl (r_lss rfl rfl) (S.qn rfl (r_move rfl) (S.qg rfl g34 (r_indexAddrA Try.underlying61 ti3 rfl rfl (by decide) (by decide)) (S.qg rfl g34 (r_load ta3 rfl (fun w hw=>cell_1 (box_cells (i:=0) rfl w hw) rfl)) (S.qg rfl g34 (r_indexAddrA Try.underlying61 ti3 rfl rfl (by decide) (by decide)) (S.qg rfl g34 (r_load ta3 rfl (fun w hw=>cell_1 (box_cells (i:=0) rfl w hw) rfl)) ?_)))))
           refine S.qg rfl g34 (r_geq rfl rfl) (S.qn rfl (r_pickf rfl rfl g34) (S.qn rfl (r_move rfl) (S.qg rfl g41 (r_indexAddrA Try.underlying61 ti3 rfl rfl (by decide) (by decide)) (S.qg rfl g41 (r_load ta3 rfl (fun w hw=>cell_1 (box_cells (i:=0) rfl w hw) rfl)) (S.qg rfl g41 (r_fieldAddr tf29_0 rfl) ?_)))))
           refine S.qg rfl g41 (r_load ta3 rfl (fun w hw=>cell_1 (box_cells (i:=1) rfl w hw) rfl)) (S.qg rfl g41 (r_geq rfl rfl) (S.qn rfl (r_pickf rfl rfl g41) (S.qn rfl (r_move rfl) (S.qg rfl g48 (r_indexAddrA Try.underlying61 ti3 rfl rfl (by decide) (by decide)) (S.qg rfl g48 (r_load ta3 rfl (fun w hw=>cell_1 (box_cells (i:=0) rfl w hw) rfl)) ?_)))))
           refine S.qc rfl rfl rfl (wg rfl rfl rfl g48) (q_callF (xs:=_) rfl ok49 rfl rfl (fun w hw=>impl_isSet.ok h51 w)) ?_
           refine S.qg rfl g48 (r_not rfl) ?_
           refine S.qn rfl (r_pickf rfl rfl g48) (S.qn rfl (r_move rfl) (S.qg rfl g54 (r_move rfl) (S.qg rfl g54 (r_gtr rfl rfl) (S.qg rfl g54 (r_move rfl) (S.qg rfl g57 (r_fieldAddr tf29_1 rfl) ?_)))))
           refine S.qg rfl g57 (r_load ta22 rfl (fun w hw=>cell_1 (box_cells (i:=1) rfl w hw) rfl)) (S.qg rfl g57 (r_move rfl) (S.qg rfl g57 (r_sub rfl rfl) (S.qg rfl g57 (r_indexAddrS Try.underlying22 ti61 rfl hl_va0_1 rfl (rdl_some h62).1 (rdl_some h62).2.1) (S.qg rfl g57 (r_loadA ta61 ti61 rfl rfl (fun w hw=>(Rd.flat ((fun _ hw=>hr_a0_1.sep hw) w hw) (rdl_some h62).2.2))) (S.qg rfl g57 (r_loadA ta61 ti61 rfl rfl (fun w hw=>(box_cells (i:=0) rfl w hw))) ?_)))))
           refine S.qc rfl rfl rfl (wg rfl rfl rfl g57) (q_callF (xs:=_) rfl ok50 rfl rfl (fun w hw=>impl_compareDoors.ok h65 w)) ?_
           refine S.qg rfl g57 (r_geq rfl rfl) (S.qg rfl g54 (r_pick rfl rfl g57) (S.qn rfl (r_pickf rfl rfl g54) (S.nil (F.nil ?_))))
           cases hE_3
           refine Nrm.only [1,24,25,26,68] rfl ?_
           refine Nrm.pick [1] rfl rfl ?_
           exact hj_2 _ _ ⟨rfl,rfl⟩
          ·replace hE_3:=if_ff g57 hE_3
           refine Tri.drawA mixedT Sep.up [(0,true),(1,true),(2,true),(3,true),(4,true),(5,true),(6,true),(7,true),(8,true),(9,true),(10,true),(11,true),(12,true),(13,true),(14,true),(15,true),(16,true),(17,true),(18,true),(19,true),(20,true),(21,true),(22,true),(23,true),(24,true),(25,true),(26,true),(27,true),(28,true),(29,true),(30,true),(31,true),(32,true),(33,true),(34,true),(35,true),(36,true),(37,true)] [] (by kernel_rfl) ?_
           refine S.qn rfl (r_indexAddrA Try.underlying61 ti3 rfl rfl (by decide) (by decide)) (S.qn rfl (r_load ta3 rfl (fun w hw=>cell_1 (box_cells (i:=0) rfl w hw) rfl)) ?_)
           refine S.qn rfl (r_lss rfl rfl) (S.qn rfl (r_move rfl) (S.qg rfl g34 (r_indexAddrA Try.underlying61 ti3 rfl rfl (by decide) (by decide)) (S.qg rfl g34 (r_load ta3 rfl (fun w hw=>cell_1 (box_cells (i:=0) rfl w hw) rfl)) (S.qg rfl g34 (r_indexAddrA Try.underlying61 ti3 rfl rfl (by decide) (by decide)) (S.qg rfl g34 (r_load ta3 rfl (fun w hw=>cell_1 (box_cells (i:=0) rfl w hw) rfl)) ?_)))))
           refine S.qg rfl g34 (r_geq rfl rfl) (S.qn rfl (r_pickf rfl rfl g34) (S.qn rfl (r_move rfl) (S.qg rfl g41 (r_indexAddrA Try.underlying61 ti3 rfl rfl (by decide) (by decide)) (S.qg rfl g41 (r_load ta3 rfl (fun w hw=>cell_1 (box_cells (i:=0) rfl w hw) rfl)) (S.qg rfl g41 (r_fieldAddr tf29_0 rfl) ?_)))))
           refine S.qg rfl g41 (r_load ta3 rfl (fun w hw=>cell_1 (box_cells (i:=1) rfl w hw) rfl)) (S.qg rfl g41 (r_geq rfl rfl) (S.qn rfl (r_pickf rfl rfl g41) (S.qn rfl (r_move rfl) (S.qg rfl g48 (r_indexAddrA Try.underlying61 ti3 rfl rfl (by decide) (by decide)) (S.qg rfl g48 (r_load ta3 rfl (fun w hw=>cell_1 (box_cells (i:=0) rfl w hw) rfl)) ?_)))))
           refine S.qc rfl rfl rfl (wg rfl rfl rfl g48) (q_callF (xs:=_) rfl ok49 rfl rfl (fun w hw=>impl_isSet.ok h51 w)) ?_
           refine S.qg rfl g48 (r_not rfl) (S.qn rfl (r_pickf rfl rfl g48) (S.qn rfl (r_move rfl) (S.qg rfl g54 (r_move rfl) (S.qg rfl g54 (r_gtr rfl rfl) (S.qg rfl g54 (r_move rfl) ?_)))))
           iterate 9 refine S.skf rfl g57 ?_
           refine S.qg rfl g54 (r_pickf rfl rfl g57) (S.qn rfl (r_pickf rfl rfl g54) (S.nil (F.nil ?_)))
           cases hE_3
           refine Nrm.only [1,24,25,26,68] rfl ?_
           refine Nrm.pick [1] rfl rfl ?_
           exact hj_2 _ _ ⟨rfl,rfl⟩
    ·replace hE_2:=if_ff g_2 hE_2
     refine Tri.exit ?_
     refine Exi.then ?_
     refine Exi.then ?_
     refine Exi.same ?_
     cases hE_2
     replace h:=Lr_inl h
     refine Nrm.seq (Tri.seq ?_)
     obtain ⟨t72,h72,h⟩:=bind_some h
     refine Tri.reg (l:=[0,1,2,3,4]) rfl ?_
     refine F.qn rfl (r_fieldAddr tf29_2 rfl) (F.qn rfl (r_load ta23 rfl (fun w hw=>cell_1 (box_cells (i:=0) rfl w hw) rfl)) ?_)
     refine F.qcn rfl (q_callF (xs:=_) rfl ok51 rfl rfl (fun w hw=>slices_ContainsFunc_int_int.ok h72 w ((fun _ hw=>hr_a0_2.sep hw) w hw) ok52 (fun w2 he2 z0 y2 hy2=>impl_IsMaze_1.ok hy2 w2))) ?_
     refine F.qn rfl (r_not rfl) (F.qn rfl (r_assign rfl) (F.nil (Nrm.seq (Tri.ret ?_))))
     cases h
     exact Rtn.body (.tmp rfl .nil) (fun w hw=>⟨rfl,hw.ext⟩)
 ·obtain ⟨t7,h7,hE_1⟩:=bind_some hE_1
  rcases Bool.eq_false_or_eq_true (!t7) with g9 | g9
  ·replace hE_1:=if_tt g9 hE_1
   refine Tri.reg (l:=List.range 18) rfl ?_
   refine F.qn rfl (r_fieldAddr tf29_0 rfl) (F.qn rfl (r_load ta3 rfl (fun w hw=>cell_1 (box_cells (i:=0) rfl w hw) rfl)) ?_)
   refine F.qcn rfl (q_callF (xs:=_) rfl ok20 rfl rfl (fun w hw=>impl_within.ok h7 w)) ?_
   refine F.qn rfl (r_not rfl) (F.qn rfl (r_move rfl) ?_)
   iterate 4 refine F.skf rfl g9 ?_
   refine F.qn rfl (r_pick rfl rfl g9) (F.qn rfl (r_move rfl) ?_)
   iterate 6 refine F.skf rfl rfl ?_
   refine F.qn rfl (r_pick rfl rfl rfl) (F.nil ?_)
   cases hE_1
   refine Nrm.only [1,22] rfl ?_
   refine Nrm.pick [0] rfl rfl ?_
   exact hj_1 _ _ ⟨rfl,rfl⟩
  ·replace hE_1:=if_ff g9 hE_1
   rcases Bool.eq_false_or_eq_true (decide ((a0_1.length : Int) > 30)) with g15 | g15
   ·replace hE_1:=if_tt g15 hE_1
    refine Tri.reg (l:=List.range 18) rfl ?_
    refine F.qn rfl (r_fieldAddr tf29_0 rfl) (F.qn rfl (r_load ta3 rfl (fun w hw=>cell_1 (box_cells (i:=0) rfl w hw) rfl)) ?_)
    refine F.qcn rfl (q_callF (xs:=_) rfl ok20 rfl rfl (fun w hw=>impl_within.ok h7 w)) ?_
    refine F.qn rfl (r_not rfl) (F.qn rfl (r_move rfl) ?_)
    refine F.qg rfl g9 (r_fieldAddr tf29_1 rfl) (F.qg rfl g9 (r_load ta22 rfl (fun w hw=>cell_1 (box_cells (i:=0) rfl w hw) rfl)) (F.qg rfl g9 (r_len Try.underlying22 rfl hl_va0_1) (F.qg rfl g9 (r_gtr rfl rfl) (F.qn rfl (r_pickf rfl rfl g9) (F.qn rfl (r_move rfl) ?_)))))
    iterate 6 refine F.skf rfl g15 ?_
    refine F.qn rfl (r_pick rfl rfl g15) (F.nil ?_)
    cases hE_1
    refine Nrm.only [1,22] rfl ?_
    refine Nrm.pick [0] rfl rfl ?_
    exact hj_1 _ _ ⟨rfl,rfl⟩
   ·replace hE_1:=if_ff g15 hE_1
    refine Tri.reg (l:=List.range 18) rfl ?_
    refine F.qn rfl (r_fieldAddr tf29_0 rfl) (F.qn rfl (r_load ta3 rfl (fun w hw=>cell_1 (box_cells (i:=0) rfl w hw) rfl)) ?_)
    refine F.qcn rfl (q_callF (xs:=_) rfl ok20 rfl rfl (fun w hw=>impl_within.ok h7 w)) ?_
    refine F.qn rfl (r_not rfl) (F.qn rfl (r_move rfl) (F.qg rfl g9 (r_fieldAddr tf29_1 rfl) ?_))
    refine F.qg rfl g9 (r_load ta22 rfl (fun w hw=>cell_1 (box_cells (i:=0) rfl w hw) rfl)) (F.qg rfl g9 (r_len Try.underlying22 rfl hl_va0_1) (F.qg rfl g9 (r_gtr rfl rfl) (F.qn rfl (r_pickf rfl rfl g9) (F.qn rfl (r_move rfl) (F.qg rfl g15 (r_fieldAddr tf29_2 rfl) ?_)))))
    refine F.qg rfl g15 (r_load ta23 rfl (fun w hw=>cell_1 (box_cells (i:=0) rfl w hw) rfl)) (F.qg rfl g15 (r_len Try.underlying23 rfl hl_va0_2) (F.qg rfl g15 (r_fieldAddr tf29_0 rfl) (F.qg rfl g15 (r_load ta3 rfl (fun w hw=>cell_1 (box_cells (i:=0) rfl w hw) rfl)) (F.qg rfl g15 (r_neq rfl rfl) (F.qn rfl (r_pickf rfl rfl g15) (F.nil ?_))))))
    cases hE_1
    refine Nrm.only [1,22] rfl ?_
    refine Nrm.pick [0] rfl rfl ?_
    exact hj_1 _ _ ⟨rfl,rfl⟩


def impl_IsTrap.l0 (k : Nat) (a0_1 : List (Int × Int × Int)) (a0_3 : List Int) : Nat → Int → Option ((Unit) ⊕ (Bool))
 | 0,_=>none
 | n + 1,x12=>(if (decide (x12 < (a0_3.length : Int))) = true then (rdl a0_3 x12).bind fun t15=>((impl_within.f k t15 0 (w64 ((a0_1.length : Int) - 1))).bind fun t23=>(if (!t23) = true then some true else (if (decide (x12 > 0)) = true then (rdl a0_3 (w64 (x12 - 1))).bind fun t34=>some (decide (t15 ≤ t34)) else some false))).bind fun y38=>(if y38 = true then some (Sum.inr false) else impl_IsTrap.l0 k a0_1 a0_3 n (w64 (x12 + 1))) else some (Sum.inl ()))

def impl_IsTrap.f (k : Nat) (a0_0 : Int) (a0_1 : List (Int × Int × Int)) (a0_2 : List Int) (a0_3 : List Int) : Option (Bool) := (impl_IsMaze.f k a0_0 a0_1 a0_2).bind fun t7 => (if (!t7) = true then some false else (impl_IsTrap.l0 k a0_1 a0_3 k 0).bind fun s => Lr s some fun _ => some true)

theorem impl_IsTrap.ok {k : Nat}  {a0_0 : Int} {a0_1 : List (Int × Int × Int)} {a0_2 : List Int} {a0_3 : List Int} {r0 : Bool} (h : impl_IsTrap.f k a0_0 a0_1 a0_2 a0_3 = some r0) (w : World) {va0_1 : Value} {va0_2 : Value} {va0_3 : Value} (hr_a0_1 : Rd w va0_1 a0_1) (hr_a0_2 : Rd w va0_2 a0_2) (hr_a0_3 : Rd w va0_3 a0_3) :
  Calls Try.prog 19 ([.agg ([.int .i64 a0_0,va0_1,va0_2,va0_3].toArray)] : List Value).toArray w (fun e w'=>e = .returned (.bool r0)∧Ext w w'):=by
 unfold impl_IsTrap.f at h
 have hl_va0_1:=hr_a0_1.len
 have hl_va0_2:=hr_a0_2.len
 have hl_va0_3:=hr_a0_3.len
 refine Calls.of_tri (N:=40) Try.func19 rfl rfl rfl (Sep.nil (M:=noM)) ?_
 refine Tri.seq (Tri.reg (l:=[0,1]) rfl ?_)
 refine F.mn rfl (m_boxG rfl rfl) ?_
 rintro _ _ ⟨b1_1,rfl,rfl⟩
 refine F.qn rfl (r_assign rfl) (F.nil (Nrm.seq (Tri.seq (Tri.seq ?_))))
 obtain ⟨t7,h7,h⟩:=bind_some h
 refine Tri.reg (l:=[0,1,2,3]) rfl ?_
 refine F.qn rfl (r_fieldAddr tf31_0 rfl) (F.qn rfl (r_loadA ta29 ti29 rfl rfl (fun w hw=>cells_1 (cs':=[.int .i64 a0_0,va0_1,va0_2]) (box_cells (i:=0) rfl w hw) rfl)) ?_)
 refine F.qcn rfl (q_callF (xs:=_) rfl ok37 rfl rfl (fun w hw=>impl_IsMaze.ok h7 w ((fun _ hw=>hr_a0_1.sep hw) w hw) ((fun _ hw=>hr_a0_2.sep hw) w hw))) ?_
 refine F.qn rfl (r_not rfl) (F.nil (Nrm.seq (Tri.cond (b:=!t7) rfl (fun g_1=>?_) (fun g_1=>?_))))
 ·replace h:=if_tt g_1 h
  refine Tri.seq (Tri.reg (l:=[0]) rfl ?_)
  refine F.qn rfl (r_assign rfl) (F.nil (Nrm.seq (Tri.ret ?_)))
  refine Rtn.then ?_
  cases h
  exact Rtn.body (.tmp rfl .nil) (fun w hw=>⟨rfl,hw.ext⟩)
 ·replace h:=if_ff g_1 h
  refine Tri.skip (Nrm.seq (Tri.seq (Tri.seq (Tri.reg (l:=[0,1,2,3]) rfl ?_))))
  refine F.qn rfl (r_fieldAddr tf31_1 rfl) (F.qn rfl (r_load ta23 rfl (fun w hw=>cell_1 (box_cells (i:=0) rfl w hw) rfl)) (F.qn rfl (r_len Try.underlying23 rfl hl_va0_3) (F.qn rfl (r_move rfl) (F.nil (Nrm.seq ?_)))))
  obtain ⟨s0,hE_1,h⟩:=bind_some h
  refine Tri.block ?_
  refine Tri.only [1,10,11,12] rfl ?_
  refine Tri.pick [0] rfl rfl ?_
  refine Tri.rounds (fun n e' C'=>∃ (x12' : Int),impl_IsTrap.l0 k a0_1 a0_3 n x12' = some s0∧e' = [(1,.pointer (some ⟨b1_1,0,none⟩)),(10,va0_3),(11,.int .i64 (a0_3.length : Int)),(12,.int .i64 x12')]∧C' = Sep w noM [R.box b1_1 31 [.int .i64 a0_0,va0_1,va0_2,va0_3]]) k ?_ ?_ ?_
  ·exact ⟨0,hE_1,rfl,rfl⟩
  ·rintro _ _ ⟨_,hE_1,_⟩
   rw [impl_IsTrap.l0.eq_1] at hE_1; cases hE_1
  ·rintro n_1 _ _ ⟨x12,hE_1,rfl,rfl⟩ ih_1
   rw [impl_IsTrap.l0.eq_2] at hE_1
   refine Tri.seq (Tri.reg (l:=[0]) rfl ?_)
   refine F.qn rfl (r_lss rfl rfl) (F.nil (Nrm.seq (Tri.seq (Tri.cond (b:=decide (x12 < (a0_3.length : Int))) rfl (fun g_2=>?_) (fun g_2=>?_)))))
   ·replace hE_1:=if_tt g_2 hE_1
    refine Tri.skip (Nrm.seq (Tri.seq (Tri.block ?_)))
    refine Tri.seq ?_
    obtain ⟨t15,h15,hE_1⟩:=bind_some hE_1
    refine Tri.reg (l:=[0,1,2,3,4]) rfl ?_
    refine F.qn rfl (r_move rfl) (F.qn rfl (r_indexAddrS Try.underlying23 ti3 rfl hl_va0_3 rfl (rdl_some h15).1 (rdl_some h15).2.1) (F.qn rfl (r_load ta3 rfl (fun w hw=>cell_0 (Rd.flat ((fun _ hw=>hr_a0_3.sep hw) w hw) (rdl_some h15).2.2) rfl)) (F.qn rfl (r_assign rfl) (F.qn rfl (r_assign rfl) (F.nil (Nrm.seq (Tri.seq ?_)))))))
    obtain ⟨y38,hE_2,hE_1⟩:=bind_some hE_1
    refine Tri.cut (fun e' C'=>e' = [(1,.pointer (some ⟨b1_1,0,none⟩)),(10,va0_3),(11,.int .i64 (a0_3.length : Int)),(12,.int .i64 x12),(38,.bool y38)]∧C' = Sep w noM [R.box b1_1 31 [.int .i64 a0_0,va0_1,va0_2,va0_3]]) ?_ (fun hj_1=>?_)
    ·rintro _ _ ⟨rfl,rfl⟩
     refine Nrm.seq (Tri.cond (b:=y38) rfl (fun g_3=>?_) (fun g_3=>?_))
     ·replace hE_1:=if_tt g_3 hE_1
      refine Tri.seq (Tri.reg (l:=[0]) rfl ?_)
      refine F.qn rfl (r_assign rfl) (F.nil (Nrm.seq (Tri.ret ?_)))
      refine Rtn.block ?_
      refine Rtn.then ?_
      refine Rtn.then ?_
      refine Rtn.block ?_
      refine Rtn.then ?_
      cases hE_1
      replace h:=Lr_inr h
      cases h
      exact Rtn.body (.tmp rfl .nil) (fun w hw=>⟨rfl,hw.ext⟩)
     ·replace hE_1:=if_ff g_3 hE_1
      refine Tri.skip (Nrm.block ?_)
      refine Nrm.seq (Tri.reg (l:=[0,1]) rfl ?_)
      refine F.qn rfl (r_add rfl rfl) (F.qn rfl (r_move rfl) (F.nil (Nrm.round ?_)))
      refine Rnd.only [1,10,11,12] rfl ?_
      refine Rnd.pick [0] rfl rfl ?_
      exact ih_1 _ _ ⟨w64 (x12 + 1),hE_1,rfl,rfl⟩
    ·obtain ⟨t23,h23,hE_2⟩:=bind_some hE_2
     rcases Bool.eq_false_or_eq_true (!t23) with g25 | g25
     ·replace hE_2:=if_tt g25 hE_2
      refine Tri.reg (l:=List.range 22) rfl ?_
      refine F.qn rfl (r_move rfl) (F.qn rfl (r_fieldAddr tf31_0 rfl) (F.qn rfl (r_fieldAddr tf29_1 rfl) (F.qn rfl (r_load ta22 rfl (fun w hw=>cell_2 (box_cells (i:=0) rfl w hw) rfl)) (F.qn rfl (r_len Try.underlying22 rfl hl_va0_1) (F.qn rfl (r_sub rfl rfl) ?_)))))
      refine F.qcn rfl (q_callF (xs:=_) rfl ok20 rfl rfl (fun w hw=>impl_within.ok h23 w)) ?_
      refine F.qn rfl (r_not rfl) (F.qn rfl (r_move rfl) ?_)
      iterate 3 refine F.skf rfl g25 ?_
      iterate 8 refine F.sk rfl rfl rfl (wanted_undef rfl rfl rfl) ?_
      refine F.skf rfl g25 (F.qn rfl (r_pick rfl rfl g25) (F.nil ?_))
      cases hE_2
      refine Nrm.only [1,10,11,12,38] rfl ?_
      refine Nrm.pick [0] rfl rfl ?_
      exact hj_1 _ _ ⟨rfl,rfl⟩
     ·replace hE_2:=if_ff g25 hE_2
      rcases Bool.eq_false_or_eq_true (decide (x12 > 0)) with g28 | g28
      ·replace hE_2:=if_tt g28 hE_2
       obtain ⟨t34,h34,hE_2⟩:=bind_some hE_2
       refine Tri.reg (l:=List.range 22) rfl ?_
       refine F.qn rfl (r_move rfl) (F.qn rfl (r_fieldAddr tf31_0 rfl) (F.qn rfl (r_fieldAddr tf29_1 rfl) (F.qn rfl (r_load ta22 rfl (fun w hw=>cell_2 (box_cells (i:=0) rfl w hw) rfl)) (F.qn rfl (r_len Try.underlying22 rfl hl_va0_1) (F.qn rfl (r_sub rfl rfl) ?_)))))
       refine F.qcn rfl (q_callF (xs:=_) rfl ok20 rfl rfl (fun w hw=>impl_within.ok h23 w)) ?_
       refine F.qn rfl (r_not rfl) (F.qn rfl (r_move rfl) (F.qg rfl g25 (r_move rfl) ?_))
       refine F.qg rfl g25 (r_gtr rfl rfl) (F.qg rfl g25 (r_move rfl) (F.qg rfl g28 (r_move rfl) (F.qg rfl g28 (r_fieldAddr tf31_1 rfl) (F.qg rfl g28 (r_load ta23 rfl (fun w hw=>cell_1 (box_cells (i:=0) rfl w hw) rfl)) (F.qg rfl g28 (r_move rfl) ?_)))))
       refine F.qg rfl g28 (r_sub rfl rfl) (F.qg rfl g28 (r_indexAddrS Try.underlying23 ti3 rfl hl_va0_3 rfl (rdl_some h34).1 (rdl_some h34).2.1) (F.qg rfl g28 (r_load ta3 rfl (fun w hw=>cell_0 (Rd.flat ((fun _ hw=>hr_a0_3.sep hw) w hw) (rdl_some h34).2.2) rfl)) (F.qg rfl g28 (r_leq rfl rfl) (F.qg rfl g25 (r_pick rfl rfl g28) (F.qn rfl (r_pickf rfl rfl g25) (F.nil ?_))))))
       cases hE_2
       refine Nrm.only [1,10,11,12,38] rfl ?_
       refine Nrm.pick [0] rfl rfl ?_
       exact hj_1 _ _ ⟨rfl,rfl⟩
      ·replace hE_2:=if_ff g28 hE_2
       refine Tri.reg (l:=List.range 22) rfl ?_
       refine F.qn rfl (r_move rfl) (F.qn rfl (r_fieldAddr tf31_0 rfl) (F.qn rfl (r_fieldAddr tf29_1 rfl) (F.qn rfl (r_load ta22 rfl (fun w hw=>cell_2 (box_cells (i:=0) rfl w hw) rfl)) (F.qn rfl (r_len Try.underlying22 rfl hl_va0_1) (F.qn rfl (r_sub rfl rfl) ?_)))))
       refine F.qcn rfl (q_callF (xs:=_) rfl ok20 rfl rfl (fun w hw=>impl_within.ok h23 w)) ?_
       refine F.qn rfl (r_not rfl) (F.qn rfl (r_move rfl) (F.qg rfl g25 (r_move rfl) (F.qg rfl g25 (r_gtr rfl rfl) (F.qg rfl g25 (r_move rfl) ?_))))
       iterate 8 refine F.skf rfl g28 ?_
       refine F.qg rfl g25 (r_pickf rfl rfl g28) (F.qn rfl (r_pickf rfl rfl g25) (F.nil ?_))
       cases hE_2
       refine Nrm.only [1,10,11,12,38] rfl ?_
       refine Nrm.pick [0] rfl rfl ?_
       exact hj_1 _ _ ⟨rfl,rfl⟩
   ·replace hE_1:=if_ff g_2 hE_1
    refine Tri.exit ?_
    refine Exi.then ?_
    refine Exi.then ?_
    refine Exi.same ?_
    cases hE_1
    replace h:=Lr_inl h
    refine Nrm.seq (Tri.seq (Tri.reg (l:=[0]) rfl ?_))
    refine F.qn rfl (r_assign rfl) (F.nil (Nrm.seq (Tri.ret ?_)))
    cases h
    exact Rtn.body (.tmp rfl .nil) (fun w hw=>⟨rfl,hw.ext⟩)


def slices_Clone_int_int.f (k : Nat) (a0 : List Int) : Option ((List Int)) := if (([] : List (Int)) ++ a0).length < 1099511627776 then some (([] : List (Int)) ++ a0) else none

theorem slices_Clone_int_int.ok {k : Nat}  {a0 : List Int} {r0 : List Int} (h : slices_Clone_int_int.f k a0 = some r0) (w : World) {va0 : Value} (hr_a0 : Rd w va0 a0) :
  Calls Try.prog 21 ([va0] : List Value).toArray w (Post (fun u ns=>∃ (Sr0 : Nat → Prop),SlLen u r0.length∧ns = [R.sl Sr0 u r0]) w):=by
 unfold slices_Clone_int_int.f at h
 have hl_va0:=hr_a0.len
 rcases Rd.cases hr_a0 with ⟨rfl,rfl⟩ | ⟨pa0,ca0,rfl⟩
 ·replace h : some [] = some r0:=by simpa using h
  refine Calls.of_tri (N:=8) Try.func21 rfl rfl rfl (Sep.nil (M:=noM)) ?_
  refine Tri.seq (Tri.reg (l:=[0]) rfl ?_)
  refine F.qn rfl (r_assign rfl) (F.nil (Nrm.seq (Tri.seq (Tri.seq (Tri.reg (l:=[0,1]) rfl ?_)))))
  refine F.qn rfl (r_move rfl) (F.qn rfl (r_eqlNN Try.underlying23 rfl rfl) (F.nil (Nrm.seq (Tri.condT rfl rfl ?_))))
  refine Tri.seq (Tri.reg (l:=[0]) rfl ?_)
  refine F.qn rfl (r_assign rfl) (F.nil (Nrm.seq (Tri.ret ?_)))
  refine Rtn.then ?_
  cases h
  exact Rtn.body (.tmp rfl .nil) (fun w hw=>⟨_,_,rfl,⟨fun _=>False,len_nil,rfl⟩,Sep.pick (is:=[0]) rfl rfl hw.pushNil⟩)
 ·refine Calls.of_tri (N:=8) Try.func21 rfl rfl rfl (Sep.nil (M:=noM)) ?_
  refine Tri.seq (Tri.reg (l:=[0]) rfl ?_)
  refine F.qn rfl (r_assign rfl) (F.nil (Nrm.seq (Tri.seq (Tri.seq (Tri.reg (l:=[0,1]) rfl ?_)))))
  refine F.qn rfl (r_move rfl) (F.qn rfl (r_eqlN Try.underlying23 rfl rfl ⟨_,_,rfl⟩) (F.nil (Nrm.seq (Tri.condF rfl rfl ?_))))
  refine Tri.skip (Nrm.seq (Tri.seq ?_))
  obtain ⟨hs7,h⟩:=ck h
  refine Tri.reg (l:=[0,1,2,3]) rfl ?_
  refine F.mn rfl (m_build0 (α:=Int) Try.underlying23 ti3) ?_
  rintro v5_1 _ ⟨S5_1,hl_v5_1,rfl⟩
  refine F.qn rfl (r_move rfl) ?_
  refine F.efn rfl (d_append (i:=0) Try.underlying23 Try.underlying23 ti3 rfl (by decide) rfl rfl rfl (fun _ hw=>hr_a0.sep hw) hs7) ?_
  rintro v7_1 _ ⟨S7_1,rfl,hl_v7_1⟩
  refine F.qn rfl (r_assign rfl) (F.nil (Nrm.seq (Tri.ret ?_)))
  cases h
  exact Rtn.body (.tmp rfl .nil) (fun w hw=>⟨_,_,rfl,⟨S7_1,hl_v7_1,rfl⟩,Sep.pick (is:=[0]) rfl rfl hw⟩)

end Go.Proofs

/- Contracts of the library, laid at this seat. 899d0d3ce849a0a8 -/
namespace Go.Proofs
open Go.Shelf
def Try.searchI_ren : Go.Shelf.Ren := ⟨fun | 25 => 22 | 31 => 38 | 32 => 39 | 37 => 53 | n => n, fun | 22 => 23 | 3 => 3 | 4 => 4 | 40 => 57 | 0 => 0 | n => n, fun | n => n⟩
theorem Try.searchI : Go.Proofs.Lays2.n25 Try.prog Try.searchI_ren := {
 mixed:=by kernel_rfl
 f25:=Try.func22.trans (congrArg some (by kernel_rfl))
 f31:=Try.func38.trans (congrArg some (by kernel_rfl))
 f32:=Try.func39.trans (congrArg some (by kernel_rfl))
 f37:=Try.func53.trans (congrArg some (by kernel_rfl))
 t0:=Try.underlying0
 a0:=Try.isAgg0
 z0:=Try.sizeOf0
 v0:=Try.zeroValue0
 t3:=Try.underlying3
 a3:=Try.isAgg3
 z3:=Try.sizeOf3
 v3:=Try.zeroValue3
 t4:=Try.underlying4
 a4:=Try.isAgg4
 z4:=Try.sizeOf4
 v4:=Try.zeroValue4
 t22:=Try.underlying23
 a22:=Try.isAgg23
 z22:=Try.sizeOf23
 v22:=Try.zeroValue23
 t40:=Try.underlying57
 a40:=Try.isAgg57
 z40:=Try.sizeOf57
 v40:=Try.zeroValue57 }
def Try.insertI_ren : Go.Shelf.Ren := ⟨fun | 21 => 24 | 27 => 40 | 28 => 41 | 35 => 54 | 39 => 59 | n => n, fun | 22 => 23 | 3 => 3 | 4 => 4 | 0 => 0 | n => n, fun | n => n⟩
theorem Try.insertI : Go.Proofs.Lays2.n21 Try.prog Try.insertI_ren := {
 mixed:=by kernel_rfl
 f21:=Try.func24.trans (congrArg some (by kernel_rfl))
 f27:=Try.func40.trans (congrArg some (by kernel_rfl))
 f28:=Try.func41.trans (congrArg some (by kernel_rfl))
 f35:=Try.func54.trans (congrArg some (by kernel_rfl))
 f39:=Try.func59.trans (congrArg some (by kernel_rfl))
 t0:=Try.underlying0
 a0:=Try.isAgg0
 z0:=Try.sizeOf0
 v0:=Try.zeroValue0
 t3:=Try.underlying3
 a3:=Try.isAgg3
 z3:=Try.sizeOf3
 v3:=Try.zeroValue3
 t4:=Try.underlying4
 a4:=Try.isAgg4
 z4:=Try.sizeOf4
 v4:=Try.zeroValue4
 t22:=Try.underlying23
 a22:=Try.isAgg23
 z22:=Try.sizeOf23
 v22:=Try.zeroValue23
 i3:=by kernel_rfl }
end Go.Proofs

/- slices.BinarySearch[[]int,int] -/

namespace Go.Proofs
open Go Go.Ga
set_option linter.unusedVariables false
set_option maxRecDepth 100000
set_option maxHeartbeats 4000000
def slices_BinarySearch_int_int.f (k : Nat) (a0 : List Int) (a1 : Int) : Option (Int × Bool) := if a0.Pairwise (· ≤ ·) ∧ a0.length < 4611686018427387904 then some (((a0.countP fun y => decide (y < a1) : Nat) : Int), a0.contains a1) else none

theorem slices_BinarySearch_int_int.ok {k : Nat} {a0 : List Int} {a1 : Int} {r0 : Int} {r1 : Bool} (h : slices_BinarySearch_int_int.f k a0 a1 = some (r0, r1)) (w : World) {va0 : Value} (hr_a0 : Rd w va0 a0) :
  Calls Try.prog 22 ([va0,.int .i64 a1] : List Value).toArray w (fun e w'=>e = .returned (.tuple #[.int .i64 r0,.bool r1])∧Ext w w'):=by
 unfold slices_BinarySearch_int_int.f at h
 split at h
 rotate_left 1
 ·cases h
 rename_i hc
 cases h
 exact search_ok Try.searchI hc.1 hc.2 w hr_a0


def slices_Delete_int_int.f (k : Nat) (a0 : List Int) (a1 : Int) (a2 : Int) : Option ((List Int)) := (slc a0 a1 a2).bind fun t13 => (if (a1 == a2) = true then some a0 else (slc a0 0 a1).bind fun t22 => (slc a0 a2 (a0.length : Int)).bind fun t25 => if a1 ≤ a2 then some (t22 ++ t25) else none)

theorem slices_Delete_int_int.ok {k : Nat}  {a0 : List Int} {a1 : Int} {a2 : Int} {r0 : List Int} (h : slices_Delete_int_int.f k a0 a1 a2 = some r0) (w : World) {va0 : Value} {Sa0 : Nat → Prop} (hl_va0 : SlLen va0 a0.length) (hw0 : Sep w (footM [R.sl Sa0 va0 a0]) [R.sl Sa0 va0 a0] w) :
  Calls Try.prog 23 ([va0,.int .i64 a1,.int .i64 a2] : List Value).toArray w (PostM (footM [R.sl Sa0 va0 a0]) (fun u ns=>∃ (Sr0 : Nat → Prop),SlLen u r0.length∧ns = [R.sl Sr0 u r0]) w):=by
 unfold slices_Delete_int_int.f at h
 have hcap_va0:=SlOwn.cap (hw0.get (i:=0) rfl)
 refine Calls.of_tri (N:=33) Try.func23 rfl rfl rfl hw0 ?_
 refine Tri.seq (Tri.reg (l:=[0]) rfl ?_)
 refine F.qn rfl (r_assign rfl) (F.nil (Nrm.seq (Tri.seq ?_)))
 obtain ⟨t13,h13,h⟩:=bind_some h
 refine Tri.reg (l:=[0,1,2,3,4,5]) rfl ?_
 iterate 4 refine F.qn rfl (r_move rfl) ?_
 refine F.qn rfl (r_len Try.underlying23 rfl hl_va0) (F.qn rfl (r_slice3 Try.underlying23 ti3 rfl (rd_sl (i:=0) rfl) rfl rfl rfl h13) (F.nil (Nrm.seq (Tri.seq (Tri.seq (Tri.reg (l:=[0,1,2]) rfl ?_))))))
 refine F.qn rfl (r_move rfl) (F.qn rfl (r_move rfl) (F.qn rfl (r_eql rfl rfl) (F.nil (Nrm.seq (Tri.cond (b:=a1 == a2) rfl (fun g_1=>?_) (fun g_1=>?_))))))
 ·replace h:=if_tt g_1 h
  refine Tri.seq (Tri.reg (l:=[0,1]) rfl ?_)
  refine F.qn rfl (r_move rfl) (F.qn rfl (r_assign rfl) (F.nil (Nrm.seq (Tri.ret ?_))))
  refine Rtn.then ?_
  cases h
  exact Rtn.body (.tmp rfl .nil) (fun w hw=>⟨_,_,rfl,⟨Sa0,hl_va0,rfl⟩,Sep.pick (is:=[0]) rfl rfl hw⟩)
 ·replace h:=if_ff g_1 h
  refine Tri.skip (Nrm.seq (Tri.seq (Tri.reg (l:=[0,1,2]) rfl ?_)))
  refine F.qn rfl (r_move rfl) (F.qn rfl (r_len Try.underlying23 rfl hl_va0) (F.qn rfl (r_assign rfl) (F.nil (Nrm.seq (Tri.seq ?_)))))
  obtain ⟨t22,h22,h⟩:=bind_some h
  obtain ⟨t25,h25,h⟩:=bind_some h
  obtain ⟨hs26,h⟩:=ck h
  refine Tri.drawA mixedT Sep.up [(0,true),(1,true),(2,true),(3,true),(4,true),(5,true)] [6,7] (by kernel_rfl) ?_
  refine S.qn rfl (r_move rfl) (S.qn rfl (r_move rfl) (S.qn rfl (r_sliceH Try.underlying23 ti3 rfl (rd_sl (i:=0) rfl) rfl h22) (S.qn rfl (r_move rfl) (S.qn rfl (r_move rfl) (S.qn rfl (r_sliceL Try.underlying23 ti3 rfl (rd_sl (i:=0) rfl) rfl h25) (S.nil (F.efn rfl (d_appendSelf (p:=0) Try.underlying23 Try.underlying23 ti3 rfl rfl rfl h22 h25 hs26) ?_)))))))
  rintro _ _ ⟨rfl,rfl⟩
  refine F.qn rfl (r_assign rfl) (F.nil (Nrm.seq (Tri.seq (Tri.reg (l:=[0,1,2,3,4,5]) rfl ?_))))
  refine F.qn rfl (r_move rfl) (F.qn rfl (r_move rfl) (F.qn rfl (r_len Try.underlying23 rfl (slTo_len hl_va0 (self_le h22 h25 hs26))) (F.qn rfl (r_move rfl) (F.qn rfl (r_sliceBeyond (m:=(t22 ++ t25).length) (q:=a0.length) Try.underlying23 ti3 rfl hcap_va0 rfl rfl (self_le h22 h25 hs26)) ?_))))
  refine F.ef0 rfl rfl (wanted_none rfl) (d_clearBeyond (p:=0) (x0:=(0 : Int)) Try.underlying23 ti3 rfl rfl rfl rfl (self_le h22 h25 hs26) hcap_va0) ?_
  rintro _ _ rfl
  refine F.nil (Nrm.seq (Tri.seq (Tri.reg (l:=[0,1]) rfl ?_)))
  refine F.qn rfl (r_move rfl) (F.qn rfl (r_assign rfl) (F.nil (Nrm.seq (Tri.ret ?_))))
  cases h
  exact Rtn.body (.tmp rfl .nil) (fun w hw=>⟨_,_,rfl,⟨Sa0,(slTo_len hl_va0 (self_le h22 h25 hs26)),rfl⟩,Sep.pick (is:=[0]) rfl rfl hw⟩)


theorem slices_Clone_int_int.okc {k : Nat}  {a0 : List Int} {r0 : List Int} (h : slices_Clone_int_int.f k a0 = some r0) (w : World) {va0 : Value} (hr_a0 : Rd w va0 a0) :
  Calls Try.prog 21 ([va0] : List Value).toArray w (Post (fun u ns=>∃ (Sr0 : Nat → Prop),SlLen u r0.length∧Cap63 u∧ns = [R.sl Sr0 u r0]) w):=by
 unfold slices_Clone_int_int.f at h
 have hl_va0:=hr_a0.len
 rcases Rd.cases hr_a0 with ⟨rfl,rfl⟩ | ⟨pa0,ca0,rfl⟩
 ·replace h : some [] = some r0:=by simpa using h
  refine Calls.of_tri (N:=8) Try.func21 rfl rfl rfl (Sep.nil (M:=noM)) ?_
  refine Tri.seq (Tri.reg (l:=[0]) rfl ?_)
  refine F.qn rfl (r_assign rfl) (F.nil (Nrm.seq (Tri.seq (Tri.seq (Tri.reg (l:=[0,1]) rfl ?_)))))
  refine F.qn rfl (r_move rfl) (F.qn rfl (r_eqlNN Try.underlying23 rfl rfl) (F.nil (Nrm.seq (Tri.condT rfl rfl ?_))))
  refine Tri.seq (Tri.reg (l:=[0]) rfl ?_)
  refine F.qn rfl (r_assign rfl) (F.nil (Nrm.seq (Tri.ret ?_)))
  refine Rtn.then ?_
  cases h
  exact Rtn.body (.tmp rfl .nil) (fun w hw=>⟨_,_,rfl,⟨fun _=>False,len_nil,cap63_nil,rfl⟩,Sep.pick (is:=[0]) rfl rfl hw.pushNil⟩)
 ·refine Calls.of_tri (N:=8) Try.func21 rfl rfl rfl (Sep.nil (M:=noM)) ?_
  refine Tri.seq (Tri.reg (l:=[0]) rfl ?_)
  refine F.qn rfl (r_assign rfl) (F.nil (Nrm.seq (Tri.seq (Tri.seq (Tri.reg (l:=[0,1]) rfl ?_)))))
  refine F.qn rfl (r_move rfl) (F.qn rfl (r_eqlN Try.underlying23 rfl rfl ⟨_,_,rfl⟩) (F.nil (Nrm.seq (Tri.condF rfl rfl ?_))))
  refine Tri.skip (Nrm.seq (Tri.seq ?_))
  obtain ⟨hs7,h⟩:=ck h
  refine Tri.reg (l:=[0,1,2,3]) rfl ?_
  refine F.mn rfl (m_build0C (α:=Int) Try.underlying23 ti3) ?_
  rintro v5_1 _ ⟨S5_1,hl_v5_1,hc_v5_1,rfl⟩
  refine F.qn rfl (r_move rfl) ?_
  refine F.efn rfl (d_appendC (i:=0) Try.underlying23 Try.underlying23 ti3 rfl (by decide) rfl rfl rfl hc_v5_1 (fun _ hw=>hr_a0.sep hw) hs7) ?_
  rintro v7_1 _ ⟨S7_1,rfl,hl_v7_1,hc_v7_1⟩
  refine F.qn rfl (r_assign rfl) (F.nil (Nrm.seq (Tri.ret ?_)))
  cases h
  exact Rtn.body (.tmp rfl .nil) (fun w hw=>⟨_,_,rfl,⟨S7_1,hl_v7_1,hc_v7_1,rfl⟩,Sep.pick (is:=[0]) rfl rfl hw⟩)

def slices_Insert_int_int.f (k : Nat) (a0 : List Int) (a1 : Int) (a2 : List Int) : Option (List Int) := if 0 ≤ a1 ∧ a1 ≤ (a0.length : Int) ∧ 0 < a2.length ∧ (a0 ++ a2).length < 1099511627776 then some (a0.take a1.toNat ++ a2 ++ a0.drop a1.toNat) else none

theorem slices_Insert_int_int.ok {k : Nat} {a0 : List Int} {a1 : Int} {a2 : List Int} {r0 : List Int} (h : slices_Insert_int_int.f k a0 a1 a2 = some r0) (w : World) {va0 : Value} {Sa0 : Nat → Prop} (hl_va0 : SlLen va0 a0.length) (hc_va0 : Cap63 va0) {va2 : Value} {Sa2 : Nat → Prop} (hl_va2 : SlLen va2 a2.length) (hw0 : Sep w (footM [R.sl Sa0 va0 a0, R.sl Sa2 va2 a2]) [R.sl Sa0 va0 a0, R.sl Sa2 va2 a2] w) :
  Calls Try.prog 24 ([va0,.int .i64 a1,va2] : List Value).toArray w (PostM (footM [R.sl Sa0 va0 a0,R.sl Sa2 va2 a2]) (fun u ns=>∃ (Sr0 : Nat → Prop),SlLen u r0.length∧ns = [R.sl Sr0 u r0]) w) :=
 insert_ok Try.insertI h w hc_va0 hw0


def slices_Clone__3int__3int.f (k : Nat) (a0 : List (Int × Int × Int)) : Option ((List (Int × Int × Int))) := if (([] : List (Int × Int × Int)) ++ a0).length < 1099511627776 then some (([] : List (Int × Int × Int)) ++ a0) else none

theorem slices_Clone__3int__3int.ok {k : Nat}  {a0 : List (Int × Int × Int)} {r0 : List (Int × Int × Int)} (h : slices_Clone__3int__3int.f k a0 = some r0) (w : World) {va0 : Value} (hr_a0 : Rd w va0 a0) :
  Calls Try.prog 42 ([va0] : List Value).toArray w (Post (fun u ns=>∃ (Sr0 : Nat → Prop),SlLen u r0.length∧ns = [R.sl Sr0 u r0]) w):=by
 unfold slices_Clone__3int__3int.f at h
 have hl_va0:=hr_a0.len
 rcases Rd.cases hr_a0 with ⟨rfl,rfl⟩ | ⟨pa0,ca0,rfl⟩
 ·replace h : some [] = some r0:=by simpa using h
  refine Calls.of_tri (N:=8) Try.func42 rfl rfl rfl (Sep.nil (M:=noM)) ?_
  refine Tri.seq (Tri.reg (l:=[0]) rfl ?_)
  refine F.qn rfl (r_assign rfl) (F.nil (Nrm.seq (Tri.seq (Tri.seq (Tri.reg (l:=[0,1]) rfl ?_)))))
  refine F.qn rfl (r_move rfl) (F.qn rfl (r_eqlNN Try.underlying22 rfl rfl) (F.nil (Nrm.seq (Tri.condT rfl rfl ?_))))
  refine Tri.seq (Tri.reg (l:=[0]) rfl ?_)
  refine F.qn rfl (r_assign rfl) (F.nil (Nrm.seq (Tri.ret ?_)))
  refine Rtn.then ?_
  cases h
  exact Rtn.body (.tmp rfl .nil) (fun w hw=>⟨_,_,rfl,⟨fun _=>False,len_nil,rfl⟩,Sep.pick (is:=[0]) rfl rfl hw.pushNil⟩)
 ·refine Calls.of_tri (N:=8) Try.func42 rfl rfl rfl (Sep.nil (M:=noM)) ?_
  refine Tri.seq (Tri.reg (l:=[0]) rfl ?_)
  refine F.qn rfl (r_assign rfl) (F.nil (Nrm.seq (Tri.seq (Tri.seq (Tri.reg (l:=[0,1]) rfl ?_)))))
  refine F.qn rfl (r_move rfl) (F.qn rfl (r_eqlN Try.underlying22 rfl rfl ⟨_,_,rfl⟩) (F.nil (Nrm.seq (Tri.condF rfl rfl ?_))))
  refine Tri.skip (Nrm.seq (Tri.seq ?_))
  obtain ⟨hs7,h⟩:=ck h
  refine Tri.reg (l:=[0,1,2,3]) rfl ?_
  refine F.mn rfl (m_build0 (α:=Int × Int × Int) Try.underlying22 ti61) ?_
  rintro v5_1 _ ⟨S5_1,hl_v5_1,rfl⟩
  refine F.qn rfl (r_move rfl) ?_
  refine F.efn rfl (d_append (i:=0) Try.underlying22 Try.underlying22 ti61 rfl (by decide) rfl rfl rfl (fun _ hw=>hr_a0.sep hw) hs7) ?_
  rintro v7_1 _ ⟨S7_1,rfl,hl_v7_1⟩
  refine F.qn rfl (r_assign rfl) (F.nil (Nrm.seq (Tri.ret ?_)))
  cases h
  exact Rtn.body (.tmp rfl .nil) (fun w hw=>⟨_,_,rfl,⟨S7_1,hl_v7_1,rfl⟩,Sep.pick (is:=[0]) rfl rfl hw⟩)


def impl_own.f (k : Nat) (a0_0 : Int) (a0_1 : List (Int × Int × Int)) (a0_2 : List Int) : Option (Int × (List (Int × Int × Int)) × (List Int)) := (slices_Clone__3int__3int.f k a0_1).bind fun t7 => (slices_Clone_int_int.f k a0_2).bind fun t10 => some (a0_0, t7, t10)

theorem impl_own.ok {k : Nat}  {a0_0 : Int} {a0_1 : List (Int × Int × Int)} {a0_2 : List Int} {r0 : Int} {r1 : List (Int × Int × Int)} {r2 : List Int} (h : impl_own.f k a0_0 a0_1 a0_2 = some (r0, r1, r2)) (w : World) {va0_1 : Value} {va0_2 : Value} (hr_a0_1 : Rd w va0_1 a0_1) (hr_a0_2 : Rd w va0_2 a0_2) :
  Calls Try.prog 25 ([.agg ([.int .i64 a0_0,va0_1,va0_2].toArray)] : List Value).toArray w (Post (fun u ns=>∃ (ur1 : Value) (Sr1 : Nat → Prop) (ur2 : Value) (Sr2 : Nat → Prop),u = .agg [.int .i64 r0,ur1,ur2].toArray∧SlLen ur1 r1.length∧SlLen ur2 r2.length∧ns = [R.sl Sr1 ur1 r1,R.sl Sr2 ur2 r2]) w):=by
 unfold impl_own.f at h
 have hl_va0_1:=hr_a0_1.len
 have hl_va0_2:=hr_a0_2.len
 refine Calls.of_tri (N:=12) Try.func25 rfl rfl rfl (Sep.nil (M:=noM)) ?_
 refine Tri.seq (Tri.reg (l:=[0,1]) rfl ?_)
 refine F.mn rfl (m_boxG rfl rfl) ?_
 rintro _ _ ⟨b1_1,rfl,rfl⟩
 refine F.mn rfl (m_alloc ti29) ?_
 rintro _ _ ⟨b2_1,rfl,rfl⟩
 refine F.nil (Nrm.seq (Tri.seq ?_))
 obtain ⟨t7,h7,h⟩:=bind_some h
 obtain ⟨t10,h10,h⟩:=bind_some h
 refine Tri.drawA mixedT Sep.up [(0,true),(1,true),(2,true),(3,true),(5,true),(6,true),(4,false),(7,false),(8,true)] [9] (by kernel_rfl) ?_
 refine S.qn rfl (r_fieldAddr tf29_0 rfl) (S.qn rfl (r_load ta3 rfl (fun w hw=>cell_1 (box_cells (i:=1) rfl w hw) rfl)) (S.qn rfl (r_fieldAddr tf29_1 rfl) (S.qn rfl (r_load ta22 rfl (fun w hw=>cell_1 (box_cells (i:=1) rfl w hw) rfl)) (S.qn rfl (r_fieldAddr tf29_2 rfl) (S.qn rfl (r_load ta23 rfl (fun w hw=>cell_1 (box_cells (i:=1) rfl w hw) rfl)) ?_)))))
 refine S.m rfl rfl rfl (wanted_none rfl) (m_callF (xs:=_) rfl ok42 rfl rfl (fun w hw=>slices_Clone__3int__3int.ok h7 w ((fun _ hw=>hr_a0_1.sep hw) w hw))) ?_
 rintro v7_2 _ ⟨_,⟨S7_2,hl_v7_2,rfl⟩,rfl⟩
 refine S.m rfl rfl rfl (wanted_none rfl) (m_callF (xs:=_) rfl ok21 rfl rfl (fun w hw=>slices_Clone_int_int.ok h10 w ((fun _ hw=>hr_a0_2.sep hw) w hw))) ?_
 rintro v10_2 _ ⟨_,⟨S10_2,hl_v10_2,rfl⟩,rfl⟩
 refine S.qn rfl (r_build (pl:=[(0,1),(1,1),(2,1)]) (qs:=[(0,[.int .i64 a0_0]),(1,[v7_2]),(2,[v10_2])]) (cs:=[.int .i64 a0_0,v7_2,v10_2]) (by kernel_rfl) ti29 rfl (.cons rfl rfl (Nat.le_of_ble_eq_true rfl) (.cons (sl_cells hl_v7_2) rfl (Nat.le_of_ble_eq_true rfl) (.cons (sl_cells hl_v10_2) rfl (Nat.le_of_ble_eq_true rfl) .nil))) rfl rfl) (S.nil (F.ef0 rfl rfl (wanted_none rfl) (d_storeG0 (i:=2) (cs2:=[.int .i64 a0_0,v7_2,v10_2]) ti29 rfl rfl rfl rfl rfl (Nat.le_of_ble_eq_true rfl) (lf_cons rfl (lf_cons (sl_leaf hl_v7_2) (lf_cons (sl_leaf hl_v10_2) lf_nil)))) ?_))
 rintro _ _ ⟨rfl,rfl⟩
 refine F.nil (Nrm.seq (Tri.ret ?_))
 cases h
 exact Rtn.body (.cell rfl ta29 ti29 rfl (fun _ hw=>box_cells (i:=2) rfl _ hw) .nil) (fun w hw=>⟨_,_,rfl,⟨v7_2,S7_2,v10_2,S10_2,rfl,hl_v7_2,hl_v10_2,rfl⟩,Sep.pick (is:=[1,0]) rfl rfl hw⟩)


def impl_TurnDoor.f (k : Nat) (a0_0 : Int) (a0_1 : List (Int × Int × Int)) (a0_2 : List Int) (a0_3 : List Int) (a1 : Int) : Option (Int × (List (Int × Int × Int)) × (List Int) × (List Int) × Bool) := ((impl_IsTrap.f k a0_0 a0_1 a0_2 a0_3).bind fun t10 => (if (!t10) = true then some true else (impl_within.f k a1 0 (w64 ((a0_1.length : Int) - 1))).bind fun t19 => some (!t19))).bind fun y21 => (if y21 = true then some (0, [], [], [], false) else (slices_Clone_int_int.f k a0_3).bind fun t25 => (slices_BinarySearch_int_int.f k t25 a1).bind fun (t29_1, t29_2) => ((if t29_2 = true then (slices_Delete_int_int.f k t25 t29_1 (w64 (t29_1 + 1))).bind fun t37 => some t37 else (slices_Insert_int_int.f k t25 t29_1 ([a1] : List (Int))).bind fun t42 => some t42)).bind fun y6 => (impl_own.f k a0_0 a0_1 a0_2).bind fun (t45_1, t45_2, t45_3) => some (t45_1, t45_2, t45_3, y6, true))

theorem impl_TurnDoor.ok {k : Nat}  {a0_0 : Int} {a0_1 : List (Int × Int × Int)} {a0_2 : List Int} {a0_3 : List Int} {a1 : Int} {r0 : Int} {r1 : List (Int × Int × Int)} {r2 : List Int} {r3 : List Int} {r4 : Bool} (h : impl_TurnDoor.f k a0_0 a0_1 a0_2 a0_3 a1 = some (r0, r1, r2, r3, r4)) (w : World) {va0_1 : Value} {va0_2 : Value} {va0_3 : Value} (hr_a0_1 : Rd w va0_1 a0_1) (hr_a0_2 : Rd w va0_2 a0_2) (hr_a0_3 : Rd w va0_3 a0_3) :
  Calls Try.prog 7 ([.agg ([.int .i64 a0_0,va0_1,va0_2,va0_3].toArray),.int .i64 a1] : List Value).toArray w (Post (fun u ns=>∃ (ur1 : Value) (Sr1 : Nat → Prop) (ur2 : Value) (Sr2 : Nat → Prop) (ur3 : Value) (Sr3 : Nat → Prop),u = .tuple #[.agg [.int .i64 r0,ur1,ur2,ur3].toArray,.bool r4]∧SlLen ur1 r1.length∧SlLen ur2 r2.length∧SlLen ur3 r3.length∧ns = [R.sl Sr1 ur1 r1,R.sl Sr2 ur2 r2,R.sl Sr3 ur3 r3]) w):=by
 unfold impl_TurnDoor.f at h
 have hl_va0_1:=hr_a0_1.len
 have hl_va0_2:=hr_a0_2.len
 have hl_va0_3:=hr_a0_3.len
 refine Calls.of_tri (N:=48) Try.func7 rfl rfl rfl (Sep.nil (M:=noM)) ?_
 refine Tri.seq (Tri.reg (l:=[0,1,2]) rfl ?_)
 refine F.mn rfl (m_boxG rfl rfl) ?_
 rintro _ _ ⟨b2_1,rfl,rfl⟩
 refine F.mn rfl (m_alloc ti31) ?_
 rintro _ _ ⟨b4_1,rfl,rfl⟩
 refine F.qn rfl (r_assign rfl) (F.nil (Nrm.seq (Tri.seq (Tri.seq ?_))))
 obtain ⟨y21,hE_1,h⟩:=bind_some h
 refine Tri.cut (fun e' C'=>e' = [(1,.int .i64 a1),(2,.pointer (some ⟨b2_1,0,none⟩)),(4,.pointer (some ⟨b4_1,0,none⟩)),(21,.bool y21)]∧C' = Sep w noM [R.box b4_1 31 [.int .i64 0,.slice none 0 0,.slice none 0 0,.slice none 0 0],R.box b2_1 31 [.int .i64 a0_0,va0_1,va0_2,va0_3]]) ?_ (fun hj_1=>?_)
 ·rintro _ _ ⟨rfl,rfl⟩
  refine Nrm.seq (Tri.cond (b:=y21) rfl (fun g_1=>?_) (fun g_1=>?_))
  ·replace h:=if_tt g_1 h
   refine Tri.seq (Tri.reg (l:=[0,1,2]) rfl ?_)
   refine F.qn rfl (r_build (pl:=[(0,3),(3,1)]) (qs:=[]) (cs:=[.int .i64 0,.slice none 0 0,.slice none 0 0,.slice none 0 0]) (by kernel_rfl) ti31 rfl .nil rfl rfl) ?_
   refine F.ef0 rfl rfl (wanted_none rfl) (d_storeG0 (i:=0) (cs2:=[.int .i64 0,.slice none 0 0,.slice none 0 0,.slice none 0 0]) ti31 rfl rfl rfl rfl rfl (Nat.le_of_ble_eq_true rfl) (lf_cons rfl (lf_cons rfl (lf_cons rfl (lf_cons rfl lf_nil))))) ?_
   rintro _ _ ⟨rfl,rfl⟩
   refine F.qn rfl (r_assign rfl) (F.nil (Nrm.seq (Tri.ret ?_)))
   refine Rtn.then ?_
   cases h
   exact Rtn.body (.cell rfl ta31 ti31 rfl (fun _ hw=>box_cells (i:=0) rfl _ hw) (.tmp rfl .nil)) (fun w hw=>⟨_,_,rfl,⟨.slice none 0 0,fun _=>False,.slice none 0 0,fun _=>False,.slice none 0 0,fun _=>False,rfl,len_nil,len_nil,len_nil,rfl⟩,Sep.pick (is:=[0,1,2]) rfl rfl hw.pushNil.pushNil.pushNil⟩)
  ·replace h:=if_ff g_1 h
   refine Tri.skip (Nrm.seq (Tri.seq ?_))
   obtain ⟨t25,h25,h⟩:=bind_some h
   refine Tri.reg (l:=[0,1,2,3]) rfl ?_
   refine F.qn rfl (r_fieldAddr tf31_1 rfl) (F.qn rfl (r_load ta23 rfl (fun w hw=>cell_1 (box_cells (i:=1) rfl w hw) rfl)) ?_)
   refine F.mn rfl (m_callF (xs:=_) rfl ok21 rfl rfl (fun w hw=>slices_Clone_int_int.okc h25 w ((fun _ hw=>hr_a0_3.sep hw) w hw))) ?_
   rintro v25_1 _ ⟨_,⟨S25_1,hl_v25_1,hc_v25_1,rfl⟩,rfl⟩
   refine F.qn rfl (r_assign rfl) (F.nil (Nrm.seq (Tri.seq (Tri.seq ?_))))
   obtain ⟨⟨t29_1,t29_2⟩,h29,h⟩:=bind_some h
   refine Tri.reg (l:=[0,1,2,3,4,5,6,7]) rfl ?_
   refine F.qn rfl (r_move rfl) (F.qn rfl (r_move rfl) ?_)
   refine F.qcn rfl (q_callF (xs:=_) rfl ok22 rfl rfl (fun w hw=>slices_BinarySearch_int_int.ok h29 w ((rd_sl (i:=0) rfl) w hw))) ?_
   refine F.qn rfl (r_move rfl) (F.qn rfl (r_extract rfl rfl) (F.qn rfl (r_extract rfl rfl) (F.qn rfl (r_assign rfl) (F.qn rfl (r_assign rfl) (F.nil (Nrm.seq (Tri.seq (Tri.reg (l:=[0]) rfl ?_))))))))
   refine F.qn rfl (r_move rfl) (F.nil (Nrm.seq ?_))
   obtain ⟨y6,hE_2,h⟩:=bind_some h
   refine Tri.cut (fun e' C'=>∃ (v6_1 : Value) (S6_1 : Nat → Prop),SlLen v6_1 (y6).length∧e' = [(2,.pointer (some ⟨b2_1,0,none⟩)),(4,.pointer (some ⟨b4_1,0,none⟩)),(6,v6_1)]∧C' = Sep w noM [R.box b4_1 31 [.int .i64 0,.slice none 0 0,.slice none 0 0,.slice none 0 0],R.box b2_1 31 [.int .i64 a0_0,va0_1,va0_2,va0_3],R.sl S6_1 v6_1 (y6 : List (Int))]) ?_ (fun hj_2=>?_)
   ·rintro _ _ ⟨v6_1,S6_1,hl_v6_1,rfl,rfl⟩
    refine Nrm.seq (Tri.seq ?_)
    obtain ⟨⟨t45_1,t45_2,t45_3⟩,h45,h⟩:=bind_some h
    refine Tri.reg (l:=[0,1,2,3,4,5,6]) rfl ?_
    refine F.qn rfl (r_fieldAddr tf31_0 rfl) (F.qn rfl (r_loadA ta29 ti29 rfl rfl (fun w hw=>cells_1 (cs':=[.int .i64 a0_0,va0_1,va0_2]) (box_cells (i:=1) rfl w hw) rfl)) ?_)
    refine F.mn rfl (m_callF (xs:=_) rfl ok25 rfl rfl (fun w hw=>impl_own.ok h45 w ((fun _ hw=>hr_a0_1.sep hw) w hw) ((fun _ hw=>hr_a0_2.sep hw) w hw))) ?_
    rintro _ _ ⟨_,⟨v45_1,S45_1,v45_2,S45_2,rfl,hl_v45_1,hl_v45_2,rfl⟩,rfl⟩
    refine F.qn rfl (r_move rfl) (F.qn rfl (r_build (pl:=[(0,3),(3,1)]) (qs:=[(0,[.int .i64 t45_1,v45_1,v45_2]),(3,[v6_1])]) (cs:=[.int .i64 t45_1,v45_1,v45_2,v6_1]) (by kernel_rfl) ti31 rfl (.cons rfl rfl (Nat.le_of_ble_eq_true rfl) (.cons (sl_cells hl_v6_1) rfl (Nat.le_of_ble_eq_true rfl) .nil)) rfl rfl) ?_)
    refine F.ef0 rfl rfl (wanted_none rfl) (d_storeG0 (i:=2) (cs2:=[.int .i64 t45_1,v45_1,v45_2,v6_1]) ti31 rfl rfl rfl rfl rfl (Nat.le_of_ble_eq_true rfl) (lf_cons rfl (lf_cons (sl_leaf hl_v45_1) (lf_cons (sl_leaf hl_v45_2) (lf_cons (sl_leaf hl_v6_1) lf_nil))))) ?_
    rintro _ _ ⟨rfl,rfl⟩
    refine F.qn rfl (r_assign rfl) (F.nil (Nrm.seq (Tri.ret ?_)))
    cases h
    exact Rtn.body (.cell rfl ta31 ti31 rfl (fun _ hw=>box_cells (i:=2) rfl _ hw) (.tmp rfl .nil)) (fun w hw=>⟨_,_,rfl,⟨v45_1,S45_1,v45_2,S45_2,v6_1,S6_1,rfl,hl_v45_1,hl_v45_2,hl_v6_1,rfl⟩,Sep.pick (is:=[0,1,4]) rfl rfl hw⟩)
   ·refine Tri.cond (b:=t29_2) rfl (fun g_2=>?_) (fun g_2=>?_)
    ·replace hE_2:=if_tt g_2 hE_2
     obtain ⟨t37,h37,hE_2⟩:=bind_some hE_2
     refine Tri.reg (l:=[0,1,2,3,4,5]) rfl ?_
     iterate 3 refine F.qn rfl (r_move rfl) ?_
     refine F.qn rfl (r_add rfl rfl) ?_
     refine F.efn rfl (d_callM (xs:=_) (cs:=[R.sl S25_1 v25_1 (t25 : List (Int))]) (rest:=[R.box b4_1 31 [.int .i64 0,.slice none 0 0,.slice none 0 0,.slice none 0 0],R.box b2_1 31 [.int .i64 a0_0,va0_1,va0_2,va0_3]]) [0] [1,2] rfl ok23 rfl rfl rfl rfl (fun w hw=>slices_Delete_int_int.ok h37 w hl_v25_1 (Sep.sub hw))) ?_
     rintro v37_1 _ ⟨_,⟨S37_1,hl_v37_1,rfl⟩,rfl⟩
     refine F.qn rfl (r_assign rfl) (F.nil ?_)
     cases hE_2
     refine Nrm.only [2,4,6] rfl ?_
     refine Nrm.pick [1,2,0] rfl rfl ?_
     exact hj_2 _ _ ⟨v37_1,S37_1,hl_v37_1,rfl,rfl⟩
    ·replace hE_2:=if_ff g_2 hE_2
     obtain ⟨t42,h42,hE_2⟩:=bind_some hE_2
     refine Tri.reg (l:=[0,1,2,3,4,5]) rfl ?_
     iterate 3 refine F.qn rfl (r_move rfl) ?_
     refine F.mn rfl (m_buildF (l:=([a1] : List (Int))) Try.underlying23 ti3 rfl rfl rfl rfl rfl) ?_
     rintro v41_1 _ ⟨S41_1,hl_v41_1,rfl⟩
     refine F.efn rfl (d_callM (xs:=_) (cs:=[R.sl S25_1 v25_1 (t25 : List (Int)),R.sl S41_1 v41_1 (([a1] : List (Int)) : List (Int))]) (rest:=[R.box b4_1 31 [.int .i64 0,.slice none 0 0,.slice none 0 0,.slice none 0 0],R.box b2_1 31 [.int .i64 a0_0,va0_1,va0_2,va0_3]]) [1,0] [2,3] rfl ok24 rfl rfl rfl rfl (fun w hw=>slices_Insert_int_int.ok h42 w hl_v25_1 hc_v25_1 hl_v41_1 (Sep.sub hw))) ?_
     rintro v42_1 _ ⟨_,⟨S42_1,hl_v42_1,rfl⟩,rfl⟩
     refine F.qn rfl (r_assign rfl) (F.nil ?_)
     cases hE_2
     refine Nrm.only [2,4,6] rfl ?_
     refine Nrm.pick [1,2,0] rfl rfl ?_
     exact hj_2 _ _ ⟨v42_1,S42_1,hl_v42_1,rfl,rfl⟩
 ·obtain ⟨t10,h10,hE_1⟩:=bind_some hE_1
  rcases Bool.eq_false_or_eq_true (!t10) with g12 | g12
  ·replace hE_1:=if_tt g12 hE_1
   refine Tri.reg (l:=List.range 13) rfl ?_
   refine F.qn rfl (r_loadA ta31 ti31 rfl rfl (fun w hw=>(box_cells (i:=1) rfl w hw))) ?_
   refine F.qcn rfl (q_callF (xs:=_) rfl ok19 rfl rfl (fun w hw=>impl_IsTrap.ok h10 w ((fun _ hw=>hr_a0_1.sep hw) w hw) ((fun _ hw=>hr_a0_2.sep hw) w hw) ((fun _ hw=>hr_a0_3.sep hw) w hw))) ?_
   refine F.qn rfl (r_not rfl) (F.qn rfl (r_move rfl) ?_)
   iterate 8 refine F.skf rfl g12 ?_
   refine F.qn rfl (r_pick rfl rfl g12) (F.nil ?_)
   cases hE_1
   refine Nrm.only [1,2,4,21] rfl ?_
   refine Nrm.pick [0,1] rfl rfl ?_
   exact hj_1 _ _ ⟨rfl,rfl⟩
  ·replace hE_1:=if_ff g12 hE_1
   obtain ⟨t19,h19,hE_1⟩:=bind_some hE_1
   refine Tri.reg (l:=List.range 13) rfl ?_
   refine F.qn rfl (r_loadA ta31 ti31 rfl rfl (fun w hw=>(box_cells (i:=1) rfl w hw))) ?_
   refine F.qcn rfl (q_callF (xs:=_) rfl ok19 rfl rfl (fun w hw=>impl_IsTrap.ok h10 w ((fun _ hw=>hr_a0_1.sep hw) w hw) ((fun _ hw=>hr_a0_2.sep hw) w hw) ((fun _ hw=>hr_a0_3.sep hw) w hw))) ?_
   refine F.qn rfl (r_not rfl) (F.qn rfl (r_move rfl) ?_)
   refine F.qg rfl g12 (r_move rfl) (F.qg rfl g12 (r_fieldAddr tf31_0 rfl) (F.qg rfl g12 (r_fieldAddr tf29_1 rfl) (F.qg rfl g12 (r_load ta22 rfl (fun w hw=>cell_2 (box_cells (i:=1) rfl w hw) rfl)) (F.qg rfl g12 (r_len Try.underlying22 rfl hl_va0_1) (F.qg rfl g12 (r_sub rfl rfl) ?_)))))
   refine F.qc rfl rfl rfl (wg rfl rfl rfl g12) (q_callF (xs:=_) rfl ok20 rfl rfl (fun w hw=>impl_within.ok h19 w)) ?_
   refine F.qg rfl g12 (r_not rfl) (F.qn rfl (r_pickf rfl rfl g12) (F.nil ?_))
   cases hE_1
   refine Nrm.only [1,2,4,21] rfl ?_
   refine Nrm.pick [0,1] rfl rfl ?_
   exact hj_1 _ _ ⟨rfl,rfl⟩


def laws_eqIntS.l0 (k : Nat) (a0 : List Int) (a1 : List Int) : Nat → Int → Option ((Unit) ⊕ (Bool))
 | 0,_=>none
 | n + 1,x5=>(if (decide (x5 < (a0.length : Int))) = true then (rdl a0 x5).bind fun t19=>(rdl a1 x5).bind fun t23=>(if (t19 != t23) = true then some (Sum.inr false) else laws_eqIntS.l0 k a0 a1 n (w64 (x5 + 1))) else some (Sum.inl ()))

def laws_eqIntS.f (k : Nat) (a0 : List Int) (a1 : List Int) : Option (Bool) := (if ((a0.length : Int) != (a1.length : Int)) = true then some false else (laws_eqIntS.l0 k a0 a1 k 0).bind fun s => Lr s some fun _ => some true)

theorem laws_eqIntS.ok {k : Nat}  {a0 : List Int} {a1 : List Int} {r0 : Bool} (h : laws_eqIntS.f k a0 a1 = some r0) (w : World) {va0 : Value} {va1 : Value} (hr_a0 : Rd w va0 a0) (hr_a1 : Rd w va1 a1) :
  Calls Try.prog 27 ([va0,va1] : List Value).toArray w (fun e w'=>e = .returned (.bool r0)∧Ext w w'):=by
 unfold laws_eqIntS.f at h
 have hl_va0:=hr_a0.len
 have hl_va1:=hr_a1.len
 refine Calls.of_tri (N:=26) Try.func27 rfl rfl rfl (Sep.nil (M:=noM)) ?_
 refine Tri.seq (Tri.reg (l:=[0]) rfl ?_)
 refine F.qn rfl (r_assign rfl) (F.nil (Nrm.seq (Tri.seq (Tri.seq (Tri.reg (l:=[0,1,2,3,4]) rfl ?_)))))
 refine F.qn rfl (r_move rfl) (F.qn rfl (r_len Try.underlying23 rfl hl_va0) (F.qn rfl (r_move rfl) (F.qn rfl (r_len Try.underlying23 rfl hl_va1) (F.qn rfl (r_neq rfl rfl) (F.nil (Nrm.seq (Tri.cond (b:=(a0.length : Int) != (a1.length : Int)) rfl (fun g_1=>?_) (fun g_1=>?_))))))))
 ·replace h:=if_tt g_1 h
  refine Tri.seq (Tri.reg (l:=[0]) rfl ?_)
  refine F.qn rfl (r_assign rfl) (F.nil (Nrm.seq (Tri.ret ?_)))
  refine Rtn.then ?_
  cases h
  exact Rtn.body (.tmp rfl .nil) (fun w hw=>⟨rfl,hw.ext⟩)
 ·replace h:=if_ff g_1 h
  refine Tri.skip (Nrm.seq (Tri.seq (Tri.seq (Tri.reg (l:=[0]) rfl ?_))))
  refine F.qn rfl (r_assign rfl) (F.nil (Nrm.seq ?_))
  obtain ⟨s0,hE_1,h⟩:=bind_some h
  refine Tri.block ?_
  refine Tri.only [0,1,5] rfl ?_
  refine Tri.pick [] rfl rfl ?_
  refine Tri.rounds (fun n e' C'=>∃ (x5' : Int),laws_eqIntS.l0 k a0 a1 n x5' = some s0∧e' = [(0,va0),(1,va1),(5,.int .i64 x5')]∧C' = Sep w noM []) k ?_ ?_ ?_
  ·exact ⟨0,hE_1,rfl,rfl⟩
  ·rintro _ _ ⟨_,hE_1,_⟩
   rw [laws_eqIntS.l0.eq_1] at hE_1; cases hE_1
  ·rintro n_1 _ _ ⟨x5,hE_1,rfl,rfl⟩ ih_1
   rw [laws_eqIntS.l0.eq_2] at hE_1
   refine Tri.seq (Tri.seq (Tri.reg (l:=[0,1,2,3]) rfl ?_))
   refine F.qn rfl (r_move rfl) (F.qn rfl (r_move rfl) (F.qn rfl (r_len Try.underlying23 rfl hl_va0) (F.qn rfl (r_lss rfl rfl) (F.nil (Nrm.seq (Tri.cond (b:=decide (x5 < (a0.length : Int))) rfl (fun g_2=>?_) (fun g_2=>?_)))))))
   ·replace hE_1:=if_tt g_2 hE_1
    refine Tri.skip (Nrm.seq (Tri.seq (Tri.block ?_)))
    refine Tri.seq ?_
    obtain ⟨t19,h19,hE_1⟩:=bind_some hE_1
    obtain ⟨t23,h23,hE_1⟩:=bind_some hE_1
    refine Tri.drawA mixedT Sep.up [(0,true),(1,true),(2,true),(3,true),(4,true),(5,true),(6,true),(7,true),(8,true)] [] (by kernel_rfl) ?_
    refine S.qn rfl (r_move rfl) (S.qn rfl (r_move rfl) (S.qn rfl (r_indexAddrS Try.underlying23 ti3 rfl hl_va0 rfl (rdl_some h19).1 (rdl_some h19).2.1) ?_))
    refine S.qn rfl (r_load ta3 rfl (fun w hw=>cell_0 (Rd.flat ((fun _ hw=>hr_a0.sep hw) w hw) (rdl_some h19).2.2) rfl)) (S.qn rfl (r_move rfl) (S.qn rfl (r_move rfl) (S.qn rfl (r_indexAddrS Try.underlying23 ti3 rfl hl_va1 rfl (rdl_some h23).1 (rdl_some h23).2.1) (S.qn rfl (r_load ta3 rfl (fun w hw=>cell_0 (Rd.flat ((fun _ hw=>hr_a1.sep hw) w hw) (rdl_some h23).2.2) rfl)) (S.qn rfl (r_neq rfl rfl) (S.nil (F.nil (Nrm.seq (Tri.cond (b:=t19 != t23) rfl (fun g_3=>?_) (fun g_3=>?_))))))))))
    ·replace hE_1:=if_tt g_3 hE_1
     refine Tri.seq (Tri.reg (l:=[0]) rfl ?_)
     refine F.qn rfl (r_assign rfl) (F.nil (Nrm.seq (Tri.ret ?_)))
     refine Rtn.block ?_
     refine Rtn.then ?_
     refine Rtn.then ?_
     refine Rtn.block ?_
     refine Rtn.then ?_
     cases hE_1
     replace h:=Lr_inr h
     cases h
     exact Rtn.body (.tmp rfl .nil) (fun w hw=>⟨rfl,hw.ext⟩)
    ·replace hE_1:=if_ff g_3 hE_1
     refine Tri.skip (Nrm.block ?_)
     refine Nrm.seq (Tri.reg (l:=[0,1,2]) rfl ?_)
     refine F.qn rfl (r_move rfl) (F.qn rfl (r_add rfl rfl) (F.qn rfl (r_assign rfl) (F.nil (Nrm.round ?_))))
     refine Rnd.only [0,1,5] rfl ?_
     refine Rnd.pick [] rfl rfl ?_
     exact ih_1 _ _ ⟨w64 (x5 + 1),hE_1,rfl,rfl⟩
   ·replace hE_1:=if_ff g_2 hE_1
    refine Tri.exit ?_
    refine Exi.then ?_
    refine Exi.then ?_
    refine Exi.same ?_
    cases hE_1
    replace h:=Lr_inl h
    refine Nrm.seq (Tri.seq (Tri.reg (l:=[0]) rfl ?_))
    refine F.qn rfl (r_assign rfl) (F.nil (Nrm.seq (Tri.ret ?_)))
    cases h
    exact Rtn.body (.tmp rfl .nil) (fun w hw=>⟨rfl,hw.ext⟩)


def laws_eqIntA3.l0 (k : Nat) (a0_0 : Int) (a0_1 : Int) (a0_2 : Int) (a1_0 : Int) (a1_1 : Int) (a1_2 : Int) : Nat → Int → Option ((Unit) ⊕ (Bool))
 | 0,_=>none
 | n + 1,x5=>(if (decide (x5 < 3)) = true then (rdl [a0_0,a0_1,a0_2] x5).bind fun t11=>(rdl [a1_0,a1_1,a1_2] x5).bind fun t14=>(if (t11 != t14) = true then some (Sum.inr false) else laws_eqIntA3.l0 k a0_0 a0_1 a0_2 a1_0 a1_1 a1_2 n (w64 (x5 + 1))) else some (Sum.inl ()))

def laws_eqIntA3.f (k : Nat) (a0_0 : Int) (a0_1 : Int) (a0_2 : Int) (a1_0 : Int) (a1_1 : Int) (a1_2 : Int) : Option (Bool) := (laws_eqIntA3.l0 k a0_0 a0_1 a0_2 a1_0 a1_1 a1_2 k 0).bind fun s => Lr s some fun _ => some true

theorem laws_eqIntA3.ok {k : Nat}  {a0_0 : Int} {a0_1 : Int} {a0_2 : Int} {a1_0 : Int} {a1_1 : Int} {a1_2 : Int} {r0 : Bool} (h : laws_eqIntA3.f k a0_0 a0_1 a0_2 a1_0 a1_1 a1_2 = some r0) (w : World) :
  Calls Try.prog 55 ([.agg ([.int .i64 a0_0,.int .i64 a0_1,.int .i64 a0_2].toArray),.agg ([.int .i64 a1_0,.int .i64 a1_1,.int .i64 a1_2].toArray)] : List Value).toArray w (fun e w'=>e = .returned (.bool r0)∧Ext w w'):=by
 unfold laws_eqIntA3.f at h
 refine Calls.of_tri (N:=17) Try.func55 rfl rfl rfl (Sep.nil (M:=noM)) ?_
 refine Tri.seq (Tri.reg (l:=[0,1,2]) rfl ?_)
 refine F.mn rfl (m_boxG rfl rfl) ?_
 rintro _ _ ⟨b2_1,rfl,rfl⟩
 refine F.mn rfl (m_boxG rfl rfl) ?_
 rintro _ _ ⟨b3_1,rfl,rfl⟩
 refine F.qn rfl (r_assign rfl) (F.nil (Nrm.seq (Tri.seq (Tri.seq (Tri.reg (l:=[0]) rfl ?_)))))
 refine F.qn rfl (r_assign rfl) (F.nil (Nrm.seq ?_))
 obtain ⟨s0,hE_1,h⟩:=bind_some h
 refine Tri.block ?_
 refine Tri.only [2,3,5] rfl ?_
 refine Tri.pick [0,1] rfl rfl ?_
 refine Tri.rounds (fun n e' C'=>∃ (x5' : Int),laws_eqIntA3.l0 k a0_0 a0_1 a0_2 a1_0 a1_1 a1_2 n x5' = some s0∧e' = [(2,.pointer (some ⟨b2_1,0,none⟩)),(3,.pointer (some ⟨b3_1,0,none⟩)),(5,.int .i64 x5')]∧C' = Sep w noM [R.box b3_1 61 [.int .i64 a1_0,.int .i64 a1_1,.int .i64 a1_2],R.box b2_1 61 [.int .i64 a0_0,.int .i64 a0_1,.int .i64 a0_2]]) k ?_ ?_ ?_
 ·exact ⟨0,hE_1,rfl,rfl⟩
 ·rintro _ _ ⟨_,hE_1,_⟩
  rw [laws_eqIntA3.l0.eq_1] at hE_1; cases hE_1
 ·rintro n_1 _ _ ⟨x5,hE_1,rfl,rfl⟩ ih_1
  rw [laws_eqIntA3.l0.eq_2] at hE_1
  refine Tri.seq (Tri.seq (Tri.reg (l:=[0,1]) rfl ?_))
  refine F.qn rfl (r_move rfl) (F.qn rfl (r_lss rfl rfl) (F.nil (Nrm.seq (Tri.cond (b:=decide (x5 < 3)) rfl (fun g_1=>?_) (fun g_1=>?_)))))
  ·replace hE_1:=if_tt g_1 hE_1
   refine Tri.skip (Nrm.seq (Tri.seq (Tri.block ?_)))
   refine Tri.seq ?_
   obtain ⟨t11,h11,hE_1⟩:=bind_some hE_1
   obtain ⟨t14,h14,hE_1⟩:=bind_some hE_1
   refine Tri.drawA mixedT Sep.up [(0,true),(1,true),(2,true),(3,true),(4,true),(5,true),(6,true)] [] (by kernel_rfl) ?_
   refine S.qn rfl (r_move rfl) ?_
   refine S.qn rfl (r_indexAddrA Try.underlying61 ti3 rfl rfl (rdl_some h11).1 (rdl_some h11).2.1) (S.qn rfl (r_load ta3 rfl (fun w hw=>cell_dynB (box_cells (i:=1) rfl w hw) rfl h11)) (S.qn rfl (r_move rfl) (S.qn rfl (r_indexAddrA Try.underlying61 ti3 rfl rfl (rdl_some h14).1 (rdl_some h14).2.1) (S.qn rfl (r_load ta3 rfl (fun w hw=>cell_dynB (box_cells (i:=0) rfl w hw) rfl h14)) (S.qn rfl (r_neq rfl rfl) (S.nil (F.nil (Nrm.seq (Tri.cond (b:=t11 != t14) rfl (fun g_2=>?_) (fun g_2=>?_))))))))))
   ·replace hE_1:=if_tt g_2 hE_1
    refine Tri.seq (Tri.reg (l:=[0]) rfl ?_)
    refine F.qn rfl (r_assign rfl) (F.nil (Nrm.seq (Tri.ret ?_)))
    refine Rtn.block ?_
    refine Rtn.then ?_
    refine Rtn.then ?_
    refine Rtn.block ?_
    refine Rtn.then ?_
    cases hE_1
    replace h:=Lr_inr h
    cases h
    exact Rtn.body (.tmp rfl .nil) (fun w hw=>⟨rfl,hw.ext⟩)
   ·replace hE_1:=if_ff g_2 hE_1
    refine Tri.skip (Nrm.block ?_)
    refine Nrm.seq (Tri.reg (l:=[0,1,2]) rfl ?_)
    refine F.qn rfl (r_move rfl) (F.qn rfl (r_add rfl rfl) (F.qn rfl (r_assign rfl) (F.nil (Nrm.round ?_))))
    refine Rnd.only [2,3,5] rfl ?_
    refine Rnd.pick [0,1] rfl rfl ?_
    exact ih_1 _ _ ⟨w64 (x5 + 1),hE_1,rfl,rfl⟩
  ·replace hE_1:=if_ff g_1 hE_1
   refine Tri.exit ?_
   refine Exi.then ?_
   refine Exi.then ?_
   refine Exi.same ?_
   cases hE_1
   replace h:=Lr_inl h
   refine Nrm.seq (Tri.seq (Tri.reg (l:=[0]) rfl ?_))
   refine F.qn rfl (r_assign rfl) (F.nil (Nrm.seq (Tri.ret ?_)))
   cases h
   exact Rtn.body (.tmp rfl .nil) (fun w hw=>⟨rfl,hw.ext⟩)

end Go.Proofs

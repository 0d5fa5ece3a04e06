/- A part of the proof of FnWorldForms: what the functions of the program compute, walked on the model. No condition. -/
import Derived.Test.YtebbaacgalipaaaGreatChecked
import Derived.Test.YtebbaacgalipaaaGreatFnWorldFormsB
set_option linter.unusedSimpArgs false
namespace Go.Proofs
open Go Go.Ga Go.Ga.Rp Go.Ga.Flat
theorem mixedT : Tryz.prog.follows .mixedOrders = true := by kernel_rfl
theorem eg168 : Tryz.prog.eqGuardType Tryz.prog.depth 168 = false := by kernel_rfl
theorem ok102 : CallOk Tryz.prog 102 := .of Tryz.func102 rfl (by decide)
theorem ok103 : CallOk Tryz.prog 103 := .of Tryz.func103 rfl (by decide)
theorem ok106 : CallOk Tryz.prog 106 := .of Tryz.func106 rfl (by decide)
theorem ok107 : CallOk Tryz.prog 107 := .of Tryz.func107 rfl (by decide)
theorem ok108 : CallOk Tryz.prog 108 := .of Tryz.func108 rfl (by decide)
theorem ok115 : CallOk Tryz.prog 115 := .of Tryz.func115 rfl (by decide)
theorem ok119 : CallOk Tryz.prog 119 := .of Tryz.func119 rfl (by decide)
theorem ok120 : CallOk Tryz.prog 120 := .of Tryz.func120 rfl (by decide)
theorem ok133 : CallOk Tryz.prog 133 := .of Tryz.func133 rfl (by decide)
theorem ok141 : CallOk Tryz.prog 141 := .of Tryz.func141 rfl (by decide)
theorem ok142 : CallOk Tryz.prog 142 := .of Tryz.func142 rfl (by decide)
theorem ok144 : CallOk Tryz.prog 144 := .of Tryz.func144 rfl (by decide)
theorem ok148 : CallOk Tryz.prog 148 := .of Tryz.func148 rfl (by decide)
theorem ok149 : CallOk Tryz.prog 149 := .of Tryz.func149 rfl (by decide)
theorem ok150 : CallOk Tryz.prog 150 := .of Tryz.func150 rfl (by decide)
theorem ok151 : CallOk Tryz.prog 151 := .of Tryz.func151 rfl (by decide)
theorem ok152 : CallOk Tryz.prog 152 := .of Tryz.func152 rfl (by decide)
theorem ok154 : CallOk Tryz.prog 154 := .of Tryz.func154 rfl (by decide)
theorem ok155 : CallOk Tryz.prog 155 := .of Tryz.func155 rfl (by decide)
theorem ok156 : CallOk Tryz.prog 156 := .of Tryz.func156 rfl (by decide)
theorem ok157 : CallOk Tryz.prog 157 := .of Tryz.func157 rfl (by decide)
theorem ok158 : CallOk Tryz.prog 158 := .of Tryz.func158 rfl (by decide)
theorem ok159 : CallOk Tryz.prog 159 := .of Tryz.func159 rfl (by decide)
theorem ok160 : CallOk Tryz.prog 160 := .of Tryz.func160 rfl (by decide)
theorem ok161 : CallOk Tryz.prog 161 := .of Tryz.func161 rfl (by decide)
theorem ok162 : CallOk Tryz.prog 162 := .of Tryz.func162 rfl (by decide)
theorem ok163 : CallOk Tryz.prog 163 := .of Tryz.func163 rfl (by decide)
theorem ok164 : CallOk Tryz.prog 164 := .of Tryz.func164 rfl (by decide)
theorem ok165 : CallOk Tryz.prog 165 := .of Tryz.func165 rfl (by decide)
theorem ok166 : CallOk Tryz.prog 166 := .of Tryz.func166 rfl (by decide)
theorem ok167 : CallOk Tryz.prog 167 := .of Tryz.func167 rfl (by decide)
theorem ok168 : CallOk Tryz.prog 168 := .of Tryz.func168 rfl (by decide)
theorem ok169 : CallOk Tryz.prog 169 := .of Tryz.func169 rfl (by decide)
theorem ok170 : CallOk Tryz.prog 170 := .of Tryz.func170 rfl (by decide)
theorem ok171 : CallOk Tryz.prog 171 := .of Tryz.func171 rfl (by decide)
theorem ok177 : CallOk Tryz.prog 177 := .of Tryz.func177 rfl (by decide)
theorem ok178 : CallOk Tryz.prog 178 := .of Tryz.func178 rfl (by decide)
theorem ok179 : CallOk Tryz.prog 179 := .of Tryz.func179 rfl (by decide)
theorem ok180 : CallOk Tryz.prog 180 := .of Tryz.func180 rfl (by decide)
theorem ok183 : CallOk Tryz.prog 183 := .of Tryz.func183 rfl (by decide)
theorem ok184 : CallOk Tryz.prog 184 := .of Tryz.func184 rfl (by decide)
theorem ok185 : CallOk Tryz.prog 185 := .of Tryz.func185 rfl (by decide)
theorem ok189 : CallOk Tryz.prog 189 := .of Tryz.func189 rfl (by decide)
theorem ok193 : CallOk Tryz.prog 193 := .of Tryz.func193 rfl (by decide)
theorem ok194 : CallOk Tryz.prog 194 := .of Tryz.func194 rfl (by decide)
theorem ok195 : CallOk Tryz.prog 195 := .of Tryz.func195 rfl (by decide)
theorem ok196 : CallOk Tryz.prog 196 := .of Tryz.func196 rfl (by decide)
theorem ok197 : CallOk Tryz.prog 197 := .of Tryz.func197 rfl (by decide)
theorem ok198 : CallOk Tryz.prog 198 := .of Tryz.func198 rfl (by decide)
theorem ok199 : CallOk Tryz.prog 199 := .of Tryz.func199 rfl (by decide)
theorem ok200 : CallOk Tryz.prog 200 := .of Tryz.func200 rfl (by decide)
theorem ok202 : CallOk Tryz.prog 202 := .of Tryz.func202 rfl (by decide)
theorem ok206 : CallOk Tryz.prog 206 := .of Tryz.func206 rfl (by decide)
theorem ok207 : CallOk Tryz.prog 207 := .of Tryz.func207 rfl (by decide)
theorem ok222 : CallOk Tryz.prog 222 := .of Tryz.func222 rfl (by decide)
theorem ok223 : CallOk Tryz.prog 223 := .of Tryz.func223 rfl (by decide)
theorem ok224 : CallOk Tryz.prog 224 := .of Tryz.func224 rfl (by decide)
theorem ok225 : CallOk Tryz.prog 225 := .of Tryz.func225 rfl (by decide)
theorem ok226 : CallOk Tryz.prog 226 := .of Tryz.func226 rfl (by decide)
theorem ok227 : CallOk Tryz.prog 227 := .of Tryz.func227 rfl (by decide)
theorem ok228 : CallOk Tryz.prog 228 := .of Tryz.func228 rfl (by decide)
theorem ok229 : CallOk Tryz.prog 229 := .of Tryz.func229 rfl (by decide)
theorem ok231 : CallOk Tryz.prog 231 := .of Tryz.func231 rfl (by decide)
theorem ok233 : CallOk Tryz.prog 233 := .of Tryz.func233 rfl (by decide)
theorem ok234 : CallOk Tryz.prog 234 := .of Tryz.func234 rfl (by decide)
theorem ok238 : CallOk Tryz.prog 238 := .of Tryz.func238 rfl (by decide)
theorem ok245 : CallOk Tryz.prog 245 := .of Tryz.func245 rfl (by decide)
theorem ok248 : CallOk Tryz.prog 248 := .of Tryz.func248 rfl (by decide)
theorem ok278 : CallOk Tryz.prog 278 := .of Tryz.func278 rfl (by decide)
theorem ok47 : CallOk Tryz.prog 47 := .of Tryz.func47 rfl (by decide)
theorem ok51 : CallOk Tryz.prog 51 := .of Tryz.func51 rfl (by decide)
theorem ok68 : CallOk Tryz.prog 68 := .of Tryz.func68 rfl (by decide)
theorem ok70 : CallOk Tryz.prog 70 := .of Tryz.func70 rfl (by decide)
theorem ok71 : CallOk Tryz.prog 71 := .of Tryz.func71 rfl (by decide)
theorem ok72 : CallOk Tryz.prog 72 := .of Tryz.func72 rfl (by decide)
theorem ok73 : CallOk Tryz.prog 73 := .of Tryz.func73 rfl (by decide)
theorem ok74 : CallOk Tryz.prog 74 := .of Tryz.func74 rfl (by decide)
theorem ok75 : CallOk Tryz.prog 75 := .of Tryz.func75 rfl (by decide)
theorem ok76 : CallOk Tryz.prog 76 := .of Tryz.func76 rfl (by decide)
theorem ok77 : CallOk Tryz.prog 77 := .of Tryz.func77 rfl (by decide)
theorem ok78 : CallOk Tryz.prog 78 := .of Tryz.func78 rfl (by decide)
theorem ok79 : CallOk Tryz.prog 79 := .of Tryz.func79 rfl (by decide)
theorem ok80 : CallOk Tryz.prog 80 := .of Tryz.func80 rfl (by decide)
theorem ok81 : CallOk Tryz.prog 81 := .of Tryz.func81 rfl (by decide)
theorem ok82 : CallOk Tryz.prog 82 := .of Tryz.func82 rfl (by decide)
theorem ok98 : CallOk Tryz.prog 98 := .of Tryz.func98 rfl (by decide)
theorem on25 {w0 : World} {M : Nat → Prop} {rs rest : List Res} {S : Nat → Prop} {v : Value} {l : List (List Int)} {i : Nat} {x : List Int} (is js : List Nat) (hp : Ga.pick rs (is ++ js) = some (R.sl S v l :: rest)) (hn : noDup (is ++ js) = true) (hx : l[i]? = some x) :
  ∀ w,Sep w0 M rs w → ∃ C',C' w∧∃ (v0 : Value) (S0 : Nat → Prop) (Sr : Nat → Prop),SlLen v0 (x).length∧(∀ b,S b ↔ (S0 b) ∨ Sr b)∧C' = Sep w0 M (R.sl S0 v0 x :: R.hole Sr v l i [v0] :: rest):=by
 intro w hw
 obtain ⟨cs,Se,Sr,ho,hh,h1,h2,h3⟩:=SlOwn.open (show SlOwn w S v l from (hw.pick hp hn).ok _ (List.mem_cons_self ..)) hx
 obtain ⟨v0,rfl,f0⟩:=ho
 have hs0 : ∀ b,Se b → Se b:=fun b hb=>hb
 have hw1 : Sep w0 M ([R.sl S v l] ++ rest) w:=hw.pick hp hn
 refine ⟨_,Sep.repl (ns:=[R.sl Se v0 x,R.hole (fun b=>S b∧¬ (Se b)) v l i [v0]]) hw1 ?_ ?_ ?_,v0,Se,(fun b=>S b∧¬ (Se b)),(SlOwn.rd f0).len,fun b=>⟨fun hb=>?_,fun hb=>?_⟩,rfl⟩
 ·intro r hr; simp only [List.mem_cons,List.not_mem_nil,or_false] at hr; rcases hr with rfl | rfl
  ·exact f0
  ·exact hh.mono (fun b hb=>⟨h2 b hb,fun h=>h3 b (hs0 b h) hb⟩)
 ·refine .cons (fun s hs b hb hb2=>?_) (.cons (fun s hs=>by cases hs) .nil)
  rw [List.mem_singleton.1 hs] at hb2; exact hb2.2 hb
 ·intro r hr b hb; simp only [List.mem_cons,List.not_mem_nil,or_false] at hr; refine ⟨_,List.mem_cons_self ..,?_⟩; rcases hr with rfl | rfl
  ·exact h1 b (hs0 b hb)
  ·exact hb.1
 ·by_cases hc : Se b
  ·exact .inl hc
  ·exact .inr ⟨hb,hc⟩
 ·rcases hb with hb | hb
  ·exact h1 b (hs0 b hb)
  ·exact hb.1
theorem op25 {w : World} {cs : List Value} {t : List Int} (h : rep w (fun _ => True) cs t) : ∃ v0 : Value, cs = [v0] ∧ Rd w v0 t := by
 obtain ⟨v0,rfl,h0⟩:=h
 exact ⟨v0,rfl,h0⟩
theorem op27 {w : World} {cs : List Value} {t : Int × List (Int × Int × Int) × List Int} (h : rep w (fun _ => True) cs t) : ∃ v1 v2 : Value, cs = [.int .i64 t.1, v1, v2] ∧ Rd w v1 t.2.1 ∧ Rd w v2 t.2.2 := by
 obtain ⟨_,_,rfl,h0,⟨_,_,rfl,⟨v1,rfl,h1⟩,⟨v2,rfl,h2⟩⟩⟩:=h
 rw [Flat.rp h0]
 exact ⟨v1,v2,rfl,h1,h2⟩
theorem ta112 : TAgg Tryz.prog 112 false := .of (by kernel_rfl)
theorem ta130 : TAgg Tryz.prog 130 true := .of (by kernel_rfl)
theorem ta132 : TAgg Tryz.prog 132 true := .of (by kernel_rfl)
theorem ta161 : TAgg Tryz.prog 161 true := .of (by kernel_rfl)
theorem ta168 : TAgg Tryz.prog 168 true := .of (by kernel_rfl)
theorem ta22 : TAgg Tryz.prog 22 false := .of (by kernel_rfl)
theorem ta24 : TAgg Tryz.prog 24 false := .of (by kernel_rfl)
theorem ta25 : TAgg Tryz.prog 25 false := .of (by kernel_rfl)
theorem ta27 : TAgg Tryz.prog 27 true := .of (by kernel_rfl)
theorem ta3 : TAgg Tryz.prog 3 false := .of (by kernel_rfl)
theorem ta5 : TAgg Tryz.prog 5 false := .of (by kernel_rfl)
theorem ta85 : TAgg Tryz.prog 85 false := .of (by kernel_rfl)
theorem ta86 : TAgg Tryz.prog 86 false := .of (by kernel_rfl)
theorem ta88 : TAgg Tryz.prog 88 true := .of (by kernel_rfl)
theorem tf114_0 : TField Tryz.prog 114 0 0 := .of (k := 0) (by kernel_rfl)
theorem tf114_1 : TField Tryz.prog 114 1 1 := .of (k := 0) (by kernel_rfl)
theorem tf114_2 : TField Tryz.prog 114 2 2 := .of (k := 0) (by kernel_rfl)
theorem tf161_0 : TField Tryz.prog 161 0 0 := .of (k := 0) (by kernel_rfl)
theorem tf161_1 : TField Tryz.prog 161 1 1 := .of (k := 0) (by kernel_rfl)
theorem tf27_0 : TField Tryz.prog 27 0 0 := .of (k := 0) (by kernel_rfl)
theorem tf27_1 : TField Tryz.prog 27 1 1 := .of (k := 0) (by kernel_rfl)
theorem tf27_2 : TField Tryz.prog 27 2 2 := .of (k := 0) (by kernel_rfl)
theorem tf88_0 : TField Tryz.prog 88 0 0 := .of (k := 0) (by kernel_rfl)
theorem tf88_1 : TField Tryz.prog 88 1 1 := .of (k := 0) (by kernel_rfl)
theorem ti112 : TInfo Tryz.prog 112 1 8 (.int .u64 0) := .of (by kernel_rfl)
theorem ti114 : TInfo Tryz.prog 114 3 40 (.agg #[.slice none 0 0, .int .i64 0, .int .u64 0]) := .of (by kernel_rfl)
theorem ti130 : TInfo Tryz.prog 130 64 512 (.agg (encA (Arr.rep 64 0)).toArray) := .of (by kernel_rfl)
theorem ti132 : TInfo Tryz.prog 132 768 6144 (.agg (encA (Arr.rep 768 0)).toArray) := .of (by kernel_rfl)
theorem ti161 : TInfo Tryz.prog 161 2 48 (.agg #[.slice none 0 0, .slice none 0 0]) := .of (by kernel_rfl)
theorem ti168 : TInfo Tryz.prog 168 3 24 (.agg #[.int .i64 0, .int .i64 0, .int .i64 0]) := .of (by kernel_rfl)
theorem ti24 : TInfo Tryz.prog 24 1 24 (.slice none 0 0) := .of (by kernel_rfl)
theorem ti25 : TInfo Tryz.prog 25 1 24 (.slice none 0 0) := .of (by kernel_rfl)
theorem ti27 : TInfo Tryz.prog 27 3 56 (.agg #[.int .i64 0, .slice none 0 0, .slice none 0 0]) := .of (by kernel_rfl)
theorem ti3 : TInfo Tryz.prog 3 1 8 (.int .i64 0) := .of (by kernel_rfl)
theorem ti5 : TInfo Tryz.prog 5 1 1 (.int .u8 0) := .of (by kernel_rfl)
theorem ti75 : TInfo Tryz.prog 75 2 16 (.agg #[.int .i64 0, .int .i64 0]) := .of (by kernel_rfl)
theorem ti85 : TInfo Tryz.prog 85 1 24 (.slice none 0 0) := .of (by kernel_rfl)
theorem ti86 : TInfo Tryz.prog 86 1 24 (.slice none 0 0) := .of (by kernel_rfl)
theorem ti88 : TInfo Tryz.prog 88 2 48 (.agg #[.slice none 0 0, .slice none 0 0]) := .of (by kernel_rfl)
end Go.Proofs

/- loop.example/g01158/laws.rBig -/

namespace Go.Proofs
open Go Go.Ga
set_option linter.unusedVariables false
set_option maxRecDepth 100000
set_option maxHeartbeats 4000000
def laws_rBig.f (k : Nat) (a0 : List By) : Option (Bool) := some (decide ((a0.length : Int) > 65536))

theorem laws_rBig.ok {k : Nat}  {a0 : List By} {r0 : Bool} (h : laws_rBig.f k a0 = some r0) (w : World) {va0 : Value} (hr_a0 : Rd w va0 a0) :
  Calls Tryz.prog 47 ([va0] : List Value).toArray w (fun e w'=>e = .returned (.bool r0)∧Ext w w'):=by
 unfold laws_rBig.f at h
 have hl_va0:=hr_a0.len
 refine Calls.of_tri (N:=6) Tryz.func47 rfl rfl rfl (Sep.nil (M:=noM)) ?_
 refine Tri.seq (Tri.reg (l:=[0]) rfl ?_)
 refine F.qn rfl (r_assign rfl) (F.nil (Nrm.seq (Tri.seq (Tri.reg (l:=[0,1,2,3]) rfl ?_))))
 refine F.qn rfl (r_move rfl) (F.qn rfl (r_len Tryz.underlying22 rfl hl_va0) (F.qn rfl (r_gtr rfl rfl) (F.qn rfl (r_assign rfl) (F.nil (Nrm.seq (Tri.ret ?_))))))
 cases h
 exact Rtn.body (.tmp rfl .nil) (fun w hw=>⟨rfl,hw.ext⟩)


def impl_within.f (k : Nat) (a0 : Int) (a1 : Int) (a2 : Int) : Option (Bool) := ((if (decide (a1 ≤ a0)) = true then some (decide (a0 ≤ a2)) else some false)).bind fun y6 => some y6

theorem impl_within.ok {k : Nat}  {a0 : Int} {a1 : Int} {a2 : Int} {r0 : Bool} (h : impl_within.f k a0 a1 a2 = some r0) (w : World) :
  Calls Tryz.prog 103 ([.int .i64 a0,.int .i64 a1,.int .i64 a2] : List Value).toArray w (fun e w'=>e = .returned (.bool r0)∧Ext w w'):=by
 unfold impl_within.f at h
 refine Calls.of_tri (N:=15) Tryz.func103 rfl rfl rfl (Sep.nil (M:=noM)) ?_
 refine Tri.seq (Tri.reg (l:=[0]) rfl ?_)
 refine F.qn rfl (r_assign rfl) (F.nil (Nrm.seq (Tri.seq ?_)))
 obtain ⟨y6,hE_1,h⟩:=bind_some h
 refine Tri.cut (fun e' C'=>e' = [(6,.bool y6)]∧C' = Sep w noM []) ?_ (fun hj_1=>?_)
 ·rintro _ _ ⟨rfl,rfl⟩
  refine Nrm.seq (Tri.ret ?_)
  cases h
  exact Rtn.body (.tmp rfl .nil) (fun w hw=>⟨rfl,hw.ext⟩)
 ·rcases Bool.eq_false_or_eq_true (decide (a1 ≤ a0)) with g10 | g10
  ·replace hE_1:=if_tt g10 hE_1
   refine Tri.reg (l:=[0,1,2,3,4,5,6,7,8]) rfl ?_
   refine F.qn rfl (r_move rfl) (F.qn rfl (r_move rfl) (F.qn rfl (r_leq rfl rfl) ?_))
   refine F.qn rfl (r_move rfl) (F.qg rfl g10 (r_move rfl) (F.qg rfl g10 (r_move rfl) (F.qg rfl g10 (r_leq rfl rfl) (F.qn rfl (r_pick rfl rfl g10) (F.qn rfl (r_assign rfl) (F.nil ?_))))))
   cases hE_1
   refine Nrm.only [6] rfl ?_
   refine Nrm.pick [] rfl rfl ?_
   exact hj_1 _ _ ⟨rfl,rfl⟩
  ·replace hE_1:=if_ff g10 hE_1
   refine Tri.reg (l:=[0,1,2,3,4,5,6,7,8]) rfl ?_
   refine F.qn rfl (r_move rfl) (F.qn rfl (r_move rfl) (F.qn rfl (r_leq rfl rfl) (F.qn rfl (r_move rfl) ?_)))
   iterate 3 refine F.skf rfl g10 ?_
   refine F.qn rfl (r_pickf rfl rfl g10) (F.qn rfl (r_assign rfl) (F.nil ?_))
   cases hE_1
   refine Nrm.only [6] rfl ?_
   refine Nrm.pick [] rfl rfl ?_
   exact hj_1 _ _ ⟨rfl,rfl⟩


def impl_isSet.f (k : Nat) (a0 : Int) : Option (Bool) := (impl_within.f k a0 0 63).bind fun t4 => some t4

theorem impl_isSet.ok {k : Nat}  {a0 : Int} {r0 : Bool} (h : impl_isSet.f k a0 = some r0) (w : World) :
  Calls Tryz.prog 177 ([.int .i64 a0] : List Value).toArray w (fun e w'=>e = .returned (.bool r0)∧Ext w w'):=by
 unfold impl_isSet.f at h
 refine Calls.of_tri (N:=5) Tryz.func177 rfl rfl rfl (Sep.nil (M:=noM)) ?_
 refine Tri.seq (Tri.reg (l:=[0]) rfl ?_)
 refine F.qn rfl (r_assign rfl) (F.nil (Nrm.seq (Tri.seq ?_)))
 obtain ⟨t4,h4,h⟩:=bind_some h
 refine Tri.reg (l:=[0,1,2]) rfl ?_
 refine F.qn rfl (r_move rfl) ?_
 refine F.qcn rfl (q_callF (xs:=_) rfl ok103 rfl rfl (fun w hw=>impl_within.ok h4 w)) ?_
 refine F.qn rfl (r_assign rfl) (F.nil (Nrm.seq (Tri.ret ?_)))
 cases h
 exact Rtn.body (.tmp rfl .nil) (fun w hw=>⟨rfl,hw.ext⟩)


def slices_IndexFunc_int_int.l0 (k : Nat) (a0 : List Int) (a1 : (Int → Option (Bool))) : Nat → Int → Option ((Unit) ⊕ (Int))
 | 0,_=>none
 | n + 1,x8=>(if (decide (x8 < (a0.length : Int))) = true then (rdl a0 x8).bind fun t14=>(a1 t14).bind fun t16=>(if t16 = true then some (Sum.inr x8) else slices_IndexFunc_int_int.l0 k a0 a1 n (w64 (x8 + 1))) else some (Sum.inl ()))

def slices_IndexFunc_int_int.f (k : Nat) (a0 : List Int) (a1 : (Int → Option (Bool))) : Option (Int) := (slices_IndexFunc_int_int.l0 k a0 a1 k 0).bind fun s => Lr s some fun _ => some (-1)

theorem slices_IndexFunc_int_int.ok {k : Nat}  {a0 : List Int} {a1 : (Int → Option (Bool))} {r0 : Int} (h : slices_IndexFunc_int_int.f k a0 a1 = some r0) (w : World) {va0 : Value} (hr_a0 : Rd w va0 a0) {fi_a1 : FuncId} {ca_a1 : Array Value} (ho_a1 : CallOk Tryz.prog fi_a1) (hf_a1 : ∀ w2, Ext w w2 → ∀ (z0 : Int) (y : Bool), a1 z0 = some y → Calls Tryz.prog fi_a1 (([.int .i64 z0] : List Value) ++ ca_a1.toList).toArray w2 (fun e w3 => e = .returned (.bool y) ∧ Ext w2 w3)) :
  Calls Tryz.prog 231 ([va0,.func (.func fi_a1) #[] ca_a1] : List Value).toArray w (fun e w'=>e = .returned (.int .i64 r0)∧Ext w w'):=by
 unfold slices_IndexFunc_int_int.f at h
 have hl_va0:=hr_a0.len
 refine Calls.of_tri (N:=19) Tryz.func231 rfl rfl rfl (Sep.nil (M:=noM)) ?_
 refine Tri.seq (Tri.reg (l:=[0]) rfl ?_)
 refine F.qn rfl (r_assign rfl) (F.nil (Nrm.seq (Tri.seq (Tri.seq (Tri.reg (l:=[0,1,2]) rfl ?_)))))
 refine F.qn rfl (r_move rfl) (F.qn rfl (r_len Tryz.underlying25 rfl hl_va0) (F.qn rfl (r_move rfl) (F.nil (Nrm.seq ?_))))
 obtain ⟨s0,hE_1,h⟩:=bind_some h
 refine Tri.block ?_
 refine Tri.only [0,1,7,8] rfl ?_
 refine Tri.pick [] rfl rfl ?_
 refine Tri.rounds (fun n e' C'=>∃ (x8' : Int),slices_IndexFunc_int_int.l0 k a0 a1 n x8' = some s0∧e' = [(0,va0),(1,.func (.func fi_a1) #[] ca_a1),(7,.int .i64 (a0.length : Int)),(8,.int .i64 x8')]∧C' = Sep w noM []) k ?_ ?_ ?_
 ·exact ⟨0,hE_1,rfl,rfl⟩
 ·rintro _ _ ⟨_,hE_1,_⟩
  rw [slices_IndexFunc_int_int.l0.eq_1] at hE_1; cases hE_1
 ·rintro n_1 _ _ ⟨x8,hE_1,rfl,rfl⟩ ih_1
  rw [slices_IndexFunc_int_int.l0.eq_2] at hE_1
  refine Tri.seq (Tri.reg (l:=[0]) rfl ?_)
  refine F.qn rfl (r_lss rfl rfl) (F.nil (Nrm.seq (Tri.seq (Tri.cond (b:=decide (x8 < (a0.length : Int))) rfl (fun g_1=>?_) (fun g_1=>?_)))))
  ·replace hE_1:=if_tt g_1 hE_1
   refine Tri.skip (Nrm.seq (Tri.seq (Tri.block ?_)))
   refine Tri.seq (Tri.reg (l:=[0,1]) rfl ?_)
   refine F.qn rfl (r_move rfl) (F.qn rfl (r_assign rfl) (F.nil (Nrm.seq (Tri.seq ?_))))
   obtain ⟨t14,h14,hE_1⟩:=bind_some hE_1
   obtain ⟨t16,h16,hE_1⟩:=bind_some hE_1
   refine Tri.reg (l:=[0,1,2,3,4,5]) rfl ?_
   iterate 3 refine F.qn rfl (r_move rfl) ?_
   refine F.qn rfl (r_indexAddrS Tryz.underlying25 ti3 rfl hl_va0 rfl (rdl_some h14).1 (rdl_some h14).2.1) (F.qn rfl (r_load ta3 rfl (fun w hw=>cell_0 (Rd.flat ((fun _ hw=>hr_a0.sep hw) w hw) (rdl_some h14).2.2) rfl)) ?_)
   refine F.qcn rfl (q_callC (xs:=_) rfl ho_a1 rfl rfl (fun w hw=>hf_a1 w hw.ext _  _ h16)) ?_
   refine F.nil (Nrm.seq (Tri.cond (b:=t16) rfl (fun g_2=>?_) (fun g_2=>?_)))
   ·replace hE_1:=if_tt g_2 hE_1
    refine Tri.seq (Tri.reg (l:=[0,1]) rfl ?_)
    refine F.qn rfl (r_move rfl) (F.qn rfl (r_assign rfl) (F.nil (Nrm.seq (Tri.ret ?_))))
    refine Rtn.block ?_
    refine Rtn.then ?_
    refine Rtn.then ?_
    refine Rtn.block ?_
    refine Rtn.then ?_
    cases hE_1
    replace h:=Lr_inr h
    cases h
    exact Rtn.body (.tmp rfl .nil) (fun w hw=>⟨rfl,hw.ext⟩)
   ·replace hE_1:=if_ff g_2 hE_1
    refine Tri.skip (Nrm.block ?_)
    refine Nrm.seq (Tri.reg (l:=[0,1]) rfl ?_)
    refine F.qn rfl (r_add rfl rfl) (F.qn rfl (r_move rfl) (F.nil (Nrm.round ?_)))
    refine Rnd.only [0,1,7,8] rfl ?_
    refine Rnd.pick [] rfl rfl ?_
    exact ih_1 _ _ ⟨w64 (x8 + 1),hE_1,rfl,rfl⟩
  ·replace hE_1:=if_ff g_1 hE_1
   refine Tri.exit ?_
   refine Exi.then ?_
   refine Exi.then ?_
   refine Exi.same ?_
   cases hE_1
   replace h:=Lr_inl h
   refine Nrm.seq (Tri.seq (Tri.reg (l:=[0]) rfl ?_))
   refine F.qn rfl (r_assign rfl) (F.nil (Nrm.seq (Tri.ret ?_)))
   cases h
   exact Rtn.body (.tmp rfl .nil) (fun w hw=>⟨rfl,hw.ext⟩)


def slices_ContainsFunc_int_int.f (k : Nat) (a0 : List Int) (a1 : (Int → Option (Bool))) : Option (Bool) := (slices_IndexFunc_int_int.f k a0 a1).bind fun t7 => some (decide (t7 ≥ 0))

theorem slices_ContainsFunc_int_int.ok {k : Nat}  {a0 : List Int} {a1 : (Int → Option (Bool))} {r0 : Bool} (h : slices_ContainsFunc_int_int.f k a0 a1 = some r0) (w : World) {va0 : Value} (hr_a0 : Rd w va0 a0) {fi_a1 : FuncId} {ca_a1 : Array Value} (ho_a1 : CallOk Tryz.prog fi_a1) (hf_a1 : ∀ w2, Ext w w2 → ∀ (z0 : Int) (y : Bool), a1 z0 = some y → Calls Tryz.prog fi_a1 (([.int .i64 z0] : List Value) ++ ca_a1.toList).toArray w2 (fun e w3 => e = .returned (.bool y) ∧ Ext w2 w3)) :
  Calls Tryz.prog 179 ([va0,.func (.func fi_a1) #[] ca_a1] : List Value).toArray w (fun e w'=>e = .returned (.bool r0)∧Ext w w'):=by
 unfold slices_ContainsFunc_int_int.f at h
 have hl_va0:=hr_a0.len
 refine Calls.of_tri (N:=9) Tryz.func179 rfl rfl rfl (Sep.nil (M:=noM)) ?_
 refine Tri.seq (Tri.reg (l:=[0]) rfl ?_)
 refine F.qn rfl (r_assign rfl) (F.nil (Nrm.seq (Tri.seq ?_)))
 obtain ⟨t7,h7,h⟩:=bind_some h
 refine Tri.reg (l:=[0,1,2,3,4]) rfl ?_
 refine F.qn rfl (r_move rfl) (F.qn rfl (r_move rfl) ?_)
 refine F.qcn rfl (q_callF (xs:=_) rfl ok231 rfl rfl (fun w hw=>slices_IndexFunc_int_int.ok h7 w ((fun _ hw=>hr_a0.sep hw) w hw) ho_a1 (fun w2 he2=>hf_a1 w2 (hw.ext.trans he2)))) ?_
 refine F.qn rfl (r_geq rfl rfl) (F.qn rfl (r_assign rfl) (F.nil (Nrm.seq (Tri.ret ?_))))
 cases h
 exact Rtn.body (.tmp rfl .nil) (fun w hw=>⟨rfl,hw.ext⟩)


def cmp_Or_int.l0 (k : Nat) (a0 : List Int) : Nat → Int → Option ((Unit) ⊕ (Int))
 | 0,_=>none
 | n + 1,x8=>(if (decide (x8 < (a0.length : Int))) = true then (rdl a0 x8).bind fun t10=>(if (t10 != 0) = true then some (Sum.inr t10) else cmp_Or_int.l0 k a0 n (w64 (x8 + 1))) else some (Sum.inl ()))

def cmp_Or_int.f (k : Nat) (a0 : List Int) : Option (Int) := (cmp_Or_int.l0 k a0 k 0).bind fun s => Lr s some fun _ => some 0

theorem cmp_Or_int.ok {k : Nat}  {a0 : List Int} {r0 : Int} (h : cmp_Or_int.f k a0 = some r0) (w : World) {va0 : Value} (hr_a0 : Rd w va0 a0) :
  Calls Tryz.prog 233 ([va0] : List Value).toArray w (fun e w'=>e = .returned (.int .i64 r0)∧Ext w w'):=by
 unfold cmp_Or_int.f at h
 have hl_va0:=hr_a0.len
 refine Calls.of_tri (N:=18) Tryz.func233 rfl rfl rfl (Sep.nil (M:=noM)) ?_
 refine Tri.seq (Tri.reg (l:=[0]) rfl ?_)
 refine F.qn rfl (r_assign rfl) (F.nil (Nrm.seq (Tri.seq (Tri.reg (l:=[0]) rfl ?_))))
 refine F.qn rfl (r_assign rfl) (F.nil (Nrm.seq (Tri.seq (Tri.seq (Tri.reg (l:=[0,1,2]) rfl ?_)))))
 refine F.qn rfl (r_move rfl) (F.qn rfl (r_len Tryz.underlying25 rfl hl_va0) (F.qn rfl (r_move rfl) (F.nil (Nrm.seq ?_))))
 obtain ⟨s0,hE_1,h⟩:=bind_some h
 refine Tri.block ?_
 refine Tri.only [3,6,7,8] rfl ?_
 refine Tri.pick [] rfl rfl ?_
 refine Tri.rounds (fun n e' C'=>∃ (x8' : Int),cmp_Or_int.l0 k a0 n x8' = some s0∧e' = [(3,.int .i64 0),(6,va0),(7,.int .i64 (a0.length : Int)),(8,.int .i64 x8')]∧C' = Sep w noM []) k ?_ ?_ ?_
 ·exact ⟨0,hE_1,rfl,rfl⟩
 ·rintro _ _ ⟨_,hE_1,_⟩
  rw [cmp_Or_int.l0.eq_1] at hE_1; cases hE_1
 ·rintro n_1 _ _ ⟨x8,hE_1,rfl,rfl⟩ ih_1
  rw [cmp_Or_int.l0.eq_2] at hE_1
  refine Tri.seq (Tri.reg (l:=[0]) rfl ?_)
  refine F.qn rfl (r_lss rfl rfl) (F.nil (Nrm.seq (Tri.seq (Tri.cond (b:=decide (x8 < (a0.length : Int))) rfl (fun g_1=>?_) (fun g_1=>?_)))))
  ·replace hE_1:=if_tt g_1 hE_1
   refine Tri.skip (Nrm.seq (Tri.seq (Tri.block ?_)))
   refine Tri.seq ?_
   obtain ⟨t10,h10,hE_1⟩:=bind_some hE_1
   refine Tri.reg (l:=[0,1,2]) rfl ?_
   refine F.qn rfl (r_indexAddrS Tryz.underlying25 ti3 rfl hl_va0 rfl (rdl_some h10).1 (rdl_some h10).2.1) (F.qn rfl (r_load ta3 rfl (fun w hw=>cell_0 (Rd.flat ((fun _ hw=>hr_a0.sep hw) w hw) (rdl_some h10).2.2) rfl)) (F.qn rfl (r_assign rfl) (F.nil (Nrm.seq (Tri.seq (Tri.reg (l:=[0,1,2]) rfl ?_))))))
   refine F.qn rfl (r_move rfl) (F.qn rfl (r_move rfl) (F.qn rfl (r_neq rfl rfl) (F.nil (Nrm.seq (Tri.cond (b:=t10 != 0) rfl (fun g_2=>?_) (fun g_2=>?_))))))
   ·replace hE_1:=if_tt g_2 hE_1
    refine Tri.seq (Tri.reg (l:=[0,1]) rfl ?_)
    refine F.qn rfl (r_move rfl) (F.qn rfl (r_assign rfl) (F.nil (Nrm.seq (Tri.ret ?_))))
    refine Rtn.block ?_
    refine Rtn.then ?_
    refine Rtn.then ?_
    refine Rtn.block ?_
    refine Rtn.then ?_
    cases hE_1
    replace h:=Lr_inr h
    cases h
    exact Rtn.body (.tmp rfl .nil) (fun w hw=>⟨rfl,hw.ext⟩)
   ·replace hE_1:=if_ff g_2 hE_1
    refine Tri.skip (Nrm.block ?_)
    refine Nrm.seq (Tri.reg (l:=[0,1]) rfl ?_)
    refine F.qn rfl (r_add rfl rfl) (F.qn rfl (r_move rfl) (F.nil (Nrm.round ?_)))
    refine Rnd.only [3,6,7,8] rfl ?_
    refine Rnd.pick [] rfl rfl ?_
    exact ih_1 _ _ ⟨w64 (x8 + 1),hE_1,rfl,rfl⟩
  ·replace hE_1:=if_ff g_1 hE_1
   refine Tri.exit ?_
   refine Exi.then ?_
   refine Exi.then ?_
   refine Exi.same ?_
   cases hE_1
   replace h:=Lr_inl h
   refine Nrm.seq (Tri.seq (Tri.reg (l:=[0,1]) rfl ?_))
   refine F.qn rfl (r_move rfl) (F.qn rfl (r_assign rfl) (F.nil (Nrm.seq (Tri.ret ?_))))
   cases h
   exact Rtn.body (.tmp rfl .nil) (fun w hw=>⟨rfl,hw.ext⟩)


def cmp_isNaN_int.f (k : Nat) (a0 : Int) : Option (Bool) := some (a0 != a0)

theorem cmp_isNaN_int.ok {k : Nat}  {a0 : Int} {r0 : Bool} (h : cmp_isNaN_int.f k a0 = some r0) (w : World) :
  Calls Tryz.prog 245 ([.int .i64 a0] : List Value).toArray w (fun e w'=>e = .returned (.bool r0)∧Ext w w'):=by
 unfold cmp_isNaN_int.f at h
 refine Calls.of_tri (N:=6) Tryz.func245 rfl rfl rfl (Sep.nil (M:=noM)) ?_
 refine Tri.seq (Tri.reg (l:=[0]) rfl ?_)
 refine F.qn rfl (r_assign rfl) (F.nil (Nrm.seq (Tri.seq (Tri.reg (l:=[0,1,2,3]) rfl ?_))))
 refine F.qn rfl (r_move rfl) (F.qn rfl (r_move rfl) (F.qn rfl (r_neq rfl rfl) (F.qn rfl (r_assign rfl) (F.nil (Nrm.seq (Tri.ret ?_))))))
 cases h
 exact Rtn.body (.tmp rfl .nil) (fun w hw=>⟨rfl,hw.ext⟩)


def cmp_Compare_int.f (k : Nat) (a0 : Int) (a1 : Int) : Option (Int) := (cmp_isNaN_int.f k a0).bind fun t8 => (cmp_isNaN_int.f k a1).bind fun t10 => (if t8 = true then (if t10 = true then some 0 else some (-1)) else (if t10 = true then some 1 else (if (decide (a0 < a1)) = true then some (-1) else (if (decide (a0 > a1)) = true then some 1 else some 0))))

theorem cmp_Compare_int.ok {k : Nat}  {a0 : Int} {a1 : Int} {r0 : Int} (h : cmp_Compare_int.f k a0 a1 = some r0) (w : World) :
  Calls Tryz.prog 234 ([.int .i64 a0,.int .i64 a1] : List Value).toArray w (fun e w'=>e = .returned (.int .i64 r0)∧Ext w w'):=by
 unfold cmp_Compare_int.f at h
 refine Calls.of_tri (N:=20) Tryz.func234 rfl rfl rfl (Sep.nil (M:=noM)) ?_
 refine Tri.seq (Tri.reg (l:=[0]) rfl ?_)
 refine F.qn rfl (r_assign rfl) (F.nil (Nrm.seq (Tri.seq ?_)))
 obtain ⟨t8,h8,h⟩:=bind_some h
 refine Tri.reg (l:=[0,1,2]) rfl ?_
 refine F.qn rfl (r_move rfl) ?_
 refine F.qcn rfl (q_callF (xs:=_) rfl ok245 rfl rfl (fun w hw=>cmp_isNaN_int.ok h8 w)) ?_
 refine F.qn rfl (r_assign rfl) (F.nil (Nrm.seq (Tri.seq ?_)))
 obtain ⟨t10,h10,h⟩:=bind_some h
 refine Tri.reg (l:=[0,1,2]) rfl ?_
 refine F.qn rfl (r_move rfl) ?_
 refine F.qcn rfl (q_callF (xs:=_) rfl ok245 rfl rfl (fun w hw=>cmp_isNaN_int.ok h10 w)) ?_
 refine F.qn rfl (r_assign rfl) (F.nil (Nrm.seq (Tri.seq (Tri.seq (Tri.reg (l:=[0]) rfl ?_)))))
 refine F.qn rfl (r_move rfl) (F.nil (Nrm.seq (Tri.cond (b:=t8) rfl (fun g_1=>?_) (fun g_1=>?_))))
 ·replace h:=if_tt g_1 h
  refine Tri.seq (Tri.seq (Tri.reg (l:=[0]) rfl ?_))
  refine F.qn rfl (r_move rfl) (F.nil (Nrm.seq (Tri.cond (b:=t10) rfl (fun g_2=>?_) (fun g_2=>?_))))
  ·replace h:=if_tt g_2 h
   refine Tri.seq (Tri.reg (l:=[0]) rfl ?_)
   refine F.qn rfl (r_assign rfl) (F.nil (Nrm.seq (Tri.ret ?_)))
   refine Rtn.then ?_
   refine Rtn.then ?_
   cases h
   exact Rtn.body (.tmp rfl .nil) (fun w hw=>⟨rfl,hw.ext⟩)
  ·replace h:=if_ff g_2 h
   refine Tri.skip (Nrm.seq (Tri.seq (Tri.reg (l:=[0]) rfl ?_)))
   refine F.qn rfl (r_assign rfl) (F.nil (Nrm.seq (Tri.ret ?_)))
   refine Rtn.then ?_
   cases h
   exact Rtn.body (.tmp rfl .nil) (fun w hw=>⟨rfl,hw.ext⟩)
 ·replace h:=if_ff g_1 h
  refine Tri.skip (Nrm.seq (Tri.seq (Tri.seq (Tri.reg (l:=[0]) rfl ?_))))
  refine F.qn rfl (r_move rfl) (F.nil (Nrm.seq (Tri.cond (b:=t10) rfl (fun g_3=>?_) (fun g_3=>?_))))
  ·replace h:=if_tt g_3 h
   refine Tri.seq (Tri.reg (l:=[0]) rfl ?_)
   refine F.qn rfl (r_assign rfl) (F.nil (Nrm.seq (Tri.ret ?_)))
   refine Rtn.then ?_
   cases h
   exact Rtn.body (.tmp rfl .nil) (fun w hw=>⟨rfl,hw.ext⟩)
  ·replace h:=if_ff g_3 h
   refine Tri.skip (Nrm.seq (Tri.seq (Tri.seq (Tri.reg (l:=[0,1,2]) rfl ?_))))
   refine F.qn rfl (r_move rfl) (F.qn rfl (r_move rfl) (F.qn rfl (r_lss rfl rfl) (F.nil (Nrm.seq (Tri.cond (b:=decide (a0 < a1)) rfl (fun g_4=>?_) (fun g_4=>?_))))))
   ·replace h:=if_tt g_4 h
    refine Tri.seq (Tri.reg (l:=[0]) rfl ?_)
    refine F.qn rfl (r_assign rfl) (F.nil (Nrm.seq (Tri.ret ?_)))
    refine Rtn.then ?_
    cases h
    exact Rtn.body (.tmp rfl .nil) (fun w hw=>⟨rfl,hw.ext⟩)
   ·replace h:=if_ff g_4 h
    refine Tri.skip (Nrm.seq (Tri.seq (Tri.seq (Tri.reg (l:=[0,1,2]) rfl ?_))))
    refine F.qn rfl (r_move rfl) (F.qn rfl (r_move rfl) (F.qn rfl (r_gtr rfl rfl) (F.nil (Nrm.seq (Tri.cond (b:=decide (a0 > a1)) rfl (fun g_5=>?_) (fun g_5=>?_))))))
    ·replace h:=if_tt g_5 h
     refine Tri.seq (Tri.reg (l:=[0]) rfl ?_)
     refine F.qn rfl (r_assign rfl) (F.nil (Nrm.seq (Tri.ret ?_)))
     refine Rtn.then ?_
     cases h
     exact Rtn.body (.tmp rfl .nil) (fun w hw=>⟨rfl,hw.ext⟩)
    ·replace h:=if_ff g_5 h
     refine Tri.skip (Nrm.seq (Tri.seq (Tri.reg (l:=[0]) rfl ?_)))
     refine F.qn rfl (r_assign rfl) (F.nil (Nrm.seq (Tri.ret ?_)))
     cases h
     exact Rtn.body (.tmp rfl .nil) (fun w hw=>⟨rfl,hw.ext⟩)


def impl_compareDoors.f (k : Nat) (a0_0 : Int) (a0_1 : Int) (a0_2 : Int) (a1_0 : Int) (a1_1 : Int) (a1_2 : Int) : Option (Int) := (cmp_Compare_int.f k a0_0 a1_0).bind fun t9 => (cmp_Compare_int.f k a0_1 a1_1).bind fun t14 => (cmp_Compare_int.f k a0_2 a1_2).bind fun t19 => (cmp_Or_int.f k ([t9, t14, t19] : List (Int))).bind fun t21 => some t21

theorem impl_compareDoors.ok {k : Nat}  {a0_0 : Int} {a0_1 : Int} {a0_2 : Int} {a1_0 : Int} {a1_1 : Int} {a1_2 : Int} {r0 : Int} (h : impl_compareDoors.f k a0_0 a0_1 a0_2 a1_0 a1_1 a1_2 = some r0) (w : World) :
  Calls Tryz.prog 184 ([.agg ([.int .i64 a0_0,.int .i64 a0_1,.int .i64 a0_2].toArray),.agg ([.int .i64 a1_0,.int .i64 a1_1,.int .i64 a1_2].toArray)] : List Value).toArray w (fun e w'=>e = .returned (.int .i64 r0)∧Ext w w'):=by
 unfold impl_compareDoors.f at h
 refine Calls.of_tri (N:=22) Tryz.func184 rfl rfl rfl (Sep.nil (M:=noM)) ?_
 refine Tri.seq (Tri.reg (l:=[0,1,2]) rfl ?_)
 refine F.mn rfl (m_boxG rfl rfl) ?_
 rintro _ _ ⟨b2_1,rfl,rfl⟩
 refine F.mn rfl (m_boxG rfl rfl) ?_
 rintro _ _ ⟨b3_1,rfl,rfl⟩
 refine F.qn rfl (r_assign rfl) (F.nil (Nrm.seq (Tri.seq ?_)))
 obtain ⟨t9,h9,h⟩:=bind_some h
 obtain ⟨t14,h14,h⟩:=bind_some h
 obtain ⟨t19,h19,h⟩:=bind_some h
 obtain ⟨t21,h21,h⟩:=bind_some h
 refine Tri.drawA mixedT Sep.up [(0,true),(1,true),(2,true),(3,true),(4,true),(5,true),(6,true),(7,true),(8,true),(9,true),(10,true),(11,true),(12,true),(13,true),(14,true),(15,false),(16,true),(17,true)] [] (by kernel_rfl) ?_
 refine S.qn rfl (r_indexAddrA Tryz.underlying168 ti3 rfl rfl (by decide) (by decide)) (S.qn rfl (r_load ta3 rfl (fun w hw=>cell_1 (box_cells (i:=1) rfl w hw) rfl)) (S.qn rfl (r_indexAddrA Tryz.underlying168 ti3 rfl rfl (by decide) (by decide)) (S.qn rfl (r_load ta3 rfl (fun w hw=>cell_1 (box_cells (i:=0) rfl w hw) rfl)) ?_)))
 refine S.qcn rfl (q_callF (xs:=_) rfl ok234 rfl rfl (fun w hw=>cmp_Compare_int.ok h9 w)) ?_
 refine S.qn rfl (r_indexAddrA Tryz.underlying168 ti3 rfl rfl (by decide) (by decide)) (S.qn rfl (r_load ta3 rfl (fun w hw=>cell_1 (box_cells (i:=1) rfl w hw) rfl)) (S.qn rfl (r_indexAddrA Tryz.underlying168 ti3 rfl rfl (by decide) (by decide)) (S.qn rfl (r_load ta3 rfl (fun w hw=>cell_1 (box_cells (i:=0) rfl w hw) rfl)) ?_)))
 refine S.qcn rfl (q_callF (xs:=_) rfl ok234 rfl rfl (fun w hw=>cmp_Compare_int.ok h14 w)) ?_
 refine S.qn rfl (r_indexAddrA Tryz.underlying168 ti3 rfl rfl (by decide) (by decide)) (S.qn rfl (r_load ta3 rfl (fun w hw=>cell_1 (box_cells (i:=1) rfl w hw) rfl)) (S.qn rfl (r_indexAddrA Tryz.underlying168 ti3 rfl rfl (by decide) (by decide)) (S.qn rfl (r_load ta3 rfl (fun w hw=>cell_1 (box_cells (i:=0) rfl w hw) rfl)) ?_)))
 refine S.qcn rfl (q_callF (xs:=_) rfl ok234 rfl rfl (fun w hw=>cmp_Compare_int.ok h19 w)) ?_
 refine S.m rfl rfl rfl (wanted_none rfl) (m_buildF (l:=([t9,t14,t19] : List (Int))) Tryz.underlying25 ti3 rfl rfl rfl rfl rfl) ?_
 rintro v20_2 _ ⟨S20_2,hl_v20_2,rfl⟩
 refine S.qcn rfl (q_callF (xs:=_) rfl ok233 rfl rfl (fun w hw=>cmp_Or_int.ok h21 w ((rd_sl (i:=0) rfl) w hw))) ?_
 refine S.qn rfl (r_assign rfl) (S.nil (F.nil (Nrm.seq (Tri.ret ?_))))
 cases h
 exact Rtn.body (.tmp rfl .nil) (fun w hw=>⟨rfl,hw.ext⟩)


def impl_IsMaze_1.f (k : Nat) (a0 : Int) : Option (Bool) := (impl_isSet.f k a0).bind fun t4 => some (!t4)

theorem impl_IsMaze_1.ok {k : Nat}  {a0 : Int} {r0 : Bool} (h : impl_IsMaze_1.f k a0 = some r0) (w : World) :
  Calls Tryz.prog 185 ([.int .i64 a0] : List Value).toArray w (fun e w'=>e = .returned (.bool r0)∧Ext w w'):=by
 unfold impl_IsMaze_1.f at h
 refine Calls.of_tri (N:=6) Tryz.func185 rfl rfl rfl (Sep.nil (M:=noM)) ?_
 refine Tri.seq (Tri.reg (l:=[0]) rfl ?_)
 refine F.qn rfl (r_assign rfl) (F.nil (Nrm.seq (Tri.seq ?_)))
 obtain ⟨t4,h4,h⟩:=bind_some h
 refine Tri.reg (l:=[0,1,2,3]) rfl ?_
 refine F.qn rfl (r_move rfl) ?_
 refine F.qcn rfl (q_callF (xs:=_) rfl ok177 rfl rfl (fun w hw=>impl_isSet.ok h4 w)) ?_
 refine F.qn rfl (r_not rfl) (F.qn rfl (r_assign rfl) (F.nil (Nrm.seq (Tri.ret ?_))))
 cases h
 exact Rtn.body (.tmp rfl .nil) (fun w hw=>⟨rfl,hw.ext⟩)


def impl_IsMaze.l0 (k : Nat) (a0_0 : Int) (a0_1 : List (Int × Int × Int)) : Nat → Int → Option ((Unit) ⊕ (Bool))
 | 0,_=>none
 | n + 1,x26=>(if (decide (x26 < (a0_1.length : Int))) = true then (rdl a0_1 x26).bind fun t29=>((if (decide (t29.1 < 0)) = true then some true else (if (decide (t29.1 ≥ t29.2.1)) = true then some true else (if (decide (t29.2.1 ≥ a0_0)) = true then some true else (impl_isSet.f k t29.2.2).bind fun t51=>(if (!t51) = true then some true else (if (decide (x26 > 0)) = true then (rdl a0_1 (w64 (x26 - 1))).bind fun t62=>(impl_compareDoors.f k t62.1 t62.2.1 t62.2.2 t29.1 t29.2.1 t29.2.2).bind fun t65=>some (decide (t65 ≥ 0)) else some false)))))).bind fun y68=>(if y68 = true then some (Sum.inr false) else impl_IsMaze.l0 k a0_0 a0_1 n (w64 (x26 + 1))) else some (Sum.inl ()))

def impl_IsMaze.f (k : Nat) (a0_0 : Int) (a0_1 : List (Int × Int × Int)) (a0_2 : List Int) : Option (Bool) := ((impl_within.f k a0_0 1 12).bind fun t7 => (if (!t7) = true then some true else (if (decide ((a0_1.length : Int) > 30)) = true then some true else some ((a0_2.length : Int) != a0_0)))).bind fun y22 => (if y22 = true then some false else (impl_IsMaze.l0 k a0_0 a0_1 k 0).bind fun s => Lr s some fun _ => (slices_ContainsFunc_int_int.f k a0_2 (fun z0 => impl_IsMaze_1.f k z0)).bind fun t72 => some (!t72))

theorem impl_IsMaze.ok {k : Nat}  {a0_0 : Int} {a0_1 : List (Int × Int × Int)} {a0_2 : List Int} {r0 : Bool} (h : impl_IsMaze.f k a0_0 a0_1 a0_2 = some r0) (w : World) {va0_1 : Value} {va0_2 : Value} (hr_a0_1 : Rd w va0_1 a0_1) (hr_a0_2 : Rd w va0_2 a0_2) :
  Calls Tryz.prog 102 ([.agg ([.int .i64 a0_0,va0_1,va0_2].toArray)] : List Value).toArray w (fun e w'=>e = .returned (.bool r0)∧Ext w w'):=by
 unfold impl_IsMaze.f at h
 have hl_va0_1:=hr_a0_1.len
 have hl_va0_2:=hr_a0_2.len
 refine Calls.of_tri (N:=74) Tryz.func102 rfl rfl rfl (Sep.nil (M:=noM)) ?_
 refine Tri.seq (Tri.reg (l:=[0,1]) rfl ?_)
 refine F.mn rfl (m_boxG rfl rfl) ?_
 rintro _ _ ⟨b1_1,rfl,rfl⟩
 refine F.qn rfl (r_assign rfl) (F.nil (Nrm.seq (Tri.seq (Tri.seq ?_))))
 obtain ⟨y22,hE_1,h⟩:=bind_some h
 refine Tri.cut (fun e' C'=>e' = [(1,.pointer (some ⟨b1_1,0,none⟩)),(22,.bool y22)]∧C' = Sep w noM [R.box b1_1 27 [.int .i64 a0_0,va0_1,va0_2]]) ?_ (fun hj_1=>?_)
 ·rintro _ _ ⟨rfl,rfl⟩
  refine Nrm.seq (Tri.cond (b:=y22) rfl (fun g_1=>?_) (fun g_1=>?_))
  ·replace h:=if_tt g_1 h
   refine Tri.seq (Tri.reg (l:=[0]) rfl ?_)
   refine F.qn rfl (r_assign rfl) (F.nil (Nrm.seq (Tri.ret ?_)))
   refine Rtn.then ?_
   cases h
   exact Rtn.body (.tmp rfl .nil) (fun w hw=>⟨rfl,hw.ext⟩)
  ·replace h:=if_ff g_1 h
   refine Tri.skip (Nrm.seq (Tri.seq (Tri.seq (Tri.reg (l:=[0,1,2,3]) rfl ?_))))
   refine F.qn rfl (r_fieldAddr tf27_1 rfl) (F.qn rfl (r_load ta24 rfl (fun w hw=>cell_1 (box_cells (i:=0) rfl w hw) rfl)) (F.qn rfl (r_len Tryz.underlying24 rfl hl_va0_1) (F.qn rfl (r_move rfl) (F.nil (Nrm.seq ?_)))))
   obtain ⟨s0,hE_2,h⟩:=bind_some h
   refine Tri.block ?_
   refine Tri.only [1,24,25,26] rfl ?_
   refine Tri.pick [0] rfl rfl ?_
   refine Tri.rounds (fun n e' C'=>∃ (x26' : Int),impl_IsMaze.l0 k a0_0 a0_1 n x26' = some s0∧e' = [(1,.pointer (some ⟨b1_1,0,none⟩)),(24,va0_1),(25,.int .i64 (a0_1.length : Int)),(26,.int .i64 x26')]∧C' = Sep w noM [R.box b1_1 27 [.int .i64 a0_0,va0_1,va0_2]]) k ?_ ?_ ?_
   ·exact ⟨0,hE_2,rfl,rfl⟩
   ·rintro _ _ ⟨_,hE_2,_⟩
    rw [impl_IsMaze.l0.eq_1] at hE_2; cases hE_2
   ·rintro n_1 _ _ ⟨x26,hE_2,rfl,rfl⟩ ih_1
    rw [impl_IsMaze.l0.eq_2] at hE_2
    refine Tri.seq (Tri.reg (l:=[0]) rfl ?_)
    refine F.qn rfl (r_lss rfl rfl) (F.nil (Nrm.seq (Tri.seq (Tri.cond (b:=decide (x26 < (a0_1.length : Int))) rfl (fun g_2=>?_) (fun g_2=>?_)))))
    ·replace hE_2:=if_tt g_2 hE_2
     refine Tri.skip (Nrm.seq (Tri.seq (Tri.block ?_)))
     refine Tri.seq ?_
     obtain ⟨t29,h29,hE_2⟩:=bind_some hE_2
     refine Tri.reg (l:=[0,1,2,3,4,5]) rfl ?_
     refine F.qn rfl (r_move rfl) (F.qn rfl (r_indexAddrS Tryz.underlying24 ti168 rfl hl_va0_1 rfl (rdl_some h29).1 (rdl_some h29).2.1) (F.qn rfl (r_loadA ta168 ti168 rfl rfl (fun w hw=>(Rd.flat ((fun _ hw=>hr_a0_1.sep hw) w hw) (rdl_some h29).2.2))) ?_))
     refine F.mn rfl (m_alloc ti168) ?_
     rintro _ _ ⟨b4_1,rfl,rfl⟩
     refine F.qn rfl (r_assign rfl) ?_
     refine F.ef0 rfl rfl (wanted_none rfl) (d_storeG0 (i:=0) (cs2:=[.int .i64 t29.1,.int .i64 t29.2.1,.int .i64 t29.2.2]) ti168 rfl rfl rfl rfl rfl (Nat.le_of_ble_eq_true rfl) (lf_cons rfl (lf_cons rfl (lf_cons rfl lf_nil)))) ?_
     rintro _ _ ⟨rfl,rfl⟩
     refine F.nil (Nrm.seq (Tri.seq ?_))
     obtain ⟨y68,hE_3,hE_2⟩:=bind_some hE_2
     refine Tri.cut (fun e' C'=>e' = [(1,.pointer (some ⟨b1_1,0,none⟩)),(24,va0_1),(25,.int .i64 (a0_1.length : Int)),(26,.int .i64 x26),(68,.bool y68)]∧C' = Sep w noM [R.box b1_1 27 [.int .i64 a0_0,va0_1,va0_2]]) ?_ (fun hj_2=>?_)
     ·rintro _ _ ⟨rfl,rfl⟩
      refine Nrm.seq (Tri.cond (b:=y68) rfl (fun g_3=>?_) (fun g_3=>?_))
      ·replace hE_2:=if_tt g_3 hE_2
       refine Tri.seq (Tri.reg (l:=[0]) rfl ?_)
       refine F.qn rfl (r_assign rfl) (F.nil (Nrm.seq (Tri.ret ?_)))
       refine Rtn.block ?_
       refine Rtn.then ?_
       refine Rtn.then ?_
       refine Rtn.block ?_
       refine Rtn.then ?_
       cases hE_2
       replace h:=Lr_inr h
       cases h
       exact Rtn.body (.tmp rfl .nil) (fun w hw=>⟨rfl,hw.ext⟩)
      ·replace hE_2:=if_ff g_3 hE_2
       refine Tri.skip (Nrm.block ?_)
       refine Nrm.seq (Tri.reg (l:=[0,1]) rfl ?_)
       refine F.qn rfl (r_add rfl rfl) (F.qn rfl (r_move rfl) (F.nil (Nrm.round ?_)))
       refine Rnd.only [1,24,25,26] rfl ?_
       refine Rnd.pick [0] rfl rfl ?_
       exact ih_1 _ _ ⟨w64 (x26 + 1),hE_2,rfl,rfl⟩
     ·rcases Bool.eq_false_or_eq_true (decide (t29.1 < 0)) with g34 | g34
      ·replace hE_3:=if_tt g34 hE_3
       refine Tri.drawA mixedT Sep.up [(0,true),(1,true),(2,true),(3,true),(4,true),(5,true),(6,true),(7,true),(8,true),(9,true),(10,true),(11,true),(12,true),(13,true),(14,true),(15,true),(16,true),(17,true),(18,true),(19,true),(20,true),(21,true),(22,true),(23,true),(24,true),(25,true),(26,true),(27,true),(28,true),(29,true),(30,true),(31,true),(32,true),(33,true),(34,true),(35,true),(36,true),(37,true)] [] (by kernel_rfl) ?_
       refine S.qn rfl (r_indexAddrA Tryz.underlying168 ti3 rfl rfl (by decide) (by decide)) (S.qn rfl (r_load ta3 rfl (fun w hw=>cell_1 (box_cells (i:=0) rfl w hw) rfl)) (S.qn rfl (r_lss rfl rfl) (S.qn rfl (r_move rfl) ?_)))
       iterate 5 refine S.skf rfl g34 ?_
       refine S.qn rfl (r_pick rfl rfl g34) (S.qn rfl (r_move rfl) ?_)
       iterate 5 refine S.skf rfl rfl ?_
       refine S.qn rfl (r_pick rfl rfl rfl) (S.qn rfl (r_move rfl) ?_)
       iterate 4 refine S.skf rfl rfl ?_
       refine S.qn rfl (r_pick rfl rfl rfl) (S.qn rfl (r_move rfl) ?_)
       iterate 3 refine S.skf rfl rfl ?_
       iterate 9 refine S.sk rfl rfl rfl (wanted_undef rfl rfl rfl) ?_
       refine S.skf rfl rfl (S.qn rfl (r_pick rfl rfl rfl) (S.nil (F.nil ?_)))
       cases hE_3
       refine Nrm.only [1,24,25,26,68] rfl ?_
       refine Nrm.pick [1] rfl rfl ?_
       exact hj_2 _ _ ⟨rfl,rfl⟩
      ·replace hE_3:=if_ff g34 hE_3
       rcases Bool.eq_false_or_eq_true (decide (t29.1 ≥ t29.2.1)) with g41 | g41
       ·replace hE_3:=if_tt g41 hE_3
        refine Tri.drawA mixedT Sep.up [(0,true),(1,true),(2,true),(3,true),(4,true),(5,true),(6,true),(7,true),(8,true),(9,true),(10,true),(11,true),(12,true),(13,true),(14,true),(15,true),(16,true),(17,true),(18,true),(19,true),(20,true),(21,true),(22,true),(23,true),(24,true),(25,true),(26,true),(27,true),(28,true),(29,true),(30,true),(31,true),(32,true),(33,true),(34,true),(35,true),(36,true),(37,true)] [] (by kernel_rfl) ?_
        refine S.qn rfl (r_indexAddrA Tryz.underlying168 ti3 rfl rfl (by decide) (by decide)) (S.qn rfl (r_load ta3 rfl (fun w hw=>cell_1 (box_cells (i:=0) rfl w hw) rfl)) (S.qn rfl (r_lss rfl rfl) (S.qn rfl (r_move rfl) (S.qg rfl g34 (r_indexAddrA Tryz.underlying168 ti3 rfl rfl (by decide) (by decide)) ?_))))
        refine S.qg rfl g34 (r_load ta3 rfl (fun w hw=>cell_1 (box_cells (i:=0) rfl w hw) rfl)) (S.qg rfl g34 (r_indexAddrA Tryz.underlying168 ti3 rfl rfl (by decide) (by decide)) (S.qg rfl g34 (r_load ta3 rfl (fun w hw=>cell_1 (box_cells (i:=0) rfl w hw) rfl)) (S.qg rfl g34 (r_geq rfl rfl) (S.qn rfl (r_pickf rfl rfl g34) (S.qn rfl (r_move rfl) ?_)))))
        iterate 5 refine S.skf rfl g41 ?_
        refine S.qn rfl (r_pick rfl rfl g41) (S.qn rfl (r_move rfl) ?_)
        iterate 4 refine S.skf rfl rfl ?_
        refine S.qn rfl (r_pick rfl rfl rfl) (S.qn rfl (r_move rfl) ?_)
        iterate 3 refine S.skf rfl rfl ?_
        iterate 9 refine S.sk rfl rfl rfl (wanted_undef rfl rfl rfl) ?_
        refine S.skf rfl rfl (S.qn rfl (r_pick rfl rfl rfl) (S.nil (F.nil ?_)))
        cases hE_3
        refine Nrm.only [1,24,25,26,68] rfl ?_
        refine Nrm.pick [1] rfl rfl ?_
        exact hj_2 _ _ ⟨rfl,rfl⟩
       ·replace hE_3:=if_ff g41 hE_3
        rcases Bool.eq_false_or_eq_true (decide (t29.2.1 ≥ a0_0)) with g48 | g48
        ·replace hE_3:=if_tt g48 hE_3
         refine Tri.drawA mixedT Sep.up [(0,true),(1,true),(2,true),(3,true),(4,true),(5,true),(6,true),(7,true),(8,true),(9,true),(10,true),(11,true),(12,true),(13,true),(14,true),(15,true),(16,true),(17,true),(18,true),(19,true),(20,true),(21,true),(22,true),(23,true),(24,true),(25,true),(26,true),(27,true),(28,true),(29,true),(30,true),(31,true),(32,true),(33,true),(34,true),(35,true),(36,true),(37,true)] [] (by kernel_rfl) ?_
         refine S.qn rfl (r_indexAddrA Tryz.underlying168 ti3 rfl rfl (by decide) (by decide)) (S.qn rfl (r_load ta3 rfl (fun w hw=>cell_1 (box_cells (i:=0) rfl w hw) rfl)) (S.qn rfl (r_lss rfl rfl) (S.qn rfl (r_move rfl) (S.qg rfl g34 (r_indexAddrA Tryz.underlying168 ti3 rfl rfl (by decide) (by decide)) (S.qg rfl g34 (r_load ta3 rfl (fun w hw=>cell_1 (box_cells (i:=0) rfl w hw) rfl)) ?_)))))
         refine S.qg rfl g34 (r_indexAddrA Tryz.underlying168 ti3 rfl rfl (by decide) (by decide)) (S.qg rfl g34 (r_load ta3 rfl (fun w hw=>cell_1 (box_cells (i:=0) rfl w hw) rfl)) (S.qg rfl g34 (r_geq rfl rfl) (S.qn rfl (r_pickf rfl rfl g34) (S.qn rfl (r_move rfl) (S.qg rfl g41 (r_indexAddrA Tryz.underlying168 ti3 rfl rfl (by decide) (by decide)) ?_)))))
         refine S.qg rfl g41 (r_load ta3 rfl (fun w hw=>cell_1 (box_cells (i:=0) rfl w hw) rfl)) (S.qg rfl g41 (r_fieldAddr tf27_0 rfl) (S.qg rfl g41 (r_load ta3 rfl (fun w hw=>cell_1 (box_cells (i:=1) rfl w hw) rfl)) (S.qg rfl g41 (r_geq rfl rfl) (S.qn rfl (r_pickf rfl rfl g41) (S.qn rfl (r_move rfl) ?_)))))
         iterate 4 refine S.skf rfl g48 ?_
         refine S.qn rfl (r_pick rfl rfl g48) (S.qn rfl (r_move rfl) ?_)
         iterate 3 refine S.skf rfl rfl ?_
         iterate 9 refine S.sk rfl rfl rfl (wanted_undef rfl rfl rfl) ?_
         refine S.skf rfl rfl (S.qn rfl (r_pick rfl rfl rfl) (S.nil (F.nil ?_)))
         cases hE_3
         refine Nrm.only [1,24,25,26,68] rfl ?_
         refine Nrm.pick [1] rfl rfl ?_
         exact hj_2 _ _ ⟨rfl,rfl⟩
        ·replace hE_3:=if_ff g48 hE_3
         obtain ⟨t51,h51,hE_3⟩:=bind_some hE_3
         rcases Bool.eq_false_or_eq_true (!t51) with g54 | g54
         ·replace hE_3:=if_tt g54 hE_3
          refine Tri.drawA mixedT Sep.up [(0,true),(1,true),(2,true),(3,true),(4,true),(5,true),(6,true),(7,true),(8,true),(9,true),(10,true),(11,true),(12,true),(13,true),(14,true),(15,true),(16,true),(17,true),(18,true),(19,true),(20,true),(21,true),(22,true),(23,true),(24,true),(25,true),(26,true),(27,true),(28,true),(29,true),(30,true),(31,true),(32,true),(33,true),(34,true),(35,true),(36,true),(37,true)] [] (by kernel_rfl) ?_
          refine S.qn rfl (r_indexAddrA Tryz.underlying168 ti3 rfl rfl (by decide) (by decide)) (S.qn rfl (r_load ta3 rfl (fun w hw=>cell_1 (box_cells (i:=0) rfl w hw) rfl)) ?_)
          refine S.qn rfl (r_lss rfl rfl) (S.qn rfl (r_move rfl) (S.qg rfl g34 (r_indexAddrA Tryz.underlying168 ti3 rfl rfl (by decide) (by decide)) (S.qg rfl g34 (r_load ta3 rfl (fun w hw=>cell_1 (box_cells (i:=0) rfl w hw) rfl)) (S.qg rfl g34 (r_indexAddrA Tryz.underlying168 ti3 rfl rfl (by decide) (by decide)) (S.qg rfl g34 (r_load ta3 rfl (fun w hw=>cell_1 (box_cells (i:=0) rfl w hw) rfl)) ?_)))))
          refine S.qg rfl g34 (r_geq rfl rfl) (S.qn rfl (r_pickf rfl rfl g34) (S.qn rfl (r_move rfl) (S.qg rfl g41 (r_indexAddrA Tryz.underlying168 ti3 rfl rfl (by decide) (by decide)) (S.qg rfl g41 (r_load ta3 rfl (fun w hw=>cell_1 (box_cells (i:=0) rfl w hw) rfl)) (S.qg rfl g41 (r_fieldAddr tf27_0 rfl) ?_)))))
          refine S.qg rfl g41 (r_load ta3 rfl (fun w hw=>cell_1 (box_cells (i:=1) rfl w hw) rfl)) (S.qg rfl g41 (r_geq rfl rfl) (S.qn rfl (r_pickf rfl rfl g41) (S.qn rfl (r_move rfl) (S.qg rfl g48 (r_indexAddrA Tryz.underlying168 ti3 rfl rfl (by decide) (by decide)) (S.qg rfl g48 (r_load ta3 rfl (fun w hw=>cell_1 (box_cells (i:=0) rfl w hw) rfl)) ?_)))))
          refine S.qc rfl rfl rfl (wg rfl rfl rfl g48) (q_callF (xs:=_) rfl ok177 rfl rfl (fun w hw=>impl_isSet.ok h51 w)) ?_
          refine S.qg rfl g48 (r_not rfl) (S.qn rfl (r_pickf rfl rfl g48) (S.qn rfl (r_move rfl) ?_))
          iterate 3 refine S.skf rfl g54 ?_
          iterate 9 refine S.sk rfl rfl rfl (wanted_undef rfl rfl rfl) ?_
          refine S.skf rfl g54 (S.qn rfl (r_pick rfl rfl g54) (S.nil (F.nil ?_)))
          cases hE_3
          refine Nrm.only [1,24,25,26,68] rfl ?_
          refine Nrm.pick [1] rfl rfl ?_
          exact hj_2 _ _ ⟨rfl,rfl⟩
         ·replace hE_3:=if_ff g54 hE_3
          rcases Bool.eq_false_or_eq_true (decide (x26 > 0)) with g57 | g57
          ·replace hE_3:=if_tt g57 hE_3
           obtain ⟨t62,h62,hE_3⟩:=bind_some hE_3
           obtain ⟨t65,h65,hE_3⟩:=bind_some hE_3
           refine Tri.drawA mixedT Sep.up [(0,true),(1,true),(2,true),(3,true),(4,true),(5,true),(6,true),(7,true),(8,true),(9,true),(10,true),(11,true),(12,true),(13,true),(14,true),(15,true),(16,true),(17,true),(18,true),(19,true),(20,true),(21,true),(22,true),(23,true),(24,true),(25,true),(26,true),(27,true),(28,true),(29,true),(30,true),(31,true),(32,true),(33,true),(34,true),(35,true),(36,true),(37,true)] [] (by kernel_rfl) ?_
           refine S.qn rfl (r_indexAddrA Tryz.underlying168 ti3 rfl rfl (by decide) (by decide)) (S.qn rfl (r_load ta3 rfl (fun w hw=>cell_1 (box_cells (i:=0) rfl w hw) rfl)) ?_)
           refine S.qn rfl (r_lss rfl rfl) (S.qn rfl (r_move rfl) (S.qg rfl g34 (r_indexAddrA Tryz.underlying168 ti3 rfl rfl (by decide) (by decide)) (S.qg rfl g34 (r_load ta3 rfl (fun w hw=>cell_1 (box_cells (i:=0) rfl w hw) rfl)) (S.qg rfl g34 (r_indexAddrA Tryz.underlying168 ti3 rfl rfl (by decide) (by decide)) (S.qg rfl g34 (r_load ta3 rfl (fun w hw=>cell_1 (box_cells (i:=0) rfl w hw) rfl)) ?_)))))
           refine S.qg rfl g34 (r_geq rfl rfl) (S.qn rfl (r_pickf rfl rfl g34) (S.qn rfl (r_move rfl) (S.qg rfl g41 (r_indexAddrA Tryz.underlying168 ti3 rfl rfl (by decide) (by decide)) (S.qg rfl g41 (r_load ta3 rfl (fun w hw=>cell_1 (box_cells (i:=0) rfl w hw) rfl)) (S.qg rfl g41 (r_fieldAddr tf27_0 rfl) ?_)))))
           refine S.qg rfl g41 (r_load ta3 rfl (fun w hw=>cell_1 (box_cells (i:=1) rfl w hw) rfl)) (S.qg rfl g41 (r_geq rfl rfl) (S.qn rfl (r_pickf rfl rfl g41) (S.qn rfl (r_move rfl) (S.qg rfl g48 (r_indexAddrA Tryz.underlying168 ti3 rfl rfl (by decide) (by decide)) (S.qg rfl g48 (r_load ta3 rfl (fun w hw=>cell_1 (box_cells (i:=0) rfl w hw) rfl)) ?_)))))
           refine S.qc rfl rfl rfl (wg rfl rfl rfl g48) (q_callF (xs:=_) rfl ok177 rfl rfl (fun w hw=>impl_isSet.ok h51 w)) ?_
           refine S.qg rfl g48 (r_not rfl) ?_
           refine S.qn rfl (r_pickf rfl rfl g48) (S.qn rfl (r_move rfl) (S.qg rfl g54 (r_move rfl) (S.qg rfl g54 (r_gtr rfl rfl) (S.qg rfl g54 (r_move rfl) (S.qg rfl g57 (r_fieldAddr tf27_1 rfl) ?_)))))
           refine S.qg rfl g57 (r_load ta24 rfl (fun w hw=>cell_1 (box_cells (i:=1) rfl w hw) rfl)) (S.qg rfl g57 (r_move rfl) (S.qg rfl g57 (r_sub rfl rfl) (S.qg rfl g57 (r_indexAddrS Tryz.underlying24 ti168 rfl hl_va0_1 rfl (rdl_some h62).1 (rdl_some h62).2.1) (S.qg rfl g57 (r_loadA ta168 ti168 rfl rfl (fun w hw=>(Rd.flat ((fun _ hw=>hr_a0_1.sep hw) w hw) (rdl_some h62).2.2))) (S.qg rfl g57 (r_loadA ta168 ti168 rfl rfl (fun w hw=>(box_cells (i:=0) rfl w hw))) ?_)))))
           refine S.qc rfl rfl rfl (wg rfl rfl rfl g57) (q_callF (xs:=_) rfl ok184 rfl rfl (fun w hw=>impl_compareDoors.ok h65 w)) ?_
           refine S.qg rfl g57 (r_geq rfl rfl) (S.qg rfl g54 (r_pick rfl rfl g57) (S.qn rfl (r_pickf rfl rfl g54) (S.nil (F.nil ?_))))
           cases hE_3
           refine Nrm.only [1,24,25,26,68] rfl ?_
           refine Nrm.pick [1] rfl rfl ?_
           exact hj_2 _ _ ⟨rfl,rfl⟩
          ·replace hE_3:=if_ff g57 hE_3
           refine Tri.drawA mixedT Sep.up [(0,true),(1,true),(2,true),(3,true),(4,true),(5,true),(6,true),(7,true),(8,true),(9,true),(10,true),(11,true),(12,true),(13,true),(14,true),(15,true),(16,true),(17,true),(18,true),(19,true),(20,true),(21,true),(22,true),(23,true),(24,true),(25,true),(26,true),(27,true),(28,true),(29,true),(30,true),(31,true),(32,true),(33,true),(34,true),(35,true),(36,true),(37,true)] [] (by kernel_rfl) ?_
           refine S.qn rfl (r_indexAddrA Tryz.underlying168 ti3 rfl rfl (by decide) (by decide)) (S.qn rfl (r_load ta3 rfl (fun w hw=>cell_1 (box_cells (i:=0) rfl w hw) rfl)) ?_)
           refine S.qn rfl (r_lss rfl rfl) (S.qn rfl (r_move rfl) (S.qg rfl g34 (r_indexAddrA Tryz.underlying168 ti3 rfl rfl (by decide) (by decide)) (S.qg rfl g34 (r_load ta3 rfl (fun w hw=>cell_1 (box_cells (i:=0) rfl w hw) rfl)) (S.qg rfl g34 (r_indexAddrA Tryz.underlying168 ti3 rfl rfl (by decide) (by decide)) (S.qg rfl g34 (r_load ta3 rfl (fun w hw=>cell_1 (box_cells (i:=0) rfl w hw) rfl)) ?_)))))
           refine S.qg rfl g34 (r_geq rfl rfl) (S.qn rfl (r_pickf rfl rfl g34) (S.qn rfl (r_move rfl) (S.qg rfl g41 (r_indexAddrA Tryz.underlying168 ti3 rfl rfl (by decide) (by decide)) (S.qg rfl g41 (r_load ta3 rfl (fun w hw=>cell_1 (box_cells (i:=0) rfl w hw) rfl)) (S.qg rfl g41 (r_fieldAddr tf27_0 rfl) ?_)))))
           refine S.qg rfl g41 (r_load ta3 rfl (fun w hw=>cell_1 (box_cells (i:=1) rfl w hw) rfl)) (S.qg rfl g41 (r_geq rfl rfl) (S.qn rfl (r_pickf rfl rfl g41) (S.qn rfl (r_move rfl) (S.qg rfl g48 (r_indexAddrA Tryz.underlying168 ti3 rfl rfl (by decide) (by decide)) (S.qg rfl g48 (r_load ta3 rfl (fun w hw=>cell_1 (box_cells (i:=0) rfl w hw) rfl)) ?_)))))
           refine S.qc rfl rfl rfl (wg rfl rfl rfl g48) (q_callF (xs:=_) rfl ok177 rfl rfl (fun w hw=>impl_isSet.ok h51 w)) ?_
           refine S.qg rfl g48 (r_not rfl) (S.qn rfl (r_pickf rfl rfl g48) (S.qn rfl (r_move rfl) (S.qg rfl g54 (r_move rfl) (S.qg rfl g54 (r_gtr rfl rfl) (S.qg rfl g54 (r_move rfl) ?_)))))
           iterate 9 refine S.skf rfl g57 ?_
           refine S.qg rfl g54 (r_pickf rfl rfl g57) (S.qn rfl (r_pickf rfl rfl g54) (S.nil (F.nil ?_)))
           cases hE_3
           refine Nrm.only [1,24,25,26,68] rfl ?_
           refine Nrm.pick [1] rfl rfl ?_
           exact hj_2 _ _ ⟨rfl,rfl⟩
    ·replace hE_2:=if_ff g_2 hE_2
     refine Tri.exit ?_
     refine Exi.then ?_
     refine Exi.then ?_
     refine Exi.same ?_
     cases hE_2
     replace h:=Lr_inl h
     refine Nrm.seq (Tri.seq ?_)
     obtain ⟨t72,h72,h⟩:=bind_some h
     refine Tri.reg (l:=[0,1,2,3,4]) rfl ?_
     refine F.qn rfl (r_fieldAddr tf27_2 rfl) (F.qn rfl (r_load ta25 rfl (fun w hw=>cell_1 (box_cells (i:=0) rfl w hw) rfl)) ?_)
     refine F.qcn rfl (q_callF (xs:=_) rfl ok179 rfl rfl (fun w hw=>slices_ContainsFunc_int_int.ok h72 w ((fun _ hw=>hr_a0_2.sep hw) w hw) ok185 (fun w2 he2 z0 y2 hy2=>impl_IsMaze_1.ok hy2 w2))) ?_
     refine F.qn rfl (r_not rfl) (F.qn rfl (r_assign rfl) (F.nil (Nrm.seq (Tri.ret ?_))))
     cases h
     exact Rtn.body (.tmp rfl .nil) (fun w hw=>⟨rfl,hw.ext⟩)
 ·obtain ⟨t7,h7,hE_1⟩:=bind_some hE_1
  rcases Bool.eq_false_or_eq_true (!t7) with g9 | g9
  ·replace hE_1:=if_tt g9 hE_1
   refine Tri.reg (l:=List.range 18) rfl ?_
   refine F.qn rfl (r_fieldAddr tf27_0 rfl) (F.qn rfl (r_load ta3 rfl (fun w hw=>cell_1 (box_cells (i:=0) rfl w hw) rfl)) ?_)
   refine F.qcn rfl (q_callF (xs:=_) rfl ok103 rfl rfl (fun w hw=>impl_within.ok h7 w)) ?_
   refine F.qn rfl (r_not rfl) (F.qn rfl (r_move rfl) ?_)
   iterate 4 refine F.skf rfl g9 ?_
   refine F.qn rfl (r_pick rfl rfl g9) (F.qn rfl (r_move rfl) ?_)
   iterate 6 refine F.skf rfl rfl ?_
   refine F.qn rfl (r_pick rfl rfl rfl) (F.nil ?_)
   cases hE_1
   refine Nrm.only [1,22] rfl ?_
   refine Nrm.pick [0] rfl rfl ?_
   exact hj_1 _ _ ⟨rfl,rfl⟩
  ·replace hE_1:=if_ff g9 hE_1
   rcases Bool.eq_false_or_eq_true (decide ((a0_1.length : Int) > 30)) with g15 | g15
   ·replace hE_1:=if_tt g15 hE_1
    refine Tri.reg (l:=List.range 18) rfl ?_
    refine F.qn rfl (r_fieldAddr tf27_0 rfl) (F.qn rfl (r_load ta3 rfl (fun w hw=>cell_1 (box_cells (i:=0) rfl w hw) rfl)) ?_)
    refine F.qcn rfl (q_callF (xs:=_) rfl ok103 rfl rfl (fun w hw=>impl_within.ok h7 w)) ?_
    refine F.qn rfl (r_not rfl) (F.qn rfl (r_move rfl) ?_)
    refine F.qg rfl g9 (r_fieldAddr tf27_1 rfl) (F.qg rfl g9 (r_load ta24 rfl (fun w hw=>cell_1 (box_cells (i:=0) rfl w hw) rfl)) (F.qg rfl g9 (r_len Tryz.underlying24 rfl hl_va0_1) (F.qg rfl g9 (r_gtr rfl rfl) (F.qn rfl (r_pickf rfl rfl g9) (F.qn rfl (r_move rfl) ?_)))))
    iterate 6 refine F.skf rfl g15 ?_
    refine F.qn rfl (r_pick rfl rfl g15) (F.nil ?_)
    cases hE_1
    refine Nrm.only [1,22] rfl ?_
    refine Nrm.pick [0] rfl rfl ?_
    exact hj_1 _ _ ⟨rfl,rfl⟩
   ·replace hE_1:=if_ff g15 hE_1
    refine Tri.reg (l:=List.range 18) rfl ?_
    refine F.qn rfl (r_fieldAddr tf27_0 rfl) (F.qn rfl (r_load ta3 rfl (fun w hw=>cell_1 (box_cells (i:=0) rfl w hw) rfl)) ?_)
    refine F.qcn rfl (q_callF (xs:=_) rfl ok103 rfl rfl (fun w hw=>impl_within.ok h7 w)) ?_
    refine F.qn rfl (r_not rfl) (F.qn rfl (r_move rfl) (F.qg rfl g9 (r_fieldAddr tf27_1 rfl) ?_))
    refine F.qg rfl g9 (r_load ta24 rfl (fun w hw=>cell_1 (box_cells (i:=0) rfl w hw) rfl)) (F.qg rfl g9 (r_len Tryz.underlying24 rfl hl_va0_1) (F.qg rfl g9 (r_gtr rfl rfl) (F.qn rfl (r_pickf rfl rfl g9) (F.qn rfl (r_move rfl) (F.qg rfl g15 (r_fieldAddr tf27_2 rfl) ?_)))))
    refine F.qg rfl g15 (r_load ta25 rfl (fun w hw=>cell_1 (box_cells (i:=0) rfl w hw) rfl)) (F.qg rfl g15 (r_len Tryz.underlying25 rfl hl_va0_2) (F.qg rfl g15 (r_fieldAddr tf27_0 rfl) (F.qg rfl g15 (r_load ta3 rfl (fun w hw=>cell_1 (box_cells (i:=0) rfl w hw) rfl)) (F.qg rfl g15 (r_neq rfl rfl) (F.qn rfl (r_pickf rfl rfl g15) (F.nil ?_))))))
    cases hE_1
    refine Nrm.only [1,22] rfl ?_
    refine Nrm.pick [0] rfl rfl ?_
    exact hj_1 _ _ ⟨rfl,rfl⟩


def impl_told.f (k : Nat) (a0 : Int) : Option (Int × Bool) := some (imax a0 0, decide (a0 ≥ 0))

theorem impl_told.ok {k : Nat}  {a0 : Int} {r0 : Int} {r1 : Bool} (h : impl_told.f k a0 = some (r0, r1)) (w : World) :
  Calls Tryz.prog 133 ([.int .i64 a0] : List Value).toArray w (fun e w'=>e = .returned (.tuple #[.int .i64 r0,.bool r1])∧Ext w w'):=by
 unfold impl_told.f at h
 refine Calls.of_tri (N:=8) Tryz.func133 rfl rfl rfl (Sep.nil (M:=noM)) ?_
 refine Tri.seq (Tri.reg (l:=[0,1]) rfl ?_)
 refine F.qn rfl (r_assign rfl) (F.qn rfl (r_assign rfl) (F.nil (Nrm.seq (Tri.seq (Tri.reg (l:=[0,1,2,3,4,5]) rfl ?_)))))
 refine F.qn rfl (r_move rfl) (F.qn rfl (r_max rfl rfl) (F.qn rfl (r_move rfl) (F.qn rfl (r_geq rfl rfl) (F.qn rfl (r_assign rfl) (F.qn rfl (r_assign rfl) (F.nil (Nrm.seq (Tri.ret ?_))))))))
 cases h
 exact Rtn.body (.tmp rfl (.tmp rfl .nil)) (fun w hw=>⟨rfl,hw.ext⟩)


def impl_members.l0 (k : Nat) (a0 : Int) : Nat → (List (Int)) → Int → Option ((List (Int)))
 | 0,_,_=>none
 | n + 1,x3,x4=>if ¬ x4 < 0 then (if (decide ((shr a0 x4) > 0)) = true then if ¬ x4 < 0 then ((if ((band (shr a0 x4) 1) == 1) = true then if (x3 ++ ([x4] : List (Int))).length < 1099511627776 then some (x3 ++ ([x4] : List (Int))) else none else some x3)).bind fun y3=>impl_members.l0 k a0 n y3 (w64 (x4 + 1)) else none else some x3) else none

def impl_members.f (k : Nat) (a0 : Int) : Option ((List Int)) := (impl_members.l0 k a0 k ([] : List (Int)) 0).bind fun x3 => some x3

theorem impl_members.ok {k : Nat}  {a0 : Int} {r0 : List Int} (h : impl_members.f k a0 = some r0) (w : World) :
  Calls Tryz.prog 119 ([.int .i64 a0] : List Value).toArray w (Post (fun u ns=>∃ (Sr0 : Nat → Prop),SlLen u r0.length∧ns = [R.sl Sr0 u r0]) w):=by
 unfold impl_members.f at h
 refine Calls.of_tri (N:=22) Tryz.func119 rfl rfl rfl (Sep.nil (M:=noM)) ?_
 refine Tri.seq (Tri.reg (l:=[0]) rfl ?_)
 refine F.qn rfl (r_assign rfl) (F.nil (Nrm.seq (Tri.seq (Tri.reg (l:=[0,1]) rfl ?_))))
 refine F.mn rfl (m_build0 (α:=Int) Tryz.underlying25 ti3) ?_
 rintro v5_1 _ ⟨S5_1,hl_v5_1,rfl⟩
 refine F.qn rfl (r_assign rfl) (F.nil (Nrm.seq (Tri.seq (Tri.seq (Tri.reg (l:=[0]) rfl ?_)))))
 refine F.qn rfl (r_assign rfl) (F.nil (Nrm.seq ?_))
 obtain ⟨x3,hE_1,h⟩:=bind_some h
 refine Tri.block ?_
 refine Tri.only [0,3,4] rfl ?_
 refine Tri.pick [0] rfl rfl ?_
 refine Tri.rounds (fun n e' C'=>∃ (x3' : List (Int)) (x4' : Int) (w3 : Value) (T3 : Nat → Prop),impl_members.l0 k a0 n x3' x4' = some x3∧SlLen w3 (x3').length∧e' = [(0,.int .i64 a0),(3,w3),(4,.int .i64 x4')]∧C' = Sep w noM [R.sl T3 w3 (x3' : List (Int))]) k ?_ ?_ ?_
 ·exact ⟨([] : List (Int)),0,v5_1,S5_1,hE_1,hl_v5_1,rfl,rfl⟩
 ·rintro _ _ ⟨_,_,_,_,hE_1,_⟩
  rw [impl_members.l0.eq_1] at hE_1; cases hE_1
 ·rintro n_1 _ _ ⟨x3,x4,w3,T3,hE_1,hl_w3,rfl,rfl⟩ ih_1
  rw [impl_members.l0.eq_2] at hE_1
  refine Tri.seq (Tri.seq ?_)
  obtain ⟨hs8,hE_1⟩:=ck hE_1
  refine Tri.reg (l:=[0,1,2,3]) rfl ?_
  refine F.qn rfl (r_move rfl) (F.qn rfl (r_move rfl) (F.qn rfl (r_shr rfl rfl hs8) (F.qn rfl (r_gtr rfl rfl) (F.nil (Nrm.seq (Tri.cond (b:=decide ((shr a0 x4) > 0)) rfl (fun g_1=>?_) (fun g_1=>?_)))))))
  ·replace hE_1:=if_tt g_1 hE_1
   refine Tri.skip (Nrm.seq (Tri.seq (Tri.block ?_)))
   refine Tri.seq ?_
   obtain ⟨hs14,hE_1⟩:=ck hE_1
   refine Tri.reg (l:=[0,1,2,3,4]) rfl ?_
   refine F.qn rfl (r_move rfl) (F.qn rfl (r_move rfl) (F.qn rfl (r_shr rfl rfl hs14) (F.qn rfl (r_and rfl rfl) (F.qn rfl (r_eql rfl rfl) (F.nil (Nrm.seq ?_))))))
   obtain ⟨y3,hE_2,hE_1⟩:=bind_some hE_1
   refine Tri.cut (fun e' C'=>∃ (v3_1 : Value) (S3_1 : Nat → Prop),SlLen v3_1 (y3).length∧e' = [(0,.int .i64 a0),(3,v3_1),(4,.int .i64 x4)]∧C' = Sep w noM [R.sl S3_1 v3_1 (y3 : List (Int))]) ?_ (fun hj_1=>?_)
   ·rintro _ _ ⟨v3_1,S3_1,hl_v3_1,rfl,rfl⟩
    refine Nrm.block ?_
    refine Nrm.seq (Tri.reg (l:=[0,1,2]) rfl ?_)
    refine F.qn rfl (r_move rfl) (F.qn rfl (r_add rfl rfl) (F.qn rfl (r_assign rfl) (F.nil (Nrm.round ?_))))
    refine Rnd.only [0,3,4] rfl ?_
    refine Rnd.pick [0] rfl rfl ?_
    exact ih_1 _ _ ⟨y3,w64 (x4 + 1),v3_1,S3_1,hE_1,hl_v3_1,rfl,rfl⟩
   ·refine Tri.cond (b:=(band (shr a0 x4) 1) == 1) rfl (fun g_2=>?_) (fun g_2=>?_)
    ·replace hE_2:=if_tt g_2 hE_2
     obtain ⟨hs20,hE_2⟩:=ck hE_2
     refine Tri.reg (l:=[0,1,2,3,4]) rfl ?_
     refine F.qn rfl (r_move rfl) (F.qn rfl (r_move rfl) ?_)
     refine F.mn rfl (m_buildF (l:=([x4] : List (Int))) Tryz.underlying25 ti3 rfl rfl rfl rfl rfl) ?_
     rintro v19_1 _ ⟨S19_1,hl_v19_1,rfl⟩
     refine F.efn rfl (d_append (i:=1) Tryz.underlying25 Tryz.underlying25 ti3 rfl (by decide) rfl rfl rfl (rd_sl (i:=0) rfl) hs20) ?_
     rintro v20_1 _ ⟨S20_1,rfl,hl_v20_1⟩
     refine F.qn rfl (r_assign rfl) (F.nil ?_)
     cases hE_2
     refine Nrm.only [0,3,4] rfl ?_
     refine Nrm.pick [1] rfl rfl ?_
     exact hj_1 _ _ ⟨v20_1,S20_1,hl_v20_1,rfl,rfl⟩
    ·replace hE_2:=if_ff g_2 hE_2
     refine Tri.skip ?_
     cases hE_2
     refine Nrm.only [0,3,4] rfl ?_
     refine Nrm.pick [0] rfl rfl ?_
     exact hj_1 _ _ ⟨w3,T3,hl_w3,rfl,rfl⟩
  ·replace hE_1:=if_ff g_1 hE_1
   refine Tri.exit ?_
   refine Exi.then ?_
   refine Exi.then ?_
   refine Exi.same ?_
   cases hE_1
   refine Nrm.seq (Tri.seq (Tri.reg (l:=[0,1]) rfl ?_))
   refine F.qn rfl (r_move rfl) (F.qn rfl (r_assign rfl) (F.nil (Nrm.seq (Tri.ret ?_))))
   cases h
   exact Rtn.body (.tmp rfl .nil) (fun w hw=>⟨_,_,rfl,⟨T3,hl_w3,rfl⟩,Sep.pick (is:=[0]) rfl rfl hw⟩)


def impl_has.f (k : Nat) (a0 : Int) (a1 : Int) : Option (Bool) := some ((bclr a1 a0) == 0)

theorem impl_has.ok {k : Nat}  {a0 : Int} {a1 : Int} {r0 : Bool} (h : impl_has.f k a0 a1 = some r0) (w : World) :
  Calls Tryz.prog 189 ([.int .i64 a0,.int .i64 a1] : List Value).toArray w (fun e w'=>e = .returned (.bool r0)∧Ext w w'):=by
 unfold impl_has.f at h
 refine Calls.of_tri (N:=9) Tryz.func189 rfl rfl rfl (Sep.nil (M:=noM)) ?_
 refine Tri.seq (Tri.reg (l:=[0]) rfl ?_)
 refine F.qn rfl (r_assign rfl) (F.nil (Nrm.seq (Tri.seq (Tri.reg (l:=[0,1,2,3,4]) rfl ?_))))
 refine F.qn rfl (r_move rfl) (F.qn rfl (r_move rfl) (F.qn rfl (r_andNot rfl rfl) (F.qn rfl (r_eql rfl rfl) (F.qn rfl (r_assign rfl) (F.nil (Nrm.seq (Tri.ret ?_)))))))
 cases h
 exact Rtn.body (.tmp rfl .nil) (fun w hw=>⟨rfl,hw.ext⟩)


def impl_steps.l0 (k : Nat) (a0_1 : List (Int × Int × Int)) (a1 : Int) (a2 : Int) : Nat → Int → Int → Option (Int)
 | 0,_,_=>none
 | n + 1,x7,x13=>(if (decide (x13 < (a0_1.length : Int))) = true then ((rdl a0_1 x13).bind fun t15=>(impl_has.f k a2 t15.2.2).bind fun t20=>(if (!t20) = true then some x7 else ((if (t15.1 == a1) = true then if ¬ t15.2.1 < 0 then some (bor x7 (shl 1 t15.2.1)) else none else some x7)).bind fun y7=>((if (t15.2.1 == a1) = true then if ¬ t15.1 < 0 then some (bor y7 (shl 1 t15.1)) else none else some y7)).bind fun y7r=>some y7r)).bind fun y7=>impl_steps.l0 k a0_1 a1 a2 n y7 (w64 (x13 + 1)) else some x7)

def impl_steps.f (k : Nat) (a0_0 : Int) (a0_1 : List (Int × Int × Int)) (a0_2 : List Int) (a1 : Int) (a2 : Int) : Option (Int) := (impl_steps.l0 k a0_1 a1 a2 k 0 0).bind fun x7 => some x7

theorem impl_steps.ok {k : Nat}  {a0_0 : Int} {a0_1 : List (Int × Int × Int)} {a0_2 : List Int} {a1 : Int} {a2 : Int} {r0 : Int} (h : impl_steps.f k a0_0 a0_1 a0_2 a1 a2 = some r0) (w : World) {va0_1 : Value} {va0_2 : Value} (hr_a0_1 : Rd w va0_1 a0_1) (hr_a0_2 : Rd w va0_2 a0_2) :
  Calls Tryz.prog 207 ([.agg ([.int .i64 a0_0,va0_1,va0_2].toArray),.int .i64 a1,.int .i64 a2] : List Value).toArray w (fun e w'=>e = .returned (.int .i64 r0)∧Ext w w'):=by
 unfold impl_steps.f at h
 have hl_va0_1:=hr_a0_1.len
 have hl_va0_2:=hr_a0_2.len
 refine Calls.of_tri (N:=42) Tryz.func207 rfl rfl rfl (Sep.nil (M:=noM)) ?_
 refine Tri.seq (Tri.reg (l:=[0,1]) rfl ?_)
 refine F.mn rfl (m_boxG rfl rfl) ?_
 rintro _ _ ⟨b3_1,rfl,rfl⟩
 refine F.qn rfl (r_assign rfl) (F.nil (Nrm.seq (Tri.seq (Tri.reg (l:=[0]) rfl ?_))))
 refine F.qn rfl (r_assign rfl) (F.nil (Nrm.seq (Tri.seq (Tri.seq (Tri.reg (l:=[0,1,2,3]) rfl ?_)))))
 refine F.qn rfl (r_fieldAddr tf27_1 rfl) (F.qn rfl (r_load ta24 rfl (fun w hw=>cell_1 (box_cells (i:=0) rfl w hw) rfl)) (F.qn rfl (r_len Tryz.underlying24 rfl hl_va0_1) (F.qn rfl (r_move rfl) (F.nil (Nrm.seq ?_)))))
 obtain ⟨x7,hE_1,h⟩:=bind_some h
 refine Tri.block ?_
 refine Tri.only [1,2,7,11,12,13] rfl ?_
 refine Tri.pick [] rfl rfl ?_
 refine Tri.rounds (fun n e' C'=>∃ (x7' : Int) (x13' : Int),impl_steps.l0 k a0_1 a1 a2 n x7' x13' = some x7∧e' = [(1,.int .i64 a1),(2,.int .i64 a2),(7,.int .i64 x7'),(11,va0_1),(12,.int .i64 (a0_1.length : Int)),(13,.int .i64 x13')]∧C' = Sep w noM []) k ?_ ?_ ?_
 ·exact ⟨0,0,hE_1,rfl,rfl⟩
 ·rintro _ _ ⟨_,_,hE_1,_⟩
  rw [impl_steps.l0.eq_1] at hE_1; cases hE_1
 ·rintro n_1 _ _ ⟨x7,x13,hE_1,rfl,rfl⟩ ih_1
  rw [impl_steps.l0.eq_2] at hE_1
  refine Tri.seq (Tri.reg (l:=[0]) rfl ?_)
  refine F.qn rfl (r_lss rfl rfl) (F.nil (Nrm.seq (Tri.seq (Tri.cond (b:=decide (x13 < (a0_1.length : Int))) rfl (fun g_1=>?_) (fun g_1=>?_)))))
  ·replace hE_1:=if_tt g_1 hE_1
   refine Tri.skip (Nrm.seq (Tri.seq ?_))
   obtain ⟨y7,hE_2,hE_1⟩:=bind_some hE_1
   refine Tri.cut (fun e' C'=>e' = [(1,.int .i64 a1),(2,.int .i64 a2),(7,.int .i64 y7),(11,va0_1),(12,.int .i64 (a0_1.length : Int)),(13,.int .i64 x13)]∧C' = Sep w noM []) ?_ (fun hj_1=>?_)
   ·rintro _ _ ⟨rfl,rfl⟩
    refine Nrm.seq (Tri.reg (l:=[0,1]) rfl ?_)
    refine F.qn rfl (r_add rfl rfl) (F.qn rfl (r_move rfl) (F.nil (Nrm.round ?_)))
    refine Rnd.only [1,2,7,11,12,13] rfl ?_
    refine Rnd.pick [] rfl rfl ?_
    exact ih_1 _ _ ⟨y7,w64 (x13 + 1),hE_1,rfl,rfl⟩
   ·refine Tri.block ?_
    refine Tri.seq ?_
    obtain ⟨t15,h15,hE_2⟩:=bind_some hE_2
    refine Tri.reg (l:=[0,1,2,3]) rfl ?_
    refine F.qn rfl (r_indexAddrS Tryz.underlying24 ti168 rfl hl_va0_1 rfl (rdl_some h15).1 (rdl_some h15).2.1) (F.qn rfl (r_loadA ta168 ti168 rfl rfl (fun w hw=>(Rd.flat ((fun _ hw=>hr_a0_1.sep hw) w hw) (rdl_some h15).2.2))) ?_)
    refine F.mn rfl (m_alloc ti168) ?_
    rintro _ _ ⟨b9_1,rfl,rfl⟩
    refine F.ef0 rfl rfl (wanted_none rfl) (d_storeG0 (i:=0) (cs2:=[.int .i64 t15.1,.int .i64 t15.2.1,.int .i64 t15.2.2]) ti168 rfl rfl rfl rfl rfl (Nat.le_of_ble_eq_true rfl) (lf_cons rfl (lf_cons rfl (lf_cons rfl lf_nil)))) ?_
    rintro _ _ ⟨rfl,rfl⟩
    refine F.nil (Nrm.seq (Tri.seq (Tri.seq ?_)))
    obtain ⟨t20,h20,hE_2⟩:=bind_some hE_2
    refine Tri.reg (l:=[0,1,2,3,4]) rfl ?_
    refine F.qn rfl (r_move rfl) (F.qn rfl (r_indexAddrA Tryz.underlying168 ti3 rfl rfl (by decide) (by decide)) (F.qn rfl (r_load ta3 rfl (fun w hw=>cell_1 (box_cells (i:=0) rfl w hw) rfl)) ?_))
    refine F.qcn rfl (q_callF (xs:=_) rfl ok189 rfl rfl (fun w hw=>impl_has.ok h20 w)) ?_
    refine F.qn rfl (r_not rfl) (F.nil (Nrm.seq (Tri.cond (b:=!t20) rfl (fun g_2=>?_) (fun g_2=>?_))))
    ·replace hE_2:=if_tt g_2 hE_2
     refine Tri.exit ?_
     refine Exi.then ?_
     refine Exi.same ?_
     cases hE_2
     refine Nrm.only [1,2,7,11,12,13] rfl ?_
     refine Nrm.pick [] rfl rfl ?_
     exact hj_1 _ _ ⟨rfl,rfl⟩
    ·replace hE_2:=if_ff g_2 hE_2
     refine Tri.skip (Nrm.seq (Tri.seq (Tri.seq (Tri.reg (l:=[0,1,2,3]) rfl ?_))))
     refine F.qn rfl (r_indexAddrA Tryz.underlying168 ti3 rfl rfl (by decide) (by decide)) (F.qn rfl (r_load ta3 rfl (fun w hw=>cell_1 (box_cells (i:=0) rfl w hw) rfl)) (F.qn rfl (r_move rfl) (F.qn rfl (r_eql rfl rfl) (F.nil (Nrm.seq ?_)))))
     obtain ⟨y7,hE_3,hE_2⟩:=bind_some hE_2
     refine Tri.cut (fun e' C'=>e' = [(1,.int .i64 a1),(2,.int .i64 a2),(7,.int .i64 y7),(9,.pointer (some ⟨b9_1,0,none⟩)),(11,va0_1),(12,.int .i64 (a0_1.length : Int)),(13,.int .i64 x13)]∧C' = Sep w noM [R.box b9_1 168 [.int .i64 t15.1,.int .i64 t15.2.1,.int .i64 t15.2.2]]) ?_ (fun hj_2=>?_)
     ·rintro _ _ ⟨rfl,rfl⟩
      refine Nrm.seq (Tri.seq (Tri.reg (l:=[0,1,2,3]) rfl ?_))
      refine F.qn rfl (r_indexAddrA Tryz.underlying168 ti3 rfl rfl (by decide) (by decide)) (F.qn rfl (r_load ta3 rfl (fun w hw=>cell_1 (box_cells (i:=0) rfl w hw) rfl)) (F.qn rfl (r_move rfl) (F.qn rfl (r_eql rfl rfl) (F.nil (Nrm.seq ?_)))))
      obtain ⟨y7r,hE_4,hE_2⟩:=bind_some hE_2
      refine Tri.cut (fun e' C'=>e' = [(1,.int .i64 a1),(2,.int .i64 a2),(7,.int .i64 y7r),(11,va0_1),(12,.int .i64 (a0_1.length : Int)),(13,.int .i64 x13)]∧C' = Sep w noM []) ?_ (fun hj_3=>?_)
      ·rintro _ _ ⟨rfl,rfl⟩
       refine Nrm.block ?_
       cases hE_2
       refine Nrm.only [1,2,7,11,12,13] rfl ?_
       refine Nrm.pick [] rfl rfl ?_
       exact hj_1 _ _ ⟨rfl,rfl⟩
      ·refine Tri.cond (b:=t15.2.1 == a1) rfl (fun g_4=>?_) (fun g_4=>?_)
       ·replace hE_4:=if_tt g_4 hE_4
        obtain ⟨hs38,hE_4⟩:=ck hE_4
        refine Tri.reg (l:=[0,1,2,3,4,5]) rfl ?_
        refine F.qn rfl (r_move rfl) (F.qn rfl (r_indexAddrA Tryz.underlying168 ti3 rfl rfl (by decide) (by decide)) (F.qn rfl (r_load ta3 rfl (fun w hw=>cell_1 (box_cells (i:=0) rfl w hw) rfl)) (F.qn rfl (r_shl rfl rfl hs38) (F.qn rfl (r_or rfl rfl) (F.qn rfl (r_assign rfl) (F.nil ?_))))))
        cases hE_4
        refine Nrm.only [1,2,7,11,12,13] rfl ?_
        refine Nrm.pick [] rfl rfl ?_
        exact hj_3 _ _ ⟨rfl,rfl⟩
       ·replace hE_4:=if_ff g_4 hE_4
        refine Tri.skip ?_
        cases hE_4
        refine Nrm.only [1,2,7,11,12,13] rfl ?_
        refine Nrm.pick [] rfl rfl ?_
        exact hj_3 _ _ ⟨rfl,rfl⟩
     ·refine Tri.cond (b:=t15.1 == a1) rfl (fun g_3=>?_) (fun g_3=>?_)
      ·replace hE_3:=if_tt g_3 hE_3
       obtain ⟨hs29,hE_3⟩:=ck hE_3
       refine Tri.reg (l:=[0,1,2,3,4,5]) rfl ?_
       refine F.qn rfl (r_move rfl) (F.qn rfl (r_indexAddrA Tryz.underlying168 ti3 rfl rfl (by decide) (by decide)) (F.qn rfl (r_load ta3 rfl (fun w hw=>cell_1 (box_cells (i:=0) rfl w hw) rfl)) (F.qn rfl (r_shl rfl rfl hs29) (F.qn rfl (r_or rfl rfl) (F.qn rfl (r_assign rfl) (F.nil ?_))))))
       cases hE_3
       refine Nrm.only [1,2,7,9,11,12,13] rfl ?_
       refine Nrm.pick [0] rfl rfl ?_
       exact hj_2 _ _ ⟨rfl,rfl⟩
      ·replace hE_3:=if_ff g_3 hE_3
       refine Tri.skip ?_
       cases hE_3
       refine Nrm.only [1,2,7,9,11,12,13] rfl ?_
       refine Nrm.pick [0] rfl rfl ?_
       exact hj_2 _ _ ⟨rfl,rfl⟩
  ·replace hE_1:=if_ff g_1 hE_1
   refine Tri.exit ?_
   refine Exi.then ?_
   refine Exi.then ?_
   refine Exi.same ?_
   cases hE_1
   refine Nrm.seq (Tri.seq (Tri.reg (l:=[0,1]) rfl ?_))
   refine F.qn rfl (r_move rfl) (F.qn rfl (r_assign rfl) (F.nil (Nrm.seq (Tri.ret ?_))))
   cases h
   exact Rtn.body (.tmp rfl .nil) (fun w hw=>⟨rfl,hw.ext⟩)


def impl_distances.l1 (k : Nat) (x17 : Int) : Nat → Int → (Arr 768) → Option ((Arr 768))
 | 0,_,_=>none
 | n + 1,x20,xb7_1_0r=>(if (decide (x20 < 64)) = true then if 0 ≤ x17∧x17 < 12 then if 0 ≤ x20∧x20 < 64 then impl_distances.l1 k x17 n (w64 (x20 + 1)) (Arr.put xb7_1_0r (x17 * 64 + x20) (-1)) else none else none else some xb7_1_0r)

def impl_distances.l3 (k : Nat) (a0_2 : List Int) (t43 : Int × Int) (t47 : Int × Int) (t54 : List Int) : Nat → (List (Int × Int)) → Int → (Arr 768) → Option ((Arr 768) × (List (Int × Int)))
 | 0,_,_,_=>none
 | n + 1,x10r,x56,xb7_1_0rrr=>(if (decide (x56 < (t54.length : Int))) = true then (rdl t54 x56).bind fun t58=>(rdl a0_2 t58).bind fun t64=>if 0 ≤ t58∧t58 < 12 then if 0 ≤ bor t47.2 t64∧bor t47.2 t64 < 64 then ((if (decide ((Arr.at xb7_1_0rrr (t58 * 64 + (bor t47.2 t64))) < 0)) = true then if 0 ≤ t43.1∧t43.1 < 12 then if 0 ≤ t47.2∧t47.2 < 64 then if 0 ≤ t58∧t58 < 12 then if 0 ≤ bor t47.2 t64∧bor t47.2 t64 < 64 then if (x10r ++ ([(t58,bor t47.2 t64)] : List (Int × Int))).length < 1099511627776 then some (x10r ++ ([(t58,bor t47.2 t64)] : List (Int × Int)),(Arr.put xb7_1_0rrr (t58 * 64 + (bor t47.2 t64)) (w64 ((Arr.at xb7_1_0rrr (t43.1 * 64 + t47.2)) + 1)))) else none else none else none else none else none else some (x10r,xb7_1_0rrr))).bind fun (y10,yb7_1_0)=>impl_distances.l3 k a0_2 t43 t47 t54 n y10 (w64 (x56 + 1)) yb7_1_0 else none else none else some (xb7_1_0rrr,x10r))

def impl_distances.l2 (k : Nat) (a0_0 : Int) (a0_1 : List (Int × Int × Int)) (a0_2 : List Int) : Nat → (List (Int × Int)) → (Arr 768) → Option ((Arr 768))
 | 0,_,_=>none
 | n + 1,x10,xb7_1_0rr=>(if (decide ((x10.length : Int) > 0)) = true then (rdl x10 0).bind fun t43=>(rdl x10 0).bind fun t47=>(impl_steps.f k a0_0 a0_1 a0_2 t43.1 t47.2).bind fun t53=>(impl_members.f k t53).bind fun t54=>(impl_distances.l3 k a0_2 t43 t47 t54 k x10 0 xb7_1_0rr).bind fun (xb7_1_0rrr,x10r)=>(slc x10r 1 (x10r.length : Int)).bind fun t41=>impl_distances.l2 k a0_0 a0_1 a0_2 n t41 xb7_1_0rrr else some xb7_1_0rr)

def impl_distances.l0 (k : Nat) : Nat → Int → (Arr 768) → Option ((Arr 768))
 | 0,_,_=>none
 | n + 1,x17,xb7_1_0=>(if (decide (x17 < 12)) = true then (impl_distances.l1 k x17 k 0 xb7_1_0).bind fun xb7_1_0r=>impl_distances.l0 k n (w64 (x17 + 1)) xb7_1_0r else some xb7_1_0)

def impl_distances.f (k : Nat) (a0_0 : Int) (a0_1 : List (Int × Int × Int)) (a0_2 : List Int) (a1 : Int) (a2 : Int) : Option ((Arr 768)) := (impl_distances.l0 k k 0 (Arr.rep 768 0)).bind fun xb7_1_0 => if 0 ≤ a1 ∧ a1 < 12 then if 0 ≤ a2 ∧ a2 < 64 then (impl_distances.l2 k a0_0 a0_1 a0_2 k ([(a1, a2)] : List (Int × Int)) (Arr.put xb7_1_0 (a1 * 64 + a2) 0)).bind fun xb7_1_0rr => some xb7_1_0rr else none else none

theorem impl_distances.ok {k : Nat}  {a0_0 : Int} {a0_1 : List (Int × Int × Int)} {a0_2 : List Int} {a1 : Int} {a2 : Int} {r0 : Arr 768} (h : impl_distances.f k a0_0 a0_1 a0_2 a1 a2 = some r0) (w : World) {va0_1 : Value} {va0_2 : Value} (hr_a0_1 : Rd w va0_1 a0_1) (hr_a0_2 : Rd w va0_2 a0_2) :
  Calls Tryz.prog 222 ([.agg ([.int .i64 a0_0,va0_1,va0_2].toArray),.int .i64 a1,.int .i64 a2] : List Value).toArray w (fun e w'=>e = .returned (.agg (encA r0).toArray)∧Ext w w'):=by
 unfold impl_distances.f at h
 have hl_va0_1:=hr_a0_1.len
 have hl_va0_2:=hr_a0_2.len
 refine Calls.of_tri (N:=91) Tryz.func222 rfl rfl rfl (Sep.nil (M:=noM)) ?_
 refine Tri.seq (Tri.reg (l:=[0,1]) rfl ?_)
 refine F.mn rfl (m_boxG rfl rfl) ?_
 rintro _ _ ⟨b3_1,rfl,rfl⟩
 refine F.mn rfl (m_alloc ti132) ?_
 rintro _ _ ⟨b6_1,rfl,rfl⟩
 refine F.nil (Nrm.seq (Tri.seq (Tri.reg (l:=[0,1,2]) rfl ?_)))
 refine F.qn rfl (r_buildA (qs:=[]) (cs:=encA (Arr.rep 768 0)) Tryz.underlying132 ti130 ti132 rfl .nil (encA_len _) rfl) ?_
 refine F.mn rfl (m_alloc ti132) ?_
 rintro _ _ ⟨b7_1,rfl,rfl⟩
 refine F.ef0 rfl rfl (wanted_none rfl) (d_storeArr (i:=0) (g:=(Arr.rep 768 0)) (h:=(Arr.rep 768 0)) ti132 rfl rfl rfl) ?_
 rintro _ _ ⟨rfl,rfl⟩
 refine F.nil (Nrm.seq (Tri.seq (Tri.seq (Tri.reg (l:=[0]) rfl ?_))))
 refine F.qn rfl (r_move rfl) (F.nil (Nrm.seq ?_))
 obtain ⟨xb7_1_0,hE_1,h⟩:=bind_some h
 refine Tri.block ?_
 refine Tri.only [1,2,3,6,7,17] rfl ?_
 refine Tri.pick [0,1,2] rfl rfl ?_
 refine Tri.rounds (fun n e' C'=>∃ (x17' : Int) (xb7_1_0' : Arr 768),impl_distances.l0 k n x17' xb7_1_0' = some xb7_1_0∧e' = [(1,.int .i64 a1),(2,.int .i64 a2),(3,.pointer (some ⟨b3_1,0,none⟩)),(6,.pointer (some ⟨b6_1,0,none⟩)),(7,.pointer (some ⟨b7_1,0,none⟩)),(17,.int .i64 x17')]∧C' = Sep w noM [R.box b7_1 132 (encA xb7_1_0'),R.box b6_1 132 (encA (Arr.rep 768 0)),R.box b3_1 27 [.int .i64 a0_0,va0_1,va0_2]]) k ?_ ?_ ?_
 ·exact ⟨0,(Arr.rep 768 0),hE_1,rfl,rfl⟩
 ·rintro _ _ ⟨_,_,hE_1,_⟩
  rw [impl_distances.l0.eq_1] at hE_1; cases hE_1
 ·rintro n_1 _ _ ⟨x17,xb7_1_0,hE_1,rfl,rfl⟩ ih_1
  rw [impl_distances.l0.eq_2] at hE_1
  refine Tri.seq (Tri.reg (l:=[0]) rfl ?_)
  refine F.qn rfl (r_lss rfl rfl) (F.nil (Nrm.seq (Tri.seq (Tri.cond (b:=decide (x17 < 12)) rfl (fun g_1=>?_) (fun g_1=>?_)))))
  ·replace hE_1:=if_tt g_1 hE_1
   refine Tri.skip (Nrm.seq (Tri.seq (Tri.block ?_)))
   refine Tri.seq (Tri.reg (l:=[0,1]) rfl ?_)
   refine F.qn rfl (r_move rfl) (F.qn rfl (r_assign rfl) (F.nil (Nrm.seq (Tri.seq (Tri.reg (l:=[0]) rfl ?_)))))
   refine F.qn rfl (r_move rfl) (F.nil (Nrm.seq ?_))
   obtain ⟨xb7_1_0r,hE_2,hE_1⟩:=bind_some hE_1
   refine Tri.block ?_
   refine Tri.only [1,2,3,6,7,8,17,20] rfl ?_
   refine Tri.pick [0,1,2] rfl rfl ?_
   refine Tri.rounds (fun n e' C'=>∃ (x20' : Int) (xb7_1_0r' : Arr 768),impl_distances.l1 k x17 n x20' xb7_1_0r' = some xb7_1_0r∧e' = [(1,.int .i64 a1),(2,.int .i64 a2),(3,.pointer (some ⟨b3_1,0,none⟩)),(6,.pointer (some ⟨b6_1,0,none⟩)),(7,.pointer (some ⟨b7_1,0,none⟩)),(8,.int .i64 x17),(17,.int .i64 x17),(20,.int .i64 x20')]∧C' = Sep w noM [R.box b7_1 132 (encA xb7_1_0r'),R.box b6_1 132 (encA (Arr.rep 768 0)),R.box b3_1 27 [.int .i64 a0_0,va0_1,va0_2]]) k ?_ ?_ ?_
   ·exact ⟨0,xb7_1_0,hE_2,rfl,rfl⟩
   ·rintro _ _ ⟨_,_,hE_2,_⟩
    rw [impl_distances.l1.eq_1] at hE_2; cases hE_2
   ·rintro n_2 _ _ ⟨x20,xb7_1_0r,hE_2,rfl,rfl⟩ ih_2
    rw [impl_distances.l1.eq_2] at hE_2
    refine Tri.seq (Tri.reg (l:=[0]) rfl ?_)
    refine F.qn rfl (r_lss rfl rfl) (F.nil (Nrm.seq (Tri.seq (Tri.cond (b:=decide (x20 < 64)) rfl (fun g_2=>?_) (fun g_2=>?_)))))
    ·replace hE_2:=if_tt g_2 hE_2
     refine Tri.skip (Nrm.seq (Tri.seq (Tri.block ?_)))
     refine Tri.seq (Tri.reg (l:=[0,1]) rfl ?_)
     refine F.qn rfl (r_move rfl) (F.qn rfl (r_assign rfl) (F.nil (Nrm.seq ?_)))
     obtain ⟨hb25,hE_2⟩:=ck hE_2
     obtain ⟨hb26,hE_2⟩:=ck hE_2
     refine Tri.reg (l:=[0,1,2,3,4]) rfl ?_
     refine F.qn rfl (r_move rfl) (F.qn rfl (r_move rfl) (F.qn rfl (r_indexAddrA Tryz.underlying132 ti130 rfl rfl hb25.1 hb25.2) (F.qn rfl (r_indexAddrA Tryz.underlying130 ti3 rfl rfl hb26.1 hb26.2) ?_)))
     refine F.ef0 rfl rfl (wanted_none rfl) (d_storeTab (i:=0) (m:=64) (g:=xb7_1_0r) (r:=x17) (j:=x20) (u:=(-1)) ti3 rfl rfl rfl (tabB 12 64 768 hb25 rfl) hb26) ?_
     rintro _ _ ⟨rfl,rfl⟩
     refine F.nil (Nrm.block ?_)
     refine Nrm.seq (Tri.reg (l:=[0,1]) rfl ?_)
     refine F.qn rfl (r_add rfl rfl) (F.qn rfl (r_move rfl) (F.nil (Nrm.round ?_)))
     refine Rnd.only [1,2,3,6,7,8,17,20] rfl ?_
     refine Rnd.pick [0,1,2] rfl rfl ?_
     exact ih_2 _ _ ⟨w64 (x20 + 1),(Arr.put xb7_1_0r (x17 * 64 + x20) (-1)),hE_2,rfl,rfl⟩
    ·replace hE_2:=if_ff g_2 hE_2
     refine Tri.exit ?_
     refine Exi.then ?_
     refine Exi.then ?_
     refine Exi.same ?_
     cases hE_2
     refine Nrm.block ?_
     refine Nrm.seq (Tri.reg (l:=[0,1]) rfl ?_)
     refine F.qn rfl (r_add rfl rfl) (F.qn rfl (r_move rfl) (F.nil (Nrm.round ?_)))
     refine Rnd.only [1,2,3,6,7,17] rfl ?_
     refine Rnd.pick [0,1,2] rfl rfl ?_
     exact ih_1 _ _ ⟨w64 (x17 + 1),xb7_1_0r,hE_1,rfl,rfl⟩
  ·replace hE_1:=if_ff g_1 hE_1
   refine Tri.exit ?_
   refine Exi.then ?_
   refine Exi.then ?_
   refine Exi.same ?_
   cases hE_1
   refine Nrm.seq (Tri.seq ?_)
   obtain ⟨hb31,h⟩:=ck h
   obtain ⟨hb32,h⟩:=ck h
   refine Tri.reg (l:=[0,1,2,3,4]) rfl ?_
   refine F.qn rfl (r_move rfl) (F.qn rfl (r_move rfl) (F.qn rfl (r_indexAddrA Tryz.underlying132 ti130 rfl rfl hb31.1 hb31.2) (F.qn rfl (r_indexAddrA Tryz.underlying130 ti3 rfl rfl hb32.1 hb32.2) ?_)))
   refine F.ef0 rfl rfl (wanted_none rfl) (d_storeTab (i:=0) (m:=64) (g:=xb7_1_0) (r:=a1) (j:=a2) (u:=0) ti3 rfl rfl rfl (tabB 12 64 768 hb31 rfl) hb32) ?_
   rintro _ _ ⟨rfl,rfl⟩
   refine F.nil (Nrm.seq (Tri.seq (Tri.seq (Tri.reg (l:=[0,1,2,3,4]) rfl ?_))))
   refine F.qn rfl (r_move rfl) (F.qn rfl (r_move rfl) (F.qn rfl (r_buildA (qs:=[(0,[.int .i64 a1]),(1,[.int .i64 a2])]) (cs:=[.int .i64 a1,.int .i64 a2]) Tryz.underlying75 ti3 ti75 rfl (.cons rfl rfl (Nat.le_of_ble_eq_true rfl) (.cons rfl rfl (Nat.le_of_ble_eq_true rfl) .nil)) rfl rfl) ?_))
   refine F.mn rfl (m_buildF (l:=([(a1,a2)] : List (Int × Int))) Tryz.underlying72 ti75 rfl rfl rfl rfl rfl) ?_
   rintro v36_1 _ ⟨S36_1,hl_v36_1,rfl⟩
   refine F.qn rfl (r_assign rfl) (F.nil (Nrm.seq ?_))
   obtain ⟨xb7_1_0rr,hE_3,h⟩:=bind_some h
   refine Tri.block ?_
   refine Tri.only [3,6,7,10] rfl ?_
   refine Tri.pick [1,2,3,0] rfl rfl ?_
   refine Tri.rounds (fun n e' C'=>∃ (x10' : List (Int × Int)) (xb7_1_0rr' : Arr 768) (w10 : Value) (T10 : Nat → Prop),impl_distances.l2 k a0_0 a0_1 a0_2 n x10' xb7_1_0rr' = some xb7_1_0rr∧SlLen w10 (x10').length∧e' = [(3,.pointer (some ⟨b3_1,0,none⟩)),(6,.pointer (some ⟨b6_1,0,none⟩)),(7,.pointer (some ⟨b7_1,0,none⟩)),(10,w10)]∧C' = Sep w noM [R.box b7_1 132 (encA xb7_1_0rr'),R.box b6_1 132 (encA (Arr.rep 768 0)),R.box b3_1 27 [.int .i64 a0_0,va0_1,va0_2],R.sl T10 w10 (x10' : List (Int × Int))]) k ?_ ?_ ?_
   ·exact ⟨([(a1,a2)] : List (Int × Int)),(Arr.put xb7_1_0 (a1 * 64 + a2) 0),v36_1,S36_1,hE_3,hl_v36_1,rfl,rfl⟩
   ·rintro _ _ ⟨_,_,_,_,hE_3,_⟩
    rw [impl_distances.l2.eq_1] at hE_3; cases hE_3
   ·rintro n_3 _ _ ⟨x10,xb7_1_0rr,w10,T10,hE_3,hl_w10,rfl,rfl⟩ ih_3
    rw [impl_distances.l2.eq_2] at hE_3
    refine Tri.seq (Tri.seq (Tri.reg (l:=[0,1,2]) rfl ?_))
    refine F.qn rfl (r_move rfl) (F.qn rfl (r_len Tryz.underlying72 rfl hl_w10) (F.qn rfl (r_gtr rfl rfl) (F.nil (Nrm.seq (Tri.cond (b:=decide ((x10.length : Int) > 0)) rfl (fun g_3=>?_) (fun g_3=>?_))))))
    ·replace hE_3:=if_tt g_3 hE_3
     refine Tri.skip (Nrm.seq (Tri.seq (Tri.block ?_)))
     refine Tri.seq ?_
     obtain ⟨t43,h43,hE_3⟩:=bind_some hE_3
     obtain ⟨t47,h47,hE_3⟩:=bind_some hE_3
     refine Tri.drawA mixedT Sep.up [(0,true),(1,true),(2,true),(3,true),(4,true),(5,true),(6,true),(7,true),(8,true),(9,true)] [] (by kernel_rfl) ?_
     refine S.qn rfl (r_move rfl) (S.qn rfl (r_indexAddrS Tryz.underlying72 ti75 rfl hl_w10 rfl (rdl_some h43).1 (rdl_some h43).2.1) (S.qn rfl (r_indexAddrA Tryz.underlying75 ti3 rfl rfl (by decide) (by decide)) (S.qn rfl (r_load ta3 rfl (fun w hw=>cell_1 (Rd.flat ((rd_sl (i:=3) rfl) w hw) (rdl_some h43).2.2) rfl)) ?_)))
     refine S.qn rfl (r_move rfl) (S.qn rfl (r_indexAddrS Tryz.underlying72 ti75 rfl hl_w10 rfl (rdl_some h47).1 (rdl_some h47).2.1) (S.qn rfl (r_indexAddrA Tryz.underlying75 ti3 rfl rfl (by decide) (by decide)) (S.qn rfl (r_load ta3 rfl (fun w hw=>cell_1 (Rd.flat ((rd_sl (i:=3) rfl) w hw) (rdl_some h47).2.2) rfl)) (S.qn rfl (r_assign rfl) (S.qn rfl (r_assign rfl) (S.nil (F.nil (Nrm.seq (Tri.seq ?_)))))))))
     obtain ⟨t53,h53,hE_3⟩:=bind_some hE_3
     obtain ⟨t54,h54,hE_3⟩:=bind_some hE_3
     refine Tri.reg (l:=[0,1,2,3,4,5,6]) rfl ?_
     refine F.qn rfl (r_loadA ta27 ti27 rfl rfl (fun w hw=>(box_cells (i:=2) rfl w hw))) (F.qn rfl (r_move rfl) (F.qn rfl (r_move rfl) ?_))
     refine F.qcn rfl (q_callF (xs:=_) rfl ok207 rfl rfl (fun w hw=>impl_steps.ok h53 w ((fun _ hw=>hr_a0_1.sep hw) w hw) ((fun _ hw=>hr_a0_2.sep hw) w hw))) ?_
     refine F.mn rfl (m_callF (xs:=_) rfl ok119 rfl rfl (fun w hw=>impl_members.ok h54 w)) ?_
     rintro v54_1 _ ⟨_,⟨S54_1,hl_v54_1,rfl⟩,rfl⟩
     refine F.qn rfl (r_len Tryz.underlying25 rfl hl_v54_1) (F.qn rfl (r_move rfl) (F.nil (Nrm.seq ?_)))
     obtain ⟨⟨xb7_1_0rrr,x10r⟩,hE_4,hE_3⟩:=bind_some hE_3
     refine Tri.block ?_
     refine Tri.only [3,6,7,10,11,12,54,55,56] rfl ?_
     refine Tri.pick [1,2,3,0,4] rfl rfl ?_
     refine Tri.rounds (fun n e' C'=>∃ (x10r' : List (Int × Int)) (x56' : Int) (xb7_1_0rrr' : Arr 768) (w10r : Value) (T10r : Nat → Prop),impl_distances.l3 k a0_2 t43 t47 t54 n x10r' x56' xb7_1_0rrr' = some (xb7_1_0rrr,x10r)∧SlLen w10r (x10r').length∧e' = [(3,.pointer (some ⟨b3_1,0,none⟩)),(6,.pointer (some ⟨b6_1,0,none⟩)),(7,.pointer (some ⟨b7_1,0,none⟩)),(10,w10r),(11,.int .i64 t43.1),(12,.int .i64 t47.2),(54,v54_1),(55,.int .i64 (t54.length : Int)),(56,.int .i64 x56')]∧C' = Sep w noM [R.box b7_1 132 (encA xb7_1_0rrr'),R.box b6_1 132 (encA (Arr.rep 768 0)),R.box b3_1 27 [.int .i64 a0_0,va0_1,va0_2],R.sl S54_1 v54_1 (t54 : List (Int)),R.sl T10r w10r (x10r' : List (Int × Int))]) k ?_ ?_ ?_
     ·exact ⟨x10,0,xb7_1_0rr,w10,T10,hE_4,hl_w10,rfl,rfl⟩
     ·rintro _ _ ⟨_,_,_,_,_,hE_4,_⟩
      rw [impl_distances.l3.eq_1] at hE_4; cases hE_4
     ·rintro n_4 _ _ ⟨x10r,x56,xb7_1_0rrr,w10r,T10r,hE_4,hl_w10r,rfl,rfl⟩ ih_4
      rw [impl_distances.l3.eq_2] at hE_4
      refine Tri.seq (Tri.reg (l:=[0]) rfl ?_)
      refine F.qn rfl (r_lss rfl rfl) (F.nil (Nrm.seq (Tri.seq (Tri.cond (b:=decide (x56 < (t54.length : Int))) rfl (fun g_4=>?_) (fun g_4=>?_)))))
      ·replace hE_4:=if_tt g_4 hE_4
       refine Tri.skip (Nrm.seq (Tri.seq (Tri.block ?_)))
       refine Tri.seq ?_
       obtain ⟨t58,h58,hE_4⟩:=bind_some hE_4
       refine Tri.reg (l:=[0,1,2]) rfl ?_
       refine F.qn rfl (r_indexAddrS Tryz.underlying25 ti3 rfl hl_v54_1 rfl (rdl_some h58).1 (rdl_some h58).2.1) (F.qn rfl (r_load ta3 rfl (fun w hw=>cell_0 (Rd.flat ((rd_sl (i:=3) rfl) w hw) (rdl_some h58).2.2) rfl)) (F.qn rfl (r_assign rfl) (F.nil (Nrm.seq (Tri.seq ?_)))))
       obtain ⟨t64,h64,hE_4⟩:=bind_some hE_4
       refine Tri.reg (l:=[0,1,2,3,4,5,6,7]) rfl ?_
       refine F.qn rfl (r_move rfl) (F.qn rfl (r_fieldAddr tf27_2 rfl) ?_)
       refine F.qn rfl (r_load ta25 rfl (fun w hw=>cell_1 (box_cells (i:=2) rfl w hw) rfl)) (F.qn rfl (r_move rfl) (F.qn rfl (r_indexAddrS Tryz.underlying25 ti3 rfl hl_va0_2 rfl (rdl_some h64).1 (rdl_some h64).2.1) (F.qn rfl (r_load ta3 rfl (fun w hw=>cell_0 (Rd.flat ((fun _ hw=>hr_a0_2.sep hw) w hw) (rdl_some h64).2.2) rfl)) (F.qn rfl (r_or rfl rfl) (F.qn rfl (r_assign rfl) (F.nil (Nrm.seq (Tri.seq ?_))))))))
       obtain ⟨hb69,hE_4⟩:=ck hE_4
       obtain ⟨hb70,hE_4⟩:=ck hE_4
       refine Tri.reg (l:=[0,1,2,3,4,5]) rfl ?_
       refine F.qn rfl (r_move rfl) (F.qn rfl (r_move rfl) (F.qn rfl (r_indexAddrA Tryz.underlying132 ti130 rfl rfl hb69.1 hb69.2) (F.qn rfl (r_indexAddrA Tryz.underlying130 ti3 rfl rfl hb70.1 hb70.2) (F.qn rfl (r_load ta3 rfl (fun w hw=>cell_tab (g:=xb7_1_0rrr) (m:=64) (box_cells (i:=0) rfl w hw) (tabB 12 64 768 hb69 rfl) hb70)) (F.qn rfl (r_lss rfl rfl) (F.nil (Nrm.seq ?_)))))))
       obtain ⟨⟨y10,yb7_1_0⟩,hE_5,hE_4⟩:=bind_some hE_4
       refine Tri.cut (fun e' C'=>∃ (v10_1 : Value) (S10_1 : Nat → Prop),SlLen v10_1 (y10).length∧e' = [(3,.pointer (some ⟨b3_1,0,none⟩)),(6,.pointer (some ⟨b6_1,0,none⟩)),(7,.pointer (some ⟨b7_1,0,none⟩)),(10,v10_1),(11,.int .i64 t43.1),(12,.int .i64 t47.2),(54,v54_1),(55,.int .i64 (t54.length : Int)),(56,.int .i64 x56)]∧C' = Sep w noM [R.box b7_1 132 (encA yb7_1_0),R.box b6_1 132 (encA (Arr.rep 768 0)),R.box b3_1 27 [.int .i64 a0_0,va0_1,va0_2],R.sl S10_1 v10_1 (y10 : List (Int × Int)),R.sl S54_1 v54_1 (t54 : List (Int))]) ?_ (fun hj_1=>?_)
       ·rintro _ _ ⟨v10_1,S10_1,hl_v10_1,rfl,rfl⟩
        refine Nrm.block ?_
        refine Nrm.seq (Tri.reg (l:=[0,1]) rfl ?_)
        refine F.qn rfl (r_add rfl rfl) (F.qn rfl (r_move rfl) (F.nil (Nrm.round ?_)))
        refine Rnd.only [3,6,7,10,11,12,54,55,56] rfl ?_
        refine Rnd.pick [0,1,2,4,3] rfl rfl ?_
        exact ih_4 _ _ ⟨y10,w64 (x56 + 1),yb7_1_0,v10_1,S10_1,hE_4,hl_v10_1,rfl,rfl⟩
       ·refine Tri.cond (b:=decide ((Arr.at xb7_1_0rrr (t58 * 64 + (bor t47.2 t64))) < 0)) rfl (fun g_5=>?_) (fun g_5=>?_)
        ·replace hE_5:=if_tt g_5 hE_5
         refine Tri.seq ?_
         obtain ⟨hb77,hE_5⟩:=ck hE_5
         obtain ⟨hb78,hE_5⟩:=ck hE_5
         obtain ⟨hb81,hE_5⟩:=ck hE_5
         obtain ⟨hb82,hE_5⟩:=ck hE_5
         refine Tri.drawA mixedT Sep.up [(0,true),(1,true),(2,true),(3,true),(4,true),(5,true),(6,true),(7,true),(8,true),(9,true)] [10] (by kernel_rfl) ?_
         iterate 4 refine S.qn rfl (r_move rfl) ?_
         refine S.qn rfl (r_indexAddrA Tryz.underlying132 ti130 rfl rfl hb77.1 hb77.2) ?_
         refine S.qn rfl (r_indexAddrA Tryz.underlying130 ti3 rfl rfl hb78.1 hb78.2) (S.qn rfl (r_load ta3 rfl (fun w hw=>cell_tab (g:=xb7_1_0rrr) (m:=64) (box_cells (i:=0) rfl w hw) (tabB 12 64 768 hb77 rfl) hb78)) (S.qn rfl (r_add rfl rfl) (S.qn rfl (r_indexAddrA Tryz.underlying132 ti130 rfl rfl hb81.1 hb81.2) (S.qn rfl (r_indexAddrA Tryz.underlying130 ti3 rfl rfl hb82.1 hb82.2) (S.nil (F.ef0 rfl rfl (wanted_none rfl) (d_storeTab (i:=0) (m:=64) (g:=xb7_1_0rrr) (r:=t58) (j:=bor t47.2 t64) (u:=w64 ((Arr.at xb7_1_0rrr (t43.1 * 64 + t47.2)) + 1)) ti3 rfl rfl rfl (tabB 12 64 768 hb81 rfl) hb82) ?_))))))
         rintro _ _ ⟨rfl,rfl⟩
         refine F.nil (Nrm.seq ?_)
         obtain ⟨hs88,hE_5⟩:=ck hE_5
         refine Tri.reg (l:=[0,1,2,3,4,5,6]) rfl ?_
         iterate 3 refine F.qn rfl (r_move rfl) ?_
         refine F.qn rfl (r_buildA (qs:=[(0,[.int .i64 t58]),(1,[.int .i64 (bor t47.2 t64)])]) (cs:=[.int .i64 t58,.int .i64 (bor t47.2 t64)]) Tryz.underlying75 ti3 ti75 rfl (.cons rfl rfl (Nat.le_of_ble_eq_true rfl) (.cons rfl rfl (Nat.le_of_ble_eq_true rfl) .nil)) rfl rfl) ?_
         refine F.mn rfl (m_buildF (l:=([(t58,bor t47.2 t64)] : List (Int × Int))) Tryz.underlying72 ti75 rfl rfl rfl rfl rfl) ?_
         rintro v87_1 _ ⟨S87_1,hl_v87_1,rfl⟩
         refine F.efn rfl (d_append (i:=5) Tryz.underlying72 Tryz.underlying72 ti75 rfl (by decide) rfl rfl rfl (rd_sl (i:=0) rfl) hs88) ?_
         rintro v88_1 _ ⟨S88_1,rfl,hl_v88_1⟩
         refine F.qn rfl (r_assign rfl) (F.nil ?_)
         cases hE_5
         refine Nrm.only [3,6,7,10,11,12,54,55,56] rfl ?_
         refine Nrm.pick [1,2,3,5,4] rfl rfl ?_
         exact hj_1 _ _ ⟨v88_1,S88_1,hl_v88_1,rfl,rfl⟩
        ·replace hE_5:=if_ff g_5 hE_5
         refine Tri.skip ?_
         cases hE_5
         refine Nrm.only [3,6,7,10,11,12,54,55,56] rfl ?_
         refine Nrm.pick [0,1,2,4,3] rfl rfl ?_
         exact hj_1 _ _ ⟨w10r,T10r,hl_w10r,rfl,rfl⟩
      ·replace hE_4:=if_ff g_4 hE_4
       refine Tri.exit ?_
       refine Exi.then ?_
       refine Exi.then ?_
       refine Exi.same ?_
       cases hE_4
       refine Nrm.block ?_
       refine Nrm.seq ?_
       obtain ⟨t41,h41,hE_3⟩:=bind_some hE_3
       refine Tri.reg (l:=[0,1,2]) rfl ?_
       refine F.qn rfl (r_move rfl) (F.qn rfl (r_sliceL Tryz.underlying72 ti75 rfl (rd_sl (i:=4) rfl) rfl h41) (F.qn rfl (r_assign rfl) (F.nil (Nrm.imp (fun w hw=>Sep.resl (i:=4) rfl h41 hw) ?_))))
       refine Nrm.round ?_
       refine Rnd.only [3,6,7,10] rfl ?_
       refine Rnd.pick [0,1,2,4] rfl rfl ?_
       exact ih_3 _ _ ⟨t41,xb7_1_0rrr,(slSub w10r 2 (1 : Int).toNat (x10r.length : Int).toNat),T10r,hE_3,(slc_len hl_w10r h41),rfl,rfl⟩
    ·replace hE_3:=if_ff g_3 hE_3
     refine Tri.exit ?_
     refine Exi.then ?_
     refine Exi.then ?_
     refine Exi.same ?_
     cases hE_3
     refine Nrm.seq (Tri.seq (Tri.reg (l:=[0,1]) rfl ?_))
     refine F.qn rfl (r_loadA (cs:=encA xb7_1_0rr) ta132 ti132 rfl (encA_len _) (fun w hw=>(box_cells (i:=0) rfl w hw))) ?_
     refine F.ef0 rfl rfl (wanted_none rfl) (d_storeArr (i:=1) (g:=(Arr.rep 768 0)) (h:=xb7_1_0rr) ti132 rfl rfl rfl) ?_
     rintro _ _ ⟨rfl,rfl⟩
     refine F.nil (Nrm.seq (Tri.ret ?_))
     cases h
     exact Rtn.body (.cell rfl ta132 ti132 (encA_len _) (fun _ hw=>box_cells (i:=1) rfl _ hw) .nil) (fun w hw=>⟨rfl,hw.ext⟩)


def impl_fromStart.f (k : Nat) (a0_0 : Int) (a0_1 : List (Int × Int × Int)) (a0_2 : List Int) : Option ((Arr 768)) := (rdl a0_2 0).bind fun t6 => (impl_distances.f k a0_0 a0_1 a0_2 0 t6).bind fun t8 => some t8

theorem impl_fromStart.ok {k : Nat}  {a0_0 : Int} {a0_1 : List (Int × Int × Int)} {a0_2 : List Int} {r0 : Arr 768} (h : impl_fromStart.f k a0_0 a0_1 a0_2 = some r0) (w : World) {va0_1 : Value} {va0_2 : Value} (hr_a0_1 : Rd w va0_1 a0_1) (hr_a0_2 : Rd w va0_2 a0_2) :
  Calls Tryz.prog 150 ([.agg ([.int .i64 a0_0,va0_1,va0_2].toArray)] : List Value).toArray w (fun e w'=>e = .returned (.agg (encA r0).toArray)∧Ext w w'):=by
 unfold impl_fromStart.f at h
 have hl_va0_1:=hr_a0_1.len
 have hl_va0_2:=hr_a0_2.len
 refine Calls.of_tri (N:=9) Tryz.func150 rfl rfl rfl (Sep.nil (M:=noM)) ?_
 refine Tri.seq (Tri.reg (l:=[0,1]) rfl ?_)
 refine F.mn rfl (m_boxG rfl rfl) ?_
 rintro _ _ ⟨b1_1,rfl,rfl⟩
 refine F.mn rfl (m_alloc ti132) ?_
 rintro _ _ ⟨b2_1,rfl,rfl⟩
 refine F.nil (Nrm.seq (Tri.seq ?_))
 obtain ⟨t6,h6,h⟩:=bind_some h
 obtain ⟨t8,h8,h⟩:=bind_some h
 refine Tri.drawA mixedT Sep.up [(0,true),(1,true),(2,true),(3,true),(4,true),(5,true)] [6] (by kernel_rfl) ?_
 refine S.qn rfl (r_loadA ta27 ti27 rfl rfl (fun w hw=>(box_cells (i:=1) rfl w hw))) (S.qn rfl (r_fieldAddr tf27_2 rfl) (S.qn rfl (r_load ta25 rfl (fun w hw=>cell_1 (box_cells (i:=1) rfl w hw) rfl)) (S.qn rfl (r_indexAddrS Tryz.underlying25 ti3 rfl hl_va0_2 rfl (rdl_some h6).1 (rdl_some h6).2.1) (S.qn rfl (r_load ta3 rfl (fun w hw=>cell_0 (Rd.flat ((fun _ hw=>hr_a0_2.sep hw) w hw) (rdl_some h6).2.2) rfl)) ?_))))
 refine S.qcn rfl (q_callF (xs:=_) rfl ok222 rfl rfl (fun w hw=>impl_distances.ok h8 w ((fun _ hw=>hr_a0_1.sep hw) w hw) ((fun _ hw=>hr_a0_2.sep hw) w hw))) ?_
 refine S.nil (F.ef0 rfl rfl (wanted_none rfl) (d_storeArr (i:=0) (g:=(Arr.rep 768 0)) (h:=t8) ti132 rfl rfl rfl) ?_)
 rintro _ _ ⟨rfl,rfl⟩
 refine F.nil (Nrm.seq (Tri.ret ?_))
 cases h
 exact Rtn.body (.cell rfl ta132 ti132 (encA_len _) (fun _ hw=>box_cells (i:=0) rfl _ hw) .nil) (fun w hw=>⟨rfl,hw.ext⟩)


def impl_better.f (k : Nat) (a0 : Int) (a1 : Int) : Option (Bool) := ((if (decide (a0 ≥ 0)) = true then (if (decide (a1 < 0)) = true then some true else some (decide (a0 < a1))) else some false)).bind fun y4 => some y4

theorem impl_better.ok {k : Nat}  {a0 : Int} {a1 : Int} {r0 : Bool} (h : impl_better.f k a0 a1 = some r0) (w : World) :
  Calls Tryz.prog 223 ([.int .i64 a0,.int .i64 a1] : List Value).toArray w (fun e w'=>e = .returned (.bool r0)∧Ext w w'):=by
 unfold impl_better.f at h
 refine Calls.of_tri (N:=16) Tryz.func223 rfl rfl rfl (Sep.nil (M:=noM)) ?_
 refine Tri.seq (Tri.reg (l:=[0]) rfl ?_)
 refine F.qn rfl (r_assign rfl) (F.nil (Nrm.seq (Tri.seq ?_)))
 obtain ⟨y4,hE_1,h⟩:=bind_some h
 refine Tri.cut (fun e' C'=>e' = [(4,.bool y4)]∧C' = Sep w noM []) ?_ (fun hj_1=>?_)
 ·rintro _ _ ⟨rfl,rfl⟩
  refine Nrm.seq (Tri.ret ?_)
  cases h
  exact Rtn.body (.tmp rfl .nil) (fun w hw=>⟨rfl,hw.ext⟩)
 ·rcases Bool.eq_false_or_eq_true (decide (a0 ≥ 0)) with g7 | g7
  ·replace hE_1:=if_tt g7 hE_1
   rcases Bool.eq_false_or_eq_true (decide (a1 < 0)) with g10 | g10
   ·replace hE_1:=if_tt g10 hE_1
    refine Tri.reg (l:=List.range 12) rfl ?_
    refine F.qn rfl (r_move rfl) (F.qn rfl (r_geq rfl rfl) (F.qn rfl (r_move rfl) (F.qg rfl g7 (r_move rfl) (F.qg rfl g7 (r_lss rfl rfl) (F.qg rfl g7 (r_move rfl) ?_)))))
    iterate 3 refine F.skf rfl g10 ?_
    refine F.qg rfl g7 (r_pick rfl rfl g10) (F.qn rfl (r_pick rfl rfl g7) (F.qn rfl (r_assign rfl) (F.nil ?_)))
    cases hE_1
    refine Nrm.only [4] rfl ?_
    refine Nrm.pick [] rfl rfl ?_
    exact hj_1 _ _ ⟨rfl,rfl⟩
   ·replace hE_1:=if_ff g10 hE_1
    refine Tri.reg (l:=List.range 12) rfl ?_
    refine F.qn rfl (r_move rfl) (F.qn rfl (r_geq rfl rfl) (F.qn rfl (r_move rfl) (F.qg rfl g7 (r_move rfl) (F.qg rfl g7 (r_lss rfl rfl) (F.qg rfl g7 (r_move rfl) ?_)))))
    refine F.qg rfl g10 (r_move rfl) (F.qg rfl g10 (r_move rfl) (F.qg rfl g10 (r_lss rfl rfl) (F.qg rfl g7 (r_pickf rfl rfl g10) (F.qn rfl (r_pick rfl rfl g7) (F.qn rfl (r_assign rfl) (F.nil ?_))))))
    cases hE_1
    refine Nrm.only [4] rfl ?_
    refine Nrm.pick [] rfl rfl ?_
    exact hj_1 _ _ ⟨rfl,rfl⟩
  ·replace hE_1:=if_ff g7 hE_1
   refine Tri.reg (l:=List.range 12) rfl ?_
   refine F.qn rfl (r_move rfl) (F.qn rfl (r_geq rfl rfl) (F.qn rfl (r_move rfl) ?_))
   iterate 3 refine F.skf rfl g7 ?_
   iterate 3 refine F.sk rfl rfl rfl (wanted_undef rfl rfl rfl) ?_
   refine F.skf rfl g7 (F.qn rfl (r_pickf rfl rfl g7) (F.qn rfl (r_assign rfl) (F.nil ?_)))
   cases hE_1
   refine Nrm.only [4] rfl ?_
   refine Nrm.pick [] rfl rfl ?_
   exact hj_1 _ _ ⟨rfl,rfl⟩


def impl_grid_least.l0 (k : Nat) (a0 : Arr 768) (a1 : Int) (a2 : (Int → Option (Bool))) : Nat → Int → Int → Option (Int)
 | 0,_,_=>none
 | n + 1,x7,x13=>(if (decide (x13 < 64)) = true then if 0 ≤ x13∧x13 < 64 then ((a2 x13).bind fun t19=>(if t19 = true then (impl_better.f k (Arr.at a0 (a1 * 64 + x13)) x7).bind fun t23=>some t23 else some false)).bind fun y24=>((if y24 = true then some (Arr.at a0 (a1 * 64 + x13)) else some x7)).bind fun y7=>impl_grid_least.l0 k a0 a1 a2 n y7 (w64 (x13 + 1)) else none else some x7)

def impl_grid_least.f (k : Nat) (a0 : Arr 768) (a1 : Int) (a2 : (Int → Option (Bool))) : Option (Int) := if 0 ≤ a1 ∧ a1 < 12 then (impl_grid_least.l0 k a0 a1 a2 k (-1) 0).bind fun x7 => some x7 else none

theorem impl_grid_least.ok {k : Nat}  {a0 : Arr 768} {a1 : Int} {a2 : (Int → Option (Bool))} {r0 : Int} (h : impl_grid_least.f k a0 a1 a2 = some r0) (w : World) {fi_a2 : FuncId} {ca_a2 : Array Value} (ho_a2 : CallOk Tryz.prog fi_a2) (hf_a2 : ∀ w2, Ext w w2 → ∀ (z0 : Int) (y : Bool), a2 z0 = some y → Calls Tryz.prog fi_a2 (([.int .i64 z0] : List Value) ++ ca_a2.toList).toArray w2 (fun e w3 => e = .returned (.bool y) ∧ Ext w2 w3)) :
  Calls Tryz.prog 151 ([.agg (encA a0).toArray,.int .i64 a1,.func (.func fi_a2) #[] ca_a2] : List Value).toArray w (fun e w'=>e = .returned (.int .i64 r0)∧Ext w w'):=by
 unfold impl_grid_least.f at h
 refine Calls.of_tri (N:=28) Tryz.func151 rfl rfl rfl (Sep.nil (M:=noM)) ?_
 refine Tri.seq (Tri.reg (l:=[0,1]) rfl ?_)
 refine F.mn rfl (m_boxG rfl rfl) ?_
 rintro _ _ ⟨b3_1,rfl,rfl⟩
 refine F.qn rfl (r_assign rfl) (F.nil (Nrm.seq (Tri.seq (Tri.reg (l:=[0]) rfl ?_))))
 refine F.qn rfl (r_assign rfl) (F.nil (Nrm.seq (Tri.seq (Tri.seq ?_))))
 obtain ⟨hb11,h⟩:=ck h
 refine Tri.reg (l:=[0,1,2,3]) rfl ?_
 refine F.qn rfl (r_move rfl) (F.qn rfl (r_indexAddrA Tryz.underlying132 ti130 rfl rfl hb11.1 hb11.2) (F.qn rfl (r_loadRow (a:=a0) ta130 ti130 rfl (tabB 12 64 768 hb11 rfl) (fun w hw=>(box_cells (i:=0) rfl w hw))) (F.qn rfl (r_move rfl) (F.nil (Nrm.seq ?_)))))
 obtain ⟨x7,hE_1,h⟩:=bind_some h
 refine Tri.block ?_
 refine Tri.only [2,7,12,13] rfl ?_
 refine Tri.pick [] rfl rfl ?_
 refine Tri.rounds (fun n e' C'=>∃ (x7' : Int) (x13' : Int),impl_grid_least.l0 k a0 a1 a2 n x7' x13' = some x7∧e' = [(2,.func (.func fi_a2) #[] ca_a2),(7,.int .i64 x7'),(12,.agg (rowA a0 a1 64)),(13,.int .i64 x13')]∧C' = Sep w noM []) k ?_ ?_ ?_
 ·exact ⟨(-1),0,hE_1,rfl,rfl⟩
 ·rintro _ _ ⟨_,_,hE_1,_⟩
  rw [impl_grid_least.l0.eq_1] at hE_1; cases hE_1
 ·rintro n_1 _ _ ⟨x7,x13,hE_1,rfl,rfl⟩ ih_1
  rw [impl_grid_least.l0.eq_2] at hE_1
  refine Tri.seq (Tri.reg (l:=[0]) rfl ?_)
  refine F.qn rfl (r_lss rfl rfl) (F.nil (Nrm.seq (Tri.seq (Tri.cond (b:=decide (x13 < 64)) rfl (fun g_1=>?_) (fun g_1=>?_)))))
  ·replace hE_1:=if_tt g_1 hE_1
   refine Tri.skip (Nrm.seq (Tri.seq (Tri.block ?_)))
   refine Tri.seq ?_
   obtain ⟨hb16,hE_1⟩:=ck hE_1
   refine Tri.reg (l:=[0,1,2,3]) rfl ?_
   refine F.qn rfl (r_move rfl) (F.qn rfl (r_indexR (g:=a0) (i:=a1) (m:=64) Tryz.underlying130 ti3 ta3 rfl rfl (tabB 12 64 768 hb11 rfl) hb16) (F.qn rfl (r_assign rfl) (F.qn rfl (r_assign rfl) (F.nil (Nrm.seq (Tri.seq ?_))))))
   obtain ⟨y24,hE_2,hE_1⟩:=bind_some hE_1
   refine Tri.cut (fun e' C'=>e' = [(2,.func (.func fi_a2) #[] ca_a2),(7,.int .i64 x7),(9,.int .i64 (Arr.at a0 (a1 * 64 + x13))),(12,.agg (rowA a0 a1 64)),(13,.int .i64 x13),(24,.bool y24)]∧C' = Sep w noM []) ?_ (fun hj_1=>?_)
   ·rintro _ _ ⟨rfl,rfl⟩
    refine Nrm.seq ?_
    obtain ⟨y7,hE_3,hE_1⟩:=bind_some hE_1
    refine Tri.cut (fun e' C'=>e' = [(2,.func (.func fi_a2) #[] ca_a2),(7,.int .i64 y7),(12,.agg (rowA a0 a1 64)),(13,.int .i64 x13)]∧C' = Sep w noM []) ?_ (fun hj_2=>?_)
    ·rintro _ _ ⟨rfl,rfl⟩
     refine Nrm.block ?_
     refine Nrm.seq (Tri.reg (l:=[0,1]) rfl ?_)
     refine F.qn rfl (r_add rfl rfl) (F.qn rfl (r_move rfl) (F.nil (Nrm.round ?_)))
     refine Rnd.only [2,7,12,13] rfl ?_
     refine Rnd.pick [] rfl rfl ?_
     exact ih_1 _ _ ⟨y7,w64 (x13 + 1),hE_1,rfl,rfl⟩
    ·refine Tri.cond (b:=y24) rfl (fun g_2=>?_) (fun g_2=>?_)
     ·replace hE_3:=if_tt g_2 hE_3
      refine Tri.reg (l:=[0,1]) rfl ?_
      refine F.qn rfl (r_move rfl) (F.qn rfl (r_assign rfl) (F.nil ?_))
      cases hE_3
      refine Nrm.only [2,7,12,13] rfl ?_
      refine Nrm.pick [] rfl rfl ?_
      exact hj_2 _ _ ⟨rfl,rfl⟩
     ·replace hE_3:=if_ff g_2 hE_3
      refine Tri.skip ?_
      cases hE_3
      refine Nrm.only [2,7,12,13] rfl ?_
      refine Nrm.pick [] rfl rfl ?_
      exact hj_2 _ _ ⟨rfl,rfl⟩
   ·obtain ⟨t19,h19,hE_2⟩:=bind_some hE_2
    rcases Bool.eq_false_or_eq_true (t19) with g20 | g20
    ·replace hE_2:=if_tt g20 hE_2
     obtain ⟨t23,h23,hE_2⟩:=bind_some hE_2
     refine Tri.reg (l:=[0,1,2,3,4,5,6,7]) rfl ?_
     refine F.qn rfl (r_move rfl) (F.qn rfl (r_move rfl) ?_)
     refine F.qcn rfl (q_callC (xs:=_) rfl ho_a2 rfl rfl (fun w hw=>hf_a2 w hw.ext _  _ h19)) ?_
     refine F.qn rfl (r_move rfl) (F.qg rfl g20 (r_move rfl) (F.qg rfl g20 (r_move rfl) ?_))
     refine F.qc rfl rfl rfl (wg rfl rfl rfl g20) (q_callF (xs:=_) rfl ok223 rfl rfl (fun w hw=>impl_better.ok h23 w)) ?_
     refine F.qn rfl (r_pick rfl rfl g20) (F.nil ?_)
     cases hE_2
     refine Nrm.only [2,7,9,12,13,24] rfl ?_
     refine Nrm.pick [] rfl rfl ?_
     exact hj_1 _ _ ⟨rfl,rfl⟩
    ·replace hE_2:=if_ff g20 hE_2
     refine Tri.reg (l:=[0,1,2,3,4,5,6,7]) rfl ?_
     refine F.qn rfl (r_move rfl) (F.qn rfl (r_move rfl) ?_)
     refine F.qcn rfl (q_callC (xs:=_) rfl ho_a2 rfl rfl (fun w hw=>hf_a2 w hw.ext _  _ h19)) ?_
     refine F.qn rfl (r_move rfl) ?_
     iterate 3 refine F.skf rfl g20 ?_
     refine F.qn rfl (r_pickf rfl rfl g20) (F.nil ?_)
     cases hE_2
     refine Nrm.only [2,7,9,12,13,24] rfl ?_
     refine Nrm.pick [] rfl rfl ?_
     exact hj_1 _ _ ⟨rfl,rfl⟩
  ·replace hE_1:=if_ff g_1 hE_1
   refine Tri.exit ?_
   refine Exi.then ?_
   refine Exi.then ?_
   refine Exi.same ?_
   cases hE_1
   refine Nrm.seq (Tri.seq (Tri.reg (l:=[0,1]) rfl ?_))
   refine F.qn rfl (r_move rfl) (F.qn rfl (r_assign rfl) (F.nil (Nrm.seq (Tri.ret ?_))))
   cases h
   exact Rtn.body (.tmp rfl .nil) (fun w hw=>⟨rfl,hw.ext⟩)


def impl_anySet.f (k : Nat) (a0 : Int) : Option (Bool) := some true

theorem impl_anySet.ok {k : Nat}  {a0 : Int} {r0 : Bool} (h : impl_anySet.f k a0 = some r0) (w : World) :
  Calls Tryz.prog 152 ([.int .i64 a0] : List Value).toArray w (fun e w'=>e = .returned (.bool r0)∧Ext w w'):=by
 unfold impl_anySet.f at h
 refine Calls.of_tri (N:=3) Tryz.func152 rfl rfl rfl (Sep.nil (M:=noM)) ?_
 refine Tri.seq (Tri.reg (l:=[0]) rfl ?_)
 refine F.qn rfl (r_assign rfl) (F.nil (Nrm.seq (Tri.seq (Tri.reg (l:=[0]) rfl ?_))))
 refine F.qn rfl (r_assign rfl) (F.nil (Nrm.seq (Tri.ret ?_)))
 cases h
 exact Rtn.body (.tmp rfl .nil) (fun w hw=>⟨rfl,hw.ext⟩)


def impl_FewestSteps.f (k : Nat) (a0_0 : Int) (a0_1 : List (Int × Int × Int)) (a0_2 : List Int) : Option (Int × Bool) := (impl_IsMaze.f k a0_0 a0_1 a0_2).bind fun t5 => (if (!t5) = true then some (0, false) else (impl_fromStart.f k a0_0 a0_1 a0_2).bind fun t8 => (impl_grid_least.f k t8 (w64 (a0_0 - 1)) (fun z0 => impl_anySet.f k z0)).bind fun t12 => (impl_told.f k t12).bind fun (t13_1, t13_2) => some (t13_1, t13_2))

theorem impl_FewestSteps.ok {k : Nat}  {a0_0 : Int} {a0_1 : List (Int × Int × Int)} {a0_2 : List Int} {r0 : Int} {r1 : Bool} (h : impl_FewestSteps.f k a0_0 a0_1 a0_2 = some (r0, r1)) (w : World) {va0_1 : Value} {va0_2 : Value} (hr_a0_1 : Rd w va0_1 a0_1) (hr_a0_2 : Rd w va0_2 a0_2) :
  Calls Tryz.prog 68 ([.agg ([.int .i64 a0_0,va0_1,va0_2].toArray)] : List Value).toArray w (fun e w'=>e = .returned (.tuple #[.int .i64 r0,.bool r1])∧Ext w w'):=by
 unfold impl_FewestSteps.f at h
 have hl_va0_1:=hr_a0_1.len
 have hl_va0_2:=hr_a0_2.len
 refine Calls.of_tri (N:=16) Tryz.func68 rfl rfl rfl (Sep.nil (M:=noM)) ?_
 refine Tri.seq (Tri.reg (l:=[0,1,2]) rfl ?_)
 refine F.mn rfl (m_boxG rfl rfl) ?_
 rintro _ _ ⟨b1_1,rfl,rfl⟩
 refine F.qn rfl (r_assign rfl) (F.qn rfl (r_assign rfl) (F.nil (Nrm.seq (Tri.seq (Tri.seq ?_)))))
 obtain ⟨t5,h5,h⟩:=bind_some h
 refine Tri.reg (l:=[0,1,2]) rfl ?_
 refine F.qn rfl (r_loadA ta27 ti27 rfl rfl (fun w hw=>(box_cells (i:=0) rfl w hw))) ?_
 refine F.qcn rfl (q_callF (xs:=_) rfl ok102 rfl rfl (fun w hw=>impl_IsMaze.ok h5 w ((fun _ hw=>hr_a0_1.sep hw) w hw) ((fun _ hw=>hr_a0_2.sep hw) w hw))) ?_
 refine F.qn rfl (r_not rfl) (F.nil (Nrm.seq (Tri.cond (b:=!t5) rfl (fun g_1=>?_) (fun g_1=>?_))))
 ·replace h:=if_tt g_1 h
  refine Tri.seq (Tri.reg (l:=[0,1]) rfl ?_)
  refine F.qn rfl (r_assign rfl) (F.qn rfl (r_assign rfl) (F.nil (Nrm.seq (Tri.ret ?_))))
  refine Rtn.then ?_
  cases h
  exact Rtn.body (.tmp rfl (.tmp rfl .nil)) (fun w hw=>⟨rfl,hw.ext⟩)
 ·replace h:=if_ff g_1 h
  refine Tri.skip (Nrm.seq (Tri.seq ?_))
  obtain ⟨t8,h8,h⟩:=bind_some h
  obtain ⟨t12,h12,h⟩:=bind_some h
  obtain ⟨⟨t13_1,t13_2⟩,h13,h⟩:=bind_some h
  refine Tri.drawA mixedT Sep.up [(0,true),(1,true),(2,true),(3,true),(4,true),(5,true),(6,true),(7,true),(8,true),(9,true),(10,true)] [] (by kernel_rfl) ?_
  refine S.qn rfl (r_loadA ta27 ti27 rfl rfl (fun w hw=>(box_cells (i:=0) rfl w hw))) ?_
  refine S.qcn rfl (q_callF (xs:=_) rfl ok150 rfl rfl (fun w hw=>impl_fromStart.ok h8 w ((fun _ hw=>hr_a0_1.sep hw) w hw) ((fun _ hw=>hr_a0_2.sep hw) w hw))) ?_
  refine S.qn rfl (r_fieldAddr tf27_0 rfl) (S.qn rfl (r_load ta3 rfl (fun w hw=>cell_1 (box_cells (i:=0) rfl w hw) rfl)) (S.qn rfl (r_sub rfl rfl) ?_))
  refine S.qcn rfl (q_callF (xs:=_) rfl ok151 rfl rfl (fun w hw=>impl_grid_least.ok h12 w ok152 (fun w2 he2 z0 y2 hy2=>impl_anySet.ok hy2 w2))) ?_
  refine S.qcn rfl (q_callF (xs:=_) rfl ok133 rfl rfl (fun w hw=>impl_told.ok h13 w)) ?_
  refine S.qn rfl (r_extract rfl rfl) (S.qn rfl (r_extract rfl rfl) (S.qn rfl (r_assign rfl) (S.qn rfl (r_assign rfl) (S.nil (F.nil (Nrm.seq (Tri.ret ?_)))))))
  cases h
  exact Rtn.body (.tmp rfl (.tmp rfl .nil)) (fun w hw=>⟨rfl,hw.ext⟩)


def spec_l1Cur_next.f (k : Nat) (a0_0 : List By) (a0_1 : Int) (a0_2 : Int) : Option (Int × Int × Int) := ((if (decide (a0_1 < (a0_0.length : Int))) = true then (rdl a0_0 a0_1).bind fun t22 => some (IntKind.i64.wrap t22.v) else some (0 : Int))).bind fun y3 => (if (decide ((w64 (a0_1 + 1)) ≤ (a0_0.length : Int))) = true then some (y3, w64 (a0_1 + 1), wU ((wU ((wU (a0_2 * 6364136223846793005)) + (IntKind.u64.wrap y3))) + 462197)) else some (IntKind.i64.wrap (uand (shr (wU ((wU ((wU (a0_2 * 6364136223846793005)) + (IntKind.u64.wrap y3))) + 462197)) 40) 255), w64 (a0_1 + 1), wU ((wU ((wU (a0_2 * 6364136223846793005)) + (IntKind.u64.wrap y3))) + 462197)))

theorem spec_l1Cur_next.ok {k : Nat}  {a0_0 : List By} {a0_1 : Int} {a0_2 : Int} {r0 : Int} {r1 : Int} {r2 : Int} (h : spec_l1Cur_next.f k a0_0 a0_1 a0_2 = some (r0, r1, r2)) (w : World) {pa0 : Nat} {va0_0 : Value} (hr_a0_0 : RdM w (footM [R.box pa0 114 [va0_0, .int .i64 a0_1, .int .u64 a0_2]]) va0_0 a0_0) (hw0 : Sep w (footM [R.box pa0 114 [va0_0, .int .i64 a0_1, .int .u64 a0_2]]) [R.box pa0 114 [va0_0, .int .i64 a0_1, .int .u64 a0_2]] w) :
  Calls Tryz.prog 206 ([.pointer (some ⟨pa0,0,none⟩)] : List Value).toArray w (PostM (footM [R.box pa0 114 [va0_0,.int .i64 a0_1,.int .u64 a0_2]]) (fun u ns=>u = .int .i64 r0∧ns = [R.box pa0 114 [va0_0,.int .i64 r1,.int .u64 r2]]) w):=by
 unfold spec_l1Cur_next.f at h
 have hl_va0_0:=hr_a0_0.len
 refine Calls.of_tri (N:=62) Tryz.func206 rfl rfl rfl hw0 ?_
 refine Tri.seq (Tri.reg (l:=[0]) rfl ?_)
 refine F.qn rfl (r_assign rfl) (F.nil (Nrm.seq (Tri.seq (Tri.reg (l:=[0]) rfl ?_))))
 refine F.qn rfl (r_assign rfl) (F.nil (Nrm.seq (Tri.seq (Tri.seq (Tri.drawA mixedT Sep.up [(0,true),(1,true),(2,true),(3,true),(4,true),(5,true),(6,true),(7,true),(8,true),(9,true)] [] (by kernel_rfl) ?_)))))
 refine S.qn rfl (r_move rfl) (S.qn rfl (r_nilC rfl) (S.qn rfl (r_fieldAddr tf114_1 rfl) (S.qn rfl (r_load ta3 rfl (fun w hw=>cell_1 (box_cells (i:=0) rfl w hw) rfl)) ?_)))
 refine S.qn rfl (r_move rfl) (S.qn rfl (r_nilC rfl) (S.qn rfl (r_fieldAddr tf114_0 rfl) (S.qn rfl (r_load ta22 rfl (fun w hw=>cell_1 (box_cells (i:=0) rfl w hw) rfl)) (S.qn rfl (r_len Tryz.underlying22 rfl hl_va0_0) (S.qn rfl (r_lss rfl rfl) (S.nil (F.nil (Nrm.seq ?_))))))))
 obtain ⟨y3,hE_1,h⟩:=bind_some h
 refine Tri.cut (fun e' C'=>e' = [(0,.pointer (some ⟨pa0,0,none⟩)),(3,.int .i64 y3)]∧C' = Sep w (footM [R.box pa0 114 [va0_0,.int .i64 a0_1,.int .u64 a0_2]]) [R.box pa0 114 [va0_0,.int .i64 a0_1,.int .u64 a0_2]]) ?_ (fun hj_1=>?_)
 ·rintro _ _ ⟨rfl,rfl⟩
  refine Nrm.seq (Tri.seq (Tri.reg (l:=[0,1,2,3,4,5,6,7]) rfl ?_))
  refine F.qn rfl (r_move rfl) ?_
  refine F.qn rfl (r_nilC rfl) (F.qn rfl (r_fieldAddr tf114_1 rfl) (F.qn rfl (r_load ta3 rfl (fun w hw=>cell_1 (box_cells (i:=0) rfl w hw) rfl)) (F.qn rfl (r_add rfl rfl) (F.qn rfl (r_nilC rfl) (F.qn rfl (r_fieldAddr tf114_1 rfl) ?_)))))
  refine F.ef0 rfl rfl (wanted_none rfl) (d_storeG1 (i:=0) (cs2:=[.int .i64 (w64 (a0_1 + 1))]) ti3 rfl rfl rfl rfl rfl (Nat.le_of_ble_eq_true rfl) (lf_cons rfl lf_nil)) ?_
  rintro _ _ ⟨rfl,rfl⟩
  refine F.nil (Nrm.seq (Tri.seq (Tri.reg (l:=List.range 13) rfl ?_)))
  refine F.qn rfl (r_move rfl) (F.qn rfl (r_move rfl) (F.qn rfl (r_nilC rfl) (F.qn rfl (r_fieldAddr tf114_2 rfl) (F.qn rfl (r_load ta112 rfl (fun w hw=>cell_1 (box_cells (i:=0) rfl w hw) rfl)) (F.qn rfl (r_mulU rfl rfl) ?_)))))
  refine F.qn rfl (r_move rfl) (F.qn rfl (r_conv Tryz.underlying3 Tryz.underlying112 rfl) (F.qn rfl (r_addU rfl rfl) (F.qn rfl (r_addU rfl rfl) (F.qn rfl (r_nilC rfl) (F.qn rfl (r_fieldAddr tf114_2 rfl) ?_)))))
  refine F.ef0 rfl rfl (wanted_none rfl) (d_storeG1 (i:=0) (cs2:=[.int .u64 (wU ((wU ((wU (a0_2 * 6364136223846793005)) + (IntKind.u64.wrap y3))) + 462197))]) ti112 rfl rfl rfl rfl rfl (Nat.le_of_ble_eq_true rfl) (lf_cons rfl lf_nil)) ?_
  rintro _ _ ⟨rfl,rfl⟩
  refine F.nil (Nrm.seq (Tri.seq (Tri.seq (Tri.drawA mixedT Sep.up [(0,true),(1,true),(2,true),(3,true),(4,true),(5,true),(6,true),(7,true),(8,true),(9,true)] [] (by kernel_rfl) ?_))))
  refine S.qn rfl (r_move rfl) (S.qn rfl (r_nilC rfl) (S.qn rfl (r_fieldAddr tf114_1 rfl) (S.qn rfl (r_load ta3 rfl (fun w hw=>cell_1 (box_cells (i:=0) rfl w hw) rfl)) ?_)))
  refine S.qn rfl (r_move rfl) (S.qn rfl (r_nilC rfl) (S.qn rfl (r_fieldAddr tf114_0 rfl) (S.qn rfl (r_load ta22 rfl (fun w hw=>cell_1 (box_cells (i:=0) rfl w hw) rfl)) (S.qn rfl (r_len Tryz.underlying22 rfl hl_va0_0) (S.qn rfl (r_leq rfl rfl) (S.nil (F.nil (Nrm.seq (Tri.cond (b:=decide ((w64 (a0_1 + 1)) ≤ (a0_0.length : Int))) rfl (fun g_2=>?_) (fun g_2=>?_))))))))))
  ·replace h:=if_tt g_2 h
   refine Tri.seq (Tri.reg (l:=[0,1]) rfl ?_)
   refine F.qn rfl (r_move rfl) (F.qn rfl (r_assign rfl) (F.nil (Nrm.seq (Tri.ret ?_))))
   refine Rtn.then ?_
   cases h
   exact Rtn.body (.tmp rfl .nil) (fun w hw=>⟨_,_,rfl,⟨rfl,rfl⟩,Sep.pick (is:=[0]) rfl rfl hw⟩)
  ·replace h:=if_ff g_2 h
   refine Tri.skip (Nrm.seq (Tri.seq (Tri.reg (l:=[0,1,2,3,4,5,6,7]) rfl ?_)))
   refine F.qn rfl (r_move rfl) (F.qn rfl (r_nilC rfl) ?_)
   refine F.qn rfl (r_fieldAddr tf114_2 rfl) (F.qn rfl (r_load ta112 rfl (fun w hw=>cell_1 (box_cells (i:=0) rfl w hw) rfl)) (F.qn rfl (r_shrU rfl rfl (by decide)) (F.qn rfl (r_andU rfl rfl) (F.qn rfl (r_conv Tryz.underlying112 Tryz.underlying3 rfl) (F.qn rfl (r_assign rfl) (F.nil (Nrm.seq (Tri.ret ?_))))))))
   cases h
   exact Rtn.body (.tmp rfl .nil) (fun w hw=>⟨_,_,rfl,⟨rfl,rfl⟩,Sep.pick (is:=[0]) rfl rfl hw⟩)
 ·refine Tri.cond (b:=decide (a0_1 < (a0_0.length : Int))) rfl (fun g_1=>?_) (fun g_1=>?_)
  ·replace hE_1:=if_tt g_1 hE_1
   obtain ⟨t22,h22,hE_1⟩:=bind_some hE_1
   refine Tri.drawA mixedT Sep.up [(0,true),(1,true),(2,true),(3,true),(4,true),(5,true),(6,true),(7,true),(8,true),(9,true),(10,true),(11,true)] [] (by kernel_rfl) ?_
   refine S.qn rfl (r_move rfl) (S.qn rfl (r_nilC rfl) (S.qn rfl (r_fieldAddr tf114_0 rfl) (S.qn rfl (r_load ta22 rfl (fun w hw=>cell_1 (box_cells (i:=0) rfl w hw) rfl)) (S.qn rfl (r_move rfl) (S.qn rfl (r_nilC rfl) ?_)))))
   refine S.qn rfl (r_fieldAddr tf114_1 rfl) (S.qn rfl (r_load ta3 rfl (fun w hw=>cell_1 (box_cells (i:=0) rfl w hw) rfl)) (S.qn rfl (r_indexAddrS Tryz.underlying22 ti5 rfl hl_va0_0 rfl (rdl_some h22).1 (rdl_some h22).2.1) (S.qn rfl (r_load ta5 rfl (fun w hw=>cell_0 (Rd.flat ((fun _ hw=>hr_a0_0.sep hw) w hw) (rdl_some h22).2.2) rfl)) (S.qn rfl (r_conv Tryz.underlying5 Tryz.underlying3 rfl) (S.qn rfl (r_assign rfl) (S.nil (F.nil ?_)))))))
   cases hE_1
   refine Nrm.only [0,3] rfl ?_
   refine Nrm.pick [0] rfl rfl ?_
   exact hj_1 _ _ ⟨rfl,rfl⟩
  ·replace hE_1:=if_ff g_1 hE_1
   refine Tri.skip ?_
   cases hE_1
   refine Nrm.only [0,3] rfl ?_
   refine Nrm.pick [0] rfl rfl ?_
   exact hj_1 _ _ ⟨rfl,rfl⟩


def spec_l1Cur_pick.f (k : Nat) (a0_0 : List By) (a0_1 : Int) (a0_2 : Int) (a1 : Int) : Option (Int × Int × Int) := (if (decide (a1 ≤ 1)) = true then some (0, a0_1, a0_2) else (spec_l1Cur_next.f k a0_0 a0_1 a0_2).bind fun (t9_1, t9_2, t9_3) => ((if (decide (a1 > 200)) = true then (spec_l1Cur_next.f k a0_0 t9_2 t9_3).bind fun (t15_1, t15_2, t15_3) => some (w64 ((w64 (t9_1 * 256)) + t15_1), t15_2, t15_3) else some (t9_1, t9_2, t9_3))).bind fun (y5, ypa0_1, ypa0_2) => if ¬ a1 = 0 then some (rem y5 a1, ypa0_1, ypa0_2) else none)

theorem spec_l1Cur_pick.ok {k : Nat}  {a0_0 : List By} {a0_1 : Int} {a0_2 : Int} {a1 : Int} {r0 : Int} {r1 : Int} {r2 : Int} (h : spec_l1Cur_pick.f k a0_0 a0_1 a0_2 a1 = some (r0, r1, r2)) (w : World) {pa0 : Nat} {va0_0 : Value} (hr_a0_0 : RdM w (footM [R.box pa0 114 [va0_0, .int .i64 a0_1, .int .u64 a0_2]]) va0_0 a0_0) (hw0 : Sep w (footM [R.box pa0 114 [va0_0, .int .i64 a0_1, .int .u64 a0_2]]) [R.box pa0 114 [va0_0, .int .i64 a0_1, .int .u64 a0_2]] w) :
  Calls Tryz.prog 115 ([.pointer (some ⟨pa0,0,none⟩),.int .i64 a1] : List Value).toArray w (PostM (footM [R.box pa0 114 [va0_0,.int .i64 a0_1,.int .u64 a0_2]]) (fun u ns=>u = .int .i64 r0∧ns = [R.box pa0 114 [va0_0,.int .i64 r1,.int .u64 r2]]) w):=by
 unfold spec_l1Cur_pick.f at h
 have hl_va0_0:=hr_a0_0.len
 refine Calls.of_tri (N:=20) Tryz.func115 rfl rfl rfl hw0 ?_
 refine Tri.seq (Tri.reg (l:=[0]) rfl ?_)
 refine F.qn rfl (r_assign rfl) (F.nil (Nrm.seq (Tri.seq (Tri.seq (Tri.reg (l:=[0,1]) rfl ?_)))))
 refine F.qn rfl (r_move rfl) (F.qn rfl (r_leq rfl rfl) (F.nil (Nrm.seq (Tri.cond (b:=decide (a1 ≤ 1)) rfl (fun g_1=>?_) (fun g_1=>?_)))))
 ·replace h:=if_tt g_1 h
  refine Tri.seq (Tri.reg (l:=[0]) rfl ?_)
  refine F.qn rfl (r_assign rfl) (F.nil (Nrm.seq (Tri.ret ?_)))
  refine Rtn.then ?_
  cases h
  exact Rtn.body (.tmp rfl .nil) (fun w hw=>⟨_,_,rfl,⟨rfl,rfl⟩,Sep.pick (is:=[0]) rfl rfl hw⟩)
 ·replace h:=if_ff g_1 h
  refine Tri.skip (Nrm.seq (Tri.seq ?_))
  obtain ⟨⟨t9_1,t9_2,t9_3⟩,h9,h⟩:=bind_some h
  refine Tri.reg (l:=[0,1,2]) rfl ?_
  refine F.qn rfl (r_move rfl) ?_
  refine F.efn rfl (d_callM (xs:=_) (cs:=[R.box pa0 114 [va0_0,.int .i64 a0_1,.int .u64 a0_2]]) (rest:=[]) [0] [] rfl ok206 rfl rfl rfl rfl (fun w hw=>spec_l1Cur_next.ok h9 w (hr_a0_0.down hw) (Sep.sub hw))) ?_
  rintro _ _ ⟨_,⟨rfl,rfl⟩,rfl⟩
  refine F.qn rfl (r_assign rfl) (F.nil (Nrm.seq (Tri.seq (Tri.seq (Tri.reg (l:=[0,1]) rfl ?_)))))
  refine F.qn rfl (r_move rfl) (F.qn rfl (r_gtr rfl rfl) (F.nil (Nrm.seq ?_)))
  obtain ⟨⟨y5,ypa0_1,ypa0_2⟩,hE_1,h⟩:=bind_some h
  refine Tri.cut (fun e' C'=>e' = [(1,.int .i64 a1),(5,.int .i64 y5)]∧C' = Sep w (footM [R.box pa0 114 [va0_0,.int .i64 a0_1,.int .u64 a0_2]]) [R.box pa0 114 [va0_0,.int .i64 ypa0_1,.int .u64 ypa0_2]]) ?_ (fun hj_1=>?_)
  ·rintro _ _ ⟨rfl,rfl⟩
   refine Nrm.seq (Tri.seq ?_)
   obtain ⟨hs19,h⟩:=ck h
   refine Tri.reg (l:=[0,1,2,3]) rfl ?_
   refine F.qn rfl (r_move rfl) (F.qn rfl (r_move rfl) (F.qn rfl (r_rem rfl rfl hs19) (F.qn rfl (r_assign rfl) (F.nil (Nrm.seq (Tri.ret ?_))))))
   cases h
   exact Rtn.body (.tmp rfl .nil) (fun w hw=>⟨_,_,rfl,⟨rfl,rfl⟩,Sep.pick (is:=[0]) rfl rfl hw⟩)
  ·refine Tri.cond (b:=decide (a1 > 200)) rfl (fun g_2=>?_) (fun g_2=>?_)
   ·replace hE_1:=if_tt g_2 hE_1
    obtain ⟨⟨t15_1,t15_2,t15_3⟩,h15,hE_1⟩:=bind_some hE_1
    refine Tri.reg (l:=[0,1,2,3,4,5]) rfl ?_
    refine F.qn rfl (r_move rfl) (F.qn rfl (r_mul rfl rfl) (F.qn rfl (r_move rfl) ?_))
    refine F.efn rfl (d_callM (xs:=_) (cs:=[R.box pa0 114 [va0_0,.int .i64 t9_2,.int .u64 t9_3]]) (rest:=[]) [0] [] rfl ok206 rfl rfl rfl rfl (fun w hw=>spec_l1Cur_next.ok h15 w (hr_a0_0.down hw) (Sep.sub hw))) ?_
    rintro _ _ ⟨_,⟨rfl,rfl⟩,rfl⟩
    refine F.qn rfl (r_add rfl rfl) (F.qn rfl (r_assign rfl) (F.nil ?_))
    cases hE_1
    refine Nrm.only [1,5] rfl ?_
    refine Nrm.pick [0] rfl rfl ?_
    exact hj_1 _ _ ⟨rfl,rfl⟩
   ·replace hE_1:=if_ff g_2 hE_1
    refine Tri.skip ?_
    cases hE_1
    refine Nrm.only [1,5] rfl ?_
    refine Nrm.pick [0] rfl rfl ?_
    exact hj_1 _ _ ⟨rfl,rfl⟩


def spec_l1Cur_among.f (k : Nat) (a0_0 : List By) (a0_1 : Int) (a0_2 : Int) (a1 : List Int) : Option (Int × Int × Int) := (spec_l1Cur_pick.f k a0_0 a0_1 a0_2 (a1.length : Int)).bind fun (t9_1, t9_2, t9_3) => (rdl a1 t9_1).bind fun t10 => some (t10, t9_2, t9_3)

theorem spec_l1Cur_among.ok {k : Nat}  {a0_0 : List By} {a0_1 : Int} {a0_2 : Int} {a1 : List Int} {r0 : Int} {r1 : Int} {r2 : Int} (h : spec_l1Cur_among.f k a0_0 a0_1 a0_2 a1 = some (r0, r1, r2)) (w : World) {pa0 : Nat} {va0_0 : Value} (hr_a0_0 : RdM w (footM [R.box pa0 114 [va0_0, .int .i64 a0_1, .int .u64 a0_2]]) va0_0 a0_0) {va1 : Value} (hr_a1 : RdM w (footM [R.box pa0 114 [va0_0, .int .i64 a0_1, .int .u64 a0_2]]) va1 a1) (hw0 : Sep w (footM [R.box pa0 114 [va0_0, .int .i64 a0_1, .int .u64 a0_2]]) [R.box pa0 114 [va0_0, .int .i64 a0_1, .int .u64 a0_2]] w) :
  Calls Tryz.prog 194 ([.pointer (some ⟨pa0,0,none⟩),va1] : List Value).toArray w (PostM (footM [R.box pa0 114 [va0_0,.int .i64 a0_1,.int .u64 a0_2]]) (fun u ns=>u = .int .i64 r0∧ns = [R.box pa0 114 [va0_0,.int .i64 r1,.int .u64 r2]]) w):=by
 unfold spec_l1Cur_among.f at h
 have hl_va0_0:=hr_a0_0.len
 have hl_va1:=hr_a1.len
 refine Calls.of_tri (N:=12) Tryz.func194 rfl rfl rfl hw0 ?_
 refine Tri.seq (Tri.reg (l:=[0]) rfl ?_)
 refine F.qn rfl (r_assign rfl) (F.nil (Nrm.seq (Tri.seq ?_)))
 obtain ⟨⟨t9_1,t9_2,t9_3⟩,h9,h⟩:=bind_some h
 obtain ⟨t10,h10,h⟩:=bind_some h
 refine Tri.reg (l:=[0,1,2,3,4,5,6,7]) rfl ?_
 iterate 3 refine F.qn rfl (r_move rfl) ?_
 refine F.qn rfl (r_len Tryz.underlying25 rfl hl_va1) ?_
 refine F.efn rfl (d_callM (xs:=_) (cs:=[R.box pa0 114 [va0_0,.int .i64 a0_1,.int .u64 a0_2]]) (rest:=[]) [0] [] rfl ok115 rfl rfl rfl rfl (fun w hw=>spec_l1Cur_pick.ok h9 w (hr_a0_0.down hw) (Sep.sub hw))) ?_
 rintro _ _ ⟨_,⟨rfl,rfl⟩,rfl⟩
 refine F.qn rfl (r_indexAddrS Tryz.underlying25 ti3 rfl hl_va1 rfl (rdl_some h10).1 (rdl_some h10).2.1) (F.qn rfl (r_load ta3 rfl (fun w hw=>cell_0 (Rd.flat ((fun _ hw=>hr_a1.sep hw) w hw) (rdl_some h10).2.2) rfl)) (F.qn rfl (r_assign rfl) (F.nil (Nrm.seq (Tri.ret ?_)))))
 cases h
 exact Rtn.body (.tmp rfl .nil) (fun w hw=>⟨_,_,rfl,⟨rfl,rfl⟩,Sep.pick (is:=[0]) rfl rfl hw⟩)


def spec_l1Cur_one.f (k : Nat) (a0_0 : List By) (a0_1 : Int) (a0_2 : Int) (a1 : Int) : Option (Bool × Int × Int) := (spec_l1Cur_pick.f k a0_0 a0_1 a0_2 a1).bind fun (t7_1, t7_2, t7_3) => some (t7_1 == 0, t7_2, t7_3)

theorem spec_l1Cur_one.ok {k : Nat}  {a0_0 : List By} {a0_1 : Int} {a0_2 : Int} {a1 : Int} {r0 : Bool} {r1 : Int} {r2 : Int} (h : spec_l1Cur_one.f k a0_0 a0_1 a0_2 a1 = some (r0, r1, r2)) (w : World) {pa0 : Nat} {va0_0 : Value} (hr_a0_0 : RdM w (footM [R.box pa0 114 [va0_0, .int .i64 a0_1, .int .u64 a0_2]]) va0_0 a0_0) (hw0 : Sep w (footM [R.box pa0 114 [va0_0, .int .i64 a0_1, .int .u64 a0_2]]) [R.box pa0 114 [va0_0, .int .i64 a0_1, .int .u64 a0_2]] w) :
  Calls Tryz.prog 200 ([.pointer (some ⟨pa0,0,none⟩),.int .i64 a1] : List Value).toArray w (PostM (footM [R.box pa0 114 [va0_0,.int .i64 a0_1,.int .u64 a0_2]]) (fun u ns=>u = .bool r0∧ns = [R.box pa0 114 [va0_0,.int .i64 r1,.int .u64 r2]]) w):=by
 unfold spec_l1Cur_one.f at h
 have hl_va0_0:=hr_a0_0.len
 refine Calls.of_tri (N:=9) Tryz.func200 rfl rfl rfl hw0 ?_
 refine Tri.seq (Tri.reg (l:=[0]) rfl ?_)
 refine F.qn rfl (r_assign rfl) (F.nil (Nrm.seq (Tri.seq ?_)))
 obtain ⟨⟨t7_1,t7_2,t7_3⟩,h7,h⟩:=bind_some h
 refine Tri.reg (l:=[0,1,2,3,4]) rfl ?_
 refine F.qn rfl (r_move rfl) (F.qn rfl (r_move rfl) ?_)
 refine F.efn rfl (d_callM (xs:=_) (cs:=[R.box pa0 114 [va0_0,.int .i64 a0_1,.int .u64 a0_2]]) (rest:=[]) [0] [] rfl ok115 rfl rfl rfl rfl (fun w hw=>spec_l1Cur_pick.ok h7 w (hr_a0_0.down hw) (Sep.sub hw))) ?_
 rintro _ _ ⟨_,⟨rfl,rfl⟩,rfl⟩
 refine F.qn rfl (r_eql rfl rfl) (F.qn rfl (r_assign rfl) (F.nil (Nrm.seq (Tri.ret ?_))))
 cases h
 exact Rtn.body (.tmp rfl .nil) (fun w hw=>⟨_,_,rfl,⟨rfl,rfl⟩,Sep.pick (is:=[0]) rfl rfl hw⟩)


def spec_l1Cur_few.l0 (k : Nat) (a0_0 : List By) (a1 : Int) : Nat → Int → Int → Int → Int → Option (Int × Int × Int)
 | 0,_,_,_,_=>none
 | n + 1,x5,x6,xpa0_1,xpa0_2=>(if (decide (x6 > 0)) = true then (spec_l1Cur_pick.f k a0_0 xpa0_1 xpa0_2 a1).bind fun (t17_1,t17_2,t17_3)=>if ¬ t17_1 < 0 then spec_l1Cur_few.l0 k a0_0 a1 n (bor x5 (shl 1 t17_1)) (w64 (x6 - 1)) t17_2 t17_3 else none else some (x5,xpa0_1,xpa0_2))

def spec_l1Cur_few.f (k : Nat) (a0_0 : List By) (a0_1 : Int) (a0_2 : Int) (a1 : Int) : Option (Int × Int × Int) := (spec_l1Cur_among.f k a0_0 a0_1 a0_2 ([0, 1, 1, 1, 2] : List (Int))).bind fun (t9_1, t9_2, t9_3) => (spec_l1Cur_few.l0 k a0_0 a1 k 0 t9_1 t9_2 t9_3).bind fun (x5, xpa0_1, xpa0_2) => some (x5, xpa0_1, xpa0_2)

theorem spec_l1Cur_few.ok {k : Nat}  {a0_0 : List By} {a0_1 : Int} {a0_2 : Int} {a1 : Int} {r0 : Int} {r1 : Int} {r2 : Int} (h : spec_l1Cur_few.f k a0_0 a0_1 a0_2 a1 = some (r0, r1, r2)) (w : World) {pa0 : Nat} {va0_0 : Value} (hr_a0_0 : RdM w (footM [R.box pa0 114 [va0_0, .int .i64 a0_1, .int .u64 a0_2]]) va0_0 a0_0) (hw0 : Sep w (footM [R.box pa0 114 [va0_0, .int .i64 a0_1, .int .u64 a0_2]]) [R.box pa0 114 [va0_0, .int .i64 a0_1, .int .u64 a0_2]] w) :
  Calls Tryz.prog 202 ([.pointer (some ⟨pa0,0,none⟩),.int .i64 a1] : List Value).toArray w (PostM (footM [R.box pa0 114 [va0_0,.int .i64 a0_1,.int .u64 a0_2]]) (fun u ns=>u = .int .i64 r0∧ns = [R.box pa0 114 [va0_0,.int .i64 r1,.int .u64 r2]]) w):=by
 unfold spec_l1Cur_few.f at h
 have hl_va0_0:=hr_a0_0.len
 refine Calls.of_tri (N:=21) Tryz.func202 rfl rfl rfl hw0 ?_
 refine Tri.seq (Tri.reg (l:=[0]) rfl ?_)
 refine F.qn rfl (r_assign rfl) (F.nil (Nrm.seq (Tri.seq (Tri.reg (l:=[0]) rfl ?_))))
 refine F.qn rfl (r_assign rfl) (F.nil (Nrm.seq (Tri.seq (Tri.seq ?_))))
 obtain ⟨⟨t9_1,t9_2,t9_3⟩,h9,h⟩:=bind_some h
 refine Tri.reg (l:=[0,1,2,3]) rfl ?_
 refine F.qn rfl (r_move rfl) ?_
 refine F.mn rfl (m_buildF (l:=([0,1,1,1,2] : List (Int))) Tryz.underlying25 ti3 rfl rfl rfl rfl rfl) ?_
 rintro v8_1 _ ⟨S8_1,hl_v8_1,rfl⟩
 refine F.efn rfl (d_callM (xs:=_) (cs:=[R.box pa0 114 [va0_0,.int .i64 a0_1,.int .u64 a0_2]]) (rest:=[R.sl S8_1 v8_1 (([0,1,1,1,2] : List (Int)) : List (Int))]) [1] [0] rfl ok194 rfl rfl rfl rfl (fun w hw=>spec_l1Cur_among.ok h9 w (hr_a0_0.down hw) (rdm_sl (i:=0) rfl hw) (Sep.sub hw))) ?_
 rintro _ _ ⟨_,⟨rfl,rfl⟩,rfl⟩
 refine F.qn rfl (r_assign rfl) (F.nil (Nrm.seq ?_))
 obtain ⟨⟨x5,xpa0_1,xpa0_2⟩,hE_1,h⟩:=bind_some h
 refine Tri.block ?_
 refine Tri.only [0,1,5,6] rfl ?_
 refine Tri.pick [0] rfl rfl ?_
 refine Tri.rounds (fun n e' C'=>∃ (x5' : Int) (x6' : Int) (xpa0_1' : Int) (xpa0_2' : Int),spec_l1Cur_few.l0 k a0_0 a1 n x5' x6' xpa0_1' xpa0_2' = some (x5,xpa0_1,xpa0_2)∧e' = [(0,.pointer (some ⟨pa0,0,none⟩)),(1,.int .i64 a1),(5,.int .i64 x5'),(6,.int .i64 x6')]∧C' = Sep w (footM [R.box pa0 114 [va0_0,.int .i64 a0_1,.int .u64 a0_2]]) [R.box pa0 114 [va0_0,.int .i64 xpa0_1',.int .u64 xpa0_2']]) k ?_ ?_ ?_
 ·exact ⟨0,t9_1,t9_2,t9_3,hE_1,rfl,rfl⟩
 ·rintro _ _ ⟨_,_,_,_,hE_1,_⟩
  rw [spec_l1Cur_few.l0.eq_1] at hE_1; cases hE_1
 ·rintro n_1 _ _ ⟨x5,x6,xpa0_1,xpa0_2,hE_1,rfl,rfl⟩ ih_1
  rw [spec_l1Cur_few.l0.eq_2] at hE_1
  refine Tri.seq (Tri.seq (Tri.reg (l:=[0,1]) rfl ?_))
  refine F.qn rfl (r_move rfl) (F.qn rfl (r_gtr rfl rfl) (F.nil (Nrm.seq (Tri.cond (b:=decide (x6 > 0)) rfl (fun g_1=>?_) (fun g_1=>?_)))))
  ·replace hE_1:=if_tt g_1 hE_1
   refine Tri.skip (Nrm.seq (Tri.seq (Tri.block ?_)))
   obtain ⟨⟨t17_1,t17_2,t17_3⟩,h17,hE_1⟩:=bind_some hE_1
   obtain ⟨hs18,hE_1⟩:=ck hE_1
   refine Tri.reg (l:=[0,1,2,3,4,5,6]) rfl ?_
   iterate 3 refine F.qn rfl (r_move rfl) ?_
   refine F.efn rfl (d_callM (xs:=_) (cs:=[R.box pa0 114 [va0_0,.int .i64 xpa0_1,.int .u64 xpa0_2]]) (rest:=[]) [0] [] rfl ok115 rfl rfl rfl rfl (fun w hw=>spec_l1Cur_pick.ok h17 w (hr_a0_0.down hw) (Sep.sub hw))) ?_
   rintro _ _ ⟨_,⟨rfl,rfl⟩,rfl⟩
   refine F.qn rfl (r_shl rfl rfl hs18) (F.qn rfl (r_or rfl rfl) (F.qn rfl (r_assign rfl) (F.nil (Nrm.block ?_))))
   refine Nrm.seq (Tri.reg (l:=[0,1,2]) rfl ?_)
   refine F.qn rfl (r_move rfl) (F.qn rfl (r_sub rfl rfl) (F.qn rfl (r_assign rfl) (F.nil (Nrm.round ?_))))
   refine Rnd.only [0,1,5,6] rfl ?_
   refine Rnd.pick [0] rfl rfl ?_
   exact ih_1 _ _ ⟨bor x5 (shl 1 t17_1),w64 (x6 - 1),t17_2,t17_3,hE_1,rfl,rfl⟩
  ·replace hE_1:=if_ff g_1 hE_1
   refine Tri.exit ?_
   refine Exi.then ?_
   refine Exi.then ?_
   refine Exi.same ?_
   cases hE_1
   refine Nrm.seq (Tri.seq (Tri.reg (l:=[0,1]) rfl ?_))
   refine F.qn rfl (r_move rfl) (F.qn rfl (r_assign rfl) (F.nil (Nrm.seq (Tri.ret ?_))))
   cases h
   exact Rtn.body (.tmp rfl .nil) (fun w hw=>⟨_,_,rfl,⟨rfl,rfl⟩,Sep.pick (is:=[0]) rfl rfl hw⟩)


def spec_l2Before.l0 (k : Nat) (a0_0 : Int) (a0_1 : Int) (a0_2 : Int) (a1_0 : Int) (a1_1 : Int) (a1_2 : Int) : Nat → Int → Option ((Unit) ⊕ (Bool))
 | 0,_=>none
 | n + 1,x5=>(if (decide (x5 < 3)) = true then (rdl [a0_0,a0_1,a0_2] x5).bind fun t11=>(rdl [a1_0,a1_1,a1_2] x5).bind fun t14=>(if (t11 != t14) = true then (rdl [a0_0,a0_1,a0_2] x5).bind fun t18=>(rdl [a1_0,a1_1,a1_2] x5).bind fun t21=>some (Sum.inr (decide (t18 < t21))) else spec_l2Before.l0 k a0_0 a0_1 a0_2 a1_0 a1_1 a1_2 n (w64 (x5 + 1))) else some (Sum.inl ()))

def spec_l2Before.f (k : Nat) (a0_0 : Int) (a0_1 : Int) (a0_2 : Int) (a1_0 : Int) (a1_1 : Int) (a1_2 : Int) : Option (Bool) := (spec_l2Before.l0 k a0_0 a0_1 a0_2 a1_0 a1_1 a1_2 k 0).bind fun s => Lr s some fun _ => some false

theorem spec_l2Before.ok {k : Nat}  {a0_0 : Int} {a0_1 : Int} {a0_2 : Int} {a1_0 : Int} {a1_1 : Int} {a1_2 : Int} {r0 : Bool} (h : spec_l2Before.f k a0_0 a0_1 a0_2 a1_0 a1_1 a1_2 = some r0) (w : World) :
  Calls Tryz.prog 196 ([.agg ([.int .i64 a0_0,.int .i64 a0_1,.int .i64 a0_2].toArray),.agg ([.int .i64 a1_0,.int .i64 a1_1,.int .i64 a1_2].toArray)] : List Value).toArray w (fun e w'=>e = .returned (.bool r0)∧Ext w w'):=by
 unfold spec_l2Before.f at h
 refine Calls.of_tri (N:=24) Tryz.func196 rfl rfl rfl (Sep.nil (M:=noM)) ?_
 refine Tri.seq (Tri.reg (l:=[0,1,2]) rfl ?_)
 refine F.mn rfl (m_boxG rfl rfl) ?_
 rintro _ _ ⟨b2_1,rfl,rfl⟩
 refine F.mn rfl (m_boxG rfl rfl) ?_
 rintro _ _ ⟨b3_1,rfl,rfl⟩
 refine F.qn rfl (r_assign rfl) (F.nil (Nrm.seq (Tri.seq (Tri.seq (Tri.reg (l:=[0]) rfl ?_)))))
 refine F.qn rfl (r_assign rfl) (F.nil (Nrm.seq ?_))
 obtain ⟨s0,hE_1,h⟩:=bind_some h
 refine Tri.block ?_
 refine Tri.only [2,3,5] rfl ?_
 refine Tri.pick [0,1] rfl rfl ?_
 refine Tri.rounds (fun n e' C'=>∃ (x5' : Int),spec_l2Before.l0 k a0_0 a0_1 a0_2 a1_0 a1_1 a1_2 n x5' = some s0∧e' = [(2,.pointer (some ⟨b2_1,0,none⟩)),(3,.pointer (some ⟨b3_1,0,none⟩)),(5,.int .i64 x5')]∧C' = Sep w noM [R.box b3_1 168 [.int .i64 a1_0,.int .i64 a1_1,.int .i64 a1_2],R.box b2_1 168 [.int .i64 a0_0,.int .i64 a0_1,.int .i64 a0_2]]) k ?_ ?_ ?_
 ·exact ⟨0,hE_1,rfl,rfl⟩
 ·rintro _ _ ⟨_,hE_1,_⟩
  rw [spec_l2Before.l0.eq_1] at hE_1; cases hE_1
 ·rintro n_1 _ _ ⟨x5,hE_1,rfl,rfl⟩ ih_1
  rw [spec_l2Before.l0.eq_2] at hE_1
  refine Tri.seq (Tri.seq (Tri.reg (l:=[0,1]) rfl ?_))
  refine F.qn rfl (r_move rfl) (F.qn rfl (r_lss rfl rfl) (F.nil (Nrm.seq (Tri.cond (b:=decide (x5 < 3)) rfl (fun g_1=>?_) (fun g_1=>?_)))))
  ·replace hE_1:=if_tt g_1 hE_1
   refine Tri.skip (Nrm.seq (Tri.seq (Tri.block ?_)))
   refine Tri.seq ?_
   obtain ⟨t11,h11,hE_1⟩:=bind_some hE_1
   obtain ⟨t14,h14,hE_1⟩:=bind_some hE_1
   refine Tri.drawA mixedT Sep.up [(0,true),(1,true),(2,true),(3,true),(4,true),(5,true),(6,true)] [] (by kernel_rfl) ?_
   refine S.qn rfl (r_move rfl) ?_
   refine S.qn rfl (r_indexAddrA Tryz.underlying168 ti3 rfl rfl (rdl_some h11).1 (rdl_some h11).2.1) (S.qn rfl (r_load ta3 rfl (fun w hw=>cell_dynB (box_cells (i:=1) rfl w hw) rfl h11)) (S.qn rfl (r_move rfl) (S.qn rfl (r_indexAddrA Tryz.underlying168 ti3 rfl rfl (rdl_some h14).1 (rdl_some h14).2.1) (S.qn rfl (r_load ta3 rfl (fun w hw=>cell_dynB (box_cells (i:=0) rfl w hw) rfl h14)) (S.qn rfl (r_neq rfl rfl) (S.nil (F.nil (Nrm.seq (Tri.cond (b:=t11 != t14) rfl (fun g_2=>?_) (fun g_2=>?_))))))))))
   ·replace hE_1:=if_tt g_2 hE_1
    refine Tri.seq ?_
    obtain ⟨t18,h18,hE_1⟩:=bind_some hE_1
    obtain ⟨t21,h21,hE_1⟩:=bind_some hE_1
    refine Tri.drawA mixedT Sep.up [(0,true),(1,true),(2,true),(3,true),(4,true),(5,true),(6,true),(7,true)] [] (by kernel_rfl) ?_
    refine S.qn rfl (r_move rfl) (S.qn rfl (r_indexAddrA Tryz.underlying168 ti3 rfl rfl (rdl_some h18).1 (rdl_some h18).2.1) ?_)
    refine S.qn rfl (r_load ta3 rfl (fun w hw=>cell_dynB (box_cells (i:=1) rfl w hw) rfl h18)) (S.qn rfl (r_move rfl) (S.qn rfl (r_indexAddrA Tryz.underlying168 ti3 rfl rfl (rdl_some h21).1 (rdl_some h21).2.1) (S.qn rfl (r_load ta3 rfl (fun w hw=>cell_dynB (box_cells (i:=0) rfl w hw) rfl h21)) (S.qn rfl (r_lss rfl rfl) (S.qn rfl (r_assign rfl) (S.nil (F.nil (Nrm.seq (Tri.ret ?_)))))))))
    refine Rtn.block ?_
    refine Rtn.then ?_
    refine Rtn.then ?_
    refine Rtn.block ?_
    refine Rtn.then ?_
    cases hE_1
    replace h:=Lr_inr h
    cases h
    exact Rtn.body (.tmp rfl .nil) (fun w hw=>⟨rfl,hw.ext⟩)
   ·replace hE_1:=if_ff g_2 hE_1
    refine Tri.skip (Nrm.block ?_)
    refine Nrm.seq (Tri.reg (l:=[0,1,2]) rfl ?_)
    refine F.qn rfl (r_move rfl) (F.qn rfl (r_add rfl rfl) (F.qn rfl (r_assign rfl) (F.nil (Nrm.round ?_))))
    refine Rnd.only [2,3,5] rfl ?_
    refine Rnd.pick [0,1] rfl rfl ?_
    exact ih_1 _ _ ⟨w64 (x5 + 1),hE_1,rfl,rfl⟩
  ·replace hE_1:=if_ff g_1 hE_1
   refine Tri.exit ?_
   refine Exi.then ?_
   refine Exi.then ?_
   refine Exi.same ?_
   cases hE_1
   replace h:=Lr_inl h
   refine Nrm.seq (Tri.seq (Tri.reg (l:=[0]) rfl ?_))
   refine F.qn rfl (r_assign rfl) (F.nil (Nrm.seq (Tri.ret ?_)))
   cases h
   exact Rtn.body (.tmp rfl .nil) (fun w hw=>⟨rfl,hw.ext⟩)


def spec_l1Most.f (k : Nat) (a0 : Int) (a1 : Int) : Option (Int) := (if (decide (a0 > a1)) = true then some a0 else some a1)

theorem spec_l1Most.ok {k : Nat}  {a0 : Int} {a1 : Int} {r0 : Int} (h : spec_l1Most.f k a0 a1 = some r0) (w : World) :
  Calls Tryz.prog 198 ([.int .i64 a0,.int .i64 a1] : List Value).toArray w (fun e w'=>e = .returned (.int .i64 r0)∧Ext w w'):=by
 unfold spec_l1Most.f at h
 refine Calls.of_tri (N:=10) Tryz.func198 rfl rfl rfl (Sep.nil (M:=noM)) ?_
 refine Tri.seq (Tri.reg (l:=[0]) rfl ?_)
 refine F.qn rfl (r_assign rfl) (F.nil (Nrm.seq (Tri.seq (Tri.seq (Tri.reg (l:=[0,1,2]) rfl ?_)))))
 refine F.qn rfl (r_move rfl) (F.qn rfl (r_move rfl) (F.qn rfl (r_gtr rfl rfl) (F.nil (Nrm.seq (Tri.cond (b:=decide (a0 > a1)) rfl (fun g_1=>?_) (fun g_1=>?_))))))
 ·replace h:=if_tt g_1 h
  refine Tri.seq (Tri.reg (l:=[0,1]) rfl ?_)
  refine F.qn rfl (r_move rfl) (F.qn rfl (r_assign rfl) (F.nil (Nrm.seq (Tri.ret ?_))))
  refine Rtn.then ?_
  cases h
  exact Rtn.body (.tmp rfl .nil) (fun w hw=>⟨rfl,hw.ext⟩)
 ·replace h:=if_ff g_1 h
  refine Tri.skip (Nrm.seq (Tri.seq (Tri.reg (l:=[0,1]) rfl ?_)))
  refine F.qn rfl (r_move rfl) (F.qn rfl (r_assign rfl) (F.nil (Nrm.seq (Tri.ret ?_))))
  cases h
  exact Rtn.body (.tmp rfl .nil) (fun w hw=>⟨rfl,hw.ext⟩)


def spec_l1Least.f (k : Nat) (a0 : Int) (a1 : Int) : Option (Int) := (if (decide (a0 < a1)) = true then some a0 else some a1)

theorem spec_l1Least.ok {k : Nat}  {a0 : Int} {a1 : Int} {r0 : Int} (h : spec_l1Least.f k a0 a1 = some r0) (w : World) :
  Calls Tryz.prog 199 ([.int .i64 a0,.int .i64 a1] : List Value).toArray w (fun e w'=>e = .returned (.int .i64 r0)∧Ext w w'):=by
 unfold spec_l1Least.f at h
 refine Calls.of_tri (N:=10) Tryz.func199 rfl rfl rfl (Sep.nil (M:=noM)) ?_
 refine Tri.seq (Tri.reg (l:=[0]) rfl ?_)
 refine F.qn rfl (r_assign rfl) (F.nil (Nrm.seq (Tri.seq (Tri.seq (Tri.reg (l:=[0,1,2]) rfl ?_)))))
 refine F.qn rfl (r_move rfl) (F.qn rfl (r_move rfl) (F.qn rfl (r_lss rfl rfl) (F.nil (Nrm.seq (Tri.cond (b:=decide (a0 < a1)) rfl (fun g_1=>?_) (fun g_1=>?_))))))
 ·replace h:=if_tt g_1 h
  refine Tri.seq (Tri.reg (l:=[0,1]) rfl ?_)
  refine F.qn rfl (r_move rfl) (F.qn rfl (r_assign rfl) (F.nil (Nrm.seq (Tri.ret ?_))))
  refine Rtn.then ?_
  cases h
  exact Rtn.body (.tmp rfl .nil) (fun w hw=>⟨rfl,hw.ext⟩)
 ·replace h:=if_ff g_1 h
  refine Tri.skip (Nrm.seq (Tri.seq (Tri.reg (l:=[0,1]) rfl ?_)))
  refine F.qn rfl (r_move rfl) (F.qn rfl (r_assign rfl) (F.nil (Nrm.seq (Tri.ret ?_))))
  cases h
  exact Rtn.body (.tmp rfl .nil) (fun w hw=>⟨rfl,hw.ext⟩)


def spec_l2Put.l0 (k : Nat) (a0 : List (Int × Int × Int)) (a3 : Int) (t13 : Int) (t16 : Int) : Nat → Int → Option (Int)
 | 0,_=>none
 | n + 1,x10=>((if (decide (x10 < (a0.length : Int))) = true then (rdl a0 x10).bind fun t26=>(spec_l2Before.f k t26.1 t26.2.1 t26.2.2 t13 t16 a3).bind fun t29=>some t29 else some false)).bind fun y30=>(if y30 = true then spec_l2Put.l0 k a0 a3 t13 t16 n (w64 (x10 + 1)) else some x10)

def spec_l2Put.f (k : Nat) (a0 : List (Int × Int × Int)) (a1 : Int) (a2 : Int) (a3 : Int) : Option ((List (Int × Int × Int))) := (spec_l1Least.f k a1 a2).bind fun t13 => (spec_l1Most.f k a1 a2).bind fun t16 => (spec_l2Put.l0 k a0 a3 t13 t16 k 0).bind fun x10 => ((if (decide (x10 < (a0.length : Int))) = true then (rdl a0 x10).bind fun t40 => some (decide ((t40.1, t40.2.1, t40.2.2) = (t13, t16, a3))) else some false)).bind fun y44 => (if y44 = true then some a0 else ((slc a0 0 x10).bind fun t49 => (slc a0 x10 (a0.length : Int)).bind fun t56 => if (([] : List (Int × Int × Int)) ++ t49).length < 1099511627776 then if ((([] : List (Int × Int × Int)) ++ t49) ++ ([(t13, t16, a3)] : List (Int × Int × Int))).length < 1099511627776 then if (((([] : List (Int × Int × Int)) ++ t49) ++ ([(t13, t16, a3)] : List (Int × Int × Int))) ++ t56).length < 1099511627776 then some (((([] : List (Int × Int × Int)) ++ t49) ++ ([(t13, t16, a3)] : List (Int × Int × Int))) ++ t56) else none else none else none).bind fun y8 => some y8)

theorem spec_l2Put.ok {k : Nat}  {a0 : List (Int × Int × Int)} {a1 : Int} {a2 : Int} {a3 : Int} {r0 : List (Int × Int × Int)} (h : spec_l2Put.f k a0 a1 a2 a3 = some r0) (w : World) {va0 : Value} {Sa0 : Nat → Prop} (hl_va0 : SlLen va0 a0.length) (hw0 : Sep w (footM [R.sl Sa0 va0 a0]) [R.sl Sa0 va0 a0] w) :
  Calls Tryz.prog 238 ([va0,.int .i64 a1,.int .i64 a2,.int .i64 a3] : List Value).toArray w (PostM (footM [R.sl Sa0 va0 a0]) (fun u ns=>∃ (Sr0 : Nat → Prop),SlLen u r0.length∧ns = [R.sl Sr0 u r0]) w):=by
 unfold spec_l2Put.f at h
 refine Calls.of_tri (N:=58) Tryz.func238 rfl rfl rfl hw0 ?_
 refine Tri.seq (Tri.reg (l:=[0]) rfl ?_)
 refine F.qn rfl (r_assign rfl) (F.nil (Nrm.seq (Tri.seq ?_)))
 obtain ⟨t13,h13,h⟩:=bind_some h
 obtain ⟨t16,h16,h⟩:=bind_some h
 refine Tri.reg (l:=[0,1,2,3,4,5,6,7,8,9]) rfl ?_
 refine F.qn rfl (r_move rfl) (F.qn rfl (r_move rfl) ?_)
 refine F.qcn rfl (q_callF (xs:=_) rfl ok199 rfl rfl (fun w hw=>spec_l1Least.ok h13 w)) ?_
 refine F.qn rfl (r_move rfl) (F.qn rfl (r_move rfl) ?_)
 refine F.qcn rfl (q_callF (xs:=_) rfl ok198 rfl rfl (fun w hw=>spec_l1Most.ok h16 w)) ?_
 refine F.qn rfl (r_move rfl) (F.qn rfl (r_buildA (qs:=[(0,[.int .i64 t13]),(1,[.int .i64 t16]),(2,[.int .i64 a3])]) (cs:=[.int .i64 t13,.int .i64 t16,.int .i64 a3]) Tryz.underlying168 ti3 ti168 rfl (.cons rfl rfl (Nat.le_of_ble_eq_true rfl) (.cons rfl rfl (Nat.le_of_ble_eq_true rfl) (.cons rfl rfl (Nat.le_of_ble_eq_true rfl) .nil))) rfl rfl) ?_)
 refine F.mn rfl (m_alloc ti168) ?_
 rintro _ _ ⟨b9_1,rfl,rfl⟩
 refine F.ef0 rfl rfl (wanted_none rfl) (d_storeG0 (i:=0) (cs2:=[.int .i64 t13,.int .i64 t16,.int .i64 a3]) ti168 rfl rfl rfl rfl rfl (Nat.le_of_ble_eq_true rfl) (lf_cons rfl (lf_cons rfl (lf_cons rfl lf_nil)))) ?_
 rintro _ _ ⟨rfl,rfl⟩
 refine F.nil (Nrm.seq (Tri.seq (Tri.reg (l:=[0]) rfl ?_)))
 refine F.qn rfl (r_assign rfl) (F.nil (Nrm.seq (Tri.seq ?_)))
 obtain ⟨x10,hE_1,h⟩:=bind_some h
 refine Tri.block ?_
 refine Tri.only [0,9,10] rfl ?_
 refine Tri.pick [0,1] rfl rfl ?_
 refine Tri.rounds (fun n e' C'=>∃ (x10' : Int),spec_l2Put.l0 k a0 a3 t13 t16 n x10' = some x10∧e' = [(0,va0),(9,.pointer (some ⟨b9_1,0,none⟩)),(10,.int .i64 x10')]∧C' = Sep w (footM [R.sl Sa0 va0 a0]) [R.box b9_1 168 [.int .i64 t13,.int .i64 t16,.int .i64 a3],R.sl Sa0 va0 (a0 : List (Int × Int × Int))]) k ?_ ?_ ?_
 ·exact ⟨0,hE_1,rfl,rfl⟩
 ·rintro _ _ ⟨_,hE_1,_⟩
  rw [spec_l2Put.l0.eq_1] at hE_1; cases hE_1
 ·rintro n_1 _ _ ⟨x10,hE_1,rfl,rfl⟩ ih_1
  rw [spec_l2Put.l0.eq_2] at hE_1
  refine Tri.seq (Tri.seq ?_)
  obtain ⟨y30,hE_2,hE_1⟩:=bind_some hE_1
  refine Tri.cut (fun e' C'=>e' = [(0,va0),(9,.pointer (some ⟨b9_1,0,none⟩)),(10,.int .i64 x10),(30,.bool y30)]∧C' = Sep w (footM [R.sl Sa0 va0 a0]) [R.box b9_1 168 [.int .i64 t13,.int .i64 t16,.int .i64 a3],R.sl Sa0 va0 (a0 : List (Int × Int × Int))]) ?_ (fun hj_1=>?_)
  ·rintro _ _ ⟨rfl,rfl⟩
   refine Nrm.seq (Tri.cond (b:=y30) rfl (fun g_1=>?_) (fun g_1=>?_))
   ·replace hE_1:=if_tt g_1 hE_1
    refine Tri.skip (Nrm.seq (Tri.block ?_))
    refine Tri.reg (l:=[0,1,2]) rfl ?_
    refine F.qn rfl (r_move rfl) (F.qn rfl (r_add rfl rfl) (F.qn rfl (r_assign rfl) (F.nil (Nrm.block ?_))))
    refine Nrm.round ?_
    refine Rnd.only [0,9,10] rfl ?_
    refine Rnd.pick [0,1] rfl rfl ?_
    exact ih_1 _ _ ⟨w64 (x10 + 1),hE_1,rfl,rfl⟩
   ·replace hE_1:=if_ff g_1 hE_1
    refine Tri.exit ?_
    refine Exi.then ?_
    refine Exi.then ?_
    refine Exi.same ?_
    cases hE_1
    refine Nrm.seq (Tri.seq (Tri.seq ?_))
    obtain ⟨y44,hE_3,h⟩:=bind_some h
    refine Tri.cut (fun e' C'=>e' = [(0,va0),(9,.pointer (some ⟨b9_1,0,none⟩)),(10,.int .i64 x10),(44,.bool y44)]∧C' = Sep w (footM [R.sl Sa0 va0 a0]) [R.box b9_1 168 [.int .i64 t13,.int .i64 t16,.int .i64 a3],R.sl Sa0 va0 (a0 : List (Int × Int × Int))]) ?_ (fun hj_2=>?_)
    ·rintro _ _ ⟨rfl,rfl⟩
     refine Nrm.seq (Tri.cond (b:=y44) rfl (fun g_2=>?_) (fun g_2=>?_))
     ·replace h:=if_tt g_2 h
      refine Tri.seq (Tri.reg (l:=[0,1]) rfl ?_)
      refine F.qn rfl (r_move rfl) (F.qn rfl (r_assign rfl) (F.nil (Nrm.seq (Tri.ret ?_))))
      refine Rtn.then ?_
      cases h
      exact Rtn.body (.tmp rfl .nil) (fun w hw=>⟨_,_,rfl,⟨Sa0,hl_va0,rfl⟩,Sep.pick (is:=[1]) rfl rfl hw⟩)
     ·replace h:=if_ff g_2 h
      refine Tri.skip (Nrm.seq (Tri.seq ?_))
      obtain ⟨y8,hE_4,h⟩:=bind_some h
      refine Tri.cut (fun e' C'=>∃ (v8_1 : Value) (S8_1 : Nat → Prop),SlLen v8_1 (y8).length∧e' = [(8,v8_1)]∧C' = Sep w (footM [R.sl Sa0 va0 a0]) [R.sl S8_1 v8_1 (y8 : List (Int × Int × Int))]) ?_ (fun hj_3=>?_)
      ·rintro _ _ ⟨v8_1,S8_1,hl_v8_1,rfl,rfl⟩
       refine Nrm.seq (Tri.ret ?_)
       cases h
       exact Rtn.body (.tmp rfl .nil) (fun w hw=>⟨_,_,rfl,⟨S8_1,hl_v8_1,rfl⟩,Sep.pick (is:=[0]) rfl rfl hw⟩)
      ·obtain ⟨t49,h49,hE_4⟩:=bind_some hE_4
       obtain ⟨t56,h56,hE_4⟩:=bind_some hE_4
       obtain ⟨hs50,hE_4⟩:=ck hE_4
       obtain ⟨hs53,hE_4⟩:=ck hE_4
       obtain ⟨hs57,hE_4⟩:=ck hE_4
       refine Tri.drawT mixedT Sep.up [1,2,3,5,8,9,10,0,4,6,7] [11,12] (.q 1 (.q 2 (.q 3 (.q 5 (.q 8 (.q 9 (.q 10 (.alt 0 (.alt 4 (.alt 6 (.alt 7 .nil .stop) .stop) (.alt 6 (.alt 4 (.alt 7 .nil .stop) .stop) .stop)) (.alt 6 (.alt 0 (.alt 4 (.alt 7 .nil .stop) .stop) .stop) .stop))))))))) (by kernel_rfl) ?_
       refine T.q rfl rfl rfl (wanted_none rfl) (r_move rfl) ?_
       refine T.q rfl rfl rfl (wanted_none rfl) (r_move rfl) ?_
       refine T.q rfl rfl rfl (wanted_none rfl) (r_sliceH Tryz.underlying24 ti168 rfl (rd_sl (i:=1) rfl) rfl h49) ?_
       refine T.q rfl rfl rfl (wanted_none rfl) (r_loadA ta168 ti168 rfl rfl (fun w hw=>(box_cells (i:=0) rfl w hw))) ?_
       refine T.q rfl rfl rfl (wanted_none rfl) (r_move rfl) ?_
       refine T.q rfl rfl rfl (wanted_none rfl) (r_move rfl) ?_
       refine T.q rfl rfl rfl (wanted_none rfl) (r_sliceL Tryz.underlying24 ti168 rfl (rd_sl (i:=1) rfl) rfl h56) ?_
       refine T.ef rfl rfl rfl (wanted_none rfl) (Makes.does (m_build0 (α:=Int × Int × Int) Tryz.underlying24 ti168)) (by rintro v46_2 _ ⟨S46_2,hl_v46_2,rfl⟩; exact upd rfl [1,2] rfl rfl) ?_ ?_
       ·rintro v46_2 _ ⟨S46_2,hl_v46_2,rfl⟩
        refine T.ef rfl rfl rfl (wanted_none rfl) (d_append (i:=0) Tryz.underlying24 Tryz.underlying24 ti168 rfl (by decide) rfl rfl rfl (fun w hw=>rd_slc ((rd_sl (i:=2) rfl) w hw) h49) hs50) (by rintro v50_2 _ ⟨S50_2,rfl,hl_v50_2⟩; exact upd rfl [1,2] rfl rfl) ?_ ?_
        ·rintro v50_2 _ ⟨S50_2,rfl,hl_v50_2⟩
         refine T.ef rfl rfl rfl (wanted_none rfl) (Makes.does (m_buildF (l:=([(t13,t16,a3)] : List (Int × Int × Int))) Tryz.underlying24 ti168 rfl rfl rfl rfl rfl)) (by rintro v52_2 _ ⟨S52_2,hl_v52_2,rfl⟩; exact upd rfl [2,3] rfl rfl) ?_ ?_
         ·rintro v52_2 _ ⟨S52_2,hl_v52_2,rfl⟩
          refine T.ef rfl rfl rfl (wanted_none rfl) (d_append (i:=1) Tryz.underlying24 Tryz.underlying24 ti168 rfl (by decide) rfl rfl rfl (rd_sl (i:=0) rfl) hs53) (by rintro v53_2 _ ⟨S53_2,rfl,hl_v53_2⟩; exact upd rfl [2,3] rfl rfl) ?_ ?_
          ·rintro v53_2 _ ⟨S53_2,rfl,hl_v53_2⟩
           refine T.nil ?_
           refine F.efn rfl (d_append (i:=1) Tryz.underlying24 Tryz.underlying24 ti168 rfl (by decide) rfl rfl rfl (fun w hw=>rd_slc ((rd_sl (i:=3) rfl) w hw) h56) hs57) ?_
           rintro v57_2 _ ⟨S57_2,rfl,hl_v57_2⟩
           refine F.qn rfl (r_assign rfl) (F.nil ?_)
           cases hE_4
           refine Nrm.only [8] rfl ?_
           refine Nrm.pick [1] rfl rfl ?_
           exact hj_3 _ _ ⟨v57_2,S57_2,hl_v57_2,rfl,rfl⟩
          exact T.stop
         exact T.stop
        ·refine T.ef rfl rfl rfl (wanted_none rfl) (Makes.does (m_buildF (l:=([(t13,t16,a3)] : List (Int × Int × Int))) Tryz.underlying24 ti168 rfl rfl rfl rfl rfl)) (by rintro v52_3 _ ⟨S52_3,hl_v52_3,rfl⟩; exact upd rfl [2,3] rfl rfl) ?_ ?_
         ·rintro v52_3 _ ⟨S52_3,hl_v52_3,rfl⟩
          refine T.ef rfl rfl rfl (wanted_none rfl) (d_append (i:=1) Tryz.underlying24 Tryz.underlying24 ti168 rfl (by decide) rfl rfl rfl (fun w hw=>rd_slc ((rd_sl (i:=3) rfl) w hw) h49) hs50) (by rintro v50_3 _ ⟨S50_3,rfl,hl_v50_3⟩; exact upd rfl [2,3] rfl rfl) ?_ ?_
          ·rintro v50_3 _ ⟨S50_3,rfl,hl_v50_3⟩
           refine T.ef rfl rfl rfl (wanted_none rfl) (d_append (i:=1) Tryz.underlying24 Tryz.underlying24 ti168 rfl (by decide) rfl rfl rfl (rd_sl (i:=0) rfl) hs53) (by rintro v53_3 _ ⟨S53_3,rfl,hl_v53_3⟩; exact upd rfl [2,3] rfl rfl) ?_ ?_
           ·rintro v53_3 _ ⟨S53_3,rfl,hl_v53_3⟩
            refine T.nil ?_
            refine F.efn rfl (d_append (i:=1) Tryz.underlying24 Tryz.underlying24 ti168 rfl (by decide) rfl rfl rfl (fun w hw=>rd_slc ((rd_sl (i:=3) rfl) w hw) h56) hs57) ?_
            rintro v57_3 _ ⟨S57_3,rfl,hl_v57_3⟩
            refine F.qn rfl (r_assign rfl) (F.nil ?_)
            cases hE_4
            refine Nrm.only [8] rfl ?_
            refine Nrm.pick [1] rfl rfl ?_
            exact hj_3 _ _ ⟨v57_3,S57_3,hl_v57_3,rfl,rfl⟩
           exact T.stop
          exact T.stop
         exact T.stop
       ·refine T.ef rfl rfl rfl (wanted_none rfl) (Makes.does (m_buildF (l:=([(t13,t16,a3)] : List (Int × Int × Int))) Tryz.underlying24 ti168 rfl rfl rfl rfl rfl)) (by rintro v52_4 _ ⟨S52_4,hl_v52_4,rfl⟩; exact upd rfl [1,2] rfl rfl) ?_ ?_
        ·rintro v52_4 _ ⟨S52_4,hl_v52_4,rfl⟩
         refine T.ef rfl rfl rfl (wanted_none rfl) (Makes.does (m_build0 (α:=Int × Int × Int) Tryz.underlying24 ti168)) (by rintro v46_3 _ ⟨S46_3,hl_v46_3,rfl⟩; exact upd rfl [2,3] rfl rfl) ?_ ?_
         ·rintro v46_3 _ ⟨S46_3,hl_v46_3,rfl⟩
          refine T.ef rfl rfl rfl (wanted_none rfl) (d_append (i:=0) Tryz.underlying24 Tryz.underlying24 ti168 rfl (by decide) rfl rfl rfl (fun w hw=>rd_slc ((rd_sl (i:=3) rfl) w hw) h49) hs50) (by rintro v50_4 _ ⟨S50_4,rfl,hl_v50_4⟩; exact upd rfl [2,3] rfl rfl) ?_ ?_
          ·rintro v50_4 _ ⟨S50_4,rfl,hl_v50_4⟩
           refine T.ef rfl rfl rfl (wanted_none rfl) (d_append (i:=0) Tryz.underlying24 Tryz.underlying24 ti168 rfl (by decide) rfl rfl rfl (rd_sl (i:=1) rfl) hs53) (by rintro v53_4 _ ⟨S53_4,rfl,hl_v53_4⟩; exact upd rfl [2,3] rfl rfl) ?_ ?_
           ·rintro v53_4 _ ⟨S53_4,rfl,hl_v53_4⟩
            refine T.nil ?_
            refine F.efn rfl (d_append (i:=0) Tryz.underlying24 Tryz.underlying24 ti168 rfl (by decide) rfl rfl rfl (fun w hw=>rd_slc ((rd_sl (i:=3) rfl) w hw) h56) hs57) ?_
            rintro v57_4 _ ⟨S57_4,rfl,hl_v57_4⟩
            refine F.qn rfl (r_assign rfl) (F.nil ?_)
            cases hE_4
            refine Nrm.only [8] rfl ?_
            refine Nrm.pick [0] rfl rfl ?_
            exact hj_3 _ _ ⟨v57_4,S57_4,hl_v57_4,rfl,rfl⟩
           exact T.stop
          exact T.stop
         exact T.stop
        exact T.stop
    ·rcases Bool.eq_false_or_eq_true (decide (x10 < (a0.length : Int))) with g37 | g37
     ·replace hE_3:=if_tt g37 hE_3
      obtain ⟨t40,h40,hE_3⟩:=bind_some hE_3
      refine Tri.drawA mixedT Sep.up [(0,true),(1,true),(2,true),(3,true),(4,true),(5,true),(6,true),(7,true),(8,true),(9,true),(10,true),(11,true)] [] (by kernel_rfl) ?_
      refine S.qn rfl (r_move rfl) (S.qn rfl (r_move rfl) (S.qn rfl (r_len Tryz.underlying24 rfl hl_va0) (S.qn rfl (r_lss rfl rfl) (S.qn rfl (r_move rfl) (S.qg rfl g37 (r_move rfl) ?_)))))
      refine S.qg rfl g37 (r_move rfl) (S.qg rfl g37 (r_indexAddrS Tryz.underlying24 ti168 rfl hl_va0 rfl (rdl_some h40).1 (rdl_some h40).2.1) (S.qg rfl g37 (r_loadA ta168 ti168 rfl rfl (fun w hw=>(Rd.flat ((rd_sl (i:=1) rfl) w hw) (rdl_some h40).2.2))) (S.qg rfl g37 (r_loadA ta168 ti168 rfl rfl (fun w hw=>(box_cells (i:=0) rfl w hw))) (S.qg rfl g37 (r_eqlA3 Tryz.underlying168 Tryz.underlying3 ti3 ta3 rfl rfl eg168) (S.qn rfl (r_pick rfl rfl g37) (S.nil (F.nil ?_)))))))
      cases hE_3
      refine Nrm.only [0,9,10,44] rfl ?_
      refine Nrm.pick [0,1] rfl rfl ?_
      exact hj_2 _ _ ⟨rfl,rfl⟩
     ·replace hE_3:=if_ff g37 hE_3
      refine Tri.drawA mixedT Sep.up [(0,true),(1,true),(2,true),(3,true),(4,true),(5,true),(6,true),(7,true),(8,true),(9,true),(10,true),(11,true)] [] (by kernel_rfl) ?_
      refine S.qn rfl (r_move rfl) (S.qn rfl (r_move rfl) (S.qn rfl (r_len Tryz.underlying24 rfl hl_va0) (S.qn rfl (r_lss rfl rfl) (S.qn rfl (r_move rfl) ?_))))
      iterate 6 refine S.skf rfl g37 ?_
      refine S.qn rfl (r_pickf rfl rfl g37) (S.nil (F.nil ?_))
      cases hE_3
      refine Nrm.only [0,9,10,44] rfl ?_
      refine Nrm.pick [0,1] rfl rfl ?_
      exact hj_2 _ _ ⟨rfl,rfl⟩
  ·rcases Bool.eq_false_or_eq_true (decide (x10 < (a0.length : Int))) with g23 | g23
   ·replace hE_2:=if_tt g23 hE_2
    obtain ⟨t26,h26,hE_2⟩:=bind_some hE_2
    obtain ⟨t29,h29,hE_2⟩:=bind_some hE_2
    refine Tri.drawA mixedT Sep.up [(0,true),(1,true),(2,true),(3,true),(4,true),(5,true),(6,true),(7,true),(8,true),(9,true),(10,true),(11,true)] [] (by kernel_rfl) ?_
    refine S.qn rfl (r_move rfl) (S.qn rfl (r_move rfl) (S.qn rfl (r_len Tryz.underlying24 rfl hl_va0) (S.qn rfl (r_lss rfl rfl) ?_)))
    refine S.qn rfl (r_move rfl) (S.qg rfl g23 (r_move rfl) (S.qg rfl g23 (r_move rfl) (S.qg rfl g23 (r_indexAddrS Tryz.underlying24 ti168 rfl hl_va0 rfl (rdl_some h26).1 (rdl_some h26).2.1) (S.qg rfl g23 (r_loadA ta168 ti168 rfl rfl (fun w hw=>(Rd.flat ((rd_sl (i:=1) rfl) w hw) (rdl_some h26).2.2))) (S.qg rfl g23 (r_loadA ta168 ti168 rfl rfl (fun w hw=>(box_cells (i:=0) rfl w hw))) ?_)))))
    refine S.qc rfl rfl rfl (wg rfl rfl rfl g23) (q_callF (xs:=_) rfl ok196 rfl rfl (fun w hw=>spec_l2Before.ok h29 w)) ?_
    refine S.qn rfl (r_pick rfl rfl g23) (S.nil (F.nil ?_))
    cases hE_2
    refine Nrm.only [0,9,10,30] rfl ?_
    refine Nrm.pick [0,1] rfl rfl ?_
    exact hj_1 _ _ ⟨rfl,rfl⟩
   ·replace hE_2:=if_ff g23 hE_2
    refine Tri.drawA mixedT Sep.up [(0,true),(1,true),(2,true),(3,true),(4,true),(5,true),(6,true),(7,true),(8,true),(9,true),(10,true),(11,true)] [] (by kernel_rfl) ?_
    refine S.qn rfl (r_move rfl) (S.qn rfl (r_move rfl) (S.qn rfl (r_len Tryz.underlying24 rfl hl_va0) (S.qn rfl (r_lss rfl rfl) (S.qn rfl (r_move rfl) ?_))))
    iterate 6 refine S.skf rfl g23 ?_
    refine S.qn rfl (r_pickf rfl rfl g23) (S.nil (F.nil ?_))
    cases hE_2
    refine Nrm.only [0,9,10,30] rfl ?_
    refine Nrm.pick [0,1] rfl rfl ?_
    exact hj_1 _ _ ⟨rfl,rfl⟩

end Go.Proofs

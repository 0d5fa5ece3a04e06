/- A part of the proof of FnWorlds: what the functions of the program compute, walked on the model. No condition. -/
import Derived.Test.YtebbaacgalipaaaChecked
import Derived.Test.YtebbaacgalipaaaFnWorldsB
set_option linter.unusedSimpArgs false
namespace Go.Proofs
open Go Go.Ga Go.Ga.Rp Go.Ga.Flat
theorem mixedT : Try.prog.follows .mixedOrders = true := by kernel_rfl
theorem eg121 : Try.prog.eqGuardType Try.prog.depth 121 = false := by kernel_rfl
theorem ok101 : CallOk Try.prog 101 := .of Try.func101 rfl (by decide)
theorem ok105 : CallOk Try.prog 105 := .of Try.func105 rfl (by decide)
theorem ok110 : CallOk Try.prog 110 := .of Try.func110 rfl (by decide)
theorem ok143 : CallOk Try.prog 143 := .of Try.func143 rfl (by decide)
theorem ok145 : CallOk Try.prog 145 := .of Try.func145 rfl (by decide)
theorem ok146 : CallOk Try.prog 146 := .of Try.func146 rfl (by decide)
theorem ok147 : CallOk Try.prog 147 := .of Try.func147 rfl (by decide)
theorem ok148 : CallOk Try.prog 148 := .of Try.func148 rfl (by decide)
theorem ok149 : CallOk Try.prog 149 := .of Try.func149 rfl (by decide)
theorem ok150 : CallOk Try.prog 150 := .of Try.func150 rfl (by decide)
theorem ok151 : CallOk Try.prog 151 := .of Try.func151 rfl (by decide)
theorem ok152 : CallOk Try.prog 152 := .of Try.func152 rfl (by decide)
theorem ok153 : CallOk Try.prog 153 := .of Try.func153 rfl (by decide)
theorem ok154 : CallOk Try.prog 154 := .of Try.func154 rfl (by decide)
theorem ok155 : CallOk Try.prog 155 := .of Try.func155 rfl (by decide)
theorem ok156 : CallOk Try.prog 156 := .of Try.func156 rfl (by decide)
theorem ok157 : CallOk Try.prog 157 := .of Try.func157 rfl (by decide)
theorem ok158 : CallOk Try.prog 158 := .of Try.func158 rfl (by decide)
theorem ok159 : CallOk Try.prog 159 := .of Try.func159 rfl (by decide)
theorem ok160 : CallOk Try.prog 160 := .of Try.func160 rfl (by decide)
theorem ok161 : CallOk Try.prog 161 := .of Try.func161 rfl (by decide)
theorem ok162 : CallOk Try.prog 162 := .of Try.func162 rfl (by decide)
theorem ok169 : CallOk Try.prog 169 := .of Try.func169 rfl (by decide)
theorem ok171 : CallOk Try.prog 171 := .of Try.func171 rfl (by decide)
theorem ok173 : CallOk Try.prog 173 := .of Try.func173 rfl (by decide)
theorem ok178 : CallOk Try.prog 178 := .of Try.func178 rfl (by decide)
theorem ok180 : CallOk Try.prog 180 := .of Try.func180 rfl (by decide)
theorem ok181 : CallOk Try.prog 181 := .of Try.func181 rfl (by decide)
theorem ok182 : CallOk Try.prog 182 := .of Try.func182 rfl (by decide)
theorem ok183 : CallOk Try.prog 183 := .of Try.func183 rfl (by decide)
theorem ok184 : CallOk Try.prog 184 := .of Try.func184 rfl (by decide)
theorem ok188 : CallOk Try.prog 188 := .of Try.func188 rfl (by decide)
theorem ok189 : CallOk Try.prog 189 := .of Try.func189 rfl (by decide)
theorem ok195 : CallOk Try.prog 195 := .of Try.func195 rfl (by decide)
theorem ok196 : CallOk Try.prog 196 := .of Try.func196 rfl (by decide)
theorem ok197 : CallOk Try.prog 197 := .of Try.func197 rfl (by decide)
theorem ok198 : CallOk Try.prog 198 := .of Try.func198 rfl (by decide)
theorem ok199 : CallOk Try.prog 199 := .of Try.func199 rfl (by decide)
theorem ok200 : CallOk Try.prog 200 := .of Try.func200 rfl (by decide)
theorem ok201 : CallOk Try.prog 201 := .of Try.func201 rfl (by decide)
theorem ok202 : CallOk Try.prog 202 := .of Try.func202 rfl (by decide)
theorem ok203 : CallOk Try.prog 203 := .of Try.func203 rfl (by decide)
theorem ok204 : CallOk Try.prog 204 := .of Try.func204 rfl (by decide)
theorem ok205 : CallOk Try.prog 205 := .of Try.func205 rfl (by decide)
theorem ok206 : CallOk Try.prog 206 := .of Try.func206 rfl (by decide)
theorem ok212 : CallOk Try.prog 212 := .of Try.func212 rfl (by decide)
theorem ok213 : CallOk Try.prog 213 := .of Try.func213 rfl (by decide)
theorem ok215 : CallOk Try.prog 215 := .of Try.func215 rfl (by decide)
theorem ok216 : CallOk Try.prog 216 := .of Try.func216 rfl (by decide)
theorem ok217 : CallOk Try.prog 217 := .of Try.func217 rfl (by decide)
theorem ok229 : CallOk Try.prog 229 := .of Try.func229 rfl (by decide)
theorem ok231 : CallOk Try.prog 231 := .of Try.func231 rfl (by decide)
theorem ok47 : CallOk Try.prog 47 := .of Try.func47 rfl (by decide)
theorem ok51 : CallOk Try.prog 51 := .of Try.func51 rfl (by decide)
theorem ok63 : CallOk Try.prog 63 := .of Try.func63 rfl (by decide)
theorem ok66 : CallOk Try.prog 66 := .of Try.func66 rfl (by decide)
theorem ok67 : CallOk Try.prog 67 := .of Try.func67 rfl (by decide)
theorem ok68 : CallOk Try.prog 68 := .of Try.func68 rfl (by decide)
theorem ok69 : CallOk Try.prog 69 := .of Try.func69 rfl (by decide)
theorem ok70 : CallOk Try.prog 70 := .of Try.func70 rfl (by decide)
theorem ok71 : CallOk Try.prog 71 := .of Try.func71 rfl (by decide)
theorem ok72 : CallOk Try.prog 72 := .of Try.func72 rfl (by decide)
theorem ok73 : CallOk Try.prog 73 := .of Try.func73 rfl (by decide)
theorem ok74 : CallOk Try.prog 74 := .of Try.func74 rfl (by decide)
theorem ok75 : CallOk Try.prog 75 := .of Try.func75 rfl (by decide)
theorem ok76 : CallOk Try.prog 76 := .of Try.func76 rfl (by decide)
theorem ok77 : CallOk Try.prog 77 := .of Try.func77 rfl (by decide)
theorem ok78 : CallOk Try.prog 78 := .of Try.func78 rfl (by decide)
theorem ok79 : CallOk Try.prog 79 := .of Try.func79 rfl (by decide)
theorem ok80 : CallOk Try.prog 80 := .of Try.func80 rfl (by decide)
theorem ok81 : CallOk Try.prog 81 := .of Try.func81 rfl (by decide)
theorem ok82 : CallOk Try.prog 82 := .of Try.func82 rfl (by decide)
theorem ok83 : CallOk Try.prog 83 := .of Try.func83 rfl (by decide)
theorem ok84 : CallOk Try.prog 84 := .of Try.func84 rfl (by decide)
theorem ok85 : CallOk Try.prog 85 := .of Try.func85 rfl (by decide)
theorem ok92 : CallOk Try.prog 92 := .of Try.func92 rfl (by decide)
theorem ok93 : CallOk Try.prog 93 := .of Try.func93 rfl (by decide)
theorem ok95 : CallOk Try.prog 95 := .of Try.func95 rfl (by decide)
theorem ok96 : CallOk Try.prog 96 := .of Try.func96 rfl (by decide)
theorem ok97 : CallOk Try.prog 97 := .of Try.func97 rfl (by decide)
theorem ok98 : CallOk Try.prog 98 := .of Try.func98 rfl (by decide)
theorem ok99 : CallOk Try.prog 99 := .of Try.func99 rfl (by decide)
theorem on25 {w0 : World} {M : Nat → Prop} {rs rest : List Res} {S : Nat → Prop} {v : Value} {l : List (List Int)} {i : Nat} {x : List Int} (is js : List Nat) (hp : Ga.pick rs (is ++ js) = some (R.sl S v l :: rest)) (hn : noDup (is ++ js) = true) (hx : l[i]? = some x) :
  ∀ w, Sep w0 M rs w → ∃ C', C' w ∧ ∃ (v0 : Value) (S0 : Nat → Prop) (Sr : Nat → Prop), SlLen v0 (x).length ∧ (∀ b, S b ↔ (S0 b) ∨ Sr b) ∧ C' = Sep w0 M (R.sl S0 v0 x :: R.hole Sr v l i [v0] :: rest) := by
 intro w hw
 obtain ⟨cs, Se, Sr, ho, hh, h1, h2, h3⟩ := SlOwn.open (show SlOwn w S v l from (hw.pick hp hn).ok _ (List.mem_cons_self ..)) hx
 obtain ⟨v0, rfl, f0⟩ := ho
 have hs0 : ∀ b, Se b → Se b := fun b hb => hb
 have hw1 : Sep w0 M ([R.sl S v l] ++ rest) w := hw.pick hp hn
 refine ⟨_, Sep.repl (ns := [R.sl Se v0 x, R.hole (fun b => S b ∧ ¬ (Se b)) v l i [v0]]) hw1 ?_ ?_ ?_, v0, Se, (fun b => S b ∧ ¬ (Se b)), (SlOwn.rd f0).len, fun b => ⟨fun hb => ?_, fun hb => ?_⟩, rfl⟩
 ·intro r hr; simp only [List.mem_cons, List.not_mem_nil, or_false] at hr; rcases hr with rfl | rfl
  ·exact f0
  ·exact hh.mono (fun b hb => ⟨h2 b hb, fun h => h3 b (hs0 b h) hb⟩)
 ·refine .cons (fun s hs b hb hb2 => ?_) (.cons (fun s hs => by cases hs) .nil)
  rw [List.mem_singleton.1 hs] at hb2; exact hb2.2 hb
 ·intro r hr b hb; simp only [List.mem_cons, List.not_mem_nil, or_false] at hr; refine ⟨_, List.mem_cons_self .., ?_⟩; rcases hr with rfl | rfl
  ·exact h1 b (hs0 b hb)
  ·exact hb.1
 ·by_cases hc : Se b
  ·exact .inl hc
  ·exact .inr ⟨hb, hc⟩
 ·rcases hb with hb | hb
  ·exact h1 b (hs0 b hb)
  ·exact hb.1
theorem on27 {w0 : World} {M : Nat → Prop} {rs rest : List Res} {S : Nat → Prop} {v : Value} {l : List (Int × List (Int × Int × Int) × List Int)} {i : Nat} {x : Int × List (Int × Int × Int) × List Int} (is js : List Nat) (hp : Ga.pick rs (is ++ js) = some (R.sl S v l :: rest)) (hn : noDup (is ++ js) = true) (hx : l[i]? = some x) :
  ∀ w, Sep w0 M rs w → ∃ C', C' w ∧ ∃ (v1 : Value) (S1 : Nat → Prop) (v2 : Value) (S2 : Nat → Prop) (Sr : Nat → Prop), SlLen v1 (x.2.1).length ∧ SlLen v2 (x.2.2).length ∧ (∀ b, S b ↔ (S1 b ∨ S2 b) ∨ Sr b) ∧ C' = Sep w0 M (R.sl S1 v1 x.2.1 :: R.sl S2 v2 x.2.2 :: R.hole Sr v l i [.int .i64 x.1, v1, v2] :: rest) := by
 intro w hw
 obtain ⟨cs, Se, Sr, ho, hh, h1, h2, h3⟩ := SlOwn.open (show SlOwn w S v l from (hw.pick hp hn).ok _ (List.mem_cons_self ..)) hx
 obtain ⟨c0, d0, rfl, S0, U0, hd0, ha0, hb0, f0, g1⟩ := ho
 obtain ⟨c1, d1, rfl, S1, U1, hd1, ha1, hb1, ⟨v1, rfl, f1⟩, g2⟩ := g1
 obtain ⟨v2, rfl, f2⟩ := g2
 obtain rfl := Flat.own_iff.1 f0
 have hs1 : ∀ b, S1 b → Se b := fun b hb => hb0 b (ha1 b hb)
 have hs2 : ∀ b, U1 b → Se b := fun b hb => hb0 b (hb1 b hb)
 have hdis : ∀ b, S1 b → U1 b → False := fun b hj hq => hd1 b hj (hq)
 have hw1 : Sep w0 M ([R.sl S v l] ++ rest) w := hw.pick hp hn
 refine ⟨_, Sep.repl (ns := [R.sl S1 v1 x.2.1, R.sl U1 v2 x.2.2, R.hole (fun b => S b ∧ ¬ (S1 b ∨ U1 b)) v l i [.int .i64 x.1, v1, v2]]) hw1 ?_ ?_ ?_, v1, S1, v2, U1, (fun b => S b ∧ ¬ (S1 b ∨ U1 b)), (SlOwn.rd f1).len, (SlOwn.rd f2).len, fun b => ⟨fun hb => ?_, fun hb => ?_⟩, rfl⟩
 ·intro r hr; simp only [List.mem_cons, List.not_mem_nil, or_false] at hr; rcases hr with rfl | rfl | rfl
  ·exact f1
  ·exact f2
  ·exact hh.mono (fun b hb => ⟨h2 b hb, fun h => by rcases h with h | h; exact h3 b (hs1 b h) hb; exact h3 b (hs2 b h) hb⟩)
 ·refine .cons (fun s hs b hb hb2 => ?_) (.cons (fun s hs b hb hb2 => ?_) (.cons (fun s hs => by cases hs) .nil))
  ·simp only [List.mem_cons, List.not_mem_nil, or_false] at hs; rcases hs with rfl | rfl
   ·exact hdis b hb hb2
   ·exact hb2.2 (.inl hb)
  ·rw [List.mem_singleton.1 hs] at hb2; exact hb2.2 (.inr hb)
 ·intro r hr b hb; simp only [List.mem_cons, List.not_mem_nil, or_false] at hr; refine ⟨_, List.mem_cons_self .., ?_⟩; rcases hr with rfl | rfl | rfl
  ·exact h1 b (hs1 b hb)
  ·exact h1 b (hs2 b hb)
  ·exact hb.1
 ·by_cases hc : S1 b ∨ U1 b
  ·exact .inl hc
  ·exact .inr ⟨hb, hc⟩
 ·rcases hb with (hb | hb) | hb
  ·exact h1 b (hs1 b hb)
  ·exact h1 b (hs2 b hb)
  ·exact hb.1
theorem op25 {w : World} {cs : List Value} {t : List Int} (h : rep w (fun _ => True) cs t) : ∃ v0 : Value, cs = [v0] ∧ Rd w v0 t := by
 obtain ⟨v0, rfl, h0⟩ := h
 exact ⟨v0, rfl, h0⟩
theorem op27 {w : World} {cs : List Value} {t : Int × List (Int × Int × Int) × List Int} (h : rep w (fun _ => True) cs t) : ∃ v1 v2 : Value, cs = [.int .i64 t.1, v1, v2] ∧ Rd w v1 t.2.1 ∧ Rd w v2 t.2.2 := by
 obtain ⟨_, _, rfl, h0, ⟨_, _, rfl, ⟨v1, rfl, h1⟩, ⟨v2, rfl, h2⟩⟩⟩ := h
 rw [Flat.rp h0]
 exact ⟨v1, v2, rfl, h1, h2⟩
theorem ta121 : TAgg Try.prog 121 true := .of (by kernel_rfl)
theorem ta145 : TAgg Try.prog 145 true := .of (by kernel_rfl)
theorem ta148 : TAgg Try.prog 148 true := .of (by kernel_rfl)
theorem ta22 : TAgg Try.prog 22 false := .of (by kernel_rfl)
theorem ta24 : TAgg Try.prog 24 false := .of (by kernel_rfl)
theorem ta25 : TAgg Try.prog 25 false := .of (by kernel_rfl)
theorem ta27 : TAgg Try.prog 27 true := .of (by kernel_rfl)
theorem ta3 : TAgg Try.prog 3 false := .of (by kernel_rfl)
theorem ta5 : TAgg Try.prog 5 false := .of (by kernel_rfl)
theorem ta82 : TAgg Try.prog 82 false := .of (by kernel_rfl)
theorem ta83 : TAgg Try.prog 83 false := .of (by kernel_rfl)
theorem ta85 : TAgg Try.prog 85 true := .of (by kernel_rfl)
theorem ta98 : TAgg Try.prog 98 false := .of (by kernel_rfl)
theorem tf100_0 : TField Try.prog 100 0 0 := .of (k := 0) (by kernel_rfl)
theorem tf100_1 : TField Try.prog 100 1 1 := .of (k := 0) (by kernel_rfl)
theorem tf100_2 : TField Try.prog 100 2 2 := .of (k := 0) (by kernel_rfl)
theorem tf145_0 : TField Try.prog 145 0 0 := .of (k := 0) (by kernel_rfl)
theorem tf145_1 : TField Try.prog 145 1 1 := .of (k := 0) (by kernel_rfl)
theorem tf148_0 : TField Try.prog 148 0 0 := .of (k := 0) (by kernel_rfl)
theorem tf148_1 : TField Try.prog 148 1 1 := .of (k := 0) (by kernel_rfl)
theorem tf148_2 : TField Try.prog 148 2 2 := .of (k := 0) (by kernel_rfl)
theorem tf27_0 : TField Try.prog 27 0 0 := .of (k := 0) (by kernel_rfl)
theorem tf27_1 : TField Try.prog 27 1 1 := .of (k := 0) (by kernel_rfl)
theorem tf27_2 : TField Try.prog 27 2 2 := .of (k := 0) (by kernel_rfl)
theorem tf85_0 : TField Try.prog 85 0 0 := .of (k := 0) (by kernel_rfl)
theorem tf85_1 : TField Try.prog 85 1 1 := .of (k := 0) (by kernel_rfl)
theorem ti100 : TInfo Try.prog 100 3 40 (.agg #[.slice none 0 0, .int .i64 0, .int .u64 0]) := .of (by kernel_rfl)
theorem ti121 : TInfo Try.prog 121 3 24 (.agg #[.int .i64 0, .int .i64 0, .int .i64 0]) := .of (by kernel_rfl)
theorem ti145 : TInfo Try.prog 145 2 48 (.agg #[.slice none 0 0, .slice none 0 0]) := .of (by kernel_rfl)
theorem ti148 : TInfo Try.prog 148 3 72 (.agg #[.slice none 0 0, .slice none 0 0, .slice none 0 0]) := .of (by kernel_rfl)
theorem ti24 : TInfo Try.prog 24 1 24 (.slice none 0 0) := .of (by kernel_rfl)
theorem ti25 : TInfo Try.prog 25 1 24 (.slice none 0 0) := .of (by kernel_rfl)
theorem ti27 : TInfo Try.prog 27 3 56 (.agg #[.int .i64 0, .slice none 0 0, .slice none 0 0]) := .of (by kernel_rfl)
theorem ti3 : TInfo Try.prog 3 1 8 (.int .i64 0) := .of (by kernel_rfl)
theorem ti5 : TInfo Try.prog 5 1 1 (.int .u8 0) := .of (by kernel_rfl)
theorem ti82 : TInfo Try.prog 82 1 24 (.slice none 0 0) := .of (by kernel_rfl)
theorem ti83 : TInfo Try.prog 83 1 24 (.slice none 0 0) := .of (by kernel_rfl)
theorem ti85 : TInfo Try.prog 85 2 48 (.agg #[.slice none 0 0, .slice none 0 0]) := .of (by kernel_rfl)
theorem ti98 : TInfo Try.prog 98 1 8 (.int .u64 0) := .of (by kernel_rfl)
end Go.Proofs

/- loop.example/g01158/laws.rBig -/

namespace Go.Proofs
open Go Go.Ga
set_option linter.unusedVariables false
set_option maxRecDepth 100000
set_option maxHeartbeats 4000000
def laws_rBig.f (k : Nat) (a0 : List By) : Option (Bool) := some (decide ((a0.length : Int) > 65536))

theorem laws_rBig.ok {k : Nat}  {a0 : List By} {r0 : Bool} (h : laws_rBig.f k a0 = some r0) (w : World) {va0 : Value} (hr_a0 : Rd w va0 a0) :
  Calls Try.prog 47 ([va0] : List Value).toArray w (fun e w' => e = .returned (.bool r0) ∧ Ext w w') := by
 unfold laws_rBig.f at h
 have hl_va0 := hr_a0.len
 refine Calls.of_tri (N := 6) Try.func47 rfl rfl rfl (Sep.nil (M := noM)) ?_
 refine Tri.seq (Tri.reg (l := [0]) rfl ?_)
 refine F.qn rfl (r_assign rfl) (F.nil (Nrm.seq (Tri.seq (Tri.reg (l := [0, 1, 2, 3]) rfl ?_))))
 refine F.qn rfl (r_move rfl) (F.qn rfl (r_len Try.underlying22 rfl hl_va0) (F.qn rfl (r_gtr rfl rfl) (F.qn rfl (r_assign rfl) (F.nil (Nrm.seq (Tri.ret ?_))))))
 cases h
 exact Rtn.body (.tmp rfl .nil) (fun w hw => ⟨rfl, hw.ext⟩)


def laws_rInts.l0 (k : Nat) (a0 : List Int) (a1 : List Int) : Nat → Int → Option ((Unit) ⊕ (Bool))
 | 0, _ => none
 | n + 1, x5 => (if (decide (x5 < (a0.length : Int))) = true then (rdl a0 x5).bind fun t19 => (rdl a1 x5).bind fun t23 => (if (t19 != t23) = true then some (Sum.inr false) else laws_rInts.l0 k a0 a1 n (w64 (x5 + 1))) else some (Sum.inl ()))

def laws_rInts.f (k : Nat) (a0 : List Int) (a1 : List Int) : Option (Bool) := (if ((a0.length : Int) != (a1.length : Int)) = true then some false else (laws_rInts.l0 k a0 a1 k 0).bind fun s => Lr s some fun _ => some true)

theorem laws_rInts.ok {k : Nat}  {a0 : List Int} {a1 : List Int} {r0 : Bool} (h : laws_rInts.f k a0 a1 = some r0) (w : World) {va0 : Value} {va1 : Value} (hr_a0 : Rd w va0 a0) (hr_a1 : Rd w va1 a1) :
  Calls Try.prog 51 ([va0, va1] : List Value).toArray w (fun e w' => e = .returned (.bool r0) ∧ Ext w w') := by
 unfold laws_rInts.f at h
 have hl_va0 := hr_a0.len
 have hl_va1 := hr_a1.len
 refine Calls.of_tri (N := 26) Try.func51 rfl rfl rfl (Sep.nil (M := noM)) ?_
 refine Tri.seq (Tri.reg (l := [0]) rfl ?_)
 refine F.qn rfl (r_assign rfl) (F.nil (Nrm.seq (Tri.seq (Tri.seq (Tri.reg (l := [0, 1, 2, 3, 4]) rfl ?_)))))
 refine F.qn rfl (r_move rfl) (F.qn rfl (r_len Try.underlying25 rfl hl_va0) (F.qn rfl (r_move rfl) (F.qn rfl (r_len Try.underlying25 rfl hl_va1) (F.qn rfl (r_neq rfl rfl) (F.nil (Nrm.seq (Tri.cond (b := (a0.length : Int) != (a1.length : Int)) rfl (fun g_1 => ?_) (fun g_1 => ?_))))))))
 ·replace h := if_tt g_1 h
  refine Tri.seq (Tri.reg (l := [0]) rfl ?_)
  refine F.qn rfl (r_assign rfl) (F.nil (Nrm.seq (Tri.ret ?_)))
  refine Rtn.then ?_
  cases h
  exact Rtn.body (.tmp rfl .nil) (fun w hw => ⟨rfl, hw.ext⟩)
 ·replace h := if_ff g_1 h
  refine Tri.skip (Nrm.seq (Tri.seq (Tri.seq (Tri.reg (l := [0]) rfl ?_))))
  refine F.qn rfl (r_assign rfl) (F.nil (Nrm.seq ?_))
  obtain ⟨s0, hE_1, h⟩ := bind_some h
  refine Tri.block ?_
  refine Tri.only [0, 1, 5] rfl ?_
  refine Tri.pick [] rfl rfl ?_
  refine Tri.rounds (fun n e' C' => ∃ (x5' : Int), laws_rInts.l0 k a0 a1 n x5' = some s0 ∧ e' = [(0, va0), (1, va1), (5, .int .i64 x5')] ∧ C' = Sep w noM []) k ?_ ?_ ?_
  ·exact ⟨0, hE_1, rfl, rfl⟩
  ·rintro _ _ ⟨_, hE_1, _⟩
   rw [laws_rInts.l0.eq_1] at hE_1; cases hE_1
  ·rintro n_1 _ _ ⟨x5, hE_1, rfl, rfl⟩ ih_1
   rw [laws_rInts.l0.eq_2] at hE_1
   refine Tri.seq (Tri.seq (Tri.reg (l := [0, 1, 2, 3]) rfl ?_))
   refine F.qn rfl (r_move rfl) (F.qn rfl (r_move rfl) (F.qn rfl (r_len Try.underlying25 rfl hl_va0) (F.qn rfl (r_lss rfl rfl) (F.nil (Nrm.seq (Tri.cond (b := decide (x5 < (a0.length : Int))) rfl (fun g_2 => ?_) (fun g_2 => ?_)))))))
   ·replace hE_1 := if_tt g_2 hE_1
    refine Tri.skip (Nrm.seq (Tri.seq (Tri.block ?_)))
    refine Tri.seq ?_
    obtain ⟨t19, h19, hE_1⟩ := bind_some hE_1
    obtain ⟨t23, h23, hE_1⟩ := bind_some hE_1
    refine Tri.drawA mixedT Sep.up [(0, true), (1, true), (2, true), (3, true), (4, true), (5, true), (6, true), (7, true), (8, true)] [] (by kernel_rfl) ?_
    refine S.qn rfl (r_move rfl) (S.qn rfl (r_move rfl) (S.qn rfl (r_indexAddrS Try.underlying25 ti3 rfl hl_va0 rfl (rdl_some h19).1 (rdl_some h19).2.1) ?_))
    refine S.qn rfl (r_load ta3 rfl (fun w hw => cell_0 (Rd.flat ((fun _ hw => hr_a0.sep hw) w hw) (rdl_some h19).2.2) rfl)) (S.qn rfl (r_move rfl) (S.qn rfl (r_move rfl) (S.qn rfl (r_indexAddrS Try.underlying25 ti3 rfl hl_va1 rfl (rdl_some h23).1 (rdl_some h23).2.1) (S.qn rfl (r_load ta3 rfl (fun w hw => cell_0 (Rd.flat ((fun _ hw => hr_a1.sep hw) w hw) (rdl_some h23).2.2) rfl)) (S.qn rfl (r_neq rfl rfl) (S.nil (F.nil (Nrm.seq (Tri.cond (b := t19 != t23) rfl (fun g_3 => ?_) (fun g_3 => ?_))))))))))
    ·replace hE_1 := if_tt g_3 hE_1
     refine Tri.seq (Tri.reg (l := [0]) rfl ?_)
     refine F.qn rfl (r_assign rfl) (F.nil (Nrm.seq (Tri.ret ?_)))
     refine Rtn.block ?_
     refine Rtn.then ?_
     refine Rtn.then ?_
     refine Rtn.block ?_
     refine Rtn.then ?_
     cases hE_1
     replace h := Lr_inr h
     cases h
     exact Rtn.body (.tmp rfl .nil) (fun w hw => ⟨rfl, hw.ext⟩)
    ·replace hE_1 := if_ff g_3 hE_1
     refine Tri.skip (Nrm.block ?_)
     refine Nrm.seq (Tri.reg (l := [0, 1, 2]) rfl ?_)
     refine F.qn rfl (r_move rfl) (F.qn rfl (r_add rfl rfl) (F.qn rfl (r_assign rfl) (F.nil (Nrm.round ?_))))
     refine Rnd.only [0, 1, 5] rfl ?_
     refine Rnd.pick [] rfl rfl ?_
     exact ih_1 _ _ ⟨w64 (x5 + 1), hE_1, rfl, rfl⟩
   ·replace hE_1 := if_ff g_2 hE_1
    refine Tri.exit ?_
    refine Exi.then ?_
    refine Exi.then ?_
    refine Exi.same ?_
    cases hE_1
    replace h := Lr_inl h
    refine Nrm.seq (Tri.seq (Tri.reg (l := [0]) rfl ?_))
    refine F.qn rfl (r_assign rfl) (F.nil (Nrm.seq (Tri.ret ?_)))
    cases h
    exact Rtn.body (.tmp rfl .nil) (fun w hw => ⟨rfl, hw.ext⟩)


def laws_rHas.l0 (k : Nat) (a0 : List Int) (a1 : Int) : Nat → Int → Option ((Unit) ⊕ (Bool))
 | 0, _ => none
 | n + 1, x5 => (if (decide (x5 < (a0.length : Int))) = true then (rdl a0 x5).bind fun t14 => (if (t14 == a1) = true then some (Sum.inr true) else laws_rHas.l0 k a0 a1 n (w64 (x5 + 1))) else some (Sum.inl ()))

def laws_rHas.f (k : Nat) (a0 : List Int) (a1 : Int) : Option (Bool) := (laws_rHas.l0 k a0 a1 k 0).bind fun s => Lr s some fun _ => some false

theorem laws_rHas.ok {k : Nat}  {a0 : List Int} {a1 : Int} {r0 : Bool} (h : laws_rHas.f k a0 a1 = some r0) (w : World) {va0 : Value} (hr_a0 : Rd w va0 a0) :
  Calls Try.prog 63 ([va0, .int .i64 a1] : List Value).toArray w (fun e w' => e = .returned (.bool r0) ∧ Ext w w') := by
 unfold laws_rHas.f at h
 have hl_va0 := hr_a0.len
 refine Calls.of_tri (N := 18) Try.func63 rfl rfl rfl (Sep.nil (M := noM)) ?_
 refine Tri.seq (Tri.reg (l := [0]) rfl ?_)
 refine F.qn rfl (r_assign rfl) (F.nil (Nrm.seq (Tri.seq (Tri.seq (Tri.reg (l := [0]) rfl ?_)))))
 refine F.qn rfl (r_assign rfl) (F.nil (Nrm.seq ?_))
 obtain ⟨s0, hE_1, h⟩ := bind_some h
 refine Tri.block ?_
 refine Tri.only [0, 1, 5] rfl ?_
 refine Tri.pick [] rfl rfl ?_
 refine Tri.rounds (fun n e' C' => ∃ (x5' : Int), laws_rHas.l0 k a0 a1 n x5' = some s0 ∧ e' = [(0, va0), (1, .int .i64 a1), (5, .int .i64 x5')] ∧ C' = Sep w noM []) k ?_ ?_ ?_
 ·exact ⟨0, hE_1, rfl, rfl⟩
 ·rintro _ _ ⟨_, hE_1, _⟩
  rw [laws_rHas.l0.eq_1] at hE_1; cases hE_1
 ·rintro n_1 _ _ ⟨x5, hE_1, rfl, rfl⟩ ih_1
  rw [laws_rHas.l0.eq_2] at hE_1
  refine Tri.seq (Tri.seq (Tri.reg (l := [0, 1, 2, 3]) rfl ?_))
  refine F.qn rfl (r_move rfl) (F.qn rfl (r_move rfl) (F.qn rfl (r_len Try.underlying25 rfl hl_va0) (F.qn rfl (r_lss rfl rfl) (F.nil (Nrm.seq (Tri.cond (b := decide (x5 < (a0.length : Int))) rfl (fun g_1 => ?_) (fun g_1 => ?_)))))))
  ·replace hE_1 := if_tt g_1 hE_1
   refine Tri.skip (Nrm.seq (Tri.seq (Tri.block ?_)))
   refine Tri.seq ?_
   obtain ⟨t14, h14, hE_1⟩ := bind_some hE_1
   refine Tri.reg (l := [0, 1, 2, 3, 4, 5]) rfl ?_
   refine F.qn rfl (r_move rfl) (F.qn rfl (r_move rfl) (F.qn rfl (r_indexAddrS Try.underlying25 ti3 rfl hl_va0 rfl (rdl_some h14).1 (rdl_some h14).2.1) (F.qn rfl (r_load ta3 rfl (fun w hw => cell_0 (Rd.flat ((fun _ hw => hr_a0.sep hw) w hw) (rdl_some h14).2.2) rfl)) (F.qn rfl (r_move rfl) (F.qn rfl (r_eql rfl rfl) (F.nil (Nrm.seq (Tri.cond (b := t14 == a1) rfl (fun g_2 => ?_) (fun g_2 => ?_)))))))))
   ·replace hE_1 := if_tt g_2 hE_1
    refine Tri.seq (Tri.reg (l := [0]) rfl ?_)
    refine F.qn rfl (r_assign rfl) (F.nil (Nrm.seq (Tri.ret ?_)))
    refine Rtn.block ?_
    refine Rtn.then ?_
    refine Rtn.then ?_
    refine Rtn.block ?_
    refine Rtn.then ?_
    cases hE_1
    replace h := Lr_inr h
    cases h
    exact Rtn.body (.tmp rfl .nil) (fun w hw => ⟨rfl, hw.ext⟩)
   ·replace hE_1 := if_ff g_2 hE_1
    refine Tri.skip (Nrm.block ?_)
    refine Nrm.seq (Tri.reg (l := [0, 1, 2]) rfl ?_)
    refine F.qn rfl (r_move rfl) (F.qn rfl (r_add rfl rfl) (F.qn rfl (r_assign rfl) (F.nil (Nrm.round ?_))))
    refine Rnd.only [0, 1, 5] rfl ?_
    refine Rnd.pick [] rfl rfl ?_
    exact ih_1 _ _ ⟨w64 (x5 + 1), hE_1, rfl, rfl⟩
  ·replace hE_1 := if_ff g_1 hE_1
   refine Tri.exit ?_
   refine Exi.then ?_
   refine Exi.then ?_
   refine Exi.same ?_
   cases hE_1
   replace h := Lr_inl h
   refine Nrm.seq (Tri.seq (Tri.reg (l := [0]) rfl ?_))
   refine F.qn rfl (r_assign rfl) (F.nil (Nrm.seq (Tri.ret ?_)))
   cases h
   exact Rtn.body (.tmp rfl .nil) (fun w hw => ⟨rfl, hw.ext⟩)


def spec_l1Cur_next.f (k : Nat) (a0_0 : List By) (a0_1 : Int) (a0_2 : Int) : Option (Int × Int × Int) := ((if (decide (a0_1 < (a0_0.length : Int))) = true then (rdl a0_0 a0_1).bind fun t22 => some (IntKind.i64.wrap t22.v) else some 0)).bind fun y3 => (if (decide ((w64 (a0_1 + 1)) ≤ (a0_0.length : Int))) = true then some (y3, w64 (a0_1 + 1), wU ((wU ((wU (a0_2 * 6364136223846793005)) + (IntKind.u64.wrap y3))) + 462197)) else some (IntKind.i64.wrap (uand (shr (wU ((wU ((wU (a0_2 * 6364136223846793005)) + (IntKind.u64.wrap y3))) + 462197)) 40) 255), w64 (a0_1 + 1), wU ((wU ((wU (a0_2 * 6364136223846793005)) + (IntKind.u64.wrap y3))) + 462197)))

theorem spec_l1Cur_next.ok {k : Nat}  {a0_0 : List By} {a0_1 : Int} {a0_2 : Int} {r0 : Int} {r1 : Int} {r2 : Int} (h : spec_l1Cur_next.f k a0_0 a0_1 a0_2 = some (r0, r1, r2)) (w : World) {pa0 : Nat} {va0_0 : Value} (hr_a0_0 : RdM w (footM [R.box pa0 100 [va0_0, .int .i64 a0_1, .int .u64 a0_2]]) va0_0 a0_0) (hw0 : Sep w (footM [R.box pa0 100 [va0_0, .int .i64 a0_1, .int .u64 a0_2]]) [R.box pa0 100 [va0_0, .int .i64 a0_1, .int .u64 a0_2]] w) :
  Calls Try.prog 169 ([.pointer (some ⟨pa0, 0, none⟩)] : List Value).toArray w (PostM (footM [R.box pa0 100 [va0_0, .int .i64 a0_1, .int .u64 a0_2]]) (fun u ns => u = .int .i64 r0 ∧ ns = [R.box pa0 100 [va0_0, .int .i64 r1, .int .u64 r2]]) w) := by
 unfold spec_l1Cur_next.f at h
 have hl_va0_0 := hr_a0_0.len
 refine Calls.of_tri (N := 62) Try.func169 rfl rfl rfl hw0 ?_
 refine Tri.seq (Tri.reg (l := [0]) rfl ?_)
 refine F.qn rfl (r_assign rfl) (F.nil (Nrm.seq (Tri.seq (Tri.reg (l := [0]) rfl ?_))))
 refine F.qn rfl (r_assign rfl) (F.nil (Nrm.seq (Tri.seq (Tri.seq (Tri.drawA mixedT Sep.up [(0, true), (1, true), (2, true), (3, true), (4, true), (5, true), (6, true), (7, true), (8, true), (9, true)] [] (by kernel_rfl) ?_)))))
 refine S.qn rfl (r_move rfl) (S.qn rfl (r_nilC rfl) (S.qn rfl (r_fieldAddr tf100_1 rfl) (S.qn rfl (r_load ta3 rfl (fun w hw => cell_1 (box_cells (i := 0) rfl w hw) rfl)) ?_)))
 refine S.qn rfl (r_move rfl) (S.qn rfl (r_nilC rfl) (S.qn rfl (r_fieldAddr tf100_0 rfl) (S.qn rfl (r_load ta22 rfl (fun w hw => cell_1 (box_cells (i := 0) rfl w hw) rfl)) (S.qn rfl (r_len Try.underlying22 rfl hl_va0_0) (S.qn rfl (r_lss rfl rfl) (S.nil (F.nil (Nrm.seq ?_))))))))
 obtain ⟨y3, hE_1, h⟩ := bind_some h
 refine Tri.cut (fun e' C' => e' = [(0, .pointer (some ⟨pa0, 0, none⟩)), (3, .int .i64 y3)] ∧ C' = Sep w (footM [R.box pa0 100 [va0_0, .int .i64 a0_1, .int .u64 a0_2]]) [R.box pa0 100 [va0_0, .int .i64 a0_1, .int .u64 a0_2]]) ?_ (fun hj_1 => ?_)
 ·rintro _ _ ⟨rfl, rfl⟩
  refine Nrm.seq (Tri.seq (Tri.reg (l := [0, 1, 2, 3, 4, 5, 6, 7]) rfl ?_))
  refine F.qn rfl (r_move rfl) ?_
  refine F.qn rfl (r_nilC rfl) (F.qn rfl (r_fieldAddr tf100_1 rfl) (F.qn rfl (r_load ta3 rfl (fun w hw => cell_1 (box_cells (i := 0) rfl w hw) rfl)) (F.qn rfl (r_add rfl rfl) (F.qn rfl (r_nilC rfl) (F.qn rfl (r_fieldAddr tf100_1 rfl) ?_)))))
  refine F.ef0 rfl rfl (wanted_none rfl) (d_storeG1 (i := 0) (cs2 := [.int .i64 (w64 (a0_1 + 1))]) ti3 rfl rfl rfl rfl rfl (Nat.le_of_ble_eq_true rfl) (lf_cons rfl lf_nil)) ?_
  rintro _ _ ⟨rfl, rfl⟩
  refine F.nil (Nrm.seq (Tri.seq (Tri.reg (l := List.range 13) rfl ?_)))
  refine F.qn rfl (r_move rfl) (F.qn rfl (r_move rfl) (F.qn rfl (r_nilC rfl) (F.qn rfl (r_fieldAddr tf100_2 rfl) (F.qn rfl (r_load ta98 rfl (fun w hw => cell_1 (box_cells (i := 0) rfl w hw) rfl)) (F.qn rfl (r_mulU rfl rfl) ?_)))))
  refine F.qn rfl (r_move rfl) (F.qn rfl (r_conv Try.underlying3 Try.underlying98 rfl) (F.qn rfl (r_addU rfl rfl) (F.qn rfl (r_addU rfl rfl) (F.qn rfl (r_nilC rfl) (F.qn rfl (r_fieldAddr tf100_2 rfl) ?_)))))
  refine F.ef0 rfl rfl (wanted_none rfl) (d_storeG1 (i := 0) (cs2 := [.int .u64 (wU ((wU ((wU (a0_2 * 6364136223846793005)) + (IntKind.u64.wrap y3))) + 462197))]) ti98 rfl rfl rfl rfl rfl (Nat.le_of_ble_eq_true rfl) (lf_cons rfl lf_nil)) ?_
  rintro _ _ ⟨rfl, rfl⟩
  refine F.nil (Nrm.seq (Tri.seq (Tri.seq (Tri.drawA mixedT Sep.up [(0, true), (1, true), (2, true), (3, true), (4, true), (5, true), (6, true), (7, true), (8, true), (9, true)] [] (by kernel_rfl) ?_))))
  refine S.qn rfl (r_move rfl) (S.qn rfl (r_nilC rfl) (S.qn rfl (r_fieldAddr tf100_1 rfl) (S.qn rfl (r_load ta3 rfl (fun w hw => cell_1 (box_cells (i := 0) rfl w hw) rfl)) ?_)))
  refine S.qn rfl (r_move rfl) (S.qn rfl (r_nilC rfl) (S.qn rfl (r_fieldAddr tf100_0 rfl) (S.qn rfl (r_load ta22 rfl (fun w hw => cell_1 (box_cells (i := 0) rfl w hw) rfl)) (S.qn rfl (r_len Try.underlying22 rfl hl_va0_0) (S.qn rfl (r_leq rfl rfl) (S.nil (F.nil (Nrm.seq (Tri.cond (b := decide ((w64 (a0_1 + 1)) ≤ (a0_0.length : Int))) rfl (fun g_2 => ?_) (fun g_2 => ?_))))))))))
  ·replace h := if_tt g_2 h
   refine Tri.seq (Tri.reg (l := [0, 1]) rfl ?_)
   refine F.qn rfl (r_move rfl) (F.qn rfl (r_assign rfl) (F.nil (Nrm.seq (Tri.ret ?_))))
   refine Rtn.then ?_
   cases h
   exact Rtn.body (.tmp rfl .nil) (fun w hw => ⟨_, _, rfl, ⟨rfl, rfl⟩, Sep.pick (is := [0]) rfl rfl hw⟩)
  ·replace h := if_ff g_2 h
   refine Tri.skip (Nrm.seq (Tri.seq (Tri.reg (l := [0, 1, 2, 3, 4, 5, 6, 7]) rfl ?_)))
   refine F.qn rfl (r_move rfl) (F.qn rfl (r_nilC rfl) ?_)
   refine F.qn rfl (r_fieldAddr tf100_2 rfl) (F.qn rfl (r_load ta98 rfl (fun w hw => cell_1 (box_cells (i := 0) rfl w hw) rfl)) (F.qn rfl (r_shrU rfl rfl (by decide)) (F.qn rfl (r_andU rfl rfl) (F.qn rfl (r_conv Try.underlying98 Try.underlying3 rfl) (F.qn rfl (r_assign rfl) (F.nil (Nrm.seq (Tri.ret ?_))))))))
   cases h
   exact Rtn.body (.tmp rfl .nil) (fun w hw => ⟨_, _, rfl, ⟨rfl, rfl⟩, Sep.pick (is := [0]) rfl rfl hw⟩)
 ·refine Tri.cond (b := decide (a0_1 < (a0_0.length : Int))) rfl (fun g_1 => ?_) (fun g_1 => ?_)
  ·replace hE_1 := if_tt g_1 hE_1
   obtain ⟨t22, h22, hE_1⟩ := bind_some hE_1
   refine Tri.drawA mixedT Sep.up [(0, true), (1, true), (2, true), (3, true), (4, true), (5, true), (6, true), (7, true), (8, true), (9, true), (10, true), (11, true)] [] (by kernel_rfl) ?_
   refine S.qn rfl (r_move rfl) (S.qn rfl (r_nilC rfl) (S.qn rfl (r_fieldAddr tf100_0 rfl) (S.qn rfl (r_load ta22 rfl (fun w hw => cell_1 (box_cells (i := 0) rfl w hw) rfl)) (S.qn rfl (r_move rfl) (S.qn rfl (r_nilC rfl) ?_)))))
   refine S.qn rfl (r_fieldAddr tf100_1 rfl) (S.qn rfl (r_load ta3 rfl (fun w hw => cell_1 (box_cells (i := 0) rfl w hw) rfl)) (S.qn rfl (r_indexAddrS Try.underlying22 ti5 rfl hl_va0_0 rfl (rdl_some h22).1 (rdl_some h22).2.1) (S.qn rfl (r_load ta5 rfl (fun w hw => cell_0 (Rd.flat ((fun _ hw => hr_a0_0.sep hw) w hw) (rdl_some h22).2.2) rfl)) (S.qn rfl (r_conv Try.underlying5 Try.underlying3 rfl) (S.qn rfl (r_assign rfl) (S.nil (F.nil ?_)))))))
   cases hE_1
   refine Nrm.only [0, 3] rfl ?_
   refine Nrm.pick [0] rfl rfl ?_
   exact hj_1 _ _ ⟨rfl, rfl⟩
  ·replace hE_1 := if_ff g_1 hE_1
   refine Tri.skip ?_
   cases hE_1
   refine Nrm.only [0, 3] rfl ?_
   refine Nrm.pick [0] rfl rfl ?_
   exact hj_1 _ _ ⟨rfl, rfl⟩


def spec_l1Cur_pick.f (k : Nat) (a0_0 : List By) (a0_1 : Int) (a0_2 : Int) (a1 : Int) : Option (Int × Int × Int) := (if (decide (a1 ≤ 1)) = true then some (0, a0_1, a0_2) else (spec_l1Cur_next.f k a0_0 a0_1 a0_2).bind fun (t9_1, t9_2, t9_3) => ((if (decide (a1 > 200)) = true then (spec_l1Cur_next.f k a0_0 t9_2 t9_3).bind fun (t15_1, t15_2, t15_3) => some (w64 ((w64 (t9_1 * 256)) + t15_1), t15_2, t15_3) else some (t9_1, t9_2, t9_3))).bind fun (y5, ypa0_1, ypa0_2) => if ¬ a1 = 0 then some (rem y5 a1, ypa0_1, ypa0_2) else none)

theorem spec_l1Cur_pick.ok {k : Nat}  {a0_0 : List By} {a0_1 : Int} {a0_2 : Int} {a1 : Int} {r0 : Int} {r1 : Int} {r2 : Int} (h : spec_l1Cur_pick.f k a0_0 a0_1 a0_2 a1 = some (r0, r1, r2)) (w : World) {pa0 : Nat} {va0_0 : Value} (hr_a0_0 : RdM w (footM [R.box pa0 100 [va0_0, .int .i64 a0_1, .int .u64 a0_2]]) va0_0 a0_0) (hw0 : Sep w (footM [R.box pa0 100 [va0_0, .int .i64 a0_1, .int .u64 a0_2]]) [R.box pa0 100 [va0_0, .int .i64 a0_1, .int .u64 a0_2]] w) :
  Calls Try.prog 95 ([.pointer (some ⟨pa0, 0, none⟩), .int .i64 a1] : List Value).toArray w (PostM (footM [R.box pa0 100 [va0_0, .int .i64 a0_1, .int .u64 a0_2]]) (fun u ns => u = .int .i64 r0 ∧ ns = [R.box pa0 100 [va0_0, .int .i64 r1, .int .u64 r2]]) w) := by
 unfold spec_l1Cur_pick.f at h
 have hl_va0_0 := hr_a0_0.len
 refine Calls.of_tri (N := 20) Try.func95 rfl rfl rfl hw0 ?_
 refine Tri.seq (Tri.reg (l := [0]) rfl ?_)
 refine F.qn rfl (r_assign rfl) (F.nil (Nrm.seq (Tri.seq (Tri.seq (Tri.reg (l := [0, 1]) rfl ?_)))))
 refine F.qn rfl (r_move rfl) (F.qn rfl (r_leq rfl rfl) (F.nil (Nrm.seq (Tri.cond (b := decide (a1 ≤ 1)) rfl (fun g_1 => ?_) (fun g_1 => ?_)))))
 ·replace h := if_tt g_1 h
  refine Tri.seq (Tri.reg (l := [0]) rfl ?_)
  refine F.qn rfl (r_assign rfl) (F.nil (Nrm.seq (Tri.ret ?_)))
  refine Rtn.then ?_
  cases h
  exact Rtn.body (.tmp rfl .nil) (fun w hw => ⟨_, _, rfl, ⟨rfl, rfl⟩, Sep.pick (is := [0]) rfl rfl hw⟩)
 ·replace h := if_ff g_1 h
  refine Tri.skip (Nrm.seq (Tri.seq ?_))
  obtain ⟨⟨t9_1, t9_2, t9_3⟩, h9, h⟩ := bind_some h
  refine Tri.reg (l := [0, 1, 2]) rfl ?_
  refine F.qn rfl (r_move rfl) ?_
  refine F.efn rfl (d_callM (xs := _) (cs := [R.box pa0 100 [va0_0, .int .i64 a0_1, .int .u64 a0_2]]) (rest := []) [0] [] rfl ok169 rfl rfl rfl rfl (fun w hw => spec_l1Cur_next.ok h9 w (hr_a0_0.down hw) (Sep.sub hw))) ?_
  rintro _ _ ⟨_, ⟨rfl, rfl⟩, rfl⟩
  refine F.qn rfl (r_assign rfl) (F.nil (Nrm.seq (Tri.seq (Tri.seq (Tri.reg (l := [0, 1]) rfl ?_)))))
  refine F.qn rfl (r_move rfl) (F.qn rfl (r_gtr rfl rfl) (F.nil (Nrm.seq ?_)))
  obtain ⟨⟨y5, ypa0_1, ypa0_2⟩, hE_1, h⟩ := bind_some h
  refine Tri.cut (fun e' C' => e' = [(1, .int .i64 a1), (5, .int .i64 y5)] ∧ C' = Sep w (footM [R.box pa0 100 [va0_0, .int .i64 a0_1, .int .u64 a0_2]]) [R.box pa0 100 [va0_0, .int .i64 ypa0_1, .int .u64 ypa0_2]]) ?_ (fun hj_1 => ?_)
  ·rintro _ _ ⟨rfl, rfl⟩
   refine Nrm.seq (Tri.seq ?_)
   obtain ⟨hs19, h⟩ := ck h
   refine Tri.reg (l := [0, 1, 2, 3]) rfl ?_
   refine F.qn rfl (r_move rfl) (F.qn rfl (r_move rfl) (F.qn rfl (r_rem rfl rfl hs19) (F.qn rfl (r_assign rfl) (F.nil (Nrm.seq (Tri.ret ?_))))))
   cases h
   exact Rtn.body (.tmp rfl .nil) (fun w hw => ⟨_, _, rfl, ⟨rfl, rfl⟩, Sep.pick (is := [0]) rfl rfl hw⟩)
  ·refine Tri.cond (b := decide (a1 > 200)) rfl (fun g_2 => ?_) (fun g_2 => ?_)
   ·replace hE_1 := if_tt g_2 hE_1
    obtain ⟨⟨t15_1, t15_2, t15_3⟩, h15, hE_1⟩ := bind_some hE_1
    refine Tri.reg (l := [0, 1, 2, 3, 4, 5]) rfl ?_
    refine F.qn rfl (r_move rfl) (F.qn rfl (r_mul rfl rfl) (F.qn rfl (r_move rfl) ?_))
    refine F.efn rfl (d_callM (xs := _) (cs := [R.box pa0 100 [va0_0, .int .i64 t9_2, .int .u64 t9_3]]) (rest := []) [0] [] rfl ok169 rfl rfl rfl rfl (fun w hw => spec_l1Cur_next.ok h15 w (hr_a0_0.down hw) (Sep.sub hw))) ?_
    rintro _ _ ⟨_, ⟨rfl, rfl⟩, rfl⟩
    refine F.qn rfl (r_add rfl rfl) (F.qn rfl (r_assign rfl) (F.nil ?_))
    cases hE_1
    refine Nrm.only [1, 5] rfl ?_
    refine Nrm.pick [0] rfl rfl ?_
    exact hj_1 _ _ ⟨rfl, rfl⟩
   ·replace hE_1 := if_ff g_2 hE_1
    refine Tri.skip ?_
    cases hE_1
    refine Nrm.only [1, 5] rfl ?_
    refine Nrm.pick [0] rfl rfl ?_
    exact hj_1 _ _ ⟨rfl, rfl⟩


def spec_l1Cur_among.f (k : Nat) (a0_0 : List By) (a0_1 : Int) (a0_2 : Int) (a1 : List Int) : Option (Int × Int × Int) := (spec_l1Cur_pick.f k a0_0 a0_1 a0_2 (a1.length : Int)).bind fun (t9_1, t9_2, t9_3) => (rdl a1 t9_1).bind fun t10 => some (t10, t9_2, t9_3)

theorem spec_l1Cur_among.ok {k : Nat}  {a0_0 : List By} {a0_1 : Int} {a0_2 : Int} {a1 : List Int} {r0 : Int} {r1 : Int} {r2 : Int} (h : spec_l1Cur_among.f k a0_0 a0_1 a0_2 a1 = some (r0, r1, r2)) (w : World) {pa0 : Nat} {va0_0 : Value} (hr_a0_0 : RdM w (footM [R.box pa0 100 [va0_0, .int .i64 a0_1, .int .u64 a0_2]]) va0_0 a0_0) {va1 : Value} (hr_a1 : RdM w (footM [R.box pa0 100 [va0_0, .int .i64 a0_1, .int .u64 a0_2]]) va1 a1) (hw0 : Sep w (footM [R.box pa0 100 [va0_0, .int .i64 a0_1, .int .u64 a0_2]]) [R.box pa0 100 [va0_0, .int .i64 a0_1, .int .u64 a0_2]] w) :
  Calls Try.prog 96 ([.pointer (some ⟨pa0, 0, none⟩), va1] : List Value).toArray w (PostM (footM [R.box pa0 100 [va0_0, .int .i64 a0_1, .int .u64 a0_2]]) (fun u ns => u = .int .i64 r0 ∧ ns = [R.box pa0 100 [va0_0, .int .i64 r1, .int .u64 r2]]) w) := by
 unfold spec_l1Cur_among.f at h
 have hl_va0_0 := hr_a0_0.len
 have hl_va1 := hr_a1.len
 refine Calls.of_tri (N := 12) Try.func96 rfl rfl rfl hw0 ?_
 refine Tri.seq (Tri.reg (l := [0]) rfl ?_)
 refine F.qn rfl (r_assign rfl) (F.nil (Nrm.seq (Tri.seq ?_)))
 obtain ⟨⟨t9_1, t9_2, t9_3⟩, h9, h⟩ := bind_some h
 obtain ⟨t10, h10, h⟩ := bind_some h
 refine Tri.reg (l := [0, 1, 2, 3, 4, 5, 6, 7]) rfl ?_
 iterate 3 refine F.qn rfl (r_move rfl) ?_
 refine F.qn rfl (r_len Try.underlying25 rfl hl_va1) ?_
 refine F.efn rfl (d_callM (xs := _) (cs := [R.box pa0 100 [va0_0, .int .i64 a0_1, .int .u64 a0_2]]) (rest := []) [0] [] rfl ok95 rfl rfl rfl rfl (fun w hw => spec_l1Cur_pick.ok h9 w (hr_a0_0.down hw) (Sep.sub hw))) ?_
 rintro _ _ ⟨_, ⟨rfl, rfl⟩, rfl⟩
 refine F.qn rfl (r_indexAddrS Try.underlying25 ti3 rfl hl_va1 rfl (rdl_some h10).1 (rdl_some h10).2.1) (F.qn rfl (r_load ta3 rfl (fun w hw => cell_0 (Rd.flat ((fun _ hw => hr_a1.sep hw) w hw) (rdl_some h10).2.2) rfl)) (F.qn rfl (r_assign rfl) (F.nil (Nrm.seq (Tri.ret ?_)))))
 cases h
 exact Rtn.body (.tmp rfl .nil) (fun w hw => ⟨_, _, rfl, ⟨rfl, rfl⟩, Sep.pick (is := [0]) rfl rfl hw⟩)


def spec_l1Cur_one.f (k : Nat) (a0_0 : List By) (a0_1 : Int) (a0_2 : Int) (a1 : Int) : Option (Bool × Int × Int) := (spec_l1Cur_pick.f k a0_0 a0_1 a0_2 a1).bind fun (t7_1, t7_2, t7_3) => some (t7_1 == 0, t7_2, t7_3)

theorem spec_l1Cur_one.ok {k : Nat}  {a0_0 : List By} {a0_1 : Int} {a0_2 : Int} {a1 : Int} {r0 : Bool} {r1 : Int} {r2 : Int} (h : spec_l1Cur_one.f k a0_0 a0_1 a0_2 a1 = some (r0, r1, r2)) (w : World) {pa0 : Nat} {va0_0 : Value} (hr_a0_0 : RdM w (footM [R.box pa0 100 [va0_0, .int .i64 a0_1, .int .u64 a0_2]]) va0_0 a0_0) (hw0 : Sep w (footM [R.box pa0 100 [va0_0, .int .i64 a0_1, .int .u64 a0_2]]) [R.box pa0 100 [va0_0, .int .i64 a0_1, .int .u64 a0_2]] w) :
  Calls Try.prog 93 ([.pointer (some ⟨pa0, 0, none⟩), .int .i64 a1] : List Value).toArray w (PostM (footM [R.box pa0 100 [va0_0, .int .i64 a0_1, .int .u64 a0_2]]) (fun u ns => u = .bool r0 ∧ ns = [R.box pa0 100 [va0_0, .int .i64 r1, .int .u64 r2]]) w) := by
 unfold spec_l1Cur_one.f at h
 have hl_va0_0 := hr_a0_0.len
 refine Calls.of_tri (N := 9) Try.func93 rfl rfl rfl hw0 ?_
 refine Tri.seq (Tri.reg (l := [0]) rfl ?_)
 refine F.qn rfl (r_assign rfl) (F.nil (Nrm.seq (Tri.seq ?_)))
 obtain ⟨⟨t7_1, t7_2, t7_3⟩, h7, h⟩ := bind_some h
 refine Tri.reg (l := [0, 1, 2, 3, 4]) rfl ?_
 refine F.qn rfl (r_move rfl) (F.qn rfl (r_move rfl) ?_)
 refine F.efn rfl (d_callM (xs := _) (cs := [R.box pa0 100 [va0_0, .int .i64 a0_1, .int .u64 a0_2]]) (rest := []) [0] [] rfl ok95 rfl rfl rfl rfl (fun w hw => spec_l1Cur_pick.ok h7 w (hr_a0_0.down hw) (Sep.sub hw))) ?_
 rintro _ _ ⟨_, ⟨rfl, rfl⟩, rfl⟩
 refine F.qn rfl (r_eql rfl rfl) (F.qn rfl (r_assign rfl) (F.nil (Nrm.seq (Tri.ret ?_))))
 cases h
 exact Rtn.body (.tmp rfl .nil) (fun w hw => ⟨_, _, rfl, ⟨rfl, rfl⟩, Sep.pick (is := [0]) rfl rfl hw⟩)


def spec_l1Cur_few.l0 (k : Nat) (a0_0 : List By) (a1 : Int) : Nat → Int → Int → Int → Int → Option (Int × Int × Int)
 | 0, _, _, _, _ => none
 | n + 1, x5, x6, xpa0_1, xpa0_2 => (if (decide (x6 > 0)) = true then (spec_l1Cur_pick.f k a0_0 xpa0_1 xpa0_2 a1).bind fun (t17_1, t17_2, t17_3) => if ¬ t17_1 < 0 then spec_l1Cur_few.l0 k a0_0 a1 n (bor x5 (shl 1 t17_1)) (w64 (x6 - 1)) t17_2 t17_3 else none else some (x5, xpa0_1, xpa0_2))

def spec_l1Cur_few.f (k : Nat) (a0_0 : List By) (a0_1 : Int) (a0_2 : Int) (a1 : Int) : Option (Int × Int × Int) := (spec_l1Cur_among.f k a0_0 a0_1 a0_2 ([0, 1, 1, 1, 2] : List (Int))).bind fun (t9_1, t9_2, t9_3) => (spec_l1Cur_few.l0 k a0_0 a1 k 0 t9_1 t9_2 t9_3).bind fun (x5, xpa0_1, xpa0_2) => some (x5, xpa0_1, xpa0_2)

theorem spec_l1Cur_few.ok {k : Nat}  {a0_0 : List By} {a0_1 : Int} {a0_2 : Int} {a1 : Int} {r0 : Int} {r1 : Int} {r2 : Int} (h : spec_l1Cur_few.f k a0_0 a0_1 a0_2 a1 = some (r0, r1, r2)) (w : World) {pa0 : Nat} {va0_0 : Value} (hr_a0_0 : RdM w (footM [R.box pa0 100 [va0_0, .int .i64 a0_1, .int .u64 a0_2]]) va0_0 a0_0) (hw0 : Sep w (footM [R.box pa0 100 [va0_0, .int .i64 a0_1, .int .u64 a0_2]]) [R.box pa0 100 [va0_0, .int .i64 a0_1, .int .u64 a0_2]] w) :
  Calls Try.prog 205 ([.pointer (some ⟨pa0, 0, none⟩), .int .i64 a1] : List Value).toArray w (PostM (footM [R.box pa0 100 [va0_0, .int .i64 a0_1, .int .u64 a0_2]]) (fun u ns => u = .int .i64 r0 ∧ ns = [R.box pa0 100 [va0_0, .int .i64 r1, .int .u64 r2]]) w) := by
 unfold spec_l1Cur_few.f at h
 have hl_va0_0 := hr_a0_0.len
 refine Calls.of_tri (N := 21) Try.func205 rfl rfl rfl hw0 ?_
 refine Tri.seq (Tri.reg (l := [0]) rfl ?_)
 refine F.qn rfl (r_assign rfl) (F.nil (Nrm.seq (Tri.seq (Tri.reg (l := [0]) rfl ?_))))
 refine F.qn rfl (r_assign rfl) (F.nil (Nrm.seq (Tri.seq (Tri.seq ?_))))
 obtain ⟨⟨t9_1, t9_2, t9_3⟩, h9, h⟩ := bind_some h
 refine Tri.reg (l := [0, 1, 2, 3]) rfl ?_
 refine F.qn rfl (r_move rfl) ?_
 refine F.mn rfl (m_buildF (l := ([0, 1, 1, 1, 2] : List (Int))) Try.underlying25 ti3 rfl rfl rfl rfl rfl) ?_
 rintro v8_1 _ ⟨S8_1, hl_v8_1, rfl⟩
 refine F.efn rfl (d_callM (xs := _) (cs := [R.box pa0 100 [va0_0, .int .i64 a0_1, .int .u64 a0_2]]) (rest := [R.sl S8_1 v8_1 (([0, 1, 1, 1, 2] : List (Int)) : List (Int))]) [1] [0] rfl ok96 rfl rfl rfl rfl (fun w hw => spec_l1Cur_among.ok h9 w (hr_a0_0.down hw) (rdm_sl (i := 0) rfl hw) (Sep.sub hw))) ?_
 rintro _ _ ⟨_, ⟨rfl, rfl⟩, rfl⟩
 refine F.qn rfl (r_assign rfl) (F.nil (Nrm.seq ?_))
 obtain ⟨⟨x5, xpa0_1, xpa0_2⟩, hE_1, h⟩ := bind_some h
 refine Tri.block ?_
 refine Tri.only [0, 1, 5, 6] rfl ?_
 refine Tri.pick [0] rfl rfl ?_
 refine Tri.rounds (fun n e' C' => ∃ (x5' : Int) (x6' : Int) (xpa0_1' : Int) (xpa0_2' : Int), spec_l1Cur_few.l0 k a0_0 a1 n x5' x6' xpa0_1' xpa0_2' = some (x5, xpa0_1, xpa0_2) ∧ e' = [(0, .pointer (some ⟨pa0, 0, none⟩)), (1, .int .i64 a1), (5, .int .i64 x5'), (6, .int .i64 x6')] ∧ C' = Sep w (footM [R.box pa0 100 [va0_0, .int .i64 a0_1, .int .u64 a0_2]]) [R.box pa0 100 [va0_0, .int .i64 xpa0_1', .int .u64 xpa0_2']]) k ?_ ?_ ?_
 ·exact ⟨0, t9_1, t9_2, t9_3, hE_1, rfl, rfl⟩
 ·rintro _ _ ⟨_, _, _, _, hE_1, _⟩
  rw [spec_l1Cur_few.l0.eq_1] at hE_1; cases hE_1
 ·rintro n_1 _ _ ⟨x5, x6, xpa0_1, xpa0_2, hE_1, rfl, rfl⟩ ih_1
  rw [spec_l1Cur_few.l0.eq_2] at hE_1
  refine Tri.seq (Tri.seq (Tri.reg (l := [0, 1]) rfl ?_))
  refine F.qn rfl (r_move rfl) (F.qn rfl (r_gtr rfl rfl) (F.nil (Nrm.seq (Tri.cond (b := decide (x6 > 0)) rfl (fun g_1 => ?_) (fun g_1 => ?_)))))
  ·replace hE_1 := if_tt g_1 hE_1
   refine Tri.skip (Nrm.seq (Tri.seq (Tri.block ?_)))
   obtain ⟨⟨t17_1, t17_2, t17_3⟩, h17, hE_1⟩ := bind_some hE_1
   obtain ⟨hs18, hE_1⟩ := ck hE_1
   refine Tri.reg (l := [0, 1, 2, 3, 4, 5, 6]) rfl ?_
   iterate 3 refine F.qn rfl (r_move rfl) ?_
   refine F.efn rfl (d_callM (xs := _) (cs := [R.box pa0 100 [va0_0, .int .i64 xpa0_1, .int .u64 xpa0_2]]) (rest := []) [0] [] rfl ok95 rfl rfl rfl rfl (fun w hw => spec_l1Cur_pick.ok h17 w (hr_a0_0.down hw) (Sep.sub hw))) ?_
   rintro _ _ ⟨_, ⟨rfl, rfl⟩, rfl⟩
   refine F.qn rfl (r_shl rfl rfl hs18) (F.qn rfl (r_or rfl rfl) (F.qn rfl (r_assign rfl) (F.nil (Nrm.block ?_))))
   refine Nrm.seq (Tri.reg (l := [0, 1, 2]) rfl ?_)
   refine F.qn rfl (r_move rfl) (F.qn rfl (r_sub rfl rfl) (F.qn rfl (r_assign rfl) (F.nil (Nrm.round ?_))))
   refine Rnd.only [0, 1, 5, 6] rfl ?_
   refine Rnd.pick [0] rfl rfl ?_
   exact ih_1 _ _ ⟨bor x5 (shl 1 t17_1), w64 (x6 - 1), t17_2, t17_3, hE_1, rfl, rfl⟩
  ·replace hE_1 := if_ff g_1 hE_1
   refine Tri.exit ?_
   refine Exi.then ?_
   refine Exi.then ?_
   refine Exi.same ?_
   cases hE_1
   refine Nrm.seq (Tri.seq (Tri.reg (l := [0, 1]) rfl ?_))
   refine F.qn rfl (r_move rfl) (F.qn rfl (r_assign rfl) (F.nil (Nrm.seq (Tri.ret ?_))))
   cases h
   exact Rtn.body (.tmp rfl .nil) (fun w hw => ⟨_, _, rfl, ⟨rfl, rfl⟩, Sep.pick (is := [0]) rfl rfl hw⟩)


def spec_l1Most.f (k : Nat) (a0 : Int) (a1 : Int) : Option (Int) := (if (decide (a0 > a1)) = true then some a0 else some a1)

theorem spec_l1Most.ok {k : Nat}  {a0 : Int} {a1 : Int} {r0 : Int} (h : spec_l1Most.f k a0 a1 = some r0) (w : World) :
  Calls Try.prog 180 ([.int .i64 a0, .int .i64 a1] : List Value).toArray w (fun e w' => e = .returned (.int .i64 r0) ∧ Ext w w') := by
 unfold spec_l1Most.f at h
 refine Calls.of_tri (N := 10) Try.func180 rfl rfl rfl (Sep.nil (M := noM)) ?_
 refine Tri.seq (Tri.reg (l := [0]) rfl ?_)
 refine F.qn rfl (r_assign rfl) (F.nil (Nrm.seq (Tri.seq (Tri.seq (Tri.reg (l := [0, 1, 2]) rfl ?_)))))
 refine F.qn rfl (r_move rfl) (F.qn rfl (r_move rfl) (F.qn rfl (r_gtr rfl rfl) (F.nil (Nrm.seq (Tri.cond (b := decide (a0 > a1)) rfl (fun g_1 => ?_) (fun g_1 => ?_))))))
 ·replace h := if_tt g_1 h
  refine Tri.seq (Tri.reg (l := [0, 1]) rfl ?_)
  refine F.qn rfl (r_move rfl) (F.qn rfl (r_assign rfl) (F.nil (Nrm.seq (Tri.ret ?_))))
  refine Rtn.then ?_
  cases h
  exact Rtn.body (.tmp rfl .nil) (fun w hw => ⟨rfl, hw.ext⟩)
 ·replace h := if_ff g_1 h
  refine Tri.skip (Nrm.seq (Tri.seq (Tri.reg (l := [0, 1]) rfl ?_)))
  refine F.qn rfl (r_move rfl) (F.qn rfl (r_assign rfl) (F.nil (Nrm.seq (Tri.ret ?_))))
  cases h
  exact Rtn.body (.tmp rfl .nil) (fun w hw => ⟨rfl, hw.ext⟩)


def spec_l1Least.f (k : Nat) (a0 : Int) (a1 : Int) : Option (Int) := (if (decide (a0 < a1)) = true then some a0 else some a1)

theorem spec_l1Least.ok {k : Nat}  {a0 : Int} {a1 : Int} {r0 : Int} (h : spec_l1Least.f k a0 a1 = some r0) (w : World) :
  Calls Try.prog 181 ([.int .i64 a0, .int .i64 a1] : List Value).toArray w (fun e w' => e = .returned (.int .i64 r0) ∧ Ext w w') := by
 unfold spec_l1Least.f at h
 refine Calls.of_tri (N := 10) Try.func181 rfl rfl rfl (Sep.nil (M := noM)) ?_
 refine Tri.seq (Tri.reg (l := [0]) rfl ?_)
 refine F.qn rfl (r_assign rfl) (F.nil (Nrm.seq (Tri.seq (Tri.seq (Tri.reg (l := [0, 1, 2]) rfl ?_)))))
 refine F.qn rfl (r_move rfl) (F.qn rfl (r_move rfl) (F.qn rfl (r_lss rfl rfl) (F.nil (Nrm.seq (Tri.cond (b := decide (a0 < a1)) rfl (fun g_1 => ?_) (fun g_1 => ?_))))))
 ·replace h := if_tt g_1 h
  refine Tri.seq (Tri.reg (l := [0, 1]) rfl ?_)
  refine F.qn rfl (r_move rfl) (F.qn rfl (r_assign rfl) (F.nil (Nrm.seq (Tri.ret ?_))))
  refine Rtn.then ?_
  cases h
  exact Rtn.body (.tmp rfl .nil) (fun w hw => ⟨rfl, hw.ext⟩)
 ·replace h := if_ff g_1 h
  refine Tri.skip (Nrm.seq (Tri.seq (Tri.reg (l := [0, 1]) rfl ?_)))
  refine F.qn rfl (r_move rfl) (F.qn rfl (r_assign rfl) (F.nil (Nrm.seq (Tri.ret ?_))))
  cases h
  exact Rtn.body (.tmp rfl .nil) (fun w hw => ⟨rfl, hw.ext⟩)


def spec_l2Before.l0 (k : Nat) (a0_0 : Int) (a0_1 : Int) (a0_2 : Int) (a1_0 : Int) (a1_1 : Int) (a1_2 : Int) : Nat → Int → Option ((Unit) ⊕ (Bool))
 | 0, _ => none
 | n + 1, x5 => (if (decide (x5 < 3)) = true then (rdl [a0_0, a0_1, a0_2] x5).bind fun t11 => (rdl [a1_0, a1_1, a1_2] x5).bind fun t14 => (if (t11 != t14) = true then (rdl [a0_0, a0_1, a0_2] x5).bind fun t18 => (rdl [a1_0, a1_1, a1_2] x5).bind fun t21 => some (Sum.inr (decide (t18 < t21))) else spec_l2Before.l0 k a0_0 a0_1 a0_2 a1_0 a1_1 a1_2 n (w64 (x5 + 1))) else some (Sum.inl ()))

def spec_l2Before.f (k : Nat) (a0_0 : Int) (a0_1 : Int) (a0_2 : Int) (a1_0 : Int) (a1_1 : Int) (a1_2 : Int) : Option (Bool) := (spec_l2Before.l0 k a0_0 a0_1 a0_2 a1_0 a1_1 a1_2 k 0).bind fun s => Lr s some fun _ => some false

theorem spec_l2Before.ok {k : Nat}  {a0_0 : Int} {a0_1 : Int} {a0_2 : Int} {a1_0 : Int} {a1_1 : Int} {a1_2 : Int} {r0 : Bool} (h : spec_l2Before.f k a0_0 a0_1 a0_2 a1_0 a1_1 a1_2 = some r0) (w : World) :
  Calls Try.prog 213 ([.agg ([.int .i64 a0_0, .int .i64 a0_1, .int .i64 a0_2].toArray), .agg ([.int .i64 a1_0, .int .i64 a1_1, .int .i64 a1_2].toArray)] : List Value).toArray w (fun e w' => e = .returned (.bool r0) ∧ Ext w w') := by
 unfold spec_l2Before.f at h
 refine Calls.of_tri (N := 24) Try.func213 rfl rfl rfl (Sep.nil (M := noM)) ?_
 refine Tri.seq (Tri.reg (l := [0, 1, 2]) rfl ?_)
 refine F.mn rfl (m_boxG rfl rfl) ?_
 rintro _ _ ⟨b2_1, rfl, rfl⟩
 refine F.mn rfl (m_boxG rfl rfl) ?_
 rintro _ _ ⟨b3_1, rfl, rfl⟩
 refine F.qn rfl (r_assign rfl) (F.nil (Nrm.seq (Tri.seq (Tri.seq (Tri.reg (l := [0]) rfl ?_)))))
 refine F.qn rfl (r_assign rfl) (F.nil (Nrm.seq ?_))
 obtain ⟨s0, hE_1, h⟩ := bind_some h
 refine Tri.block ?_
 refine Tri.only [2, 3, 5] rfl ?_
 refine Tri.pick [0, 1] rfl rfl ?_
 refine Tri.rounds (fun n e' C' => ∃ (x5' : Int), spec_l2Before.l0 k a0_0 a0_1 a0_2 a1_0 a1_1 a1_2 n x5' = some s0 ∧ e' = [(2, .pointer (some ⟨b2_1, 0, none⟩)), (3, .pointer (some ⟨b3_1, 0, none⟩)), (5, .int .i64 x5')] ∧ C' = Sep w noM [R.box b3_1 121 [.int .i64 a1_0, .int .i64 a1_1, .int .i64 a1_2], R.box b2_1 121 [.int .i64 a0_0, .int .i64 a0_1, .int .i64 a0_2]]) k ?_ ?_ ?_
 ·exact ⟨0, hE_1, rfl, rfl⟩
 ·rintro _ _ ⟨_, hE_1, _⟩
  rw [spec_l2Before.l0.eq_1] at hE_1; cases hE_1
 ·rintro n_1 _ _ ⟨x5, hE_1, rfl, rfl⟩ ih_1
  rw [spec_l2Before.l0.eq_2] at hE_1
  refine Tri.seq (Tri.seq (Tri.reg (l := [0, 1]) rfl ?_))
  refine F.qn rfl (r_move rfl) (F.qn rfl (r_lss rfl rfl) (F.nil (Nrm.seq (Tri.cond (b := decide (x5 < 3)) rfl (fun g_1 => ?_) (fun g_1 => ?_)))))
  ·replace hE_1 := if_tt g_1 hE_1
   refine Tri.skip (Nrm.seq (Tri.seq (Tri.block ?_)))
   refine Tri.seq ?_
   obtain ⟨t11, h11, hE_1⟩ := bind_some hE_1
   obtain ⟨t14, h14, hE_1⟩ := bind_some hE_1
   refine Tri.drawA mixedT Sep.up [(0, true), (1, true), (2, true), (3, true), (4, true), (5, true), (6, true)] [] (by kernel_rfl) ?_
   refine S.qn rfl (r_move rfl) ?_
   refine S.qn rfl (r_indexAddrA Try.underlying121 ti3 rfl rfl (rdl_some h11).1 (rdl_some h11).2.1) (S.qn rfl (r_load ta3 rfl (fun w hw => cell_dynB (box_cells (i := 1) rfl w hw) rfl h11)) (S.qn rfl (r_move rfl) (S.qn rfl (r_indexAddrA Try.underlying121 ti3 rfl rfl (rdl_some h14).1 (rdl_some h14).2.1) (S.qn rfl (r_load ta3 rfl (fun w hw => cell_dynB (box_cells (i := 0) rfl w hw) rfl h14)) (S.qn rfl (r_neq rfl rfl) (S.nil (F.nil (Nrm.seq (Tri.cond (b := t11 != t14) rfl (fun g_2 => ?_) (fun g_2 => ?_))))))))))
   ·replace hE_1 := if_tt g_2 hE_1
    refine Tri.seq ?_
    obtain ⟨t18, h18, hE_1⟩ := bind_some hE_1
    obtain ⟨t21, h21, hE_1⟩ := bind_some hE_1
    refine Tri.drawA mixedT Sep.up [(0, true), (1, true), (2, true), (3, true), (4, true), (5, true), (6, true), (7, true)] [] (by kernel_rfl) ?_
    refine S.qn rfl (r_move rfl) (S.qn rfl (r_indexAddrA Try.underlying121 ti3 rfl rfl (rdl_some h18).1 (rdl_some h18).2.1) ?_)
    refine S.qn rfl (r_load ta3 rfl (fun w hw => cell_dynB (box_cells (i := 1) rfl w hw) rfl h18)) (S.qn rfl (r_move rfl) (S.qn rfl (r_indexAddrA Try.underlying121 ti3 rfl rfl (rdl_some h21).1 (rdl_some h21).2.1) (S.qn rfl (r_load ta3 rfl (fun w hw => cell_dynB (box_cells (i := 0) rfl w hw) rfl h21)) (S.qn rfl (r_lss rfl rfl) (S.qn rfl (r_assign rfl) (S.nil (F.nil (Nrm.seq (Tri.ret ?_)))))))))
    refine Rtn.block ?_
    refine Rtn.then ?_
    refine Rtn.then ?_
    refine Rtn.block ?_
    refine Rtn.then ?_
    cases hE_1
    replace h := Lr_inr h
    cases h
    exact Rtn.body (.tmp rfl .nil) (fun w hw => ⟨rfl, hw.ext⟩)
   ·replace hE_1 := if_ff g_2 hE_1
    refine Tri.skip (Nrm.block ?_)
    refine Nrm.seq (Tri.reg (l := [0, 1, 2]) rfl ?_)
    refine F.qn rfl (r_move rfl) (F.qn rfl (r_add rfl rfl) (F.qn rfl (r_assign rfl) (F.nil (Nrm.round ?_))))
    refine Rnd.only [2, 3, 5] rfl ?_
    refine Rnd.pick [0, 1] rfl rfl ?_
    exact ih_1 _ _ ⟨w64 (x5 + 1), hE_1, rfl, rfl⟩
  ·replace hE_1 := if_ff g_1 hE_1
   refine Tri.exit ?_
   refine Exi.then ?_
   refine Exi.then ?_
   refine Exi.same ?_
   cases hE_1
   replace h := Lr_inl h
   refine Nrm.seq (Tri.seq (Tri.reg (l := [0]) rfl ?_))
   refine F.qn rfl (r_assign rfl) (F.nil (Nrm.seq (Tri.ret ?_)))
   cases h
   exact Rtn.body (.tmp rfl .nil) (fun w hw => ⟨rfl, hw.ext⟩)


def spec_l2Put.l0 (k : Nat) (a0 : List (Int × Int × Int)) (a3 : Int) (t13 : Int) (t16 : Int) : Nat → Int → Option (Int)
 | 0, _ => none
 | n + 1, x10 => ((if (decide (x10 < (a0.length : Int))) = true then (rdl a0 x10).bind fun t26 => (spec_l2Before.f k t26.1 t26.2.1 t26.2.2 t13 t16 a3).bind fun t29 => some t29 else some false)).bind fun y30 => (if y30 = true then spec_l2Put.l0 k a0 a3 t13 t16 n (w64 (x10 + 1)) else some x10)

def spec_l2Put.f (k : Nat) (a0 : List (Int × Int × Int)) (a1 : Int) (a2 : Int) (a3 : Int) : Option ((List (Int × Int × Int))) := (spec_l1Least.f k a1 a2).bind fun t13 => (spec_l1Most.f k a1 a2).bind fun t16 => (spec_l2Put.l0 k a0 a3 t13 t16 k 0).bind fun x10 => ((if (decide (x10 < (a0.length : Int))) = true then (rdl a0 x10).bind fun t40 => some (decide ((t40.1, t40.2.1, t40.2.2) = (t13, t16, a3))) else some false)).bind fun y44 => (if y44 = true then some a0 else ((slc a0 0 x10).bind fun t49 => (slc a0 x10 (a0.length : Int)).bind fun t56 => if (([] : List (Int × Int × Int)) ++ t49).length < 1099511627776 then if ((([] : List (Int × Int × Int)) ++ t49) ++ ([(t13, t16, a3)] : List (Int × Int × Int))).length < 1099511627776 then if (((([] : List (Int × Int × Int)) ++ t49) ++ ([(t13, t16, a3)] : List (Int × Int × Int))) ++ t56).length < 1099511627776 then some (((([] : List (Int × Int × Int)) ++ t49) ++ ([(t13, t16, a3)] : List (Int × Int × Int))) ++ t56) else none else none else none).bind fun y8 => some y8)

theorem spec_l2Put.ok {k : Nat}  {a0 : List (Int × Int × Int)} {a1 : Int} {a2 : Int} {a3 : Int} {r0 : List (Int × Int × Int)} (h : spec_l2Put.f k a0 a1 a2 a3 = some r0) (w : World) {va0 : Value} {Sa0 : Nat → Prop} (hl_va0 : SlLen va0 a0.length) (hw0 : Sep w (footM [R.sl Sa0 va0 a0]) [R.sl Sa0 va0 a0] w) :
  Calls Try.prog 206 ([va0, .int .i64 a1, .int .i64 a2, .int .i64 a3] : List Value).toArray w (PostM (footM [R.sl Sa0 va0 a0]) (fun u ns => ∃ (Sr0 : Nat → Prop), SlLen u r0.length ∧ ns = [R.sl Sr0 u r0]) w) := by
 unfold spec_l2Put.f at h
 refine Calls.of_tri (N := 58) Try.func206 rfl rfl rfl hw0 ?_
 refine Tri.seq (Tri.reg (l := [0]) rfl ?_)
 refine F.qn rfl (r_assign rfl) (F.nil (Nrm.seq (Tri.seq ?_)))
 obtain ⟨t13, h13, h⟩ := bind_some h
 obtain ⟨t16, h16, h⟩ := bind_some h
 refine Tri.reg (l := [0, 1, 2, 3, 4, 5, 6, 7, 8, 9]) rfl ?_
 refine F.qn rfl (r_move rfl) (F.qn rfl (r_move rfl) ?_)
 refine F.qcn rfl (q_callF (xs := _) rfl ok181 rfl rfl (fun w hw => spec_l1Least.ok h13 w )) ?_
 refine F.qn rfl (r_move rfl) (F.qn rfl (r_move rfl) ?_)
 refine F.qcn rfl (q_callF (xs := _) rfl ok180 rfl rfl (fun w hw => spec_l1Most.ok h16 w )) ?_
 refine F.qn rfl (r_move rfl) (F.qn rfl (r_buildA (qs := [(0, [.int .i64 t13]), (1, [.int .i64 t16]), (2, [.int .i64 a3])]) (cs := [.int .i64 t13, .int .i64 t16, .int .i64 a3]) Try.underlying121 ti3 ti121 rfl (.cons rfl rfl (Nat.le_of_ble_eq_true rfl) (.cons rfl rfl (Nat.le_of_ble_eq_true rfl) (.cons rfl rfl (Nat.le_of_ble_eq_true rfl) .nil))) rfl rfl) ?_)
 refine F.mn rfl (m_alloc ti121) ?_
 rintro _ _ ⟨b9_1, rfl, rfl⟩
 refine F.ef0 rfl rfl (wanted_none rfl) (d_storeG0 (i := 0) (cs2 := [.int .i64 t13, .int .i64 t16, .int .i64 a3]) ti121 rfl rfl rfl rfl rfl (Nat.le_of_ble_eq_true rfl) (lf_cons rfl (lf_cons rfl (lf_cons rfl lf_nil)))) ?_
 rintro _ _ ⟨rfl, rfl⟩
 refine F.nil (Nrm.seq (Tri.seq (Tri.reg (l := [0]) rfl ?_)))
 refine F.qn rfl (r_assign rfl) (F.nil (Nrm.seq (Tri.seq ?_)))
 obtain ⟨x10, hE_1, h⟩ := bind_some h
 refine Tri.block ?_
 refine Tri.only [0, 9, 10] rfl ?_
 refine Tri.pick [0, 1] rfl rfl ?_
 refine Tri.rounds (fun n e' C' => ∃ (x10' : Int), spec_l2Put.l0 k a0 a3 t13 t16 n x10' = some x10 ∧ e' = [(0, va0), (9, .pointer (some ⟨b9_1, 0, none⟩)), (10, .int .i64 x10')] ∧ C' = Sep w (footM [R.sl Sa0 va0 a0]) [R.box b9_1 121 [.int .i64 t13, .int .i64 t16, .int .i64 a3], R.sl Sa0 va0 (a0 : List (Int × Int × Int))]) k ?_ ?_ ?_
 ·exact ⟨0, hE_1, rfl, rfl⟩
 ·rintro _ _ ⟨_, hE_1, _⟩
  rw [spec_l2Put.l0.eq_1] at hE_1; cases hE_1
 ·rintro n_1 _ _ ⟨x10, hE_1, rfl, rfl⟩ ih_1
  rw [spec_l2Put.l0.eq_2] at hE_1
  refine Tri.seq (Tri.seq ?_)
  obtain ⟨y30, hE_2, hE_1⟩ := bind_some hE_1
  refine Tri.cut (fun e' C' => e' = [(0, va0), (9, .pointer (some ⟨b9_1, 0, none⟩)), (10, .int .i64 x10), (30, .bool y30)] ∧ C' = Sep w (footM [R.sl Sa0 va0 a0]) [R.box b9_1 121 [.int .i64 t13, .int .i64 t16, .int .i64 a3], R.sl Sa0 va0 (a0 : List (Int × Int × Int))]) ?_ (fun hj_1 => ?_)
  ·rintro _ _ ⟨rfl, rfl⟩
   refine Nrm.seq (Tri.cond (b := y30) rfl (fun g_1 => ?_) (fun g_1 => ?_))
   ·replace hE_1 := if_tt g_1 hE_1
    refine Tri.skip (Nrm.seq (Tri.block ?_))
    refine Tri.reg (l := [0, 1, 2]) rfl ?_
    refine F.qn rfl (r_move rfl) (F.qn rfl (r_add rfl rfl) (F.qn rfl (r_assign rfl) (F.nil (Nrm.block ?_))))
    refine Nrm.round ?_
    refine Rnd.only [0, 9, 10] rfl ?_
    refine Rnd.pick [0, 1] rfl rfl ?_
    exact ih_1 _ _ ⟨w64 (x10 + 1), hE_1, rfl, rfl⟩
   ·replace hE_1 := if_ff g_1 hE_1
    refine Tri.exit ?_
    refine Exi.then ?_
    refine Exi.then ?_
    refine Exi.same ?_
    cases hE_1
    refine Nrm.seq (Tri.seq (Tri.seq ?_))
    obtain ⟨y44, hE_3, h⟩ := bind_some h
    refine Tri.cut (fun e' C' => e' = [(0, va0), (9, .pointer (some ⟨b9_1, 0, none⟩)), (10, .int .i64 x10), (44, .bool y44)] ∧ C' = Sep w (footM [R.sl Sa0 va0 a0]) [R.box b9_1 121 [.int .i64 t13, .int .i64 t16, .int .i64 a3], R.sl Sa0 va0 (a0 : List (Int × Int × Int))]) ?_ (fun hj_2 => ?_)
    ·rintro _ _ ⟨rfl, rfl⟩
     refine Nrm.seq (Tri.cond (b := y44) rfl (fun g_2 => ?_) (fun g_2 => ?_))
     ·replace h := if_tt g_2 h
      refine Tri.seq (Tri.reg (l := [0, 1]) rfl ?_)
      refine F.qn rfl (r_move rfl) (F.qn rfl (r_assign rfl) (F.nil (Nrm.seq (Tri.ret ?_))))
      refine Rtn.then ?_
      cases h
      exact Rtn.body (.tmp rfl .nil) (fun w hw => ⟨_, _, rfl, ⟨Sa0, hl_va0, rfl⟩, Sep.pick (is := [1]) rfl rfl hw⟩)
     ·replace h := if_ff g_2 h
      refine Tri.skip (Nrm.seq (Tri.seq ?_))
      obtain ⟨y8, hE_4, h⟩ := bind_some h
      refine Tri.cut (fun e' C' => ∃ (v8_1 : Value) (S8_1 : Nat → Prop), SlLen v8_1 (y8).length ∧ e' = [(8, v8_1)] ∧ C' = Sep w (footM [R.sl Sa0 va0 a0]) [R.sl S8_1 v8_1 (y8 : List (Int × Int × Int))]) ?_ (fun hj_3 => ?_)
      ·rintro _ _ ⟨v8_1, S8_1, hl_v8_1, rfl, rfl⟩
       refine Nrm.seq (Tri.ret ?_)
       cases h
       exact Rtn.body (.tmp rfl .nil) (fun w hw => ⟨_, _, rfl, ⟨S8_1, hl_v8_1, rfl⟩, Sep.pick (is := [0]) rfl rfl hw⟩)
      ·obtain ⟨t49, h49, hE_4⟩ := bind_some hE_4
       obtain ⟨t56, h56, hE_4⟩ := bind_some hE_4
       obtain ⟨hs50, hE_4⟩ := ck hE_4
       obtain ⟨hs53, hE_4⟩ := ck hE_4
       obtain ⟨hs57, hE_4⟩ := ck hE_4
       refine Tri.drawT mixedT Sep.up [1, 2, 3, 5, 8, 9, 10, 0, 4, 6, 7] [11, 12] (.q 1 (.q 2 (.q 3 (.q 5 (.q 8 (.q 9 (.q 10 (.alt 0 (.alt 4 (.alt 6 (.alt 7 .nil .stop) .stop) (.alt 6 (.alt 4 (.alt 7 .nil .stop) .stop) .stop)) (.alt 6 (.alt 0 (.alt 4 (.alt 7 .nil .stop) .stop) .stop) .stop))))))))) (by kernel_rfl) ?_
       refine T.q rfl rfl rfl (wanted_none rfl) (r_move rfl) ?_
       refine T.q rfl rfl rfl (wanted_none rfl) (r_move rfl) ?_
       refine T.q rfl rfl rfl (wanted_none rfl) (r_sliceH Try.underlying24 ti121 rfl (rd_sl (i := 1) rfl) rfl h49) ?_
       refine T.q rfl rfl rfl (wanted_none rfl) (r_loadA ta121 ti121 rfl rfl (fun w hw => (box_cells (i := 0) rfl w hw))) ?_
       refine T.q rfl rfl rfl (wanted_none rfl) (r_move rfl) ?_
       refine T.q rfl rfl rfl (wanted_none rfl) (r_move rfl) ?_
       refine T.q rfl rfl rfl (wanted_none rfl) (r_sliceL Try.underlying24 ti121 rfl (rd_sl (i := 1) rfl) rfl h56) ?_
       refine T.ef rfl rfl rfl (wanted_none rfl) (Makes.does (m_build0 (α := Int × Int × Int) Try.underlying24 ti121)) (by rintro v46_2 _ ⟨S46_2, hl_v46_2, rfl⟩; exact upd rfl [1, 2] rfl rfl) ?_ ?_
       ·rintro v46_2 _ ⟨S46_2, hl_v46_2, rfl⟩
        refine T.ef rfl rfl rfl (wanted_none rfl) (d_append (i := 0) Try.underlying24 Try.underlying24 ti121 rfl (by decide) rfl rfl rfl (fun w hw => rd_slc ((rd_sl (i := 2) rfl) w hw) h49) hs50) (by rintro v50_2 _ ⟨S50_2, rfl, hl_v50_2⟩; exact upd rfl [1, 2] rfl rfl) ?_ ?_
        ·rintro v50_2 _ ⟨S50_2, rfl, hl_v50_2⟩
         refine T.ef rfl rfl rfl (wanted_none rfl) (Makes.does (m_buildF (l := ([(t13, t16, a3)] : List (Int × Int × Int))) Try.underlying24 ti121 rfl rfl rfl rfl rfl)) (by rintro v52_2 _ ⟨S52_2, hl_v52_2, rfl⟩; exact upd rfl [2, 3] rfl rfl) ?_ ?_
         ·rintro v52_2 _ ⟨S52_2, hl_v52_2, rfl⟩
          refine T.ef rfl rfl rfl (wanted_none rfl) (d_append (i := 1) Try.underlying24 Try.underlying24 ti121 rfl (by decide) rfl rfl rfl (rd_sl (i := 0) rfl) hs53) (by rintro v53_2 _ ⟨S53_2, rfl, hl_v53_2⟩; exact upd rfl [2, 3] rfl rfl) ?_ ?_
          ·rintro v53_2 _ ⟨S53_2, rfl, hl_v53_2⟩
           refine T.nil ?_
           refine F.efn rfl (d_append (i := 1) Try.underlying24 Try.underlying24 ti121 rfl (by decide) rfl rfl rfl (fun w hw => rd_slc ((rd_sl (i := 3) rfl) w hw) h56) hs57) ?_
           rintro v57_2 _ ⟨S57_2, rfl, hl_v57_2⟩
           refine F.qn rfl (r_assign rfl) (F.nil ?_)
           cases hE_4
           refine Nrm.only [8] rfl ?_
           refine Nrm.pick [1] rfl rfl ?_
           exact hj_3 _ _ ⟨v57_2, S57_2, hl_v57_2, rfl, rfl⟩
          exact T.stop
         exact T.stop
        ·refine T.ef rfl rfl rfl (wanted_none rfl) (Makes.does (m_buildF (l := ([(t13, t16, a3)] : List (Int × Int × Int))) Try.underlying24 ti121 rfl rfl rfl rfl rfl)) (by rintro v52_3 _ ⟨S52_3, hl_v52_3, rfl⟩; exact upd rfl [2, 3] rfl rfl) ?_ ?_
         ·rintro v52_3 _ ⟨S52_3, hl_v52_3, rfl⟩
          refine T.ef rfl rfl rfl (wanted_none rfl) (d_append (i := 1) Try.underlying24 Try.underlying24 ti121 rfl (by decide) rfl rfl rfl (fun w hw => rd_slc ((rd_sl (i := 3) rfl) w hw) h49) hs50) (by rintro v50_3 _ ⟨S50_3, rfl, hl_v50_3⟩; exact upd rfl [2, 3] rfl rfl) ?_ ?_
          ·rintro v50_3 _ ⟨S50_3, rfl, hl_v50_3⟩
           refine T.ef rfl rfl rfl (wanted_none rfl) (d_append (i := 1) Try.underlying24 Try.underlying24 ti121 rfl (by decide) rfl rfl rfl (rd_sl (i := 0) rfl) hs53) (by rintro v53_3 _ ⟨S53_3, rfl, hl_v53_3⟩; exact upd rfl [2, 3] rfl rfl) ?_ ?_
           ·rintro v53_3 _ ⟨S53_3, rfl, hl_v53_3⟩
            refine T.nil ?_
            refine F.efn rfl (d_append (i := 1) Try.underlying24 Try.underlying24 ti121 rfl (by decide) rfl rfl rfl (fun w hw => rd_slc ((rd_sl (i := 3) rfl) w hw) h56) hs57) ?_
            rintro v57_3 _ ⟨S57_3, rfl, hl_v57_3⟩
            refine F.qn rfl (r_assign rfl) (F.nil ?_)
            cases hE_4
            refine Nrm.only [8] rfl ?_
            refine Nrm.pick [1] rfl rfl ?_
            exact hj_3 _ _ ⟨v57_3, S57_3, hl_v57_3, rfl, rfl⟩
           exact T.stop
          exact T.stop
         exact T.stop
       ·refine T.ef rfl rfl rfl (wanted_none rfl) (Makes.does (m_buildF (l := ([(t13, t16, a3)] : List (Int × Int × Int))) Try.underlying24 ti121 rfl rfl rfl rfl rfl)) (by rintro v52_4 _ ⟨S52_4, hl_v52_4, rfl⟩; exact upd rfl [1, 2] rfl rfl) ?_ ?_
        ·rintro v52_4 _ ⟨S52_4, hl_v52_4, rfl⟩
         refine T.ef rfl rfl rfl (wanted_none rfl) (Makes.does (m_build0 (α := Int × Int × Int) Try.underlying24 ti121)) (by rintro v46_3 _ ⟨S46_3, hl_v46_3, rfl⟩; exact upd rfl [2, 3] rfl rfl) ?_ ?_
         ·rintro v46_3 _ ⟨S46_3, hl_v46_3, rfl⟩
          refine T.ef rfl rfl rfl (wanted_none rfl) (d_append (i := 0) Try.underlying24 Try.underlying24 ti121 rfl (by decide) rfl rfl rfl (fun w hw => rd_slc ((rd_sl (i := 3) rfl) w hw) h49) hs50) (by rintro v50_4 _ ⟨S50_4, rfl, hl_v50_4⟩; exact upd rfl [2, 3] rfl rfl) ?_ ?_
          ·rintro v50_4 _ ⟨S50_4, rfl, hl_v50_4⟩
           refine T.ef rfl rfl rfl (wanted_none rfl) (d_append (i := 0) Try.underlying24 Try.underlying24 ti121 rfl (by decide) rfl rfl rfl (rd_sl (i := 1) rfl) hs53) (by rintro v53_4 _ ⟨S53_4, rfl, hl_v53_4⟩; exact upd rfl [2, 3] rfl rfl) ?_ ?_
           ·rintro v53_4 _ ⟨S53_4, rfl, hl_v53_4⟩
            refine T.nil ?_
            refine F.efn rfl (d_append (i := 0) Try.underlying24 Try.underlying24 ti121 rfl (by decide) rfl rfl rfl (fun w hw => rd_slc ((rd_sl (i := 3) rfl) w hw) h56) hs57) ?_
            rintro v57_4 _ ⟨S57_4, rfl, hl_v57_4⟩
            refine F.qn rfl (r_assign rfl) (F.nil ?_)
            cases hE_4
            refine Nrm.only [8] rfl ?_
            refine Nrm.pick [0] rfl rfl ?_
            exact hj_3 _ _ ⟨v57_4, S57_4, hl_v57_4, rfl, rfl⟩
           exact T.stop
          exact T.stop
         exact T.stop
        exact T.stop
    ·rcases Bool.eq_false_or_eq_true (decide (x10 < (a0.length : Int))) with g37 | g37
     ·replace hE_3 := if_tt g37 hE_3
      obtain ⟨t40, h40, hE_3⟩ := bind_some hE_3
      refine Tri.drawA mixedT Sep.up [(0, true), (1, true), (2, true), (3, true), (4, true), (5, true), (6, true), (7, true), (8, true), (9, true), (10, true), (11, true)] [] (by kernel_rfl) ?_
      refine S.qn rfl (r_move rfl) (S.qn rfl (r_move rfl) (S.qn rfl (r_len Try.underlying24 rfl hl_va0) (S.qn rfl (r_lss rfl rfl) (S.qn rfl (r_move rfl) (S.qg rfl g37 (r_move rfl) ?_)))))
      refine S.qg rfl g37 (r_move rfl) (S.qg rfl g37 (r_indexAddrS Try.underlying24 ti121 rfl hl_va0 rfl (rdl_some h40).1 (rdl_some h40).2.1) (S.qg rfl g37 (r_loadA ta121 ti121 rfl rfl (fun w hw => (Rd.flat ((rd_sl (i := 1) rfl) w hw) (rdl_some h40).2.2))) (S.qg rfl g37 (r_loadA ta121 ti121 rfl rfl (fun w hw => (box_cells (i := 0) rfl w hw))) (S.qg rfl g37 (r_eqlA3 Try.underlying121 Try.underlying3 ti3 ta3 rfl rfl eg121) (S.qn rfl (r_pick rfl rfl g37) (S.nil (F.nil ?_)))))))
      cases hE_3
      refine Nrm.only [0, 9, 10, 44] rfl ?_
      refine Nrm.pick [0, 1] rfl rfl ?_
      exact hj_2 _ _ ⟨rfl, rfl⟩
     ·replace hE_3 := if_ff g37 hE_3
      refine Tri.drawA mixedT Sep.up [(0, true), (1, true), (2, true), (3, true), (4, true), (5, true), (6, true), (7, true), (8, true), (9, true), (10, true), (11, true)] [] (by kernel_rfl) ?_
      refine S.qn rfl (r_move rfl) (S.qn rfl (r_move rfl) (S.qn rfl (r_len Try.underlying24 rfl hl_va0) (S.qn rfl (r_lss rfl rfl) (S.qn rfl (r_move rfl) ?_))))
      iterate 6 refine S.skf rfl g37 ?_
      refine S.qn rfl (r_pickf rfl rfl g37) (S.nil (F.nil ?_))
      cases hE_3
      refine Nrm.only [0, 9, 10, 44] rfl ?_
      refine Nrm.pick [0, 1] rfl rfl ?_
      exact hj_2 _ _ ⟨rfl, rfl⟩
  ·rcases Bool.eq_false_or_eq_true (decide (x10 < (a0.length : Int))) with g23 | g23
   ·replace hE_2 := if_tt g23 hE_2
    obtain ⟨t26, h26, hE_2⟩ := bind_some hE_2
    obtain ⟨t29, h29, hE_2⟩ := bind_some hE_2
    refine Tri.drawA mixedT Sep.up [(0, true), (1, true), (2, true), (3, true), (4, true), (5, true), (6, true), (7, true), (8, true), (9, true), (10, true), (11, true)] [] (by kernel_rfl) ?_
    refine S.qn rfl (r_move rfl) (S.qn rfl (r_move rfl) (S.qn rfl (r_len Try.underlying24 rfl hl_va0) (S.qn rfl (r_lss rfl rfl) ?_)))
    refine S.qn rfl (r_move rfl) (S.qg rfl g23 (r_move rfl) (S.qg rfl g23 (r_move rfl) (S.qg rfl g23 (r_indexAddrS Try.underlying24 ti121 rfl hl_va0 rfl (rdl_some h26).1 (rdl_some h26).2.1) (S.qg rfl g23 (r_loadA ta121 ti121 rfl rfl (fun w hw => (Rd.flat ((rd_sl (i := 1) rfl) w hw) (rdl_some h26).2.2))) (S.qg rfl g23 (r_loadA ta121 ti121 rfl rfl (fun w hw => (box_cells (i := 0) rfl w hw))) ?_)))))
    refine S.qc rfl rfl rfl (wg rfl rfl rfl g23) (q_callF (xs := _) rfl ok213 rfl rfl (fun w hw => spec_l2Before.ok h29 w )) ?_
    refine S.qn rfl (r_pick rfl rfl g23) (S.nil (F.nil ?_))
    cases hE_2
    refine Nrm.only [0, 9, 10, 30] rfl ?_
    refine Nrm.pick [0, 1] rfl rfl ?_
    exact hj_1 _ _ ⟨rfl, rfl⟩
   ·replace hE_2 := if_ff g23 hE_2
    refine Tri.drawA mixedT Sep.up [(0, true), (1, true), (2, true), (3, true), (4, true), (5, true), (6, true), (7, true), (8, true), (9, true), (10, true), (11, true)] [] (by kernel_rfl) ?_
    refine S.qn rfl (r_move rfl) (S.qn rfl (r_move rfl) (S.qn rfl (r_len Try.underlying24 rfl hl_va0) (S.qn rfl (r_lss rfl rfl) (S.qn rfl (r_move rfl) ?_))))
    iterate 6 refine S.skf rfl g23 ?_
    refine S.qn rfl (r_pickf rfl rfl g23) (S.nil (F.nil ?_))
    cases hE_2
    refine Nrm.only [0, 9, 10, 30] rfl ?_
    refine Nrm.pick [0, 1] rfl rfl ?_
    exact hj_1 _ _ ⟨rfl, rfl⟩


def spec_l1Cur_someMaze.l1 (k : Nat) (a0_0 : List By) (a1 : Int) (t20_1 : Int) : Nat → Int → Int → Int → (List (Int × Int × Int)) → Option (Int × Int × (List (Int × Int × Int)))
 | 0, _, _, _, _ => none
 | n + 1, x11, xpa0_1r, xpa0_2r, xq5_1_1r => ((if (decide (x11 > 0)) = true then (if (decide (a1 > 1)) = true then some (decide (a1 < 13)) else some false) else some false)).bind fun y77 => (if y77 = true then (spec_l1Cur_pick.f k a0_0 xpa0_1r xpa0_2r a1).bind fun (t82_1, t82_2, t82_3) => (spec_l1Cur_pick.f k a0_0 t82_2 t82_3 a1).bind fun (t85_1, t85_2, t85_3) => ((if (t82_1 != t85_1) = true then (spec_l1Cur_few.f k a0_0 t85_2 t85_3 (w64 (1 + t20_1))).bind fun (t95_1, t95_2, t95_3) => (spec_l2Put.f k xq5_1_1r t82_1 t85_1 t95_1).bind fun t96 => some (t95_2, t95_3, t96) else some (t85_2, t85_3, xq5_1_1r))).bind fun (ypa0_1rr, ypa0_2rr, yb5_1_1r) => spec_l1Cur_someMaze.l1 k a0_0 a1 t20_1 n (w64 (x11 - 1)) ypa0_1rr ypa0_2rr yb5_1_1r else some (xpa0_1r, xpa0_2r, xq5_1_1r))

def spec_l1Cur_someMaze.l0 (k : Nat) (a0_0 : List By) (a1 : Int) (t20_1 : Int) : Nat → Int → Int → (List (Int × Int × Int)) → (List (Int)) → Int → Int → Option (Int × Int × (List (Int × Int × Int)) × (List (Int)))
 | 0, _, _, _, _, _, _ => none
 | n + 1, x7, x8, xq5_1_1, xq5_1_2, xpa0_1, xpa0_2 => ((if (decide (x8 < a1)) = true then some (decide (x8 < 13)) else some false)).bind fun y28 => (if y28 = true then (spec_l1Cur_one.f k a0_0 xpa0_1 xpa0_2 2).bind fun (t32_1, t32_2, t32_3) => ((if t32_1 = true then (spec_l1Cur_pick.f k a0_0 t32_2 t32_3 (w64 (1 + t20_1))).bind fun (t35_1, t35_2, t35_3) => if ¬ t35_1 < 0 then some (shl 1 t35_1, t35_2, t35_3) else none else some (0, t32_2, t32_3))).bind fun (y9, ypa0_1, ypa0_2) => if (xq5_1_2 ++ ([y9] : List (Int))).length < 1099511627776 then ((if (decide (x8 > 0)) = true then (spec_l1Cur_few.f k a0_0 ypa0_1 ypa0_2 (w64 (1 + t20_1))).bind fun (t47_1, t47_2, t47_3) => (spec_l1Cur_one.f k a0_0 t47_2 t47_3 3).bind fun (t49_1, t49_2, t49_3) => ((if (!t49_1) = true then some (band t47_1 x7) else some t47_1)).bind fun y10 => (spec_l1Cur_pick.f k a0_0 t49_2 t49_3 x8).bind fun (t58_1, t58_2, t58_3) => (spec_l2Put.f k xq5_1_1 t58_1 x8 y10).bind fun t61 => some (t58_2, t58_3, t61) else some (ypa0_1, ypa0_2, xq5_1_1))).bind fun (ypa0_1r, ypa0_2r, yb5_1_1) => spec_l1Cur_someMaze.l0 k a0_0 a1 t20_1 n (bor x7 y9) (w64 (x8 + 1)) yb5_1_1 (xq5_1_2 ++ ([y9] : List (Int))) ypa0_1r ypa0_2r else none else some (xpa0_1, xpa0_2, xq5_1_1, xq5_1_2))

def spec_l1Cur_someMaze.f (k : Nat) (a0_0 : List By) (a0_1 : Int) (a0_2 : Int) (a1 : Int) : Option (Int × (List (Int × Int × Int)) × (List Int) × Int × Int) := (spec_l1Cur_pick.f k a0_0 a0_1 a0_2 6).bind fun (t20_1, t20_2, t20_3) => (spec_l1Cur_someMaze.l0 k a0_0 a1 t20_1 k 0 0 ([] : List (Int × Int × Int)) ([] : List (Int)) t20_2 t20_3).bind fun (xpa0_1, xpa0_2, xq5_1_1, xq5_1_2) => (spec_l1Cur_pick.f k a0_0 xpa0_1 xpa0_2 6).bind fun (t67_1, t67_2, t67_3) => (spec_l1Cur_someMaze.l1 k a0_0 a1 t20_1 k t67_1 t67_2 t67_3 xq5_1_1).bind fun (xpa0_1r, xpa0_2r, xq5_1_1r) => (spec_l1Cur_pick.f k a0_0 xpa0_1r xpa0_2r 60).bind fun (t99_1, t99_2, t99_3) => (if (t99_1 == 0) = true then (spec_l1Cur_among.f k a0_0 t99_2 t99_3 ([0, 13, w64 (a1 + 1)] : List (Int))).bind fun (t107_1, t107_2, t107_3) => some (t107_1, xq5_1_1r, xq5_1_2, t107_2, t107_3) else (if (t99_1 == 1) = true then ((if (decide ((xq5_1_1r.length : Int) > 0)) = true then (spec_l1Cur_pick.f k a0_0 t99_2 t99_3 (xq5_1_1r.length : Int)).bind fun (t119_1, t119_2, t119_3) => (rdl xq5_1_1r t119_1).bind fun t126 => (rdl xq5_1_1r t119_1).bind fun t132 => (rdl xq5_1_1r t119_1).bind fun t136 => some (t119_2, t119_3, xq5_1_1r.set t119_1.toNat (t126.2.1, t132.1, 0)) else some (t99_2, t99_3, xq5_1_1r))).bind fun (ypa0_1rrr, ypa0_2rrr, yb5_1_1rr) => some (a1, yb5_1_1rr, xq5_1_2, ypa0_1rrr, ypa0_2rrr) else (if (t99_1 == 2) = true then ((if (decide ((xq5_1_2.length : Int) > 0)) = true then ((spec_l1Cur_pick.f k a0_0 t99_2 t99_3 (xq5_1_2.length : Int)).bind fun (t149_1, t149_2, t149_3) => (spec_l1Cur_among.f k a0_0 t149_2 t149_3 ([64, (-1), 63] : List (Int))).bind fun (t152_1, t152_2, t152_3) => (rdl xq5_1_2 t149_1).bind fun t153 => some (t152_2, t152_3, xq5_1_2.set t149_1.toNat t152_1)).bind fun (ypa0_1rrrr, ypa0_2rrrr, yb5_1_2) => some (ypa0_1rrrr, ypa0_2rrrr, yb5_1_2) else some (t99_2, t99_3, xq5_1_2))).bind fun (ypa0_1rrrr, ypa0_2rrrr, yb5_1_2) => some (a1, xq5_1_1r, yb5_1_2, ypa0_1rrrr, ypa0_2rrrr) else (if (t99_1 == 3) = true then ((if (decide ((xq5_1_1r.length : Int) > 0)) = true then (rdl xq5_1_1r 0).bind fun t164 => if (xq5_1_1r ++ ([t164] : List (Int × Int × Int))).length < 1099511627776 then some (xq5_1_1r ++ ([t164] : List (Int × Int × Int))) else none else some xq5_1_1r)).bind fun yb5_1_1rrr => some (a1, yb5_1_1rrr, xq5_1_2, t99_2, t99_3) else (if (t99_1 == 4) = true then some (0, [], [], t99_2, t99_3) else some (a1, xq5_1_1r, xq5_1_2, t99_2, t99_3))))))

theorem spec_l1Cur_someMaze.ok {k : Nat}  {a0_0 : List By} {a0_1 : Int} {a0_2 : Int} {a1 : Int} {r0 : Int} {r1 : List (Int × Int × Int)} {r2 : List Int} {r3 : Int} {r4 : Int} (h : spec_l1Cur_someMaze.f k a0_0 a0_1 a0_2 a1 = some (r0, r1, r2, r3, r4)) (w : World) {pa0 : Nat} {va0_0 : Value} (hr_a0_0 : RdM w (footM [R.box pa0 100 [va0_0, .int .i64 a0_1, .int .u64 a0_2]]) va0_0 a0_0) (hw0 : Sep w (footM [R.box pa0 100 [va0_0, .int .i64 a0_1, .int .u64 a0_2]]) [R.box pa0 100 [va0_0, .int .i64 a0_1, .int .u64 a0_2]] w) :
  Calls Try.prog 162 ([.pointer (some ⟨pa0, 0, none⟩), .int .i64 a1] : List Value).toArray w (PostM (footM [R.box pa0 100 [va0_0, .int .i64 a0_1, .int .u64 a0_2]]) (fun u ns => ∃ (ur1 : Value) (Sr1 : Nat → Prop) (ur2 : Value) (Sr2 : Nat → Prop), u = .agg [.int .i64 r0, ur1, ur2].toArray ∧ SlLen ur1 r1.length ∧ SlLen ur2 r2.length ∧ ns = [R.sl Sr1 ur1 r1, R.sl Sr2 ur2 r2, R.box pa0 100 [va0_0, .int .i64 r3, .int .u64 r4]]) w) := by
 unfold spec_l1Cur_someMaze.f at h
 have hl_va0_0 := hr_a0_0.len
 refine Calls.of_tri (N := 173) Try.func162 rfl rfl rfl hw0 ?_
 refine Tri.seq (Tri.reg (l := [0]) rfl ?_)
 refine F.mn rfl (m_alloc ti27) ?_
 rintro _ _ ⟨b4_1, rfl, rfl⟩
 refine F.nil (Nrm.seq (Tri.seq ?_))
 obtain ⟨⟨t20_1, t20_2, t20_3⟩, h20, h⟩ := bind_some h
 refine Tri.reg (l := [0, 1, 2, 3, 4, 5, 6, 7, 8, 9]) rfl ?_
 refine F.qn rfl (r_move rfl) ?_
 refine F.mn rfl (m_build0 (α := Int × Int × Int) Try.underlying24 ti121) ?_
 rintro v16_1 _ ⟨S16_1, hl_v16_1, rfl⟩
 refine F.mn rfl (m_build0 (α := Int) Try.underlying25 ti3) ?_
 rintro v17_1 _ ⟨S17_1, hl_v17_1, rfl⟩
 refine F.qn rfl (r_build (pl := [(0, 1), (1, 1), (2, 1)]) (qs := [(0, [.int .i64 a1]), (1, [v16_1]), (2, [v17_1])]) (cs := [.int .i64 a1, v16_1, v17_1]) (by kernel_rfl) ti27 rfl (.cons rfl rfl (Nat.le_of_ble_eq_true rfl) (.cons (sl_cells hl_v16_1) rfl (Nat.le_of_ble_eq_true rfl) (.cons (sl_cells hl_v17_1) rfl (Nat.le_of_ble_eq_true rfl) .nil))) rfl rfl) (F.qn rfl (r_move rfl) ?_)
 refine F.efn rfl (d_callM (xs := _) (cs := [R.box pa0 100 [va0_0, .int .i64 a0_1, .int .u64 a0_2]]) (rest := [R.sl S17_1 v17_1 (([] : List (Int)) : List (Int)), R.sl S16_1 v16_1 (([] : List (Int × Int × Int)) : List (Int × Int × Int)), R.box b4_1 27 [.int .i64 0, .slice none 0 0, .slice none 0 0]]) [3] [0, 1, 2] rfl ok95 rfl rfl rfl rfl (fun w hw => spec_l1Cur_pick.ok h20 w (hr_a0_0.down hw) (Sep.sub hw))) ?_
 rintro _ _ ⟨_, ⟨rfl, rfl⟩, rfl⟩
 refine F.qn rfl (r_add rfl rfl) ?_
 refine F.mn rfl (m_alloc ti27) ?_
 rintro _ _ ⟨b5_1, rfl, rfl⟩
 refine F.ef0 rfl rfl (wanted_none rfl) (d_storeG0 (i := 0) (cs2 := [.int .i64 a1, v16_1, v17_1]) ti27 rfl rfl rfl rfl rfl (Nat.le_of_ble_eq_true rfl) (lf_cons rfl (lf_cons (sl_leaf hl_v16_1) (lf_cons (sl_leaf hl_v17_1) lf_nil)))) ?_
 rintro _ _ ⟨rfl, rfl⟩
 refine F.qn rfl (r_assign rfl) (F.nil (Nrm.seq (Tri.seq (Tri.reg (l := [0]) rfl ?_))))
 refine F.qn rfl (r_assign rfl) (F.nil (Nrm.seq (Tri.seq (Tri.seq (Tri.reg (l := [0]) rfl ?_)))))
 refine F.qn rfl (r_assign rfl) (F.nil (Nrm.seq ?_))
 obtain ⟨⟨xpa0_1, xpa0_2, xq5_1_1, xq5_1_2⟩, hE_1, h⟩ := bind_some h
 refine Tri.block ?_
 refine Tri.only [0, 1, 4, 5, 6, 7, 8] rfl ?_
 refine Tri.pick [0, 1, 4, 2, 3] rfl rfl ?_
 refine Tri.rounds (fun n e' C' => ∃ (x7' : Int) (x8' : Int) (xq5_1_1' : List (Int × Int × Int)) (xq5_1_2' : List (Int)) (xpa0_1' : Int) (xpa0_2' : Int) (wq5_1_1 : Value) (Tq5_1_1 : Nat → Prop) (wq5_1_2 : Value) (Tq5_1_2 : Nat → Prop), spec_l1Cur_someMaze.l0 k a0_0 a1 t20_1 n x7' x8' xq5_1_1' xq5_1_2' xpa0_1' xpa0_2' = some (xpa0_1, xpa0_2, xq5_1_1, xq5_1_2) ∧ SlLen wq5_1_1 (xq5_1_1').length ∧ SlLen wq5_1_2 (xq5_1_2').length ∧ e' = [(0, .pointer (some ⟨pa0, 0, none⟩)), (1, .int .i64 a1), (4, .pointer (some ⟨b4_1, 0, none⟩)), (5, .pointer (some ⟨b5_1, 0, none⟩)), (6, .int .i64 (w64 (1 + t20_1))), (7, .int .i64 x7'), (8, .int .i64 x8')] ∧ C' = Sep w (footM [R.box pa0 100 [va0_0, .int .i64 a0_1, .int .u64 a0_2]]) [R.box b5_1 27 [.int .i64 a1, wq5_1_1, wq5_1_2], R.box pa0 100 [va0_0, .int .i64 xpa0_1', .int .u64 xpa0_2'], R.box b4_1 27 [.int .i64 0, .slice none 0 0, .slice none 0 0], R.sl Tq5_1_2 wq5_1_2 (xq5_1_2' : List (Int)), R.sl Tq5_1_1 wq5_1_1 (xq5_1_1' : List (Int × Int × Int))]) k ?_ ?_ ?_
 ·exact ⟨0, 0, ([] : List (Int × Int × Int)), ([] : List (Int)), t20_2, t20_3, v16_1, S16_1, v17_1, S17_1, hE_1, hl_v16_1, hl_v17_1, rfl, rfl⟩
 ·rintro _ _ ⟨_, _, _, _, _, _, _, _, _, _, hE_1, _⟩
  rw [spec_l1Cur_someMaze.l0.eq_1] at hE_1; cases hE_1
 ·rintro n_1 _ _ ⟨x7, x8, xq5_1_1, xq5_1_2, xpa0_1, xpa0_2, wq5_1_1, Tq5_1_1, wq5_1_2, Tq5_1_2, hE_1, hl_wq5_1_1, hl_wq5_1_2, rfl, rfl⟩ ih_1
  rw [spec_l1Cur_someMaze.l0.eq_2] at hE_1
  refine Tri.seq (Tri.seq ?_)
  obtain ⟨y28, hE_2, hE_1⟩ := bind_some hE_1
  refine Tri.cut (fun e' C' => e' = [(0, .pointer (some ⟨pa0, 0, none⟩)), (1, .int .i64 a1), (4, .pointer (some ⟨b4_1, 0, none⟩)), (5, .pointer (some ⟨b5_1, 0, none⟩)), (6, .int .i64 (w64 (1 + t20_1))), (7, .int .i64 x7), (8, .int .i64 x8), (28, .bool y28)] ∧ C' = Sep w (footM [R.box pa0 100 [va0_0, .int .i64 a0_1, .int .u64 a0_2]]) [R.box b5_1 27 [.int .i64 a1, wq5_1_1, wq5_1_2], R.box pa0 100 [va0_0, .int .i64 xpa0_1, .int .u64 xpa0_2], R.box b4_1 27 [.int .i64 0, .slice none 0 0, .slice none 0 0], R.sl Tq5_1_1 wq5_1_1 (xq5_1_1 : List (Int × Int × Int)), R.sl Tq5_1_2 wq5_1_2 (xq5_1_2 : List (Int))]) ?_ (fun hj_1 => ?_)
  ·rintro _ _ ⟨rfl, rfl⟩
   refine Nrm.seq (Tri.cond (b := y28) rfl (fun g_1 => ?_) (fun g_1 => ?_))
   ·replace hE_1 := if_tt g_1 hE_1
    refine Tri.skip (Nrm.seq (Tri.seq (Tri.block ?_)))
    refine Tri.seq (Tri.reg (l := [0]) rfl ?_)
    refine F.qn rfl (r_assign rfl) (F.nil (Nrm.seq (Tri.seq (Tri.seq ?_))))
    obtain ⟨⟨t32_1, t32_2, t32_3⟩, h32, hE_1⟩ := bind_some hE_1
    refine Tri.reg (l := [0, 1]) rfl ?_
    refine F.qn rfl (r_move rfl) ?_
    refine F.efn rfl (d_callM (xs := _) (cs := [R.box pa0 100 [va0_0, .int .i64 xpa0_1, .int .u64 xpa0_2]]) (rest := [R.box b5_1 27 [.int .i64 a1, wq5_1_1, wq5_1_2], R.box b4_1 27 [.int .i64 0, .slice none 0 0, .slice none 0 0], R.sl Tq5_1_1 wq5_1_1 (xq5_1_1 : List (Int × Int × Int)), R.sl Tq5_1_2 wq5_1_2 (xq5_1_2 : List (Int))]) [1] [0, 2, 3, 4] rfl ok93 rfl rfl rfl rfl (fun w hw => spec_l1Cur_one.ok h32 w (hr_a0_0.down hw) (Sep.sub hw))) ?_
    rintro _ _ ⟨_, ⟨rfl, rfl⟩, rfl⟩
    refine F.nil (Nrm.seq ?_)
    obtain ⟨⟨y9, ypa0_1, ypa0_2⟩, hE_3, hE_1⟩ := bind_some hE_1
    refine Tri.cut (fun e' C' => e' = [(0, .pointer (some ⟨pa0, 0, none⟩)), (1, .int .i64 a1), (4, .pointer (some ⟨b4_1, 0, none⟩)), (5, .pointer (some ⟨b5_1, 0, none⟩)), (6, .int .i64 (w64 (1 + t20_1))), (7, .int .i64 x7), (8, .int .i64 x8), (9, .int .i64 y9)] ∧ C' = Sep w (footM [R.box pa0 100 [va0_0, .int .i64 a0_1, .int .u64 a0_2]]) [R.box pa0 100 [va0_0, .int .i64 ypa0_1, .int .u64 ypa0_2], R.box b5_1 27 [.int .i64 a1, wq5_1_1, wq5_1_2], R.box b4_1 27 [.int .i64 0, .slice none 0 0, .slice none 0 0], R.sl Tq5_1_1 wq5_1_1 (xq5_1_1 : List (Int × Int × Int)), R.sl Tq5_1_2 wq5_1_2 (xq5_1_2 : List (Int))]) ?_ (fun hj_2 => ?_)
    ·rintro _ _ ⟨rfl, rfl⟩
     refine Nrm.seq (Tri.seq ?_)
     obtain ⟨hs41, hE_1⟩ := ck hE_1
     refine Tri.reg (l := [0, 1, 2, 3, 4, 5, 6]) rfl ?_
     refine F.qn rfl (r_fieldAddr tf27_2 rfl) (F.qn rfl (r_load ta25 rfl (fun w hw => cell_1 (box_cells (i := 1) rfl w hw) rfl)) (F.qn rfl (r_move rfl) ?_))
     refine F.mn rfl (m_buildF (l := ([y9] : List (Int))) Try.underlying25 ti3 rfl rfl rfl rfl rfl) ?_
     rintro v40_1 _ ⟨S40_1, hl_v40_1, rfl⟩
     refine F.efn rfl (d_append (i := 5) Try.underlying25 Try.underlying25 ti3 rfl (by decide) rfl rfl rfl (rd_sl (i := 0) rfl) hs41) ?_
     rintro v41_1 _ ⟨S41_1, rfl, hl_v41_1⟩
     refine F.qn rfl (r_fieldAddr tf27_2 rfl) ?_
     refine F.ef0 rfl rfl (wanted_none rfl) (d_storeG1 (i := 2) (cs2 := [v41_1]) ti25 rfl rfl rfl (sl_cells hl_v41_1) rfl (Nat.le_of_ble_eq_true rfl) (lf_cons (sl_leaf hl_v41_1) lf_nil)) ?_
     rintro _ _ ⟨rfl, rfl⟩
     refine F.nil (Nrm.seq (Tri.seq (Tri.seq (Tri.reg (l := [0, 1]) rfl ?_))))
     refine F.qn rfl (r_move rfl) (F.qn rfl (r_gtr rfl rfl) (F.nil (Nrm.seq ?_)))
     obtain ⟨⟨ypa0_1r, ypa0_2r, yb5_1_1⟩, hE_4, hE_1⟩ := bind_some hE_1
     refine Tri.cut (fun e' C' => ∃ (vb5_1_1_1 : Value) (Sb5_1_1_1 : Nat → Prop), SlLen vb5_1_1_1 (yb5_1_1).length ∧ e' = [(0, .pointer (some ⟨pa0, 0, none⟩)), (1, .int .i64 a1), (4, .pointer (some ⟨b4_1, 0, none⟩)), (5, .pointer (some ⟨b5_1, 0, none⟩)), (6, .int .i64 (w64 (1 + t20_1))), (7, .int .i64 x7), (8, .int .i64 x8), (9, .int .i64 y9)] ∧ C' = Sep w (footM [R.box pa0 100 [va0_0, .int .i64 a0_1, .int .u64 a0_2]]) [R.box pa0 100 [va0_0, .int .i64 ypa0_1r, .int .u64 ypa0_2r], R.box b5_1 27 [.int .i64 a1, vb5_1_1_1, v41_1], R.box b4_1 27 [.int .i64 0, .slice none 0 0, .slice none 0 0], R.sl Sb5_1_1_1 vb5_1_1_1 (yb5_1_1 : List (Int × Int × Int)), R.sl S41_1 v41_1 (xq5_1_2 ++ ([y9] : List (Int)) : List (Int))]) ?_ (fun hj_3 => ?_)
     ·rintro _ _ ⟨vb5_1_1_1, Sb5_1_1_1, hl_vb5_1_1_1, rfl, rfl⟩
      refine Nrm.seq (Tri.reg (l := [0, 1, 2, 3]) rfl ?_)
      refine F.qn rfl (r_move rfl) (F.qn rfl (r_move rfl) (F.qn rfl (r_or rfl rfl) (F.qn rfl (r_assign rfl) (F.nil (Nrm.block ?_)))))
      refine Nrm.seq (Tri.reg (l := [0, 1, 2]) rfl ?_)
      refine F.qn rfl (r_move rfl) (F.qn rfl (r_add rfl rfl) (F.qn rfl (r_assign rfl) (F.nil (Nrm.round ?_))))
      refine Rnd.only [0, 1, 4, 5, 6, 7, 8] rfl ?_
      refine Rnd.pick [1, 0, 2, 4, 3] rfl rfl ?_
      exact ih_1 _ _ ⟨bor x7 y9, w64 (x8 + 1), yb5_1_1, xq5_1_2 ++ ([y9] : List (Int)), ypa0_1r, ypa0_2r, vb5_1_1_1, Sb5_1_1_1, v41_1, S41_1, hE_1, hl_vb5_1_1_1, hl_v41_1, rfl, rfl⟩
     ·refine Tri.cond (b := decide (x8 > 0)) rfl (fun g_3 => ?_) (fun g_3 => ?_)
      ·replace hE_4 := if_tt g_3 hE_4
       refine Tri.seq ?_
       obtain ⟨⟨t47_1, t47_2, t47_3⟩, h47, hE_4⟩ := bind_some hE_4
       refine Tri.reg (l := [0, 1, 2, 3]) rfl ?_
       refine F.qn rfl (r_move rfl) (F.qn rfl (r_move rfl) ?_)
       refine F.efn rfl (d_callM (xs := _) (cs := [R.box pa0 100 [va0_0, .int .i64 ypa0_1, .int .u64 ypa0_2]]) (rest := [R.sl S40_1 v40_1 (([y9] : List (Int)) : List (Int)), R.box b5_1 27 [.int .i64 a1, wq5_1_1, v41_1], R.box b4_1 27 [.int .i64 0, .slice none 0 0, .slice none 0 0], R.sl Tq5_1_1 wq5_1_1 (xq5_1_1 : List (Int × Int × Int)), R.sl S41_1 v41_1 (xq5_1_2 ++ ([y9] : List (Int)) : List (Int))]) [1] [0, 2, 3, 4, 5] rfl ok205 rfl rfl rfl rfl (fun w hw => spec_l1Cur_few.ok h47 w (hr_a0_0.down hw) (Sep.sub hw))) ?_
       rintro _ _ ⟨_, ⟨rfl, rfl⟩, rfl⟩
       refine F.qn rfl (r_assign rfl) (F.nil (Nrm.seq (Tri.seq (Tri.seq ?_))))
       obtain ⟨⟨t49_1, t49_2, t49_3⟩, h49, hE_4⟩ := bind_some hE_4
       refine Tri.reg (l := [0, 1, 2]) rfl ?_
       refine F.qn rfl (r_move rfl) ?_
       refine F.efn rfl (d_callM (xs := _) (cs := [R.box pa0 100 [va0_0, .int .i64 t47_2, .int .u64 t47_3]]) (rest := [R.sl S40_1 v40_1 (([y9] : List (Int)) : List (Int)), R.box b5_1 27 [.int .i64 a1, wq5_1_1, v41_1], R.box b4_1 27 [.int .i64 0, .slice none 0 0, .slice none 0 0], R.sl Tq5_1_1 wq5_1_1 (xq5_1_1 : List (Int × Int × Int)), R.sl S41_1 v41_1 (xq5_1_2 ++ ([y9] : List (Int)) : List (Int))]) [0] [1, 2, 3, 4, 5] rfl ok93 rfl rfl rfl rfl (fun w hw => spec_l1Cur_one.ok h49 w (hr_a0_0.down hw) (Sep.sub hw))) ?_
       rintro _ _ ⟨_, ⟨rfl, rfl⟩, rfl⟩
       refine F.qn rfl (r_not rfl) (F.nil (Nrm.seq ?_))
       obtain ⟨y10, hE_5, hE_4⟩ := bind_some hE_4
       refine Tri.cut (fun e' C' => e' = [(0, .pointer (some ⟨pa0, 0, none⟩)), (1, .int .i64 a1), (4, .pointer (some ⟨b4_1, 0, none⟩)), (5, .pointer (some ⟨b5_1, 0, none⟩)), (6, .int .i64 (w64 (1 + t20_1))), (7, .int .i64 x7), (8, .int .i64 x8), (9, .int .i64 y9), (10, .int .i64 y10)] ∧ C' = Sep w (footM [R.box pa0 100 [va0_0, .int .i64 a0_1, .int .u64 a0_2]]) [R.box pa0 100 [va0_0, .int .i64 t49_2, .int .u64 t49_3], R.box b5_1 27 [.int .i64 a1, wq5_1_1, v41_1], R.box b4_1 27 [.int .i64 0, .slice none 0 0, .slice none 0 0], R.sl S41_1 v41_1 (xq5_1_2 ++ ([y9] : List (Int)) : List (Int)), R.sl Tq5_1_1 wq5_1_1 (xq5_1_1 : List (Int × Int × Int))]) ?_ (fun hj_4 => ?_)
       ·rintro _ _ ⟨rfl, rfl⟩
        refine Nrm.seq ?_
        obtain ⟨⟨t58_1, t58_2, t58_3⟩, h58, hE_4⟩ := bind_some hE_4
        obtain ⟨t61, h61, hE_4⟩ := bind_some hE_4
        refine Tri.drawK (B := Sep w (footM [R.box pa0 100 [va0_0, .int .i64 a0_1, .int .u64 a0_2]]) [R.box b5_1 27 [.int .i64 a1, wq5_1_1, v41_1], R.box b4_1 27 [.int .i64 0, .slice none 0 0, .slice none 0 0], R.sl S41_1 v41_1 (xq5_1_2 ++ ([y9] : List (Int)) : List (Int)), R.sl Tq5_1_1 wq5_1_1 (xq5_1_1 : List (Int × Int × Int))]) mixedT Sep.up [(0, true), (1, true), (2, true), (3, true), (5, true), (6, true), (4, false)] [7, 8, 9] (by kernel_rfl) ?_
        refine K.q [1, 2, 3, 4] rfl rfl rfl rfl rfl (wanted_none rfl) (r_fieldAddr tf27_1 rfl) ?_
        refine K.q [1, 2, 3, 4] rfl rfl rfl rfl rfl (wanted_none rfl) (r_load ta24 rfl (fun w hw => cell_1 (box_cells (i := 0) rfl w hw) rfl)) ?_
        iterate 4 refine K.q [1, 2, 3, 4] rfl rfl rfl rfl rfl (wanted_none rfl) (r_move rfl) ?_
        refine B.ef rfl rfl rfl (wanted_none rfl) (d_callM (xs := _) (cs := [R.box pa0 100 [va0_0, .int .i64 t49_2, .int .u64 t49_3]]) (rest := [R.box b5_1 27 [.int .i64 a1, wq5_1_1, v41_1], R.box b4_1 27 [.int .i64 0, .slice none 0 0, .slice none 0 0], R.sl S41_1 v41_1 (xq5_1_2 ++ ([y9] : List (Int)) : List (Int)), R.sl Tq5_1_1 wq5_1_1 (xq5_1_1 : List (Int × Int × Int))]) [0] [1, 2, 3, 4] rfl ok95 rfl rfl rfl rfl (fun w hw => spec_l1Cur_pick.ok h58 w (hr_a0_0.down hw) (Sep.sub hw))) (by rintro _ _ ⟨_, ⟨rfl, rfl⟩, rfl⟩; exact upd rfl [1, 2, 3, 4] rfl rfl) ?_
        rintro _ _ ⟨_, ⟨rfl, rfl⟩, rfl⟩
        refine B.nil ?_
        refine F.efn rfl (d_callM (xs := _) (cs := [R.sl Tq5_1_1 wq5_1_1 (xq5_1_1 : List (Int × Int × Int))]) (rest := [R.box pa0 100 [va0_0, .int .i64 t58_2, .int .u64 t58_3], R.box b5_1 27 [.int .i64 a1, wq5_1_1, v41_1], R.box b4_1 27 [.int .i64 0, .slice none 0 0, .slice none 0 0], R.sl S41_1 v41_1 (xq5_1_2 ++ ([y9] : List (Int)) : List (Int))]) [4] [0, 1, 2, 3] rfl ok206 rfl rfl rfl rfl (fun w hw => spec_l2Put.ok h61 w hl_wq5_1_1 (Sep.sub hw))) ?_
        rintro v61_2 _ ⟨_, ⟨S61_2, hl_v61_2, rfl⟩, rfl⟩
        refine F.qn rfl (r_fieldAddr tf27_1 rfl) ?_
        refine F.ef0 rfl rfl (wanted_none rfl) (d_storeG1 (i := 2) (cs2 := [v61_2]) ti24 rfl rfl rfl (sl_cells hl_v61_2) rfl (Nat.le_of_ble_eq_true rfl) (lf_cons (sl_leaf hl_v61_2) lf_nil)) ?_
        rintro _ _ ⟨rfl, rfl⟩
        refine F.nil ?_
        cases hE_4
        refine Nrm.only [0, 1, 4, 5, 6, 7, 8, 9] rfl ?_
        refine Nrm.pick [1, 2, 3, 0, 4] rfl rfl ?_
        exact hj_3 _ _ ⟨v61_2, S61_2, hl_v61_2, rfl, rfl⟩
       ·refine Tri.cond (b := !t49_1) rfl (fun g_4 => ?_) (fun g_4 => ?_)
        ·replace hE_5 := if_tt g_4 hE_5
         refine Tri.reg (l := [0, 1, 2, 3]) rfl ?_
         refine F.qn rfl (r_move rfl) (F.qn rfl (r_move rfl) (F.qn rfl (r_and rfl rfl) (F.qn rfl (r_assign rfl) (F.nil ?_))))
         cases hE_5
         refine Nrm.only [0, 1, 4, 5, 6, 7, 8, 9, 10] rfl ?_
         refine Nrm.pick [0, 2, 3, 5, 4] rfl rfl ?_
         exact hj_4 _ _ ⟨rfl, rfl⟩
        ·replace hE_5 := if_ff g_4 hE_5
         refine Tri.skip ?_
         cases hE_5
         refine Nrm.only [0, 1, 4, 5, 6, 7, 8, 9, 10] rfl ?_
         refine Nrm.pick [0, 2, 3, 5, 4] rfl rfl ?_
         exact hj_4 _ _ ⟨rfl, rfl⟩
      ·replace hE_4 := if_ff g_3 hE_4
       refine Tri.skip ?_
       cases hE_4
       refine Nrm.only [0, 1, 4, 5, 6, 7, 8, 9] rfl ?_
       refine Nrm.pick [1, 2, 3, 4, 5] rfl rfl ?_
       exact hj_3 _ _ ⟨wq5_1_1, Tq5_1_1, hl_wq5_1_1, rfl, rfl⟩
    ·refine Tri.cond (b := t32_1) rfl (fun g_2 => ?_) (fun g_2 => ?_)
     ·replace hE_3 := if_tt g_2 hE_3
      obtain ⟨⟨t35_1, t35_2, t35_3⟩, h35, hE_3⟩ := bind_some hE_3
      obtain ⟨hs36, hE_3⟩ := ck hE_3
      refine Tri.reg (l := [0, 1, 2, 3, 4]) rfl ?_
      refine F.qn rfl (r_move rfl) (F.qn rfl (r_move rfl) ?_)
      refine F.efn rfl (d_callM (xs := _) (cs := [R.box pa0 100 [va0_0, .int .i64 t32_2, .int .u64 t32_3]]) (rest := [R.box b5_1 27 [.int .i64 a1, wq5_1_1, wq5_1_2], R.box b4_1 27 [.int .i64 0, .slice none 0 0, .slice none 0 0], R.sl Tq5_1_1 wq5_1_1 (xq5_1_1 : List (Int × Int × Int)), R.sl Tq5_1_2 wq5_1_2 (xq5_1_2 : List (Int))]) [0] [1, 2, 3, 4] rfl ok95 rfl rfl rfl rfl (fun w hw => spec_l1Cur_pick.ok h35 w (hr_a0_0.down hw) (Sep.sub hw))) ?_
      rintro _ _ ⟨_, ⟨rfl, rfl⟩, rfl⟩
      refine F.qn rfl (r_shl rfl rfl hs36) (F.qn rfl (r_assign rfl) (F.nil ?_))
      cases hE_3
      refine Nrm.only [0, 1, 4, 5, 6, 7, 8, 9] rfl ?_
      refine Nrm.pick [0, 1, 2, 3, 4] rfl rfl ?_
      exact hj_2 _ _ ⟨rfl, rfl⟩
     ·replace hE_3 := if_ff g_2 hE_3
      refine Tri.skip ?_
      cases hE_3
      refine Nrm.only [0, 1, 4, 5, 6, 7, 8, 9] rfl ?_
      refine Nrm.pick [0, 1, 2, 3, 4] rfl rfl ?_
      exact hj_2 _ _ ⟨rfl, rfl⟩
   ·replace hE_1 := if_ff g_1 hE_1
    refine Tri.exit ?_
    refine Exi.then ?_
    refine Exi.then ?_
    refine Exi.same ?_
    cases hE_1
    refine Nrm.seq (Tri.seq (Tri.seq ?_))
    obtain ⟨⟨t67_1, t67_2, t67_3⟩, h67, h⟩ := bind_some h
    refine Tri.reg (l := [0, 1, 2]) rfl ?_
    refine F.qn rfl (r_move rfl) ?_
    refine F.efn rfl (d_callM (xs := _) (cs := [R.box pa0 100 [va0_0, .int .i64 xpa0_1, .int .u64 xpa0_2]]) (rest := [R.box b5_1 27 [.int .i64 a1, wq5_1_1, wq5_1_2], R.box b4_1 27 [.int .i64 0, .slice none 0 0, .slice none 0 0], R.sl Tq5_1_1 wq5_1_1 (xq5_1_1 : List (Int × Int × Int)), R.sl Tq5_1_2 wq5_1_2 (xq5_1_2 : List (Int))]) [1] [0, 2, 3, 4] rfl ok95 rfl rfl rfl rfl (fun w hw => spec_l1Cur_pick.ok h67 w (hr_a0_0.down hw) (Sep.sub hw))) ?_
    rintro _ _ ⟨_, ⟨rfl, rfl⟩, rfl⟩
    refine F.qn rfl (r_assign rfl) (F.nil (Nrm.seq ?_))
    obtain ⟨⟨xpa0_1r, xpa0_2r, xq5_1_1r⟩, hE_6, h⟩ := bind_some h
    refine Tri.block ?_
    refine Tri.only [0, 1, 4, 5, 6, 11] rfl ?_
    refine Tri.pick [0, 1, 2, 3, 4] rfl rfl ?_
    refine Tri.rounds (fun n e' C' => ∃ (x11' : Int) (xpa0_1r' : Int) (xpa0_2r' : Int) (xq5_1_1r' : List (Int × Int × Int)) (wq5_1_1r : Value) (Tq5_1_1r : Nat → Prop), spec_l1Cur_someMaze.l1 k a0_0 a1 t20_1 n x11' xpa0_1r' xpa0_2r' xq5_1_1r' = some (xpa0_1r, xpa0_2r, xq5_1_1r) ∧ SlLen wq5_1_1r (xq5_1_1r').length ∧ e' = [(0, .pointer (some ⟨pa0, 0, none⟩)), (1, .int .i64 a1), (4, .pointer (some ⟨b4_1, 0, none⟩)), (5, .pointer (some ⟨b5_1, 0, none⟩)), (6, .int .i64 (w64 (1 + t20_1))), (11, .int .i64 x11')] ∧ C' = Sep w (footM [R.box pa0 100 [va0_0, .int .i64 a0_1, .int .u64 a0_2]]) [R.box pa0 100 [va0_0, .int .i64 xpa0_1r', .int .u64 xpa0_2r'], R.box b5_1 27 [.int .i64 a1, wq5_1_1r, wq5_1_2], R.box b4_1 27 [.int .i64 0, .slice none 0 0, .slice none 0 0], R.sl Tq5_1_1r wq5_1_1r (xq5_1_1r' : List (Int × Int × Int)), R.sl Tq5_1_2 wq5_1_2 (xq5_1_2 : List (Int))]) k ?_ ?_ ?_
    ·exact ⟨t67_1, t67_2, t67_3, xq5_1_1, wq5_1_1, Tq5_1_1, hE_6, hl_wq5_1_1, rfl, rfl⟩
    ·rintro _ _ ⟨_, _, _, _, _, _, hE_6, _⟩
     rw [spec_l1Cur_someMaze.l1.eq_1] at hE_6; cases hE_6
    ·rintro n_2 _ _ ⟨x11, xpa0_1r, xpa0_2r, xq5_1_1r, wq5_1_1r, Tq5_1_1r, hE_6, hl_wq5_1_1r, rfl, rfl⟩ ih_2
     rw [spec_l1Cur_someMaze.l1.eq_2] at hE_6
     refine Tri.seq (Tri.seq ?_)
     obtain ⟨y77, hE_7, hE_6⟩ := bind_some hE_6
     refine Tri.cut (fun e' C' => e' = [(0, .pointer (some ⟨pa0, 0, none⟩)), (1, .int .i64 a1), (4, .pointer (some ⟨b4_1, 0, none⟩)), (5, .pointer (some ⟨b5_1, 0, none⟩)), (6, .int .i64 (w64 (1 + t20_1))), (11, .int .i64 x11), (77, .bool y77)] ∧ C' = Sep w (footM [R.box pa0 100 [va0_0, .int .i64 a0_1, .int .u64 a0_2]]) [R.box pa0 100 [va0_0, .int .i64 xpa0_1r, .int .u64 xpa0_2r], R.box b5_1 27 [.int .i64 a1, wq5_1_1r, wq5_1_2], R.box b4_1 27 [.int .i64 0, .slice none 0 0, .slice none 0 0], R.sl Tq5_1_1r wq5_1_1r (xq5_1_1r : List (Int × Int × Int)), R.sl Tq5_1_2 wq5_1_2 (xq5_1_2 : List (Int))]) ?_ (fun hj_5 => ?_)
     ·rintro _ _ ⟨rfl, rfl⟩
      refine Nrm.seq (Tri.cond (b := y77) rfl (fun g_5 => ?_) (fun g_5 => ?_))
      ·replace hE_6 := if_tt g_5 hE_6
       refine Tri.skip (Nrm.seq (Tri.seq (Tri.block ?_)))
       refine Tri.seq ?_
       obtain ⟨⟨t82_1, t82_2, t82_3⟩, h82, hE_6⟩ := bind_some hE_6
       obtain ⟨⟨t85_1, t85_2, t85_3⟩, h85, hE_6⟩ := bind_some hE_6
       refine Tri.reg (l := [0, 1, 2, 3, 4, 5, 6, 7]) rfl ?_
       refine F.qn rfl (r_move rfl) (F.qn rfl (r_move rfl) ?_)
       refine F.efn rfl (d_callM (xs := _) (cs := [R.box pa0 100 [va0_0, .int .i64 xpa0_1r, .int .u64 xpa0_2r]]) (rest := [R.box b5_1 27 [.int .i64 a1, wq5_1_1r, wq5_1_2], R.box b4_1 27 [.int .i64 0, .slice none 0 0, .slice none 0 0], R.sl Tq5_1_1r wq5_1_1r (xq5_1_1r : List (Int × Int × Int)), R.sl Tq5_1_2 wq5_1_2 (xq5_1_2 : List (Int))]) [0] [1, 2, 3, 4] rfl ok95 rfl rfl rfl rfl (fun w hw => spec_l1Cur_pick.ok h82 w (hr_a0_0.down hw) (Sep.sub hw))) ?_
       rintro _ _ ⟨_, ⟨rfl, rfl⟩, rfl⟩
       refine F.qn rfl (r_move rfl) (F.qn rfl (r_move rfl) ?_)
       refine F.efn rfl (d_callM (xs := _) (cs := [R.box pa0 100 [va0_0, .int .i64 t82_2, .int .u64 t82_3]]) (rest := [R.box b5_1 27 [.int .i64 a1, wq5_1_1r, wq5_1_2], R.box b4_1 27 [.int .i64 0, .slice none 0 0, .slice none 0 0], R.sl Tq5_1_1r wq5_1_1r (xq5_1_1r : List (Int × Int × Int)), R.sl Tq5_1_2 wq5_1_2 (xq5_1_2 : List (Int))]) [0] [1, 2, 3, 4] rfl ok95 rfl rfl rfl rfl (fun w hw => spec_l1Cur_pick.ok h85 w (hr_a0_0.down hw) (Sep.sub hw))) ?_
       rintro _ _ ⟨_, ⟨rfl, rfl⟩, rfl⟩
       refine F.qn rfl (r_assign rfl) (F.qn rfl (r_assign rfl) (F.nil (Nrm.seq (Tri.seq (Tri.reg (l := [0, 1, 2]) rfl ?_)))))
       refine F.qn rfl (r_move rfl) (F.qn rfl (r_move rfl) (F.qn rfl (r_neq rfl rfl) (F.nil (Nrm.seq ?_))))
       obtain ⟨⟨ypa0_1rr, ypa0_2rr, yb5_1_1r⟩, hE_8, hE_6⟩ := bind_some hE_6
       refine Tri.cut (fun e' C' => ∃ (vb5_1_1_2 : Value) (Sb5_1_1_2 : Nat → Prop), SlLen vb5_1_1_2 (yb5_1_1r).length ∧ e' = [(0, .pointer (some ⟨pa0, 0, none⟩)), (1, .int .i64 a1), (4, .pointer (some ⟨b4_1, 0, none⟩)), (5, .pointer (some ⟨b5_1, 0, none⟩)), (6, .int .i64 (w64 (1 + t20_1))), (11, .int .i64 x11)] ∧ C' = Sep w (footM [R.box pa0 100 [va0_0, .int .i64 a0_1, .int .u64 a0_2]]) [R.box pa0 100 [va0_0, .int .i64 ypa0_1rr, .int .u64 ypa0_2rr], R.box b5_1 27 [.int .i64 a1, vb5_1_1_2, wq5_1_2], R.box b4_1 27 [.int .i64 0, .slice none 0 0, .slice none 0 0], R.sl Sb5_1_1_2 vb5_1_1_2 (yb5_1_1r : List (Int × Int × Int)), R.sl Tq5_1_2 wq5_1_2 (xq5_1_2 : List (Int))]) ?_ (fun hj_6 => ?_)
       ·rintro _ _ ⟨vb5_1_1_2, Sb5_1_1_2, hl_vb5_1_1_2, rfl, rfl⟩
        refine Nrm.block ?_
        refine Nrm.seq (Tri.reg (l := [0, 1, 2]) rfl ?_)
        refine F.qn rfl (r_move rfl) (F.qn rfl (r_sub rfl rfl) (F.qn rfl (r_assign rfl) (F.nil (Nrm.round ?_))))
        refine Rnd.only [0, 1, 4, 5, 6, 11] rfl ?_
        refine Rnd.pick [0, 1, 2, 3, 4] rfl rfl ?_
        exact ih_2 _ _ ⟨w64 (x11 - 1), ypa0_1rr, ypa0_2rr, yb5_1_1r, vb5_1_1_2, Sb5_1_1_2, hE_6, hl_vb5_1_1_2, rfl, rfl⟩
       ·refine Tri.cond (b := t82_1 != t85_1) rfl (fun g_6 => ?_) (fun g_6 => ?_)
        ·replace hE_8 := if_tt g_6 hE_8
         obtain ⟨⟨t95_1, t95_2, t95_3⟩, h95, hE_8⟩ := bind_some hE_8
         obtain ⟨t96, h96, hE_8⟩ := bind_some hE_8
         refine Tri.drawK (B := Sep w (footM [R.box pa0 100 [va0_0, .int .i64 a0_1, .int .u64 a0_2]]) [R.box b5_1 27 [.int .i64 a1, wq5_1_1r, wq5_1_2], R.box b4_1 27 [.int .i64 0, .slice none 0 0, .slice none 0 0], R.sl Tq5_1_1r wq5_1_1r (xq5_1_1r : List (Int × Int × Int)), R.sl Tq5_1_2 wq5_1_2 (xq5_1_2 : List (Int))]) mixedT Sep.up [(0, true), (1, true), (2, true), (3, true), (4, true), (5, true), (6, false)] [7, 8, 9] (by kernel_rfl) ?_
         refine K.q [1, 2, 3, 4] rfl rfl rfl rfl rfl (wanted_none rfl) (r_fieldAddr tf27_1 rfl) ?_
         refine K.q [1, 2, 3, 4] rfl rfl rfl rfl rfl (wanted_none rfl) (r_load ta24 rfl (fun w hw => cell_1 (box_cells (i := 0) rfl w hw) rfl)) ?_
         iterate 4 refine K.q [1, 2, 3, 4] rfl rfl rfl rfl rfl (wanted_none rfl) (r_move rfl) ?_
         refine B.ef rfl rfl rfl (wanted_none rfl) (d_callM (xs := _) (cs := [R.box pa0 100 [va0_0, .int .i64 t85_2, .int .u64 t85_3]]) (rest := [R.box b5_1 27 [.int .i64 a1, wq5_1_1r, wq5_1_2], R.box b4_1 27 [.int .i64 0, .slice none 0 0, .slice none 0 0], R.sl Tq5_1_1r wq5_1_1r (xq5_1_1r : List (Int × Int × Int)), R.sl Tq5_1_2 wq5_1_2 (xq5_1_2 : List (Int))]) [0] [1, 2, 3, 4] rfl ok205 rfl rfl rfl rfl (fun w hw => spec_l1Cur_few.ok h95 w (hr_a0_0.down hw) (Sep.sub hw))) (by rintro _ _ ⟨_, ⟨rfl, rfl⟩, rfl⟩; exact upd rfl [1, 2, 3, 4] rfl rfl) ?_
         rintro _ _ ⟨_, ⟨rfl, rfl⟩, rfl⟩
         refine B.nil ?_
         refine F.efn rfl (d_callM (xs := _) (cs := [R.sl Tq5_1_1r wq5_1_1r (xq5_1_1r : List (Int × Int × Int))]) (rest := [R.box pa0 100 [va0_0, .int .i64 t95_2, .int .u64 t95_3], R.box b5_1 27 [.int .i64 a1, wq5_1_1r, wq5_1_2], R.box b4_1 27 [.int .i64 0, .slice none 0 0, .slice none 0 0], R.sl Tq5_1_2 wq5_1_2 (xq5_1_2 : List (Int))]) [3] [0, 1, 2, 4] rfl ok206 rfl rfl rfl rfl (fun w hw => spec_l2Put.ok h96 w hl_wq5_1_1r (Sep.sub hw))) ?_
         rintro v96_2 _ ⟨_, ⟨S96_2, hl_v96_2, rfl⟩, rfl⟩
         refine F.qn rfl (r_fieldAddr tf27_1 rfl) ?_
         refine F.ef0 rfl rfl (wanted_none rfl) (d_storeG1 (i := 2) (cs2 := [v96_2]) ti24 rfl rfl rfl (sl_cells hl_v96_2) rfl (Nat.le_of_ble_eq_true rfl) (lf_cons (sl_leaf hl_v96_2) lf_nil)) ?_
         rintro _ _ ⟨rfl, rfl⟩
         refine F.nil ?_
         cases hE_8
         refine Nrm.only [0, 1, 4, 5, 6, 11] rfl ?_
         refine Nrm.pick [1, 2, 3, 0, 4] rfl rfl ?_
         exact hj_6 _ _ ⟨v96_2, S96_2, hl_v96_2, rfl, rfl⟩
        ·replace hE_8 := if_ff g_6 hE_8
         refine Tri.skip ?_
         cases hE_8
         refine Nrm.only [0, 1, 4, 5, 6, 11] rfl ?_
         refine Nrm.pick [0, 1, 2, 3, 4] rfl rfl ?_
         exact hj_6 _ _ ⟨wq5_1_1r, Tq5_1_1r, hl_wq5_1_1r, rfl, rfl⟩
      ·replace hE_6 := if_ff g_5 hE_6
       refine Tri.exit ?_
       refine Exi.then ?_
       refine Exi.then ?_
       refine Exi.same ?_
       cases hE_6
       refine Nrm.seq (Tri.seq (Tri.seq ?_))
       obtain ⟨⟨t99_1, t99_2, t99_3⟩, h99, h⟩ := bind_some h
       refine Tri.reg (l := [0, 1]) rfl ?_
       refine F.qn rfl (r_move rfl) ?_
       refine F.efn rfl (d_callM (xs := _) (cs := [R.box pa0 100 [va0_0, .int .i64 xpa0_1r, .int .u64 xpa0_2r]]) (rest := [R.box b5_1 27 [.int .i64 a1, wq5_1_1r, wq5_1_2], R.box b4_1 27 [.int .i64 0, .slice none 0 0, .slice none 0 0], R.sl Tq5_1_1r wq5_1_1r (xq5_1_1r : List (Int × Int × Int)), R.sl Tq5_1_2 wq5_1_2 (xq5_1_2 : List (Int))]) [0] [1, 2, 3, 4] rfl ok95 rfl rfl rfl rfl (fun w hw => spec_l1Cur_pick.ok h99 w (hr_a0_0.down hw) (Sep.sub hw))) ?_
       rintro _ _ ⟨_, ⟨rfl, rfl⟩, rfl⟩
       refine F.nil (Nrm.seq (Tri.block ?_))
       refine Tri.seq (Tri.reg (l := [0, 1]) rfl ?_)
       refine F.qn rfl (r_eql rfl rfl) (F.qn rfl (r_assign rfl) (F.nil (Nrm.seq (Tri.cond (b := t99_1 == 0) rfl (fun g_7 => ?_) (fun g_7 => ?_)))))
       ·replace h := if_tt g_7 h
        obtain ⟨⟨t107_1, t107_2, t107_3⟩, h107, h⟩ := bind_some h
        refine Tri.reg (l := [0, 1, 2, 3, 4, 5, 6, 7]) rfl ?_
        refine F.qn rfl (r_move rfl) (F.qn rfl (r_fieldAddr tf27_0 rfl) (F.qn rfl (r_load ta3 rfl (fun w hw => cell_1 (box_cells (i := 1) rfl w hw) rfl)) (F.qn rfl (r_add rfl rfl) ?_)))
        refine F.mn rfl (m_buildF (l := ([0, 13, w64 (a1 + 1)] : List (Int))) Try.underlying25 ti3 rfl rfl rfl rfl rfl) ?_
        rintro v106_1 _ ⟨S106_1, hl_v106_1, rfl⟩
        refine F.efn rfl (d_callM (xs := _) (cs := [R.box pa0 100 [va0_0, .int .i64 t99_2, .int .u64 t99_3]]) (rest := [R.sl S106_1 v106_1 (([0, 13, w64 (a1 + 1)] : List (Int)) : List (Int)), R.box b5_1 27 [.int .i64 a1, wq5_1_1r, wq5_1_2], R.box b4_1 27 [.int .i64 0, .slice none 0 0, .slice none 0 0], R.sl Tq5_1_1r wq5_1_1r (xq5_1_1r : List (Int × Int × Int)), R.sl Tq5_1_2 wq5_1_2 (xq5_1_2 : List (Int))]) [1] [0, 2, 3, 4, 5] rfl ok96 rfl rfl rfl rfl (fun w hw => spec_l1Cur_among.ok h107 w (hr_a0_0.down hw) (rdm_sl (i := 0) rfl hw) (Sep.sub hw))) ?_
        rintro _ _ ⟨_, ⟨rfl, rfl⟩, rfl⟩
        refine F.qn rfl (r_fieldAddr tf27_0 rfl) ?_
        refine F.ef0 rfl rfl (wanted_none rfl) (d_storeG1 (i := 2) (cs2 := [.int .i64 t107_1]) ti3 rfl rfl rfl rfl rfl (Nat.le_of_ble_eq_true rfl) (lf_cons rfl lf_nil)) ?_
        rintro _ _ ⟨rfl, rfl⟩
        refine F.nil (Nrm.block ?_)
        refine Nrm.seq (Tri.seq (Tri.reg (l := [0, 1]) rfl ?_))
        refine F.qn rfl (r_loadA ta27 ti27 rfl rfl (fun w hw => (box_cells (i := 2) rfl w hw))) ?_
        refine F.ef0 rfl rfl (wanted_none rfl) (d_storeG0 (i := 3) (cs2 := [.int .i64 t107_1, wq5_1_1r, wq5_1_2]) ti27 rfl rfl rfl rfl rfl (Nat.le_of_ble_eq_true rfl) (lf_cons rfl (lf_cons (sl_leaf hl_wq5_1_1r) (lf_cons (sl_leaf hl_wq5_1_2) lf_nil)))) ?_
        rintro _ _ ⟨rfl, rfl⟩
        refine F.nil (Nrm.seq (Tri.ret ?_))
        cases h
        exact Rtn.body (.cell rfl ta27 ti27 rfl (fun _ hw => box_cells (i := 3) rfl _ hw) .nil) (fun w hw => ⟨_, _, rfl, ⟨wq5_1_1r, Tq5_1_1r, wq5_1_2, Tq5_1_2, rfl, hl_wq5_1_1r, hl_wq5_1_2, rfl⟩, Sep.pick (is := [4, 5, 0]) rfl rfl hw⟩)
       ·replace h := if_ff g_7 h
        refine Tri.seq (Tri.reg (l := [0, 1]) rfl ?_)
        refine F.qn rfl (r_eql rfl rfl) (F.qn rfl (r_assign rfl) (F.nil (Nrm.seq (Tri.cond (b := t99_1 == 1) rfl (fun g_8 => ?_) (fun g_8 => ?_)))))
        ·replace h := if_tt g_8 h
         refine Tri.seq (Tri.reg (l := [0, 1, 2, 3]) rfl ?_)
         refine F.qn rfl (r_fieldAddr tf27_1 rfl) (F.qn rfl (r_load ta24 rfl (fun w hw => cell_1 (box_cells (i := 1) rfl w hw) rfl)) (F.qn rfl (r_len Try.underlying24 rfl hl_wq5_1_1r) (F.qn rfl (r_gtr rfl rfl) (F.nil (Nrm.seq ?_)))))
         obtain ⟨⟨ypa0_1rrr, ypa0_2rrr, yb5_1_1rr⟩, hE_9, h⟩ := bind_some h
         refine Tri.cut (fun e' C' => ∃ (vb5_1_1_3 : Value) (Sb5_1_1_3 : Nat → Prop), SlLen vb5_1_1_3 (yb5_1_1rr).length ∧ e' = [(4, .pointer (some ⟨b4_1, 0, none⟩)), (5, .pointer (some ⟨b5_1, 0, none⟩))] ∧ C' = Sep w (footM [R.box pa0 100 [va0_0, .int .i64 a0_1, .int .u64 a0_2]]) [R.box pa0 100 [va0_0, .int .i64 ypa0_1rrr, .int .u64 ypa0_2rrr], R.box b5_1 27 [.int .i64 a1, vb5_1_1_3, wq5_1_2], R.box b4_1 27 [.int .i64 0, .slice none 0 0, .slice none 0 0], R.sl Sb5_1_1_3 vb5_1_1_3 (yb5_1_1rr : List (Int × Int × Int)), R.sl Tq5_1_2 wq5_1_2 (xq5_1_2 : List (Int))]) ?_ (fun hj_7 => ?_)
         ·rintro _ _ ⟨vb5_1_1_3, Sb5_1_1_3, hl_vb5_1_1_3, rfl, rfl⟩
          refine Nrm.block ?_
          refine Nrm.seq (Tri.seq (Tri.reg (l := [0, 1]) rfl ?_))
          refine F.qn rfl (r_loadA ta27 ti27 rfl rfl (fun w hw => (box_cells (i := 1) rfl w hw))) ?_
          refine F.ef0 rfl rfl (wanted_none rfl) (d_storeG0 (i := 2) (cs2 := [.int .i64 a1, vb5_1_1_3, wq5_1_2]) ti27 rfl rfl rfl rfl rfl (Nat.le_of_ble_eq_true rfl) (lf_cons rfl (lf_cons (sl_leaf hl_vb5_1_1_3) (lf_cons (sl_leaf hl_wq5_1_2) lf_nil)))) ?_
          rintro _ _ ⟨rfl, rfl⟩
          refine F.nil (Nrm.seq (Tri.ret ?_))
          cases h
          exact Rtn.body (.cell rfl ta27 ti27 rfl (fun _ hw => box_cells (i := 2) rfl _ hw) .nil) (fun w hw => ⟨_, _, rfl, ⟨vb5_1_1_3, Sb5_1_1_3, wq5_1_2, Tq5_1_2, rfl, hl_vb5_1_1_3, hl_wq5_1_2, rfl⟩, Sep.pick (is := [3, 4, 0]) rfl rfl hw⟩)
         ·refine Tri.cond (b := decide ((xq5_1_1r.length : Int) > 0)) rfl (fun g_9 => ?_) (fun g_9 => ?_)
          ·replace hE_9 := if_tt g_9 hE_9
           refine Tri.seq ?_
           obtain ⟨⟨t119_1, t119_2, t119_3⟩, h119, hE_9⟩ := bind_some hE_9
           refine Tri.reg (l := [0, 1, 2, 3, 4, 5]) rfl ?_
           refine F.qn rfl (r_move rfl) (F.qn rfl (r_fieldAddr tf27_1 rfl) (F.qn rfl (r_load ta24 rfl (fun w hw => cell_1 (box_cells (i := 1) rfl w hw) rfl)) (F.qn rfl (r_len Try.underlying24 rfl hl_wq5_1_1r) ?_)))
           refine F.efn rfl (d_callM (xs := _) (cs := [R.box pa0 100 [va0_0, .int .i64 t99_2, .int .u64 t99_3]]) (rest := [R.box b5_1 27 [.int .i64 a1, wq5_1_1r, wq5_1_2], R.box b4_1 27 [.int .i64 0, .slice none 0 0, .slice none 0 0], R.sl Tq5_1_1r wq5_1_1r (xq5_1_1r : List (Int × Int × Int)), R.sl Tq5_1_2 wq5_1_2 (xq5_1_2 : List (Int))]) [0] [1, 2, 3, 4] rfl ok95 rfl rfl rfl rfl (fun w hw => spec_l1Cur_pick.ok h119 w (hr_a0_0.down hw) (Sep.sub hw))) ?_
           rintro _ _ ⟨_, ⟨rfl, rfl⟩, rfl⟩
           refine F.qn rfl (r_assign rfl) (F.nil (Nrm.seq ?_))
           obtain ⟨t126, h126, hE_9⟩ := bind_some hE_9
           obtain ⟨t132, h132, hE_9⟩ := bind_some hE_9
           obtain ⟨t136, h136, hE_9⟩ := bind_some hE_9
           refine Tri.drawA mixedT Sep.up [(0, true), (1, true), (2, true), (3, true), (4, true), (5, true), (6, true), (7, true), (8, true), (9, true), (10, true), (11, true), (12, true), (13, true), (14, true), (15, true), (16, true)] [17] (by kernel_rfl) ?_
           refine S.qn rfl (r_fieldAddr tf27_1 rfl) (S.qn rfl (r_load ta24 rfl (fun w hw => cell_1 (box_cells (i := 1) rfl w hw) rfl)) ?_)
           refine S.qn rfl (r_move rfl) (S.qn rfl (r_fieldAddr tf27_1 rfl) (S.qn rfl (r_load ta24 rfl (fun w hw => cell_1 (box_cells (i := 1) rfl w hw) rfl)) (S.qn rfl (r_move rfl) (S.qn rfl (r_indexAddrS Try.underlying24 ti121 rfl hl_wq5_1_1r rfl (rdl_some h126).1 (rdl_some h126).2.1) (S.qn rfl (r_indexAddrA Try.underlying121 ti3 rfl rfl (by decide) (by decide)) ?_)))))
           refine S.qn rfl (r_load ta3 rfl (fun w hw => cell_1 (Rd.flat ((rd_sl (i := 3) rfl) w hw) (rdl_some h126).2.2) rfl)) (S.qn rfl (r_fieldAddr tf27_1 rfl) (S.qn rfl (r_load ta24 rfl (fun w hw => cell_1 (box_cells (i := 1) rfl w hw) rfl)) (S.qn rfl (r_move rfl) (S.qn rfl (r_indexAddrS Try.underlying24 ti121 rfl hl_wq5_1_1r rfl (rdl_some h132).1 (rdl_some h132).2.1) (S.qn rfl (r_indexAddrA Try.underlying121 ti3 rfl rfl (by decide) (by decide)) ?_)))))
           refine S.qn rfl (r_load ta3 rfl (fun w hw => cell_1 (Rd.flat ((rd_sl (i := 3) rfl) w hw) (rdl_some h132).2.2) rfl)) (S.qn rfl (r_buildA (qs := [(0, [.int .i64 t126.2.1]), (1, [.int .i64 t132.1]), (2, [.int .i64 0])]) (cs := [.int .i64 t126.2.1, .int .i64 t132.1, .int .i64 0]) Try.underlying121 ti3 ti121 rfl (.cons rfl rfl (Nat.le_of_ble_eq_true rfl) (.cons rfl rfl (Nat.le_of_ble_eq_true rfl) (.cons rfl rfl (Nat.le_of_ble_eq_true rfl) .nil))) rfl rfl) (S.qn rfl (r_indexAddrS Try.underlying24 ti121 rfl hl_wq5_1_1r rfl (rdl_some h136).1 (rdl_some h136).2.1) (S.nil (F.ef0 rfl rfl (wanted_none rfl) (d_storeE (i := 3) (x1 := (t126.2.1, t132.1, 0)) ti121 rfl rfl rfl (rdl_some h136) rfl) ?_))))
           rintro _ _ ⟨rfl, rfl⟩
           refine F.nil ?_
           cases hE_9
           refine Nrm.only [4, 5] rfl ?_
           refine Nrm.pick [0, 1, 2, 3, 4] rfl rfl ?_
           exact hj_7 _ _ ⟨wq5_1_1r, Tq5_1_1r, (len_set hl_wq5_1_1r), rfl, rfl⟩
          ·replace hE_9 := if_ff g_9 hE_9
           refine Tri.skip ?_
           cases hE_9
           refine Nrm.only [4, 5] rfl ?_
           refine Nrm.pick [0, 1, 2, 3, 4] rfl rfl ?_
           exact hj_7 _ _ ⟨wq5_1_1r, Tq5_1_1r, hl_wq5_1_1r, rfl, rfl⟩
        ·replace h := if_ff g_8 h
         refine Tri.seq (Tri.reg (l := [0, 1]) rfl ?_)
         refine F.qn rfl (r_eql rfl rfl) (F.qn rfl (r_assign rfl) (F.nil (Nrm.seq (Tri.cond (b := t99_1 == 2) rfl (fun g_10 => ?_) (fun g_10 => ?_)))))
         ·replace h := if_tt g_10 h
          refine Tri.seq (Tri.reg (l := [0, 1, 2, 3]) rfl ?_)
          refine F.qn rfl (r_fieldAddr tf27_2 rfl) (F.qn rfl (r_load ta25 rfl (fun w hw => cell_1 (box_cells (i := 1) rfl w hw) rfl)) (F.qn rfl (r_len Try.underlying25 rfl hl_wq5_1_2) (F.qn rfl (r_gtr rfl rfl) (F.nil (Nrm.seq ?_)))))
          obtain ⟨⟨ypa0_1rrrr, ypa0_2rrrr, yb5_1_2⟩, hE_10, h⟩ := bind_some h
          refine Tri.cut (fun e' C' => ∃ (vb5_1_2_1 : Value) (Sb5_1_2_1 : Nat → Prop), SlLen vb5_1_2_1 (yb5_1_2).length ∧ e' = [(4, .pointer (some ⟨b4_1, 0, none⟩)), (5, .pointer (some ⟨b5_1, 0, none⟩))] ∧ C' = Sep w (footM [R.box pa0 100 [va0_0, .int .i64 a0_1, .int .u64 a0_2]]) [R.box pa0 100 [va0_0, .int .i64 ypa0_1rrrr, .int .u64 ypa0_2rrrr], R.box b5_1 27 [.int .i64 a1, wq5_1_1r, vb5_1_2_1], R.box b4_1 27 [.int .i64 0, .slice none 0 0, .slice none 0 0], R.sl Sb5_1_2_1 vb5_1_2_1 (yb5_1_2 : List (Int)), R.sl Tq5_1_1r wq5_1_1r (xq5_1_1r : List (Int × Int × Int))]) ?_ (fun hj_8 => ?_)
          ·rintro _ _ ⟨vb5_1_2_1, Sb5_1_2_1, hl_vb5_1_2_1, rfl, rfl⟩
           refine Nrm.block ?_
           refine Nrm.seq (Tri.seq (Tri.reg (l := [0, 1]) rfl ?_))
           refine F.qn rfl (r_loadA ta27 ti27 rfl rfl (fun w hw => (box_cells (i := 1) rfl w hw))) ?_
           refine F.ef0 rfl rfl (wanted_none rfl) (d_storeG0 (i := 2) (cs2 := [.int .i64 a1, wq5_1_1r, vb5_1_2_1]) ti27 rfl rfl rfl rfl rfl (Nat.le_of_ble_eq_true rfl) (lf_cons rfl (lf_cons (sl_leaf hl_wq5_1_1r) (lf_cons (sl_leaf hl_vb5_1_2_1) lf_nil)))) ?_
           rintro _ _ ⟨rfl, rfl⟩
           refine F.nil (Nrm.seq (Tri.ret ?_))
           cases h
           exact Rtn.body (.cell rfl ta27 ti27 rfl (fun _ hw => box_cells (i := 2) rfl _ hw) .nil) (fun w hw => ⟨_, _, rfl, ⟨wq5_1_1r, Tq5_1_1r, vb5_1_2_1, Sb5_1_2_1, rfl, hl_wq5_1_1r, hl_vb5_1_2_1, rfl⟩, Sep.pick (is := [4, 3, 0]) rfl rfl hw⟩)
          ·refine Tri.cond (b := decide ((xq5_1_2.length : Int) > 0)) rfl (fun g_11 => ?_) (fun g_11 => ?_)
           ·replace hE_10 := if_tt g_11 hE_10
            obtain ⟨⟨ypa0_1rrrr, ypa0_2rrrr, yb5_1_2⟩, hE_11, hE_10⟩ := bind_some hE_10
            refine Tri.cut (fun e' C' => ∃ (vb5_1_2_2 : Value) (Sb5_1_2_2 : Nat → Prop), SlLen vb5_1_2_2 (yb5_1_2).length ∧ e' = [(4, .pointer (some ⟨b4_1, 0, none⟩)), (5, .pointer (some ⟨b5_1, 0, none⟩))] ∧ C' = Sep w (footM [R.box pa0 100 [va0_0, .int .i64 a0_1, .int .u64 a0_2]]) [R.box pa0 100 [va0_0, .int .i64 ypa0_1rrrr, .int .u64 ypa0_2rrrr], R.box b5_1 27 [.int .i64 a1, wq5_1_1r, vb5_1_2_2], R.box b4_1 27 [.int .i64 0, .slice none 0 0, .slice none 0 0], R.sl Sb5_1_2_2 vb5_1_2_2 (yb5_1_2 : List (Int)), R.sl Tq5_1_1r wq5_1_1r (xq5_1_1r : List (Int × Int × Int))]) ?_ (fun hj_9 => ?_)
            ·rintro _ _ ⟨vb5_1_2_2, Sb5_1_2_2, hl_vb5_1_2_2, rfl, rfl⟩
             cases hE_10
             refine Nrm.only [4, 5] rfl ?_
             refine Nrm.pick [0, 1, 2, 3, 4] rfl rfl ?_
             exact hj_8 _ _ ⟨vb5_1_2_2, Sb5_1_2_2, hl_vb5_1_2_2, rfl, rfl⟩
            ·obtain ⟨⟨t149_1, t149_2, t149_3⟩, h149, hE_11⟩ := bind_some hE_11
             obtain ⟨⟨t152_1, t152_2, t152_3⟩, h152, hE_11⟩ := bind_some hE_11
             obtain ⟨t153, h153, hE_11⟩ := bind_some hE_11
             refine Tri.drawTK (B := Sep w (footM [R.box pa0 100 [va0_0, .int .i64 a0_1, .int .u64 a0_2]]) [R.box b5_1 27 [.int .i64 a1, wq5_1_1r, wq5_1_2], R.box b4_1 27 [.int .i64 0, .slice none 0 0, .slice none 0 0], R.sl Tq5_1_1r wq5_1_1r (xq5_1_1r : List (Int × Int × Int)), R.sl Tq5_1_2 wq5_1_2 (xq5_1_2 : List (Int))]) mixedT Sep.up [0, 1, 2, 3, 4, 5, 7, 6, 8, 9] [10, 11] (.q 0 (.q 1 (.q 2 (.q 3 (.q 4 (.q 5 (.q 7 (.alt 6 (.alt 8 (.alt 9 .nil .stop) .stop) (.alt 8 (.alt 6 (.alt 9 .nil .stop) .stop) .stop))))))))) (by kernel_rfl) ?_
             refine TK.q [1, 2, 3, 4] rfl rfl rfl rfl rfl (wanted_none rfl) (r_fieldAddr tf27_2 rfl) ?_
             refine TK.q [1, 2, 3, 4] rfl rfl rfl rfl rfl (wanted_none rfl) (r_load ta25 rfl (fun w hw => cell_1 (box_cells (i := 0) rfl w hw) rfl)) ?_
             refine TK.q [1, 2, 3, 4] rfl rfl rfl rfl rfl (wanted_none rfl) (r_move rfl) ?_
             refine TK.q [1, 2, 3, 4] rfl rfl rfl rfl rfl (wanted_none rfl) (r_fieldAddr tf27_2 rfl) ?_
             refine TK.q [1, 2, 3, 4] rfl rfl rfl rfl rfl (wanted_none rfl) (r_load ta25 rfl (fun w hw => cell_1 (box_cells (i := 0) rfl w hw) rfl)) ?_
             refine TK.q [1, 2, 3, 4] rfl rfl rfl rfl rfl (wanted_none rfl) (r_len Try.underlying25 rfl hl_wq5_1_2) ?_
             refine TK.q [1, 2, 3, 4] rfl rfl rfl rfl rfl (wanted_none rfl) (r_move rfl) ?_
             refine T.ef rfl rfl rfl (wanted_none rfl) (d_callM (xs := _) (cs := [R.box pa0 100 [va0_0, .int .i64 t99_2, .int .u64 t99_3]]) (rest := [R.box b5_1 27 [.int .i64 a1, wq5_1_1r, wq5_1_2], R.box b4_1 27 [.int .i64 0, .slice none 0 0, .slice none 0 0], R.sl Tq5_1_1r wq5_1_1r (xq5_1_1r : List (Int × Int × Int)), R.sl Tq5_1_2 wq5_1_2 (xq5_1_2 : List (Int))]) [0] [1, 2, 3, 4] rfl ok95 rfl rfl rfl rfl (fun w hw => spec_l1Cur_pick.ok h149 w (hr_a0_0.down hw) (Sep.sub hw))) (by rintro _ _ ⟨_, ⟨rfl, rfl⟩, rfl⟩; exact upd rfl [1, 2, 3, 4] rfl rfl) ?_ ?_
             ·rintro _ _ ⟨_, ⟨rfl, rfl⟩, rfl⟩
              refine T.ef rfl rfl rfl (wanted_none rfl) (Makes.does (m_buildF (l := ([64, (-1), 63] : List (Int))) Try.underlying25 ti3 rfl rfl rfl rfl rfl)) (by rintro v151_2 _ ⟨S151_2, hl_v151_2, rfl⟩; exact upd rfl [2, 3, 4, 5] rfl rfl) ?_ ?_
              ·rintro v151_2 _ ⟨S151_2, hl_v151_2, rfl⟩
               refine T.ef rfl rfl rfl (wanted_none rfl) (d_callM (xs := _) (cs := [R.box pa0 100 [va0_0, .int .i64 t149_2, .int .u64 t149_3]]) (rest := [R.sl S151_2 v151_2 (([64, (-1), 63] : List (Int)) : List (Int)), R.box b5_1 27 [.int .i64 a1, wq5_1_1r, wq5_1_2], R.box b4_1 27 [.int .i64 0, .slice none 0 0, .slice none 0 0], R.sl Tq5_1_1r wq5_1_1r (xq5_1_1r : List (Int × Int × Int)), R.sl Tq5_1_2 wq5_1_2 (xq5_1_2 : List (Int))]) [1] [0, 2, 3, 4, 5] rfl ok96 rfl rfl rfl rfl (fun w hw => spec_l1Cur_among.ok h152 w (hr_a0_0.down hw) (rdm_sl (i := 0) rfl hw) (Sep.sub hw))) (by rintro _ _ ⟨_, ⟨rfl, rfl⟩, rfl⟩; exact upd rfl [2, 3, 4, 5] rfl rfl) ?_ ?_
               ·rintro _ _ ⟨_, ⟨rfl, rfl⟩, rfl⟩
                refine T.nil ?_
                refine F.qn rfl (r_indexAddrS Try.underlying25 ti3 rfl hl_wq5_1_2 rfl (rdl_some h153).1 (rdl_some h153).2.1) ?_
                refine F.ef0 rfl rfl (wanted_none rfl) (d_storeE (i := 5) (x1 := t152_1) ti3 rfl rfl rfl (rdl_some h153) rfl) ?_
                rintro _ _ ⟨rfl, rfl⟩
                refine F.nil ?_
                cases hE_11
                refine Nrm.only [4, 5] rfl ?_
                refine Nrm.pick [0, 2, 3, 5, 4] rfl rfl ?_
                exact hj_9 _ _ ⟨wq5_1_2, Tq5_1_2, (len_set hl_wq5_1_2), rfl, rfl⟩
               exact T.stop
              exact T.stop
             ·refine T.ef rfl rfl rfl (wanted_none rfl) (Makes.does (m_buildF (l := ([64, (-1), 63] : List (Int))) Try.underlying25 ti3 rfl rfl rfl rfl rfl)) (by rintro v151_3 _ ⟨S151_3, hl_v151_3, rfl⟩; exact upd rfl [2, 3, 4, 5] rfl rfl) ?_ ?_
              ·rintro v151_3 _ ⟨S151_3, hl_v151_3, rfl⟩
               refine T.ef rfl rfl rfl (wanted_none rfl) (d_callM (xs := _) (cs := [R.box pa0 100 [va0_0, .int .i64 t99_2, .int .u64 t99_3]]) (rest := [R.sl S151_3 v151_3 (([64, (-1), 63] : List (Int)) : List (Int)), R.box b5_1 27 [.int .i64 a1, wq5_1_1r, wq5_1_2], R.box b4_1 27 [.int .i64 0, .slice none 0 0, .slice none 0 0], R.sl Tq5_1_1r wq5_1_1r (xq5_1_1r : List (Int × Int × Int)), R.sl Tq5_1_2 wq5_1_2 (xq5_1_2 : List (Int))]) [1] [0, 2, 3, 4, 5] rfl ok95 rfl rfl rfl rfl (fun w hw => spec_l1Cur_pick.ok h149 w (hr_a0_0.down hw) (Sep.sub hw))) (by rintro _ _ ⟨_, ⟨rfl, rfl⟩, rfl⟩; exact upd rfl [2, 3, 4, 5] rfl rfl) ?_ ?_
               ·rintro _ _ ⟨_, ⟨rfl, rfl⟩, rfl⟩
                refine T.ef rfl rfl rfl (wanted_none rfl) (d_callM (xs := _) (cs := [R.box pa0 100 [va0_0, .int .i64 t149_2, .int .u64 t149_3]]) (rest := [R.sl S151_3 v151_3 (([64, (-1), 63] : List (Int)) : List (Int)), R.box b5_1 27 [.int .i64 a1, wq5_1_1r, wq5_1_2], R.box b4_1 27 [.int .i64 0, .slice none 0 0, .slice none 0 0], R.sl Tq5_1_1r wq5_1_1r (xq5_1_1r : List (Int × Int × Int)), R.sl Tq5_1_2 wq5_1_2 (xq5_1_2 : List (Int))]) [0] [1, 2, 3, 4, 5] rfl ok96 rfl rfl rfl rfl (fun w hw => spec_l1Cur_among.ok h152 w (hr_a0_0.down hw) (rdm_sl (i := 0) rfl hw) (Sep.sub hw))) (by rintro _ _ ⟨_, ⟨rfl, rfl⟩, rfl⟩; exact upd rfl [2, 3, 4, 5] rfl rfl) ?_ ?_
                ·rintro _ _ ⟨_, ⟨rfl, rfl⟩, rfl⟩
                 refine T.nil ?_
                 refine F.qn rfl (r_indexAddrS Try.underlying25 ti3 rfl hl_wq5_1_2 rfl (rdl_some h153).1 (rdl_some h153).2.1) ?_
                 refine F.ef0 rfl rfl (wanted_none rfl) (d_storeE (i := 5) (x1 := t152_1) ti3 rfl rfl rfl (rdl_some h153) rfl) ?_
                 rintro _ _ ⟨rfl, rfl⟩
                 refine F.nil ?_
                 cases hE_11
                 refine Nrm.only [4, 5] rfl ?_
                 refine Nrm.pick [0, 2, 3, 5, 4] rfl rfl ?_
                 exact hj_9 _ _ ⟨wq5_1_2, Tq5_1_2, (len_set hl_wq5_1_2), rfl, rfl⟩
                exact T.stop
               exact T.stop
              exact T.stop
           ·replace hE_10 := if_ff g_11 hE_10
            refine Tri.skip ?_
            cases hE_10
            refine Nrm.only [4, 5] rfl ?_
            refine Nrm.pick [0, 1, 2, 4, 3] rfl rfl ?_
            exact hj_8 _ _ ⟨wq5_1_2, Tq5_1_2, hl_wq5_1_2, rfl, rfl⟩
         ·replace h := if_ff g_10 h
          refine Tri.seq (Tri.reg (l := [0, 1]) rfl ?_)
          refine F.qn rfl (r_eql rfl rfl) (F.qn rfl (r_assign rfl) (F.nil (Nrm.seq (Tri.cond (b := t99_1 == 3) rfl (fun g_12 => ?_) (fun g_12 => ?_)))))
          ·replace h := if_tt g_12 h
           refine Tri.seq (Tri.reg (l := [0, 1, 2, 3]) rfl ?_)
           refine F.qn rfl (r_fieldAddr tf27_1 rfl) (F.qn rfl (r_load ta24 rfl (fun w hw => cell_1 (box_cells (i := 1) rfl w hw) rfl)) (F.qn rfl (r_len Try.underlying24 rfl hl_wq5_1_1r) (F.qn rfl (r_gtr rfl rfl) (F.nil (Nrm.seq ?_)))))
           obtain ⟨yb5_1_1rrr, hE_12, h⟩ := bind_some h
           refine Tri.cut (fun e' C' => ∃ (vb5_1_1_4 : Value) (Sb5_1_1_4 : Nat → Prop), SlLen vb5_1_1_4 (yb5_1_1rrr).length ∧ e' = [(4, .pointer (some ⟨b4_1, 0, none⟩)), (5, .pointer (some ⟨b5_1, 0, none⟩))] ∧ C' = Sep w (footM [R.box pa0 100 [va0_0, .int .i64 a0_1, .int .u64 a0_2]]) [R.box pa0 100 [va0_0, .int .i64 t99_2, .int .u64 t99_3], R.box b5_1 27 [.int .i64 a1, vb5_1_1_4, wq5_1_2], R.box b4_1 27 [.int .i64 0, .slice none 0 0, .slice none 0 0], R.sl Sb5_1_1_4 vb5_1_1_4 (yb5_1_1rrr : List (Int × Int × Int)), R.sl Tq5_1_2 wq5_1_2 (xq5_1_2 : List (Int))]) ?_ (fun hj_10 => ?_)
           ·rintro _ _ ⟨vb5_1_1_4, Sb5_1_1_4, hl_vb5_1_1_4, rfl, rfl⟩
            refine Nrm.block ?_
            refine Nrm.seq (Tri.seq (Tri.reg (l := [0, 1]) rfl ?_))
            refine F.qn rfl (r_loadA ta27 ti27 rfl rfl (fun w hw => (box_cells (i := 1) rfl w hw))) ?_
            refine F.ef0 rfl rfl (wanted_none rfl) (d_storeG0 (i := 2) (cs2 := [.int .i64 a1, vb5_1_1_4, wq5_1_2]) ti27 rfl rfl rfl rfl rfl (Nat.le_of_ble_eq_true rfl) (lf_cons rfl (lf_cons (sl_leaf hl_vb5_1_1_4) (lf_cons (sl_leaf hl_wq5_1_2) lf_nil)))) ?_
            rintro _ _ ⟨rfl, rfl⟩
            refine F.nil (Nrm.seq (Tri.ret ?_))
            cases h
            exact Rtn.body (.cell rfl ta27 ti27 rfl (fun _ hw => box_cells (i := 2) rfl _ hw) .nil) (fun w hw => ⟨_, _, rfl, ⟨vb5_1_1_4, Sb5_1_1_4, wq5_1_2, Tq5_1_2, rfl, hl_vb5_1_1_4, hl_wq5_1_2, rfl⟩, Sep.pick (is := [3, 4, 0]) rfl rfl hw⟩)
           ·refine Tri.cond (b := decide ((xq5_1_1r.length : Int) > 0)) rfl (fun g_13 => ?_) (fun g_13 => ?_)
            ·replace hE_12 := if_tt g_13 hE_12
             obtain ⟨t164, h164, hE_12⟩ := bind_some hE_12
             obtain ⟨hs167, hE_12⟩ := ck hE_12
             refine Tri.drawA mixedT Sep.up [(0, true), (1, true), (2, true), (3, true), (4, true), (5, true), (6, false)] [7, 8, 9] (by kernel_rfl) ?_
             refine S.qn rfl (r_fieldAddr tf27_1 rfl) (S.qn rfl (r_load ta24 rfl (fun w hw => cell_1 (box_cells (i := 1) rfl w hw) rfl)) (S.qn rfl (r_fieldAddr tf27_1 rfl) (S.qn rfl (r_load ta24 rfl (fun w hw => cell_1 (box_cells (i := 1) rfl w hw) rfl)) (S.qn rfl (r_indexAddrS Try.underlying24 ti121 rfl hl_wq5_1_1r rfl (rdl_some h164).1 (rdl_some h164).2.1) (S.qn rfl (r_loadA ta121 ti121 rfl rfl (fun w hw => (Rd.flat ((rd_sl (i := 3) rfl) w hw) (rdl_some h164).2.2))) ?_)))))
             refine S.m rfl rfl rfl (wanted_none rfl) (m_buildF (l := ([t164] : List (Int × Int × Int))) Try.underlying24 ti121 rfl rfl rfl rfl rfl) ?_
             rintro v166_2 _ ⟨S166_2, hl_v166_2, rfl⟩
             refine S.nil (F.efn rfl (d_append (i := 4) Try.underlying24 Try.underlying24 ti121 rfl (by decide) rfl rfl rfl (rd_sl (i := 0) rfl) hs167) ?_)
             rintro v167_2 _ ⟨S167_2, rfl, hl_v167_2⟩
             refine F.qn rfl (r_fieldAddr tf27_1 rfl) ?_
             refine F.ef0 rfl rfl (wanted_none rfl) (d_storeG1 (i := 2) (cs2 := [v167_2]) ti24 rfl rfl rfl (sl_cells hl_v167_2) rfl (Nat.le_of_ble_eq_true rfl) (lf_cons (sl_leaf hl_v167_2) lf_nil)) ?_
             rintro _ _ ⟨rfl, rfl⟩
             refine F.nil ?_
             cases hE_12
             refine Nrm.only [4, 5] rfl ?_
             refine Nrm.pick [1, 2, 3, 4, 5] rfl rfl ?_
             exact hj_10 _ _ ⟨v167_2, S167_2, hl_v167_2, rfl, rfl⟩
            ·replace hE_12 := if_ff g_13 hE_12
             refine Tri.skip ?_
             cases hE_12
             refine Nrm.only [4, 5] rfl ?_
             refine Nrm.pick [0, 1, 2, 3, 4] rfl rfl ?_
             exact hj_10 _ _ ⟨wq5_1_1r, Tq5_1_1r, hl_wq5_1_1r, rfl, rfl⟩
          ·replace h := if_ff g_12 h
           refine Tri.seq (Tri.reg (l := [0, 1]) rfl ?_)
           refine F.qn rfl (r_eql rfl rfl) (F.qn rfl (r_assign rfl) (F.nil (Nrm.seq (Tri.cond (b := t99_1 == 4) rfl (fun g_14 => ?_) (fun g_14 => ?_)))))
           ·replace h := if_tt g_14 h
            refine Tri.seq (Tri.reg (l := [0, 1]) rfl ?_)
            refine F.qn rfl (r_build (pl := [(0, 1), (1, 1), (2, 1)]) (qs := []) (cs := [.int .i64 0, .slice none 0 0, .slice none 0 0]) (by kernel_rfl) ti27 rfl .nil rfl rfl) ?_
            refine F.ef0 rfl rfl (wanted_none rfl) (d_storeG0 (i := 2) (cs2 := [.int .i64 0, .slice none 0 0, .slice none 0 0]) ti27 rfl rfl rfl rfl rfl (Nat.le_of_ble_eq_true rfl) (lf_cons rfl (lf_cons rfl (lf_cons rfl lf_nil)))) ?_
            rintro _ _ ⟨rfl, rfl⟩
            refine F.nil (Nrm.seq (Tri.ret ?_))
            refine Rtn.block ?_
            refine Rtn.then ?_
            cases h
            exact Rtn.body (.cell rfl ta27 ti27 rfl (fun _ hw => box_cells (i := 2) rfl _ hw) .nil) (fun w hw => ⟨_, _, rfl, ⟨.slice none 0 0, fun _ => False, .slice none 0 0, fun _ => False, rfl, len_nil, len_nil, rfl⟩, Sep.pick (is := [0, 1, 2]) rfl rfl hw.pushNil.pushNil⟩)
           ·replace h := if_ff g_14 h
            refine Tri.skip (Nrm.block ?_)
            refine Nrm.seq (Tri.seq (Tri.reg (l := [0, 1]) rfl ?_))
            refine F.qn rfl (r_loadA ta27 ti27 rfl rfl (fun w hw => (box_cells (i := 1) rfl w hw))) ?_
            refine F.ef0 rfl rfl (wanted_none rfl) (d_storeG0 (i := 2) (cs2 := [.int .i64 a1, wq5_1_1r, wq5_1_2]) ti27 rfl rfl rfl rfl rfl (Nat.le_of_ble_eq_true rfl) (lf_cons rfl (lf_cons (sl_leaf hl_wq5_1_1r) (lf_cons (sl_leaf hl_wq5_1_2) lf_nil)))) ?_
            rintro _ _ ⟨rfl, rfl⟩
            refine F.nil (Nrm.seq (Tri.ret ?_))
            cases h
            exact Rtn.body (.cell rfl ta27 ti27 rfl (fun _ hw => box_cells (i := 2) rfl _ hw) .nil) (fun w hw => ⟨_, _, rfl, ⟨wq5_1_1r, Tq5_1_1r, wq5_1_2, Tq5_1_2, rfl, hl_wq5_1_1r, hl_wq5_1_2, rfl⟩, Sep.pick (is := [3, 4, 0]) rfl rfl hw⟩)
     ·rcases Bool.eq_false_or_eq_true (decide (x11 > 0)) with g70 | g70
      ·replace hE_7 := if_tt g70 hE_7
       rcases Bool.eq_false_or_eq_true (decide (a1 > 1)) with g74 | g74
       ·replace hE_7 := if_tt g74 hE_7
        refine Tri.reg (l := [0, 1, 2, 3, 4, 5, 6, 7, 8, 9]) rfl ?_
        refine F.qn rfl (r_move rfl) (F.qn rfl (r_gtr rfl rfl) (F.qn rfl (r_move rfl) (F.qg rfl g70 (r_move rfl) ?_)))
        refine F.qg rfl g70 (r_gtr rfl rfl) (F.qn rfl (r_pick rfl rfl g70) (F.qn rfl (r_move rfl) (F.qg rfl g74 (r_move rfl) (F.qg rfl g74 (r_lss rfl rfl) (F.qn rfl (r_pick rfl rfl g74) (F.nil ?_))))))
        cases hE_7
        refine Nrm.only [0, 1, 4, 5, 6, 11, 77] rfl ?_
        refine Nrm.pick [0, 1, 2, 3, 4] rfl rfl ?_
        exact hj_5 _ _ ⟨rfl, rfl⟩
       ·replace hE_7 := if_ff g74 hE_7
        refine Tri.reg (l := [0, 1, 2, 3, 4, 5, 6, 7, 8, 9]) rfl ?_
        refine F.qn rfl (r_move rfl) (F.qn rfl (r_gtr rfl rfl) (F.qn rfl (r_move rfl) (F.qg rfl g70 (r_move rfl) ?_)))
        refine F.qg rfl g70 (r_gtr rfl rfl) (F.qn rfl (r_pick rfl rfl g70) (F.qn rfl (r_move rfl) (F.skf rfl g74 (F.skf rfl g74 (F.qn rfl (r_pickf rfl rfl g74) (F.nil ?_))))))
        cases hE_7
        refine Nrm.only [0, 1, 4, 5, 6, 11, 77] rfl ?_
        refine Nrm.pick [0, 1, 2, 3, 4] rfl rfl ?_
        exact hj_5 _ _ ⟨rfl, rfl⟩
      ·replace hE_7 := if_ff g70 hE_7
       refine Tri.reg (l := [0, 1, 2, 3, 4, 5, 6, 7, 8, 9]) rfl ?_
       refine F.qn rfl (r_move rfl) (F.qn rfl (r_gtr rfl rfl) (F.qn rfl (r_move rfl) (F.skf rfl g70 ?_)))
       refine F.skf rfl g70 (F.qn rfl (r_pickf rfl rfl g70) (F.qn rfl (r_move rfl) (F.skf rfl rfl (F.skf rfl rfl (F.qn rfl (r_pickf rfl rfl rfl) (F.nil ?_))))))
       cases hE_7
       refine Nrm.only [0, 1, 4, 5, 6, 11, 77] rfl ?_
       refine Nrm.pick [0, 1, 2, 3, 4] rfl rfl ?_
       exact hj_5 _ _ ⟨rfl, rfl⟩
  ·rcases Bool.eq_false_or_eq_true (decide (x8 < a1)) with g25 | g25
   ·replace hE_2 := if_tt g25 hE_2
    refine Tri.reg (l := [0, 1, 2, 3, 4, 5, 6]) rfl ?_
    refine F.qn rfl (r_move rfl) ?_
    refine F.qn rfl (r_move rfl) (F.qn rfl (r_lss rfl rfl) (F.qn rfl (r_move rfl) (F.qg rfl g25 (r_move rfl) (F.qg rfl g25 (r_lss rfl rfl) (F.qn rfl (r_pick rfl rfl g25) (F.nil ?_))))))
    cases hE_2
    refine Nrm.only [0, 1, 4, 5, 6, 7, 8, 28] rfl ?_
    refine Nrm.pick [0, 1, 2, 4, 3] rfl rfl ?_
    exact hj_1 _ _ ⟨rfl, rfl⟩
   ·replace hE_2 := if_ff g25 hE_2
    refine Tri.reg (l := [0, 1, 2, 3, 4, 5, 6]) rfl ?_
    refine F.qn rfl (r_move rfl) ?_
    refine F.qn rfl (r_move rfl) (F.qn rfl (r_lss rfl rfl) (F.qn rfl (r_move rfl) (F.skf rfl g25 (F.skf rfl g25 (F.qn rfl (r_pickf rfl rfl g25) (F.nil ?_))))))
    cases hE_2
    refine Nrm.only [0, 1, 4, 5, 6, 7, 8, 28] rfl ?_
    refine Nrm.pick [0, 1, 2, 4, 3] rfl rfl ?_
    exact hj_1 _ _ ⟨rfl, rfl⟩


def spec_l1Cur_worlds.l1 (k : Nat) (a0_0 : List By) (t14_1 : Int) (t24_1 : Int) : Nat → (List (Int)) → Int → Int → Int → Option (Int × Int × (List (Int)))
 | 0, _, _, _, _ => none
 | n + 1, x7, x8, xpa0_1r, xpa0_2r => ((if (decide (x8 < t24_1)) = true then some (decide (x8 < 13)) else some false)).bind fun y33 => (if y33 = true then (spec_l1Cur_pick.f k a0_0 xpa0_1r xpa0_2r t14_1).bind fun (t39_1, t39_2, t39_3) => if (x7 ++ ([t39_1] : List (Int))).length < 1099511627776 then spec_l1Cur_worlds.l1 k a0_0 t14_1 t24_1 n (x7 ++ ([t39_1] : List (Int))) (w64 (x8 + 1)) t39_2 t39_3 else none else some (xpa0_1r, xpa0_2r, x7))

def spec_l1Cur_worlds.l2 (k : Nat) : Nat → (List (Int × List (Int × Int × Int) × List Int)) → (List (List Int)) → Option ((List (Int × List (Int × Int × Int) × List Int)) × (List (List Int)))
 | 0, _, _ => none
 | n + 1, xq3_1_0r, xq3_1_1r => (if (decide ((xq3_1_0r.length : Int) < 4)) = true then if ((xq3_1_0r : List (Int × List (Int × Int × Int) × List Int)) ++ ([(1, [], ([0] : List (Int)))] : List (Int × List (Int × Int × Int) × List Int))).length < 1099511627776 then if ((xq3_1_1r : List (List Int)) ++ ([([0] : List (Int))] : List (List Int))).length < 1099511627776 then spec_l1Cur_worlds.l2 k n ((xq3_1_0r : List (Int × List (Int × Int × Int) × List Int)) ++ ([(1, [], ([0] : List (Int)))] : List (Int × List (Int × Int × Int) × List Int))) ((xq3_1_1r : List (List Int)) ++ ([([0] : List (Int))] : List (List Int))) else none else none else some (xq3_1_0r, xq3_1_1r))

def spec_l1Cur_worlds.l0 (k : Nat) (a0_0 : List By) (t14_1 : Int) : Nat → Int → (List (Int × List (Int × Int × Int) × List Int)) → (List (List Int)) → Int → Int → Option (Int × Int × (List (Int × List (Int × Int × Int) × List Int)) × (List (List Int)))
 | 0, _, _, _, _, _ => none
 | n + 1, x5, xq3_1_0, xq3_1_1, xpa0_1, xpa0_2 => (if (decide (x5 < t14_1)) = true then (spec_l1Cur_among.f k a0_0 xpa0_1 xpa0_2 ([4, 5, 3, 6, 2, 1] : List (Int))).bind fun (t23_1, t23_2, t23_3) => (spec_l1Cur_someMaze.f k a0_0 t23_2 t23_3 t23_1).bind fun (t24_1, t24_2, t24_3, t24_4, t24_5) => (spec_l1Cur_worlds.l1 k a0_0 t14_1 t24_1 k ([] : List (Int)) 0 t24_4 t24_5).bind fun (xpa0_1r, xpa0_2r, x7) => if ((xq3_1_0 : List (Int × List (Int × Int × Int) × List Int)) ++ ([(t24_1, t24_2, t24_3)] : List (Int × List (Int × Int × Int) × List Int))).length < 1099511627776 then if ((xq3_1_1 : List (List Int)) ++ ([x7] : List (List Int))).length < 1099511627776 then spec_l1Cur_worlds.l0 k a0_0 t14_1 n (w64 (x5 + 1)) ((xq3_1_0 : List (Int × List (Int × Int × Int) × List Int)) ++ ([(t24_1, t24_2, t24_3)] : List (Int × List (Int × Int × Int) × List Int))) ((xq3_1_1 : List (List Int)) ++ ([x7] : List (List Int))) xpa0_1r xpa0_2r else none else none else some (xpa0_1, xpa0_2, xq3_1_0, xq3_1_1))

def spec_l1Cur_worlds.f (k : Nat) (a0_0 : List By) (a0_1 : Int) (a0_2 : Int) : Option ((List (Int × List (Int × Int × Int) × List Int)) × (List (List Int)) × Int × Int) := (spec_l1Cur_among.f k a0_0 a0_1 a0_2 ([2, 3, 2, 1, 3] : List (Int))).bind fun (t14_1, t14_2, t14_3) => (spec_l1Cur_worlds.l0 k a0_0 t14_1 k 0 ([] : List (Int × List (Int × Int × Int) × List Int)) ([] : List (List Int)) t14_2 t14_3).bind fun (xpa0_1, xpa0_2, xq3_1_0, xq3_1_1) => (spec_l1Cur_pick.f k a0_0 xpa0_1 xpa0_2 50).bind fun (t55_1, t55_2, t55_3) => (if (t55_1 == 0) = true then (slc xq3_1_1 1 (xq3_1_1.length : Int)).bind fun t60 => some (xq3_1_0, t60, t55_2, t55_3) else (if (t55_1 == 1) = true then (rdl (xq3_1_1 : List (List Int)) 0).bind fun t66 => ((if (decide ((t66.length : Int) > 0)) = true then (rdl ((xq3_1_1 : List (List Int)).set (0 : Int).toNat t66 : List (List Int)) 0).bind fun t72 => (spec_l1Cur_among.f k a0_0 t55_2 t55_3 ([(-1), t14_1, 0] : List (Int))).bind fun (t77_1, t77_2, t77_3) => (rdl t72 0).bind fun t78 => some (t77_2, t77_3, ((xq3_1_1 : List (List Int)).set (0 : Int).toNat t66 : List (List Int)).set (0 : Int).toNat (t72.set (0 : Int).toNat t77_1)) else some (t55_2, t55_3, (xq3_1_1 : List (List Int)).set (0 : Int).toNat t66))).bind fun (ypa0_1, ypa0_2, yb3_1_1) => some (xq3_1_0, yb3_1_1, ypa0_1, ypa0_2) else (if (t55_1 == 2) = true then (rdl (xq3_1_1 : List (List Int)) 0).bind fun t85 => if (t85 ++ ([0] : List (Int))).length < 1099511627776 then some (xq3_1_0, (xq3_1_1 : List (List Int)).set (0 : Int).toNat (t85 ++ ([0] : List (Int))), t55_2, t55_3) else none else (if (t55_1 == 3) = true then (spec_l1Cur_worlds.l2 k k xq3_1_0 xq3_1_1).bind fun (xq3_1_0r, xq3_1_1r) => some (xq3_1_0r, xq3_1_1r, t55_2, t55_3) else (if (t55_1 == 4) = true then some ([], [], t55_2, t55_3) else some (xq3_1_0, xq3_1_1, t55_2, t55_3))))))

theorem spec_l1Cur_worlds.ok {k : Nat}  {a0_0 : List By} {a0_1 : Int} {a0_2 : Int} {r0 : List (Int × List (Int × Int × Int) × List Int)} {r1 : List (List Int)} {r2 : Int} {r3 : Int} (h : spec_l1Cur_worlds.f k a0_0 a0_1 a0_2 = some (r0, r1, r2, r3)) (w : World) {pa0 : Nat} {va0_0 : Value} (hr_a0_0 : RdM w (footM [R.box pa0 100 [va0_0, .int .i64 a0_1, .int .u64 a0_2]]) va0_0 a0_0) (hw0 : Sep w (footM [R.box pa0 100 [va0_0, .int .i64 a0_1, .int .u64 a0_2]]) [R.box pa0 100 [va0_0, .int .i64 a0_1, .int .u64 a0_2]] w) :
  Calls Try.prog 154 ([.pointer (some ⟨pa0, 0, none⟩)] : List Value).toArray w (PostM (footM [R.box pa0 100 [va0_0, .int .i64 a0_1, .int .u64 a0_2]]) (fun u ns => ∃ (ur0 : Value) (Sr0 : Nat → Prop) (ur1 : Value) (Sr1 : Nat → Prop), u = .agg [ur0, ur1].toArray ∧ SlLen ur0 r0.length ∧ SlLen ur1 r1.length ∧ ns = [R.sl Sr0 ur0 r0, R.sl Sr1 ur1 r1, R.box pa0 100 [va0_0, .int .i64 r2, .int .u64 r3]]) w) := by
 unfold spec_l1Cur_worlds.f at h
 have hl_va0_0 := hr_a0_0.len
 refine Calls.of_tri (N := 113) Try.func154 rfl rfl rfl hw0 ?_
 refine Tri.seq (Tri.reg (l := [0]) rfl ?_)
 refine F.mn rfl (m_alloc ti85) ?_
 rintro _ _ ⟨b2_1, rfl, rfl⟩
 refine F.nil (Nrm.seq (Tri.seq ?_))
 obtain ⟨⟨t14_1, t14_2, t14_3⟩, h14, h⟩ := bind_some h
 refine Tri.reg (l := [0, 1, 2, 3, 4, 5, 6, 7, 8]) rfl ?_
 refine F.mn rfl (m_build0 (α := Int × List (Int × Int × Int) × List Int) Try.underlying82 ti27) ?_
 rintro v9_1 _ ⟨S9_1, hl_v9_1, rfl⟩
 refine F.mn rfl (m_build0 (α := List Int) Try.underlying83 ti25) ?_
 rintro v10_1 _ ⟨S10_1, hl_v10_1, rfl⟩
 refine F.qn rfl (r_build (pl := [(0, 1), (1, 1)]) (qs := [(0, [v9_1]), (1, [v10_1])]) (cs := [v9_1, v10_1]) (by kernel_rfl) ti85 rfl (.cons (sl_cells hl_v9_1) rfl (Nat.le_of_ble_eq_true rfl) (.cons (sl_cells hl_v10_1) rfl (Nat.le_of_ble_eq_true rfl) .nil)) rfl rfl) (F.qn rfl (r_move rfl) ?_)
 refine F.mn rfl (m_buildF (l := ([2, 3, 2, 1, 3] : List (Int))) Try.underlying25 ti3 rfl rfl rfl rfl rfl) ?_
 rintro v13_1 _ ⟨S13_1, hl_v13_1, rfl⟩
 refine F.efn rfl (d_callM (xs := _) (cs := [R.box pa0 100 [va0_0, .int .i64 a0_1, .int .u64 a0_2]]) (rest := [R.sl S13_1 v13_1 (([2, 3, 2, 1, 3] : List (Int)) : List (Int)), R.sl S10_1 v10_1 (([] : List (List Int)) : List (List Int)), R.sl S9_1 v9_1 (([] : List (Int × List (Int × Int × Int) × List Int)) : List (Int × List (Int × Int × Int) × List Int)), R.box b2_1 85 [.slice none 0 0, .slice none 0 0]]) [4] [0, 1, 2, 3] rfl ok96 rfl rfl rfl rfl (fun w hw => spec_l1Cur_among.ok h14 w (hr_a0_0.down hw) (rdm_sl (i := 0) rfl hw) (Sep.sub hw))) ?_
 rintro _ _ ⟨_, ⟨rfl, rfl⟩, rfl⟩
 refine F.mn rfl (m_alloc ti85) ?_
 rintro _ _ ⟨b3_1, rfl, rfl⟩
 refine F.ef0 rfl rfl (wanted_none rfl) (d_storeG0 (i := 0) (cs2 := [v9_1, v10_1]) ti85 rfl rfl rfl rfl rfl (Nat.le_of_ble_eq_true rfl) (lf_cons (sl_leaf hl_v9_1) (lf_cons (sl_leaf hl_v10_1) lf_nil))) ?_
 rintro _ _ ⟨rfl, rfl⟩
 refine F.qn rfl (r_assign rfl) (F.nil (Nrm.seq (Tri.seq (Tri.seq (Tri.reg (l := [0]) rfl ?_)))))
 refine F.qn rfl (r_assign rfl) (F.nil (Nrm.seq ?_))
 obtain ⟨⟨xpa0_1, xpa0_2, xq3_1_0, xq3_1_1⟩, hE_1, h⟩ := bind_some h
 refine Tri.block ?_
 refine Tri.only [0, 2, 3, 4, 5] rfl ?_
 refine Tri.pick [0, 1, 5, 3, 4] rfl rfl ?_
 refine Tri.rounds (fun n e' C' => ∃ (x5' : Int) (xq3_1_0' : List (Int × List (Int × Int × Int) × List Int)) (xq3_1_1' : List (List Int)) (xpa0_1' : Int) (xpa0_2' : Int) (wq3_1_0 : Value) (Tq3_1_0 : Nat → Prop) (wq3_1_1 : Value) (Tq3_1_1 : Nat → Prop), spec_l1Cur_worlds.l0 k a0_0 t14_1 n x5' xq3_1_0' xq3_1_1' xpa0_1' xpa0_2' = some (xpa0_1, xpa0_2, xq3_1_0, xq3_1_1) ∧ SlLen wq3_1_0 (xq3_1_0').length ∧ SlLen wq3_1_1 (xq3_1_1').length ∧ e' = [(0, .pointer (some ⟨pa0, 0, none⟩)), (2, .pointer (some ⟨b2_1, 0, none⟩)), (3, .pointer (some ⟨b3_1, 0, none⟩)), (4, .int .i64 t14_1), (5, .int .i64 x5')] ∧ C' = Sep w (footM [R.box pa0 100 [va0_0, .int .i64 a0_1, .int .u64 a0_2]]) [R.box b3_1 85 [wq3_1_0, wq3_1_1], R.box pa0 100 [va0_0, .int .i64 xpa0_1', .int .u64 xpa0_2'], R.box b2_1 85 [.slice none 0 0, .slice none 0 0], R.sl Tq3_1_1 wq3_1_1 (xq3_1_1' : List (List Int)), R.sl Tq3_1_0 wq3_1_0 (xq3_1_0' : List (Int × List (Int × Int × Int) × List Int))]) k ?_ ?_ ?_
 ·exact ⟨0, ([] : List (Int × List (Int × Int × Int) × List Int)), ([] : List (List Int)), t14_2, t14_3, v9_1, S9_1, v10_1, S10_1, hE_1, hl_v9_1, hl_v10_1, rfl, rfl⟩
 ·rintro _ _ ⟨_, _, _, _, _, _, _, _, _, hE_1, _⟩
  rw [spec_l1Cur_worlds.l0.eq_1] at hE_1; cases hE_1
 ·rintro n_1 _ _ ⟨x5, xq3_1_0, xq3_1_1, xpa0_1, xpa0_2, wq3_1_0, Tq3_1_0, wq3_1_1, Tq3_1_1, hE_1, hl_wq3_1_0, hl_wq3_1_1, rfl, rfl⟩ ih_1
  rw [spec_l1Cur_worlds.l0.eq_2] at hE_1
  refine Tri.seq (Tri.seq (Tri.reg (l := [0, 1, 2]) rfl ?_))
  refine F.qn rfl (r_move rfl) (F.qn rfl (r_move rfl) (F.qn rfl (r_lss rfl rfl) (F.nil (Nrm.seq (Tri.cond (b := decide (x5 < t14_1)) rfl (fun g_1 => ?_) (fun g_1 => ?_))))))
  ·replace hE_1 := if_tt g_1 hE_1
   refine Tri.skip (Nrm.seq (Tri.seq (Tri.block ?_)))
   refine Tri.seq ?_
   obtain ⟨⟨t23_1, t23_2, t23_3⟩, h23, hE_1⟩ := bind_some hE_1
   obtain ⟨⟨t24_1, t24_2, t24_3, t24_4, t24_5⟩, h24, hE_1⟩ := bind_some hE_1
   refine Tri.reg (l := [0, 1, 2, 3, 4, 5, 6]) rfl ?_
   refine F.qn rfl (r_move rfl) (F.qn rfl (r_move rfl) ?_)
   refine F.mn rfl (m_buildF (l := ([4, 5, 3, 6, 2, 1] : List (Int))) Try.underlying25 ti3 rfl rfl rfl rfl rfl) ?_
   rintro v22_1 _ ⟨S22_1, hl_v22_1, rfl⟩
   refine F.efn rfl (d_callM (xs := _) (cs := [R.box pa0 100 [va0_0, .int .i64 xpa0_1, .int .u64 xpa0_2]]) (rest := [R.sl S22_1 v22_1 (([4, 5, 3, 6, 2, 1] : List (Int)) : List (Int)), R.box b3_1 85 [wq3_1_0, wq3_1_1], R.box b2_1 85 [.slice none 0 0, .slice none 0 0], R.sl Tq3_1_1 wq3_1_1 (xq3_1_1 : List (List Int)), R.sl Tq3_1_0 wq3_1_0 (xq3_1_0 : List (Int × List (Int × Int × Int) × List Int))]) [2] [0, 1, 3, 4, 5] rfl ok96 rfl rfl rfl rfl (fun w hw => spec_l1Cur_among.ok h23 w (hr_a0_0.down hw) (rdm_sl (i := 0) rfl hw) (Sep.sub hw))) ?_
   rintro _ _ ⟨_, ⟨rfl, rfl⟩, rfl⟩
   refine F.efn rfl (d_callM (xs := _) (cs := [R.box pa0 100 [va0_0, .int .i64 t23_2, .int .u64 t23_3]]) (rest := [R.sl S22_1 v22_1 (([4, 5, 3, 6, 2, 1] : List (Int)) : List (Int)), R.box b3_1 85 [wq3_1_0, wq3_1_1], R.box b2_1 85 [.slice none 0 0, .slice none 0 0], R.sl Tq3_1_1 wq3_1_1 (xq3_1_1 : List (List Int)), R.sl Tq3_1_0 wq3_1_0 (xq3_1_0 : List (Int × List (Int × Int × Int) × List Int))]) [0] [1, 2, 3, 4, 5] rfl ok162 rfl rfl rfl rfl (fun w hw => spec_l1Cur_someMaze.ok h24 w (hr_a0_0.down hw) (Sep.sub hw))) ?_
   rintro _ _ ⟨_, ⟨v24_1, S24_1, v24_2, S24_2, rfl, hl_v24_1, hl_v24_2, rfl⟩, rfl⟩
   refine F.mn rfl (m_alloc ti27) ?_
   rintro _ _ ⟨b6_1, rfl, rfl⟩
   refine F.ef0 rfl rfl (wanted_none rfl) (d_storeG0 (i := 0) (cs2 := [.int .i64 t24_1, v24_1, v24_2]) ti27 rfl rfl rfl rfl rfl (Nat.le_of_ble_eq_true rfl) (lf_cons rfl (lf_cons (sl_leaf hl_v24_1) (lf_cons (sl_leaf hl_v24_2) lf_nil)))) ?_
   rintro _ _ ⟨rfl, rfl⟩
   refine F.nil (Nrm.seq (Tri.seq (Tri.reg (l := [0, 1]) rfl ?_)))
   refine F.mn rfl (m_build0 (α := Int) Try.underlying25 ti3) ?_
   rintro v25_1 _ ⟨S25_1, hl_v25_1, rfl⟩
   refine F.qn rfl (r_assign rfl) (F.nil (Nrm.seq (Tri.seq (Tri.seq (Tri.reg (l := [0]) rfl ?_)))))
   refine F.qn rfl (r_assign rfl) (F.nil (Nrm.seq ?_))
   obtain ⟨⟨xpa0_1r, xpa0_2r, x7⟩, hE_2, hE_1⟩ := bind_some hE_1
   refine Tri.block ?_
   refine Tri.only [0, 2, 3, 4, 5, 6, 7, 8] rfl ?_
   refine Tri.pick [1, 4, 6, 7, 0, 2, 3, 8, 9] rfl rfl ?_
   refine Tri.rounds (fun n e' C' => ∃ (x7' : List (Int)) (x8' : Int) (xpa0_1r' : Int) (xpa0_2r' : Int) (w7 : Value) (T7 : Nat → Prop), spec_l1Cur_worlds.l1 k a0_0 t14_1 t24_1 n x7' x8' xpa0_1r' xpa0_2r' = some (xpa0_1r, xpa0_2r, x7) ∧ SlLen w7 (x7').length ∧ e' = [(0, .pointer (some ⟨pa0, 0, none⟩)), (2, .pointer (some ⟨b2_1, 0, none⟩)), (3, .pointer (some ⟨b3_1, 0, none⟩)), (4, .int .i64 t14_1), (5, .int .i64 x5), (6, .pointer (some ⟨b6_1, 0, none⟩)), (7, w7), (8, .int .i64 x8')] ∧ C' = Sep w (footM [R.box pa0 100 [va0_0, .int .i64 a0_1, .int .u64 a0_2]]) [R.box b6_1 27 [.int .i64 t24_1, v24_1, v24_2], R.box pa0 100 [va0_0, .int .i64 xpa0_1r', .int .u64 xpa0_2r'], R.box b3_1 85 [wq3_1_0, wq3_1_1], R.box b2_1 85 [.slice none 0 0, .slice none 0 0], R.sl T7 w7 (x7' : List (Int)), R.sl S24_1 v24_1 (t24_2 : List (Int × Int × Int)), R.sl S24_2 v24_2 (t24_3 : List (Int)), R.sl Tq3_1_1 wq3_1_1 (xq3_1_1 : List (List Int)), R.sl Tq3_1_0 wq3_1_0 (xq3_1_0 : List (Int × List (Int × Int × Int) × List Int))]) k ?_ ?_ ?_
   ·exact ⟨([] : List (Int)), 0, t24_4, t24_5, v25_1, S25_1, hE_2, hl_v25_1, rfl, rfl⟩
   ·rintro _ _ ⟨_, _, _, _, _, _, hE_2, _⟩
    rw [spec_l1Cur_worlds.l1.eq_1] at hE_2; cases hE_2
   ·rintro n_2 _ _ ⟨x7, x8, xpa0_1r, xpa0_2r, w7, T7, hE_2, hl_w7, rfl, rfl⟩ ih_2
    rw [spec_l1Cur_worlds.l1.eq_2] at hE_2
    refine Tri.seq (Tri.seq ?_)
    obtain ⟨y33, hE_3, hE_2⟩ := bind_some hE_2
    refine Tri.cut (fun e' C' => e' = [(0, .pointer (some ⟨pa0, 0, none⟩)), (2, .pointer (some ⟨b2_1, 0, none⟩)), (3, .pointer (some ⟨b3_1, 0, none⟩)), (4, .int .i64 t14_1), (5, .int .i64 x5), (6, .pointer (some ⟨b6_1, 0, none⟩)), (7, w7), (8, .int .i64 x8), (33, .bool y33)] ∧ C' = Sep w (footM [R.box pa0 100 [va0_0, .int .i64 a0_1, .int .u64 a0_2]]) [R.box b6_1 27 [.int .i64 t24_1, v24_1, v24_2], R.box pa0 100 [va0_0, .int .i64 xpa0_1r, .int .u64 xpa0_2r], R.box b3_1 85 [wq3_1_0, wq3_1_1], R.box b2_1 85 [.slice none 0 0, .slice none 0 0], R.sl S24_1 v24_1 (t24_2 : List (Int × Int × Int)), R.sl S24_2 v24_2 (t24_3 : List (Int)), R.sl T7 w7 (x7 : List (Int)), R.sl Tq3_1_0 wq3_1_0 (xq3_1_0 : List (Int × List (Int × Int × Int) × List Int)), R.sl Tq3_1_1 wq3_1_1 (xq3_1_1 : List (List Int))]) ?_ (fun hj_1 => ?_)
    ·rintro _ _ ⟨rfl, rfl⟩
     refine Nrm.seq (Tri.cond (b := y33) rfl (fun g_2 => ?_) (fun g_2 => ?_))
     ·replace hE_2 := if_tt g_2 hE_2
      refine Tri.skip (Nrm.seq (Tri.seq (Tri.block ?_)))
      obtain ⟨⟨t39_1, t39_2, t39_3⟩, h39, hE_2⟩ := bind_some hE_2
      obtain ⟨hs41, hE_2⟩ := ck hE_2
      refine Tri.reg (l := [0, 1, 2, 3, 4, 5, 6]) rfl ?_
      iterate 3 refine F.qn rfl (r_move rfl) ?_
      refine F.efn rfl (d_callM (xs := _) (cs := [R.box pa0 100 [va0_0, .int .i64 xpa0_1r, .int .u64 xpa0_2r]]) (rest := [R.box b6_1 27 [.int .i64 t24_1, v24_1, v24_2], R.box b3_1 85 [wq3_1_0, wq3_1_1], R.box b2_1 85 [.slice none 0 0, .slice none 0 0], R.sl S24_1 v24_1 (t24_2 : List (Int × Int × Int)), R.sl S24_2 v24_2 (t24_3 : List (Int)), R.sl T7 w7 (x7 : List (Int)), R.sl Tq3_1_0 wq3_1_0 (xq3_1_0 : List (Int × List (Int × Int × Int) × List Int)), R.sl Tq3_1_1 wq3_1_1 (xq3_1_1 : List (List Int))]) [1] [0, 2, 3, 4, 5, 6, 7, 8] rfl ok95 rfl rfl rfl rfl (fun w hw => spec_l1Cur_pick.ok h39 w (hr_a0_0.down hw) (Sep.sub hw))) ?_
      rintro _ _ ⟨_, ⟨rfl, rfl⟩, rfl⟩
      refine F.mn rfl (m_buildF (l := ([t39_1] : List (Int))) Try.underlying25 ti3 rfl rfl rfl rfl rfl) ?_
      rintro v40_1 _ ⟨S40_1, hl_v40_1, rfl⟩
      refine F.efn rfl (d_append (i := 7) Try.underlying25 Try.underlying25 ti3 rfl (by decide) rfl rfl rfl (rd_sl (i := 0) rfl) hs41) ?_
      rintro v41_1 _ ⟨S41_1, rfl, hl_v41_1⟩
      refine F.qn rfl (r_assign rfl) (F.nil (Nrm.block ?_))
      refine Nrm.seq (Tri.reg (l := [0, 1, 2]) rfl ?_)
      refine F.qn rfl (r_move rfl) (F.qn rfl (r_add rfl rfl) (F.qn rfl (r_assign rfl) (F.nil (Nrm.round ?_))))
      refine Rnd.only [0, 2, 3, 4, 5, 6, 7, 8] rfl ?_
      refine Rnd.pick [2, 1, 3, 4, 7, 5, 6, 9, 8] rfl rfl ?_
      exact ih_2 _ _ ⟨x7 ++ ([t39_1] : List (Int)), w64 (x8 + 1), t39_2, t39_3, v41_1, S41_1, hE_2, hl_v41_1, rfl, rfl⟩
     ·replace hE_2 := if_ff g_2 hE_2
      refine Tri.exit ?_
      refine Exi.then ?_
      refine Exi.then ?_
      refine Exi.same ?_
      cases hE_2
      refine Nrm.seq (Tri.seq ?_)
      obtain ⟨hs46, hE_1⟩ := ck hE_1
      refine Tri.reg (l := [0, 1, 2, 3, 4, 5, 6]) rfl ?_
      refine F.qn rfl (r_fieldAddr tf85_0 rfl) (F.qn rfl (r_load ta82 rfl (fun w hw => cell_1 (box_cells (i := 2) rfl w hw) rfl)) (F.qn rfl (r_loadA ta27 ti27 rfl rfl (fun w hw => (box_cells (i := 0) rfl w hw))) ?_))
      refine F.efn rfl (d_build1 (cells := [.int .i64 t24_1, v24_1, v24_2]) (x0 := ((t24_1, t24_2, t24_3) : Int × List (Int × Int × Int) × List Int)) (cs := [R.sl S24_1 v24_1 (t24_2 : List (Int × Int × Int)), R.sl S24_2 v24_2 (t24_3 : List (Int))]) (rest := [R.box b6_1 27 [.int .i64 t24_1, v24_1, v24_2], R.box pa0 100 [va0_0, .int .i64 xpa0_1r, .int .u64 xpa0_2r], R.box b3_1 85 [wq3_1_0, wq3_1_1], R.box b2_1 85 [.slice none 0 0, .slice none 0 0], R.sl T7 w7 (x7 : List (Int)), R.sl Tq3_1_0 wq3_1_0 (xq3_1_0 : List (Int × List (Int × Int × Int) × List Int)), R.sl Tq3_1_1 wq3_1_1 (xq3_1_1 : List (List Int))]) [4, 5] [0, 1, 2, 3, 6, 7, 8] Try.underlying82 ti27 rfl rfl rfl (lf_cons rfl (lf_cons (sl_leaf hl_v24_1) (lf_cons (sl_leaf hl_v24_2) lf_nil))) rfl rfl (jn_pair (jn_int (n := t24_1)) (jn_pair (jn_sl (S := S24_1) (v := v24_1) (l := (t24_2 : List (Int × Int × Int)))) (jn_sl (S := S24_2) (v := v24_2) (l := (t24_3 : List (Int))))))) ?_
      rintro v45_1 _ ⟨S45_1, hl_v45_1, rfl⟩
      refine F.efn rfl (d_appendN (rest := [R.box b6_1 27 [.int .i64 t24_1, v24_1, v24_2], R.box pa0 100 [va0_0, .int .i64 xpa0_1r, .int .u64 xpa0_2r], R.box b3_1 85 [wq3_1_0, wq3_1_1], R.box b2_1 85 [.slice none 0 0, .slice none 0 0], R.sl T7 w7 (x7 : List (Int)), R.sl Tq3_1_1 wq3_1_1 (xq3_1_1 : List (List Int))]) 6 0 [1, 2, 3, 4, 5, 7] Try.underlying82 Try.underlying82 ti27 rfl (by decide) rfl rfl rfl rfl hs46) ?_
      rintro v46_1 _ ⟨S46_1, hl_v46_1, rfl⟩
      refine F.qn rfl (r_fieldAddr tf85_0 rfl) ?_
      refine F.ef0 rfl rfl (wanted_none rfl) (d_storeG1 (i := 3) (cs2 := [v46_1]) ti82 rfl rfl rfl (sl_cells hl_v46_1) rfl (Nat.le_of_ble_eq_true rfl) (lf_cons (sl_leaf hl_v46_1) lf_nil)) ?_
      rintro _ _ ⟨rfl, rfl⟩
      refine F.nil (Nrm.seq ?_)
      obtain ⟨hs52, hE_1⟩ := ck hE_1
      refine Tri.reg (l := [0, 1, 2, 3, 4, 5, 6]) rfl ?_
      refine F.qn rfl (r_fieldAddr tf85_1 rfl) (F.qn rfl (r_load ta83 rfl (fun w hw => cell_1 (box_cells (i := 3) rfl w hw) rfl)) (F.qn rfl (r_move rfl) ?_))
      refine F.efn rfl (d_build1 (cells := [w7]) (x0 := (x7 : List Int)) (cs := [R.sl T7 w7 (x7 : List (Int))]) (rest := [R.sl S46_1 v46_1 ((xq3_1_0 : List (Int × List (Int × Int × Int) × List Int)) ++ ([(t24_1, t24_2, t24_3)] : List (Int × List (Int × Int × Int) × List Int)) : List (Int × List (Int × Int × Int) × List Int)), R.box b6_1 27 [.int .i64 t24_1, v24_1, v24_2], R.box pa0 100 [va0_0, .int .i64 xpa0_1r, .int .u64 xpa0_2r], R.box b3_1 85 [v46_1, wq3_1_1], R.box b2_1 85 [.slice none 0 0, .slice none 0 0], R.sl Tq3_1_1 wq3_1_1 (xq3_1_1 : List (List Int))]) [5] [0, 1, 2, 3, 4, 6] Try.underlying83 ti25 rfl (sl_cells hl_w7) rfl (lf_cons (sl_leaf hl_w7) lf_nil) rfl rfl (jn_sl (S := T7) (v := w7) (l := (x7 : List (Int))))) ?_
      rintro v51_1 _ ⟨S51_1, hl_v51_1, rfl⟩
      refine F.efn rfl (d_appendN (rest := [R.sl S46_1 v46_1 ((xq3_1_0 : List (Int × List (Int × Int × Int) × List Int)) ++ ([(t24_1, t24_2, t24_3)] : List (Int × List (Int × Int × Int) × List Int)) : List (Int × List (Int × Int × Int) × List Int)), R.box b6_1 27 [.int .i64 t24_1, v24_1, v24_2], R.box pa0 100 [va0_0, .int .i64 xpa0_1r, .int .u64 xpa0_2r], R.box b3_1 85 [v46_1, wq3_1_1], R.box b2_1 85 [.slice none 0 0, .slice none 0 0]]) 6 0 [1, 2, 3, 4, 5] Try.underlying83 Try.underlying83 ti25 rfl (by decide) rfl rfl rfl rfl hs52) ?_
      rintro v52_1 _ ⟨S52_1, hl_v52_1, rfl⟩
      refine F.qn rfl (r_fieldAddr tf85_1 rfl) ?_
      refine F.ef0 rfl rfl (wanted_none rfl) (d_storeG1 (i := 4) (cs2 := [v52_1]) ti83 rfl rfl rfl (sl_cells hl_v52_1) rfl (Nat.le_of_ble_eq_true rfl) (lf_cons (sl_leaf hl_v52_1) lf_nil)) ?_
      rintro _ _ ⟨rfl, rfl⟩
      refine F.nil (Nrm.block ?_)
      refine Nrm.seq (Tri.reg (l := [0, 1, 2]) rfl ?_)
      refine F.qn rfl (r_move rfl) (F.qn rfl (r_add rfl rfl) (F.qn rfl (r_assign rfl) (F.nil (Nrm.round ?_))))
      refine Rnd.only [0, 2, 3, 4, 5] rfl ?_
      refine Rnd.pick [4, 3, 5, 0, 1] rfl rfl ?_
      exact ih_1 _ _ ⟨w64 (x5 + 1), (xq3_1_0 : List (Int × List (Int × Int × Int) × List Int)) ++ ([(t24_1, t24_2, t24_3)] : List (Int × List (Int × Int × Int) × List Int)), (xq3_1_1 : List (List Int)) ++ ([x7] : List (List Int)), xpa0_1r, xpa0_2r, v46_1, S46_1, v52_1, S52_1, hE_1, hl_v46_1, hl_v52_1, rfl, rfl⟩
    ·rcases Bool.eq_false_or_eq_true (decide (x8 < t24_1)) with g30 | g30
     ·replace hE_3 := if_tt g30 hE_3
      refine Tri.reg (l := [0, 1, 2, 3, 4, 5, 6, 7]) rfl ?_
      refine F.qn rfl (r_move rfl) (F.qn rfl (r_fieldAddr tf27_0 rfl) ?_)
      refine F.qn rfl (r_load ta3 rfl (fun w hw => cell_1 (box_cells (i := 0) rfl w hw) rfl)) (F.qn rfl (r_lss rfl rfl) (F.qn rfl (r_move rfl) (F.qg rfl g30 (r_move rfl) (F.qg rfl g30 (r_lss rfl rfl) (F.qn rfl (r_pick rfl rfl g30) (F.nil ?_))))))
      cases hE_3
      refine Nrm.only [0, 2, 3, 4, 5, 6, 7, 8, 33] rfl ?_
      refine Nrm.pick [0, 1, 2, 3, 5, 6, 4, 8, 7] rfl rfl ?_
      exact hj_1 _ _ ⟨rfl, rfl⟩
     ·replace hE_3 := if_ff g30 hE_3
      refine Tri.reg (l := [0, 1, 2, 3, 4, 5, 6, 7]) rfl ?_
      refine F.qn rfl (r_move rfl) (F.qn rfl (r_fieldAddr tf27_0 rfl) ?_)
      refine F.qn rfl (r_load ta3 rfl (fun w hw => cell_1 (box_cells (i := 0) rfl w hw) rfl)) (F.qn rfl (r_lss rfl rfl) (F.qn rfl (r_move rfl) (F.skf rfl g30 (F.skf rfl g30 (F.qn rfl (r_pickf rfl rfl g30) (F.nil ?_))))))
      cases hE_3
      refine Nrm.only [0, 2, 3, 4, 5, 6, 7, 8, 33] rfl ?_
      refine Nrm.pick [0, 1, 2, 3, 5, 6, 4, 8, 7] rfl rfl ?_
      exact hj_1 _ _ ⟨rfl, rfl⟩
  ·replace hE_1 := if_ff g_1 hE_1
   refine Tri.exit ?_
   refine Exi.then ?_
   refine Exi.then ?_
   refine Exi.same ?_
   cases hE_1
   refine Nrm.seq (Tri.seq (Tri.seq ?_))
   obtain ⟨⟨t55_1, t55_2, t55_3⟩, h55, h⟩ := bind_some h
   refine Tri.reg (l := [0, 1]) rfl ?_
   refine F.qn rfl (r_move rfl) ?_
   refine F.efn rfl (d_callM (xs := _) (cs := [R.box pa0 100 [va0_0, .int .i64 xpa0_1, .int .u64 xpa0_2]]) (rest := [R.box b3_1 85 [wq3_1_0, wq3_1_1], R.box b2_1 85 [.slice none 0 0, .slice none 0 0], R.sl Tq3_1_1 wq3_1_1 (xq3_1_1 : List (List Int)), R.sl Tq3_1_0 wq3_1_0 (xq3_1_0 : List (Int × List (Int × Int × Int) × List Int))]) [1] [0, 2, 3, 4] rfl ok95 rfl rfl rfl rfl (fun w hw => spec_l1Cur_pick.ok h55 w (hr_a0_0.down hw) (Sep.sub hw))) ?_
   rintro _ _ ⟨_, ⟨rfl, rfl⟩, rfl⟩
   refine F.nil (Nrm.seq (Tri.block ?_))
   refine Tri.seq (Tri.reg (l := [0, 1]) rfl ?_)
   refine F.qn rfl (r_eql rfl rfl) (F.qn rfl (r_assign rfl) (F.nil (Nrm.seq (Tri.cond (b := t55_1 == 0) rfl (fun g_3 => ?_) (fun g_3 => ?_)))))
   ·replace h := if_tt g_3 h
    obtain ⟨t60, h60, h⟩ := bind_some h
    refine Tri.reg (l := [0, 1, 2, 3, 4]) rfl ?_
    refine F.qn rfl (r_fieldAddr tf85_1 rfl) (F.qn rfl (r_load ta83 rfl (fun w hw => cell_1 (box_cells (i := 1) rfl w hw) rfl)) (F.qn rfl (r_sliceL Try.underlying83 ti25 rfl (rd_sl (i := 3) rfl) rfl h60) (F.qn rfl (r_fieldAddr tf85_1 rfl) ?_)))
    refine F.ef0 rfl rfl (wanted_none rfl) (d_storeG1 (i := 1) (cs2 := [(slSub wq3_1_1 1 (1 : Int).toNat (xq3_1_1.length : Int).toNat)]) ti83 rfl rfl rfl (sl_cells (slc_len hl_wq3_1_1 h60)) rfl (Nat.le_of_ble_eq_true rfl) (lf_cons (sl_leaf (slc_len hl_wq3_1_1 h60)) lf_nil)) ?_
    rintro _ _ ⟨rfl, rfl⟩
    refine F.nil (Nrm.imp (fun w hw => Sep.resl (i := 3) rfl h60 hw) ?_)
    refine Nrm.block ?_
    refine Nrm.seq (Tri.seq (Tri.reg (l := [0, 1]) rfl ?_))
    refine F.qn rfl (r_loadA ta85 ti85 rfl rfl (fun w hw => (box_cells (i := 1) rfl w hw))) ?_
    refine F.ef0 rfl rfl (wanted_none rfl) (d_storeG0 (i := 2) (cs2 := [wq3_1_0, (slSub wq3_1_1 1 (1 : Int).toNat (xq3_1_1.length : Int).toNat)]) ti85 rfl rfl rfl rfl rfl (Nat.le_of_ble_eq_true rfl) (lf_cons (sl_leaf hl_wq3_1_0) (lf_cons (sl_leaf (slc_len hl_wq3_1_1 h60)) lf_nil))) ?_
    rintro _ _ ⟨rfl, rfl⟩
    refine F.nil (Nrm.seq (Tri.ret ?_))
    cases h
    exact Rtn.body (.cell rfl ta85 ti85 rfl (fun _ hw => box_cells (i := 2) rfl _ hw) .nil) (fun w hw => ⟨_, _, rfl, ⟨wq3_1_0, Tq3_1_0, (slSub wq3_1_1 1 (1 : Int).toNat (xq3_1_1.length : Int).toNat), Tq3_1_1, rfl, hl_wq3_1_0, (slc_len hl_wq3_1_1 h60), rfl⟩, Sep.pick (is := [4, 3, 0]) rfl rfl hw⟩)
   ·replace h := if_ff g_3 h
    refine Tri.seq (Tri.reg (l := [0, 1]) rfl ?_)
    refine F.qn rfl (r_eql rfl rfl) (F.qn rfl (r_assign rfl) (F.nil (Nrm.seq (Tri.cond (b := t55_1 == 1) rfl (fun g_4 => ?_) (fun g_4 => ?_)))))
    ·replace h := if_tt g_4 h
     refine Tri.seq ?_
     obtain ⟨t66, h66, h⟩ := bind_some h
     refine Tri.ex (on25 [3] [0, 1, 2, 4] rfl rfl (rdl_some h66).2.2) ?_
     rintro _ ⟨v66_0_1, S66_0_1, Sr66_1, hl_v66_0_1, hS66_1, rfl⟩
     refine Tri.reg (l := [0, 1, 2, 3, 4, 5]) rfl ?_
     refine F.qn rfl (r_fieldAddr tf85_1 rfl) (F.qn rfl (r_load ta83 rfl (fun w hw => cell_1 (box_cells (i := 3) rfl w hw) rfl)) ?_)
     refine F.qn rfl (r_indexAddrS Try.underlying83 ti25 rfl hl_wq3_1_1 rfl (rdl_some h66).1 (rdl_some h66).2.1) (F.qn rfl (r_load ta25 rfl (fun w hw => cell_0 (hole_cells (p := 1) rfl w hw) rfl)) (F.qn rfl (r_len Try.underlying25 rfl hl_v66_0_1) (F.qn rfl (r_gtr rfl rfl) (F.nil (Nrm.imp (cloS1 (cs := [R.sl S66_0_1 v66_0_1 (t66 : List (Int))]) (rest := [R.box pa0 100 [va0_0, .int .i64 t55_2, .int .u64 t55_3], R.box b3_1 85 [wq3_1_0, wq3_1_1], R.box b2_1 85 [.slice none 0 0, .slice none 0 0], R.sl Tq3_1_0 wq3_1_0 (xq3_1_0 : List (Int × List (Int × Int × Int) × List Int))]) [0, 1] [2, 3, 4, 5] rfl rfl (jn_sl (S := S66_0_1) (v := v66_0_1) (l := (t66 : List (Int)))) hS66_1) ?_)))))
     refine Nrm.seq ?_
     obtain ⟨⟨ypa0_1, ypa0_2, yb3_1_1⟩, hE_4, h⟩ := bind_some h
     refine Tri.cut (fun e' C' => ∃ (vb3_1_1_1 : Value) (Sb3_1_1_1 : Nat → Prop), SlLen vb3_1_1_1 (yb3_1_1).length ∧ e' = [(2, .pointer (some ⟨b2_1, 0, none⟩)), (3, .pointer (some ⟨b3_1, 0, none⟩))] ∧ C' = Sep w (footM [R.box pa0 100 [va0_0, .int .i64 a0_1, .int .u64 a0_2]]) [R.box pa0 100 [va0_0, .int .i64 ypa0_1, .int .u64 ypa0_2], R.box b3_1 85 [wq3_1_0, vb3_1_1_1], R.box b2_1 85 [.slice none 0 0, .slice none 0 0], R.sl Sb3_1_1_1 vb3_1_1_1 (yb3_1_1 : List (List Int)), R.sl Tq3_1_0 wq3_1_0 (xq3_1_0 : List (Int × List (Int × Int × Int) × List Int))]) ?_ (fun hj_2 => ?_)
     ·rintro _ _ ⟨vb3_1_1_1, Sb3_1_1_1, hl_vb3_1_1_1, rfl, rfl⟩
      refine Nrm.block ?_
      refine Nrm.seq (Tri.seq (Tri.reg (l := [0, 1]) rfl ?_))
      refine F.qn rfl (r_loadA ta85 ti85 rfl rfl (fun w hw => (box_cells (i := 1) rfl w hw))) ?_
      refine F.ef0 rfl rfl (wanted_none rfl) (d_storeG0 (i := 2) (cs2 := [wq3_1_0, vb3_1_1_1]) ti85 rfl rfl rfl rfl rfl (Nat.le_of_ble_eq_true rfl) (lf_cons (sl_leaf hl_wq3_1_0) (lf_cons (sl_leaf hl_vb3_1_1_1) lf_nil))) ?_
      rintro _ _ ⟨rfl, rfl⟩
      refine F.nil (Nrm.seq (Tri.ret ?_))
      cases h
      exact Rtn.body (.cell rfl ta85 ti85 rfl (fun _ hw => box_cells (i := 2) rfl _ hw) .nil) (fun w hw => ⟨_, _, rfl, ⟨wq3_1_0, Tq3_1_0, vb3_1_1_1, Sb3_1_1_1, rfl, hl_wq3_1_0, hl_vb3_1_1_1, rfl⟩, Sep.pick (is := [4, 3, 0]) rfl rfl hw⟩)
     ·refine Tri.cond (b := decide ((t66.length : Int) > 0)) rfl (fun g_5 => ?_) (fun g_5 => ?_)
      ·replace hE_4 := if_tt g_5 hE_4
       obtain ⟨t72, h72, hE_4⟩ := bind_some hE_4
       obtain ⟨⟨t77_1, t77_2, t77_3⟩, h77, hE_4⟩ := bind_some hE_4
       obtain ⟨t78, h78, hE_4⟩ := bind_some hE_4
       refine Tri.ex (on25 [0] [1, 2, 3, 4] rfl rfl (rdl_some h72).2.2) ?_
       rintro _ ⟨v72_0_1, S72_0_1, Sr72_1, hl_v72_0_1, hS72_1, rfl⟩
       refine Tri.drawK (B := Sep w (footM [R.box pa0 100 [va0_0, .int .i64 a0_1, .int .u64 a0_2]]) [R.sl S72_0_1 v72_0_1 (t72 : List (Int)), R.hole Sr72_1 wq3_1_1 ((xq3_1_1 : List (List Int)).set (0 : Int).toNat t66 : List (List Int)) (0 : Int).toNat [v72_0_1], R.box b3_1 85 [wq3_1_0, wq3_1_1], R.box b2_1 85 [.slice none 0 0, .slice none 0 0], R.sl Tq3_1_0 wq3_1_0 (xq3_1_0 : List (Int × List (Int × Int × Int) × List Int))]) mixedT Sep.up [(0, true), (1, true), (2, true), (3, true), (4, true), (5, true), (6, false), (7, false)] [8, 9] (by kernel_rfl) ?_
       refine K.q [0, 1, 3, 4, 5] rfl rfl rfl rfl rfl (wanted_none rfl) (r_fieldAddr tf85_1 rfl) ?_
       refine K.q [0, 1, 3, 4, 5] rfl rfl rfl rfl rfl (wanted_none rfl) (r_load ta83 rfl (fun w hw => cell_1 (box_cells (i := 2) rfl w hw) rfl)) ?_
       refine K.q [0, 1, 3, 4, 5] rfl rfl rfl rfl rfl (wanted_none rfl) (r_indexAddrS Try.underlying83 ti25 rfl (len_set hl_wq3_1_1) rfl (rdl_some h72).1 (rdl_some h72).2.1) ?_
       refine K.q [0, 1, 3, 4, 5] rfl rfl rfl rfl rfl (wanted_none rfl) (r_load ta25 rfl (fun w hw => cell_0 (hole_cells (p := 1) rfl w hw) rfl)) ?_
       refine K.q [0, 1, 3, 4, 5] rfl rfl rfl rfl rfl (wanted_none rfl) (r_move rfl) ?_
       refine K.q [0, 1, 3, 4, 5] rfl rfl rfl rfl rfl (wanted_none rfl) (r_move rfl) ?_
       refine B.ef rfl rfl rfl (wanted_none rfl) (Makes.does (m_buildF (l := ([(-1), t14_1, 0] : List (Int))) Try.underlying25 ti3 rfl rfl rfl rfl rfl)) (by rintro v76_2 _ ⟨S76_2, hl_v76_2, rfl⟩; exact upd rfl [1, 2, 4, 5, 6] rfl rfl) ?_
       rintro v76_2 _ ⟨S76_2, hl_v76_2, rfl⟩
       refine B.ef rfl rfl rfl (wanted_none rfl) (d_callM (xs := _) (cs := [R.box pa0 100 [va0_0, .int .i64 t55_2, .int .u64 t55_3]]) (rest := [R.sl S76_2 v76_2 (([(-1), t14_1, 0] : List (Int)) : List (Int)), R.sl S72_0_1 v72_0_1 (t72 : List (Int)), R.hole Sr72_1 wq3_1_1 ((xq3_1_1 : List (List Int)).set (0 : Int).toNat t66 : List (List Int)) (0 : Int).toNat [v72_0_1], R.box b3_1 85 [wq3_1_0, wq3_1_1], R.box b2_1 85 [.slice none 0 0, .slice none 0 0], R.sl Tq3_1_0 wq3_1_0 (xq3_1_0 : List (Int × List (Int × Int × Int) × List Int))]) [3] [0, 1, 2, 4, 5, 6] rfl ok96 rfl rfl rfl rfl (fun w hw => spec_l1Cur_among.ok h77 w (hr_a0_0.down hw) (rdm_sl (i := 0) rfl hw) (Sep.sub hw))) (by rintro _ _ ⟨_, ⟨rfl, rfl⟩, rfl⟩; exact upd rfl [2, 3, 4, 5, 6] rfl rfl) ?_
       rintro _ _ ⟨_, ⟨rfl, rfl⟩, rfl⟩
       refine B.nil ?_
       refine F.qn rfl (r_indexAddrS Try.underlying25 ti3 rfl hl_v72_0_1 rfl (rdl_some h78).1 (rdl_some h78).2.1) ?_
       refine F.ef0 rfl rfl (wanted_none rfl) (d_storeE (i := 2) (x1 := t77_1) ti3 rfl rfl rfl (rdl_some h78) rfl) ?_
       rintro _ _ ⟨rfl, rfl⟩
       refine F.nil (Nrm.imp (cloS1 (cs := [R.sl S72_0_1 v72_0_1 (t72.set (0 : Int).toNat t77_1 : List (Int))]) (rest := [R.box pa0 100 [va0_0, .int .i64 t77_2, .int .u64 t77_3], R.sl S76_2 v76_2 (([(-1), t14_1, 0] : List (Int)) : List (Int)), R.box b3_1 85 [wq3_1_0, wq3_1_1], R.box b2_1 85 [.slice none 0 0, .slice none 0 0], R.sl Tq3_1_0 wq3_1_0 (xq3_1_0 : List (Int × List (Int × Int × Int) × List Int))]) [2, 3] [0, 1, 4, 5, 6] rfl rfl (jn_sl (S := S72_0_1) (v := v72_0_1) (l := (t72.set (0 : Int).toNat t77_1 : List (Int)))) hS72_1) ?_)
       cases hE_4
       refine Nrm.only [2, 3] rfl ?_
       refine Nrm.pick [1, 3, 4, 0, 5] rfl rfl ?_
       exact hj_2 _ _ ⟨wq3_1_1, Tq3_1_1, (len_set (len_set hl_wq3_1_1)), rfl, rfl⟩
      ·replace hE_4 := if_ff g_5 hE_4
       refine Tri.skip ?_
       cases hE_4
       refine Nrm.only [2, 3] rfl ?_
       refine Nrm.pick [1, 2, 3, 0, 4] rfl rfl ?_
       exact hj_2 _ _ ⟨wq3_1_1, Tq3_1_1, (len_set hl_wq3_1_1), rfl, rfl⟩
    ·replace h := if_ff g_4 h
     refine Tri.seq (Tri.reg (l := [0, 1]) rfl ?_)
     refine F.qn rfl (r_eql rfl rfl) (F.qn rfl (r_assign rfl) (F.nil (Nrm.seq (Tri.cond (b := t55_1 == 2) rfl (fun g_6 => ?_) (fun g_6 => ?_)))))
     ·replace h := if_tt g_6 h
      obtain ⟨t85, h85, h⟩ := bind_some h
      obtain ⟨hs88, h⟩ := ck h
      refine Tri.ex (on25 [3] [0, 1, 2, 4] rfl rfl (rdl_some h85).2.2) ?_
      rintro _ ⟨v85_0_1, S85_0_1, Sr85_1, hl_v85_0_1, hS85_1, rfl⟩
      refine Tri.drawK (B := Sep w (footM [R.box pa0 100 [va0_0, .int .i64 a0_1, .int .u64 a0_2]]) [R.hole Sr85_1 wq3_1_1 (xq3_1_1 : List (List Int)) (0 : Int).toNat [v85_0_1], R.box pa0 100 [va0_0, .int .i64 t55_2, .int .u64 t55_3], R.box b3_1 85 [wq3_1_0, wq3_1_1], R.box b2_1 85 [.slice none 0 0, .slice none 0 0], R.sl Tq3_1_0 wq3_1_0 (xq3_1_0 : List (Int × List (Int × Int × Int) × List Int))]) mixedT Sep.up [(0, true), (1, true), (2, true), (3, true), (4, true), (5, true), (6, false), (7, false)] [8, 9] (by kernel_rfl) ?_
      refine K.q [1, 2, 3, 4, 5] rfl rfl rfl rfl rfl (wanted_none rfl) (r_fieldAddr tf85_1 rfl) ?_
      refine K.q [1, 2, 3, 4, 5] rfl rfl rfl rfl rfl (wanted_none rfl) (r_load ta83 rfl (fun w hw => cell_1 (box_cells (i := 2) rfl w hw) rfl)) ?_
      refine K.q [1, 2, 3, 4, 5] rfl rfl rfl rfl rfl (wanted_none rfl) (r_fieldAddr tf85_1 rfl) ?_
      refine K.q [1, 2, 3, 4, 5] rfl rfl rfl rfl rfl (wanted_none rfl) (r_load ta83 rfl (fun w hw => cell_1 (box_cells (i := 2) rfl w hw) rfl)) ?_
      refine K.q [1, 2, 3, 4, 5] rfl rfl rfl rfl rfl (wanted_none rfl) (r_indexAddrS Try.underlying83 ti25 rfl hl_wq3_1_1 rfl (rdl_some h85).1 (rdl_some h85).2.1) ?_
      refine K.q [1, 2, 3, 4, 5] rfl rfl rfl rfl rfl (wanted_none rfl) (r_load ta25 rfl (fun w hw => cell_0 (hole_cells (p := 0) rfl w hw) rfl)) ?_
      refine B.ef rfl rfl rfl (wanted_none rfl) (Makes.does (m_buildF (l := ([0] : List (Int))) Try.underlying25 ti3 rfl rfl rfl rfl rfl)) (by rintro v87_2 _ ⟨S87_2, hl_v87_2, rfl⟩; exact upd rfl [2, 3, 4, 5, 6] rfl rfl) ?_
      rintro v87_2 _ ⟨S87_2, hl_v87_2, rfl⟩
      refine B.ef rfl rfl rfl (wanted_none rfl) (d_append (i := 1) Try.underlying25 Try.underlying25 ti3 rfl (by decide) rfl rfl rfl (rd_sl (i := 0) rfl) hs88) (by rintro v88_2 _ ⟨S88_2, rfl, hl_v88_2⟩; exact upd rfl [2, 3, 4, 5, 6] rfl rfl) ?_
      rintro v88_2 _ ⟨S88_2, rfl, hl_v88_2⟩
      refine B.nil ?_
      refine F.qn rfl (r_indexAddrS Try.underlying83 ti25 rfl hl_wq3_1_1 rfl (rdl_some h85).1 (rdl_some h85).2.1) ?_
      refine F.ef0 rfl rfl (wanted_none rfl) (d_storeH0 (α := List Int) (p := 2) (k := 0) (cs2 := [v88_2]) ti25 rfl rfl rfl (sl_cells hl_v88_2) rfl (Nat.le_of_ble_eq_true rfl) (lf_cons (sl_leaf hl_v88_2) lf_nil)) ?_
      rintro _ _ ⟨rfl, rfl⟩
      refine F.nil (Nrm.ex (clo (cs := [R.sl S88_2 v88_2 (t85 ++ ([0] : List (Int)) : List (Int))]) (rest := [R.sl S87_2 v87_2 (([0] : List (Int)) : List (Int)), R.box pa0 100 [va0_0, .int .i64 t55_2, .int .u64 t55_3], R.box b3_1 85 [wq3_1_0, wq3_1_1], R.box b2_1 85 [.slice none 0 0, .slice none 0 0], R.sl Tq3_1_0 wq3_1_0 (xq3_1_0 : List (Int × List (Int × Int × Int) × List Int))]) [1, 2] [0, 3, 4, 5, 6] rfl rfl (jn_sl (S := S88_2) (v := v88_2) (l := (t85 ++ ([0] : List (Int)) : List (Int))))) ?_)
      rintro _ ⟨Sc_1, rfl⟩
      refine Nrm.block ?_
      refine Nrm.seq (Tri.seq (Tri.reg (l := [0, 1]) rfl ?_))
      refine F.qn rfl (r_loadA ta85 ti85 rfl rfl (fun w hw => (box_cells (i := 3) rfl w hw))) ?_
      refine F.ef0 rfl rfl (wanted_none rfl) (d_storeG0 (i := 4) (cs2 := [wq3_1_0, wq3_1_1]) ti85 rfl rfl rfl rfl rfl (Nat.le_of_ble_eq_true rfl) (lf_cons (sl_leaf hl_wq3_1_0) (lf_cons (sl_leaf hl_wq3_1_1) lf_nil))) ?_
      rintro _ _ ⟨rfl, rfl⟩
      refine F.nil (Nrm.seq (Tri.ret ?_))
      cases h
      exact Rtn.body (.cell rfl ta85 ti85 rfl (fun _ hw => box_cells (i := 4) rfl _ hw) .nil) (fun w hw => ⟨_, _, rfl, ⟨wq3_1_0, Tq3_1_0, wq3_1_1, Sc_1, rfl, hl_wq3_1_0, (len_set hl_wq3_1_1), rfl⟩, Sep.pick (is := [5, 0, 2]) rfl rfl hw⟩)
     ·replace h := if_ff g_6 h
      refine Tri.seq (Tri.reg (l := [0, 1]) rfl ?_)
      refine F.qn rfl (r_eql rfl rfl) (F.qn rfl (r_assign rfl) (F.nil (Nrm.seq (Tri.cond (b := t55_1 == 3) rfl (fun g_7 => ?_) (fun g_7 => ?_)))))
      ·replace h := if_tt g_7 h
       obtain ⟨⟨xq3_1_0r, xq3_1_1r⟩, hE_5, h⟩ := bind_some h
       refine Tri.block ?_
       refine Tri.only [2, 3] rfl ?_
       refine Tri.pick [0, 1, 2, 3, 4] rfl rfl ?_
       refine Tri.rounds (fun n e' C' => ∃ (xq3_1_0r' : List (Int × List (Int × Int × Int) × List Int)) (xq3_1_1r' : List (List Int)) (wq3_1_0r : Value) (Tq3_1_0r : Nat → Prop) (wq3_1_1r : Value) (Tq3_1_1r : Nat → Prop), spec_l1Cur_worlds.l2 k n xq3_1_0r' xq3_1_1r' = some (xq3_1_0r, xq3_1_1r) ∧ SlLen wq3_1_0r (xq3_1_0r').length ∧ SlLen wq3_1_1r (xq3_1_1r').length ∧ e' = [(2, .pointer (some ⟨b2_1, 0, none⟩)), (3, .pointer (some ⟨b3_1, 0, none⟩))] ∧ C' = Sep w (footM [R.box pa0 100 [va0_0, .int .i64 a0_1, .int .u64 a0_2]]) [R.box pa0 100 [va0_0, .int .i64 t55_2, .int .u64 t55_3], R.box b3_1 85 [wq3_1_0r, wq3_1_1r], R.box b2_1 85 [.slice none 0 0, .slice none 0 0], R.sl Tq3_1_1r wq3_1_1r (xq3_1_1r' : List (List Int)), R.sl Tq3_1_0r wq3_1_0r (xq3_1_0r' : List (Int × List (Int × Int × Int) × List Int))]) k ?_ ?_ ?_
       ·exact ⟨xq3_1_0, xq3_1_1, wq3_1_0, Tq3_1_0, wq3_1_1, Tq3_1_1, hE_5, hl_wq3_1_0, hl_wq3_1_1, rfl, rfl⟩
       ·rintro _ _ ⟨_, _, _, _, _, _, hE_5, _⟩
        rw [spec_l1Cur_worlds.l2.eq_1] at hE_5; cases hE_5
       ·rintro n_3 _ _ ⟨xq3_1_0r, xq3_1_1r, wq3_1_0r, Tq3_1_0r, wq3_1_1r, Tq3_1_1r, hE_5, hl_wq3_1_0r, hl_wq3_1_1r, rfl, rfl⟩ ih_3
        rw [spec_l1Cur_worlds.l2.eq_2] at hE_5
        refine Tri.seq (Tri.seq (Tri.reg (l := [0, 1, 2, 3]) rfl ?_))
        refine F.qn rfl (r_fieldAddr tf85_0 rfl) (F.qn rfl (r_load ta82 rfl (fun w hw => cell_1 (box_cells (i := 1) rfl w hw) rfl)) (F.qn rfl (r_len Try.underlying82 rfl hl_wq3_1_0r) (F.qn rfl (r_lss rfl rfl) (F.nil (Nrm.seq (Tri.cond (b := decide ((xq3_1_0r.length : Int) < 4)) rfl (fun g_8 => ?_) (fun g_8 => ?_)))))))
        ·replace hE_5 := if_tt g_8 hE_5
         refine Tri.skip (Nrm.seq (Tri.block ?_))
         refine Tri.seq ?_
         obtain ⟨hs101, hE_5⟩ := ck hE_5
         refine Tri.reg (l := [0, 1, 2, 3, 4, 5, 6, 7]) rfl ?_
         refine F.qn rfl (r_fieldAddr tf85_0 rfl) (F.qn rfl (r_load ta82 rfl (fun w hw => cell_1 (box_cells (i := 1) rfl w hw) rfl)) ?_)
         refine F.mn rfl (m_buildF (l := ([0] : List (Int))) Try.underlying25 ti3 rfl rfl rfl rfl rfl) ?_
         rintro v98_1 _ ⟨S98_1, hl_v98_1, rfl⟩
         refine F.qn rfl (r_build (pl := [(0, 1), (1, 1), (2, 1)]) (qs := [(0, [.int .i64 1]), (2, [v98_1])]) (cs := [.int .i64 1, .slice none 0 0, v98_1]) (by kernel_rfl) ti27 rfl (.cons rfl rfl (Nat.le_of_ble_eq_true rfl) (.cons (sl_cells hl_v98_1) rfl (Nat.le_of_ble_eq_true rfl) .nil)) rfl rfl) ?_
         refine F.efn rfl (d_build1 (cells := [.int .i64 1, .slice none 0 0, v98_1]) (x0 := ((1, [], ([0] : List (Int))) : Int × List (Int × Int × Int) × List Int)) (cs := [R.sl S98_1 v98_1 (([0] : List (Int)) : List (Int))]) (rest := [R.box pa0 100 [va0_0, .int .i64 t55_2, .int .u64 t55_3], R.box b3_1 85 [wq3_1_0r, wq3_1_1r], R.box b2_1 85 [.slice none 0 0, .slice none 0 0], R.sl Tq3_1_1r wq3_1_1r (xq3_1_1r : List (List Int)), R.sl Tq3_1_0r wq3_1_0r (xq3_1_0r : List (Int × List (Int × Int × Int) × List Int))]) [0] [1, 2, 3, 4, 5] Try.underlying82 ti27 rfl rfl rfl (lf_cons rfl (lf_cons rfl (lf_cons (sl_leaf hl_v98_1) lf_nil))) rfl rfl (jn_pair (jn_int (n := 1)) (jn_pair jn_nil (jn_sl (S := S98_1) (v := v98_1) (l := (([0] : List (Int)) : List (Int))))))) ?_
         rintro v100_1 _ ⟨S100_1, hl_v100_1, rfl⟩
         refine F.efn rfl (d_appendN (rest := [R.box pa0 100 [va0_0, .int .i64 t55_2, .int .u64 t55_3], R.box b3_1 85 [wq3_1_0r, wq3_1_1r], R.box b2_1 85 [.slice none 0 0, .slice none 0 0], R.sl Tq3_1_1r wq3_1_1r (xq3_1_1r : List (List Int))]) 5 0 [1, 2, 3, 4] Try.underlying82 Try.underlying82 ti27 rfl (by decide) rfl rfl rfl rfl hs101) ?_
         rintro v101_1 _ ⟨S101_1, hl_v101_1, rfl⟩
         refine F.qn rfl (r_fieldAddr tf85_0 rfl) ?_
         refine F.ef0 rfl rfl (wanted_none rfl) (d_storeG1 (i := 2) (cs2 := [v101_1]) ti82 rfl rfl rfl (sl_cells hl_v101_1) rfl (Nat.le_of_ble_eq_true rfl) (lf_cons (sl_leaf hl_v101_1) lf_nil)) ?_
         rintro _ _ ⟨rfl, rfl⟩
         refine F.nil (Nrm.seq ?_)
         obtain ⟨hs107, hE_5⟩ := ck hE_5
         refine Tri.reg (l := [0, 1, 2, 3, 4, 5, 6]) rfl ?_
         refine F.qn rfl (r_fieldAddr tf85_1 rfl) (F.qn rfl (r_load ta83 rfl (fun w hw => cell_1 (box_cells (i := 2) rfl w hw) rfl)) ?_)
         refine F.mn rfl (m_buildF (l := ([0] : List (Int))) Try.underlying25 ti3 rfl rfl rfl rfl rfl) ?_
         rintro v105_1 _ ⟨S105_1, hl_v105_1, rfl⟩
         refine F.efn rfl (d_build1 (cells := [v105_1]) (x0 := (([0] : List (Int)) : List Int)) (cs := [R.sl S105_1 v105_1 (([0] : List (Int)) : List (Int))]) (rest := [R.sl S101_1 v101_1 ((xq3_1_0r : List (Int × List (Int × Int × Int) × List Int)) ++ ([(1, [], ([0] : List (Int)))] : List (Int × List (Int × Int × Int) × List Int)) : List (Int × List (Int × Int × Int) × List Int)), R.box pa0 100 [va0_0, .int .i64 t55_2, .int .u64 t55_3], R.box b3_1 85 [v101_1, wq3_1_1r], R.box b2_1 85 [.slice none 0 0, .slice none 0 0], R.sl Tq3_1_1r wq3_1_1r (xq3_1_1r : List (List Int))]) [0] [1, 2, 3, 4, 5] Try.underlying83 ti25 rfl (sl_cells hl_v105_1) rfl (lf_cons (sl_leaf hl_v105_1) lf_nil) rfl rfl (jn_sl (S := S105_1) (v := v105_1) (l := (([0] : List (Int)) : List (Int))))) ?_
         rintro v106_1 _ ⟨S106_1, hl_v106_1, rfl⟩
         refine F.efn rfl (d_appendN (rest := [R.sl S101_1 v101_1 ((xq3_1_0r : List (Int × List (Int × Int × Int) × List Int)) ++ ([(1, [], ([0] : List (Int)))] : List (Int × List (Int × Int × Int) × List Int)) : List (Int × List (Int × Int × Int) × List Int)), R.box pa0 100 [va0_0, .int .i64 t55_2, .int .u64 t55_3], R.box b3_1 85 [v101_1, wq3_1_1r], R.box b2_1 85 [.slice none 0 0, .slice none 0 0]]) 5 0 [1, 2, 3, 4] Try.underlying83 Try.underlying83 ti25 rfl (by decide) rfl rfl rfl rfl hs107) ?_
         rintro v107_1 _ ⟨S107_1, hl_v107_1, rfl⟩
         refine F.qn rfl (r_fieldAddr tf85_1 rfl) ?_
         refine F.ef0 rfl rfl (wanted_none rfl) (d_storeG1 (i := 3) (cs2 := [v107_1]) ti83 rfl rfl rfl (sl_cells hl_v107_1) rfl (Nat.le_of_ble_eq_true rfl) (lf_cons (sl_leaf hl_v107_1) lf_nil)) ?_
         rintro _ _ ⟨rfl, rfl⟩
         refine F.nil (Nrm.block ?_)
         refine Nrm.round ?_
         refine Rnd.only [2, 3] rfl ?_
         refine Rnd.pick [2, 3, 4, 0, 1] rfl rfl ?_
         exact ih_3 _ _ ⟨(xq3_1_0r : List (Int × List (Int × Int × Int) × List Int)) ++ ([(1, [], ([0] : List (Int)))] : List (Int × List (Int × Int × Int) × List Int)), (xq3_1_1r : List (List Int)) ++ ([([0] : List (Int))] : List (List Int)), v101_1, S101_1, v107_1, S107_1, hE_5, hl_v101_1, hl_v107_1, rfl, rfl⟩
        ·replace hE_5 := if_ff g_8 hE_5
         refine Tri.exit ?_
         refine Exi.then ?_
         refine Exi.then ?_
         refine Exi.same ?_
         cases hE_5
         refine Nrm.block ?_
         refine Nrm.seq (Tri.seq (Tri.reg (l := [0, 1]) rfl ?_))
         refine F.qn rfl (r_loadA ta85 ti85 rfl rfl (fun w hw => (box_cells (i := 1) rfl w hw))) ?_
         refine F.ef0 rfl rfl (wanted_none rfl) (d_storeG0 (i := 2) (cs2 := [wq3_1_0r, wq3_1_1r]) ti85 rfl rfl rfl rfl rfl (Nat.le_of_ble_eq_true rfl) (lf_cons (sl_leaf hl_wq3_1_0r) (lf_cons (sl_leaf hl_wq3_1_1r) lf_nil))) ?_
         rintro _ _ ⟨rfl, rfl⟩
         refine F.nil (Nrm.seq (Tri.ret ?_))
         cases h
         exact Rtn.body (.cell rfl ta85 ti85 rfl (fun _ hw => box_cells (i := 2) rfl _ hw) .nil) (fun w hw => ⟨_, _, rfl, ⟨wq3_1_0r, Tq3_1_0r, wq3_1_1r, Tq3_1_1r, rfl, hl_wq3_1_0r, hl_wq3_1_1r, rfl⟩, Sep.pick (is := [4, 3, 0]) rfl rfl hw⟩)
      ·replace h := if_ff g_7 h
       refine Tri.seq (Tri.reg (l := [0, 1]) rfl ?_)
       refine F.qn rfl (r_eql rfl rfl) (F.qn rfl (r_assign rfl) (F.nil (Nrm.seq (Tri.cond (b := t55_1 == 4) rfl (fun g_9 => ?_) (fun g_9 => ?_)))))
       ·replace h := if_tt g_9 h
        refine Tri.seq (Tri.reg (l := [0, 1]) rfl ?_)
        refine F.qn rfl (r_build (pl := [(0, 1), (1, 1)]) (qs := []) (cs := [.slice none 0 0, .slice none 0 0]) (by kernel_rfl) ti85 rfl .nil rfl rfl) ?_
        refine F.ef0 rfl rfl (wanted_none rfl) (d_storeG0 (i := 2) (cs2 := [.slice none 0 0, .slice none 0 0]) ti85 rfl rfl rfl rfl rfl (Nat.le_of_ble_eq_true rfl) (lf_cons rfl (lf_cons rfl lf_nil))) ?_
        rintro _ _ ⟨rfl, rfl⟩
        refine F.nil (Nrm.seq (Tri.ret ?_))
        refine Rtn.block ?_
        refine Rtn.then ?_
        cases h
        exact Rtn.body (.cell rfl ta85 ti85 rfl (fun _ hw => box_cells (i := 2) rfl _ hw) .nil) (fun w hw => ⟨_, _, rfl, ⟨.slice none 0 0, fun _ => False, .slice none 0 0, fun _ => False, rfl, len_nil, len_nil, rfl⟩, Sep.pick (is := [0, 1, 2]) rfl rfl hw.pushNil.pushNil⟩)
       ·replace h := if_ff g_9 h
        refine Tri.skip (Nrm.block ?_)
        refine Nrm.seq (Tri.seq (Tri.reg (l := [0, 1]) rfl ?_))
        refine F.qn rfl (r_loadA ta85 ti85 rfl rfl (fun w hw => (box_cells (i := 1) rfl w hw))) ?_
        refine F.ef0 rfl rfl (wanted_none rfl) (d_storeG0 (i := 2) (cs2 := [wq3_1_0, wq3_1_1]) ti85 rfl rfl rfl rfl rfl (Nat.le_of_ble_eq_true rfl) (lf_cons (sl_leaf hl_wq3_1_0) (lf_cons (sl_leaf hl_wq3_1_1) lf_nil))) ?_
        rintro _ _ ⟨rfl, rfl⟩
        refine F.nil (Nrm.seq (Tri.ret ?_))
        cases h
        exact Rtn.body (.cell rfl ta85 ti85 rfl (fun _ hw => box_cells (i := 2) rfl _ hw) .nil) (fun w hw => ⟨_, _, rfl, ⟨wq3_1_0, Tq3_1_0, wq3_1_1, Tq3_1_1, rfl, hl_wq3_1_0, hl_wq3_1_1, rfl⟩, Sep.pick (is := [4, 3, 0]) rfl rfl hw⟩)


def spec_DrawIsWorlds.f (k : Nat) (a0 : List By) : Option ((List (Int × List (Int × Int × Int) × List Int)) × (List (List Int))) := (spec_l1Cur_worlds.f k a0 0 0).bind fun (t8_1, t8_2, t8_3, t8_4) => some (t8_1, t8_2)

theorem spec_DrawIsWorlds.ok {k : Nat}  {a0 : List By} {r0 : List (Int × List (Int × Int × Int) × List Int)} {r1 : List (List Int)} (h : spec_DrawIsWorlds.f k a0 = some (r0, r1)) (w : World) {va0 : Value} (hr_a0 : Rd w va0 a0) :
  Calls Try.prog 145 ([va0] : List Value).toArray w (Post (fun u ns => ∃ (ur0 : Value) (Sr0 : Nat → Prop) (ur1 : Value) (Sr1 : Nat → Prop), u = .agg [ur0, ur1].toArray ∧ SlLen ur0 r0.length ∧ SlLen ur1 r1.length ∧ ns = [R.sl Sr0 ur0 r0, R.sl Sr1 ur1 r1]) w) := by
 unfold spec_DrawIsWorlds.f at h
 have hl_va0 := hr_a0.len
 refine Calls.of_tri (N := 9) Try.func145 rfl rfl rfl (Sep.nil (M := noM)) ?_
 refine Tri.seq (Tri.reg (l := [0]) rfl ?_)
 refine F.mn rfl (m_alloc ti85) ?_
 rintro _ _ ⟨b2_1, rfl, rfl⟩
 refine F.nil (Nrm.seq (Tri.seq (Tri.reg (l := [0, 1, 2, 3]) rfl ?_)))
 refine F.qn rfl (r_move rfl) (F.qn rfl (r_build (pl := [(0, 1), (1, 1), (2, 1)]) (qs := [(0, [va0])]) (cs := [va0, .int .i64 0, .int .u64 0]) (by kernel_rfl) ti100 rfl (.cons (sl_cells hl_va0) rfl (Nat.le_of_ble_eq_true rfl) .nil) rfl rfl) ?_)
 refine F.mn rfl (m_boxG rfl rfl) ?_
 rintro _ _ ⟨b6_1, rfl, rfl⟩
 refine F.qn rfl (r_assign rfl) (F.nil (Nrm.seq (Tri.seq ?_)))
 obtain ⟨⟨t8_1, t8_2, t8_3, t8_4⟩, h8, h⟩ := bind_some h
 refine Tri.reg (l := [0, 1, 2]) rfl ?_
 refine F.qn rfl (r_move rfl) ?_
 refine F.efn rfl (d_callM (xs := _) (cs := [R.box b6_1 100 [va0, .int .i64 0, .int .u64 0]]) (rest := [R.box b2_1 85 [.slice none 0 0, .slice none 0 0]]) [0] [1] rfl ok154 rfl rfl rfl rfl (fun w hw => spec_l1Cur_worlds.ok h8 w (hr_a0.down hw) (Sep.sub hw))) ?_
 rintro _ _ ⟨_, ⟨v8_1, S8_1, v8_2, S8_2, rfl, hl_v8_1, hl_v8_2, rfl⟩, rfl⟩
 refine F.ef0 rfl rfl (wanted_none rfl) (d_storeG0 (i := 3) (cs2 := [v8_1, v8_2]) ti85 rfl rfl rfl rfl rfl (Nat.le_of_ble_eq_true rfl) (lf_cons (sl_leaf hl_v8_1) (lf_cons (sl_leaf hl_v8_2) lf_nil))) ?_
 rintro _ _ ⟨rfl, rfl⟩
 refine F.nil (Nrm.seq (Tri.ret ?_))
 cases h
 exact Rtn.body (.cell rfl ta85 ti85 rfl (fun _ hw => box_cells (i := 3) rfl _ hw) .nil) (fun w hw => ⟨_, _, rfl, ⟨v8_1, S8_1, v8_2, S8_2, rfl, hl_v8_1, hl_v8_2, rfl⟩, Sep.pick (is := [0, 1]) rfl rfl hw⟩)


def spec_DrawRoundSets.f (k : Nat) (a0 : List By) : Option ((List (Int × List (Int × Int × Int) × List Int)) × (List (List Int))) := (spec_DrawIsWorlds.f k a0).bind fun (t4_1, t4_2) => some (t4_1, t4_2)

theorem spec_DrawRoundSets.ok {k : Nat}  {a0 : List By} {r0 : List (Int × List (Int × Int × Int) × List Int)} {r1 : List (List Int)} (h : spec_DrawRoundSets.f k a0 = some (r0, r1)) (w : World) {va0 : Value} (hr_a0 : Rd w va0 a0) :
  Calls Try.prog 66 ([va0] : List Value).toArray w (Post (fun u ns => ∃ (ur0 : Value) (Sr0 : Nat → Prop) (ur1 : Value) (Sr1 : Nat → Prop), u = .agg [ur0, ur1].toArray ∧ SlLen ur0 r0.length ∧ SlLen ur1 r1.length ∧ ns = [R.sl Sr0 ur0 r0, R.sl Sr1 ur1 r1]) w) := by
 unfold spec_DrawRoundSets.f at h
 have hl_va0 := hr_a0.len
 refine Calls.of_tri (N := 5) Try.func66 rfl rfl rfl (Sep.nil (M := noM)) ?_
 refine Tri.seq (Tri.reg (l := [0]) rfl ?_)
 refine F.mn rfl (m_alloc ti85) ?_
 rintro _ _ ⟨b2_1, rfl, rfl⟩
 refine F.nil (Nrm.seq (Tri.seq ?_))
 obtain ⟨⟨t4_1, t4_2⟩, h4, h⟩ := bind_some h
 refine Tri.reg (l := [0, 1, 2]) rfl ?_
 refine F.qn rfl (r_move rfl) ?_
 refine F.mn rfl (m_callF (xs := _) rfl ok145 rfl rfl (fun w hw => spec_DrawIsWorlds.ok h4 w ((fun _ hw => hr_a0.sep hw) w hw))) ?_
 rintro _ _ ⟨_, ⟨v4_1, S4_1, v4_2, S4_2, rfl, hl_v4_1, hl_v4_2, rfl⟩, rfl⟩
 refine F.ef0 rfl rfl (wanted_none rfl) (d_storeG0 (i := 2) (cs2 := [v4_1, v4_2]) ti85 rfl rfl rfl rfl rfl (Nat.le_of_ble_eq_true rfl) (lf_cons (sl_leaf hl_v4_1) (lf_cons (sl_leaf hl_v4_2) lf_nil))) ?_
 rintro _ _ ⟨rfl, rfl⟩
 refine F.nil (Nrm.seq (Tri.ret ?_))
 cases h
 exact Rtn.body (.cell rfl ta85 ti85 rfl (fun _ hw => box_cells (i := 2) rfl _ hw) .nil) (fun w hw => ⟨_, _, rfl, ⟨v4_1, S4_1, v4_2, S4_2, rfl, hl_v4_1, hl_v4_2, rfl⟩, Sep.pick (is := [0, 1]) rfl rfl hw⟩)


def impl_within.f (k : Nat) (a0 : Int) (a1 : Int) (a2 : Int) : Option (Bool) := ((if (decide (a1 ≤ a0)) = true then some (decide (a0 ≤ a2)) else some false)).bind fun y6 => some y6

theorem impl_within.ok {k : Nat}  {a0 : Int} {a1 : Int} {a2 : Int} {r0 : Bool} (h : impl_within.f k a0 a1 a2 = some r0) (w : World) :
  Calls Try.prog 149 ([.int .i64 a0, .int .i64 a1, .int .i64 a2] : List Value).toArray w (fun e w' => e = .returned (.bool r0) ∧ Ext w w') := by
 unfold impl_within.f at h
 refine Calls.of_tri (N := 15) Try.func149 rfl rfl rfl (Sep.nil (M := noM)) ?_
 refine Tri.seq (Tri.reg (l := [0]) rfl ?_)
 refine F.qn rfl (r_assign rfl) (F.nil (Nrm.seq (Tri.seq ?_)))
 obtain ⟨y6, hE_1, h⟩ := bind_some h
 refine Tri.cut (fun e' C' => e' = [(6, .bool y6)] ∧ C' = Sep w noM []) ?_ (fun hj_1 => ?_)
 ·rintro _ _ ⟨rfl, rfl⟩
  refine Nrm.seq (Tri.ret ?_)
  cases h
  exact Rtn.body (.tmp rfl .nil) (fun w hw => ⟨rfl, hw.ext⟩)
 ·rcases Bool.eq_false_or_eq_true (decide (a1 ≤ a0)) with g10 | g10
  ·replace hE_1 := if_tt g10 hE_1
   refine Tri.reg (l := [0, 1, 2, 3, 4, 5, 6, 7, 8]) rfl ?_
   refine F.qn rfl (r_move rfl) (F.qn rfl (r_move rfl) (F.qn rfl (r_leq rfl rfl) ?_))
   refine F.qn rfl (r_move rfl) (F.qg rfl g10 (r_move rfl) (F.qg rfl g10 (r_move rfl) (F.qg rfl g10 (r_leq rfl rfl) (F.qn rfl (r_pick rfl rfl g10) (F.qn rfl (r_assign rfl) (F.nil ?_))))))
   cases hE_1
   refine Nrm.only [6] rfl ?_
   refine Nrm.pick [] rfl rfl ?_
   exact hj_1 _ _ ⟨rfl, rfl⟩
  ·replace hE_1 := if_ff g10 hE_1
   refine Tri.reg (l := [0, 1, 2, 3, 4, 5, 6, 7, 8]) rfl ?_
   refine F.qn rfl (r_move rfl) (F.qn rfl (r_move rfl) (F.qn rfl (r_leq rfl rfl) (F.qn rfl (r_move rfl) ?_)))
   iterate 3 refine F.skf rfl g10 ?_
   refine F.qn rfl (r_pickf rfl rfl g10) (F.qn rfl (r_assign rfl) (F.nil ?_))
   cases hE_1
   refine Nrm.only [6] rfl ?_
   refine Nrm.pick [] rfl rfl ?_
   exact hj_1 _ _ ⟨rfl, rfl⟩


def impl_isSet.f (k : Nat) (a0 : Int) : Option (Bool) := (impl_within.f k a0 0 63).bind fun t4 => some t4

theorem impl_isSet.ok {k : Nat}  {a0 : Int} {r0 : Bool} (h : impl_isSet.f k a0 = some r0) (w : World) :
  Calls Try.prog 101 ([.int .i64 a0] : List Value).toArray w (fun e w' => e = .returned (.bool r0) ∧ Ext w w') := by
 unfold impl_isSet.f at h
 refine Calls.of_tri (N := 5) Try.func101 rfl rfl rfl (Sep.nil (M := noM)) ?_
 refine Tri.seq (Tri.reg (l := [0]) rfl ?_)
 refine F.qn rfl (r_assign rfl) (F.nil (Nrm.seq (Tri.seq ?_)))
 obtain ⟨t4, h4, h⟩ := bind_some h
 refine Tri.reg (l := [0, 1, 2]) rfl ?_
 refine F.qn rfl (r_move rfl) ?_
 refine F.qcn rfl (q_callF (xs := _) rfl ok149 rfl rfl (fun w hw => impl_within.ok h4 w )) ?_
 refine F.qn rfl (r_assign rfl) (F.nil (Nrm.seq (Tri.ret ?_)))
 cases h
 exact Rtn.body (.tmp rfl .nil) (fun w hw => ⟨rfl, hw.ext⟩)


def slices_IndexFunc_int_int.l0 (k : Nat) (a0 : List Int) (a1 : (Int → Option (Bool))) : Nat → Int → Option ((Unit) ⊕ (Int))
 | 0, _ => none
 | n + 1, x8 => (if (decide (x8 < (a0.length : Int))) = true then (rdl a0 x8).bind fun t14 => (a1 t14).bind fun t16 => (if t16 = true then some (Sum.inr x8) else slices_IndexFunc_int_int.l0 k a0 a1 n (w64 (x8 + 1))) else some (Sum.inl ()))

def slices_IndexFunc_int_int.f (k : Nat) (a0 : List Int) (a1 : (Int → Option (Bool))) : Option (Int) := (slices_IndexFunc_int_int.l0 k a0 a1 k 0).bind fun s => Lr s some fun _ => some (-1)

theorem slices_IndexFunc_int_int.ok {k : Nat}  {a0 : List Int} {a1 : (Int → Option (Bool))} {r0 : Int} (h : slices_IndexFunc_int_int.f k a0 a1 = some r0) (w : World) {va0 : Value} (hr_a0 : Rd w va0 a0) {fi_a1 : FuncId} {ca_a1 : Array Value} (ho_a1 : CallOk Try.prog fi_a1) (hf_a1 : ∀ w2, Ext w w2 → ∀ (z0 : Int) (y : Bool), a1 z0 = some y → Calls Try.prog fi_a1 (([.int .i64 z0] : List Value) ++ ca_a1.toList).toArray w2 (fun e w3 => e = .returned (.bool y) ∧ Ext w2 w3)) :
  Calls Try.prog 188 ([va0, .func (.func fi_a1) #[] ca_a1] : List Value).toArray w (fun e w' => e = .returned (.int .i64 r0) ∧ Ext w w') := by
 unfold slices_IndexFunc_int_int.f at h
 have hl_va0 := hr_a0.len
 refine Calls.of_tri (N := 19) Try.func188 rfl rfl rfl (Sep.nil (M := noM)) ?_
 refine Tri.seq (Tri.reg (l := [0]) rfl ?_)
 refine F.qn rfl (r_assign rfl) (F.nil (Nrm.seq (Tri.seq (Tri.seq (Tri.reg (l := [0, 1, 2]) rfl ?_)))))
 refine F.qn rfl (r_move rfl) (F.qn rfl (r_len Try.underlying25 rfl hl_va0) (F.qn rfl (r_move rfl) (F.nil (Nrm.seq ?_))))
 obtain ⟨s0, hE_1, h⟩ := bind_some h
 refine Tri.block ?_
 refine Tri.only [0, 1, 7, 8] rfl ?_
 refine Tri.pick [] rfl rfl ?_
 refine Tri.rounds (fun n e' C' => ∃ (x8' : Int), slices_IndexFunc_int_int.l0 k a0 a1 n x8' = some s0 ∧ e' = [(0, va0), (1, .func (.func fi_a1) #[] ca_a1), (7, .int .i64 (a0.length : Int)), (8, .int .i64 x8')] ∧ C' = Sep w noM []) k ?_ ?_ ?_
 ·exact ⟨0, hE_1, rfl, rfl⟩
 ·rintro _ _ ⟨_, hE_1, _⟩
  rw [slices_IndexFunc_int_int.l0.eq_1] at hE_1; cases hE_1
 ·rintro n_1 _ _ ⟨x8, hE_1, rfl, rfl⟩ ih_1
  rw [slices_IndexFunc_int_int.l0.eq_2] at hE_1
  refine Tri.seq (Tri.reg (l := [0]) rfl ?_)
  refine F.qn rfl (r_lss rfl rfl) (F.nil (Nrm.seq (Tri.seq (Tri.cond (b := decide (x8 < (a0.length : Int))) rfl (fun g_1 => ?_) (fun g_1 => ?_)))))
  ·replace hE_1 := if_tt g_1 hE_1
   refine Tri.skip (Nrm.seq (Tri.seq (Tri.block ?_)))
   refine Tri.seq (Tri.reg (l := [0, 1]) rfl ?_)
   refine F.qn rfl (r_move rfl) (F.qn rfl (r_assign rfl) (F.nil (Nrm.seq (Tri.seq ?_))))
   obtain ⟨t14, h14, hE_1⟩ := bind_some hE_1
   obtain ⟨t16, h16, hE_1⟩ := bind_some hE_1
   refine Tri.reg (l := [0, 1, 2, 3, 4, 5]) rfl ?_
   iterate 3 refine F.qn rfl (r_move rfl) ?_
   refine F.qn rfl (r_indexAddrS Try.underlying25 ti3 rfl hl_va0 rfl (rdl_some h14).1 (rdl_some h14).2.1) (F.qn rfl (r_load ta3 rfl (fun w hw => cell_0 (Rd.flat ((fun _ hw => hr_a0.sep hw) w hw) (rdl_some h14).2.2) rfl)) ?_)
   refine F.qcn rfl (q_callC (xs := _) rfl ho_a1 rfl rfl (fun w hw => hf_a1 w hw.ext _  _ h16)) ?_
   refine F.nil (Nrm.seq (Tri.cond (b := t16) rfl (fun g_2 => ?_) (fun g_2 => ?_)))
   ·replace hE_1 := if_tt g_2 hE_1
    refine Tri.seq (Tri.reg (l := [0, 1]) rfl ?_)
    refine F.qn rfl (r_move rfl) (F.qn rfl (r_assign rfl) (F.nil (Nrm.seq (Tri.ret ?_))))
    refine Rtn.block ?_
    refine Rtn.then ?_
    refine Rtn.then ?_
    refine Rtn.block ?_
    refine Rtn.then ?_
    cases hE_1
    replace h := Lr_inr h
    cases h
    exact Rtn.body (.tmp rfl .nil) (fun w hw => ⟨rfl, hw.ext⟩)
   ·replace hE_1 := if_ff g_2 hE_1
    refine Tri.skip (Nrm.block ?_)
    refine Nrm.seq (Tri.reg (l := [0, 1]) rfl ?_)
    refine F.qn rfl (r_add rfl rfl) (F.qn rfl (r_move rfl) (F.nil (Nrm.round ?_)))
    refine Rnd.only [0, 1, 7, 8] rfl ?_
    refine Rnd.pick [] rfl rfl ?_
    exact ih_1 _ _ ⟨w64 (x8 + 1), hE_1, rfl, rfl⟩
  ·replace hE_1 := if_ff g_1 hE_1
   refine Tri.exit ?_
   refine Exi.then ?_
   refine Exi.then ?_
   refine Exi.same ?_
   cases hE_1
   replace h := Lr_inl h
   refine Nrm.seq (Tri.seq (Tri.reg (l := [0]) rfl ?_))
   refine F.qn rfl (r_assign rfl) (F.nil (Nrm.seq (Tri.ret ?_)))
   cases h
   exact Rtn.body (.tmp rfl .nil) (fun w hw => ⟨rfl, hw.ext⟩)


def slices_ContainsFunc_int_int.f (k : Nat) (a0 : List Int) (a1 : (Int → Option (Bool))) : Option (Bool) := (slices_IndexFunc_int_int.f k a0 a1).bind fun t7 => some (decide (t7 ≥ 0))

theorem slices_ContainsFunc_int_int.ok {k : Nat}  {a0 : List Int} {a1 : (Int → Option (Bool))} {r0 : Bool} (h : slices_ContainsFunc_int_int.f k a0 a1 = some r0) (w : World) {va0 : Value} (hr_a0 : Rd w va0 a0) {fi_a1 : FuncId} {ca_a1 : Array Value} (ho_a1 : CallOk Try.prog fi_a1) (hf_a1 : ∀ w2, Ext w w2 → ∀ (z0 : Int) (y : Bool), a1 z0 = some y → Calls Try.prog fi_a1 (([.int .i64 z0] : List Value) ++ ca_a1.toList).toArray w2 (fun e w3 => e = .returned (.bool y) ∧ Ext w2 w3)) :
  Calls Try.prog 150 ([va0, .func (.func fi_a1) #[] ca_a1] : List Value).toArray w (fun e w' => e = .returned (.bool r0) ∧ Ext w w') := by
 unfold slices_ContainsFunc_int_int.f at h
 have hl_va0 := hr_a0.len
 refine Calls.of_tri (N := 9) Try.func150 rfl rfl rfl (Sep.nil (M := noM)) ?_
 refine Tri.seq (Tri.reg (l := [0]) rfl ?_)
 refine F.qn rfl (r_assign rfl) (F.nil (Nrm.seq (Tri.seq ?_)))
 obtain ⟨t7, h7, h⟩ := bind_some h
 refine Tri.reg (l := [0, 1, 2, 3, 4]) rfl ?_
 refine F.qn rfl (r_move rfl) (F.qn rfl (r_move rfl) ?_)
 refine F.qcn rfl (q_callF (xs := _) rfl ok188 rfl rfl (fun w hw => slices_IndexFunc_int_int.ok h7 w ((fun _ hw => hr_a0.sep hw) w hw) ho_a1 (fun w2 he2 => hf_a1 w2 (hw.ext.trans he2)))) ?_
 refine F.qn rfl (r_geq rfl rfl) (F.qn rfl (r_assign rfl) (F.nil (Nrm.seq (Tri.ret ?_))))
 cases h
 exact Rtn.body (.tmp rfl .nil) (fun w hw => ⟨rfl, hw.ext⟩)


def cmp_Or_int.l0 (k : Nat) (a0 : List Int) : Nat → Int → Option ((Unit) ⊕ (Int))
 | 0, _ => none
 | n + 1, x8 => (if (decide (x8 < (a0.length : Int))) = true then (rdl a0 x8).bind fun t10 => (if (t10 != 0) = true then some (Sum.inr t10) else cmp_Or_int.l0 k a0 n (w64 (x8 + 1))) else some (Sum.inl ()))

def cmp_Or_int.f (k : Nat) (a0 : List Int) : Option (Int) := (cmp_Or_int.l0 k a0 k 0).bind fun s => Lr s some fun _ => some 0

theorem cmp_Or_int.ok {k : Nat}  {a0 : List Int} {r0 : Int} (h : cmp_Or_int.f k a0 = some r0) (w : World) {va0 : Value} (hr_a0 : Rd w va0 a0) :
  Calls Try.prog 215 ([va0] : List Value).toArray w (fun e w' => e = .returned (.int .i64 r0) ∧ Ext w w') := by
 unfold cmp_Or_int.f at h
 have hl_va0 := hr_a0.len
 refine Calls.of_tri (N := 18) Try.func215 rfl rfl rfl (Sep.nil (M := noM)) ?_
 refine Tri.seq (Tri.reg (l := [0]) rfl ?_)
 refine F.qn rfl (r_assign rfl) (F.nil (Nrm.seq (Tri.seq (Tri.reg (l := [0]) rfl ?_))))
 refine F.qn rfl (r_assign rfl) (F.nil (Nrm.seq (Tri.seq (Tri.seq (Tri.reg (l := [0, 1, 2]) rfl ?_)))))
 refine F.qn rfl (r_move rfl) (F.qn rfl (r_len Try.underlying25 rfl hl_va0) (F.qn rfl (r_move rfl) (F.nil (Nrm.seq ?_))))
 obtain ⟨s0, hE_1, h⟩ := bind_some h
 refine Tri.block ?_
 refine Tri.only [3, 6, 7, 8] rfl ?_
 refine Tri.pick [] rfl rfl ?_
 refine Tri.rounds (fun n e' C' => ∃ (x8' : Int), cmp_Or_int.l0 k a0 n x8' = some s0 ∧ e' = [(3, .int .i64 0), (6, va0), (7, .int .i64 (a0.length : Int)), (8, .int .i64 x8')] ∧ C' = Sep w noM []) k ?_ ?_ ?_
 ·exact ⟨0, hE_1, rfl, rfl⟩
 ·rintro _ _ ⟨_, hE_1, _⟩
  rw [cmp_Or_int.l0.eq_1] at hE_1; cases hE_1
 ·rintro n_1 _ _ ⟨x8, hE_1, rfl, rfl⟩ ih_1
  rw [cmp_Or_int.l0.eq_2] at hE_1
  refine Tri.seq (Tri.reg (l := [0]) rfl ?_)
  refine F.qn rfl (r_lss rfl rfl) (F.nil (Nrm.seq (Tri.seq (Tri.cond (b := decide (x8 < (a0.length : Int))) rfl (fun g_1 => ?_) (fun g_1 => ?_)))))
  ·replace hE_1 := if_tt g_1 hE_1
   refine Tri.skip (Nrm.seq (Tri.seq (Tri.block ?_)))
   refine Tri.seq ?_
   obtain ⟨t10, h10, hE_1⟩ := bind_some hE_1
   refine Tri.reg (l := [0, 1, 2]) rfl ?_
   refine F.qn rfl (r_indexAddrS Try.underlying25 ti3 rfl hl_va0 rfl (rdl_some h10).1 (rdl_some h10).2.1) (F.qn rfl (r_load ta3 rfl (fun w hw => cell_0 (Rd.flat ((fun _ hw => hr_a0.sep hw) w hw) (rdl_some h10).2.2) rfl)) (F.qn rfl (r_assign rfl) (F.nil (Nrm.seq (Tri.seq (Tri.reg (l := [0, 1, 2]) rfl ?_))))))
   refine F.qn rfl (r_move rfl) (F.qn rfl (r_move rfl) (F.qn rfl (r_neq rfl rfl) (F.nil (Nrm.seq (Tri.cond (b := t10 != 0) rfl (fun g_2 => ?_) (fun g_2 => ?_))))))
   ·replace hE_1 := if_tt g_2 hE_1
    refine Tri.seq (Tri.reg (l := [0, 1]) rfl ?_)
    refine F.qn rfl (r_move rfl) (F.qn rfl (r_assign rfl) (F.nil (Nrm.seq (Tri.ret ?_))))
    refine Rtn.block ?_
    refine Rtn.then ?_
    refine Rtn.then ?_
    refine Rtn.block ?_
    refine Rtn.then ?_
    cases hE_1
    replace h := Lr_inr h
    cases h
    exact Rtn.body (.tmp rfl .nil) (fun w hw => ⟨rfl, hw.ext⟩)
   ·replace hE_1 := if_ff g_2 hE_1
    refine Tri.skip (Nrm.block ?_)
    refine Nrm.seq (Tri.reg (l := [0, 1]) rfl ?_)
    refine F.qn rfl (r_add rfl rfl) (F.qn rfl (r_move rfl) (F.nil (Nrm.round ?_)))
    refine Rnd.only [3, 6, 7, 8] rfl ?_
    refine Rnd.pick [] rfl rfl ?_
    exact ih_1 _ _ ⟨w64 (x8 + 1), hE_1, rfl, rfl⟩
  ·replace hE_1 := if_ff g_1 hE_1
   refine Tri.exit ?_
   refine Exi.then ?_
   refine Exi.then ?_
   refine Exi.same ?_
   cases hE_1
   replace h := Lr_inl h
   refine Nrm.seq (Tri.seq (Tri.reg (l := [0, 1]) rfl ?_))
   refine F.qn rfl (r_move rfl) (F.qn rfl (r_assign rfl) (F.nil (Nrm.seq (Tri.ret ?_))))
   cases h
   exact Rtn.body (.tmp rfl .nil) (fun w hw => ⟨rfl, hw.ext⟩)


def cmp_isNaN_int.f (k : Nat) (a0 : Int) : Option (Bool) := some (a0 != a0)

theorem cmp_isNaN_int.ok {k : Nat}  {a0 : Int} {r0 : Bool} (h : cmp_isNaN_int.f k a0 = some r0) (w : World) :
  Calls Try.prog 229 ([.int .i64 a0] : List Value).toArray w (fun e w' => e = .returned (.bool r0) ∧ Ext w w') := by
 unfold cmp_isNaN_int.f at h
 refine Calls.of_tri (N := 6) Try.func229 rfl rfl rfl (Sep.nil (M := noM)) ?_
 refine Tri.seq (Tri.reg (l := [0]) rfl ?_)
 refine F.qn rfl (r_assign rfl) (F.nil (Nrm.seq (Tri.seq (Tri.reg (l := [0, 1, 2, 3]) rfl ?_))))
 refine F.qn rfl (r_move rfl) (F.qn rfl (r_move rfl) (F.qn rfl (r_neq rfl rfl) (F.qn rfl (r_assign rfl) (F.nil (Nrm.seq (Tri.ret ?_))))))
 cases h
 exact Rtn.body (.tmp rfl .nil) (fun w hw => ⟨rfl, hw.ext⟩)

end Go.Proofs

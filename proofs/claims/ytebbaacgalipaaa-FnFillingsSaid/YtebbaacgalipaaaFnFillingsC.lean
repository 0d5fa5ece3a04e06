/- A part of the proof of FnFillings: what the functions of the program compute, walked on the model. No condition. -/
import Derived.Test.YtebbaacgalipaaaChecked
import Derived.Test.YtebbaacgalipaaaFnFillingsB
set_option linter.unusedSimpArgs false
namespace Go.Proofs
open Go Go.Ga Go.Ga.Rp Go.Ga.Flat
theorem mixedT : Try.prog.follows .mixedOrders = true := by kernel_rfl
theorem eg121 : Try.prog.eqGuardType Try.prog.depth 121 = false := by kernel_rfl
theorem eg64 : Try.prog.eqGuardType Try.prog.depth 64 = false := by kernel_rfl
theorem ok10 : CallOk Try.prog 10 := .of Try.func10 rfl (by decide)
theorem ok100 : CallOk Try.prog 100 := .of Try.func100 rfl (by decide)
theorem ok101 : CallOk Try.prog 101 := .of Try.func101 rfl (by decide)
theorem ok102 : CallOk Try.prog 102 := .of Try.func102 rfl (by decide)
theorem ok103 : CallOk Try.prog 103 := .of Try.func103 rfl (by decide)
theorem ok104 : CallOk Try.prog 104 := .of Try.func104 rfl (by decide)
theorem ok105 : CallOk Try.prog 105 := .of Try.func105 rfl (by decide)
theorem ok106 : CallOk Try.prog 106 := .of Try.func106 rfl (by decide)
theorem ok107 : CallOk Try.prog 107 := .of Try.func107 rfl (by decide)
theorem ok108 : CallOk Try.prog 108 := .of Try.func108 rfl (by decide)
theorem ok109 : CallOk Try.prog 109 := .of Try.func109 rfl (by decide)
theorem ok11 : CallOk Try.prog 11 := .of Try.func11 rfl (by decide)
theorem ok110 : CallOk Try.prog 110 := .of Try.func110 rfl (by decide)
theorem ok111 : CallOk Try.prog 111 := .of Try.func111 rfl (by decide)
theorem ok112 : CallOk Try.prog 112 := .of Try.func112 rfl (by decide)
theorem ok113 : CallOk Try.prog 113 := .of Try.func113 rfl (by decide)
theorem ok114 : CallOk Try.prog 114 := .of Try.func114 rfl (by decide)
theorem ok115 : CallOk Try.prog 115 := .of Try.func115 rfl (by decide)
theorem ok116 : CallOk Try.prog 116 := .of Try.func116 rfl (by decide)
theorem ok117 : CallOk Try.prog 117 := .of Try.func117 rfl (by decide)
theorem ok118 : CallOk Try.prog 118 := .of Try.func118 rfl (by decide)
theorem ok119 : CallOk Try.prog 119 := .of Try.func119 rfl (by decide)
theorem ok12 : CallOk Try.prog 12 := .of Try.func12 rfl (by decide)
theorem ok120 : CallOk Try.prog 120 := .of Try.func120 rfl (by decide)
theorem ok121 : CallOk Try.prog 121 := .of Try.func121 rfl (by decide)
theorem ok122 : CallOk Try.prog 122 := .of Try.func122 rfl (by decide)
theorem ok123 : CallOk Try.prog 123 := .of Try.func123 rfl (by decide)
theorem ok124 : CallOk Try.prog 124 := .of Try.func124 rfl (by decide)
theorem ok125 : CallOk Try.prog 125 := .of Try.func125 rfl (by decide)
theorem ok126 : CallOk Try.prog 126 := .of Try.func126 rfl (by decide)
theorem ok127 : CallOk Try.prog 127 := .of Try.func127 rfl (by decide)
theorem ok128 : CallOk Try.prog 128 := .of Try.func128 rfl (by decide)
theorem ok129 : CallOk Try.prog 129 := .of Try.func129 rfl (by decide)
theorem ok13 : CallOk Try.prog 13 := .of Try.func13 rfl (by decide)
theorem ok130 : CallOk Try.prog 130 := .of Try.func130 rfl (by decide)
theorem ok131 : CallOk Try.prog 131 := .of Try.func131 rfl (by decide)
theorem ok132 : CallOk Try.prog 132 := .of Try.func132 rfl (by decide)
theorem ok133 : CallOk Try.prog 133 := .of Try.func133 rfl (by decide)
theorem ok134 : CallOk Try.prog 134 := .of Try.func134 rfl (by decide)
theorem ok135 : CallOk Try.prog 135 := .of Try.func135 rfl (by decide)
theorem ok136 : CallOk Try.prog 136 := .of Try.func136 rfl (by decide)
theorem ok137 : CallOk Try.prog 137 := .of Try.func137 rfl (by decide)
theorem ok138 : CallOk Try.prog 138 := .of Try.func138 rfl (by decide)
theorem ok139 : CallOk Try.prog 139 := .of Try.func139 rfl (by decide)
theorem ok14 : CallOk Try.prog 14 := .of Try.func14 rfl (by decide)
theorem ok140 : CallOk Try.prog 140 := .of Try.func140 rfl (by decide)
theorem ok141 : CallOk Try.prog 141 := .of Try.func141 rfl (by decide)
theorem ok142 : CallOk Try.prog 142 := .of Try.func142 rfl (by decide)
theorem ok143 : CallOk Try.prog 143 := .of Try.func143 rfl (by decide)
theorem ok144 : CallOk Try.prog 144 := .of Try.func144 rfl (by decide)
theorem ok145 : CallOk Try.prog 145 := .of Try.func145 rfl (by decide)
theorem ok146 : CallOk Try.prog 146 := .of Try.func146 rfl (by decide)
theorem ok147 : CallOk Try.prog 147 := .of Try.func147 rfl (by decide)
theorem ok148 : CallOk Try.prog 148 := .of Try.func148 rfl (by decide)
theorem ok149 : CallOk Try.prog 149 := .of Try.func149 rfl (by decide)
theorem ok15 : CallOk Try.prog 15 := .of Try.func15 rfl (by decide)
theorem ok150 : CallOk Try.prog 150 := .of Try.func150 rfl (by decide)
theorem ok151 : CallOk Try.prog 151 := .of Try.func151 rfl (by decide)
theorem ok152 : CallOk Try.prog 152 := .of Try.func152 rfl (by decide)
theorem ok153 : CallOk Try.prog 153 := .of Try.func153 rfl (by decide)
theorem ok154 : CallOk Try.prog 154 := .of Try.func154 rfl (by decide)
theorem ok155 : CallOk Try.prog 155 := .of Try.func155 rfl (by decide)
theorem ok156 : CallOk Try.prog 156 := .of Try.func156 rfl (by decide)
theorem ok157 : CallOk Try.prog 157 := .of Try.func157 rfl (by decide)
theorem ok158 : CallOk Try.prog 158 := .of Try.func158 rfl (by decide)
theorem ok159 : CallOk Try.prog 159 := .of Try.func159 rfl (by decide)
theorem ok16 : CallOk Try.prog 16 := .of Try.func16 rfl (by decide)
theorem ok160 : CallOk Try.prog 160 := .of Try.func160 rfl (by decide)
theorem ok161 : CallOk Try.prog 161 := .of Try.func161 rfl (by decide)
theorem ok162 : CallOk Try.prog 162 := .of Try.func162 rfl (by decide)
theorem ok163 : CallOk Try.prog 163 := .of Try.func163 rfl (by decide)
theorem ok164 : CallOk Try.prog 164 := .of Try.func164 rfl (by decide)
theorem ok165 : CallOk Try.prog 165 := .of Try.func165 rfl (by decide)
theorem ok166 : CallOk Try.prog 166 := .of Try.func166 rfl (by decide)
theorem ok167 : CallOk Try.prog 167 := .of Try.func167 rfl (by decide)
theorem ok168 : CallOk Try.prog 168 := .of Try.func168 rfl (by decide)
theorem ok169 : CallOk Try.prog 169 := .of Try.func169 rfl (by decide)
theorem ok17 : CallOk Try.prog 17 := .of Try.func17 rfl (by decide)
theorem ok170 : CallOk Try.prog 170 := .of Try.func170 rfl (by decide)
theorem ok171 : CallOk Try.prog 171 := .of Try.func171 rfl (by decide)
theorem ok172 : CallOk Try.prog 172 := .of Try.func172 rfl (by decide)
theorem ok173 : CallOk Try.prog 173 := .of Try.func173 rfl (by decide)
theorem ok174 : CallOk Try.prog 174 := .of Try.func174 rfl (by decide)
theorem ok175 : CallOk Try.prog 175 := .of Try.func175 rfl (by decide)
theorem ok176 : CallOk Try.prog 176 := .of Try.func176 rfl (by decide)
theorem ok177 : CallOk Try.prog 177 := .of Try.func177 rfl (by decide)
theorem ok178 : CallOk Try.prog 178 := .of Try.func178 rfl (by decide)
theorem ok179 : CallOk Try.prog 179 := .of Try.func179 rfl (by decide)
theorem ok18 : CallOk Try.prog 18 := .of Try.func18 rfl (by decide)
theorem ok180 : CallOk Try.prog 180 := .of Try.func180 rfl (by decide)
theorem ok181 : CallOk Try.prog 181 := .of Try.func181 rfl (by decide)
theorem ok182 : CallOk Try.prog 182 := .of Try.func182 rfl (by decide)
theorem ok183 : CallOk Try.prog 183 := .of Try.func183 rfl (by decide)
theorem ok184 : CallOk Try.prog 184 := .of Try.func184 rfl (by decide)
theorem ok185 : CallOk Try.prog 185 := .of Try.func185 rfl (by decide)
theorem ok186 : CallOk Try.prog 186 := .of Try.func186 rfl (by decide)
theorem ok187 : CallOk Try.prog 187 := .of Try.func187 rfl (by decide)
theorem ok188 : CallOk Try.prog 188 := .of Try.func188 rfl (by decide)
theorem ok189 : CallOk Try.prog 189 := .of Try.func189 rfl (by decide)
theorem ok19 : CallOk Try.prog 19 := .of Try.func19 rfl (by decide)
theorem ok190 : CallOk Try.prog 190 := .of Try.func190 rfl (by decide)
theorem ok191 : CallOk Try.prog 191 := .of Try.func191 rfl (by decide)
theorem ok192 : CallOk Try.prog 192 := .of Try.func192 rfl (by decide)
theorem ok193 : CallOk Try.prog 193 := .of Try.func193 rfl (by decide)
theorem ok194 : CallOk Try.prog 194 := .of Try.func194 rfl (by decide)
theorem ok195 : CallOk Try.prog 195 := .of Try.func195 rfl (by decide)
theorem ok196 : CallOk Try.prog 196 := .of Try.func196 rfl (by decide)
theorem ok197 : CallOk Try.prog 197 := .of Try.func197 rfl (by decide)
theorem ok198 : CallOk Try.prog 198 := .of Try.func198 rfl (by decide)
theorem ok199 : CallOk Try.prog 199 := .of Try.func199 rfl (by decide)
theorem ok20 : CallOk Try.prog 20 := .of Try.func20 rfl (by decide)
theorem ok200 : CallOk Try.prog 200 := .of Try.func200 rfl (by decide)
theorem ok201 : CallOk Try.prog 201 := .of Try.func201 rfl (by decide)
theorem ok202 : CallOk Try.prog 202 := .of Try.func202 rfl (by decide)
theorem ok203 : CallOk Try.prog 203 := .of Try.func203 rfl (by decide)
theorem ok204 : CallOk Try.prog 204 := .of Try.func204 rfl (by decide)
theorem ok205 : CallOk Try.prog 205 := .of Try.func205 rfl (by decide)
theorem ok206 : CallOk Try.prog 206 := .of Try.func206 rfl (by decide)
theorem ok207 : CallOk Try.prog 207 := .of Try.func207 rfl (by decide)
theorem ok208 : CallOk Try.prog 208 := .of Try.func208 rfl (by decide)
theorem ok209 : CallOk Try.prog 209 := .of Try.func209 rfl (by decide)
theorem ok21 : CallOk Try.prog 21 := .of Try.func21 rfl (by decide)
theorem ok211 : CallOk Try.prog 211 := .of Try.func211 rfl (by decide)
theorem ok212 : CallOk Try.prog 212 := .of Try.func212 rfl (by decide)
theorem ok213 : CallOk Try.prog 213 := .of Try.func213 rfl (by decide)
theorem ok214 : CallOk Try.prog 214 := .of Try.func214 rfl (by decide)
theorem ok215 : CallOk Try.prog 215 := .of Try.func215 rfl (by decide)
theorem ok216 : CallOk Try.prog 216 := .of Try.func216 rfl (by decide)
theorem ok217 : CallOk Try.prog 217 := .of Try.func217 rfl (by decide)
theorem ok22 : CallOk Try.prog 22 := .of Try.func22 rfl (by decide)
theorem ok224 : CallOk Try.prog 224 := .of Try.func224 rfl (by decide)
theorem ok228 : CallOk Try.prog 228 := .of Try.func228 rfl (by decide)
theorem ok229 : CallOk Try.prog 229 := .of Try.func229 rfl (by decide)
theorem ok23 : CallOk Try.prog 23 := .of Try.func23 rfl (by decide)
theorem ok231 : CallOk Try.prog 231 := .of Try.func231 rfl (by decide)
theorem ok232 : CallOk Try.prog 232 := .of Try.func232 rfl (by decide)
theorem ok24 : CallOk Try.prog 24 := .of Try.func24 rfl (by decide)
theorem ok25 : CallOk Try.prog 25 := .of Try.func25 rfl (by decide)
theorem ok26 : CallOk Try.prog 26 := .of Try.func26 rfl (by decide)
theorem ok27 : CallOk Try.prog 27 := .of Try.func27 rfl (by decide)
theorem ok28 : CallOk Try.prog 28 := .of Try.func28 rfl (by decide)
theorem ok29 : CallOk Try.prog 29 := .of Try.func29 rfl (by decide)
theorem ok30 : CallOk Try.prog 30 := .of Try.func30 rfl (by decide)
theorem ok31 : CallOk Try.prog 31 := .of Try.func31 rfl (by decide)
theorem ok32 : CallOk Try.prog 32 := .of Try.func32 rfl (by decide)
theorem ok33 : CallOk Try.prog 33 := .of Try.func33 rfl (by decide)
theorem ok34 : CallOk Try.prog 34 := .of Try.func34 rfl (by decide)
theorem ok35 : CallOk Try.prog 35 := .of Try.func35 rfl (by decide)
theorem ok36 : CallOk Try.prog 36 := .of Try.func36 rfl (by decide)
theorem ok37 : CallOk Try.prog 37 := .of Try.func37 rfl (by decide)
theorem ok38 : CallOk Try.prog 38 := .of Try.func38 rfl (by decide)
theorem ok39 : CallOk Try.prog 39 := .of Try.func39 rfl (by decide)
theorem ok40 : CallOk Try.prog 40 := .of Try.func40 rfl (by decide)
theorem ok41 : CallOk Try.prog 41 := .of Try.func41 rfl (by decide)
theorem ok42 : CallOk Try.prog 42 := .of Try.func42 rfl (by decide)
theorem ok43 : CallOk Try.prog 43 := .of Try.func43 rfl (by decide)
theorem ok44 : CallOk Try.prog 44 := .of Try.func44 rfl (by decide)
theorem ok45 : CallOk Try.prog 45 := .of Try.func45 rfl (by decide)
theorem ok46 : CallOk Try.prog 46 := .of Try.func46 rfl (by decide)
theorem ok47 : CallOk Try.prog 47 := .of Try.func47 rfl (by decide)
theorem ok48 : CallOk Try.prog 48 := .of Try.func48 rfl (by decide)
theorem ok49 : CallOk Try.prog 49 := .of Try.func49 rfl (by decide)
theorem ok50 : CallOk Try.prog 50 := .of Try.func50 rfl (by decide)
theorem ok51 : CallOk Try.prog 51 := .of Try.func51 rfl (by decide)
theorem ok52 : CallOk Try.prog 52 := .of Try.func52 rfl (by decide)
theorem ok53 : CallOk Try.prog 53 := .of Try.func53 rfl (by decide)
theorem ok54 : CallOk Try.prog 54 := .of Try.func54 rfl (by decide)
theorem ok55 : CallOk Try.prog 55 := .of Try.func55 rfl (by decide)
theorem ok56 : CallOk Try.prog 56 := .of Try.func56 rfl (by decide)
theorem ok57 : CallOk Try.prog 57 := .of Try.func57 rfl (by decide)
theorem ok58 : CallOk Try.prog 58 := .of Try.func58 rfl (by decide)
theorem ok59 : CallOk Try.prog 59 := .of Try.func59 rfl (by decide)
theorem ok60 : CallOk Try.prog 60 := .of Try.func60 rfl (by decide)
theorem ok61 : CallOk Try.prog 61 := .of Try.func61 rfl (by decide)
theorem ok62 : CallOk Try.prog 62 := .of Try.func62 rfl (by decide)
theorem ok63 : CallOk Try.prog 63 := .of Try.func63 rfl (by decide)
theorem ok64 : CallOk Try.prog 64 := .of Try.func64 rfl (by decide)
theorem ok65 : CallOk Try.prog 65 := .of Try.func65 rfl (by decide)
theorem ok66 : CallOk Try.prog 66 := .of Try.func66 rfl (by decide)
theorem ok67 : CallOk Try.prog 67 := .of Try.func67 rfl (by decide)
theorem ok68 : CallOk Try.prog 68 := .of Try.func68 rfl (by decide)
theorem ok69 : CallOk Try.prog 69 := .of Try.func69 rfl (by decide)
theorem ok70 : CallOk Try.prog 70 := .of Try.func70 rfl (by decide)
theorem ok71 : CallOk Try.prog 71 := .of Try.func71 rfl (by decide)
theorem ok72 : CallOk Try.prog 72 := .of Try.func72 rfl (by decide)
theorem ok73 : CallOk Try.prog 73 := .of Try.func73 rfl (by decide)
theorem ok74 : CallOk Try.prog 74 := .of Try.func74 rfl (by decide)
theorem ok75 : CallOk Try.prog 75 := .of Try.func75 rfl (by decide)
theorem ok76 : CallOk Try.prog 76 := .of Try.func76 rfl (by decide)
theorem ok77 : CallOk Try.prog 77 := .of Try.func77 rfl (by decide)
theorem ok78 : CallOk Try.prog 78 := .of Try.func78 rfl (by decide)
theorem ok79 : CallOk Try.prog 79 := .of Try.func79 rfl (by decide)
theorem ok8 : CallOk Try.prog 8 := .of Try.func8 rfl (by decide)
theorem ok80 : CallOk Try.prog 80 := .of Try.func80 rfl (by decide)
theorem ok81 : CallOk Try.prog 81 := .of Try.func81 rfl (by decide)
theorem ok82 : CallOk Try.prog 82 := .of Try.func82 rfl (by decide)
theorem ok83 : CallOk Try.prog 83 := .of Try.func83 rfl (by decide)
theorem ok84 : CallOk Try.prog 84 := .of Try.func84 rfl (by decide)
theorem ok85 : CallOk Try.prog 85 := .of Try.func85 rfl (by decide)
theorem ok86 : CallOk Try.prog 86 := .of Try.func86 rfl (by decide)
theorem ok87 : CallOk Try.prog 87 := .of Try.func87 rfl (by decide)
theorem ok88 : CallOk Try.prog 88 := .of Try.func88 rfl (by decide)
theorem ok89 : CallOk Try.prog 89 := .of Try.func89 rfl (by decide)
theorem ok9 : CallOk Try.prog 9 := .of Try.func9 rfl (by decide)
theorem ok90 : CallOk Try.prog 90 := .of Try.func90 rfl (by decide)
theorem ok91 : CallOk Try.prog 91 := .of Try.func91 rfl (by decide)
theorem ok92 : CallOk Try.prog 92 := .of Try.func92 rfl (by decide)
theorem ok93 : CallOk Try.prog 93 := .of Try.func93 rfl (by decide)
theorem ok94 : CallOk Try.prog 94 := .of Try.func94 rfl (by decide)
theorem ok95 : CallOk Try.prog 95 := .of Try.func95 rfl (by decide)
theorem ok96 : CallOk Try.prog 96 := .of Try.func96 rfl (by decide)
theorem ok97 : CallOk Try.prog 97 := .of Try.func97 rfl (by decide)
theorem ok98 : CallOk Try.prog 98 := .of Try.func98 rfl (by decide)
theorem ok99 : CallOk Try.prog 99 := .of Try.func99 rfl (by decide)
theorem on25 {w0 : World} {M : Nat → Prop} {rs rest : List Res} {S : Nat → Prop} {v : Value} {l : List (List Int)} {i : Nat} {x : List Int} (is js : List Nat) (hp : Ga.pick rs (is ++ js) = some (R.sl S v l :: rest)) (hn : noDup (is ++ js) = true) (hx : l[i]? = some x) :
    ∀ w, Sep w0 M rs w → ∃ C', C' w ∧ ∃ (v0 : Value) (S0 : Nat → Prop) (Sr : Nat → Prop), SlLen v0 (x).length ∧ (∀ b, S b ↔ (S0 b) ∨ Sr b) ∧ C' = Sep w0 M (R.sl S0 v0 x :: R.hole Sr v l i [v0] :: rest) := by
  intro w hw
  obtain ⟨cs, Se, Sr, ho, hh, h1, h2, h3⟩ := SlOwn.open (show SlOwn w S v l from (hw.pick hp hn).ok _ (List.mem_cons_self ..)) hx
  obtain ⟨v0, rfl, f0⟩ := ho
  have hs0 : ∀ b, Se b → Se b := fun b hb => hb
  have hw1 : Sep w0 M ([R.sl S v l] ++ rest) w := hw.pick hp hn
  refine ⟨_, Sep.repl (ns := [R.sl Se v0 x, R.hole (fun b => S b ∧ ¬ (Se b)) v l i [v0]]) hw1 ?_ ?_ ?_, v0, Se, (fun b => S b ∧ ¬ (Se b)), (SlOwn.rd f0).len, fun b => ⟨fun hb => ?_, fun hb => ?_⟩, rfl⟩
  · intro r hr; simp only [List.mem_cons, List.not_mem_nil, or_false] at hr; rcases hr with rfl | rfl
    · exact f0
    · exact hh.mono (fun b hb => ⟨h2 b hb, fun h => h3 b (hs0 b h) hb⟩)
  · refine .cons (fun s hs b hb hb2 => ?_) (.cons (fun s hs => by cases hs) .nil)
    rw [List.mem_singleton.1 hs] at hb2; exact hb2.2 hb
  · intro r hr b hb; simp only [List.mem_cons, List.not_mem_nil, or_false] at hr; refine ⟨_, List.mem_cons_self .., ?_⟩; rcases hr with rfl | rfl
    · exact h1 b (hs0 b hb)
    · exact hb.1
  · by_cases hc : Se b
    · exact .inl hc
    · exact .inr ⟨hb, hc⟩
  · rcases hb with hb | hb
    · exact h1 b (hs0 b hb)
    · exact hb.1
theorem on27 {w0 : World} {M : Nat → Prop} {rs rest : List Res} {S : Nat → Prop} {v : Value} {l : List (Int × List (Int × Int × Int) × List Int)} {i : Nat} {x : Int × List (Int × Int × Int) × List Int} (is js : List Nat) (hp : Ga.pick rs (is ++ js) = some (R.sl S v l :: rest)) (hn : noDup (is ++ js) = true) (hx : l[i]? = some x) :
    ∀ w, Sep w0 M rs w → ∃ C', C' w ∧ ∃ (v1 : Value) (S1 : Nat → Prop) (v2 : Value) (S2 : Nat → Prop) (Sr : Nat → Prop), SlLen v1 (x.2.1).length ∧ SlLen v2 (x.2.2).length ∧ (∀ b, S b ↔ (S1 b ∨ S2 b) ∨ Sr b) ∧ C' = Sep w0 M (R.sl S1 v1 x.2.1 :: R.sl S2 v2 x.2.2 :: R.hole Sr v l i [.int .i64 x.1, v1, v2] :: rest) := by
  intro w hw
  obtain ⟨cs, Se, Sr, ho, hh, h1, h2, h3⟩ := SlOwn.open (show SlOwn w S v l from (hw.pick hp hn).ok _ (List.mem_cons_self ..)) hx
  obtain ⟨c0, d0, rfl, S0, U0, hd0, ha0, hb0, f0, g1⟩ := ho
  obtain ⟨c1, d1, rfl, S1, U1, hd1, ha1, hb1, ⟨v1, rfl, f1⟩, g2⟩ := g1
  obtain ⟨v2, rfl, f2⟩ := g2
  obtain rfl := Flat.own_iff.1 f0
  have hs1 : ∀ b, S1 b → Se b := fun b hb => hb0 b (ha1 b hb)
  have hs2 : ∀ b, U1 b → Se b := fun b hb => hb0 b (hb1 b hb)
  have hdis : ∀ b, S1 b → U1 b → False := fun b hj hq => hd1 b hj (hq)
  have hw1 : Sep w0 M ([R.sl S v l] ++ rest) w := hw.pick hp hn
  refine ⟨_, Sep.repl (ns := [R.sl S1 v1 x.2.1, R.sl U1 v2 x.2.2, R.hole (fun b => S b ∧ ¬ (S1 b ∨ U1 b)) v l i [.int .i64 x.1, v1, v2]]) hw1 ?_ ?_ ?_, v1, S1, v2, U1, (fun b => S b ∧ ¬ (S1 b ∨ U1 b)), (SlOwn.rd f1).len, (SlOwn.rd f2).len, fun b => ⟨fun hb => ?_, fun hb => ?_⟩, rfl⟩
  · intro r hr; simp only [List.mem_cons, List.not_mem_nil, or_false] at hr; rcases hr with rfl | rfl | rfl
    · exact f1
    · exact f2
    · exact hh.mono (fun b hb => ⟨h2 b hb, fun h => by rcases h with h | h; exact h3 b (hs1 b h) hb; exact h3 b (hs2 b h) hb⟩)
  · refine .cons (fun s hs b hb hb2 => ?_) (.cons (fun s hs b hb hb2 => ?_) (.cons (fun s hs => by cases hs) .nil))
    · simp only [List.mem_cons, List.not_mem_nil, or_false] at hs; rcases hs with rfl | rfl
      · exact hdis b hb hb2
      · exact hb2.2 (.inl hb)
    · rw [List.mem_singleton.1 hs] at hb2; exact hb2.2 (.inr hb)
  · intro r hr b hb; simp only [List.mem_cons, List.not_mem_nil, or_false] at hr; refine ⟨_, List.mem_cons_self .., ?_⟩; rcases hr with rfl | rfl | rfl
    · exact h1 b (hs1 b hb)
    · exact h1 b (hs2 b hb)
    · exact hb.1
  · by_cases hc : S1 b ∨ U1 b
    · exact .inl hc
    · exact .inr ⟨hb, hc⟩
  · rcases hb with (hb | hb) | hb
    · exact h1 b (hs1 b hb)
    · exact h1 b (hs2 b hb)
    · exact hb.1
theorem op25 {w : World} {cs : List Value} {t : List Int} (h : rep w (fun _ => True) cs t) : ∃ v0 : Value, cs = [v0] ∧ Rd w v0 t := by
  obtain ⟨v0, rfl, h0⟩ := h
  exact ⟨v0, rfl, h0⟩
theorem op27 {w : World} {cs : List Value} {t : Int × List (Int × Int × Int) × List Int} (h : rep w (fun _ => True) cs t) : ∃ v1 v2 : Value, cs = [.int .i64 t.1, v1, v2] ∧ Rd w v1 t.2.1 ∧ Rd w v2 t.2.2 := by
  obtain ⟨_, _, rfl, h0, ⟨_, _, rfl, ⟨v1, rfl, h1⟩, ⟨v2, rfl, h2⟩⟩⟩ := h
  rw [Flat.rp h0]
  exact ⟨v1, v2, rfl, h1, h2⟩
theorem ta117 : TAgg Try.prog 117 true := .of (by kernel_rfl)
theorem ta121 : TAgg Try.prog 121 true := .of (by kernel_rfl)
theorem ta123 : TAgg Try.prog 123 true := .of (by kernel_rfl)
theorem ta125 : TAgg Try.prog 125 true := .of (by kernel_rfl)
theorem ta145 : TAgg Try.prog 145 true := .of (by kernel_rfl)
theorem ta148 : TAgg Try.prog 148 true := .of (by kernel_rfl)
theorem ta22 : TAgg Try.prog 22 false := .of (by kernel_rfl)
theorem ta24 : TAgg Try.prog 24 false := .of (by kernel_rfl)
theorem ta25 : TAgg Try.prog 25 false := .of (by kernel_rfl)
theorem ta27 : TAgg Try.prog 27 true := .of (by kernel_rfl)
theorem ta3 : TAgg Try.prog 3 false := .of (by kernel_rfl)
theorem ta4 : TAgg Try.prog 4 false := .of (by kernel_rfl)
theorem ta5 : TAgg Try.prog 5 false := .of (by kernel_rfl)
theorem ta64 : TAgg Try.prog 64 true := .of (by kernel_rfl)
theorem ta66 : TAgg Try.prog 66 true := .of (by kernel_rfl)
theorem ta82 : TAgg Try.prog 82 false := .of (by kernel_rfl)
theorem ta83 : TAgg Try.prog 83 false := .of (by kernel_rfl)
theorem ta85 : TAgg Try.prog 85 true := .of (by kernel_rfl)
theorem ta98 : TAgg Try.prog 98 false := .of (by kernel_rfl)
theorem tf100_0 : TField Try.prog 100 0 0 := .of (k := 0) (by kernel_rfl)
theorem tf100_1 : TField Try.prog 100 1 1 := .of (k := 0) (by kernel_rfl)
theorem tf100_2 : TField Try.prog 100 2 2 := .of (k := 0) (by kernel_rfl)
theorem tf117_0 : TField Try.prog 117 0 0 := .of (k := 0) (by kernel_rfl)
theorem tf117_1 : TField Try.prog 117 1 1 := .of (k := 0) (by kernel_rfl)
theorem tf145_0 : TField Try.prog 145 0 0 := .of (k := 0) (by kernel_rfl)
theorem tf145_1 : TField Try.prog 145 1 1 := .of (k := 0) (by kernel_rfl)
theorem tf148_0 : TField Try.prog 148 0 0 := .of (k := 0) (by kernel_rfl)
theorem tf148_1 : TField Try.prog 148 1 1 := .of (k := 0) (by kernel_rfl)
theorem tf148_2 : TField Try.prog 148 2 2 := .of (k := 0) (by kernel_rfl)
theorem tf27_0 : TField Try.prog 27 0 0 := .of (k := 0) (by kernel_rfl)
theorem tf27_1 : TField Try.prog 27 1 1 := .of (k := 0) (by kernel_rfl)
theorem tf27_2 : TField Try.prog 27 2 2 := .of (k := 0) (by kernel_rfl)
theorem tf66_0 : TField Try.prog 66 0 0 := .of (k := 2) (by kernel_rfl)
theorem tf66_1 : TField Try.prog 66 1 3 := .of (k := 0) (by kernel_rfl)
theorem tf85_0 : TField Try.prog 85 0 0 := .of (k := 0) (by kernel_rfl)
theorem tf85_1 : TField Try.prog 85 1 1 := .of (k := 0) (by kernel_rfl)
theorem ti100 : TInfo Try.prog 100 3 40 (.agg #[.slice none 0 0, .int .i64 0, .int .u64 0]) := .of (by kernel_rfl)
theorem ti117 : TInfo Try.prog 117 2 16 (.agg #[.int .i64 0, .int .i64 0]) := .of (by kernel_rfl)
theorem ti121 : TInfo Try.prog 121 3 24 (.agg #[.int .i64 0, .int .i64 0, .int .i64 0]) := .of (by kernel_rfl)
theorem ti123 : TInfo Try.prog 123 64 512 (.agg (encA (Arr.rep 64 0)).toArray) := .of (by kernel_rfl)
theorem ti125 : TInfo Try.prog 125 768 6144 (.agg (encA (Arr.rep 768 0)).toArray) := .of (by kernel_rfl)
theorem ti145 : TInfo Try.prog 145 2 48 (.agg #[.slice none 0 0, .slice none 0 0]) := .of (by kernel_rfl)
theorem ti148 : TInfo Try.prog 148 3 72 (.agg #[.slice none 0 0, .slice none 0 0, .slice none 0 0]) := .of (by kernel_rfl)
theorem ti207 : TInfo Try.prog 207 1 8 (.int .u64 0) := .of (by kernel_rfl)
theorem ti24 : TInfo Try.prog 24 1 24 (.slice none 0 0) := .of (by kernel_rfl)
theorem ti25 : TInfo Try.prog 25 1 24 (.slice none 0 0) := .of (by kernel_rfl)
theorem ti27 : TInfo Try.prog 27 3 56 (.agg #[.int .i64 0, .slice none 0 0, .slice none 0 0]) := .of (by kernel_rfl)
theorem ti3 : TInfo Try.prog 3 1 8 (.int .i64 0) := .of (by kernel_rfl)
theorem ti4 : TInfo Try.prog 4 1 1 (.bool false) := .of (by kernel_rfl)
theorem ti5 : TInfo Try.prog 5 1 1 (.int .u8 0) := .of (by kernel_rfl)
theorem ti64 : TInfo Try.prog 64 2 16 (.agg #[.int .i64 0, .int .i64 0]) := .of (by kernel_rfl)
theorem ti66 : TInfo Try.prog 66 4 80 (.agg #[.int .i64 0, .slice none 0 0, .slice none 0 0, .slice none 0 0]) := .of (by kernel_rfl)
theorem ti82 : TInfo Try.prog 82 1 24 (.slice none 0 0) := .of (by kernel_rfl)
theorem ti83 : TInfo Try.prog 83 1 24 (.slice none 0 0) := .of (by kernel_rfl)
theorem ti85 : TInfo Try.prog 85 2 48 (.agg #[.slice none 0 0, .slice none 0 0]) := .of (by kernel_rfl)
theorem ti98 : TInfo Try.prog 98 1 8 (.int .u64 0) := .of (by kernel_rfl)
end Go.Proofs

/- loop.example/g01158/laws.vBig -/

namespace Go.Proofs
open Go Go.Ga
set_option linter.unusedVariables false
set_option maxRecDepth 100000
set_option maxHeartbeats 4000000
def laws_vBig.f (k : Nat) (a0 : List By) : Option (Bool) := some (decide ((a0.length : Int) > 65536))

theorem laws_vBig.ok {k : Nat}  {a0 : List By} {r0 : Bool} (h : laws_vBig.f k a0 = some r0) (w : World) {va0 : Value} (hr_a0 : Rd w va0 a0) :
    Calls Try.prog 8 ([va0] : List Value).toArray w (fun e w' => e = .returned (.bool r0) ∧ Ext w w') := by
  unfold laws_vBig.f at h
  have hl_va0 := hr_a0.len
  refine Calls.of_tri (N := 6) Try.func8 rfl rfl rfl (Sep.nil (M := noM)) ?_
  refine Tri.seq ?_
  refine Tri.reg (l := [0]) rfl ?_
  refine F.q rfl rfl rfl (wanted_none rfl) (r_assign rfl) ?_
  refine F.nil ?_
  refine Nrm.seq ?_
  refine Tri.seq ?_
  refine Tri.reg (l := [0, 1, 2, 3]) rfl ?_
  refine F.q rfl rfl rfl (wanted_none rfl) (r_move rfl) ?_
  refine F.q rfl rfl rfl (wanted_none rfl) (r_len Try.underlying22 rfl hl_va0) ?_
  refine F.q rfl rfl rfl (wanted_none rfl) (r_gtr rfl rfl) ?_
  refine F.q rfl rfl rfl (wanted_none rfl) (r_assign rfl) ?_
  refine F.nil ?_
  refine Nrm.seq ?_
  refine Tri.ret ?_
  cases h
  exact Rtn.body (.tmp rfl .nil) (fun w hw => ⟨rfl, hw.ext⟩)

end Go.Proofs

/- loop.example/g01158/spec.l1In -/

namespace Go.Proofs
open Go Go.Ga
set_option linter.unusedVariables false
set_option maxRecDepth 100000
set_option maxHeartbeats 4000000
def spec_l1In.f (k : Nat) (a0 : Int) (a1 : Int) (a2 : Int) : Option (Bool) := ((if (decide (a0 ≥ a1)) = true then some (decide (a0 ≤ a2)) else some false)).bind fun y6 => some y6

theorem spec_l1In.ok {k : Nat}  {a0 : Int} {a1 : Int} {a2 : Int} {r0 : Bool} (h : spec_l1In.f k a0 a1 a2 = some r0) (w : World) :
    Calls Try.prog 105 ([.int .i64 a0, .int .i64 a1, .int .i64 a2] : List Value).toArray w (fun e w' => e = .returned (.bool r0) ∧ Ext w w') := by
  unfold spec_l1In.f at h
  refine Calls.of_tri (N := 15) Try.func105 rfl rfl rfl (Sep.nil (M := noM)) ?_
  refine Tri.seq ?_
  refine Tri.reg (l := [0]) rfl ?_
  refine F.q rfl rfl rfl (wanted_none rfl) (r_assign rfl) ?_
  refine F.nil ?_
  refine Nrm.seq ?_
  refine Tri.seq ?_
  obtain ⟨y6, hE_1, h⟩ := bind_some h
  refine Tri.cut (fun e' C' => e' = [(6, .bool y6)] ∧ C' = Sep w noM []) ?_ (fun hj_1 => ?_)
  · rintro _ _ ⟨rfl, rfl⟩
    refine Nrm.seq ?_
    refine Tri.ret ?_
    cases h
    exact Rtn.body (.tmp rfl .nil) (fun w hw => ⟨rfl, hw.ext⟩)
  · rcases Bool.eq_false_or_eq_true (decide (a0 ≥ a1)) with g10 | g10
    · replace hE_1 := if_tt g10 hE_1
      refine Tri.reg (l := [0, 1, 2, 3, 4, 5, 6, 7, 8]) rfl ?_
      refine F.q rfl rfl rfl (wanted_none rfl) (r_move rfl) ?_
      refine F.q rfl rfl rfl (wanted_none rfl) (r_move rfl) ?_
      refine F.q rfl rfl rfl (wanted_none rfl) (r_geq rfl rfl) ?_
      refine F.q rfl rfl rfl (wanted_none rfl) (r_move rfl) ?_
      refine F.q rfl rfl rfl (wg rfl rfl rfl g10) (r_move rfl) ?_
      refine F.q rfl rfl rfl (wg rfl rfl rfl g10) (r_move rfl) ?_
      refine F.q rfl rfl rfl (wg rfl rfl rfl g10) (r_leq rfl rfl) ?_
      refine F.q rfl rfl rfl (wanted_none rfl) (r_pick rfl rfl g10) ?_
      refine F.q rfl rfl rfl (wanted_none rfl) (r_assign rfl) ?_
      refine F.nil ?_
      cases hE_1
      refine Nrm.only [6] rfl ?_
      refine Nrm.pick [] rfl rfl ?_
      exact hj_1 _ _ ⟨rfl, rfl⟩
    · replace hE_1 := if_ff g10 hE_1
      refine Tri.reg (l := [0, 1, 2, 3, 4, 5, 6, 7, 8]) rfl ?_
      refine F.q rfl rfl rfl (wanted_none rfl) (r_move rfl) ?_
      refine F.q rfl rfl rfl (wanted_none rfl) (r_move rfl) ?_
      refine F.q rfl rfl rfl (wanted_none rfl) (r_geq rfl rfl) ?_
      refine F.q rfl rfl rfl (wanted_none rfl) (r_move rfl) ?_
      refine F.sk rfl rfl rfl (wf rfl rfl rfl g10) ?_
      refine F.sk rfl rfl rfl (wf rfl rfl rfl g10) ?_
      refine F.sk rfl rfl rfl (wf rfl rfl rfl g10) ?_
      refine F.q rfl rfl rfl (wanted_none rfl) (r_pickf rfl rfl g10) ?_
      refine F.q rfl rfl rfl (wanted_none rfl) (r_assign rfl) ?_
      refine F.nil ?_
      cases hE_1
      refine Nrm.only [6] rfl ?_
      refine Nrm.pick [] rfl rfl ?_
      exact hj_1 _ _ ⟨rfl, rfl⟩

end Go.Proofs

/- loop.example/g01158/spec.l2Set -/
namespace Go.Proofs
open Go Go.Ga
set_option linter.unusedVariables false
set_option maxRecDepth 100000
set_option maxHeartbeats 4000000
def spec_l2Set.f (k : Nat) (a0 : Int) : Option (Bool) := (spec_l1In.f k a0 0 63).bind fun t4 => some t4

theorem spec_l2Set.ok {k : Nat}  {a0 : Int} {r0 : Bool} (h : spec_l2Set.f k a0 = some r0) (w : World) :
    Calls Try.prog 92 ([.int .i64 a0] : List Value).toArray w (fun e w' => e = .returned (.bool r0) ∧ Ext w w') := by
  unfold spec_l2Set.f at h
  refine Calls.of_tri (N := 5) Try.func92 rfl rfl rfl (Sep.nil (M := noM)) ?_
  refine Tri.seq ?_
  refine Tri.reg (l := [0]) rfl ?_
  refine F.q rfl rfl rfl (wanted_none rfl) (r_assign rfl) ?_
  refine F.nil ?_
  refine Nrm.seq ?_
  refine Tri.seq ?_
  obtain ⟨t4, h4, h⟩ := bind_some h
  refine Tri.reg (l := [0, 1, 2]) rfl ?_
  refine F.q rfl rfl rfl (wanted_none rfl) (r_move rfl) ?_
  refine F.qc rfl rfl rfl (wanted_none rfl) (q_callF (xs := _) rfl ok105 rfl rfl (fun w hw => spec_l1In.ok h4 w )) ?_
  refine F.q rfl rfl rfl (wanted_none rfl) (r_assign rfl) ?_
  refine F.nil ?_
  refine Nrm.seq ?_
  refine Tri.ret ?_
  cases h
  exact Rtn.body (.tmp rfl .nil) (fun w hw => ⟨rfl, hw.ext⟩)

end Go.Proofs

/- (*loop.example/g01158/spec.l1Cur).next -/

namespace Go.Proofs
open Go Go.Ga
set_option linter.unusedVariables false
set_option maxRecDepth 100000
set_option maxHeartbeats 4000000
def spec_l1Cur_next.f (k : Nat) (a0_0 : List By) (a0_1 : Int) (a0_2 : Int) : Option (Int × Int × Int) := ((if (decide (a0_1 < (a0_0.length : Int))) = true then (rdl a0_0 a0_1).bind fun t22 => some (IntKind.i64.wrap t22.v) else some 0)).bind fun y3 => (if (decide ((w64 (a0_1 + 1)) ≤ (a0_0.length : Int))) = true then some (y3, w64 (a0_1 + 1), wU ((wU ((wU (a0_2 * 6364136223846793005)) + (IntKind.u64.wrap y3))) + 462197)) else some (IntKind.i64.wrap (uand (shr (wU ((wU ((wU (a0_2 * 6364136223846793005)) + (IntKind.u64.wrap y3))) + 462197)) 40) 255), w64 (a0_1 + 1), wU ((wU ((wU (a0_2 * 6364136223846793005)) + (IntKind.u64.wrap y3))) + 462197)))

theorem spec_l1Cur_next.ok {k : Nat}  {a0_0 : List By} {a0_1 : Int} {a0_2 : Int} {r0 : Int} {r1 : Int} {r2 : Int} (h : spec_l1Cur_next.f k a0_0 a0_1 a0_2 = some (r0, r1, r2)) (w : World) {pa0 : Nat} {va0_0 : Value} (hr_a0_0 : RdM w (footM [R.box pa0 100 [va0_0, .int .i64 a0_1, .int .u64 a0_2]]) va0_0 a0_0) (hw0 : Sep w (footM [R.box pa0 100 [va0_0, .int .i64 a0_1, .int .u64 a0_2]]) [R.box pa0 100 [va0_0, .int .i64 a0_1, .int .u64 a0_2]] w) :
    Calls Try.prog 169 ([.pointer (some ⟨pa0, 0, none⟩)] : List Value).toArray w (PostM (footM [R.box pa0 100 [va0_0, .int .i64 a0_1, .int .u64 a0_2]]) (fun u ns => u = .int .i64 r0 ∧ ns = [R.box pa0 100 [va0_0, .int .i64 r1, .int .u64 r2]]) w) := by
  unfold spec_l1Cur_next.f at h
  have hl_va0_0 := hr_a0_0.len
  refine Calls.of_tri (N := 62) Try.func169 rfl rfl rfl hw0 ?_
  refine Tri.seq ?_
  refine Tri.reg (l := [0]) rfl ?_
  refine F.q rfl rfl rfl (wanted_none rfl) (r_assign rfl) ?_
  refine F.nil ?_
  refine Nrm.seq ?_
  refine Tri.seq ?_
  refine Tri.reg (l := [0]) rfl ?_
  refine F.q rfl rfl rfl (wanted_none rfl) (r_assign rfl) ?_
  refine F.nil ?_
  refine Nrm.seq ?_
  refine Tri.seq ?_
  refine Tri.seq ?_
  refine Tri.drawA mixedT Sep.up [(0, true), (1, true), (2, true), (3, true), (4, true), (5, true), (6, true), (7, true), (8, true), (9, true)] [] (by kernel_rfl) ?_
  refine S.q rfl rfl rfl (wanted_none rfl) (r_move rfl) ?_
  refine S.q rfl rfl rfl (wanted_none rfl) (r_nilC rfl) ?_
  refine S.q rfl rfl rfl (wanted_none rfl) (r_fieldAddr tf100_1 rfl) ?_
  refine S.q rfl rfl rfl (wanted_none rfl) (r_load ta3 rfl (fun w hw => cell_1 (box_cells (i := 0) rfl w hw) rfl)) ?_
  refine S.q rfl rfl rfl (wanted_none rfl) (r_move rfl) ?_
  refine S.q rfl rfl rfl (wanted_none rfl) (r_nilC rfl) ?_
  refine S.q rfl rfl rfl (wanted_none rfl) (r_fieldAddr tf100_0 rfl) ?_
  refine S.q rfl rfl rfl (wanted_none rfl) (r_load ta22 rfl (fun w hw => cell_1 (box_cells (i := 0) rfl w hw) rfl)) ?_
  refine S.q rfl rfl rfl (wanted_none rfl) (r_len Try.underlying22 rfl hl_va0_0) ?_
  refine S.q rfl rfl rfl (wanted_none rfl) (r_lss rfl rfl) ?_
  refine S.nil ?_
  refine F.nil ?_
  refine Nrm.seq ?_
  obtain ⟨y3, hE_1, h⟩ := bind_some h
  refine Tri.cut (fun e' C' => e' = [(0, .pointer (some ⟨pa0, 0, none⟩)), (3, .int .i64 y3)] ∧ C' = Sep w (footM [R.box pa0 100 [va0_0, .int .i64 a0_1, .int .u64 a0_2]]) [R.box pa0 100 [va0_0, .int .i64 a0_1, .int .u64 a0_2]]) ?_ (fun hj_1 => ?_)
  · rintro _ _ ⟨rfl, rfl⟩
    refine Nrm.seq ?_
    refine Tri.seq ?_
    refine Tri.reg (l := [0, 1, 2, 3, 4, 5, 6, 7]) rfl ?_
    refine F.q rfl rfl rfl (wanted_none rfl) (r_move rfl) ?_
    refine F.q rfl rfl rfl (wanted_none rfl) (r_nilC rfl) ?_
    refine F.q rfl rfl rfl (wanted_none rfl) (r_fieldAddr tf100_1 rfl) ?_
    refine F.q rfl rfl rfl (wanted_none rfl) (r_load ta3 rfl (fun w hw => cell_1 (box_cells (i := 0) rfl w hw) rfl)) ?_
    refine F.q rfl rfl rfl (wanted_none rfl) (r_add rfl rfl) ?_
    refine F.q rfl rfl rfl (wanted_none rfl) (r_nilC rfl) ?_
    refine F.q rfl rfl rfl (wanted_none rfl) (r_fieldAddr tf100_1 rfl) ?_
    refine F.ef0 rfl rfl (wanted_none rfl) (d_storeG1 (i := 0) (cs2 := [.int .i64 (w64 (a0_1 + 1))]) ti3 rfl rfl rfl rfl rfl (Nat.le_of_ble_eq_true rfl) (lf_cons rfl lf_nil)) ?_
    rintro _ _ ⟨rfl, rfl⟩
    refine F.nil ?_
    refine Nrm.seq ?_
    refine Tri.seq ?_
    refine Tri.reg (l := [0, 1, 2, 3, 4, 5, 6, 7, 8, 9, 10, 11, 12]) rfl ?_
    refine F.q rfl rfl rfl (wanted_none rfl) (r_move rfl) ?_
    refine F.q rfl rfl rfl (wanted_none rfl) (r_move rfl) ?_
    refine F.q rfl rfl rfl (wanted_none rfl) (r_nilC rfl) ?_
    refine F.q rfl rfl rfl (wanted_none rfl) (r_fieldAddr tf100_2 rfl) ?_
    refine F.q rfl rfl rfl (wanted_none rfl) (r_load ta98 rfl (fun w hw => cell_1 (box_cells (i := 0) rfl w hw) rfl)) ?_
    refine F.q rfl rfl rfl (wanted_none rfl) (r_mulU rfl rfl) ?_
    refine F.q rfl rfl rfl (wanted_none rfl) (r_move rfl) ?_
    refine F.q rfl rfl rfl (wanted_none rfl) (r_conv Try.underlying3 Try.underlying98 rfl) ?_
    refine F.q rfl rfl rfl (wanted_none rfl) (r_addU rfl rfl) ?_
    refine F.q rfl rfl rfl (wanted_none rfl) (r_addU rfl rfl) ?_
    refine F.q rfl rfl rfl (wanted_none rfl) (r_nilC rfl) ?_
    refine F.q rfl rfl rfl (wanted_none rfl) (r_fieldAddr tf100_2 rfl) ?_
    refine F.ef0 rfl rfl (wanted_none rfl) (d_storeG1 (i := 0) (cs2 := [.int .u64 (wU ((wU ((wU (a0_2 * 6364136223846793005)) + (IntKind.u64.wrap y3))) + 462197))]) ti98 rfl rfl rfl rfl rfl (Nat.le_of_ble_eq_true rfl) (lf_cons rfl lf_nil)) ?_
    rintro _ _ ⟨rfl, rfl⟩
    refine F.nil ?_
    refine Nrm.seq ?_
    refine Tri.seq ?_
    refine Tri.seq ?_
    refine Tri.drawA mixedT Sep.up [(0, true), (1, true), (2, true), (3, true), (4, true), (5, true), (6, true), (7, true), (8, true), (9, true)] [] (by kernel_rfl) ?_
    refine S.q rfl rfl rfl (wanted_none rfl) (r_move rfl) ?_
    refine S.q rfl rfl rfl (wanted_none rfl) (r_nilC rfl) ?_
    refine S.q rfl rfl rfl (wanted_none rfl) (r_fieldAddr tf100_1 rfl) ?_
    refine S.q rfl rfl rfl (wanted_none rfl) (r_load ta3 rfl (fun w hw => cell_1 (box_cells (i := 0) rfl w hw) rfl)) ?_
    refine S.q rfl rfl rfl (wanted_none rfl) (r_move rfl) ?_
    refine S.q rfl rfl rfl (wanted_none rfl) (r_nilC rfl) ?_
    refine S.q rfl rfl rfl (wanted_none rfl) (r_fieldAddr tf100_0 rfl) ?_
    refine S.q rfl rfl rfl (wanted_none rfl) (r_load ta22 rfl (fun w hw => cell_1 (box_cells (i := 0) rfl w hw) rfl)) ?_
    refine S.q rfl rfl rfl (wanted_none rfl) (r_len Try.underlying22 rfl hl_va0_0) ?_
    refine S.q rfl rfl rfl (wanted_none rfl) (r_leq rfl rfl) ?_
    refine S.nil ?_
    refine F.nil ?_
    refine Nrm.seq ?_
    refine Tri.cond (b := decide ((w64 (a0_1 + 1)) ≤ (a0_0.length : Int))) rfl (fun g_2 => ?_) (fun g_2 => ?_)
    · replace h := if_tt g_2 h
      refine Tri.seq ?_
      refine Tri.reg (l := [0, 1]) rfl ?_
      refine F.q rfl rfl rfl (wanted_none rfl) (r_move rfl) ?_
      refine F.q rfl rfl rfl (wanted_none rfl) (r_assign rfl) ?_
      refine F.nil ?_
      refine Nrm.seq ?_
      refine Tri.ret ?_
      refine Rtn.then ?_
      cases h
      exact Rtn.body (.tmp rfl .nil) (fun w hw => ⟨_, _, rfl, ⟨rfl, rfl⟩, Sep.pick (is := [0]) rfl rfl hw⟩)
    · replace h := if_ff g_2 h
      refine Tri.skip ?_
      refine Nrm.seq ?_
      refine Tri.seq ?_
      refine Tri.reg (l := [0, 1, 2, 3, 4, 5, 6, 7]) rfl ?_
      refine F.q rfl rfl rfl (wanted_none rfl) (r_move rfl) ?_
      refine F.q rfl rfl rfl (wanted_none rfl) (r_nilC rfl) ?_
      refine F.q rfl rfl rfl (wanted_none rfl) (r_fieldAddr tf100_2 rfl) ?_
      refine F.q rfl rfl rfl (wanted_none rfl) (r_load ta98 rfl (fun w hw => cell_1 (box_cells (i := 0) rfl w hw) rfl)) ?_
      refine F.q rfl rfl rfl (wanted_none rfl) (r_shrU rfl rfl (by decide)) ?_
      refine F.q rfl rfl rfl (wanted_none rfl) (r_andU rfl rfl) ?_
      refine F.q rfl rfl rfl (wanted_none rfl) (r_conv Try.underlying98 Try.underlying3 rfl) ?_
      refine F.q rfl rfl rfl (wanted_none rfl) (r_assign rfl) ?_
      refine F.nil ?_
      refine Nrm.seq ?_
      refine Tri.ret ?_
      cases h
      exact Rtn.body (.tmp rfl .nil) (fun w hw => ⟨_, _, rfl, ⟨rfl, rfl⟩, Sep.pick (is := [0]) rfl rfl hw⟩)
  · refine Tri.cond (b := decide (a0_1 < (a0_0.length : Int))) rfl (fun g_1 => ?_) (fun g_1 => ?_)
    · replace hE_1 := if_tt g_1 hE_1
      obtain ⟨t22, h22, hE_1⟩ := bind_some hE_1
      refine Tri.drawA mixedT Sep.up [(0, true), (1, true), (2, true), (3, true), (4, true), (5, true), (6, true), (7, true), (8, true), (9, true), (10, true), (11, true)] [] (by kernel_rfl) ?_
      refine S.q rfl rfl rfl (wanted_none rfl) (r_move rfl) ?_
      refine S.q rfl rfl rfl (wanted_none rfl) (r_nilC rfl) ?_
      refine S.q rfl rfl rfl (wanted_none rfl) (r_fieldAddr tf100_0 rfl) ?_
      refine S.q rfl rfl rfl (wanted_none rfl) (r_load ta22 rfl (fun w hw => cell_1 (box_cells (i := 0) rfl w hw) rfl)) ?_
      refine S.q rfl rfl rfl (wanted_none rfl) (r_move rfl) ?_
      refine S.q rfl rfl rfl (wanted_none rfl) (r_nilC rfl) ?_
      refine S.q rfl rfl rfl (wanted_none rfl) (r_fieldAddr tf100_1 rfl) ?_
      refine S.q rfl rfl rfl (wanted_none rfl) (r_load ta3 rfl (fun w hw => cell_1 (box_cells (i := 0) rfl w hw) rfl)) ?_
      refine S.q rfl rfl rfl (wanted_none rfl) (r_indexAddrS Try.underlying22 ti5 rfl hl_va0_0 rfl (rdl_some h22).1 (rdl_some h22).2.1) ?_
      refine S.q rfl rfl rfl (wanted_none rfl) (r_load ta5 rfl (fun w hw => cell_0 (Rd.flat ((fun _ hw => hr_a0_0.sep hw) w hw) (rdl_some h22).2.2) rfl)) ?_
      refine S.q rfl rfl rfl (wanted_none rfl) (r_conv Try.underlying5 Try.underlying3 rfl) ?_
      refine S.q rfl rfl rfl (wanted_none rfl) (r_assign rfl) ?_
      refine S.nil ?_
      refine F.nil ?_
      cases hE_1
      refine Nrm.only [0, 3] rfl ?_
      refine Nrm.pick [0] rfl rfl ?_
      exact hj_1 _ _ ⟨rfl, rfl⟩
    · replace hE_1 := if_ff g_1 hE_1
      refine Tri.skip ?_
      cases hE_1
      refine Nrm.only [0, 3] rfl ?_
      refine Nrm.pick [0] rfl rfl ?_
      exact hj_1 _ _ ⟨rfl, rfl⟩

end Go.Proofs

/- (*loop.example/g01158/spec.l1Cur).pick -/
namespace Go.Proofs
open Go Go.Ga
set_option linter.unusedVariables false
set_option maxRecDepth 100000
set_option maxHeartbeats 4000000
def spec_l1Cur_pick.f (k : Nat) (a0_0 : List By) (a0_1 : Int) (a0_2 : Int) (a1 : Int) : Option (Int × Int × Int) := (if (decide (a1 ≤ 1)) = true then some (0, a0_1, a0_2) else (spec_l1Cur_next.f k a0_0 a0_1 a0_2).bind fun (t9_1, t9_2, t9_3) => ((if (decide (a1 > 200)) = true then (spec_l1Cur_next.f k a0_0 t9_2 t9_3).bind fun (t15_1, t15_2, t15_3) => some (w64 ((w64 (t9_1 * 256)) + t15_1), t15_2, t15_3) else some (t9_1, t9_2, t9_3))).bind fun (y5, ypa0_1, ypa0_2) => if ¬ a1 = 0 then some (rem y5 a1, ypa0_1, ypa0_2) else none)

theorem spec_l1Cur_pick.ok {k : Nat}  {a0_0 : List By} {a0_1 : Int} {a0_2 : Int} {a1 : Int} {r0 : Int} {r1 : Int} {r2 : Int} (h : spec_l1Cur_pick.f k a0_0 a0_1 a0_2 a1 = some (r0, r1, r2)) (w : World) {pa0 : Nat} {va0_0 : Value} (hr_a0_0 : RdM w (footM [R.box pa0 100 [va0_0, .int .i64 a0_1, .int .u64 a0_2]]) va0_0 a0_0) (hw0 : Sep w (footM [R.box pa0 100 [va0_0, .int .i64 a0_1, .int .u64 a0_2]]) [R.box pa0 100 [va0_0, .int .i64 a0_1, .int .u64 a0_2]] w) :
    Calls Try.prog 95 ([.pointer (some ⟨pa0, 0, none⟩), .int .i64 a1] : List Value).toArray w (PostM (footM [R.box pa0 100 [va0_0, .int .i64 a0_1, .int .u64 a0_2]]) (fun u ns => u = .int .i64 r0 ∧ ns = [R.box pa0 100 [va0_0, .int .i64 r1, .int .u64 r2]]) w) := by
  unfold spec_l1Cur_pick.f at h
  have hl_va0_0 := hr_a0_0.len
  refine Calls.of_tri (N := 20) Try.func95 rfl rfl rfl hw0 ?_
  refine Tri.seq ?_
  refine Tri.reg (l := [0]) rfl ?_
  refine F.q rfl rfl rfl (wanted_none rfl) (r_assign rfl) ?_
  refine F.nil ?_
  refine Nrm.seq ?_
  refine Tri.seq ?_
  refine Tri.seq ?_
  refine Tri.reg (l := [0, 1]) rfl ?_
  refine F.q rfl rfl rfl (wanted_none rfl) (r_move rfl) ?_
  refine F.q rfl rfl rfl (wanted_none rfl) (r_leq rfl rfl) ?_
  refine F.nil ?_
  refine Nrm.seq ?_
  refine Tri.cond (b := decide (a1 ≤ 1)) rfl (fun g_1 => ?_) (fun g_1 => ?_)
  · replace h := if_tt g_1 h
    refine Tri.seq ?_
    refine Tri.reg (l := [0]) rfl ?_
    refine F.q rfl rfl rfl (wanted_none rfl) (r_assign rfl) ?_
    refine F.nil ?_
    refine Nrm.seq ?_
    refine Tri.ret ?_
    refine Rtn.then ?_
    cases h
    exact Rtn.body (.tmp rfl .nil) (fun w hw => ⟨_, _, rfl, ⟨rfl, rfl⟩, Sep.pick (is := [0]) rfl rfl hw⟩)
  · replace h := if_ff g_1 h
    refine Tri.skip ?_
    refine Nrm.seq ?_
    refine Tri.seq ?_
    obtain ⟨⟨t9_1, t9_2, t9_3⟩, h9, h⟩ := bind_some h
    refine Tri.reg (l := [0, 1, 2]) rfl ?_
    refine F.q rfl rfl rfl (wanted_none rfl) (r_move rfl) ?_
    refine F.ef rfl rfl rfl (wanted_none rfl) (d_callM (xs := _) (cs := [R.box pa0 100 [va0_0, .int .i64 a0_1, .int .u64 a0_2]]) (rest := []) [0] [] rfl ok169 rfl rfl rfl rfl (fun w hw => spec_l1Cur_next.ok h9 w (hr_a0_0.down hw) (Sep.sub hw))) ?_
    rintro _ _ ⟨_, ⟨rfl, rfl⟩, rfl⟩
    refine F.q rfl rfl rfl (wanted_none rfl) (r_assign rfl) ?_
    refine F.nil ?_
    refine Nrm.seq ?_
    refine Tri.seq ?_
    refine Tri.seq ?_
    refine Tri.reg (l := [0, 1]) rfl ?_
    refine F.q rfl rfl rfl (wanted_none rfl) (r_move rfl) ?_
    refine F.q rfl rfl rfl (wanted_none rfl) (r_gtr rfl rfl) ?_
    refine F.nil ?_
    refine Nrm.seq ?_
    obtain ⟨⟨y5, ypa0_1, ypa0_2⟩, hE_1, h⟩ := bind_some h
    refine Tri.cut (fun e' C' => e' = [(1, .int .i64 a1), (5, .int .i64 y5)] ∧ C' = Sep w (footM [R.box pa0 100 [va0_0, .int .i64 a0_1, .int .u64 a0_2]]) [R.box pa0 100 [va0_0, .int .i64 ypa0_1, .int .u64 ypa0_2]]) ?_ (fun hj_1 => ?_)
    · rintro _ _ ⟨rfl, rfl⟩
      refine Nrm.seq ?_
      refine Tri.seq ?_
      obtain ⟨hs19, h⟩ := ck h
      refine Tri.reg (l := [0, 1, 2, 3]) rfl ?_
      refine F.q rfl rfl rfl (wanted_none rfl) (r_move rfl) ?_
      refine F.q rfl rfl rfl (wanted_none rfl) (r_move rfl) ?_
      refine F.q rfl rfl rfl (wanted_none rfl) (r_rem rfl rfl hs19) ?_
      refine F.q rfl rfl rfl (wanted_none rfl) (r_assign rfl) ?_
      refine F.nil ?_
      refine Nrm.seq ?_
      refine Tri.ret ?_
      cases h
      exact Rtn.body (.tmp rfl .nil) (fun w hw => ⟨_, _, rfl, ⟨rfl, rfl⟩, Sep.pick (is := [0]) rfl rfl hw⟩)
    · refine Tri.cond (b := decide (a1 > 200)) rfl (fun g_2 => ?_) (fun g_2 => ?_)
      · replace hE_1 := if_tt g_2 hE_1
        obtain ⟨⟨t15_1, t15_2, t15_3⟩, h15, hE_1⟩ := bind_some hE_1
        refine Tri.reg (l := [0, 1, 2, 3, 4, 5]) rfl ?_
        refine F.q rfl rfl rfl (wanted_none rfl) (r_move rfl) ?_
        refine F.q rfl rfl rfl (wanted_none rfl) (r_mul rfl rfl) ?_
        refine F.q rfl rfl rfl (wanted_none rfl) (r_move rfl) ?_
        refine F.ef rfl rfl rfl (wanted_none rfl) (d_callM (xs := _) (cs := [R.box pa0 100 [va0_0, .int .i64 t9_2, .int .u64 t9_3]]) (rest := []) [0] [] rfl ok169 rfl rfl rfl rfl (fun w hw => spec_l1Cur_next.ok h15 w (hr_a0_0.down hw) (Sep.sub hw))) ?_
        rintro _ _ ⟨_, ⟨rfl, rfl⟩, rfl⟩
        refine F.q rfl rfl rfl (wanted_none rfl) (r_add rfl rfl) ?_
        refine F.q rfl rfl rfl (wanted_none rfl) (r_assign rfl) ?_
        refine F.nil ?_
        cases hE_1
        refine Nrm.only [1, 5] rfl ?_
        refine Nrm.pick [0] rfl rfl ?_
        exact hj_1 _ _ ⟨rfl, rfl⟩
      · replace hE_1 := if_ff g_2 hE_1
        refine Tri.skip ?_
        cases hE_1
        refine Nrm.only [1, 5] rfl ?_
        refine Nrm.pick [0] rfl rfl ?_
        exact hj_1 _ _ ⟨rfl, rfl⟩

end Go.Proofs

/- (*loop.example/g01158/spec.l1Cur).one -/
namespace Go.Proofs
open Go Go.Ga
set_option linter.unusedVariables false
set_option maxRecDepth 100000
set_option maxHeartbeats 4000000
def spec_l1Cur_one.f (k : Nat) (a0_0 : List By) (a0_1 : Int) (a0_2 : Int) (a1 : Int) : Option (Bool × Int × Int) := (spec_l1Cur_pick.f k a0_0 a0_1 a0_2 a1).bind fun (t7_1, t7_2, t7_3) => some (t7_1 == 0, t7_2, t7_3)

theorem spec_l1Cur_one.ok {k : Nat}  {a0_0 : List By} {a0_1 : Int} {a0_2 : Int} {a1 : Int} {r0 : Bool} {r1 : Int} {r2 : Int} (h : spec_l1Cur_one.f k a0_0 a0_1 a0_2 a1 = some (r0, r1, r2)) (w : World) {pa0 : Nat} {va0_0 : Value} (hr_a0_0 : RdM w (footM [R.box pa0 100 [va0_0, .int .i64 a0_1, .int .u64 a0_2]]) va0_0 a0_0) (hw0 : Sep w (footM [R.box pa0 100 [va0_0, .int .i64 a0_1, .int .u64 a0_2]]) [R.box pa0 100 [va0_0, .int .i64 a0_1, .int .u64 a0_2]] w) :
    Calls Try.prog 93 ([.pointer (some ⟨pa0, 0, none⟩), .int .i64 a1] : List Value).toArray w (PostM (footM [R.box pa0 100 [va0_0, .int .i64 a0_1, .int .u64 a0_2]]) (fun u ns => u = .bool r0 ∧ ns = [R.box pa0 100 [va0_0, .int .i64 r1, .int .u64 r2]]) w) := by
  unfold spec_l1Cur_one.f at h
  have hl_va0_0 := hr_a0_0.len
  refine Calls.of_tri (N := 9) Try.func93 rfl rfl rfl hw0 ?_
  refine Tri.seq ?_
  refine Tri.reg (l := [0]) rfl ?_
  refine F.q rfl rfl rfl (wanted_none rfl) (r_assign rfl) ?_
  refine F.nil ?_
  refine Nrm.seq ?_
  refine Tri.seq ?_
  obtain ⟨⟨t7_1, t7_2, t7_3⟩, h7, h⟩ := bind_some h
  refine Tri.reg (l := [0, 1, 2, 3, 4]) rfl ?_
  refine F.q rfl rfl rfl (wanted_none rfl) (r_move rfl) ?_
  refine F.q rfl rfl rfl (wanted_none rfl) (r_move rfl) ?_
  refine F.ef rfl rfl rfl (wanted_none rfl) (d_callM (xs := _) (cs := [R.box pa0 100 [va0_0, .int .i64 a0_1, .int .u64 a0_2]]) (rest := []) [0] [] rfl ok95 rfl rfl rfl rfl (fun w hw => spec_l1Cur_pick.ok h7 w (hr_a0_0.down hw) (Sep.sub hw))) ?_
  rintro _ _ ⟨_, ⟨rfl, rfl⟩, rfl⟩
  refine F.q rfl rfl rfl (wanted_none rfl) (r_eql rfl rfl) ?_
  refine F.q rfl rfl rfl (wanted_none rfl) (r_assign rfl) ?_
  refine F.nil ?_
  refine Nrm.seq ?_
  refine Tri.ret ?_
  cases h
  exact Rtn.body (.tmp rfl .nil) (fun w hw => ⟨_, _, rfl, ⟨rfl, rfl⟩, Sep.pick (is := [0]) rfl rfl hw⟩)

end Go.Proofs

/- (*loop.example/g01158/spec.l1Cur).among -/
namespace Go.Proofs
open Go Go.Ga
set_option linter.unusedVariables false
set_option maxRecDepth 100000
set_option maxHeartbeats 4000000
def spec_l1Cur_among.f (k : Nat) (a0_0 : List By) (a0_1 : Int) (a0_2 : Int) (a1 : List Int) : Option (Int × Int × Int) := (spec_l1Cur_pick.f k a0_0 a0_1 a0_2 (a1.length : Int)).bind fun (t9_1, t9_2, t9_3) => (rdl a1 t9_1).bind fun t10 => some (t10, t9_2, t9_3)

theorem spec_l1Cur_among.ok {k : Nat}  {a0_0 : List By} {a0_1 : Int} {a0_2 : Int} {a1 : List Int} {r0 : Int} {r1 : Int} {r2 : Int} (h : spec_l1Cur_among.f k a0_0 a0_1 a0_2 a1 = some (r0, r1, r2)) (w : World) {pa0 : Nat} {va0_0 : Value} (hr_a0_0 : RdM w (footM [R.box pa0 100 [va0_0, .int .i64 a0_1, .int .u64 a0_2]]) va0_0 a0_0) {va1 : Value} (hr_a1 : RdM w (footM [R.box pa0 100 [va0_0, .int .i64 a0_1, .int .u64 a0_2]]) va1 a1) (hw0 : Sep w (footM [R.box pa0 100 [va0_0, .int .i64 a0_1, .int .u64 a0_2]]) [R.box pa0 100 [va0_0, .int .i64 a0_1, .int .u64 a0_2]] w) :
    Calls Try.prog 96 ([.pointer (some ⟨pa0, 0, none⟩), va1] : List Value).toArray w (PostM (footM [R.box pa0 100 [va0_0, .int .i64 a0_1, .int .u64 a0_2]]) (fun u ns => u = .int .i64 r0 ∧ ns = [R.box pa0 100 [va0_0, .int .i64 r1, .int .u64 r2]]) w) := by
  unfold spec_l1Cur_among.f at h
  have hl_va0_0 := hr_a0_0.len
  have hl_va1 := hr_a1.len
  refine Calls.of_tri (N := 12) Try.func96 rfl rfl rfl hw0 ?_
  refine Tri.seq ?_
  refine Tri.reg (l := [0]) rfl ?_
  refine F.q rfl rfl rfl (wanted_none rfl) (r_assign rfl) ?_
  refine F.nil ?_
  refine Nrm.seq ?_
  refine Tri.seq ?_
  obtain ⟨⟨t9_1, t9_2, t9_3⟩, h9, h⟩ := bind_some h
  obtain ⟨t10, h10, h⟩ := bind_some h
  refine Tri.reg (l := [0, 1, 2, 3, 4, 5, 6, 7]) rfl ?_
  refine F.q rfl rfl rfl (wanted_none rfl) (r_move rfl) ?_
  refine F.q rfl rfl rfl (wanted_none rfl) (r_move rfl) ?_
  refine F.q rfl rfl rfl (wanted_none rfl) (r_move rfl) ?_
  refine F.q rfl rfl rfl (wanted_none rfl) (r_len Try.underlying25 rfl hl_va1) ?_
  refine F.ef rfl rfl rfl (wanted_none rfl) (d_callM (xs := _) (cs := [R.box pa0 100 [va0_0, .int .i64 a0_1, .int .u64 a0_2]]) (rest := []) [0] [] rfl ok95 rfl rfl rfl rfl (fun w hw => spec_l1Cur_pick.ok h9 w (hr_a0_0.down hw) (Sep.sub hw))) ?_
  rintro _ _ ⟨_, ⟨rfl, rfl⟩, rfl⟩
  refine F.q rfl rfl rfl (wanted_none rfl) (r_indexAddrS Try.underlying25 ti3 rfl hl_va1 rfl (rdl_some h10).1 (rdl_some h10).2.1) ?_
  refine F.q rfl rfl rfl (wanted_none rfl) (r_load ta3 rfl (fun w hw => cell_0 (Rd.flat ((fun _ hw => hr_a1.sep hw) w hw) (rdl_some h10).2.2) rfl)) ?_
  refine F.q rfl rfl rfl (wanted_none rfl) (r_assign rfl) ?_
  refine F.nil ?_
  refine Nrm.seq ?_
  refine Tri.ret ?_
  cases h
  exact Rtn.body (.tmp rfl .nil) (fun w hw => ⟨_, _, rfl, ⟨rfl, rfl⟩, Sep.pick (is := [0]) rfl rfl hw⟩)

end Go.Proofs

/- loop.example/g01158/spec.l2Many -/

namespace Go.Proofs
open Go Go.Ga
set_option linter.unusedVariables false
set_option maxRecDepth 100000
set_option maxHeartbeats 4000000
def spec_l2Many.l0 (k : Nat) : Nat → Int → Int → Option (Int)
  | 0, _, _ => none
  | n + 1, x0, x3 => (if (decide (x0 > 0)) = true then spec_l2Many.l0 k n (shr x0 1) (w64 (x3 + (band x0 1))) else some x3)

def spec_l2Many.f (k : Nat) (a0 : Int) : Option (Int) := (spec_l2Many.l0 k k a0 0).bind fun x3 => some x3

theorem spec_l2Many.ok {k : Nat}  {a0 : Int} {r0 : Int} (h : spec_l2Many.f k a0 = some r0) (w : World) :
    Calls Try.prog 119 ([.int .i64 a0] : List Value).toArray w (fun e w' => e = .returned (.int .i64 r0) ∧ Ext w w') := by
  unfold spec_l2Many.f at h
  refine Calls.of_tri (N := 13) Try.func119 rfl rfl rfl (Sep.nil (M := noM)) ?_
  refine Tri.seq ?_
  refine Tri.reg (l := [0]) rfl ?_
  refine F.q rfl rfl rfl (wanted_none rfl) (r_assign rfl) ?_
  refine F.nil ?_
  refine Nrm.seq ?_
  refine Tri.seq ?_
  refine Tri.reg (l := [0]) rfl ?_
  refine F.q rfl rfl rfl (wanted_none rfl) (r_assign rfl) ?_
  refine F.nil ?_
  refine Nrm.seq ?_
  refine Tri.seq ?_
  obtain ⟨x3, hE_1, h⟩ := bind_some h
  refine Tri.block ?_
  refine Tri.only [0, 3] rfl ?_
  refine Tri.pick [] rfl rfl ?_
  refine Tri.rounds (fun n e' C' => ∃ (x0' : Int) (x3' : Int), spec_l2Many.l0 k n x0' x3' = some x3 ∧ e' = [(0, .int .i64 x0'), (3, .int .i64 x3')] ∧ C' = Sep w noM []) k ?_ ?_ ?_
  · exact ⟨a0, 0, hE_1, rfl, rfl⟩
  · rintro _ _ ⟨_, _, hE_1, _⟩
    rw [spec_l2Many.l0.eq_1] at hE_1; cases hE_1
  · rintro n_1 _ _ ⟨x0, x3, hE_1, rfl, rfl⟩ ih_1
    rw [spec_l2Many.l0.eq_2] at hE_1
    refine Tri.seq ?_
    refine Tri.seq ?_
    refine Tri.reg (l := [0, 1]) rfl ?_
    refine F.q rfl rfl rfl (wanted_none rfl) (r_move rfl) ?_
    refine F.q rfl rfl rfl (wanted_none rfl) (r_gtr rfl rfl) ?_
    refine F.nil ?_
    refine Nrm.seq ?_
    refine Tri.cond (b := decide (x0 > 0)) rfl (fun g_1 => ?_) (fun g_1 => ?_)
    · replace hE_1 := if_tt g_1 hE_1
      refine Tri.skip ?_
      refine Nrm.seq ?_
      refine Tri.block ?_
      refine Tri.seq ?_
      refine Tri.reg (l := [0, 1, 2, 3, 4]) rfl ?_
      refine F.q rfl rfl rfl (wanted_none rfl) (r_move rfl) ?_
      refine F.q rfl rfl rfl (wanted_none rfl) (r_move rfl) ?_
      refine F.q rfl rfl rfl (wanted_none rfl) (r_and rfl rfl) ?_
      refine F.q rfl rfl rfl (wanted_none rfl) (r_add rfl rfl) ?_
      refine F.q rfl rfl rfl (wanted_none rfl) (r_assign rfl) ?_
      refine F.nil ?_
      refine Nrm.seq ?_
      refine Tri.reg (l := [0, 1, 2]) rfl ?_
      refine F.q rfl rfl rfl (wanted_none rfl) (r_move rfl) ?_
      refine F.q rfl rfl rfl (wanted_none rfl) (r_shr rfl rfl (by decide)) ?_
      refine F.q rfl rfl rfl (wanted_none rfl) (r_assign rfl) ?_
      refine F.nil ?_
      refine Nrm.block ?_
      refine Nrm.round ?_
      refine Rnd.only [0, 3] rfl ?_
      refine Rnd.pick [] rfl rfl ?_
      exact ih_1 _ _ ⟨shr x0 1, w64 (x3 + (band x0 1)), hE_1, rfl, rfl⟩
    · replace hE_1 := if_ff g_1 hE_1
      refine Tri.exit ?_
      refine Exi.then ?_
      refine Exi.then ?_
      refine Exi.same ?_
      cases hE_1
      refine Nrm.seq ?_
      refine Tri.seq ?_
      refine Tri.reg (l := [0, 1]) rfl ?_
      refine F.q rfl rfl rfl (wanted_none rfl) (r_move rfl) ?_
      refine F.q rfl rfl rfl (wanted_none rfl) (r_assign rfl) ?_
      refine F.nil ?_
      refine Nrm.seq ?_
      refine Tri.ret ?_
      cases h
      exact Rtn.body (.tmp rfl .nil) (fun w hw => ⟨rfl, hw.ext⟩)

end Go.Proofs

/- (*loop.example/g01158/spec.l1Cur).colours -/
namespace Go.Proofs
open Go Go.Ga
set_option linter.unusedVariables false
set_option maxRecDepth 100000
set_option maxHeartbeats 4000000
def spec_l1Cur_colours.l0 (k : Nat) (a0_0 : List By) : Nat → Int → Int → Int → Int → Option (Int × Int × Int)
  | 0, _, _, _, _ => none
  | n + 1, x3, x4, xpa0_1, xpa0_2 => (if (decide (x4 > 0)) = true then (spec_l1Cur_pick.f k a0_0 xpa0_1 xpa0_2 6).bind fun (t18_1, t18_2, t18_3) => if ¬ t18_1 < 0 then spec_l1Cur_colours.l0 k a0_0 n (bor x3 (shl 1 t18_1)) (w64 (x4 - 1)) t18_2 t18_3 else none else some (x3, xpa0_1, xpa0_2))

def spec_l1Cur_colours.f (k : Nat) (a0_0 : List By) (a0_1 : Int) (a0_2 : Int) : Option (Int × Int × Int) := (spec_l1Cur_one.f k a0_0 a0_1 a0_2 30).bind fun (t6_1, t6_2, t6_3) => (if t6_1 = true then (spec_l1Cur_among.f k a0_0 t6_2 t6_3 ([63, 64, (-1), 4611686018427387904] : List (Int))).bind fun (t9_1, t9_2, t9_3) => some (t9_1, t9_2, t9_3) else (spec_l1Cur_pick.f k a0_0 t6_2 t6_3 4).bind fun (t11_1, t11_2, t11_3) => (spec_l1Cur_colours.l0 k a0_0 k 0 t11_1 t11_2 t11_3).bind fun (x3, xpa0_1, xpa0_2) => some (x3, xpa0_1, xpa0_2))

theorem spec_l1Cur_colours.ok {k : Nat}  {a0_0 : List By} {a0_1 : Int} {a0_2 : Int} {r0 : Int} {r1 : Int} {r2 : Int} (h : spec_l1Cur_colours.f k a0_0 a0_1 a0_2 = some (r0, r1, r2)) (w : World) {pa0 : Nat} {va0_0 : Value} (hr_a0_0 : RdM w (footM [R.box pa0 100 [va0_0, .int .i64 a0_1, .int .u64 a0_2]]) va0_0 a0_0) (hw0 : Sep w (footM [R.box pa0 100 [va0_0, .int .i64 a0_1, .int .u64 a0_2]]) [R.box pa0 100 [va0_0, .int .i64 a0_1, .int .u64 a0_2]] w) :
    Calls Try.prog 134 ([.pointer (some ⟨pa0, 0, none⟩)] : List Value).toArray w (PostM (footM [R.box pa0 100 [va0_0, .int .i64 a0_1, .int .u64 a0_2]]) (fun u ns => u = .int .i64 r0 ∧ ns = [R.box pa0 100 [va0_0, .int .i64 r1, .int .u64 r2]]) w) := by
  unfold spec_l1Cur_colours.f at h
  have hl_va0_0 := hr_a0_0.len
  refine Calls.of_tri (N := 22) Try.func134 rfl rfl rfl hw0 ?_
  refine Tri.seq ?_
  refine Tri.reg (l := [0]) rfl ?_
  refine F.q rfl rfl rfl (wanted_none rfl) (r_assign rfl) ?_
  refine F.nil ?_
  refine Nrm.seq ?_
  refine Tri.seq ?_
  refine Tri.seq ?_
  obtain ⟨⟨t6_1, t6_2, t6_3⟩, h6, h⟩ := bind_some h
  refine Tri.reg (l := [0, 1]) rfl ?_
  refine F.q rfl rfl rfl (wanted_none rfl) (r_move rfl) ?_
  refine F.ef rfl rfl rfl (wanted_none rfl) (d_callM (xs := _) (cs := [R.box pa0 100 [va0_0, .int .i64 a0_1, .int .u64 a0_2]]) (rest := []) [0] [] rfl ok93 rfl rfl rfl rfl (fun w hw => spec_l1Cur_one.ok h6 w (hr_a0_0.down hw) (Sep.sub hw))) ?_
  rintro _ _ ⟨_, ⟨rfl, rfl⟩, rfl⟩
  refine F.nil ?_
  refine Nrm.seq ?_
  refine Tri.cond (b := t6_1) rfl (fun g_1 => ?_) (fun g_1 => ?_)
  · replace h := if_tt g_1 h
    refine Tri.seq ?_
    obtain ⟨⟨t9_1, t9_2, t9_3⟩, h9, h⟩ := bind_some h
    refine Tri.reg (l := [0, 1, 2, 3]) rfl ?_
    refine F.q rfl rfl rfl (wanted_none rfl) (r_move rfl) ?_
    refine F.m rfl rfl rfl (wanted_none rfl) (m_buildF (l := ([63, 64, (-1), 4611686018427387904] : List (Int))) Try.underlying25 ti3 rfl rfl rfl rfl rfl) ?_
    rintro v8_1 _ ⟨S8_1, hl_v8_1, rfl⟩
    refine F.ef rfl rfl rfl (wanted_none rfl) (d_callM (xs := _) (cs := [R.box pa0 100 [va0_0, .int .i64 t6_2, .int .u64 t6_3]]) (rest := [R.sl S8_1 v8_1 (([63, 64, (-1), 4611686018427387904] : List (Int)) : List (Int))]) [1] [0] rfl ok96 rfl rfl rfl rfl (fun w hw => spec_l1Cur_among.ok h9 w (hr_a0_0.down hw) (rdm_sl (i := 0) rfl hw) (Sep.sub hw))) ?_
    rintro _ _ ⟨_, ⟨rfl, rfl⟩, rfl⟩
    refine F.q rfl rfl rfl (wanted_none rfl) (r_assign rfl) ?_
    refine F.nil ?_
    refine Nrm.seq ?_
    refine Tri.ret ?_
    refine Rtn.then ?_
    cases h
    exact Rtn.body (.tmp rfl .nil) (fun w hw => ⟨_, _, rfl, ⟨rfl, rfl⟩, Sep.pick (is := [0]) rfl rfl hw⟩)
  · replace h := if_ff g_1 h
    refine Tri.skip ?_
    refine Nrm.seq ?_
    refine Tri.seq ?_
    refine Tri.reg (l := [0]) rfl ?_
    refine F.q rfl rfl rfl (wanted_none rfl) (r_assign rfl) ?_
    refine F.nil ?_
    refine Nrm.seq ?_
    refine Tri.seq ?_
    refine Tri.seq ?_
    obtain ⟨⟨t11_1, t11_2, t11_3⟩, h11, h⟩ := bind_some h
    refine Tri.reg (l := [0, 1, 2]) rfl ?_
    refine F.q rfl rfl rfl (wanted_none rfl) (r_move rfl) ?_
    refine F.ef rfl rfl rfl (wanted_none rfl) (d_callM (xs := _) (cs := [R.box pa0 100 [va0_0, .int .i64 t6_2, .int .u64 t6_3]]) (rest := []) [0] [] rfl ok95 rfl rfl rfl rfl (fun w hw => spec_l1Cur_pick.ok h11 w (hr_a0_0.down hw) (Sep.sub hw))) ?_
    rintro _ _ ⟨_, ⟨rfl, rfl⟩, rfl⟩
    refine F.q rfl rfl rfl (wanted_none rfl) (r_assign rfl) ?_
    refine F.nil ?_
    refine Nrm.seq ?_
    obtain ⟨⟨x3, xpa0_1, xpa0_2⟩, hE_1, h⟩ := bind_some h
    refine Tri.block ?_
    refine Tri.only [0, 3, 4] rfl ?_
    refine Tri.pick [0] rfl rfl ?_
    refine Tri.rounds (fun n e' C' => ∃ (x3' : Int) (x4' : Int) (xpa0_1' : Int) (xpa0_2' : Int), spec_l1Cur_colours.l0 k a0_0 n x3' x4' xpa0_1' xpa0_2' = some (x3, xpa0_1, xpa0_2) ∧ e' = [(0, .pointer (some ⟨pa0, 0, none⟩)), (3, .int .i64 x3'), (4, .int .i64 x4')] ∧ C' = Sep w (footM [R.box pa0 100 [va0_0, .int .i64 a0_1, .int .u64 a0_2]]) [R.box pa0 100 [va0_0, .int .i64 xpa0_1', .int .u64 xpa0_2']]) k ?_ ?_ ?_
    · exact ⟨0, t11_1, t11_2, t11_3, hE_1, rfl, rfl⟩
    · rintro _ _ ⟨_, _, _, _, hE_1, _⟩
      rw [spec_l1Cur_colours.l0.eq_1] at hE_1; cases hE_1
    · rintro n_1 _ _ ⟨x3, x4, xpa0_1, xpa0_2, hE_1, rfl, rfl⟩ ih_1
      rw [spec_l1Cur_colours.l0.eq_2] at hE_1
      refine Tri.seq ?_
      refine Tri.seq ?_
      refine Tri.reg (l := [0, 1]) rfl ?_
      refine F.q rfl rfl rfl (wanted_none rfl) (r_move rfl) ?_
      refine F.q rfl rfl rfl (wanted_none rfl) (r_gtr rfl rfl) ?_
      refine F.nil ?_
      refine Nrm.seq ?_
      refine Tri.cond (b := decide (x4 > 0)) rfl (fun g_2 => ?_) (fun g_2 => ?_)
      · replace hE_1 := if_tt g_2 hE_1
        refine Tri.skip ?_
        refine Nrm.seq ?_
        refine Tri.seq ?_
        refine Tri.block ?_
        obtain ⟨⟨t18_1, t18_2, t18_3⟩, h18, hE_1⟩ := bind_some hE_1
        obtain ⟨hs19, hE_1⟩ := ck hE_1
        refine Tri.reg (l := [0, 1, 2, 3, 4, 5]) rfl ?_
        refine F.q rfl rfl rfl (wanted_none rfl) (r_move rfl) ?_
        refine F.q rfl rfl rfl (wanted_none rfl) (r_move rfl) ?_
        refine F.ef rfl rfl rfl (wanted_none rfl) (d_callM (xs := _) (cs := [R.box pa0 100 [va0_0, .int .i64 xpa0_1, .int .u64 xpa0_2]]) (rest := []) [0] [] rfl ok95 rfl rfl rfl rfl (fun w hw => spec_l1Cur_pick.ok h18 w (hr_a0_0.down hw) (Sep.sub hw))) ?_
        rintro _ _ ⟨_, ⟨rfl, rfl⟩, rfl⟩
        refine F.q rfl rfl rfl (wanted_none rfl) (r_shl rfl rfl hs19) ?_
        refine F.q rfl rfl rfl (wanted_none rfl) (r_or rfl rfl) ?_
        refine F.q rfl rfl rfl (wanted_none rfl) (r_assign rfl) ?_
        refine F.nil ?_
        refine Nrm.block ?_
        refine Nrm.seq ?_
        refine Tri.reg (l := [0, 1, 2]) rfl ?_
        refine F.q rfl rfl rfl (wanted_none rfl) (r_move rfl) ?_
        refine F.q rfl rfl rfl (wanted_none rfl) (r_sub rfl rfl) ?_
        refine F.q rfl rfl rfl (wanted_none rfl) (r_assign rfl) ?_
        refine F.nil ?_
        refine Nrm.round ?_
        refine Rnd.only [0, 3, 4] rfl ?_
        refine Rnd.pick [0] rfl rfl ?_
        exact ih_1 _ _ ⟨bor x3 (shl 1 t18_1), w64 (x4 - 1), t18_2, t18_3, hE_1, rfl, rfl⟩
      · replace hE_1 := if_ff g_2 hE_1
        refine Tri.exit ?_
        refine Exi.then ?_
        refine Exi.then ?_
        refine Exi.same ?_
        cases hE_1
        refine Nrm.seq ?_
        refine Tri.seq ?_
        refine Tri.reg (l := [0, 1]) rfl ?_
        refine F.q rfl rfl rfl (wanted_none rfl) (r_move rfl) ?_
        refine F.q rfl rfl rfl (wanted_none rfl) (r_assign rfl) ?_
        refine F.nil ?_
        refine Nrm.seq ?_
        refine Tri.ret ?_
        cases h
        exact Rtn.body (.tmp rfl .nil) (fun w hw => ⟨_, _, rfl, ⟨rfl, rfl⟩, Sep.pick (is := [0]) rfl rfl hw⟩)

end Go.Proofs

/- (*loop.example/g01158/spec.l1Cur).few -/
namespace Go.Proofs
open Go Go.Ga
set_option linter.unusedVariables false
set_option maxRecDepth 100000
set_option maxHeartbeats 4000000
def spec_l1Cur_few.l0 (k : Nat) (a0_0 : List By) (a1 : Int) : Nat → Int → Int → Int → Int → Option (Int × Int × Int)
  | 0, _, _, _, _ => none
  | n + 1, x5, x6, xpa0_1, xpa0_2 => (if (decide (x6 > 0)) = true then (spec_l1Cur_pick.f k a0_0 xpa0_1 xpa0_2 a1).bind fun (t17_1, t17_2, t17_3) => if ¬ t17_1 < 0 then spec_l1Cur_few.l0 k a0_0 a1 n (bor x5 (shl 1 t17_1)) (w64 (x6 - 1)) t17_2 t17_3 else none else some (x5, xpa0_1, xpa0_2))

def spec_l1Cur_few.f (k : Nat) (a0_0 : List By) (a0_1 : Int) (a0_2 : Int) (a1 : Int) : Option (Int × Int × Int) := (spec_l1Cur_among.f k a0_0 a0_1 a0_2 ([0, 1, 1, 1, 2] : List (Int))).bind fun (t9_1, t9_2, t9_3) => (spec_l1Cur_few.l0 k a0_0 a1 k 0 t9_1 t9_2 t9_3).bind fun (x5, xpa0_1, xpa0_2) => some (x5, xpa0_1, xpa0_2)

theorem spec_l1Cur_few.ok {k : Nat}  {a0_0 : List By} {a0_1 : Int} {a0_2 : Int} {a1 : Int} {r0 : Int} {r1 : Int} {r2 : Int} (h : spec_l1Cur_few.f k a0_0 a0_1 a0_2 a1 = some (r0, r1, r2)) (w : World) {pa0 : Nat} {va0_0 : Value} (hr_a0_0 : RdM w (footM [R.box pa0 100 [va0_0, .int .i64 a0_1, .int .u64 a0_2]]) va0_0 a0_0) (hw0 : Sep w (footM [R.box pa0 100 [va0_0, .int .i64 a0_1, .int .u64 a0_2]]) [R.box pa0 100 [va0_0, .int .i64 a0_1, .int .u64 a0_2]] w) :
    Calls Try.prog 205 ([.pointer (some ⟨pa0, 0, none⟩), .int .i64 a1] : List Value).toArray w (PostM (footM [R.box pa0 100 [va0_0, .int .i64 a0_1, .int .u64 a0_2]]) (fun u ns => u = .int .i64 r0 ∧ ns = [R.box pa0 100 [va0_0, .int .i64 r1, .int .u64 r2]]) w) := by
  unfold spec_l1Cur_few.f at h
  have hl_va0_0 := hr_a0_0.len
  refine Calls.of_tri (N := 21) Try.func205 rfl rfl rfl hw0 ?_
  refine Tri.seq ?_
  refine Tri.reg (l := [0]) rfl ?_
  refine F.q rfl rfl rfl (wanted_none rfl) (r_assign rfl) ?_
  refine F.nil ?_
  refine Nrm.seq ?_
  refine Tri.seq ?_
  refine Tri.reg (l := [0]) rfl ?_
  refine F.q rfl rfl rfl (wanted_none rfl) (r_assign rfl) ?_
  refine F.nil ?_
  refine Nrm.seq ?_
  refine Tri.seq ?_
  refine Tri.seq ?_
  obtain ⟨⟨t9_1, t9_2, t9_3⟩, h9, h⟩ := bind_some h
  refine Tri.reg (l := [0, 1, 2, 3]) rfl ?_
  refine F.q rfl rfl rfl (wanted_none rfl) (r_move rfl) ?_
  refine F.m rfl rfl rfl (wanted_none rfl) (m_buildF (l := ([0, 1, 1, 1, 2] : List (Int))) Try.underlying25 ti3 rfl rfl rfl rfl rfl) ?_
  rintro v8_1 _ ⟨S8_1, hl_v8_1, rfl⟩
  refine F.ef rfl rfl rfl (wanted_none rfl) (d_callM (xs := _) (cs := [R.box pa0 100 [va0_0, .int .i64 a0_1, .int .u64 a0_2]]) (rest := [R.sl S8_1 v8_1 (([0, 1, 1, 1, 2] : List (Int)) : List (Int))]) [1] [0] rfl ok96 rfl rfl rfl rfl (fun w hw => spec_l1Cur_among.ok h9 w (hr_a0_0.down hw) (rdm_sl (i := 0) rfl hw) (Sep.sub hw))) ?_
  rintro _ _ ⟨_, ⟨rfl, rfl⟩, rfl⟩
  refine F.q rfl rfl rfl (wanted_none rfl) (r_assign rfl) ?_
  refine F.nil ?_
  refine Nrm.seq ?_
  obtain ⟨⟨x5, xpa0_1, xpa0_2⟩, hE_1, h⟩ := bind_some h
  refine Tri.block ?_
  refine Tri.only [0, 1, 5, 6] rfl ?_
  refine Tri.pick [0] rfl rfl ?_
  refine Tri.rounds (fun n e' C' => ∃ (x5' : Int) (x6' : Int) (xpa0_1' : Int) (xpa0_2' : Int), spec_l1Cur_few.l0 k a0_0 a1 n x5' x6' xpa0_1' xpa0_2' = some (x5, xpa0_1, xpa0_2) ∧ e' = [(0, .pointer (some ⟨pa0, 0, none⟩)), (1, .int .i64 a1), (5, .int .i64 x5'), (6, .int .i64 x6')] ∧ C' = Sep w (footM [R.box pa0 100 [va0_0, .int .i64 a0_1, .int .u64 a0_2]]) [R.box pa0 100 [va0_0, .int .i64 xpa0_1', .int .u64 xpa0_2']]) k ?_ ?_ ?_
  · exact ⟨0, t9_1, t9_2, t9_3, hE_1, rfl, rfl⟩
  · rintro _ _ ⟨_, _, _, _, hE_1, _⟩
    rw [spec_l1Cur_few.l0.eq_1] at hE_1; cases hE_1
  · rintro n_1 _ _ ⟨x5, x6, xpa0_1, xpa0_2, hE_1, rfl, rfl⟩ ih_1
    rw [spec_l1Cur_few.l0.eq_2] at hE_1
    refine Tri.seq ?_
    refine Tri.seq ?_
    refine Tri.reg (l := [0, 1]) rfl ?_
    refine F.q rfl rfl rfl (wanted_none rfl) (r_move rfl) ?_
    refine F.q rfl rfl rfl (wanted_none rfl) (r_gtr rfl rfl) ?_
    refine F.nil ?_
    refine Nrm.seq ?_
    refine Tri.cond (b := decide (x6 > 0)) rfl (fun g_1 => ?_) (fun g_1 => ?_)
    · replace hE_1 := if_tt g_1 hE_1
      refine Tri.skip ?_
      refine Nrm.seq ?_
      refine Tri.seq ?_
      refine Tri.block ?_
      obtain ⟨⟨t17_1, t17_2, t17_3⟩, h17, hE_1⟩ := bind_some hE_1
      obtain ⟨hs18, hE_1⟩ := ck hE_1
      refine Tri.reg (l := [0, 1, 2, 3, 4, 5, 6]) rfl ?_
      refine F.q rfl rfl rfl (wanted_none rfl) (r_move rfl) ?_
      refine F.q rfl rfl rfl (wanted_none rfl) (r_move rfl) ?_
      refine F.q rfl rfl rfl (wanted_none rfl) (r_move rfl) ?_
      refine F.ef rfl rfl rfl (wanted_none rfl) (d_callM (xs := _) (cs := [R.box pa0 100 [va0_0, .int .i64 xpa0_1, .int .u64 xpa0_2]]) (rest := []) [0] [] rfl ok95 rfl rfl rfl rfl (fun w hw => spec_l1Cur_pick.ok h17 w (hr_a0_0.down hw) (Sep.sub hw))) ?_
      rintro _ _ ⟨_, ⟨rfl, rfl⟩, rfl⟩
      refine F.q rfl rfl rfl (wanted_none rfl) (r_shl rfl rfl hs18) ?_
      refine F.q rfl rfl rfl (wanted_none rfl) (r_or rfl rfl) ?_
      refine F.q rfl rfl rfl (wanted_none rfl) (r_assign rfl) ?_
      refine F.nil ?_
      refine Nrm.block ?_
      refine Nrm.seq ?_
      refine Tri.reg (l := [0, 1, 2]) rfl ?_
      refine F.q rfl rfl rfl (wanted_none rfl) (r_move rfl) ?_
      refine F.q rfl rfl rfl (wanted_none rfl) (r_sub rfl rfl) ?_
      refine F.q rfl rfl rfl (wanted_none rfl) (r_assign rfl) ?_
      refine F.nil ?_
      refine Nrm.round ?_
      refine Rnd.only [0, 1, 5, 6] rfl ?_
      refine Rnd.pick [0] rfl rfl ?_
      exact ih_1 _ _ ⟨bor x5 (shl 1 t17_1), w64 (x6 - 1), t17_2, t17_3, hE_1, rfl, rfl⟩
    · replace hE_1 := if_ff g_1 hE_1
      refine Tri.exit ?_
      refine Exi.then ?_
      refine Exi.then ?_
      refine Exi.same ?_
      cases hE_1
      refine Nrm.seq ?_
      refine Tri.seq ?_
      refine Tri.reg (l := [0, 1]) rfl ?_
      refine F.q rfl rfl rfl (wanted_none rfl) (r_move rfl) ?_
      refine F.q rfl rfl rfl (wanted_none rfl) (r_assign rfl) ?_
      refine F.nil ?_
      refine Nrm.seq ?_
      refine Tri.ret ?_
      cases h
      exact Rtn.body (.tmp rfl .nil) (fun w hw => ⟨_, _, rfl, ⟨rfl, rfl⟩, Sep.pick (is := [0]) rfl rfl hw⟩)

end Go.Proofs

/- loop.example/g01158/spec.l1Most -/

namespace Go.Proofs
open Go Go.Ga
set_option linter.unusedVariables false
set_option maxRecDepth 100000
set_option maxHeartbeats 4000000
def spec_l1Most.f (k : Nat) (a0 : Int) (a1 : Int) : Option (Int) := (if (decide (a0 > a1)) = true then some a0 else some a1)

theorem spec_l1Most.ok {k : Nat}  {a0 : Int} {a1 : Int} {r0 : Int} (h : spec_l1Most.f k a0 a1 = some r0) (w : World) :
    Calls Try.prog 180 ([.int .i64 a0, .int .i64 a1] : List Value).toArray w (fun e w' => e = .returned (.int .i64 r0) ∧ Ext w w') := by
  unfold spec_l1Most.f at h
  refine Calls.of_tri (N := 10) Try.func180 rfl rfl rfl (Sep.nil (M := noM)) ?_
  refine Tri.seq ?_
  refine Tri.reg (l := [0]) rfl ?_
  refine F.q rfl rfl rfl (wanted_none rfl) (r_assign rfl) ?_
  refine F.nil ?_
  refine Nrm.seq ?_
  refine Tri.seq ?_
  refine Tri.seq ?_
  refine Tri.reg (l := [0, 1, 2]) rfl ?_
  refine F.q rfl rfl rfl (wanted_none rfl) (r_move rfl) ?_
  refine F.q rfl rfl rfl (wanted_none rfl) (r_move rfl) ?_
  refine F.q rfl rfl rfl (wanted_none rfl) (r_gtr rfl rfl) ?_
  refine F.nil ?_
  refine Nrm.seq ?_
  refine Tri.cond (b := decide (a0 > a1)) rfl (fun g_1 => ?_) (fun g_1 => ?_)
  · replace h := if_tt g_1 h
    refine Tri.seq ?_
    refine Tri.reg (l := [0, 1]) rfl ?_
    refine F.q rfl rfl rfl (wanted_none rfl) (r_move rfl) ?_
    refine F.q rfl rfl rfl (wanted_none rfl) (r_assign rfl) ?_
    refine F.nil ?_
    refine Nrm.seq ?_
    refine Tri.ret ?_
    refine Rtn.then ?_
    cases h
    exact Rtn.body (.tmp rfl .nil) (fun w hw => ⟨rfl, hw.ext⟩)
  · replace h := if_ff g_1 h
    refine Tri.skip ?_
    refine Nrm.seq ?_
    refine Tri.seq ?_
    refine Tri.reg (l := [0, 1]) rfl ?_
    refine F.q rfl rfl rfl (wanted_none rfl) (r_move rfl) ?_
    refine F.q rfl rfl rfl (wanted_none rfl) (r_assign rfl) ?_
    refine F.nil ?_
    refine Nrm.seq ?_
    refine Tri.ret ?_
    cases h
    exact Rtn.body (.tmp rfl .nil) (fun w hw => ⟨rfl, hw.ext⟩)

end Go.Proofs

/- loop.example/g01158/spec.l1Least -/

namespace Go.Proofs
open Go Go.Ga
set_option linter.unusedVariables false
set_option maxRecDepth 100000
set_option maxHeartbeats 4000000
def spec_l1Least.f (k : Nat) (a0 : Int) (a1 : Int) : Option (Int) := (if (decide (a0 < a1)) = true then some a0 else some a1)

theorem spec_l1Least.ok {k : Nat}  {a0 : Int} {a1 : Int} {r0 : Int} (h : spec_l1Least.f k a0 a1 = some r0) (w : World) :
    Calls Try.prog 181 ([.int .i64 a0, .int .i64 a1] : List Value).toArray w (fun e w' => e = .returned (.int .i64 r0) ∧ Ext w w') := by
  unfold spec_l1Least.f at h
  refine Calls.of_tri (N := 10) Try.func181 rfl rfl rfl (Sep.nil (M := noM)) ?_
  refine Tri.seq ?_
  refine Tri.reg (l := [0]) rfl ?_
  refine F.q rfl rfl rfl (wanted_none rfl) (r_assign rfl) ?_
  refine F.nil ?_
  refine Nrm.seq ?_
  refine Tri.seq ?_
  refine Tri.seq ?_
  refine Tri.reg (l := [0, 1, 2]) rfl ?_
  refine F.q rfl rfl rfl (wanted_none rfl) (r_move rfl) ?_
  refine F.q rfl rfl rfl (wanted_none rfl) (r_move rfl) ?_
  refine F.q rfl rfl rfl (wanted_none rfl) (r_lss rfl rfl) ?_
  refine F.nil ?_
  refine Nrm.seq ?_
  refine Tri.cond (b := decide (a0 < a1)) rfl (fun g_1 => ?_) (fun g_1 => ?_)
  · replace h := if_tt g_1 h
    refine Tri.seq ?_
    refine Tri.reg (l := [0, 1]) rfl ?_
    refine F.q rfl rfl rfl (wanted_none rfl) (r_move rfl) ?_
    refine F.q rfl rfl rfl (wanted_none rfl) (r_assign rfl) ?_
    refine F.nil ?_
    refine Nrm.seq ?_
    refine Tri.ret ?_
    refine Rtn.then ?_
    cases h
    exact Rtn.body (.tmp rfl .nil) (fun w hw => ⟨rfl, hw.ext⟩)
  · replace h := if_ff g_1 h
    refine Tri.skip ?_
    refine Nrm.seq ?_
    refine Tri.seq ?_
    refine Tri.reg (l := [0, 1]) rfl ?_
    refine F.q rfl rfl rfl (wanted_none rfl) (r_move rfl) ?_
    refine F.q rfl rfl rfl (wanted_none rfl) (r_assign rfl) ?_
    refine F.nil ?_
    refine Nrm.seq ?_
    refine Tri.ret ?_
    cases h
    exact Rtn.body (.tmp rfl .nil) (fun w hw => ⟨rfl, hw.ext⟩)

end Go.Proofs

/- loop.example/g01158/spec.l2Before -/

namespace Go.Proofs
open Go Go.Ga
set_option linter.unusedVariables false
set_option maxRecDepth 100000
set_option maxHeartbeats 4000000
def spec_l2Before.l0 (k : Nat) (a0_0 : Int) (a0_1 : Int) (a0_2 : Int) (a1_0 : Int) (a1_1 : Int) (a1_2 : Int) : Nat → Int → Option ((Unit) ⊕ (Bool))
  | 0, _ => none
  | n + 1, x5 => (if (decide (x5 < 3)) = true then (rdl [a0_0, a0_1, a0_2] x5).bind fun t11 => (rdl [a1_0, a1_1, a1_2] x5).bind fun t14 => (if (t11 != t14) = true then (rdl [a0_0, a0_1, a0_2] x5).bind fun t18 => (rdl [a1_0, a1_1, a1_2] x5).bind fun t21 => some (Sum.inr (decide (t18 < t21))) else spec_l2Before.l0 k a0_0 a0_1 a0_2 a1_0 a1_1 a1_2 n (w64 (x5 + 1))) else some (Sum.inl ()))

def spec_l2Before.f (k : Nat) (a0_0 : Int) (a0_1 : Int) (a0_2 : Int) (a1_0 : Int) (a1_1 : Int) (a1_2 : Int) : Option (Bool) := (spec_l2Before.l0 k a0_0 a0_1 a0_2 a1_0 a1_1 a1_2 k 0).bind fun s => Lr s some fun _ => some false

theorem spec_l2Before.ok {k : Nat}  {a0_0 : Int} {a0_1 : Int} {a0_2 : Int} {a1_0 : Int} {a1_1 : Int} {a1_2 : Int} {r0 : Bool} (h : spec_l2Before.f k a0_0 a0_1 a0_2 a1_0 a1_1 a1_2 = some r0) (w : World) :
    Calls Try.prog 213 ([.agg ([.int .i64 a0_0, .int .i64 a0_1, .int .i64 a0_2].toArray), .agg ([.int .i64 a1_0, .int .i64 a1_1, .int .i64 a1_2].toArray)] : List Value).toArray w (fun e w' => e = .returned (.bool r0) ∧ Ext w w') := by
  unfold spec_l2Before.f at h
  refine Calls.of_tri (N := 24) Try.func213 rfl rfl rfl (Sep.nil (M := noM)) ?_
  refine Tri.seq ?_
  refine Tri.reg (l := [0, 1, 2]) rfl ?_
  refine F.m rfl rfl rfl (wanted_none rfl) (m_boxG rfl rfl) ?_
  rintro _ _ ⟨b2_1, rfl, rfl⟩
  refine F.m rfl rfl rfl (wanted_none rfl) (m_boxG rfl rfl) ?_
  rintro _ _ ⟨b3_1, rfl, rfl⟩
  refine F.q rfl rfl rfl (wanted_none rfl) (r_assign rfl) ?_
  refine F.nil ?_
  refine Nrm.seq ?_
  refine Tri.seq ?_
  refine Tri.seq ?_
  refine Tri.reg (l := [0]) rfl ?_
  refine F.q rfl rfl rfl (wanted_none rfl) (r_assign rfl) ?_
  refine F.nil ?_
  refine Nrm.seq ?_
  obtain ⟨s0, hE_1, h⟩ := bind_some h
  refine Tri.block ?_
  refine Tri.only [2, 3, 5] rfl ?_
  refine Tri.pick [0, 1] rfl rfl ?_
  refine Tri.rounds (fun n e' C' => ∃ (x5' : Int), spec_l2Before.l0 k a0_0 a0_1 a0_2 a1_0 a1_1 a1_2 n x5' = some s0 ∧ e' = [(2, .pointer (some ⟨b2_1, 0, none⟩)), (3, .pointer (some ⟨b3_1, 0, none⟩)), (5, .int .i64 x5')] ∧ C' = Sep w noM [R.box b3_1 121 [.int .i64 a1_0, .int .i64 a1_1, .int .i64 a1_2], R.box b2_1 121 [.int .i64 a0_0, .int .i64 a0_1, .int .i64 a0_2]]) k ?_ ?_ ?_
  · exact ⟨0, hE_1, rfl, rfl⟩
  · rintro _ _ ⟨_, hE_1, _⟩
    rw [spec_l2Before.l0.eq_1] at hE_1; cases hE_1
  · rintro n_1 _ _ ⟨x5, hE_1, rfl, rfl⟩ ih_1
    rw [spec_l2Before.l0.eq_2] at hE_1
    refine Tri.seq ?_
    refine Tri.seq ?_
    refine Tri.reg (l := [0, 1]) rfl ?_
    refine F.q rfl rfl rfl (wanted_none rfl) (r_move rfl) ?_
    refine F.q rfl rfl rfl (wanted_none rfl) (r_lss rfl rfl) ?_
    refine F.nil ?_
    refine Nrm.seq ?_
    refine Tri.cond (b := decide (x5 < 3)) rfl (fun g_1 => ?_) (fun g_1 => ?_)
    · replace hE_1 := if_tt g_1 hE_1
      refine Tri.skip ?_
      refine Nrm.seq ?_
      refine Tri.seq ?_
      refine Tri.block ?_
      refine Tri.seq ?_
      obtain ⟨t11, h11, hE_1⟩ := bind_some hE_1
      obtain ⟨t14, h14, hE_1⟩ := bind_some hE_1
      refine Tri.drawA mixedT Sep.up [(0, true), (1, true), (2, true), (3, true), (4, true), (5, true), (6, true)] [] (by kernel_rfl) ?_
      refine S.q rfl rfl rfl (wanted_none rfl) (r_move rfl) ?_
      refine S.q rfl rfl rfl (wanted_none rfl) (r_indexAddrA Try.underlying121 ti3 rfl rfl (rdl_some h11).1 (rdl_some h11).2.1) ?_
      refine S.q rfl rfl rfl (wanted_none rfl) (r_load ta3 rfl (fun w hw => cell_dynB (box_cells (i := 1) rfl w hw) rfl h11)) ?_
      refine S.q rfl rfl rfl (wanted_none rfl) (r_move rfl) ?_
      refine S.q rfl rfl rfl (wanted_none rfl) (r_indexAddrA Try.underlying121 ti3 rfl rfl (rdl_some h14).1 (rdl_some h14).2.1) ?_
      refine S.q rfl rfl rfl (wanted_none rfl) (r_load ta3 rfl (fun w hw => cell_dynB (box_cells (i := 0) rfl w hw) rfl h14)) ?_
      refine S.q rfl rfl rfl (wanted_none rfl) (r_neq rfl rfl) ?_
      refine S.nil ?_
      refine F.nil ?_
      refine Nrm.seq ?_
      refine Tri.cond (b := t11 != t14) rfl (fun g_2 => ?_) (fun g_2 => ?_)
      · replace hE_1 := if_tt g_2 hE_1
        refine Tri.seq ?_
        obtain ⟨t18, h18, hE_1⟩ := bind_some hE_1
        obtain ⟨t21, h21, hE_1⟩ := bind_some hE_1
        refine Tri.drawA mixedT Sep.up [(0, true), (1, true), (2, true), (3, true), (4, true), (5, true), (6, true), (7, true)] [] (by kernel_rfl) ?_
        refine S.q rfl rfl rfl (wanted_none rfl) (r_move rfl) ?_
        refine S.q rfl rfl rfl (wanted_none rfl) (r_indexAddrA Try.underlying121 ti3 rfl rfl (rdl_some h18).1 (rdl_some h18).2.1) ?_
        refine S.q rfl rfl rfl (wanted_none rfl) (r_load ta3 rfl (fun w hw => cell_dynB (box_cells (i := 1) rfl w hw) rfl h18)) ?_
        refine S.q rfl rfl rfl (wanted_none rfl) (r_move rfl) ?_
        refine S.q rfl rfl rfl (wanted_none rfl) (r_indexAddrA Try.underlying121 ti3 rfl rfl (rdl_some h21).1 (rdl_some h21).2.1) ?_
        refine S.q rfl rfl rfl (wanted_none rfl) (r_load ta3 rfl (fun w hw => cell_dynB (box_cells (i := 0) rfl w hw) rfl h21)) ?_
        refine S.q rfl rfl rfl (wanted_none rfl) (r_lss rfl rfl) ?_
        refine S.q rfl rfl rfl (wanted_none rfl) (r_assign rfl) ?_
        refine S.nil ?_
        refine F.nil ?_
        refine Nrm.seq ?_
        refine Tri.ret ?_
        refine Rtn.block ?_
        refine Rtn.then ?_
        refine Rtn.then ?_
        refine Rtn.block ?_
        refine Rtn.then ?_
        cases hE_1
        replace h := Lr_inr h
        cases h
        exact Rtn.body (.tmp rfl .nil) (fun w hw => ⟨rfl, hw.ext⟩)
      · replace hE_1 := if_ff g_2 hE_1
        refine Tri.skip ?_
        refine Nrm.block ?_
        refine Nrm.seq ?_
        refine Tri.reg (l := [0, 1, 2]) rfl ?_
        refine F.q rfl rfl rfl (wanted_none rfl) (r_move rfl) ?_
        refine F.q rfl rfl rfl (wanted_none rfl) (r_add rfl rfl) ?_
        refine F.q rfl rfl rfl (wanted_none rfl) (r_assign rfl) ?_
        refine F.nil ?_
        refine Nrm.round ?_
        refine Rnd.only [2, 3, 5] rfl ?_
        refine Rnd.pick [0, 1] rfl rfl ?_
        exact ih_1 _ _ ⟨w64 (x5 + 1), hE_1, rfl, rfl⟩
    · replace hE_1 := if_ff g_1 hE_1
      refine Tri.exit ?_
      refine Exi.then ?_
      refine Exi.then ?_
      refine Exi.same ?_
      cases hE_1
      replace h := Lr_inl h
      refine Nrm.seq ?_
      refine Tri.seq ?_
      refine Tri.reg (l := [0]) rfl ?_
      refine F.q rfl rfl rfl (wanted_none rfl) (r_assign rfl) ?_
      refine F.nil ?_
      refine Nrm.seq ?_
      refine Tri.ret ?_
      cases h
      exact Rtn.body (.tmp rfl .nil) (fun w hw => ⟨rfl, hw.ext⟩)

end Go.Proofs

/- loop.example/g01158/spec.l2Put -/
namespace Go.Proofs
open Go Go.Ga
set_option linter.unusedVariables false
set_option maxRecDepth 100000
set_option maxHeartbeats 4000000
def spec_l2Put.l0 (k : Nat) (a0 : List (Int × Int × Int)) (a3 : Int) (t13 : Int) (t16 : Int) : Nat → Int → Option (Int)
  | 0, _ => none
  | n + 1, x10 => ((if (decide (x10 < (a0.length : Int))) = true then (rdl a0 x10).bind fun t26 => (spec_l2Before.f k t26.1 t26.2.1 t26.2.2 t13 t16 a3).bind fun t29 => some t29 else some false)).bind fun y30 => (if y30 = true then spec_l2Put.l0 k a0 a3 t13 t16 n (w64 (x10 + 1)) else some x10)

def spec_l2Put.f (k : Nat) (a0 : List (Int × Int × Int)) (a1 : Int) (a2 : Int) (a3 : Int) : Option ((List (Int × Int × Int))) := (spec_l1Least.f k a1 a2).bind fun t13 => (spec_l1Most.f k a1 a2).bind fun t16 => (spec_l2Put.l0 k a0 a3 t13 t16 k 0).bind fun x10 => ((if (decide (x10 < (a0.length : Int))) = true then (rdl a0 x10).bind fun t40 => some (decide ((t40.1, t40.2.1, t40.2.2) = (t13, t16, a3))) else some false)).bind fun y44 => (if y44 = true then some a0 else ((slc a0 0 x10).bind fun t49 => (slc a0 x10 (a0.length : Int)).bind fun t56 => if (([] : List (Int × Int × Int)) ++ t49).length < 1099511627776 then if ((([] : List (Int × Int × Int)) ++ t49) ++ ([(t13, t16, a3)] : List (Int × Int × Int))).length < 1099511627776 then if (((([] : List (Int × Int × Int)) ++ t49) ++ ([(t13, t16, a3)] : List (Int × Int × Int))) ++ t56).length < 1099511627776 then some (((([] : List (Int × Int × Int)) ++ t49) ++ ([(t13, t16, a3)] : List (Int × Int × Int))) ++ t56) else none else none else none).bind fun y8 => some y8)

theorem spec_l2Put.ok {k : Nat}  {a0 : List (Int × Int × Int)} {a1 : Int} {a2 : Int} {a3 : Int} {r0 : List (Int × Int × Int)} (h : spec_l2Put.f k a0 a1 a2 a3 = some r0) (w : World) {va0 : Value} {Sa0 : Nat → Prop} (hl_va0 : SlLen va0 a0.length) (hw0 : Sep w (footM [R.sl Sa0 va0 a0]) [R.sl Sa0 va0 a0] w) :
    Calls Try.prog 206 ([va0, .int .i64 a1, .int .i64 a2, .int .i64 a3] : List Value).toArray w (PostM (footM [R.sl Sa0 va0 a0]) (fun u ns => ∃ (Sr0 : Nat → Prop), SlLen u r0.length ∧ ns = [R.sl Sr0 u r0]) w) := by
  unfold spec_l2Put.f at h
  refine Calls.of_tri (N := 58) Try.func206 rfl rfl rfl hw0 ?_
  refine Tri.seq ?_
  refine Tri.reg (l := [0]) rfl ?_
  refine F.q rfl rfl rfl (wanted_none rfl) (r_assign rfl) ?_
  refine F.nil ?_
  refine Nrm.seq ?_
  refine Tri.seq ?_
  obtain ⟨t13, h13, h⟩ := bind_some h
  obtain ⟨t16, h16, h⟩ := bind_some h
  refine Tri.reg (l := [0, 1, 2, 3, 4, 5, 6, 7, 8, 9]) rfl ?_
  refine F.q rfl rfl rfl (wanted_none rfl) (r_move rfl) ?_
  refine F.q rfl rfl rfl (wanted_none rfl) (r_move rfl) ?_
  refine F.qc rfl rfl rfl (wanted_none rfl) (q_callF (xs := _) rfl ok181 rfl rfl (fun w hw => spec_l1Least.ok h13 w )) ?_
  refine F.q rfl rfl rfl (wanted_none rfl) (r_move rfl) ?_
  refine F.q rfl rfl rfl (wanted_none rfl) (r_move rfl) ?_
  refine F.qc rfl rfl rfl (wanted_none rfl) (q_callF (xs := _) rfl ok180 rfl rfl (fun w hw => spec_l1Most.ok h16 w )) ?_
  refine F.q rfl rfl rfl (wanted_none rfl) (r_move rfl) ?_
  refine F.q rfl rfl rfl (wanted_none rfl) (r_buildA (qs := [(0, [.int .i64 t13]), (1, [.int .i64 t16]), (2, [.int .i64 a3])]) (cs := [.int .i64 t13, .int .i64 t16, .int .i64 a3]) Try.underlying121 ti3 ti121 rfl (.cons rfl rfl (Nat.le_of_ble_eq_true rfl) (.cons rfl rfl (Nat.le_of_ble_eq_true rfl) (.cons rfl rfl (Nat.le_of_ble_eq_true rfl) .nil))) rfl rfl) ?_
  refine F.m rfl rfl rfl (wanted_none rfl) (m_alloc ti121) ?_
  rintro _ _ ⟨b9_1, rfl, rfl⟩
  refine F.ef0 rfl rfl (wanted_none rfl) (d_storeG0 (i := 0) (cs2 := [.int .i64 t13, .int .i64 t16, .int .i64 a3]) ti121 rfl rfl rfl rfl rfl (Nat.le_of_ble_eq_true rfl) (lf_cons rfl (lf_cons rfl (lf_cons rfl lf_nil)))) ?_
  rintro _ _ ⟨rfl, rfl⟩
  refine F.nil ?_
  refine Nrm.seq ?_
  refine Tri.seq ?_
  refine Tri.reg (l := [0]) rfl ?_
  refine F.q rfl rfl rfl (wanted_none rfl) (r_assign rfl) ?_
  refine F.nil ?_
  refine Nrm.seq ?_
  refine Tri.seq ?_
  obtain ⟨x10, hE_1, h⟩ := bind_some h
  refine Tri.block ?_
  refine Tri.only [0, 9, 10] rfl ?_
  refine Tri.pick [0, 1] rfl rfl ?_
  refine Tri.rounds (fun n e' C' => ∃ (x10' : Int), spec_l2Put.l0 k a0 a3 t13 t16 n x10' = some x10 ∧ e' = [(0, va0), (9, .pointer (some ⟨b9_1, 0, none⟩)), (10, .int .i64 x10')] ∧ C' = Sep w (footM [R.sl Sa0 va0 a0]) [R.box b9_1 121 [.int .i64 t13, .int .i64 t16, .int .i64 a3], R.sl Sa0 va0 (a0 : List (Int × Int × Int))]) k ?_ ?_ ?_
  · exact ⟨0, hE_1, rfl, rfl⟩
  · rintro _ _ ⟨_, hE_1, _⟩
    rw [spec_l2Put.l0.eq_1] at hE_1; cases hE_1
  · rintro n_1 _ _ ⟨x10, hE_1, rfl, rfl⟩ ih_1
    rw [spec_l2Put.l0.eq_2] at hE_1
    refine Tri.seq ?_
    refine Tri.seq ?_
    obtain ⟨y30, hE_2, hE_1⟩ := bind_some hE_1
    refine Tri.cut (fun e' C' => e' = [(0, va0), (9, .pointer (some ⟨b9_1, 0, none⟩)), (10, .int .i64 x10), (30, .bool y30)] ∧ C' = Sep w (footM [R.sl Sa0 va0 a0]) [R.box b9_1 121 [.int .i64 t13, .int .i64 t16, .int .i64 a3], R.sl Sa0 va0 (a0 : List (Int × Int × Int))]) ?_ (fun hj_1 => ?_)
    · rintro _ _ ⟨rfl, rfl⟩
      refine Nrm.seq ?_
      refine Tri.cond (b := y30) rfl (fun g_1 => ?_) (fun g_1 => ?_)
      · replace hE_1 := if_tt g_1 hE_1
        refine Tri.skip ?_
        refine Nrm.seq ?_
        refine Tri.block ?_
        refine Tri.reg (l := [0, 1, 2]) rfl ?_
        refine F.q rfl rfl rfl (wanted_none rfl) (r_move rfl) ?_
        refine F.q rfl rfl rfl (wanted_none rfl) (r_add rfl rfl) ?_
        refine F.q rfl rfl rfl (wanted_none rfl) (r_assign rfl) ?_
        refine F.nil ?_
        refine Nrm.block ?_
        refine Nrm.round ?_
        refine Rnd.only [0, 9, 10] rfl ?_
        refine Rnd.pick [0, 1] rfl rfl ?_
        exact ih_1 _ _ ⟨w64 (x10 + 1), hE_1, rfl, rfl⟩
      · replace hE_1 := if_ff g_1 hE_1
        refine Tri.exit ?_
        refine Exi.then ?_
        refine Exi.then ?_
        refine Exi.same ?_
        cases hE_1
        refine Nrm.seq ?_
        refine Tri.seq ?_
        refine Tri.seq ?_
        obtain ⟨y44, hE_3, h⟩ := bind_some h
        refine Tri.cut (fun e' C' => e' = [(0, va0), (9, .pointer (some ⟨b9_1, 0, none⟩)), (10, .int .i64 x10), (44, .bool y44)] ∧ C' = Sep w (footM [R.sl Sa0 va0 a0]) [R.box b9_1 121 [.int .i64 t13, .int .i64 t16, .int .i64 a3], R.sl Sa0 va0 (a0 : List (Int × Int × Int))]) ?_ (fun hj_2 => ?_)
        · rintro _ _ ⟨rfl, rfl⟩
          refine Nrm.seq ?_
          refine Tri.cond (b := y44) rfl (fun g_2 => ?_) (fun g_2 => ?_)
          · replace h := if_tt g_2 h
            refine Tri.seq ?_
            refine Tri.reg (l := [0, 1]) rfl ?_
            refine F.q rfl rfl rfl (wanted_none rfl) (r_move rfl) ?_
            refine F.q rfl rfl rfl (wanted_none rfl) (r_assign rfl) ?_
            refine F.nil ?_
            refine Nrm.seq ?_
            refine Tri.ret ?_
            refine Rtn.then ?_
            cases h
            exact Rtn.body (.tmp rfl .nil) (fun w hw => ⟨_, _, rfl, ⟨Sa0, hl_va0, rfl⟩, Sep.pick (is := [1]) rfl rfl hw⟩)
          · replace h := if_ff g_2 h
            refine Tri.skip ?_
            refine Nrm.seq ?_
            refine Tri.seq ?_
            obtain ⟨y8, hE_4, h⟩ := bind_some h
            refine Tri.cut (fun e' C' => ∃ (v8_1 : Value) (S8_1 : Nat → Prop), SlLen v8_1 (y8).length ∧ e' = [(8, v8_1)] ∧ C' = Sep w (footM [R.sl Sa0 va0 a0]) [R.sl S8_1 v8_1 (y8 : List (Int × Int × Int))]) ?_ (fun hj_3 => ?_)
            · rintro _ _ ⟨v8_1, S8_1, hl_v8_1, rfl, rfl⟩
              refine Nrm.seq ?_
              refine Tri.ret ?_
              cases h
              exact Rtn.body (.tmp rfl .nil) (fun w hw => ⟨_, _, rfl, ⟨S8_1, hl_v8_1, rfl⟩, Sep.pick (is := [0]) rfl rfl hw⟩)
            · obtain ⟨t49, h49, hE_4⟩ := bind_some hE_4
              obtain ⟨t56, h56, hE_4⟩ := bind_some hE_4
              obtain ⟨hs50, hE_4⟩ := ck hE_4
              obtain ⟨hs53, hE_4⟩ := ck hE_4
              obtain ⟨hs57, hE_4⟩ := ck hE_4
              refine Tri.drawT mixedT Sep.up [1, 2, 3, 5, 8, 9, 10, 0, 4, 6, 7] [11, 12] (.q 1 (.q 2 (.q 3 (.q 5 (.q 8 (.q 9 (.q 10 (.alt 0 (.alt 4 (.alt 6 (.alt 7 .nil .stop) .stop) (.alt 6 (.alt 4 (.alt 7 .nil .stop) .stop) .stop)) (.alt 6 (.alt 0 (.alt 4 (.alt 7 .nil .stop) .stop) .stop) .stop))))))))) (by kernel_rfl) ?_
              refine T.q rfl rfl rfl (wanted_none rfl) (r_move rfl) ?_
              refine T.q rfl rfl rfl (wanted_none rfl) (r_move rfl) ?_
              refine T.q rfl rfl rfl (wanted_none rfl) (r_sliceH Try.underlying24 ti121 rfl (rd_sl (i := 1) rfl) rfl h49) ?_
              refine T.q rfl rfl rfl (wanted_none rfl) (r_loadA ta121 ti121 rfl rfl (fun w hw => (box_cells (i := 0) rfl w hw))) ?_
              refine T.q rfl rfl rfl (wanted_none rfl) (r_move rfl) ?_
              refine T.q rfl rfl rfl (wanted_none rfl) (r_move rfl) ?_
              refine T.q rfl rfl rfl (wanted_none rfl) (r_sliceL Try.underlying24 ti121 rfl (rd_sl (i := 1) rfl) rfl h56) ?_
              refine T.ef rfl rfl rfl (wanted_none rfl) (Makes.does (m_build0 (α := Int × Int × Int) Try.underlying24 ti121)) (by rintro v46_2 _ ⟨S46_2, hl_v46_2, rfl⟩; exact upd rfl [1, 2] rfl rfl) ?_ ?_
              · rintro v46_2 _ ⟨S46_2, hl_v46_2, rfl⟩
                refine T.ef rfl rfl rfl (wanted_none rfl) (d_append (i := 0) Try.underlying24 Try.underlying24 ti121 rfl (by decide) rfl rfl rfl (fun w hw => rd_slc ((rd_sl (i := 2) rfl) w hw) h49) hs50) (by rintro v50_2 _ ⟨S50_2, rfl, hl_v50_2⟩; exact upd rfl [1, 2] rfl rfl) ?_ ?_
                · rintro v50_2 _ ⟨S50_2, rfl, hl_v50_2⟩
                  refine T.ef rfl rfl rfl (wanted_none rfl) (Makes.does (m_buildF (l := ([(t13, t16, a3)] : List (Int × Int × Int))) Try.underlying24 ti121 rfl rfl rfl rfl rfl)) (by rintro v52_2 _ ⟨S52_2, hl_v52_2, rfl⟩; exact upd rfl [2, 3] rfl rfl) ?_ ?_
                  · rintro v52_2 _ ⟨S52_2, hl_v52_2, rfl⟩
                    refine T.ef rfl rfl rfl (wanted_none rfl) (d_append (i := 1) Try.underlying24 Try.underlying24 ti121 rfl (by decide) rfl rfl rfl (rd_sl (i := 0) rfl) hs53) (by rintro v53_2 _ ⟨S53_2, rfl, hl_v53_2⟩; exact upd rfl [2, 3] rfl rfl) ?_ ?_
                    · rintro v53_2 _ ⟨S53_2, rfl, hl_v53_2⟩
                      refine T.nil ?_
                      refine F.ef rfl rfl rfl (wanted_none rfl) (d_append (i := 1) Try.underlying24 Try.underlying24 ti121 rfl (by decide) rfl rfl rfl (fun w hw => rd_slc ((rd_sl (i := 3) rfl) w hw) h56) hs57) ?_
                      rintro v57_2 _ ⟨S57_2, rfl, hl_v57_2⟩
                      refine F.q rfl rfl rfl (wanted_none rfl) (r_assign rfl) ?_
                      refine F.nil ?_
                      cases hE_4
                      refine Nrm.only [8] rfl ?_
                      refine Nrm.pick [1] rfl rfl ?_
                      exact hj_3 _ _ ⟨v57_2, S57_2, hl_v57_2, rfl, rfl⟩
                    exact T.stop
                  exact T.stop
                · refine T.ef rfl rfl rfl (wanted_none rfl) (Makes.does (m_buildF (l := ([(t13, t16, a3)] : List (Int × Int × Int))) Try.underlying24 ti121 rfl rfl rfl rfl rfl)) (by rintro v52_3 _ ⟨S52_3, hl_v52_3, rfl⟩; exact upd rfl [2, 3] rfl rfl) ?_ ?_
                  · rintro v52_3 _ ⟨S52_3, hl_v52_3, rfl⟩
                    refine T.ef rfl rfl rfl (wanted_none rfl) (d_append (i := 1) Try.underlying24 Try.underlying24 ti121 rfl (by decide) rfl rfl rfl (fun w hw => rd_slc ((rd_sl (i := 3) rfl) w hw) h49) hs50) (by rintro v50_3 _ ⟨S50_3, rfl, hl_v50_3⟩; exact upd rfl [2, 3] rfl rfl) ?_ ?_
                    · rintro v50_3 _ ⟨S50_3, rfl, hl_v50_3⟩
                      refine T.ef rfl rfl rfl (wanted_none rfl) (d_append (i := 1) Try.underlying24 Try.underlying24 ti121 rfl (by decide) rfl rfl rfl (rd_sl (i := 0) rfl) hs53) (by rintro v53_3 _ ⟨S53_3, rfl, hl_v53_3⟩; exact upd rfl [2, 3] rfl rfl) ?_ ?_
                      · rintro v53_3 _ ⟨S53_3, rfl, hl_v53_3⟩
                        refine T.nil ?_
                        refine F.ef rfl rfl rfl (wanted_none rfl) (d_append (i := 1) Try.underlying24 Try.underlying24 ti121 rfl (by decide) rfl rfl rfl (fun w hw => rd_slc ((rd_sl (i := 3) rfl) w hw) h56) hs57) ?_
                        rintro v57_3 _ ⟨S57_3, rfl, hl_v57_3⟩
                        refine F.q rfl rfl rfl (wanted_none rfl) (r_assign rfl) ?_
                        refine F.nil ?_
                        cases hE_4
                        refine Nrm.only [8] rfl ?_
                        refine Nrm.pick [1] rfl rfl ?_
                        exact hj_3 _ _ ⟨v57_3, S57_3, hl_v57_3, rfl, rfl⟩
                      exact T.stop
                    exact T.stop
                  exact T.stop
              · refine T.ef rfl rfl rfl (wanted_none rfl) (Makes.does (m_buildF (l := ([(t13, t16, a3)] : List (Int × Int × Int))) Try.underlying24 ti121 rfl rfl rfl rfl rfl)) (by rintro v52_4 _ ⟨S52_4, hl_v52_4, rfl⟩; exact upd rfl [1, 2] rfl rfl) ?_ ?_
                · rintro v52_4 _ ⟨S52_4, hl_v52_4, rfl⟩
                  refine T.ef rfl rfl rfl (wanted_none rfl) (Makes.does (m_build0 (α := Int × Int × Int) Try.underlying24 ti121)) (by rintro v46_3 _ ⟨S46_3, hl_v46_3, rfl⟩; exact upd rfl [2, 3] rfl rfl) ?_ ?_
                  · rintro v46_3 _ ⟨S46_3, hl_v46_3, rfl⟩
                    refine T.ef rfl rfl rfl (wanted_none rfl) (d_append (i := 0) Try.underlying24 Try.underlying24 ti121 rfl (by decide) rfl rfl rfl (fun w hw => rd_slc ((rd_sl (i := 3) rfl) w hw) h49) hs50) (by rintro v50_4 _ ⟨S50_4, rfl, hl_v50_4⟩; exact upd rfl [2, 3] rfl rfl) ?_ ?_
                    · rintro v50_4 _ ⟨S50_4, rfl, hl_v50_4⟩
                      refine T.ef rfl rfl rfl (wanted_none rfl) (d_append (i := 0) Try.underlying24 Try.underlying24 ti121 rfl (by decide) rfl rfl rfl (rd_sl (i := 1) rfl) hs53) (by rintro v53_4 _ ⟨S53_4, rfl, hl_v53_4⟩; exact upd rfl [2, 3] rfl rfl) ?_ ?_
                      · rintro v53_4 _ ⟨S53_4, rfl, hl_v53_4⟩
                        refine T.nil ?_
                        refine F.ef rfl rfl rfl (wanted_none rfl) (d_append (i := 0) Try.underlying24 Try.underlying24 ti121 rfl (by decide) rfl rfl rfl (fun w hw => rd_slc ((rd_sl (i := 3) rfl) w hw) h56) hs57) ?_
                        rintro v57_4 _ ⟨S57_4, rfl, hl_v57_4⟩
                        refine F.q rfl rfl rfl (wanted_none rfl) (r_assign rfl) ?_
                        refine F.nil ?_
                        cases hE_4
                        refine Nrm.only [8] rfl ?_
                        refine Nrm.pick [0] rfl rfl ?_
                        exact hj_3 _ _ ⟨v57_4, S57_4, hl_v57_4, rfl, rfl⟩
                      exact T.stop
                    exact T.stop
                  exact T.stop
                exact T.stop
        · rcases Bool.eq_false_or_eq_true (decide (x10 < (a0.length : Int))) with g37 | g37
          · replace hE_3 := if_tt g37 hE_3
            obtain ⟨t40, h40, hE_3⟩ := bind_some hE_3
            refine Tri.drawA mixedT Sep.up [(0, true), (1, true), (2, true), (3, true), (4, true), (5, true), (6, true), (7, true), (8, true), (9, true), (10, true), (11, true)] [] (by kernel_rfl) ?_
            refine S.q rfl rfl rfl (wanted_none rfl) (r_move rfl) ?_
            refine S.q rfl rfl rfl (wanted_none rfl) (r_move rfl) ?_
            refine S.q rfl rfl rfl (wanted_none rfl) (r_len Try.underlying24 rfl hl_va0) ?_
            refine S.q rfl rfl rfl (wanted_none rfl) (r_lss rfl rfl) ?_
            refine S.q rfl rfl rfl (wanted_none rfl) (r_move rfl) ?_
            refine S.q rfl rfl rfl (wg rfl rfl rfl g37) (r_move rfl) ?_
            refine S.q rfl rfl rfl (wg rfl rfl rfl g37) (r_move rfl) ?_
            refine S.q rfl rfl rfl (wg rfl rfl rfl g37) (r_indexAddrS Try.underlying24 ti121 rfl hl_va0 rfl (rdl_some h40).1 (rdl_some h40).2.1) ?_
            refine S.q rfl rfl rfl (wg rfl rfl rfl g37) (r_loadA ta121 ti121 rfl rfl (fun w hw => (Rd.flat ((rd_sl (i := 1) rfl) w hw) (rdl_some h40).2.2))) ?_
            refine S.q rfl rfl rfl (wg rfl rfl rfl g37) (r_loadA ta121 ti121 rfl rfl (fun w hw => (box_cells (i := 0) rfl w hw))) ?_
            refine S.q rfl rfl rfl (wg rfl rfl rfl g37) (r_eqlA3 Try.underlying121 Try.underlying3 ti3 ta3 rfl rfl eg121) ?_
            refine S.q rfl rfl rfl (wanted_none rfl) (r_pick rfl rfl g37) ?_
            refine S.nil ?_
            refine F.nil ?_
            cases hE_3
            refine Nrm.only [0, 9, 10, 44] rfl ?_
            refine Nrm.pick [0, 1] rfl rfl ?_
            exact hj_2 _ _ ⟨rfl, rfl⟩
          · replace hE_3 := if_ff g37 hE_3
            refine Tri.drawA mixedT Sep.up [(0, true), (1, true), (2, true), (3, true), (4, true), (5, true), (6, true), (7, true), (8, true), (9, true), (10, true), (11, true)] [] (by kernel_rfl) ?_
            refine S.q rfl rfl rfl (wanted_none rfl) (r_move rfl) ?_
            refine S.q rfl rfl rfl (wanted_none rfl) (r_move rfl) ?_
            refine S.q rfl rfl rfl (wanted_none rfl) (r_len Try.underlying24 rfl hl_va0) ?_
            refine S.q rfl rfl rfl (wanted_none rfl) (r_lss rfl rfl) ?_
            refine S.q rfl rfl rfl (wanted_none rfl) (r_move rfl) ?_
            refine S.sk rfl rfl rfl (wf rfl rfl rfl g37) ?_
            refine S.sk rfl rfl rfl (wf rfl rfl rfl g37) ?_
            refine S.sk rfl rfl rfl (wf rfl rfl rfl g37) ?_
            refine S.sk rfl rfl rfl (wf rfl rfl rfl g37) ?_
            refine S.sk rfl rfl rfl (wf rfl rfl rfl g37) ?_
            refine S.sk rfl rfl rfl (wf rfl rfl rfl g37) ?_
            refine S.q rfl rfl rfl (wanted_none rfl) (r_pickf rfl rfl g37) ?_
            refine S.nil ?_
            refine F.nil ?_
            cases hE_3
            refine Nrm.only [0, 9, 10, 44] rfl ?_
            refine Nrm.pick [0, 1] rfl rfl ?_
            exact hj_2 _ _ ⟨rfl, rfl⟩
    · rcases Bool.eq_false_or_eq_true (decide (x10 < (a0.length : Int))) with g23 | g23
      · replace hE_2 := if_tt g23 hE_2
        obtain ⟨t26, h26, hE_2⟩ := bind_some hE_2
        obtain ⟨t29, h29, hE_2⟩ := bind_some hE_2
        refine Tri.drawA mixedT Sep.up [(0, true), (1, true), (2, true), (3, true), (4, true), (5, true), (6, true), (7, true), (8, true), (9, true), (10, true), (11, true)] [] (by kernel_rfl) ?_
        refine S.q rfl rfl rfl (wanted_none rfl) (r_move rfl) ?_
        refine S.q rfl rfl rfl (wanted_none rfl) (r_move rfl) ?_
        refine S.q rfl rfl rfl (wanted_none rfl) (r_len Try.underlying24 rfl hl_va0) ?_
        refine S.q rfl rfl rfl (wanted_none rfl) (r_lss rfl rfl) ?_
        refine S.q rfl rfl rfl (wanted_none rfl) (r_move rfl) ?_
        refine S.q rfl rfl rfl (wg rfl rfl rfl g23) (r_move rfl) ?_
        refine S.q rfl rfl rfl (wg rfl rfl rfl g23) (r_move rfl) ?_
        refine S.q rfl rfl rfl (wg rfl rfl rfl g23) (r_indexAddrS Try.underlying24 ti121 rfl hl_va0 rfl (rdl_some h26).1 (rdl_some h26).2.1) ?_
        refine S.q rfl rfl rfl (wg rfl rfl rfl g23) (r_loadA ta121 ti121 rfl rfl (fun w hw => (Rd.flat ((rd_sl (i := 1) rfl) w hw) (rdl_some h26).2.2))) ?_
        refine S.q rfl rfl rfl (wg rfl rfl rfl g23) (r_loadA ta121 ti121 rfl rfl (fun w hw => (box_cells (i := 0) rfl w hw))) ?_
        refine S.qc rfl rfl rfl (wg rfl rfl rfl g23) (q_callF (xs := _) rfl ok213 rfl rfl (fun w hw => spec_l2Before.ok h29 w )) ?_
        refine S.q rfl rfl rfl (wanted_none rfl) (r_pick rfl rfl g23) ?_
        refine S.nil ?_
        refine F.nil ?_
        cases hE_2
        refine Nrm.only [0, 9, 10, 30] rfl ?_
        refine Nrm.pick [0, 1] rfl rfl ?_
        exact hj_1 _ _ ⟨rfl, rfl⟩
      · replace hE_2 := if_ff g23 hE_2
        refine Tri.drawA mixedT Sep.up [(0, true), (1, true), (2, true), (3, true), (4, true), (5, true), (6, true), (7, true), (8, true), (9, true), (10, true), (11, true)] [] (by kernel_rfl) ?_
        refine S.q rfl rfl rfl (wanted_none rfl) (r_move rfl) ?_
        refine S.q rfl rfl rfl (wanted_none rfl) (r_move rfl) ?_
        refine S.q rfl rfl rfl (wanted_none rfl) (r_len Try.underlying24 rfl hl_va0) ?_
        refine S.q rfl rfl rfl (wanted_none rfl) (r_lss rfl rfl) ?_
        refine S.q rfl rfl rfl (wanted_none rfl) (r_move rfl) ?_
        refine S.sk rfl rfl rfl (wf rfl rfl rfl g23) ?_
        refine S.sk rfl rfl rfl (wf rfl rfl rfl g23) ?_
        refine S.sk rfl rfl rfl (wf rfl rfl rfl g23) ?_
        refine S.sk rfl rfl rfl (wf rfl rfl rfl g23) ?_
        refine S.sk rfl rfl rfl (wf rfl rfl rfl g23) ?_
        refine S.sk rfl rfl rfl (wf rfl rfl rfl g23) ?_
        refine S.q rfl rfl rfl (wanted_none rfl) (r_pickf rfl rfl g23) ?_
        refine S.nil ?_
        refine F.nil ?_
        cases hE_2
        refine Nrm.only [0, 9, 10, 30] rfl ?_
        refine Nrm.pick [0, 1] rfl rfl ?_
        exact hj_1 _ _ ⟨rfl, rfl⟩

end Go.Proofs

/- (*loop.example/g01158/spec.l1Cur).someMaze -/
namespace Go.Proofs
open Go Go.Ga
set_option linter.unusedVariables false
set_option maxRecDepth 100000
set_option maxHeartbeats 4000000
def spec_l1Cur_someMaze.l1 (k : Nat) (a0_0 : List By) (a1 : Int) (t20_1 : Int) : Nat → Int → Int → Int → (List (Int × Int × Int)) → Option (Int × Int × (List (Int × Int × Int)))
  | 0, _, _, _, _ => none
  | n + 1, x11, xpa0_1r, xpa0_2r, xq5_1_1r => ((if (decide (x11 > 0)) = true then (if (decide (a1 > 1)) = true then some (decide (a1 < 13)) else some false) else some false)).bind fun y77 => (if y77 = true then (spec_l1Cur_pick.f k a0_0 xpa0_1r xpa0_2r a1).bind fun (t82_1, t82_2, t82_3) => (spec_l1Cur_pick.f k a0_0 t82_2 t82_3 a1).bind fun (t85_1, t85_2, t85_3) => ((if (t82_1 != t85_1) = true then (spec_l1Cur_few.f k a0_0 t85_2 t85_3 (w64 (1 + t20_1))).bind fun (t95_1, t95_2, t95_3) => (spec_l2Put.f k xq5_1_1r t82_1 t85_1 t95_1).bind fun t96 => some (t95_2, t95_3, t96) else some (t85_2, t85_3, xq5_1_1r))).bind fun (ypa0_1rr, ypa0_2rr, yb5_1_1r) => spec_l1Cur_someMaze.l1 k a0_0 a1 t20_1 n (w64 (x11 - 1)) ypa0_1rr ypa0_2rr yb5_1_1r else some (xpa0_1r, xpa0_2r, xq5_1_1r))

def spec_l1Cur_someMaze.l0 (k : Nat) (a0_0 : List By) (a1 : Int) (t20_1 : Int) : Nat → Int → Int → (List (Int × Int × Int)) → (List (Int)) → Int → Int → Option (Int × Int × (List (Int × Int × Int)) × (List (Int)))
  | 0, _, _, _, _, _, _ => none
  | n + 1, x7, x8, xq5_1_1, xq5_1_2, xpa0_1, xpa0_2 => ((if (decide (x8 < a1)) = true then some (decide (x8 < 13)) else some false)).bind fun y28 => (if y28 = true then (spec_l1Cur_one.f k a0_0 xpa0_1 xpa0_2 2).bind fun (t32_1, t32_2, t32_3) => ((if t32_1 = true then (spec_l1Cur_pick.f k a0_0 t32_2 t32_3 (w64 (1 + t20_1))).bind fun (t35_1, t35_2, t35_3) => if ¬ t35_1 < 0 then some (shl 1 t35_1, t35_2, t35_3) else none else some (0, t32_2, t32_3))).bind fun (y9, ypa0_1, ypa0_2) => if (xq5_1_2 ++ ([y9] : List (Int))).length < 1099511627776 then ((if (decide (x8 > 0)) = true then (spec_l1Cur_few.f k a0_0 ypa0_1 ypa0_2 (w64 (1 + t20_1))).bind fun (t47_1, t47_2, t47_3) => (spec_l1Cur_one.f k a0_0 t47_2 t47_3 3).bind fun (t49_1, t49_2, t49_3) => ((if (!t49_1) = true then some (band t47_1 x7) else some t47_1)).bind fun y10 => (spec_l1Cur_pick.f k a0_0 t49_2 t49_3 x8).bind fun (t58_1, t58_2, t58_3) => (spec_l2Put.f k xq5_1_1 t58_1 x8 y10).bind fun t61 => some (t58_2, t58_3, t61) else some (ypa0_1, ypa0_2, xq5_1_1))).bind fun (ypa0_1r, ypa0_2r, yb5_1_1) => spec_l1Cur_someMaze.l0 k a0_0 a1 t20_1 n (bor x7 y9) (w64 (x8 + 1)) yb5_1_1 (xq5_1_2 ++ ([y9] : List (Int))) ypa0_1r ypa0_2r else none else some (xpa0_1, xpa0_2, xq5_1_1, xq5_1_2))

def spec_l1Cur_someMaze.f (k : Nat) (a0_0 : List By) (a0_1 : Int) (a0_2 : Int) (a1 : Int) : Option (Int × (List (Int × Int × Int)) × (List Int) × Int × Int) := (spec_l1Cur_pick.f k a0_0 a0_1 a0_2 6).bind fun (t20_1, t20_2, t20_3) => (spec_l1Cur_someMaze.l0 k a0_0 a1 t20_1 k 0 0 ([] : List (Int × Int × Int)) ([] : List (Int)) t20_2 t20_3).bind fun (xpa0_1, xpa0_2, xq5_1_1, xq5_1_2) => (spec_l1Cur_pick.f k a0_0 xpa0_1 xpa0_2 6).bind fun (t67_1, t67_2, t67_3) => (spec_l1Cur_someMaze.l1 k a0_0 a1 t20_1 k t67_1 t67_2 t67_3 xq5_1_1).bind fun (xpa0_1r, xpa0_2r, xq5_1_1r) => (spec_l1Cur_pick.f k a0_0 xpa0_1r xpa0_2r 60).bind fun (t99_1, t99_2, t99_3) => (if (t99_1 == 0) = true then (spec_l1Cur_among.f k a0_0 t99_2 t99_3 ([0, 13, w64 (a1 + 1)] : List (Int))).bind fun (t107_1, t107_2, t107_3) => some (t107_1, xq5_1_1r, xq5_1_2, t107_2, t107_3) else (if (t99_1 == 1) = true then ((if (decide ((xq5_1_1r.length : Int) > 0)) = true then (spec_l1Cur_pick.f k a0_0 t99_2 t99_3 (xq5_1_1r.length : Int)).bind fun (t119_1, t119_2, t119_3) => (rdl xq5_1_1r t119_1).bind fun t126 => (rdl xq5_1_1r t119_1).bind fun t132 => (rdl xq5_1_1r t119_1).bind fun t136 => some (t119_2, t119_3, xq5_1_1r.set t119_1.toNat (t126.2.1, t132.1, 0)) else some (t99_2, t99_3, xq5_1_1r))).bind fun (ypa0_1rrr, ypa0_2rrr, yb5_1_1rr) => some (a1, yb5_1_1rr, xq5_1_2, ypa0_1rrr, ypa0_2rrr) else (if (t99_1 == 2) = true then ((if (decide ((xq5_1_2.length : Int) > 0)) = true then ((spec_l1Cur_pick.f k a0_0 t99_2 t99_3 (xq5_1_2.length : Int)).bind fun (t149_1, t149_2, t149_3) => (spec_l1Cur_among.f k a0_0 t149_2 t149_3 ([64, (-1), 63] : List (Int))).bind fun (t152_1, t152_2, t152_3) => (rdl xq5_1_2 t149_1).bind fun t153 => some (t152_2, t152_3, xq5_1_2.set t149_1.toNat t152_1)).bind fun (ypa0_1rrrr, ypa0_2rrrr, yb5_1_2) => some (ypa0_1rrrr, ypa0_2rrrr, yb5_1_2) else some (t99_2, t99_3, xq5_1_2))).bind fun (ypa0_1rrrr, ypa0_2rrrr, yb5_1_2) => some (a1, xq5_1_1r, yb5_1_2, ypa0_1rrrr, ypa0_2rrrr) else (if (t99_1 == 3) = true then ((if (decide ((xq5_1_1r.length : Int) > 0)) = true then (rdl xq5_1_1r 0).bind fun t164 => if (xq5_1_1r ++ ([t164] : List (Int × Int × Int))).length < 1099511627776 then some (xq5_1_1r ++ ([t164] : List (Int × Int × Int))) else none else some xq5_1_1r)).bind fun yb5_1_1rrr => some (a1, yb5_1_1rrr, xq5_1_2, t99_2, t99_3) else (if (t99_1 == 4) = true then some (0, [], [], t99_2, t99_3) else some (a1, xq5_1_1r, xq5_1_2, t99_2, t99_3))))))

theorem spec_l1Cur_someMaze.ok {k : Nat}  {a0_0 : List By} {a0_1 : Int} {a0_2 : Int} {a1 : Int} {r0 : Int} {r1 : List (Int × Int × Int)} {r2 : List Int} {r3 : Int} {r4 : Int} (h : spec_l1Cur_someMaze.f k a0_0 a0_1 a0_2 a1 = some (r0, r1, r2, r3, r4)) (w : World) {pa0 : Nat} {va0_0 : Value} (hr_a0_0 : RdM w (footM [R.box pa0 100 [va0_0, .int .i64 a0_1, .int .u64 a0_2]]) va0_0 a0_0) (hw0 : Sep w (footM [R.box pa0 100 [va0_0, .int .i64 a0_1, .int .u64 a0_2]]) [R.box pa0 100 [va0_0, .int .i64 a0_1, .int .u64 a0_2]] w) :
    Calls Try.prog 162 ([.pointer (some ⟨pa0, 0, none⟩), .int .i64 a1] : List Value).toArray w (PostM (footM [R.box pa0 100 [va0_0, .int .i64 a0_1, .int .u64 a0_2]]) (fun u ns => ∃ (ur1 : Value) (Sr1 : Nat → Prop) (ur2 : Value) (Sr2 : Nat → Prop), u = .agg [.int .i64 r0, ur1, ur2].toArray ∧ SlLen ur1 r1.length ∧ SlLen ur2 r2.length ∧ ns = [R.sl Sr1 ur1 r1, R.sl Sr2 ur2 r2, R.box pa0 100 [va0_0, .int .i64 r3, .int .u64 r4]]) w) := by
  unfold spec_l1Cur_someMaze.f at h
  have hl_va0_0 := hr_a0_0.len
  refine Calls.of_tri (N := 173) Try.func162 rfl rfl rfl hw0 ?_
  refine Tri.seq ?_
  refine Tri.reg (l := [0]) rfl ?_
  refine F.m rfl rfl rfl (wanted_none rfl) (m_alloc ti27) ?_
  rintro _ _ ⟨b4_1, rfl, rfl⟩
  refine F.nil ?_
  refine Nrm.seq ?_
  refine Tri.seq ?_
  obtain ⟨⟨t20_1, t20_2, t20_3⟩, h20, h⟩ := bind_some h
  refine Tri.reg (l := [0, 1, 2, 3, 4, 5, 6, 7, 8, 9]) rfl ?_
  refine F.q rfl rfl rfl (wanted_none rfl) (r_move rfl) ?_
  refine F.m rfl rfl rfl (wanted_none rfl) (m_build0 (α := Int × Int × Int) Try.underlying24 ti121) ?_
  rintro v16_1 _ ⟨S16_1, hl_v16_1, rfl⟩
  refine F.m rfl rfl rfl (wanted_none rfl) (m_build0 (α := Int) Try.underlying25 ti3) ?_
  rintro v17_1 _ ⟨S17_1, hl_v17_1, rfl⟩
  refine F.q rfl rfl rfl (wanted_none rfl) (r_build (pl := [(0, 1), (1, 1), (2, 1)]) (qs := [(0, [.int .i64 a1]), (1, [v16_1]), (2, [v17_1])]) (cs := [.int .i64 a1, v16_1, v17_1]) (by kernel_rfl) ti27 rfl (.cons rfl rfl (Nat.le_of_ble_eq_true rfl) (.cons (sl_cells hl_v16_1) rfl (Nat.le_of_ble_eq_true rfl) (.cons (sl_cells hl_v17_1) rfl (Nat.le_of_ble_eq_true rfl) .nil))) rfl rfl) ?_
  refine F.q rfl rfl rfl (wanted_none rfl) (r_move rfl) ?_
  refine F.ef rfl rfl rfl (wanted_none rfl) (d_callM (xs := _) (cs := [R.box pa0 100 [va0_0, .int .i64 a0_1, .int .u64 a0_2]]) (rest := [R.sl S17_1 v17_1 (([] : List (Int)) : List (Int)), R.sl S16_1 v16_1 (([] : List (Int × Int × Int)) : List (Int × Int × Int)), R.box b4_1 27 [.int .i64 0, .slice none 0 0, .slice none 0 0]]) [3] [0, 1, 2] rfl ok95 rfl rfl rfl rfl (fun w hw => spec_l1Cur_pick.ok h20 w (hr_a0_0.down hw) (Sep.sub hw))) ?_
  rintro _ _ ⟨_, ⟨rfl, rfl⟩, rfl⟩
  refine F.q rfl rfl rfl (wanted_none rfl) (r_add rfl rfl) ?_
  refine F.m rfl rfl rfl (wanted_none rfl) (m_alloc ti27) ?_
  rintro _ _ ⟨b5_1, rfl, rfl⟩
  refine F.ef0 rfl rfl (wanted_none rfl) (d_storeG0 (i := 0) (cs2 := [.int .i64 a1, v16_1, v17_1]) ti27 rfl rfl rfl rfl rfl (Nat.le_of_ble_eq_true rfl) (lf_cons rfl (lf_cons (sl_leaf hl_v16_1) (lf_cons (sl_leaf hl_v17_1) lf_nil)))) ?_
  rintro _ _ ⟨rfl, rfl⟩
  refine F.q rfl rfl rfl (wanted_none rfl) (r_assign rfl) ?_
  refine F.nil ?_
  refine Nrm.seq ?_
  refine Tri.seq ?_
  refine Tri.reg (l := [0]) rfl ?_
  refine F.q rfl rfl rfl (wanted_none rfl) (r_assign rfl) ?_
  refine F.nil ?_
  refine Nrm.seq ?_
  refine Tri.seq ?_
  refine Tri.seq ?_
  refine Tri.reg (l := [0]) rfl ?_
  refine F.q rfl rfl rfl (wanted_none rfl) (r_assign rfl) ?_
  refine F.nil ?_
  refine Nrm.seq ?_
  obtain ⟨⟨xpa0_1, xpa0_2, xq5_1_1, xq5_1_2⟩, hE_1, h⟩ := bind_some h
  refine Tri.block ?_
  refine Tri.only [0, 1, 4, 5, 6, 7, 8] rfl ?_
  refine Tri.pick [0, 1, 4, 2, 3] rfl rfl ?_
  refine Tri.rounds (fun n e' C' => ∃ (x7' : Int) (x8' : Int) (xq5_1_1' : List (Int × Int × Int)) (xq5_1_2' : List (Int)) (xpa0_1' : Int) (xpa0_2' : Int) (wq5_1_1 : Value) (Tq5_1_1 : Nat → Prop) (wq5_1_2 : Value) (Tq5_1_2 : Nat → Prop), spec_l1Cur_someMaze.l0 k a0_0 a1 t20_1 n x7' x8' xq5_1_1' xq5_1_2' xpa0_1' xpa0_2' = some (xpa0_1, xpa0_2, xq5_1_1, xq5_1_2) ∧ SlLen wq5_1_1 (xq5_1_1').length ∧ SlLen wq5_1_2 (xq5_1_2').length ∧ e' = [(0, .pointer (some ⟨pa0, 0, none⟩)), (1, .int .i64 a1), (4, .pointer (some ⟨b4_1, 0, none⟩)), (5, .pointer (some ⟨b5_1, 0, none⟩)), (6, .int .i64 (w64 (1 + t20_1))), (7, .int .i64 x7'), (8, .int .i64 x8')] ∧ C' = Sep w (footM [R.box pa0 100 [va0_0, .int .i64 a0_1, .int .u64 a0_2]]) [R.box b5_1 27 [.int .i64 a1, wq5_1_1, wq5_1_2], R.box pa0 100 [va0_0, .int .i64 xpa0_1', .int .u64 xpa0_2'], R.box b4_1 27 [.int .i64 0, .slice none 0 0, .slice none 0 0], R.sl Tq5_1_2 wq5_1_2 (xq5_1_2' : List (Int)), R.sl Tq5_1_1 wq5_1_1 (xq5_1_1' : List (Int × Int × Int))]) k ?_ ?_ ?_
  · exact ⟨0, 0, ([] : List (Int × Int × Int)), ([] : List (Int)), t20_2, t20_3, v16_1, S16_1, v17_1, S17_1, hE_1, hl_v16_1, hl_v17_1, rfl, rfl⟩
  · rintro _ _ ⟨_, _, _, _, _, _, _, _, _, _, hE_1, _⟩
    rw [spec_l1Cur_someMaze.l0.eq_1] at hE_1; cases hE_1
  · rintro n_1 _ _ ⟨x7, x8, xq5_1_1, xq5_1_2, xpa0_1, xpa0_2, wq5_1_1, Tq5_1_1, wq5_1_2, Tq5_1_2, hE_1, hl_wq5_1_1, hl_wq5_1_2, rfl, rfl⟩ ih_1
    rw [spec_l1Cur_someMaze.l0.eq_2] at hE_1
    refine Tri.seq ?_
    refine Tri.seq ?_
    obtain ⟨y28, hE_2, hE_1⟩ := bind_some hE_1
    refine Tri.cut (fun e' C' => e' = [(0, .pointer (some ⟨pa0, 0, none⟩)), (1, .int .i64 a1), (4, .pointer (some ⟨b4_1, 0, none⟩)), (5, .pointer (some ⟨b5_1, 0, none⟩)), (6, .int .i64 (w64 (1 + t20_1))), (7, .int .i64 x7), (8, .int .i64 x8), (28, .bool y28)] ∧ C' = Sep w (footM [R.box pa0 100 [va0_0, .int .i64 a0_1, .int .u64 a0_2]]) [R.box b5_1 27 [.int .i64 a1, wq5_1_1, wq5_1_2], R.box pa0 100 [va0_0, .int .i64 xpa0_1, .int .u64 xpa0_2], R.box b4_1 27 [.int .i64 0, .slice none 0 0, .slice none 0 0], R.sl Tq5_1_1 wq5_1_1 (xq5_1_1 : List (Int × Int × Int)), R.sl Tq5_1_2 wq5_1_2 (xq5_1_2 : List (Int))]) ?_ (fun hj_1 => ?_)
    · rintro _ _ ⟨rfl, rfl⟩
      refine Nrm.seq ?_
      refine Tri.cond (b := y28) rfl (fun g_1 => ?_) (fun g_1 => ?_)
      · replace hE_1 := if_tt g_1 hE_1
        refine Tri.skip ?_
        refine Nrm.seq ?_
        refine Tri.seq ?_
        refine Tri.block ?_
        refine Tri.seq ?_
        refine Tri.reg (l := [0]) rfl ?_
        refine F.q rfl rfl rfl (wanted_none rfl) (r_assign rfl) ?_
        refine F.nil ?_
        refine Nrm.seq ?_
        refine Tri.seq ?_
        refine Tri.seq ?_
        obtain ⟨⟨t32_1, t32_2, t32_3⟩, h32, hE_1⟩ := bind_some hE_1
        refine Tri.reg (l := [0, 1]) rfl ?_
        refine F.q rfl rfl rfl (wanted_none rfl) (r_move rfl) ?_
        refine F.ef rfl rfl rfl (wanted_none rfl) (d_callM (xs := _) (cs := [R.box pa0 100 [va0_0, .int .i64 xpa0_1, .int .u64 xpa0_2]]) (rest := [R.box b5_1 27 [.int .i64 a1, wq5_1_1, wq5_1_2], R.box b4_1 27 [.int .i64 0, .slice none 0 0, .slice none 0 0], R.sl Tq5_1_1 wq5_1_1 (xq5_1_1 : List (Int × Int × Int)), R.sl Tq5_1_2 wq5_1_2 (xq5_1_2 : List (Int))]) [1] [0, 2, 3, 4] rfl ok93 rfl rfl rfl rfl (fun w hw => spec_l1Cur_one.ok h32 w (hr_a0_0.down hw) (Sep.sub hw))) ?_
        rintro _ _ ⟨_, ⟨rfl, rfl⟩, rfl⟩
        refine F.nil ?_
        refine Nrm.seq ?_
        obtain ⟨⟨y9, ypa0_1, ypa0_2⟩, hE_3, hE_1⟩ := bind_some hE_1
        refine Tri.cut (fun e' C' => e' = [(0, .pointer (some ⟨pa0, 0, none⟩)), (1, .int .i64 a1), (4, .pointer (some ⟨b4_1, 0, none⟩)), (5, .pointer (some ⟨b5_1, 0, none⟩)), (6, .int .i64 (w64 (1 + t20_1))), (7, .int .i64 x7), (8, .int .i64 x8), (9, .int .i64 y9)] ∧ C' = Sep w (footM [R.box pa0 100 [va0_0, .int .i64 a0_1, .int .u64 a0_2]]) [R.box pa0 100 [va0_0, .int .i64 ypa0_1, .int .u64 ypa0_2], R.box b5_1 27 [.int .i64 a1, wq5_1_1, wq5_1_2], R.box b4_1 27 [.int .i64 0, .slice none 0 0, .slice none 0 0], R.sl Tq5_1_1 wq5_1_1 (xq5_1_1 : List (Int × Int × Int)), R.sl Tq5_1_2 wq5_1_2 (xq5_1_2 : List (Int))]) ?_ (fun hj_2 => ?_)
        · rintro _ _ ⟨rfl, rfl⟩
          refine Nrm.seq ?_
          refine Tri.seq ?_
          obtain ⟨hs41, hE_1⟩ := ck hE_1
          refine Tri.reg (l := [0, 1, 2, 3, 4, 5, 6]) rfl ?_
          refine F.q rfl rfl rfl (wanted_none rfl) (r_fieldAddr tf27_2 rfl) ?_
          refine F.q rfl rfl rfl (wanted_none rfl) (r_load ta25 rfl (fun w hw => cell_1 (box_cells (i := 1) rfl w hw) rfl)) ?_
          refine F.q rfl rfl rfl (wanted_none rfl) (r_move rfl) ?_
          refine F.m rfl rfl rfl (wanted_none rfl) (m_buildF (l := ([y9] : List (Int))) Try.underlying25 ti3 rfl rfl rfl rfl rfl) ?_
          rintro v40_1 _ ⟨S40_1, hl_v40_1, rfl⟩
          refine F.ef rfl rfl rfl (wanted_none rfl) (d_append (i := 5) Try.underlying25 Try.underlying25 ti3 rfl (by decide) rfl rfl rfl (rd_sl (i := 0) rfl) hs41) ?_
          rintro v41_1 _ ⟨S41_1, rfl, hl_v41_1⟩
          refine F.q rfl rfl rfl (wanted_none rfl) (r_fieldAddr tf27_2 rfl) ?_
          refine F.ef0 rfl rfl (wanted_none rfl) (d_storeG1 (i := 2) (cs2 := [v41_1]) ti25 rfl rfl rfl (sl_cells hl_v41_1) rfl (Nat.le_of_ble_eq_true rfl) (lf_cons (sl_leaf hl_v41_1) lf_nil)) ?_
          rintro _ _ ⟨rfl, rfl⟩
          refine F.nil ?_
          refine Nrm.seq ?_
          refine Tri.seq ?_
          refine Tri.seq ?_
          refine Tri.reg (l := [0, 1]) rfl ?_
          refine F.q rfl rfl rfl (wanted_none rfl) (r_move rfl) ?_
          refine F.q rfl rfl rfl (wanted_none rfl) (r_gtr rfl rfl) ?_
          refine F.nil ?_
          refine Nrm.seq ?_
          obtain ⟨⟨ypa0_1r, ypa0_2r, yb5_1_1⟩, hE_4, hE_1⟩ := bind_some hE_1
          refine Tri.cut (fun e' C' => ∃ (vb5_1_1_1 : Value) (Sb5_1_1_1 : Nat → Prop), SlLen vb5_1_1_1 (yb5_1_1).length ∧ e' = [(0, .pointer (some ⟨pa0, 0, none⟩)), (1, .int .i64 a1), (4, .pointer (some ⟨b4_1, 0, none⟩)), (5, .pointer (some ⟨b5_1, 0, none⟩)), (6, .int .i64 (w64 (1 + t20_1))), (7, .int .i64 x7), (8, .int .i64 x8), (9, .int .i64 y9)] ∧ C' = Sep w (footM [R.box pa0 100 [va0_0, .int .i64 a0_1, .int .u64 a0_2]]) [R.box pa0 100 [va0_0, .int .i64 ypa0_1r, .int .u64 ypa0_2r], R.box b5_1 27 [.int .i64 a1, vb5_1_1_1, v41_1], R.box b4_1 27 [.int .i64 0, .slice none 0 0, .slice none 0 0], R.sl Sb5_1_1_1 vb5_1_1_1 (yb5_1_1 : List (Int × Int × Int)), R.sl S41_1 v41_1 (xq5_1_2 ++ ([y9] : List (Int)) : List (Int))]) ?_ (fun hj_3 => ?_)
          · rintro _ _ ⟨vb5_1_1_1, Sb5_1_1_1, hl_vb5_1_1_1, rfl, rfl⟩
            refine Nrm.seq ?_
            refine Tri.reg (l := [0, 1, 2, 3]) rfl ?_
            refine F.q rfl rfl rfl (wanted_none rfl) (r_move rfl) ?_
            refine F.q rfl rfl rfl (wanted_none rfl) (r_move rfl) ?_
            refine F.q rfl rfl rfl (wanted_none rfl) (r_or rfl rfl) ?_
            refine F.q rfl rfl rfl (wanted_none rfl) (r_assign rfl) ?_
            refine F.nil ?_
            refine Nrm.block ?_
            refine Nrm.seq ?_
            refine Tri.reg (l := [0, 1, 2]) rfl ?_
            refine F.q rfl rfl rfl (wanted_none rfl) (r_move rfl) ?_
            refine F.q rfl rfl rfl (wanted_none rfl) (r_add rfl rfl) ?_
            refine F.q rfl rfl rfl (wanted_none rfl) (r_assign rfl) ?_
            refine F.nil ?_
            refine Nrm.round ?_
            refine Rnd.only [0, 1, 4, 5, 6, 7, 8] rfl ?_
            refine Rnd.pick [1, 0, 2, 4, 3] rfl rfl ?_
            exact ih_1 _ _ ⟨bor x7 y9, w64 (x8 + 1), yb5_1_1, xq5_1_2 ++ ([y9] : List (Int)), ypa0_1r, ypa0_2r, vb5_1_1_1, Sb5_1_1_1, v41_1, S41_1, hE_1, hl_vb5_1_1_1, hl_v41_1, rfl, rfl⟩
          · refine Tri.cond (b := decide (x8 > 0)) rfl (fun g_3 => ?_) (fun g_3 => ?_)
            · replace hE_4 := if_tt g_3 hE_4
              refine Tri.seq ?_
              obtain ⟨⟨t47_1, t47_2, t47_3⟩, h47, hE_4⟩ := bind_some hE_4
              refine Tri.reg (l := [0, 1, 2, 3]) rfl ?_
              refine F.q rfl rfl rfl (wanted_none rfl) (r_move rfl) ?_
              refine F.q rfl rfl rfl (wanted_none rfl) (r_move rfl) ?_
              refine F.ef rfl rfl rfl (wanted_none rfl) (d_callM (xs := _) (cs := [R.box pa0 100 [va0_0, .int .i64 ypa0_1, .int .u64 ypa0_2]]) (rest := [R.sl S40_1 v40_1 (([y9] : List (Int)) : List (Int)), R.box b5_1 27 [.int .i64 a1, wq5_1_1, v41_1], R.box b4_1 27 [.int .i64 0, .slice none 0 0, .slice none 0 0], R.sl Tq5_1_1 wq5_1_1 (xq5_1_1 : List (Int × Int × Int)), R.sl S41_1 v41_1 (xq5_1_2 ++ ([y9] : List (Int)) : List (Int))]) [1] [0, 2, 3, 4, 5] rfl ok205 rfl rfl rfl rfl (fun w hw => spec_l1Cur_few.ok h47 w (hr_a0_0.down hw) (Sep.sub hw))) ?_
              rintro _ _ ⟨_, ⟨rfl, rfl⟩, rfl⟩
              refine F.q rfl rfl rfl (wanted_none rfl) (r_assign rfl) ?_
              refine F.nil ?_
              refine Nrm.seq ?_
              refine Tri.seq ?_
              refine Tri.seq ?_
              obtain ⟨⟨t49_1, t49_2, t49_3⟩, h49, hE_4⟩ := bind_some hE_4
              refine Tri.reg (l := [0, 1, 2]) rfl ?_
              refine F.q rfl rfl rfl (wanted_none rfl) (r_move rfl) ?_
              refine F.ef rfl rfl rfl (wanted_none rfl) (d_callM (xs := _) (cs := [R.box pa0 100 [va0_0, .int .i64 t47_2, .int .u64 t47_3]]) (rest := [R.sl S40_1 v40_1 (([y9] : List (Int)) : List (Int)), R.box b5_1 27 [.int .i64 a1, wq5_1_1, v41_1], R.box b4_1 27 [.int .i64 0, .slice none 0 0, .slice none 0 0], R.sl Tq5_1_1 wq5_1_1 (xq5_1_1 : List (Int × Int × Int)), R.sl S41_1 v41_1 (xq5_1_2 ++ ([y9] : List (Int)) : List (Int))]) [0] [1, 2, 3, 4, 5] rfl ok93 rfl rfl rfl rfl (fun w hw => spec_l1Cur_one.ok h49 w (hr_a0_0.down hw) (Sep.sub hw))) ?_
              rintro _ _ ⟨_, ⟨rfl, rfl⟩, rfl⟩
              refine F.q rfl rfl rfl (wanted_none rfl) (r_not rfl) ?_
              refine F.nil ?_
              refine Nrm.seq ?_
              obtain ⟨y10, hE_5, hE_4⟩ := bind_some hE_4
              refine Tri.cut (fun e' C' => e' = [(0, .pointer (some ⟨pa0, 0, none⟩)), (1, .int .i64 a1), (4, .pointer (some ⟨b4_1, 0, none⟩)), (5, .pointer (some ⟨b5_1, 0, none⟩)), (6, .int .i64 (w64 (1 + t20_1))), (7, .int .i64 x7), (8, .int .i64 x8), (9, .int .i64 y9), (10, .int .i64 y10)] ∧ C' = Sep w (footM [R.box pa0 100 [va0_0, .int .i64 a0_1, .int .u64 a0_2]]) [R.box pa0 100 [va0_0, .int .i64 t49_2, .int .u64 t49_3], R.box b5_1 27 [.int .i64 a1, wq5_1_1, v41_1], R.box b4_1 27 [.int .i64 0, .slice none 0 0, .slice none 0 0], R.sl S41_1 v41_1 (xq5_1_2 ++ ([y9] : List (Int)) : List (Int)), R.sl Tq5_1_1 wq5_1_1 (xq5_1_1 : List (Int × Int × Int))]) ?_ (fun hj_4 => ?_)
              · rintro _ _ ⟨rfl, rfl⟩
                refine Nrm.seq ?_
                obtain ⟨⟨t58_1, t58_2, t58_3⟩, h58, hE_4⟩ := bind_some hE_4
                obtain ⟨t61, h61, hE_4⟩ := bind_some hE_4
                refine Tri.drawK (B := Sep w (footM [R.box pa0 100 [va0_0, .int .i64 a0_1, .int .u64 a0_2]]) [R.box b5_1 27 [.int .i64 a1, wq5_1_1, v41_1], R.box b4_1 27 [.int .i64 0, .slice none 0 0, .slice none 0 0], R.sl S41_1 v41_1 (xq5_1_2 ++ ([y9] : List (Int)) : List (Int)), R.sl Tq5_1_1 wq5_1_1 (xq5_1_1 : List (Int × Int × Int))]) mixedT Sep.up [(0, true), (1, true), (2, true), (3, true), (5, true), (6, true), (4, false)] [7, 8, 9] (by kernel_rfl) ?_
                refine K.q [1, 2, 3, 4] rfl rfl rfl rfl rfl (wanted_none rfl) (r_fieldAddr tf27_1 rfl) ?_
                refine K.q [1, 2, 3, 4] rfl rfl rfl rfl rfl (wanted_none rfl) (r_load ta24 rfl (fun w hw => cell_1 (box_cells (i := 0) rfl w hw) rfl)) ?_
                refine K.q [1, 2, 3, 4] rfl rfl rfl rfl rfl (wanted_none rfl) (r_move rfl) ?_
                refine K.q [1, 2, 3, 4] rfl rfl rfl rfl rfl (wanted_none rfl) (r_move rfl) ?_
                refine K.q [1, 2, 3, 4] rfl rfl rfl rfl rfl (wanted_none rfl) (r_move rfl) ?_
                refine K.q [1, 2, 3, 4] rfl rfl rfl rfl rfl (wanted_none rfl) (r_move rfl) ?_
                refine B.ef rfl rfl rfl (wanted_none rfl) (d_callM (xs := _) (cs := [R.box pa0 100 [va0_0, .int .i64 t49_2, .int .u64 t49_3]]) (rest := [R.box b5_1 27 [.int .i64 a1, wq5_1_1, v41_1], R.box b4_1 27 [.int .i64 0, .slice none 0 0, .slice none 0 0], R.sl S41_1 v41_1 (xq5_1_2 ++ ([y9] : List (Int)) : List (Int)), R.sl Tq5_1_1 wq5_1_1 (xq5_1_1 : List (Int × Int × Int))]) [0] [1, 2, 3, 4] rfl ok95 rfl rfl rfl rfl (fun w hw => spec_l1Cur_pick.ok h58 w (hr_a0_0.down hw) (Sep.sub hw))) (by rintro _ _ ⟨_, ⟨rfl, rfl⟩, rfl⟩; exact upd rfl [1, 2, 3, 4] rfl rfl) ?_
                rintro _ _ ⟨_, ⟨rfl, rfl⟩, rfl⟩
                refine B.nil ?_
                refine F.ef rfl rfl rfl (wanted_none rfl) (d_callM (xs := _) (cs := [R.sl Tq5_1_1 wq5_1_1 (xq5_1_1 : List (Int × Int × Int))]) (rest := [R.box pa0 100 [va0_0, .int .i64 t58_2, .int .u64 t58_3], R.box b5_1 27 [.int .i64 a1, wq5_1_1, v41_1], R.box b4_1 27 [.int .i64 0, .slice none 0 0, .slice none 0 0], R.sl S41_1 v41_1 (xq5_1_2 ++ ([y9] : List (Int)) : List (Int))]) [4] [0, 1, 2, 3] rfl ok206 rfl rfl rfl rfl (fun w hw => spec_l2Put.ok h61 w hl_wq5_1_1 (Sep.sub hw))) ?_
                rintro v61_2 _ ⟨_, ⟨S61_2, hl_v61_2, rfl⟩, rfl⟩
                refine F.q rfl rfl rfl (wanted_none rfl) (r_fieldAddr tf27_1 rfl) ?_
                refine F.ef0 rfl rfl (wanted_none rfl) (d_storeG1 (i := 2) (cs2 := [v61_2]) ti24 rfl rfl rfl (sl_cells hl_v61_2) rfl (Nat.le_of_ble_eq_true rfl) (lf_cons (sl_leaf hl_v61_2) lf_nil)) ?_
                rintro _ _ ⟨rfl, rfl⟩
                refine F.nil ?_
                cases hE_4
                refine Nrm.only [0, 1, 4, 5, 6, 7, 8, 9] rfl ?_
                refine Nrm.pick [1, 2, 3, 0, 4] rfl rfl ?_
                exact hj_3 _ _ ⟨v61_2, S61_2, hl_v61_2, rfl, rfl⟩
              · refine Tri.cond (b := !t49_1) rfl (fun g_4 => ?_) (fun g_4 => ?_)
                · replace hE_5 := if_tt g_4 hE_5
                  refine Tri.reg (l := [0, 1, 2, 3]) rfl ?_
                  refine F.q rfl rfl rfl (wanted_none rfl) (r_move rfl) ?_
                  refine F.q rfl rfl rfl (wanted_none rfl) (r_move rfl) ?_
                  refine F.q rfl rfl rfl (wanted_none rfl) (r_and rfl rfl) ?_
                  refine F.q rfl rfl rfl (wanted_none rfl) (r_assign rfl) ?_
                  refine F.nil ?_
                  cases hE_5
                  refine Nrm.only [0, 1, 4, 5, 6, 7, 8, 9, 10] rfl ?_
                  refine Nrm.pick [0, 2, 3, 5, 4] rfl rfl ?_
                  exact hj_4 _ _ ⟨rfl, rfl⟩
                · replace hE_5 := if_ff g_4 hE_5
                  refine Tri.skip ?_
                  cases hE_5
                  refine Nrm.only [0, 1, 4, 5, 6, 7, 8, 9, 10] rfl ?_
                  refine Nrm.pick [0, 2, 3, 5, 4] rfl rfl ?_
                  exact hj_4 _ _ ⟨rfl, rfl⟩
            · replace hE_4 := if_ff g_3 hE_4
              refine Tri.skip ?_
              cases hE_4
              refine Nrm.only [0, 1, 4, 5, 6, 7, 8, 9] rfl ?_
              refine Nrm.pick [1, 2, 3, 4, 5] rfl rfl ?_
              exact hj_3 _ _ ⟨wq5_1_1, Tq5_1_1, hl_wq5_1_1, rfl, rfl⟩
        · refine Tri.cond (b := t32_1) rfl (fun g_2 => ?_) (fun g_2 => ?_)
          · replace hE_3 := if_tt g_2 hE_3
            obtain ⟨⟨t35_1, t35_2, t35_3⟩, h35, hE_3⟩ := bind_some hE_3
            obtain ⟨hs36, hE_3⟩ := ck hE_3
            refine Tri.reg (l := [0, 1, 2, 3, 4]) rfl ?_
            refine F.q rfl rfl rfl (wanted_none rfl) (r_move rfl) ?_
            refine F.q rfl rfl rfl (wanted_none rfl) (r_move rfl) ?_
            refine F.ef rfl rfl rfl (wanted_none rfl) (d_callM (xs := _) (cs := [R.box pa0 100 [va0_0, .int .i64 t32_2, .int .u64 t32_3]]) (rest := [R.box b5_1 27 [.int .i64 a1, wq5_1_1, wq5_1_2], R.box b4_1 27 [.int .i64 0, .slice none 0 0, .slice none 0 0], R.sl Tq5_1_1 wq5_1_1 (xq5_1_1 : List (Int × Int × Int)), R.sl Tq5_1_2 wq5_1_2 (xq5_1_2 : List (Int))]) [0] [1, 2, 3, 4] rfl ok95 rfl rfl rfl rfl (fun w hw => spec_l1Cur_pick.ok h35 w (hr_a0_0.down hw) (Sep.sub hw))) ?_
            rintro _ _ ⟨_, ⟨rfl, rfl⟩, rfl⟩
            refine F.q rfl rfl rfl (wanted_none rfl) (r_shl rfl rfl hs36) ?_
            refine F.q rfl rfl rfl (wanted_none rfl) (r_assign rfl) ?_
            refine F.nil ?_
            cases hE_3
            refine Nrm.only [0, 1, 4, 5, 6, 7, 8, 9] rfl ?_
            refine Nrm.pick [0, 1, 2, 3, 4] rfl rfl ?_
            exact hj_2 _ _ ⟨rfl, rfl⟩
          · replace hE_3 := if_ff g_2 hE_3
            refine Tri.skip ?_
            cases hE_3
            refine Nrm.only [0, 1, 4, 5, 6, 7, 8, 9] rfl ?_
            refine Nrm.pick [0, 1, 2, 3, 4] rfl rfl ?_
            exact hj_2 _ _ ⟨rfl, rfl⟩
      · replace hE_1 := if_ff g_1 hE_1
        refine Tri.exit ?_
        refine Exi.then ?_
        refine Exi.then ?_
        refine Exi.same ?_
        cases hE_1
        refine Nrm.seq ?_
        refine Tri.seq ?_
        refine Tri.seq ?_
        obtain ⟨⟨t67_1, t67_2, t67_3⟩, h67, h⟩ := bind_some h
        refine Tri.reg (l := [0, 1, 2]) rfl ?_
        refine F.q rfl rfl rfl (wanted_none rfl) (r_move rfl) ?_
        refine F.ef rfl rfl rfl (wanted_none rfl) (d_callM (xs := _) (cs := [R.box pa0 100 [va0_0, .int .i64 xpa0_1, .int .u64 xpa0_2]]) (rest := [R.box b5_1 27 [.int .i64 a1, wq5_1_1, wq5_1_2], R.box b4_1 27 [.int .i64 0, .slice none 0 0, .slice none 0 0], R.sl Tq5_1_1 wq5_1_1 (xq5_1_1 : List (Int × Int × Int)), R.sl Tq5_1_2 wq5_1_2 (xq5_1_2 : List (Int))]) [1] [0, 2, 3, 4] rfl ok95 rfl rfl rfl rfl (fun w hw => spec_l1Cur_pick.ok h67 w (hr_a0_0.down hw) (Sep.sub hw))) ?_
        rintro _ _ ⟨_, ⟨rfl, rfl⟩, rfl⟩
        refine F.q rfl rfl rfl (wanted_none rfl) (r_assign rfl) ?_
        refine F.nil ?_
        refine Nrm.seq ?_
        obtain ⟨⟨xpa0_1r, xpa0_2r, xq5_1_1r⟩, hE_6, h⟩ := bind_some h
        refine Tri.block ?_
        refine Tri.only [0, 1, 4, 5, 6, 11] rfl ?_
        refine Tri.pick [0, 1, 2, 3, 4] rfl rfl ?_
        refine Tri.rounds (fun n e' C' => ∃ (x11' : Int) (xpa0_1r' : Int) (xpa0_2r' : Int) (xq5_1_1r' : List (Int × Int × Int)) (wq5_1_1r : Value) (Tq5_1_1r : Nat → Prop), spec_l1Cur_someMaze.l1 k a0_0 a1 t20_1 n x11' xpa0_1r' xpa0_2r' xq5_1_1r' = some (xpa0_1r, xpa0_2r, xq5_1_1r) ∧ SlLen wq5_1_1r (xq5_1_1r').length ∧ e' = [(0, .pointer (some ⟨pa0, 0, none⟩)), (1, .int .i64 a1), (4, .pointer (some ⟨b4_1, 0, none⟩)), (5, .pointer (some ⟨b5_1, 0, none⟩)), (6, .int .i64 (w64 (1 + t20_1))), (11, .int .i64 x11')] ∧ C' = Sep w (footM [R.box pa0 100 [va0_0, .int .i64 a0_1, .int .u64 a0_2]]) [R.box pa0 100 [va0_0, .int .i64 xpa0_1r', .int .u64 xpa0_2r'], R.box b5_1 27 [.int .i64 a1, wq5_1_1r, wq5_1_2], R.box b4_1 27 [.int .i64 0, .slice none 0 0, .slice none 0 0], R.sl Tq5_1_1r wq5_1_1r (xq5_1_1r' : List (Int × Int × Int)), R.sl Tq5_1_2 wq5_1_2 (xq5_1_2 : List (Int))]) k ?_ ?_ ?_
        · exact ⟨t67_1, t67_2, t67_3, xq5_1_1, wq5_1_1, Tq5_1_1, hE_6, hl_wq5_1_1, rfl, rfl⟩
        · rintro _ _ ⟨_, _, _, _, _, _, hE_6, _⟩
          rw [spec_l1Cur_someMaze.l1.eq_1] at hE_6; cases hE_6
        · rintro n_2 _ _ ⟨x11, xpa0_1r, xpa0_2r, xq5_1_1r, wq5_1_1r, Tq5_1_1r, hE_6, hl_wq5_1_1r, rfl, rfl⟩ ih_2
          rw [spec_l1Cur_someMaze.l1.eq_2] at hE_6
          refine Tri.seq ?_
          refine Tri.seq ?_
          obtain ⟨y77, hE_7, hE_6⟩ := bind_some hE_6
          refine Tri.cut (fun e' C' => e' = [(0, .pointer (some ⟨pa0, 0, none⟩)), (1, .int .i64 a1), (4, .pointer (some ⟨b4_1, 0, none⟩)), (5, .pointer (some ⟨b5_1, 0, none⟩)), (6, .int .i64 (w64 (1 + t20_1))), (11, .int .i64 x11), (77, .bool y77)] ∧ C' = Sep w (footM [R.box pa0 100 [va0_0, .int .i64 a0_1, .int .u64 a0_2]]) [R.box pa0 100 [va0_0, .int .i64 xpa0_1r, .int .u64 xpa0_2r], R.box b5_1 27 [.int .i64 a1, wq5_1_1r, wq5_1_2], R.box b4_1 27 [.int .i64 0, .slice none 0 0, .slice none 0 0], R.sl Tq5_1_1r wq5_1_1r (xq5_1_1r : List (Int × Int × Int)), R.sl Tq5_1_2 wq5_1_2 (xq5_1_2 : List (Int))]) ?_ (fun hj_5 => ?_)
          · rintro _ _ ⟨rfl, rfl⟩
            refine Nrm.seq ?_
            refine Tri.cond (b := y77) rfl (fun g_5 => ?_) (fun g_5 => ?_)
            · replace hE_6 := if_tt g_5 hE_6
              refine Tri.skip ?_
              refine Nrm.seq ?_
              refine Tri.seq ?_
              refine Tri.block ?_
              refine Tri.seq ?_
              obtain ⟨⟨t82_1, t82_2, t82_3⟩, h82, hE_6⟩ := bind_some hE_6
              obtain ⟨⟨t85_1, t85_2, t85_3⟩, h85, hE_6⟩ := bind_some hE_6
              refine Tri.reg (l := [0, 1, 2, 3, 4, 5, 6, 7]) rfl ?_
              refine F.q rfl rfl rfl (wanted_none rfl) (r_move rfl) ?_
              refine F.q rfl rfl rfl (wanted_none rfl) (r_move rfl) ?_
              refine F.ef rfl rfl rfl (wanted_none rfl) (d_callM (xs := _) (cs := [R.box pa0 100 [va0_0, .int .i64 xpa0_1r, .int .u64 xpa0_2r]]) (rest := [R.box b5_1 27 [.int .i64 a1, wq5_1_1r, wq5_1_2], R.box b4_1 27 [.int .i64 0, .slice none 0 0, .slice none 0 0], R.sl Tq5_1_1r wq5_1_1r (xq5_1_1r : List (Int × Int × Int)), R.sl Tq5_1_2 wq5_1_2 (xq5_1_2 : List (Int))]) [0] [1, 2, 3, 4] rfl ok95 rfl rfl rfl rfl (fun w hw => spec_l1Cur_pick.ok h82 w (hr_a0_0.down hw) (Sep.sub hw))) ?_
              rintro _ _ ⟨_, ⟨rfl, rfl⟩, rfl⟩
              refine F.q rfl rfl rfl (wanted_none rfl) (r_move rfl) ?_
              refine F.q rfl rfl rfl (wanted_none rfl) (r_move rfl) ?_
              refine F.ef rfl rfl rfl (wanted_none rfl) (d_callM (xs := _) (cs := [R.box pa0 100 [va0_0, .int .i64 t82_2, .int .u64 t82_3]]) (rest := [R.box b5_1 27 [.int .i64 a1, wq5_1_1r, wq5_1_2], R.box b4_1 27 [.int .i64 0, .slice none 0 0, .slice none 0 0], R.sl Tq5_1_1r wq5_1_1r (xq5_1_1r : List (Int × Int × Int)), R.sl Tq5_1_2 wq5_1_2 (xq5_1_2 : List (Int))]) [0] [1, 2, 3, 4] rfl ok95 rfl rfl rfl rfl (fun w hw => spec_l1Cur_pick.ok h85 w (hr_a0_0.down hw) (Sep.sub hw))) ?_
              rintro _ _ ⟨_, ⟨rfl, rfl⟩, rfl⟩
              refine F.q rfl rfl rfl (wanted_none rfl) (r_assign rfl) ?_
              refine F.q rfl rfl rfl (wanted_none rfl) (r_assign rfl) ?_
              refine F.nil ?_
              refine Nrm.seq ?_
              refine Tri.seq ?_
              refine Tri.reg (l := [0, 1, 2]) rfl ?_
              refine F.q rfl rfl rfl (wanted_none rfl) (r_move rfl) ?_
              refine F.q rfl rfl rfl (wanted_none rfl) (r_move rfl) ?_
              refine F.q rfl rfl rfl (wanted_none rfl) (r_neq rfl rfl) ?_
              refine F.nil ?_
              refine Nrm.seq ?_
              obtain ⟨⟨ypa0_1rr, ypa0_2rr, yb5_1_1r⟩, hE_8, hE_6⟩ := bind_some hE_6
              refine Tri.cut (fun e' C' => ∃ (vb5_1_1_2 : Value) (Sb5_1_1_2 : Nat → Prop), SlLen vb5_1_1_2 (yb5_1_1r).length ∧ e' = [(0, .pointer (some ⟨pa0, 0, none⟩)), (1, .int .i64 a1), (4, .pointer (some ⟨b4_1, 0, none⟩)), (5, .pointer (some ⟨b5_1, 0, none⟩)), (6, .int .i64 (w64 (1 + t20_1))), (11, .int .i64 x11)] ∧ C' = Sep w (footM [R.box pa0 100 [va0_0, .int .i64 a0_1, .int .u64 a0_2]]) [R.box pa0 100 [va0_0, .int .i64 ypa0_1rr, .int .u64 ypa0_2rr], R.box b5_1 27 [.int .i64 a1, vb5_1_1_2, wq5_1_2], R.box b4_1 27 [.int .i64 0, .slice none 0 0, .slice none 0 0], R.sl Sb5_1_1_2 vb5_1_1_2 (yb5_1_1r : List (Int × Int × Int)), R.sl Tq5_1_2 wq5_1_2 (xq5_1_2 : List (Int))]) ?_ (fun hj_6 => ?_)
              · rintro _ _ ⟨vb5_1_1_2, Sb5_1_1_2, hl_vb5_1_1_2, rfl, rfl⟩
                refine Nrm.block ?_
                refine Nrm.seq ?_
                refine Tri.reg (l := [0, 1, 2]) rfl ?_
                refine F.q rfl rfl rfl (wanted_none rfl) (r_move rfl) ?_
                refine F.q rfl rfl rfl (wanted_none rfl) (r_sub rfl rfl) ?_
                refine F.q rfl rfl rfl (wanted_none rfl) (r_assign rfl) ?_
                refine F.nil ?_
                refine Nrm.round ?_
                refine Rnd.only [0, 1, 4, 5, 6, 11] rfl ?_
                refine Rnd.pick [0, 1, 2, 3, 4] rfl rfl ?_
                exact ih_2 _ _ ⟨w64 (x11 - 1), ypa0_1rr, ypa0_2rr, yb5_1_1r, vb5_1_1_2, Sb5_1_1_2, hE_6, hl_vb5_1_1_2, rfl, rfl⟩
              · refine Tri.cond (b := t82_1 != t85_1) rfl (fun g_6 => ?_) (fun g_6 => ?_)
                · replace hE_8 := if_tt g_6 hE_8
                  obtain ⟨⟨t95_1, t95_2, t95_3⟩, h95, hE_8⟩ := bind_some hE_8
                  obtain ⟨t96, h96, hE_8⟩ := bind_some hE_8
                  refine Tri.drawK (B := Sep w (footM [R.box pa0 100 [va0_0, .int .i64 a0_1, .int .u64 a0_2]]) [R.box b5_1 27 [.int .i64 a1, wq5_1_1r, wq5_1_2], R.box b4_1 27 [.int .i64 0, .slice none 0 0, .slice none 0 0], R.sl Tq5_1_1r wq5_1_1r (xq5_1_1r : List (Int × Int × Int)), R.sl Tq5_1_2 wq5_1_2 (xq5_1_2 : List (Int))]) mixedT Sep.up [(0, true), (1, true), (2, true), (3, true), (4, true), (5, true), (6, false)] [7, 8, 9] (by kernel_rfl) ?_
                  refine K.q [1, 2, 3, 4] rfl rfl rfl rfl rfl (wanted_none rfl) (r_fieldAddr tf27_1 rfl) ?_
                  refine K.q [1, 2, 3, 4] rfl rfl rfl rfl rfl (wanted_none rfl) (r_load ta24 rfl (fun w hw => cell_1 (box_cells (i := 0) rfl w hw) rfl)) ?_
                  refine K.q [1, 2, 3, 4] rfl rfl rfl rfl rfl (wanted_none rfl) (r_move rfl) ?_
                  refine K.q [1, 2, 3, 4] rfl rfl rfl rfl rfl (wanted_none rfl) (r_move rfl) ?_
                  refine K.q [1, 2, 3, 4] rfl rfl rfl rfl rfl (wanted_none rfl) (r_move rfl) ?_
                  refine K.q [1, 2, 3, 4] rfl rfl rfl rfl rfl (wanted_none rfl) (r_move rfl) ?_
                  refine B.ef rfl rfl rfl (wanted_none rfl) (d_callM (xs := _) (cs := [R.box pa0 100 [va0_0, .int .i64 t85_2, .int .u64 t85_3]]) (rest := [R.box b5_1 27 [.int .i64 a1, wq5_1_1r, wq5_1_2], R.box b4_1 27 [.int .i64 0, .slice none 0 0, .slice none 0 0], R.sl Tq5_1_1r wq5_1_1r (xq5_1_1r : List (Int × Int × Int)), R.sl Tq5_1_2 wq5_1_2 (xq5_1_2 : List (Int))]) [0] [1, 2, 3, 4] rfl ok205 rfl rfl rfl rfl (fun w hw => spec_l1Cur_few.ok h95 w (hr_a0_0.down hw) (Sep.sub hw))) (by rintro _ _ ⟨_, ⟨rfl, rfl⟩, rfl⟩; exact upd rfl [1, 2, 3, 4] rfl rfl) ?_
                  rintro _ _ ⟨_, ⟨rfl, rfl⟩, rfl⟩
                  refine B.nil ?_
                  refine F.ef rfl rfl rfl (wanted_none rfl) (d_callM (xs := _) (cs := [R.sl Tq5_1_1r wq5_1_1r (xq5_1_1r : List (Int × Int × Int))]) (rest := [R.box pa0 100 [va0_0, .int .i64 t95_2, .int .u64 t95_3], R.box b5_1 27 [.int .i64 a1, wq5_1_1r, wq5_1_2], R.box b4_1 27 [.int .i64 0, .slice none 0 0, .slice none 0 0], R.sl Tq5_1_2 wq5_1_2 (xq5_1_2 : List (Int))]) [3] [0, 1, 2, 4] rfl ok206 rfl rfl rfl rfl (fun w hw => spec_l2Put.ok h96 w hl_wq5_1_1r (Sep.sub hw))) ?_
                  rintro v96_2 _ ⟨_, ⟨S96_2, hl_v96_2, rfl⟩, rfl⟩
                  refine F.q rfl rfl rfl (wanted_none rfl) (r_fieldAddr tf27_1 rfl) ?_
                  refine F.ef0 rfl rfl (wanted_none rfl) (d_storeG1 (i := 2) (cs2 := [v96_2]) ti24 rfl rfl rfl (sl_cells hl_v96_2) rfl (Nat.le_of_ble_eq_true rfl) (lf_cons (sl_leaf hl_v96_2) lf_nil)) ?_
                  rintro _ _ ⟨rfl, rfl⟩
                  refine F.nil ?_
                  cases hE_8
                  refine Nrm.only [0, 1, 4, 5, 6, 11] rfl ?_
                  refine Nrm.pick [1, 2, 3, 0, 4] rfl rfl ?_
                  exact hj_6 _ _ ⟨v96_2, S96_2, hl_v96_2, rfl, rfl⟩
                · replace hE_8 := if_ff g_6 hE_8
                  refine Tri.skip ?_
                  cases hE_8
                  refine Nrm.only [0, 1, 4, 5, 6, 11] rfl ?_
                  refine Nrm.pick [0, 1, 2, 3, 4] rfl rfl ?_
                  exact hj_6 _ _ ⟨wq5_1_1r, Tq5_1_1r, hl_wq5_1_1r, rfl, rfl⟩
            · replace hE_6 := if_ff g_5 hE_6
              refine Tri.exit ?_
              refine Exi.then ?_
              refine Exi.then ?_
              refine Exi.same ?_
              cases hE_6
              refine Nrm.seq ?_
              refine Tri.seq ?_
              refine Tri.seq ?_
              obtain ⟨⟨t99_1, t99_2, t99_3⟩, h99, h⟩ := bind_some h
              refine Tri.reg (l := [0, 1]) rfl ?_
              refine F.q rfl rfl rfl (wanted_none rfl) (r_move rfl) ?_
              refine F.ef rfl rfl rfl (wanted_none rfl) (d_callM (xs := _) (cs := [R.box pa0 100 [va0_0, .int .i64 xpa0_1r, .int .u64 xpa0_2r]]) (rest := [R.box b5_1 27 [.int .i64 a1, wq5_1_1r, wq5_1_2], R.box b4_1 27 [.int .i64 0, .slice none 0 0, .slice none 0 0], R.sl Tq5_1_1r wq5_1_1r (xq5_1_1r : List (Int × Int × Int)), R.sl Tq5_1_2 wq5_1_2 (xq5_1_2 : List (Int))]) [0] [1, 2, 3, 4] rfl ok95 rfl rfl rfl rfl (fun w hw => spec_l1Cur_pick.ok h99 w (hr_a0_0.down hw) (Sep.sub hw))) ?_
              rintro _ _ ⟨_, ⟨rfl, rfl⟩, rfl⟩
              refine F.nil ?_
              refine Nrm.seq ?_
              refine Tri.block ?_
              refine Tri.seq ?_
              refine Tri.reg (l := [0, 1]) rfl ?_
              refine F.q rfl rfl rfl (wanted_none rfl) (r_eql rfl rfl) ?_
              refine F.q rfl rfl rfl (wanted_none rfl) (r_assign rfl) ?_
              refine F.nil ?_
              refine Nrm.seq ?_
              refine Tri.cond (b := t99_1 == 0) rfl (fun g_7 => ?_) (fun g_7 => ?_)
              · replace h := if_tt g_7 h
                obtain ⟨⟨t107_1, t107_2, t107_3⟩, h107, h⟩ := bind_some h
                refine Tri.reg (l := [0, 1, 2, 3, 4, 5, 6, 7]) rfl ?_
                refine F.q rfl rfl rfl (wanted_none rfl) (r_move rfl) ?_
                refine F.q rfl rfl rfl (wanted_none rfl) (r_fieldAddr tf27_0 rfl) ?_
                refine F.q rfl rfl rfl (wanted_none rfl) (r_load ta3 rfl (fun w hw => cell_1 (box_cells (i := 1) rfl w hw) rfl)) ?_
                refine F.q rfl rfl rfl (wanted_none rfl) (r_add rfl rfl) ?_
                refine F.m rfl rfl rfl (wanted_none rfl) (m_buildF (l := ([0, 13, w64 (a1 + 1)] : List (Int))) Try.underlying25 ti3 rfl rfl rfl rfl rfl) ?_
                rintro v106_1 _ ⟨S106_1, hl_v106_1, rfl⟩
                refine F.ef rfl rfl rfl (wanted_none rfl) (d_callM (xs := _) (cs := [R.box pa0 100 [va0_0, .int .i64 t99_2, .int .u64 t99_3]]) (rest := [R.sl S106_1 v106_1 (([0, 13, w64 (a1 + 1)] : List (Int)) : List (Int)), R.box b5_1 27 [.int .i64 a1, wq5_1_1r, wq5_1_2], R.box b4_1 27 [.int .i64 0, .slice none 0 0, .slice none 0 0], R.sl Tq5_1_1r wq5_1_1r (xq5_1_1r : List (Int × Int × Int)), R.sl Tq5_1_2 wq5_1_2 (xq5_1_2 : List (Int))]) [1] [0, 2, 3, 4, 5] rfl ok96 rfl rfl rfl rfl (fun w hw => spec_l1Cur_among.ok h107 w (hr_a0_0.down hw) (rdm_sl (i := 0) rfl hw) (Sep.sub hw))) ?_
                rintro _ _ ⟨_, ⟨rfl, rfl⟩, rfl⟩
                refine F.q rfl rfl rfl (wanted_none rfl) (r_fieldAddr tf27_0 rfl) ?_
                refine F.ef0 rfl rfl (wanted_none rfl) (d_storeG1 (i := 2) (cs2 := [.int .i64 t107_1]) ti3 rfl rfl rfl rfl rfl (Nat.le_of_ble_eq_true rfl) (lf_cons rfl lf_nil)) ?_
                rintro _ _ ⟨rfl, rfl⟩
                refine F.nil ?_
                refine Nrm.block ?_
                refine Nrm.seq ?_
                refine Tri.seq ?_
                refine Tri.reg (l := [0, 1]) rfl ?_
                refine F.q rfl rfl rfl (wanted_none rfl) (r_loadA ta27 ti27 rfl rfl (fun w hw => (box_cells (i := 2) rfl w hw))) ?_
                refine F.ef0 rfl rfl (wanted_none rfl) (d_storeG0 (i := 3) (cs2 := [.int .i64 t107_1, wq5_1_1r, wq5_1_2]) ti27 rfl rfl rfl rfl rfl (Nat.le_of_ble_eq_true rfl) (lf_cons rfl (lf_cons (sl_leaf hl_wq5_1_1r) (lf_cons (sl_leaf hl_wq5_1_2) lf_nil)))) ?_
                rintro _ _ ⟨rfl, rfl⟩
                refine F.nil ?_
                refine Nrm.seq ?_
                refine Tri.ret ?_
                cases h
                exact Rtn.body (.cell rfl ta27 ti27 rfl (fun _ hw => box_cells (i := 3) rfl _ hw) .nil) (fun w hw => ⟨_, _, rfl, ⟨wq5_1_1r, Tq5_1_1r, wq5_1_2, Tq5_1_2, rfl, hl_wq5_1_1r, hl_wq5_1_2, rfl⟩, Sep.pick (is := [4, 5, 0]) rfl rfl hw⟩)
              · replace h := if_ff g_7 h
                refine Tri.seq ?_
                refine Tri.reg (l := [0, 1]) rfl ?_
                refine F.q rfl rfl rfl (wanted_none rfl) (r_eql rfl rfl) ?_
                refine F.q rfl rfl rfl (wanted_none rfl) (r_assign rfl) ?_
                refine F.nil ?_
                refine Nrm.seq ?_
                refine Tri.cond (b := t99_1 == 1) rfl (fun g_8 => ?_) (fun g_8 => ?_)
                · replace h := if_tt g_8 h
                  refine Tri.seq ?_
                  refine Tri.reg (l := [0, 1, 2, 3]) rfl ?_
                  refine F.q rfl rfl rfl (wanted_none rfl) (r_fieldAddr tf27_1 rfl) ?_
                  refine F.q rfl rfl rfl (wanted_none rfl) (r_load ta24 rfl (fun w hw => cell_1 (box_cells (i := 1) rfl w hw) rfl)) ?_
                  refine F.q rfl rfl rfl (wanted_none rfl) (r_len Try.underlying24 rfl hl_wq5_1_1r) ?_
                  refine F.q rfl rfl rfl (wanted_none rfl) (r_gtr rfl rfl) ?_
                  refine F.nil ?_
                  refine Nrm.seq ?_
                  obtain ⟨⟨ypa0_1rrr, ypa0_2rrr, yb5_1_1rr⟩, hE_9, h⟩ := bind_some h
                  refine Tri.cut (fun e' C' => ∃ (vb5_1_1_3 : Value) (Sb5_1_1_3 : Nat → Prop), SlLen vb5_1_1_3 (yb5_1_1rr).length ∧ e' = [(4, .pointer (some ⟨b4_1, 0, none⟩)), (5, .pointer (some ⟨b5_1, 0, none⟩))] ∧ C' = Sep w (footM [R.box pa0 100 [va0_0, .int .i64 a0_1, .int .u64 a0_2]]) [R.box pa0 100 [va0_0, .int .i64 ypa0_1rrr, .int .u64 ypa0_2rrr], R.box b5_1 27 [.int .i64 a1, vb5_1_1_3, wq5_1_2], R.box b4_1 27 [.int .i64 0, .slice none 0 0, .slice none 0 0], R.sl Sb5_1_1_3 vb5_1_1_3 (yb5_1_1rr : List (Int × Int × Int)), R.sl Tq5_1_2 wq5_1_2 (xq5_1_2 : List (Int))]) ?_ (fun hj_7 => ?_)
                  · rintro _ _ ⟨vb5_1_1_3, Sb5_1_1_3, hl_vb5_1_1_3, rfl, rfl⟩
                    refine Nrm.block ?_
                    refine Nrm.seq ?_
                    refine Tri.seq ?_
                    refine Tri.reg (l := [0, 1]) rfl ?_
                    refine F.q rfl rfl rfl (wanted_none rfl) (r_loadA ta27 ti27 rfl rfl (fun w hw => (box_cells (i := 1) rfl w hw))) ?_
                    refine F.ef0 rfl rfl (wanted_none rfl) (d_storeG0 (i := 2) (cs2 := [.int .i64 a1, vb5_1_1_3, wq5_1_2]) ti27 rfl rfl rfl rfl rfl (Nat.le_of_ble_eq_true rfl) (lf_cons rfl (lf_cons (sl_leaf hl_vb5_1_1_3) (lf_cons (sl_leaf hl_wq5_1_2) lf_nil)))) ?_
                    rintro _ _ ⟨rfl, rfl⟩
                    refine F.nil ?_
                    refine Nrm.seq ?_
                    refine Tri.ret ?_
                    cases h
                    exact Rtn.body (.cell rfl ta27 ti27 rfl (fun _ hw => box_cells (i := 2) rfl _ hw) .nil) (fun w hw => ⟨_, _, rfl, ⟨vb5_1_1_3, Sb5_1_1_3, wq5_1_2, Tq5_1_2, rfl, hl_vb5_1_1_3, hl_wq5_1_2, rfl⟩, Sep.pick (is := [3, 4, 0]) rfl rfl hw⟩)
                  · refine Tri.cond (b := decide ((xq5_1_1r.length : Int) > 0)) rfl (fun g_9 => ?_) (fun g_9 => ?_)
                    · replace hE_9 := if_tt g_9 hE_9
                      refine Tri.seq ?_
                      obtain ⟨⟨t119_1, t119_2, t119_3⟩, h119, hE_9⟩ := bind_some hE_9
                      refine Tri.reg (l := [0, 1, 2, 3, 4, 5]) rfl ?_
                      refine F.q rfl rfl rfl (wanted_none rfl) (r_move rfl) ?_
                      refine F.q rfl rfl rfl (wanted_none rfl) (r_fieldAddr tf27_1 rfl) ?_
                      refine F.q rfl rfl rfl (wanted_none rfl) (r_load ta24 rfl (fun w hw => cell_1 (box_cells (i := 1) rfl w hw) rfl)) ?_
                      refine F.q rfl rfl rfl (wanted_none rfl) (r_len Try.underlying24 rfl hl_wq5_1_1r) ?_
                      refine F.ef rfl rfl rfl (wanted_none rfl) (d_callM (xs := _) (cs := [R.box pa0 100 [va0_0, .int .i64 t99_2, .int .u64 t99_3]]) (rest := [R.box b5_1 27 [.int .i64 a1, wq5_1_1r, wq5_1_2], R.box b4_1 27 [.int .i64 0, .slice none 0 0, .slice none 0 0], R.sl Tq5_1_1r wq5_1_1r (xq5_1_1r : List (Int × Int × Int)), R.sl Tq5_1_2 wq5_1_2 (xq5_1_2 : List (Int))]) [0] [1, 2, 3, 4] rfl ok95 rfl rfl rfl rfl (fun w hw => spec_l1Cur_pick.ok h119 w (hr_a0_0.down hw) (Sep.sub hw))) ?_
                      rintro _ _ ⟨_, ⟨rfl, rfl⟩, rfl⟩
                      refine F.q rfl rfl rfl (wanted_none rfl) (r_assign rfl) ?_
                      refine F.nil ?_
                      refine Nrm.seq ?_
                      obtain ⟨t126, h126, hE_9⟩ := bind_some hE_9
                      obtain ⟨t132, h132, hE_9⟩ := bind_some hE_9
                      obtain ⟨t136, h136, hE_9⟩ := bind_some hE_9
                      refine Tri.drawA mixedT Sep.up [(0, true), (1, true), (2, true), (3, true), (4, true), (5, true), (6, true), (7, true), (8, true), (9, true), (10, true), (11, true), (12, true), (13, true), (14, true), (15, true), (16, true)] [17] (by kernel_rfl) ?_
                      refine S.q rfl rfl rfl (wanted_none rfl) (r_fieldAddr tf27_1 rfl) ?_
                      refine S.q rfl rfl rfl (wanted_none rfl) (r_load ta24 rfl (fun w hw => cell_1 (box_cells (i := 1) rfl w hw) rfl)) ?_
                      refine S.q rfl rfl rfl (wanted_none rfl) (r_move rfl) ?_
                      refine S.q rfl rfl rfl (wanted_none rfl) (r_fieldAddr tf27_1 rfl) ?_
                      refine S.q rfl rfl rfl (wanted_none rfl) (r_load ta24 rfl (fun w hw => cell_1 (box_cells (i := 1) rfl w hw) rfl)) ?_
                      refine S.q rfl rfl rfl (wanted_none rfl) (r_move rfl) ?_
                      refine S.q rfl rfl rfl (wanted_none rfl) (r_indexAddrS Try.underlying24 ti121 rfl hl_wq5_1_1r rfl (rdl_some h126).1 (rdl_some h126).2.1) ?_
                      refine S.q rfl rfl rfl (wanted_none rfl) (r_indexAddrA Try.underlying121 ti3 rfl rfl (by decide) (by decide)) ?_
                      refine S.q rfl rfl rfl (wanted_none rfl) (r_load ta3 rfl (fun w hw => cell_1 (Rd.flat ((rd_sl (i := 3) rfl) w hw) (rdl_some h126).2.2) rfl)) ?_
                      refine S.q rfl rfl rfl (wanted_none rfl) (r_fieldAddr tf27_1 rfl) ?_
                      refine S.q rfl rfl rfl (wanted_none rfl) (r_load ta24 rfl (fun w hw => cell_1 (box_cells (i := 1) rfl w hw) rfl)) ?_
                      refine S.q rfl rfl rfl (wanted_none rfl) (r_move rfl) ?_
                      refine S.q rfl rfl rfl (wanted_none rfl) (r_indexAddrS Try.underlying24 ti121 rfl hl_wq5_1_1r rfl (rdl_some h132).1 (rdl_some h132).2.1) ?_
                      refine S.q rfl rfl rfl (wanted_none rfl) (r_indexAddrA Try.underlying121 ti3 rfl rfl (by decide) (by decide)) ?_
                      refine S.q rfl rfl rfl (wanted_none rfl) (r_load ta3 rfl (fun w hw => cell_1 (Rd.flat ((rd_sl (i := 3) rfl) w hw) (rdl_some h132).2.2) rfl)) ?_
                      refine S.q rfl rfl rfl (wanted_none rfl) (r_buildA (qs := [(0, [.int .i64 t126.2.1]), (1, [.int .i64 t132.1]), (2, [.int .i64 0])]) (cs := [.int .i64 t126.2.1, .int .i64 t132.1, .int .i64 0]) Try.underlying121 ti3 ti121 rfl (.cons rfl rfl (Nat.le_of_ble_eq_true rfl) (.cons rfl rfl (Nat.le_of_ble_eq_true rfl) (.cons rfl rfl (Nat.le_of_ble_eq_true rfl) .nil))) rfl rfl) ?_
                      refine S.q rfl rfl rfl (wanted_none rfl) (r_indexAddrS Try.underlying24 ti121 rfl hl_wq5_1_1r rfl (rdl_some h136).1 (rdl_some h136).2.1) ?_
                      refine S.nil ?_
                      refine F.ef0 rfl rfl (wanted_none rfl) (d_storeE (i := 3) (x1 := (t126.2.1, t132.1, 0)) ti121 rfl rfl rfl (rdl_some h136) rfl) ?_
                      rintro _ _ ⟨rfl, rfl⟩
                      refine F.nil ?_
                      cases hE_9
                      refine Nrm.only [4, 5] rfl ?_
                      refine Nrm.pick [0, 1, 2, 3, 4] rfl rfl ?_
                      exact hj_7 _ _ ⟨wq5_1_1r, Tq5_1_1r, (len_set hl_wq5_1_1r), rfl, rfl⟩
                    · replace hE_9 := if_ff g_9 hE_9
                      refine Tri.skip ?_
                      cases hE_9
                      refine Nrm.only [4, 5] rfl ?_
                      refine Nrm.pick [0, 1, 2, 3, 4] rfl rfl ?_
                      exact hj_7 _ _ ⟨wq5_1_1r, Tq5_1_1r, hl_wq5_1_1r, rfl, rfl⟩
                · replace h := if_ff g_8 h
                  refine Tri.seq ?_
                  refine Tri.reg (l := [0, 1]) rfl ?_
                  refine F.q rfl rfl rfl (wanted_none rfl) (r_eql rfl rfl) ?_
                  refine F.q rfl rfl rfl (wanted_none rfl) (r_assign rfl) ?_
                  refine F.nil ?_
                  refine Nrm.seq ?_
                  refine Tri.cond (b := t99_1 == 2) rfl (fun g_10 => ?_) (fun g_10 => ?_)
                  · replace h := if_tt g_10 h
                    refine Tri.seq ?_
                    refine Tri.reg (l := [0, 1, 2, 3]) rfl ?_
                    refine F.q rfl rfl rfl (wanted_none rfl) (r_fieldAddr tf27_2 rfl) ?_
                    refine F.q rfl rfl rfl (wanted_none rfl) (r_load ta25 rfl (fun w hw => cell_1 (box_cells (i := 1) rfl w hw) rfl)) ?_
                    refine F.q rfl rfl rfl (wanted_none rfl) (r_len Try.underlying25 rfl hl_wq5_1_2) ?_
                    refine F.q rfl rfl rfl (wanted_none rfl) (r_gtr rfl rfl) ?_
                    refine F.nil ?_
                    refine Nrm.seq ?_
                    obtain ⟨⟨ypa0_1rrrr, ypa0_2rrrr, yb5_1_2⟩, hE_10, h⟩ := bind_some h
                    refine Tri.cut (fun e' C' => ∃ (vb5_1_2_1 : Value) (Sb5_1_2_1 : Nat → Prop), SlLen vb5_1_2_1 (yb5_1_2).length ∧ e' = [(4, .pointer (some ⟨b4_1, 0, none⟩)), (5, .pointer (some ⟨b5_1, 0, none⟩))] ∧ C' = Sep w (footM [R.box pa0 100 [va0_0, .int .i64 a0_1, .int .u64 a0_2]]) [R.box pa0 100 [va0_0, .int .i64 ypa0_1rrrr, .int .u64 ypa0_2rrrr], R.box b5_1 27 [.int .i64 a1, wq5_1_1r, vb5_1_2_1], R.box b4_1 27 [.int .i64 0, .slice none 0 0, .slice none 0 0], R.sl Sb5_1_2_1 vb5_1_2_1 (yb5_1_2 : List (Int)), R.sl Tq5_1_1r wq5_1_1r (xq5_1_1r : List (Int × Int × Int))]) ?_ (fun hj_8 => ?_)
                    · rintro _ _ ⟨vb5_1_2_1, Sb5_1_2_1, hl_vb5_1_2_1, rfl, rfl⟩
                      refine Nrm.block ?_
                      refine Nrm.seq ?_
                      refine Tri.seq ?_
                      refine Tri.reg (l := [0, 1]) rfl ?_
                      refine F.q rfl rfl rfl (wanted_none rfl) (r_loadA ta27 ti27 rfl rfl (fun w hw => (box_cells (i := 1) rfl w hw))) ?_
                      refine F.ef0 rfl rfl (wanted_none rfl) (d_storeG0 (i := 2) (cs2 := [.int .i64 a1, wq5_1_1r, vb5_1_2_1]) ti27 rfl rfl rfl rfl rfl (Nat.le_of_ble_eq_true rfl) (lf_cons rfl (lf_cons (sl_leaf hl_wq5_1_1r) (lf_cons (sl_leaf hl_vb5_1_2_1) lf_nil)))) ?_
                      rintro _ _ ⟨rfl, rfl⟩
                      refine F.nil ?_
                      refine Nrm.seq ?_
                      refine Tri.ret ?_
                      cases h
                      exact Rtn.body (.cell rfl ta27 ti27 rfl (fun _ hw => box_cells (i := 2) rfl _ hw) .nil) (fun w hw => ⟨_, _, rfl, ⟨wq5_1_1r, Tq5_1_1r, vb5_1_2_1, Sb5_1_2_1, rfl, hl_wq5_1_1r, hl_vb5_1_2_1, rfl⟩, Sep.pick (is := [4, 3, 0]) rfl rfl hw⟩)
                    · refine Tri.cond (b := decide ((xq5_1_2.length : Int) > 0)) rfl (fun g_11 => ?_) (fun g_11 => ?_)
                      · replace hE_10 := if_tt g_11 hE_10
                        obtain ⟨⟨ypa0_1rrrr, ypa0_2rrrr, yb5_1_2⟩, hE_11, hE_10⟩ := bind_some hE_10
                        refine Tri.cut (fun e' C' => ∃ (vb5_1_2_2 : Value) (Sb5_1_2_2 : Nat → Prop), SlLen vb5_1_2_2 (yb5_1_2).length ∧ e' = [(4, .pointer (some ⟨b4_1, 0, none⟩)), (5, .pointer (some ⟨b5_1, 0, none⟩))] ∧ C' = Sep w (footM [R.box pa0 100 [va0_0, .int .i64 a0_1, .int .u64 a0_2]]) [R.box pa0 100 [va0_0, .int .i64 ypa0_1rrrr, .int .u64 ypa0_2rrrr], R.box b5_1 27 [.int .i64 a1, wq5_1_1r, vb5_1_2_2], R.box b4_1 27 [.int .i64 0, .slice none 0 0, .slice none 0 0], R.sl Sb5_1_2_2 vb5_1_2_2 (yb5_1_2 : List (Int)), R.sl Tq5_1_1r wq5_1_1r (xq5_1_1r : List (Int × Int × Int))]) ?_ (fun hj_9 => ?_)
                        · rintro _ _ ⟨vb5_1_2_2, Sb5_1_2_2, hl_vb5_1_2_2, rfl, rfl⟩
                          cases hE_10
                          refine Nrm.only [4, 5] rfl ?_
                          refine Nrm.pick [0, 1, 2, 3, 4] rfl rfl ?_
                          exact hj_8 _ _ ⟨vb5_1_2_2, Sb5_1_2_2, hl_vb5_1_2_2, rfl, rfl⟩
                        · obtain ⟨⟨t149_1, t149_2, t149_3⟩, h149, hE_11⟩ := bind_some hE_11
                          obtain ⟨⟨t152_1, t152_2, t152_3⟩, h152, hE_11⟩ := bind_some hE_11
                          obtain ⟨t153, h153, hE_11⟩ := bind_some hE_11
                          refine Tri.drawTK (B := Sep w (footM [R.box pa0 100 [va0_0, .int .i64 a0_1, .int .u64 a0_2]]) [R.box b5_1 27 [.int .i64 a1, wq5_1_1r, wq5_1_2], R.box b4_1 27 [.int .i64 0, .slice none 0 0, .slice none 0 0], R.sl Tq5_1_1r wq5_1_1r (xq5_1_1r : List (Int × Int × Int)), R.sl Tq5_1_2 wq5_1_2 (xq5_1_2 : List (Int))]) mixedT Sep.up [0, 1, 2, 3, 4, 5, 7, 6, 8, 9] [10, 11] (.q 0 (.q 1 (.q 2 (.q 3 (.q 4 (.q 5 (.q 7 (.alt 6 (.alt 8 (.alt 9 .nil .stop) .stop) (.alt 8 (.alt 6 (.alt 9 .nil .stop) .stop) .stop))))))))) (by kernel_rfl) ?_
                          refine TK.q [1, 2, 3, 4] rfl rfl rfl rfl rfl (wanted_none rfl) (r_fieldAddr tf27_2 rfl) ?_
                          refine TK.q [1, 2, 3, 4] rfl rfl rfl rfl rfl (wanted_none rfl) (r_load ta25 rfl (fun w hw => cell_1 (box_cells (i := 0) rfl w hw) rfl)) ?_
                          refine TK.q [1, 2, 3, 4] rfl rfl rfl rfl rfl (wanted_none rfl) (r_move rfl) ?_
                          refine TK.q [1, 2, 3, 4] rfl rfl rfl rfl rfl (wanted_none rfl) (r_fieldAddr tf27_2 rfl) ?_
                          refine TK.q [1, 2, 3, 4] rfl rfl rfl rfl rfl (wanted_none rfl) (r_load ta25 rfl (fun w hw => cell_1 (box_cells (i := 0) rfl w hw) rfl)) ?_
                          refine TK.q [1, 2, 3, 4] rfl rfl rfl rfl rfl (wanted_none rfl) (r_len Try.underlying25 rfl hl_wq5_1_2) ?_
                          refine TK.q [1, 2, 3, 4] rfl rfl rfl rfl rfl (wanted_none rfl) (r_move rfl) ?_
                          refine T.ef rfl rfl rfl (wanted_none rfl) (d_callM (xs := _) (cs := [R.box pa0 100 [va0_0, .int .i64 t99_2, .int .u64 t99_3]]) (rest := [R.box b5_1 27 [.int .i64 a1, wq5_1_1r, wq5_1_2], R.box b4_1 27 [.int .i64 0, .slice none 0 0, .slice none 0 0], R.sl Tq5_1_1r wq5_1_1r (xq5_1_1r : List (Int × Int × Int)), R.sl Tq5_1_2 wq5_1_2 (xq5_1_2 : List (Int))]) [0] [1, 2, 3, 4] rfl ok95 rfl rfl rfl rfl (fun w hw => spec_l1Cur_pick.ok h149 w (hr_a0_0.down hw) (Sep.sub hw))) (by rintro _ _ ⟨_, ⟨rfl, rfl⟩, rfl⟩; exact upd rfl [1, 2, 3, 4] rfl rfl) ?_ ?_
                          · rintro _ _ ⟨_, ⟨rfl, rfl⟩, rfl⟩
                            refine T.ef rfl rfl rfl (wanted_none rfl) (Makes.does (m_buildF (l := ([64, (-1), 63] : List (Int))) Try.underlying25 ti3 rfl rfl rfl rfl rfl)) (by rintro v151_2 _ ⟨S151_2, hl_v151_2, rfl⟩; exact upd rfl [2, 3, 4, 5] rfl rfl) ?_ ?_
                            · rintro v151_2 _ ⟨S151_2, hl_v151_2, rfl⟩
                              refine T.ef rfl rfl rfl (wanted_none rfl) (d_callM (xs := _) (cs := [R.box pa0 100 [va0_0, .int .i64 t149_2, .int .u64 t149_3]]) (rest := [R.sl S151_2 v151_2 (([64, (-1), 63] : List (Int)) : List (Int)), R.box b5_1 27 [.int .i64 a1, wq5_1_1r, wq5_1_2], R.box b4_1 27 [.int .i64 0, .slice none 0 0, .slice none 0 0], R.sl Tq5_1_1r wq5_1_1r (xq5_1_1r : List (Int × Int × Int)), R.sl Tq5_1_2 wq5_1_2 (xq5_1_2 : List (Int))]) [1] [0, 2, 3, 4, 5] rfl ok96 rfl rfl rfl rfl (fun w hw => spec_l1Cur_among.ok h152 w (hr_a0_0.down hw) (rdm_sl (i := 0) rfl hw) (Sep.sub hw))) (by rintro _ _ ⟨_, ⟨rfl, rfl⟩, rfl⟩; exact upd rfl [2, 3, 4, 5] rfl rfl) ?_ ?_
                              · rintro _ _ ⟨_, ⟨rfl, rfl⟩, rfl⟩
                                refine T.nil ?_
                                refine F.q rfl rfl rfl (wanted_none rfl) (r_indexAddrS Try.underlying25 ti3 rfl hl_wq5_1_2 rfl (rdl_some h153).1 (rdl_some h153).2.1) ?_
                                refine F.ef0 rfl rfl (wanted_none rfl) (d_storeE (i := 5) (x1 := t152_1) ti3 rfl rfl rfl (rdl_some h153) rfl) ?_
                                rintro _ _ ⟨rfl, rfl⟩
                                refine F.nil ?_
                                cases hE_11
                                refine Nrm.only [4, 5] rfl ?_
                                refine Nrm.pick [0, 2, 3, 5, 4] rfl rfl ?_
                                exact hj_9 _ _ ⟨wq5_1_2, Tq5_1_2, (len_set hl_wq5_1_2), rfl, rfl⟩
                              exact T.stop
                            exact T.stop
                          · refine T.ef rfl rfl rfl (wanted_none rfl) (Makes.does (m_buildF (l := ([64, (-1), 63] : List (Int))) Try.underlying25 ti3 rfl rfl rfl rfl rfl)) (by rintro v151_3 _ ⟨S151_3, hl_v151_3, rfl⟩; exact upd rfl [2, 3, 4, 5] rfl rfl) ?_ ?_
                            · rintro v151_3 _ ⟨S151_3, hl_v151_3, rfl⟩
                              refine T.ef rfl rfl rfl (wanted_none rfl) (d_callM (xs := _) (cs := [R.box pa0 100 [va0_0, .int .i64 t99_2, .int .u64 t99_3]]) (rest := [R.sl S151_3 v151_3 (([64, (-1), 63] : List (Int)) : List (Int)), R.box b5_1 27 [.int .i64 a1, wq5_1_1r, wq5_1_2], R.box b4_1 27 [.int .i64 0, .slice none 0 0, .slice none 0 0], R.sl Tq5_1_1r wq5_1_1r (xq5_1_1r : List (Int × Int × Int)), R.sl Tq5_1_2 wq5_1_2 (xq5_1_2 : List (Int))]) [1] [0, 2, 3, 4, 5] rfl ok95 rfl rfl rfl rfl (fun w hw => spec_l1Cur_pick.ok h149 w (hr_a0_0.down hw) (Sep.sub hw))) (by rintro _ _ ⟨_, ⟨rfl, rfl⟩, rfl⟩; exact upd rfl [2, 3, 4, 5] rfl rfl) ?_ ?_
                              · rintro _ _ ⟨_, ⟨rfl, rfl⟩, rfl⟩
                                refine T.ef rfl rfl rfl (wanted_none rfl) (d_callM (xs := _) (cs := [R.box pa0 100 [va0_0, .int .i64 t149_2, .int .u64 t149_3]]) (rest := [R.sl S151_3 v151_3 (([64, (-1), 63] : List (Int)) : List (Int)), R.box b5_1 27 [.int .i64 a1, wq5_1_1r, wq5_1_2], R.box b4_1 27 [.int .i64 0, .slice none 0 0, .slice none 0 0], R.sl Tq5_1_1r wq5_1_1r (xq5_1_1r : List (Int × Int × Int)), R.sl Tq5_1_2 wq5_1_2 (xq5_1_2 : List (Int))]) [0] [1, 2, 3, 4, 5] rfl ok96 rfl rfl rfl rfl (fun w hw => spec_l1Cur_among.ok h152 w (hr_a0_0.down hw) (rdm_sl (i := 0) rfl hw) (Sep.sub hw))) (by rintro _ _ ⟨_, ⟨rfl, rfl⟩, rfl⟩; exact upd rfl [2, 3, 4, 5] rfl rfl) ?_ ?_
                                · rintro _ _ ⟨_, ⟨rfl, rfl⟩, rfl⟩
                                  refine T.nil ?_
                                  refine F.q rfl rfl rfl (wanted_none rfl) (r_indexAddrS Try.underlying25 ti3 rfl hl_wq5_1_2 rfl (rdl_some h153).1 (rdl_some h153).2.1) ?_
                                  refine F.ef0 rfl rfl (wanted_none rfl) (d_storeE (i := 5) (x1 := t152_1) ti3 rfl rfl rfl (rdl_some h153) rfl) ?_
                                  rintro _ _ ⟨rfl, rfl⟩
                                  refine F.nil ?_
                                  cases hE_11
                                  refine Nrm.only [4, 5] rfl ?_
                                  refine Nrm.pick [0, 2, 3, 5, 4] rfl rfl ?_
                                  exact hj_9 _ _ ⟨wq5_1_2, Tq5_1_2, (len_set hl_wq5_1_2), rfl, rfl⟩
                                exact T.stop
                              exact T.stop
                            exact T.stop
                      · replace hE_10 := if_ff g_11 hE_10
                        refine Tri.skip ?_
                        cases hE_10
                        refine Nrm.only [4, 5] rfl ?_
                        refine Nrm.pick [0, 1, 2, 4, 3] rfl rfl ?_
                        exact hj_8 _ _ ⟨wq5_1_2, Tq5_1_2, hl_wq5_1_2, rfl, rfl⟩
                  · replace h := if_ff g_10 h
                    refine Tri.seq ?_
                    refine Tri.reg (l := [0, 1]) rfl ?_
                    refine F.q rfl rfl rfl (wanted_none rfl) (r_eql rfl rfl) ?_
                    refine F.q rfl rfl rfl (wanted_none rfl) (r_assign rfl) ?_
                    refine F.nil ?_
                    refine Nrm.seq ?_
                    refine Tri.cond (b := t99_1 == 3) rfl (fun g_12 => ?_) (fun g_12 => ?_)
                    · replace h := if_tt g_12 h
                      refine Tri.seq ?_
                      refine Tri.reg (l := [0, 1, 2, 3]) rfl ?_
                      refine F.q rfl rfl rfl (wanted_none rfl) (r_fieldAddr tf27_1 rfl) ?_
                      refine F.q rfl rfl rfl (wanted_none rfl) (r_load ta24 rfl (fun w hw => cell_1 (box_cells (i := 1) rfl w hw) rfl)) ?_
                      refine F.q rfl rfl rfl (wanted_none rfl) (r_len Try.underlying24 rfl hl_wq5_1_1r) ?_
                      refine F.q rfl rfl rfl (wanted_none rfl) (r_gtr rfl rfl) ?_
                      refine F.nil ?_
                      refine Nrm.seq ?_
                      obtain ⟨yb5_1_1rrr, hE_12, h⟩ := bind_some h
                      refine Tri.cut (fun e' C' => ∃ (vb5_1_1_4 : Value) (Sb5_1_1_4 : Nat → Prop), SlLen vb5_1_1_4 (yb5_1_1rrr).length ∧ e' = [(4, .pointer (some ⟨b4_1, 0, none⟩)), (5, .pointer (some ⟨b5_1, 0, none⟩))] ∧ C' = Sep w (footM [R.box pa0 100 [va0_0, .int .i64 a0_1, .int .u64 a0_2]]) [R.box pa0 100 [va0_0, .int .i64 t99_2, .int .u64 t99_3], R.box b5_1 27 [.int .i64 a1, vb5_1_1_4, wq5_1_2], R.box b4_1 27 [.int .i64 0, .slice none 0 0, .slice none 0 0], R.sl Sb5_1_1_4 vb5_1_1_4 (yb5_1_1rrr : List (Int × Int × Int)), R.sl Tq5_1_2 wq5_1_2 (xq5_1_2 : List (Int))]) ?_ (fun hj_10 => ?_)
                      · rintro _ _ ⟨vb5_1_1_4, Sb5_1_1_4, hl_vb5_1_1_4, rfl, rfl⟩
                        refine Nrm.block ?_
                        refine Nrm.seq ?_
                        refine Tri.seq ?_
                        refine Tri.reg (l := [0, 1]) rfl ?_
                        refine F.q rfl rfl rfl (wanted_none rfl) (r_loadA ta27 ti27 rfl rfl (fun w hw => (box_cells (i := 1) rfl w hw))) ?_
                        refine F.ef0 rfl rfl (wanted_none rfl) (d_storeG0 (i := 2) (cs2 := [.int .i64 a1, vb5_1_1_4, wq5_1_2]) ti27 rfl rfl rfl rfl rfl (Nat.le_of_ble_eq_true rfl) (lf_cons rfl (lf_cons (sl_leaf hl_vb5_1_1_4) (lf_cons (sl_leaf hl_wq5_1_2) lf_nil)))) ?_
                        rintro _ _ ⟨rfl, rfl⟩
                        refine F.nil ?_
                        refine Nrm.seq ?_
                        refine Tri.ret ?_
                        cases h
                        exact Rtn.body (.cell rfl ta27 ti27 rfl (fun _ hw => box_cells (i := 2) rfl _ hw) .nil) (fun w hw => ⟨_, _, rfl, ⟨vb5_1_1_4, Sb5_1_1_4, wq5_1_2, Tq5_1_2, rfl, hl_vb5_1_1_4, hl_wq5_1_2, rfl⟩, Sep.pick (is := [3, 4, 0]) rfl rfl hw⟩)
                      · refine Tri.cond (b := decide ((xq5_1_1r.length : Int) > 0)) rfl (fun g_13 => ?_) (fun g_13 => ?_)
                        · replace hE_12 := if_tt g_13 hE_12
                          obtain ⟨t164, h164, hE_12⟩ := bind_some hE_12
                          obtain ⟨hs167, hE_12⟩ := ck hE_12
                          refine Tri.drawA mixedT Sep.up [(0, true), (1, true), (2, true), (3, true), (4, true), (5, true), (6, false)] [7, 8, 9] (by kernel_rfl) ?_
                          refine S.q rfl rfl rfl (wanted_none rfl) (r_fieldAddr tf27_1 rfl) ?_
                          refine S.q rfl rfl rfl (wanted_none rfl) (r_load ta24 rfl (fun w hw => cell_1 (box_cells (i := 1) rfl w hw) rfl)) ?_
                          refine S.q rfl rfl rfl (wanted_none rfl) (r_fieldAddr tf27_1 rfl) ?_
                          refine S.q rfl rfl rfl (wanted_none rfl) (r_load ta24 rfl (fun w hw => cell_1 (box_cells (i := 1) rfl w hw) rfl)) ?_
                          refine S.q rfl rfl rfl (wanted_none rfl) (r_indexAddrS Try.underlying24 ti121 rfl hl_wq5_1_1r rfl (rdl_some h164).1 (rdl_some h164).2.1) ?_
                          refine S.q rfl rfl rfl (wanted_none rfl) (r_loadA ta121 ti121 rfl rfl (fun w hw => (Rd.flat ((rd_sl (i := 3) rfl) w hw) (rdl_some h164).2.2))) ?_
                          refine S.m rfl rfl rfl (wanted_none rfl) (m_buildF (l := ([t164] : List (Int × Int × Int))) Try.underlying24 ti121 rfl rfl rfl rfl rfl) ?_
                          rintro v166_2 _ ⟨S166_2, hl_v166_2, rfl⟩
                          refine S.nil ?_
                          refine F.ef rfl rfl rfl (wanted_none rfl) (d_append (i := 4) Try.underlying24 Try.underlying24 ti121 rfl (by decide) rfl rfl rfl (rd_sl (i := 0) rfl) hs167) ?_
                          rintro v167_2 _ ⟨S167_2, rfl, hl_v167_2⟩
                          refine F.q rfl rfl rfl (wanted_none rfl) (r_fieldAddr tf27_1 rfl) ?_
                          refine F.ef0 rfl rfl (wanted_none rfl) (d_storeG1 (i := 2) (cs2 := [v167_2]) ti24 rfl rfl rfl (sl_cells hl_v167_2) rfl (Nat.le_of_ble_eq_true rfl) (lf_cons (sl_leaf hl_v167_2) lf_nil)) ?_
                          rintro _ _ ⟨rfl, rfl⟩
                          refine F.nil ?_
                          cases hE_12
                          refine Nrm.only [4, 5] rfl ?_
                          refine Nrm.pick [1, 2, 3, 4, 5] rfl rfl ?_
                          exact hj_10 _ _ ⟨v167_2, S167_2, hl_v167_2, rfl, rfl⟩
                        · replace hE_12 := if_ff g_13 hE_12
                          refine Tri.skip ?_
                          cases hE_12
                          refine Nrm.only [4, 5] rfl ?_
                          refine Nrm.pick [0, 1, 2, 3, 4] rfl rfl ?_
                          exact hj_10 _ _ ⟨wq5_1_1r, Tq5_1_1r, hl_wq5_1_1r, rfl, rfl⟩
                    · replace h := if_ff g_12 h
                      refine Tri.seq ?_
                      refine Tri.reg (l := [0, 1]) rfl ?_
                      refine F.q rfl rfl rfl (wanted_none rfl) (r_eql rfl rfl) ?_
                      refine F.q rfl rfl rfl (wanted_none rfl) (r_assign rfl) ?_
                      refine F.nil ?_
                      refine Nrm.seq ?_
                      refine Tri.cond (b := t99_1 == 4) rfl (fun g_14 => ?_) (fun g_14 => ?_)
                      · replace h := if_tt g_14 h
                        refine Tri.seq ?_
                        refine Tri.reg (l := [0, 1]) rfl ?_
                        refine F.q rfl rfl rfl (wanted_none rfl) (r_build (pl := [(0, 1), (1, 1), (2, 1)]) (qs := []) (cs := [.int .i64 0, .slice none 0 0, .slice none 0 0]) (by kernel_rfl) ti27 rfl .nil rfl rfl) ?_
                        refine F.ef0 rfl rfl (wanted_none rfl) (d_storeG0 (i := 2) (cs2 := [.int .i64 0, .slice none 0 0, .slice none 0 0]) ti27 rfl rfl rfl rfl rfl (Nat.le_of_ble_eq_true rfl) (lf_cons rfl (lf_cons rfl (lf_cons rfl lf_nil)))) ?_
                        rintro _ _ ⟨rfl, rfl⟩
                        refine F.nil ?_
                        refine Nrm.seq ?_
                        refine Tri.ret ?_
                        refine Rtn.block ?_
                        refine Rtn.then ?_
                        cases h
                        exact Rtn.body (.cell rfl ta27 ti27 rfl (fun _ hw => box_cells (i := 2) rfl _ hw) .nil) (fun w hw => ⟨_, _, rfl, ⟨.slice none 0 0, fun _ => False, .slice none 0 0, fun _ => False, rfl, len_nil, len_nil, rfl⟩, Sep.pick (is := [0, 1, 2]) rfl rfl hw.pushNil.pushNil⟩)
                      · replace h := if_ff g_14 h
                        refine Tri.skip ?_
                        refine Nrm.block ?_
                        refine Nrm.seq ?_
                        refine Tri.seq ?_
                        refine Tri.reg (l := [0, 1]) rfl ?_
                        refine F.q rfl rfl rfl (wanted_none rfl) (r_loadA ta27 ti27 rfl rfl (fun w hw => (box_cells (i := 1) rfl w hw))) ?_
                        refine F.ef0 rfl rfl (wanted_none rfl) (d_storeG0 (i := 2) (cs2 := [.int .i64 a1, wq5_1_1r, wq5_1_2]) ti27 rfl rfl rfl rfl rfl (Nat.le_of_ble_eq_true rfl) (lf_cons rfl (lf_cons (sl_leaf hl_wq5_1_1r) (lf_cons (sl_leaf hl_wq5_1_2) lf_nil)))) ?_
                        rintro _ _ ⟨rfl, rfl⟩
                        refine F.nil ?_
                        refine Nrm.seq ?_
                        refine Tri.ret ?_
                        cases h
                        exact Rtn.body (.cell rfl ta27 ti27 rfl (fun _ hw => box_cells (i := 2) rfl _ hw) .nil) (fun w hw => ⟨_, _, rfl, ⟨wq5_1_1r, Tq5_1_1r, wq5_1_2, Tq5_1_2, rfl, hl_wq5_1_1r, hl_wq5_1_2, rfl⟩, Sep.pick (is := [3, 4, 0]) rfl rfl hw⟩)
          · rcases Bool.eq_false_or_eq_true (decide (x11 > 0)) with g70 | g70
            · replace hE_7 := if_tt g70 hE_7
              rcases Bool.eq_false_or_eq_true (decide (a1 > 1)) with g74 | g74
              · replace hE_7 := if_tt g74 hE_7
                refine Tri.reg (l := [0, 1, 2, 3, 4, 5, 6, 7, 8, 9]) rfl ?_
                refine F.q rfl rfl rfl (wanted_none rfl) (r_move rfl) ?_
                refine F.q rfl rfl rfl (wanted_none rfl) (r_gtr rfl rfl) ?_
                refine F.q rfl rfl rfl (wanted_none rfl) (r_move rfl) ?_
                refine F.q rfl rfl rfl (wg rfl rfl rfl g70) (r_move rfl) ?_
                refine F.q rfl rfl rfl (wg rfl rfl rfl g70) (r_gtr rfl rfl) ?_
                refine F.q rfl rfl rfl (wanted_none rfl) (r_pick rfl rfl g70) ?_
                refine F.q rfl rfl rfl (wanted_none rfl) (r_move rfl) ?_
                refine F.q rfl rfl rfl (wg rfl rfl rfl g74) (r_move rfl) ?_
                refine F.q rfl rfl rfl (wg rfl rfl rfl g74) (r_lss rfl rfl) ?_
                refine F.q rfl rfl rfl (wanted_none rfl) (r_pick rfl rfl g74) ?_
                refine F.nil ?_
                cases hE_7
                refine Nrm.only [0, 1, 4, 5, 6, 11, 77] rfl ?_
                refine Nrm.pick [0, 1, 2, 3, 4] rfl rfl ?_
                exact hj_5 _ _ ⟨rfl, rfl⟩
              · replace hE_7 := if_ff g74 hE_7
                refine Tri.reg (l := [0, 1, 2, 3, 4, 5, 6, 7, 8, 9]) rfl ?_
                refine F.q rfl rfl rfl (wanted_none rfl) (r_move rfl) ?_
                refine F.q rfl rfl rfl (wanted_none rfl) (r_gtr rfl rfl) ?_
                refine F.q rfl rfl rfl (wanted_none rfl) (r_move rfl) ?_
                refine F.q rfl rfl rfl (wg rfl rfl rfl g70) (r_move rfl) ?_
                refine F.q rfl rfl rfl (wg rfl rfl rfl g70) (r_gtr rfl rfl) ?_
                refine F.q rfl rfl rfl (wanted_none rfl) (r_pick rfl rfl g70) ?_
                refine F.q rfl rfl rfl (wanted_none rfl) (r_move rfl) ?_
                refine F.sk rfl rfl rfl (wf rfl rfl rfl g74) ?_
                refine F.sk rfl rfl rfl (wf rfl rfl rfl g74) ?_
                refine F.q rfl rfl rfl (wanted_none rfl) (r_pickf rfl rfl g74) ?_
                refine F.nil ?_
                cases hE_7
                refine Nrm.only [0, 1, 4, 5, 6, 11, 77] rfl ?_
                refine Nrm.pick [0, 1, 2, 3, 4] rfl rfl ?_
                exact hj_5 _ _ ⟨rfl, rfl⟩
            · replace hE_7 := if_ff g70 hE_7
              refine Tri.reg (l := [0, 1, 2, 3, 4, 5, 6, 7, 8, 9]) rfl ?_
              refine F.q rfl rfl rfl (wanted_none rfl) (r_move rfl) ?_
              refine F.q rfl rfl rfl (wanted_none rfl) (r_gtr rfl rfl) ?_
              refine F.q rfl rfl rfl (wanted_none rfl) (r_move rfl) ?_
              refine F.sk rfl rfl rfl (wf rfl rfl rfl g70) ?_
              refine F.sk rfl rfl rfl (wf rfl rfl rfl g70) ?_
              refine F.q rfl rfl rfl (wanted_none rfl) (r_pickf rfl rfl g70) ?_
              refine F.q rfl rfl rfl (wanted_none rfl) (r_move rfl) ?_
              refine F.sk rfl rfl rfl (wf rfl rfl rfl rfl) ?_
              refine F.sk rfl rfl rfl (wf rfl rfl rfl rfl) ?_
              refine F.q rfl rfl rfl (wanted_none rfl) (r_pickf rfl rfl rfl) ?_
              refine F.nil ?_
              cases hE_7
              refine Nrm.only [0, 1, 4, 5, 6, 11, 77] rfl ?_
              refine Nrm.pick [0, 1, 2, 3, 4] rfl rfl ?_
              exact hj_5 _ _ ⟨rfl, rfl⟩
    · rcases Bool.eq_false_or_eq_true (decide (x8 < a1)) with g25 | g25
      · replace hE_2 := if_tt g25 hE_2
        refine Tri.reg (l := [0, 1, 2, 3, 4, 5, 6]) rfl ?_
        refine F.q rfl rfl rfl (wanted_none rfl) (r_move rfl) ?_
        refine F.q rfl rfl rfl (wanted_none rfl) (r_move rfl) ?_
        refine F.q rfl rfl rfl (wanted_none rfl) (r_lss rfl rfl) ?_
        refine F.q rfl rfl rfl (wanted_none rfl) (r_move rfl) ?_
        refine F.q rfl rfl rfl (wg rfl rfl rfl g25) (r_move rfl) ?_
        refine F.q rfl rfl rfl (wg rfl rfl rfl g25) (r_lss rfl rfl) ?_
        refine F.q rfl rfl rfl (wanted_none rfl) (r_pick rfl rfl g25) ?_
        refine F.nil ?_
        cases hE_2
        refine Nrm.only [0, 1, 4, 5, 6, 7, 8, 28] rfl ?_
        refine Nrm.pick [0, 1, 2, 4, 3] rfl rfl ?_
        exact hj_1 _ _ ⟨rfl, rfl⟩
      · replace hE_2 := if_ff g25 hE_2
        refine Tri.reg (l := [0, 1, 2, 3, 4, 5, 6]) rfl ?_
        refine F.q rfl rfl rfl (wanted_none rfl) (r_move rfl) ?_
        refine F.q rfl rfl rfl (wanted_none rfl) (r_move rfl) ?_
        refine F.q rfl rfl rfl (wanted_none rfl) (r_lss rfl rfl) ?_
        refine F.q rfl rfl rfl (wanted_none rfl) (r_move rfl) ?_
        refine F.sk rfl rfl rfl (wf rfl rfl rfl g25) ?_
        refine F.sk rfl rfl rfl (wf rfl rfl rfl g25) ?_
        refine F.q rfl rfl rfl (wanted_none rfl) (r_pickf rfl rfl g25) ?_
        refine F.nil ?_
        cases hE_2
        refine Nrm.only [0, 1, 4, 5, 6, 7, 8, 28] rfl ?_
        refine Nrm.pick [0, 1, 2, 4, 3] rfl rfl ?_
        exact hj_1 _ _ ⟨rfl, rfl⟩

end Go.Proofs

/- (*loop.example/g01158/spec.l1Cur).fill9 -/
namespace Go.Proofs
open Go Go.Ga
set_option linter.unusedVariables false
set_option maxRecDepth 100000
set_option maxHeartbeats 4000000
def spec_l1Cur_fill9.l0 (k : Nat) (t11_2 : List (Int × Int × Int)) : Nat → Int → Int → Option (Int)
  | 0, _, _ => none
  | n + 1, x5, x6 => (if (decide (x6 < (t11_2.length : Int))) = true then (rdl t11_2 x6).bind fun t23 => spec_l1Cur_fill9.l0 k t11_2 n (bor x5 t23.2.2) (w64 (x6 + 1)) else some x5)

def spec_l1Cur_fill9.f (k : Nat) (a0_0 : List By) (a0_1 : Int) (a0_2 : Int) : Option (Int × (List (Int × Int × Int)) × (List Int) × Int × Int × Int) := (spec_l1Cur_among.f k a0_0 a0_1 a0_2 ([4, 5, 3, 6, 4, 2, 7, 1] : List (Int))).bind fun (t10_1, t10_2, t10_3) => (spec_l1Cur_someMaze.f k a0_0 t10_2 t10_3 t10_1).bind fun (t11_1, t11_2, t11_3, t11_4, t11_5) => (spec_l1Cur_fill9.l0 k t11_2 k 0 0).bind fun x5 => ((spec_l2Set.f k x5).bind fun t28 => (if t28 = true then (spec_l2Many.f k x5).bind fun t31 => (if (decide (t31 ≤ 3)) = true then (spec_l1Cur_one.f k a0_0 t11_4 t11_5 3).bind fun (t36_1, t36_2, t36_3) => some (!t36_1, t36_2, t36_3) else some (false, t11_4, t11_5)) else some (false, t11_4, t11_5))).bind fun (y38, ypa0_1, ypa0_2) => (if y38 = true then some (t11_1, t11_2, t11_3, x5, ypa0_1, ypa0_2) else (spec_l1Cur_one.f k a0_0 ypa0_1 ypa0_2 12).bind fun (t42_1, t42_2, t42_3) => (if t42_1 = true then (spec_l1Cur_colours.f k a0_0 t42_2 t42_3).bind fun (t45_1, t45_2, t45_3) => some (t11_1, t11_2, t11_3, t45_1, t45_2, t45_3) else (spec_l1Cur_among.f k a0_0 t42_2 t42_3 ([1, 3, 2, 5, 6, 7, 0] : List (Int))).bind fun (t49_1, t49_2, t49_3) => some (t11_1, t11_2, t11_3, t49_1, t49_2, t49_3)))

theorem spec_l1Cur_fill9.ok {k : Nat}  {a0_0 : List By} {a0_1 : Int} {a0_2 : Int} {r0 : Int} {r1 : List (Int × Int × Int)} {r2 : List Int} {r3 : Int} {r4 : Int} {r5 : Int} (h : spec_l1Cur_fill9.f k a0_0 a0_1 a0_2 = some (r0, r1, r2, r3, r4, r5)) (w : World) {pa0 : Nat} {va0_0 : Value} (hr_a0_0 : RdM w (footM [R.box pa0 100 [va0_0, .int .i64 a0_1, .int .u64 a0_2]]) va0_0 a0_0) (hw0 : Sep w (footM [R.box pa0 100 [va0_0, .int .i64 a0_1, .int .u64 a0_2]]) [R.box pa0 100 [va0_0, .int .i64 a0_1, .int .u64 a0_2]] w) :
    Calls Try.prog 86 ([.pointer (some ⟨pa0, 0, none⟩)] : List Value).toArray w (PostM (footM [R.box pa0 100 [va0_0, .int .i64 a0_1, .int .u64 a0_2]]) (fun u ns => ∃ (ur1 : Value) (Sr1 : Nat → Prop) (ur2 : Value) (Sr2 : Nat → Prop), u = .tuple #[.agg [.int .i64 r0, ur1, ur2].toArray, .int .i64 r3] ∧ SlLen ur1 r1.length ∧ SlLen ur2 r2.length ∧ ns = [R.sl Sr1 ur1 r1, R.sl Sr2 ur2 r2, R.box pa0 100 [va0_0, .int .i64 r4, .int .u64 r5]]) w) := by
  unfold spec_l1Cur_fill9.f at h
  have hl_va0_0 := hr_a0_0.len
  refine Calls.of_tri (N := 50) Try.func86 rfl rfl rfl hw0 ?_
  refine Tri.seq ?_
  refine Tri.reg (l := [0, 1]) rfl ?_
  refine F.m rfl rfl rfl (wanted_none rfl) (m_alloc ti27) ?_
  rintro _ _ ⟨b2_1, rfl, rfl⟩
  refine F.q rfl rfl rfl (wanted_none rfl) (r_assign rfl) ?_
  refine F.nil ?_
  refine Nrm.seq ?_
  refine Tri.seq ?_
  obtain ⟨⟨t10_1, t10_2, t10_3⟩, h10, h⟩ := bind_some h
  obtain ⟨⟨t11_1, t11_2, t11_3, t11_4, t11_5⟩, h11, h⟩ := bind_some h
  refine Tri.reg (l := [0, 1, 2, 3, 4, 5, 6]) rfl ?_
  refine F.q rfl rfl rfl (wanted_none rfl) (r_move rfl) ?_
  refine F.q rfl rfl rfl (wanted_none rfl) (r_move rfl) ?_
  refine F.m rfl rfl rfl (wanted_none rfl) (m_buildF (l := ([4, 5, 3, 6, 4, 2, 7, 1] : List (Int))) Try.underlying25 ti3 rfl rfl rfl rfl rfl) ?_
  rintro v9_1 _ ⟨S9_1, hl_v9_1, rfl⟩
  refine F.ef rfl rfl rfl (wanted_none rfl) (d_callM (xs := _) (cs := [R.box pa0 100 [va0_0, .int .i64 a0_1, .int .u64 a0_2]]) (rest := [R.sl S9_1 v9_1 (([4, 5, 3, 6, 4, 2, 7, 1] : List (Int)) : List (Int)), R.box b2_1 27 [.int .i64 0, .slice none 0 0, .slice none 0 0]]) [2] [0, 1] rfl ok96 rfl rfl rfl rfl (fun w hw => spec_l1Cur_among.ok h10 w (hr_a0_0.down hw) (rdm_sl (i := 0) rfl hw) (Sep.sub hw))) ?_
  rintro _ _ ⟨_, ⟨rfl, rfl⟩, rfl⟩
  refine F.ef rfl rfl rfl (wanted_none rfl) (d_callM (xs := _) (cs := [R.box pa0 100 [va0_0, .int .i64 t10_2, .int .u64 t10_3]]) (rest := [R.sl S9_1 v9_1 (([4, 5, 3, 6, 4, 2, 7, 1] : List (Int)) : List (Int)), R.box b2_1 27 [.int .i64 0, .slice none 0 0, .slice none 0 0]]) [0] [1, 2] rfl ok162 rfl rfl rfl rfl (fun w hw => spec_l1Cur_someMaze.ok h11 w (hr_a0_0.down hw) (Sep.sub hw))) ?_
  rintro _ _ ⟨_, ⟨v11_1, S11_1, v11_2, S11_2, rfl, hl_v11_1, hl_v11_2, rfl⟩, rfl⟩
  refine F.m rfl rfl rfl (wanted_none rfl) (m_alloc ti27) ?_
  rintro _ _ ⟨b4_1, rfl, rfl⟩
  refine F.ef0 rfl rfl (wanted_none rfl) (d_storeG0 (i := 0) (cs2 := [.int .i64 t11_1, v11_1, v11_2]) ti27 rfl rfl rfl rfl rfl (Nat.le_of_ble_eq_true rfl) (lf_cons rfl (lf_cons (sl_leaf hl_v11_1) (lf_cons (sl_leaf hl_v11_2) lf_nil)))) ?_
  rintro _ _ ⟨rfl, rfl⟩
  refine F.nil ?_
  refine Nrm.seq ?_
  refine Tri.seq ?_
  refine Tri.reg (l := [0]) rfl ?_
  refine F.q rfl rfl rfl (wanted_none rfl) (r_assign rfl) ?_
  refine F.nil ?_
  refine Nrm.seq ?_
  refine Tri.seq ?_
  refine Tri.seq ?_
  refine Tri.reg (l := [0]) rfl ?_
  refine F.q rfl rfl rfl (wanted_none rfl) (r_assign rfl) ?_
  refine F.nil ?_
  refine Nrm.seq ?_
  obtain ⟨x5, hE_1, h⟩ := bind_some h
  refine Tri.block ?_
  refine Tri.only [0, 2, 4, 5, 6] rfl ?_
  refine Tri.pick [0, 3, 5, 1, 2] rfl rfl ?_
  refine Tri.rounds (fun n e' C' => ∃ (x5' : Int) (x6' : Int), spec_l1Cur_fill9.l0 k t11_2 n x5' x6' = some x5 ∧ e' = [(0, .pointer (some ⟨pa0, 0, none⟩)), (2, .pointer (some ⟨b2_1, 0, none⟩)), (4, .pointer (some ⟨b4_1, 0, none⟩)), (5, .int .i64 x5'), (6, .int .i64 x6')] ∧ C' = Sep w (footM [R.box pa0 100 [va0_0, .int .i64 a0_1, .int .u64 a0_2]]) [R.box b4_1 27 [.int .i64 t11_1, v11_1, v11_2], R.box pa0 100 [va0_0, .int .i64 t11_4, .int .u64 t11_5], R.box b2_1 27 [.int .i64 0, .slice none 0 0, .slice none 0 0], R.sl S11_1 v11_1 (t11_2 : List (Int × Int × Int)), R.sl S11_2 v11_2 (t11_3 : List (Int))]) k ?_ ?_ ?_
  · exact ⟨0, 0, hE_1, rfl, rfl⟩
  · rintro _ _ ⟨_, _, hE_1, _⟩
    rw [spec_l1Cur_fill9.l0.eq_1] at hE_1; cases hE_1
  · rintro n_1 _ _ ⟨x5, x6, hE_1, rfl, rfl⟩ ih_1
    rw [spec_l1Cur_fill9.l0.eq_2] at hE_1
    refine Tri.seq ?_
    refine Tri.seq ?_
    refine Tri.reg (l := [0, 1, 2, 3, 4]) rfl ?_
    refine F.q rfl rfl rfl (wanted_none rfl) (r_move rfl) ?_
    refine F.q rfl rfl rfl (wanted_none rfl) (r_fieldAddr tf27_1 rfl) ?_
    refine F.q rfl rfl rfl (wanted_none rfl) (r_load ta24 rfl (fun w hw => cell_1 (box_cells (i := 0) rfl w hw) rfl)) ?_
    refine F.q rfl rfl rfl (wanted_none rfl) (r_len Try.underlying24 rfl hl_v11_1) ?_
    refine F.q rfl rfl rfl (wanted_none rfl) (r_lss rfl rfl) ?_
    refine F.nil ?_
    refine Nrm.seq ?_
    refine Tri.cond (b := decide (x6 < (t11_2.length : Int))) rfl (fun g_1 => ?_) (fun g_1 => ?_)
    · replace hE_1 := if_tt g_1 hE_1
      refine Tri.skip ?_
      refine Nrm.seq ?_
      refine Tri.seq ?_
      refine Tri.block ?_
      obtain ⟨t23, h23, hE_1⟩ := bind_some hE_1
      refine Tri.reg (l := [0, 1, 2, 3, 4, 5, 6, 7, 8]) rfl ?_
      refine F.q rfl rfl rfl (wanted_none rfl) (r_move rfl) ?_
      refine F.q rfl rfl rfl (wanted_none rfl) (r_fieldAddr tf27_1 rfl) ?_
      refine F.q rfl rfl rfl (wanted_none rfl) (r_load ta24 rfl (fun w hw => cell_1 (box_cells (i := 0) rfl w hw) rfl)) ?_
      refine F.q rfl rfl rfl (wanted_none rfl) (r_move rfl) ?_
      refine F.q rfl rfl rfl (wanted_none rfl) (r_indexAddrS Try.underlying24 ti121 rfl hl_v11_1 rfl (rdl_some h23).1 (rdl_some h23).2.1) ?_
      refine F.q rfl rfl rfl (wanted_none rfl) (r_indexAddrA Try.underlying121 ti3 rfl rfl (by decide) (by decide)) ?_
      refine F.q rfl rfl rfl (wanted_none rfl) (r_load ta3 rfl (fun w hw => cell_1 (Rd.flat ((rd_sl (i := 3) rfl) w hw) (rdl_some h23).2.2) rfl)) ?_
      refine F.q rfl rfl rfl (wanted_none rfl) (r_or rfl rfl) ?_
      refine F.q rfl rfl rfl (wanted_none rfl) (r_assign rfl) ?_
      refine F.nil ?_
      refine Nrm.block ?_
      refine Nrm.seq ?_
      refine Tri.reg (l := [0, 1, 2]) rfl ?_
      refine F.q rfl rfl rfl (wanted_none rfl) (r_move rfl) ?_
      refine F.q rfl rfl rfl (wanted_none rfl) (r_add rfl rfl) ?_
      refine F.q rfl rfl rfl (wanted_none rfl) (r_assign rfl) ?_
      refine F.nil ?_
      refine Nrm.round ?_
      refine Rnd.only [0, 2, 4, 5, 6] rfl ?_
      refine Rnd.pick [0, 1, 2, 3, 4] rfl rfl ?_
      exact ih_1 _ _ ⟨bor x5 t23.2.2, w64 (x6 + 1), hE_1, rfl, rfl⟩
    · replace hE_1 := if_ff g_1 hE_1
      refine Tri.exit ?_
      refine Exi.then ?_
      refine Exi.then ?_
      refine Exi.same ?_
      cases hE_1
      refine Nrm.seq ?_
      refine Tri.seq ?_
      refine Tri.seq ?_
      obtain ⟨⟨y38, ypa0_1, ypa0_2⟩, hE_2, h⟩ := bind_some h
      refine Tri.cut (fun e' C' => e' = [(0, .pointer (some ⟨pa0, 0, none⟩)), (2, .pointer (some ⟨b2_1, 0, none⟩)), (4, .pointer (some ⟨b4_1, 0, none⟩)), (5, .int .i64 x5), (38, .bool y38)] ∧ C' = Sep w (footM [R.box pa0 100 [va0_0, .int .i64 a0_1, .int .u64 a0_2]]) [R.box pa0 100 [va0_0, .int .i64 ypa0_1, .int .u64 ypa0_2], R.box b4_1 27 [.int .i64 t11_1, v11_1, v11_2], R.box b2_1 27 [.int .i64 0, .slice none 0 0, .slice none 0 0], R.sl S11_1 v11_1 (t11_2 : List (Int × Int × Int)), R.sl S11_2 v11_2 (t11_3 : List (Int))]) ?_ (fun hj_1 => ?_)
      · rintro _ _ ⟨rfl, rfl⟩
        refine Nrm.seq ?_
        refine Tri.cond (b := y38) rfl (fun g_2 => ?_) (fun g_2 => ?_)
        · replace h := if_tt g_2 h
          refine Tri.seq ?_
          refine Tri.reg (l := [0, 1, 2, 3]) rfl ?_
          refine F.q rfl rfl rfl (wanted_none rfl) (r_loadA ta27 ti27 rfl rfl (fun w hw => (box_cells (i := 1) rfl w hw))) ?_
          refine F.q rfl rfl rfl (wanted_none rfl) (r_move rfl) ?_
          refine F.ef0 rfl rfl (wanted_none rfl) (d_storeG0 (i := 2) (cs2 := [.int .i64 t11_1, v11_1, v11_2]) ti27 rfl rfl rfl rfl rfl (Nat.le_of_ble_eq_true rfl) (lf_cons rfl (lf_cons (sl_leaf hl_v11_1) (lf_cons (sl_leaf hl_v11_2) lf_nil)))) ?_
          rintro _ _ ⟨rfl, rfl⟩
          refine F.q rfl rfl rfl (wanted_none rfl) (r_assign rfl) ?_
          refine F.nil ?_
          refine Nrm.seq ?_
          refine Tri.ret ?_
          refine Rtn.then ?_
          cases h
          exact Rtn.body (.cell rfl ta27 ti27 rfl (fun _ hw => box_cells (i := 2) rfl _ hw) (.tmp rfl .nil)) (fun w hw => ⟨_, _, rfl, ⟨v11_1, S11_1, v11_2, S11_2, rfl, hl_v11_1, hl_v11_2, rfl⟩, Sep.pick (is := [3, 4, 0]) rfl rfl hw⟩)
        · replace h := if_ff g_2 h
          refine Tri.skip ?_
          refine Nrm.seq ?_
          refine Tri.seq ?_
          refine Tri.seq ?_
          obtain ⟨⟨t42_1, t42_2, t42_3⟩, h42, h⟩ := bind_some h
          refine Tri.reg (l := [0, 1]) rfl ?_
          refine F.q rfl rfl rfl (wanted_none rfl) (r_move rfl) ?_
          refine F.ef rfl rfl rfl (wanted_none rfl) (d_callM (xs := _) (cs := [R.box pa0 100 [va0_0, .int .i64 ypa0_1, .int .u64 ypa0_2]]) (rest := [R.box b4_1 27 [.int .i64 t11_1, v11_1, v11_2], R.box b2_1 27 [.int .i64 0, .slice none 0 0, .slice none 0 0], R.sl S11_1 v11_1 (t11_2 : List (Int × Int × Int)), R.sl S11_2 v11_2 (t11_3 : List (Int))]) [0] [1, 2, 3, 4] rfl ok93 rfl rfl rfl rfl (fun w hw => spec_l1Cur_one.ok h42 w (hr_a0_0.down hw) (Sep.sub hw))) ?_
          rintro _ _ ⟨_, ⟨rfl, rfl⟩, rfl⟩
          refine F.nil ?_
          refine Nrm.seq ?_
          refine Tri.cond (b := t42_1) rfl (fun g_3 => ?_) (fun g_3 => ?_)
          · replace h := if_tt g_3 h
            refine Tri.seq ?_
            obtain ⟨⟨t45_1, t45_2, t45_3⟩, h45, h⟩ := bind_some h
            refine Tri.drawK (B := Sep w (footM [R.box pa0 100 [va0_0, .int .i64 a0_1, .int .u64 a0_2]]) [R.box b4_1 27 [.int .i64 t11_1, v11_1, v11_2], R.box b2_1 27 [.int .i64 0, .slice none 0 0, .slice none 0 0], R.sl S11_1 v11_1 (t11_2 : List (Int × Int × Int)), R.sl S11_2 v11_2 (t11_3 : List (Int))]) mixedT Sep.up [(0, true), (1, true), (2, false)] [3, 4] (by kernel_rfl) ?_
            refine K.q [1, 2, 3, 4] rfl rfl rfl rfl rfl (wanted_none rfl) (r_loadA ta27 ti27 rfl rfl (fun w hw => (box_cells (i := 0) rfl w hw))) ?_
            refine K.q [1, 2, 3, 4] rfl rfl rfl rfl rfl (wanted_none rfl) (r_move rfl) ?_
            refine B.ef rfl rfl rfl (wanted_none rfl) (d_callM (xs := _) (cs := [R.box pa0 100 [va0_0, .int .i64 t42_2, .int .u64 t42_3]]) (rest := [R.box b4_1 27 [.int .i64 t11_1, v11_1, v11_2], R.box b2_1 27 [.int .i64 0, .slice none 0 0, .slice none 0 0], R.sl S11_1 v11_1 (t11_2 : List (Int × Int × Int)), R.sl S11_2 v11_2 (t11_3 : List (Int))]) [0] [1, 2, 3, 4] rfl ok134 rfl rfl rfl rfl (fun w hw => spec_l1Cur_colours.ok h45 w (hr_a0_0.down hw) (Sep.sub hw))) (by rintro _ _ ⟨_, ⟨rfl, rfl⟩, rfl⟩; exact upd rfl [1, 2, 3, 4] rfl rfl) ?_
            rintro _ _ ⟨_, ⟨rfl, rfl⟩, rfl⟩
            refine B.nil ?_
            refine F.ef0 rfl rfl (wanted_none rfl) (d_storeG0 (i := 2) (cs2 := [.int .i64 t11_1, v11_1, v11_2]) ti27 rfl rfl rfl rfl rfl (Nat.le_of_ble_eq_true rfl) (lf_cons rfl (lf_cons (sl_leaf hl_v11_1) (lf_cons (sl_leaf hl_v11_2) lf_nil)))) ?_
            rintro _ _ ⟨rfl, rfl⟩
            refine F.q rfl rfl rfl (wanted_none rfl) (r_assign rfl) ?_
            refine F.nil ?_
            refine Nrm.seq ?_
            refine Tri.ret ?_
            refine Rtn.then ?_
            cases h
            exact Rtn.body (.cell rfl ta27 ti27 rfl (fun _ hw => box_cells (i := 2) rfl _ hw) (.tmp rfl .nil)) (fun w hw => ⟨_, _, rfl, ⟨v11_1, S11_1, v11_2, S11_2, rfl, hl_v11_1, hl_v11_2, rfl⟩, Sep.pick (is := [3, 4, 0]) rfl rfl hw⟩)
          · replace h := if_ff g_3 h
            refine Tri.skip ?_
            refine Nrm.seq ?_
            refine Tri.seq ?_
            obtain ⟨⟨t49_1, t49_2, t49_3⟩, h49, h⟩ := bind_some h
            refine Tri.drawK (B := Sep w (footM [R.box pa0 100 [va0_0, .int .i64 a0_1, .int .u64 a0_2]]) [R.box b4_1 27 [.int .i64 t11_1, v11_1, v11_2], R.box b2_1 27 [.int .i64 0, .slice none 0 0, .slice none 0 0], R.sl S11_1 v11_1 (t11_2 : List (Int × Int × Int)), R.sl S11_2 v11_2 (t11_3 : List (Int))]) mixedT Sep.up [(0, true), (1, true), (2, false), (3, false)] [4, 5] (by kernel_rfl) ?_
            refine K.q [1, 2, 3, 4] rfl rfl rfl rfl rfl (wanted_none rfl) (r_loadA ta27 ti27 rfl rfl (fun w hw => (box_cells (i := 0) rfl w hw))) ?_
            refine K.q [1, 2, 3, 4] rfl rfl rfl rfl rfl (wanted_none rfl) (r_move rfl) ?_
            refine B.ef rfl rfl rfl (wanted_none rfl) (Makes.does (m_buildF (l := ([1, 3, 2, 5, 6, 7, 0] : List (Int))) Try.underlying25 ti3 rfl rfl rfl rfl rfl)) (by rintro v48_2 _ ⟨S48_2, hl_v48_2, rfl⟩; exact upd rfl [2, 3, 4, 5] rfl rfl) ?_
            rintro v48_2 _ ⟨S48_2, hl_v48_2, rfl⟩
            refine B.ef rfl rfl rfl (wanted_none rfl) (d_callM (xs := _) (cs := [R.box pa0 100 [va0_0, .int .i64 t42_2, .int .u64 t42_3]]) (rest := [R.sl S48_2 v48_2 (([1, 3, 2, 5, 6, 7, 0] : List (Int)) : List (Int)), R.box b4_1 27 [.int .i64 t11_1, v11_1, v11_2], R.box b2_1 27 [.int .i64 0, .slice none 0 0, .slice none 0 0], R.sl S11_1 v11_1 (t11_2 : List (Int × Int × Int)), R.sl S11_2 v11_2 (t11_3 : List (Int))]) [1] [0, 2, 3, 4, 5] rfl ok96 rfl rfl rfl rfl (fun w hw => spec_l1Cur_among.ok h49 w (hr_a0_0.down hw) (rdm_sl (i := 0) rfl hw) (Sep.sub hw))) (by rintro _ _ ⟨_, ⟨rfl, rfl⟩, rfl⟩; exact upd rfl [2, 3, 4, 5] rfl rfl) ?_
            rintro _ _ ⟨_, ⟨rfl, rfl⟩, rfl⟩
            refine B.nil ?_
            refine F.ef0 rfl rfl (wanted_none rfl) (d_storeG0 (i := 3) (cs2 := [.int .i64 t11_1, v11_1, v11_2]) ti27 rfl rfl rfl rfl rfl (Nat.le_of_ble_eq_true rfl) (lf_cons rfl (lf_cons (sl_leaf hl_v11_1) (lf_cons (sl_leaf hl_v11_2) lf_nil)))) ?_
            rintro _ _ ⟨rfl, rfl⟩
            refine F.q rfl rfl rfl (wanted_none rfl) (r_assign rfl) ?_
            refine F.nil ?_
            refine Nrm.seq ?_
            refine Tri.ret ?_
            cases h
            exact Rtn.body (.cell rfl ta27 ti27 rfl (fun _ hw => box_cells (i := 3) rfl _ hw) (.tmp rfl .nil)) (fun w hw => ⟨_, _, rfl, ⟨v11_1, S11_1, v11_2, S11_2, rfl, hl_v11_1, hl_v11_2, rfl⟩, Sep.pick (is := [4, 5, 0]) rfl rfl hw⟩)
      · obtain ⟨t28, h28, hE_2⟩ := bind_some hE_2
        rcases Bool.eq_false_or_eq_true (t28) with g29 | g29
        · replace hE_2 := if_tt g29 hE_2
          obtain ⟨t31, h31, hE_2⟩ := bind_some hE_2
          rcases Bool.eq_false_or_eq_true (decide (t31 ≤ 3)) with g34 | g34
          · replace hE_2 := if_tt g34 hE_2
            obtain ⟨⟨t36_1, t36_2, t36_3⟩, h36, hE_2⟩ := bind_some hE_2
            refine Tri.reg (l := [0, 1, 2, 3, 4, 5, 6, 7, 8, 9, 10, 11]) rfl ?_
            refine F.q rfl rfl rfl (wanted_none rfl) (r_move rfl) ?_
            refine F.qc rfl rfl rfl (wanted_none rfl) (q_callF (xs := _) rfl ok92 rfl rfl (fun w hw => spec_l2Set.ok h28 w )) ?_
            refine F.q rfl rfl rfl (wanted_none rfl) (r_move rfl) ?_
            refine F.q rfl rfl rfl (wg rfl rfl rfl g29) (r_move rfl) ?_
            refine F.qc rfl rfl rfl (wg rfl rfl rfl g29) (q_callF (xs := _) rfl ok119 rfl rfl (fun w hw => spec_l2Many.ok h31 w )) ?_
            refine F.q rfl rfl rfl (wg rfl rfl rfl g29) (r_leq rfl rfl) ?_
            refine F.q rfl rfl rfl (wanted_none rfl) (r_pick rfl rfl g29) ?_
            refine F.q rfl rfl rfl (wanted_none rfl) (r_move rfl) ?_
            refine F.q rfl rfl rfl (wg rfl rfl rfl g34) (r_move rfl) ?_
            refine F.ef rfl rfl rfl (wg rfl rfl rfl g34) (d_callM (xs := _) (cs := [R.box pa0 100 [va0_0, .int .i64 t11_4, .int .u64 t11_5]]) (rest := [R.box b4_1 27 [.int .i64 t11_1, v11_1, v11_2], R.box b2_1 27 [.int .i64 0, .slice none 0 0, .slice none 0 0], R.sl S11_1 v11_1 (t11_2 : List (Int × Int × Int)), R.sl S11_2 v11_2 (t11_3 : List (Int))]) [1] [0, 2, 3, 4] rfl ok93 rfl rfl rfl rfl (fun w hw => spec_l1Cur_one.ok h36 w (hr_a0_0.down hw) (Sep.sub hw))) ?_
            rintro _ _ ⟨_, ⟨rfl, rfl⟩, rfl⟩
            refine F.q rfl rfl rfl (wg rfl rfl rfl g34) (r_not rfl) ?_
            refine F.q rfl rfl rfl (wanted_none rfl) (r_pick rfl rfl g34) ?_
            refine F.nil ?_
            cases hE_2
            refine Nrm.only [0, 2, 4, 5, 38] rfl ?_
            refine Nrm.pick [0, 1, 2, 3, 4] rfl rfl ?_
            exact hj_1 _ _ ⟨rfl, rfl⟩
          · replace hE_2 := if_ff g34 hE_2
            refine Tri.reg (l := [0, 1, 2, 3, 4, 5, 6, 7, 8, 9, 10, 11]) rfl ?_
            refine F.q rfl rfl rfl (wanted_none rfl) (r_move rfl) ?_
            refine F.qc rfl rfl rfl (wanted_none rfl) (q_callF (xs := _) rfl ok92 rfl rfl (fun w hw => spec_l2Set.ok h28 w )) ?_
            refine F.q rfl rfl rfl (wanted_none rfl) (r_move rfl) ?_
            refine F.q rfl rfl rfl (wg rfl rfl rfl g29) (r_move rfl) ?_
            refine F.qc rfl rfl rfl (wg rfl rfl rfl g29) (q_callF (xs := _) rfl ok119 rfl rfl (fun w hw => spec_l2Many.ok h31 w )) ?_
            refine F.q rfl rfl rfl (wg rfl rfl rfl g29) (r_leq rfl rfl) ?_
            refine F.q rfl rfl rfl (wanted_none rfl) (r_pick rfl rfl g29) ?_
            refine F.q rfl rfl rfl (wanted_none rfl) (r_move rfl) ?_
            refine F.sk rfl rfl rfl (wf rfl rfl rfl g34) ?_
            refine F.sk rfl rfl rfl (wf rfl rfl rfl g34) ?_
            refine F.sk rfl rfl rfl (wf rfl rfl rfl g34) ?_
            refine F.q rfl rfl rfl (wanted_none rfl) (r_pickf rfl rfl g34) ?_
            refine F.nil ?_
            cases hE_2
            refine Nrm.only [0, 2, 4, 5, 38] rfl ?_
            refine Nrm.pick [1, 0, 2, 3, 4] rfl rfl ?_
            exact hj_1 _ _ ⟨rfl, rfl⟩
        · replace hE_2 := if_ff g29 hE_2
          refine Tri.reg (l := [0, 1, 2, 3, 4, 5, 6, 7, 8, 9, 10, 11]) rfl ?_
          refine F.q rfl rfl rfl (wanted_none rfl) (r_move rfl) ?_
          refine F.qc rfl rfl rfl (wanted_none rfl) (q_callF (xs := _) rfl ok92 rfl rfl (fun w hw => spec_l2Set.ok h28 w )) ?_
          refine F.q rfl rfl rfl (wanted_none rfl) (r_move rfl) ?_
          refine F.sk rfl rfl rfl (wf rfl rfl rfl g29) ?_
          refine F.sk rfl rfl rfl (wf rfl rfl rfl g29) ?_
          refine F.sk rfl rfl rfl (wf rfl rfl rfl g29) ?_
          refine F.q rfl rfl rfl (wanted_none rfl) (r_pickf rfl rfl g29) ?_
          refine F.q rfl rfl rfl (wanted_none rfl) (r_move rfl) ?_
          refine F.sk rfl rfl rfl (wf rfl rfl rfl rfl) ?_
          refine F.sk rfl rfl rfl (wf rfl rfl rfl rfl) ?_
          refine F.sk rfl rfl rfl (wf rfl rfl rfl rfl) ?_
          refine F.q rfl rfl rfl (wanted_none rfl) (r_pickf rfl rfl rfl) ?_
          refine F.nil ?_
          cases hE_2
          refine Nrm.only [0, 2, 4, 5, 38] rfl ?_
          refine Nrm.pick [1, 0, 2, 3, 4] rfl rfl ?_
          exact hj_1 _ _ ⟨rfl, rfl⟩

end Go.Proofs
